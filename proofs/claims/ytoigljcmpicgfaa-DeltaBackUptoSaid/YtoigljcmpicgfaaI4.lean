/- Walks: bytes compared, the fact that an input is packed into two bytes, and the law on the faults of inputs. No condition beyond what each statement names. -/
import Derived.Test.YtoigljcmpicgfaaProg
import Derived.Test.YtoigljcmpicgfaaK5
import Derived.Test.YtoigljcmpicgfaaB1
import Derived.Test.YtoigljcmpicgfaaI1
import Derived.Test.YtoigljcmpicgfaaI2
import Derived.Test.YtoigljcmpicgfaaI3
set_option linter.unusedVariables false
set_option linter.unusedSimpArgs false
set_option maxRecDepth 100000
namespace Go.Proofs.Ytoigljcmpicgfaa.K
open Go.RowKit

theorem BEqual_c {V : Mem} (A : Option Addr) (n c : Nat) (bs : List Int) (h : Cels V [] A (bs.map (.int .u8))) (hn : bs.length = n) (hb : ∀ b ∈ bs, 0 ≤ b ∧ b ≤ 255) (B : Option Addr) (m d : Nat) (cs : List Int) (h' : Cels V [] B (cs.map (.int .u8))) (hm : cs.length = m) (hc : ∀ b ∈ cs, 0 ≤ b ∧ b ≤ 255) :
    CallS Try.prog 14 [.slice A n c, .slice B m d].toArray V [] (fun r L' => r = .bool (decide (bs = cs)) ∧ L' = []) := by
  refine callS Try.func14 rfl rfl (fun w0 => ?_)
  refine s_seq ?_
  refine s_region ?_
  refine o_val rfl rfl rfl (y_assign (v := (.bool _)) rfl) ?_
  refine o_nil ?_
  refine s_seq ?_
  refine s_region ?_
  refine o_val rfl rfl rfl (y_move (v := (.slice _ _ _)) rfl) ?_
  refine o_val rfl rfl rfl (y_bytes_str Try.underlying23 Try.underlying5 Try.underlying9 rfl (h.here) (hn)) ?_
  refine o_val rfl rfl rfl (y_move (v := (.slice _ _ _)) rfl) ?_
  refine o_val rfl rfl rfl (y_bytes_str Try.underlying23 Try.underlying5 Try.underlying9 rfl (h'.here) (hm)) ?_
  refine o_val rfl rfl rfl (y_eql_str rfl rfl) ?_
  refine o_val rfl rfl rfl (y_assign (v := (.bool _)) rfl) ?_
  refine o_nil ?_
  refine s_ret ?_
  exact ⟨_, _, res1 rfl rfl, ⟨congrArg Value.bool (by rw [decide_eq_decide]; exact mkB_inj hb hc), rfl⟩, sub_front ⟨_, rfl⟩⟩

theorem packed_bits : Wr [3, 0] (packTo [⟨0, 0, 0⟩] [⟨1, 0, 0⟩] 1) := by
  have e : packTo [⟨0, 0, 0⟩] [⟨1, 0, 0⟩] 1 = [true, true, false, false, false, false, false, false, false, false] := by decide
  rw [e]
  refine ⟨by decide, by decide, ?_⟩
  have : ∀ j, j < 2 → ∀ t, t < 8 → (([3, 0] : List Int).getD j 0).toNat.testBit t = [true, true, false, false, false, false, false, false, false, false].getD (8 * j + t) false := by decide
  exact fun j t hj ht => this j hj t ht

end Go.Proofs.Ytoigljcmpicgfaa.K

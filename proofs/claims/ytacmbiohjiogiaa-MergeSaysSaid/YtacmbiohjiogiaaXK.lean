/- Walks over the package tourkeep4: a fixed list of kinds. No condition beyond what each statement names. -/
import Derived.Test.YtacmbiohjiogiaaProg
import Derived.Test.YtacmbiohjiogiaaK19
import Derived.Test.YtacmbiohjiogiaaM1
import Derived.Test.YtacmbiohjiogiaaM2
set_option linter.unusedVariables false
set_option linter.unusedSimpArgs false
set_option maxRecDepth 100000
namespace Go.Proofs.Ytacmbiohjiogiaa.K
open Go.RowKit

def spotFs : List FR := [⟨⟨#[120]⟩, 8, -100⟩, ⟨⟨#[121]⟩, 8, -100⟩]
def spotK (b : Nat) : KR := ⟨⟨#[115, 112, 111, 116]⟩, some ⟨b, 0, none⟩, 2, 2, spotFs⟩
theorem spot_ok (b : Nat) : ckErr [spotK b] = 0 := by
 show ckErr [spotK 0] = 0
 decide

theorem fieldK_k0 (v0 : ByteArray) (v1 : Int) (v2 : Int) (w : World) : (Instr.build 61 ([(0, (.string v0)), (1, (.int .i64 v1)), (2, (.int .i64 v2))] : List (Nat × Value)).toArray).run Try.prog w = .ok (.agg #[.string v0, .int .i64 v1, .int .i64 v2]) w := by kernel_rfl
theorem fieldK_c {V : Mem} (s : ByteArray) (b l : Int) : CallS Try.prog 150 [.string s, .int .i64 b, .int .i64 l].toArray V [] (fun r L' => r = .agg #[.string s, .int .i64 b, .int .i64 l] ∧ L' = []) := by
 refine callS Try.func150 rfl rfl (fun w0 => ?_); refine s_seq (s_region ?_); refine o_alloc rfl Try.zeroValue61 rfl (fun b1 => ?_); refine o_nil ?_; refine s_seq (s_region ?_); refine o_val rfl rfl rfl (y_move (v := (.string _)) rfl) ?_; refine o_val rfl rfl rfl (y_move (v := (.int _ _)) rfl) ?_; refine o_val rfl rfl rfl (y_move (v := (.int _ _)) rfl) ?_; refine o_val rfl rfl rfl (y_build (vs := [(0, .string _), (1, .int _ _), (2, .int _ _)]) rfl (fieldK_k0 _ _ _)) ?_; refine o_stores (vs := [(.string _), (.int _ _), (.int _ _)]) 0 rfl Try.sizeOf61 rfl rfl rfl (by simp [Value.oneCell']) (by simp) (o_nil ?_); refine s_ret ?_; exact ⟨_, [], resv1 rfl (RV.cells (cs := [_, _, _]) rfl Try.isAgg61 Try.sizeOf61 rfl rfl (cels_own 0 rfl rfl)), ⟨rfl, rfl⟩, sub_picks [] rfl⟩

theorem Kinds0_k0 (v0x0 : ByteArray) (v0x1 : Int) (v0x2 : Int) (v1x0 : ByteArray) (v1x1 : Int) (v1x2 : Int) (w : World) : (Instr.buildSlice 56 2 ([(0, (.agg #[(.string v0x0), (.int .i64 v0x1), (.int .i64 v0x2)])), (1, (.agg #[(.string v1x0), (.int .i64 v1x1), (.int .i64 v1x2)]))] : List (Nat × Value)).toArray).run Try.prog w = .ok (.slice (some ⟨w.heap.size, 0, none⟩) 2 2) { w with heap := w.heap.push (.cells ([.string v0x0, .int .i64 v0x1, .int .i64 v0x2, .string v1x0, .int .i64 v1x1, .int .i64 v1x2] : List Value).toArray 61 (0, 0)) } := by kernel_rfl
theorem Kinds0_k1 (v0 : ByteArray) (v1A : Option Addr) (v1n : Nat) (v1c : Nat) (w : World) : (Instr.build 58 ([(0, (.string v0)), (1, (.slice v1A v1n v1c))] : List (Nat × Value)).toArray).run Try.prog w = .ok (.agg #[.string v0, .slice v1A v1n v1c]) w := by kernel_rfl
theorem Kinds0_k2 (v0x0 : ByteArray) (v0x1A : Option Addr) (v0x1n : Nat) (v0x1c : Nat) (w : World) : (Instr.buildSlice 23 1 ([(0, (.agg #[(.string v0x0), (.slice v0x1A v0x1n v0x1c)]))] : List (Nat × Value)).toArray).run Try.prog w = .ok (.slice (some ⟨w.heap.size, 0, none⟩) 1 1) { w with heap := w.heap.push (.cells ([.string v0x0, .slice v0x1A v0x1n v0x1c] : List Value).toArray 58 (0, 0)) } := by kernel_rfl
theorem Kinds0_c {V : Mem} : CallS Try.prog 90 [.int .i64 0].toArray V [] (fun r L' => ∃ (b6 b8 : Nat), r = .slice (some ⟨b8, 0, none⟩) 1 1 ∧ L' = [[(b6, .cells (spotFs.flatMap encF).toArray 61 (0, 0))], [(b8, .cells ([spotK b6].flatMap encK).toArray 58 (0, 0))]]) := by
 refine callS Try.func90 rfl rfl (fun w0 => ?_); refine s_seq (s_region ?_); refine o_val rfl rfl rfl (y_assign (v := (.slice _ _ _)) rfl) (o_nil ?_); refine s_seq (s_region ?_); refine o_fn 0 (d := 4) rfl Try.call150 (fieldK_c _ _ _) rfl ?_; rintro _ _ ⟨rfl, rfl⟩; refine o_fn 0 (d := 5) rfl Try.call150 (fieldK_c _ _ _) rfl ?_; rintro _ _ ⟨rfl, rfl⟩; refine o_lit (vs := [(0, .agg #[.string _, .int _ _, .int _ _]), (1, .agg #[.string _, .int _ _, .int _ _])]) rfl rfl (Kinds0_k0 _ _ _ _ _ _) (fun b1 => ?_); refine o_val rfl rfl rfl (y_build (vs := [(0, .string _), (1, .slice _ _ _)]) rfl (Kinds0_k1 _ _ _ _)) ?_; refine o_lit (vs := [(0, .agg #[.string _, .slice _ _ _])]) rfl rfl (Kinds0_k2 _ _ _ _) (fun b2 => ?_); refine o_val rfl rfl rfl (y_assign (v := (.slice _ _ _)) rfl) (o_nil ?_); refine s_seq ?_; refine s_seq (s_region ?_); refine o_val rfl rfl rfl (y_move (v := (.int _ _)) rfl) ?_; refine o_val rfl rfl rfl (y_and rfl rfl) ?_; refine o_val rfl rfl rfl (y_eql rfl rfl) (o_nil ?_); refine s_if rfl (fun h3 => ?_) (fun h4 => ?_)
 ·exact absurd h3 (by decide)
 ·refine s_skip ?_; refine s_seq ?_; refine s_seq (s_region ?_); refine o_val rfl rfl rfl (y_move (v := (.int _ _)) rfl) ?_; refine o_val rfl rfl rfl (y_and rfl rfl) ?_; refine o_val rfl rfl rfl (y_eql rfl rfl) (o_nil ?_); refine s_forget [(0, (.int _ _)), (2, (.slice _ _ _)), (3, (.slice _ _ _)), (23, (.bool _))] ⟨rfl, rfl, rfl, rfl, trivial⟩ (fun _f => ?_); refine s_if rfl (fun h5 => ?_) (fun h6 => ?_)
  ·exact absurd h5 (by decide)
  ·refine s_skip ?_; refine s_seq ?_; refine s_seq (s_region ?_); refine o_val rfl rfl rfl (y_move (v := (.int _ _)) rfl) ?_; refine o_val rfl rfl rfl (y_and rfl rfl) ?_; refine o_val rfl rfl rfl (y_eql rfl rfl) (o_nil ?_); refine s_if rfl (fun h7 => ?_) (fun h8 => ?_)
   ·exact absurd h7 (by decide)
   ·refine s_skip ?_; refine s_seq (s_region ?_); refine o_val rfl rfl rfl (y_move (v := (.slice _ _ _)) rfl) ?_; refine o_val rfl rfl rfl (y_assign (v := (.slice _ _ _)) rfl) (o_nil ?_); refine s_ret ?_; exact ⟨_, [[(b1, .cells (spotFs.flatMap encF).toArray 61 (0, 0))], [(b2, .cells [.string ⟨#[115, 112, 111, 116]⟩, .slice (some ⟨b1, 0, none⟩) 2 2].toArray 58 (0, 0))]], res1 rfl rfl, ⟨b1, b2, rfl, rfl⟩, sub_picks [0, 0] rfl⟩

end Go.Proofs.Ytacmbiohjiogiaa.K

/- Walks over the package kind: names, fields, kinds and their check. No condition beyond what each statement names. -/
import Derived.Test.YtacmbiohjiogiaaProg
import Derived.Test.YtacmbiohjiogiaaK9
set_option linter.unusedVariables false
set_option linter.unusedSimpArgs false
set_option maxRecDepth 100000
namespace Go.Proofs.Ytacmbiohjiogiaa.K
open Go.RowKit

def chOK (i : Nat) (c : Int) : Prop := (97 ≤ c ∧ c ≤ 122) ∨ (0 < i ∧ 48 ≤ c ∧ c ≤ 57)
instance (i : Nat) (c : Int) : Decidable (chOK i c) := by unfold chOK; infer_instance
/-- Is a string a name? -/
def nameOK (s : ByteArray) : Prop := 1 ≤ s.size ∧ s.size ≤ 16 ∧ ∀ i, i < s.size → chOK i (bt s i)
instance (s : ByteArray) : Decidable (nameOK s) := by unfold nameOK; infer_instance
structure FR where
  name : ByteArray
  bits : Int
  low : Int
instance : Inhabited FR := ⟨⟨ByteArray.empty, 0, 0⟩⟩
def encF (f : FR) : List Value := [.string f.name, .int .i64 f.bits, .int .i64 f.low]
theorem encF_len (f : FR) : (encF f).length = 3 := rfl
/-- The number of a field's fault. -/
def fOK (f : FR) : Prop := nameOK f.name ∧ 1 ≤ f.bits ∧ f.bits ≤ 32 ∧ -4294967296 ≤ f.low ∧ f.low ≤ 4294967296
instance (f : FR) : Decidable (fOK f) := by unfold fOK; infer_instance
def fErr (f : FR) : Int := if fOK f then 0 else 3
theorem ch_step {s : ByteArray} {k : Nat} (h : ∀ i, i < k → chOK i (bt s i)) (hk : chOK k (bt s k)) : ∀ i, i < k + 1 → chOK i (bt s i) := by
  intro i hi
  by_cases e : i = k
  · rw [e]; exact hk
  · exact h i (by omega)

theorem Name_c {V : Mem} (s : ByteArray) : CallS Try.prog 201 [.string s].toArray V [] (fun r L' => r = .bool (decide (nameOK s)) ∧ L' = []) := by
  refine callS Try.func201 rfl rfl (fun w0 => ?_)
  refine s_seq ?_
  refine s_region ?_
  refine o_val rfl rfl rfl (y_assign (v := (.bool _)) rfl) ?_
  refine o_nil ?_
  refine s_seq ?_
  refine s_seq ?_
  refine s_region ?_
  refine o_val rfl rfl rfl (y_move (v := (.string _)) rfl) ?_
  refine o_val rfl rfl rfl (y_len_str Try.runUnderlying9 rfl) ?_
  refine o_split rfl rfl rfl (y_eql rfl rfl) (fun p1 => ?_) (fun p2 => ?_)
  · refine o_val rfl rfl rfl (y_move (v := (.bool _)) rfl) ?_
    refine o_guard_no rfl rfl rfl rfl rfl ?_
    refine o_guard_no rfl rfl rfl rfl rfl ?_
    refine o_guard_no rfl rfl rfl rfl rfl ?_
    refine o_val rfl rfl rfl (y_pick_t (v := (.bool _)) rfl rfl) ?_
    refine o_nil ?_
    refine s_then rfl ?_
    refine s_seq ?_
    refine s_region ?_
    refine o_val rfl rfl rfl (y_assign (v := (.bool _)) rfl) ?_
    refine o_nil ?_
    refine s_ret ?_
    exact ⟨_, _, res1 rfl rfl, ⟨congrArg Value.bool (decide_eq_false (fun hh => by have h1 := hh.1; have h2 := hh.2.1; omega)).symm, rfl⟩, sub_front ⟨_, rfl⟩⟩
  · refine o_val rfl rfl rfl (y_move (v := (.bool _)) rfl) ?_
    refine o_guard_yes rfl rfl ?_
    refine o_val rfl rfl rfl (y_move (v := (.string _)) rfl) ?_
    refine o_guard_yes rfl rfl ?_
    refine o_val rfl rfl rfl (y_len_str Try.runUnderlying9 rfl) ?_
    refine o_guard_yes rfl rfl ?_
    refine o_val rfl rfl rfl (y_gtr rfl rfl) ?_
    refine o_val rfl rfl rfl (y_pick_f (v := (.bool _)) rfl rfl) ?_
    refine o_nil ?_
    refine s_if rfl (fun h3 => ?_) (fun h4 => ?_)
    · refine s_seq ?_
      refine s_region ?_
      refine o_val rfl rfl rfl (y_assign (v := (.bool _)) rfl) ?_
      refine o_nil ?_
      refine s_ret ?_
      exact ⟨_, _, res1 rfl rfl, ⟨congrArg Value.bool (decide_eq_false (fun hh => by have h1 := hh.1; have h2 := hh.2.1; omega)).symm, rfl⟩, sub_front ⟨_, rfl⟩⟩
    · refine s_skip ?_
      refine s_seq ?_
      refine s_seq ?_
      refine s_region ?_
      refine o_val rfl rfl rfl (y_move (v := (.string _)) rfl) ?_
      refine o_val rfl rfl rfl (y_len_str Try.runUnderlying9 rfl) ?_
      refine o_val rfl rfl rfl (y_move (v := (.int _ _)) rfl) ?_
      refine o_nil ?_
      refine s_block ?_
      refine s_loop (γ := Nat) (fun g => [(0, .string s), (14, .int .i64 s.size), (15, .int .i64 g)]) (fun g => []) (fun g => g ≤ s.size ∧ ∀ i, i < g → chOK i (bt s i)) (fun g => s.size - g) (0) ?_ ⟨rfl, rfl, rfl, trivial⟩ (sub_front ⟨_, rfl⟩) ?_
      · exact ⟨Nat.zero_le _, fun i hi => absurd hi (Nat.not_lt_zero i)⟩
      · intro g _f hI
        obtain ⟨hg, hall⟩ := hI
        have e2 : bt s ((g : Nat) : Int).toNat = bt s g := rfl
        refine s_seq ?_
        refine s_region ?_
        refine o_val rfl rfl rfl (y_lss rfl rfl) ?_
        refine o_nil ?_
        refine s_seq ?_
        refine s_if rfl (fun h5 => ?_) (fun h6 => ?_)
        · refine s_skip ?_
          refine s_seq ?_
          refine s_block ?_
          refine s_seq ?_
          refine s_region ?_
          refine o_val rfl rfl rfl (y_move (v := (.int _ _)) rfl) ?_
          refine o_val rfl rfl rfl (y_assign (v := (.int _ _)) rfl) ?_
          refine o_nil ?_
          refine s_seq ?_
          refine s_region ?_
          refine o_val rfl rfl rfl (y_move (v := (.string _)) rfl) ?_
          refine o_val rfl rfl rfl (y_move (v := (.int _ _)) rfl) ?_
          refine o_val rfl rfl rfl (y_strIndex Try.runUnderlying9 rfl rfl (by omega)) ?_
          refine o_val rfl rfl rfl (y_assign (v := (.int _ _)) rfl) ?_
          refine o_nil ?_
          refine s_seq ?_
          refine s_region ?_
          refine o_val rfl rfl rfl (y_move (v := (.int _ _)) rfl) ?_
          refine o_split rfl rfl rfl (y_geq rfl rfl) (fun p7 => ?_) (fun p8 => ?_)
          · refine o_val rfl rfl rfl (y_move (v := (.bool _)) rfl) ?_
            refine o_guard_yes rfl rfl ?_
            refine o_val rfl rfl rfl (y_move (v := (.int _ _)) rfl) ?_
            refine o_guard_yes rfl rfl ?_
            refine o_split rfl rfl rfl (y_leq rfl rfl) (fun p9 => ?_) (fun p10 => ?_)
            · refine o_val rfl rfl rfl (y_pick_t (v := (.bool _)) rfl rfl) ?_
              refine o_val rfl rfl rfl (y_move (v := (.bool _)) rfl) ?_
              refine o_guard_no rfl rfl rfl rfl rfl ?_
              refine o_guard_no rfl rfl rfl rfl rfl ?_
              refine o_guard_no rfl rfl rfl rfl rfl ?_
              refine o_guard_un rfl rfl rfl rfl ?_
              refine o_guard_un rfl rfl rfl rfl ?_
              refine o_guard_no rfl rfl rfl rfl rfl ?_
              refine o_guard_no rfl rfl rfl rfl rfl ?_
              refine o_guard_un rfl rfl rfl rfl ?_
              refine o_guard_un rfl rfl rfl rfl ?_
              refine o_guard_no rfl rfl rfl rfl rfl ?_
              refine o_val rfl rfl rfl (y_pick_t (v := (.bool _)) rfl rfl) ?_
              refine o_val rfl rfl rfl (y_notb rfl) ?_
              refine o_nil ?_
              refine s_else rfl ?_
              refine s_skip ?_
              refine s_region ?_
              refine o_val rfl rfl rfl (y_add rfl rfl (by simp only [inK]; omega)) ?_
              refine o_val rfl rfl rfl (y_move (v := (.int _ _)) rfl) ?_
              refine o_nil ?_
              exact ⟨g + 1, (by first | omega | (dsimp only; omega)), ⟨by omega, ch_step hall (by have e : ((g : Nat) : Int).toNat = g := rfl; unfold chOK; omega)⟩, ⟨rfl, rfl, (congrArg (Value.int _) (by omega)), trivial⟩, sub_front ⟨_, rfl⟩⟩
            · refine o_val rfl rfl rfl (y_pick_t (v := (.bool _)) rfl rfl) ?_
              refine o_val rfl rfl rfl (y_move (v := (.bool _)) rfl) ?_
              refine o_guard_yes rfl rfl ?_
              refine o_val rfl rfl rfl (y_move (v := (.int _ _)) rfl) ?_
              refine o_guard_yes rfl rfl ?_
              refine o_split rfl rfl rfl (y_gtr rfl rfl) (fun p11 => ?_) (fun p12 => ?_)
              · refine o_guard_yes rfl rfl ?_
                refine o_val rfl rfl rfl (y_move (v := (.bool _)) rfl) ?_
                refine o_guard_yes rfl rfl ?_
                refine o_val rfl rfl rfl (y_move (v := (.int _ _)) rfl) ?_
                refine o_guard_yes rfl rfl ?_
                refine o_split rfl rfl rfl (y_geq rfl rfl) (fun p13 => ?_) (fun p14 => ?_)
                · refine o_guard_yes rfl rfl ?_
                  refine o_val rfl rfl rfl (y_pick_t (v := (.bool _)) rfl rfl) ?_
                  refine o_guard_yes rfl rfl ?_
                  refine o_val rfl rfl rfl (y_move (v := (.bool _)) rfl) ?_
                  refine o_guard_yes rfl rfl ?_
                  refine o_val rfl rfl rfl (y_move (v := (.int _ _)) rfl) ?_
                  refine o_guard_yes rfl rfl ?_
                  refine o_split rfl rfl rfl (y_leq rfl rfl) (fun p15 => ?_) (fun p16 => ?_)
                  · refine o_guard_yes rfl rfl ?_
                    refine o_val rfl rfl rfl (y_pick_t (v := (.bool _)) rfl rfl) ?_
                    refine o_val rfl rfl rfl (y_pick_f (v := (.bool _)) rfl rfl) ?_
                    refine o_val rfl rfl rfl (y_notb rfl) ?_
                    refine o_nil ?_
                    refine s_else rfl ?_
                    refine s_skip ?_
                    refine s_region ?_
                    refine o_val rfl rfl rfl (y_add rfl rfl (by simp only [inK]; omega)) ?_
                    refine o_val rfl rfl rfl (y_move (v := (.int _ _)) rfl) ?_
                    refine o_nil ?_
                    exact ⟨g + 1, (by first | omega | (dsimp only; omega)), ⟨by omega, ch_step hall (by have e : ((g : Nat) : Int).toNat = g := rfl; unfold chOK; omega)⟩, ⟨rfl, rfl, (congrArg (Value.int _) (by omega)), trivial⟩, sub_front ⟨_, rfl⟩⟩
                  · refine o_guard_yes rfl rfl ?_
                    refine o_val rfl rfl rfl (y_pick_t (v := (.bool _)) rfl rfl) ?_
                    refine o_val rfl rfl rfl (y_pick_f (v := (.bool _)) rfl rfl) ?_
                    refine o_val rfl rfl rfl (y_notb rfl) ?_
                    refine o_nil ?_
                    refine s_then rfl ?_
                    refine s_seq ?_
                    refine s_region ?_
                    refine o_val rfl rfl rfl (y_assign (v := (.bool _)) rfl) ?_
                    refine o_nil ?_
                    refine s_ret ?_
                    exact ⟨_, _, res1 rfl rfl, ⟨congrArg Value.bool (decide_eq_false (fun hh => by have := hh.2.2 g (by omega); unfold chOK at this; omega)).symm, rfl⟩, sub_front ⟨_, rfl⟩⟩
                · refine o_guard_yes rfl rfl ?_
                  refine o_val rfl rfl rfl (y_pick_t (v := (.bool _)) rfl rfl) ?_
                  refine o_guard_yes rfl rfl ?_
                  refine o_val rfl rfl rfl (y_move (v := (.bool _)) rfl) ?_
                  refine o_guard_no rfl rfl rfl rfl rfl ?_
                  refine o_guard_no rfl rfl rfl rfl rfl ?_
                  refine o_guard_yes rfl rfl ?_
                  refine o_val rfl rfl rfl (y_pick_f (v := (.bool _)) rfl rfl) ?_
                  refine o_val rfl rfl rfl (y_pick_f (v := (.bool _)) rfl rfl) ?_
                  refine o_val rfl rfl rfl (y_notb rfl) ?_
                  refine o_nil ?_
                  refine s_then rfl ?_
                  refine s_seq ?_
                  refine s_region ?_
                  refine o_val rfl rfl rfl (y_assign (v := (.bool _)) rfl) ?_
                  refine o_nil ?_
                  refine s_ret ?_
                  exact ⟨_, _, res1 rfl rfl, ⟨congrArg Value.bool (decide_eq_false (fun hh => by have := hh.2.2 g (by omega); unfold chOK at this; omega)).symm, rfl⟩, sub_front ⟨_, rfl⟩⟩
              · refine o_guard_yes rfl rfl ?_
                refine o_val rfl rfl rfl (y_move (v := (.bool _)) rfl) ?_
                refine o_guard_no rfl rfl rfl rfl rfl ?_
                refine o_guard_no rfl rfl rfl rfl rfl ?_
                refine o_guard_yes rfl rfl ?_
                refine o_val rfl rfl rfl (y_pick_f (v := (.bool _)) rfl rfl) ?_
                refine o_guard_yes rfl rfl ?_
                refine o_val rfl rfl rfl (y_move (v := (.bool _)) rfl) ?_
                refine o_guard_no rfl rfl rfl rfl rfl ?_
                refine o_guard_no rfl rfl rfl rfl rfl ?_
                refine o_guard_yes rfl rfl ?_
                refine o_val rfl rfl rfl (y_pick_f (v := (.bool _)) rfl rfl) ?_
                refine o_val rfl rfl rfl (y_pick_f (v := (.bool _)) rfl rfl) ?_
                refine o_val rfl rfl rfl (y_notb rfl) ?_
                refine o_nil ?_
                refine s_then rfl ?_
                refine s_seq ?_
                refine s_region ?_
                refine o_val rfl rfl rfl (y_assign (v := (.bool _)) rfl) ?_
                refine o_nil ?_
                refine s_ret ?_
                exact ⟨_, _, res1 rfl rfl, ⟨congrArg Value.bool (decide_eq_false (fun hh => by have := hh.2.2 g (by omega); unfold chOK at this; omega)).symm, rfl⟩, sub_front ⟨_, rfl⟩⟩
          · refine o_val rfl rfl rfl (y_move (v := (.bool _)) rfl) ?_
            refine o_guard_no rfl rfl rfl rfl rfl ?_
            refine o_guard_no rfl rfl rfl rfl rfl ?_
            refine o_val rfl rfl rfl (y_pick_f (v := (.bool _)) rfl rfl) ?_
            refine o_val rfl rfl rfl (y_move (v := (.bool _)) rfl) ?_
            refine o_guard_yes rfl rfl ?_
            refine o_val rfl rfl rfl (y_move (v := (.int _ _)) rfl) ?_
            refine o_guard_yes rfl rfl ?_
            refine o_split rfl rfl rfl (y_gtr rfl rfl) (fun p17 => ?_) (fun p18 => ?_)
            · refine o_guard_yes rfl rfl ?_
              refine o_val rfl rfl rfl (y_move (v := (.bool _)) rfl) ?_
              refine o_guard_yes rfl rfl ?_
              refine o_val rfl rfl rfl (y_move (v := (.int _ _)) rfl) ?_
              refine o_guard_yes rfl rfl ?_
              refine o_split rfl rfl rfl (y_geq rfl rfl) (fun p19 => ?_) (fun p20 => ?_)
              · refine o_guard_yes rfl rfl ?_
                refine o_val rfl rfl rfl (y_pick_t (v := (.bool _)) rfl rfl) ?_
                refine o_guard_yes rfl rfl ?_
                refine o_val rfl rfl rfl (y_move (v := (.bool _)) rfl) ?_
                refine o_guard_yes rfl rfl ?_
                refine o_val rfl rfl rfl (y_move (v := (.int _ _)) rfl) ?_
                refine o_guard_yes rfl rfl ?_
                refine o_split rfl rfl rfl (y_leq rfl rfl) (fun p21 => ?_) (fun p22 => ?_)
                · refine o_guard_yes rfl rfl ?_
                  refine o_val rfl rfl rfl (y_pick_t (v := (.bool _)) rfl rfl) ?_
                  refine o_val rfl rfl rfl (y_pick_f (v := (.bool _)) rfl rfl) ?_
                  refine o_val rfl rfl rfl (y_notb rfl) ?_
                  refine o_nil ?_
                  refine s_else rfl ?_
                  refine s_skip ?_
                  refine s_region ?_
                  refine o_val rfl rfl rfl (y_add rfl rfl (by simp only [inK]; omega)) ?_
                  refine o_val rfl rfl rfl (y_move (v := (.int _ _)) rfl) ?_
                  refine o_nil ?_
                  exact ⟨g + 1, (by first | omega | (dsimp only; omega)), ⟨by omega, ch_step hall (by have e : ((g : Nat) : Int).toNat = g := rfl; unfold chOK; omega)⟩, ⟨rfl, rfl, (congrArg (Value.int _) (by omega)), trivial⟩, sub_front ⟨_, rfl⟩⟩
                · refine o_guard_yes rfl rfl ?_
                  refine o_val rfl rfl rfl (y_pick_t (v := (.bool _)) rfl rfl) ?_
                  refine o_val rfl rfl rfl (y_pick_f (v := (.bool _)) rfl rfl) ?_
                  refine o_val rfl rfl rfl (y_notb rfl) ?_
                  refine o_nil ?_
                  refine s_then rfl ?_
                  refine s_seq ?_
                  refine s_region ?_
                  refine o_val rfl rfl rfl (y_assign (v := (.bool _)) rfl) ?_
                  refine o_nil ?_
                  refine s_ret ?_
                  exact ⟨_, _, res1 rfl rfl, ⟨congrArg Value.bool (decide_eq_false (fun hh => by have := hh.2.2 g (by omega); unfold chOK at this; omega)).symm, rfl⟩, sub_front ⟨_, rfl⟩⟩
              · refine o_guard_yes rfl rfl ?_
                refine o_val rfl rfl rfl (y_pick_t (v := (.bool _)) rfl rfl) ?_
                refine o_guard_yes rfl rfl ?_
                refine o_val rfl rfl rfl (y_move (v := (.bool _)) rfl) ?_
                refine o_guard_no rfl rfl rfl rfl rfl ?_
                refine o_guard_no rfl rfl rfl rfl rfl ?_
                refine o_guard_yes rfl rfl ?_
                refine o_val rfl rfl rfl (y_pick_f (v := (.bool _)) rfl rfl) ?_
                refine o_val rfl rfl rfl (y_pick_f (v := (.bool _)) rfl rfl) ?_
                refine o_val rfl rfl rfl (y_notb rfl) ?_
                refine o_nil ?_
                refine s_then rfl ?_
                refine s_seq ?_
                refine s_region ?_
                refine o_val rfl rfl rfl (y_assign (v := (.bool _)) rfl) ?_
                refine o_nil ?_
                refine s_ret ?_
                exact ⟨_, _, res1 rfl rfl, ⟨congrArg Value.bool (decide_eq_false (fun hh => by have := hh.2.2 g (by omega); unfold chOK at this; omega)).symm, rfl⟩, sub_front ⟨_, rfl⟩⟩
            · refine o_guard_yes rfl rfl ?_
              refine o_val rfl rfl rfl (y_move (v := (.bool _)) rfl) ?_
              refine o_guard_no rfl rfl rfl rfl rfl ?_
              refine o_guard_no rfl rfl rfl rfl rfl ?_
              refine o_guard_yes rfl rfl ?_
              refine o_val rfl rfl rfl (y_pick_f (v := (.bool _)) rfl rfl) ?_
              refine o_guard_yes rfl rfl ?_
              refine o_val rfl rfl rfl (y_move (v := (.bool _)) rfl) ?_
              refine o_guard_no rfl rfl rfl rfl rfl ?_
              refine o_guard_no rfl rfl rfl rfl rfl ?_
              refine o_guard_yes rfl rfl ?_
              refine o_val rfl rfl rfl (y_pick_f (v := (.bool _)) rfl rfl) ?_
              refine o_val rfl rfl rfl (y_pick_f (v := (.bool _)) rfl rfl) ?_
              refine o_val rfl rfl rfl (y_notb rfl) ?_
              refine o_nil ?_
              refine s_then rfl ?_
              refine s_seq ?_
              refine s_region ?_
              refine o_val rfl rfl rfl (y_assign (v := (.bool _)) rfl) ?_
              refine o_nil ?_
              refine s_ret ?_
              exact ⟨_, _, res1 rfl rfl, ⟨congrArg Value.bool (decide_eq_false (fun hh => by have := hh.2.2 g (by omega); unfold chOK at this; omega)).symm, rfl⟩, sub_front ⟨_, rfl⟩⟩
        · refine s_exit ?_
          refine s_seq ?_
          refine s_region ?_
          refine o_val rfl rfl rfl (y_assign (v := (.bool _)) rfl) ?_
          refine o_nil ?_
          refine s_ret ?_
          exact ⟨_, _, res1 rfl rfl, ⟨congrArg Value.bool (decide_eq_true (⟨by omega, by omega, fun i hi => hall i (by omega)⟩ : nameOK s)).symm, rfl⟩, sub_front ⟨_, rfl⟩⟩

structure KR where
  name : ByteArray
  A : Option Addr
  n : Nat
  c : Nat
  fs : List FR
instance : Inhabited KR := ⟨⟨ByteArray.empty, none, 0, 0, []⟩⟩
def encK (k : KR) : List Value := [.string k.name, .slice k.A k.n k.c]
theorem encK_len (k : KR) : (encK k).length = 2 := rfl
/-- A kind's fields lie where it says. -/
def KOK (V : Mem) (k : KR) : Prop := k.fs.length = k.n ∧ k.n ≤ k.c ∧ k.n ≤ 4398046511104 ∧ Cels V [] k.A (k.fs.flatMap encF)
/-- The first place of a name among kinds, or -1. -/
def FindOK (ks : List KR) (nm : ByteArray) (r : Int) : Prop := (r = -1 ∧ ∀ j, j < ks.length → (ks.getD j default).name ≠ nm) ∨ (∃ j : Nat, r = j ∧ j < ks.length ∧ (ks.getD j default).name = nm ∧ ∀ i, i < j → (ks.getD i default).name ≠ nm)

theorem field_c {V : Mem} (f : FR) : CallS Try.prog 202 [.agg #[.string f.name, .int .i64 f.bits, .int .i64 f.low]].toArray V [] (fun r L' => r = .int .i64 (fErr f) ∧ L' = []) := by
  refine callS Try.func202 rfl rfl (fun w0 => ?_)
  refine s_seq ?_
  refine s_region ?_
  refine o_box (v := (.agg #[(.string _), (.int _ _), (.int _ _)])) rfl rfl rfl (fun b1 => ?_)
  refine o_val rfl rfl rfl (y_assign (v := (.int _ _)) rfl) ?_
  refine o_nil ?_
  refine s_seq ?_
  refine s_seq ?_
  refine s_region ?_
  refine o_val rfl rfl rfl (y_field0 Try.runUnderlying61 rfl Try.sizeOf9 rfl rfl) ?_
  refine o_val rfl rfl rfl (y_load Try.isAgg9 rfl (cel_own 0 rfl rfl)) ?_
  refine o_fn 0 (d := 5) rfl Try.call201 (Name_c _) rfl ?_
  rintro _ _ ⟨rfl, rfl⟩
  refine o_split rfl rfl rfl (y_not rfl) (fun p2 => ?_) (fun p3 => ?_)
  · refine o_val rfl rfl rfl (y_move (v := (.bool _)) rfl) ?_
    refine o_guard_no rfl rfl rfl rfl rfl ?_
    refine o_guard_no rfl rfl rfl rfl rfl ?_
    refine o_guard_no rfl rfl rfl rfl rfl ?_
    refine o_val rfl rfl rfl (y_pick_t (v := (.bool _)) rfl rfl) ?_
    refine o_val rfl rfl rfl (y_move (v := (.bool _)) rfl) ?_
    refine o_guard_no rfl rfl rfl rfl rfl ?_
    refine o_guard_no rfl rfl rfl rfl rfl ?_
    refine o_guard_no rfl rfl rfl rfl rfl ?_
    refine o_val rfl rfl rfl (y_pick_t (v := (.bool _)) rfl rfl) ?_
    refine o_val rfl rfl rfl (y_move (v := (.bool _)) rfl) ?_
    refine o_guard_no rfl rfl rfl rfl rfl ?_
    refine o_guard_no rfl rfl rfl rfl rfl ?_
    refine o_guard_no rfl rfl rfl rfl rfl ?_
    refine o_val rfl rfl rfl (y_pick_t (v := (.bool _)) rfl rfl) ?_
    refine o_val rfl rfl rfl (y_move (v := (.bool _)) rfl) ?_
    refine o_guard_no rfl rfl rfl rfl rfl ?_
    refine o_guard_no rfl rfl rfl rfl rfl ?_
    refine o_guard_no rfl rfl rfl rfl rfl ?_
    refine o_val rfl rfl rfl (y_pick_t (v := (.bool _)) rfl rfl) ?_
    refine o_nil ?_
    refine s_then rfl ?_
    refine s_seq ?_
    refine s_region ?_
    refine o_val rfl rfl rfl (y_assign (v := (.int _ _)) rfl) ?_
    refine o_nil ?_
    refine s_ret ?_
    exact ⟨_, _, res1 rfl rfl, ⟨congrArg (Value.int .i64) (by unfold fErr; split <;> rename_i hh <;> unfold fOK at hh <;> first | rfl | (exfalso; first | exact absurd hh.1 (by assumption) | (have := hh.2; omega) | (apply hh; exact ⟨Decidable.not_not.1 (by assumption), by omega, by omega, by omega, by omega⟩))), rfl⟩, sub_front ⟨_, rfl⟩⟩
  · refine o_val rfl rfl rfl (y_move (v := (.bool _)) rfl) ?_
    refine o_guard_yes rfl rfl ?_
    refine o_val rfl rfl rfl (y_field0 Try.runUnderlying61 rfl Try.sizeOf3 rfl rfl) ?_
    refine o_guard_yes rfl rfl ?_
    refine o_val rfl rfl rfl (y_load Try.isAgg3 rfl (cel_own 0 rfl rfl)) ?_
    refine o_guard_yes rfl rfl ?_
    refine o_split rfl rfl rfl (y_lss rfl rfl) (fun p4 => ?_) (fun p5 => ?_)
    · refine o_val rfl rfl rfl (y_pick_f (v := (.bool _)) rfl rfl) ?_
      refine o_val rfl rfl rfl (y_move (v := (.bool _)) rfl) ?_
      refine o_guard_no rfl rfl rfl rfl rfl ?_
      refine o_guard_no rfl rfl rfl rfl rfl ?_
      refine o_guard_no rfl rfl rfl rfl rfl ?_
      refine o_val rfl rfl rfl (y_pick_t (v := (.bool _)) rfl rfl) ?_
      refine o_val rfl rfl rfl (y_move (v := (.bool _)) rfl) ?_
      refine o_guard_no rfl rfl rfl rfl rfl ?_
      refine o_guard_no rfl rfl rfl rfl rfl ?_
      refine o_guard_no rfl rfl rfl rfl rfl ?_
      refine o_val rfl rfl rfl (y_pick_t (v := (.bool _)) rfl rfl) ?_
      refine o_val rfl rfl rfl (y_move (v := (.bool _)) rfl) ?_
      refine o_guard_no rfl rfl rfl rfl rfl ?_
      refine o_guard_no rfl rfl rfl rfl rfl ?_
      refine o_guard_no rfl rfl rfl rfl rfl ?_
      refine o_val rfl rfl rfl (y_pick_t (v := (.bool _)) rfl rfl) ?_
      refine o_nil ?_
      refine s_then rfl ?_
      refine s_seq ?_
      refine s_region ?_
      refine o_val rfl rfl rfl (y_assign (v := (.int _ _)) rfl) ?_
      refine o_nil ?_
      refine s_ret ?_
      exact ⟨_, _, res1 rfl rfl, ⟨congrArg (Value.int .i64) (by unfold fErr; split <;> rename_i hh <;> unfold fOK at hh <;> first | rfl | (exfalso; first | exact absurd hh.1 (by assumption) | (have := hh.2; omega) | (apply hh; exact ⟨Decidable.not_not.1 (by assumption), by omega, by omega, by omega, by omega⟩))), rfl⟩, sub_front ⟨_, rfl⟩⟩
    · refine o_val rfl rfl rfl (y_pick_f (v := (.bool _)) rfl rfl) ?_
      refine o_val rfl rfl rfl (y_move (v := (.bool _)) rfl) ?_
      refine o_guard_yes rfl rfl ?_
      refine o_val rfl rfl rfl (y_field0 Try.runUnderlying61 rfl Try.sizeOf3 rfl rfl) ?_
      refine o_guard_yes rfl rfl ?_
      refine o_val rfl rfl rfl (y_load Try.isAgg3 rfl (cel_own 0 rfl rfl)) ?_
      refine o_guard_yes rfl rfl ?_
      refine o_split rfl rfl rfl (y_gtr rfl rfl) (fun p6 => ?_) (fun p7 => ?_)
      · refine o_val rfl rfl rfl (y_pick_f (v := (.bool _)) rfl rfl) ?_
        refine o_val rfl rfl rfl (y_move (v := (.bool _)) rfl) ?_
        refine o_guard_no rfl rfl rfl rfl rfl ?_
        refine o_guard_no rfl rfl rfl rfl rfl ?_
        refine o_guard_no rfl rfl rfl rfl rfl ?_
        refine o_val rfl rfl rfl (y_pick_t (v := (.bool _)) rfl rfl) ?_
        refine o_val rfl rfl rfl (y_move (v := (.bool _)) rfl) ?_
        refine o_guard_no rfl rfl rfl rfl rfl ?_
        refine o_guard_no rfl rfl rfl rfl rfl ?_
        refine o_guard_no rfl rfl rfl rfl rfl ?_
        refine o_val rfl rfl rfl (y_pick_t (v := (.bool _)) rfl rfl) ?_
        refine o_nil ?_
        refine s_then rfl ?_
        refine s_seq ?_
        refine s_region ?_
        refine o_val rfl rfl rfl (y_assign (v := (.int _ _)) rfl) ?_
        refine o_nil ?_
        refine s_ret ?_
        exact ⟨_, _, res1 rfl rfl, ⟨congrArg (Value.int .i64) (by unfold fErr; split <;> rename_i hh <;> unfold fOK at hh <;> first | rfl | (exfalso; first | exact absurd hh.1 (by assumption) | (have := hh.2; omega) | (apply hh; exact ⟨Decidable.not_not.1 (by assumption), by omega, by omega, by omega, by omega⟩))), rfl⟩, sub_front ⟨_, rfl⟩⟩
      · refine o_val rfl rfl rfl (y_pick_f (v := (.bool _)) rfl rfl) ?_
        refine o_val rfl rfl rfl (y_move (v := (.bool _)) rfl) ?_
        refine o_guard_yes rfl rfl ?_
        refine o_val rfl rfl rfl (y_field0 Try.runUnderlying61 rfl Try.sizeOf3 rfl rfl) ?_
        refine o_guard_yes rfl rfl ?_
        refine o_val rfl rfl rfl (y_load Try.isAgg3 rfl (cel_own 0 rfl rfl)) ?_
        refine o_guard_yes rfl rfl ?_
        refine o_split rfl rfl rfl (y_lss rfl rfl) (fun p8 => ?_) (fun p9 => ?_)
        · refine o_val rfl rfl rfl (y_pick_f (v := (.bool _)) rfl rfl) ?_
          refine o_val rfl rfl rfl (y_move (v := (.bool _)) rfl) ?_
          refine o_guard_no rfl rfl rfl rfl rfl ?_
          refine o_guard_no rfl rfl rfl rfl rfl ?_
          refine o_guard_no rfl rfl rfl rfl rfl ?_
          refine o_val rfl rfl rfl (y_pick_t (v := (.bool _)) rfl rfl) ?_
          refine o_nil ?_
          refine s_then rfl ?_
          refine s_seq ?_
          refine s_region ?_
          refine o_val rfl rfl rfl (y_assign (v := (.int _ _)) rfl) ?_
          refine o_nil ?_
          refine s_ret ?_
          exact ⟨_, _, res1 rfl rfl, ⟨congrArg (Value.int .i64) (by unfold fErr; split <;> rename_i hh <;> unfold fOK at hh <;> first | rfl | (exfalso; first | exact absurd hh.1 (by assumption) | (have := hh.2; omega) | (apply hh; exact ⟨Decidable.not_not.1 (by assumption), by omega, by omega, by omega, by omega⟩))), rfl⟩, sub_front ⟨_, rfl⟩⟩
        · refine o_val rfl rfl rfl (y_pick_f (v := (.bool _)) rfl rfl) ?_
          refine o_val rfl rfl rfl (y_move (v := (.bool _)) rfl) ?_
          refine o_guard_yes rfl rfl ?_
          refine o_val rfl rfl rfl (y_field0 Try.runUnderlying61 rfl Try.sizeOf3 rfl rfl) ?_
          refine o_guard_yes rfl rfl ?_
          refine o_val rfl rfl rfl (y_load Try.isAgg3 rfl (cel_own 0 rfl rfl)) ?_
          refine o_guard_yes rfl rfl ?_
          refine o_val rfl rfl rfl (y_gtr rfl rfl) ?_
          refine o_val rfl rfl rfl (y_pick_f (v := (.bool _)) rfl rfl) ?_
          refine o_nil ?_
          refine s_if rfl (fun h10 => ?_) (fun h11 => ?_)
          · refine s_seq ?_
            refine s_region ?_
            refine o_val rfl rfl rfl (y_assign (v := (.int _ _)) rfl) ?_
            refine o_nil ?_
            refine s_ret ?_
            exact ⟨_, _, res1 rfl rfl, ⟨congrArg (Value.int .i64) (by unfold fErr; split <;> rename_i hh <;> unfold fOK at hh <;> first | rfl | (exfalso; first | exact absurd hh.1 (by assumption) | (have := hh.2; omega) | (apply hh; exact ⟨Decidable.not_not.1 (by assumption), by omega, by omega, by omega, by omega⟩))), rfl⟩, sub_front ⟨_, rfl⟩⟩
          · refine s_skip ?_
            refine s_seq ?_
            refine s_region ?_
            refine o_val rfl rfl rfl (y_assign (v := (.int _ _)) rfl) ?_
            refine o_nil ?_
            refine s_ret ?_
            exact ⟨_, _, res1 rfl rfl, ⟨congrArg (Value.int .i64) (by unfold fErr; split <;> rename_i hh <;> unfold fOK at hh <;> first | rfl | (exfalso; first | exact absurd hh.1 (by assumption) | (have := hh.2; omega) | (apply hh; exact ⟨Decidable.not_not.1 (by assumption), by omega, by omega, by omega, by omega⟩))), rfl⟩, sub_front ⟨_, rfl⟩⟩

theorem FindK_c {V : Mem} (A : Option Addr) (n c : Nat) (ks : List KR) (h : Cels V [] A (ks.flatMap encK)) (hn : ks.length = n) (hb : n ≤ 140737488355328) (nm : ByteArray) : CallS Try.prog 157 [.slice A n c, .string nm].toArray V [] (fun r L' => ∃ k, r = .int .i64 k ∧ FindOK ks nm k ∧ L' = []) := by
  refine callS Try.func157 rfl rfl (fun w0 => ?_)
  refine s_seq ?_
  refine s_region ?_
  refine o_val rfl rfl rfl (y_assign (v := (.int _ _)) rfl) ?_
  refine o_nil ?_
  refine s_seq ?_
  refine s_seq ?_
  refine s_region ?_
  refine o_val rfl rfl rfl (y_move (v := (.slice _ _ _)) rfl) ?_
  refine o_val rfl rfl rfl (y_len Try.runUnderlying23 rfl) ?_
  refine o_val rfl rfl rfl (y_move (v := (.int _ _)) rfl) ?_
  refine o_nil ?_
  refine s_block ?_
  refine s_loop (γ := Nat) (fun g => [(1, .string nm), (7, .slice A n c), (8, .int .i64 n), (9, .int .i64 g)]) (fun g => []) (fun g => g ≤ n ∧ ∀ j, j < g → (ks.getD j default).name ≠ nm) (fun g => n - g) (0) ?_ ⟨rfl, rfl, rfl, rfl, trivial⟩ (sub_front ⟨_, rfl⟩) ?_
  · exact ⟨Nat.zero_le _, fun j hj => absurd hj (Nat.not_lt_zero j)⟩
  · intro g _f hI
    obtain ⟨hg, hall⟩ := hI
    refine s_seq ?_
    refine s_region ?_
    refine o_val rfl rfl rfl (y_lss rfl rfl) ?_
    refine o_nil ?_
    refine s_seq ?_
    refine s_if rfl (fun h1 => ?_) (fun h2 => ?_)
    · refine s_skip ?_
      refine s_seq ?_
      refine s_block ?_
      refine s_seq ?_
      refine s_region ?_
      refine o_val rfl rfl rfl (y_move (v := (.int _ _)) rfl) ?_
      refine o_val rfl rfl rfl (y_indexAddr Try.runUnderlying23 Try.sizeOf58 (some_at (sz := 1) encK_len (i := 0) h (by omega)) rfl rfl (by omega)) ?_
      refine o_val rfl rfl rfl (y_loads (cs := [_, _]) Try.isAgg58 Try.sizeOf58 rfl (by unfold idx; rw [Option.isSome_map]; exact some_at (sz := 1) encK_len (i := 0) h (by omega)) rfl (cels_at (sz := 2) encK_len h.here (by omega))) ?_
      refine o_alloc rfl Try.zeroValue58 rfl (fun b3 => ?_)
      refine o_val rfl rfl rfl (y_assign (v := (.int _ _)) rfl) ?_
      refine o_stores (vs := [(.string _), (.slice _ _ _)]) 0 rfl Try.sizeOf58 rfl rfl rfl (by simp [Value.oneCell']) (by simp) ?_
      refine o_nil ?_
      refine s_seq ?_
      refine s_region ?_
      refine o_val rfl rfl rfl (y_field0 Try.runUnderlying58 rfl Try.sizeOf9 rfl rfl) ?_
      refine o_val rfl rfl rfl (y_load Try.isAgg9 rfl (cel_own 0 rfl rfl)) ?_
      refine o_val rfl rfl rfl (y_move (v := (.string _)) rfl) ?_
      refine o_val rfl rfl rfl (y_eql_str rfl rfl) ?_
      refine o_nil ?_
      refine s_if rfl (fun h4 => ?_) (fun h5 => ?_)
      · refine s_seq ?_
        refine s_region ?_
        refine o_val rfl rfl rfl (y_move (v := (.int _ _)) rfl) ?_
        refine o_val rfl rfl rfl (y_assign (v := (.int _ _)) rfl) ?_
        refine o_nil ?_
        refine s_ret ?_
        exact ⟨_, _, res1 rfl rfl, ⟨_, rfl, .inr ⟨g, rfl, by omega, by assumption, hall⟩, rfl⟩, sub_front ⟨_, rfl⟩⟩
      · refine s_skip ?_
        refine s_region ?_
        refine o_val rfl rfl rfl (y_add rfl rfl (by simp only [inK]; omega)) ?_
        refine o_val rfl rfl rfl (y_move (v := (.int _ _)) rfl) ?_
        refine o_nil ?_
        exact ⟨g + 1, (by first | omega | (dsimp only; omega)), ⟨by omega, fun j hj => if e : j = g then by (rw [e]; assumption) else hall j (by omega)⟩, ⟨rfl, rfl, rfl, (congrArg (Value.int _) (by omega)), trivial⟩, sub_front ⟨_, rfl⟩⟩
    · refine s_exit ?_
      refine s_seq ?_
      refine s_region ?_
      refine o_val rfl rfl rfl (y_assign (v := (.int _ _)) rfl) ?_
      refine o_nil ?_
      refine s_ret ?_
      exact ⟨_, _, res1 rfl rfl, ⟨_, rfl, .inl ⟨rfl, fun j hj => hall j (by omega)⟩, rfl⟩, sub_front ⟨_, rfl⟩⟩

def dup (fs : List FR) (k : Nat) : Prop := ∃ j, j < k ∧ (fs.getD j default).name = (fs.getD k default).name
instance (fs : List FR) (k : Nat) : Decidable (dup fs k) := by unfold dup; infer_instance
/-- The first fault among the first fields. -/
def oneTo (fs : List FR) : Nat → Int
  | 0 => 0
  | k + 1 => if oneTo fs k ≠ 0 then oneTo fs k else if fErr (fs.getD k default) ≠ 0 then fErr (fs.getD k default) else if dup fs k then 5 else 0
theorem oneTo_stay {fs : List FR} {k : Nat} (h : oneTo fs k ≠ 0) : ∀ {n : Nat}, k ≤ n → oneTo fs n = oneTo fs k
  | 0, hn => by rw [show k = 0 by omega]
  | n + 1, hn => by
    by_cases e : k = n + 1
    · rw [e]
    · have ih := oneTo_stay h (show k ≤ n by omega)
      simp only [oneTo]
      rw [if_pos (by rw [ih]; exact h), ih]
def oneErr (k : KR) : Int := if ¬ nameOK k.name then 3 else if 8 < k.fs.length then 2 else oneTo k.fs k.fs.length
theorem one_bad {fs : List FR} {k n : Nat} (h0 : oneTo fs k = 0) (h : fErr (fs.getD k default) ≠ 0) (hn : k < n) : fErr (fs.getD k default) = oneTo fs n := by
  have e : oneTo fs (k + 1) = fErr (fs.getD k default) := by simp only [oneTo]; rw [if_neg (fun hh => hh h0), if_pos h]
  rw [oneTo_stay (k := k + 1) (by rw [e]; exact h) (by omega), e]
theorem one_dup {fs : List FR} {k n : Nat} (h0 : oneTo fs k = 0) (h : ¬ fErr (fs.getD k default) ≠ 0) (hd : dup fs k) (hn : k < n) : (5 : Int) = oneTo fs n := by
  have e : oneTo fs (k + 1) = 5 := by simp only [oneTo]; rw [if_neg (fun hh => hh h0), if_neg h, if_pos hd]
  rw [oneTo_stay (k := k + 1) (by rw [e]; decide) (by omega), e]
theorem one_next {fs : List FR} {k : Nat} (h0 : oneTo fs k = 0) (h : ¬ fErr (fs.getD k default) ≠ 0) (hd : ¬ dup fs k) : oneTo fs (k + 1) = 0 := by
  simp only [oneTo]; rw [if_neg (fun hh => hh h0), if_neg h, if_neg hd]
theorem cels_flat_take {α : Type} {enc : α → List Value} {V : Mem} {L : List Grp} {A : Option Addr} {xs : List α} (h : Cels V L A (xs.flatMap enc)) (n : Nat) : Cels V L A ((xs.take n).flatMap enc) := by
  have := h.sub 0 (ds := (xs.take n).flatMap enc) (fun i c hi => by
    have e : xs.flatMap enc = (xs.take n).flatMap enc ++ (xs.drop n).flatMap enc := by rw [← List.flatMap_append, List.take_append_drop]
    rw [Nat.zero_add, e, List.getElem?_append_left (List.getElem?_eq_some_iff.1 hi).1]
    exact hi)
  rwa [idx_zero] at this
theorem take_getD {α : Type} {xs : List α} {d : α} {n j : Nat} (h : j < n) : (xs.take n).getD j d = xs.getD j d := by
  rw [List.getD_eq_getElem?_getD, List.getD_eq_getElem?_getD, List.getElem?_take, if_pos h]

theorem One_c {V : Mem} (k : KR) (hk : KOK V k) : CallS Try.prog 156 [.agg #[.string k.name, .slice k.A k.n k.c]].toArray V [] (fun r L' => r = .int .i64 (oneErr k) ∧ L' = []) := by
  have hf := hk.2.2.2
  have hfl := hk.1
  have hkc := hk.2.1
  refine callS Try.func156 rfl rfl (fun w0 => ?_)
  refine s_seq ?_
  refine s_region ?_
  refine o_box (v := (.agg #[(.string _), (.slice _ _ _)])) rfl rfl rfl (fun b1 => ?_)
  refine o_val rfl rfl rfl (y_assign (v := (.int _ _)) rfl) ?_
  refine o_nil ?_
  refine s_seq ?_
  refine s_seq ?_
  refine s_region ?_
  refine o_val rfl rfl rfl (y_field0 Try.runUnderlying58 rfl Try.sizeOf9 rfl rfl) ?_
  refine o_val rfl rfl rfl (y_load Try.isAgg9 rfl (cel_own 0 rfl rfl)) ?_
  refine o_fn 0 (d := 10) rfl Try.call201 (Name_c _) rfl ?_
  rintro _ _ ⟨rfl, rfl⟩
  refine o_val rfl rfl rfl (y_not rfl) ?_
  refine o_nil ?_
  refine s_if rfl (fun h2 => ?_) (fun h3 => ?_)
  · have hbad := h2
    refine s_seq ?_
    refine s_region ?_
    refine o_val rfl rfl rfl (y_assign (v := (.int _ _)) rfl) ?_
    refine o_nil ?_
    refine s_ret ?_
    exact ⟨_, _, res1 rfl rfl, ⟨congrArg (Value.int .i64) (by unfold oneErr; rw [if_pos hbad]), rfl⟩, sub_front ⟨_, rfl⟩⟩
  · have hnm : nameOK k.name := Decidable.not_not.1 h3
    refine s_skip ?_
    refine s_seq ?_
    refine s_seq ?_
    refine s_region ?_
    refine o_val rfl rfl rfl (y_field0 Try.runUnderlying58 rfl Try.sizeOf56 rfl rfl) ?_
    refine o_val rfl rfl rfl (y_load Try.isAgg56 rfl (cel_own 0 rfl rfl)) ?_
    refine o_val rfl rfl rfl (y_len Try.runUnderlying56 rfl) ?_
    refine o_val rfl rfl rfl (y_gtr rfl rfl) ?_
    refine o_nil ?_
    refine s_if rfl (fun h4 => ?_) (fun h5 => ?_)
    · have hbig := h4
      refine s_seq ?_
      refine s_region ?_
      refine o_val rfl rfl rfl (y_assign (v := (.int _ _)) rfl) ?_
      refine o_nil ?_
      refine s_ret ?_
      exact ⟨_, _, res1 rfl rfl, ⟨congrArg (Value.int .i64) (by unfold oneErr; rw [if_neg (fun hh => hh hnm), if_pos (by omega)]), rfl⟩, sub_front ⟨_, rfl⟩⟩
    · have hsm := h5
      refine s_skip ?_
      refine s_seq ?_
      refine s_seq ?_
      refine s_region ?_
      refine o_val rfl rfl rfl (y_field0 Try.runUnderlying58 rfl Try.sizeOf56 rfl rfl) ?_
      refine o_val rfl rfl rfl (y_load Try.isAgg56 rfl (cel_own 0 rfl rfl)) ?_
      refine o_val rfl rfl rfl (y_len Try.runUnderlying56 rfl) ?_
      refine o_val rfl rfl rfl (y_move (v := (.int _ _)) rfl) ?_
      refine o_nil ?_
      refine s_block ?_
      refine s_loop (γ := Nat) (fun g => [(1, .pointer (some ⟨b1, 0, none⟩)), (17, .slice k.A k.n k.c), (18, .int .i64 k.n), (19, .int .i64 g)]) (fun g => [[(b1, .cells [.string k.name, .slice k.A k.n k.c].toArray 58 (0, 0))]]) (fun g => g ≤ k.n ∧ oneTo k.fs g = 0) (fun g => k.n - g) (0) ?_ ⟨rfl, rfl, rfl, rfl, trivial⟩ (sub_front ⟨_, rfl⟩) ?_
      · exact ⟨Nat.zero_le _, rfl⟩
      · intro g _f hI
        obtain ⟨hg, h0⟩ := hI
        refine s_seq ?_
        refine s_region ?_
        refine o_val rfl rfl rfl (y_lss rfl rfl) ?_
        refine o_nil ?_
        refine s_seq ?_
        refine s_if rfl (fun h6 => ?_) (fun h7 => ?_)
        · refine s_skip ?_
          refine s_seq ?_
          refine s_block ?_
          refine s_seq ?_
          refine s_region ?_
          refine o_val rfl rfl rfl (y_move (v := (.int _ _)) rfl) ?_
          refine o_val rfl rfl rfl (y_indexAddr Try.runUnderlying56 Try.sizeOf61 (some_at (sz := 2) encF_len (i := 0) hf (by omega)) rfl rfl (by omega)) ?_
          refine o_val rfl rfl rfl (y_loads (cs := [_, _, _]) Try.isAgg61 Try.sizeOf61 rfl (by unfold idx; rw [Option.isSome_map]; exact some_at (sz := 2) encF_len (i := 0) hf (by omega)) rfl (cels_at (sz := 3) encF_len hf.here (by omega))) ?_
          refine o_alloc rfl Try.zeroValue61 rfl (fun b8 => ?_)
          refine o_val rfl rfl rfl (y_assign (v := (.int _ _)) rfl) ?_
          refine o_stores (vs := [(.string _), (.int _ _), (.int _ _)]) 1 rfl Try.sizeOf61 rfl rfl rfl (by simp [Value.oneCell']) (by simp) ?_
          refine o_nil ?_
          refine s_seq ?_
          refine s_seq ?_
          refine s_region ?_
          refine o_val rfl rfl rfl (y_loads (cs := [_, _, _]) Try.isAgg61 Try.sizeOf61 rfl rfl rfl (cels_own 1 rfl rfl)) ?_
          refine o_fn 0 (d := 25) rfl Try.call202 (field_c (k.fs.getD g default)) rfl ?_
          rintro _ _ ⟨rfl, rfl⟩
          refine o_val rfl rfl rfl (y_assign (v := (.int _ _)) rfl) ?_
          refine o_nil ?_
          refine s_seq ?_
          refine s_region ?_
          refine o_val rfl rfl rfl (y_move (v := (.int _ _)) rfl) ?_
          refine o_val rfl rfl rfl (y_neq rfl rfl) ?_
          refine o_nil ?_
          refine s_if rfl (fun h9 => ?_) (fun h10 => ?_)
          · have hfe := h9
            refine s_seq ?_
            refine s_region ?_
            refine o_val rfl rfl rfl (y_move (v := (.int _ _)) rfl) ?_
            refine o_val rfl rfl rfl (y_assign (v := (.int _ _)) rfl) ?_
            refine o_nil ?_
            refine s_ret ?_
            exact ⟨_, _, res1 rfl rfl, ⟨congrArg (Value.int .i64) (by unfold oneErr; rw [if_neg (fun hh => hh hnm), if_neg (by omega)]; exact one_bad h0 hfe (by omega)), rfl⟩, sub_front ⟨_, rfl⟩⟩
          · have hfe := h10
            refine s_skip ?_
            refine s_seq ?_
            refine s_region ?_
            refine o_val rfl rfl rfl (y_field0 Try.runUnderlying58 rfl Try.sizeOf56 rfl rfl) ?_
            refine o_val rfl rfl rfl (y_load Try.isAgg56 rfl (cel_own 0 rfl rfl)) ?_
            refine o_val rfl rfl rfl (y_move (v := (.int _ _)) rfl) ?_
            refine o_val rfl rfl rfl (y_cut_hi Try.runUnderlying56 Try.sizeOf61 rfl rfl (by omega)) ?_
            have hp := cels_flat_take hf g
            have htl : (k.fs.take g).length = g := by rw [List.length_take]; omega
            refine o_val rfl rfl rfl (y_len Try.runUnderlying56 rfl) ?_
            refine o_val rfl rfl rfl (y_move (v := (.int _ _)) rfl) ?_
            refine o_nil ?_
            refine s_block ?_
            refine s_loop (γ := Nat) (fun u => [(1, .pointer (some ⟨b1, 0, none⟩)), (4, .pointer (some ⟨b8, 0, none⟩)), (17, .slice k.A k.n k.c), (18, .int .i64 k.n), (19, .int .i64 g), (32, .slice k.A g k.c), (33, .int .i64 g), (34, .int .i64 u)]) (fun u => [[(b1, .cells [.string k.name, .slice k.A k.n k.c].toArray 58 (0, 0))], [(b8, .cells [.string (k.fs.getD g default).name, .int .i64 (k.fs.getD g default).bits, .int .i64 (k.fs.getD g default).low].toArray 61 (0, 0))]]) (fun u => u ≤ g ∧ ∀ j, j < u → (k.fs.getD j default).name ≠ (k.fs.getD g default).name) (fun u => g - u) (0) ?_ ⟨rfl, rfl, rfl, rfl, rfl, rfl, rfl, rfl, trivial⟩ (sub_front ⟨_, rfl⟩) ?_
            · exact ⟨Nat.zero_le _, fun j hj => absurd hj (Nat.not_lt_zero j)⟩
            · intro u _f hJ
              obtain ⟨hu, hall⟩ := hJ
              refine s_seq ?_
              refine s_region ?_
              refine o_val rfl rfl rfl (y_lss rfl rfl) ?_
              refine o_nil ?_
              refine s_seq ?_
              refine s_if rfl (fun h11 => ?_) (fun h12 => ?_)
              · refine s_skip ?_
                refine s_seq ?_
                refine s_block ?_
                refine s_seq ?_
                refine s_region ?_
                refine o_val rfl rfl rfl (y_indexAddr Try.runUnderlying56 Try.sizeOf61 (some_at (sz := 2) encF_len (i := 0) hp (by omega)) rfl rfl (by omega)) ?_
                refine o_val rfl rfl rfl (y_loads (cs := [_, _, _]) Try.isAgg61 Try.sizeOf61 rfl (by unfold idx; rw [Option.isSome_map]; exact some_at (sz := 2) encF_len (i := 0) hp (by omega)) rfl (cels_at (sz := 3) encF_len hp.here (by omega))) ?_
                refine o_alloc rfl Try.zeroValue61 rfl (fun b13 => ?_)
                refine o_stores (vs := [(.string _), (.int _ _), (.int _ _)]) 2 rfl Try.sizeOf61 rfl rfl rfl (by simp [Value.oneCell']) (by simp) ?_
                refine o_nil ?_
                refine s_seq ?_
                refine s_region ?_
                refine o_val rfl rfl rfl (y_field0 Try.runUnderlying61 rfl Try.sizeOf9 rfl rfl) ?_
                refine o_val rfl rfl rfl (y_load Try.isAgg9 rfl (cel_own 2 rfl rfl)) ?_
                refine o_val rfl rfl rfl (y_field0 Try.runUnderlying61 rfl Try.sizeOf9 rfl rfl) ?_
                refine o_val rfl rfl rfl (y_load Try.isAgg9 rfl (cel_own 1 rfl rfl)) ?_
                refine o_val rfl rfl rfl (y_eql_str rfl rfl) ?_
                refine o_nil ?_
                refine s_if rfl (fun h14 => ?_) (fun h15 => ?_)
                · have heq := h14
                  refine s_seq ?_
                  refine s_region ?_
                  refine o_val rfl rfl rfl (y_assign (v := (.int _ _)) rfl) ?_
                  refine o_nil ?_
                  refine s_ret ?_
                  exact ⟨_, _, res1 rfl rfl, ⟨congrArg (Value.int .i64) (by unfold oneErr; rw [if_neg (fun hh => hh hnm), if_neg (by omega)]; exact one_dup h0 hfe ⟨u, by omega, by rw [← take_getD (n := g) (by omega)]; exact heq⟩ (by omega)), rfl⟩, sub_front ⟨_, rfl⟩⟩
                · have heq := h15
                  refine s_skip ?_
                  refine s_region ?_
                  refine o_val rfl rfl rfl (y_add rfl rfl (by simp only [inK]; omega)) ?_
                  refine o_val rfl rfl rfl (y_move (v := (.int _ _)) rfl) ?_
                  refine o_nil ?_
                  exact ⟨u + 1, (by first | omega | (dsimp only; omega)), ⟨by omega, fun j hj => if e : j = u then (by rw [e, ← take_getD (n := g) (by omega)]; exact heq) else hall j (by omega)⟩, ⟨rfl, rfl, rfl, rfl, rfl, rfl, rfl, (congrArg (Value.int _) (by omega)), trivial⟩, sub_front ⟨_, rfl⟩⟩
              · refine s_exit ?_
                refine s_region ?_
                refine o_val rfl rfl rfl (y_add rfl rfl (by simp only [inK]; omega)) ?_
                refine o_val rfl rfl rfl (y_move (v := (.int _ _)) rfl) ?_
                refine o_nil ?_
                exact ⟨g + 1, (by first | omega | (dsimp only; omega)), ⟨by omega, one_next h0 hfe (fun hd => by obtain ⟨j, hj, hh⟩ := hd; exact hall j (by omega) hh)⟩, ⟨rfl, rfl, rfl, (congrArg (Value.int _) (by omega)), trivial⟩, sub_front ⟨_, rfl⟩⟩
        · refine s_exit ?_
          refine s_seq ?_
          refine s_region ?_
          refine o_val rfl rfl rfl (y_assign (v := (.int _ _)) rfl) ?_
          refine o_nil ?_
          refine s_ret ?_
          exact ⟨_, _, res1 rfl rfl, ⟨congrArg (Value.int .i64) (by unfold oneErr; rw [if_neg (fun hh => hh hnm), if_neg (by omega), hfl, ← show g = k.n by omega]; exact h0.symm), rfl⟩, sub_front ⟨_, rfl⟩⟩

theorem KOK.lift {V : Mem} {R : List Grp} {k : KR} (h : KOK V k) : KOK (ext V R) k := ⟨h.1, h.2.1, h.2.2.1, h.2.2.2.here.down⟩
def dupK (ks : List KR) (k : Nat) : Prop := ∃ j, j < k ∧ (ks.getD j default).name = (ks.getD k default).name
instance (ks : List KR) (k : Nat) : Decidable (dupK ks k) := by unfold dupK; infer_instance
def chTo (ks : List KR) : Nat → Int
  | 0 => 0
  | k + 1 => if chTo ks k ≠ 0 then chTo ks k else if oneErr (ks.getD k default) ≠ 0 then oneErr (ks.getD k default) else if dupK ks k then 5 else 0
theorem chTo_stay {ks : List KR} {k : Nat} (h : chTo ks k ≠ 0) : ∀ {n : Nat}, k ≤ n → chTo ks n = chTo ks k
  | 0, hn => by rw [show k = 0 by omega]
  | n + 1, hn => by
    by_cases e : k = n + 1
    · rw [e]
    · have ih := chTo_stay h (show k ≤ n by omega)
      simp only [chTo]
      rw [if_pos (by rw [ih]; exact h), ih]
/-- The number of the fault of a list of kinds. -/
def ckErr (ks : List KR) : Int := if 16 < ks.length then 2 else chTo ks ks.length
theorem ch_bad {ks : List KR} {k n : Nat} (h0 : chTo ks k = 0) (h : oneErr (ks.getD k default) ≠ 0) (hn : k < n) : oneErr (ks.getD k default) = chTo ks n := by
  have e : chTo ks (k + 1) = oneErr (ks.getD k default) := by simp only [chTo]; rw [if_neg (fun hh => hh h0), if_pos h]
  rw [chTo_stay (k := k + 1) (by rw [e]; exact h) (by omega), e]
theorem ch_dup {ks : List KR} {k n : Nat} (h0 : chTo ks k = 0) (h : ¬ oneErr (ks.getD k default) ≠ 0) (hd : dupK ks k) (hn : k < n) : (5 : Int) = chTo ks n := by
  have e : chTo ks (k + 1) = 5 := by simp only [chTo]; rw [if_neg (fun hh => hh h0), if_neg h, if_pos hd]
  rw [chTo_stay (k := k + 1) (by rw [e]; decide) (by omega), e]
theorem ch_next {ks : List KR} {k : Nat} (h0 : chTo ks k = 0) (h : ¬ oneErr (ks.getD k default) ≠ 0) (hd : ¬ dupK ks k) : chTo ks (k + 1) = 0 := by
  simp only [chTo]; rw [if_neg (fun hh => hh h0), if_neg h, if_neg hd]
theorem find_dup {ks : List KR} {g : Nat} {r : Int} (hg : g ≤ ks.length) (h : FindOK (ks.take g) (ks.getD g default).name r) : (0 ≤ r ↔ dupK ks g) := by
  have hl : (ks.take g).length = g := by rw [List.length_take]; omega
  rcases h with ⟨h1, h2⟩ | ⟨j, h1, h2, h3, _⟩
  · refine ⟨fun hh => by omega, fun ⟨j, hj, hh⟩ => ?_⟩
    have := h2 j (by omega)
    rw [take_getD hj] at this
    exact absurd hh this
  · refine ⟨fun _ => ⟨j, by omega, ?_⟩, fun _ => by omega⟩
    rw [← take_getD (n := g) (by omega)]; exact h3

theorem getD_mem' {α : Type} {l : List α} {j : Nat} {d : α} (h : j < l.length) : l.getD j d ∈ l := by
  rw [List.getD_eq_getElem?_getD, List.getElem?_eq_getElem h]; simp

theorem CheckK_c {V : Mem} (A : Option Addr) (n c : Nat) (ks : List KR) (h : Cels V [] A (ks.flatMap encK)) (hn : ks.length = n) (hc : n ≤ c) (hb : n ≤ 140737488355328) (hK : ∀ k ∈ ks, KOK V k) : CallS Try.prog 97 [.slice A n c].toArray V [] (fun r L' => r = .int .i64 (ckErr ks) ∧ L' = []) := by
  refine callS Try.func97 rfl rfl (fun w0 => ?_)
  refine s_seq ?_
  refine s_region ?_
  refine o_val rfl rfl rfl (y_assign (v := (.int _ _)) rfl) ?_
  refine o_nil ?_
  refine s_seq ?_
  refine s_seq ?_
  refine s_region ?_
  refine o_val rfl rfl rfl (y_move (v := (.slice _ _ _)) rfl) ?_
  refine o_val rfl rfl rfl (y_len Try.runUnderlying23 rfl) ?_
  refine o_val rfl rfl rfl (y_gtr rfl rfl) ?_
  refine o_nil ?_
  refine s_if rfl (fun h1 => ?_) (fun h2 => ?_)
  · have hbig := h1
    refine s_seq ?_
    refine s_region ?_
    refine o_val rfl rfl rfl (y_assign (v := (.int _ _)) rfl) ?_
    refine o_nil ?_
    refine s_ret ?_
    exact ⟨_, _, res1 rfl rfl, ⟨congrArg (Value.int .i64) (by unfold ckErr; rw [if_pos (by omega)]), rfl⟩, sub_front ⟨_, rfl⟩⟩
  · have hsm := h2
    refine s_skip ?_
    refine s_seq ?_
    refine s_seq ?_
    refine s_region ?_
    refine o_val rfl rfl rfl (y_move (v := (.slice _ _ _)) rfl) ?_
    refine o_val rfl rfl rfl (y_len Try.runUnderlying23 rfl) ?_
    refine o_val rfl rfl rfl (y_move (v := (.int _ _)) rfl) ?_
    refine o_nil ?_
    refine s_block ?_
    refine s_loop (γ := Nat) (fun g => [(0, .slice A n c), (9, .slice A n c), (10, .int .i64 n), (11, .int .i64 g)]) (fun g => []) (fun g => g ≤ n ∧ chTo ks g = 0) (fun g => n - g) (0) ?_ ⟨rfl, rfl, rfl, rfl, trivial⟩ (sub_front ⟨_, rfl⟩) ?_
    · exact ⟨Nat.zero_le _, rfl⟩
    · intro g _f hI
      obtain ⟨hg, h0⟩ := hI
      refine s_seq ?_
      refine s_region ?_
      refine o_val rfl rfl rfl (y_lss rfl rfl) ?_
      refine o_nil ?_
      refine s_seq ?_
      refine s_if rfl (fun h3 => ?_) (fun h4 => ?_)
      · refine s_skip ?_
        refine s_seq ?_
        refine s_block ?_
        refine s_seq ?_
        refine s_region ?_
        refine o_val rfl rfl rfl (y_move (v := (.int _ _)) rfl) ?_
        refine o_val rfl rfl rfl (y_indexAddr Try.runUnderlying23 Try.sizeOf58 (some_at (sz := 1) encK_len (i := 0) h (by omega)) rfl rfl (by omega)) ?_
        refine o_val rfl rfl rfl (y_loads (cs := [_, _]) Try.isAgg58 Try.sizeOf58 rfl (by unfold idx; rw [Option.isSome_map]; exact some_at (sz := 1) encK_len (i := 0) h (by omega)) rfl (cels_at (sz := 2) encK_len h.here (by omega))) ?_
        refine o_alloc rfl Try.zeroValue58 rfl (fun b5 => ?_)
        refine o_val rfl rfl rfl (y_assign (v := (.int _ _)) rfl) ?_
        refine o_stores (vs := [(.string _), (.slice _ _ _)]) 0 rfl Try.sizeOf58 rfl rfl rfl (by simp [Value.oneCell']) (by simp) ?_
        refine o_nil ?_
        refine s_seq ?_
        refine s_seq ?_
        refine s_region ?_
        refine o_val rfl rfl rfl (y_loads (cs := [_, _]) Try.isAgg58 Try.sizeOf58 rfl rfl rfl (cels_own 0 rfl rfl)) ?_
        refine o_fn 0 (d := 17) rfl Try.call156 (One_c (ks.getD g default) (hK _ (getD_mem' (by omega))).lift) rfl ?_
        rintro _ _ ⟨rfl, rfl⟩
        refine o_val rfl rfl rfl (y_assign (v := (.int _ _)) rfl) ?_
        refine o_nil ?_
        refine s_seq ?_
        refine s_region ?_
        refine o_val rfl rfl rfl (y_move (v := (.int _ _)) rfl) ?_
        refine o_val rfl rfl rfl (y_neq rfl rfl) ?_
        refine o_nil ?_
        refine s_if rfl (fun h6 => ?_) (fun h7 => ?_)
        · have hoe := h6
          refine s_seq ?_
          refine s_region ?_
          refine o_val rfl rfl rfl (y_move (v := (.int _ _)) rfl) ?_
          refine o_val rfl rfl rfl (y_assign (v := (.int _ _)) rfl) ?_
          refine o_nil ?_
          refine s_ret ?_
          exact ⟨_, _, res1 rfl rfl, ⟨congrArg (Value.int .i64) (by unfold ckErr; rw [if_neg (by omega)]; exact ch_bad h0 hoe (by omega)), rfl⟩, sub_front ⟨_, rfl⟩⟩
        · have hoe := h7
          refine s_skip ?_
          refine s_seq ?_
          refine s_drawn 0 (by kernel_rfl) ?_
          refine d_val (i := 0) rfl (by kernel_rfl) (by kernel_rfl) (by kernel_rfl) rfl rfl rfl (y_move (v := (.slice _ _ _)) rfl) ?_
          refine d_val (i := 1) rfl (by kernel_rfl) (by kernel_rfl) (by kernel_rfl) rfl rfl rfl (y_move (v := (.int _ _)) rfl) ?_
          refine d_val (i := 2) rfl (by kernel_rfl) (by kernel_rfl) (by kernel_rfl) rfl rfl rfl (y_cut_hi Try.runUnderlying23 Try.sizeOf58 rfl rfl (by omega)) ?_
          refine d_val (i := 3) rfl (by kernel_rfl) (by kernel_rfl) (by kernel_rfl) rfl rfl rfl (y_field0 Try.runUnderlying58 rfl Try.sizeOf9 rfl rfl) ?_
          refine d_val (i := 4) rfl (by kernel_rfl) (by kernel_rfl) (by kernel_rfl) rfl rfl rfl (y_load Try.isAgg9 rfl (cel_own 0 rfl rfl)) ?_
          refine d_eff (k := 5) (n := 0) (m := 1) rfl (by kernel_rfl) rfl ?_
          refine o_fn 0 (d := 26) rfl Try.call157 (FindK_c _ _ _ (ks.take g) (cels_flat_take h g).here.down (by rw [List.length_take]; omega) (by omega) (ks.getD g default).name) rfl ?_
          rintro _ _ ⟨fr, rfl, hfr, rfl⟩
          have hfd := find_dup (show g ≤ ks.length by omega) hfr
          refine o_nil ?_
          refine d_val (i := 6) rfl (by kernel_rfl) (by kernel_rfl) (by kernel_rfl) rfl rfl rfl (y_geq rfl rfl) ?_
          refine d_nil (n := 0) (m := 1) (by kernel_rfl) rfl ?_
          refine s_if rfl (fun h8 => ?_) (fun h9 => ?_)
          · have hd := hfd.1 h8
            refine s_seq ?_
            refine s_region ?_
            refine o_val rfl rfl rfl (y_assign (v := (.int _ _)) rfl) ?_
            refine o_nil ?_
            refine s_ret ?_
            exact ⟨_, _, res1 rfl rfl, ⟨congrArg (Value.int .i64) (by unfold ckErr; rw [if_neg (by omega)]; exact ch_dup h0 hoe hd (by omega)), rfl⟩, sub_front ⟨_, rfl⟩⟩
          · have hd : ¬ dupK ks g := fun hh => h9 (hfd.2 hh)
            refine s_skip ?_
            refine s_region ?_
            refine o_val rfl rfl rfl (y_add rfl rfl (by simp only [inK]; omega)) ?_
            refine o_val rfl rfl rfl (y_move (v := (.int _ _)) rfl) ?_
            refine o_nil ?_
            exact ⟨g + 1, (by first | omega | (dsimp only; omega)), ⟨by omega, ch_next h0 hoe hd⟩, ⟨rfl, rfl, rfl, (congrArg (Value.int _) (by omega)), trivial⟩, sub_front ⟨_, rfl⟩⟩
      · refine s_exit ?_
        refine s_seq ?_
        refine s_region ?_
        refine o_val rfl rfl rfl (y_assign (v := (.int _ _)) rfl) ?_
        refine o_nil ?_
        refine s_ret ?_
        exact ⟨_, _, res1 rfl rfl, ⟨congrArg (Value.int .i64) (by unfold ckErr; rw [if_neg (by omega), hn, ← show g = n by omega]; exact h0.symm), rfl⟩, sub_front ⟨_, rfl⟩⟩

end Go.Proofs.Ytacmbiohjiogiaa.K

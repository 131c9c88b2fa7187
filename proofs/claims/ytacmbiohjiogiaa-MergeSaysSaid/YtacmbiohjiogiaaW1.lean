/- Walks over the package kind: values of fields that fit. No condition beyond what each statement names. -/
import Derived.Test.YtacmbiohjiogiaaProg
import Derived.Test.YtacmbiohjiogiaaK16
import Derived.Test.YtacmbiohjiogiaaM1
set_option linter.unusedVariables false
set_option linter.unusedSimpArgs false
set_option maxRecDepth 100000
namespace Go.Proofs.Ytacmbiohjiogiaa.K
open Go.RowKit

theorem pow_bd {b : Int} (h : 1 ≤ b ∧ b ≤ 32) : 2 ≤ (2 : Int) ^ b.toNat ∧ (2 : Int) ^ b.toNat ≤ 4294967296 := by
 obtain ⟨n, rfl⟩ : ∃ n : Nat, b = n := ⟨b.toNat, by omega⟩; have h1 : 1 ≤ n := by omega
 have h2 : n ≤ 32 := by omega
 rw [Int.toNat_natCast]; have e1 : (2 : Nat) ^ 1 ≤ 2 ^ n := Nat.pow_le_pow_right (by decide) h1; have e2 : (2 : Nat) ^ n ≤ 2 ^ 32 := Nat.pow_le_pow_right (by decide) h2; have e3 : ((2 ^ n : Nat) : Int) = (2 : Int) ^ n := by rw [Int.natCast_pow]; rfl
 rw [← e3]; omega
theorem pow_bits {b : Int} (h : 1 ≤ b ∧ b ≤ 32) : IntKind.i64.wrap (1 * 2 ^ (min b.toNat IntKind.i64.bits)) = 2 ^ b.toNat := by
 have hp := pow_bd h; rw [show min b.toNat IntKind.i64.bits = b.toNat from by have : IntKind.i64.bits = 64 := rfl; omega, Int.one_mul]; exact wrap_in (by simp only [inK]; omega)
/-- The greatest value of a field. -/
def highV (f : FR) : Int := if fOK f then f.low + (2 ^ f.bits.toNat - 1) else 0
/-- The value of a field that is nearest to a number. -/
def nearV (f : FR) (v : Int) : Int := if fOK f then max f.low (min v (highV f)) else 0
theorem fErr_ok {f : FR} : fErr f = 0 ↔ fOK f := by unfold fErr; split <;> simp_all
theorem highV_bd {f : FR} (h : fOK f) : f.low < highV f ∧ highV f ≤ 8589934592 ∧ -4294967296 ≤ f.low := by
 have hp := pow_bd ⟨h.2.1, h.2.2.1⟩; unfold highV; rw [if_pos h]; obtain ⟨_, _, _, h1, h2⟩ := h; omega
/-- Is a number a value of a field? -/
def fitsV (f : FR) (v : Int) : Prop := f.low ≤ v ∧ v ≤ highV f
theorem nearV_eq {f : FR} {v : Int} (h : fOK f) : nearV f v = v ↔ fitsV f v := by
 have := highV_bd h; unfold fitsV nearV; rw [if_pos h]; omega
/-- The number of the fault of values for a kind. -/
def fitErr (k : KR) (n : Nat) : Int := if oneErr k ≠ 0 then oneErr k else if n ≠ k.fs.length then 1 else 0
def fitV (fs : List FR) (vs : List Int) : List Int := List.zipWith nearV fs vs
theorem fitV_len {fs : List FR} {vs : List Int} (h : vs.length = fs.length) : (fitV fs vs).length = fs.length := by unfold fitV; rw [List.length_zipWith]; omega
theorem fitV_get {fs : List FR} {vs : List Int} (h : vs.length = fs.length) {j : Nat} (hj : j < fs.length) : (fitV fs vs).getD j 0 = nearV (fs.getD j default) (vs.getD j 0) := by
 unfold fitV; simp [List.getD_eq_getElem?_getD, List.getElem?_zipWith, hj, show j < vs.length by omega]
theorem set_take1 {α : Type} {xs : List α} {k : Nat} {v : α} (hk : k < xs.length) : (xs.set k v).take (k + 1) = xs.take k ++ [v] := by
 rw [List.take_add_one, List.getElem?_set_self hk]
 congr 1
 apply List.ext_getElem?
 intro j; simp only [List.getElem?_take, List.getElem?_set]
 split
 ·rw [if_neg (by omega)]
 ·rfl
theorem take_next {α : Type} {ys : List α} {k : Nat} {d : α} (hk : k < ys.length) : ys.take (k + 1) = ys.take k ++ [ys.getD k d] := by
 rw [List.take_add_one, List.getElem?_eq_getElem hk, List.getD_eq_getElem?_getD, List.getElem?_eq_getElem hk]; rfl
theorem fitV_step {fs : List FR} {vs xs : List Int} {n k : Nat} (hf : fs.length = n) (hv : vs.length = n) (hx : xs.length = n) (hk : k < n) (h : xs.take k = (fitV fs vs).take k) :
  (xs.set k (nearV (fs.getD k default) (vs.getD k 0))).take (k + 1) = (fitV fs vs).take (k + 1) := by
 have hl : (fitV fs vs).length = n := by rw [fitV_len (by omega)]; exact hf
 rw [set_take1 (by omega), take_next (d := 0) (by omega), h, fitV_get (by omega) (by omega)]

theorem HighK_c {V : Mem} (f : FR) : CallS Try.prog 214 [.agg #[.string f.name, .int .i64 f.bits, .int .i64 f.low]].toArray V [] (fun r L' => r = .int .i64 (highV f) ∧ L' = []) := by
 refine callS Try.func214 rfl rfl (fun w0 => ?_); refine s_seq (s_region ?_); refine o_box (v := (.agg #[(.string _), (.int _ _), (.int _ _)])) rfl rfl rfl (fun b1 => ?_); refine o_val rfl rfl rfl (y_assign (v := (.int _ _)) rfl) (o_nil ?_); refine s_seq ?_; refine s_seq (s_region ?_); refine o_val rfl rfl rfl (y_loads (cs := [_, _, _]) Try.isAgg61 Try.sizeOf61 rfl rfl rfl (cels_own 0 rfl rfl)) ?_; refine o_fn 0 (d := 4) rfl Try.call202 (field_c f) rfl ?_; rintro _ _ ⟨rfl, rfl⟩; refine o_val rfl rfl rfl (y_neq rfl rfl) (o_nil ?_); refine s_if rfl (fun h2 => ?_) (fun h3 => ?_)
 ·have hno : ¬ fOK f := fun hh => h2 (fErr_ok.2 hh); refine s_seq (s_region ?_); refine o_val rfl rfl rfl (y_assign (v := (.int _ _)) rfl) (o_nil ?_); refine s_ret ?_; exact ⟨_, [], res1 rfl rfl, ⟨congrArg (Value.int .i64) (by unfold highV; rw [if_neg hno]), rfl⟩, sub_picks [] rfl⟩
 ·have hok : fOK f := fErr_ok.1 (Decidable.not_not.1 h3); have hp := pow_bd ⟨hok.2.1, hok.2.2.1⟩; have hlo := hok.2.2.2; refine s_skip ?_; refine s_seq ?_; refine s_quiet (by kernel_rfl) (by kernel_rfl) ?_; refine q_val rfl rfl rfl (y_field0 Try.runUnderlying61 rfl Try.sizeOf3 rfl rfl) ?_; refine q_val rfl rfl rfl (y_load Try.isAgg3 rfl (cel_own 0 rfl rfl)) ?_; refine q_val rfl rfl rfl (y_field0 Try.runUnderlying61 rfl Try.sizeOf3 rfl rfl) ?_; refine q_val rfl rfl rfl (y_load Try.isAgg3 rfl (cel_own 0 rfl rfl)) ?_; refine q_val rfl rfl rfl ((y_shl rfl rfl (by have := hok.2.1; omega)).int (pow_bits ⟨hok.2.1, hok.2.2.1⟩)) ?_; refine q_val rfl rfl rfl (y_sub rfl rfl (by simp only [inK]; omega)) ?_; refine q_val rfl rfl rfl (y_add rfl rfl (by simp only [inK]; omega)) ?_; refine q_val rfl rfl rfl (y_assign (v := (.int _ _)) rfl) ?_; refine q_nil ?_; refine s_ret ?_; exact ⟨_, [], res1 rfl rfl, ⟨congrArg (Value.int .i64) (by unfold highV; rw [if_pos hok]), rfl⟩, sub_picks [] rfl⟩

theorem NearK_c {V : Mem} (f : FR) (v : Int) : CallS Try.prog 186 [.agg #[.string f.name, .int .i64 f.bits, .int .i64 f.low], .int .i64 v].toArray V [] (fun r L' => r = .int .i64 (nearV f v) ∧ L' = []) := by
 refine callS Try.func186 rfl rfl (fun w0 => ?_); refine s_seq (s_region ?_); refine o_box (v := (.agg #[(.string _), (.int _ _), (.int _ _)])) rfl rfl rfl (fun b1 => ?_); refine o_val rfl rfl rfl (y_assign (v := (.int _ _)) rfl) (o_nil ?_); refine s_seq ?_; refine s_seq (s_region ?_); refine o_val rfl rfl rfl (y_loads (cs := [_, _, _]) Try.isAgg61 Try.sizeOf61 rfl rfl rfl (cels_own 0 rfl rfl)) ?_; refine o_fn 0 (d := 6) rfl Try.call202 (field_c f) rfl ?_; rintro _ _ ⟨rfl, rfl⟩; refine o_val rfl rfl rfl (y_neq rfl rfl) (o_nil ?_); refine s_if rfl (fun h2 => ?_) (fun h3 => ?_)
 ·have hno : ¬ fOK f := fun hh => h2 (fErr_ok.2 hh); refine s_seq (s_region ?_); refine o_val rfl rfl rfl (y_assign (v := (.int _ _)) rfl) (o_nil ?_); refine s_ret ?_; exact ⟨_, [], res1 rfl rfl, ⟨congrArg (Value.int .i64) (by unfold nearV; rw [if_neg hno]), rfl⟩, sub_picks [] rfl⟩
 ·have hok : fOK f := fErr_ok.1 (Decidable.not_not.1 h3); refine s_skip ?_; refine s_seq ?_; refine s_drawn 0 (by kernel_rfl) ?_; refine d_val (i := 0) rfl (by kernel_rfl) (by kernel_rfl) (by kernel_rfl) rfl rfl rfl (y_field0 Try.runUnderlying61 rfl Try.sizeOf3 rfl rfl) ?_; refine d_val (i := 1) rfl (by kernel_rfl) (by kernel_rfl) (by kernel_rfl) rfl rfl rfl (y_load Try.isAgg3 rfl (cel_own 0 rfl rfl)) ?_; refine d_val (i := 2) rfl (by kernel_rfl) (by kernel_rfl) (by kernel_rfl) rfl rfl rfl (y_move (v := (.int _ _)) rfl) ?_; refine d_val (i := 3) rfl (by kernel_rfl) (by kernel_rfl) (by kernel_rfl) rfl rfl rfl (y_loads (cs := [_, _, _]) Try.isAgg61 Try.sizeOf61 rfl rfl rfl (cels_own 0 rfl rfl)) ?_; refine d_eff (k := 4) (n := 0) (m := 1) rfl (by kernel_rfl) rfl ?_; refine o_fn 0 (d := 12) rfl Try.call214 (HighK_c f) rfl ?_; rintro _ _ ⟨rfl, rfl⟩; refine o_nil ?_; refine d_val (i := 5) rfl (by kernel_rfl) (by kernel_rfl) (by kernel_rfl) rfl rfl rfl (y_min rfl rfl) ?_; refine d_val (i := 6) rfl (by kernel_rfl) (by kernel_rfl) (by kernel_rfl) rfl rfl rfl (y_max rfl rfl) ?_; refine d_val (i := 7) rfl (by kernel_rfl) (by kernel_rfl) (by kernel_rfl) rfl rfl rfl (y_assign (v := (.int _ _)) rfl) ?_; refine d_nil (n := 0) (m := 1) (by kernel_rfl) rfl ?_; refine s_forget [(4, (.int _ _))] ⟨rfl, trivial⟩ (fun _f => ?_); refine s_ret ?_; exact ⟨_, [], res1 rfl rfl, ⟨congrArg (Value.int .i64) (by unfold nearV; rw [if_pos hok]), rfl⟩, sub_picks [] rfl⟩

structure LFit where
 k : Nat
 xs : List Int
 E : Grp
theorem oneTo_fields {fs : List FR} : ∀ {n : Nat}, oneTo fs n = 0 → ∀ j, j < n → fOK (fs.getD j default)
 | 0, _, j, hj => absurd hj (Nat.not_lt_zero j)
 | n + 1, h, j, hj => by
  simp only [oneTo] at h
  split at h
  ·rename_i h1; exact absurd h h1
  ·rename_i h1
   split at h
   ·rename_i h2; exact absurd h h2
   ·rename_i h2
    by_cases e : j = n
    ·rw [e]; exact fErr_ok.1 (Decidable.not_not.1 h2)
    ·exact oneTo_fields (Decidable.not_not.1 h1) j (by omega)
theorem oneErr_zero {k : KR} (h : oneErr k = 0) : nameOK k.name ∧ k.fs.length ≤ 8 ∧ oneTo k.fs k.fs.length = 0 := by
 unfold oneErr at h
 split at h
 ·cases h
 ·rename_i h1
  split at h
  ·cases h
  ·exact ⟨Decidable.not_not.1 h1, by omega, h⟩

theorem FitK_c {V : Mem} (k : KR) (hk : KOK V k) (A : Option Addr) (n c : Nat) (vs : List Int) (hv : Cels V [] A (vs.map (.int .i64))) (hvl : vs.length = n) (hnb : n ≤ 17592186044416) : CallS Try.prog 143 [.agg #[.string k.name, .slice k.A k.n k.c], .slice A n c].toArray V [] (fun r L' => (fitErr k n ≠ 0 ∧ r = .tuple #[.slice none 0 0, .int .i64 (fitErr k n)] ∧ L' = []) ∨ (fitErr k n = 0 ∧ ∃ B E, r = .tuple #[.slice B n n, .int .i64 0] ∧ OS B n n 3 1 ((fitV k.fs vs).map (.int .i64)) E ∧ B.isSome = true ∧ L' = [E])) := by
 have hf := hk.2.2.2; have hfl := hk.1; refine callS Try.func143 rfl rfl (fun w0 => ?_); refine s_seq (s_region ?_); refine o_box (v := (.agg #[(.string _), (.slice _ _ _)])) rfl rfl rfl (fun b1 => ?_); refine o_val rfl rfl rfl (y_assign (v := (.slice _ _ _)) rfl) ?_; refine o_val rfl rfl rfl (y_assign (v := (.int _ _)) rfl) (o_nil ?_); refine s_seq ?_; refine s_seq (s_region ?_); refine o_val rfl rfl rfl (y_loads (cs := [_, _]) Try.isAgg58 Try.sizeOf58 rfl rfl rfl (cels_own 0 rfl rfl)) ?_; refine o_fn 0 (d := 11) rfl Try.call156 (One_c k hk.lift) rfl ?_; rintro _ _ ⟨rfl, rfl⟩; refine o_val rfl rfl rfl (y_assign (v := (.int _ _)) rfl) (o_nil ?_); refine s_seq (s_region ?_); refine o_val rfl rfl rfl (y_move (v := (.int _ _)) rfl) ?_; refine o_val rfl rfl rfl (y_neq rfl rfl) (o_nil ?_); refine s_if rfl (fun h2 => ?_) (fun h3 => ?_)
 ·have hbad := h2; refine s_seq (s_region ?_); refine o_val rfl rfl rfl (y_move (v := (.int _ _)) rfl) ?_; refine o_val rfl rfl rfl (y_assign (v := (.slice _ _ _)) rfl) ?_; refine o_val rfl rfl rfl (y_assign (v := (.int _ _)) rfl) (o_nil ?_); refine s_ret ?_; exact ⟨_, [], res2 rfl rfl rfl, .inl ⟨by unfold fitErr; rw [if_pos hbad]; exact hbad, by unfold fitErr; rw [if_pos hbad]; rfl, rfl⟩, sub_picks [] rfl⟩
 ·have hone := Decidable.not_not.1 h3; refine s_skip ?_; refine s_seq ?_; refine s_seq (s_region ?_); refine o_val rfl rfl rfl (y_move (v := (.slice _ _ _)) rfl) ?_; refine o_val rfl rfl rfl (y_len Try.runUnderlying22 rfl) ?_; refine o_val rfl rfl rfl (y_field0 Try.runUnderlying58 rfl Try.sizeOf56 rfl rfl) ?_; refine o_val rfl rfl rfl (y_load Try.isAgg56 rfl (cel_own 0 rfl rfl)) ?_; refine o_val rfl rfl rfl (y_len Try.runUnderlying56 rfl) ?_; refine o_val rfl rfl rfl (y_neq rfl rfl) (o_nil ?_); refine s_forget [(1, (.slice _ _ _)), (2, (.pointer _)), (4, (.slice _ _ _)), (5, (.int _ _)), (20, (.bool _))] ⟨rfl, rfl, rfl, rfl, rfl, trivial⟩ (fun _f => ?_); refine s_if rfl (fun h4 => ?_) (fun h5 => ?_)
  ·have hne := h4; refine s_seq (s_region ?_); refine o_val rfl rfl rfl (y_assign (v := (.slice _ _ _)) rfl) ?_; refine o_val rfl rfl rfl (y_assign (v := (.int _ _)) rfl) (o_nil ?_); refine s_ret ?_; exact ⟨_, [], res2 rfl rfl rfl, .inl ⟨by unfold fitErr; rw [if_neg (fun hh => hh hone), if_pos (by omega)]; decide, by unfold fitErr; rw [if_neg (fun hh => hh hone), if_pos (by omega)]; rfl, rfl⟩, sub_picks [] rfl⟩
  ·have hnf : n = k.n := by omega
   refine s_skip ?_; refine s_seq (s_region ?_); refine o_val rfl rfl rfl (y_move (v := (.slice _ _ _)) rfl) ?_; refine o_val rfl rfl rfl (y_len Try.runUnderlying22 rfl) ?_; refine o_make (sz := 1) (bytes := 8) (n := n) rfl Try.underlying22 Try.type3 rfl rfl rfl rfl rfl (by omega) (fun oA oE ho6 hoS => ?_); have hout : OS oA n n 3 1 (((List.replicate n (0 : Int))).map (.int .i64)) oE := os_made_int ho6
   clear ho6
   refine o_val rfl rfl rfl (y_assign (v := (.slice _ _ _)) rfl) (o_nil ?_); refine s_seq ?_; refine s_seq (s_region ?_); refine o_val rfl rfl rfl (y_field0 Try.runUnderlying58 rfl Try.sizeOf56 rfl rfl) ?_; refine o_val rfl rfl rfl (y_load Try.isAgg56 rfl (cel_own 0 rfl rfl)) ?_; refine o_val rfl rfl rfl (y_len Try.runUnderlying56 rfl) ?_; refine o_val rfl rfl rfl (y_move (v := (.int _ _)) rfl) (o_nil ?_); refine s_block ?_; refine s_loopK (γ := LFit) [(1, (.slice _ _ _)), (4, (.slice _ _ _)), (5, (.int _ _)), (7, (.slice _ _ _)), (25, (.slice _ _ _)), (26, (.int _ _))] [] (fun g => [(27, .int .i64 g.k)]) (fun g => [g.E]) (fun g => g.k ≤ n ∧ OS oA n n 3 1 ((g.xs).map (.int .i64)) g.E ∧ g.xs.take g.k = (fitV k.fs vs).take g.k) (fun g => n - g.k) (LFit.mk 0 (List.replicate n 0) oE) ⟨rfl, rfl, rfl, rfl, rfl, rfl, rfl, trivial⟩ (sub_picks [1] rfl) ?_ ?_
   ·exact ⟨Nat.zero_le _, hout, rfl⟩
   intro g _f hI; refine s_norm _ (by simp only [pull, picks, setG, List.cons_append, List.nil_append, List.append_nil, List.drop_succ_cons, List.drop_zero]; rfl) ?_; obtain ⟨hgk, hxo, hxt⟩ := hI; have hxl : g.xs.length = n := by simpa using hxo.len
   refine s_seq (s_region ?_); refine o_val rfl rfl rfl (y_lss rfl rfl) (o_nil ?_); refine s_seq ?_; refine s_if rfl (fun h7 => ?_) (fun h8 => ?_)
   ·refine s_skip ?_; refine s_seq ?_; refine s_block ?_; refine s_seq (s_region ?_); refine o_val rfl rfl rfl (y_move (v := (.int _ _)) rfl) ?_; refine o_val rfl rfl rfl (y_indexAddr Try.runUnderlying56 Try.sizeOf61 (some_at (sz := 2) encF_len (i := 0) hf (by omega)) rfl rfl (by omega)) ?_; refine o_val rfl rfl rfl (y_loads (cs := [_, _, _]) Try.isAgg61 Try.sizeOf61 rfl (by unfold idx; rw [Option.isSome_map]; exact some_at (sz := 2) encF_len (i := 0) hf (by omega)) rfl (cels_at (sz := 3) encF_len hf.here (by omega))) ?_; refine o_alloc rfl Try.zeroValue61 rfl (fun b9 => ?_); refine o_val rfl rfl rfl (y_assign (v := (.int _ _)) rfl) ?_; refine o_stores (vs := [(.string _), (.int _ _), (.int _ _)]) 1 rfl Try.sizeOf61 rfl rfl rfl (by simp [Value.oneCell']) (by simp) (o_nil ?_); refine s_drawn 1 (by kernel_rfl) ?_; refine d_val (i := 0) rfl (by kernel_rfl) (by kernel_rfl) (by kernel_rfl) rfl rfl rfl (y_move (v := (.slice _ _ _)) rfl) ?_; refine d_val (i := 1) rfl (by kernel_rfl) (by kernel_rfl) (by kernel_rfl) rfl rfl rfl (y_move (v := (.int _ _)) rfl) ?_; refine d_val (i := 2) rfl (by kernel_rfl) (by kernel_rfl) (by kernel_rfl) rfl rfl rfl (y_loads (cs := [_, _, _]) Try.isAgg61 Try.sizeOf61 rfl rfl rfl (cels_own 0 rfl rfl)) ?_; refine d_val (i := 3) rfl (by kernel_rfl) (by kernel_rfl) (by kernel_rfl) rfl rfl rfl (y_move (v := (.slice _ _ _)) rfl) ?_; refine d_val (i := 4) rfl (by kernel_rfl) (by kernel_rfl) (by kernel_rfl) rfl rfl rfl (y_move (v := (.int _ _)) rfl) ?_; refine d_val (i := 5) rfl (by kernel_rfl) (by kernel_rfl) (by kernel_rfl) rfl rfl rfl (y_index1 Try.runUnderlying22 Try.sizeOf3 (some_int (i := 0) hv (by omega)) rfl rfl (by omega)) ?_; refine d_val (i := 6) rfl (by kernel_rfl) (by kernel_rfl) (by kernel_rfl) rfl rfl rfl (y_load Try.isAgg3 rfl (cel_int hv.here (by omega))) ?_; refine d_eff (k := 7) (n := 1) (m := 1) rfl (by kernel_rfl) rfl ?_; refine o_fn 0 (d := 39) rfl Try.call186 (NearK_c (k.fs.getD ((g.k : Nat) : Int).toNat default) (vs.getD ((g.k : Nat) : Int).toNat 0)) rfl ?_; rintro _ _ ⟨rfl, rfl⟩; refine o_nil ?_; refine d_val (i := 8) rfl (by kernel_rfl) (by kernel_rfl) (by kernel_rfl) rfl rfl rfl (y_index1 Try.runUnderlying22 Try.sizeOf3 (hxo.some_of (by omega)) rfl rfl (by omega)) ?_; refine d_eff (k := 9) (n := 1) (m := 1) rfl (by kernel_rfl) rfl ?_; refine o_store_os (vs := [(.int _ _)]) 0 rfl hxo Try.sizeOf3 rfl rfl rfl (by simp [Value.oneCell']) (by simp) (by first | omega | (simp; omega)) (fun E10 ho11 => ?_); have ho12 := os_lay_int ho11 (by first | omega | (simp; omega))
    clear ho11
    refine o_nil ?_; refine d_nil (n := 1) (m := 1) (by kernel_rfl) rfl ?_; refine s_forget [(1, (.slice _ _ _)), (4, (.slice _ _ _)), (5, (.int _ _)), (7, (.slice _ _ _)), (25, (.slice _ _ _)), (26, (.int _ _)), (27, (.int _ _))] ⟨rfl, rfl, rfl, rfl, rfl, rfl, rfl, trivial⟩ (fun _f => ?_); refine s_region ?_; refine o_val rfl rfl rfl (y_add rfl rfl (by simp only [inK]; omega)) ?_; refine o_val rfl rfl rfl (y_move (v := (.int _ _)) rfl) (o_nil ?_); exact ⟨LFit.mk (g.k + 1) (g.xs.set ((g.k : Nat) : Int).toNat (nearV (k.fs.getD ((g.k : Nat) : Int).toNat default) (vs.getD ((g.k : Nat) : Int).toNat 0))) E10, (by first | omega | (dsimp only; omega)), ⟨by dsimp only; omega, ho12, fitV_step (by omega) hvl hxl (by omega) hxt⟩, ⟨(congrArg (Value.int .i64) (by (try dsimp only); omega)), rfl, rfl, rfl, rfl, rfl, rfl, trivial⟩, (sub_picks [0] rfl)⟩
   ·refine s_exit ?_; refine s_seq (s_region ?_); refine o_val rfl rfl rfl (y_move (v := (.slice _ _ _)) rfl) ?_; refine o_val rfl rfl rfl (y_assign (v := (.slice _ _ _)) rfl) ?_; refine o_val rfl rfl rfl (y_assign (v := (.int _ _)) rfl) (o_nil ?_); refine s_ret ?_; have hgn : g.k = n := by omega
    rw [hgn, List.take_of_length_le (by omega), List.take_of_length_le (by rw [fitV_len (by omega)]; omega)] at hxt; rw [hxt] at hxo; exact ⟨_, [_], res2 rfl rfl rfl, .inr ⟨by unfold fitErr; rw [if_neg (fun hh => hh hone), if_neg (by omega)], _, _, rfl, hxo, hoS, rfl⟩, sub_picks [0] rfl⟩

end Go.Proofs.Ytacmbiohjiogiaa.K

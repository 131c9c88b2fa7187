/- Walks: slices compared, worlds compared. No condition beyond what each statement names. -/
import Derived.Test.YtacmbiohjiogiaaProg
import Derived.Test.YtacmbiohjiogiaaK17
import Derived.Test.YtacmbiohjiogiaaM1
import Derived.Test.YtacmbiohjiogiaaW1
import Derived.Test.YtacmbiohjiogiaaW2
import Derived.Test.YtacmbiohjiogiaaW3
set_option linter.unusedVariables false
set_option linter.unusedSimpArgs false
set_option maxRecDepth 100000
namespace Go.Proofs.Ytacmbiohjiogiaa.K
open Go.RowKit

theorem ba_toList {a b : ByteArray} : a.toList = b.toList ↔ a = b := by
  have h1 := bytes_beq a b
  rw [beq_toListBytes] at h1
  constructor
  · intro h; rw [h] at h1; simpa using h1
  · intro h; rw [h]
/-- Element by element. -/
def All2 {α β : Type} [Inhabited α] [Inhabited β] (p : α → β → Prop) (xs : List α) (ys : List β) : Prop := xs.length = ys.length ∧ ∀ j, j < xs.length → p (xs.getD j default) (ys.getD j default)
instance {α β : Type} [Inhabited α] [Inhabited β] (p : α → β → Prop) [∀ x y, Decidable (p x y)] (xs : List α) (ys : List β) : Decidable (All2 p xs ys) := by unfold All2; infer_instance
theorem all2_map {α β γ : Type} [Inhabited α] [Inhabited β] {f : α → γ} {g : β → γ} {xs : List α} {ys : List β} : All2 (fun x y => f x = g y) xs ys ↔ xs.map f = ys.map g := by
  constructor
  · rintro ⟨hl, h⟩
    apply List.ext_getElem (by simpa using hl)
    intro j h1 h2
    have h3 : j < xs.length := by simpa using h1
    have h4 : j < ys.length := by omega
    have := h j h3
    simpa [List.getD_eq_getElem?_getD, h3, h4] using this
  · intro h
    have hl : xs.length = ys.length := by have := congrArg List.length h; simpa using this
    refine ⟨hl, fun j hj => ?_⟩
    have h4 : j < ys.length := by omega
    have h1 : (xs.map f)[j]'(by simpa using hj) = (ys.map g)[j]'(by simpa using h4) := by simp only [h]
    simp only [List.getElem_map] at h1
    simpa [List.getD_eq_getElem?_getD, hj, h4] using h1
theorem all2_eq {α : Type} [Inhabited α] {xs ys : List α} : All2 (fun x y => x = y) xs ys ↔ xs = ys := by
  have := all2_map (f := fun x : α => x) (g := fun x : α => x) (xs := xs) (ys := ys)
  simpa using this
/-- The first place of an element with a property, or -1. -/
def IdxOK {α : Type} [Inhabited α] (p : α → Prop) (xs : List α) (k : Int) : Prop := (k = -1 ∧ ∀ j, j < xs.length → ¬ p (xs.getD j default)) ∨ (∃ j : Nat, k = j ∧ j < xs.length ∧ p (xs.getD j default) ∧ ∀ i, i < j → ¬ p (xs.getD i default))

instance : DecidableEq FR := fun a b => if h : a.name = b.name ∧ a.bits = b.bits ∧ a.low = b.low then isTrue (by cases a; cases b; simp_all) else isFalse (fun e => h (by subst e; exact ⟨rfl, rfl, rfl⟩))

theorem run_eql_ent (a0 b0 : Int) (a1 b1 : Int) (w : World) : (binOp .eql 117 (.agg #[.int .i64 a0, .int .i64 a1]) (.agg #[.int .i64 b0, .int .i64 b1])).run Try.prog w = .ok (.bool (decide (a0 = b0 ∧ a1 = b1))) w := by
  simp [go_sem]
  by_cases h0 : a0 = b0 <;> by_cases h1 : a1 = b1 <;> simp [h0, h1]
theorem y_eql_ent {f : Frm} {V : Mem} {L : List Grp} {d : Option Tmp} {ty : TypeId} {ps : String} {af : Array Edge} {g : Option (Nat × Bool)} {x y : Operand} {yt : TypeId} {a0 b0 : Int} {a1 b1 : Int} (hx : evF f x = .agg #[.int .i64 a0, .int .i64 a1]) (hy : evF f y = .agg #[.int .i64 b0, .int .i64 b1]) :
    Yld Try.prog f V L ⟨d, .binOp .eql 117 x y yt, ty, ps, af, g⟩ (.bool (decide (a0 = b0 ∧ a1 = b1))) := fun _ w _ => by
  simp only [execOp, hx, hy, Sem.run_bind, eqGuard_agg (P := Try.prog) (t := 117) (by kernel_rfl), Result.andThen_ok, run_eql_ent]
  rfl

theorem run_neq_field (a0 b0 : ByteArray) (a1 b1 : Int) (a2 b2 : Int) (w : World) : (binOp .neq 61 (.agg #[.string a0, .int .i64 a1, .int .i64 a2]) (.agg #[.string b0, .int .i64 b1, .int .i64 b2])).run Try.prog w = .ok (.bool (decide (¬ (a0 = b0 ∧ a1 = b1 ∧ a2 = b2)))) w := by
  simp [go_sem, ba_toList]
  by_cases h0 : a0 = b0 <;> by_cases h1 : a1 = b1 <;> by_cases h2 : a2 = b2 <;> simp [h0, h1, h2, ba_toList]
theorem y_neq_field {f : Frm} {V : Mem} {L : List Grp} {d : Option Tmp} {ty : TypeId} {ps : String} {af : Array Edge} {g : Option (Nat × Bool)} {x y : Operand} {yt : TypeId} {a0 b0 : ByteArray} {a1 b1 : Int} {a2 b2 : Int} (hx : evF f x = .agg #[.string a0, .int .i64 a1, .int .i64 a2]) (hy : evF f y = .agg #[.string b0, .int .i64 b1, .int .i64 b2]) :
    Yld Try.prog f V L ⟨d, .binOp .neq 61 x y yt, ty, ps, af, g⟩ (.bool (decide (¬ (a0 = b0 ∧ a1 = b1 ∧ a2 = b2)))) := fun _ w _ => by
  simp only [execOp, hx, hy, Sem.run_bind, eqGuard_agg (P := Try.prog) (t := 61) (by kernel_rfl), Result.andThen_ok, run_neq_field]
  rfl

theorem EqualI_c {V : Mem} (A : Option Addr) (n c : Nat) (xs : List Int) (h : Cels V [] A (xs.map (.int .i64))) (hn : xs.length = n) (B : Option Addr) (m d : Nat) (ys : List Int) (h' : Cels V [] B (ys.map (.int .i64))) (hm : ys.length = m) (hb : n ≤ 140737488355328) : CallS Try.prog 21 [.slice A n c, .slice B m d].toArray V [] (fun r L' => r = .bool (decide (xs = ys)) ∧ L' = []) := by
  refine callS Try.func21 rfl rfl (fun w0 => ?_)
  refine s_seq ?_
  refine s_region ?_
  refine o_val rfl rfl rfl (y_assign (v := (.bool _)) rfl) ?_
  refine o_nil ?_
  refine s_seq ?_
  refine s_seq ?_
  refine s_region ?_
  refine o_val rfl rfl rfl (y_move (v := (.slice _ _ _)) rfl) ?_
  refine o_val rfl rfl rfl (y_len Try.runUnderlying22 rfl) ?_
  refine o_val rfl rfl rfl (y_move (v := (.slice _ _ _)) rfl) ?_
  refine o_val rfl rfl rfl (y_len Try.runUnderlying22 rfl) ?_
  refine o_val rfl rfl rfl (y_neq rfl rfl) ?_
  refine o_nil ?_
  refine s_if rfl (fun h1 => ?_) (fun h2 => ?_)
  · refine s_seq ?_
    refine s_region ?_
    refine o_val rfl rfl rfl (y_assign (v := (.bool _)) rfl) ?_
    refine o_nil ?_
    refine s_ret ?_
    exact ⟨_, [], res1 rfl rfl, ⟨congrArg Value.bool (decide_eq_false (fun hh => by have := congrArg List.length hh; omega)).symm, rfl⟩, sub_picks [] rfl⟩
  · refine s_skip ?_
    refine s_seq ?_
    refine s_seq ?_
    refine s_region ?_
    refine o_val rfl rfl rfl (y_move (v := (.slice _ _ _)) rfl) ?_
    refine o_val rfl rfl rfl (y_len Try.runUnderlying22 rfl) ?_
    refine o_val rfl rfl rfl (y_move (v := (.int _ _)) rfl) ?_
    refine o_nil ?_
    refine s_block ?_
    refine s_loopK (γ := Nat) [(0, (.slice _ _ _)), (1, (.slice _ _ _)), (12, (.int _ _))] [] (fun g => [(13, .int .i64 g)]) (fun g => []) (fun g => g ≤ n ∧ ∀ j, j < g → xs.getD j 0 = ys.getD j 0) (fun g => n - g) (0) ⟨rfl, rfl, rfl, rfl, trivial⟩ (sub_picks [] rfl) ?_ ?_
    · exact ⟨Nat.zero_le _, fun j hj => absurd hj (Nat.not_lt_zero j)⟩
    intro g _f hI
    obtain ⟨hg, hall⟩ := hI
    refine s_seq ?_
    refine s_region ?_
    refine o_val rfl rfl rfl (y_lss rfl rfl) ?_
    refine o_nil ?_
    refine s_seq ?_
    refine s_if rfl (fun h3 => ?_) (fun h4 => ?_)
    · refine s_skip ?_
      refine s_seq ?_
      refine s_block ?_
      refine s_seq ?_
      refine s_region ?_
      refine o_val rfl rfl rfl (y_move (v := (.int _ _)) rfl) ?_
      refine o_val rfl rfl rfl (y_assign (v := (.int _ _)) rfl) ?_
      refine o_nil ?_
      refine s_seq ?_
      refine s_quiet (by kernel_rfl) (by kernel_rfl) ?_
      refine q_val rfl rfl rfl (y_move (v := (.slice _ _ _)) rfl) ?_
      refine q_val rfl rfl rfl (y_move (v := (.int _ _)) rfl) ?_
      refine q_val rfl rfl rfl (y_index1 Try.runUnderlying22 Try.sizeOf3 (some_int (i := 0) h (by omega)) rfl rfl (by omega)) ?_
      refine q_val rfl rfl rfl (y_load Try.isAgg3 rfl (cel_int h.here (by omega))) ?_
      refine q_val rfl rfl rfl (y_move (v := (.slice _ _ _)) rfl) ?_
      refine q_val rfl rfl rfl (y_move (v := (.int _ _)) rfl) ?_
      refine q_val rfl rfl rfl (y_index1 Try.runUnderlying22 Try.sizeOf3 (some_int (i := 0) h' (by omega)) rfl rfl (by omega)) ?_
      refine q_val rfl rfl rfl (y_load Try.isAgg3 rfl (cel_int h'.here (by omega))) ?_
      refine q_val rfl rfl rfl (y_neq rfl rfl) ?_
      refine q_nil ?_
      refine s_forget [(0, (.slice _ _ _)), (1, (.slice _ _ _)), (12, (.int _ _)), (13, (.int _ _)), (24, (.bool _))] ⟨rfl, rfl, rfl, rfl, rfl, trivial⟩ (fun _f => ?_)
      refine s_if rfl (fun h5 => ?_) (fun h6 => ?_)
      · have hne := h5
        refine s_seq ?_
        refine s_region ?_
        refine o_val rfl rfl rfl (y_assign (v := (.bool _)) rfl) ?_
        refine o_nil ?_
        refine s_ret ?_
        exact ⟨_, [], res1 rfl rfl, ⟨congrArg Value.bool (decide_eq_false (fun hh => hne (by rw [hh]))).symm, rfl⟩, sub_picks [] rfl⟩
      · have heq := Decidable.not_not.1 h6
        refine s_skip ?_
        refine s_region ?_
        refine o_val rfl rfl rfl (y_add rfl rfl (by simp only [inK]; omega)) ?_
        refine o_val rfl rfl rfl (y_move (v := (.int _ _)) rfl) ?_
        refine o_nil ?_
        exact ⟨g + 1, (by first | omega | (dsimp only; omega)), ⟨by omega, all_next hall heq⟩, ⟨(congrArg (Value.int .i64) (by omega)), rfl, rfl, rfl, trivial⟩, (sub_picks [] rfl)⟩
    · refine s_exit ?_
      refine s_seq ?_
      refine s_region ?_
      refine o_val rfl rfl rfl (y_assign (v := (.bool _)) rfl) ?_
      refine o_nil ?_
      refine s_ret ?_
      exact ⟨_, [], res1 rfl rfl, ⟨congrArg Value.bool (decide_eq_true (ext_getD (by omega) (fun j hj => hall j (by omega)))).symm, rfl⟩, sub_picks [] rfl⟩

theorem EqualFC_c {V : Mem} (A : Option Addr) (n c : Nat) (xs : List CR) (h : Cels V [] A (xs.flatMap encC)) (hn : xs.length = n) (hbn : n ≤ 140737488355328) (hX : ∀ x ∈ xs, COK V x) (B : Option Addr) (m d : Nat) (ys : List CR) (h' : Cels V [] B (ys.flatMap encC)) (hm : ys.length = m) (hbm : m ≤ 140737488355328) (hY : ∀ x ∈ ys, COK V x) (fid : FuncId) (cap : List Value) (hcall : ∀ args w, (callFunc fid args).run Try.prog w = .ok (.enter fid args) w) (p : CR → CR → Prop) [∀ x y, Decidable (p x y)] (hf : ∀ (V' : Mem) (x y : CR) (hx : COK V' x) (hy : COK V' y), CallS Try.prog fid (([.agg #[.int .i64 x.kind, .slice x.A x.n x.c], .agg #[.int .i64 y.kind, .slice y.A y.n y.c]] : List Value) ++ cap).toArray V' [] (fun r L' => r = .bool (decide (p x y)) ∧ L' = [])) : CallS Try.prog 129 [.slice A n c, .slice B m d, .func (.func fid) #[] cap.toArray].toArray V [] (fun r L' => r = .bool (decide (All2 p xs ys)) ∧ L' = []) := by
  refine callS Try.func129 rfl rfl (fun w0 => ?_)
  refine s_seq ?_
  refine s_region ?_
  refine o_val rfl rfl rfl (y_assign (v := (.bool _)) rfl) ?_
  refine o_nil ?_
  refine s_seq ?_
  refine s_seq ?_
  refine s_region ?_
  refine o_val rfl rfl rfl (y_move (v := (.slice _ _ _)) rfl) ?_
  refine o_val rfl rfl rfl (y_len Try.runUnderlying33 rfl) ?_
  refine o_val rfl rfl rfl (y_move (v := (.slice _ _ _)) rfl) ?_
  refine o_val rfl rfl rfl (y_len Try.runUnderlying33 rfl) ?_
  refine o_val rfl rfl rfl (y_neq rfl rfl) ?_
  refine o_nil ?_
  refine s_if rfl (fun h1 => ?_) (fun h2 => ?_)
  · refine s_seq ?_
    refine s_region ?_
    refine o_val rfl rfl rfl (y_assign (v := (.bool _)) rfl) ?_
    refine o_nil ?_
    refine s_ret ?_
    exact ⟨_, [], res1 rfl rfl, ⟨congrArg Value.bool (decide_eq_false (fun hh => by have := hh.1; omega)).symm, rfl⟩, sub_picks [] rfl⟩
  · refine s_skip ?_
    refine s_seq ?_
    refine s_seq ?_
    refine s_region ?_
    refine o_val rfl rfl rfl (y_move (v := (.slice _ _ _)) rfl) ?_
    refine o_val rfl rfl rfl (y_len Try.runUnderlying33 rfl) ?_
    refine o_val rfl rfl rfl (y_move (v := (.int _ _)) rfl) ?_
    refine o_nil ?_
    refine s_block ?_
    refine s_loopK (γ := Nat) [(1, (.slice _ _ _)), (2, (.func _ _ _)), (15, (.slice _ _ _)), (16, (.int _ _))] [] (fun g => [(17, .int .i64 g)]) (fun g => []) (fun g => g ≤ n ∧ ∀ j, j < g → p (xs.getD j default) (ys.getD j default)) (fun g => n - g) (0) ⟨rfl, rfl, rfl, rfl, rfl, trivial⟩ (sub_picks [] rfl) ?_ ?_
    · exact ⟨Nat.zero_le _, fun j hj => absurd hj (Nat.not_lt_zero j)⟩
    intro g _f hI
    obtain ⟨hg, hall⟩ := hI
    refine s_seq ?_
    refine s_region ?_
    refine o_val rfl rfl rfl (y_lss rfl rfl) ?_
    refine o_nil ?_
    refine s_seq ?_
    refine s_if rfl (fun h3 => ?_) (fun h4 => ?_)
    · refine s_skip ?_
      refine s_seq ?_
      refine s_block ?_
      refine s_seq ?_
      refine s_region ?_
      refine o_val rfl rfl rfl (y_move (v := (.int _ _)) rfl) ?_
      refine o_val rfl rfl rfl (y_indexAddr Try.runUnderlying33 Try.sizeOf155 (some_at (sz := 1) encC_len (i := 0) h (by omega)) rfl rfl (by omega)) ?_
      refine o_val rfl rfl rfl (y_loads (cs := [_, _]) Try.isAgg155 Try.sizeOf155 rfl (by unfold idx; rw [Option.isSome_map]; exact some_at (sz := 1) encC_len (i := 0) h (by omega)) rfl (cels_at (sz := 2) encC_len h.here (by omega))) ?_
      refine o_alloc rfl Try.zeroValue155 rfl (fun b5 => ?_)
      refine o_val rfl rfl rfl (y_assign (v := (.int _ _)) rfl) ?_
      refine o_stores (vs := [(.int _ _), (.slice _ _ _)]) 0 rfl Try.sizeOf155 rfl rfl rfl (by simp [Value.oneCell']) (by simp) ?_
      refine o_nil ?_
      refine s_seq ?_
      refine s_region ?_
      refine o_val rfl rfl rfl (y_move (v := (.slice _ _ _)) rfl) ?_
      refine o_val rfl rfl rfl (y_move (v := (.int _ _)) rfl) ?_
      refine o_val rfl rfl rfl (y_indexAddr Try.runUnderlying33 Try.sizeOf155 (some_at (sz := 1) encC_len (i := 0) h' (by omega)) rfl rfl (by omega)) ?_
      refine o_val rfl rfl rfl (y_loads (cs := [_, _]) Try.isAgg155 Try.sizeOf155 rfl (by unfold idx; rw [Option.isSome_map]; exact some_at (sz := 1) encC_len (i := 0) h' (by omega)) rfl (cels_at (sz := 2) encC_len h'.here (by omega))) ?_
      refine o_alloc rfl Try.zeroValue155 rfl (fun b6 => ?_)
      refine o_stores (vs := [(.int _ _), (.slice _ _ _)]) 1 rfl Try.sizeOf155 rfl rfl rfl (by simp [Value.oneCell']) (by simp) ?_
      refine o_nil ?_
      refine s_norm [[(_, .cells [(.int _ _), (.slice _ _ _)].toArray 155 (0, 0))], [(_, .cells [(.int _ _), (.slice _ _ _)].toArray 155 (0, 0))]] rfl ?_
      refine s_forget [(1, (.slice _ _ _)), (2, (.func _ _ _)), (8, (.pointer _)), (9, (.pointer _)), (15, (.slice _ _ _)), (16, (.int _ _)), (17, (.int _ _))] ⟨rfl, rfl, rfl, rfl, rfl, rfl, rfl, trivial⟩ (fun _f => ?_)
      refine s_seq ?_
      refine s_region ?_
      have hx := hX _ (getD_mem' (show g < xs.length by omega) : (xs.getD ((g : Nat) : Int).toNat default) ∈ xs)
      have hy := hY _ (getD_mem' (show g < ys.length by omega) : (ys.getD ((g : Nat) : Int).toNat default) ∈ ys)
      refine o_val rfl rfl rfl (y_move (v := (.func _ _ _)) rfl) ?_
      refine o_val rfl rfl rfl (y_loads (cs := [_, _]) Try.isAgg155 Try.sizeOf155 rfl rfl rfl (cels_own 0 rfl rfl)) ?_
      refine o_val rfl rfl rfl (y_loads (cs := [_, _]) Try.isAgg155 Try.sizeOf155 rfl rfl rfl (cels_own 1 rfl rfl)) ?_
      refine o_fnv' 0 (d := 29) rfl hcall rfl rfl rfl (hf _ (xs.getD ((g : Nat) : Int).toNat default) (ys.getD ((g : Nat) : Int).toNat default) (hx.sub MSub.ext) (hy.sub MSub.ext)) ?_
      rintro _ _ ⟨rfl, rfl⟩
      refine o_val rfl rfl rfl (y_not rfl) ?_
      refine o_nil ?_
      refine s_if rfl (fun h7 => ?_) (fun h8 => ?_)
      · have hne := h7
        refine s_seq ?_
        refine s_region ?_
        refine o_val rfl rfl rfl (y_assign (v := (.bool _)) rfl) ?_
        refine o_nil ?_
        refine s_ret ?_
        exact ⟨_, [], res1 rfl rfl, ⟨congrArg Value.bool (decide_eq_false (fun hh => hne (hh.2 g (by omega)))).symm, rfl⟩, sub_picks [] rfl⟩
      · have heq := Decidable.not_not.1 h8
        refine s_skip ?_
        refine s_region ?_
        refine o_val rfl rfl rfl (y_add rfl rfl (by simp only [inK]; omega)) ?_
        refine o_val rfl rfl rfl (y_move (v := (.int _ _)) rfl) ?_
        refine o_nil ?_
        exact ⟨g + 1, (by first | omega | (dsimp only; omega)), ⟨by omega, all_next hall heq⟩, ⟨(congrArg (Value.int .i64) (by omega)), rfl, rfl, rfl, rfl, trivial⟩, (sub_picks [] rfl)⟩
    · refine s_exit ?_
      refine s_seq ?_
      refine s_region ?_
      refine o_val rfl rfl rfl (y_assign (v := (.bool _)) rfl) ?_
      refine o_nil ?_
      refine s_ret ?_
      exact ⟨_, [], res1 rfl rfl, ⟨congrArg Value.bool (decide_eq_true (⟨by omega, fun j hj => hall j (by omega)⟩)).symm, rfl⟩, sub_picks [] rfl⟩

theorem EqualFI_c {V : Mem} (A : Option Addr) (n c : Nat) (xs : List IR) (h : Cels V [] A (xs.flatMap encIt)) (hn : xs.length = n) (hbn : n ≤ 140737488355328) (hX : ∀ x ∈ xs, IOK V x) (B : Option Addr) (m d : Nat) (ys : List IR) (h' : Cels V [] B (ys.flatMap encIt)) (hm : ys.length = m) (hbm : m ≤ 140737488355328) (hY : ∀ x ∈ ys, IOK V x) (fid : FuncId) (cap : List Value) (hcall : ∀ args w, (callFunc fid args).run Try.prog w = .ok (.enter fid args) w) (p : IR → IR → Prop) [∀ x y, Decidable (p x y)] (hf : ∀ (V' : Mem) (x y : IR) (hx : IOK V' x) (hy : IOK V' y), CallS Try.prog fid (([.agg #[.int .i64 x.e, .int .i64 x.g, .slice x.A x.n x.c], .agg #[.int .i64 y.e, .int .i64 y.g, .slice y.A y.n y.c]] : List Value) ++ cap).toArray V' [] (fun r L' => r = .bool (decide (p x y)) ∧ L' = [])) : CallS Try.prog 106 [.slice A n c, .slice B m d, .func (.func fid) #[] cap.toArray].toArray V [] (fun r L' => r = .bool (decide (All2 p xs ys)) ∧ L' = []) := by
  refine callS Try.func106 rfl rfl (fun w0 => ?_)
  refine s_seq ?_
  refine s_region ?_
  refine o_val rfl rfl rfl (y_assign (v := (.bool _)) rfl) ?_
  refine o_nil ?_
  refine s_seq ?_
  refine s_seq ?_
  refine s_region ?_
  refine o_val rfl rfl rfl (y_move (v := (.slice _ _ _)) rfl) ?_
  refine o_val rfl rfl rfl (y_len Try.runUnderlying45 rfl) ?_
  refine o_val rfl rfl rfl (y_move (v := (.slice _ _ _)) rfl) ?_
  refine o_val rfl rfl rfl (y_len Try.runUnderlying45 rfl) ?_
  refine o_val rfl rfl rfl (y_neq rfl rfl) ?_
  refine o_nil ?_
  refine s_if rfl (fun h1 => ?_) (fun h2 => ?_)
  · refine s_seq ?_
    refine s_region ?_
    refine o_val rfl rfl rfl (y_assign (v := (.bool _)) rfl) ?_
    refine o_nil ?_
    refine s_ret ?_
    exact ⟨_, [], res1 rfl rfl, ⟨congrArg Value.bool (decide_eq_false (fun hh => by have := hh.1; omega)).symm, rfl⟩, sub_picks [] rfl⟩
  · refine s_skip ?_
    refine s_seq ?_
    refine s_seq ?_
    refine s_region ?_
    refine o_val rfl rfl rfl (y_move (v := (.slice _ _ _)) rfl) ?_
    refine o_val rfl rfl rfl (y_len Try.runUnderlying45 rfl) ?_
    refine o_val rfl rfl rfl (y_move (v := (.int _ _)) rfl) ?_
    refine o_nil ?_
    refine s_block ?_
    refine s_loopK (γ := Nat) [(1, (.slice _ _ _)), (2, (.func _ _ _)), (15, (.slice _ _ _)), (16, (.int _ _))] [] (fun g => [(17, .int .i64 g)]) (fun g => []) (fun g => g ≤ n ∧ ∀ j, j < g → p (xs.getD j default) (ys.getD j default)) (fun g => n - g) (0) ⟨rfl, rfl, rfl, rfl, rfl, trivial⟩ (sub_picks [] rfl) ?_ ?_
    · exact ⟨Nat.zero_le _, fun j hj => absurd hj (Nat.not_lt_zero j)⟩
    intro g _f hI
    obtain ⟨hg, hall⟩ := hI
    refine s_seq ?_
    refine s_region ?_
    refine o_val rfl rfl rfl (y_lss rfl rfl) ?_
    refine o_nil ?_
    refine s_seq ?_
    refine s_if rfl (fun h3 => ?_) (fun h4 => ?_)
    · refine s_skip ?_
      refine s_seq ?_
      refine s_block ?_
      refine s_seq ?_
      refine s_region ?_
      refine o_val rfl rfl rfl (y_move (v := (.int _ _)) rfl) ?_
      refine o_val rfl rfl rfl (y_indexAddr Try.runUnderlying45 Try.sizeOf136 (some_at (sz := 2) encIt_len (i := 0) h (by omega)) rfl rfl (by omega)) ?_
      refine o_val rfl rfl rfl (y_loads (cs := [_, _, _]) Try.isAgg136 Try.sizeOf136 rfl (by unfold idx; rw [Option.isSome_map]; exact some_at (sz := 2) encIt_len (i := 0) h (by omega)) rfl (cels_at (sz := 3) encIt_len h.here (by omega))) ?_
      refine o_alloc rfl Try.zeroValue136 rfl (fun b5 => ?_)
      refine o_val rfl rfl rfl (y_assign (v := (.int _ _)) rfl) ?_
      refine o_stores (vs := [(.int _ _), (.int _ _), (.slice _ _ _)]) 0 rfl Try.sizeOf136 rfl rfl rfl (by simp [Value.oneCell']) (by simp) ?_
      refine o_nil ?_
      refine s_seq ?_
      refine s_region ?_
      refine o_val rfl rfl rfl (y_move (v := (.slice _ _ _)) rfl) ?_
      refine o_val rfl rfl rfl (y_move (v := (.int _ _)) rfl) ?_
      refine o_val rfl rfl rfl (y_indexAddr Try.runUnderlying45 Try.sizeOf136 (some_at (sz := 2) encIt_len (i := 0) h' (by omega)) rfl rfl (by omega)) ?_
      refine o_val rfl rfl rfl (y_loads (cs := [_, _, _]) Try.isAgg136 Try.sizeOf136 rfl (by unfold idx; rw [Option.isSome_map]; exact some_at (sz := 2) encIt_len (i := 0) h' (by omega)) rfl (cels_at (sz := 3) encIt_len h'.here (by omega))) ?_
      refine o_alloc rfl Try.zeroValue136 rfl (fun b6 => ?_)
      refine o_stores (vs := [(.int _ _), (.int _ _), (.slice _ _ _)]) 1 rfl Try.sizeOf136 rfl rfl rfl (by simp [Value.oneCell']) (by simp) ?_
      refine o_nil ?_
      refine s_norm [[(_, .cells [(.int _ _), (.int _ _), (.slice _ _ _)].toArray 136 (0, 0))], [(_, .cells [(.int _ _), (.int _ _), (.slice _ _ _)].toArray 136 (0, 0))]] rfl ?_
      refine s_forget [(1, (.slice _ _ _)), (2, (.func _ _ _)), (8, (.pointer _)), (9, (.pointer _)), (15, (.slice _ _ _)), (16, (.int _ _)), (17, (.int _ _))] ⟨rfl, rfl, rfl, rfl, rfl, rfl, rfl, trivial⟩ (fun _f => ?_)
      refine s_seq ?_
      refine s_region ?_
      have hx := hX _ (getD_mem' (show g < xs.length by omega) : (xs.getD ((g : Nat) : Int).toNat default) ∈ xs)
      have hy := hY _ (getD_mem' (show g < ys.length by omega) : (ys.getD ((g : Nat) : Int).toNat default) ∈ ys)
      refine o_val rfl rfl rfl (y_move (v := (.func _ _ _)) rfl) ?_
      refine o_val rfl rfl rfl (y_loads (cs := [_, _, _]) Try.isAgg136 Try.sizeOf136 rfl rfl rfl (cels_own 0 rfl rfl)) ?_
      refine o_val rfl rfl rfl (y_loads (cs := [_, _, _]) Try.isAgg136 Try.sizeOf136 rfl rfl rfl (cels_own 1 rfl rfl)) ?_
      refine o_fnv' 0 (d := 29) rfl hcall rfl rfl rfl (hf _ (xs.getD ((g : Nat) : Int).toNat default) (ys.getD ((g : Nat) : Int).toNat default) (hx.sub MSub.ext) (hy.sub MSub.ext)) ?_
      rintro _ _ ⟨rfl, rfl⟩
      refine o_val rfl rfl rfl (y_not rfl) ?_
      refine o_nil ?_
      refine s_if rfl (fun h7 => ?_) (fun h8 => ?_)
      · have hne := h7
        refine s_seq ?_
        refine s_region ?_
        refine o_val rfl rfl rfl (y_assign (v := (.bool _)) rfl) ?_
        refine o_nil ?_
        refine s_ret ?_
        exact ⟨_, [], res1 rfl rfl, ⟨congrArg Value.bool (decide_eq_false (fun hh => hne (hh.2 g (by omega)))).symm, rfl⟩, sub_picks [] rfl⟩
      · have heq := Decidable.not_not.1 h8
        refine s_skip ?_
        refine s_region ?_
        refine o_val rfl rfl rfl (y_add rfl rfl (by simp only [inK]; omega)) ?_
        refine o_val rfl rfl rfl (y_move (v := (.int _ _)) rfl) ?_
        refine o_nil ?_
        exact ⟨g + 1, (by first | omega | (dsimp only; omega)), ⟨by omega, all_next hall heq⟩, ⟨(congrArg (Value.int .i64) (by omega)), rfl, rfl, rfl, rfl, trivial⟩, (sub_picks [] rfl)⟩
    · refine s_exit ?_
      refine s_seq ?_
      refine s_region ?_
      refine o_val rfl rfl rfl (y_assign (v := (.bool _)) rfl) ?_
      refine o_nil ?_
      refine s_ret ?_
      exact ⟨_, [], res1 rfl rfl, ⟨congrArg Value.bool (decide_eq_true (⟨by omega, fun j hj => hall j (by omega)⟩)).symm, rfl⟩, sub_picks [] rfl⟩

theorem SameComps1_c {V : Mem} (x y : CR) (hx : COK V x) (hy : COK V y) : CallS Try.prog 163 [.agg #[.int .i64 x.kind, .slice x.A x.n x.c], .agg #[.int .i64 y.kind, .slice y.A y.n y.c]].toArray V [] (fun r L' => r = .bool (decide (x.d = y.d)) ∧ L' = []) := by
  refine callS Try.func163 rfl rfl (fun w0 => ?_)
  refine s_seq ?_
  refine s_region ?_
  refine o_box (v := (.agg #[(.int _ _), (.slice _ _ _)])) rfl rfl rfl (fun b1 => ?_)
  refine o_box (v := (.agg #[(.int _ _), (.slice _ _ _)])) rfl rfl rfl (fun b2 => ?_)
  refine o_val rfl rfl rfl (y_assign (v := (.bool _)) rfl) ?_
  refine o_nil ?_
  refine s_seq ?_
  refine s_region ?_
  refine o_val rfl rfl rfl (y_field0 Try.runUnderlying155 rfl Try.sizeOf3 rfl rfl) ?_
  refine o_val rfl rfl rfl (y_load Try.isAgg3 rfl (cel_own 0 rfl rfl)) ?_
  refine o_val rfl rfl rfl (y_field0 Try.runUnderlying155 rfl Try.sizeOf3 rfl rfl) ?_
  refine o_val rfl rfl rfl (y_load Try.isAgg3 rfl (cel_own 1 rfl rfl)) ?_
  refine o_split rfl rfl rfl (y_eql rfl rfl) (fun p3 => ?_) (fun p4 => ?_)
  · have hk : x.kind = y.kind := p3
    refine o_val rfl rfl rfl (y_move (v := (.bool _)) rfl) ?_
    refine o_guard_yes rfl rfl ?_
    refine o_val rfl rfl rfl (y_field0 Try.runUnderlying155 rfl Try.sizeOf22 rfl rfl) ?_
    refine o_guard_yes rfl rfl ?_
    refine o_val rfl rfl rfl (y_load Try.isAgg22 rfl (cel_own 0 rfl rfl)) ?_
    refine o_guard_yes rfl rfl ?_
    refine o_val rfl rfl rfl (y_field0 Try.runUnderlying155 rfl Try.sizeOf22 rfl rfl) ?_
    refine o_guard_yes rfl rfl ?_
    refine o_val rfl rfl rfl (y_load Try.isAgg22 rfl (cel_own 1 rfl rfl)) ?_
    refine o_guard_yes rfl rfl ?_
    refine o_fn 0 (d := 15) rfl Try.call21 (EqualI_c x.A x.n x.c x.vs hx.2.2.2.here.down hx.1 y.A y.n y.c y.vs hy.2.2.2.here.down hy.1 (by have := hx.2.2.1; omega)) rfl ?_
    rintro _ _ ⟨rfl, rfl⟩
    refine o_val rfl rfl rfl (y_pick_t (v := (.bool _)) rfl rfl) ?_
    refine o_val rfl rfl rfl (y_assign (v := (.bool _)) rfl) ?_
    refine o_nil ?_
    refine s_forget [(4, (.bool _))] ⟨rfl, trivial⟩ (fun _f => ?_)
    refine s_ret ?_
    exact ⟨_, [], res1 rfl rfl, ⟨congrArg Value.bool (decide_eq_decide.2 ⟨fun hh => Prod.ext hk hh, fun hh => congrArg Prod.snd hh⟩), rfl⟩, sub_picks [] rfl⟩
  · have hk : ¬ x.kind = y.kind := p4
    refine o_val rfl rfl rfl (y_move (v := (.bool _)) rfl) ?_
    refine o_guard_no rfl rfl rfl rfl rfl ?_
    refine o_guard_no rfl rfl rfl rfl rfl ?_
    refine o_guard_no rfl rfl rfl rfl rfl ?_
    refine o_guard_no rfl rfl rfl rfl rfl ?_
    refine o_guard_no rfl rfl rfl rfl rfl ?_
    refine o_val rfl rfl rfl (y_pick_f (v := (.bool _)) rfl rfl) ?_
    refine o_val rfl rfl rfl (y_assign (v := (.bool _)) rfl) ?_
    refine o_nil ?_
    refine s_forget [(4, (.bool _))] ⟨rfl, trivial⟩ (fun _f => ?_)
    refine s_ret ?_
    exact ⟨_, [], res1 rfl rfl, ⟨congrArg Value.bool ((decide_eq_false (fun hh => hk (congrArg Prod.fst hh))).symm), rfl⟩, sub_picks [] rfl⟩

theorem SameComps_c {V : Mem} (A : Option Addr) (n c : Nat) (xs : List CR) (h : CsOK V A n c xs) (B : Option Addr) (m d : Nat) (ys : List CR) (h' : CsOK V B m d ys) : CallS Try.prog 108 [.slice A n c, .slice B m d].toArray V [] (fun r L' => r = .bool (decide (xs.map CR.d = ys.map CR.d)) ∧ L' = []) := by
  refine callS Try.func108 rfl rfl (fun w0 => ?_)
  refine s_seq ?_
  refine s_region ?_
  refine o_val rfl rfl rfl (y_assign (v := (.bool _)) rfl) ?_
  refine o_nil ?_
  refine s_seq ?_
  refine s_region ?_
  refine o_val rfl rfl rfl (y_move (v := (.slice _ _ _)) rfl) ?_
  refine o_val rfl rfl rfl (y_move (v := (.slice _ _ _)) rfl) ?_
  refine o_fn 0 (d := 7) rfl Try.call129 (EqualFC_c A n c xs h.2.2.2.1.here.down h.1 (by have := h.2.2.1; omega) (fun z hz => (h.2.2.2.2 z hz).sub MSub.ext) B m d ys h'.2.2.2.1.here.down h'.1 (by have := h'.2.2.1; omega) (fun z hz => (h'.2.2.2.2 z hz).sub MSub.ext) 163 [] Try.call163 (fun a b => a.d = b.d) (fun V' a b ha hb => SameComps1_c a b ha hb)) rfl ?_
  rintro _ _ ⟨rfl, rfl⟩
  refine o_val rfl rfl rfl (y_assign (v := (.bool _)) rfl) ?_
  refine o_nil ?_
  refine s_ret ?_
  exact ⟨_, [], res1 rfl rfl, ⟨congrArg Value.bool (decide_eq_decide.2 all2_map), rfl⟩, sub_picks [] rfl⟩

theorem RSameComps1_c {V : Mem} (x y : CR) (hx : COK V x) (hy : COK V y) : CallS Try.prog 162 [.agg #[.int .i64 x.kind, .slice x.A x.n x.c], .agg #[.int .i64 y.kind, .slice y.A y.n y.c]].toArray V [] (fun r L' => r = .bool (decide (x.d = y.d)) ∧ L' = []) := by
  refine callS Try.func162 rfl rfl (fun w0 => ?_)
  refine s_seq ?_
  refine s_region ?_
  refine o_box (v := (.agg #[(.int _ _), (.slice _ _ _)])) rfl rfl rfl (fun b1 => ?_)
  refine o_box (v := (.agg #[(.int _ _), (.slice _ _ _)])) rfl rfl rfl (fun b2 => ?_)
  refine o_val rfl rfl rfl (y_assign (v := (.bool _)) rfl) ?_
  refine o_nil ?_
  refine s_seq ?_
  refine s_region ?_
  refine o_val rfl rfl rfl (y_field0 Try.runUnderlying155 rfl Try.sizeOf3 rfl rfl) ?_
  refine o_val rfl rfl rfl (y_load Try.isAgg3 rfl (cel_own 0 rfl rfl)) ?_
  refine o_val rfl rfl rfl (y_field0 Try.runUnderlying155 rfl Try.sizeOf3 rfl rfl) ?_
  refine o_val rfl rfl rfl (y_load Try.isAgg3 rfl (cel_own 1 rfl rfl)) ?_
  refine o_split rfl rfl rfl (y_eql rfl rfl) (fun p3 => ?_) (fun p4 => ?_)
  · have hk : x.kind = y.kind := p3
    refine o_val rfl rfl rfl (y_move (v := (.bool _)) rfl) ?_
    refine o_guard_yes rfl rfl ?_
    refine o_val rfl rfl rfl (y_field0 Try.runUnderlying155 rfl Try.sizeOf22 rfl rfl) ?_
    refine o_guard_yes rfl rfl ?_
    refine o_val rfl rfl rfl (y_load Try.isAgg22 rfl (cel_own 0 rfl rfl)) ?_
    refine o_guard_yes rfl rfl ?_
    refine o_val rfl rfl rfl (y_field0 Try.runUnderlying155 rfl Try.sizeOf22 rfl rfl) ?_
    refine o_guard_yes rfl rfl ?_
    refine o_val rfl rfl rfl (y_load Try.isAgg22 rfl (cel_own 1 rfl rfl)) ?_
    refine o_guard_yes rfl rfl ?_
    refine o_fn 0 (d := 15) rfl Try.call21 (EqualI_c x.A x.n x.c x.vs hx.2.2.2.here.down hx.1 y.A y.n y.c y.vs hy.2.2.2.here.down hy.1 (by have := hx.2.2.1; omega)) rfl ?_
    rintro _ _ ⟨rfl, rfl⟩
    refine o_val rfl rfl rfl (y_pick_t (v := (.bool _)) rfl rfl) ?_
    refine o_val rfl rfl rfl (y_assign (v := (.bool _)) rfl) ?_
    refine o_nil ?_
    refine s_forget [(4, (.bool _))] ⟨rfl, trivial⟩ (fun _f => ?_)
    refine s_ret ?_
    exact ⟨_, [], res1 rfl rfl, ⟨congrArg Value.bool (decide_eq_decide.2 ⟨fun hh => Prod.ext hk hh, fun hh => congrArg Prod.snd hh⟩), rfl⟩, sub_picks [] rfl⟩
  · have hk : ¬ x.kind = y.kind := p4
    refine o_val rfl rfl rfl (y_move (v := (.bool _)) rfl) ?_
    refine o_guard_no rfl rfl rfl rfl rfl ?_
    refine o_guard_no rfl rfl rfl rfl rfl ?_
    refine o_guard_no rfl rfl rfl rfl rfl ?_
    refine o_guard_no rfl rfl rfl rfl rfl ?_
    refine o_guard_no rfl rfl rfl rfl rfl ?_
    refine o_val rfl rfl rfl (y_pick_f (v := (.bool _)) rfl rfl) ?_
    refine o_val rfl rfl rfl (y_assign (v := (.bool _)) rfl) ?_
    refine o_nil ?_
    refine s_forget [(4, (.bool _))] ⟨rfl, trivial⟩ (fun _f => ?_)
    refine s_ret ?_
    exact ⟨_, [], res1 rfl rfl, ⟨congrArg Value.bool ((decide_eq_false (fun hh => hk (congrArg Prod.fst hh))).symm), rfl⟩, sub_picks [] rfl⟩

theorem RSameComps_c {V : Mem} (A : Option Addr) (n c : Nat) (xs : List CR) (h : CsOK V A n c xs) (B : Option Addr) (m d : Nat) (ys : List CR) (h' : CsOK V B m d ys) : CallS Try.prog 104 [.slice A n c, .slice B m d].toArray V [] (fun r L' => r = .bool (decide (xs.map CR.d = ys.map CR.d)) ∧ L' = []) := by
  refine callS Try.func104 rfl rfl (fun w0 => ?_)
  refine s_seq ?_
  refine s_region ?_
  refine o_val rfl rfl rfl (y_assign (v := (.bool _)) rfl) ?_
  refine o_nil ?_
  refine s_seq ?_
  refine s_region ?_
  refine o_val rfl rfl rfl (y_move (v := (.slice _ _ _)) rfl) ?_
  refine o_val rfl rfl rfl (y_move (v := (.slice _ _ _)) rfl) ?_
  refine o_fn 0 (d := 7) rfl Try.call129 (EqualFC_c A n c xs h.2.2.2.1.here.down h.1 (by have := h.2.2.1; omega) (fun z hz => (h.2.2.2.2 z hz).sub MSub.ext) B m d ys h'.2.2.2.1.here.down h'.1 (by have := h'.2.2.1; omega) (fun z hz => (h'.2.2.2.2 z hz).sub MSub.ext) 162 [] Try.call162 (fun a b => a.d = b.d) (fun V' a b ha hb => RSameComps1_c a b ha hb)) rfl ?_
  rintro _ _ ⟨rfl, rfl⟩
  refine o_val rfl rfl rfl (y_assign (v := (.bool _)) rfl) ?_
  refine o_nil ?_
  refine s_ret ?_
  exact ⟨_, [], res1 rfl rfl, ⟨congrArg Value.bool (decide_eq_decide.2 all2_map), rfl⟩, sub_picks [] rfl⟩

theorem SameI1_c {V : Mem} (x y : IR) (hx : IOK V x) (hy : IOK V y) : CallS Try.prog 107 [.agg #[.int .i64 x.e, .int .i64 x.g, .slice x.A x.n x.c], .agg #[.int .i64 y.e, .int .i64 y.g, .slice y.A y.n y.c]].toArray V [] (fun r L' => r = .bool (decide (x.d = y.d)) ∧ L' = []) := by
  refine callS Try.func107 rfl rfl (fun w0 => ?_)
  refine s_seq ?_
  refine s_region ?_
  refine o_box (v := (.agg #[(.int _ _), (.int _ _), (.slice _ _ _)])) rfl rfl rfl (fun b1 => ?_)
  refine o_box (v := (.agg #[(.int _ _), (.int _ _), (.slice _ _ _)])) rfl rfl rfl (fun b2 => ?_)
  refine o_val rfl rfl rfl (y_assign (v := (.bool _)) rfl) ?_
  refine o_nil ?_
  refine s_seq ?_
  refine s_region ?_
  refine o_val rfl rfl rfl (y_field0 Try.runUnderlying136 rfl Try.sizeOf117 rfl rfl) ?_
  refine o_val rfl rfl rfl (y_loads (cs := [_, _]) Try.isAgg117 Try.sizeOf117 rfl rfl rfl (cels_own 0 rfl rfl)) ?_
  refine o_val rfl rfl rfl (y_field0 Try.runUnderlying136 rfl Try.sizeOf117 rfl rfl) ?_
  refine o_val rfl rfl rfl (y_loads (cs := [_, _]) Try.isAgg117 Try.sizeOf117 rfl rfl rfl (cels_own 1 rfl rfl)) ?_
  refine o_split rfl rfl rfl (y_eql_ent rfl rfl) (fun p3 => ?_) (fun p4 => ?_)
  · have hk : x.e = y.e ∧ x.g = y.g := p3
    refine o_val rfl rfl rfl (y_move (v := (.bool _)) rfl) ?_
    refine o_guard_yes rfl rfl ?_
    refine o_val rfl rfl rfl (y_field0 Try.runUnderlying136 rfl Try.sizeOf33 rfl rfl) ?_
    refine o_guard_yes rfl rfl ?_
    refine o_val rfl rfl rfl (y_load Try.isAgg33 rfl (cel_own 0 rfl rfl)) ?_
    refine o_guard_yes rfl rfl ?_
    refine o_val rfl rfl rfl (y_field0 Try.runUnderlying136 rfl Try.sizeOf33 rfl rfl) ?_
    refine o_guard_yes rfl rfl ?_
    refine o_val rfl rfl rfl (y_load Try.isAgg33 rfl (cel_own 1 rfl rfl)) ?_
    refine o_guard_yes rfl rfl ?_
    refine o_fn 0 (d := 15) rfl Try.call108 (SameComps_c x.A x.n x.c x.cs (CsOK.sub hx MSub.ext) y.A y.n y.c y.cs (CsOK.sub hy MSub.ext)) rfl ?_
    rintro _ _ ⟨rfl, rfl⟩
    refine o_val rfl rfl rfl (y_pick_t (v := (.bool _)) rfl rfl) ?_
    refine o_val rfl rfl rfl (y_assign (v := (.bool _)) rfl) ?_
    refine o_nil ?_
    refine s_forget [(4, (.bool _))] ⟨rfl, trivial⟩ (fun _f => ?_)
    refine s_ret ?_
    exact ⟨_, [], res1 rfl rfl, ⟨congrArg Value.bool (decide_eq_decide.2 ⟨fun hh => Prod.ext hk.1 (Prod.ext hk.2 hh), fun hh => congrArg (fun q => q.2.2) hh⟩), rfl⟩, sub_picks [] rfl⟩
  · have hk : ¬ (x.e = y.e ∧ x.g = y.g) := p4
    refine o_val rfl rfl rfl (y_move (v := (.bool _)) rfl) ?_
    refine o_guard_no rfl rfl rfl rfl rfl ?_
    refine o_guard_no rfl rfl rfl rfl rfl ?_
    refine o_guard_no rfl rfl rfl rfl rfl ?_
    refine o_guard_no rfl rfl rfl rfl rfl ?_
    refine o_guard_no rfl rfl rfl rfl rfl ?_
    refine o_val rfl rfl rfl (y_pick_f (v := (.bool _)) rfl rfl) ?_
    refine o_val rfl rfl rfl (y_assign (v := (.bool _)) rfl) ?_
    refine o_nil ?_
    refine s_forget [(4, (.bool _))] ⟨rfl, trivial⟩ (fun _f => ?_)
    refine s_ret ?_
    exact ⟨_, [], res1 rfl rfl, ⟨congrArg Value.bool ((decide_eq_false (fun hh => hk ⟨congrArg Prod.fst hh, congrArg (fun q => q.2.1) hh⟩)).symm), rfl⟩, sub_picks [] rfl⟩

theorem flds_eq {xs ys : List FR} (hl : xs.length = ys.length) (h : ∀ j, j < xs.length → (xs.getD j default).name = (ys.getD j default).name ∧ (xs.getD j default).bits = (ys.getD j default).bits ∧ (xs.getD j default).low = (ys.getD j default).low) : xs = ys := by
  refine all2_eq.1 ⟨hl, fun j hj => ?_⟩
  obtain ⟨h1, h2, h3⟩ := h j hj
  cases hx : xs.getD j default
  cases hy : ys.getD j default
  rw [hx, hy] at h1 h2 h3
  simp_all
/-- What a world says. -/
def WR.d (w : WR) : List (ByteArray × List FR) × List Int × List (Int × Int × List (Int × List Int)) := (w.ks.map KR.d, w.gs, w.its.map IR.d)
instance (w v : WR) : Decidable (w.d = v.d) := decidable_of_iff (w.ks.map KR.d = v.ks.map KR.d ∧ w.gs = v.gs ∧ w.its.map IR.d = v.its.map IR.d) ⟨fun h => Prod.ext h.1 (Prod.ext h.2.1 h.2.2), fun h => ⟨congrArg Prod.fst h, congrArg (fun q => q.2.1) h, congrArg (fun q => q.2.2) h⟩⟩

theorem SameK_c {V : Mem} (A : Option Addr) (n c : Nat) (xs : List KR) (hX : KsOK V A n c xs) (B : Option Addr) (m d : Nat) (ys : List KR) (hY : KsOK V B m d ys) : CallS Try.prog 105 [.slice A n c, .slice B m d].toArray V [] (fun r L' => r = .bool (decide (xs.map KR.d = ys.map KR.d)) ∧ L' = []) := by
  have hx := hX.2.2.2.1
  have hy := hY.2.2.2.1
  have hxl := hX.1
  have hyl := hY.1
  refine callS Try.func105 rfl rfl (fun w0 => ?_)
  refine s_seq ?_
  refine s_region ?_
  refine o_val rfl rfl rfl (y_assign (v := (.bool _)) rfl) ?_
  refine o_nil ?_
  refine s_seq ?_
  refine s_seq ?_
  refine s_region ?_
  refine o_val rfl rfl rfl (y_move (v := (.slice _ _ _)) rfl) ?_
  refine o_val rfl rfl rfl (y_len Try.runUnderlying23 rfl) ?_
  refine o_val rfl rfl rfl (y_move (v := (.slice _ _ _)) rfl) ?_
  refine o_val rfl rfl rfl (y_len Try.runUnderlying23 rfl) ?_
  refine o_val rfl rfl rfl (y_neq rfl rfl) ?_
  refine o_nil ?_
  refine s_if rfl (fun h1 => ?_) (fun h2 => ?_)
  · refine s_seq ?_
    refine s_region ?_
    refine o_val rfl rfl rfl (y_assign (v := (.bool _)) rfl) ?_
    refine o_nil ?_
    refine s_ret ?_
    exact ⟨_, [], res1 rfl rfl, ⟨congrArg Value.bool (decide_eq_false (fun hh => by have := congrArg List.length hh; simp only [List.length_map] at this; omega)).symm, rfl⟩, sub_picks [] rfl⟩
  · refine s_skip ?_
    refine s_seq ?_
    refine s_seq ?_
    refine s_region ?_
    refine o_val rfl rfl rfl (y_move (v := (.slice _ _ _)) rfl) ?_
    refine o_val rfl rfl rfl (y_len Try.runUnderlying23 rfl) ?_
    refine o_val rfl rfl rfl (y_move (v := (.int _ _)) rfl) ?_
    refine o_nil ?_
    refine s_block ?_
    refine s_loopK (γ := Nat) [(0, (.slice _ _ _)), (1, (.slice _ _ _)), (13, (.int _ _))] [] (fun g => [(14, .int .i64 g)]) (fun g => []) (fun g => g ≤ n ∧ ∀ j, j < g → KR.d (xs.getD j default) = KR.d (ys.getD j default)) (fun g => n - g) (0) ⟨rfl, rfl, rfl, rfl, trivial⟩ (sub_picks [] rfl) ?_ ?_
    · exact ⟨Nat.zero_le _, fun j hj => absurd hj (Nat.not_lt_zero j)⟩
    intro g _f hI
    obtain ⟨hg, hall⟩ := hI
    refine s_seq ?_
    refine s_region ?_
    refine o_val rfl rfl rfl (y_lss rfl rfl) ?_
    refine o_nil ?_
    refine s_seq ?_
    refine s_if rfl (fun h3 => ?_) (fun h4 => ?_)
    · refine s_skip ?_
      refine s_seq ?_
      refine s_block ?_
      refine s_seq ?_
      refine s_region ?_
      refine o_val rfl rfl rfl (y_move (v := (.int _ _)) rfl) ?_
      refine o_val rfl rfl rfl (y_assign (v := (.int _ _)) rfl) ?_
      refine o_nil ?_
      refine s_seq ?_
      refine s_seq ?_
      refine s_quiet (by kernel_rfl) (by kernel_rfl) ?_
      have hkx := hX.2.2.2.2 _ (getD_mem' (show g < xs.length by omega) : (xs.getD ((g : Nat) : Int).toNat default) ∈ xs)
      have hky := hY.2.2.2.2 _ (getD_mem' (show g < ys.length by omega) : (ys.getD ((g : Nat) : Int).toNat default) ∈ ys)
      refine q_val rfl rfl rfl (y_move (v := (.slice _ _ _)) rfl) ?_
      refine q_val rfl rfl rfl (y_move (v := (.int _ _)) rfl) ?_
      refine q_val rfl rfl rfl (y_indexAddr Try.runUnderlying23 Try.sizeOf58 (some_at (sz := 1) encK_len (i := 0) hx (by omega)) rfl rfl (by omega)) ?_
      refine q_val rfl rfl rfl (y_fieldX (F := 0) Try.runUnderlying58 rfl Try.sizeOf9 rfl (some_at (sz := 1) encK_len (i := 0) hx (by omega)) rfl) ?_
      refine q_val rfl rfl rfl (y_load Try.isAgg9 rfl ((cels_at (sz := 2) encK_len hx.here (by omega)).cel' (i := 0) rfl)) ?_
      refine q_val rfl rfl rfl (y_move (v := (.slice _ _ _)) rfl) ?_
      refine q_val rfl rfl rfl (y_move (v := (.int _ _)) rfl) ?_
      refine q_val rfl rfl rfl (y_indexAddr Try.runUnderlying23 Try.sizeOf58 (some_at (sz := 1) encK_len (i := 0) hy (by omega)) rfl rfl (by omega)) ?_
      refine q_val rfl rfl rfl (y_fieldX (F := 0) Try.runUnderlying58 rfl Try.sizeOf9 rfl (some_at (sz := 1) encK_len (i := 0) hy (by omega)) rfl) ?_
      refine q_val rfl rfl rfl (y_load Try.isAgg9 rfl ((cels_at (sz := 2) encK_len hy.here (by omega)).cel' (i := 0) rfl)) ?_
      refine q_split rfl rfl rfl (y_neq_str rfl rfl) (fun p5 => ?_) (fun p6 => ?_)
      · refine q_val rfl rfl rfl (y_move (v := (.bool _)) rfl) ?_
        refine q_guard_no rfl rfl rfl rfl rfl ?_
        refine q_guard_no rfl rfl rfl rfl rfl ?_
        refine q_guard_no rfl rfl rfl rfl rfl ?_
        refine q_guard_no rfl rfl rfl rfl rfl ?_
        refine q_guard_no rfl rfl rfl rfl rfl ?_
        refine q_guard_no rfl rfl rfl rfl rfl ?_
        refine q_guard_no rfl rfl rfl rfl rfl ?_
        refine q_guard_no rfl rfl rfl rfl rfl ?_
        refine q_guard_no rfl rfl rfl rfl rfl ?_
        refine q_guard_no rfl rfl rfl rfl rfl ?_
        refine q_guard_no rfl rfl rfl rfl rfl ?_
        refine q_guard_no rfl rfl rfl rfl rfl ?_
        refine q_guard_no rfl rfl rfl rfl rfl ?_
        refine q_val rfl rfl rfl (y_pick_t (v := (.bool _)) rfl rfl) ?_
        refine q_nil ?_
        refine s_forget [(0, (.slice _ _ _)), (1, (.slice _ _ _)), (5, (.int _ _)), (13, (.int _ _)), (14, (.int _ _)), (42, (.bool _))] ⟨rfl, rfl, rfl, rfl, rfl, rfl, trivial⟩ (fun _f => ?_)
        refine s_then rfl ?_
        refine s_seq ?_
        refine s_region ?_
        refine o_val rfl rfl rfl (y_assign (v := (.bool _)) rfl) ?_
        refine o_nil ?_
        refine s_ret ?_
        exact ⟨_, [], res1 rfl rfl, ⟨congrArg Value.bool (decide_eq_false (fun hh => by have e : KR.d (xs.getD ((g : Nat) : Int).toNat default) = KR.d (ys.getD ((g : Nat) : Int).toNat default) := (all2_map.2 hh).2 g (by omega); first | exact absurd (congrArg Prod.fst e) (by assumption) | (have e2 := congrArg (fun q => q.2.length) e; have e3 : (xs.getD ((g : Nat) : Int).toNat default).fs.length = (ys.getD ((g : Nat) : Int).toNat default).fs.length := e2; have := hkx.1; have := hky.1; omega))).symm, rfl⟩, sub_picks [] rfl⟩
      · refine q_val rfl rfl rfl (y_move (v := (.bool _)) rfl) ?_
        refine q_guard_yes rfl rfl ?_
        refine q_val rfl rfl rfl (y_move (v := (.slice _ _ _)) rfl) ?_
        refine q_guard_yes rfl rfl ?_
        refine q_val rfl rfl rfl (y_move (v := (.int _ _)) rfl) ?_
        refine q_guard_yes rfl rfl ?_
        refine q_val rfl rfl rfl (y_indexAddr Try.runUnderlying23 Try.sizeOf58 (some_at (sz := 1) encK_len (i := 0) hx (by omega)) rfl rfl (by omega)) ?_
        refine q_guard_yes rfl rfl ?_
        refine q_val rfl rfl rfl (y_fieldX (F := 1) Try.runUnderlying58 rfl Try.sizeOf56 rfl (some_at (sz := 1) encK_len (i := 0) hx (by omega)) rfl) ?_
        refine q_guard_yes rfl rfl ?_
        refine q_val rfl rfl rfl (y_load Try.isAgg56 rfl ((cels_at (sz := 2) encK_len hx.here (by omega)).cel' (i := 1) rfl)) ?_
        refine q_guard_yes rfl rfl ?_
        refine q_val rfl rfl rfl (y_len Try.runUnderlying56 rfl) ?_
        refine q_guard_yes rfl rfl ?_
        refine q_val rfl rfl rfl (y_move (v := (.slice _ _ _)) rfl) ?_
        refine q_guard_yes rfl rfl ?_
        refine q_val rfl rfl rfl (y_move (v := (.int _ _)) rfl) ?_
        refine q_guard_yes rfl rfl ?_
        refine q_val rfl rfl rfl (y_indexAddr Try.runUnderlying23 Try.sizeOf58 (some_at (sz := 1) encK_len (i := 0) hy (by omega)) rfl rfl (by omega)) ?_
        refine q_guard_yes rfl rfl ?_
        refine q_val rfl rfl rfl (y_fieldX (F := 1) Try.runUnderlying58 rfl Try.sizeOf56 rfl (some_at (sz := 1) encK_len (i := 0) hy (by omega)) rfl) ?_
        refine q_guard_yes rfl rfl ?_
        refine q_val rfl rfl rfl (y_load Try.isAgg56 rfl ((cels_at (sz := 2) encK_len hy.here (by omega)).cel' (i := 1) rfl)) ?_
        refine q_guard_yes rfl rfl ?_
        refine q_val rfl rfl rfl (y_len Try.runUnderlying56 rfl) ?_
        refine q_guard_yes rfl rfl ?_
        refine q_val rfl rfl rfl (y_neq rfl rfl) ?_
        refine q_val rfl rfl rfl (y_pick_f (v := (.bool _)) rfl rfl) ?_
        refine q_nil ?_
        refine s_forget [(0, (.slice _ _ _)), (1, (.slice _ _ _)), (5, (.int _ _)), (13, (.int _ _)), (14, (.int _ _)), (42, (.bool _))] ⟨rfl, rfl, rfl, rfl, rfl, rfl, trivial⟩ (fun _f => ?_)
        refine s_if rfl (fun h7 => ?_) (fun h8 => ?_)
        · refine s_seq ?_
          refine s_region ?_
          refine o_val rfl rfl rfl (y_assign (v := (.bool _)) rfl) ?_
          refine o_nil ?_
          refine s_ret ?_
          exact ⟨_, [], res1 rfl rfl, ⟨congrArg Value.bool (decide_eq_false (fun hh => by have e : KR.d (xs.getD ((g : Nat) : Int).toNat default) = KR.d (ys.getD ((g : Nat) : Int).toNat default) := (all2_map.2 hh).2 g (by omega); first | exact absurd (congrArg Prod.fst e) (by assumption) | (have e2 := congrArg (fun q => q.2.length) e; have e3 : (xs.getD ((g : Nat) : Int).toNat default).fs.length = (ys.getD ((g : Nat) : Int).toNat default).fs.length := e2; have := hkx.1; have := hky.1; omega))).symm, rfl⟩, sub_picks [] rfl⟩
        · refine s_skip ?_
          refine s_seq ?_
          refine s_region ?_
          refine o_val rfl rfl rfl (y_move (v := (.slice _ _ _)) rfl) ?_
          refine o_val rfl rfl rfl (y_move (v := (.int _ _)) rfl) ?_
          refine o_val rfl rfl rfl (y_indexAddr Try.runUnderlying23 Try.sizeOf58 (some_at (sz := 1) encK_len (i := 0) hx (by omega)) rfl rfl (by omega)) ?_
          refine o_val rfl rfl rfl (y_fieldX (F := 1) Try.runUnderlying58 rfl Try.sizeOf56 rfl (some_at (sz := 1) encK_len (i := 0) hx (by omega)) rfl) ?_
          refine o_val rfl rfl rfl (y_load Try.isAgg56 rfl ((cels_at (sz := 2) encK_len hx.here (by omega)).cel' (i := 1) rfl)) ?_
          refine o_val rfl rfl rfl (y_len Try.runUnderlying56 rfl) ?_
          refine o_val rfl rfl rfl (y_move (v := (.int _ _)) rfl) ?_
          refine o_nil ?_
          refine s_block ?_
          have hnm : (xs.getD ((g : Nat) : Int).toNat default).name = (ys.getD ((g : Nat) : Int).toNat default).name := by first | assumption | exact Decidable.not_not.1 (by assumption)
          refine s_loopK (γ := Nat) [(0, (.slice _ _ _)), (1, (.slice _ _ _)), (5, (.int _ _)), (13, (.int _ _)), (14, (.int _ _)), (48, (.int _ _))] [] (fun u => [(49, .int .i64 u)]) (fun u => []) (fun u => u ≤ (xs.getD ((g : Nat) : Int).toNat default).n ∧ ∀ j, j < u → ((xs.getD ((g : Nat) : Int).toNat default).fs.getD j default).name = ((ys.getD ((g : Nat) : Int).toNat default).fs.getD j default).name ∧ ((xs.getD ((g : Nat) : Int).toNat default).fs.getD j default).bits = ((ys.getD ((g : Nat) : Int).toNat default).fs.getD j default).bits ∧ ((xs.getD ((g : Nat) : Int).toNat default).fs.getD j default).low = ((ys.getD ((g : Nat) : Int).toNat default).fs.getD j default).low) (fun u => (xs.getD ((g : Nat) : Int).toNat default).n - u) (0) ⟨rfl, rfl, rfl, rfl, rfl, rfl, rfl, trivial⟩ (sub_picks [] rfl) ?_ ?_
          · exact ⟨Nat.zero_le _, fun j hj => absurd hj (Nat.not_lt_zero j)⟩
          intro u _f hJ
          obtain ⟨hu, hfl⟩ := hJ
          refine s_seq ?_
          refine s_region ?_
          refine o_val rfl rfl rfl (y_lss rfl rfl) ?_
          refine o_nil ?_
          refine s_seq ?_
          refine s_if rfl (fun h9 => ?_) (fun h10 => ?_)
          · refine s_skip ?_
            refine s_seq ?_
            refine s_block ?_
            refine s_seq ?_
            refine s_region ?_
            refine o_val rfl rfl rfl (y_move (v := (.int _ _)) rfl) ?_
            refine o_val rfl rfl rfl (y_assign (v := (.int _ _)) rfl) ?_
            refine o_nil ?_
            refine s_seq ?_
            refine s_quiet (by kernel_rfl) (by kernel_rfl) ?_
            refine q_val rfl rfl rfl (y_move (v := (.slice _ _ _)) rfl) ?_
            refine q_val rfl rfl rfl (y_move (v := (.int _ _)) rfl) ?_
            refine q_val rfl rfl rfl (y_indexAddr Try.runUnderlying23 Try.sizeOf58 (some_at (sz := 1) encK_len (i := 0) hx (by omega)) rfl rfl (by omega)) ?_
            refine q_val rfl rfl rfl (y_fieldX (F := 1) Try.runUnderlying58 rfl Try.sizeOf56 rfl (some_at (sz := 1) encK_len (i := 0) hx (by omega)) rfl) ?_
            refine q_val rfl rfl rfl (y_load Try.isAgg56 rfl ((cels_at (sz := 2) encK_len hx.here (by omega)).cel' (i := 1) rfl)) ?_
            refine q_val rfl rfl rfl (y_move (v := (.int _ _)) rfl) ?_
            refine q_val rfl rfl rfl (y_indexAddr Try.runUnderlying56 Try.sizeOf61 (some_at (sz := 2) encF_len (i := 0) hkx.2.2.2 (by have := hkx.1; omega)) rfl rfl (by have := hkx.1; omega)) ?_
            refine q_val rfl rfl rfl (y_loads (cs := [_, _, _]) Try.isAgg61 Try.sizeOf61 rfl (by unfold idx; rw [Option.isSome_map]; exact some_at (sz := 2) encF_len (i := 0) hkx.2.2.2 (by have := hkx.1; omega)) rfl (cels_at (sz := 3) encF_len hkx.2.2.2.here (by have := hkx.1; omega))) ?_
            refine q_val rfl rfl rfl (y_move (v := (.slice _ _ _)) rfl) ?_
            refine q_val rfl rfl rfl (y_move (v := (.int _ _)) rfl) ?_
            refine q_val rfl rfl rfl (y_indexAddr Try.runUnderlying23 Try.sizeOf58 (some_at (sz := 1) encK_len (i := 0) hy (by omega)) rfl rfl (by omega)) ?_
            refine q_val rfl rfl rfl (y_fieldX (F := 1) Try.runUnderlying58 rfl Try.sizeOf56 rfl (some_at (sz := 1) encK_len (i := 0) hy (by omega)) rfl) ?_
            refine q_val rfl rfl rfl (y_load Try.isAgg56 rfl ((cels_at (sz := 2) encK_len hy.here (by omega)).cel' (i := 1) rfl)) ?_
            refine q_val rfl rfl rfl (y_move (v := (.int _ _)) rfl) ?_
            refine q_val rfl rfl rfl (y_indexAddr Try.runUnderlying56 Try.sizeOf61 (some_at (sz := 2) encF_len (i := 0) hky.2.2.2 (by have := hky.1; have := hkx.1; omega)) rfl rfl (by have := hky.1; have := hkx.1; omega)) ?_
            refine q_val rfl rfl rfl (y_loads (cs := [_, _, _]) Try.isAgg61 Try.sizeOf61 rfl (by unfold idx; rw [Option.isSome_map]; exact some_at (sz := 2) encF_len (i := 0) hky.2.2.2 (by have := hky.1; have := hkx.1; omega)) rfl (cels_at (sz := 3) encF_len hky.2.2.2.here (by have := hky.1; have := hkx.1; omega))) ?_
            refine q_val rfl rfl rfl (y_neq_field rfl rfl) ?_
            refine q_nil ?_
            refine s_forget [(0, (.slice _ _ _)), (1, (.slice _ _ _)), (5, (.int _ _)), (13, (.int _ _)), (14, (.int _ _)), (48, (.int _ _)), (49, (.int _ _)), (68, (.bool _))] ⟨rfl, rfl, rfl, rfl, rfl, rfl, rfl, rfl, trivial⟩ (fun _f => ?_)
            refine s_if rfl (fun h11 => ?_) (fun h12 => ?_)
            · have hne := h11
              refine s_seq ?_
              refine s_region ?_
              refine o_val rfl rfl rfl (y_assign (v := (.bool _)) rfl) ?_
              refine o_nil ?_
              refine s_ret ?_
              exact ⟨_, [], res1 rfl rfl, ⟨congrArg Value.bool (decide_eq_false (fun hh => hne (by have e : KR.d (xs.getD ((g : Nat) : Int).toNat default) = KR.d (ys.getD ((g : Nat) : Int).toNat default) := (all2_map.2 hh).2 g (by omega); have e2 : (xs.getD ((g : Nat) : Int).toNat default).fs = (ys.getD ((g : Nat) : Int).toNat default).fs := congrArg Prod.snd e; rw [e2]; exact ⟨rfl, rfl, rfl⟩))).symm, rfl⟩, sub_picks [] rfl⟩
            · have heq := Decidable.not_not.1 h12
              refine s_skip ?_
              refine s_region ?_
              refine o_val rfl rfl rfl (y_add rfl rfl (by have := hkx.2.2.1; simp only [inK]; omega)) ?_
              refine o_val rfl rfl rfl (y_move (v := (.int _ _)) rfl) ?_
              refine o_nil ?_
              exact ⟨u + 1, (by first | omega | (dsimp only; omega)), ⟨by omega, all_next hfl heq⟩, ⟨(congrArg (Value.int .i64) (by omega)), rfl, rfl, rfl, rfl, rfl, rfl, trivial⟩, (sub_picks [] rfl)⟩
          · refine s_exit ?_
            refine s_region ?_
            refine o_val rfl rfl rfl (y_add rfl rfl (by have := hX.2.2.1; simp only [inK]; omega)) ?_
            refine o_val rfl rfl rfl (y_move (v := (.int _ _)) rfl) ?_
            refine o_nil ?_
            have hfe : (xs.getD ((g : Nat) : Int).toNat default).fs = (ys.getD ((g : Nat) : Int).toNat default).fs := flds_eq (by have := hkx.1; have := hky.1; omega) (fun j hj => hfl j (by have := hkx.1; omega))
            exact ⟨g + 1, (by first | omega | (dsimp only; omega)), ⟨by omega, all_next hall (show KR.d (xs.getD ((g : Nat) : Int).toNat default) = KR.d (ys.getD ((g : Nat) : Int).toNat default) from Prod.ext hnm hfe)⟩, ⟨(congrArg (Value.int .i64) (by omega)), rfl, rfl, rfl, trivial⟩, (sub_picks [] rfl)⟩
    · refine s_exit ?_
      refine s_seq ?_
      refine s_region ?_
      refine o_val rfl rfl rfl (y_assign (v := (.bool _)) rfl) ?_
      refine o_nil ?_
      refine s_ret ?_
      exact ⟨_, [], res1 rfl rfl, ⟨congrArg Value.bool (decide_eq_true (all2_map.1 ⟨by omega, fun j hj => hall j (by omega)⟩)).symm, rfl⟩, sub_picks [] rfl⟩

theorem SameW_c {V : Mem} (w : WR) (hw : WOK V w) (v : WR) (hv : WOK V v) : CallS Try.prog 32 [.agg #[.slice w.kA w.kn w.kc, .slice w.gA w.gn w.gc, .slice w.iA w.iN w.iC], .agg #[.slice v.kA v.kn v.kc, .slice v.gA v.gn v.gc, .slice v.iA v.iN v.iC]].toArray V [] (fun r L' => r = .bool (decide (w.d = v.d)) ∧ L' = []) := by
  refine callS Try.func32 rfl rfl (fun w0 => ?_)
  refine s_seq ?_
  refine s_region ?_
  refine o_box (v := (.agg #[(.slice _ _ _), (.slice _ _ _), (.slice _ _ _)])) rfl rfl rfl (fun b1 => ?_)
  refine o_box (v := (.agg #[(.slice _ _ _), (.slice _ _ _), (.slice _ _ _)])) rfl rfl rfl (fun b2 => ?_)
  refine o_val rfl rfl rfl (y_assign (v := (.bool _)) rfl) ?_
  refine o_nil ?_
  refine s_seq ?_
  refine s_region ?_
  refine o_val rfl rfl rfl (y_field0 Try.runUnderlying47 rfl Try.sizeOf23 rfl rfl) ?_
  refine o_val rfl rfl rfl (y_load Try.isAgg23 rfl (cel_own 0 rfl rfl)) ?_
  refine o_val rfl rfl rfl (y_field0 Try.runUnderlying47 rfl Try.sizeOf23 rfl rfl) ?_
  refine o_val rfl rfl rfl (y_load Try.isAgg23 rfl (cel_own 1 rfl rfl)) ?_
  refine o_fn 0 (d := 9) rfl Try.call105 (SameK_c w.kA w.kn w.kc w.ks (hw.1.sub MSub.ext) v.kA v.kn v.kc v.ks (hv.1.sub MSub.ext)) rfl ?_
  rintro _ _ ⟨rfl, rfl⟩
  refine o_split rfl rfl rfl (y_move (v := (.bool _)) rfl) (fun p3 => ?_) (fun p4 => ?_)
  · have hkk := p3
    refine o_guard_yes rfl rfl ?_
    refine o_val rfl rfl rfl (y_field0 Try.runUnderlying47 rfl Try.sizeOf22 rfl rfl) ?_
    refine o_guard_yes rfl rfl ?_
    refine o_val rfl rfl rfl (y_load Try.isAgg22 rfl (cel_own 0 rfl rfl)) ?_
    refine o_guard_yes rfl rfl ?_
    refine o_val rfl rfl rfl (y_field0 Try.runUnderlying47 rfl Try.sizeOf22 rfl rfl) ?_
    refine o_guard_yes rfl rfl ?_
    refine o_val rfl rfl rfl (y_load Try.isAgg22 rfl (cel_own 1 rfl rfl)) ?_
    refine o_guard_yes rfl rfl ?_
    refine o_fn 0 (d := 15) rfl Try.call21 (EqualI_c w.gA w.gn w.gc w.gs hw.2.1.2.2.2.here.down hw.2.1.1 v.gA v.gn v.gc v.gs hv.2.1.2.2.2.here.down hv.2.1.1 (by have := hw.2.1.2.2.1; omega)) rfl ?_
    rintro _ _ ⟨rfl, rfl⟩
    refine o_split rfl rfl rfl (y_pick_t (v := (.bool _)) rfl rfl) (fun p5 => ?_) (fun p6 => ?_)
    · have hgg := p5
      refine o_val rfl rfl rfl (y_move (v := (.bool _)) rfl) ?_
      refine o_guard_yes rfl rfl ?_
      refine o_val rfl rfl rfl (y_field0 Try.runUnderlying47 rfl Try.sizeOf45 rfl rfl) ?_
      refine o_guard_yes rfl rfl ?_
      refine o_val rfl rfl rfl (y_load Try.isAgg45 rfl (cel_own 0 rfl rfl)) ?_
      refine o_guard_yes rfl rfl ?_
      refine o_val rfl rfl rfl (y_field0 Try.runUnderlying47 rfl Try.sizeOf45 rfl rfl) ?_
      refine o_guard_yes rfl rfl ?_
      refine o_val rfl rfl rfl (y_load Try.isAgg45 rfl (cel_own 1 rfl rfl)) ?_
      refine o_guard_yes rfl rfl ?_
      refine o_fn 0 (d := 22) rfl Try.call106 (EqualFI_c w.iA w.iN w.iC w.its hw.2.2.2.2.2.1.here.down hw.2.2.1 (by have := hw.2.2.2.2.1; omega) (fun z hz => (hw.2.2.2.2.2.2 z hz).sub MSub.ext) v.iA v.iN v.iC v.its hv.2.2.2.2.2.1.here.down hv.2.2.1 (by have := hv.2.2.2.2.1; omega) (fun z hz => (hv.2.2.2.2.2.2 z hz).sub MSub.ext) 107 [] Try.call107 (fun a b => a.d = b.d) (fun V' a b ha hb => SameI1_c a b ha hb)) rfl ?_
      rintro _ _ ⟨rfl, rfl⟩
      refine o_val rfl rfl rfl (y_pick_t (v := (.bool _)) rfl rfl) ?_
      refine o_val rfl rfl rfl (y_assign (v := (.bool _)) rfl) ?_
      refine o_nil ?_
      refine s_forget [(4, (.bool _))] ⟨rfl, trivial⟩ (fun _f => ?_)
      refine s_ret ?_
      exact ⟨_, [], res1 rfl rfl, ⟨congrArg Value.bool (decide_eq_decide.2 ⟨fun hh => Prod.ext hkk (Prod.ext hgg (all2_map.1 hh)), fun hh => all2_map.2 (congrArg (fun q => q.2.2) hh)⟩), rfl⟩, sub_picks [] rfl⟩
    · have hgg := p6
      refine o_val rfl rfl rfl (y_move (v := (.bool _)) rfl) ?_
      refine o_guard_no rfl rfl rfl rfl rfl ?_
      refine o_guard_no rfl rfl rfl rfl rfl ?_
      refine o_guard_no rfl rfl rfl rfl rfl ?_
      refine o_guard_no rfl rfl rfl rfl rfl ?_
      refine o_guard_no rfl rfl rfl rfl rfl ?_
      refine o_val rfl rfl rfl (y_pick_f (v := (.bool _)) rfl rfl) ?_
      refine o_val rfl rfl rfl (y_assign (v := (.bool _)) rfl) ?_
      refine o_nil ?_
      refine s_forget [(4, (.bool _))] ⟨rfl, trivial⟩ (fun _f => ?_)
      refine s_ret ?_
      exact ⟨_, [], res1 rfl rfl, ⟨congrArg Value.bool (decide_eq_false (fun hh => hgg (congrArg (fun q => q.2.1) hh))).symm, rfl⟩, sub_picks [] rfl⟩
  · have hkk := p4
    refine o_guard_no rfl rfl rfl rfl rfl ?_
    refine o_guard_no rfl rfl rfl rfl rfl ?_
    refine o_guard_no rfl rfl rfl rfl rfl ?_
    refine o_guard_no rfl rfl rfl rfl rfl ?_
    refine o_guard_no rfl rfl rfl rfl rfl ?_
    refine o_val rfl rfl rfl (y_pick_f (v := (.bool _)) rfl rfl) ?_
    refine o_val rfl rfl rfl (y_move (v := (.bool _)) rfl) ?_
    refine o_guard_no rfl rfl rfl rfl rfl ?_
    refine o_guard_no rfl rfl rfl rfl rfl ?_
    refine o_guard_no rfl rfl rfl rfl rfl ?_
    refine o_guard_no rfl rfl rfl rfl rfl ?_
    refine o_guard_no rfl rfl rfl rfl rfl ?_
    refine o_val rfl rfl rfl (y_pick_f (v := (.bool _)) rfl rfl) ?_
    refine o_val rfl rfl rfl (y_assign (v := (.bool _)) rfl) ?_
    refine o_nil ?_
    refine s_forget [(4, (.bool _))] ⟨rfl, trivial⟩ (fun _f => ?_)
    refine s_ret ?_
    exact ⟨_, [], res1 rfl rfl, ⟨congrArg Value.bool (decide_eq_false (fun hh => hkk (congrArg Prod.fst hh))).symm, rfl⟩, sub_picks [] rfl⟩

end Go.Proofs.Ytacmbiohjiogiaa.K

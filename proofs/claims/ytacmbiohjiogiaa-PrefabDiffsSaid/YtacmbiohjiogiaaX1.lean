/- Walks over the package merge: entities and components looked up. No condition beyond what each statement names. -/
import Derived.Test.YtacmbiohjiogiaaProg
import Derived.Test.YtacmbiohjiogiaaK17
import Derived.Test.YtacmbiohjiogiaaM1
import Derived.Test.YtacmbiohjiogiaaW1
import Derived.Test.YtacmbiohjiogiaaW2
import Derived.Test.YtacmbiohjiogiaaW3
import Derived.Test.YtacmbiohjiogiaaW4
set_option linter.unusedVariables false
set_option linter.unusedSimpArgs false
set_option maxRecDepth 100000
namespace Go.Proofs.Ytacmbiohjiogiaa.K
open Go.RowKit

theorem ixo_none {α : Type} [Inhabited α] {p : α → Prop} [∀ x, Decidable (p x)] {xs : List α} {k : Int} (h : IdxOK p xs k) (hk : k < 0) : xs.find? (fun x => decide (p x)) = none := by
  rcases h with ⟨_, h⟩ | ⟨j, rfl, _⟩
  · rw [List.find?_eq_none]
    intro x hx
    obtain ⟨j, hj, rfl⟩ := List.mem_iff_getElem.1 hx
    have := h j hj
    rw [List.getD_eq_getElem?_getD, List.getElem?_eq_getElem hj] at this
    simpa using this
  · omega
theorem ixo_some {α : Type} [Inhabited α] {p : α → Prop} [∀ x, Decidable (p x)] {xs : List α} {k : Int} (h : IdxOK p xs k) (hk : ¬ k < 0) : ∃ j : Nat, k = j ∧ j < xs.length ∧ xs.find? (fun x => decide (p x)) = some (xs.getD j default) := by
  rcases h with ⟨rfl, _⟩ | ⟨j, rfl, hj, hp, hn⟩
  · omega
  · refine ⟨j, rfl, hj, ?_⟩
    rw [List.getD_eq_getElem?_getD, List.getElem?_eq_getElem hj, Option.getD_some] at hp ⊢
    rw [List.find?_eq_some_iff_getElem]
    refine ⟨by simpa using hp, j, hj, rfl, fun i hi => ?_⟩
    have := hn i hi
    rw [List.getD_eq_getElem?_getD, List.getElem?_eq_getElem (by omega), Option.getD_some] at this
    simpa using this
/-- The entity of a slot. -/
def findI (its : List IR) (n : Int) : Option IR := its.find? (fun x => decide (x.e = n))
/-- The component of a kind. -/
def findC (cs : List CR) (k : Int) : Option CR := cs.find? (fun x => decide (x.kind = k))
theorem iok_def (V : Mem) : IOK V default := ⟨rfl, Nat.zero_le _, Nat.zero_le _, Cels.nil, fun x hx => absurd hx List.not_mem_nil⟩
theorem findI_ok {V : Mem} {its : List IR} (h : ∀ x ∈ its, IOK V x) (n : Int) : IOK V ((findI its n).getD default) := by
  cases hf : findI its n with
  | none => exact iok_def V
  | some x => exact h x (List.mem_of_find?_eq_some hf)
theorem findC_ok {V : Mem} {cs : List CR} (h : ∀ x ∈ cs, COK V x) (k : Int) : COK V ((findC cs k).getD default) := by
  cases hf : findC cs k with
  | none => exact cok_def V
  | some x => exact h x (List.mem_of_find?_eq_some hf)

theorem IndexFI_c {V : Mem} (A : Option Addr) (n c : Nat) (xs : List IR) (h : Cels V [] A (xs.flatMap encIt)) (hn : xs.length = n) (hbn : n ≤ 140737488355328) (hX : ∀ x ∈ xs, IOK V x) (fid : FuncId) (cap : List Value) (hcall : ∀ args w, (callFunc fid args).run Try.prog w = .ok (.enter fid args) w) (g0 : Grp) (p : IR → Prop) [∀ x, Decidable (p x)] (hf : ∀ (V' : Mem) (x : IR) (hx : IOK V' x), CallS Try.prog fid (([.agg #[.int .i64 x.e, .int .i64 x.g, .slice x.A x.n x.c]] : List Value) ++ cap).toArray V' [g0] (fun r L' => r = .bool (decide (p x)) ∧ L' = [g0])) : CallS Try.prog 59 [.slice A n c, .func (.func fid) #[] cap.toArray].toArray V [g0] (fun r L' => ∃ k, r = .int .i64 k ∧ IdxOK p xs k ∧ L' = [g0]) := by
  refine callS Try.func59 rfl rfl (fun w0 => ?_)
  refine s_seq ?_
  refine s_region ?_
  refine o_val rfl rfl rfl (y_assign (v := (.int _ _)) rfl) ?_
  refine o_nil ?_
  refine s_seq ?_
  refine s_seq ?_
  refine s_region ?_
  refine o_val rfl rfl rfl (y_move (v := (.slice _ _ _)) rfl) ?_
  refine o_val rfl rfl rfl (y_len Try.runUnderlying45 rfl) ?_
  refine o_val rfl rfl rfl (y_move (v := (.int _ _)) rfl) ?_
  refine o_nil ?_
  refine s_block ?_
  refine s_loopK (γ := Nat) [(0, (.slice _ _ _)), (1, (.func _ _ _)), (7, (.int _ _))] [_] (fun g => [(8, .int .i64 g)]) (fun g => []) (fun g => g ≤ n ∧ ∀ j, j < g → ¬ p (xs.getD j default)) (fun g => n - g) (0) ⟨rfl, rfl, rfl, rfl, trivial⟩ (sub_picks [0] rfl) ?_ ?_
  · exact ⟨Nat.zero_le _, fun j hj => absurd hj (Nat.not_lt_zero j)⟩
  intro g _f hI
  obtain ⟨hg, hall⟩ := hI
  refine s_seq ?_
  refine s_region ?_
  refine o_val rfl rfl rfl (y_lss rfl rfl) ?_
  refine o_nil ?_
  refine s_seq ?_
  refine s_if rfl (fun h1 => ?_) (fun h2 => ?_)
  · refine s_skip ?_
    refine s_seq ?_
    refine s_block ?_
    refine s_seq ?_
    refine s_region ?_
    refine o_val rfl rfl rfl (y_move (v := (.int _ _)) rfl) ?_
    refine o_val rfl rfl rfl (y_assign (v := (.int _ _)) rfl) ?_
    refine o_nil ?_
    refine s_seq ?_
    refine s_region ?_
    have hx := hX _ (getD_mem' (show g < xs.length by omega) : (xs.getD ((g : Nat) : Int).toNat default) ∈ xs)
    refine o_val rfl rfl rfl (y_move (v := (.func _ _ _)) rfl) ?_
    refine o_val rfl rfl rfl (y_move (v := (.slice _ _ _)) rfl) ?_
    refine o_val rfl rfl rfl (y_move (v := (.int _ _)) rfl) ?_
    refine o_val rfl rfl rfl (y_indexAddr Try.runUnderlying45 Try.sizeOf136 (some_at (sz := 2) encIt_len (i := 0) h (by omega)) rfl rfl (by omega)) ?_
    refine o_val rfl rfl rfl (y_loads (cs := [_, _, _]) Try.isAgg136 Try.sizeOf136 rfl (by unfold idx; rw [Option.isSome_map]; exact some_at (sz := 2) encIt_len (i := 0) h (by omega)) rfl (cels_at (sz := 3) encIt_len h.here (by omega))) ?_
    refine o_fnv' 1 (d := 16) rfl hcall rfl rfl rfl (hf _ (xs.getD ((g : Nat) : Int).toNat default) (hx.sub MSub.ext)) ?_
    rintro _ _ ⟨rfl, rfl⟩
    refine o_nil ?_
    refine s_if rfl (fun h3 => ?_) (fun h4 => ?_)
    · have hyes := h3
      refine s_seq ?_
      refine s_region ?_
      refine o_val rfl rfl rfl (y_move (v := (.int _ _)) rfl) ?_
      refine o_val rfl rfl rfl (y_assign (v := (.int _ _)) rfl) ?_
      refine o_nil ?_
      refine s_forget [(0, (.slice _ _ _)), (1, (.func _ _ _)), (4, (.int _ _)), (7, (.int _ _)), (8, (.int _ _))] ⟨rfl, rfl, rfl, rfl, rfl, trivial⟩ (fun _f => ?_)
      refine s_ret ?_
      exact ⟨_, [_], res1 rfl rfl, ⟨_, rfl, .inr ⟨g, rfl, by omega, hyes, hall⟩, rfl⟩, sub_picks [0] rfl⟩
    · have hno := h4
      refine s_skip ?_
      refine s_region ?_
      refine o_val rfl rfl rfl (y_add rfl rfl (by simp only [inK]; omega)) ?_
      refine o_val rfl rfl rfl (y_move (v := (.int _ _)) rfl) ?_
      refine o_nil ?_
      exact ⟨g + 1, (by first | omega | (dsimp only; omega)), ⟨by omega, all_next hall hno⟩, ⟨(congrArg (Value.int .i64) (by omega)), rfl, rfl, rfl, trivial⟩, (sub_picks [0] rfl)⟩
  · refine s_exit ?_
    refine s_seq ?_
    refine s_region ?_
    refine o_val rfl rfl rfl (y_assign (v := (.int _ _)) rfl) ?_
    refine o_nil ?_
    refine s_ret ?_
    exact ⟨_, [_], res1 rfl rfl, ⟨_, rfl, .inl ⟨rfl, fun j hj => hall j (by omega)⟩, rfl⟩, sub_picks [0] rfl⟩

theorem IndexFC_c {V : Mem} (A : Option Addr) (n c : Nat) (xs : List CR) (h : Cels V [] A (xs.flatMap encC)) (hn : xs.length = n) (hbn : n ≤ 140737488355328) (hX : ∀ x ∈ xs, COK V x) (fid : FuncId) (cap : List Value) (hcall : ∀ args w, (callFunc fid args).run Try.prog w = .ok (.enter fid args) w) (g0 : Grp) (p : CR → Prop) [∀ x, Decidable (p x)] (hf : ∀ (V' : Mem) (x : CR) (hx : COK V' x), CallS Try.prog fid (([.agg #[.int .i64 x.kind, .slice x.A x.n x.c]] : List Value) ++ cap).toArray V' [g0] (fun r L' => r = .bool (decide (p x)) ∧ L' = [g0])) : CallS Try.prog 195 [.slice A n c, .func (.func fid) #[] cap.toArray].toArray V [g0] (fun r L' => ∃ k, r = .int .i64 k ∧ IdxOK p xs k ∧ L' = [g0]) := by
  refine callS Try.func195 rfl rfl (fun w0 => ?_)
  refine s_seq ?_
  refine s_region ?_
  refine o_val rfl rfl rfl (y_assign (v := (.int _ _)) rfl) ?_
  refine o_nil ?_
  refine s_seq ?_
  refine s_seq ?_
  refine s_region ?_
  refine o_val rfl rfl rfl (y_move (v := (.slice _ _ _)) rfl) ?_
  refine o_val rfl rfl rfl (y_len Try.runUnderlying33 rfl) ?_
  refine o_val rfl rfl rfl (y_move (v := (.int _ _)) rfl) ?_
  refine o_nil ?_
  refine s_block ?_
  refine s_loopK (γ := Nat) [(0, (.slice _ _ _)), (1, (.func _ _ _)), (7, (.int _ _))] [_] (fun g => [(8, .int .i64 g)]) (fun g => []) (fun g => g ≤ n ∧ ∀ j, j < g → ¬ p (xs.getD j default)) (fun g => n - g) (0) ⟨rfl, rfl, rfl, rfl, trivial⟩ (sub_picks [0] rfl) ?_ ?_
  · exact ⟨Nat.zero_le _, fun j hj => absurd hj (Nat.not_lt_zero j)⟩
  intro g _f hI
  obtain ⟨hg, hall⟩ := hI
  refine s_seq ?_
  refine s_region ?_
  refine o_val rfl rfl rfl (y_lss rfl rfl) ?_
  refine o_nil ?_
  refine s_seq ?_
  refine s_if rfl (fun h1 => ?_) (fun h2 => ?_)
  · refine s_skip ?_
    refine s_seq ?_
    refine s_block ?_
    refine s_seq ?_
    refine s_region ?_
    refine o_val rfl rfl rfl (y_move (v := (.int _ _)) rfl) ?_
    refine o_val rfl rfl rfl (y_assign (v := (.int _ _)) rfl) ?_
    refine o_nil ?_
    refine s_seq ?_
    refine s_region ?_
    have hx := hX _ (getD_mem' (show g < xs.length by omega) : (xs.getD ((g : Nat) : Int).toNat default) ∈ xs)
    refine o_val rfl rfl rfl (y_move (v := (.func _ _ _)) rfl) ?_
    refine o_val rfl rfl rfl (y_move (v := (.slice _ _ _)) rfl) ?_
    refine o_val rfl rfl rfl (y_move (v := (.int _ _)) rfl) ?_
    refine o_val rfl rfl rfl (y_indexAddr Try.runUnderlying33 Try.sizeOf155 (some_at (sz := 1) encC_len (i := 0) h (by omega)) rfl rfl (by omega)) ?_
    refine o_val rfl rfl rfl (y_loads (cs := [_, _]) Try.isAgg155 Try.sizeOf155 rfl (by unfold idx; rw [Option.isSome_map]; exact some_at (sz := 1) encC_len (i := 0) h (by omega)) rfl (cels_at (sz := 2) encC_len h.here (by omega))) ?_
    refine o_fnv' 1 (d := 16) rfl hcall rfl rfl rfl (hf _ (xs.getD ((g : Nat) : Int).toNat default) (hx.sub MSub.ext)) ?_
    rintro _ _ ⟨rfl, rfl⟩
    refine o_nil ?_
    refine s_if rfl (fun h3 => ?_) (fun h4 => ?_)
    · have hyes := h3
      refine s_seq ?_
      refine s_region ?_
      refine o_val rfl rfl rfl (y_move (v := (.int _ _)) rfl) ?_
      refine o_val rfl rfl rfl (y_assign (v := (.int _ _)) rfl) ?_
      refine o_nil ?_
      refine s_forget [(0, (.slice _ _ _)), (1, (.func _ _ _)), (4, (.int _ _)), (7, (.int _ _)), (8, (.int _ _))] ⟨rfl, rfl, rfl, rfl, rfl, trivial⟩ (fun _f => ?_)
      refine s_ret ?_
      exact ⟨_, [_], res1 rfl rfl, ⟨_, rfl, .inr ⟨g, rfl, by omega, hyes, hall⟩, rfl⟩, sub_picks [0] rfl⟩
    · have hno := h4
      refine s_skip ?_
      refine s_region ?_
      refine o_val rfl rfl rfl (y_add rfl rfl (by simp only [inK]; omega)) ?_
      refine o_val rfl rfl rfl (y_move (v := (.int _ _)) rfl) ?_
      refine o_nil ?_
      exact ⟨g + 1, (by first | omega | (dsimp only; omega)), ⟨by omega, all_next hall hno⟩, ⟨(congrArg (Value.int .i64) (by omega)), rfl, rfl, rfl, trivial⟩, (sub_picks [0] rfl)⟩
  · refine s_exit ?_
    refine s_seq ?_
    refine s_region ?_
    refine o_val rfl rfl rfl (y_assign (v := (.int _ _)) rfl) ?_
    refine o_nil ?_
    refine s_ret ?_
    exact ⟨_, [_], res1 rfl rfl, ⟨_, rfl, .inl ⟨rfl, fun j hj => hall j (by omega)⟩, rfl⟩, sub_picks [0] rfl⟩

theorem itemN_c {V : Mem} (x : IR) (hx : IOK V x) (b : Nat) (n : Int) : CallS Try.prog 197 [.agg #[.int .i64 x.e, .int .i64 x.g, .slice x.A x.n x.c], .pointer (some ⟨b, 0, none⟩)].toArray V [[(b, .cells [.int .i64 n].toArray 3 (0, 0))]] (fun r L' => r = .bool (decide (x.e = n)) ∧ L' = [[(b, .cells [.int .i64 n].toArray 3 (0, 0))]]) := by
  refine callS Try.func197 rfl rfl (fun w0 => ?_)
  refine s_seq ?_
  refine s_region ?_
  refine o_box (v := (.agg #[(.int _ _), (.int _ _), (.slice _ _ _)])) rfl rfl rfl (fun b1 => ?_)
  refine o_val rfl rfl rfl (y_assign (v := (.bool _)) rfl) ?_
  refine o_nil ?_
  refine s_seq ?_
  refine s_region ?_
  refine o_val rfl rfl rfl (y_field0 Try.runUnderlying136 rfl Try.sizeOf117 rfl rfl) ?_
  refine o_val rfl rfl rfl (y_field0 Try.runUnderlying117 rfl Try.sizeOf3 rfl rfl) ?_
  refine o_val rfl rfl rfl (y_load Try.isAgg3 rfl (cel_own 1 rfl rfl)) ?_
  refine o_val rfl rfl rfl (y_load Try.isAgg3 rfl (cel_own 0 rfl rfl)) ?_
  refine o_val rfl rfl rfl (y_eql rfl rfl) ?_
  refine o_val rfl rfl rfl (y_assign (v := (.bool _)) rfl) ?_
  refine o_nil ?_
  refine s_ret ?_
  exact ⟨_, [_], res1 rfl rfl, ⟨rfl, rfl⟩, sub_picks [0] rfl⟩

theorem compN_c {V : Mem} (x : CR) (hx : COK V x) (b : Nat) (n : Int) : CallS Try.prog 216 [.agg #[.int .i64 x.kind, .slice x.A x.n x.c], .pointer (some ⟨b, 0, none⟩)].toArray V [[(b, .cells [.int .i64 n].toArray 3 (0, 0))]] (fun r L' => r = .bool (decide (x.kind = n)) ∧ L' = [[(b, .cells [.int .i64 n].toArray 3 (0, 0))]]) := by
  refine callS Try.func216 rfl rfl (fun w0 => ?_)
  refine s_seq ?_
  refine s_region ?_
  refine o_box (v := (.agg #[(.int _ _), (.slice _ _ _)])) rfl rfl rfl (fun b1 => ?_)
  refine o_val rfl rfl rfl (y_assign (v := (.bool _)) rfl) ?_
  refine o_nil ?_
  refine s_seq ?_
  refine s_region ?_
  refine o_val rfl rfl rfl (y_field0 Try.runUnderlying155 rfl Try.sizeOf3 rfl rfl) ?_
  refine o_val rfl rfl rfl (y_load Try.isAgg3 rfl (cel_own 1 rfl rfl)) ?_
  refine o_val rfl rfl rfl (y_load Try.isAgg3 rfl (cel_own 0 rfl rfl)) ?_
  refine o_val rfl rfl rfl (y_eql rfl rfl) ?_
  refine o_val rfl rfl rfl (y_assign (v := (.bool _)) rfl) ?_
  refine o_nil ?_
  refine s_ret ?_
  exact ⟨_, [_], res1 rfl rfl, ⟨rfl, rfl⟩, sub_picks [0] rfl⟩

theorem ItemM_k0 (w : World) : (Instr.build 136 ([] : List (Nat × Value)).toArray).run Try.prog w = .ok (.agg #[.int .i64 0, .int .i64 0, .slice none 0 0]) w := by kernel_rfl
theorem ItemM_c {V : Mem} (w : WR) (hw : WOK V w) (n : Int) : CallS Try.prog 153 [.agg #[.slice w.kA w.kn w.kc, .slice w.gA w.gn w.gc, .slice w.iA w.iN w.iC], .int .i64 n].toArray V [] (fun r L' => r = .tuple #[.agg #[.int .i64 ((findI w.its n).getD default).e, .int .i64 ((findI w.its n).getD default).g, .slice ((findI w.its n).getD default).A ((findI w.its n).getD default).n ((findI w.its n).getD default).c], .bool (findI w.its n).isSome] ∧ L' = []) := by
  obtain ⟨⟨hwKl, hwKc, hwKb, hwK, hwKK⟩, ⟨hwGl, hwGc, hwGb, hwG⟩, ⟨hwIl, hwIc, hwIb, hwI, hwII⟩⟩ := hw
  refine callS Try.func153 rfl rfl (fun w0 => ?_)
  refine s_seq ?_
  refine s_region ?_
  refine o_box (v := (.agg #[(.slice _ _ _), (.slice _ _ _), (.slice _ _ _)])) rfl rfl rfl (fun b1 => ?_)
  refine o_box (v := (.int _ _)) rfl rfl rfl (fun b2 => ?_)
  refine o_alloc rfl Try.zeroValue136 rfl (fun b3 => ?_)
  refine o_val rfl rfl rfl (y_assign (v := (.bool _)) rfl) ?_
  refine o_nil ?_
  refine s_seq ?_
  refine s_region ?_
  refine o_val rfl rfl rfl (y_field0 Try.runUnderlying47 rfl Try.sizeOf45 rfl rfl) ?_
  refine o_val rfl rfl rfl (y_load Try.isAgg45 rfl (cel_own 0 rfl rfl)) ?_
  refine o_val rfl rfl rfl (y_func' (xs := []) (a := []) (b := [(.pointer _)]) rfl rfl) ?_
  refine o_pull 1 ?_
  refine o_fn 1 (d := 10) rfl Try.call59 (IndexFI_c w.iA w.iN w.iC w.its hwI.here.down hwIl (by omega) (fun x hx => (hwII x hx).sub MSub.ext) 197 [.pointer (some ⟨b2, 0, none⟩)] Try.call197 _ (fun x => x.e = n) (fun V' x hx => itemN_c x hx b2 n)) rfl ?_
  rintro _ _ ⟨k, rfl, hk, rfl⟩
  refine o_val rfl rfl rfl (y_assign (v := (.int _ _)) rfl) ?_
  refine o_nil ?_
  refine s_seq ?_
  refine s_seq ?_
  refine s_region ?_
  refine o_val rfl rfl rfl (y_move (v := (.int _ _)) rfl) ?_
  refine o_val rfl rfl rfl (y_lss rfl rfl) ?_
  refine o_nil ?_
  refine s_if rfl (fun h4 => ?_) (fun h5 => ?_)
  · have hfd := ixo_none hk h4
    refine s_seq ?_
    refine s_region ?_
    refine o_val rfl rfl rfl (y_build (vs := []) rfl (ItemM_k0)) ?_
    refine o_stores (vs := [(.int _ _), (.int _ _), (.slice _ _ _)]) 2 rfl Try.sizeOf136 rfl rfl rfl (by simp [Value.oneCell']) (by simp) ?_
    refine o_val rfl rfl rfl (y_assign (v := (.bool _)) rfl) ?_
    refine o_nil ?_
    refine s_forget [(2, (.pointer _)), (4, (.pointer _)), (5, (.bool _)), (6, (.int _ _))] ⟨rfl, rfl, rfl, rfl, trivial⟩ (fun _f => ?_)
    refine s_ret ?_
    exact ⟨_, [], resv2 rfl (RV.cells (cs := [_, _, _]) rfl Try.isAgg136 Try.sizeOf136 rfl rfl (cels_own 2 rfl rfl)) (RV.tmp rfl), ⟨by unfold findI; rw [hfd]; rfl, rfl⟩, sub_picks [] rfl⟩
  · obtain ⟨j, rfl, hjl, hfd⟩ := ixo_some hk h5
    refine s_skip ?_
    refine s_seq ?_
    refine s_region ?_
    refine o_val rfl rfl rfl (y_field0 Try.runUnderlying47 rfl Try.sizeOf45 rfl rfl) ?_
    refine o_val rfl rfl rfl (y_load Try.isAgg45 rfl (cel_own 1 rfl rfl)) ?_
    refine o_val rfl rfl rfl (y_move (v := (.int _ _)) rfl) ?_
    refine o_val rfl rfl rfl (y_indexAddr Try.runUnderlying45 Try.sizeOf136 (some_at (sz := 2) encIt_len (i := 0) hwI (by omega)) rfl rfl (by omega)) ?_
    refine o_val rfl rfl rfl (y_loads (cs := [_, _, _]) Try.isAgg136 Try.sizeOf136 rfl (by unfold idx; rw [Option.isSome_map]; exact some_at (sz := 2) encIt_len (i := 0) hwI (by omega)) rfl (cels_at (sz := 3) encIt_len hwI.here (by omega))) ?_
    refine o_stores (vs := [(.int _ _), (.int _ _), (.slice _ _ _)]) 2 rfl Try.sizeOf136 rfl rfl rfl (by simp [Value.oneCell']) (by simp) ?_
    refine o_val rfl rfl rfl (y_assign (v := (.bool _)) rfl) ?_
    refine o_nil ?_
    refine s_forget [(4, (.pointer _)), (5, (.bool _))] ⟨rfl, rfl, trivial⟩ (fun _f => ?_)
    refine s_ret ?_
    exact ⟨_, [], resv2 rfl (RV.cells (cs := [_, _, _]) rfl Try.isAgg136 Try.sizeOf136 rfl rfl (cels_own 2 rfl rfl)) (RV.tmp rfl), ⟨by unfold findI; rw [hfd]; rfl, rfl⟩, sub_picks [] rfl⟩

theorem CompM_c {V : Mem} (x : IR) (hx : IOK V x) (n : Int) : CallS Try.prog 198 [.agg #[.int .i64 x.e, .int .i64 x.g, .slice x.A x.n x.c], .int .i64 n].toArray V [] (fun r L' => r = .tuple #[.slice ((findC x.cs n).getD default).A ((findC x.cs n).getD default).n ((findC x.cs n).getD default).c, .bool (findC x.cs n).isSome] ∧ L' = []) := by
  have hxl := hx.1
  have hxb := hx.2.2.1
  refine callS Try.func198 rfl rfl (fun w0 => ?_)
  refine s_seq ?_
  refine s_region ?_
  refine o_box (v := (.agg #[(.int _ _), (.int _ _), (.slice _ _ _)])) rfl rfl rfl (fun b1 => ?_)
  refine o_box (v := (.int _ _)) rfl rfl rfl (fun b2 => ?_)
  refine o_val rfl rfl rfl (y_assign (v := (.slice _ _ _)) rfl) ?_
  refine o_val rfl rfl rfl (y_assign (v := (.bool _)) rfl) ?_
  refine o_nil ?_
  refine s_seq ?_
  refine s_region ?_
  refine o_val rfl rfl rfl (y_field0 Try.runUnderlying136 rfl Try.sizeOf33 rfl rfl) ?_
  refine o_val rfl rfl rfl (y_load Try.isAgg33 rfl (cel_own 0 rfl rfl)) ?_
  refine o_val rfl rfl rfl (y_func' (xs := []) (a := []) (b := [(.pointer _)]) rfl rfl) ?_
  refine o_pull 1 ?_
  refine o_fn 1 (d := 10) rfl Try.call195 (IndexFC_c x.A x.n x.c x.cs hx.2.2.2.1.here.down hx.1 (by have := hx.2.2.1; omega) (fun z hz => (hx.2.2.2.2 z hz).sub MSub.ext) 216 [.pointer (some ⟨b2, 0, none⟩)] Try.call216 _ (fun x => x.kind = n) (fun V' x hx => compN_c x hx b2 n)) rfl ?_
  rintro _ _ ⟨k, rfl, hk, rfl⟩
  refine o_val rfl rfl rfl (y_assign (v := (.int _ _)) rfl) ?_
  refine o_nil ?_
  refine s_seq ?_
  refine s_seq ?_
  refine s_region ?_
  refine o_val rfl rfl rfl (y_move (v := (.int _ _)) rfl) ?_
  refine o_val rfl rfl rfl (y_lss rfl rfl) ?_
  refine o_nil ?_
  refine s_if rfl (fun h3 => ?_) (fun h4 => ?_)
  · have hfd := ixo_none hk h3
    refine s_seq ?_
    refine s_region ?_
    refine o_val rfl rfl rfl (y_assign (v := (.slice _ _ _)) rfl) ?_
    refine o_val rfl rfl rfl (y_assign (v := (.bool _)) rfl) ?_
    refine o_nil ?_
    refine s_ret ?_
    exact ⟨_, [], resv2 rfl (RV.tmp rfl) (RV.tmp rfl), ⟨by unfold findC; rw [hfd]; rfl, rfl⟩, sub_picks [] rfl⟩
  · obtain ⟨j, rfl, hjl, hfd⟩ := ixo_some hk h4
    refine s_skip ?_
    refine s_seq ?_
    refine s_region ?_
    refine o_val rfl rfl rfl (y_field0 Try.runUnderlying136 rfl Try.sizeOf33 rfl rfl) ?_
    refine o_val rfl rfl rfl (y_load Try.isAgg33 rfl (cel_own 1 rfl rfl)) ?_
    refine o_val rfl rfl rfl (y_move (v := (.int _ _)) rfl) ?_
    refine o_val rfl rfl rfl (y_indexAddr Try.runUnderlying33 Try.sizeOf155 (some_at (sz := 1) encC_len (i := 0) hx.2.2.2.1 (by omega)) rfl rfl (by omega)) ?_
    refine o_val rfl rfl rfl (y_fieldX (F := 1) Try.runUnderlying155 rfl Try.sizeOf22 rfl (some_at (sz := 1) encC_len (i := 0) hx.2.2.2.1 (by omega)) rfl) ?_
    refine o_val rfl rfl rfl (y_load Try.isAgg22 rfl ((cels_at (sz := 2) encC_len hx.2.2.2.1.here (by omega)).cel' (i := 1) rfl)) ?_
    refine o_val rfl rfl rfl (y_assign (v := (.slice _ _ _)) rfl) ?_
    refine o_val rfl rfl rfl (y_assign (v := (.bool _)) rfl) ?_
    refine o_nil ?_
    refine s_forget [(4, (.slice _ _ _)), (5, (.bool _))] ⟨rfl, rfl, trivial⟩ (fun _f => ?_)
    refine s_ret ?_
    exact ⟨_, [], resv2 rfl (RV.tmp rfl) (RV.tmp rfl), ⟨by unfold findC; rw [hfd]; rfl, rfl⟩, sub_picks [] rfl⟩

theorem sameM1_c {V : Mem} (x y : CR) (hx : COK V x) (hy : COK V y) : CallS Try.prog 200 [.agg #[.int .i64 x.kind, .slice x.A x.n x.c], .agg #[.int .i64 y.kind, .slice y.A y.n y.c]].toArray V [] (fun r L' => r = .bool (decide (x.d = y.d)) ∧ L' = []) := by
  refine callS Try.func200 rfl rfl (fun w0 => ?_)
  refine s_seq ?_
  refine s_region ?_
  refine o_box (v := (.agg #[(.int _ _), (.slice _ _ _)])) rfl rfl rfl (fun b1 => ?_)
  refine o_box (v := (.agg #[(.int _ _), (.slice _ _ _)])) rfl rfl rfl (fun b2 => ?_)
  refine o_val rfl rfl rfl (y_assign (v := (.bool _)) rfl) ?_
  refine o_nil ?_
  refine s_seq ?_
  refine s_region ?_
  refine o_val rfl rfl rfl (y_field0 Try.runUnderlying155 rfl Try.sizeOf3 rfl rfl) ?_
  refine o_val rfl rfl rfl (y_load Try.isAgg3 rfl (cel_own 0 rfl rfl)) ?_
  refine o_val rfl rfl rfl (y_field0 Try.runUnderlying155 rfl Try.sizeOf3 rfl rfl) ?_
  refine o_val rfl rfl rfl (y_load Try.isAgg3 rfl (cel_own 1 rfl rfl)) ?_
  refine o_split rfl rfl rfl (y_eql rfl rfl) (fun p3 => ?_) (fun p4 => ?_)
  · have hk : x.kind = y.kind := p3
    refine o_val rfl rfl rfl (y_move (v := (.bool _)) rfl) ?_
    refine o_guard_yes rfl rfl ?_
    refine o_val rfl rfl rfl (y_field0 Try.runUnderlying155 rfl Try.sizeOf22 rfl rfl) ?_
    refine o_guard_yes rfl rfl ?_
    refine o_val rfl rfl rfl (y_load Try.isAgg22 rfl (cel_own 0 rfl rfl)) ?_
    refine o_guard_yes rfl rfl ?_
    refine o_val rfl rfl rfl (y_field0 Try.runUnderlying155 rfl Try.sizeOf22 rfl rfl) ?_
    refine o_guard_yes rfl rfl ?_
    refine o_val rfl rfl rfl (y_load Try.isAgg22 rfl (cel_own 1 rfl rfl)) ?_
    refine o_guard_yes rfl rfl ?_
    refine o_fn 0 (d := 15) rfl Try.call21 (EqualI_c x.A x.n x.c x.vs hx.2.2.2.here.down hx.1 y.A y.n y.c y.vs hy.2.2.2.here.down hy.1 (by have := hx.2.2.1; omega)) rfl ?_
    rintro _ _ ⟨rfl, rfl⟩
    refine o_val rfl rfl rfl (y_pick_t (v := (.bool _)) rfl rfl) ?_
    refine o_val rfl rfl rfl (y_assign (v := (.bool _)) rfl) ?_
    refine o_nil ?_
    refine s_forget [(4, (.bool _))] ⟨rfl, trivial⟩ (fun _f => ?_)
    refine s_ret ?_
    exact ⟨_, [], res1 rfl rfl, ⟨congrArg Value.bool (decide_eq_decide.2 ⟨fun hh => Prod.ext hk hh, fun hh => congrArg Prod.snd hh⟩), rfl⟩, sub_picks [] rfl⟩
  · have hk : ¬ x.kind = y.kind := p4
    refine o_val rfl rfl rfl (y_move (v := (.bool _)) rfl) ?_
    refine o_guard_no rfl rfl rfl rfl rfl ?_
    refine o_guard_no rfl rfl rfl rfl rfl ?_
    refine o_guard_no rfl rfl rfl rfl rfl ?_
    refine o_guard_no rfl rfl rfl rfl rfl ?_
    refine o_guard_no rfl rfl rfl rfl rfl ?_
    refine o_val rfl rfl rfl (y_pick_f (v := (.bool _)) rfl rfl) ?_
    refine o_val rfl rfl rfl (y_assign (v := (.bool _)) rfl) ?_
    refine o_nil ?_
    refine s_forget [(4, (.bool _))] ⟨rfl, trivial⟩ (fun _f => ?_)
    refine s_ret ?_
    exact ⟨_, [], res1 rfl rfl, ⟨congrArg Value.bool ((decide_eq_false (fun hh => hk (congrArg Prod.fst hh))).symm), rfl⟩, sub_picks [] rfl⟩

theorem SameM_c {V : Mem} (x y : IR) (hx : IOK V x) (hy : IOK V y) : CallS Try.prog 155 [.agg #[.int .i64 x.e, .int .i64 x.g, .slice x.A x.n x.c], .agg #[.int .i64 y.e, .int .i64 y.g, .slice y.A y.n y.c]].toArray V [] (fun r L' => r = .bool (decide (x.d = y.d)) ∧ L' = []) := by
  refine callS Try.func155 rfl rfl (fun w0 => ?_)
  refine s_seq ?_
  refine s_region ?_
  refine o_box (v := (.agg #[(.int _ _), (.int _ _), (.slice _ _ _)])) rfl rfl rfl (fun b1 => ?_)
  refine o_box (v := (.agg #[(.int _ _), (.int _ _), (.slice _ _ _)])) rfl rfl rfl (fun b2 => ?_)
  refine o_val rfl rfl rfl (y_assign (v := (.bool _)) rfl) ?_
  refine o_nil ?_
  refine s_seq ?_
  refine s_region ?_
  refine o_val rfl rfl rfl (y_field0 Try.runUnderlying136 rfl Try.sizeOf117 rfl rfl) ?_
  refine o_val rfl rfl rfl (y_loads (cs := [_, _]) Try.isAgg117 Try.sizeOf117 rfl rfl rfl (cels_own 0 rfl rfl)) ?_
  refine o_val rfl rfl rfl (y_field0 Try.runUnderlying136 rfl Try.sizeOf117 rfl rfl) ?_
  refine o_val rfl rfl rfl (y_loads (cs := [_, _]) Try.isAgg117 Try.sizeOf117 rfl rfl rfl (cels_own 1 rfl rfl)) ?_
  refine o_split rfl rfl rfl (y_eql_ent rfl rfl) (fun p3 => ?_) (fun p4 => ?_)
  · have hk : x.e = y.e ∧ x.g = y.g := p3
    refine o_val rfl rfl rfl (y_move (v := (.bool _)) rfl) ?_
    refine o_guard_yes rfl rfl ?_
    refine o_val rfl rfl rfl (y_field0 Try.runUnderlying136 rfl Try.sizeOf33 rfl rfl) ?_
    refine o_guard_yes rfl rfl ?_
    refine o_val rfl rfl rfl (y_load Try.isAgg33 rfl (cel_own 0 rfl rfl)) ?_
    refine o_guard_yes rfl rfl ?_
    refine o_val rfl rfl rfl (y_field0 Try.runUnderlying136 rfl Try.sizeOf33 rfl rfl) ?_
    refine o_guard_yes rfl rfl ?_
    refine o_val rfl rfl rfl (y_load Try.isAgg33 rfl (cel_own 1 rfl rfl)) ?_
    refine o_guard_yes rfl rfl ?_
    refine o_fn 0 (d := 15) rfl Try.call129 (EqualFC_c x.A x.n x.c x.cs hx.2.2.2.1.here.down hx.1 (by have := hx.2.2.1; omega) (fun z hz => (hx.2.2.2.2 z hz).sub MSub.ext) y.A y.n y.c y.cs hy.2.2.2.1.here.down hy.1 (by have := hy.2.2.1; omega) (fun z hz => (hy.2.2.2.2 z hz).sub MSub.ext) 200 [] Try.call200 (fun a b => a.d = b.d) (fun V' a b ha hb => sameM1_c a b ha hb)) rfl ?_
    rintro _ _ ⟨rfl, rfl⟩
    refine o_val rfl rfl rfl (y_pick_t (v := (.bool _)) rfl rfl) ?_
    refine o_val rfl rfl rfl (y_assign (v := (.bool _)) rfl) ?_
    refine o_nil ?_
    refine s_forget [(4, (.bool _))] ⟨rfl, trivial⟩ (fun _f => ?_)
    refine s_ret ?_
    exact ⟨_, [], res1 rfl rfl, ⟨congrArg Value.bool (decide_eq_decide.2 ⟨fun hh => Prod.ext hk.1 (Prod.ext hk.2 (all2_map.1 hh)), fun hh => all2_map.2 (congrArg (fun q => q.2.2) hh)⟩), rfl⟩, sub_picks [] rfl⟩
  · have hk : ¬ (x.e = y.e ∧ x.g = y.g) := p4
    refine o_val rfl rfl rfl (y_move (v := (.bool _)) rfl) ?_
    refine o_guard_no rfl rfl rfl rfl rfl ?_
    refine o_guard_no rfl rfl rfl rfl rfl ?_
    refine o_guard_no rfl rfl rfl rfl rfl ?_
    refine o_guard_no rfl rfl rfl rfl rfl ?_
    refine o_guard_no rfl rfl rfl rfl rfl ?_
    refine o_val rfl rfl rfl (y_pick_f (v := (.bool _)) rfl rfl) ?_
    refine o_val rfl rfl rfl (y_assign (v := (.bool _)) rfl) ?_
    refine o_nil ?_
    refine s_forget [(4, (.bool _))] ⟨rfl, trivial⟩ (fun _f => ?_)
    refine s_ret ?_
    exact ⟨_, [], res1 rfl rfl, ⟨congrArg Value.bool ((decide_eq_false (fun hh => hk ⟨congrArg Prod.fst hh, congrArg (fun q => q.2.1) hh⟩)).symm), rfl⟩, sub_picks [] rfl⟩

end Go.Proofs.Ytacmbiohjiogiaa.K

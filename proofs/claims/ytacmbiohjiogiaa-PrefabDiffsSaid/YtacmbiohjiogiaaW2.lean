/- Walks over the packages kind and world: is a world valid? No condition beyond what each statement names. -/
import Derived.Test.YtacmbiohjiogiaaProg
import Derived.Test.YtacmbiohjiogiaaK17
import Derived.Test.YtacmbiohjiogiaaM1
import Derived.Test.YtacmbiohjiogiaaW1
set_option linter.unusedVariables false
set_option linter.unusedSimpArgs false
set_option maxRecDepth 100000
namespace Go.Proofs.Ytacmbiohjiogiaa.K
open Go.RowKit

/-- A component: its kind, and where its values are. -/
structure CR where
  kind : Int
  A : Option Addr
  n : Nat
  c : Nat
  vs : List Int
instance : Inhabited CR := ⟨⟨0, none, 0, 0, []⟩⟩
def encC (c : CR) : List Value := [.int .i64 c.kind, .slice c.A c.n c.c]
theorem encC_len (c : CR) : (encC c).length = 2 := rfl
def COK (V : Mem) (c : CR) : Prop := c.vs.length = c.n ∧ c.n ≤ c.c ∧ c.n ≤ 17592186044416 ∧ Cels V [] c.A (c.vs.map (.int .i64))
/-- An item: its entity, and where its components are. -/
structure IR where
  e : Int
  g : Int
  A : Option Addr
  n : Nat
  c : Nat
  cs : List CR
instance : Inhabited IR := ⟨⟨0, 0, none, 0, 0, []⟩⟩
def encIt (i : IR) : List Value := [.int .i64 i.e, .int .i64 i.g, .slice i.A i.n i.c]
theorem encIt_len (i : IR) : (encIt i).length = 3 := rfl
def CsOK (V : Mem) (A : Option Addr) (n c : Nat) (cs : List CR) : Prop := cs.length = n ∧ n ≤ c ∧ n ≤ 4398046511104 ∧ Cels V [] A (cs.flatMap encC) ∧ ∀ x ∈ cs, COK V x
def IOK (V : Mem) (i : IR) : Prop := CsOK V i.A i.n i.c i.cs
structure WR where
  kA : Option Addr
  kn : Nat
  kc : Nat
  ks : List KR
  gA : Option Addr
  gn : Nat
  gc : Nat
  gs : List Int
  iA : Option Addr
  iN : Nat
  iC : Nat
  its : List IR
instance : Inhabited WR := ⟨⟨none, 0, 0, [], none, 0, 0, [], none, 0, 0, []⟩⟩
def encW (w : WR) : List Value := [.slice w.kA w.kn w.kc, .slice w.gA w.gn w.gc, .slice w.iA w.iN w.iC]
theorem encW_len (w : WR) : (encW w).length = 3 := rfl
def KsOK (V : Mem) (A : Option Addr) (n c : Nat) (ks : List KR) : Prop := ks.length = n ∧ n ≤ c ∧ n ≤ 3518437208883 ∧ Cels V [] A (ks.flatMap encK) ∧ ∀ x ∈ ks, KOK V x
def GsOK (V : Mem) (A : Option Addr) (n c : Nat) (gs : List Int) : Prop := gs.length = n ∧ n ≤ c ∧ n ≤ 17592186044416 ∧ Cels V [] A (gs.map (.int .i64))
def IsOK (V : Mem) (A : Option Addr) (n c : Nat) (its : List IR) : Prop := its.length = n ∧ n ≤ c ∧ n ≤ 3518437208883 ∧ Cels V [] A (its.flatMap encIt) ∧ ∀ x ∈ its, IOK V x
/-- A world lies in memory as it says. -/
def WOK (V : Mem) (w : WR) : Prop := KsOK V w.kA w.kn w.kc w.ks ∧ GsOK V w.gA w.gn w.gc w.gs ∧ IsOK V w.iA w.iN w.iC w.its
theorem COK.sub {V V' : Mem} {c : CR} (h : COK V c) (hm : MSub V V') : COK V' c := ⟨h.1, h.2.1, h.2.2.1, h.2.2.2.ms hm⟩
theorem KOK.sub {V V' : Mem} {c : KR} (h : KOK V c) (hm : MSub V V') : KOK V' c := ⟨h.1, h.2.1, h.2.2.1, h.2.2.2.ms hm⟩
theorem CsOK.sub {V V' : Mem} {A : Option Addr} {n c : Nat} {cs : List CR} (h : CsOK V A n c cs) (hm : MSub V V') : CsOK V' A n c cs := ⟨h.1, h.2.1, h.2.2.1, h.2.2.2.1.ms hm, fun x hx => (h.2.2.2.2 x hx).sub hm⟩
theorem IOK.sub {V V' : Mem} {c : IR} (h : IOK V c) (hm : MSub V V') : IOK V' c := CsOK.sub h hm
theorem KsOK.sub {V V' : Mem} {A : Option Addr} {n c : Nat} {ks : List KR} (h : KsOK V A n c ks) (hm : MSub V V') : KsOK V' A n c ks := ⟨h.1, h.2.1, h.2.2.1, h.2.2.2.1.ms hm, fun x hx => (h.2.2.2.2 x hx).sub hm⟩
theorem GsOK.sub {V V' : Mem} {A : Option Addr} {n c : Nat} {gs : List Int} (h : GsOK V A n c gs) (hm : MSub V V') : GsOK V' A n c gs := ⟨h.1, h.2.1, h.2.2.1, h.2.2.2.ms hm⟩
theorem IsOK.sub {V V' : Mem} {A : Option Addr} {n c : Nat} {its : List IR} (h : IsOK V A n c its) (hm : MSub V V') : IsOK V' A n c its := ⟨h.1, h.2.1, h.2.2.1, h.2.2.2.1.ms hm, fun x hx => (h.2.2.2.2 x hx).sub hm⟩
theorem WOK.sub {V V' : Mem} {w : WR} (h : WOK V w) (hm : MSub V V') : WOK V' w := ⟨h.1.sub hm, h.2.1.sub hm, h.2.2.sub hm⟩
/-- What a kind says, without where it lies. -/
def KR.d (k : KR) : ByteArray × List FR := (k.name, k.fs)
/-- Are numbers the values of a kind? -/
def holdsV (k : KR) (vs : List Int) : Prop := fitErr k vs.length = 0 ∧ fitV k.fs vs = vs
instance (k : KR) (vs : List Int) : Decidable (holdsV k vs) := by unfold holdsV; infer_instance
theorem ext_getD {xs ys : List Int} (hl : xs.length = ys.length) (h : ∀ j, j < xs.length → xs.getD j 0 = ys.getD j 0) : xs = ys := by
  apply List.ext_getElem hl
  intro j h1 h2
  have := h j h1
  simpa [List.getD_eq_getElem?_getD, h1, h2] using this
theorem all_next {p : Nat → Prop} {k : Nat} (h : ∀ j, j < k → p j) (hk : p k) : ∀ j, j < k + 1 → p j := fun j hj => if e : j = k then e ▸ hk else h j (by omega)
def goodC (ks : List KR) (last : Int) (c : CR) : Prop := last < c.kind ∧ c.kind < ks.length ∧ holdsV (ks.getD c.kind.toNat default) c.vs
instance (ks : List KR) (l : Int) (c : CR) : Decidable (goodC ks l c) := by unfold goodC; infer_instance
def lastC (cs : List CR) : Nat → Int
  | 0 => -1
  | j + 1 => (cs.getD j default).kind
/-- Are components those of an item? -/
def heldP (ks : List KR) (cs : List CR) : Prop := ∀ j, j < cs.length → goodC ks (lastC cs j) (cs.getD j default)
instance (ks : List KR) (cs : List CR) : Decidable (heldP ks cs) := by unfold heldP; infer_instance
theorem lastC_ge {ks : List KR} {cs : List CR} : ∀ {g : Nat}, (∀ j, j < g → goodC ks (lastC cs j) (cs.getD j default)) → -1 ≤ lastC cs g
  | 0, _ => Int.le_refl _
  | g + 1, h => by
    have h1 := lastC_ge (g := g) fun j hj => h j (by omega)
    have h2 := (h g (by omega)).1
    simp only [lastC]; omega
def goodI (ks : List KR) (gs : List Int) (last : Int) (i : IR) : Prop := last < i.e ∧ i.e < gs.length ∧ i.g = gs.getD i.e.toNat 0 ∧ i.g ≠ 1073741824 ∧ heldP ks i.cs
instance (ks : List KR) (gs : List Int) (l : Int) (c : IR) : Decidable (goodI ks gs l c) := by unfold goodI; infer_instance
def lastI (its : List IR) : Nat → Int
  | 0 => -1
  | j + 1 => (its.getD j default).e
def itemsP (ks : List KR) (gs : List Int) (its : List IR) : Prop := ∀ j, j < its.length → goodI ks gs (lastI its j) (its.getD j default)
instance (ks : List KR) (gs : List Int) (its : List IR) : Decidable (itemsP ks gs its) := by unfold itemsP; infer_instance
theorem lastI_ge {ks : List KR} {gs : List Int} {its : List IR} : ∀ {g : Nat}, (∀ j, j < g → goodI ks gs (lastI its j) (its.getD j default)) → -1 ≤ lastI its g
  | 0, _ => Int.le_refl _
  | g + 1, h => by
    have h1 := lastI_ge (g := g) fun j hj => h j (by omega)
    have h2 := (h g (by omega)).1
    simp only [lastI]; omega
def gensP (gs : List Int) : Prop := ∀ j, j < gs.length → 0 ≤ gs.getD j 0 ∧ gs.getD j 0 ≤ 1073741824
instance (gs : List Int) : Decidable (gensP gs) := by unfold gensP; infer_instance
/-- The number of a world's fault. -/
def wErr (ks : List KR) (gs : List Int) (its : List IR) : Int := if ckErr ks ≠ 0 then ckErr ks else if 256 < gs.length ∨ gs.length < its.length then 2 else if gensP gs ∧ itemsP ks gs its then 0 else 3

theorem HoldsK_c {V : Mem} (k : KR) (hk : KOK V k) (A : Option Addr) (n c : Nat) (vs : List Int) (hv : Cels V [] A (vs.map (.int .i64))) (hvl : vs.length = n) (hnb : n ≤ 17592186044416) : CallS Try.prog 158 [.agg #[.string k.name, .slice k.A k.n k.c], .slice A n c].toArray V [] (fun r L' => r = .bool (decide (holdsV k vs)) ∧ L' = []) := by
  refine callS Try.func158 rfl rfl (fun w0 => ?_)
  refine s_seq ?_
  refine s_region ?_
  refine o_box (v := (.agg #[(.string _), (.slice _ _ _)])) rfl rfl rfl (fun b1 => ?_)
  refine o_val rfl rfl rfl (y_assign (v := (.bool _)) rfl) ?_
  refine o_nil ?_
  refine s_seq ?_
  refine s_region ?_
  refine o_val rfl rfl rfl (y_loads (cs := [_, _]) Try.isAgg58 Try.sizeOf58 rfl rfl rfl (cels_own 0 rfl rfl)) ?_
  refine o_val rfl rfl rfl (y_move (v := (.slice _ _ _)) rfl) ?_
  refine o_fn 0 (d := 11) rfl Try.call143 (FitK_c k (hk.sub MSub.ext) A n c vs hv.here.down hvl hnb) rfl ?_
  rintro _ _ (⟨hbad, rfl, rfl⟩ | ⟨hgood, B, E, rfl, hbo, hbS, rfl⟩)
  · refine o_val rfl rfl rfl (y_move (v := (.tuple #[(.slice _ _ _), (.int _ _)])) rfl) ?_
    refine o_val rfl rfl rfl (y_extract (v := (.slice _ _ _)) rfl rfl) ?_
    refine o_val rfl rfl rfl (y_extract (v := (.int _ _)) rfl rfl) ?_
    refine o_val rfl rfl rfl (y_assign (v := (.slice _ _ _)) rfl) ?_
    refine o_val rfl rfl rfl (y_assign (v := (.int _ _)) rfl) ?_
    refine o_nil ?_
    refine s_seq ?_
    refine s_seq ?_
    refine s_region ?_
    refine o_val rfl rfl rfl (y_move (v := (.int _ _)) rfl) ?_
    refine o_val rfl rfl rfl (y_neq rfl rfl) ?_
    refine o_nil ?_
    refine s_forget [(1, (.slice _ _ _)), (4, (.bool _)), (5, (.slice _ _ _)), (15, (.bool _))] ⟨rfl, rfl, rfl, rfl, trivial⟩ (fun _f => ?_)
    refine s_if rfl (fun h2 => ?_) (fun h3 => ?_)
    · refine s_seq ?_
      refine s_region ?_
      refine o_val rfl rfl rfl (y_assign (v := (.bool _)) rfl) ?_
      refine o_nil ?_
      refine s_ret ?_
      exact ⟨_, [], res1 rfl rfl, ⟨congrArg Value.bool (decide_eq_false (fun hh => hbad (by rw [← hvl]; exact hh.1))).symm, rfl⟩, sub_picks [] rfl⟩
    · exact absurd (Decidable.not_not.1 h3) hbad
  · have hfl2 : (fitV k.fs vs).length = n := by simpa using hbo.len
    refine o_val rfl rfl rfl (y_move (v := (.tuple #[(.slice _ _ _), (.int _ _)])) rfl) ?_
    refine o_val rfl rfl rfl (y_extract (v := (.slice _ _ _)) rfl rfl) ?_
    refine o_val rfl rfl rfl (y_extract (v := (.int _ _)) rfl rfl) ?_
    refine o_val rfl rfl rfl (y_assign (v := (.slice _ _ _)) rfl) ?_
    refine o_val rfl rfl rfl (y_assign (v := (.int _ _)) rfl) ?_
    refine o_nil ?_
    refine s_seq ?_
    refine s_seq ?_
    refine s_region ?_
    refine o_val rfl rfl rfl (y_move (v := (.int _ _)) rfl) ?_
    refine o_val rfl rfl rfl (y_neq rfl rfl) ?_
    refine o_nil ?_
    refine s_forget [(1, (.slice _ _ _)), (4, (.bool _)), (5, (.slice _ _ _)), (15, (.bool _))] ⟨rfl, rfl, rfl, rfl, trivial⟩ (fun _f => ?_)
    refine s_if rfl (fun h4 => ?_) (fun h5 => ?_)
    · exact absurd rfl h4
    · refine s_skip ?_
      refine s_seq ?_
      refine s_seq ?_
      refine s_region ?_
      refine o_val rfl rfl rfl (y_move (v := (.slice _ _ _)) rfl) ?_
      refine o_val rfl rfl rfl (y_len Try.runUnderlying22 rfl) ?_
      refine o_val rfl rfl rfl (y_move (v := (.int _ _)) rfl) ?_
      refine o_nil ?_
      refine s_block ?_
      refine s_loopK (γ := Nat) [(1, (.slice _ _ _)), (5, (.slice _ _ _)), (17, (.int _ _))] [_] (fun g => [(18, .int .i64 g)]) (fun g => []) (fun g => g ≤ n ∧ ∀ j, j < g → (fitV k.fs vs).getD j 0 = vs.getD j 0) (fun g => n - g) (0) ⟨rfl, rfl, rfl, rfl, trivial⟩ (sub_picks [0] rfl) ?_ ?_
      · exact ⟨Nat.zero_le _, fun j hj => absurd hj (Nat.not_lt_zero j)⟩
      intro g _f hI
      obtain ⟨hg, hall⟩ := hI
      refine s_seq ?_
      refine s_region ?_
      refine o_val rfl rfl rfl (y_lss rfl rfl) ?_
      refine o_nil ?_
      refine s_seq ?_
      refine s_if rfl (fun h6 => ?_) (fun h7 => ?_)
      · refine s_skip ?_
        refine s_seq ?_
        refine s_block ?_
        refine s_seq ?_
        refine s_region ?_
        refine o_val rfl rfl rfl (y_move (v := (.int _ _)) rfl) ?_
        refine o_val rfl rfl rfl (y_assign (v := (.int _ _)) rfl) ?_
        refine o_nil ?_
        refine s_seq ?_
        refine s_quiet (by kernel_rfl) (by kernel_rfl) ?_
        refine q_val rfl rfl rfl (y_move (v := (.slice _ _ _)) rfl) ?_
        refine q_val rfl rfl rfl (y_move (v := (.int _ _)) rfl) ?_
        refine q_val rfl rfl rfl (y_index1 Try.runUnderlying22 Try.sizeOf3 (hbo.some_of (by omega)) rfl rfl (by omega)) ?_
        refine q_val rfl rfl rfl (y_load Try.isAgg3 rfl (cel_int (hbo.cels (j := 0) rfl) (by omega))) ?_
        refine q_val rfl rfl rfl (y_move (v := (.slice _ _ _)) rfl) ?_
        refine q_val rfl rfl rfl (y_move (v := (.int _ _)) rfl) ?_
        refine q_val rfl rfl rfl (y_index1 Try.runUnderlying22 Try.sizeOf3 (some_int (i := 0) hv (by omega)) rfl rfl (by omega)) ?_
        refine q_val rfl rfl rfl (y_load Try.isAgg3 rfl (cel_int hv.here (by omega))) ?_
        refine q_val rfl rfl rfl (y_neq rfl rfl) ?_
        refine q_nil ?_
        refine s_forget [(1, (.slice _ _ _)), (5, (.slice _ _ _)), (17, (.int _ _)), (18, (.int _ _)), (29, (.bool _))] ⟨rfl, rfl, rfl, rfl, rfl, trivial⟩ (fun _f => ?_)
        refine s_if rfl (fun h8 => ?_) (fun h9 => ?_)
        · have hne := h8
          refine s_seq ?_
          refine s_region ?_
          refine o_val rfl rfl rfl (y_assign (v := (.bool _)) rfl) ?_
          refine o_nil ?_
          refine s_ret ?_
          exact ⟨_, [], res1 rfl rfl, ⟨congrArg Value.bool (decide_eq_false (fun hh => hne (by rw [hh.2]))).symm, rfl⟩, sub_picks [] rfl⟩
        · have heq := Decidable.not_not.1 h9
          refine s_skip ?_
          refine s_region ?_
          refine o_val rfl rfl rfl (y_add rfl rfl (by simp only [inK]; omega)) ?_
          refine o_val rfl rfl rfl (y_move (v := (.int _ _)) rfl) ?_
          refine o_nil ?_
          exact ⟨g + 1, (by first | omega | (dsimp only; omega)), ⟨by omega, all_next hall heq⟩, ⟨(congrArg (Value.int .i64) (by omega)), rfl, rfl, rfl, trivial⟩, (sub_picks [0] rfl)⟩
      · refine s_exit ?_
        refine s_seq ?_
        refine s_region ?_
        refine o_val rfl rfl rfl (y_assign (v := (.bool _)) rfl) ?_
        refine o_nil ?_
        refine s_ret ?_
        exact ⟨_, [], res1 rfl rfl, ⟨congrArg Value.bool (decide_eq_true ⟨by rw [hvl]; exact hgood, ext_getD (by omega) (fun j hj => hall j (by omega))⟩).symm, rfl⟩, sub_picks [] rfl⟩

theorem heldW_c {V : Mem} (kA : Option Addr) (kn kc : Nat) (ks : List KR) (hks : KsOK V kA kn kc ks) (A : Option Addr) (n c : Nat) (cs : List CR) (hcs : CsOK V A n c cs) : CallS Try.prog 98 [.slice kA kn kc, .slice A n c].toArray V [] (fun r L' => r = .bool (decide (heldP ks cs)) ∧ L' = []) := by
  obtain ⟨hKl, hKc, hKb, hK, hKK⟩ := hks
  obtain ⟨hCl, hCc, hCb, hC, hCC⟩ := hcs
  refine callS Try.func98 rfl rfl (fun w0 => ?_)
  refine s_seq ?_
  refine s_region ?_
  refine o_val rfl rfl rfl (y_assign (v := (.bool _)) rfl) ?_
  refine o_nil ?_
  refine s_seq ?_
  refine s_region ?_
  refine o_val rfl rfl rfl (y_assign (v := (.int _ _)) rfl) ?_
  refine o_nil ?_
  refine s_seq ?_
  refine s_seq ?_
  refine s_region ?_
  refine o_val rfl rfl rfl (y_move (v := (.slice _ _ _)) rfl) ?_
  refine o_val rfl rfl rfl (y_len Try.runUnderlying33 rfl) ?_
  refine o_val rfl rfl rfl (y_move (v := (.int _ _)) rfl) ?_
  refine o_nil ?_
  refine s_block ?_
  refine s_loopK (γ := Nat) [(0, (.slice _ _ _)), (8, (.slice _ _ _)), (9, (.int _ _))] [] (fun g => [(5, .int .i64 (lastC cs g)), (10, .int .i64 g)]) (fun g => []) (fun g => g ≤ n ∧ ∀ j, j < g → goodC ks (lastC cs j) (cs.getD j default)) (fun g => n - g) (0) ⟨rfl, rfl, rfl, rfl, rfl, trivial⟩ (sub_picks [] rfl) ?_ ?_
  · exact ⟨Nat.zero_le _, fun j hj => absurd hj (Nat.not_lt_zero j)⟩
  intro g _f hI
  obtain ⟨hg, hall⟩ := hI
  refine s_seq ?_
  refine s_region ?_
  refine o_val rfl rfl rfl (y_lss rfl rfl) ?_
  refine o_nil ?_
  refine s_seq ?_
  refine s_if rfl (fun h1 => ?_) (fun h2 => ?_)
  · refine s_skip ?_
    refine s_seq ?_
    refine s_block ?_
    refine s_seq ?_
    refine s_region ?_
    refine o_val rfl rfl rfl (y_indexAddr Try.runUnderlying33 Try.sizeOf155 (some_at (sz := 1) encC_len (i := 0) hC (by omega)) rfl rfl (by omega)) ?_
    refine o_val rfl rfl rfl (y_loads (cs := [_, _]) Try.isAgg155 Try.sizeOf155 rfl (by unfold idx; rw [Option.isSome_map]; exact some_at (sz := 1) encC_len (i := 0) hC (by omega)) rfl (cels_at (sz := 2) encC_len hC.here (by omega))) ?_
    refine o_alloc rfl Try.zeroValue155 rfl (fun b3 => ?_)
    refine o_stores (vs := [(.int _ _), (.slice _ _ _)]) 0 rfl Try.sizeOf155 rfl rfl rfl (by simp [Value.oneCell']) (by simp) ?_
    refine o_nil ?_
    refine s_seq ?_
    refine s_seq ?_
    refine s_drawn 0 (by kernel_rfl) ?_
    have hcc := hCC _ (getD_mem' (show g < cs.length by omega) : (cs.getD ((g : Nat) : Int).toNat default) ∈ cs)
    have hlg := lastC_ge hall
    refine d_val (i := 0) rfl (by kernel_rfl) (by kernel_rfl) (by kernel_rfl) rfl rfl rfl (y_field0 Try.runUnderlying155 rfl Try.sizeOf3 rfl rfl) ?_
    refine d_val (i := 1) rfl (by kernel_rfl) (by kernel_rfl) (by kernel_rfl) rfl rfl rfl (y_load Try.isAgg3 rfl (cel_own 0 rfl rfl)) ?_
    refine d_val (i := 2) rfl (by kernel_rfl) (by kernel_rfl) (by kernel_rfl) rfl rfl rfl (y_move (v := (.int _ _)) rfl) ?_
    refine d_split (i := 3) rfl (by kernel_rfl) (by kernel_rfl) (by kernel_rfl) rfl rfl rfl (y_leq rfl rfl) (fun p4 => ?_) (fun p5 => ?_)
    · refine d_val (i := 4) rfl (by kernel_rfl) (by kernel_rfl) (by kernel_rfl) rfl rfl rfl (y_move (v := (.bool _)) rfl) ?_
      refine d_guard_no (i := 5) rfl (by kernel_rfl) (by kernel_rfl) (by kernel_rfl) rfl rfl rfl rfl rfl ?_
      refine d_guard_no (i := 6) rfl (by kernel_rfl) (by kernel_rfl) (by kernel_rfl) rfl rfl rfl rfl rfl ?_
      refine d_guard_no (i := 7) rfl (by kernel_rfl) (by kernel_rfl) (by kernel_rfl) rfl rfl rfl rfl rfl ?_
      refine d_guard_no (i := 8) rfl (by kernel_rfl) (by kernel_rfl) (by kernel_rfl) rfl rfl rfl rfl rfl ?_
      refine d_guard_no (i := 9) rfl (by kernel_rfl) (by kernel_rfl) (by kernel_rfl) rfl rfl rfl rfl rfl ?_
      refine d_val (i := 10) rfl (by kernel_rfl) (by kernel_rfl) (by kernel_rfl) rfl rfl rfl (y_pick_t (v := (.bool _)) rfl rfl) ?_
      refine d_val (i := 11) rfl (by kernel_rfl) (by kernel_rfl) (by kernel_rfl) rfl rfl rfl (y_move (v := (.bool _)) rfl) ?_
      refine d_guard_no (i := 12) rfl (by kernel_rfl) (by kernel_rfl) (by kernel_rfl) rfl rfl rfl rfl rfl ?_
      refine d_guard_no (i := 13) rfl (by kernel_rfl) (by kernel_rfl) (by kernel_rfl) rfl rfl rfl rfl rfl ?_
      refine d_guard_no (i := 14) rfl (by kernel_rfl) (by kernel_rfl) (by kernel_rfl) rfl rfl rfl rfl rfl ?_
      refine d_guard_no (i := 15) rfl (by kernel_rfl) (by kernel_rfl) (by kernel_rfl) rfl rfl rfl rfl rfl ?_
      refine d_guard_no (i := 16) rfl (by kernel_rfl) (by kernel_rfl) (by kernel_rfl) rfl rfl rfl rfl rfl ?_
      refine d_guard_no (i := 17) rfl (by kernel_rfl) (by kernel_rfl) (by kernel_rfl) rfl rfl rfl rfl rfl ?_
      refine d_guard_no (i := 18) rfl (by kernel_rfl) (by kernel_rfl) (by kernel_rfl) rfl rfl rfl rfl rfl ?_
      refine d_eff (k := 19) (n := 0) (m := 1) rfl (by kernel_rfl) rfl ?_
      refine o_guard_no rfl rfl rfl rfl rfl ?_
      refine o_nil ?_
      refine d_guard_no (i := 20) rfl (by kernel_rfl) (by kernel_rfl) (by kernel_rfl) rfl rfl rfl rfl rfl ?_
      refine d_val (i := 21) rfl (by kernel_rfl) (by kernel_rfl) (by kernel_rfl) rfl rfl rfl (y_pick_t (v := (.bool _)) rfl rfl) ?_
      refine d_nil (n := 0) (m := 1) (by kernel_rfl) rfl ?_
      refine s_forget [(0, (.slice _ _ _)), (5, (.int _ _)), (7, (.pointer _)), (8, (.slice _ _ _)), (9, (.int _ _)), (10, (.int _ _)), (35, (.bool _))] ⟨rfl, rfl, rfl, rfl, rfl, rfl, rfl, trivial⟩ (fun _f => ?_)
      refine s_then rfl ?_
      refine s_seq ?_
      refine s_region ?_
      refine o_val rfl rfl rfl (y_assign (v := (.bool _)) rfl) ?_
      refine o_nil ?_
      refine s_ret ?_
      exact ⟨_, [], res1 rfl rfl, ⟨congrArg Value.bool (decide_eq_false (fun hh => by have : goodC ks (lastC cs g) (cs.getD ((g : Nat) : Int).toNat default) := hh g (by omega); unfold goodC at this; first | exact absurd this.2.2 (by assumption) | omega)).symm, rfl⟩, sub_picks [] rfl⟩
    · refine d_val (i := 4) rfl (by kernel_rfl) (by kernel_rfl) (by kernel_rfl) rfl rfl rfl (y_move (v := (.bool _)) rfl) ?_
      refine d_val_g (i := 5) rfl (by kernel_rfl) (by kernel_rfl) (by kernel_rfl) rfl rfl rfl rfl (y_field0 Try.runUnderlying155 rfl Try.sizeOf3 rfl rfl) ?_
      refine d_val_g (i := 6) rfl (by kernel_rfl) (by kernel_rfl) (by kernel_rfl) rfl rfl rfl rfl (y_load Try.isAgg3 rfl (cel_own 0 rfl rfl)) ?_
      refine d_val_g (i := 7) rfl (by kernel_rfl) (by kernel_rfl) (by kernel_rfl) rfl rfl rfl rfl (y_move (v := (.slice _ _ _)) rfl) ?_
      refine d_val_g (i := 8) rfl (by kernel_rfl) (by kernel_rfl) (by kernel_rfl) rfl rfl rfl rfl (y_len Try.runUnderlying23 rfl) ?_
      refine d_split_g (i := 9) rfl (by kernel_rfl) (by kernel_rfl) (by kernel_rfl) rfl rfl rfl rfl (y_geq rfl rfl) (fun p6 => ?_) (fun p7 => ?_)
      · refine d_val (i := 10) rfl (by kernel_rfl) (by kernel_rfl) (by kernel_rfl) rfl rfl rfl (y_pick_f (v := (.bool _)) rfl rfl) ?_
        refine d_val (i := 11) rfl (by kernel_rfl) (by kernel_rfl) (by kernel_rfl) rfl rfl rfl (y_move (v := (.bool _)) rfl) ?_
        refine d_guard_no (i := 12) rfl (by kernel_rfl) (by kernel_rfl) (by kernel_rfl) rfl rfl rfl rfl rfl ?_
        refine d_guard_no (i := 13) rfl (by kernel_rfl) (by kernel_rfl) (by kernel_rfl) rfl rfl rfl rfl rfl ?_
        refine d_guard_no (i := 14) rfl (by kernel_rfl) (by kernel_rfl) (by kernel_rfl) rfl rfl rfl rfl rfl ?_
        refine d_guard_no (i := 15) rfl (by kernel_rfl) (by kernel_rfl) (by kernel_rfl) rfl rfl rfl rfl rfl ?_
        refine d_guard_no (i := 16) rfl (by kernel_rfl) (by kernel_rfl) (by kernel_rfl) rfl rfl rfl rfl rfl ?_
        refine d_guard_no (i := 17) rfl (by kernel_rfl) (by kernel_rfl) (by kernel_rfl) rfl rfl rfl rfl rfl ?_
        refine d_guard_no (i := 18) rfl (by kernel_rfl) (by kernel_rfl) (by kernel_rfl) rfl rfl rfl rfl rfl ?_
        refine d_eff (k := 19) (n := 0) (m := 1) rfl (by kernel_rfl) rfl ?_
        refine o_guard_no rfl rfl rfl rfl rfl ?_
        refine o_nil ?_
        refine d_guard_no (i := 20) rfl (by kernel_rfl) (by kernel_rfl) (by kernel_rfl) rfl rfl rfl rfl rfl ?_
        refine d_val (i := 21) rfl (by kernel_rfl) (by kernel_rfl) (by kernel_rfl) rfl rfl rfl (y_pick_t (v := (.bool _)) rfl rfl) ?_
        refine d_nil (n := 0) (m := 1) (by kernel_rfl) rfl ?_
        refine s_forget [(0, (.slice _ _ _)), (5, (.int _ _)), (7, (.pointer _)), (8, (.slice _ _ _)), (9, (.int _ _)), (10, (.int _ _)), (35, (.bool _))] ⟨rfl, rfl, rfl, rfl, rfl, rfl, rfl, trivial⟩ (fun _f => ?_)
        refine s_then rfl ?_
        refine s_seq ?_
        refine s_region ?_
        refine o_val rfl rfl rfl (y_assign (v := (.bool _)) rfl) ?_
        refine o_nil ?_
        refine s_ret ?_
        exact ⟨_, [], res1 rfl rfl, ⟨congrArg Value.bool (decide_eq_false (fun hh => by have : goodC ks (lastC cs g) (cs.getD ((g : Nat) : Int).toNat default) := hh g (by omega); unfold goodC at this; first | exact absurd this.2.2 (by assumption) | omega)).symm, rfl⟩, sub_picks [] rfl⟩
      · refine d_val (i := 10) rfl (by kernel_rfl) (by kernel_rfl) (by kernel_rfl) rfl rfl rfl (y_pick_f (v := (.bool _)) rfl rfl) ?_
        refine d_val (i := 11) rfl (by kernel_rfl) (by kernel_rfl) (by kernel_rfl) rfl rfl rfl (y_move (v := (.bool _)) rfl) ?_
        refine d_val_g (i := 12) rfl (by kernel_rfl) (by kernel_rfl) (by kernel_rfl) rfl rfl rfl rfl (y_move (v := (.slice _ _ _)) rfl) ?_
        refine d_val_g (i := 13) rfl (by kernel_rfl) (by kernel_rfl) (by kernel_rfl) rfl rfl rfl rfl (y_field0 Try.runUnderlying155 rfl Try.sizeOf3 rfl rfl) ?_
        refine d_val_g (i := 14) rfl (by kernel_rfl) (by kernel_rfl) (by kernel_rfl) rfl rfl rfl rfl (y_load Try.isAgg3 rfl (cel_own 0 rfl rfl)) ?_
        refine d_val_g (i := 15) rfl (by kernel_rfl) (by kernel_rfl) (by kernel_rfl) rfl rfl rfl rfl (y_indexAddr Try.runUnderlying23 Try.sizeOf58 (some_at (sz := 1) encK_len (i := 0) hK (by omega)) rfl rfl (by omega)) ?_
        refine d_val_g (i := 16) rfl (by kernel_rfl) (by kernel_rfl) (by kernel_rfl) rfl rfl rfl rfl (y_loads (cs := [_, _]) Try.isAgg58 Try.sizeOf58 rfl (by unfold idx; rw [Option.isSome_map]; exact some_at (sz := 1) encK_len (i := 0) hK (by omega)) rfl (cels_at (sz := 2) encK_len hK.here (by omega))) ?_
        refine d_val_g (i := 17) rfl (by kernel_rfl) (by kernel_rfl) (by kernel_rfl) rfl rfl rfl rfl (y_field0 Try.runUnderlying155 rfl Try.sizeOf22 rfl rfl) ?_
        refine d_val_g (i := 18) rfl (by kernel_rfl) (by kernel_rfl) (by kernel_rfl) rfl rfl rfl rfl (y_load Try.isAgg22 rfl (cel_own 0 rfl rfl)) ?_
        refine d_eff (k := 19) (n := 0) (m := 1) rfl (by kernel_rfl) rfl ?_
        refine o_guard_yes rfl rfl ?_
        refine o_fn 0 (d := 33) rfl Try.call158 (HoldsK_c (ks.getD (cs.getD ((g : Nat) : Int).toNat default).kind.toNat default) ((hKK _ (getD_mem' (by omega))).sub MSub.ext) (cs.getD ((g : Nat) : Int).toNat default).A (cs.getD ((g : Nat) : Int).toNat default).n (cs.getD ((g : Nat) : Int).toNat default).c (cs.getD ((g : Nat) : Int).toNat default).vs hcc.2.2.2.here.down hcc.1 hcc.2.2.1) rfl ?_
        rintro _ _ ⟨rfl, rfl⟩
        refine o_nil ?_
        refine d_split_g (i := 20) rfl (by kernel_rfl) (by kernel_rfl) (by kernel_rfl) rfl rfl rfl rfl (y_not rfl) (fun p8 => ?_) (fun p9 => ?_)
        · refine d_val (i := 21) rfl (by kernel_rfl) (by kernel_rfl) (by kernel_rfl) rfl rfl rfl (y_pick_f (v := (.bool _)) rfl rfl) ?_
          refine d_nil (n := 0) (m := 1) (by kernel_rfl) rfl ?_
          refine s_forget [(0, (.slice _ _ _)), (5, (.int _ _)), (7, (.pointer _)), (8, (.slice _ _ _)), (9, (.int _ _)), (10, (.int _ _)), (35, (.bool _))] ⟨rfl, rfl, rfl, rfl, rfl, rfl, rfl, trivial⟩ (fun _f => ?_)
          refine s_then rfl ?_
          refine s_seq ?_
          refine s_region ?_
          refine o_val rfl rfl rfl (y_assign (v := (.bool _)) rfl) ?_
          refine o_nil ?_
          refine s_ret ?_
          exact ⟨_, [], res1 rfl rfl, ⟨congrArg Value.bool (decide_eq_false (fun hh => by have : goodC ks (lastC cs g) (cs.getD ((g : Nat) : Int).toNat default) := hh g (by omega); unfold goodC at this; first | exact absurd this.2.2 (by assumption) | omega)).symm, rfl⟩, sub_picks [] rfl⟩
        · refine d_val (i := 21) rfl (by kernel_rfl) (by kernel_rfl) (by kernel_rfl) rfl rfl rfl (y_pick_f (v := (.bool _)) rfl rfl) ?_
          refine d_nil (n := 0) (m := 1) (by kernel_rfl) rfl ?_
          refine s_forget [(0, (.slice _ _ _)), (5, (.int _ _)), (7, (.pointer _)), (8, (.slice _ _ _)), (9, (.int _ _)), (10, (.int _ _)), (35, (.bool _))] ⟨rfl, rfl, rfl, rfl, rfl, rfl, rfl, trivial⟩ (fun _f => ?_)
          refine s_else rfl ?_
          refine s_skip ?_
          refine s_region ?_
          refine o_val rfl rfl rfl (y_field0 Try.runUnderlying155 rfl Try.sizeOf3 rfl rfl) ?_
          refine o_val rfl rfl rfl (y_load Try.isAgg3 rfl (cel_own 0 rfl rfl)) ?_
          refine o_val rfl rfl rfl (y_assign (v := (.int _ _)) rfl) ?_
          refine o_nil ?_
          refine s_region ?_
          refine o_val rfl rfl rfl (y_add rfl rfl (by simp only [inK]; omega)) ?_
          refine o_val rfl rfl rfl (y_move (v := (.int _ _)) rfl) ?_
          refine o_nil ?_
          exact ⟨g + 1, (by first | omega | (dsimp only; omega)), ⟨by omega, all_next hall (show goodC ks (lastC cs g) (cs.getD ((g : Nat) : Int).toNat default) from ⟨by omega, by omega, by first | assumption | exact Decidable.not_not.1 (by assumption)⟩)⟩, ⟨rfl, (congrArg (Value.int .i64) (by omega)), rfl, rfl, rfl, trivial⟩, (sub_picks [] rfl)⟩
  · refine s_exit ?_
    refine s_seq ?_
    refine s_region ?_
    refine o_val rfl rfl rfl (y_assign (v := (.bool _)) rfl) ?_
    refine o_nil ?_
    refine s_ret ?_
    exact ⟨_, [], res1 rfl rfl, ⟨congrArg Value.bool (decide_eq_true (fun j hj => hall j (by omega))).symm, rfl⟩, sub_picks [] rfl⟩

theorem CheckW_c {V : Mem} (w : WR) (hw : WOK V w) : CallS Try.prog 26 [.agg #[.slice w.kA w.kn w.kc, .slice w.gA w.gn w.gc, .slice w.iA w.iN w.iC]].toArray V [] (fun r L' => r = .int .i64 (wErr w.ks w.gs w.its) ∧ L' = []) := by
  obtain ⟨⟨hwKl, hwKc, hwKb, hwK, hwKK⟩, ⟨hwGl, hwGc, hwGb, hwG⟩, ⟨hwIl, hwIc, hwIb, hwI, hwII⟩⟩ := hw
  refine callS Try.func26 rfl rfl (fun w0 => ?_)
  refine s_seq ?_
  refine s_region ?_
  refine o_box (v := (.agg #[(.slice _ _ _), (.slice _ _ _), (.slice _ _ _)])) rfl rfl rfl (fun b1 => ?_)
  refine o_val rfl rfl rfl (y_assign (v := (.int _ _)) rfl) ?_
  refine o_nil ?_
  refine s_seq ?_
  refine s_seq ?_
  refine s_region ?_
  refine o_val rfl rfl rfl (y_field0 Try.runUnderlying47 rfl Try.sizeOf23 rfl rfl) ?_
  refine o_val rfl rfl rfl (y_load Try.isAgg23 rfl (cel_own 0 rfl rfl)) ?_
  refine o_fn 0 (d := 11) rfl Try.call97 (CheckK_c w.kA w.kn w.kc w.ks hwK.here.down hwKl hwKc (by omega) (fun x hx => (hwKK x hx).sub MSub.ext)) rfl ?_
  rintro _ _ ⟨rfl, rfl⟩
  refine o_val rfl rfl rfl (y_assign (v := (.int _ _)) rfl) ?_
  refine o_nil ?_
  refine s_seq ?_
  refine s_region ?_
  refine o_val rfl rfl rfl (y_move (v := (.int _ _)) rfl) ?_
  refine o_val rfl rfl rfl (y_neq rfl rfl) ?_
  refine o_nil ?_
  refine s_if rfl (fun h2 => ?_) (fun h3 => ?_)
  · have hck := h2
    refine s_seq ?_
    refine s_region ?_
    refine o_val rfl rfl rfl (y_move (v := (.int _ _)) rfl) ?_
    refine o_val rfl rfl rfl (y_assign (v := (.int _ _)) rfl) ?_
    refine o_nil ?_
    refine s_ret ?_
    exact ⟨_, [], res1 rfl rfl, ⟨congrArg (Value.int .i64) (by unfold wErr; rw [if_pos hck]), rfl⟩, sub_picks [] rfl⟩
  · have hck := Decidable.not_not.1 h3
    refine s_skip ?_
    refine s_seq ?_
    refine s_seq ?_
    refine s_region ?_
    refine o_val rfl rfl rfl (y_field0 Try.runUnderlying47 rfl Try.sizeOf22 rfl rfl) ?_
    refine o_val rfl rfl rfl (y_load Try.isAgg22 rfl (cel_own 0 rfl rfl)) ?_
    refine o_val rfl rfl rfl (y_len Try.runUnderlying22 rfl) ?_
    refine o_split rfl rfl rfl (y_gtr rfl rfl) (fun p4 => ?_) (fun p5 => ?_)
    · refine o_val rfl rfl rfl (y_move (v := (.bool _)) rfl) ?_
      refine o_guard_no rfl rfl rfl rfl rfl ?_
      refine o_guard_no rfl rfl rfl rfl rfl ?_
      refine o_guard_no rfl rfl rfl rfl rfl ?_
      refine o_guard_no rfl rfl rfl rfl rfl ?_
      refine o_guard_no rfl rfl rfl rfl rfl ?_
      refine o_guard_no rfl rfl rfl rfl rfl ?_
      refine o_guard_no rfl rfl rfl rfl rfl ?_
      refine o_val rfl rfl rfl (y_pick_t (v := (.bool _)) rfl rfl) ?_
      refine o_nil ?_
      refine s_forget [(1, (.pointer _)), (2, (.int _ _)), (27, (.bool _))] ⟨rfl, rfl, rfl, trivial⟩ (fun _f => ?_)
      refine s_then rfl ?_
      refine s_seq ?_
      refine s_region ?_
      refine o_val rfl rfl rfl (y_assign (v := (.int _ _)) rfl) ?_
      refine o_nil ?_
      refine s_ret ?_
      exact ⟨_, [], res1 rfl rfl, ⟨congrArg (Value.int .i64) (by unfold wErr; rw [if_neg (show ¬ ckErr w.ks ≠ 0 from fun hh => hh hck)]; rw [if_pos (by omega)]), rfl⟩, sub_picks [] rfl⟩
    · refine o_val rfl rfl rfl (y_move (v := (.bool _)) rfl) ?_
      refine o_guard_yes rfl rfl ?_
      refine o_val rfl rfl rfl (y_field0 Try.runUnderlying47 rfl Try.sizeOf45 rfl rfl) ?_
      refine o_guard_yes rfl rfl ?_
      refine o_val rfl rfl rfl (y_load Try.isAgg45 rfl (cel_own 0 rfl rfl)) ?_
      refine o_guard_yes rfl rfl ?_
      refine o_val rfl rfl rfl (y_len Try.runUnderlying45 rfl) ?_
      refine o_guard_yes rfl rfl ?_
      refine o_val rfl rfl rfl (y_field0 Try.runUnderlying47 rfl Try.sizeOf22 rfl rfl) ?_
      refine o_guard_yes rfl rfl ?_
      refine o_val rfl rfl rfl (y_load Try.isAgg22 rfl (cel_own 0 rfl rfl)) ?_
      refine o_guard_yes rfl rfl ?_
      refine o_val rfl rfl rfl (y_len Try.runUnderlying22 rfl) ?_
      refine o_guard_yes rfl rfl ?_
      refine o_val rfl rfl rfl (y_gtr rfl rfl) ?_
      refine o_val rfl rfl rfl (y_pick_f (v := (.bool _)) rfl rfl) ?_
      refine o_nil ?_
      refine s_forget [(1, (.pointer _)), (2, (.int _ _)), (27, (.bool _))] ⟨rfl, rfl, rfl, trivial⟩ (fun _f => ?_)
      refine s_if rfl (fun h6 => ?_) (fun h7 => ?_)
      · refine s_seq ?_
        refine s_region ?_
        refine o_val rfl rfl rfl (y_assign (v := (.int _ _)) rfl) ?_
        refine o_nil ?_
        refine s_ret ?_
        exact ⟨_, [], res1 rfl rfl, ⟨congrArg (Value.int .i64) (by unfold wErr; rw [if_neg (show ¬ ckErr w.ks ≠ 0 from fun hh => hh hck)]; rw [if_pos (by omega)]), rfl⟩, sub_picks [] rfl⟩
      · refine s_skip ?_
        refine s_seq ?_
        refine s_seq ?_
        refine s_region ?_
        refine o_val rfl rfl rfl (y_field0 Try.runUnderlying47 rfl Try.sizeOf22 rfl rfl) ?_
        refine o_val rfl rfl rfl (y_load Try.isAgg22 rfl (cel_own 0 rfl rfl)) ?_
        refine o_val rfl rfl rfl (y_len Try.runUnderlying22 rfl) ?_
        refine o_val rfl rfl rfl (y_move (v := (.int _ _)) rfl) ?_
        refine o_nil ?_
        refine s_block ?_
        refine s_loopK (γ := Nat) [(1, (.pointer _)), (29, (.slice _ _ _)), (30, (.int _ _))] [_] (fun g => [(31, .int .i64 g)]) (fun g => []) (fun g => g ≤ w.gn ∧ ∀ j, j < g → 0 ≤ w.gs.getD j 0 ∧ w.gs.getD j 0 ≤ 1073741824) (fun g => w.gn - g) (0) ⟨rfl, rfl, rfl, rfl, trivial⟩ (sub_picks [0] rfl) ?_ ?_
        · exact ⟨Nat.zero_le _, fun j hj => absurd hj (Nat.not_lt_zero j)⟩
        intro g _f hI
        obtain ⟨hg, hgall⟩ := hI
        refine s_seq ?_
        refine s_region ?_
        refine o_val rfl rfl rfl (y_lss rfl rfl) ?_
        refine o_nil ?_
        refine s_seq ?_
        refine s_if rfl (fun h8 => ?_) (fun h9 => ?_)
        · refine s_skip ?_
          refine s_seq ?_
          refine s_block ?_
          refine s_seq ?_
          refine s_region ?_
          refine o_val rfl rfl rfl (y_index1 Try.runUnderlying22 Try.sizeOf3 (some_int (i := 0) hwG (by omega)) rfl rfl (by omega)) ?_
          refine o_val rfl rfl rfl (y_load Try.isAgg3 rfl (cel_int hwG.here (by omega))) ?_
          refine o_val rfl rfl rfl (y_assign (v := (.int _ _)) rfl) ?_
          refine o_nil ?_
          refine s_seq ?_
          refine s_region ?_
          refine o_val rfl rfl rfl (y_move (v := (.int _ _)) rfl) ?_
          refine o_split rfl rfl rfl (y_lss rfl rfl) (fun p10 => ?_) (fun p11 => ?_)
          · refine o_val rfl rfl rfl (y_move (v := (.bool _)) rfl) ?_
            refine o_guard_no rfl rfl rfl rfl rfl ?_
            refine o_guard_no rfl rfl rfl rfl rfl ?_
            refine o_val rfl rfl rfl (y_pick_t (v := (.bool _)) rfl rfl) ?_
            refine o_nil ?_
            refine s_forget [(1, (.pointer _)), (29, (.slice _ _ _)), (30, (.int _ _)), (31, (.int _ _)), (40, (.bool _))] ⟨rfl, rfl, rfl, rfl, rfl, trivial⟩ (fun _f => ?_)
            refine s_then rfl ?_
            refine s_seq ?_
            refine s_region ?_
            refine o_val rfl rfl rfl (y_assign (v := (.int _ _)) rfl) ?_
            refine o_nil ?_
            refine s_ret ?_
            exact ⟨_, [], res1 rfl rfl, ⟨congrArg (Value.int .i64) (by unfold wErr; rw [if_neg (show ¬ ckErr w.ks ≠ 0 from fun hh => hh hck)]; rw [if_neg (by omega)]; rw [if_neg (fun hh => by have : 0 ≤ w.gs.getD ((g : Nat) : Int).toNat 0 ∧ w.gs.getD ((g : Nat) : Int).toNat 0 ≤ 1073741824 := hh.1 g (by omega); omega)]), rfl⟩, sub_picks [] rfl⟩
          · refine o_val rfl rfl rfl (y_move (v := (.bool _)) rfl) ?_
            refine o_guard_yes rfl rfl ?_
            refine o_val rfl rfl rfl (y_move (v := (.int _ _)) rfl) ?_
            refine o_guard_yes rfl rfl ?_
            refine o_val rfl rfl rfl (y_gtr rfl rfl) ?_
            refine o_val rfl rfl rfl (y_pick_f (v := (.bool _)) rfl rfl) ?_
            refine o_nil ?_
            refine s_forget [(1, (.pointer _)), (29, (.slice _ _ _)), (30, (.int _ _)), (31, (.int _ _)), (40, (.bool _))] ⟨rfl, rfl, rfl, rfl, rfl, trivial⟩ (fun _f => ?_)
            refine s_if rfl (fun h12 => ?_) (fun h13 => ?_)
            · refine s_seq ?_
              refine s_region ?_
              refine o_val rfl rfl rfl (y_assign (v := (.int _ _)) rfl) ?_
              refine o_nil ?_
              refine s_ret ?_
              exact ⟨_, [], res1 rfl rfl, ⟨congrArg (Value.int .i64) (by unfold wErr; rw [if_neg (show ¬ ckErr w.ks ≠ 0 from fun hh => hh hck)]; rw [if_neg (by omega)]; rw [if_neg (fun hh => by have : 0 ≤ w.gs.getD ((g : Nat) : Int).toNat 0 ∧ w.gs.getD ((g : Nat) : Int).toNat 0 ≤ 1073741824 := hh.1 g (by omega); omega)]), rfl⟩, sub_picks [] rfl⟩
            · refine s_skip ?_
              refine s_region ?_
              refine o_val rfl rfl rfl (y_add rfl rfl (by simp only [inK]; omega)) ?_
              refine o_val rfl rfl rfl (y_move (v := (.int _ _)) rfl) ?_
              refine o_nil ?_
              exact ⟨g + 1, (by first | omega | (dsimp only; omega)), ⟨by omega, all_next hgall (show 0 ≤ w.gs.getD ((g : Nat) : Int).toNat 0 ∧ w.gs.getD ((g : Nat) : Int).toNat 0 ≤ 1073741824 by omega)⟩, ⟨(congrArg (Value.int .i64) (by omega)), rfl, rfl, rfl, trivial⟩, (sub_picks [0] rfl)⟩
        · refine s_exit ?_
          refine s_seq ?_
          refine s_region ?_
          refine o_val rfl rfl rfl (y_assign (v := (.int _ _)) rfl) ?_
          refine o_nil ?_
          refine s_seq ?_
          refine s_seq ?_
          refine s_region ?_
          refine o_val rfl rfl rfl (y_field0 Try.runUnderlying47 rfl Try.sizeOf45 rfl rfl) ?_
          refine o_val rfl rfl rfl (y_load Try.isAgg45 rfl (cel_own 0 rfl rfl)) ?_
          refine o_val rfl rfl rfl (y_len Try.runUnderlying45 rfl) ?_
          refine o_val rfl rfl rfl (y_move (v := (.int _ _)) rfl) ?_
          refine o_nil ?_
          refine s_block ?_
          refine s_loopK (γ := Nat) [(1, (.pointer _)), (43, (.slice _ _ _)), (44, (.int _ _))] [_] (fun u => [(6, .int .i64 (lastI w.its u)), (45, .int .i64 u)]) (fun u => []) (fun u => u ≤ w.iN ∧ ∀ j, j < u → goodI w.ks w.gs (lastI w.its j) (w.its.getD j default)) (fun u => w.iN - u) (0) ⟨rfl, rfl, rfl, rfl, rfl, trivial⟩ (sub_picks [0] rfl) ?_ ?_
          · exact ⟨Nat.zero_le _, fun j hj => absurd hj (Nat.not_lt_zero j)⟩
          intro u _f hJ
          obtain ⟨hu, hall⟩ := hJ
          refine s_seq ?_
          refine s_region ?_
          refine o_val rfl rfl rfl (y_lss rfl rfl) ?_
          refine o_nil ?_
          refine s_seq ?_
          refine s_if rfl (fun h14 => ?_) (fun h15 => ?_)
          · refine s_skip ?_
            refine s_seq ?_
            refine s_block ?_
            refine s_seq ?_
            refine s_region ?_
            refine o_val rfl rfl rfl (y_indexAddr Try.runUnderlying45 Try.sizeOf136 (some_at (sz := 2) encIt_len (i := 0) hwI (by omega)) rfl rfl (by omega)) ?_
            refine o_val rfl rfl rfl (y_loads (cs := [_, _, _]) Try.isAgg136 Try.sizeOf136 rfl (by unfold idx; rw [Option.isSome_map]; exact some_at (sz := 2) encIt_len (i := 0) hwI (by omega)) rfl (cels_at (sz := 3) encIt_len hwI.here (by omega))) ?_
            refine o_alloc rfl Try.zeroValue136 rfl (fun b16 => ?_)
            refine o_stores (vs := [(.int _ _), (.int _ _), (.slice _ _ _)]) 1 rfl Try.sizeOf136 rfl rfl rfl (by simp [Value.oneCell']) (by simp) ?_
            refine o_nil ?_
            refine s_seq ?_
            refine s_seq ?_
            refine s_drawn 0 (by kernel_rfl) ?_
            have hii := hwII _ (getD_mem' (show u < w.its.length by omega) : (w.its.getD ((u : Nat) : Int).toNat default) ∈ w.its)
            have hlg := lastI_ge hall
            refine d_val (i := 0) rfl (by kernel_rfl) (by kernel_rfl) (by kernel_rfl) rfl rfl rfl (y_field0 Try.runUnderlying136 rfl Try.sizeOf117 rfl rfl) ?_
            refine d_val (i := 1) rfl (by kernel_rfl) (by kernel_rfl) (by kernel_rfl) rfl rfl rfl (y_field0 Try.runUnderlying117 rfl Try.sizeOf3 rfl rfl) ?_
            refine d_val (i := 2) rfl (by kernel_rfl) (by kernel_rfl) (by kernel_rfl) rfl rfl rfl (y_load Try.isAgg3 rfl (cel_own 1 rfl rfl)) ?_
            refine d_val (i := 3) rfl (by kernel_rfl) (by kernel_rfl) (by kernel_rfl) rfl rfl rfl (y_move (v := (.int _ _)) rfl) ?_
            refine d_split (i := 4) rfl (by kernel_rfl) (by kernel_rfl) (by kernel_rfl) rfl rfl rfl (y_leq rfl rfl) (fun p17 => ?_) (fun p18 => ?_)
            · refine d_val (i := 5) rfl (by kernel_rfl) (by kernel_rfl) (by kernel_rfl) rfl rfl rfl (y_move (v := (.bool _)) rfl) ?_
              refine d_guard_no (i := 6) rfl (by kernel_rfl) (by kernel_rfl) (by kernel_rfl) rfl rfl rfl rfl rfl ?_
              refine d_guard_no (i := 7) rfl (by kernel_rfl) (by kernel_rfl) (by kernel_rfl) rfl rfl rfl rfl rfl ?_
              refine d_guard_no (i := 8) rfl (by kernel_rfl) (by kernel_rfl) (by kernel_rfl) rfl rfl rfl rfl rfl ?_
              refine d_guard_no (i := 9) rfl (by kernel_rfl) (by kernel_rfl) (by kernel_rfl) rfl rfl rfl rfl rfl ?_
              refine d_guard_no (i := 10) rfl (by kernel_rfl) (by kernel_rfl) (by kernel_rfl) rfl rfl rfl rfl rfl ?_
              refine d_guard_no (i := 11) rfl (by kernel_rfl) (by kernel_rfl) (by kernel_rfl) rfl rfl rfl rfl rfl ?_
              refine d_guard_no (i := 12) rfl (by kernel_rfl) (by kernel_rfl) (by kernel_rfl) rfl rfl rfl rfl rfl ?_
              refine d_val (i := 13) rfl (by kernel_rfl) (by kernel_rfl) (by kernel_rfl) rfl rfl rfl (y_pick_t (v := (.bool _)) rfl rfl) ?_
              refine d_val (i := 14) rfl (by kernel_rfl) (by kernel_rfl) (by kernel_rfl) rfl rfl rfl (y_move (v := (.bool _)) rfl) ?_
              refine d_guard_no (i := 15) rfl (by kernel_rfl) (by kernel_rfl) (by kernel_rfl) rfl rfl rfl rfl rfl ?_
              refine d_guard_no (i := 16) rfl (by kernel_rfl) (by kernel_rfl) (by kernel_rfl) rfl rfl rfl rfl rfl ?_
              refine d_guard_no (i := 17) rfl (by kernel_rfl) (by kernel_rfl) (by kernel_rfl) rfl rfl rfl rfl rfl ?_
              refine d_guard_no (i := 18) rfl (by kernel_rfl) (by kernel_rfl) (by kernel_rfl) rfl rfl rfl rfl rfl ?_
              refine d_guard_no (i := 19) rfl (by kernel_rfl) (by kernel_rfl) (by kernel_rfl) rfl rfl rfl rfl rfl ?_
              refine d_guard_no (i := 20) rfl (by kernel_rfl) (by kernel_rfl) (by kernel_rfl) rfl rfl rfl rfl rfl ?_
              refine d_guard_no (i := 21) rfl (by kernel_rfl) (by kernel_rfl) (by kernel_rfl) rfl rfl rfl rfl rfl ?_
              refine d_guard_no (i := 22) rfl (by kernel_rfl) (by kernel_rfl) (by kernel_rfl) rfl rfl rfl rfl rfl ?_
              refine d_guard_no (i := 23) rfl (by kernel_rfl) (by kernel_rfl) (by kernel_rfl) rfl rfl rfl rfl rfl ?_
              refine d_guard_no (i := 24) rfl (by kernel_rfl) (by kernel_rfl) (by kernel_rfl) rfl rfl rfl rfl rfl ?_
              refine d_guard_no (i := 25) rfl (by kernel_rfl) (by kernel_rfl) (by kernel_rfl) rfl rfl rfl rfl rfl ?_
              refine d_val (i := 26) rfl (by kernel_rfl) (by kernel_rfl) (by kernel_rfl) rfl rfl rfl (y_pick_t (v := (.bool _)) rfl rfl) ?_
              refine d_val (i := 27) rfl (by kernel_rfl) (by kernel_rfl) (by kernel_rfl) rfl rfl rfl (y_move (v := (.bool _)) rfl) ?_
              refine d_guard_no (i := 28) rfl (by kernel_rfl) (by kernel_rfl) (by kernel_rfl) rfl rfl rfl rfl rfl ?_
              refine d_guard_no (i := 29) rfl (by kernel_rfl) (by kernel_rfl) (by kernel_rfl) rfl rfl rfl rfl rfl ?_
              refine d_guard_no (i := 30) rfl (by kernel_rfl) (by kernel_rfl) (by kernel_rfl) rfl rfl rfl rfl rfl ?_
              refine d_guard_no (i := 31) rfl (by kernel_rfl) (by kernel_rfl) (by kernel_rfl) rfl rfl rfl rfl rfl ?_
              refine d_val (i := 32) rfl (by kernel_rfl) (by kernel_rfl) (by kernel_rfl) rfl rfl rfl (y_pick_t (v := (.bool _)) rfl rfl) ?_
              refine d_val (i := 33) rfl (by kernel_rfl) (by kernel_rfl) (by kernel_rfl) rfl rfl rfl (y_move (v := (.bool _)) rfl) ?_
              refine d_guard_no (i := 34) rfl (by kernel_rfl) (by kernel_rfl) (by kernel_rfl) rfl rfl rfl rfl rfl ?_
              refine d_guard_no (i := 35) rfl (by kernel_rfl) (by kernel_rfl) (by kernel_rfl) rfl rfl rfl rfl rfl ?_
              refine d_guard_no (i := 36) rfl (by kernel_rfl) (by kernel_rfl) (by kernel_rfl) rfl rfl rfl rfl rfl ?_
              refine d_guard_no (i := 37) rfl (by kernel_rfl) (by kernel_rfl) (by kernel_rfl) rfl rfl rfl rfl rfl ?_
              refine d_eff (k := 38) (n := 0) (m := 2) rfl (by kernel_rfl) rfl ?_
              refine o_guard_no rfl rfl rfl rfl rfl ?_
              refine o_nil ?_
              refine d_guard_no (i := 39) rfl (by kernel_rfl) (by kernel_rfl) (by kernel_rfl) rfl rfl rfl rfl rfl ?_
              refine d_val (i := 40) rfl (by kernel_rfl) (by kernel_rfl) (by kernel_rfl) rfl rfl rfl (y_pick_t (v := (.bool _)) rfl rfl) ?_
              refine d_nil (n := 0) (m := 2) (by kernel_rfl) rfl ?_
              refine s_forget [(1, (.pointer _)), (6, (.int _ _)), (8, (.pointer _)), (43, (.slice _ _ _)), (44, (.int _ _)), (45, (.int _ _)), (89, (.bool _))] ⟨rfl, rfl, rfl, rfl, rfl, rfl, rfl, trivial⟩ (fun _f => ?_)
              refine s_then rfl ?_
              refine s_seq ?_
              refine s_region ?_
              refine o_val rfl rfl rfl (y_assign (v := (.int _ _)) rfl) ?_
              refine o_nil ?_
              refine s_ret ?_
              exact ⟨_, [], res1 rfl rfl, ⟨congrArg (Value.int .i64) (by unfold wErr; rw [if_neg (show ¬ ckErr w.ks ≠ 0 from fun hh => hh hck)]; rw [if_neg (by omega)]; rw [if_neg (fun hh => by have : goodI w.ks w.gs (lastI w.its u) (w.its.getD ((u : Nat) : Int).toNat default) := hh.2 u (by omega); unfold goodI at this; first | exact absurd this.2.2.2.2 (by assumption) | omega)]), rfl⟩, sub_picks [] rfl⟩
            · refine d_val (i := 5) rfl (by kernel_rfl) (by kernel_rfl) (by kernel_rfl) rfl rfl rfl (y_move (v := (.bool _)) rfl) ?_
              refine d_val_g (i := 6) rfl (by kernel_rfl) (by kernel_rfl) (by kernel_rfl) rfl rfl rfl rfl (y_field0 Try.runUnderlying136 rfl Try.sizeOf117 rfl rfl) ?_
              refine d_val_g (i := 7) rfl (by kernel_rfl) (by kernel_rfl) (by kernel_rfl) rfl rfl rfl rfl (y_field0 Try.runUnderlying117 rfl Try.sizeOf3 rfl rfl) ?_
              refine d_val_g (i := 8) rfl (by kernel_rfl) (by kernel_rfl) (by kernel_rfl) rfl rfl rfl rfl (y_load Try.isAgg3 rfl (cel_own 1 rfl rfl)) ?_
              refine d_val_g (i := 9) rfl (by kernel_rfl) (by kernel_rfl) (by kernel_rfl) rfl rfl rfl rfl (y_field0 Try.runUnderlying47 rfl Try.sizeOf22 rfl rfl) ?_
              refine d_val_g (i := 10) rfl (by kernel_rfl) (by kernel_rfl) (by kernel_rfl) rfl rfl rfl rfl (y_load Try.isAgg22 rfl (cel_own 0 rfl rfl)) ?_
              refine d_val_g (i := 11) rfl (by kernel_rfl) (by kernel_rfl) (by kernel_rfl) rfl rfl rfl rfl (y_len Try.runUnderlying22 rfl) ?_
              refine d_split_g (i := 12) rfl (by kernel_rfl) (by kernel_rfl) (by kernel_rfl) rfl rfl rfl rfl (y_geq rfl rfl) (fun p19 => ?_) (fun p20 => ?_)
              · refine d_val (i := 13) rfl (by kernel_rfl) (by kernel_rfl) (by kernel_rfl) rfl rfl rfl (y_pick_f (v := (.bool _)) rfl rfl) ?_
                refine d_val (i := 14) rfl (by kernel_rfl) (by kernel_rfl) (by kernel_rfl) rfl rfl rfl (y_move (v := (.bool _)) rfl) ?_
                refine d_guard_no (i := 15) rfl (by kernel_rfl) (by kernel_rfl) (by kernel_rfl) rfl rfl rfl rfl rfl ?_
                refine d_guard_no (i := 16) rfl (by kernel_rfl) (by kernel_rfl) (by kernel_rfl) rfl rfl rfl rfl rfl ?_
                refine d_guard_no (i := 17) rfl (by kernel_rfl) (by kernel_rfl) (by kernel_rfl) rfl rfl rfl rfl rfl ?_
                refine d_guard_no (i := 18) rfl (by kernel_rfl) (by kernel_rfl) (by kernel_rfl) rfl rfl rfl rfl rfl ?_
                refine d_guard_no (i := 19) rfl (by kernel_rfl) (by kernel_rfl) (by kernel_rfl) rfl rfl rfl rfl rfl ?_
                refine d_guard_no (i := 20) rfl (by kernel_rfl) (by kernel_rfl) (by kernel_rfl) rfl rfl rfl rfl rfl ?_
                refine d_guard_no (i := 21) rfl (by kernel_rfl) (by kernel_rfl) (by kernel_rfl) rfl rfl rfl rfl rfl ?_
                refine d_guard_no (i := 22) rfl (by kernel_rfl) (by kernel_rfl) (by kernel_rfl) rfl rfl rfl rfl rfl ?_
                refine d_guard_no (i := 23) rfl (by kernel_rfl) (by kernel_rfl) (by kernel_rfl) rfl rfl rfl rfl rfl ?_
                refine d_guard_no (i := 24) rfl (by kernel_rfl) (by kernel_rfl) (by kernel_rfl) rfl rfl rfl rfl rfl ?_
                refine d_guard_no (i := 25) rfl (by kernel_rfl) (by kernel_rfl) (by kernel_rfl) rfl rfl rfl rfl rfl ?_
                refine d_val (i := 26) rfl (by kernel_rfl) (by kernel_rfl) (by kernel_rfl) rfl rfl rfl (y_pick_t (v := (.bool _)) rfl rfl) ?_
                refine d_val (i := 27) rfl (by kernel_rfl) (by kernel_rfl) (by kernel_rfl) rfl rfl rfl (y_move (v := (.bool _)) rfl) ?_
                refine d_guard_no (i := 28) rfl (by kernel_rfl) (by kernel_rfl) (by kernel_rfl) rfl rfl rfl rfl rfl ?_
                refine d_guard_no (i := 29) rfl (by kernel_rfl) (by kernel_rfl) (by kernel_rfl) rfl rfl rfl rfl rfl ?_
                refine d_guard_no (i := 30) rfl (by kernel_rfl) (by kernel_rfl) (by kernel_rfl) rfl rfl rfl rfl rfl ?_
                refine d_guard_no (i := 31) rfl (by kernel_rfl) (by kernel_rfl) (by kernel_rfl) rfl rfl rfl rfl rfl ?_
                refine d_val (i := 32) rfl (by kernel_rfl) (by kernel_rfl) (by kernel_rfl) rfl rfl rfl (y_pick_t (v := (.bool _)) rfl rfl) ?_
                refine d_val (i := 33) rfl (by kernel_rfl) (by kernel_rfl) (by kernel_rfl) rfl rfl rfl (y_move (v := (.bool _)) rfl) ?_
                refine d_guard_no (i := 34) rfl (by kernel_rfl) (by kernel_rfl) (by kernel_rfl) rfl rfl rfl rfl rfl ?_
                refine d_guard_no (i := 35) rfl (by kernel_rfl) (by kernel_rfl) (by kernel_rfl) rfl rfl rfl rfl rfl ?_
                refine d_guard_no (i := 36) rfl (by kernel_rfl) (by kernel_rfl) (by kernel_rfl) rfl rfl rfl rfl rfl ?_
                refine d_guard_no (i := 37) rfl (by kernel_rfl) (by kernel_rfl) (by kernel_rfl) rfl rfl rfl rfl rfl ?_
                refine d_eff (k := 38) (n := 0) (m := 2) rfl (by kernel_rfl) rfl ?_
                refine o_guard_no rfl rfl rfl rfl rfl ?_
                refine o_nil ?_
                refine d_guard_no (i := 39) rfl (by kernel_rfl) (by kernel_rfl) (by kernel_rfl) rfl rfl rfl rfl rfl ?_
                refine d_val (i := 40) rfl (by kernel_rfl) (by kernel_rfl) (by kernel_rfl) rfl rfl rfl (y_pick_t (v := (.bool _)) rfl rfl) ?_
                refine d_nil (n := 0) (m := 2) (by kernel_rfl) rfl ?_
                refine s_forget [(1, (.pointer _)), (6, (.int _ _)), (8, (.pointer _)), (43, (.slice _ _ _)), (44, (.int _ _)), (45, (.int _ _)), (89, (.bool _))] ⟨rfl, rfl, rfl, rfl, rfl, rfl, rfl, trivial⟩ (fun _f => ?_)
                refine s_then rfl ?_
                refine s_seq ?_
                refine s_region ?_
                refine o_val rfl rfl rfl (y_assign (v := (.int _ _)) rfl) ?_
                refine o_nil ?_
                refine s_ret ?_
                exact ⟨_, [], res1 rfl rfl, ⟨congrArg (Value.int .i64) (by unfold wErr; rw [if_neg (show ¬ ckErr w.ks ≠ 0 from fun hh => hh hck)]; rw [if_neg (by omega)]; rw [if_neg (fun hh => by have : goodI w.ks w.gs (lastI w.its u) (w.its.getD ((u : Nat) : Int).toNat default) := hh.2 u (by omega); unfold goodI at this; first | exact absurd this.2.2.2.2 (by assumption) | omega)]), rfl⟩, sub_picks [] rfl⟩
              · refine d_val (i := 13) rfl (by kernel_rfl) (by kernel_rfl) (by kernel_rfl) rfl rfl rfl (y_pick_f (v := (.bool _)) rfl rfl) ?_
                refine d_val (i := 14) rfl (by kernel_rfl) (by kernel_rfl) (by kernel_rfl) rfl rfl rfl (y_move (v := (.bool _)) rfl) ?_
                refine d_val_g (i := 15) rfl (by kernel_rfl) (by kernel_rfl) (by kernel_rfl) rfl rfl rfl rfl (y_field0 Try.runUnderlying136 rfl Try.sizeOf117 rfl rfl) ?_
                refine d_val_g (i := 16) rfl (by kernel_rfl) (by kernel_rfl) (by kernel_rfl) rfl rfl rfl rfl (y_field0 Try.runUnderlying117 rfl Try.sizeOf3 rfl rfl) ?_
                refine d_val_g (i := 17) rfl (by kernel_rfl) (by kernel_rfl) (by kernel_rfl) rfl rfl rfl rfl (y_load Try.isAgg3 rfl (cel_own 1 rfl rfl)) ?_
                refine d_val_g (i := 18) rfl (by kernel_rfl) (by kernel_rfl) (by kernel_rfl) rfl rfl rfl rfl (y_field0 Try.runUnderlying47 rfl Try.sizeOf22 rfl rfl) ?_
                refine d_val_g (i := 19) rfl (by kernel_rfl) (by kernel_rfl) (by kernel_rfl) rfl rfl rfl rfl (y_load Try.isAgg22 rfl (cel_own 0 rfl rfl)) ?_
                refine d_val_g (i := 20) rfl (by kernel_rfl) (by kernel_rfl) (by kernel_rfl) rfl rfl rfl rfl (y_field0 Try.runUnderlying136 rfl Try.sizeOf117 rfl rfl) ?_
                refine d_val_g (i := 21) rfl (by kernel_rfl) (by kernel_rfl) (by kernel_rfl) rfl rfl rfl rfl (y_field0 Try.runUnderlying117 rfl Try.sizeOf3 rfl rfl) ?_
                refine d_val_g (i := 22) rfl (by kernel_rfl) (by kernel_rfl) (by kernel_rfl) rfl rfl rfl rfl (y_load Try.isAgg3 rfl (cel_own 1 rfl rfl)) ?_
                refine d_val_g (i := 23) rfl (by kernel_rfl) (by kernel_rfl) (by kernel_rfl) rfl rfl rfl rfl (y_index1 Try.runUnderlying22 Try.sizeOf3 (some_int (i := 0) hwG (by omega)) rfl rfl (by omega)) ?_
                refine d_val_g (i := 24) rfl (by kernel_rfl) (by kernel_rfl) (by kernel_rfl) rfl rfl rfl rfl (y_load Try.isAgg3 rfl (cel_int hwG.here (by omega))) ?_
                refine d_split_g (i := 25) rfl (by kernel_rfl) (by kernel_rfl) (by kernel_rfl) rfl rfl rfl rfl (y_neq rfl rfl) (fun p21 => ?_) (fun p22 => ?_)
                · refine d_val (i := 26) rfl (by kernel_rfl) (by kernel_rfl) (by kernel_rfl) rfl rfl rfl (y_pick_f (v := (.bool _)) rfl rfl) ?_
                  refine d_val (i := 27) rfl (by kernel_rfl) (by kernel_rfl) (by kernel_rfl) rfl rfl rfl (y_move (v := (.bool _)) rfl) ?_
                  refine d_guard_no (i := 28) rfl (by kernel_rfl) (by kernel_rfl) (by kernel_rfl) rfl rfl rfl rfl rfl ?_
                  refine d_guard_no (i := 29) rfl (by kernel_rfl) (by kernel_rfl) (by kernel_rfl) rfl rfl rfl rfl rfl ?_
                  refine d_guard_no (i := 30) rfl (by kernel_rfl) (by kernel_rfl) (by kernel_rfl) rfl rfl rfl rfl rfl ?_
                  refine d_guard_no (i := 31) rfl (by kernel_rfl) (by kernel_rfl) (by kernel_rfl) rfl rfl rfl rfl rfl ?_
                  refine d_val (i := 32) rfl (by kernel_rfl) (by kernel_rfl) (by kernel_rfl) rfl rfl rfl (y_pick_t (v := (.bool _)) rfl rfl) ?_
                  refine d_val (i := 33) rfl (by kernel_rfl) (by kernel_rfl) (by kernel_rfl) rfl rfl rfl (y_move (v := (.bool _)) rfl) ?_
                  refine d_guard_no (i := 34) rfl (by kernel_rfl) (by kernel_rfl) (by kernel_rfl) rfl rfl rfl rfl rfl ?_
                  refine d_guard_no (i := 35) rfl (by kernel_rfl) (by kernel_rfl) (by kernel_rfl) rfl rfl rfl rfl rfl ?_
                  refine d_guard_no (i := 36) rfl (by kernel_rfl) (by kernel_rfl) (by kernel_rfl) rfl rfl rfl rfl rfl ?_
                  refine d_guard_no (i := 37) rfl (by kernel_rfl) (by kernel_rfl) (by kernel_rfl) rfl rfl rfl rfl rfl ?_
                  refine d_eff (k := 38) (n := 0) (m := 2) rfl (by kernel_rfl) rfl ?_
                  refine o_guard_no rfl rfl rfl rfl rfl ?_
                  refine o_nil ?_
                  refine d_guard_no (i := 39) rfl (by kernel_rfl) (by kernel_rfl) (by kernel_rfl) rfl rfl rfl rfl rfl ?_
                  refine d_val (i := 40) rfl (by kernel_rfl) (by kernel_rfl) (by kernel_rfl) rfl rfl rfl (y_pick_t (v := (.bool _)) rfl rfl) ?_
                  refine d_nil (n := 0) (m := 2) (by kernel_rfl) rfl ?_
                  refine s_forget [(1, (.pointer _)), (6, (.int _ _)), (8, (.pointer _)), (43, (.slice _ _ _)), (44, (.int _ _)), (45, (.int _ _)), (89, (.bool _))] ⟨rfl, rfl, rfl, rfl, rfl, rfl, rfl, trivial⟩ (fun _f => ?_)
                  refine s_then rfl ?_
                  refine s_seq ?_
                  refine s_region ?_
                  refine o_val rfl rfl rfl (y_assign (v := (.int _ _)) rfl) ?_
                  refine o_nil ?_
                  refine s_ret ?_
                  exact ⟨_, [], res1 rfl rfl, ⟨congrArg (Value.int .i64) (by unfold wErr; rw [if_neg (show ¬ ckErr w.ks ≠ 0 from fun hh => hh hck)]; rw [if_neg (by omega)]; rw [if_neg (fun hh => by have : goodI w.ks w.gs (lastI w.its u) (w.its.getD ((u : Nat) : Int).toNat default) := hh.2 u (by omega); unfold goodI at this; first | exact absurd this.2.2.2.2 (by assumption) | omega)]), rfl⟩, sub_picks [] rfl⟩
                · refine d_val (i := 26) rfl (by kernel_rfl) (by kernel_rfl) (by kernel_rfl) rfl rfl rfl (y_pick_f (v := (.bool _)) rfl rfl) ?_
                  refine d_val (i := 27) rfl (by kernel_rfl) (by kernel_rfl) (by kernel_rfl) rfl rfl rfl (y_move (v := (.bool _)) rfl) ?_
                  refine d_val_g (i := 28) rfl (by kernel_rfl) (by kernel_rfl) (by kernel_rfl) rfl rfl rfl rfl (y_field0 Try.runUnderlying136 rfl Try.sizeOf117 rfl rfl) ?_
                  refine d_val_g (i := 29) rfl (by kernel_rfl) (by kernel_rfl) (by kernel_rfl) rfl rfl rfl rfl (y_field0 Try.runUnderlying117 rfl Try.sizeOf3 rfl rfl) ?_
                  refine d_val_g (i := 30) rfl (by kernel_rfl) (by kernel_rfl) (by kernel_rfl) rfl rfl rfl rfl (y_load Try.isAgg3 rfl (cel_own 1 rfl rfl)) ?_
                  refine d_split_g (i := 31) rfl (by kernel_rfl) (by kernel_rfl) (by kernel_rfl) rfl rfl rfl rfl (y_eql rfl rfl) (fun p23 => ?_) (fun p24 => ?_)
                  · refine d_val (i := 32) rfl (by kernel_rfl) (by kernel_rfl) (by kernel_rfl) rfl rfl rfl (y_pick_f (v := (.bool _)) rfl rfl) ?_
                    refine d_val (i := 33) rfl (by kernel_rfl) (by kernel_rfl) (by kernel_rfl) rfl rfl rfl (y_move (v := (.bool _)) rfl) ?_
                    refine d_guard_no (i := 34) rfl (by kernel_rfl) (by kernel_rfl) (by kernel_rfl) rfl rfl rfl rfl rfl ?_
                    refine d_guard_no (i := 35) rfl (by kernel_rfl) (by kernel_rfl) (by kernel_rfl) rfl rfl rfl rfl rfl ?_
                    refine d_guard_no (i := 36) rfl (by kernel_rfl) (by kernel_rfl) (by kernel_rfl) rfl rfl rfl rfl rfl ?_
                    refine d_guard_no (i := 37) rfl (by kernel_rfl) (by kernel_rfl) (by kernel_rfl) rfl rfl rfl rfl rfl ?_
                    refine d_eff (k := 38) (n := 0) (m := 2) rfl (by kernel_rfl) rfl ?_
                    refine o_guard_no rfl rfl rfl rfl rfl ?_
                    refine o_nil ?_
                    refine d_guard_no (i := 39) rfl (by kernel_rfl) (by kernel_rfl) (by kernel_rfl) rfl rfl rfl rfl rfl ?_
                    refine d_val (i := 40) rfl (by kernel_rfl) (by kernel_rfl) (by kernel_rfl) rfl rfl rfl (y_pick_t (v := (.bool _)) rfl rfl) ?_
                    refine d_nil (n := 0) (m := 2) (by kernel_rfl) rfl ?_
                    refine s_forget [(1, (.pointer _)), (6, (.int _ _)), (8, (.pointer _)), (43, (.slice _ _ _)), (44, (.int _ _)), (45, (.int _ _)), (89, (.bool _))] ⟨rfl, rfl, rfl, rfl, rfl, rfl, rfl, trivial⟩ (fun _f => ?_)
                    refine s_then rfl ?_
                    refine s_seq ?_
                    refine s_region ?_
                    refine o_val rfl rfl rfl (y_assign (v := (.int _ _)) rfl) ?_
                    refine o_nil ?_
                    refine s_ret ?_
                    exact ⟨_, [], res1 rfl rfl, ⟨congrArg (Value.int .i64) (by unfold wErr; rw [if_neg (show ¬ ckErr w.ks ≠ 0 from fun hh => hh hck)]; rw [if_neg (by omega)]; rw [if_neg (fun hh => by have : goodI w.ks w.gs (lastI w.its u) (w.its.getD ((u : Nat) : Int).toNat default) := hh.2 u (by omega); unfold goodI at this; first | exact absurd this.2.2.2.2 (by assumption) | omega)]), rfl⟩, sub_picks [] rfl⟩
                  · refine d_val (i := 32) rfl (by kernel_rfl) (by kernel_rfl) (by kernel_rfl) rfl rfl rfl (y_pick_f (v := (.bool _)) rfl rfl) ?_
                    refine d_val (i := 33) rfl (by kernel_rfl) (by kernel_rfl) (by kernel_rfl) rfl rfl rfl (y_move (v := (.bool _)) rfl) ?_
                    refine d_val_g (i := 34) rfl (by kernel_rfl) (by kernel_rfl) (by kernel_rfl) rfl rfl rfl rfl (y_field0 Try.runUnderlying47 rfl Try.sizeOf23 rfl rfl) ?_
                    refine d_val_g (i := 35) rfl (by kernel_rfl) (by kernel_rfl) (by kernel_rfl) rfl rfl rfl rfl (y_load Try.isAgg23 rfl (cel_own 0 rfl rfl)) ?_
                    refine d_val_g (i := 36) rfl (by kernel_rfl) (by kernel_rfl) (by kernel_rfl) rfl rfl rfl rfl (y_field0 Try.runUnderlying136 rfl Try.sizeOf33 rfl rfl) ?_
                    refine d_val_g (i := 37) rfl (by kernel_rfl) (by kernel_rfl) (by kernel_rfl) rfl rfl rfl rfl (y_load Try.isAgg33 rfl (cel_own 1 rfl rfl)) ?_
                    refine d_eff (k := 38) (n := 0) (m := 2) rfl (by kernel_rfl) rfl ?_
                    refine o_guard_yes rfl rfl ?_
                    refine o_fn 0 (d := 87) rfl Try.call98 (heldW_c w.kA w.kn w.kc w.ks ⟨hwKl, hwKc, hwKb, hwK.here.down, (fun x hx => (hwKK x hx).sub MSub.ext)⟩ (w.its.getD ((u : Nat) : Int).toNat default).A (w.its.getD ((u : Nat) : Int).toNat default).n (w.its.getD ((u : Nat) : Int).toNat default).c (w.its.getD ((u : Nat) : Int).toNat default).cs (IOK.sub hii MSub.ext)) rfl ?_
                    rintro _ _ ⟨rfl, rfl⟩
                    refine o_nil ?_
                    refine d_split_g (i := 39) rfl (by kernel_rfl) (by kernel_rfl) (by kernel_rfl) rfl rfl rfl rfl (y_not rfl) (fun p25 => ?_) (fun p26 => ?_)
                    · refine d_val (i := 40) rfl (by kernel_rfl) (by kernel_rfl) (by kernel_rfl) rfl rfl rfl (y_pick_f (v := (.bool _)) rfl rfl) ?_
                      refine d_nil (n := 0) (m := 2) (by kernel_rfl) rfl ?_
                      refine s_forget [(1, (.pointer _)), (6, (.int _ _)), (8, (.pointer _)), (43, (.slice _ _ _)), (44, (.int _ _)), (45, (.int _ _)), (89, (.bool _))] ⟨rfl, rfl, rfl, rfl, rfl, rfl, rfl, trivial⟩ (fun _f => ?_)
                      refine s_then rfl ?_
                      refine s_seq ?_
                      refine s_region ?_
                      refine o_val rfl rfl rfl (y_assign (v := (.int _ _)) rfl) ?_
                      refine o_nil ?_
                      refine s_ret ?_
                      exact ⟨_, [], res1 rfl rfl, ⟨congrArg (Value.int .i64) (by unfold wErr; rw [if_neg (show ¬ ckErr w.ks ≠ 0 from fun hh => hh hck)]; rw [if_neg (by omega)]; rw [if_neg (fun hh => by have : goodI w.ks w.gs (lastI w.its u) (w.its.getD ((u : Nat) : Int).toNat default) := hh.2 u (by omega); unfold goodI at this; first | exact absurd this.2.2.2.2 (by assumption) | omega)]), rfl⟩, sub_picks [] rfl⟩
                    · refine d_val (i := 40) rfl (by kernel_rfl) (by kernel_rfl) (by kernel_rfl) rfl rfl rfl (y_pick_f (v := (.bool _)) rfl rfl) ?_
                      refine d_nil (n := 0) (m := 2) (by kernel_rfl) rfl ?_
                      refine s_forget [(1, (.pointer _)), (6, (.int _ _)), (8, (.pointer _)), (43, (.slice _ _ _)), (44, (.int _ _)), (45, (.int _ _)), (89, (.bool _))] ⟨rfl, rfl, rfl, rfl, rfl, rfl, rfl, trivial⟩ (fun _f => ?_)
                      refine s_else rfl ?_
                      refine s_skip ?_
                      refine s_region ?_
                      refine o_val rfl rfl rfl (y_field0 Try.runUnderlying136 rfl Try.sizeOf117 rfl rfl) ?_
                      refine o_val rfl rfl rfl (y_field0 Try.runUnderlying117 rfl Try.sizeOf3 rfl rfl) ?_
                      refine o_val rfl rfl rfl (y_load Try.isAgg3 rfl (cel_own 1 rfl rfl)) ?_
                      refine o_val rfl rfl rfl (y_assign (v := (.int _ _)) rfl) ?_
                      refine o_nil ?_
                      refine s_region ?_
                      refine o_val rfl rfl rfl (y_add rfl rfl (by simp only [inK]; omega)) ?_
                      refine o_val rfl rfl rfl (y_move (v := (.int _ _)) rfl) ?_
                      refine o_nil ?_
                      exact ⟨u + 1, (by first | omega | (dsimp only; omega)), ⟨by omega, all_next hall (show goodI w.ks w.gs (lastI w.its u) (w.its.getD ((u : Nat) : Int).toNat default) from ⟨by omega, by omega, by omega, by omega, by first | assumption | exact Decidable.not_not.1 (by assumption)⟩)⟩, ⟨rfl, (congrArg (Value.int .i64) (by omega)), rfl, rfl, rfl, trivial⟩, (sub_picks [0] rfl)⟩
          · refine s_exit ?_
            refine s_seq ?_
            refine s_region ?_
            refine o_val rfl rfl rfl (y_assign (v := (.int _ _)) rfl) ?_
            refine o_nil ?_
            refine s_ret ?_
            exact ⟨_, [], res1 rfl rfl, ⟨congrArg (Value.int .i64) (by unfold wErr; rw [if_neg (show ¬ ckErr w.ks ≠ 0 from fun hh => hh hck)]; rw [if_neg (by omega)]; rw [if_pos ⟨fun j hj => hgall j (by omega), fun j hj => hall j (by omega)⟩]), rfl⟩, sub_picks [] rfl⟩

end Go.Proofs.Ytacmbiohjiogiaa.K

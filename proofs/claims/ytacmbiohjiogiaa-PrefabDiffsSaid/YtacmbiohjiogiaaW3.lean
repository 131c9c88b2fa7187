/- Walks over the packages kind and world: copies. No condition beyond what each statement names. -/
import Derived.Test.YtacmbiohjiogiaaProg
import Derived.Test.YtacmbiohjiogiaaK17
import Derived.Test.YtacmbiohjiogiaaM1
import Derived.Test.YtacmbiohjiogiaaW1
import Derived.Test.YtacmbiohjiogiaaW2
set_option linter.unusedVariables false
set_option linter.unusedSimpArgs false
set_option maxRecDepth 100000
namespace Go.Proofs.Ytacmbiohjiogiaa.K
open Go.RowKit

/-- What a component says, and an item: without where it lies. -/
def CR.d (c : CR) : Int × List Int := (c.kind, c.vs)
def IR.d (i : IR) : Int × Int × List (Int × List Int) := (i.e, i.g, i.cs.map CR.d)
theorem flat_noneF {xs : List FR} (h : xs.flatMap encF = []) : xs = [] := by cases xs with
  | nil => rfl
  | cons a l => simp [encF] at h
theorem flat_noneC {xs : List CR} (h : xs.flatMap encC = []) : xs = [] := by cases xs with
  | nil => rfl
  | cons a l => simp [encC] at h
theorem mapint_none {xs : List Int} {k : IntKind} (h : xs.map (Value.int k) = []) : xs = [] := by simpa using h
theorem encF_one (fs : List FR) : ∀ c ∈ fs.flatMap encF, c.oneCell' = true := by
  intro c hc
  obtain ⟨f, _, hf⟩ := List.mem_flatMap.1 hc
  simp only [encF, List.mem_cons, List.not_mem_nil, or_false] at hf
  rcases hf with rfl | rfl | rfl <;> rfl
theorem encC_one (fs : List CR) : ∀ c ∈ fs.flatMap encC, c.oneCell' = true := by
  intro c hc
  obtain ⟨f, _, hf⟩ := List.mem_flatMap.1 hc
  simp only [encC, List.mem_cons, List.not_mem_nil, or_false] at hf
  rcases hf with rfl | rfl <;> rfl
structure LC3 where
  k : Nat
  xs : List CR
  E : Grp
  P : Grp
structure LK3 where
  k : Nat
  xs : List KR
  E : Grp
  P : Grp
structure LI3 where
  k : Nat
  xs : List IR
  E : Grp
  CE : Grp
  P : Grp
structure LW3 where
  kB : Option Addr
  kE : Grp
  kP : Grp
  kx : List KR
  gB : Option Addr
  ge : Nat
  gE : Grp
  iB : Option Addr
  iE : Grp
  b : Nat
def newC (k : Int) (B : Option Addr) (n e : Nat) (vs : List Int) : CR := ⟨k, B, n, e, vs⟩
def newK (s : ByteArray) (B : Option Addr) (n e : Nat) (fs : List FR) : KR := ⟨s, B, n, e, fs⟩
theorem cok_new {G P : Grp} {k : Int} {B : Option Addr} {n e : Nat} {vs : List Int} {T : TypeId} (h : OS B n e T 1 (vs.map (.int .i64)) G) (hn : n ≤ 17592186044416) : COK (inG (G ++ P)) (newC k B n e vs) := ⟨by simpa [newC] using h.len, h.2.1, hn, h.mem.ms inG_left⟩
theorem cok_def (V : Mem) : COK V (default : CR) := ⟨rfl, Nat.le_refl _, Nat.zero_le _, Cels.nil⟩
theorem kok_new {G P : Grp} {s : ByteArray} {B : Option Addr} {n e : Nat} {fs : List FR} {T : TypeId} (h : OS B n e T 3 (fs.flatMap encF) G) (hn : n ≤ 4398046511104) : KOK (inG (G ++ P)) (newK s B n e fs) := ⟨by have := h.len; rw [flat_len encF_len] at this; dsimp only [newK]; omega, h.2.1, hn, h.mem.ms inG_left⟩
theorem kok_def (V : Mem) : KOK V (default : KR) := ⟨rfl, Nat.le_refl _, Nat.zero_le _, Cels.nil⟩
/-- The components of items, each item's in a block of its own. -/
def MCs (T : TypeId) (its : List IR) (CE : Grp) : Prop := ∃ Es : List Grp, CE.Perm Es.flatten ∧ Es.length = its.length ∧ ∀ j, j < its.length → OS (its.getD j default).A (its.getD j default).n (its.getD j default).c T 2 ((its.getD j default).cs.flatMap encC) (Es.getD j [])
theorem MCs.rep (T : TypeId) (n : Nat) : MCs T (List.replicate n default) [] := by
  refine ⟨List.replicate n [], ?_, by simp, fun j hj => ?_⟩
  · rw [show (List.replicate n ([] : Grp)).flatten = [] by simp]
  · rw [List.length_replicate] at hj
    simp only [List.getD_eq_getElem?_getD, List.getElem?_replicate, hj, if_true, Option.getD_some]
    exact OS.nil _ _
theorem os_none {A : Option Addr} {n c : Nat} {T : TypeId} {sz : Nat} {cs : List Value} {E : Grp} (h : OS A n c T sz cs E) (hA : A = none) : E = [] := by
  obtain ⟨_, _, _, h4⟩ := h
  rcases h4 with ⟨_, _, h⟩ | ⟨_, _, _, _, h, _⟩
  · exact h
  · rw [hA] at h; cases h
theorem getD_set' {α : Type} {xs : List α} {k j : Nat} {y d : α} (h : k < xs.length) : (xs.set k y).getD j d = if j = k then y else xs.getD j d := by
  simp only [List.getD_eq_getElem?_getD, List.getElem?_set]
  by_cases e : j = k
  · subst e; simp [h]
  · rw [if_neg (fun e' => e e'.symm), if_neg e]
theorem flatten_set {Es : List Grp} {k : Nat} {E : Grp} (hk : k < Es.length) (h : Es.getD k [] = []) : (Es.set k E).flatten.Perm (E ++ Es.flatten) := by
  induction Es generalizing k with
  | nil => simp at hk
  | cons a l ih =>
    cases k with
    | zero =>
      have ha : a = [] := by simpa using h
      subst ha
      simp
    | succ k =>
      simp only [List.set_cons_succ, List.flatten_cons]
      have := ih (k := k) (by simpa using hk) (by simpa using h)
      refine (List.Perm.append_left a this).trans ?_
      rw [← List.append_assoc, ← List.append_assoc]
      exact List.Perm.append_right _ List.perm_append_comm
theorem MCs.add {T : TypeId} {its : List IR} {CE : Grp} (h : MCs T its CE) {k : Nat} (hk : k < its.length) (h0 : (its.getD k default).A = none) {y : IR} {E : Grp} (hy : OS y.A y.n y.c T 2 (y.cs.flatMap encC) E) : MCs T (its.set k y) (E ++ CE) := by
  obtain ⟨Es, hp, hl, hall⟩ := h
  have hE : Es.getD k [] = [] := os_none (hall k hk) h0
  refine ⟨Es.set k E, ?_, by simp [hl], fun j hj => ?_⟩
  · exact (List.Perm.append_left E hp).trans (flatten_set (by omega) hE).symm
  · rw [List.length_set] at hj
    rw [getD_set' hk, getD_set' (by omega)]
    by_cases e : j = k
    · rw [if_pos e, if_pos e]; exact hy
    · rw [if_neg e, if_neg e]; exact hall j hj
theorem MCs.read {T : TypeId} {its : List IR} {CE : Grp} (h : MCs T its CE) {i : IR} (hi : i ∈ its) : i.cs.length = i.n ∧ i.n ≤ i.c ∧ Cels (inG CE) [] i.A (i.cs.flatMap encC) := by
  obtain ⟨Es, hp, hl, hall⟩ := h
  obtain ⟨j, hj, rfl⟩ := List.mem_iff_getElem.1 hi
  have h1 := hall j hj
  rw [List.getD_eq_getElem?_getD, List.getElem?_eq_getElem hj, Option.getD_some] at h1
  refine ⟨by have := h1.len; rw [flat_len encC_len] at this; omega, h1.2.1, h1.mem.ms fun b o hb => ?_⟩
  have hm : Es.getD j [] ∈ Es := by rw [List.getD_eq_getElem?_getD, List.getElem?_eq_getElem (by omega)]; simp
  exact hp.mem_iff.2 (List.mem_flatten.2 ⟨_, hm, hb⟩)

theorem CloneI_k0 (w : World) : (Instr.buildSlice 22 0 ([] : List (Nat × Value)).toArray).run Try.prog w = .ok (.slice (some ⟨w.heap.size, 0, none⟩) 0 0) { w with heap := w.heap.push (.cells ([] : List Value).toArray 3 (0, 0)) } := by kernel_rfl
theorem CloneI_c {V : Mem} (A : Option Addr) (n c : Nat) (bb : List Int) (h : Cels V [] A ((bb).map (.int .i64))) (hn : bb.length = n) (hb : n * 8 ≤ 140737488355328) : CallS Try.prog 93 [.slice A n c].toArray V []
    (fun r L' => ∃ B e G, r = .slice B n e ∧ OS B n e 3 1 ((bb).map (.int .i64)) G ∧ L' = [G]) := by
  refine callS Try.func93 rfl rfl (fun w0 => ?_)
  refine s_seq ?_
  refine s_region ?_
  refine o_val rfl rfl rfl (y_assign (v := (.slice _ _ _)) rfl) ?_
  refine o_nil ?_
  refine s_seq ?_
  refine s_seq ?_
  refine s_region ?_
  refine o_val rfl rfl rfl (y_move (v := (.slice _ _ _)) rfl) ?_
  refine o_val rfl rfl rfl (y_eql_nil Try.underlying22 rfl rfl) ?_
  refine o_nil ?_
  refine s_if rfl (fun h1 => ?_) (fun h2 => ?_)
  · subst h1
    have hbb := h.none_nil
    have hb0 : bb = [] := mapint_none hbb
    subst hb0
    obtain rfl : 0 = n := hn
    refine s_seq ?_
    refine s_region ?_
    refine o_val rfl rfl rfl (y_assign (v := (.slice _ _ _)) rfl) ?_
    refine o_nil ?_
    refine s_ret ?_
    exact ⟨_, [[]], res1 rfl rfl, ⟨_, _, [], rfl, OS.nil _ _, rfl⟩, sub_none⟩
  · refine s_skip ?_
    refine s_seq ?_
    refine s_region ?_
    refine o_lit (vs := []) rfl rfl (CloneI_k0) (fun b3 => ?_)
    refine o_val rfl rfl rfl (y_move (v := (.slice _ _ _)) rfl) ?_
    refine o_append (sz := 1) (bytes := 8) (news := (bb).map (.int .i64)) 0 rfl Try.underlying22 Try.type3 rfl rfl rfl rfl rfl (OS.lit (sz := 1) (n := 0) rfl (by decide)) rfl rfl (Src.rd (sz := 0) Try.underlying22 h.here (by simp [hn]) (one_int _ _)) (by omega) (fun A4 c5 E6 ho7 hn8 => ?_)
    have ho9 : OS A4 n c5 3 1 ((bb).map (.int .i64)) E6 := by simpa using ho7
    clear ho7
    refine o_val rfl rfl rfl (y_assign (v := (.slice _ _ _)) rfl) ?_
    refine o_nil ?_
    refine s_norm [_] rfl ?_
    refine s_ret ?_
    exact ⟨_, _, res1 rfl rfl, ⟨_, _, _, congrArg (fun k => Value.slice _ k _) (Nat.zero_add _), ho9, rfl⟩, sub_front ⟨_, rfl⟩⟩

theorem CopyC_k0 (v0 : Int) (v1A : Option Addr) (v1n : Nat) (v1c : Nat) (w : World) : (Instr.build 155 ([(0, (.int .i64 v0)), (1, (.slice v1A v1n v1c))] : List (Nat × Value)).toArray).run Try.prog w = .ok (.agg #[.int .i64 v0, .slice v1A v1n v1c]) w := by kernel_rfl
theorem CopyC_c {V : Mem} (A : Option Addr) (n c : Nat) (cs : List CR) (hcs : CsOK V A n c cs) : CallS Try.prog 152 [.slice A n c].toArray V [] (fun r L' => ∃ (B : Option Addr) (E P : Grp) (xs : List CR), r = .slice B n n ∧ OS B n n 155 2 ((xs).flatMap encC) E ∧ (∀ x ∈ xs, COK (inG P) x) ∧ xs.map CR.d = cs.map CR.d ∧ L' = [E, P]) := by
  obtain ⟨hCl, hCc, hCb, hC, hCC⟩ := hcs
  refine callS Try.func152 rfl rfl (fun w0 => ?_)
  refine s_seq ?_
  refine s_region ?_
  refine o_val rfl rfl rfl (y_assign (v := (.slice _ _ _)) rfl) ?_
  refine o_nil ?_
  refine s_seq ?_
  refine s_region ?_
  refine o_val rfl rfl rfl (y_move (v := (.slice _ _ _)) rfl) ?_
  refine o_val rfl rfl rfl (y_len Try.runUnderlying33 rfl) ?_
  refine o_make (sz := 2) (bytes := 32) (n := n) rfl Try.underlying33 Try.type155 rfl rfl rfl rfl rfl (by omega) (fun oA oE ho1 hoS => ?_)
  have hout : OS oA n n 155 2 (((List.replicate n default)).flatMap encC) oE := os_made_rec (enc := encC) rfl rfl ho1
  clear ho1
  refine o_val rfl rfl rfl (y_assign (v := (.slice _ _ _)) rfl) ?_
  refine o_nil ?_
  refine s_seq ?_
  refine s_seq ?_
  refine s_region ?_
  refine o_val rfl rfl rfl (y_move (v := (.slice _ _ _)) rfl) ?_
  refine o_val rfl rfl rfl (y_len Try.runUnderlying33 rfl) ?_
  refine o_val rfl rfl rfl (y_move (v := (.int _ _)) rfl) ?_
  refine o_nil ?_
  refine s_block ?_
  refine s_group ?_
  refine s_loopK (γ := LC3) [(2, (.slice _ _ _)), (3, (.slice _ _ _)), (9, (.slice _ _ _)), (10, (.int _ _))] [] (fun g => [(11, .int .i64 g.k)]) (fun g => [g.E, g.P]) (fun g => g.k ≤ n ∧ OS oA n n 155 2 ((g.xs).flatMap encC) g.E ∧ (∀ x ∈ g.xs, COK (inG g.P) x) ∧ (g.xs.take g.k).map CR.d = (cs.take g.k).map CR.d) (fun g => n - g.k) (LC3.mk 0 (List.replicate n default) oE []) ⟨rfl, rfl, rfl, rfl, rfl, trivial⟩ (sub_picks [0, 0] rfl) ?_ ?_
  · exact ⟨Nat.zero_le _, hout, all_rep (cok_def _), rfl⟩
  intro g _f hI
  refine s_norm _ (by simp only [pull, picks, setG, List.cons_append, List.nil_append, List.append_nil, List.drop_succ_cons, List.drop_zero]; rfl) ?_
  obtain ⟨hgk, hxo, hxc, hxt⟩ := hI
  have hxl : g.xs.length = n := by have := hxo.len; rw [flat_len encC_len] at this; omega
  refine s_seq ?_
  refine s_region ?_
  refine o_val rfl rfl rfl (y_lss rfl rfl) ?_
  refine o_nil ?_
  refine s_seq ?_
  refine s_if rfl (fun h2 => ?_) (fun h3 => ?_)
  · refine s_skip ?_
    refine s_seq ?_
    refine s_block ?_
    refine s_seq ?_
    refine s_region ?_
    refine o_val rfl rfl rfl (y_move (v := (.int _ _)) rfl) ?_
    refine o_val rfl rfl rfl (y_indexAddr Try.runUnderlying33 Try.sizeOf155 (some_at (sz := 1) encC_len (i := 0) hC (by omega)) rfl rfl (by omega)) ?_
    refine o_val rfl rfl rfl (y_loads (cs := [_, _]) Try.isAgg155 Try.sizeOf155 rfl (by unfold idx; rw [Option.isSome_map]; exact some_at (sz := 1) encC_len (i := 0) hC (by omega)) rfl (cels_at (sz := 2) encC_len hC.here (by omega))) ?_
    refine o_alloc rfl Try.zeroValue155 rfl (fun b4 => ?_)
    refine o_val rfl rfl rfl (y_assign (v := (.int _ _)) rfl) ?_
    refine o_stores (vs := [(.int _ _), (.slice _ _ _)]) 2 rfl Try.sizeOf155 rfl rfl rfl (by simp [Value.oneCell']) (by simp) ?_
    refine o_nil ?_
    refine s_drawn 1 (by kernel_rfl) ?_
    have hcc := hCC _ (getD_mem' (show g.k < cs.length by omega) : (cs.getD ((g.k : Nat) : Int).toNat default) ∈ cs)
    refine d_val (i := 0) rfl (by kernel_rfl) (by kernel_rfl) (by kernel_rfl) rfl rfl rfl (y_move (v := (.slice _ _ _)) rfl) ?_
    refine d_val (i := 1) rfl (by kernel_rfl) (by kernel_rfl) (by kernel_rfl) rfl rfl rfl (y_move (v := (.int _ _)) rfl) ?_
    refine d_val (i := 2) rfl (by kernel_rfl) (by kernel_rfl) (by kernel_rfl) rfl rfl rfl (y_field0 Try.runUnderlying155 rfl Try.sizeOf3 rfl rfl) ?_
    refine d_val (i := 3) rfl (by kernel_rfl) (by kernel_rfl) (by kernel_rfl) rfl rfl rfl (y_load Try.isAgg3 rfl (cel_own 1 rfl rfl)) ?_
    refine d_val (i := 4) rfl (by kernel_rfl) (by kernel_rfl) (by kernel_rfl) rfl rfl rfl (y_field0 Try.runUnderlying155 rfl Try.sizeOf22 rfl rfl) ?_
    refine d_val (i := 5) rfl (by kernel_rfl) (by kernel_rfl) (by kernel_rfl) rfl rfl rfl (y_load Try.isAgg22 rfl (cel_own 1 rfl rfl)) ?_
    refine d_eff (k := 6) (n := 1) (m := 2) rfl (by kernel_rfl) rfl ?_
    refine o_fn 0 (d := 22) rfl Try.call93 (CloneI_c (cs.getD ((g.k : Nat) : Int).toNat default).A (cs.getD ((g.k : Nat) : Int).toNat default).n (cs.getD ((g.k : Nat) : Int).toNat default).c (cs.getD ((g.k : Nat) : Int).toNat default).vs hcc.2.2.2.here.down hcc.1 (by have := hcc.2.2.1; omega)) rfl ?_
    rintro _ _ ⟨vB, ve, vG, rfl, hvo, rfl⟩
    refine o_nil ?_
    refine d_val (i := 7) rfl (by kernel_rfl) (by kernel_rfl) (by kernel_rfl) rfl rfl rfl (y_build (vs := [(0, .int _ _), (1, .slice _ _ _)]) rfl (CopyC_k0 _ _ _ _)) ?_
    refine d_val (i := 8) rfl (by kernel_rfl) (by kernel_rfl) (by kernel_rfl) rfl rfl rfl (y_indexAddr Try.runUnderlying33 Try.sizeOf155 (hxo.some_of (by omega)) rfl rfl (by omega)) ?_
    refine d_eff (k := 9) (n := 2) (m := 2) rfl (by kernel_rfl) rfl ?_
    refine o_store_os (vs := [(.int _ _), (.slice _ _ _)]) 1 rfl hxo Try.sizeOf155 rfl rfl rfl (by simp [Value.oneCell']) (by simp) (by rw [flat_len encC_len]; simp; omega) (fun E5 ho6 => ?_)
    have ho7 : OS oA n n 155 2 ((g.xs.set ((g.k : Nat) : Int).toNat (newC (cs.getD ((g.k : Nat) : Int).toNat default).kind vB (cs.getD ((g.k : Nat) : Int).toNat default).n ve (cs.getD ((g.k : Nat) : Int).toNat default).vs)).flatMap encC) E5 := os_set encC_len ho6 (by omega)
    clear ho6
    refine o_nil ?_
    refine d_nil (n := 2) (m := 2) (by kernel_rfl) rfl ?_
    refine s_forget [(2, (.slice _ _ _)), (3, (.slice _ _ _)), (9, (.slice _ _ _)), (10, (.int _ _)), (11, (.int _ _))] ⟨rfl, rfl, rfl, rfl, rfl, trivial⟩ (fun _f => ?_)
    refine s_region ?_
    refine o_pull 2 ?_
    refine o_pull 1 ?_
    refine o_fuse ?_
    refine o_val rfl rfl rfl (y_add rfl rfl (by simp only [inK]; omega)) ?_
    refine o_val rfl rfl rfl (y_move (v := (.int _ _)) rfl) ?_
    refine o_nil ?_
    exact ⟨LC3.mk (g.k + 1) (g.xs.set ((g.k : Nat) : Int).toNat (newC (cs.getD ((g.k : Nat) : Int).toNat default).kind vB (cs.getD ((g.k : Nat) : Int).toNat default).n ve (cs.getD ((g.k : Nat) : Int).toNat default).vs)) E5 (vG ++ g.P), (by first | omega | (dsimp only; omega)), ⟨by dsimp only; omega, ho7, all_set (fun x hx => (hxc x hx).sub inG_right) (cok_new hvo hcc.2.2.1), map_take_set (by omega) (by omega) hxt rfl⟩, ⟨(congrArg (Value.int .i64) (by (try dsimp only); omega)), rfl, rfl, rfl, rfl, trivial⟩, (sub_picks [1, 0] rfl)⟩
  · refine s_exit ?_
    refine s_seq ?_
    refine s_region ?_
    refine o_val rfl rfl rfl (y_move (v := (.slice _ _ _)) rfl) ?_
    refine o_val rfl rfl rfl (y_assign (v := (.slice _ _ _)) rfl) ?_
    refine o_nil ?_
    refine s_ret ?_
    have hgn : g.k = n := by omega
    rw [hgn, List.take_of_length_le (by omega), List.take_of_length_le (by omega)] at hxt
    exact ⟨_, [g.E, g.P], res1 rfl rfl, ⟨_, _, _, _, rfl, hxo, hxc, hxt, rfl⟩, sub_picks [0, 0] rfl⟩

theorem CopyK_k0 (v0 : ByteArray) (v1A : Option Addr) (v1n : Nat) (v1c : Nat) (w : World) : (Instr.build 58 ([(0, (.string v0)), (1, (.slice v1A v1n v1c))] : List (Nat × Value)).toArray).run Try.prog w = .ok (.agg #[.string v0, .slice v1A v1n v1c]) w := by kernel_rfl
theorem CopyK_c {V : Mem} (A : Option Addr) (n c : Nat) (ks : List KR) (hks : KsOK V A n c ks) : CallS Try.prog 151 [.slice A n c].toArray V [] (fun r L' => ∃ (B : Option Addr) (E P : Grp) (xs : List KR), r = .slice B n n ∧ OS B n n 58 2 ((xs).flatMap encK) E ∧ (∀ x ∈ xs, KOK (inG P) x) ∧ xs.map KR.d = ks.map KR.d ∧ L' = [E, P]) := by
  obtain ⟨hKl, hKc, hKb, hK, hKK⟩ := hks
  refine callS Try.func151 rfl rfl (fun w0 => ?_)
  refine s_seq ?_
  refine s_region ?_
  refine o_val rfl rfl rfl (y_assign (v := (.slice _ _ _)) rfl) ?_
  refine o_nil ?_
  refine s_seq ?_
  refine s_region ?_
  refine o_val rfl rfl rfl (y_move (v := (.slice _ _ _)) rfl) ?_
  refine o_val rfl rfl rfl (y_len Try.runUnderlying23 rfl) ?_
  refine o_make (sz := 2) (bytes := 40) (n := n) rfl Try.underlying23 Try.type58 rfl rfl rfl rfl rfl (by omega) (fun oA oE ho1 hoS => ?_)
  have hout : OS oA n n 58 2 (((List.replicate n default)).flatMap encK) oE := os_made_rec (enc := encK) rfl rfl ho1
  clear ho1
  refine o_val rfl rfl rfl (y_assign (v := (.slice _ _ _)) rfl) ?_
  refine o_nil ?_
  refine s_seq ?_
  refine s_seq ?_
  refine s_region ?_
  refine o_val rfl rfl rfl (y_move (v := (.slice _ _ _)) rfl) ?_
  refine o_val rfl rfl rfl (y_len Try.runUnderlying23 rfl) ?_
  refine o_val rfl rfl rfl (y_move (v := (.int _ _)) rfl) ?_
  refine o_nil ?_
  refine s_block ?_
  refine s_group ?_
  refine s_loopK (γ := LK3) [(2, (.slice _ _ _)), (3, (.slice _ _ _)), (9, (.slice _ _ _)), (10, (.int _ _))] [] (fun g => [(11, .int .i64 g.k)]) (fun g => [g.E, g.P]) (fun g => g.k ≤ n ∧ OS oA n n 58 2 ((g.xs).flatMap encK) g.E ∧ (∀ x ∈ g.xs, KOK (inG g.P) x) ∧ (g.xs.take g.k).map KR.d = (ks.take g.k).map KR.d) (fun g => n - g.k) (LK3.mk 0 (List.replicate n default) oE []) ⟨rfl, rfl, rfl, rfl, rfl, trivial⟩ (sub_picks [0, 0] rfl) ?_ ?_
  · exact ⟨Nat.zero_le _, hout, all_rep (kok_def _), rfl⟩
  intro g _f hI
  refine s_norm _ (by simp only [pull, picks, setG, List.cons_append, List.nil_append, List.append_nil, List.drop_succ_cons, List.drop_zero]; rfl) ?_
  obtain ⟨hgk, hxo, hxc, hxt⟩ := hI
  have hxl : g.xs.length = n := by have := hxo.len; rw [flat_len encK_len] at this; omega
  refine s_seq ?_
  refine s_region ?_
  refine o_val rfl rfl rfl (y_lss rfl rfl) ?_
  refine o_nil ?_
  refine s_seq ?_
  refine s_if rfl (fun h2 => ?_) (fun h3 => ?_)
  · refine s_skip ?_
    refine s_seq ?_
    refine s_block ?_
    refine s_seq ?_
    refine s_region ?_
    refine o_val rfl rfl rfl (y_move (v := (.int _ _)) rfl) ?_
    refine o_val rfl rfl rfl (y_indexAddr Try.runUnderlying23 Try.sizeOf58 (some_at (sz := 1) encK_len (i := 0) hK (by omega)) rfl rfl (by omega)) ?_
    refine o_val rfl rfl rfl (y_loads (cs := [_, _]) Try.isAgg58 Try.sizeOf58 rfl (by unfold idx; rw [Option.isSome_map]; exact some_at (sz := 1) encK_len (i := 0) hK (by omega)) rfl (cels_at (sz := 2) encK_len hK.here (by omega))) ?_
    have hkk := hKK _ (getD_mem' (show g.k < ks.length by omega) : (ks.getD ((g.k : Nat) : Int).toNat default) ∈ ks)
    refine o_alloc rfl Try.zeroValue58 rfl (fun b4 => ?_)
    refine o_val rfl rfl rfl (y_assign (v := (.int _ _)) rfl) ?_
    refine o_stores (vs := [(.string _), (.slice _ _ _)]) 2 rfl Try.sizeOf58 rfl rfl rfl (by simp [Value.oneCell']) (by simp) ?_
    refine o_nil ?_
    refine s_drawn 1 (by kernel_rfl) ?_
    refine d_val (i := 0) rfl (by kernel_rfl) (by kernel_rfl) (by kernel_rfl) rfl rfl rfl (y_move (v := (.slice _ _ _)) rfl) ?_
    refine d_val (i := 1) rfl (by kernel_rfl) (by kernel_rfl) (by kernel_rfl) rfl rfl rfl (y_move (v := (.int _ _)) rfl) ?_
    refine d_val (i := 2) rfl (by kernel_rfl) (by kernel_rfl) (by kernel_rfl) rfl rfl rfl (y_field0 Try.runUnderlying58 rfl Try.sizeOf9 rfl rfl) ?_
    refine d_val (i := 3) rfl (by kernel_rfl) (by kernel_rfl) (by kernel_rfl) rfl rfl rfl (y_load Try.isAgg9 rfl (cel_own 1 rfl rfl)) ?_
    refine d_val (i := 4) rfl (by kernel_rfl) (by kernel_rfl) (by kernel_rfl) rfl rfl rfl (y_field0 Try.runUnderlying58 rfl Try.sizeOf56 rfl rfl) ?_
    refine d_val (i := 5) rfl (by kernel_rfl) (by kernel_rfl) (by kernel_rfl) rfl rfl rfl (y_load Try.isAgg56 rfl (cel_own 1 rfl rfl)) ?_
    refine d_eff (k := 6) (n := 1) (m := 2) rfl (by kernel_rfl) rfl ?_
    refine o_newgroup ?_
    refine o_append (sz := 3) (bytes := 32) (news := (ks.getD ((g.k : Nat) : Int).toNat default).fs.flatMap encF) 3 rfl Try.underlying56 Try.type61 rfl rfl rfl rfl rfl (OS.nil 61 3) rfl rfl (Src.rd (sz := 2) Try.underlying56 hkk.2.2.2.here (by rw [flat_len encF_len, hkk.1]) (encF_one _)) (by have := hkk.2.2.1; omega) (fun A5 c6 E7 ho8 hn9 => ?_)
    have ho10 : OS A5 (ks.getD ((g.k : Nat) : Int).toNat default).n c6 61 3 (((ks.getD ((g.k : Nat) : Int).toNat default).fs).flatMap encF) E7 := (by simpa using ho8)
    clear ho8
    refine o_nil ?_
    refine d_val (i := 7) rfl (by kernel_rfl) (by kernel_rfl) (by kernel_rfl) rfl rfl rfl (y_build (vs := [(0, .string _), (1, .slice _ _ _)]) rfl (CopyK_k0 _ _ _ _)) ?_
    refine d_val (i := 8) rfl (by kernel_rfl) (by kernel_rfl) (by kernel_rfl) rfl rfl rfl (y_indexAddr Try.runUnderlying23 Try.sizeOf58 (hxo.some_of (by omega)) rfl rfl (by omega)) ?_
    refine d_eff (k := 9) (n := 1) (m := 2) rfl (by kernel_rfl) rfl ?_
    refine o_store_os (vs := [(.string _), (.slice _ _ _)]) 0 rfl hxo Try.sizeOf58 rfl rfl rfl (by simp [Value.oneCell']) (by simp) (by rw [flat_len encK_len]; simp; omega) (fun E11 ho12 => ?_)
    have ho13 : OS oA n n 58 2 ((g.xs.set ((g.k : Nat) : Int).toNat (newK (ks.getD ((g.k : Nat) : Int).toNat default).name A5 (0 + (ks.getD ((g.k : Nat) : Int).toNat default).n) c6 (ks.getD ((g.k : Nat) : Int).toNat default).fs)).flatMap encK) E11 := os_set encK_len ho12 (by omega)
    clear ho12
    refine o_nil ?_
    refine d_nil (n := 1) (m := 2) (by kernel_rfl) rfl ?_
    refine s_norm [_, _, [(_, .cells [(.string _), (.slice _ _ _)].toArray 58 (0, 0))], _] rfl ?_
    refine s_forget [(2, (.slice _ _ _)), (3, (.slice _ _ _)), (9, (.slice _ _ _)), (10, (.int _ _)), (11, (.int _ _))] ⟨rfl, rfl, rfl, rfl, rfl, trivial⟩ (fun _f => ?_)
    refine s_region ?_
    refine o_pull 1 ?_
    refine o_pull 3 ?_
    refine o_fuse ?_
    refine o_val rfl rfl rfl (y_add rfl rfl (by simp only [inK]; omega)) ?_
    refine o_val rfl rfl rfl (y_move (v := (.int _ _)) rfl) ?_
    refine o_nil ?_
    exact ⟨LK3.mk (g.k + 1) (g.xs.set ((g.k : Nat) : Int).toNat (newK (ks.getD ((g.k : Nat) : Int).toNat default).name A5 (0 + (ks.getD ((g.k : Nat) : Int).toNat default).n) c6 (ks.getD ((g.k : Nat) : Int).toNat default).fs)) E11 (E7 ++ g.P), (by first | omega | (dsimp only; omega)), ⟨by dsimp only; omega, ho13, all_set (fun x hx => (hxc x hx).sub inG_right) (by rw [Nat.zero_add]; exact kok_new ho10 hkk.2.2.1), map_take_set (by omega) (by omega) hxt rfl⟩, ⟨(congrArg (Value.int .i64) (by (try dsimp only); omega)), rfl, rfl, rfl, rfl, trivial⟩, (sub_picks [1, 0] rfl)⟩
  · refine s_exit ?_
    refine s_seq ?_
    refine s_region ?_
    refine o_val rfl rfl rfl (y_move (v := (.slice _ _ _)) rfl) ?_
    refine o_val rfl rfl rfl (y_assign (v := (.slice _ _ _)) rfl) ?_
    refine o_nil ?_
    refine s_ret ?_
    have hgn : g.k = n := by omega
    rw [hgn, List.take_of_length_le (by omega), List.take_of_length_le (by omega)] at hxt
    exact ⟨_, [g.E, g.P], res1 rfl rfl, ⟨_, _, _, _, rfl, hxo, hxc, hxt, rfl⟩, sub_picks [0, 0] rfl⟩

theorem CopyW_k0 (v0A : Option Addr) (v0n : Nat) (v0c : Nat) (v1A : Option Addr) (v1n : Nat) (v1c : Nat) (v2A : Option Addr) (v2n : Nat) (v2c : Nat) (w : World) : (Instr.build 47 ([(0, (.slice v0A v0n v0c)), (1, (.slice v1A v1n v1c)), (2, (.slice v2A v2n v2c))] : List (Nat × Value)).toArray).run Try.prog w = .ok (.agg #[.slice v0A v0n v0c, .slice v1A v1n v1c, .slice v2A v2n v2c]) w := by kernel_rfl
theorem CopyW_k1 (v0x0 : Int) (v0x1 : Int) (v1A : Option Addr) (v1n : Nat) (v1c : Nat) (w : World) : (Instr.build 136 ([(0, (.agg #[(.int .i64 v0x0), (.int .i64 v0x1)])), (1, (.slice v1A v1n v1c))] : List (Nat × Value)).toArray).run Try.prog w = .ok (.agg #[.int .i64 v0x0, .int .i64 v0x1, .slice v1A v1n v1c]) w := by kernel_rfl
theorem CopyW_c {V : Mem} (w : WR) (hw : WOK V w) : CallS Try.prog 95 [.agg #[.slice w.kA w.kn w.kc, .slice w.gA w.gn w.gc, .slice w.iA w.iN w.iC]].toArray V [] (fun r L' => ∃ (w' : WR) (KE KP GE IE CE VP : Grp), r = .agg #[.slice w'.kA w'.kn w'.kc, .slice w'.gA w'.gn w'.gc, .slice w'.iA w'.iN w'.iC] ∧ OS w'.kA w'.kn w'.kc 58 2 ((w'.ks).flatMap encK) KE ∧ (∀ x ∈ w'.ks, KOK (inG KP) x) ∧ OS w'.gA w'.gn w'.gc 3 1 ((w'.gs).map (.int .i64)) GE ∧ OS w'.iA w'.iN w'.iC 136 3 ((w'.its).flatMap encIt) IE ∧ MCs 155 w'.its CE ∧ (∀ x ∈ w'.its, ∀ y ∈ x.cs, COK (inG VP) y) ∧ w'.ks.map KR.d = w.ks.map KR.d ∧ w'.gs = w.gs ∧ w'.its.map IR.d = w.its.map IR.d ∧ L' = [KE, KP, GE, IE, CE, VP]) := by
  obtain ⟨⟨hwKl, hwKc, hwKb, hwK, hwKK⟩, ⟨hwGl, hwGc, hwGb, hwG⟩, ⟨hwIl, hwIc, hwIb, hwI, hwII⟩⟩ := hw
  refine callS Try.func95 rfl rfl (fun w0 => ?_)
  refine s_seq ?_
  refine s_region ?_
  refine o_box (v := (.agg #[(.slice _ _ _), (.slice _ _ _), (.slice _ _ _)])) rfl rfl rfl (fun b1 => ?_)
  refine o_alloc rfl Try.zeroValue47 rfl (fun b2 => ?_)
  refine o_nil ?_
  refine s_joinK (γ := LW3) [(1, (.pointer _)), (2, (.pointer _))] [_, _] (fun u => [(3, .pointer (some ⟨u.b, 0, none⟩))]) (fun u => [u.kE, u.kP, u.gE, u.iE, [(u.b, .cells [.slice u.kB w.kn w.kn, .slice u.gB w.gn u.ge, .slice u.iB w.iN w.iN].toArray 47 (0, 0))]]) (fun u => OS u.kB w.kn w.kn 58 2 ((u.kx).flatMap encK) u.kE ∧ (∀ x ∈ u.kx, KOK (inG u.kP) x) ∧ u.kx.map KR.d = w.ks.map KR.d ∧ OS u.gB w.gn u.ge 3 1 ((w.gs).map (.int .i64)) u.gE ∧ OS u.iB w.iN w.iN 136 3 (((List.replicate w.iN default)).flatMap encIt) u.iE) ⟨rfl, rfl, trivial⟩ [0, 0] rfl ?_ ?_
  · refine s_drawn 0 (by kernel_rfl) ?_
    refine d_val (i := 0) rfl (by kernel_rfl) (by kernel_rfl) (by kernel_rfl) rfl rfl rfl (y_field0 Try.runUnderlying47 rfl Try.sizeOf23 rfl rfl) ?_
    refine d_val (i := 1) rfl (by kernel_rfl) (by kernel_rfl) (by kernel_rfl) rfl rfl rfl (y_load Try.isAgg23 rfl (cel_own 0 rfl rfl)) ?_
    refine d_val (i := 3) rfl (by kernel_rfl) (by kernel_rfl) (by kernel_rfl) rfl rfl rfl (y_field0 Try.runUnderlying47 rfl Try.sizeOf22 rfl rfl) ?_
    refine d_val (i := 4) rfl (by kernel_rfl) (by kernel_rfl) (by kernel_rfl) rfl rfl rfl (y_load Try.isAgg22 rfl (cel_own 0 rfl rfl)) ?_
    refine d_val (i := 6) rfl (by kernel_rfl) (by kernel_rfl) (by kernel_rfl) rfl rfl rfl (y_field0 Try.runUnderlying47 rfl Try.sizeOf45 rfl rfl) ?_
    refine d_val (i := 7) rfl (by kernel_rfl) (by kernel_rfl) (by kernel_rfl) rfl rfl rfl (y_load Try.isAgg45 rfl (cel_own 0 rfl rfl)) ?_
    refine d_val (i := 8) rfl (by kernel_rfl) (by kernel_rfl) (by kernel_rfl) rfl rfl rfl (y_len Try.runUnderlying45 rfl) ?_
    refine d_eff3 (k := 2) (k' := 9) (k'' := 11) (n := 0) (m := 2) rfl rfl rfl (by kernel_rfl) rfl ?_ ?_ ?_
    · refine o_fn 0 (d := 8) rfl Try.call151 (CopyK_c w.kA w.kn w.kc w.ks ⟨hwKl, hwKc, hwKb, hwK.here.down, fun x hx => (hwKK x hx).sub MSub.ext⟩) rfl ?_
      rintro _ _ ⟨kB, kE, kP, kx, rfl, hko, hkx, hks, rfl⟩
      refine o_nil ?_
      refine d_eff3 (k := 5) (k' := 9) (k'' := 11) (n := 2) (m := 2) rfl rfl rfl (by kernel_rfl) rfl ?_ ?_ ?_
      · refine o_fn 0 (d := 11) rfl Try.call93 (CloneI_c w.gA w.gn w.gc w.gs hwG.here.down hwGl (by omega)) rfl ?_
        rintro _ _ ⟨gB, ge, gE, rfl, hgo, rfl⟩
        refine o_nil ?_
        refine d_eff2 (k := 9) (k' := 11) (n := 3) (m := 2) rfl rfl (by kernel_rfl) rfl ?_ ?_
        · refine o_make (sz := 3) (bytes := 40) (n := w.iN) rfl Try.underlying45 Try.type136 rfl rfl rfl rfl rfl (by omega) (fun iB iE ho3 hiS => ?_)
          have hout : OS iB w.iN w.iN 136 3 (((List.replicate w.iN default)).flatMap encIt) iE := os_made_rec (enc := encIt) rfl rfl ho3
          clear ho3
          refine o_nil ?_
          refine d_val (i := 10) rfl (by kernel_rfl) (by kernel_rfl) (by kernel_rfl) rfl rfl rfl (y_build (vs := [(0, .slice _ _ _), (1, .slice _ _ _), (2, .slice _ _ _)]) rfl (CopyW_k0 _ _ _ _ _ _ _ _ _)) ?_
          refine d_eff (k := 11) (n := 3) (m := 2) rfl (by kernel_rfl) rfl ?_
          refine o_alloc rfl Try.zeroValue47 rfl (fun b4 => ?_)
          refine o_nil ?_
          refine d_eff (k := 12) (n := 3) (m := 2) rfl (by kernel_rfl) rfl ?_
          refine o_stores (vs := [(.slice _ _ _), (.slice _ _ _), (.slice _ _ _)]) 6 rfl Try.sizeOf47 rfl rfl rfl (by simp [Value.oneCell']) (by simp) ?_
          refine o_nil ?_
          refine d_nil (n := 3) (m := 2) (by kernel_rfl) rfl ?_
          exact ⟨⟨kB, kE, kP, kx, gB, ge, gE, iB, iE, b4⟩, ⟨hko, hkx, hks, hgo, hout⟩, ⟨rfl, rfl, rfl, trivial⟩, (sub_picks [1, 1, 0, 2, 2, 0, 0] rfl)⟩
        · refine o_alloc rfl Try.zeroValue47 rfl (fun b5 => ?_)
          refine o_nil ?_
          refine d_eff (k := 9) (n := 3) (m := 2) rfl (by kernel_rfl) rfl ?_
          refine o_make (sz := 3) (bytes := 40) (n := w.iN) rfl Try.underlying45 Try.type136 rfl rfl rfl rfl rfl (by omega) (fun iB iE ho6 hiS => ?_)
          have hout : OS iB w.iN w.iN 136 3 (((List.replicate w.iN default)).flatMap encIt) iE := os_made_rec (enc := encIt) rfl rfl ho6
          clear ho6
          refine o_nil ?_
          refine d_val (i := 10) rfl (by kernel_rfl) (by kernel_rfl) (by kernel_rfl) rfl rfl rfl (y_build (vs := [(0, .slice _ _ _), (1, .slice _ _ _), (2, .slice _ _ _)]) rfl (CopyW_k0 _ _ _ _ _ _ _ _ _)) ?_
          refine d_eff (k := 12) (n := 3) (m := 2) rfl (by kernel_rfl) rfl ?_
          refine o_stores (vs := [(.slice _ _ _), (.slice _ _ _), (.slice _ _ _)]) 5 rfl Try.sizeOf47 rfl rfl rfl (by simp [Value.oneCell']) (by simp) ?_
          refine o_nil ?_
          refine d_nil (n := 3) (m := 2) (by kernel_rfl) rfl ?_
          exact ⟨⟨kB, kE, kP, kx, gB, ge, gE, iB, iE, b5⟩, ⟨hko, hkx, hks, hgo, hout⟩, ⟨rfl, rfl, rfl, trivial⟩, (sub_picks [1, 1, 0, 3, 2, 0, 0] rfl)⟩
      · refine o_make (sz := 3) (bytes := 40) (n := w.iN) rfl Try.underlying45 Try.type136 rfl rfl rfl rfl rfl (by omega) (fun iB iE ho7 hiS => ?_)
        have hout : OS iB w.iN w.iN 136 3 (((List.replicate w.iN default)).flatMap encIt) iE := os_made_rec (enc := encIt) rfl rfl ho7
        clear ho7
        refine o_nil ?_
        refine d_eff2 (k := 5) (k' := 11) (n := 2) (m := 2) rfl rfl (by kernel_rfl) rfl ?_ ?_
        · refine o_fn 0 (d := 11) rfl Try.call93 (CloneI_c w.gA w.gn w.gc w.gs hwG.here.down hwGl (by omega)) rfl ?_
          rintro _ _ ⟨gB, ge, gE, rfl, hgo, rfl⟩
          refine o_nil ?_
          refine d_val (i := 10) rfl (by kernel_rfl) (by kernel_rfl) (by kernel_rfl) rfl rfl rfl (y_build (vs := [(0, .slice _ _ _), (1, .slice _ _ _), (2, .slice _ _ _)]) rfl (CopyW_k0 _ _ _ _ _ _ _ _ _)) ?_
          refine d_eff (k := 11) (n := 3) (m := 2) rfl (by kernel_rfl) rfl ?_
          refine o_alloc rfl Try.zeroValue47 rfl (fun b8 => ?_)
          refine o_nil ?_
          refine d_eff (k := 12) (n := 3) (m := 2) rfl (by kernel_rfl) rfl ?_
          refine o_stores (vs := [(.slice _ _ _), (.slice _ _ _), (.slice _ _ _)]) 6 rfl Try.sizeOf47 rfl rfl rfl (by simp [Value.oneCell']) (by simp) ?_
          refine o_nil ?_
          refine d_nil (n := 3) (m := 2) (by kernel_rfl) rfl ?_
          exact ⟨⟨kB, kE, kP, kx, gB, ge, gE, iB, iE, b8⟩, ⟨hko, hkx, hks, hgo, hout⟩, ⟨rfl, rfl, rfl, trivial⟩, (sub_picks [1, 1, 0, 2, 2, 0, 0] rfl)⟩
        · refine o_alloc rfl Try.zeroValue47 rfl (fun b9 => ?_)
          refine o_nil ?_
          refine d_eff (k := 5) (n := 2) (m := 2) rfl (by kernel_rfl) rfl ?_
          refine o_fn 0 (d := 11) rfl Try.call93 (CloneI_c w.gA w.gn w.gc w.gs hwG.here.down hwGl (by omega)) rfl ?_
          rintro _ _ ⟨gB, ge, gE, rfl, hgo, rfl⟩
          refine o_nil ?_
          refine d_val (i := 10) rfl (by kernel_rfl) (by kernel_rfl) (by kernel_rfl) rfl rfl rfl (y_build (vs := [(0, .slice _ _ _), (1, .slice _ _ _), (2, .slice _ _ _)]) rfl (CopyW_k0 _ _ _ _ _ _ _ _ _)) ?_
          refine d_eff (k := 12) (n := 3) (m := 2) rfl (by kernel_rfl) rfl ?_
          refine o_stores (vs := [(.slice _ _ _), (.slice _ _ _), (.slice _ _ _)]) 6 rfl Try.sizeOf47 rfl rfl rfl (by simp [Value.oneCell']) (by simp) ?_
          refine o_nil ?_
          refine d_nil (n := 3) (m := 2) (by kernel_rfl) rfl ?_
          exact ⟨⟨kB, kE, kP, kx, gB, ge, gE, iB, iE, b9⟩, ⟨hko, hkx, hks, hgo, hout⟩, ⟨rfl, rfl, rfl, trivial⟩, (sub_picks [1, 1, 0, 2, 2, 0, 0] rfl)⟩
      · refine o_alloc rfl Try.zeroValue47 rfl (fun b10 => ?_)
        refine o_nil ?_
        refine d_eff2 (k := 5) (k' := 9) (n := 2) (m := 2) rfl rfl (by kernel_rfl) rfl ?_ ?_
        · refine o_fn 0 (d := 11) rfl Try.call93 (CloneI_c w.gA w.gn w.gc w.gs hwG.here.down hwGl (by omega)) rfl ?_
          rintro _ _ ⟨gB, ge, gE, rfl, hgo, rfl⟩
          refine o_nil ?_
          refine d_eff (k := 9) (n := 3) (m := 2) rfl (by kernel_rfl) rfl ?_
          refine o_make (sz := 3) (bytes := 40) (n := w.iN) rfl Try.underlying45 Try.type136 rfl rfl rfl rfl rfl (by omega) (fun iB iE ho11 hiS => ?_)
          have hout : OS iB w.iN w.iN 136 3 (((List.replicate w.iN default)).flatMap encIt) iE := os_made_rec (enc := encIt) rfl rfl ho11
          clear ho11
          refine o_nil ?_
          refine d_val (i := 10) rfl (by kernel_rfl) (by kernel_rfl) (by kernel_rfl) rfl rfl rfl (y_build (vs := [(0, .slice _ _ _), (1, .slice _ _ _), (2, .slice _ _ _)]) rfl (CopyW_k0 _ _ _ _ _ _ _ _ _)) ?_
          refine d_eff (k := 12) (n := 3) (m := 2) rfl (by kernel_rfl) rfl ?_
          refine o_stores (vs := [(.slice _ _ _), (.slice _ _ _), (.slice _ _ _)]) 5 rfl Try.sizeOf47 rfl rfl rfl (by simp [Value.oneCell']) (by simp) ?_
          refine o_nil ?_
          refine d_nil (n := 3) (m := 2) (by kernel_rfl) rfl ?_
          exact ⟨⟨kB, kE, kP, kx, gB, ge, gE, iB, iE, b10⟩, ⟨hko, hkx, hks, hgo, hout⟩, ⟨rfl, rfl, rfl, trivial⟩, (sub_picks [1, 1, 0, 3, 2, 0, 0] rfl)⟩
        · refine o_make (sz := 3) (bytes := 40) (n := w.iN) rfl Try.underlying45 Try.type136 rfl rfl rfl rfl rfl (by omega) (fun iB iE ho12 hiS => ?_)
          have hout : OS iB w.iN w.iN 136 3 (((List.replicate w.iN default)).flatMap encIt) iE := os_made_rec (enc := encIt) rfl rfl ho12
          clear ho12
          refine o_nil ?_
          refine d_eff (k := 5) (n := 2) (m := 2) rfl (by kernel_rfl) rfl ?_
          refine o_fn 0 (d := 11) rfl Try.call93 (CloneI_c w.gA w.gn w.gc w.gs hwG.here.down hwGl (by omega)) rfl ?_
          rintro _ _ ⟨gB, ge, gE, rfl, hgo, rfl⟩
          refine o_nil ?_
          refine d_val (i := 10) rfl (by kernel_rfl) (by kernel_rfl) (by kernel_rfl) rfl rfl rfl (y_build (vs := [(0, .slice _ _ _), (1, .slice _ _ _), (2, .slice _ _ _)]) rfl (CopyW_k0 _ _ _ _ _ _ _ _ _)) ?_
          refine d_eff (k := 12) (n := 3) (m := 2) rfl (by kernel_rfl) rfl ?_
          refine o_stores (vs := [(.slice _ _ _), (.slice _ _ _), (.slice _ _ _)]) 5 rfl Try.sizeOf47 rfl rfl rfl (by simp [Value.oneCell']) (by simp) ?_
          refine o_nil ?_
          refine d_nil (n := 3) (m := 2) (by kernel_rfl) rfl ?_
          exact ⟨⟨kB, kE, kP, kx, gB, ge, gE, iB, iE, b10⟩, ⟨hko, hkx, hks, hgo, hout⟩, ⟨rfl, rfl, rfl, trivial⟩, (sub_picks [1, 1, 0, 3, 2, 0, 0] rfl)⟩
    · refine o_make (sz := 3) (bytes := 40) (n := w.iN) rfl Try.underlying45 Try.type136 rfl rfl rfl rfl rfl (by omega) (fun iB iE ho13 hiS => ?_)
      have hout : OS iB w.iN w.iN 136 3 (((List.replicate w.iN default)).flatMap encIt) iE := os_made_rec (enc := encIt) rfl rfl ho13
      clear ho13
      refine o_nil ?_
      refine d_eff2 (k := 2) (k' := 11) (n := 0) (m := 2) rfl rfl (by kernel_rfl) rfl ?_ ?_
      · refine o_fn 0 (d := 8) rfl Try.call151 (CopyK_c w.kA w.kn w.kc w.ks ⟨hwKl, hwKc, hwKb, hwK.here.down, fun x hx => (hwKK x hx).sub MSub.ext⟩) rfl ?_
        rintro _ _ ⟨kB, kE, kP, kx, rfl, hko, hkx, hks, rfl⟩
        refine o_nil ?_
        refine d_eff2 (k := 5) (k' := 11) (n := 2) (m := 2) rfl rfl (by kernel_rfl) rfl ?_ ?_
        · refine o_fn 0 (d := 11) rfl Try.call93 (CloneI_c w.gA w.gn w.gc w.gs hwG.here.down hwGl (by omega)) rfl ?_
          rintro _ _ ⟨gB, ge, gE, rfl, hgo, rfl⟩
          refine o_nil ?_
          refine d_val (i := 10) rfl (by kernel_rfl) (by kernel_rfl) (by kernel_rfl) rfl rfl rfl (y_build (vs := [(0, .slice _ _ _), (1, .slice _ _ _), (2, .slice _ _ _)]) rfl (CopyW_k0 _ _ _ _ _ _ _ _ _)) ?_
          refine d_eff (k := 11) (n := 3) (m := 2) rfl (by kernel_rfl) rfl ?_
          refine o_alloc rfl Try.zeroValue47 rfl (fun b14 => ?_)
          refine o_nil ?_
          refine d_eff (k := 12) (n := 3) (m := 2) rfl (by kernel_rfl) rfl ?_
          refine o_stores (vs := [(.slice _ _ _), (.slice _ _ _), (.slice _ _ _)]) 6 rfl Try.sizeOf47 rfl rfl rfl (by simp [Value.oneCell']) (by simp) ?_
          refine o_nil ?_
          refine d_nil (n := 3) (m := 2) (by kernel_rfl) rfl ?_
          exact ⟨⟨kB, kE, kP, kx, gB, ge, gE, iB, iE, b14⟩, ⟨hko, hkx, hks, hgo, hout⟩, ⟨rfl, rfl, rfl, trivial⟩, (sub_picks [1, 1, 0, 2, 2, 0, 0] rfl)⟩
        · refine o_alloc rfl Try.zeroValue47 rfl (fun b15 => ?_)
          refine o_nil ?_
          refine d_eff (k := 5) (n := 2) (m := 2) rfl (by kernel_rfl) rfl ?_
          refine o_fn 0 (d := 11) rfl Try.call93 (CloneI_c w.gA w.gn w.gc w.gs hwG.here.down hwGl (by omega)) rfl ?_
          rintro _ _ ⟨gB, ge, gE, rfl, hgo, rfl⟩
          refine o_nil ?_
          refine d_val (i := 10) rfl (by kernel_rfl) (by kernel_rfl) (by kernel_rfl) rfl rfl rfl (y_build (vs := [(0, .slice _ _ _), (1, .slice _ _ _), (2, .slice _ _ _)]) rfl (CopyW_k0 _ _ _ _ _ _ _ _ _)) ?_
          refine d_eff (k := 12) (n := 3) (m := 2) rfl (by kernel_rfl) rfl ?_
          refine o_stores (vs := [(.slice _ _ _), (.slice _ _ _), (.slice _ _ _)]) 6 rfl Try.sizeOf47 rfl rfl rfl (by simp [Value.oneCell']) (by simp) ?_
          refine o_nil ?_
          refine d_nil (n := 3) (m := 2) (by kernel_rfl) rfl ?_
          exact ⟨⟨kB, kE, kP, kx, gB, ge, gE, iB, iE, b15⟩, ⟨hko, hkx, hks, hgo, hout⟩, ⟨rfl, rfl, rfl, trivial⟩, (sub_picks [1, 1, 0, 2, 2, 0, 0] rfl)⟩
      · refine o_alloc rfl Try.zeroValue47 rfl (fun b16 => ?_)
        refine o_nil ?_
        refine d_eff (k := 2) (n := 0) (m := 2) rfl (by kernel_rfl) rfl ?_
        refine o_fn 0 (d := 8) rfl Try.call151 (CopyK_c w.kA w.kn w.kc w.ks ⟨hwKl, hwKc, hwKb, hwK.here.down, fun x hx => (hwKK x hx).sub MSub.ext⟩) rfl ?_
        rintro _ _ ⟨kB, kE, kP, kx, rfl, hko, hkx, hks, rfl⟩
        refine o_nil ?_
        refine d_eff (k := 5) (n := 2) (m := 2) rfl (by kernel_rfl) rfl ?_
        refine o_fn 0 (d := 11) rfl Try.call93 (CloneI_c w.gA w.gn w.gc w.gs hwG.here.down hwGl (by omega)) rfl ?_
        rintro _ _ ⟨gB, ge, gE, rfl, hgo, rfl⟩
        refine o_nil ?_
        refine d_val (i := 10) rfl (by kernel_rfl) (by kernel_rfl) (by kernel_rfl) rfl rfl rfl (y_build (vs := [(0, .slice _ _ _), (1, .slice _ _ _), (2, .slice _ _ _)]) rfl (CopyW_k0 _ _ _ _ _ _ _ _ _)) ?_
        refine d_eff (k := 12) (n := 3) (m := 2) rfl (by kernel_rfl) rfl ?_
        refine o_stores (vs := [(.slice _ _ _), (.slice _ _ _), (.slice _ _ _)]) 6 rfl Try.sizeOf47 rfl rfl rfl (by simp [Value.oneCell']) (by simp) ?_
        refine o_nil ?_
        refine d_nil (n := 3) (m := 2) (by kernel_rfl) rfl ?_
        exact ⟨⟨kB, kE, kP, kx, gB, ge, gE, iB, iE, b16⟩, ⟨hko, hkx, hks, hgo, hout⟩, ⟨rfl, rfl, rfl, trivial⟩, (sub_picks [1, 1, 0, 2, 2, 0, 0] rfl)⟩
    · refine o_alloc rfl Try.zeroValue47 rfl (fun b17 => ?_)
      refine o_nil ?_
      refine d_eff2 (k := 2) (k' := 9) (n := 0) (m := 2) rfl rfl (by kernel_rfl) rfl ?_ ?_
      · refine o_fn 0 (d := 8) rfl Try.call151 (CopyK_c w.kA w.kn w.kc w.ks ⟨hwKl, hwKc, hwKb, hwK.here.down, fun x hx => (hwKK x hx).sub MSub.ext⟩) rfl ?_
        rintro _ _ ⟨kB, kE, kP, kx, rfl, hko, hkx, hks, rfl⟩
        refine o_nil ?_
        refine d_eff2 (k := 5) (k' := 9) (n := 2) (m := 2) rfl rfl (by kernel_rfl) rfl ?_ ?_
        · refine o_fn 0 (d := 11) rfl Try.call93 (CloneI_c w.gA w.gn w.gc w.gs hwG.here.down hwGl (by omega)) rfl ?_
          rintro _ _ ⟨gB, ge, gE, rfl, hgo, rfl⟩
          refine o_nil ?_
          refine d_eff (k := 9) (n := 3) (m := 2) rfl (by kernel_rfl) rfl ?_
          refine o_make (sz := 3) (bytes := 40) (n := w.iN) rfl Try.underlying45 Try.type136 rfl rfl rfl rfl rfl (by omega) (fun iB iE ho18 hiS => ?_)
          have hout : OS iB w.iN w.iN 136 3 (((List.replicate w.iN default)).flatMap encIt) iE := os_made_rec (enc := encIt) rfl rfl ho18
          clear ho18
          refine o_nil ?_
          refine d_val (i := 10) rfl (by kernel_rfl) (by kernel_rfl) (by kernel_rfl) rfl rfl rfl (y_build (vs := [(0, .slice _ _ _), (1, .slice _ _ _), (2, .slice _ _ _)]) rfl (CopyW_k0 _ _ _ _ _ _ _ _ _)) ?_
          refine d_eff (k := 12) (n := 3) (m := 2) rfl (by kernel_rfl) rfl ?_
          refine o_stores (vs := [(.slice _ _ _), (.slice _ _ _), (.slice _ _ _)]) 5 rfl Try.sizeOf47 rfl rfl rfl (by simp [Value.oneCell']) (by simp) ?_
          refine o_nil ?_
          refine d_nil (n := 3) (m := 2) (by kernel_rfl) rfl ?_
          exact ⟨⟨kB, kE, kP, kx, gB, ge, gE, iB, iE, b17⟩, ⟨hko, hkx, hks, hgo, hout⟩, ⟨rfl, rfl, rfl, trivial⟩, (sub_picks [1, 1, 0, 3, 2, 0, 0] rfl)⟩
        · refine o_make (sz := 3) (bytes := 40) (n := w.iN) rfl Try.underlying45 Try.type136 rfl rfl rfl rfl rfl (by omega) (fun iB iE ho19 hiS => ?_)
          have hout : OS iB w.iN w.iN 136 3 (((List.replicate w.iN default)).flatMap encIt) iE := os_made_rec (enc := encIt) rfl rfl ho19
          clear ho19
          refine o_nil ?_
          refine d_eff (k := 5) (n := 2) (m := 2) rfl (by kernel_rfl) rfl ?_
          refine o_fn 0 (d := 11) rfl Try.call93 (CloneI_c w.gA w.gn w.gc w.gs hwG.here.down hwGl (by omega)) rfl ?_
          rintro _ _ ⟨gB, ge, gE, rfl, hgo, rfl⟩
          refine o_nil ?_
          refine d_val (i := 10) rfl (by kernel_rfl) (by kernel_rfl) (by kernel_rfl) rfl rfl rfl (y_build (vs := [(0, .slice _ _ _), (1, .slice _ _ _), (2, .slice _ _ _)]) rfl (CopyW_k0 _ _ _ _ _ _ _ _ _)) ?_
          refine d_eff (k := 12) (n := 3) (m := 2) rfl (by kernel_rfl) rfl ?_
          refine o_stores (vs := [(.slice _ _ _), (.slice _ _ _), (.slice _ _ _)]) 5 rfl Try.sizeOf47 rfl rfl rfl (by simp [Value.oneCell']) (by simp) ?_
          refine o_nil ?_
          refine d_nil (n := 3) (m := 2) (by kernel_rfl) rfl ?_
          exact ⟨⟨kB, kE, kP, kx, gB, ge, gE, iB, iE, b17⟩, ⟨hko, hkx, hks, hgo, hout⟩, ⟨rfl, rfl, rfl, trivial⟩, (sub_picks [1, 1, 0, 3, 2, 0, 0] rfl)⟩
      · refine o_make (sz := 3) (bytes := 40) (n := w.iN) rfl Try.underlying45 Try.type136 rfl rfl rfl rfl rfl (by omega) (fun iB iE ho20 hiS => ?_)
        have hout : OS iB w.iN w.iN 136 3 (((List.replicate w.iN default)).flatMap encIt) iE := os_made_rec (enc := encIt) rfl rfl ho20
        clear ho20
        refine o_nil ?_
        refine d_eff (k := 2) (n := 0) (m := 2) rfl (by kernel_rfl) rfl ?_
        refine o_fn 0 (d := 8) rfl Try.call151 (CopyK_c w.kA w.kn w.kc w.ks ⟨hwKl, hwKc, hwKb, hwK.here.down, fun x hx => (hwKK x hx).sub MSub.ext⟩) rfl ?_
        rintro _ _ ⟨kB, kE, kP, kx, rfl, hko, hkx, hks, rfl⟩
        refine o_nil ?_
        refine d_eff (k := 5) (n := 2) (m := 2) rfl (by kernel_rfl) rfl ?_
        refine o_fn 0 (d := 11) rfl Try.call93 (CloneI_c w.gA w.gn w.gc w.gs hwG.here.down hwGl (by omega)) rfl ?_
        rintro _ _ ⟨gB, ge, gE, rfl, hgo, rfl⟩
        refine o_nil ?_
        refine d_val (i := 10) rfl (by kernel_rfl) (by kernel_rfl) (by kernel_rfl) rfl rfl rfl (y_build (vs := [(0, .slice _ _ _), (1, .slice _ _ _), (2, .slice _ _ _)]) rfl (CopyW_k0 _ _ _ _ _ _ _ _ _)) ?_
        refine d_eff (k := 12) (n := 3) (m := 2) rfl (by kernel_rfl) rfl ?_
        refine o_stores (vs := [(.slice _ _ _), (.slice _ _ _), (.slice _ _ _)]) 5 rfl Try.sizeOf47 rfl rfl rfl (by simp [Value.oneCell']) (by simp) ?_
        refine o_nil ?_
        refine d_nil (n := 3) (m := 2) (by kernel_rfl) rfl ?_
        exact ⟨⟨kB, kE, kP, kx, gB, ge, gE, iB, iE, b17⟩, ⟨hko, hkx, hks, hgo, hout⟩, ⟨rfl, rfl, rfl, trivial⟩, (sub_picks [1, 1, 0, 3, 2, 0, 0] rfl)⟩
  intro u _f hU
  refine s_norm _ (by simp only [pull, picks, setG, List.cons_append, List.nil_append, List.append_nil, List.drop_succ_cons, List.drop_zero]; rfl) ?_
  obtain ⟨hko, hkx, hks, hgo, hout⟩ := hU
  refine s_seq ?_
  refine s_seq ?_
  refine s_region ?_
  refine o_val rfl rfl rfl (y_field0 Try.runUnderlying47 rfl Try.sizeOf45 rfl rfl) ?_
  refine o_val rfl rfl rfl (y_load Try.isAgg45 rfl (cel_own 5 rfl rfl)) ?_
  refine o_val rfl rfl rfl (y_len Try.runUnderlying45 rfl) ?_
  refine o_val rfl rfl rfl (y_move (v := (.int _ _)) rfl) ?_
  refine o_nil ?_
  refine s_block ?_
  refine s_group ?_
  refine s_group ?_
  refine s_loopK (γ := LI3) [(2, (.pointer _)), (3, (.pointer _)), (18, (.slice _ _ _)), (19, (.int _ _))] [_, _, _, _, _] (fun g => [(20, .int .i64 g.k)]) (fun g => [g.E, g.CE, g.P]) (fun g => g.k ≤ w.iN ∧ OS u.iB w.iN w.iN 136 3 ((g.xs).flatMap encIt) g.E ∧ MCs 155 g.xs g.CE ∧ (∀ x ∈ g.xs, ∀ y ∈ x.cs, COK (inG g.P) y) ∧ (g.xs.take g.k).map IR.d = (w.its.take g.k).map IR.d ∧ ∀ j, g.k ≤ j → j < w.iN → g.xs.getD j default = default) (fun g => w.iN - g.k) (LI3.mk 0 (List.replicate w.iN default) u.iE [] []) ⟨rfl, rfl, rfl, rfl, rfl, trivial⟩ (sub_picks [3, 6, 6, 0, 0, 0, 0, 1] rfl) ?_ ?_
  · exact ⟨Nat.zero_le _, hout, MCs.rep _ _, all_rep (fun y hy => absurd hy List.not_mem_nil), rfl, fun j _ hj => by simp [List.getD_eq_getElem?_getD, hj]⟩
  intro g _f hI
  refine s_norm _ (by simp only [pull, picks, setG, List.cons_append, List.nil_append, List.append_nil, List.drop_succ_cons, List.drop_zero]; rfl) ?_
  obtain ⟨hgk, hxo, hmc, hxc, hxt, hrest⟩ := hI
  have hxl : g.xs.length = w.iN := by have := hxo.len; rw [flat_len encIt_len] at this; omega
  refine s_seq ?_
  refine s_region ?_
  refine o_val rfl rfl rfl (y_lss rfl rfl) ?_
  refine o_nil ?_
  refine s_seq ?_
  refine s_if rfl (fun h21 => ?_) (fun h22 => ?_)
  · refine s_skip ?_
    refine s_seq ?_
    refine s_block ?_
    refine s_seq ?_
    refine s_region ?_
    refine o_val rfl rfl rfl (y_move (v := (.int _ _)) rfl) ?_
    refine o_val rfl rfl rfl (y_indexAddr Try.runUnderlying45 Try.sizeOf136 (some_at (sz := 2) encIt_len (i := 0) hwI (by omega)) rfl rfl (by omega)) ?_
    refine o_val rfl rfl rfl (y_loads (cs := [_, _, _]) Try.isAgg136 Try.sizeOf136 rfl (by unfold idx; rw [Option.isSome_map]; exact some_at (sz := 2) encIt_len (i := 0) hwI (by omega)) rfl (cels_at (sz := 3) encIt_len hwI.here (by omega))) ?_
    refine o_alloc rfl Try.zeroValue136 rfl (fun b23 => ?_)
    refine o_val rfl rfl rfl (y_assign (v := (.int _ _)) rfl) ?_
    refine o_stores (vs := [(.int _ _), (.int _ _), (.slice _ _ _)]) 8 rfl Try.sizeOf136 rfl rfl rfl (by simp [Value.oneCell']) (by simp) ?_
    refine o_nil ?_
    refine s_drawn 1 (by kernel_rfl) ?_
    have hii := hwII _ (getD_mem' (show g.k < w.its.length by omega) : (w.its.getD ((g.k : Nat) : Int).toNat default) ∈ w.its)
    refine d_val (i := 0) rfl (by kernel_rfl) (by kernel_rfl) (by kernel_rfl) rfl rfl rfl (y_field0 Try.runUnderlying47 rfl Try.sizeOf45 rfl rfl) ?_
    refine d_val (i := 1) rfl (by kernel_rfl) (by kernel_rfl) (by kernel_rfl) rfl rfl rfl (y_load Try.isAgg45 rfl (cel_own 5 rfl rfl)) ?_
    refine d_val (i := 2) rfl (by kernel_rfl) (by kernel_rfl) (by kernel_rfl) rfl rfl rfl (y_move (v := (.int _ _)) rfl) ?_
    refine d_val (i := 3) rfl (by kernel_rfl) (by kernel_rfl) (by kernel_rfl) rfl rfl rfl (y_field0 Try.runUnderlying136 rfl Try.sizeOf117 rfl rfl) ?_
    refine d_val (i := 4) rfl (by kernel_rfl) (by kernel_rfl) (by kernel_rfl) rfl rfl rfl (y_loads (cs := [_, _]) Try.isAgg117 Try.sizeOf117 rfl rfl rfl (cels_own 7 rfl rfl)) ?_
    refine d_val (i := 5) rfl (by kernel_rfl) (by kernel_rfl) (by kernel_rfl) rfl rfl rfl (y_field0 Try.runUnderlying136 rfl Try.sizeOf33 rfl rfl) ?_
    refine d_val (i := 6) rfl (by kernel_rfl) (by kernel_rfl) (by kernel_rfl) rfl rfl rfl (y_load Try.isAgg33 rfl (cel_own 7 rfl rfl)) ?_
    refine d_eff (k := 7) (n := 1) (m := 8) rfl (by kernel_rfl) rfl ?_
    refine o_fn 0 (d := 32) rfl Try.call152 (CopyC_c (w.its.getD ((g.k : Nat) : Int).toNat default).A (w.its.getD ((g.k : Nat) : Int).toNat default).n (w.its.getD ((g.k : Nat) : Int).toNat default).c (w.its.getD ((g.k : Nat) : Int).toNat default).cs (IOK.sub hii MSub.ext)) rfl ?_
    rintro _ _ ⟨jB, jE, jP, jx, rfl, hjo, hjx, hjd, rfl⟩
    refine o_nil ?_
    refine d_val (i := 8) rfl (by kernel_rfl) (by kernel_rfl) (by kernel_rfl) rfl rfl rfl (y_build (vs := [(0, .agg #[.int _ _, .int _ _]), (1, .slice _ _ _)]) rfl (CopyW_k1 _ _ _ _ _)) ?_
    refine d_val (i := 9) rfl (by kernel_rfl) (by kernel_rfl) (by kernel_rfl) rfl rfl rfl (y_indexAddr Try.runUnderlying45 Try.sizeOf136 (hxo.some_of (by omega)) rfl rfl (by omega)) ?_
    refine d_eff (k := 10) (n := 3) (m := 8) rfl (by kernel_rfl) rfl ?_
    refine o_store_os (vs := [(.int _ _), (.int _ _), (.slice _ _ _)]) 2 rfl hxo Try.sizeOf136 rfl rfl rfl (by simp [Value.oneCell']) (by simp) (by rw [flat_len encIt_len]; simp; omega) (fun E24 ho25 => ?_)
    have ho26 : OS u.iB w.iN w.iN 136 3 ((g.xs.set ((g.k : Nat) : Int).toNat (IR.mk (w.its.getD ((g.k : Nat) : Int).toNat default).e (w.its.getD ((g.k : Nat) : Int).toNat default).g jB (w.its.getD ((g.k : Nat) : Int).toNat default).n (w.its.getD ((g.k : Nat) : Int).toNat default).n jx)).flatMap encIt) E24 := os_set encIt_len ho25 (by omega)
    clear ho25
    refine o_nil ?_
    refine d_nil (n := 3) (m := 8) (by kernel_rfl) rfl ?_
    refine s_forget [(2, (.pointer _)), (3, (.pointer _)), (18, (.slice _ _ _)), (19, (.int _ _)), (20, (.int _ _))] ⟨rfl, rfl, rfl, rfl, rfl, trivial⟩ (fun _f => ?_)
    refine s_region ?_
    refine o_pull 3 ?_
    refine o_pull 1 ?_
    refine o_fuse ?_
    refine o_pull 3 ?_
    refine o_pull 2 ?_
    refine o_fuse ?_
    refine o_val rfl rfl rfl (y_add rfl rfl (by simp only [inK]; omega)) ?_
    refine o_val rfl rfl rfl (y_move (v := (.int _ _)) rfl) ?_
    refine o_nil ?_
    exact ⟨LI3.mk (g.k + 1) (g.xs.set ((g.k : Nat) : Int).toNat (IR.mk (w.its.getD ((g.k : Nat) : Int).toNat default).e (w.its.getD ((g.k : Nat) : Int).toNat default).g jB (w.its.getD ((g.k : Nat) : Int).toNat default).n (w.its.getD ((g.k : Nat) : Int).toNat default).n jx)) E24 (jE ++ g.CE) (jP ++ g.P), (by first | omega | (dsimp only; omega)), ⟨by dsimp only; omega, ho26, hmc.add (k := g.k) (by omega) (by rw [hrest g.k (Nat.le_refl _) (by omega)]; rfl) hjo, all_set (fun x hx y hy => (hxc x hx y hy).sub inG_right) (fun y hy => (hjx y hy).sub inG_left), map_take_set (by omega) (by omega) hxt (by unfold IR.d; dsimp only; rw [hjd]; rfl), fun j hj1 hj2 => by rw [show ((g.k : Nat) : Int).toNat = g.k from rfl, getD_set' (by omega), if_neg (by dsimp only at hj1; omega)]; exact hrest j (by dsimp only at hj1; omega) hj2⟩, ⟨(congrArg (Value.int .i64) (by (try dsimp only); omega)), rfl, rfl, rfl, rfl, trivial⟩, (sub_picks [2, 1, 0, 0, 0, 0, 0, 0] rfl)⟩
  · refine s_exit ?_
    refine s_seq ?_
    refine s_region ?_
    refine o_val rfl rfl rfl (y_loads (cs := [_, _, _]) Try.isAgg47 Try.sizeOf47 rfl rfl rfl (cels_own 6 rfl rfl)) ?_
    refine o_stores (vs := [(.slice _ _ _), (.slice _ _ _), (.slice _ _ _)]) 7 rfl Try.sizeOf47 rfl rfl rfl (by simp [Value.oneCell']) (by simp) ?_
    refine o_nil ?_
    refine s_ret ?_
    have hgn : g.k = w.iN := by omega
    rw [hgn, List.take_of_length_le (by omega), List.take_of_length_le (by omega)] at hxt
    exact ⟨_, [u.kE, u.kP, u.gE, g.E, g.CE, g.P], resv1 rfl (RV.cells (cs := [_, _, _]) rfl Try.isAgg47 Try.sizeOf47 rfl rfl (cels_own 7 rfl rfl)), ⟨⟨u.kB, w.kn, w.kn, u.kx, u.gB, w.gn, u.ge, w.gs, u.iB, w.iN, w.iN, g.xs⟩, _, _, _, _, _, _, rfl, hko, hkx, hgo, hxo, hmc, hxc, hks, rfl, hxt, rfl⟩, sub_picks [3, 3, 3, 0, 0, 0] rfl⟩

end Go.Proofs.Ytacmbiohjiogiaa.K

/- Walks over the package merge: values merged. No condition beyond what each statement names. -/
import Derived.Test.YtacmbiohjiogiaaProg
import Derived.Test.YtacmbiohjiogiaaK17
import Derived.Test.YtacmbiohjiogiaaM1
import Derived.Test.YtacmbiohjiogiaaW1
import Derived.Test.YtacmbiohjiogiaaW2
import Derived.Test.YtacmbiohjiogiaaW3
import Derived.Test.YtacmbiohjiogiaaW4
import Derived.Test.YtacmbiohjiogiaaX1
set_option linter.unusedVariables false
set_option linter.unusedSimpArgs false
set_option maxRecDepth 100000
namespace Go.Proofs.Ytacmbiohjiogiaa.K
open Go.RowKit

/-- A clash. -/
structure KL where
  what : Int
  slot : Int
  kind : Int
  field : Int
instance : Inhabited KL := ⟨⟨0, 0, 0, 0⟩⟩
def encKL (c : KL) : List Value := [.int .i64 c.what, .int .i64 c.slot, .int .i64 c.kind, .int .i64 c.field]
theorem encKL_len (c : KL) : (encKL c).length = 4 := rfl
/-- A value merged: what was changed stays, or this version's. -/
def mOut (o x y : Int) : Int := if x = y ∨ y = o then x else if x = o then y else x
def mBad (o x y : Int) : Prop := ¬ (x = y ∨ y = o) ∧ x ≠ o
instance (o x y : Int) : Decidable (mBad o x y) := by unfold mBad; infer_instance
def mixV (o x y : List Int) (i : Nat) : List Int := (List.range x.length).map fun j => if j < i then mOut (o.getD j 0) (x.getD j 0) (y.getD j 0) else x.getD j 0
/-- Values merged. -/
def valsOut (o x y : List Int) : List Int := mixV o x y x.length
def valsCl (slot kind : Int) (o x y : List Int) (i : Nat) : List KL := ((List.range i).filter fun j => decide (mBad (o.getD j 0) (x.getD j 0) (y.getD j 0))).map fun j => KL.mk 2 slot kind ((j : Nat) : Int)
theorem mix_len {o x y : List Int} {i : Nat} : (mixV o x y i).length = x.length := by simp [mixV]
theorem mix_get {o x y : List Int} {i j : Nat} (hj : j < x.length) : (mixV o x y i).getD j 0 = if j < i then mOut (o.getD j 0) (x.getD j 0) (y.getD j 0) else x.getD j 0 := by
  simp [mixV, List.getD_eq_getElem?_getD, hj]
theorem mix_zero {o x y : List Int} : mixV o x y 0 = x := ext_getD mix_len fun j hj => by
  rw [mix_len] at hj
  rw [mix_get hj, if_neg (by omega)]
theorem mix_keep {o x y : List Int} {i : Nat} (h : mOut (o.getD i 0) (x.getD i 0) (y.getD i 0) = x.getD i 0) : mixV o x y (i + 1) = mixV o x y i := ext_getD (by rw [mix_len, mix_len]) fun j hj => by
  rw [mix_len] at hj
  rw [mix_get hj, mix_get hj]
  by_cases e : j = i
  · subst e; rw [if_pos (by omega), if_neg (by omega), h]
  · by_cases e2 : j < i
    · rw [if_pos (by omega), if_pos e2]
    · rw [if_neg (by omega), if_neg e2]
theorem mix_set {o x y : List Int} {i : Nat} (hi : i < x.length) : mixV o x y (i + 1) = (mixV o x y i).set i (mOut (o.getD i 0) (x.getD i 0) (y.getD i 0)) := ext_getD (by rw [List.length_set, mix_len, mix_len]) fun j hj => by
  rw [mix_len] at hj
  rw [mix_get hj, getD_set' (by rw [mix_len]; exact hi), mix_get hj]
  by_cases e : j = i
  · subst e; rw [if_pos (by omega), if_pos rfl]
  · rw [if_neg e]
    by_cases e2 : j < i
    · rw [if_pos (by omega), if_pos e2]
    · rw [if_neg (by omega), if_neg e2]
theorem cl_no {s k : Int} {o x y : List Int} {i : Nat} (h : ¬ mBad (o.getD i 0) (x.getD i 0) (y.getD i 0)) : valsCl s k o x y (i + 1) = valsCl s k o x y i := by
  unfold valsCl; rw [List.range_succ, List.filter_append]; simp only [List.filter_cons, List.filter_nil, decide_eq_true_eq, if_neg h, List.append_nil]
theorem cl_yes {s k : Int} {o x y : List Int} {i : Nat} (h : mBad (o.getD i 0) (x.getD i 0) (y.getD i 0)) : valsCl s k o x y (i + 1) = valsCl s k o x y i ++ [⟨2, s, k, (i : Nat)⟩] := by
  unfold valsCl; rw [List.range_succ, List.filter_append, List.map_append]; simp only [List.filter_cons, List.filter_nil, decide_eq_true_eq, if_pos h, List.map_cons, List.map_nil]
theorem cl_len {s k : Int} {o x y : List Int} {i : Nat} : (valsCl s k o x y i).length ≤ i := by
  unfold valsCl; rw [List.length_map]; have := List.length_filter_le (fun j => decide (mBad (o.getD j 0) (x.getD j 0) (y.getD j 0))) (List.range i); rw [List.length_range] at this; exact this
structure LX2 where
  i : Nat
  xs : List Int
  oE : Grp
  kl : List KL
  A : Option Addr
  C : Nat
  cE : Grp

theorem ValsM_k0 (v0 : Int) (v1 : Int) (v2 : Int) (v3 : Int) (w : World) : (Instr.build 68 ([(0, (.int .i64 v0)), (1, (.int .i64 v1)), (2, (.int .i64 v2)), (3, (.int .i64 v3))] : List (Nat × Value)).toArray).run Try.prog w = .ok (.agg #[.int .i64 v0, .int .i64 v1, .int .i64 v2, .int .i64 v3]) w := by kernel_rfl
theorem ValsM_k1 (v0x0 : Int) (v0x1 : Int) (v0x2 : Int) (v0x3 : Int) (w : World) : (Instr.buildSlice 50 1 ([(0, (.agg #[(.int .i64 v0x0), (.int .i64 v0x1), (.int .i64 v0x2), (.int .i64 v0x3)]))] : List (Nat × Value)).toArray).run Try.prog w = .ok (.slice (some ⟨w.heap.size, 0, none⟩) 1 1) { w with heap := w.heap.push (.cells ([.int .i64 v0x0, .int .i64 v0x1, .int .i64 v0x2, .int .i64 v0x3] : List Value).toArray 68 (0, 0)) } := by kernel_rfl
theorem ValsM_c {V : Mem} (mb : Nat) (cA : Option Addr) (cc : Nat) (cE : Grp) (kl : List KL) (hcl : OS cA kl.length cc 68 4 ((kl).flatMap encKL) cE) (slot kind : Int) (O : Option Addr) (on oc : Nat) (o : List Int) (ho : Cels V [] O (o.map (.int .i64))) (hol : o.length = on) (A : Option Addr) (n c : Nat) (x : List Int) (hx : Cels V [] A (x.map (.int .i64))) (hxl : x.length = n) (B : Option Addr) (m d : Nat) (y : List Int) (hy : Cels V [] B (y.map (.int .i64))) (hyl : y.length = m) (hon : on = n) (hmn : m = n) (hb : kl.length + n ≤ 1000000) : CallS Try.prog 199 [.pointer (some ⟨mb, 0, none⟩), .int .i64 slot, .int .i64 kind, .slice O on oc, .slice A n c, .slice B m d].toArray V [[(mb, .cells [.slice cA kl.length cc].toArray 184 (0, 0))], cE] (fun r L' => ∃ (vB : Option Addr) (ve : Nat) (vG : Grp) (A' : Option Addr) (C' : Nat) (E' : Grp), r = .slice vB n ve ∧ OS vB n ve 3 1 ((valsOut o x y).map (.int .i64)) vG ∧ OS A' (kl ++ valsCl slot kind o x y n).length C' 68 4 ((kl ++ valsCl slot kind o x y n).flatMap encKL) E' ∧ L' = [[(mb, .cells [.slice A' (kl ++ valsCl slot kind o x y n).length C'].toArray 184 (0, 0))], E', vG]) := by
  refine callS Try.func199 rfl rfl (fun w0 => ?_)
  refine s_seq ?_
  refine s_region ?_
  refine o_val rfl rfl rfl (y_assign (v := (.slice _ _ _)) rfl) ?_
  refine o_nil ?_
  refine s_seq ?_
  refine s_region ?_
  refine o_val rfl rfl rfl (y_move (v := (.slice _ _ _)) rfl) ?_
  refine o_fn 0 (d := 16) rfl Try.call93 (CloneI_c A n c x hx.here.down hxl (by omega)) rfl ?_
  rintro _ _ ⟨vB, ve, vG, rfl, hvo, rfl⟩
  refine o_val rfl rfl rfl (y_assign (v := (.slice _ _ _)) rfl) ?_
  refine o_nil ?_
  refine s_seq ?_
  refine s_seq ?_
  refine s_region ?_
  refine o_val rfl rfl rfl (y_move (v := (.slice _ _ _)) rfl) ?_
  refine o_val rfl rfl rfl (y_len Try.runUnderlying22 rfl) ?_
  refine o_val rfl rfl rfl (y_move (v := (.int _ _)) rfl) ?_
  refine o_nil ?_
  refine s_block ?_
  refine s_loopK (γ := LX2) [(0, (.pointer _)), (1, (.int _ _)), (2, (.int _ _)), (3, (.slice _ _ _)), (4, (.slice _ _ _)), (5, (.slice _ _ _)), (12, (.slice _ _ _)), (13, (.slice _ _ _)), (18, (.int _ _))] [] (fun g => [(19, .int .i64 g.i)]) (fun g => [g.oE, [(mb, .cells [.slice g.A g.kl.length g.C].toArray 184 (0, 0))], g.cE]) (fun g => g.i ≤ n ∧ OS vB n ve 3 1 ((g.xs).map (.int .i64)) g.oE ∧ OS g.A g.kl.length g.C 68 4 ((g.kl).flatMap encKL) g.cE ∧ g.xs = mixV o x y g.i ∧ g.kl = kl ++ valsCl slot kind o x y g.i) (fun g => n - g.i) (LX2.mk 0 x vG kl cA cc cE) ⟨rfl, rfl, rfl, rfl, rfl, rfl, rfl, rfl, rfl, rfl, trivial⟩ (sub_picks [0, 0, 0] rfl) ?_ ?_
  · exact ⟨Nat.zero_le _, hvo, hcl, mix_zero.symm, by simp [valsCl]⟩
  intro g _f hI
  refine s_norm _ (by simp only [pull, picks, setG, List.cons_append, List.nil_append, List.append_nil, List.drop_succ_cons, List.drop_zero]; rfl) ?_
  obtain ⟨hgi, hoo, hko, hgx, hgk⟩ := hI
  have hgl : g.xs.length = n := by rw [hgx, mix_len, hxl]
  have hkl : g.kl.length ≤ kl.length + n := by have := cl_len (s := slot) (k := kind) (o := o) (x := x) (y := y) (i := g.i); rw [hgk, List.length_append]; omega
  refine s_seq ?_
  refine s_region ?_
  refine o_val rfl rfl rfl (y_lss rfl rfl) ?_
  refine o_nil ?_
  refine s_seq ?_
  refine s_if rfl (fun h1 => ?_) (fun h2 => ?_)
  · refine s_skip ?_
    refine s_seq ?_
    refine s_block ?_
    refine s_seq ?_
    refine s_region ?_
    refine o_val rfl rfl rfl (y_move (v := (.int _ _)) rfl) ?_
    refine o_val rfl rfl rfl (y_assign (v := (.int _ _)) rfl) ?_
    refine o_nil ?_
    refine s_block ?_
    refine s_seq ?_
    refine s_quiet (by kernel_rfl) (by kernel_rfl) ?_
    refine q_val rfl rfl rfl (y_move (v := (.slice _ _ _)) rfl) ?_
    refine q_val rfl rfl rfl (y_move (v := (.int _ _)) rfl) ?_
    refine q_val rfl rfl rfl (y_index1 Try.runUnderlying22 Try.sizeOf3 (some_int (i := 0) hx (by omega)) rfl rfl (by omega)) ?_
    refine q_val rfl rfl rfl (y_load Try.isAgg3 rfl (cel_int hx.here (by omega))) ?_
    refine q_val rfl rfl rfl (y_move (v := (.slice _ _ _)) rfl) ?_
    refine q_val rfl rfl rfl (y_move (v := (.int _ _)) rfl) ?_
    refine q_val rfl rfl rfl (y_index1 Try.runUnderlying22 Try.sizeOf3 (some_int (i := 0) hy (by omega)) rfl rfl (by omega)) ?_
    refine q_val rfl rfl rfl (y_load Try.isAgg3 rfl (cel_int hy.here (by omega))) ?_
    refine q_split rfl rfl rfl (y_eql rfl rfl) (fun p3 => ?_) (fun p4 => ?_)
    · have hxy : x.getD g.i 0 = y.getD g.i 0 := p3
      refine q_val rfl rfl rfl (y_move (v := (.bool _)) rfl) ?_
      refine q_guard_no rfl rfl rfl rfl rfl ?_
      refine q_guard_no rfl rfl rfl rfl rfl ?_
      refine q_guard_no rfl rfl rfl rfl rfl ?_
      refine q_guard_no rfl rfl rfl rfl rfl ?_
      refine q_guard_no rfl rfl rfl rfl rfl ?_
      refine q_guard_no rfl rfl rfl rfl rfl ?_
      refine q_guard_no rfl rfl rfl rfl rfl ?_
      refine q_guard_no rfl rfl rfl rfl rfl ?_
      refine q_guard_no rfl rfl rfl rfl rfl ?_
      refine q_val rfl rfl rfl (y_pick_t (v := (.bool _)) rfl rfl) ?_
      refine q_val rfl rfl rfl (y_assign (v := (.bool _)) rfl) ?_
      refine q_nil ?_
      refine s_forget [(0, (.pointer _)), (1, (.int _ _)), (2, (.int _ _)), (3, (.slice _ _ _)), (4, (.slice _ _ _)), (5, (.slice _ _ _)), (12, (.slice _ _ _)), (13, (.slice _ _ _)), (14, (.int _ _)), (18, (.int _ _)), (19, (.int _ _)), (35, (.bool _))] ⟨rfl, rfl, rfl, rfl, rfl, rfl, rfl, rfl, rfl, rfl, rfl, rfl, trivial⟩ (fun _f => ?_)
      refine s_then rfl ?_
      refine s_skip ?_
      refine s_region ?_
      refine o_val rfl rfl rfl (y_add rfl rfl (by simp only [inK]; omega)) ?_
      refine o_val rfl rfl rfl (y_move (v := (.int _ _)) rfl) ?_
      refine o_nil ?_
      exact ⟨LX2.mk (g.i + 1) g.xs g.oE g.kl g.A g.C g.cE, (by first | omega | (dsimp only; omega)), ⟨by dsimp only; omega, hoo, hko, by dsimp only; rw [hgx, mix_keep (if_pos (.inl hxy))], by dsimp only; rw [hgk, cl_no (fun hh => hh.1 (.inl hxy))]⟩, ⟨(congrArg (Value.int .i64) (by (try dsimp only); omega)), rfl, rfl, rfl, rfl, rfl, rfl, rfl, rfl, rfl, trivial⟩, (sub_picks [0, 0, 0] rfl)⟩
    · have hxy : ¬ x.getD g.i 0 = y.getD g.i 0 := p4
      refine q_val rfl rfl rfl (y_move (v := (.bool _)) rfl) ?_
      refine q_guard_yes rfl rfl ?_
      refine q_val rfl rfl rfl (y_move (v := (.slice _ _ _)) rfl) ?_
      refine q_guard_yes rfl rfl ?_
      refine q_val rfl rfl rfl (y_move (v := (.int _ _)) rfl) ?_
      refine q_guard_yes rfl rfl ?_
      refine q_val rfl rfl rfl (y_index1 Try.runUnderlying22 Try.sizeOf3 (some_int (i := 0) hy (by omega)) rfl rfl (by omega)) ?_
      refine q_guard_yes rfl rfl ?_
      refine q_val rfl rfl rfl (y_load Try.isAgg3 rfl (cel_int hy.here (by omega))) ?_
      refine q_guard_yes rfl rfl ?_
      refine q_val rfl rfl rfl (y_move (v := (.slice _ _ _)) rfl) ?_
      refine q_guard_yes rfl rfl ?_
      refine q_val rfl rfl rfl (y_move (v := (.int _ _)) rfl) ?_
      refine q_guard_yes rfl rfl ?_
      refine q_val rfl rfl rfl (y_index1 Try.runUnderlying22 Try.sizeOf3 (some_int (i := 0) ho (by omega)) rfl rfl (by omega)) ?_
      refine q_guard_yes rfl rfl ?_
      refine q_val rfl rfl rfl (y_load Try.isAgg3 rfl (cel_int ho.here (by omega))) ?_
      refine q_guard_yes rfl rfl ?_
      refine q_val rfl rfl rfl (y_eql rfl rfl) ?_
      refine q_val rfl rfl rfl (y_pick_f (v := (.bool _)) rfl rfl) ?_
      refine q_val rfl rfl rfl (y_assign (v := (.bool _)) rfl) ?_
      refine q_nil ?_
      refine s_forget [(0, (.pointer _)), (1, (.int _ _)), (2, (.int _ _)), (3, (.slice _ _ _)), (4, (.slice _ _ _)), (5, (.slice _ _ _)), (12, (.slice _ _ _)), (13, (.slice _ _ _)), (14, (.int _ _)), (18, (.int _ _)), (19, (.int _ _)), (35, (.bool _))] ⟨rfl, rfl, rfl, rfl, rfl, rfl, rfl, rfl, rfl, rfl, rfl, rfl, trivial⟩ (fun _f => ?_)
      refine s_if rfl (fun h5 => ?_) (fun h6 => ?_)
      · have hyo : y.getD g.i 0 = o.getD g.i 0 := h5
        refine s_skip ?_
        refine s_region ?_
        refine o_val rfl rfl rfl (y_add rfl rfl (by simp only [inK]; omega)) ?_
        refine o_val rfl rfl rfl (y_move (v := (.int _ _)) rfl) ?_
        refine o_nil ?_
        exact ⟨LX2.mk (g.i + 1) g.xs g.oE g.kl g.A g.C g.cE, (by first | omega | (dsimp only; omega)), ⟨by dsimp only; omega, hoo, hko, by dsimp only; rw [hgx, mix_keep (if_pos (.inr hyo))], by dsimp only; rw [hgk, cl_no (fun hh => hh.1 (.inr hyo))]⟩, ⟨(congrArg (Value.int .i64) (by (try dsimp only); omega)), rfl, rfl, rfl, rfl, rfl, rfl, rfl, rfl, rfl, trivial⟩, (sub_picks [0, 0, 0] rfl)⟩
      · have hyo : ¬ y.getD g.i 0 = o.getD g.i 0 := h6
        refine s_seq ?_
        refine s_quiet (by kernel_rfl) (by kernel_rfl) ?_
        refine q_val rfl rfl rfl (y_move (v := (.slice _ _ _)) rfl) ?_
        refine q_val rfl rfl rfl (y_move (v := (.int _ _)) rfl) ?_
        refine q_val rfl rfl rfl (y_index1 Try.runUnderlying22 Try.sizeOf3 (some_int (i := 0) hx (by omega)) rfl rfl (by omega)) ?_
        refine q_val rfl rfl rfl (y_load Try.isAgg3 rfl (cel_int hx.here (by omega))) ?_
        refine q_val rfl rfl rfl (y_move (v := (.slice _ _ _)) rfl) ?_
        refine q_val rfl rfl rfl (y_move (v := (.int _ _)) rfl) ?_
        refine q_val rfl rfl rfl (y_index1 Try.runUnderlying22 Try.sizeOf3 (some_int (i := 0) ho (by omega)) rfl rfl (by omega)) ?_
        refine q_val rfl rfl rfl (y_load Try.isAgg3 rfl (cel_int ho.here (by omega))) ?_
        refine q_val rfl rfl rfl (y_eql rfl rfl) ?_
        refine q_val rfl rfl rfl (y_assign (v := (.bool _)) rfl) ?_
        refine q_nil ?_
        refine s_if rfl (fun h7 => ?_) (fun h8 => ?_)
        · have hxo : x.getD g.i 0 = o.getD g.i 0 := h7
          refine s_region ?_
          refine o_val rfl rfl rfl (y_move (v := (.slice _ _ _)) rfl) ?_
          refine o_val rfl rfl rfl (y_move (v := (.int _ _)) rfl) ?_
          refine o_val rfl rfl rfl (y_move (v := (.slice _ _ _)) rfl) ?_
          refine o_val rfl rfl rfl (y_move (v := (.int _ _)) rfl) ?_
          refine o_val rfl rfl rfl (y_index1 Try.runUnderlying22 Try.sizeOf3 (some_int (i := 0) hy (by omega)) rfl rfl (by omega)) ?_
          refine o_val rfl rfl rfl (y_load Try.isAgg3 rfl (cel_int hy.here (by omega))) ?_
          refine o_val rfl rfl rfl (y_index1 Try.runUnderlying22 Try.sizeOf3 (hoo.some_of (by omega)) rfl rfl (by omega)) ?_
          refine o_store_os (vs := [(.int _ _)]) 0 rfl hoo Try.sizeOf3 rfl rfl rfl (by simp [Value.oneCell']) (by simp) (by simp; omega) (fun E9 ho10 => ?_)
          have ho11 := os_lay_int ho10 (by simp; omega)
          clear ho10
          refine o_nil ?_
          refine s_forget [(0, (.pointer _)), (1, (.int _ _)), (2, (.int _ _)), (3, (.slice _ _ _)), (4, (.slice _ _ _)), (5, (.slice _ _ _)), (12, (.slice _ _ _)), (13, (.slice _ _ _)), (18, (.int _ _)), (19, (.int _ _))] ⟨rfl, rfl, rfl, rfl, rfl, rfl, rfl, rfl, rfl, rfl, trivial⟩ (fun _f => ?_)
          refine s_region ?_
          refine o_val rfl rfl rfl (y_add rfl rfl (by simp only [inK]; omega)) ?_
          refine o_val rfl rfl rfl (y_move (v := (.int _ _)) rfl) ?_
          refine o_nil ?_
          have hout : mOut (o.getD g.i 0) (x.getD g.i 0) (y.getD g.i 0) = y.getD g.i 0 := by unfold mOut; rw [if_neg (fun hh => hh.elim hxy hyo), if_pos hxo]
          exact ⟨LX2.mk (g.i + 1) (g.xs.set g.i (y.getD g.i 0)) E9 g.kl g.A g.C g.cE, (by first | omega | (dsimp only; omega)), ⟨by dsimp only; omega, ho11, hko, by dsimp only; rw [hgx, mix_set (by omega), hout], by dsimp only; rw [hgk, cl_no (fun hh => hh.2 hxo)]⟩, ⟨(congrArg (Value.int .i64) (by (try dsimp only); omega)), rfl, rfl, rfl, rfl, rfl, rfl, rfl, rfl, rfl, trivial⟩, (sub_picks [0, 0, 0] rfl)⟩
        · have hxo : ¬ x.getD g.i 0 = o.getD g.i 0 := h8
          refine s_region ?_
          refine o_val rfl rfl rfl (y_move (v := (.pointer _)) rfl) ?_
          refine o_val rfl rfl rfl (y_move (v := (.pointer _)) rfl) ?_
          refine o_val rfl rfl rfl (y_nilCheck rfl) ?_
          refine o_val rfl rfl rfl (y_field0 Try.runUnderlying184 rfl Try.sizeOf50 rfl rfl) ?_
          refine o_val rfl rfl rfl (y_load Try.isAgg50 rfl (cel_own 1 rfl rfl)) ?_
          refine o_val rfl rfl rfl (y_move (v := (.int _ _)) rfl) ?_
          refine o_val rfl rfl rfl (y_move (v := (.int _ _)) rfl) ?_
          refine o_val rfl rfl rfl (y_move (v := (.int _ _)) rfl) ?_
          refine o_val rfl rfl rfl (y_build (vs := [(0, .int _ _), (1, .int _ _), (2, .int _ _), (3, .int _ _)]) rfl (ValsM_k0 _ _ _ _)) ?_
          refine o_lit (vs := [(0, .agg #[.int _ _, .int _ _, .int _ _, .int _ _])]) rfl rfl (ValsM_k1 _ _ _ _) (fun b12 => ?_)
          refine o_append (sz := 4) (bytes := 32) (news := [(.int _ _), (.int _ _), (.int _ _), (.int _ _)]) 2 rfl Try.underlying50 Try.type68 rfl rfl rfl rfl rfl hko rfl rfl (Src.slice Try.underlying50 (cels_own 3 rfl rfl) rfl (by simp [Value.oneCell']) (by simp)) (by omega) (fun A13 c14 E15 ho16 hn17 => ?_)
          have ho18 : OS A13 (g.kl.length + 1) c14 68 4 ((g.kl ++ [KL.mk 2 slot kind ((g.i : Nat) : Int)]).flatMap encKL) E15 := os_snoc ho16 rfl
          clear ho16
          refine o_val rfl rfl rfl (y_nilCheck rfl) ?_
          refine o_val rfl rfl rfl (y_field0 Try.runUnderlying184 rfl Try.sizeOf50 rfl rfl) ?_
          refine o_store (v := (.slice _ _ _)) 1 rfl Try.sizeOf50 rfl rfl rfl rfl ?_
          refine o_nil ?_
          refine s_norm [_, [(_, .cells [(.slice _ _ _)].toArray 184 (0, 0))], _, [(_, .cells [(.int _ _), (.int _ _), (.int _ _), (.int _ _)].toArray 68 (0, 0))]] rfl ?_
          refine s_forget [(0, (.pointer _)), (1, (.int _ _)), (2, (.int _ _)), (3, (.slice _ _ _)), (4, (.slice _ _ _)), (5, (.slice _ _ _)), (12, (.slice _ _ _)), (13, (.slice _ _ _)), (18, (.int _ _)), (19, (.int _ _))] ⟨rfl, rfl, rfl, rfl, rfl, rfl, rfl, rfl, rfl, rfl, trivial⟩ (fun _f => ?_)
          refine s_region ?_
          refine o_val rfl rfl rfl (y_add rfl rfl (by simp only [inK]; omega)) ?_
          refine o_val rfl rfl rfl (y_move (v := (.int _ _)) rfl) ?_
          refine o_nil ?_
          have hbad : mBad (o.getD g.i 0) (x.getD g.i 0) (y.getD g.i 0) := ⟨fun hh => hh.elim hxy hyo, hxo⟩
          exact ⟨LX2.mk (g.i + 1) g.xs g.oE (g.kl ++ [KL.mk 2 slot kind ((g.i : Nat) : Int)]) A13 c14 E15, (by first | omega | (dsimp only; omega)), ⟨by dsimp only; omega, hoo, by dsimp only; rw [List.length_append]; exact ho18, by dsimp only; rw [hgx, mix_keep (by unfold mOut; rw [if_neg hbad.1, if_neg hbad.2])], by dsimp only; rw [hgk, cl_yes hbad, List.append_assoc]⟩, ⟨(congrArg (Value.int .i64) (by (try dsimp only); omega)), rfl, rfl, rfl, rfl, rfl, rfl, rfl, rfl, rfl, trivial⟩, (by dsimp only; rw [List.length_append]; exact sub_picks [0, 0, 0] rfl)⟩
  · refine s_exit ?_
    refine s_seq ?_
    refine s_region ?_
    refine o_val rfl rfl rfl (y_move (v := (.slice _ _ _)) rfl) ?_
    refine o_val rfl rfl rfl (y_assign (v := (.slice _ _ _)) rfl) ?_
    refine o_nil ?_
    refine s_ret ?_
    have hgn : g.i = n := by omega
    rw [hgx, hgn] at hoo
    rw [hgk, hgn] at hko
    exact ⟨_, [[(mb, .cells [.slice g.A (kl ++ valsCl slot kind o x y n).length g.C].toArray 184 (0, 0))], g.cE, g.oE], res1 rfl rfl, ⟨_, _, _, _, _, _, rfl, (by unfold valsOut; rw [hxl]; exact hoo), hko, rfl⟩, (by rw [show kl ++ valsCl slot kind o x y n = g.kl from by rw [hgk, hgn]]; exact sub_picks [1, 1, 0] rfl)⟩

end Go.Proofs.Ytacmbiohjiogiaa.K

/- Walks over the package tourref4: replacements between entities; replacements compared and copied. No condition beyond what each statement names. -/
import Derived.Test.YtacmbiohjiogiaaProg
import Derived.Test.YtacmbiohjiogiaaK14
import Derived.Test.YtacmbiohjiogiaaK19
import Derived.Test.YtacmbiohjiogiaaM1
import Derived.Test.YtacmbiohjiogiaaM2
import Derived.Test.YtacmbiohjiogiaaW1
import Derived.Test.YtacmbiohjiogiaaW2
import Derived.Test.YtacmbiohjiogiaaW3
import Derived.Test.YtacmbiohjiogiaaW4
import Derived.Test.YtacmbiohjiogiaaW5
import Derived.Test.YtacmbiohjiogiaaW6
import Derived.Test.YtacmbiohjiogiaaW7
import Derived.Test.YtacmbiohjiogiaaX1
import Derived.Test.YtacmbiohjiogiaaP1
import Derived.Test.YtacmbiohjiogiaaP2
import Derived.Test.YtacmbiohjiogiaaP3
import Derived.Test.YtacmbiohjiogiaaP4
import Derived.Test.YtacmbiohjiogiaaP5
import Derived.Test.YtacmbiohjiogiaaP6
import Derived.Test.YtacmbiohjiogiaaP7
import Derived.Test.YtacmbiohjiogiaaP8
import Derived.Test.YtacmbiohjiogiaaP9
import Derived.Test.YtacmbiohjiogiaaP10
import Derived.Test.YtacmbiohjiogiaaP11
import Derived.Test.YtacmbiohjiogiaaP12
import Derived.Test.YtacmbiohjiogiaaP14
set_option linter.unusedVariables false
set_option linter.unusedSimpArgs false
set_option maxRecDepth 100000
set_option maxHeartbeats 1000000
namespace Go.Proofs.Ytacmbiohjiogiaa.K
open Go.RowKit

theorem BsOKr.want {ks : List KR} {M V : Mem} {bs : List BR} {gs : List Grp} (h : BsOKr ks M bs gs) (hM : MSub M V) (hG : MSub (inG gs.flatten) V) : ∀ b ∈ bs, wantOK ks V b := fun b hb => by
  obtain ⟨j, hj, rfl⟩ := List.mem_iff_getElem.1 hb
  have h1 := h.2 j hj
  rw [getD_at hj] at h1
  obtain ⟨a1, ⟨b1, b2, b3, b4⟩, ⟨vg, c1, c2, c3⟩, a4⟩ := h1
  refine ⟨a1.sub hM, ⟨b1, b2, by omega, b4.ms hM, fun x hx => ?_⟩, a4⟩
  obtain ⟨i, hi, rfl⟩ := List.mem_iff_getElem.1 hx
  obtain ⟨d1, d2⟩ := c3 i hi
  rw [getD_at hi] at d1 d2
  refine ⟨by simpa using d1.len, d1.2.1, by omega, (d1.mem.ms (inG_list (gs := vg) (i := i) (by omega))).ms (MSub.trans ?_ hG)⟩
  rw [← c1]
  exact inG_list (by have := h.1; omega)
theorem encOv_one (xs : List OvR) : ∀ c ∈ xs.flatMap encOv, c.oneCell' = true := fun c hc => by
  obtain ⟨o, _, h⟩ := List.mem_flatMap.1 hc
  simp only [encOv, List.mem_cons, List.not_mem_nil, or_false] at h
  rcases h with rfl | rfl | rfl | rfl <;> rfl
theorem ov_none {xs : List OvR} (h : xs.flatMap encOv = []) : xs = [] := by
  cases xs with
  | nil => rfl
  | cons a l => simp [encOv] at h
theorem want_len {ks : List KR} {c v : CR} (hk : c.kind = v.kind) (hc : holdsV (ks.getD c.kind.toNat default) c.vs) (hv : holdsV (ks.getD v.kind.toNat default) v.vs) : v.vs.length = c.vs.length ∧ c.vs.length ≤ 8 := by
  have h1 := holds_fits hc
  have h2 := holds_fits hv
  rw [← hk] at h2
  have h3 := (oneErr_zero h1.1).2.1
  have := h1.2.1; have := h2.2.1
  omega

theorem run_eql_ref (a0 b0 : Int) (a1 b1 : Int) (w : World) : (binOp .eql 145 (.agg #[.int .i64 a0, .int .i64 a1]) (.agg #[.int .i64 b0, .int .i64 b1])).run Try.prog w = .ok (.bool (decide (a0 = b0 ∧ a1 = b1))) w := by
  simp [go_sem]
  by_cases h0 : a0 = b0 <;> by_cases h1 : a1 = b1 <;> simp [h0, h1]
theorem y_eql_ref {f : Frm} {V : Mem} {L : List Grp} {d : Option Tmp} {ty : TypeId} {ps : String} {af : Array Edge} {g : Option (Nat × Bool)} {x y : Operand} {yt : TypeId} {a0 b0 : Int} {a1 b1 : Int} (hx : evF f x = .agg #[.int .i64 a0, .int .i64 a1]) (hy : evF f y = .agg #[.int .i64 b0, .int .i64 b1]) :
    Yld Try.prog f V L ⟨d, .binOp .eql 145 x y yt, ty, ps, af, g⟩ (.bool (decide (a0 = b0 ∧ a1 = b1))) := fun _ w _ => by
  simp only [execOp, hx, hy, Sem.run_bind, eqGuard_agg (P := Try.prog) (t := 145) (by kernel_rfl), Result.andThen_ok, run_eql_ref]
  rfl

theorem RRepl_k0 (v0 : Int) (v1 : Int) (w : World) : (Instr.build 145 ([(0, (.int .i64 v0)), (1, (.int .i64 v1))] : List (Nat × Value)).toArray).run Try.prog w = .ok (.agg #[.int .i64 v0, .int .i64 v1]) w := by kernel_rfl
theorem RRepl_k1 (v0A : Option Addr) (v0n : Nat) (v0c : Nat) (v1x0 : Int) (v1x1 : Int) (v2 : Int) (w : World) : (Instr.build 147 ([(0, (.slice v0A v0n v0c)), (1, (.agg #[(.int .i64 v1x0), (.int .i64 v1x1)])), (2, (.int .i64 v2))] : List (Nat × Value)).toArray).run Try.prog w = .ok (.agg #[.slice v0A v0n v0c, .int .i64 v1x0, .int .i64 v1x1, .int .i64 v2]) w := by kernel_rfl
theorem RRepl_k2 (v0x0A : Option Addr) (v0x0n : Nat) (v0x0c : Nat) (v0x1 : Int) (v0x2 : Int) (v0x3 : Int) (w : World) : (Instr.buildSlice 39 1 ([(0, (.agg #[(.slice v0x0A v0x0n v0x0c), (.int .i64 v0x1), (.int .i64 v0x2), (.int .i64 v0x3)]))] : List (Nat × Value)).toArray).run Try.prog w = .ok (.slice (some ⟨w.heap.size, 0, none⟩) 1 1) { w with heap := w.heap.push (.cells ([.slice v0x0A v0x0n v0x0c, .int .i64 v0x1, .int .i64 v0x2, .int .i64 v0x3] : List Value).toArray 147 (0, 0)) } := by kernel_rfl
theorem RRepl_c {V : Mem} (ks : List KR) (hck : ckErr ks = 0) (A : Option Addr) (n c : Nat) (bs : List BR) (hb : Cels V [] A (bs.flatMap encB)) (hbl : bs.length = n) (hb15 : n ≤ 15) (hB : ∀ b ∈ bs, wantOK ks V b) (wA : Option Addr) (wn wc : Nat) (ws : List BR) (hw : Cels V [] wA (ws.flatMap encB)) (hwl : ws.length = wn) (hlen : n = wn) (hW : ∀ b ∈ ws, wantOK ks V b) (hsh : ws.map (fun b => shapeB b.d) = bs.map (fun b => shapeB b.d)) : CallS Try.prog 65 [.slice A n c, .slice wA wn wc].toArray V [] (fun r L' => ∃ (ds : List OvR) (dA : Option Addr) (dC : Nat) (E : Grp), r = .slice dA ds.length dC ∧ OS dA ds.length dC 147 4 ((ds).flatMap encOv) E ∧ (∀ x ∈ ds, OvOK V x ∧ x.n ≤ 1000) ∧ ds.map OvR.d = diffV (bs.map BR.d) (ws.map BR.d) ∧ L' = [E]) := by
  refine callS Try.func65 rfl rfl (fun w0 => ?_)
  refine s_seq ?_
  refine s_region ?_
  refine o_val rfl rfl rfl (y_assign (v := (.slice _ _ _)) rfl) ?_
  refine o_nil ?_
  refine s_seq ?_
  refine s_region ?_
  refine o_val rfl rfl rfl (y_assign (v := (.slice _ _ _)) rfl) ?_
  refine o_nil ?_
  refine s_seq ?_
  refine s_seq ?_
  refine s_region ?_
  refine o_val rfl rfl rfl (y_move (v := (.slice _ _ _)) rfl) ?_
  refine o_val rfl rfl rfl (y_len Try.runUnderlying28 rfl) ?_
  refine o_val rfl rfl rfl (y_move (v := (.int _ _)) rfl) ?_
  refine o_nil ?_
  refine s_block ?_
  have hsa := shape_at hsh
  refine s_group ?_
  refine s_loopK (γ := LD10) [(1, (.slice _ _ _)), (4, (.slice _ _ _)), (12, (.slice _ _ _)), (13, (.int _ _))] [] (fun g => [(5, .slice g.A g.ds.length g.c), (14, .int .i64 g.k)]) (fun g => [g.E]) (fun g => (g.k ≤ n ∧ g.ds.length ≤ 128 * g.k) ∧ OS g.A g.ds.length g.c 147 4 ((g.ds).flatMap encOv) g.E ∧ (∀ x ∈ g.ds, OvOK V x ∧ x.n ≤ 1000) ∧ g.ds.map OvR.d = diffTo (bs.map BR.d) (ws.map BR.d) g.k) (fun g => n - g.k) (LD10.mk 0 [] none 0 [] []) ⟨rfl, rfl, rfl, rfl, rfl, rfl, trivial⟩ (sub_picks [0] rfl) ?_ ?_
  · exact ⟨⟨Nat.zero_le _, Nat.zero_le _⟩, OS.nil _ _, fun x hx => absurd hx List.not_mem_nil, rfl⟩
  intro g _f hI
  refine s_norm _ (by simp only [pull, picks, setG, List.cons_append, List.nil_append, List.append_nil, List.drop_succ_cons, List.drop_zero]; rfl) ?_
  obtain ⟨⟨hgk, hgl⟩, hdo, hdx, hdd⟩ := hI
  refine s_seq ?_
  refine s_region ?_
  refine o_val rfl rfl rfl (y_lss rfl rfl) ?_
  refine o_nil ?_
  refine s_seq ?_
  refine s_if rfl (fun h1 => ?_) (fun h2 => ?_)
  · refine s_skip ?_
    refine s_seq ?_
    refine s_block ?_
    refine s_seq ?_
    refine s_region ?_
    refine o_val rfl rfl rfl (y_move (v := (.int _ _)) rfl) ?_
    refine o_val rfl rfl rfl (y_indexAddr Try.runUnderlying28 Try.sizeOf35 (some_at (sz := 1) encB_len (i := 0) hb (by omega)) rfl rfl (by omega)) ?_
    refine o_val rfl rfl rfl (y_loads (cs := [_, _]) Try.isAgg35 Try.sizeOf35 rfl (by unfold idx; rw [Option.isSome_map]; exact some_at (sz := 1) encB_len (i := 0) hb (by omega)) rfl (cels_at (sz := 2) encB_len hb.here (by omega))) ?_
    refine o_alloc rfl Try.zeroValue35 rfl (fun b3 => ?_)
    refine o_val rfl rfl rfl (y_assign (v := (.int _ _)) rfl) ?_
    refine o_stores (vs := [(.slice _ _ _), (.slice _ _ _)]) 1 rfl Try.sizeOf35 rfl rfl rfl (by simp [Value.oneCell']) (by simp) ?_
    refine o_nil ?_
    refine s_seq ?_
    refine s_region ?_
    have hbj := hB _ (getD_mem' (show g.k < bs.length by omega) : (bs.getD ((g.k : Nat) : Int).toNat default) ∈ bs)
    have hwj := hW _ (getD_mem' (show g.k < ws.length by omega) : (ws.getD ((g.k : Nat) : Int).toNat default) ∈ ws)
    have hs2 : (bs.getD ((g.k : Nat) : Int).toNat default).cs.map CR.kind = (ws.getD ((g.k : Nat) : Int).toNat default).cs.map CR.kind := (hsa g.k).2
    have hs3 : (bs.getD ((g.k : Nat) : Int).toNat default).cs.length = (ws.getD ((g.k : Nat) : Int).toNat default).cs.length := by have := congrArg List.length hs2; rwa [List.length_map, List.length_map] at this
    have hwn := hwj.2.1.1
    have hbn2 := hbj.2.1.1
    have hb16 := held_len hck hbj.2.2
    refine o_val rfl rfl rfl (y_field0 Try.runUnderlying35 rfl Try.sizeOf33 rfl rfl) ?_
    refine o_val rfl rfl rfl (y_load Try.isAgg33 rfl (cel_own 1 rfl rfl)) ?_
    refine o_val rfl rfl rfl (y_len Try.runUnderlying33 rfl) ?_
    refine o_val rfl rfl rfl (y_move (v := (.int _ _)) rfl) ?_
    refine o_nil ?_
    refine s_block ?_
    refine s_loopK (γ := LD10) [(1, (.slice _ _ _)), (4, (.slice _ _ _)), (6, (.int _ _)), (7, (.pointer _)), (12, (.slice _ _ _)), (13, (.int _ _)), (14, (.int _ _)), (20, (.slice _ _ _)), (21, (.int _ _))] [_] (fun u => [(5, .slice u.A u.ds.length u.c), (22, .int .i64 u.k)]) (fun u => [u.E]) (fun u => (u.k ≤ (bs.getD ((g.k : Nat) : Int).toNat default).cn ∧ u.ds.length ≤ 128 * g.k + 8 * u.k) ∧ OS u.A u.ds.length u.c 147 4 ((u.ds).flatMap encOv) u.E ∧ (∀ x ∈ u.ds, OvOK V x ∧ x.n ≤ 1000) ∧ u.ds.map OvR.d = diffTo (bs.map BR.d) (ws.map BR.d) g.k ++ diffB (bs.getD ((g.k : Nat) : Int).toNat default).ps ((bs.getD ((g.k : Nat) : Int).toNat default).cs.map CR.d) ((ws.getD ((g.k : Nat) : Int).toNat default).cs.map CR.d) u.k) (fun u => (bs.getD ((g.k : Nat) : Int).toNat default).cn - u.k) (LD10.mk 0 g.ds g.A g.c g.E []) ⟨rfl, rfl, rfl, rfl, rfl, rfl, rfl, rfl, rfl, rfl, rfl, trivial⟩ (sub_picks [0, 0] rfl) ?_ ?_
    · exact ⟨⟨Nat.zero_le _, by dsimp only; omega⟩, hdo, hdx, by dsimp only [diffB]; rw [List.append_nil]; exact hdd⟩
    intro u _f hJ
    refine s_norm _ (by simp only [pull, picks, setG, List.cons_append, List.nil_append, List.append_nil, List.drop_succ_cons, List.drop_zero]; rfl) ?_
    obtain ⟨⟨huk, hul⟩, huo, hux, hud⟩ := hJ
    refine s_seq ?_
    refine s_region ?_
    refine o_val rfl rfl rfl (y_lss rfl rfl) ?_
    refine o_nil ?_
    refine s_seq ?_
    refine s_if rfl (fun h4 => ?_) (fun h5 => ?_)
    · refine s_skip ?_
      refine s_seq ?_
      refine s_block ?_
      refine s_seq ?_
      refine s_region ?_
      refine o_val rfl rfl rfl (y_move (v := (.int _ _)) rfl) ?_
      refine o_val rfl rfl rfl (y_indexAddr Try.runUnderlying33 Try.sizeOf155 (some_at (sz := 1) encC_len (i := 0) hbj.2.1.2.2.2.1 (by omega)) rfl rfl (by omega)) ?_
      refine o_val rfl rfl rfl (y_loads (cs := [_, _]) Try.isAgg155 Try.sizeOf155 rfl (by unfold idx; rw [Option.isSome_map]; exact some_at (sz := 1) encC_len (i := 0) hbj.2.1.2.2.2.1 (by omega)) rfl (cels_at (sz := 2) encC_len hbj.2.1.2.2.2.1.here (by omega))) ?_
      refine o_alloc rfl Try.zeroValue155 rfl (fun b6 => ?_)
      refine o_val rfl rfl rfl (y_assign (v := (.int _ _)) rfl) ?_
      refine o_stores (vs := [(.int _ _), (.slice _ _ _)]) 2 rfl Try.sizeOf155 rfl rfl rfl (by simp [Value.oneCell']) (by simp) ?_
      refine o_nil ?_
      refine s_norm [_, [(_, .cells [(.slice _ _ _), (.slice _ _ _)].toArray 35 (0, 0))], [(_, .cells [(.int _ _), (.slice _ _ _)].toArray 155 (0, 0))]] rfl ?_
      refine s_seq ?_
      refine s_region ?_
      have hcc := hbj.2.1.2.2.2.2 _ (getD_mem' (show u.k < (bs.getD ((g.k : Nat) : Int).toNat default).cs.length by omega) : ((bs.getD ((g.k : Nat) : Int).toNat default).cs.getD ((u.k : Nat) : Int).toNat default) ∈ (bs.getD ((g.k : Nat) : Int).toNat default).cs)
      have hvv := hwj.2.1.2.2.2.2 _ (getD_mem' (show u.k < (ws.getD ((g.k : Nat) : Int).toNat default).cs.length by omega) : ((ws.getD ((g.k : Nat) : Int).toNat default).cs.getD ((u.k : Nat) : Int).toNat default) ∈ (ws.getD ((g.k : Nat) : Int).toNat default).cs)
      have hkk : ((bs.getD ((g.k : Nat) : Int).toNat default).cs.getD ((u.k : Nat) : Int).toNat default).kind = ((ws.getD ((g.k : Nat) : Int).toNat default).cs.getD ((u.k : Nat) : Int).toNat default).kind := kind_at hs2 u.k
      have hwl := want_len hkk (hbj.2.2 u.k (by omega)).2.2 (hwj.2.2 u.k (by omega)).2.2
      have hwl1 : ((ws.getD ((g.k : Nat) : Int).toNat default).cs.getD ((u.k : Nat) : Int).toNat default).vs.length = ((bs.getD ((g.k : Nat) : Int).toNat default).cs.getD ((u.k : Nat) : Int).toNat default).vs.length ∧ ((bs.getD ((g.k : Nat) : Int).toNat default).cs.getD ((u.k : Nat) : Int).toNat default).vs.length ≤ 8 := hwl
      have hcn := hcc.1
      have hvn := hvv.1
      refine o_val rfl rfl rfl (y_field0 Try.runUnderlying155 rfl Try.sizeOf22 rfl rfl) ?_
      refine o_val rfl rfl rfl (y_load Try.isAgg22 rfl (cel_own 2 rfl rfl)) ?_
      refine o_val rfl rfl rfl (y_len Try.runUnderlying22 rfl) ?_
      refine o_val rfl rfl rfl (y_move (v := (.int _ _)) rfl) ?_
      refine o_nil ?_
      refine s_block ?_
      refine s_loopK (γ := LD10) [(1, (.slice _ _ _)), (4, (.slice _ _ _)), (6, (.int _ _)), (7, (.pointer _)), (8, (.int _ _)), (9, (.pointer _)), (12, (.slice _ _ _)), (13, (.int _ _)), (14, (.int _ _)), (20, (.slice _ _ _)), (21, (.int _ _)), (22, (.int _ _)), (29, (.int _ _))] [_, _] (fun q => [(5, .slice q.A q.ds.length q.c), (30, .int .i64 q.k)]) (fun q => [q.E]) (fun q => (q.k ≤ ((bs.getD ((g.k : Nat) : Int).toNat default).cs.getD ((u.k : Nat) : Int).toNat default).n ∧ q.ds.length ≤ 128 * g.k + 8 * u.k + q.k) ∧ OS q.A q.ds.length q.c 147 4 ((q.ds).flatMap encOv) q.E ∧ (∀ x ∈ q.ds, OvOK V x ∧ x.n ≤ 1000) ∧ q.ds.map OvR.d = (diffTo (bs.map BR.d) (ws.map BR.d) g.k ++ diffB (bs.getD ((g.k : Nat) : Int).toNat default).ps ((bs.getD ((g.k : Nat) : Int).toNat default).cs.map CR.d) ((ws.getD ((g.k : Nat) : Int).toNat default).cs.map CR.d) u.k) ++ diffC (bs.getD ((g.k : Nat) : Int).toNat default).ps ((bs.getD ((g.k : Nat) : Int).toNat default).cs.getD ((u.k : Nat) : Int).toNat default).kind ((bs.getD ((g.k : Nat) : Int).toNat default).cs.getD ((u.k : Nat) : Int).toNat default).vs ((ws.getD ((g.k : Nat) : Int).toNat default).cs.getD ((u.k : Nat) : Int).toNat default).vs q.k) (fun q => ((bs.getD ((g.k : Nat) : Int).toNat default).cs.getD ((u.k : Nat) : Int).toNat default).n - q.k) (LD10.mk 0 u.ds u.A u.c u.E []) ⟨rfl, rfl, rfl, rfl, rfl, rfl, rfl, rfl, rfl, rfl, rfl, rfl, rfl, rfl, rfl, trivial⟩ (sub_picks [0, 0, 0] rfl) ?_ ?_
      · exact ⟨⟨Nat.zero_le _, by dsimp only; omega⟩, huo, hux, by dsimp only [diffC]; rw [List.append_nil]; exact hud⟩
      intro q _f hQ
      refine s_norm _ (by simp only [pull, picks, setG, List.cons_append, List.nil_append, List.append_nil, List.drop_succ_cons, List.drop_zero]; rfl) ?_
      obtain ⟨⟨hqk, hql⟩, hqo, hqx, hqd⟩ := hQ
      refine s_seq ?_
      refine s_region ?_
      refine o_val rfl rfl rfl (y_lss rfl rfl) ?_
      refine o_nil ?_
      refine s_seq ?_
      refine s_if rfl (fun h7 => ?_) (fun h8 => ?_)
      · refine s_skip ?_
        refine s_seq ?_
        refine s_block ?_
        refine s_seq ?_
        refine s_region ?_
        refine o_val rfl rfl rfl (y_move (v := (.int _ _)) rfl) ?_
        refine o_val rfl rfl rfl (y_assign (v := (.int _ _)) rfl) ?_
        refine o_nil ?_
        refine s_seq ?_
        refine s_region ?_
        refine o_val rfl rfl rfl (y_move (v := (.slice _ _ _)) rfl) ?_
        refine o_val rfl rfl rfl (y_move (v := (.int _ _)) rfl) ?_
        refine o_val rfl rfl rfl (y_indexAddr Try.runUnderlying28 Try.sizeOf35 (some_at (sz := 1) encB_len (i := 0) hw (by omega)) rfl rfl (by omega)) ?_
        refine o_val rfl rfl rfl (y_fieldX (F := 1) Try.runUnderlying35 rfl Try.sizeOf33 rfl (some_at (sz := 1) encB_len (i := 0) hw (by omega)) rfl) ?_
        refine o_val rfl rfl rfl (y_load Try.isAgg33 rfl ((cels_at (sz := 2) encB_len hw.here (by omega)).cel' (i := 1) rfl)) ?_
        refine o_val rfl rfl rfl (y_move (v := (.int _ _)) rfl) ?_
        refine o_val rfl rfl rfl (y_indexAddr Try.runUnderlying33 Try.sizeOf155 (some_at (sz := 1) encC_len (i := 0) hwj.2.1.2.2.2.1 (by omega)) rfl rfl (by omega)) ?_
        refine o_val rfl rfl rfl (y_fieldX (F := 1) Try.runUnderlying155 rfl Try.sizeOf22 rfl (some_at (sz := 1) encC_len (i := 0) hwj.2.1.2.2.2.1 (by omega)) rfl) ?_
        refine o_val rfl rfl rfl (y_load Try.isAgg22 rfl ((cels_at (sz := 2) encC_len hwj.2.1.2.2.2.1.here (by omega)).cel' (i := 1) rfl)) ?_
        refine o_val rfl rfl rfl (y_move (v := (.int _ _)) rfl) ?_
        refine o_val rfl rfl rfl (y_index1 Try.runUnderlying22 Try.sizeOf3 (some_int (i := 0) hvv.2.2.2 (by omega)) rfl rfl (by omega)) ?_
        refine o_val rfl rfl rfl (y_load Try.isAgg3 rfl (cel_int hvv.2.2.2.here (by omega))) ?_
        refine o_val rfl rfl rfl (y_assign (v := (.int _ _)) rfl) ?_
        refine o_nil ?_
        refine s_forget [(1, (.slice _ _ _)), (4, (.slice _ _ _)), (5, (.slice _ _ _)), (6, (.int _ _)), (7, (.pointer _)), (8, (.int _ _)), (9, (.pointer _)), (10, (.int _ _)), (11, (.int _ _)), (12, (.slice _ _ _)), (13, (.int _ _)), (14, (.int _ _)), (20, (.slice _ _ _)), (21, (.int _ _)), (22, (.int _ _)), (29, (.int _ _)), (30, (.int _ _))] ⟨rfl, rfl, rfl, rfl, rfl, rfl, rfl, rfl, rfl, rfl, rfl, rfl, rfl, rfl, rfl, rfl, rfl, trivial⟩ (fun _f => ?_)
        refine s_seq ?_
        refine s_region ?_
        refine o_val rfl rfl rfl (y_move (v := (.int _ _)) rfl) ?_
        refine o_val rfl rfl rfl (y_field0 Try.runUnderlying155 rfl Try.sizeOf22 rfl rfl) ?_
        refine o_val rfl rfl rfl (y_load Try.isAgg22 rfl (cel_own 2 rfl rfl)) ?_
        refine o_val rfl rfl rfl (y_move (v := (.int _ _)) rfl) ?_
        refine o_val rfl rfl rfl (y_index1 Try.runUnderlying22 Try.sizeOf3 (some_int (i := 0) hcc.2.2.2 (by omega)) rfl rfl (by omega)) ?_
        refine o_val rfl rfl rfl (y_load Try.isAgg3 rfl (cel_int hcc.2.2.2.here (by omega))) ?_
        refine o_val rfl rfl rfl (y_neq rfl rfl) ?_
        refine o_nil ?_
        refine s_if rfl (fun h9 => ?_) (fun h10 => ?_)
        · have hne : ((ws.getD ((g.k : Nat) : Int).toNat default).cs.getD ((u.k : Nat) : Int).toNat default).vs.getD q.k 0 ≠ ((bs.getD ((g.k : Nat) : Int).toNat default).cs.getD ((u.k : Nat) : Int).toNat default).vs.getD q.k 0 := h9
          refine s_region ?_
          refine o_val rfl rfl rfl (y_move (v := (.slice _ _ _)) rfl) ?_
          refine o_val rfl rfl rfl (y_field0 Try.runUnderlying35 rfl Try.sizeOf22 rfl rfl) ?_
          refine o_val rfl rfl rfl (y_load Try.isAgg22 rfl (cel_own 1 rfl rfl)) ?_
          refine o_val rfl rfl rfl (y_field0 Try.runUnderlying155 rfl Try.sizeOf3 rfl rfl) ?_
          refine o_val rfl rfl rfl (y_load Try.isAgg3 rfl (cel_own 2 rfl rfl)) ?_
          refine o_val rfl rfl rfl (y_move (v := (.int _ _)) rfl) ?_
          refine o_val rfl rfl rfl (y_build (vs := [(0, .int _ _), (1, .int _ _)]) rfl (RRepl_k0 _ _)) ?_
          refine o_val rfl rfl rfl (y_move (v := (.int _ _)) rfl) ?_
          refine o_val rfl rfl rfl (y_build (vs := [(0, .slice _ _ _), (1, .agg #[.int _ _, .int _ _]), (2, .int _ _)]) rfl (RRepl_k1 _ _ _ _ _ _)) ?_
          refine o_lit (vs := [(0, .agg #[.slice _ _ _, .int _ _, .int _ _, .int _ _])]) rfl rfl (RRepl_k2 _ _ _ _ _ _) (fun b11 => ?_)
          refine o_append (sz := 4) (bytes := 48) (news := [(.slice _ _ _), (.int _ _), (.int _ _), (.int _ _)]) 0 rfl Try.underlying39 Try.type147 rfl rfl rfl rfl rfl hqo rfl rfl (Src.slice Try.underlying39 (cels_own 3 rfl rfl) rfl (by simp [Value.oneCell']) (by simp)) (by omega) (fun A12 c13 E14 ho15 hn16 => ?_)
          have ho17 : OS A12 (q.ds.length + 1) c13 147 4 ((q.ds ++ [(OvR.mk (bs.getD ((g.k : Nat) : Int).toNat default).pA (bs.getD ((g.k : Nat) : Int).toNat default).pn (bs.getD ((g.k : Nat) : Int).toNat default).pc (bs.getD ((g.k : Nat) : Int).toNat default).ps ((bs.getD ((g.k : Nat) : Int).toNat default).cs.getD ((u.k : Nat) : Int).toNat default).kind ((q.k : Nat) : Int) (((ws.getD ((g.k : Nat) : Int).toNat default).cs.getD ((u.k : Nat) : Int).toNat default).vs.getD ((q.k : Nat) : Int).toNat 0))]).flatMap encOv) E14 := os_snoc ho15 rfl
          clear ho15
          refine o_val rfl rfl rfl (y_assign (v := (.slice _ _ _)) rfl) ?_
          refine o_nil ?_
          refine s_norm [_, [(_, .cells [(.slice _ _ _), (.slice _ _ _)].toArray 35 (0, 0))], [(_, .cells [(.int _ _), (.slice _ _ _)].toArray 155 (0, 0))], [(_, .cells [(.slice _ _ _), (.int _ _), (.int _ _), (.int _ _)].toArray 147 (0, 0))]] rfl ?_
          refine s_forget [(1, (.slice _ _ _)), (4, (.slice _ _ _)), (5, (.slice _ _ _)), (6, (.int _ _)), (7, (.pointer _)), (8, (.int _ _)), (9, (.pointer _)), (12, (.slice _ _ _)), (13, (.int _ _)), (14, (.int _ _)), (20, (.slice _ _ _)), (21, (.int _ _)), (22, (.int _ _)), (29, (.int _ _)), (30, (.int _ _))] ⟨rfl, rfl, rfl, rfl, rfl, rfl, rfl, rfl, rfl, rfl, rfl, rfl, rfl, rfl, rfl, trivial⟩ (fun _f => ?_)
          refine s_region ?_
          refine o_val rfl rfl rfl (y_add rfl rfl (by simp only [inK]; omega)) ?_
          refine o_val rfl rfl rfl (y_move (v := (.int _ _)) rfl) ?_
          refine o_nil ?_
          exact ⟨LD10.mk (q.k + 1) (q.ds ++ [(OvR.mk (bs.getD ((g.k : Nat) : Int).toNat default).pA (bs.getD ((g.k : Nat) : Int).toNat default).pn (bs.getD ((g.k : Nat) : Int).toNat default).pc (bs.getD ((g.k : Nat) : Int).toNat default).ps ((bs.getD ((g.k : Nat) : Int).toNat default).cs.getD ((u.k : Nat) : Int).toNat default).kind ((q.k : Nat) : Int) (((ws.getD ((g.k : Nat) : Int).toNat default).cs.getD ((u.k : Nat) : Int).toNat default).vs.getD ((q.k : Nat) : Int).toNat 0))]) A12 c13 E14 [], (by first | omega | (dsimp only; omega)), ⟨⟨by dsimp only; omega, by simp only [List.length_append, List.length_singleton]; omega⟩, by dsimp only; rw [List.length_append]; exact ho17, all_snoc hqx ⟨⟨hbj.1.1, hbj.1.2.1, by have := hbj.1.2.2.1; dsimp only; omega, hbj.1.2.2.2⟩, hbj.1.2.2.1⟩, by dsimp only [diffC]; rw [if_pos hne, List.map_append, hqd, ← List.append_assoc]; rfl⟩, ⟨(by dsimp only; rw [List.length_append]; rfl), (congrArg (Value.int .i64) (by (try dsimp only); omega)), rfl, rfl, rfl, rfl, rfl, rfl, rfl, rfl, rfl, rfl, rfl, rfl, rfl, trivial⟩, (sub_picks [0, 0, 0] rfl)⟩
        · have heq : ((ws.getD ((g.k : Nat) : Int).toNat default).cs.getD ((u.k : Nat) : Int).toNat default).vs.getD q.k 0 = ((bs.getD ((g.k : Nat) : Int).toNat default).cs.getD ((u.k : Nat) : Int).toNat default).vs.getD q.k 0 := Decidable.not_not.1 h10
          refine s_skip ?_
          refine s_region ?_
          refine o_val rfl rfl rfl (y_add rfl rfl (by simp only [inK]; omega)) ?_
          refine o_val rfl rfl rfl (y_move (v := (.int _ _)) rfl) ?_
          refine o_nil ?_
          exact ⟨LD10.mk (q.k + 1) q.ds q.A q.c q.E [], (by first | omega | (dsimp only; omega)), ⟨⟨by dsimp only; omega, by dsimp only; omega⟩, hqo, hqx, by dsimp only [diffC]; rw [if_neg (fun hh => hh heq), List.append_nil]; exact hqd⟩, ⟨rfl, (congrArg (Value.int .i64) (by (try dsimp only); omega)), rfl, rfl, rfl, rfl, rfl, rfl, rfl, rfl, rfl, rfl, rfl, rfl, rfl, trivial⟩, (sub_picks [0, 0, 0] rfl)⟩
      · refine s_exit ?_
        refine s_region ?_
        refine o_val rfl rfl rfl (y_add rfl rfl (by simp only [inK]; omega)) ?_
        refine o_val rfl rfl rfl (y_move (v := (.int _ _)) rfl) ?_
        refine o_nil ?_
        exact ⟨LD10.mk (u.k + 1) q.ds q.A q.c q.E [], (by first | omega | (dsimp only; omega)), ⟨⟨by dsimp only; omega, by dsimp only; omega⟩, hqo, hqx, by have hqk2 : q.k = ((ws.getD ((g.k : Nat) : Int).toNat default).cs.getD ((u.k : Nat) : Int).toNat default).vs.length := (by omega); rw [hqk2] at hqd; dsimp only [diffB]; rw [hqd, cget, cget, List.append_assoc]; rfl⟩, ⟨rfl, (congrArg (Value.int .i64) (by (try dsimp only); omega)), rfl, rfl, rfl, rfl, rfl, rfl, rfl, rfl, rfl, trivial⟩, (sub_picks [0, 0] rfl)⟩
    · refine s_exit ?_
      refine s_region ?_
      refine o_val rfl rfl rfl (y_add rfl rfl (by simp only [inK]; omega)) ?_
      refine o_val rfl rfl rfl (y_move (v := (.int _ _)) rfl) ?_
      refine o_nil ?_
      exact ⟨LD10.mk (g.k + 1) u.ds u.A u.c u.E [], (by first | omega | (dsimp only; omega)), ⟨⟨by dsimp only; omega, by dsimp only; omega⟩, huo, hux, by have huk2 : u.k = (bs.getD ((g.k : Nat) : Int).toNat default).cs.length := (by omega); rw [huk2] at hud; dsimp only [diffTo]; rw [hud, bget, bget]; simp only [BR.d, List.length_map]; rfl⟩, ⟨rfl, (congrArg (Value.int .i64) (by (try dsimp only); omega)), rfl, rfl, rfl, rfl, trivial⟩, (sub_picks [0] rfl)⟩
  · refine s_exit ?_
    refine s_seq ?_
    refine s_region ?_
    refine o_val rfl rfl rfl (y_move (v := (.slice _ _ _)) rfl) ?_
    refine o_val rfl rfl rfl (y_assign (v := (.slice _ _ _)) rfl) ?_
    refine o_nil ?_
    refine s_ret ?_
    have hgb : g.k = (bs.map BR.d).length := by rw [List.length_map]; omega
    rw [hgb] at hdd
    exact ⟨_, [_], res1 rfl rfl, ⟨g.ds, _, _, _, rfl, hdo, hdx, hdd, rfl⟩, sub_picks [0] rfl⟩

theorem SameOv_c {V : Mem} (x y : OvR) (hx : OvOK V x) (hy : OvOK V y) : CallS Try.prog 71 [.agg #[.slice x.A x.n x.c, .int .i64 x.kind, .int .i64 x.field, .int .i64 x.val], .agg #[.slice y.A y.n y.c, .int .i64 y.kind, .int .i64 y.field, .int .i64 y.val]].toArray V [] (fun r L' => r = .bool (decide (x.d = y.d)) ∧ L' = []) := by
  refine callS Try.func71 rfl rfl (fun w0 => ?_)
  refine s_seq ?_
  refine s_region ?_
  refine o_box (v := (.agg #[(.slice _ _ _), (.int _ _), (.int _ _), (.int _ _)])) rfl rfl rfl (fun b1 => ?_)
  refine o_box (v := (.agg #[(.slice _ _ _), (.int _ _), (.int _ _), (.int _ _)])) rfl rfl rfl (fun b2 => ?_)
  refine o_val rfl rfl rfl (y_assign (v := (.bool _)) rfl) ?_
  refine o_nil ?_
  refine s_seq ?_
  refine s_region ?_
  refine o_val rfl rfl rfl (y_field0 Try.runUnderlying147 rfl Try.sizeOf22 rfl rfl) ?_
  refine o_val rfl rfl rfl (y_load Try.isAgg22 rfl (cel_own 0 rfl rfl)) ?_
  refine o_val rfl rfl rfl (y_field0 Try.runUnderlying147 rfl Try.sizeOf22 rfl rfl) ?_
  refine o_val rfl rfl rfl (y_load Try.isAgg22 rfl (cel_own 1 rfl rfl)) ?_
  refine o_fn 0 (d := 9) rfl Try.call21 (EqualI_c x.A x.n x.c x.ps hx.2.2.2.here.down hx.1 y.A y.n y.c y.ps hy.2.2.2.here.down hy.1 (by have := hx.2.2.1; omega)) rfl ?_
  rintro _ _ ⟨rfl, rfl⟩
  refine o_split rfl rfl rfl (y_move (v := (.bool _)) rfl) (fun p3 => ?_) (fun p4 => ?_)
  · have h1 : x.ps = y.ps := p3
    refine o_guard_yes rfl rfl ?_
    refine o_val rfl rfl rfl (y_field0 Try.runUnderlying147 rfl Try.sizeOf145 rfl rfl) ?_
    refine o_guard_yes rfl rfl ?_
    refine o_val rfl rfl rfl (y_loads (cs := [_, _]) Try.isAgg145 Try.sizeOf145 rfl rfl rfl (cels_own 0 rfl rfl)) ?_
    refine o_guard_yes rfl rfl ?_
    refine o_val rfl rfl rfl (y_field0 Try.runUnderlying147 rfl Try.sizeOf145 rfl rfl) ?_
    refine o_guard_yes rfl rfl ?_
    refine o_val rfl rfl rfl (y_loads (cs := [_, _]) Try.isAgg145 Try.sizeOf145 rfl rfl rfl (cels_own 1 rfl rfl)) ?_
    refine o_guard_yes rfl rfl ?_
    refine o_split rfl rfl rfl (y_eql_ref rfl rfl) (fun p5 => ?_) (fun p6 => ?_)
    · have h2 : x.kind = y.kind ∧ x.field = y.field := p5
      refine o_val rfl rfl rfl (y_pick_t (v := (.bool _)) rfl rfl) ?_
      refine o_val rfl rfl rfl (y_move (v := (.bool _)) rfl) ?_
      refine o_guard_yes rfl rfl ?_
      refine o_val rfl rfl rfl (y_field0 Try.runUnderlying147 rfl Try.sizeOf3 rfl rfl) ?_
      refine o_guard_yes rfl rfl ?_
      refine o_val rfl rfl rfl (y_load Try.isAgg3 rfl (cel_own 0 rfl rfl)) ?_
      refine o_guard_yes rfl rfl ?_
      refine o_val rfl rfl rfl (y_field0 Try.runUnderlying147 rfl Try.sizeOf3 rfl rfl) ?_
      refine o_guard_yes rfl rfl ?_
      refine o_val rfl rfl rfl (y_load Try.isAgg3 rfl (cel_own 1 rfl rfl)) ?_
      refine o_guard_yes rfl rfl ?_
      refine o_val rfl rfl rfl (y_eql rfl rfl) ?_
      refine o_val rfl rfl rfl (y_pick_t (v := (.bool _)) rfl rfl) ?_
      refine o_val rfl rfl rfl (y_assign (v := (.bool _)) rfl) ?_
      refine o_nil ?_
      refine s_forget [(4, (.bool _))] ⟨rfl, trivial⟩ (fun _f => ?_)
      refine s_ret ?_
      exact ⟨_, [], res1 rfl rfl, ⟨congrArg Value.bool (decide_eq_decide.2 ⟨fun hh => Prod.ext h1 (Prod.ext h2.1 (Prod.ext h2.2 hh)), fun hh => congrArg (fun z => z.2.2.2) hh⟩), rfl⟩, sub_picks [] rfl⟩
    · have h2 : ¬ (x.kind = y.kind ∧ x.field = y.field) := p6
      refine o_val rfl rfl rfl (y_pick_t (v := (.bool _)) rfl rfl) ?_
      refine o_val rfl rfl rfl (y_move (v := (.bool _)) rfl) ?_
      refine o_guard_no rfl rfl rfl rfl rfl ?_
      refine o_guard_no rfl rfl rfl rfl rfl ?_
      refine o_guard_no rfl rfl rfl rfl rfl ?_
      refine o_guard_no rfl rfl rfl rfl rfl ?_
      refine o_guard_no rfl rfl rfl rfl rfl ?_
      refine o_val rfl rfl rfl (y_pick_f (v := (.bool _)) rfl rfl) ?_
      refine o_val rfl rfl rfl (y_assign (v := (.bool _)) rfl) ?_
      refine o_nil ?_
      refine s_forget [(4, (.bool _))] ⟨rfl, trivial⟩ (fun _f => ?_)
      refine s_ret ?_
      exact ⟨_, [], res1 rfl rfl, ⟨congrArg Value.bool ((decide_eq_false (fun hh => h2 ⟨congrArg (fun z => z.2.1) hh, congrArg (fun z => z.2.2.1) hh⟩)).symm), rfl⟩, sub_picks [] rfl⟩
  · have h1 : ¬ x.ps = y.ps := p4
    refine o_guard_no rfl rfl rfl rfl rfl ?_
    refine o_guard_no rfl rfl rfl rfl rfl ?_
    refine o_guard_no rfl rfl rfl rfl rfl ?_
    refine o_guard_no rfl rfl rfl rfl rfl ?_
    refine o_guard_no rfl rfl rfl rfl rfl ?_
    refine o_val rfl rfl rfl (y_pick_f (v := (.bool _)) rfl rfl) ?_
    refine o_val rfl rfl rfl (y_move (v := (.bool _)) rfl) ?_
    refine o_guard_no rfl rfl rfl rfl rfl ?_
    refine o_guard_no rfl rfl rfl rfl rfl ?_
    refine o_guard_no rfl rfl rfl rfl rfl ?_
    refine o_guard_no rfl rfl rfl rfl rfl ?_
    refine o_guard_no rfl rfl rfl rfl rfl ?_
    refine o_val rfl rfl rfl (y_pick_f (v := (.bool _)) rfl rfl) ?_
    refine o_val rfl rfl rfl (y_assign (v := (.bool _)) rfl) ?_
    refine o_nil ?_
    refine s_forget [(4, (.bool _))] ⟨rfl, trivial⟩ (fun _f => ?_)
    refine s_ret ?_
    exact ⟨_, [], res1 rfl rfl, ⟨congrArg Value.bool ((decide_eq_false (fun hh => h1 (congrArg Prod.fst hh))).symm), rfl⟩, sub_picks [] rfl⟩

theorem EqualFO_c {V : Mem} (A : Option Addr) (n c : Nat) (xs : List OvR) (h : Cels V [] A (xs.flatMap encOv)) (hn : xs.length = n) (hbn : n ≤ 140737488355328) (hX : ∀ x ∈ xs, OvOK V x) (B : Option Addr) (m d : Nat) (ys : List OvR) (h' : Cels V [] B (ys.flatMap encOv)) (hm : ys.length = m) (hbm : m ≤ 140737488355328) (hY : ∀ x ∈ ys, OvOK V x) (fid : FuncId) (cap : List Value) (hcall : ∀ args w, (callFunc fid args).run Try.prog w = .ok (.enter fid args) w) (p : OvR → OvR → Prop) [∀ x y, Decidable (p x y)] (hf : ∀ (V' : Mem) (x y : OvR) (hx : OvOK V' x) (hy : OvOK V' y), CallS Try.prog fid (([.agg #[.slice x.A x.n x.c, .int .i64 x.kind, .int .i64 x.field, .int .i64 x.val], .agg #[.slice y.A y.n y.c, .int .i64 y.kind, .int .i64 y.field, .int .i64 y.val]] : List Value) ++ cap).toArray V' [] (fun r L' => r = .bool (decide (p x y)) ∧ L' = [])) : CallS Try.prog 70 [.slice A n c, .slice B m d, .func (.func fid) #[] cap.toArray].toArray V [] (fun r L' => r = .bool (decide (All2 p xs ys)) ∧ L' = []) := by
  refine callS Try.func70 rfl rfl (fun w0 => ?_)
  refine s_seq ?_
  refine s_region ?_
  refine o_val rfl rfl rfl (y_assign (v := (.bool _)) rfl) ?_
  refine o_nil ?_
  refine s_seq ?_
  refine s_seq ?_
  refine s_region ?_
  refine o_val rfl rfl rfl (y_move (v := (.slice _ _ _)) rfl) ?_
  refine o_val rfl rfl rfl (y_len Try.runUnderlying39 rfl) ?_
  refine o_val rfl rfl rfl (y_move (v := (.slice _ _ _)) rfl) ?_
  refine o_val rfl rfl rfl (y_len Try.runUnderlying39 rfl) ?_
  refine o_val rfl rfl rfl (y_neq rfl rfl) ?_
  refine o_nil ?_
  refine s_if rfl (fun h1 => ?_) (fun h2 => ?_)
  · refine s_seq ?_
    refine s_region ?_
    refine o_val rfl rfl rfl (y_assign (v := (.bool _)) rfl) ?_
    refine o_nil ?_
    refine s_ret ?_
    exact ⟨_, [], res1 rfl rfl, ⟨congrArg Value.bool (decide_eq_false (fun hh => by have := hh.1; omega)).symm, rfl⟩, sub_picks [] rfl⟩
  · refine s_skip ?_
    refine s_seq ?_
    refine s_seq ?_
    refine s_region ?_
    refine o_val rfl rfl rfl (y_move (v := (.slice _ _ _)) rfl) ?_
    refine o_val rfl rfl rfl (y_len Try.runUnderlying39 rfl) ?_
    refine o_val rfl rfl rfl (y_move (v := (.int _ _)) rfl) ?_
    refine o_nil ?_
    refine s_block ?_
    refine s_loopK (γ := Nat) [(1, (.slice _ _ _)), (2, (.func _ _ _)), (15, (.slice _ _ _)), (16, (.int _ _))] [] (fun g => [(17, .int .i64 g)]) (fun g => []) (fun g => g ≤ n ∧ ∀ j, j < g → p (xs.getD j default) (ys.getD j default)) (fun g => n - g) (0) ⟨rfl, rfl, rfl, rfl, rfl, trivial⟩ (sub_picks [] rfl) ?_ ?_
    · exact ⟨Nat.zero_le _, fun j hj => absurd hj (Nat.not_lt_zero j)⟩
    intro g _f hI
    obtain ⟨hg, hall⟩ := hI
    refine s_seq ?_
    refine s_region ?_
    refine o_val rfl rfl rfl (y_lss rfl rfl) ?_
    refine o_nil ?_
    refine s_seq ?_
    refine s_if rfl (fun h3 => ?_) (fun h4 => ?_)
    · refine s_skip ?_
      refine s_seq ?_
      refine s_block ?_
      refine s_seq ?_
      refine s_region ?_
      refine o_val rfl rfl rfl (y_move (v := (.int _ _)) rfl) ?_
      refine o_val rfl rfl rfl (y_indexAddr Try.runUnderlying39 Try.sizeOf147 (some_at (sz := 3) encOv_len (i := 0) h (by omega)) rfl rfl (by omega)) ?_
      refine o_val rfl rfl rfl (y_loads (cs := [_, _, _, _]) Try.isAgg147 Try.sizeOf147 rfl (by unfold idx; rw [Option.isSome_map]; exact some_at (sz := 3) encOv_len (i := 0) h (by omega)) rfl (cels_at (sz := 4) encOv_len h.here (by omega))) ?_
      refine o_alloc rfl Try.zeroValue147 rfl (fun b5 => ?_)
      refine o_val rfl rfl rfl (y_assign (v := (.int _ _)) rfl) ?_
      refine o_stores (vs := [(.slice _ _ _), (.int _ _), (.int _ _), (.int _ _)]) 0 rfl Try.sizeOf147 rfl rfl rfl (by simp [Value.oneCell']) (by simp) ?_
      refine o_nil ?_
      refine s_seq ?_
      refine s_region ?_
      refine o_val rfl rfl rfl (y_move (v := (.slice _ _ _)) rfl) ?_
      refine o_val rfl rfl rfl (y_move (v := (.int _ _)) rfl) ?_
      refine o_val rfl rfl rfl (y_indexAddr Try.runUnderlying39 Try.sizeOf147 (some_at (sz := 3) encOv_len (i := 0) h' (by omega)) rfl rfl (by omega)) ?_
      refine o_val rfl rfl rfl (y_loads (cs := [_, _, _, _]) Try.isAgg147 Try.sizeOf147 rfl (by unfold idx; rw [Option.isSome_map]; exact some_at (sz := 3) encOv_len (i := 0) h' (by omega)) rfl (cels_at (sz := 4) encOv_len h'.here (by omega))) ?_
      refine o_alloc rfl Try.zeroValue147 rfl (fun b6 => ?_)
      refine o_stores (vs := [(.slice _ _ _), (.int _ _), (.int _ _), (.int _ _)]) 1 rfl Try.sizeOf147 rfl rfl rfl (by simp [Value.oneCell']) (by simp) ?_
      refine o_nil ?_
      refine s_norm [[(_, .cells [(.slice _ _ _), (.int _ _), (.int _ _), (.int _ _)].toArray 147 (0, 0))], [(_, .cells [(.slice _ _ _), (.int _ _), (.int _ _), (.int _ _)].toArray 147 (0, 0))]] rfl ?_
      refine s_forget [(1, (.slice _ _ _)), (2, (.func _ _ _)), (8, (.pointer _)), (9, (.pointer _)), (15, (.slice _ _ _)), (16, (.int _ _)), (17, (.int _ _))] ⟨rfl, rfl, rfl, rfl, rfl, rfl, rfl, trivial⟩ (fun _f => ?_)
      refine s_seq ?_
      refine s_region ?_
      have hx := hX _ (getD_mem' (show g < xs.length by omega) : (xs.getD ((g : Nat) : Int).toNat default) ∈ xs)
      have hy := hY _ (getD_mem' (show g < ys.length by omega) : (ys.getD ((g : Nat) : Int).toNat default) ∈ ys)
      refine o_val rfl rfl rfl (y_move (v := (.func _ _ _)) rfl) ?_
      refine o_val rfl rfl rfl (y_loads (cs := [_, _, _, _]) Try.isAgg147 Try.sizeOf147 rfl rfl rfl (cels_own 0 rfl rfl)) ?_
      refine o_val rfl rfl rfl (y_loads (cs := [_, _, _, _]) Try.isAgg147 Try.sizeOf147 rfl rfl rfl (cels_own 1 rfl rfl)) ?_
      refine o_fnv' 0 (d := 29) rfl hcall rfl rfl rfl (hf _ (xs.getD ((g : Nat) : Int).toNat default) (ys.getD ((g : Nat) : Int).toNat default) (hx.sub MSub.ext) (hy.sub MSub.ext)) ?_
      rintro _ _ ⟨rfl, rfl⟩
      refine o_val rfl rfl rfl (y_not rfl) ?_
      refine o_nil ?_
      refine s_if rfl (fun h7 => ?_) (fun h8 => ?_)
      · have hne := h7
        refine s_seq ?_
        refine s_region ?_
        refine o_val rfl rfl rfl (y_assign (v := (.bool _)) rfl) ?_
        refine o_nil ?_
        refine s_ret ?_
        exact ⟨_, [], res1 rfl rfl, ⟨congrArg Value.bool (decide_eq_false (fun hh => hne (hh.2 g (by omega)))).symm, rfl⟩, sub_picks [] rfl⟩
      · have heq := Decidable.not_not.1 h8
        refine s_skip ?_
        refine s_region ?_
        refine o_val rfl rfl rfl (y_add rfl rfl (by simp only [inK]; omega)) ?_
        refine o_val rfl rfl rfl (y_move (v := (.int _ _)) rfl) ?_
        refine o_nil ?_
        exact ⟨g + 1, (by first | omega | (dsimp only; omega)), ⟨by omega, all_next hall heq⟩, ⟨(congrArg (Value.int .i64) (by omega)), rfl, rfl, rfl, rfl, trivial⟩, (sub_picks [] rfl)⟩
    · refine s_exit ?_
      refine s_seq ?_
      refine s_region ?_
      refine o_val rfl rfl rfl (y_assign (v := (.bool _)) rfl) ?_
      refine o_nil ?_
      refine s_ret ?_
      exact ⟨_, [], res1 rfl rfl, ⟨congrArg Value.bool (decide_eq_true (⟨by omega, fun j hj => hall j (by omega)⟩)).symm, rfl⟩, sub_picks [] rfl⟩

theorem CloneO_k0 (w : World) : (Instr.buildSlice 39 0 ([] : List (Nat × Value)).toArray).run Try.prog w = .ok (.slice (some ⟨w.heap.size, 0, none⟩) 0 0) { w with heap := w.heap.push (.cells ([] : List Value).toArray 147 (0, 0)) } := by kernel_rfl
theorem CloneO_c {V : Mem} (A : Option Addr) (n c : Nat) (bb : List OvR) (h : Cels V [] A ((bb).flatMap encOv)) (hn : bb.length = n) (hb : n * 48 ≤ 140737488355328) : CallS Try.prog 66 [.slice A n c].toArray V []
    (fun r L' => ∃ B e G, r = .slice B n e ∧ OS B n e 147 4 ((bb).flatMap encOv) G ∧ L' = [G]) := by
  refine callS Try.func66 rfl rfl (fun w0 => ?_)
  refine s_seq ?_
  refine s_region ?_
  refine o_val rfl rfl rfl (y_assign (v := (.slice _ _ _)) rfl) ?_
  refine o_nil ?_
  refine s_seq ?_
  refine s_seq ?_
  refine s_region ?_
  refine o_val rfl rfl rfl (y_move (v := (.slice _ _ _)) rfl) ?_
  refine o_val rfl rfl rfl (y_eql_nil Try.underlying39 rfl rfl) ?_
  refine o_nil ?_
  refine s_if rfl (fun h1 => ?_) (fun h2 => ?_)
  · subst h1
    have hbb := h.none_nil
    have hb0 : bb = [] := ov_none hbb
    subst hb0
    obtain rfl : 0 = n := hn
    refine s_seq ?_
    refine s_region ?_
    refine o_val rfl rfl rfl (y_assign (v := (.slice _ _ _)) rfl) ?_
    refine o_nil ?_
    refine s_ret ?_
    exact ⟨_, [[]], res1 rfl rfl, ⟨_, _, [], rfl, OS.nil _ _, rfl⟩, sub_none⟩
  · refine s_skip ?_
    refine s_seq ?_
    refine s_region ?_
    refine o_lit (vs := []) rfl rfl (CloneO_k0) (fun b3 => ?_)
    refine o_val rfl rfl rfl (y_move (v := (.slice _ _ _)) rfl) ?_
    refine o_append (sz := 4) (bytes := 48) (news := (bb).flatMap encOv) 0 rfl Try.underlying39 Try.type147 rfl rfl rfl rfl rfl (OS.lit (sz := 4) (n := 0) rfl (by decide)) rfl rfl (Src.rd (sz := 3) Try.underlying39 h.here (by rw [flat_len encOv_len, hn]) (encOv_one _)) (by omega) (fun A4 c5 E6 ho7 hn8 => ?_)
    have ho9 : OS A4 n c5 147 4 ((bb).flatMap encOv) E6 := by simpa using ho7
    clear ho7
    refine o_val rfl rfl rfl (y_assign (v := (.slice _ _ _)) rfl) ?_
    refine o_nil ?_
    refine s_norm [_] rfl ?_
    refine s_ret ?_
    exact ⟨_, _, res1 rfl rfl, ⟨_, _, _, congrArg (fun k => Value.slice _ k _) (Nat.zero_add _), ho9, rfl⟩, sub_front ⟨_, rfl⟩⟩

theorem PathC_c {V : Mem} (x y : OvR) (hx : OvOK V x) (hy : OvOK V y) : CallS Try.prog 68 [.agg #[.slice x.A x.n x.c, .int .i64 x.kind, .int .i64 x.field, .int .i64 x.val], .agg #[.slice y.A y.n y.c, .int .i64 y.kind, .int .i64 y.field, .int .i64 y.val]].toArray V [] (fun r L' => r = .int .i64 (cmpL x.ps y.ps) ∧ L' = []) := by
  refine callS Try.func68 rfl rfl (fun w0 => ?_)
  refine s_seq ?_
  refine s_region ?_
  refine o_box (v := (.agg #[(.slice _ _ _), (.int _ _), (.int _ _), (.int _ _)])) rfl rfl rfl (fun b1 => ?_)
  refine o_box (v := (.agg #[(.slice _ _ _), (.int _ _), (.int _ _), (.int _ _)])) rfl rfl rfl (fun b2 => ?_)
  refine o_val rfl rfl rfl (y_assign (v := (.int _ _)) rfl) ?_
  refine o_nil ?_
  refine s_seq ?_
  refine s_region ?_
  refine o_val rfl rfl rfl (y_field0 Try.runUnderlying147 rfl Try.sizeOf22 rfl rfl) ?_
  refine o_val rfl rfl rfl (y_load Try.isAgg22 rfl (cel_own 0 rfl rfl)) ?_
  refine o_val rfl rfl rfl (y_field0 Try.runUnderlying147 rfl Try.sizeOf22 rfl rfl) ?_
  refine o_val rfl rfl rfl (y_load Try.isAgg22 rfl (cel_own 1 rfl rfl)) ?_
  refine o_fn 0 (d := 9) rfl Try.call69 (CmpL_c x.A x.n x.c x.ps hx.2.2.2.here.down hx.1 y.A y.n y.c y.ps hy.2.2.2.here.down hy.1 hx.2.2.1) rfl ?_
  rintro _ _ ⟨rfl, rfl⟩
  refine o_val rfl rfl rfl (y_assign (v := (.int _ _)) rfl) ?_
  refine o_nil ?_
  refine s_ret ?_
  exact ⟨_, [], res1 rfl rfl, ⟨rfl, rfl⟩, sub_picks [] rfl⟩

theorem key_path {x y : OV} (h : 0 ≤ keyC y x) : 0 ≤ cmpL y.1 x.1 := by
  unfold keyC at h
  simp only [orV] at h
  split at h
  · exact h
  · rename_i e; omega

end Go.Proofs.Ytacmbiohjiogiaa.K

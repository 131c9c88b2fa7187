/- Parts of the walk, in build order: rules, contracts, plain laws. No condition beyond what each statement names. -/
import Derived.Test.YtlkajdcgdoijjaaGreatDoorQ2
import Derived.Test.YtlkajdcgdoijjaaGreatDoorProg
import Derived.RangeFuncBox
import Derived.RangeFuncLeaves
import Derived.RangeFuncCalls
import Derived.OrdersIn
import Derived.TacticsIn
import Derived.RangeFuncRecord
set_option linter.unusedVariables false
set_option linter.unusedSimpArgs false
section
set_option linter.unusedVariables false
set_option linter.unusedSimpArgs false
set_option maxRecDepth 100000
set_option maxHeartbeats 4000000
namespace Go.Proofs.YtlkajdcgdoijjaaGreatDoor.K
open Go.RowKit

def nk : Nat → RS → RS
 | 0, s => s
 | k + 1, s => nxS (nk k s)
def coS : Nat → RS → RS
 | 0, s => s
 | i + 1, s => nk 10 (coS i s)
def coV : Nat → RS → List CoR
 | 0, _ => []
 | i + 1, s => coV i s ++ [⟨nxV (nk 0 (coS i s)), nxV (nk 1 (coS i s)), nxV (nk 2 (coS i s)), nxV (nk 3 (coS i s)), nxV (nk 4 (coS i s)), nxV (nk 5 (coS i s)), nxV (nk 6 (coS i s)), nxV (nk 7 (coS i s)), nxV (nk 8 (coS i s)), nxV (nk 9 (coS i s))⟩]
def miS : Nat → RS → RS
 | 0, s => s
 | i + 1, s => liS (nk 3 (miS i s))
def miV : Nat → RS → List (Int × Int × Int × List Int)
 | 0, _ => []
 | i + 1, s => miV i s ++ [(nxV (nk 0 (miS i s)), nxV (nk 1 (miS i s)), nxV (nk 2 (miS i s)), liV (nk 3 (miS i s)))]
def evS : Nat → RS → RS
 | 0, s => s
 | i + 1, s => nk 4 (evS i s)
def evV : Nat → RS → List EvR
 | 0, _ => []
 | i + 1, s => evV i s ++ [⟨nxV (nk 0 (evS i s)), nxV (nk 1 (evS i s)), nxV (nk 2 (evS i s)), nxV (nk 3 (evS i s))⟩]
def sA (s : RS) : RS := wdS (nxS s)
def sB (s : RS) : RS := coS (mnV (sA s)) (mnS (sA s))
def sC (s : RS) : RS := miS (mnV (sB s)) (mnS (sB s))
def sD (s : RS) : RS := evS (mnV (sC s)) (mnS (sC s))
def MiR.d (m : MiR) : Int × Int × Int × List Int := (m.e, m.g, m.p, m.vs)
abbrev StD : Type := Int × (List (ByteArray × List FR) × List Int × List (Int × Int × List (Int × List Int))) × List CoR × List (Int × Int × Int × List Int) × List EvR
def StR.d (s : StR) : StD := (s.tick, s.w.d, s.cs, s.ms.map MiR.d, s.es)
def stV (s : RS) : StD := (nxV s, wdV (nxS s), coV (mnV (sA s)) (mnS (sA s)), miV (mnV (sB s)) (mnS (sB s)), evV (mnV (sC s)) (mnS (sC s)))
def stBad (s : RS) : Prop := (sD s).2 = true ∨ 0 < (sD s).1.length
structure LO5 where
 i : Nat
 cs : List CoR
 A : Option Addr
 c : Nat
 E : Grp
 R : Grp
structure LM5 where
 i : Nat
 ms : List MiR
 A : Option Addr
 c : Nat
 E : Grp
 P : Grp
 R : Grp
structure LE5 where
 i : Nat
 es : List EvR
 A : Option Addr
 c : Nat
 E : Grp
 R : Grp

theorem Unflat_k0 (v0A : Option Addr) (v0n : Nat) (v0c : Nat) (w : World) : (Instr.build 104 ([(0, .slice v0A v0n v0c)] : List (Nat × Value)).toArray).run Tryz.prog w = .ok (.agg #[.slice v0A v0n v0c, .bool false]) w := by kernel_rfl
theorem Unflat_k1 (v0 : Int) (w : World) : (Instr.build 41 ([(0, .int .i64 v0)] : List (Nat × Value)).toArray).run Tryz.prog w = .ok (.agg #[.int .i64 v0, .slice none 0 0, .slice none 0 0, .slice none 0 0, .slice none 0 0, .slice none 0 0, .slice none 0 0]) w := by kernel_rfl
theorem Unflat_k2 (v0 : Int) (v1 : Int) (v2 : Int) (w : World) : (Instr.build 89 ([(0, .int .i64 v0), (1, .int .i64 v1), (2, .int .i64 v2)] : List (Nat × Value)).toArray).run Tryz.prog w = .ok (.agg #[.int .i64 v0, .int .i64 v1, .int .i64 v2, .int .i64 0, .int .i64 0, .int .i64 0, .int .i64 0, .int .i64 0, .int .i64 0, .int .i64 0]) w := by kernel_rfl
theorem Unflat_k3 (v0 : Int) (v1 : Int) (w : World) : (Instr.build 27 ([(0, .int .i64 v0), (1, .int .i64 v1)] : List (Nat × Value)).toArray).run Tryz.prog w = .ok (.agg #[.int .i64 v0, .int .i64 v1]) w := by kernel_rfl
theorem Unflat_k4 (v0x0 : Int) (v0x1 : Int) (v0x2 : Int) (v0x3 : Int) (v0x4 : Int) (v0x5 : Int) (v0x6 : Int) (v0x7 : Int) (v0x8 : Int) (v0x9 : Int) (w : World) : (Instr.buildSlice 37 1 ([(0, (.agg #[(.int .i64 v0x0), (.int .i64 v0x1), (.int .i64 v0x2), (.int .i64 v0x3), (.int .i64 v0x4), (.int .i64 v0x5), (.int .i64 v0x6), (.int .i64 v0x7), (.int .i64 v0x8), (.int .i64 v0x9)]))] : List (Nat × Value)).toArray).run Tryz.prog w = .ok (.slice (some ⟨w.heap.size, 0, none⟩) 1 1) { w with heap := w.heap.push (.cells ([.int .i64 v0x0, .int .i64 v0x1, .int .i64 v0x2, .int .i64 v0x3, .int .i64 v0x4, .int .i64 v0x5, .int .i64 v0x6, .int .i64 v0x7, .int .i64 v0x8, .int .i64 v0x9] : List Value).toArray 89 (0, 0)) } := by kernel_rfl
theorem Unflat_k5 (v0 : Int) (v1 : Int) (w : World) : (Instr.build 51 ([(0, .int .i64 v0), (1, .int .i64 v1)] : List (Nat × Value)).toArray).run Tryz.prog w = .ok (.agg #[.int .i64 v0, .int .i64 v1]) w := by kernel_rfl
theorem Unflat_k6 (v0x0 : Int) (v0x1 : Int) (v1 : Int) (w : World) : (Instr.build 91 ([(0, (.agg #[(.int .i64 v0x0), (.int .i64 v0x1)])), (1, .int .i64 v1)] : List (Nat × Value)).toArray).run Tryz.prog w = .ok (.agg #[.int .i64 v0x0, .int .i64 v0x1, .int .i64 v1, .slice none 0 0]) w := by kernel_rfl
theorem Unflat_k7 (v0x0 : Int) (v0x1 : Int) (v0x2 : Int) (v0x3A : Option Addr) (v0x3n : Nat) (v0x3c : Nat) (w : World) : (Instr.buildSlice 38 1 ([(0, (.agg #[(.int .i64 v0x0), (.int .i64 v0x1), (.int .i64 v0x2), (.slice v0x3A v0x3n v0x3c)]))] : List (Nat × Value)).toArray).run Tryz.prog w = .ok (.slice (some ⟨w.heap.size, 0, none⟩) 1 1) { w with heap := w.heap.push (.cells ([.int .i64 v0x0, .int .i64 v0x1, .int .i64 v0x2, .slice v0x3A v0x3n v0x3c] : List Value).toArray 91 (0, 0)) } := by kernel_rfl
theorem Unflat_k8 (v0 : Int) (w : World) : (Instr.build 93 ([(0, .int .i64 v0)] : List (Nat × Value)).toArray).run Tryz.prog w = .ok (.agg #[.int .i64 v0, .int .i64 0, .int .i64 0, .int .i64 0]) w := by kernel_rfl
theorem Unflat_k9 (v0x0 : Int) (v0x1 : Int) (v0x2 : Int) (v0x3 : Int) (w : World) : (Instr.buildSlice 39 1 ([(0, (.agg #[(.int .i64 v0x0), (.int .i64 v0x1), (.int .i64 v0x2), (.int .i64 v0x3)]))] : List (Nat × Value)).toArray).run Tryz.prog w = .ok (.slice (some ⟨w.heap.size, 0, none⟩) 1 1) { w with heap := w.heap.push (.cells ([.int .i64 v0x0, .int .i64 v0x1, .int .i64 v0x2, .int .i64 v0x3] : List Value).toArray 93 (0, 0)) } := by kernel_rfl
theorem Unflat_k10 (w : World) : (Instr.build 41 ([] : List (Nat × Value)).toArray).run Tryz.prog w = .ok (.agg #[.int .i64 0, .slice none 0 0, .slice none 0 0, .slice none 0 0, .slice none 0 0, .slice none 0 0, .slice none 0 0]) w := by kernel_rfl
theorem Unflat_c {V : Mem} (A : Option Addr) (n c : Nat) (l : List Int) (h : Cels V [] A (l.map (.int .i64))) (hn : l.length = n) (hc : n ≤ c) (hb : n ≤ 1099511627776) : CallS Tryz.prog 21 [.slice A n c].toArray V [] (fun r L' => (stBad ((l, false) : RS) ∧ r = .tuple #[.agg #[.int .i64 0, .slice none 0 0, .slice none 0 0, .slice none 0 0, .slice none 0 0, .slice none 0 0, .slice none 0 0], .int .i64 3] ∧ L' = []) ∨ (¬ stBad ((l, false) : RS) ∧ ∃ (s' : StR) (P : Grp), r = .tuple #[.agg #[.int .i64 s'.tick, .slice s'.w.kA s'.w.kn s'.w.kc, .slice s'.w.gA s'.w.gn s'.w.gc, .slice s'.w.iA s'.w.iN s'.w.iC, .slice s'.cA s'.cn s'.cc, .slice s'.mA s'.mn s'.mc, .slice s'.eA s'.en s'.ec], .int .i64 0] ∧ StOK (inG P) s' ∧ s'.d = stV ((l, false) : RS) ∧ L' = [P])) := by
 refine callS Tryz.func21 rfl rfl (fun w0 => ?_); refine s_seq (s_region ?_); refine o_alloc rfl Tryz.zeroValue41 rfl (fun b1 => ?_); refine ov (y_assign (v := .int _ _) rfl) (o_nil ?_); refine s_seq (s_region ?_); refine ov (y_move (v := .slice _ _ _) rfl) ?_; refine ov (y_build (vs := [(0, .slice _ _ _)]) rfl (Unflat_k0 _ _ _)) ?_; refine o_box (v := (.agg #[(.slice _ _ _), (.bool _)])) rfl rfl rfl (fun b2 => ?_); refine ov (y_assign (v := .pointer _) rfl) (o_nil ?_); refine s_seq (s_region ?_); have h0 : Rdr V b2 ((l, false) : RS) (rdg b2 A n c false) := Rdr.new h hn hc hb; refine ov (y_move (v := .pointer _) rfl) ?_; refine o_pull 1 ?_; refine o_fn 1 (d := 13) rfl Tryz.call39 (NextR_c MSub.ext h0) rfl ?_; rintro _ _ ⟨h1G, rfl, h1, rfl⟩; refine ov (y_build (vs := [(0, .int _ _)]) rfl (Unflat_k1 _)) ?_; refine o_alloc rfl Tryz.zeroValue41 rfl (fun b3 => ?_); refine o_stores (vs := [(.int _ _), (.slice _ _ _), (.slice _ _ _), (.slice _ _ _), (.slice _ _ _), (.slice _ _ _), (.slice _ _ _)]) 2 rfl Tryz.sizeOf41 rfl rfl rfl (by simp [Value.oneCell']) (by simp) (o_nil ?_); refine s_seq (s_region ?_); refine ov (y_move (v := .pointer _) rfl) ?_; refine o_fn 1 (d := 16) rfl Tryz.call40 (WorldR_c MSub.ext h1) rfl ?_; rintro _ _ ⟨w, h2G, wP, rfl, hwo, hwd, h2, rfl⟩; refine ov (y_field0 (F := 1) Tryz.runUnderlying41 rfl Tryz.sizeOf35 rfl rfl) ?_; refine o_stores (vs := [(.slice _ _ _), (.slice _ _ _), (.slice _ _ _)]) 3 rfl Tryz.sizeOf35 rfl rfl rfl (by simp [Value.oneCell']) (by first | (simp; done) | (simp [lay]; done)) (o_nil ?_); refine s_norm [_, _, (cB [(.int _ _), (.slice _ _ _), (.slice _ _ _), (.slice _ _ _), (.slice _ _ _), (.slice _ _ _), (.slice _ _ _)] 41 _), (cB [(.int _ _), (.slice _ _ _), (.slice _ _ _), (.slice _ _ _), (.slice _ _ _), (.slice _ _ _), (.slice _ _ _)] 41 _)] rfl ?_; refine sf [(2, .pointer _), (3, .int _ _), (4, .pointer _), (5, .pointer _)] (fun _f => ?_); refine s_seq ?_; refine s_seq (s_region ?_)
 change Rdr V _ (sA ((l, false) : RS)) h2G at h2
 refine ov (y_move (v := .pointer _) rfl) ?_; refine o_fn 1 (d := 19) rfl Tryz.call41 (ManyR_c MSub.ext h2) rfl ?_; rintro _ _ ⟨h3G, rfl, h3, rfl⟩; have h3f := mn_few h3; refine ov (y_move (v := .int _ _) rfl) (o_nil ?_); refine s_block ?_; refine s_group ?_; refine s_loopK (γ := LO5) [(2, .pointer _), (3, .int _ _), (4, .pointer _), (5, .pointer _), (19, .int _ _)] [_, _] (fun g => [(20, .int .i64 g.i)]) (fun g => [g.R, (cB [.int .i64 (nxV ((l, false) : RS)), .slice w.kA w.kn w.kc, .slice w.gA w.gn w.gc, .slice w.iA w.iN w.iC, .slice g.A g.cs.length g.c, .slice none 0 0, .slice none 0 0] 41 b3), g.E]) (fun g => g.i ≤ mnV (sA ((l, false) : RS)) ∧ g.cs.length = g.i ∧ OS g.A g.cs.length g.c 89 10 ((g.cs).flatMap encCo) g.E ∧ g.cs = coV g.i (mnS (sA ((l, false) : RS))) ∧ Rdr V b2 (coS g.i (mnS (sA ((l, false) : RS)))) g.R) (fun g => mnV (sA ((l, false) : RS)) - g.i) (LO5.mk 0 [] none 0 [] h3G) (hz6 trivial) (sub_picks [0, 2, 2, 0, 0] rfl) ?_ ?_
 ·exact ⟨Nat.zero_le _, rfl, OS.nil _ _, rfl, h3⟩
 intro g _f hI; refine s_norm _ (by simp only [pull, picks, setG, List.cons_append, List.nil_append, List.append_nil, List.drop_succ_cons, List.drop_zero]; rfl) ?_; obtain ⟨hgi, hgl, hco, hcd, hr1⟩ := hI; refine s_seq (s_region ?_); refine ov (y_lss rfl rfl) (o_nil ?_); refine s_seq ?_; refine s_if rfl (fun h4 => ?_) (fun h5 => ?_)
 ·refine s_skip ?_; refine s_seq ?_; refine s_block ?_; refine s_seq (s_region ?_); refine ov (y_move (v := .pointer _) rfl) ?_; refine o_fn 1 (d := 23) rfl Tryz.call39 (NextR_c MSub.ext hr1) rfl ?_; rintro _ _ ⟨o1G, rfl, o1, rfl⟩; refine ov (y_move (v := .pointer _) rfl) ?_; refine o_fn 1 (d := 25) rfl Tryz.call39 (NextR_c MSub.ext o1) rfl ?_; rintro _ _ ⟨o2G, rfl, o2, rfl⟩; refine ov (y_move (v := .pointer _) rfl) ?_; refine o_fn 1 (d := 27) rfl Tryz.call39 (NextR_c MSub.ext o2) rfl ?_; rintro _ _ ⟨o3G, rfl, o3, rfl⟩; refine ov (y_build (vs := [(0, .int _ _), (1, .int _ _), (2, .int _ _)]) rfl (Unflat_k2 _ _ _)) ?_; refine o_alloc rfl Tryz.zeroValue89 rfl (fun b6 => ?_); refine o_stores (vs := [(.int _ _), (.int _ _), (.int _ _), (.int _ _), (.int _ _), (.int _ _), (.int _ _), (.int _ _), (.int _ _), (.int _ _)]) 5 rfl Tryz.sizeOf89 rfl rfl rfl (by simp [Value.oneCell']) (by simp) (o_nil ?_); refine sf [(2, .pointer _), (3, .int _ _), (4, .pointer _), (5, .pointer _), (6, .pointer _), (19, .int _ _), (20, .int _ _)] (fun _f => ?_); refine s_seq (s_region ?_); refine ov (y_move (v := .pointer _) rfl) ?_; refine o_fn 1 (d := 30) rfl Tryz.call39 (NextR_c MSub.ext o3) rfl ?_; rintro _ _ ⟨o4G, rfl, o4, rfl⟩; refine ov (y_move (v := .pointer _) rfl) ?_; refine o_fn 1 (d := 32) rfl Tryz.call39 (NextR_c MSub.ext o4) rfl ?_; rintro _ _ ⟨o5G, rfl, o5, rfl⟩; refine ov (y_build (vs := [(0, .int _ _), (1, .int _ _)]) rfl (Unflat_k3 _ _)) ?_; refine ov (y_field0 (F := 3) Tryz.runUnderlying89 rfl Tryz.sizeOf27 rfl rfl) ?_; refine o_stores (vs := [(.int _ _), (.int _ _)]) 5 rfl Tryz.sizeOf27 rfl rfl rfl (by simp [Value.oneCell']) (by first | (simp; done) | (simp [lay]; done)) (o_nil ?_); refine s_norm [_, (cB [(.int _ _), (.slice _ _ _), (.slice _ _ _), (.slice _ _ _), (.slice _ _ _), (.slice _ _ _), (.slice _ _ _)] 41 _), _, _, (cB [(.int _ _), (.slice _ _ _), (.slice _ _ _), (.slice _ _ _), (.slice _ _ _), (.slice _ _ _), (.slice _ _ _)] 41 _), (cB [(.int _ _), (.int _ _), (.int _ _), (.int _ _), (.int _ _), (.int _ _), (.int _ _), (.int _ _), (.int _ _), (.int _ _)] 89 _)] rfl ?_; refine s_seq (s_region ?_); refine ov (y_move (v := .pointer _) rfl) ?_; refine o_fn 1 (d := 36) rfl Tryz.call39 (NextR_c MSub.ext o5) rfl ?_; rintro _ _ ⟨o6G, rfl, o6, rfl⟩; refine ov (y_move (v := .pointer _) rfl) ?_; refine o_fn 1 (d := 38) rfl Tryz.call39 (NextR_c MSub.ext o6) rfl ?_; rintro _ _ ⟨o7G, rfl, o7, rfl⟩; refine ov (y_build (vs := [(0, .int _ _), (1, .int _ _)]) rfl (Unflat_k3 _ _)) ?_; refine ov (y_field0 (F := 5) Tryz.runUnderlying89 rfl Tryz.sizeOf27 rfl rfl) ?_; refine o_stores (vs := [(.int _ _), (.int _ _)]) 5 rfl Tryz.sizeOf27 rfl rfl rfl (by simp [Value.oneCell']) (by first | (simp; done) | (simp [lay]; done)) (o_nil ?_); refine s_seq (s_region ?_); refine ov (y_move (v := .pointer _) rfl) ?_; refine o_fn 1 (d := 42) rfl Tryz.call39 (NextR_c MSub.ext o7) rfl ?_; rintro _ _ ⟨o8G, rfl, o8, rfl⟩; refine ov (y_move (v := .pointer _) rfl) ?_; refine o_fn 1 (d := 44) rfl Tryz.call39 (NextR_c MSub.ext o8) rfl ?_; rintro _ _ ⟨o9G, rfl, o9, rfl⟩; refine ov (y_move (v := .pointer _) rfl) ?_; refine o_fn 1 (d := 46) rfl Tryz.call39 (NextR_c MSub.ext o9) rfl ?_; rintro _ _ ⟨o10G, rfl, o10, rfl⟩; refine ov (y_field0 (F := 7) Tryz.runUnderlying89 rfl Tryz.sizeOf3 rfl rfl) ?_; refine o_store (v := .int _ _) 5 rfl Tryz.sizeOf3 rfl rfl rfl rfl ?_; refine ov (y_field0 (F := 8) Tryz.runUnderlying89 rfl Tryz.sizeOf3 rfl rfl) ?_; refine o_store (v := .int _ _) 5 rfl Tryz.sizeOf3 rfl rfl rfl rfl ?_; refine ov (y_field0 (F := 9) Tryz.runUnderlying89 rfl Tryz.sizeOf3 rfl rfl) ?_; refine o_store (v := .int _ _) 5 rfl Tryz.sizeOf3 rfl rfl rfl rfl (o_nil ?_); refine s_norm [_, (cB [(.int _ _), (.slice _ _ _), (.slice _ _ _), (.slice _ _ _), (.slice _ _ _), (.slice _ _ _), (.slice _ _ _)] 41 _), _, _, (cB [(.int _ _), (.slice _ _ _), (.slice _ _ _), (.slice _ _ _), (.slice _ _ _), (.slice _ _ _), (.slice _ _ _)] 41 _), (cB [(.int _ _), (.int _ _), (.int _ _), (.int _ _), (.int _ _), (.int _ _), (.int _ _), (.int _ _), (.int _ _), (.int _ _)] 89 _)] rfl ?_; refine sf [(2, .pointer _), (3, .int _ _), (4, .pointer _), (5, .pointer _), (6, .pointer _), (19, .int _ _), (20, .int _ _)] (fun _f => ?_); refine s_region ?_; refine ov (y_field0 (F := 4) Tryz.runUnderlying41 rfl Tryz.sizeOf37 rfl rfl) ?_; refine ov (y_load Tryz.isAgg37 rfl (cel_own 1 rfl rfl)) ?_; refine ov (y_loads (cs := [_, _, _, _, _, _, _, _, _, _]) Tryz.isAgg89 Tryz.sizeOf89 rfl rfl rfl (cels_own 5 rfl rfl)) ?_; refine o_lit (vs := [(0, .agg #[.int _ _, .int _ _, .int _ _, .int _ _, .int _ _, .int _ _, .int _ _, .int _ _, .int _ _, .int _ _])]) rfl rfl (Unflat_k4 _ _ _ _ _ _ _ _ _ _) (fun b7 => ?_); refine o_append (sz := 10) (bytes := 80) (news := [(.int _ _), (.int _ _), (.int _ _), (.int _ _), (.int _ _), (.int _ _), (.int _ _), (.int _ _), (.int _ _), (.int _ _)]) 2 rfl Tryz.underlying37 Tryz.type89 rfl rfl rfl rfl rfl hco rfl rfl (Src.slice Tryz.underlying37 (cels_own 6 rfl rfl) rfl (by simp [Value.oneCell']) (by simp)) (by omega) (fun A8 c9 E10 ho11 hn12 => ?_); have ho13 : OS A8 (g.cs.length + 1) c9 89 10 ((g.cs ++ [(CoR.mk (nxV (nk 0 (coS g.i (mnS (sA ((l, false) : RS)))))) (nxV (nk 1 (coS g.i (mnS (sA ((l, false) : RS)))))) (nxV (nk 2 (coS g.i (mnS (sA ((l, false) : RS)))))) (nxV (nk 3 (coS g.i (mnS (sA ((l, false) : RS)))))) (nxV (nk 4 (coS g.i (mnS (sA ((l, false) : RS)))))) (nxV (nk 5 (coS g.i (mnS (sA ((l, false) : RS)))))) (nxV (nk 6 (coS g.i (mnS (sA ((l, false) : RS)))))) (nxV (nk 7 (coS g.i (mnS (sA ((l, false) : RS)))))) (nxV (nk 8 (coS g.i (mnS (sA ((l, false) : RS)))))) (nxV (nk 9 (coS g.i (mnS (sA ((l, false) : RS)))))))]).flatMap encCo) E10 := os_snoc ho11 rfl
  clear ho11
  refine ov (y_field0 (F := 4) Tryz.runUnderlying41 rfl Tryz.sizeOf37 rfl rfl) ?_; refine o_store (v := .slice _ _ _) 1 rfl Tryz.sizeOf37 rfl rfl rfl rfl (o_nil ?_); refine s_norm [_, (cB [(.int _ _), (.slice _ _ _), (.slice _ _ _), (.slice _ _ _), (.slice _ _ _), (.slice _ _ _), (.slice _ _ _)] 41 _), _, _, (cB [(.int _ _), (.slice _ _ _), (.slice _ _ _), (.slice _ _ _), (.slice _ _ _), (.slice _ _ _), (.slice _ _ _)] 41 _), (cB [(.int _ _), (.int _ _), (.int _ _), (.int _ _), (.int _ _), (.int _ _), (.int _ _), (.int _ _), (.int _ _), (.int _ _)] 89 _), (cB [(.int _ _), (.int _ _), (.int _ _), (.int _ _), (.int _ _), (.int _ _), (.int _ _), (.int _ _), (.int _ _), (.int _ _)] 89 _)] rfl ?_; refine s_region ?_; refine ov (y_add rfl rfl (by simp only [inK]; omega)) ?_; refine ov (y_move (v := .int _ _) rfl) (o_nil ?_); exact ⟨LO5.mk (g.i + 1) (g.cs ++ [(CoR.mk (nxV (nk 0 (coS g.i (mnS (sA ((l, false) : RS)))))) (nxV (nk 1 (coS g.i (mnS (sA ((l, false) : RS)))))) (nxV (nk 2 (coS g.i (mnS (sA ((l, false) : RS)))))) (nxV (nk 3 (coS g.i (mnS (sA ((l, false) : RS)))))) (nxV (nk 4 (coS g.i (mnS (sA ((l, false) : RS)))))) (nxV (nk 5 (coS g.i (mnS (sA ((l, false) : RS)))))) (nxV (nk 6 (coS g.i (mnS (sA ((l, false) : RS)))))) (nxV (nk 7 (coS g.i (mnS (sA ((l, false) : RS)))))) (nxV (nk 8 (coS g.i (mnS (sA ((l, false) : RS)))))) (nxV (nk 9 (coS g.i (mnS (sA ((l, false) : RS)))))))]) A8 c9 E10 o10G, (by first | omega | (dsimp only; omega)), ⟨by dsimp only; omega, by simp only [List.length_append, List.length_singleton]; omega, by dsimp only; rw [List.length_append]; exact ho13, by show g.cs ++ [_] = coV g.i (mnS (sA ((l, false) : RS))) ++ [_]; rw [← hcd], o10⟩, ⟨(congrArg (Value.int .i64) (by (try dsimp only); omega)), hz5 trivial⟩, (by dsimp only; rw [List.length_append]; exact sub_picks [0, 0, 0, 0, 0] rfl)⟩
 ·refine s_exit ?_; refine s_seq ?_; refine s_seq (s_region ?_); have hgm : g.i = mnV (sA ((l, false) : RS)) := by omega
  rw [hgm] at hcd hr1
  change Rdr V _ (sB ((l, false) : RS)) g.R at hr1
  refine ov (y_move (v := .pointer _) rfl) ?_; refine o_fn 1 (d := 58) rfl Tryz.call41 (ManyR_c MSub.ext hr1) rfl ?_; rintro _ _ ⟨h4G, rfl, h4, rfl⟩; have h4f := mn_few h4; refine ov (y_move (v := .int _ _) rfl) (o_nil ?_); refine s_block ?_; refine s_group ?_; refine s_group ?_; refine s_loopK (γ := LM5) [(2, .pointer _), (3, .int _ _), (4, .pointer _), (5, .pointer _), (58, .int _ _)] [_, _, _] (fun u => [(59, .int .i64 u.i)]) (fun u => [u.R, (cB [.int .i64 (nxV ((l, false) : RS)), .slice w.kA w.kn w.kc, .slice w.gA w.gn w.gc, .slice w.iA w.iN w.iC, .slice g.A g.cs.length g.c, .slice u.A u.ms.length u.c, .slice none 0 0] 41 b3), u.E, u.P]) (fun u => u.i ≤ mnV (sB ((l, false) : RS)) ∧ u.ms.length = u.i ∧ OS u.A u.ms.length u.c 91 4 ((u.ms).flatMap encMi) u.E ∧ (∀ x ∈ u.ms, MOK (inG u.P) x) ∧ u.ms.map MiR.d = miV u.i (mnS (sB ((l, false) : RS))) ∧ Rdr V b2 (miS u.i (mnS (sB ((l, false) : RS)))) u.R) (fun u => mnV (sB ((l, false) : RS)) - u.i) (LM5.mk 0 [] none 0 [] [] h4G) (hz6 trivial) (sub_picks [0, 0, 3, 3, 0, 0, 0] rfl) ?_ ?_
  ·exact ⟨Nat.zero_le _, rfl, OS.nil _ _, fun x hx => absurd hx List.not_mem_nil, rfl, h4⟩
  intro u _f hJ; refine s_norm _ (by simp only [pull, picks, setG, List.cons_append, List.nil_append, List.append_nil, List.drop_succ_cons, List.drop_zero]; rfl) ?_; obtain ⟨hui, hul, hmo, hmx, hmd, hr2⟩ := hJ; refine s_seq (s_region ?_); refine ov (y_lss rfl rfl) (o_nil ?_); refine s_seq ?_; refine s_if rfl (fun h14 => ?_) (fun h15 => ?_)
  ·refine s_skip ?_; refine s_seq ?_; refine s_block ?_; refine s_seq (s_region ?_); refine ov (y_move (v := .pointer _) rfl) ?_; refine o_fn 1 (d := 62) rfl Tryz.call39 (NextR_c MSub.ext hr2) rfl ?_; rintro _ _ ⟨m1G, rfl, m1, rfl⟩; refine ov (y_move (v := .pointer _) rfl) ?_; refine o_fn 1 (d := 64) rfl Tryz.call39 (NextR_c MSub.ext m1) rfl ?_; rintro _ _ ⟨m2G, rfl, m2, rfl⟩; refine ov (y_build (vs := [(0, .int _ _), (1, .int _ _)]) rfl (Unflat_k5 _ _)) ?_; refine ov (y_move (v := .pointer _) rfl) ?_; refine o_fn 1 (d := 67) rfl Tryz.call39 (NextR_c MSub.ext m2) rfl ?_; rintro _ _ ⟨m3G, rfl, m3, rfl⟩; refine ov (y_build (vs := [(0, .agg #[.int _ _, .int _ _]), (1, .int _ _)]) rfl (Unflat_k6 _ _ _)) ?_; refine o_alloc rfl Tryz.zeroValue91 rfl (fun b16 => ?_); refine o_stores (vs := [(.int _ _), (.int _ _), (.int _ _), (.slice _ _ _)]) 7 rfl Tryz.sizeOf91 rfl rfl rfl (by simp [Value.oneCell']) (by simp) (o_nil ?_); refine sf [(2, .pointer _), (3, .int _ _), (4, .pointer _), (5, .pointer _), (7, .pointer _), (58, .int _ _), (59, .int _ _)] (fun _f => ?_); refine s_seq (s_region ?_); refine ov (y_move (v := .pointer _) rfl) ?_; refine o_fn 1 (d := 70) rfl Tryz.call42 (ListR_c MSub.ext m3) rfl ?_; rintro _ _ ⟨m4G, lB, le, lE, rfl, m4, lo, rfl⟩; have m4m := mn_few2 m3; refine ov (y_field0 (F := 3) Tryz.runUnderlying91 rfl Tryz.sizeOf22 rfl rfl) ?_; refine o_store (v := .slice _ _ _) 8 rfl Tryz.sizeOf22 rfl rfl rfl rfl (o_nil ?_); refine s_norm [_, _, (cB [(.int _ _), (.slice _ _ _), (.slice _ _ _), (.slice _ _ _), (.slice _ _ _), (.slice _ _ _), (.slice _ _ _)] 41 _), _, _, _, _, (cB [(.int _ _), (.slice _ _ _), (.slice _ _ _), (.slice _ _ _), (.slice _ _ _), (.slice _ _ _), (.slice _ _ _)] 41 _), (cB [(.int _ _), (.int _ _), (.int _ _), (.slice _ _ _)] 91 _)] rfl ?_; refine s_region ?_; refine ov (y_field0 (F := 5) Tryz.runUnderlying41 rfl Tryz.sizeOf38 rfl rfl) ?_; refine ov (y_load Tryz.isAgg38 rfl (cel_own 2 rfl rfl)) ?_; refine ov (y_loads (cs := [_, _, _, _]) Tryz.isAgg91 Tryz.sizeOf91 rfl rfl rfl (cels_own 8 rfl rfl)) ?_; refine o_lit (vs := [(0, .agg #[.int _ _, .int _ _, .int _ _, .slice _ _ _])]) rfl rfl (Unflat_k7 _ _ _ _ _ _) (fun b17 => ?_); refine o_append (sz := 4) (bytes := 48) (news := [(.int _ _), (.int _ _), (.int _ _), (.slice _ _ _)]) 3 rfl Tryz.underlying38 Tryz.type91 rfl rfl rfl rfl rfl hmo rfl rfl (Src.slice Tryz.underlying38 (cels_own 9 rfl rfl) rfl (by simp [Value.oneCell']) (by simp)) (by omega) (fun A18 c19 E20 ho21 hn22 => ?_); have ho23 : OS A18 (u.ms.length + 1) c19 91 4 ((u.ms ++ [(MiR.mk (nxV (nk 0 (miS u.i (mnS (sB ((l, false) : RS)))))) (nxV (nk 1 (miS u.i (mnS (sB ((l, false) : RS)))))) (nxV (nk 2 (miS u.i (mnS (sB ((l, false) : RS)))))) lB (mnV (nk 3 (miS u.i (mnS (sB ((l, false) : RS)))))) le (liV (nk 3 (miS u.i (mnS (sB ((l, false) : RS)))))))]).flatMap encMi) E20 := os_snoc ho21 rfl
   clear ho21
   refine ov (y_field0 (F := 5) Tryz.runUnderlying41 rfl Tryz.sizeOf38 rfl rfl) ?_; refine o_store (v := .slice _ _ _) 2 rfl Tryz.sizeOf38 rfl rfl rfl rfl (o_nil ?_); refine s_norm [_, _, (cB [(.int _ _), (.slice _ _ _), (.slice _ _ _), (.slice _ _ _), (.slice _ _ _), (.slice _ _ _), (.slice _ _ _)] 41 _), _, _, _, _, (cB [(.int _ _), (.slice _ _ _), (.slice _ _ _), (.slice _ _ _), (.slice _ _ _), (.slice _ _ _), (.slice _ _ _)] 41 _), (cB [(.int _ _), (.int _ _), (.int _ _), (.slice _ _ _)] 91 _), (cB [(.int _ _), (.int _ _), (.int _ _), (.slice _ _ _)] 91 _)] rfl ?_; refine s_region ?_; refine o_pull 4 ?_; refine o_pull 2 ?_; refine o_fuse ?_; refine ov (y_add rfl rfl (by simp only [inK]; omega)) ?_; refine ov (y_move (v := .int _ _) rfl) (o_nil ?_); exact ⟨LM5.mk (u.i + 1) (u.ms ++ [(MiR.mk (nxV (nk 0 (miS u.i (mnS (sB ((l, false) : RS)))))) (nxV (nk 1 (miS u.i (mnS (sB ((l, false) : RS)))))) (nxV (nk 2 (miS u.i (mnS (sB ((l, false) : RS)))))) lB (mnV (nk 3 (miS u.i (mnS (sB ((l, false) : RS)))))) le (liV (nk 3 (miS u.i (mnS (sB ((l, false) : RS)))))))]) A18 c19 E20 (lE ++ u.P) m4G, (by first | omega | (dsimp only; omega)), ⟨by dsimp only; omega, by simp only [List.length_append, List.length_singleton]; omega, by dsimp only; rw [List.length_append]; exact ho23, all_snoc (fun x hx => (hmx x hx).sub inG_right) ⟨liV_len _, lo.2.1, Nat.le_trans m4m (by decide), lo.mem.ms inG_left⟩, by show (u.ms ++ [(MiR.mk (nxV (nk 0 (miS u.i (mnS (sB ((l, false) : RS)))))) (nxV (nk 1 (miS u.i (mnS (sB ((l, false) : RS)))))) (nxV (nk 2 (miS u.i (mnS (sB ((l, false) : RS)))))) lB (mnV (nk 3 (miS u.i (mnS (sB ((l, false) : RS)))))) le (liV (nk 3 (miS u.i (mnS (sB ((l, false) : RS)))))))]).map MiR.d = miV u.i (mnS (sB ((l, false) : RS))) ++ [_]; rw [List.map_append, hmd]; rfl, m4⟩, ⟨(congrArg (Value.int .i64) (by (try dsimp only); omega)), hz5 trivial⟩, (by dsimp only; rw [List.length_append]; exact sub_picks [1, 1, 1, 0, 0, 0, 0] rfl)⟩
  ·refine s_exit ?_; refine s_seq ?_; refine s_seq (s_region ?_); have hum : u.i = mnV (sB ((l, false) : RS)) := by omega
   rw [hum] at hmd hr2
   change Rdr V _ (sC ((l, false) : RS)) u.R at hr2
   refine ov (y_move (v := .pointer _) rfl) ?_; refine o_fn 1 (d := 80) rfl Tryz.call41 (ManyR_c MSub.ext hr2) rfl ?_; rintro _ _ ⟨h5G, rfl, h5, rfl⟩; have h5f := mn_few h5; refine ov (y_move (v := .int _ _) rfl) (o_nil ?_); refine s_block ?_; refine s_group ?_; refine s_loopK (γ := LE5) [(2, .pointer _), (3, .int _ _), (4, .pointer _), (5, .pointer _), (80, .int _ _)] [_, _, _, _, _] (fun v => [(81, .int .i64 v.i)]) (fun v => [v.R, (cB [.int .i64 (nxV ((l, false) : RS)), .slice w.kA w.kn w.kc, .slice w.gA w.gn w.gc, .slice w.iA w.iN w.iC, .slice g.A g.cs.length g.c, .slice u.A u.ms.length u.c, .slice v.A v.es.length v.c] 41 b3), v.E]) (fun v => v.i ≤ mnV (sC ((l, false) : RS)) ∧ v.es.length = v.i ∧ OS v.A v.es.length v.c 93 4 ((v.es).flatMap encEv) v.E ∧ v.es = evV v.i (mnS (sC ((l, false) : RS))) ∧ Rdr V b2 (evS v.i (mnS (sC ((l, false) : RS)))) v.R) (fun v => mnV (sC ((l, false) : RS)) - v.i) (LE5.mk 0 [] none 0 [] h5G) (hz6 trivial) (sub_picks [0, 0, 5, 0, 0, 0, 0, 0] rfl) ?_ ?_
   ·exact ⟨Nat.zero_le _, rfl, OS.nil _ _, rfl, h5⟩
   intro v _f hV; refine s_norm _ (by simp only [pull, picks, setG, List.cons_append, List.nil_append, List.append_nil, List.drop_succ_cons, List.drop_zero]; rfl) ?_; obtain ⟨hvi, hvl, hvo, hvd, hr3⟩ := hV; refine s_seq (s_region ?_); refine ov (y_lss rfl rfl) (o_nil ?_); refine s_seq ?_; refine s_if rfl (fun h24 => ?_) (fun h25 => ?_)
   ·refine s_skip ?_; refine s_seq ?_; refine s_block ?_; refine s_seq (s_region ?_); refine ov (y_move (v := .pointer _) rfl) ?_; refine o_fn 1 (d := 84) rfl Tryz.call39 (NextR_c MSub.ext hr3) rfl ?_; rintro _ _ ⟨e1G, rfl, e1, rfl⟩; refine ov (y_build (vs := [(0, .int _ _)]) rfl (Unflat_k8 _)) ?_; refine o_alloc rfl Tryz.zeroValue93 rfl (fun b26 => ?_); refine o_stores (vs := [(.int _ _), (.int _ _), (.int _ _), (.int _ _)]) 8 rfl Tryz.sizeOf93 rfl rfl rfl (by simp [Value.oneCell']) (by simp) (o_nil ?_); refine s_seq (s_region ?_); refine ov (y_move (v := .pointer _) rfl) ?_; refine o_fn 1 (d := 87) rfl Tryz.call39 (NextR_c MSub.ext e1) rfl ?_; rintro _ _ ⟨e2G, rfl, e2, rfl⟩; refine ov (y_move (v := .pointer _) rfl) ?_; refine o_fn 1 (d := 89) rfl Tryz.call39 (NextR_c MSub.ext e2) rfl ?_; rintro _ _ ⟨e3G, rfl, e3, rfl⟩; refine ov (y_build (vs := [(0, .int _ _), (1, .int _ _)]) rfl (Unflat_k5 _ _)) ?_; refine ov (y_field0 (F := 1) Tryz.runUnderlying93 rfl Tryz.sizeOf51 rfl rfl) ?_; refine o_stores (vs := [(.int _ _), (.int _ _)]) 8 rfl Tryz.sizeOf51 rfl rfl rfl (by simp [Value.oneCell']) (by first | (simp; done) | (simp [lay]; done)) (o_nil ?_); refine s_norm [_, (cB [(.int _ _), (.slice _ _ _), (.slice _ _ _), (.slice _ _ _), (.slice _ _ _), (.slice _ _ _), (.slice _ _ _)] 41 _), _, _, _, _, _, (cB [(.int _ _), (.slice _ _ _), (.slice _ _ _), (.slice _ _ _), (.slice _ _ _), (.slice _ _ _), (.slice _ _ _)] 41 _), (cB [(.int _ _), (.int _ _), (.int _ _), (.int _ _)] 93 _)] rfl ?_; refine sf [(2, .pointer _), (3, .int _ _), (4, .pointer _), (5, .pointer _), (8, .pointer _), (80, .int _ _), (81, .int _ _)] (fun _f => ?_); refine s_seq (s_region ?_); refine ov (y_move (v := .pointer _) rfl) ?_; refine o_fn 1 (d := 93) rfl Tryz.call39 (NextR_c MSub.ext e3) rfl ?_; rintro _ _ ⟨e4G, rfl, e4, rfl⟩; refine ov (y_field0 (F := 3) Tryz.runUnderlying93 rfl Tryz.sizeOf3 rfl rfl) ?_; refine o_store (v := .int _ _) 8 rfl Tryz.sizeOf3 rfl rfl rfl rfl (o_nil ?_); refine s_region ?_; refine ov (y_field0 (F := 6) Tryz.runUnderlying41 rfl Tryz.sizeOf39 rfl rfl) ?_; refine ov (y_load Tryz.isAgg39 rfl (cel_own 1 rfl rfl)) ?_; refine ov (y_loads (cs := [_, _, _, _]) Tryz.isAgg93 Tryz.sizeOf93 rfl rfl rfl (cels_own 8 rfl rfl)) ?_; refine o_lit (vs := [(0, .agg #[.int _ _, .int _ _, .int _ _, .int _ _])]) rfl rfl (Unflat_k9 _ _ _ _) (fun b27 => ?_); refine o_append (sz := 4) (bytes := 32) (news := [(.int _ _), (.int _ _), (.int _ _), (.int _ _)]) 2 rfl Tryz.underlying39 Tryz.type93 rfl rfl rfl rfl rfl hvo rfl rfl (Src.slice Tryz.underlying39 (cels_own 9 rfl rfl) rfl (by simp [Value.oneCell']) (by simp)) (by omega) (fun A28 c29 E30 ho31 hn32 => ?_); have ho33 : OS A28 (v.es.length + 1) c29 93 4 ((v.es ++ [(EvR.mk (nxV (nk 0 (evS v.i (mnS (sC ((l, false) : RS)))))) (nxV (nk 1 (evS v.i (mnS (sC ((l, false) : RS)))))) (nxV (nk 2 (evS v.i (mnS (sC ((l, false) : RS)))))) (nxV (nk 3 (evS v.i (mnS (sC ((l, false) : RS)))))))]).flatMap encEv) E30 := os_snoc ho31 rfl
    clear ho31
    refine ov (y_field0 (F := 6) Tryz.runUnderlying41 rfl Tryz.sizeOf39 rfl rfl) ?_; refine o_store (v := .slice _ _ _) 1 rfl Tryz.sizeOf39 rfl rfl rfl rfl (o_nil ?_); refine s_norm [_, (cB [(.int _ _), (.slice _ _ _), (.slice _ _ _), (.slice _ _ _), (.slice _ _ _), (.slice _ _ _), (.slice _ _ _)] 41 _), _, _, _, _, _, (cB [(.int _ _), (.slice _ _ _), (.slice _ _ _), (.slice _ _ _), (.slice _ _ _), (.slice _ _ _), (.slice _ _ _)] 41 _), (cB [(.int _ _), (.int _ _), (.int _ _), (.int _ _)] 93 _), (cB [(.int _ _), (.int _ _), (.int _ _), (.int _ _)] 93 _)] rfl ?_; refine s_region ?_; refine ov (y_add rfl rfl (by simp only [inK]; omega)) ?_; refine ov (y_move (v := .int _ _) rfl) (o_nil ?_); exact ⟨LE5.mk (v.i + 1) (v.es ++ [(EvR.mk (nxV (nk 0 (evS v.i (mnS (sC ((l, false) : RS)))))) (nxV (nk 1 (evS v.i (mnS (sC ((l, false) : RS)))))) (nxV (nk 2 (evS v.i (mnS (sC ((l, false) : RS)))))) (nxV (nk 3 (evS v.i (mnS (sC ((l, false) : RS)))))))]) A28 c29 E30 e4G, (by first | omega | (dsimp only; omega)), ⟨by dsimp only; omega, by simp only [List.length_append, List.length_singleton]; omega, by dsimp only; rw [List.length_append]; exact ho33, by show v.es ++ [_] = evV v.i (mnS (sC ((l, false) : RS))) ++ [_]; rw [← hvd], e4⟩, ⟨(congrArg (Value.int .i64) (by (try dsimp only); omega)), hz5 trivial⟩, (by dsimp only; rw [List.length_append]; exact sub_picks [0, 0, 0, 0, 0, 0, 0, 0] rfl)⟩
   ·refine s_exit ?_; refine s_seq ?_; refine s_seq (s_region ?_); have hvm : v.i = mnV (sC ((l, false) : RS)) := by omega
    rw [hvm] at hvd hr3; have hr4 : Rdr V b2 (sD ((l, false) : RS)) v.R := hr3; obtain ⟨rA, rn, rc, hrE, hrn, hrc, hrb, hrh⟩ := hr4; rw [hrE]; refine ov (y_move (v := .pointer _) rfl) ?_; refine ov (y_nilCheck rfl) ?_; refine ov (y_field0 (F := 1) Tryz.runUnderlying104 rfl Tryz.sizeOf4 rfl rfl) ?_; refine o_splitb rfl rfl rfl (y_load Tryz.isAgg4 rfl (cel_own 0 rfl rfl)) (fun p34 => ?_) (fun p35 => ?_)
    ·have hbad : stBad ((l, false) : RS) := .inl p34; refine ov (y_move (v := .bool _) rfl) ?_; refine gn ?_; refine gn ?_; refine gn ?_; refine gn ?_; refine gn ?_; refine gn ?_; refine ov (y_pick_t (v := .bool _) rfl rfl) (o_nil ?_); refine sf [(2, .pointer _), (3, .int _ _), (5, .pointer _), (113, .bool _)] (fun _f => ?_); refine s_then rfl ?_; refine s_seq (s_region ?_); refine ov (y_build (vs := []) rfl (Unflat_k10)) ?_; refine o_stores (vs := [(.int _ _), (.slice _ _ _), (.slice _ _ _), (.slice _ _ _), (.slice _ _ _), (.slice _ _ _), (.slice _ _ _)]) 7 rfl Tryz.sizeOf41 rfl rfl rfl (by simp [Value.oneCell']) (by simp) ?_; refine ov (y_assign (v := .int _ _) rfl) (o_nil ?_); refine s_ret ?_; exact ⟨_, [], resv2 rfl (RV.cells (cs := [_, _, _, _, _, _, _]) rfl Tryz.isAgg41 Tryz.sizeOf41 rfl rfl (cels_own 7 rfl rfl)) (RV.tmp rfl), .inl ⟨hbad, rfl, rfl⟩, sub_picks [] rfl⟩
    ·have hb2 := p35; refine ov (y_move (v := .bool _) rfl) ?_; refine o_guard_yes rfl rfl ?_; refine ov (y_move (v := .pointer _) rfl) ?_; refine o_guard_yes rfl rfl ?_; refine ov (y_nilCheck rfl) ?_; refine o_guard_yes rfl rfl ?_; refine ov (y_field0 (F := 0) Tryz.runUnderlying104 rfl Tryz.sizeOf22 rfl rfl) ?_; refine o_guard_yes rfl rfl ?_; refine ov (y_load Tryz.isAgg22 rfl (cel_own 0 rfl rfl)) ?_; refine o_guard_yes rfl rfl ?_; refine ov (y_len Tryz.runUnderlying22 rfl) ?_; refine o_guard_yes rfl rfl ?_; refine ov (y_gtr rfl rfl) ?_; refine ov (y_pick_f (v := .bool _) rfl rfl) (o_nil ?_); refine sf [(2, .pointer _), (3, .int _ _), (5, .pointer _), (113, .bool _)] (fun _f => ?_); refine s_if rfl (fun h36 => ?_) (fun h37 => ?_)
     ·have hbad : stBad ((l, false) : RS) := .inr (by have := h36; omega); refine s_seq (s_region ?_); refine ov (y_build (vs := []) rfl (Unflat_k10)) ?_; refine o_stores (vs := [(.int _ _), (.slice _ _ _), (.slice _ _ _), (.slice _ _ _), (.slice _ _ _), (.slice _ _ _), (.slice _ _ _)]) 7 rfl Tryz.sizeOf41 rfl rfl rfl (by simp [Value.oneCell']) (by simp) ?_; refine ov (y_assign (v := .int _ _) rfl) (o_nil ?_); refine s_ret ?_; exact ⟨_, [], resv2 rfl (RV.cells (cs := [_, _, _, _, _, _, _]) rfl Tryz.isAgg41 Tryz.sizeOf41 rfl rfl (cels_own 7 rfl rfl)) (RV.tmp rfl), .inl ⟨hbad, rfl, rfl⟩, sub_picks [] rfl⟩
     ·have hbad : ¬ stBad ((l, false) : RS) := fun hh => hh.elim (fun h => by rw [h] at hb2; cases hb2) (fun h => by omega); refine s_skip ?_; refine s_seq (s_region ?_); refine ov (y_loads (cs := [_, _, _, _, _, _, _]) Tryz.isAgg41 Tryz.sizeOf41 rfl rfl rfl (cels_own 1 rfl rfl)) ?_; refine o_stores (vs := [(.int _ _), (.slice _ _ _), (.slice _ _ _), (.slice _ _ _), (.slice _ _ _), (.slice _ _ _), (.slice _ _ _)]) 7 rfl Tryz.sizeOf41 rfl rfl rfl (by simp [Value.oneCell']) (by simp) ?_; refine ov (y_assign (v := .int _ _) rfl) (o_nil ?_); refine s_ret ?_; have hall : ∀ (X : Grp), X ∈ [wP, g.E, u.E, u.P, v.E] → MSub (inG X) (inG ([wP, g.E, u.E, u.P, v.E] : List Grp).flatten) := fun X hX => inG_mem hX; exact ⟨_, [([wP, g.E, u.E, u.P, v.E] : List Grp).flatten], resv2 rfl (RV.cells (cs := [_, _, _, _, _, _, _]) rfl Tryz.isAgg41 Tryz.sizeOf41 rfl rfl (cels_own 7 rfl rfl)) (RV.tmp rfl), .inr ⟨hbad, ⟨_, w, g.A, g.cs.length, g.c, g.cs, u.A, u.ms.length, u.c, u.ms, v.A, v.es.length, v.c, v.es⟩, _, rfl, ⟨hwo.sub (hall _ (by simp)), ⟨rfl, hco.2.1, by dsimp only; omega, hco.mem.ms (hall _ (by simp))⟩, ⟨rfl, hmo.2.1, by dsimp only; omega, hmo.mem.ms (hall _ (by simp)), fun x hx => (hmx x hx).sub (hall _ (by simp))⟩, ⟨rfl, hvo.2.1, by dsimp only; omega, hvo.mem.ms (hall _ (by simp))⟩⟩, Prod.ext rfl (Prod.ext hwd (Prod.ext hcd (Prod.ext hmd hvd))), rfl⟩, Sub.trans (L' := [wP, g.E, u.E, u.P, v.E]) sub_flat (sub_picks [6, 5, 3, 3, 2] rfl)⟩

end Go.Proofs.YtlkajdcgdoijjaaGreatDoor.K
end
section
set_option linter.unusedVariables false
set_option linter.unusedSimpArgs false
set_option maxRecDepth 100000
namespace Go.Proofs.YtlkajdcgdoijjaaGreatDoor.K
open Go.RowKit

def dK (k : ByteArray × List FR) : List Int := flT k.1 ++ (k.2.length : Int) :: k.2.flatMap flF
def dC (c : Int × List Int) : List Int := c.1 :: (c.2.length : Int) :: c.2
def dI (i : Int × Int × List (Int × List Int)) : List Int := i.1 :: i.2.1 :: (i.2.2.length : Int) :: i.2.2.flatMap dC
def dW (w : List (ByteArray × List FR) × List Int × List (Int × Int × List (Int × List Int))) : List Int := (w.1.length : Int) :: (w.1.flatMap dK ++ (w.2.1.length : Int) :: (w.2.1 ++ (w.2.2.length : Int) :: w.2.2.flatMap dI))
def dM (m : Int × Int × Int × List Int) : List Int := m.1 :: m.2.1 :: m.2.2.1 :: (m.2.2.2.length : Int) :: m.2.2.2
/-- The numbers of a state, told from what it says alone. -/
def dS (s : StD) : List Int := s.1 :: (dW s.2.1 ++ (s.2.2.1.length : Int) :: (s.2.2.1.flatMap flCo ++ (s.2.2.2.1.length : Int) :: (s.2.2.2.1.flatMap dM ++ (s.2.2.2.2.length : Int) :: s.2.2.2.2.flatMap flE)))
theorem flat_d {α β : Type} {f : α → List Int} {g : β → List Int} {d : α → β} : ∀ {xs : List α}, (∀ x ∈ xs, f x = g (d x)) → xs.flatMap f = (xs.map d).flatMap g
 | [], _ => rfl
 | x :: xs, h => by
  simp only [List.flatMap_cons, List.map_cons]; rw [h x List.mem_cons_self, flat_d fun y hy => h y (List.mem_cons_of_mem _ hy)]
theorem flK_d {V : Mem} {k : KR} (h : KOK V k) : flK k = dK k.d := by unfold flK dK KR.d; rw [h.1]
theorem flC_d {V : Mem} {c : CR} (h : COK V c) : flC c = dC c.d := by unfold flC dC CR.d; rw [h.1]
theorem flI_d {V : Mem} {i : IR} (h : IOK V i) : flI i = dI i.d := by
 unfold flI dI IR.d; dsimp only; rw [flat_d (g := dC) (d := CR.d) fun c hc => flC_d (h.2.2.2.2 c hc), List.length_map, h.1]
theorem flW_d {V : Mem} {w : WR} (h : WOK V w) : flW w = dW w.d := by
 obtain ⟨h1, h2, h3⟩ := h; unfold flW dW WR.d; dsimp only; rw [flat_d (g := dK) (d := KR.d) fun c hc => flK_d (h1.2.2.2.2 c hc), flat_d (g := dI) (d := IR.d) fun c hc => flI_d (h3.2.2.2.2 c hc), List.length_map, List.length_map, h1.1, h2.1, h3.1]
theorem flM_d {V : Mem} {m : MiR} (h : MOK V m) : flM m = dM m.d := by unfold flM dM MiR.d; rw [h.1]
theorem flS_d {V : Mem} {s : StR} (h : StOK V s) : flS s = dS s.d := by
 obtain ⟨h1, h2, h3, h4⟩ := h; unfold flS dS StR.d; dsimp only; rw [flW_d h1, flat_d (g := dM) (d := MiR.d) fun c hc => flM_d (h3.2.2.2.2 c hc), List.length_map, h2.1, h3.1, h4.1]
theorem rd_nx {a : Int} {t : List Int} {b : Bool} : nxS (a :: t, b) = (t, b) ∧ nxV (a :: t, b) = a := ⟨by simp [nxS], rfl⟩
theorem rd_mn {n : Nat} {t : List Int} {b : Bool} (h : n ≤ t.length) : mnS ((n : Int) :: t, b) = (t, b) ∧ mnV ((n : Int) :: t, b) = n := by
 have hp : ¬ mnP ((n : Int) :: t, b) := by unfold mnP nxV; simp only [List.headD_cons, List.tail_cons]; omega
 refine ⟨?_, ?_⟩
 ·unfold mnS; rw [if_neg hp]; simp
 ·unfold mnV; rw [if_neg hp]; simp [nxV]
theorem rd_li {xs t : List Int} {b : Bool} : liS ((xs.length : Int) :: (xs ++ t), b) = (t, b) ∧ liV ((xs.length : Int) :: (xs ++ t), b) = xs := by
 have h := rd_mn (n := xs.length) (t := xs ++ t) (b := b) (by simp); unfold liS liV; rw [h.1, h.2]; simp
theorem any_bad {s : ByteArray} : (bts s).any badB = false := by
 rw [List.any_eq_false]; intro x hx; have := bts_bd x hx; unfold badB; rw [decide_eq_false (by omega), decide_eq_false (by omega)]; simp
theorem rd_tx {s : ByteArray} {t : List Int} {b : Bool} : txS (flT s ++ t, b) = (t, b) ∧ txV (flT s ++ t, b) = s := by
 have e : (flT s ++ t, b) = ((((bts s).length : Nat) : Int) :: (bts s ++ t), b) := by unfold flT; rw [bts_len]; rfl
 rw [e]; have h := rd_li (xs := bts s) (t := t) (b := b); unfold txS txV; rw [h.1, h.2, any_bad]; refine ⟨by simp, ?_⟩; have : (bts s).map IntKind.u8.wrap = bts s := by
  conv => rhs; rw [← List.map_id (bts s)]
  apply List.map_congr_left
  intro x hx; have := bts_bd x hx; exact wrap_in (by simp only [inK]; omega)
 rw [this, mkB_bts]
theorem rd_all {β : Type} {f : β → List Int} {st : RS → RS} {val : RS → β} {S : Nat → RS → RS} {W : Nat → RS → List β} (h0 : ∀ s, S 0 s = s) (h1 : ∀ s, W 0 s = []) (h2 : ∀ i s, S (i + 1) s = st (S i s)) (h3 : ∀ i s, W (i + 1) s = W i s ++ [val (S i s)])
  {xs : List β} (hx : ∀ x ∈ xs, ∀ t b, st (f x ++ t, b) = (t, b) ∧ val (f x ++ t, b) = x) (t : List Int) (b : Bool) : S xs.length (xs.flatMap f ++ t, b) = (t, b) ∧ W xs.length (xs.flatMap f ++ t, b) = xs := by
 have key : ∀ i, i ≤ xs.length → S i (xs.flatMap f ++ t, b) = ((xs.drop i).flatMap f ++ t, b) ∧ W i (xs.flatMap f ++ t, b) = xs.take i := by
  intro i
  induction i with
  | zero => intro _; exact ⟨by rw [h0]; rfl, by rw [h1]; rfl⟩
  | succ i ih =>
   intro hi; obtain ⟨a1, a2⟩ := ih (by omega); have hd : xs.drop i = xs[i] :: xs.drop (i + 1) := List.drop_eq_getElem_cons (by omega); have hx1 := hx xs[i] (List.getElem_mem _) ((xs.drop (i + 1)).flatMap f ++ t) b; rw [h2, h3, a1, a2, hd, List.flatMap_cons, List.append_assoc]; refine ⟨hx1.1, ?_⟩; rw [hx1.2, List.take_succ_eq_append_getElem]
 have := key xs.length (Nat.le_refl _); rw [List.drop_length, List.take_length] at this; exact this
theorem flat_ge {β : Type} {f : β → List Int} : ∀ {xs : List β}, (∀ x, 1 ≤ (f x).length) → xs.length ≤ (xs.flatMap f).length
 | [], _ => Nat.le_refl _
 | x :: xs, h => by
  have h1 := h x; have h2 := flat_ge (xs := xs) h; simp only [List.flatMap_cons, List.length_append, List.length_cons]; omega
theorem rd_fld (fs : List FR) (t : List Int) (b : Bool) : fldS fs.length (fs.flatMap flF ++ t, b) = (t, b) ∧ fldV fs.length (fs.flatMap flF ++ t, b) = fs :=
 rd_all (f := flF) (st := fun s => nxS (nxS (txS s))) (val := fun s => ⟨txV s, nxV (txS s), nxV (nxS (txS s))⟩) (S := fldS) (W := fldV) (fun _ => rfl) (fun _ => rfl) (fun _ _ => rfl) (fun _ _ => rfl) (fun x _ t b => by
  unfold flF; rw [List.append_assoc, (rd_tx (s := x.name)).1, (rd_tx (s := x.name)).2]; refine ⟨?_, ?_⟩
  ·show nxS (nxS (x.bits :: x.low :: t, b)) = _
   rw [rd_nx.1, rd_nx.1]
  ·show (⟨_, nxV (x.bits :: x.low :: t, b), nxV (nxS (x.bits :: x.low :: t, b))⟩ : FR) = x
   rw [rd_nx.1]; rfl) t b
theorem rd_kd (ks : List (ByteArray × List FR)) (t : List Int) (b : Bool) : kdS ks.length (ks.flatMap dK ++ t, b) = (t, b) ∧ kdV ks.length (ks.flatMap dK ++ t, b) = ks :=
 rd_all (f := dK) (st := fun s => fldS (mnV (txS s)) (mnS (txS s))) (val := fun s => (txV s, fldV (mnV (txS s)) (mnS (txS s)))) (S := kdS) (W := kdV) (fun _ => rfl) (fun _ => rfl) (fun _ _ => rfl) (fun _ _ => rfl) (fun x _ t b => by
  unfold dK; rw [List.append_assoc, (rd_tx (s := x.1)).1, (rd_tx (s := x.1)).2, List.cons_append]; have hm := rd_mn (n := x.2.length) (t := x.2.flatMap flF ++ t) (b := b) (by have := flat_ge (f := flF) (xs := x.2) (fun f => by rw [flF_len]; omega); rw [List.length_append]; omega); rw [hm.1, hm.2, (rd_fld _ _ _).1, (rd_fld _ _ _).2]; exact ⟨rfl, rfl⟩) t b
theorem rd_cp (cs : List (Int × List Int)) (t : List Int) (b : Bool) : cpS cs.length (cs.flatMap dC ++ t, b) = (t, b) ∧ cpV cs.length (cs.flatMap dC ++ t, b) = cs :=
 rd_all (f := dC) (st := fun s => liS (nxS s)) (val := fun s => (nxV s, liV (nxS s))) (S := cpS) (W := cpV) (fun _ => rfl) (fun _ => rfl) (fun _ _ => rfl) (fun _ _ => rfl) (fun x _ t b => by
  unfold dC; rw [List.cons_append, List.cons_append, rd_nx.1, rd_nx.2, rd_li.1, rd_li.2]; exact ⟨rfl, rfl⟩) t b
theorem rd_it (is : List (Int × Int × List (Int × List Int))) (t : List Int) (b : Bool) : itS is.length (is.flatMap dI ++ t, b) = (t, b) ∧ itV is.length (is.flatMap dI ++ t, b) = is :=
 rd_all (f := dI) (st := fun s => cpS (mnV (nxS (nxS s))) (mnS (nxS (nxS s)))) (val := fun s => (nxV s, nxV (nxS s), cpV (mnV (nxS (nxS s))) (mnS (nxS (nxS s))))) (S := itS) (W := itV) (fun _ => rfl) (fun _ => rfl) (fun _ _ => rfl) (fun _ _ => rfl) (fun x _ t b => by
  unfold dI; rw [List.cons_append, List.cons_append, List.cons_append]; have hm := rd_mn (n := x.2.2.length) (t := x.2.2.flatMap dC ++ t) (b := b) (by have := flat_ge (f := dC) (xs := x.2.2) (fun f => by unfold dC; simp); rw [List.length_append]; omega); rw [rd_nx.1, rd_nx.1, rd_nx.2, rd_nx.2, hm.1, hm.2, (rd_cp _ _ _).1, (rd_cp _ _ _).2]; exact ⟨rfl, rfl⟩) t b
theorem rd_wd (w : List (ByteArray × List FR) × List Int × List (Int × Int × List (Int × List Int))) (t : List Int) (b : Bool) : wdS (dW w ++ t, b) = (t, b) ∧ wdV (dW w ++ t, b) = w := by
 have e : dW w ++ t = (w.1.length : Int) :: (w.1.flatMap dK ++ ((w.2.1.length : Int) :: (w.2.1 ++ ((w.2.2.length : Int) :: (w.2.2.flatMap dI ++ t))))) := by
  unfold dW; simp only [List.cons_append, List.append_assoc]
 rw [e]; have hm := rd_mn (n := w.1.length) (t := w.1.flatMap dK ++ ((w.2.1.length : Int) :: (w.2.1 ++ ((w.2.2.length : Int) :: (w.2.2.flatMap dI ++ t))))) (b := b) (by have := flat_ge (f := dK) (xs := w.1) (fun f => by unfold dK; rw [List.length_append, flT_len]; omega); rw [List.length_append]; omega); have hn := rd_mn (n := w.2.2.length) (t := w.2.2.flatMap dI ++ t) (b := b) (by have := flat_ge (f := dI) (xs := w.2.2) (fun f => by unfold dI; simp); rw [List.length_append]; omega); unfold wdS wdV wdA; rw [hm.1, hm.2, (rd_kd _ _ _).1, (rd_kd _ _ _).2, rd_li.1, rd_li.2, hn.1, hn.2, (rd_it _ _ _).1, (rd_it _ _ _).2]; exact ⟨rfl, rfl⟩
theorem rd_co (cs : List CoR) (t : List Int) (b : Bool) : coS cs.length (cs.flatMap flCo ++ t, b) = (t, b) ∧ coV cs.length (cs.flatMap flCo ++ t, b) = cs :=
 rd_all (f := flCo) (st := nk 10) (val := fun s => ⟨nxV (nk 0 s), nxV (nk 1 s), nxV (nk 2 s), nxV (nk 3 s), nxV (nk 4 s), nxV (nk 5 s), nxV (nk 6 s), nxV (nk 7 s), nxV (nk 8 s), nxV (nk 9 s)⟩) (S := coS) (W := coV) (fun _ => rfl) (fun _ => rfl) (fun _ _ => rfl) (fun _ _ => rfl) (fun x _ t b => by
  unfold flCo; simp only [List.cons_append, List.nil_append, nk, rd_nx.1, rd_nx.2]; exact ⟨trivial, trivial⟩) t b
theorem rd_mi (ms : List (Int × Int × Int × List Int)) (t : List Int) (b : Bool) : miS ms.length (ms.flatMap dM ++ t, b) = (t, b) ∧ miV ms.length (ms.flatMap dM ++ t, b) = ms :=
 rd_all (f := dM) (st := fun s => liS (nk 3 s)) (val := fun s => (nxV (nk 0 s), nxV (nk 1 s), nxV (nk 2 s), liV (nk 3 s))) (S := miS) (W := miV) (fun _ => rfl) (fun _ => rfl) (fun _ _ => rfl) (fun _ _ => rfl) (fun x _ t b => by
  unfold dM; simp only [List.cons_append, List.nil_append, nk, rd_nx.1, rd_nx.2, rd_li.1, rd_li.2]; exact ⟨trivial, trivial⟩) t b
theorem rd_ev (es : List EvR) (t : List Int) (b : Bool) : evS es.length (es.flatMap flE ++ t, b) = (t, b) ∧ evV es.length (es.flatMap flE ++ t, b) = es :=
 rd_all (f := flE) (st := nk 4) (val := fun s => ⟨nxV (nk 0 s), nxV (nk 1 s), nxV (nk 2 s), nxV (nk 3 s)⟩) (S := evS) (W := evV) (fun _ => rfl) (fun _ => rfl) (fun _ _ => rfl) (fun _ _ => rfl) (fun x _ t b => by
  unfold flE; simp only [List.cons_append, List.nil_append, nk, rd_nx.1, rd_nx.2]; exact ⟨trivial, trivial⟩) t b
/-- What Flat wrote, Unflat reads. -/
theorem st_back (s : StD) : ¬ stBad (dS s, false) ∧ stV (dS s, false) = s := by
 have hc := rd_mn (n := s.2.2.1.length) (t := s.2.2.1.flatMap flCo ++ ((s.2.2.2.1.length : Int) :: (s.2.2.2.1.flatMap dM ++ (s.2.2.2.2.length : Int) :: s.2.2.2.2.flatMap flE))) (b := false) (by have := flat_ge (f := flCo) (xs := s.2.2.1) (fun f => by unfold flCo; simp); rw [List.length_append]; omega); have hm := rd_mn (n := s.2.2.2.1.length) (t := s.2.2.2.1.flatMap dM ++ (s.2.2.2.2.length : Int) :: s.2.2.2.2.flatMap flE) (b := false) (by have := flat_ge (f := dM) (xs := s.2.2.2.1) (fun f => by unfold dM; simp); rw [List.length_append]; omega); have he := rd_mn (n := s.2.2.2.2.length) (t := s.2.2.2.2.flatMap flE ++ []) (b := false) (by have := flat_ge (f := flE) (xs := s.2.2.2.2) (fun f => by unfold flE; simp); rw [List.length_append]; omega); rw [List.append_nil] at he; have ee := rd_ev s.2.2.2.2 [] false; rw [List.append_nil] at ee; have e0 : nxS (dS s, false) = (dW s.2.1 ++ ((s.2.2.1.length : Int) :: (s.2.2.1.flatMap flCo ++ ((s.2.2.2.1.length : Int) :: (s.2.2.2.1.flatMap dM ++ (s.2.2.2.2.length : Int) :: s.2.2.2.2.flatMap flE)))), false) := by unfold dS; exact rd_nx.1
 have e1 : sA (dS s, false) = ((s.2.2.1.length : Int) :: (s.2.2.1.flatMap flCo ++ ((s.2.2.2.1.length : Int) :: (s.2.2.2.1.flatMap dM ++ (s.2.2.2.2.length : Int) :: s.2.2.2.2.flatMap flE))), false) := by unfold sA; rw [e0, (rd_wd _ _ _).1]
 have e2 : sB (dS s, false) = ((s.2.2.2.1.length : Int) :: (s.2.2.2.1.flatMap dM ++ (s.2.2.2.2.length : Int) :: s.2.2.2.2.flatMap flE), false) := by unfold sB; rw [e1, hc.1, hc.2, (rd_co _ _ _).1]
 have e3 : sC (dS s, false) = ((s.2.2.2.2.length : Int) :: s.2.2.2.2.flatMap flE, false) := by unfold sC; rw [e2, hm.1, hm.2, (rd_mi _ _ _).1]
 have e4 : sD (dS s, false) = ([], false) := by unfold sD; rw [e3, he.1, he.2, ee.1]
 refine ⟨?_, ?_⟩
 ·unfold stBad; rw [e4]; simp
 ·unfold stV; rw [e3, e2, e1, e0, he.1, he.2, ee.2, hm.1, hm.2, (rd_mi _ _ _).2, hc.1, hc.2, (rd_co _ _ _).2, (rd_wd _ _ _).2]
  rfl

end Go.Proofs.YtlkajdcgdoijjaaGreatDoor.K
end
section
set_option linter.unusedVariables false
set_option linter.unusedSimpArgs false
set_option maxRecDepth 100000
namespace Go.Proofs.YtlkajdcgdoijjaaGreatDoor.K
open Go.RowKit

/-- What a reader took, if nothing was amiss. -/
def Ex (s s' : RS) (out : List Int) : Prop := s'.2 = false → s.2 = false ∧ s.1 = out ++ s'.1
theorem Ex.trans {s s' s'' : RS} {a b : List Int} (h1 : Ex s s' a) (h2 : Ex s' s'' b) : Ex s s'' (a ++ b) := fun h => by
 obtain ⟨h3, h4⟩ := h2 h; obtain ⟨h5, h6⟩ := h1 h3; exact ⟨h5, by rw [h6, h4, List.append_assoc]⟩
theorem Ex.eq {s s' : RS} {a b : List Int} (h : Ex s s' a) (e : a = b) : Ex s s' b := e ▸ h
theorem ex_nx (s : RS) : Ex s (nxS s) [nxV s] := fun h => by
 obtain ⟨l, b⟩ := s
 cases l with
 | nil => simp [nxS] at h
 | cons x l => simp only [nxS, List.isEmpty_cons, Bool.or_false] at h; exact ⟨h, rfl⟩
theorem ex_mn (s : RS) : Ex s (mnS s) [(mnV s : Int)] := fun h => by
 obtain ⟨l, b⟩ := s
 by_cases hp : mnP (l, b)
 ·unfold mnS at h; rw [if_pos hp] at h; cases h
 ·unfold mnS at h ⊢; rw [if_neg hp] at h ⊢; unfold mnV; rw [if_neg hp]
  cases l with
  | nil => simp at h
  | cons x l =>
   simp only [List.isEmpty_cons, Bool.or_false] at h; unfold mnP nxV at hp; simp only [List.headD_cons, List.tail_cons] at hp; refine ⟨h, ?_⟩
   show x :: l = ((x.toNat : Nat) : Int) :: l
   rw [Int.toNat_of_nonneg (by omega)]
theorem mn_tail (s : RS) : (mnS s).1 = s.1.tail := by unfold mnS; rfl
theorem ex_li (s : RS) : Ex s (liS s) ((mnV s : Int) :: liV s) := fun h => by
 obtain ⟨h1, h2⟩ := ex_mn s h; refine ⟨h1, ?_⟩; rw [h2]
 show (mnV s : Int) :: (mnS s).1 = (mnV s : Int) :: (liV s ++ (liS s).1)
 rw [mn_tail]; unfold liV liS; rw [List.take_append_drop]
theorem bts_push : ∀ (bs : List Int) (r : ByteArray), bts (bs.foldl (fun r n => r.push (UInt8.ofNat n.toNat)) r) = bts r ++ bs.map fun n => ((UInt8.ofNat n.toNat).toNat : Int)
 | [], r => by simp
 | n :: bs, r => by
  rw [List.foldl_cons, bts_push bs]; simp [bts, ByteArray.push]
theorem bts_mk {l : List Int} (h : l.any badB = false) : bts (mkB (l.map IntKind.u8.wrap)) = l := by
 unfold mkB; rw [bts_push, List.map_map]; have h0 : bts ByteArray.empty = [] := rfl; rw [h0, List.nil_append]
 conv => rhs; rw [← List.map_id l]
 apply List.map_congr_left
 intro x hx; have hb := (List.any_eq_false.1 h) x hx; unfold badB at hb; simp only [Bool.or_eq_true, decide_eq_true_eq, not_or] at hb
 show ((UInt8.ofNat (IntKind.u8.wrap x).toNat).toNat : Int) = x
 rw [wrap_in (k := .u8) (by simp only [inK]; omega)]; have : x.toNat < 256 := by omega
 rw [UInt8.toNat_ofNat']; omega
theorem ex_tx (s : RS) : Ex s (txS s) (flT (txV s)) := fun h => by
 unfold txS at h ⊢; simp only [Bool.or_eq_false_iff] at h; obtain ⟨h1, h2⟩ := ex_li s h.1; refine ⟨h1, ?_⟩; rw [h2]; have hb := bts_mk h.2; have hl : (txV s).size = mnV s := by rw [← bts_len]; unfold txV; rw [hb, liV_len]
 have hf : flT (txV s) = (mnV s : Int) :: liV s := by unfold flT; rw [hl]; unfold txV; rw [hb]
 rw [hf]
theorem ex_all {β : Type} {f : β → List Int} {st : RS → RS} {val : RS → β} {S : Nat → RS → RS} {W : Nat → RS → List β} (h0 : ∀ s, S 0 s = s) (h1 : ∀ s, W 0 s = []) (h2 : ∀ i s, S (i + 1) s = st (S i s)) (h3 : ∀ i s, W (i + 1) s = W i s ++ [val (S i s)])
  (hx : ∀ s, Ex s (st s) (f (val s))) (k : Nat) (s : RS) : Ex s (S k s) ((W k s).flatMap f) ∧ (W k s).length = k := by
 induction k with
 | zero => rw [h0, h1]; exact ⟨fun h => ⟨h, rfl⟩, rfl⟩
 | succ k ih =>
  rw [h2, h3]; refine ⟨(ih.1.trans (hx _)).eq (by simp), by simp [ih.2]⟩
theorem ex_fld (k : Nat) (s : RS) : Ex s (fldS k s) ((fldV k s).flatMap flF) ∧ (fldV k s).length = k :=
 ex_all (f := flF) (st := fun s => nxS (nxS (txS s))) (val := fun s => ⟨txV s, nxV (txS s), nxV (nxS (txS s))⟩) (S := fldS) (W := fldV) (fun _ => rfl) (fun _ => rfl) (fun _ _ => rfl) (fun _ _ => rfl) (fun s => (((ex_tx s).trans (ex_nx _)).trans (ex_nx _)).eq (by simp [flF])) k s
theorem ex_kd (k : Nat) (s : RS) : Ex s (kdS k s) ((kdV k s).flatMap dK) ∧ (kdV k s).length = k :=
 ex_all (f := dK) (st := fun s => fldS (mnV (txS s)) (mnS (txS s))) (val := fun s => (txV s, fldV (mnV (txS s)) (mnS (txS s)))) (S := kdS) (W := kdV) (fun _ => rfl) (fun _ => rfl) (fun _ _ => rfl) (fun _ _ => rfl) (fun s => (((ex_tx s).trans (ex_mn _)).trans (ex_fld _ _).1).eq (by simp [dK, (ex_fld _ _).2])) k s
theorem ex_cp (k : Nat) (s : RS) : Ex s (cpS k s) ((cpV k s).flatMap dC) ∧ (cpV k s).length = k :=
 ex_all (f := dC) (st := fun s => liS (nxS s)) (val := fun s => (nxV s, liV (nxS s))) (S := cpS) (W := cpV) (fun _ => rfl) (fun _ => rfl) (fun _ _ => rfl) (fun _ _ => rfl) (fun s => ((ex_nx s).trans (ex_li _)).eq (by simp [dC, liV_len])) k s
theorem ex_it (k : Nat) (s : RS) : Ex s (itS k s) ((itV k s).flatMap dI) ∧ (itV k s).length = k :=
 ex_all (f := dI) (st := fun s => cpS (mnV (nxS (nxS s))) (mnS (nxS (nxS s)))) (val := fun s => (nxV s, nxV (nxS s), cpV (mnV (nxS (nxS s))) (mnS (nxS (nxS s))))) (S := itS) (W := itV) (fun _ => rfl) (fun _ => rfl) (fun _ _ => rfl) (fun _ _ => rfl) (fun s => ((((ex_nx s).trans (ex_nx _)).trans (ex_mn _)).trans (ex_cp _ _).1).eq (by simp [dI, (ex_cp _ _).2])) k s
theorem ex_wd (s : RS) : Ex s (wdS s) (dW (wdV s)) := by
 refine (((((ex_mn s).trans (ex_kd (mnV s) (mnS s)).1).trans (ex_li _)).trans (ex_mn _)).trans (ex_it _ _).1).eq ?_; unfold dW wdV wdA; simp [(ex_kd _ _).2, (ex_it _ _).2, liV_len]
theorem ex_co (k : Nat) (s : RS) : Ex s (coS k s) ((coV k s).flatMap flCo) ∧ (coV k s).length = k :=
 ex_all (f := flCo) (st := nk 10) (val := fun s => ⟨nxV (nk 0 s), nxV (nk 1 s), nxV (nk 2 s), nxV (nk 3 s), nxV (nk 4 s), nxV (nk 5 s), nxV (nk 6 s), nxV (nk 7 s), nxV (nk 8 s), nxV (nk 9 s)⟩) (S := coS) (W := coV) (fun _ => rfl) (fun _ => rfl) (fun _ _ => rfl) (fun _ _ => rfl)
  (fun s => ((((((((((ex_nx s).trans (ex_nx _)).trans (ex_nx _)).trans (ex_nx _)).trans (ex_nx _)).trans (ex_nx _)).trans (ex_nx _)).trans (ex_nx _)).trans (ex_nx _)).trans (ex_nx _)).eq rfl) k s
theorem ex_mi (k : Nat) (s : RS) : Ex s (miS k s) ((miV k s).flatMap dM) ∧ (miV k s).length = k :=
 ex_all (f := dM) (st := fun s => liS (nk 3 s)) (val := fun s => (nxV (nk 0 s), nxV (nk 1 s), nxV (nk 2 s), liV (nk 3 s))) (S := miS) (W := miV) (fun _ => rfl) (fun _ => rfl) (fun _ _ => rfl) (fun _ _ => rfl)
  (fun s => ((((ex_nx s).trans (ex_nx _)).trans (ex_nx _)).trans (ex_li _)).eq (by show [_] ++ [_] ++ [_] ++ ((mnV (nk 3 s) : Int) :: liV (nk 3 s)) = _; unfold dM; dsimp only; rw [liV_len]; rfl)) k s
theorem ex_ev (k : Nat) (s : RS) : Ex s (evS k s) ((evV k s).flatMap flE) ∧ (evV k s).length = k :=
 ex_all (f := flE) (st := nk 4) (val := fun s => ⟨nxV (nk 0 s), nxV (nk 1 s), nxV (nk 2 s), nxV (nk 3 s)⟩) (S := evS) (W := evV) (fun _ => rfl) (fun _ => rfl) (fun _ _ => rfl) (fun _ _ => rfl)
  (fun s => ((((ex_nx s).trans (ex_nx _)).trans (ex_nx _)).trans (ex_nx _)).eq rfl) k s
/-- What Unflat reads, it wrote. -/
theorem st_read {l : List Int} (h : ¬ stBad (l, false)) : dS (stV (l, false)) = l := by
 unfold stBad at h; rw [not_or] at h; have hb : (sD (l, false)).2 = false := by simpa using h.1
 have hn : (sD (l, false)).1 = [] := List.eq_nil_of_length_eq_zero (by omega); have hA : Ex (l, false) (sA (l, false)) (nxV (l, false) :: dW (wdV (nxS (l, false)))) := (ex_nx _).trans (ex_wd _); have hB := (hA.trans (ex_mn _)).trans (ex_co (mnV (sA (l, false))) (mnS (sA (l, false)))).1; have hC := (hB.trans (ex_mn _)).trans (ex_mi (mnV (sB (l, false))) (mnS (sB (l, false)))).1; have hD := (hC.trans (ex_mn _)).trans (ex_ev (mnV (sC (l, false))) (mnS (sC (l, false)))).1; obtain ⟨_, h2⟩ := hD hb; have hn' : (evS (mnV (sC (l, false))) (mnS (sC (l, false)))).1 = [] := hn; rw [hn', List.append_nil] at h2; refine Eq.trans ?_ h2.symm; unfold dS stV; dsimp only; rw [(ex_co _ _).2, (ex_mi _ _).2, (ex_ev _ _).2]; simp; exact ⟨rfl, rfl⟩

end Go.Proofs.YtlkajdcgdoijjaaGreatDoor.K
end
section
namespace Go.Proofs.YtlkajdcgdoijjaaGreatDoor.K
open Go.RowKit

theorem ofInt_toNat (w : Nat) (a : Int) (h0 : 0 ≤ a) (h1 : a.toNat < 2 ^ w) : (BitVec.ofInt w a).toNat = a.toNat := by
 obtain ⟨n, rfl⟩ := Int.eq_ofNat_of_zero_le h0; simp at h1 ⊢; exact Nat.mod_eq_of_lt h1
/-- The slot for the next bit is there. -/
def room (bs : List Int) (n : Nat) : List Int := if n % 8 = 0 then bs ++ [0] else bs
end Go.Proofs.YtlkajdcgdoijjaaGreatDoor.K
end
section
namespace Go.Proofs.YtlkajdcgdoijjaaGreatDoor.K
open Go.RowKit

/-! What a reader of so many bits answers: the number, the fault, the place behind. -/
def ge (N p m : Nat) : Int := if N < p + m then 14 else 0
end Go.Proofs.YtlkajdcgdoijjaaGreatDoor.K
end
section
set_option linter.unusedVariables false
set_option linter.unusedSimpArgs false
set_option maxRecDepth 100000
namespace Go.Proofs.YtlkajdcgdoijjaaGreatDoor.K
open Go.RowKit

/-- Is an input one that the program takes? -/
def okIn (k x y : Int) : Prop := 0 ≤ k ∧ k ≤ 255 ∧ -128 ≤ x ∧ x ≤ 127 ∧ -128 ≤ y ∧ y ≤ 127
instance (k x y : Int) : Decidable (okIn k x y) := by unfold okIn; infer_instance
end Go.Proofs.YtlkajdcgdoijjaaGreatDoor.K
end
section
set_option linter.unusedVariables false
set_option linter.unusedSimpArgs false
set_option maxRecDepth 100000
namespace Go.Proofs.YtlkajdcgdoijjaaGreatDoor.K
open Go.RowKit

structure Inp where
 k : Int
 x : Int
 y : Int
instance : Inhabited Inp := ⟨⟨0, 0, 0⟩⟩
instance : DecidableEq Inp := fun a b => decidable_of_iff (a.k = b.k ∧ a.x = b.x ∧ a.y = b.y) ⟨fun ⟨h1, h2, h3⟩ => by cases a; cases b; simp_all, fun h => by subst h; exact ⟨rfl, rfl, rfl⟩⟩
def Inp.ok (i : Inp) : Prop := okIn i.k i.x i.y
instance (i : Inp) : Decidable i.ok := by unfold Inp.ok; infer_instance
/-- Is a frame one for so many players? -/
def okFr (p : Int) (l : List Inp) : Prop := 1 ≤ p ∧ p ≤ 8 ∧ (l.length : Int) = p ∧ ∀ i ∈ l, i.ok
instance (p : Int) (l : List Inp) : Decidable (okFr p l) := by unfold okFr; infer_instance
end Go.Proofs.YtlkajdcgdoijjaaGreatDoor.K
end
section
set_option linter.unusedVariables false
set_option linter.unusedSimpArgs false
set_option maxRecDepth 100000
namespace Go.Proofs.YtlkajdcgdoijjaaGreatDoor.K
open Go.RowKit

end Go.Proofs.YtlkajdcgdoijjaaGreatDoor.K
end
section
namespace Go.Proofs.YtlkajdcgdoijjaaGreatDoor.K
open Go.RowKit

end Go.Proofs.YtlkajdcgdoijjaaGreatDoor.K
end
section
namespace Go.Proofs.YtlkajdcgdoijjaaGreatDoor.K
open Go.RowKit

end Go.Proofs.YtlkajdcgdoijjaaGreatDoor.K
end
section
set_option linter.unusedVariables false
set_option linter.unusedSimpArgs false
set_option maxRecDepth 100000
namespace Go.Proofs.YtlkajdcgdoijjaaGreatDoor.K
open Go.RowKit

def shrU (a n : Int) : Int := a.fdiv (2 ^ (min n.toNat IntKind.u64.bits))
/-- What Mix answers. -/
def mixF (a : Int) : Int :=
 let b := IntKind.u64.wrap (bXor .u64 a (shrU a 31) * 7640891576956012809)
 let c := IntKind.u64.wrap (bXor .u64 b (shrU b 27) * 13503953896175478587)
 bXor .u64 c (shrU c 30)
def joinF (h v : Int) : Int := mixF (IntKind.u64.wrap (IntKind.u64.wrap (mixF (IntKind.u64.wrap (h + 5840696475078001361)) * 11170449401992604703) + v))
/-- The sum of a list of words. -/
def sumW (ws : List Int) : Int := ws.foldl joinF (joinF 5840696475078001361 ws.length)
def sumI (xs : List Int) : Int := sumW (xs.map IntKind.u64.wrap)
theorem foldl_step {ws : List Int} {k : Nat} (h0 : Int) (hk : k < ws.length) : joinF ((ws.take k).foldl joinF h0) (ws.getD k 0) = (ws.take (k + 1)).foldl joinF h0 := by
 rw [List.take_add_one, List.foldl_append, List.getD_eq_getElem?_getD, List.getElem?_eq_getElem hk]; rfl

theorem Mix_c {V : Mem} (a : Int) : CallS Tryz.prog 89 [.int .u64 a].toArray V [] (fun r L' => r = .int .u64 (mixF a) ∧ L' = []) := by
 refine callS Tryz.func89 rfl rfl (fun w0 => ?_); refine s_seq (s_region ?_); refine ov (y_assign (v := .int _ _) rfl) (o_nil ?_); refine s_seq (s_region ?_); refine ov (y_move (v := .int _ _) rfl) ?_; refine ov (y_move (v := .int _ _) rfl) ?_; refine ov (y_shr rfl rfl (by omega)) ?_; refine ov (y_xor rfl rfl) ?_; refine ov (y_mul' rfl rfl) ?_; refine ov (y_assign (v := .int _ _) rfl) (o_nil ?_); refine s_seq (s_region ?_); refine ov (y_move (v := .int _ _) rfl) ?_; refine ov (y_move (v := .int _ _) rfl) ?_; refine ov (y_shr rfl rfl (by omega)) ?_; refine ov (y_xor rfl rfl) ?_; refine ov (y_mul' rfl rfl) ?_; refine ov (y_assign (v := .int _ _) rfl) (o_nil ?_); refine s_seq (s_region ?_); refine ov (y_move (v := .int _ _) rfl) ?_; refine ov (y_move (v := .int _ _) rfl) ?_; refine ov (y_shr rfl rfl (by omega)) ?_; refine ov (y_xor rfl rfl) ?_; refine ov (y_assign (v := .int _ _) rfl) (o_nil ?_); refine s_ret ?_; exact ⟨_, _, res1 rfl rfl, ⟨rfl, rfl⟩, sub_front ⟨_, rfl⟩⟩

theorem Join_c {V : Mem} (h v : Int) : CallS Tryz.prog 56 [.int .u64 h, .int .u64 v].toArray V [] (fun r L' => r = .int .u64 (joinF h v) ∧ L' = []) := by
 refine callS Tryz.func56 rfl rfl (fun w0 => ?_); refine s_seq (s_region ?_); refine ov (y_assign (v := .int _ _) rfl) (o_nil ?_); refine s_seq (s_region ?_); refine ov (y_move (v := .int _ _) rfl) ?_; refine ov (y_add' rfl rfl) ?_; refine o_fn 0 (d := 7) rfl Tryz.call89 (Mix_c _) rfl ?_; rintro _ _ ⟨rfl, rfl⟩; refine ov (y_mul' rfl rfl) ?_; refine ov (y_move (v := .int _ _) rfl) ?_; refine ov (y_add' rfl rfl) ?_; refine o_fn 0 (d := 11) rfl Tryz.call89 (Mix_c _) rfl ?_; rintro _ _ ⟨rfl, rfl⟩; refine ov (y_assign (v := .int _ _) rfl) (o_nil ?_); refine s_ret ?_; exact ⟨_, _, res1 rfl rfl, ⟨rfl, rfl⟩, sub_front ⟨_, rfl⟩⟩

theorem Words_c {V : Mem} (A : Option Addr) (n c : Nat) (ws : List Int) (h : Cels V [] A (ws.map (.int .u64))) (hn : ws.length = n) (hb : n ≤ 140737488355328) : CallS Tryz.prog 35 [.slice A n c].toArray V [] (fun r L' => r = .int .u64 (sumW ws) ∧ L' = []) := by
 refine callS Tryz.func35 rfl rfl (fun w0 => ?_); refine s_seq (s_region ?_); refine ov (y_assign (v := .int _ _) rfl) (o_nil ?_); refine s_seq (s_region ?_); refine ov (y_move (v := .slice _ _ _) rfl) ?_; refine ov (y_len Tryz.runUnderlying97 rfl) ?_; refine ov (y_conv Tryz.runUnderlying3 Tryz.runUnderlying59 rfl (by simp only [inK]; omega)) ?_; refine o_fn 0 (d := 9) rfl Tryz.call56 (Join_c _ _) rfl ?_; rintro _ _ ⟨rfl, rfl⟩; refine ov (y_assign (v := .int _ _) rfl) (o_nil ?_); refine s_seq ?_; refine s_seq (s_region ?_); refine ov (y_move (v := .slice _ _ _) rfl) ?_; refine ov (y_len Tryz.runUnderlying97 rfl) ?_; refine ov (y_move (v := .int _ _) rfl) (o_nil ?_); refine s_block ?_; refine s_loop (γ := Nat) (fun g => [(3, .int .u64 ((ws.take g).foldl joinF (joinF 5840696475078001361 n))), (10, .slice A n c), (11, .int .i64 n), (12, .int .i64 g)]) (fun g => []) (fun g => g ≤ n) (fun g => n - g) (0) ?_ (hz4 trivial) (sub_front ⟨_, rfl⟩) ?_
 ·exact Nat.zero_le _
 ·intro g _f hI; refine s_seq (s_region ?_); refine ov (y_lss rfl rfl) (o_nil ?_); refine s_seq ?_; refine s_if rfl (fun h1 => ?_) (fun h2 => ?_)
  ·refine s_skip ?_; refine s_seq ?_; refine s_block ?_; refine s_seq (s_region ?_); refine ov (y_index1 Tryz.runUnderlying97 Tryz.sizeOf59 (some_int (i := 0) h (by omega)) rfl rfl (by omega)) ?_; refine ov (y_load Tryz.isAgg59 rfl (cel_int h.here (by omega))) ?_; refine ov (y_assign (v := .int _ _) rfl) (o_nil ?_); refine s_region ?_; refine ov (y_move (v := .int _ _) rfl) ?_; refine ov (y_move (v := .int _ _) rfl) ?_; refine o_fn 0 (d := 18) rfl Tryz.call56 (Join_c _ _) rfl ?_; rintro _ _ ⟨rfl, rfl⟩; refine ov (y_assign (v := .int _ _) rfl) (o_nil ?_); refine s_region ?_; refine ov (y_add rfl rfl (by simp only [inK]; omega)) ?_; refine ov (y_move (v := .int _ _) rfl) (o_nil ?_); exact ⟨g + 1, (by first | omega | (dsimp only; omega)), (show g + 1 ≤ n by omega), ⟨(congrArg (Value.int .u64) (foldl_step _ (by omega))), rfl, rfl, (congrArg (Value.int _) (by omega)), trivial⟩, sub_front ⟨_, rfl⟩⟩
  ·refine s_exit ?_; refine s_seq (s_region ?_); refine ov (y_move (v := .int _ _) rfl) ?_; refine ov (y_assign (v := .int _ _) rfl) (o_nil ?_); refine s_ret ?_; have hin : g = n := by omega
   exact ⟨_, _, res1 rfl rfl, ⟨congrArg (Value.int .u64) (by unfold sumW; rw [hin, ← hn, List.take_length]), rfl⟩, sub_front ⟨_, rfl⟩⟩

theorem map_set_step {xs : List Int} {k : Nat} (hk : k < xs.length) : ((xs.take k).map IntKind.u64.wrap ++ List.replicate (xs.length - k) (0 : Int)).set k (IntKind.u64.wrap (xs.getD k 0)) = (xs.take (k + 1)).map IntKind.u64.wrap ++ List.replicate (xs.length - (k + 1)) (0 : Int) := by
 have e : xs.length - k = xs.length - (k + 1) + 1 := by omega
 rw [e, List.replicate_succ, List.set_append_right _ _ (by simp; omega), List.take_add_one, List.map_append, List.getD_eq_getElem?_getD, List.getElem?_eq_getElem hk]; simp [Nat.min_eq_left (Nat.le_of_lt hk)]

theorem SumInts_c {V : Mem} (A : Option Addr) (n c : Nat) (xs : List Int) (h : Cels V [] A (xs.map (.int .i64))) (hn : xs.length = n) (hb : n ≤ 17592186044416) : CallS Tryz.prog 17 [.slice A n c].toArray V [] (fun r L' => r = .int .u64 (sumI xs) ∧ L' = []) := by
 refine callS Tryz.func17 rfl rfl (fun w0 => ?_); refine s_seq (s_region ?_); refine ov (y_assign (v := .int _ _) rfl) (o_nil ?_); refine s_seq (s_region ?_); refine ov (y_move (v := .slice _ _ _) rfl) ?_; refine ov (y_len Tryz.runUnderlying22 rfl) ?_; refine o_make (sz := 1) (bytes := 8) (n := n) rfl Tryz.underlying97 Tryz.type59 rfl rfl rfl rfl rfl (by omega) (fun A1 E2 ho3 hs4 => ?_); have ho5 : OS A1 n n 59 1 ((List.replicate n (0 : Int)).map (.int .u64)) E2 := os_made_int ho3
 clear ho3
 refine ov (y_assign (v := .slice _ _ _) rfl) (o_nil ?_); refine s_seq ?_; refine s_seq (s_region ?_); refine ov (y_move (v := .slice _ _ _) rfl) ?_; refine ov (y_len Tryz.runUnderlying22 rfl) ?_; refine ov (y_move (v := .int _ _) rfl) (o_nil ?_); refine s_block ?_; refine s_loop (γ := Nat × Grp) (fun g => [(3, .slice A1 n n), (9, .slice A n c), (10, .int .i64 n), (11, .int .i64 g.1)]) (fun g => [g.2]) (fun g => g.1 ≤ n ∧ OS A1 n n 59 1 (((xs.take g.1).map IntKind.u64.wrap ++ List.replicate (xs.length - g.1) (0 : Int)).map (.int .u64)) g.2) (fun g => n - g.1) ((0, E2)) ?_ (hz4 trivial) (sub_front ⟨_, rfl⟩) ?_
 ·exact ⟨Nat.zero_le _, by simpa [hn] using ho5⟩
 ·intro g _f hI; obtain ⟨hg, ho⟩ := hI; refine s_seq (s_region ?_); refine ov (y_lss rfl rfl) (o_nil ?_); refine s_seq ?_; refine s_if rfl (fun h6 => ?_) (fun h7 => ?_)
  ·refine s_skip ?_; refine s_seq ?_; refine s_block ?_; refine s_seq (s_region ?_); refine ov (y_move (v := .int _ _) rfl) ?_; refine ov (y_index1 Tryz.runUnderlying22 Tryz.sizeOf3 (some_int (i := 0) h (by omega)) rfl rfl (by omega)) ?_; refine ov (y_load Tryz.isAgg3 rfl (cel_int h.here (by omega))) ?_; refine ov (y_assign (v := .int _ _) rfl) ?_; refine ov (y_assign (v := .int _ _) rfl) (o_nil ?_); refine s_region ?_; refine ov (y_move (v := .slice _ _ _) rfl) ?_; refine ov (y_move (v := .int _ _) rfl) ?_; refine ov (y_move (v := .int _ _) rfl) ?_; refine ov (y_conv' Tryz.runUnderlying3 Tryz.runUnderlying59 rfl) ?_; refine ov (y_index1 Tryz.runUnderlying97 Tryz.sizeOf59 (ho.some_of (by omega)) rfl rfl (by omega)) ?_; refine o_store_os (vs := [(.int _ _)]) 0 rfl ho Tryz.sizeOf59 rfl rfl rfl (by simp [Value.oneCell']) (by simp) (by simp; omega) (fun E8 ho9 => ?_); have ho10 := os_lay_int ho9 (by simp; omega)
   clear ho9
   refine o_nil ?_; refine s_region ?_; refine ov (y_add rfl rfl (by simp only [inK]; omega)) ?_; refine ov (y_move (v := .int _ _) rfl) (o_nil ?_); exact ⟨(g.1 + 1, E8), (by first | omega | (dsimp only; omega)), ⟨by dsimp only; omega, by have hs := ho10; rw [show ((g.1 : Nat) : Int).toNat = g.1 from rfl, map_set_step (by omega)] at hs; exact hs⟩, ⟨rfl, rfl, rfl, (congrArg (Value.int _) (by dsimp only; omega)), trivial⟩, sub_front ⟨_, rfl⟩⟩
  ·refine s_exit ?_; refine s_seq (s_region ?_); have hin : g.1 = n := by omega
   rw [hin, ← hn, List.take_length, Nat.sub_self, List.replicate_zero, List.append_nil] at ho; refine ov (y_move (v := .slice _ _ _) rfl) ?_; refine o_fn 0 (d := 23) rfl Tryz.call35 (Words_c _ _ _ (xs.map IntKind.u64.wrap) (ho.cels (j := 0) rfl).down (by simp [hn]) (by omega)) rfl ?_; rintro _ _ ⟨rfl, rfl⟩; refine ov (y_assign (v := .int _ _) rfl) (o_nil ?_); refine s_ret ?_; exact ⟨_, _, res1 rfl rfl, ⟨rfl, rfl⟩, sub_front ⟨_, rfl⟩⟩

end Go.Proofs.YtlkajdcgdoijjaaGreatDoor.K
end
section
namespace Go.Proofs.YtlkajdcgdoijjaaGreatDoor.K
open Go.RowKit
section
variable {P : Program} {N : Nm} {w0 : World} {V : Mem} {Q : Exit → Frm → List Grp → Prop} {f : Frm} {L : List Grp} {ops : Array Oper} {rest : List Oper} {d : Nat} {v : Value}
variable {ty : TypeId} {ps : String} {af : Array Edge} {x y : Operand}
theorem run_append_zeros {t u ty e : TypeId} {i : TypeInfo} {z : Value} {k : IntKind} (ht : P.underlying t = some (.slice e)) (hi : P.info? e = some i) (hz : i.zero = some z) (hu : P.underlying u = some (.int k))
  {m : Nat} {w : World} (h0 : 0 < m) (hs : 0 < i.size) (h63 : m ≤ maxLen) (hbytes : m * i.bytes ≤ 140737488355328) :
  (Builtin.append_ [t, u].toArray ty [.slice none 0 0, .int .i64 m].toArray).run P w = .ok (.slice (some ⟨w.heap.size, 0, none⟩) m (grownCap w m 0 e)) (w.drew.alloc (.cells ((Builtin.zeroCells z.cells m).toList ++ (Builtin.zeroCells z.cells (grownCap w m 0 e - m)).toList).toArray e)) := by
 have hsmall : m ≤ 9223372036854775807 := by simp only [maxLen] at h63; omega
 have hroom : ¬ (m ≤ 0) := by omega
 have hwr : IntKind.i64.wrap (m : Int) = m := wrap_in (k := .i64) (by simp only [inK]; omega); have hneg : ¬ ((m : Int) < 0) := by omega
 have hbig : ¬ ((281474976710656 : Int) < (m : Int) * (i.bytes : Int)) := by
  have : ((m * i.bytes : Nat) : Int) ≤ 140737488355328 := by omega
  rw [Int.natCast_mul] at this; omega
 have h63' : ¬ (9223372036854775807 < (m : Int)) := by omega
 have hfits := growslice_fits (need := m) (old := 0) (by omega) hbytes; have h48' : ¬ (281474976710656 < Builtin.nextslicecap m 0 * i.bytes) := by omega
 have hns : ¬ (m = 0 ∨ i.size = 0) := by omega
 simp [Builtin.append_, run_underlying ht, run_underlying hu, sizeOf, typeInfo, zeroValue, hi, hz, asInt, asIntOf, hwr, hneg, hbig, hroom, h63', h48', hns, Question.forced, Builtin.firstCells, newRow, grownCap]; rw [if_neg (by omega), if_neg (Nat.mul_ne_zero (by omega) (by omega))]
 congr 3
 apply Array.ext'
 simp
theorem o_append_zeros {t u e : TypeId} {i : TypeInfo} {z : Value} {k : IntKind} {sz bytes m : Nat} (hN : Nat.blt d N = true) (ht : P.underlying t = some (.slice e)) (hi : P.info? e = some i) (hz : i.zero = some z) (hzs : z.cells.size = sz) (hsz : i.size = sz) (hby : i.bytes = bytes) (hu : P.underlying u = some (.int k))
  (hx : evF f x = .slice none 0 0) (hy : evF f y = .int .i64 m) (h0 : 0 < m) (hs0 : 0 < sz) (hb : m ≤ 140737488355328 ∧ m * bytes ≤ 140737488355328)
  (h : ∀ A c E, OS A m c e sz (Builtin.zeroCells z.cells m).toList E → opsS P N w0 V ops Q rest (upd f d (.slice A m c)) (L ++ [E])) :
  opsS P N w0 V ops Q (⟨some d, .call { callee := .builtin .append, args := [x, y].toArray, argTypes := [t, u].toArray }, ty, ps, af, none⟩ :: rest) f L := by
 subst hsz hby; refine o_effE (d := d) (fun v L' => ∃ A c E, v = .slice A m c ∧ L' = L ++ [E] ∧ OS A m c e i.size (Builtin.zeroCells z.cells m).toList E) rfl rfl hN (fun w hw => ?_) ?_
 ·have hr := run_append_zeros (ty := ty) (w := w) ht hi hz hu h0 hs0 (by unfold maxLen; omega) hb.2; have hge := grownCap_ge w m 0 e; have hcm : grownCap w m 0 e ≤ maxLen := grownCap_le_maxLen w m 0 e (by unfold maxLen; omega); have hwd : SH w0 V w.drew L := hw.drawn _; refine ⟨.slice (some ⟨w.heap.size, 0, none⟩) m (grownCap w m 0 e), w.drew.alloc (.cells ((Builtin.zeroCells z.cells m).toList ++ (Builtin.zeroCells z.cells (grownCap w m 0 e - m)).toList).toArray e (0, 0)), _, ?_, hwd.alloc (.cells ((Builtin.zeroCells z.cells m).toList ++ (Builtin.zeroCells z.cells (grownCap w m 0 e - m)).toList).toArray e (0, 0)), _, _, _, rfl, rfl, ?_⟩
  ·simp only [execOp, resolve, Sem.run_bind, Sem.run_pure, Result.andThen_ok, invoke, builtin, List.map_toArray, List.map_cons, List.map_nil, hx, hy, hr]
  ·refine ⟨by simp [size_zeroCells, hzs], hge, hcm, .inr ⟨w.drew.heap.size, [], (Builtin.zeroCells z.cells (grownCap w m 0 e - m)).toList, [], rfl, by simp, ?_⟩⟩; simp only [Array.length_toList, size_zeroCells, hzs, ← Nat.add_mul]
   congr 1
   omega
 ·rintro v L' ⟨A, c, E, rfl, rfl, h1⟩; exact h A c E h1
theorem OS.trunc {A : Option Addr} {n cap : Nat} {T : TypeId} {sz : Nat} {cs : List Value} {E : Grp} (h : OS A n cap T sz cs E) : OS A 0 cap T sz [] E := by
 obtain ⟨h1, h2, h3, h4⟩ := h; refine ⟨by simp, Nat.zero_le _, h3, ?_⟩; rcases h4 with ⟨rfl, rfl, rfl⟩ | ⟨r, pre, sp, post, rfl, rfl, hl⟩
 ·exact .inl ⟨rfl, rfl, rfl⟩
 ·exact .inr ⟨r, pre, cs ++ sp, post, rfl, by simp, by simp [hl]⟩
end
end Go.Proofs.YtlkajdcgdoijjaaGreatDoor.K
end
section
set_option linter.unusedVariables false
set_option linter.unusedSimpArgs false
set_option maxRecDepth 100000
namespace Go.Proofs.YtlkajdcgdoijjaaGreatDoor.K
open Go.RowKit

/-- A list of whole numbers in memory. -/
structure FQ where
 A : Option Addr
 n : Nat
 c : Nat
 bs : List Int
instance : Inhabited FQ := ⟨⟨none, 0, 0, []⟩⟩
theorem getD_memQ {ss : List FQ} {k : Nat} (h : k < ss.length) : ss.getD ((k : Nat) : Int).toNat default ∈ ss := getD_mem' h
structure GQ1 where
 i : Nat
 A : Option Addr
 x : Nat
 c : Nat
 E : Grp
/-- A list in a list of lists. -/
def encQ (f : FQ) : List Value := [.slice f.A f.n f.c]
theorem encQ_len (f : FQ) : (encQ f).length = 1 := rfl
/-- A list's numbers can be read. -/
def QlOK (V : Mem) (k : IntKind) (f : FQ) : Prop := f.bs.length = f.n ∧ f.n ≤ f.c ∧ Cels V [] f.A (f.bs.map (.int k))
def catQ (fs : List FQ) : List Int := fs.flatMap (·.bs)
theorem catQ_step {fs : List FQ} {k : Nat} (hk : k < fs.length) : catQ (fs.take (k + 1)) = catQ (fs.take k) ++ (fs.getD ((k : Nat) : Int).toNat default).bs := by
 unfold catQ; rw [List.take_add_one, List.getElem?_eq_getElem hk, Int.toNat_natCast, List.getD_eq_getElem?_getD, List.getElem?_eq_getElem hk]; simp only [Option.toList_some, List.flatMap_append, List.flatMap_cons, List.flatMap_nil, List.append_nil, Option.getD_some]
theorem catQ_le (fs : List FQ) (k : Nat) : (catQ (fs.take k)).length ≤ (catQ fs).length := by
 conv => rhs; rw [← List.take_append_drop k fs]
 unfold catQ; rw [List.flatMap_append, List.length_append]; omega
theorem cel_Q {V : Mem} {L : List Grp} {A : Option Addr} {fs : List FQ} (h : Cels V L A (fs.flatMap encQ)) {i : Nat} (hi : i < fs.length) : Cel V L (idx A i) (.slice (fs.getD i default).A (fs.getD i default).n (fs.getD i default).c) := by
 have h1 := (cels_at (sz := 1) encQ_len h hi).cel' (i := 0) rfl
 simpa using h1
theorem some_Q {V : Mem} {L : List Grp} {A : Option Addr} {fs : List FQ} (h : Cels V L A (fs.flatMap encQ)) (hi : 0 < fs.length) : A.isSome = true := some_at (sz := 0) encQ_len (i := 0) h hi
theorem os_appQ {A : Option Addr} {n c : Nat} {T : TypeId} {k : IntKind} {bs cs : List Int} {E : Grp} {m : Nat} (h : OS A n c T 1 (bs.map (.int k) ++ cs.map (.int k)) E) (hn : n = m) : OS A m c T 1 ((bs ++ cs).map (.int k)) E := by
 subst hn; rwa [List.map_append]

theorem GrowQ_c {V : Mem} (m : Nat) (hb : m ≤ 140737488355328 ∧ m * 8 ≤ 140737488355328) : CallS Tryz.prog 55 [.slice none 0 0, .int .i64 m].toArray V [] (fun r L' => ∃ A c E, r = .slice A 0 c ∧ OS A 0 c 3 1 [] E ∧ L' = [E]) := by
 refine callS Tryz.func55 rfl rfl (fun w0 => ?_); refine s_seq (s_region ?_); refine ov (y_assign (v := .slice _ _ _) rfl) (o_nil ?_); refine s_seq ?_; refine s_seq (s_region ?_); refine ov (y_move (v := .int _ _) rfl) ?_; refine ov (y_lss rfl rfl) (o_nil ?_); refine s_if rfl (fun h1 => ?_) (fun h2 => ?_)
 ·exfalso; omega
 ·refine s_skip ?_; refine s_seq ?_; refine s_seq (s_region ?_); refine ov (y_move (v := .int _ _) rfl) ?_; refine ov (y_move (v := .slice _ _ _) rfl) ?_; refine ov (y_cap Tryz.runUnderlying22 rfl) ?_; refine ov (y_move (v := .slice _ _ _) rfl) ?_; refine ov (y_len Tryz.runUnderlying22 rfl) ?_; refine ov (y_sub rfl rfl (by simp only [inK]; omega)) ?_; refine ov (y_sub rfl rfl (by simp only [inK]; omega)) ?_; refine ov (y_assign (v := .int _ _) rfl) (o_nil ?_); refine s_seq (s_region ?_); refine ov (y_move (v := .int _ _) rfl) ?_; refine ov (y_gtr rfl rfl) (o_nil ?_); refine sf [(0, .slice _ _ _), (1, .int _ _), (4, .slice _ _ _), (16, .bool _)] (fun _f => ?_); refine s_if rfl (fun h3 => ?_) (fun h4 => ?_)
  ·refine s_region ?_; refine ov (y_move (v := .slice _ _ _) rfl) ?_; refine ov (y_move (v := .slice _ _ _) rfl) ?_; refine ov (y_cap Tryz.runUnderlying22 rfl) ?_; refine ov (y_cut_hi Tryz.runUnderlying22 Tryz.sizeOf3 rfl rfl (by omega)) ?_; refine ov (y_move (v := .int _ _) rfl) ?_; refine o_append_zeros (sz := 1) (bytes := 8) (m := m) rfl Tryz.underlying22 Tryz.type3 rfl rfl rfl rfl Tryz.underlying3 rfl rfl (by omega) (by decide) (by omega) (fun A5 c6 E7 ho8 => ?_); refine ov (y_move (v := .slice _ _ _) rfl) ?_; refine ov (y_len Tryz.runUnderlying22 rfl) ?_; refine ov (y_cut_hi Tryz.runUnderlying22 Tryz.sizeOf3 rfl rfl (by omega)) ?_; refine ov (y_assign (v := .slice _ _ _) rfl) (o_nil ?_); refine s_seq (s_region ?_); refine ov (y_move (v := .slice _ _ _) rfl) ?_; refine ov (y_assign (v := .slice _ _ _) rfl) (o_nil ?_); refine s_ret ?_; exact ⟨_, _, res1 rfl rfl, ⟨_, _, _, rfl, ho8.trunc, rfl⟩, sub_front ⟨_, rfl⟩⟩
  ·refine s_skip ?_; refine s_seq (s_region ?_); refine ov (y_move (v := .slice _ _ _) rfl) ?_; refine ov (y_assign (v := .slice _ _ _) rfl) (o_nil ?_); refine s_ret ?_; exact ⟨_, [[]], res1 rfl rfl, ⟨none, 0, [], rfl, OS.nil _ _, rfl⟩, sub_empty⟩

theorem ConcatQ_c {V : Mem} (A : Option Addr) (n c : Nat) (fs : List FQ) (h : Cels V [] A (fs.flatMap encQ)) (hn : fs.length = n) (hb : n ≤ 140737488355328) (hf : ∀ f ∈ fs, QlOK V .i64 f) (ht : (catQ fs).length ≤ 140737488355328 ∧ (catQ fs).length * 8 ≤ 140737488355328) : CallS Tryz.prog 34 [.slice A n c].toArray V [] (fun r L' => ∃ (B : Option Addr) (e : Nat) (E : Grp), r = .slice B (catQ fs).length e ∧ OS B (catQ fs).length e 3 1 ((catQ fs).map (.int .i64)) E ∧ L' = [E]) := by
 refine callS Tryz.func34 rfl rfl (fun w0 => ?_); refine s_seq (s_region ?_); refine ov (y_assign (v := .slice _ _ _) rfl) (o_nil ?_); refine s_seq (s_region ?_); refine ov (y_assign (v := .int _ _) rfl) (o_nil ?_); refine s_seq ?_; refine s_seq (s_region ?_); refine ov (y_move (v := .slice _ _ _) rfl) ?_; refine ov (y_len Tryz.runUnderlying126 rfl) ?_; refine ov (y_move (v := .int _ _) rfl) (o_nil ?_); refine s_block ?_; refine s_loop (γ := Nat) (fun g => [(0, .slice A n c), (3, .int .i64 ((catQ (fs.take g)).length : Nat)), (9, .slice A n c), (10, .int .i64 n), (11, .int .i64 g)]) (fun g => []) (fun g => g ≤ n) (fun g => n - g) (0) ?_ (hz5 trivial) (sub_front ⟨_, rfl⟩) ?_
 ·exact Nat.zero_le _
 ·intro g _f hI; have hg := hI; refine s_seq (s_region ?_); refine ov (y_lss rfl rfl) (o_nil ?_); refine s_seq ?_; refine s_if rfl (fun h1 => ?_) (fun h2 => ?_)
  ·refine s_skip ?_; refine s_seq ?_; refine s_block ?_; refine s_seq (s_region ?_); refine ov (y_index1 Tryz.runUnderlying126 Tryz.sizeOf22 (some_Q h (by omega)) rfl rfl (by omega)) ?_; refine ov (y_load Tryz.isAgg22 rfl (cel_Q h.here (by omega))) ?_; refine ov (y_assign (v := .slice _ _ _) rfl) (o_nil ?_); refine s_seq (s_region ?_); have hct := catQ_step (fs := fs) (k := g) (by omega); have hcl := catQ_le fs (g + 1); rw [hct, List.length_append] at hcl; have hff := hf _ (getD_memQ (ss := fs) (k := g) (by omega)); have hfl : (fs.getD ((g : Nat) : Int).toNat default).bs.length = (fs.getD ((g : Nat) : Int).toNat default).n := hff.1; refine ov (y_move (v := .int _ _) rfl) ?_; refine ov (y_move (v := .slice _ _ _) rfl) ?_; refine ov (y_len Tryz.runUnderlying22 rfl) ?_; refine ov (y_add rfl rfl (by simp only [inK]; omega)) ?_; refine ov (y_assign (v := .int _ _) rfl) (o_nil ?_); refine s_seq (s_region ?_); refine ov (y_move (v := .int _ _) rfl) ?_; refine ov (y_lss rfl rfl) (o_nil ?_); refine s_if rfl (fun h3 => ?_) (fun h4 => ?_)
   ·exfalso; omega
   ·refine s_skip ?_; refine s_region ?_; refine ov (y_add rfl rfl (by simp only [inK]; omega)) ?_; refine ov (y_move (v := .int _ _) rfl) (o_nil ?_); exact ⟨g + 1, (by first | omega | (dsimp only; omega)), (by omega), ⟨rfl, (congrArg (Value.int .i64) (by rw [hct, List.length_append]; omega)), rfl, rfl, (congrArg (Value.int .i64) (by omega)), trivial⟩, sub_front ⟨_, rfl⟩⟩
  ·refine s_exit ?_; refine s_seq (s_region ?_); have hgn : g = n := by omega
   rw [hgn, List.take_of_length_le (by omega)]; refine ov (y_move (v := .int _ _) rfl) ?_; refine o_fn 0 (d := 24) rfl Tryz.call55 (GrowQ_c (catQ fs).length (by omega)) rfl ?_; rintro _ _ ⟨gA, gc, gE, rfl, hgo, rfl⟩; refine ov (y_assign (v := .slice _ _ _) rfl) (o_nil ?_); refine s_seq ?_; refine s_seq (s_region ?_); refine ov (y_move (v := .slice _ _ _) rfl) ?_; refine ov (y_len Tryz.runUnderlying126 rfl) ?_; refine ov (y_move (v := .int _ _) rfl) (o_nil ?_); refine s_block ?_; refine s_loop (γ := GQ1) (fun u => [(6, .slice u.A (catQ (fs.take u.i)).length u.c), (25, .slice A n c), (26, .int .i64 n), (27, .int .i64 u.i)]) (fun u => [u.E]) (fun u => u.i ≤ n ∧ OS u.A (catQ (fs.take u.i)).length u.c 3 1 ((catQ (fs.take u.i)).map (.int .i64)) u.E) (fun u => n - u.i) (GQ1.mk 0 gA 0 gc gE) ?_ (hz4 trivial) (sub_front ⟨_, rfl⟩) ?_
   ·exact ⟨Nat.zero_le _, hgo⟩
   ·intro u _f hJ; obtain ⟨hu, hou⟩ := hJ; refine s_seq (s_region ?_); refine ov (y_lss rfl rfl) (o_nil ?_); refine s_seq ?_; refine s_if rfl (fun h5 => ?_) (fun h6 => ?_)
    ·refine s_skip ?_; refine s_seq ?_; refine s_block ?_; refine s_seq (s_region ?_); refine ov (y_index1 Tryz.runUnderlying126 Tryz.sizeOf22 (some_Q h (by omega)) rfl rfl (by omega)) ?_; refine ov (y_load Tryz.isAgg22 rfl (cel_Q h.here (by omega))) ?_; refine ov (y_assign (v := .slice _ _ _) rfl) (o_nil ?_); refine s_region ?_; have hct := catQ_step (fs := fs) (k := u.i) (by omega); have hcl := catQ_le fs (u.i + 1); rw [hct, List.length_append] at hcl; have hff := hf _ (getD_memQ (ss := fs) (k := u.i) (by omega)); have hfl : (fs.getD ((u.i : Nat) : Int).toNat default).bs.length = (fs.getD ((u.i : Nat) : Int).toNat default).n := hff.1; refine ov (y_move (v := .slice _ _ _) rfl) ?_; refine ov (y_move (v := .slice _ _ _) rfl) ?_; refine o_append (sz := 1) (bytes := 8) (news := ((fs.getD ((u.i : Nat) : Int).toNat default).bs).map (.int .i64)) 0 rfl Tryz.underlying22 Tryz.type3 rfl rfl rfl rfl rfl hou rfl rfl (Src.rd (sz := 0) Tryz.underlying22 hff.2.2.here (by rw [List.length_map]; omega) (one_int _ _)) (by omega) (fun A7 c8 E9 ho10 hn11 => ?_); have ho12 : OS A7 (catQ (fs.take (u.i + 1))).length c8 3 1 ((catQ (fs.take (u.i + 1))).map (.int .i64)) E9 := by rw [hct]; exact os_appQ ho10 (by rw [List.length_append]; omega)
     clear ho10
     refine ov (y_assign (v := .slice _ _ _) rfl) (o_nil ?_); refine s_norm [_] rfl ?_; refine s_region ?_; refine ov (y_add rfl rfl (by simp only [inK]; omega)) ?_; refine ov (y_move (v := .int _ _) rfl) (o_nil ?_); exact ⟨GQ1.mk (u.i + 1) A7 0 c8 E9, (by first | omega | (dsimp only; omega)), ⟨by dsimp only; omega, ho12⟩, ⟨(congrArg (fun x : Nat => Value.slice A7 x c8) (by dsimp only; rw [hct, List.length_append, hfl])), rfl, rfl, (congrArg (Value.int .i64) (by dsimp only; omega)), trivial⟩, sub_front ⟨_, rfl⟩⟩
    ·refine s_exit ?_; refine s_seq (s_region ?_); refine ov (y_move (v := .slice _ _ _) rfl) ?_; refine ov (y_assign (v := .slice _ _ _) rfl) (o_nil ?_); refine s_ret ?_; have hun : u.i = n := by omega
     rw [hun, List.take_of_length_le (by omega)] at hou; exact ⟨_, _, res1 rfl (by rw [hun, List.take_of_length_le (by omega)]; rfl), ⟨_, _, _, rfl, hou, rfl⟩, sub_front ⟨_, rfl⟩⟩

end Go.Proofs.YtlkajdcgdoijjaaGreatDoor.K
end
section
set_option linter.unusedVariables false
set_option linter.unusedSimpArgs false
set_option maxRecDepth 100000
set_option maxHeartbeats 2000000
namespace Go.Proofs.YtlkajdcgdoijjaaGreatDoor.K
open Go.RowKit

theorem bt_at {s : ByteArray} {i : Nat} (h : i < s.size) : bt s i = (bts s).getD i 0 := by
 have h' : i < s.data.size := h; unfold bt bts; simp only [List.getD_eq_getElem?_getD, Array.getElem?_toList, List.getElem?_map]; rw [Array.getElem?_eq_getElem h']; rfl
/-- One list of numbers behind another, with its length between. -/
def q3 (A : Option Addr) (n c : Nat) (xs : List Int) (B : Option Addr) (C : Option Addr) (m d : Nat) (ys : List Int) : List FQ := [⟨A, n, c, xs⟩, ⟨B, 1, 1, [(m : Int)]⟩, ⟨C, m, d, ys⟩]
theorem catQ3 {A B C : Option Addr} {n c m d : Nat} {xs ys : List Int} : catQ (q3 A n c xs B C m d ys) = xs ++ (m : Int) :: ys := by simp [catQ, q3]
theorem q3_ok {V : Mem} {A B C : Option Addr} {n c m d : Nat} {xs ys : List Int} (h1 : QlOK V .i64 ⟨A, n, c, xs⟩) (h2 : QlOK V .i64 ⟨B, 1, 1, [(m : Int)]⟩) (h3 : QlOK V .i64 ⟨C, m, d, ys⟩) : ∀ f ∈ q3 A n c xs B C m d ys, QlOK V .i64 f := by
 intro f hf; simp only [q3, List.mem_cons, List.not_mem_nil, or_false] at hf; rcases hf with rfl | rfl | rfl
 ·exact h1
 ·exact h2
 ·exact h3

theorem NumT_k0 (v0 : Int) (w : World) : (Instr.buildSlice 22 1 ([(0, .int .i64 v0)] : List (Nat × Value)).toArray).run Tryz.prog w = .ok (.slice (some ⟨w.heap.size, 0, none⟩) 1 1) { w with heap := w.heap.push (.cells ([.int .i64 v0] : List Value).toArray 3 (0, 0)) } := by kernel_rfl
theorem NumT_c {V : Mem} {lb : Nat} (A : Option Addr) (n c : Nat) (xs : List Int) (E : Grp) (hos : OS A n c 3 1 ((xs).map (.int .i64)) E) (s : ByteArray) (hb : n + s.size ≤ 17592186044400) : CallS Tryz.prog 32 [.string s, .pointer (some ⟨lb, 0, none⟩)].toArray V [(cB [.slice A n c] 22 lb), E] (fun r L' => ∃ (A' : Option Addr) (c' : Nat) (E' : Grp), r = .tuple #[] ∧ OS A' (n + 1 + s.size) c' 3 1 ((xs ++ flT s).map (.int .i64)) E' ∧ L' = [(cB [.slice A' (n + 1 + s.size) c'] 22 lb), E']) := by
 refine callS Tryz.func32 rfl rfl (fun w0 => ?_); refine s_seq (s_region ?_); refine ov (y_load Tryz.isAgg22 rfl (cel_own 0 rfl rfl)) ?_; refine ov (y_move (v := .string _) rfl) ?_; refine ov (y_len_str Tryz.runUnderlying9 rfl) ?_; refine o_lit (vs := [(0, .int _ _)]) rfl rfl (NumT_k0 _) (fun b1 => ?_); refine o_append (sz := 1) (bytes := 8) (news := [(.int _ _)]) 1 rfl Tryz.underlying22 Tryz.type3 rfl rfl rfl rfl rfl hos rfl rfl (Src.slice Tryz.underlying22 (cels_own 2 rfl rfl) rfl (by simp [Value.oneCell']) (by simp)) (by omega) (fun A2 c3 E4 ho5 hn6 => ?_); have ho7 : OS A2 (n + 1) c3 3 1 ((xs ++ (s.size : Int) :: (bts s).take 0).map (.int .i64)) E4 := (os_eq ho5 (by rw [List.map_append]; rfl))
 clear ho5
 refine o_store (v := .slice _ _ _) 0 rfl Tryz.sizeOf22 rfl rfl rfl rfl (o_nil ?_); refine s_norm [(cB [(.slice _ _ _)] 22 _), _, (cB [(.int _ _)] 3 _)] rfl ?_; refine s_seq (s_region ?_); refine ov (y_move (v := .string _) rfl) ?_; refine ov (y_len_str Tryz.runUnderlying9 rfl) ?_; refine ov (y_move (v := .int _ _) rfl) (o_nil ?_); refine s_block ?_; refine s_loopK (γ := LT1) [(0, .string _), (1, .pointer _), (10, .int _ _)] [] (fun g => [(11, .int .i64 g.i)]) (fun g => [(cB [.slice g.A g.n g.c] 22 lb), g.E]) (fun g => g.i ≤ s.size ∧ g.n = n + 1 + g.i ∧ OS g.A g.n g.c 3 1 ((xs ++ (s.size : Int) :: (bts s).take g.i).map (.int .i64)) g.E) (fun g => s.size - g.i) (LT1.mk 0 (n + 1) A2 c3 E4) (hz4 trivial) (sub_picks [0, 0] rfl) ?_ ?_
 ·exact ⟨Nat.zero_le _, rfl, ho7⟩
 intro g _f hI; refine s_norm _ (by simp only [pull, picks, setG, List.cons_append, List.nil_append, List.append_nil, List.drop_succ_cons, List.drop_zero]; rfl) ?_; obtain ⟨hgi, hgn, hgo⟩ := hI; have hbl := bts_len s; refine s_seq (s_region ?_); refine ov (y_lss rfl rfl) (o_nil ?_); refine s_seq ?_; refine s_if rfl (fun h8 => ?_) (fun h9 => ?_)
 ·refine s_skip ?_; refine s_seq ?_; refine s_block ?_; refine s_seq (s_region ?_); refine ov (y_move (v := .int _ _) rfl) ?_; refine ov (y_assign (v := .int _ _) rfl) (o_nil ?_); refine s_pull 1 ?_; refine s_pull 1 ?_; refine s_drawn 2 (by kernel_rfl) ?_; refine dv 1 rfl rfl (y_move (v := .string _) rfl) ?_; refine dv 2 rfl rfl (y_move (v := .int _ _) rfl) ?_; refine dv 3 rfl rfl ((y_strIndex Tryz.runUnderlying9 rfl rfl (by omega)).int ((bt_at (s := s) (i := g.i) (by omega)))) ?_; refine dv 4 rfl rfl (y_conv Tryz.runUnderlying5 Tryz.runUnderlying3 rfl (by have hz := bts_bd _ (getD_mem' (show g.i < (bts s).length by omega) : (bts s).getD ((g.i : Nat) : Int).toNat 0 ∈ bts s); simp only [inK]; exact ⟨by show _ ≤ (bts s).getD g.i 0; have : (bts s).getD g.i 0 = (bts s).getD ((g.i : Nat) : Int).toNat 0 := rfl; omega, by show (bts s).getD g.i 0 ≤ _; have : (bts s).getD g.i 0 = (bts s).getD ((g.i : Nat) : Int).toNat 0 := rfl; omega⟩)) ?_; refine d_eff2 (k := 0) (k' := 5) (n := 0) (m := 0) rfl rfl (by kernel_rfl) rfl ?_ ?_
  ·refine ov (y_load Tryz.isAgg22 rfl (cel_own 0 rfl rfl)) (o_nil ?_); refine d_eff (k := 5) (n := 0) (m := 0) rfl (by kernel_rfl) rfl ?_; refine o_lit (vs := [(0, .int _ _)]) rfl rfl (NumT_k0 _) (fun b10 => ?_); refine o_nil ?_; refine d_eff (k := 6) (n := 0) (m := 0) rfl (by kernel_rfl) rfl ?_; refine o_append (sz := 1) (bytes := 8) (news := [(.int _ _)]) 1 rfl Tryz.underlying22 Tryz.type3 rfl rfl rfl rfl rfl hgo rfl rfl (Src.slice Tryz.underlying22 (cels_own 2 rfl rfl) rfl (by simp [Value.oneCell']) (by simp)) (by omega) (fun A11 c12 E13 ho14 hn15 => ?_); have ho16 : OS A11 (g.n + 1) c12 3 1 ((xs ++ (s.size : Int) :: (bts s).take (g.i + 1)).map (.int .i64)) E13 := (os_eq ho14 (by rw [tkg (d := 0) (show g.i < (bts s).length by omega)]; simp only [List.map_append, List.map_cons, List.append_assoc, List.cons_append]; rfl))
   clear ho14
   refine o_nil ?_; refine d_eff (k := 7) (n := 0) (m := 0) rfl (by kernel_rfl) rfl ?_; refine o_store (v := .slice _ _ _) 0 rfl Tryz.sizeOf22 rfl rfl rfl rfl (o_nil ?_); refine d_nil (n := 0) (m := 0) (by kernel_rfl) rfl ?_; refine s_norm [(cB [(.slice _ _ _)] 22 _), _, (cB [(.int _ _)] 3 _)] rfl ?_; refine sf [(0, .string _), (1, .pointer _), (10, .int _ _), (11, .int _ _)] (fun _f => ?_); refine s_region ?_; refine ov (y_add rfl rfl (by simp only [inK]; omega)) ?_; refine ov (y_move (v := .int _ _) rfl) (o_nil ?_); exact ⟨LT1.mk (g.i + 1) (g.n + 1) A11 c12 E13, (by first | omega | (dsimp only; omega)), ⟨by dsimp only; omega, by dsimp only; omega, ho16⟩, ⟨(congrArg (Value.int .i64) (by (try dsimp only); omega)), hz3 trivial⟩, (sub_picks [0, 0] rfl)⟩
  ·refine o_lit (vs := [(0, .int _ _)]) rfl rfl (NumT_k0 _) (fun b17 => ?_); refine o_nil ?_; refine d_now (i := 0) [] rfl (by kernel_rfl) (by kernel_rfl) (by kernel_rfl) rfl rfl rfl (y_load Tryz.isAgg22 rfl (cel_own 0 rfl rfl)) trivial ?_; refine d_eff (k := 6) (n := 0) (m := 0) rfl (by kernel_rfl) rfl ?_; refine o_append (sz := 1) (bytes := 8) (news := [(.int _ _)]) 1 rfl Tryz.underlying22 Tryz.type3 rfl rfl rfl rfl rfl hgo rfl rfl (Src.slice Tryz.underlying22 (cels_own 2 rfl rfl) rfl (by simp [Value.oneCell']) (by simp)) (by omega) (fun A18 c19 E20 ho21 hn22 => ?_); have ho23 : OS A18 (g.n + 1) c19 3 1 ((xs ++ (s.size : Int) :: (bts s).take (g.i + 1)).map (.int .i64)) E20 := (os_eq ho21 (by rw [tkg (d := 0) (show g.i < (bts s).length by omega)]; simp only [List.map_append, List.map_cons, List.append_assoc, List.cons_append]; rfl))
   clear ho21
   refine o_nil ?_; refine d_eff (k := 7) (n := 0) (m := 0) rfl (by kernel_rfl) rfl ?_; refine o_store (v := .slice _ _ _) 0 rfl Tryz.sizeOf22 rfl rfl rfl rfl (o_nil ?_); refine d_nil (n := 0) (m := 0) (by kernel_rfl) rfl ?_; refine s_norm [(cB [(.slice _ _ _)] 22 _), _, (cB [(.int _ _)] 3 _)] rfl ?_; refine sf [(0, .string _), (1, .pointer _), (10, .int _ _), (11, .int _ _)] (fun _f => ?_); refine s_region ?_; refine ov (y_add rfl rfl (by simp only [inK]; omega)) ?_; refine ov (y_move (v := .int _ _) rfl) (o_nil ?_); exact ⟨LT1.mk (g.i + 1) (g.n + 1) A18 c19 E20, (by first | omega | (dsimp only; omega)), ⟨by dsimp only; omega, by dsimp only; omega, ho23⟩, ⟨(congrArg (Value.int .i64) (by (try dsimp only); omega)), hz3 trivial⟩, (sub_picks [0, 0] rfl)⟩
 ·refine s_exit ?_; have hgs : g.i = s.size := by omega
  have hfin := os_eq hgo (by rw [hgs, List.take_of_length_le (by omega : (bts s).length ≤ s.size)]; rfl : _ = (xs ++ flT s).map (Value.int .i64)); rw [hgs] at hgn; rw [hgn] at hfin ⊢; exact ⟨_, [_, _], res0 rfl, ⟨g.A, g.c, g.E, rfl, hfin, rfl⟩, sub_picks [0, 0] rfl⟩

theorem NumL_k0 (v0 : Int) (w : World) : (Instr.buildSlice 22 1 ([(0, .int .i64 v0)] : List (Nat × Value)).toArray).run Tryz.prog w = .ok (.slice (some ⟨w.heap.size, 0, none⟩) 1 1) { w with heap := w.heap.push (.cells ([.int .i64 v0] : List Value).toArray 3 (0, 0)) } := by kernel_rfl
theorem NumL_k1 (v0A : Option Addr) (v0n : Nat) (v0c : Nat) (v1A : Option Addr) (v1n : Nat) (v1c : Nat) (v2A : Option Addr) (v2n : Nat) (v2c : Nat) (w : World) : (Instr.buildSlice 126 3 ([(0, .slice v0A v0n v0c), (1, .slice v1A v1n v1c), (2, .slice v2A v2n v2c)] : List (Nat × Value)).toArray).run Tryz.prog w = .ok (.slice (some ⟨w.heap.size, 0, none⟩) 3 3) { w with heap := w.heap.push (.cells ([.slice v0A v0n v0c, .slice v1A v1n v1c, .slice v2A v2n v2c] : List Value).toArray 22 (0, 0)) } := by kernel_rfl
theorem NumL_c {V : Mem} {lb : Nat} (A : Option Addr) (n c : Nat) (xs : List Int) (E : Grp) (hos : OS A n c 3 1 ((xs).map (.int .i64)) E) (B : Option Addr) (m d : Nat) (ys : List Int) (h : Cels V [] B (ys.map (.int .i64))) (hm : ys.length = m) (hd : m ≤ d) (hb : n + m ≤ 17592186044400) : CallS Tryz.prog 33 [.slice B m d, .pointer (some ⟨lb, 0, none⟩)].toArray V [(cB [.slice A n c] 22 lb), E] (fun r L' => ∃ (A' : Option Addr) (c' : Nat) (E' : Grp), r = .tuple #[] ∧ OS A' (n + 1 + m) c' 3 1 ((xs ++ (m : Int) :: ys).map (.int .i64)) E' ∧ L' = [(cB [.slice A' (n + 1 + m) c'] 22 lb), E']) := by
 refine callS Tryz.func33 rfl rfl (fun w0 => ?_); refine s_region ?_; refine ov (y_load Tryz.isAgg22 rfl (cel_own 0 rfl rfl)) ?_; refine ov (y_move (v := .slice _ _ _) rfl) ?_; refine ov (y_len Tryz.runUnderlying22 rfl) ?_; refine o_lit (vs := [(0, .int _ _)]) rfl rfl (NumL_k0 _) (fun b1 => ?_); refine ov (y_move (v := .slice _ _ _) rfl) ?_; refine o_lit (vs := [(0, .slice _ _ _), (1, .slice _ _ _), (2, .slice _ _ _)]) rfl rfl (NumL_k1 _ _ _ _ _ _ _ _ _) (fun b2 => ?_); refine o_fn 0 (d := 9) rfl Tryz.call34 (ConcatQ_c _ 3 3 (q3 A n c xs (some ⟨b1, 0, none⟩) B m d ys) (cels_own 3 rfl rfl).down rfl (by decide) (q3_ok ⟨os_lenI hos, hos.2.1, (hos.cels (j := 1) rfl).down⟩ ⟨rfl, Nat.le_refl _, (cels_own 2 rfl rfl).down⟩ ⟨hm, hd, h.here.down⟩) (by rw [catQ3]; have := os_lenI hos; simp only [List.length_append, List.length_cons]; omega)) rfl ?_; rintro _ _ ⟨qA, qc, qE, rfl, hqo, rfl⟩; refine o_store (v := .slice _ _ _) 1 rfl Tryz.sizeOf22 rfl rfl rfl rfl (o_nil ?_); have hql : (catQ (q3 A n c xs (some ⟨b1, 0, none⟩) B m d ys)).length = n + 1 + m := by rw [catQ3]; have := os_lenI hos; simp only [List.length_append, List.length_cons]; omega
 rw [hql] at hqo ⊢; rw [catQ3] at hqo; exact ⟨_, [_, _], res0 rfl, ⟨qA, qc, qE, rfl, hqo, rfl⟩, sub_picks [1, 0] rfl⟩

end Go.Proofs.YtlkajdcgdoijjaaGreatDoor.K
end
section
set_option linter.unusedVariables false
set_option linter.unusedSimpArgs false
set_option maxRecDepth 100000
set_option maxHeartbeats 2000000
namespace Go.Proofs.YtlkajdcgdoijjaaGreatDoor.K
open Go.RowKit

theorem Numbers_k0 (v0 : Int) (v1 : Int) (w : World) : (Instr.buildSlice 22 2 ([(0, .int .i64 v0), (1, .int .i64 v1)] : List (Nat × Value)).toArray).run Tryz.prog w = .ok (.slice (some ⟨w.heap.size, 0, none⟩) 2 2) { w with heap := w.heap.push (.cells ([.int .i64 v0, .int .i64 v1] : List Value).toArray 3 (0, 0)) } := by kernel_rfl
theorem Numbers_k1 (v0 : Int) (w : World) : (Instr.buildSlice 22 1 ([(0, .int .i64 v0)] : List (Nat × Value)).toArray).run Tryz.prog w = .ok (.slice (some ⟨w.heap.size, 0, none⟩) 1 1) { w with heap := w.heap.push (.cells ([.int .i64 v0] : List Value).toArray 3 (0, 0)) } := by kernel_rfl
theorem Numbers_k2 (v0 : Int) (v1 : Int) (v2 : Int) (w : World) : (Instr.buildSlice 22 3 ([(0, .int .i64 v0), (1, .int .i64 v1), (2, .int .i64 v2)] : List (Nat × Value)).toArray).run Tryz.prog w = .ok (.slice (some ⟨w.heap.size, 0, none⟩) 3 3) { w with heap := w.heap.push (.cells ([.int .i64 v0, .int .i64 v1, .int .i64 v2] : List Value).toArray 3 (0, 0)) } := by kernel_rfl
theorem Numbers_k3 (v0 : Int) (v1 : Int) (v2 : Int) (v3 : Int) (w : World) : (Instr.buildSlice 22 4 ([(0, .int .i64 v0), (1, .int .i64 v1), (2, .int .i64 v2), (3, .int .i64 v3)] : List (Nat × Value)).toArray).run Tryz.prog w = .ok (.slice (some ⟨w.heap.size, 0, none⟩) 4 4) { w with heap := w.heap.push (.cells ([.int .i64 v0, .int .i64 v1, .int .i64 v2, .int .i64 v3] : List Value).toArray 3 (0, 0)) } := by kernel_rfl
theorem Numbers_c {V : Mem} (s : StR) (hs : StOK V s) (hB : (flS s).length ≤ 1099511627776) : CallS Tryz.prog 15 [.agg #[.int .i64 s.tick, .slice s.w.kA s.w.kn s.w.kc, .slice s.w.gA s.w.gn s.w.gc, .slice s.w.iA s.w.iN s.w.iC, .slice s.cA s.cn s.cc, .slice s.mA s.mn s.mc, .slice s.eA s.en s.ec]].toArray V [] (fun r L' => ∃ (A : Option Addr) (n c : Nat) (E : Grp), r = .slice A n c ∧ OS A n c 3 1 ((flS s).map (.int .i64)) E ∧ L' = [E]) := by
 obtain ⟨⟨⟨hwKl, hwKc, hwKb, hwK, hwKK⟩, ⟨hwGl, hwGc, hwGb, hwG⟩, ⟨hwIl, hwIc, hwIb, hwI, hwII⟩⟩, ⟨hsCl, hsCc, hsCb, hsC⟩, ⟨hsMl, hsMc, hsMb, hsM, hsMM⟩, ⟨hsEl, hsEc, hsEb, hsE⟩⟩ := hs; rw [flS_len] at hB; refine callS Tryz.func15 rfl rfl (fun w0 => ?_); refine s_seq (s_region ?_); refine o_box (v := (.agg #[(.int _ _), (.slice _ _ _), (.slice _ _ _), (.slice _ _ _), (.slice _ _ _), (.slice _ _ _), (.slice _ _ _)])) rfl rfl rfl (fun b1 => ?_); refine ov (y_assign (v := .slice _ _ _) rfl) (o_nil ?_); refine s_seq (s_region ?_); refine o_alloc rfl Tryz.zeroValue22 rfl (fun b2 => ?_); refine o_nil ?_; refine s_seq (s_region ?_); refine ov (y_func' (xs := []) (a := []) (b := [(.pointer _)]) rfl rfl) ?_; refine ov (y_assign (v := .func _ _ _) rfl) (o_nil ?_); refine s_seq (s_region ?_); refine ov (y_func' (xs := []) (a := []) (b := [(.pointer _)]) rfl rfl) ?_; refine ov (y_assign (v := .func _ _ _) rfl) (o_nil ?_); refine s_seq (s_region ?_); refine ov (y_load Tryz.isAgg22 rfl (cel_own 1 rfl rfl)) ?_; refine ov (y_field0 (F := 0) Tryz.runUnderlying41 rfl Tryz.sizeOf3 rfl rfl) ?_; refine ov (y_load Tryz.isAgg3 rfl (cel_own 0 rfl rfl)) ?_; refine ov (y_field0 (F := 1) Tryz.runUnderlying41 rfl Tryz.sizeOf35 rfl rfl) ?_; refine ov (y_field0 (F := 0) Tryz.runUnderlying35 rfl Tryz.sizeOf23 rfl rfl) ?_; refine ov (y_load Tryz.isAgg23 rfl (cel_own 0 rfl rfl)) ?_; refine ov (y_len Tryz.runUnderlying23 rfl) ?_; refine o_lit (vs := [(0, .int _ _), (1, .int _ _)]) rfl rfl (Numbers_k0 _ _) (fun b3 => ?_); refine o_newgroup ?_; refine o_append (sz := 1) (bytes := 8) (news := [(.int _ _), (.int _ _)]) 3 rfl Tryz.underlying22 Tryz.type3 rfl rfl rfl rfl rfl (OS.nil 3 1) rfl rfl (Src.slice Tryz.underlying22 (cels_own 2 rfl rfl) rfl (by simp [Value.oneCell']) (by simp)) (by omega) (fun A4 c5 E6 ho7 hn8 => ?_); have ho9 : OS A4 2 c5 3 1 (([s.tick, (s.w.kn : Int)]).map (.int .i64)) E6 := (os_eq ho7 (by simp only [List.map_append, List.map_cons, List.map_nil, List.append_assoc, List.cons_append, List.nil_append]; first | done | rfl))
 clear ho7
 refine o_store (v := .slice _ _ _) 1 rfl Tryz.sizeOf22 rfl rfl rfl rfl (o_nil ?_); refine s_norm [(cB [(.int _ _), (.slice _ _ _), (.slice _ _ _), (.slice _ _ _), (.slice _ _ _), (.slice _ _ _), (.slice _ _ _)] 41 _), (cB [(.slice _ _ _)] 22 _), (cB [(.int _ _), (.int _ _)] 3 _), _] rfl ?_; refine sf [(1, .pointer _), (2, .slice _ _ _), (3, .pointer _), (4, .func _ _ _), (5, .func _ _ _)] (fun _f => ?_); refine s_seq ?_; refine s_seq (s_region ?_); refine ov (y_field0 (F := 1) Tryz.runUnderlying41 rfl Tryz.sizeOf35 rfl rfl) ?_; refine ov (y_field0 (F := 0) Tryz.runUnderlying35 rfl Tryz.sizeOf23 rfl rfl) ?_; refine ov (y_load Tryz.isAgg23 rfl (cel_own 0 rfl rfl)) ?_; refine ov (y_len Tryz.runUnderlying23 rfl) ?_; refine ov (y_move (v := .int _ _) rfl) (o_nil ?_); refine s_block ?_; refine s_loopK (γ := LT1) [(1, .pointer _), (2, .slice _ _ _), (3, .pointer _), (4, .func _ _ _), (5, .func _ _ _), (33, .slice _ _ _), (34, .int _ _)] [_] (fun g => [(35, .int .i64 g.i)]) (fun g => [(cB [.slice g.A g.n g.c] 22 b2), g.E]) (fun g => g.i ≤ s.w.kn ∧ OS g.A g.n g.c 3 1 ((s.tick :: (s.w.kn : Int) :: tk flK s.w.ks g.i).map (.int .i64)) g.E) (fun g => s.w.kn - g.i) (LT1.mk 0 _ A4 c5 E6) (hz8 trivial) (sub_picks [1, 2, 0] rfl) ?_ ?_
 ·exact ⟨Nat.zero_le _, ho9⟩
 intro g _f hI; refine s_norm _ (by simp only [pull, picks, setG, List.cons_append, List.nil_append, List.append_nil, List.drop_succ_cons, List.drop_zero]; rfl) ?_; obtain ⟨hgi, hgo⟩ := hI; have hgl := os_lenI hgo; have hq1 : g.i < s.w.ks.length → (tk flK s.w.ks g.i).length + (flK (s.w.ks.getD ((g.i : Nat) : Int).toNat default)).length ≤ (s.w.ks.flatMap flK).length := fun h => tk_add (d := default) h; simp only [List.length_append, List.length_cons, List.length_nil, flT_len, flF_len, flK_len, flC_len, flI_len, flM_len] at hgl hq1; refine s_seq (s_region ?_); refine ov (y_lss rfl rfl) (o_nil ?_); refine s_seq ?_; refine s_if rfl (fun h10 => ?_) (fun h11 => ?_)
 ·refine s_skip ?_; refine s_seq ?_; refine s_block ?_; refine s_seq (s_region ?_); refine ov (y_indexAddr Tryz.runUnderlying23 Tryz.sizeOf79 (some_at (sz := 1) encK_len (i := 0) hwK (by omega)) rfl rfl (by omega)) ?_; refine ov (y_loads (cs := [_, _]) Tryz.isAgg79 Tryz.sizeOf79 rfl (by unfold idx; rw [Option.isSome_map]; exact some_at (sz := 1) encK_len (i := 0) hwK (by omega)) rfl (cels_at (sz := 2) encK_len hwK.here (by omega))) ?_; refine o_alloc rfl Tryz.zeroValue79 rfl (fun b12 => ?_); refine o_stores (vs := [(.string _), (.slice _ _ _)]) 3 rfl Tryz.sizeOf79 rfl rfl rfl (by simp [Value.oneCell']) (by simp) (o_nil ?_); refine s_seq (s_region ?_); have hkk := hwKK _ (getD_mem' (show g.i < s.w.ks.length by omega) : (s.w.ks.getD ((g.i : Nat) : Int).toNat default) ∈ s.w.ks); have hkl := hkk.1; have hkb := hkk.2.2.1; refine ov (y_move (v := .func _ _ _) rfl) ?_; refine ov (y_field0 (F := 0) Tryz.runUnderlying79 rfl Tryz.sizeOf9 rfl rfl) ?_; refine ov (y_load Tryz.isAgg9 rfl (cel_own 3 rfl rfl)) ?_; refine o_fnv' 2 (d := 42) rfl Tryz.call32 rfl rfl rfl (NumT_c _ _ _ (s.tick :: (s.w.kn : Int) :: tk flK s.w.ks g.i) _ hgo (s.w.ks.getD ((g.i : Nat) : Int).toNat default).name (by omega)) ?_; rintro _ _ ⟨tA, tc, tE, rfl, hto, rfl⟩; have hto2 : OS tA (g.n + 1 + (s.w.ks.getD ((g.i : Nat) : Int).toNat default).name.size) tc 3 1 ((s.tick :: (s.w.kn : Int) :: (tk flK s.w.ks g.i ++ flT (s.w.ks.getD ((g.i : Nat) : Int).toNat default).name)).map (.int .i64)) tE := os_eq hto (by simp only [List.map_append, List.map_cons, List.map_nil, List.append_assoc, List.cons_append, List.nil_append]; first | done | rfl)
  clear hto
  refine o_nil ?_; refine sf [(1, .pointer _), (2, .slice _ _ _), (3, .pointer _), (4, .func _ _ _), (5, .func _ _ _), (7, .pointer _), (33, .slice _ _ _), (34, .int _ _), (35, .int _ _)] (fun _f => ?_); refine s_seq (s_region ?_); refine ov (y_load Tryz.isAgg22 rfl (cel_own 0 rfl rfl)) ?_; refine ov (y_field0 (F := 1) Tryz.runUnderlying79 rfl Tryz.sizeOf77 rfl rfl) ?_; refine ov (y_load Tryz.isAgg77 rfl (cel_own 3 rfl rfl)) ?_; refine ov (y_len Tryz.runUnderlying77 rfl) ?_; refine o_lit (vs := [(0, .int _ _)]) rfl rfl (Numbers_k1 _) (fun b13 => ?_); refine o_append (sz := 1) (bytes := 8) (news := [(.int _ _)]) 1 rfl Tryz.underlying22 Tryz.type3 rfl rfl rfl rfl rfl hto2 rfl rfl (Src.slice Tryz.underlying22 (cels_own 4 rfl rfl) rfl (by simp [Value.oneCell']) (by simp)) (by omega) (fun A14 c15 E16 ho17 hn18 => ?_); have ho19 : OS A14 (g.n + 1 + (s.w.ks.getD ((g.i : Nat) : Int).toNat default).name.size + 1) c15 3 1 ((s.tick :: (s.w.kn : Int) :: (tk flK s.w.ks g.i ++ (flT (s.w.ks.getD ((g.i : Nat) : Int).toNat default).name ++ ((s.w.ks.getD ((g.i : Nat) : Int).toNat default).n : Int) :: tk flF (s.w.ks.getD ((g.i : Nat) : Int).toNat default).fs 0))).map (.int .i64)) E16 := (os_eq ho17 (by simp only [List.map_append, List.map_cons, List.map_nil, List.append_assoc, List.cons_append, List.nil_append, tk_zero]; first | done | rfl))
  clear ho17
  refine o_store (v := .slice _ _ _) 0 rfl Tryz.sizeOf22 rfl rfl rfl rfl (o_nil ?_); refine s_norm [(cB [(.slice _ _ _)] 22 _), _, (cB [(.int _ _), (.slice _ _ _), (.slice _ _ _), (.slice _ _ _), (.slice _ _ _), (.slice _ _ _), (.slice _ _ _)] 41 _), (cB [(.string _), (.slice _ _ _)] 79 _), (cB [(.int _ _)] 3 _)] rfl ?_; refine s_seq (s_region ?_); refine ov (y_field0 (F := 1) Tryz.runUnderlying79 rfl Tryz.sizeOf77 rfl rfl) ?_; refine ov (y_load Tryz.isAgg77 rfl (cel_own 3 rfl rfl)) ?_; refine ov (y_len Tryz.runUnderlying77 rfl) ?_; refine ov (y_move (v := .int _ _) rfl) (o_nil ?_); refine s_block ?_; refine s_loopK (γ := LT1) [(1, .pointer _), (2, .slice _ _ _), (3, .pointer _), (4, .func _ _ _), (5, .func _ _ _), (33, .slice _ _ _), (34, .int _ _), (35, .int _ _), (50, .slice _ _ _), (51, .int _ _)] [_] (fun u => [(52, .int .i64 u.i)]) (fun u => [(cB [.slice u.A u.n u.c] 22 b2), u.E]) (fun u => u.i ≤ (s.w.ks.getD ((g.i : Nat) : Int).toNat default).n ∧ OS u.A u.n u.c 3 1 ((s.tick :: (s.w.kn : Int) :: (tk flK s.w.ks g.i ++ (flT (s.w.ks.getD ((g.i : Nat) : Int).toNat default).name ++ ((s.w.ks.getD ((g.i : Nat) : Int).toNat default).n : Int) :: tk flF (s.w.ks.getD ((g.i : Nat) : Int).toNat default).fs u.i))).map (.int .i64)) u.E) (fun u => (s.w.ks.getD ((g.i : Nat) : Int).toNat default).n - u.i) (LT1.mk 0 _ A14 c15 E16) (hz11 trivial) (sub_picks [0, 0, 0] rfl) ?_ ?_
  ·exact ⟨Nat.zero_le _, ho19⟩
  intro u _f hJ; refine s_norm _ (by simp only [pull, picks, setG, List.cons_append, List.nil_append, List.append_nil, List.drop_succ_cons, List.drop_zero]; rfl) ?_; obtain ⟨hui, huo⟩ := hJ; have hul := os_lenI huo; have hq2 : u.i < (s.w.ks.getD ((g.i : Nat) : Int).toNat default).fs.length → (tk flF (s.w.ks.getD ((g.i : Nat) : Int).toNat default).fs u.i).length + (flF ((s.w.ks.getD ((g.i : Nat) : Int).toNat default).fs.getD ((u.i : Nat) : Int).toNat default)).length ≤ ((s.w.ks.getD ((g.i : Nat) : Int).toNat default).fs.flatMap flF).length := fun h => tk_add (d := default) h; have hq3 : (tk flF (s.w.ks.getD ((g.i : Nat) : Int).toNat default).fs u.i).length ≤ ((s.w.ks.getD ((g.i : Nat) : Int).toNat default).fs.flatMap flF).length := tk_le; simp only [List.length_append, List.length_cons, List.length_nil, flT_len, flF_len, flK_len, flC_len, flI_len, flM_len] at hul hq2; refine s_seq (s_region ?_); refine ov (y_lss rfl rfl) (o_nil ?_); refine s_seq ?_; refine s_if rfl (fun h20 => ?_) (fun h21 => ?_)
  ·refine s_skip ?_; refine s_seq ?_; refine s_block ?_; refine s_seq (s_region ?_); refine ov (y_indexAddr Tryz.runUnderlying77 Tryz.sizeOf75 (some_at (sz := 2) encF_len (i := 0) hkk.2.2.2 (by omega)) rfl rfl (by omega)) ?_; refine ov (y_loads (cs := [_, _, _]) Tryz.isAgg75 Tryz.sizeOf75 rfl (by unfold idx; rw [Option.isSome_map]; exact some_at (sz := 2) encF_len (i := 0) hkk.2.2.2 (by omega)) rfl (cels_at (sz := 3) encF_len hkk.2.2.2.here (by omega))) ?_; refine o_alloc rfl Tryz.zeroValue75 rfl (fun b22 => ?_); refine o_stores (vs := [(.string _), (.int _ _), (.int _ _)]) 3 rfl Tryz.sizeOf75 rfl rfl rfl (by simp [Value.oneCell']) (by simp) (o_nil ?_); refine s_seq (s_region ?_); refine ov (y_move (v := .func _ _ _) rfl) ?_; refine ov (y_field0 (F := 0) Tryz.runUnderlying75 rfl Tryz.sizeOf9 rfl rfl) ?_; refine ov (y_load Tryz.isAgg9 rfl (cel_own 3 rfl rfl)) ?_; refine o_fnv' 2 (d := 59) rfl Tryz.call32 rfl rfl rfl (NumT_c _ _ _ (s.tick :: (s.w.kn : Int) :: (tk flK s.w.ks g.i ++ (flT (s.w.ks.getD ((g.i : Nat) : Int).toNat default).name ++ ((s.w.ks.getD ((g.i : Nat) : Int).toNat default).n : Int) :: tk flF (s.w.ks.getD ((g.i : Nat) : Int).toNat default).fs u.i))) _ huo ((s.w.ks.getD ((g.i : Nat) : Int).toNat default).fs.getD ((u.i : Nat) : Int).toNat default).name (by omega)) ?_; rintro _ _ ⟨tA, tc, tE, rfl, hto, rfl⟩; have hto2 : OS tA (u.n + 1 + ((s.w.ks.getD ((g.i : Nat) : Int).toNat default).fs.getD ((u.i : Nat) : Int).toNat default).name.size) tc 3 1 ((s.tick :: (s.w.kn : Int) :: (tk flK s.w.ks g.i ++ (flT (s.w.ks.getD ((g.i : Nat) : Int).toNat default).name ++ ((s.w.ks.getD ((g.i : Nat) : Int).toNat default).n : Int) :: (tk flF (s.w.ks.getD ((g.i : Nat) : Int).toNat default).fs u.i ++ flT ((s.w.ks.getD ((g.i : Nat) : Int).toNat default).fs.getD ((u.i : Nat) : Int).toNat default).name)))).map (.int .i64)) tE := os_eq hto (by simp only [List.map_append, List.map_cons, List.map_nil, List.append_assoc, List.cons_append, List.nil_append]; first | done | rfl)
   clear hto
   refine o_nil ?_; refine s_region ?_; refine ov (y_load Tryz.isAgg22 rfl (cel_own 0 rfl rfl)) ?_; refine ov (y_field0 (F := 1) Tryz.runUnderlying75 rfl Tryz.sizeOf3 rfl rfl) ?_; refine ov (y_load Tryz.isAgg3 rfl (cel_own 3 rfl rfl)) ?_; refine ov (y_field0 (F := 2) Tryz.runUnderlying75 rfl Tryz.sizeOf3 rfl rfl) ?_; refine ov (y_load Tryz.isAgg3 rfl (cel_own 3 rfl rfl)) ?_; refine o_lit (vs := [(0, .int _ _), (1, .int _ _)]) rfl rfl (Numbers_k0 _ _) (fun b23 => ?_); refine o_append (sz := 1) (bytes := 8) (news := [(.int _ _), (.int _ _)]) 1 rfl Tryz.underlying22 Tryz.type3 rfl rfl rfl rfl rfl hto2 rfl rfl (Src.slice Tryz.underlying22 (cels_own 4 rfl rfl) rfl (by simp [Value.oneCell']) (by simp)) (by omega) (fun A24 c25 E26 ho27 hn28 => ?_); have ho29 : OS A24 (u.n + 1 + ((s.w.ks.getD ((g.i : Nat) : Int).toNat default).fs.getD ((u.i : Nat) : Int).toNat default).name.size + 2) c25 3 1 ((s.tick :: (s.w.kn : Int) :: (tk flK s.w.ks g.i ++ (flT (s.w.ks.getD ((g.i : Nat) : Int).toNat default).name ++ ((s.w.ks.getD ((g.i : Nat) : Int).toNat default).n : Int) :: tk flF (s.w.ks.getD ((g.i : Nat) : Int).toNat default).fs (u.i + 1)))).map (.int .i64)) E26 := (os_eq ho27 (by simp only [List.map_append, List.map_cons, List.map_nil, List.append_assoc, List.cons_append, List.nil_append, tk_succ (f := flF) (d := default) (xs := (s.w.ks.getD ((g.i : Nat) : Int).toNat default).fs) (k := u.i) (by omega), flF]; first | done | rfl))
   clear ho27
   refine o_store (v := .slice _ _ _) 0 rfl Tryz.sizeOf22 rfl rfl rfl rfl (o_nil ?_); refine s_norm [(cB [(.slice _ _ _)] 22 _), _, (cB [(.int _ _), (.slice _ _ _), (.slice _ _ _), (.slice _ _ _), (.slice _ _ _), (.slice _ _ _), (.slice _ _ _)] 41 _), (cB [(.string _), (.int _ _), (.int _ _)] 75 _), (cB [(.int _ _), (.int _ _)] 3 _)] rfl ?_; refine sf [(1, .pointer _), (2, .slice _ _ _), (3, .pointer _), (4, .func _ _ _), (5, .func _ _ _), (33, .slice _ _ _), (34, .int _ _), (35, .int _ _), (50, .slice _ _ _), (51, .int _ _), (52, .int _ _)] (fun _f => ?_); refine s_region ?_; refine ov (y_add rfl rfl (by simp only [inK]; omega)) ?_; refine ov (y_move (v := .int _ _) rfl) (o_nil ?_); exact ⟨LT1.mk (u.i + 1) _ A24 c25 E26, (by first | omega | (dsimp only; omega)), ⟨by dsimp only; omega, ho29⟩, ⟨(congrArg (Value.int .i64) (by (try dsimp only); omega)), hz10 trivial⟩, (sub_picks [0, 0, 0] rfl)⟩
  ·refine s_exit ?_; refine s_region ?_; have hfin := os_eq huo (by simp only [List.map_append, List.map_cons, List.map_nil, List.append_assoc, List.cons_append, List.nil_append, tk_succ (f := flK) (d := default) (xs := s.w.ks) (k := g.i) (by omega), flK, tk_all (show u.i = (s.w.ks.getD ((g.i : Nat) : Int).toNat default).fs.length by omega)]; first | done | rfl : _ = (s.tick :: (s.w.kn : Int) :: tk flK s.w.ks (g.i + 1)).map (Value.int .i64)); refine ov (y_add rfl rfl (by simp only [inK]; omega)) ?_; refine ov (y_move (v := .int _ _) rfl) (o_nil ?_); exact ⟨LT1.mk (g.i + 1) _ u.A u.c u.E, (by first | omega | (dsimp only; omega)), ⟨by dsimp only; omega, hfin⟩, ⟨(congrArg (Value.int .i64) (by (try dsimp only); omega)), hz7 trivial⟩, (sub_picks [0, 0, 0] rfl)⟩
 ·refine s_exit ?_; refine s_seq (s_region ?_); have hgk : g.i = s.w.ks.length := by omega
  rw [tk_all hgk] at hgo hgl; refine ov (y_move (v := .func _ _ _) rfl) ?_; refine ov (y_field0 (F := 1) Tryz.runUnderlying41 rfl Tryz.sizeOf35 rfl rfl) ?_; refine ov (y_field0 (F := 1) Tryz.runUnderlying35 rfl Tryz.sizeOf22 rfl rfl) ?_; refine ov (y_load Tryz.isAgg22 rfl (cel_own 2 rfl rfl)) ?_; refine o_fnv' 2 (d := 73) rfl Tryz.call33 rfl rfl rfl (NumL_c _ _ _ (s.tick :: (s.w.kn : Int) :: s.w.ks.flatMap flK) _ hgo s.w.gA s.w.gn s.w.gc s.w.gs hwG.here.down hwGl hwGc (by omega)) ?_; rintro _ _ ⟨tA, tc, tE, rfl, hto, rfl⟩; have hto2 : OS tA (g.n + 1 + s.w.gn) tc 3 1 ((s.tick :: (s.w.kn : Int) :: (s.w.ks.flatMap flK ++ (s.w.gn : Int) :: s.w.gs)).map (.int .i64)) tE := os_eq hto (by simp only [List.map_append, List.map_cons, List.map_nil, List.append_assoc, List.cons_append, List.nil_append]; first | done | rfl)
  clear hto
  refine o_nil ?_; refine sf [(1, .pointer _), (2, .slice _ _ _), (3, .pointer _), (5, .func _ _ _)] (fun _f => ?_); refine s_seq (s_region ?_); refine ov (y_load Tryz.isAgg22 rfl (cel_own 0 rfl rfl)) ?_; refine ov (y_field0 (F := 1) Tryz.runUnderlying41 rfl Tryz.sizeOf35 rfl rfl) ?_; refine ov (y_field0 (F := 2) Tryz.runUnderlying35 rfl Tryz.sizeOf33 rfl rfl) ?_; refine ov (y_load Tryz.isAgg33 rfl (cel_own 2 rfl rfl)) ?_; refine ov (y_len Tryz.runUnderlying33 rfl) ?_; refine o_lit (vs := [(0, .int _ _)]) rfl rfl (Numbers_k1 _) (fun b30 => ?_); refine o_append (sz := 1) (bytes := 8) (news := [(.int _ _)]) 1 rfl Tryz.underlying22 Tryz.type3 rfl rfl rfl rfl rfl hto2 rfl rfl (Src.slice Tryz.underlying22 (cels_own 3 rfl rfl) rfl (by simp [Value.oneCell']) (by simp)) (by omega) (fun A31 c32 E33 ho34 hn35 => ?_); have ho36 : OS A31 (g.n + 1 + s.w.gn + 1) c32 3 1 ((s.tick :: (s.w.kn : Int) :: (s.w.ks.flatMap flK ++ (s.w.gn : Int) :: (s.w.gs ++ [(s.w.iN : Int)]))).map (.int .i64)) E33 := (os_eq ho34 (by simp only [List.map_append, List.map_cons, List.map_nil, List.append_assoc, List.cons_append, List.nil_append]; first | done | rfl))
  clear ho34
  refine o_store (v := .slice _ _ _) 0 rfl Tryz.sizeOf22 rfl rfl rfl rfl (o_nil ?_); refine s_norm [(cB [(.slice _ _ _)] 22 _), _, (cB [(.int _ _), (.slice _ _ _), (.slice _ _ _), (.slice _ _ _), (.slice _ _ _), (.slice _ _ _), (.slice _ _ _)] 41 _), (cB [(.int _ _)] 3 _)] rfl ?_; refine s_seq ?_; refine s_seq (s_region ?_); refine ov (y_field0 (F := 1) Tryz.runUnderlying41 rfl Tryz.sizeOf35 rfl rfl) ?_; refine ov (y_field0 (F := 2) Tryz.runUnderlying35 rfl Tryz.sizeOf33 rfl rfl) ?_; refine ov (y_load Tryz.isAgg33 rfl (cel_own 2 rfl rfl)) ?_; refine ov (y_len Tryz.runUnderlying33 rfl) ?_; refine ov (y_move (v := .int _ _) rfl) (o_nil ?_); refine s_block ?_; refine s_loopK (γ := LT1) [(1, .pointer _), (2, .slice _ _ _), (3, .pointer _), (5, .func _ _ _), (83, .slice _ _ _), (84, .int _ _)] [_] (fun g => [(85, .int .i64 g.i)]) (fun g => [(cB [.slice g.A g.n g.c] 22 b2), g.E]) (fun g => g.i ≤ s.w.iN ∧ OS g.A g.n g.c 3 1 ((s.tick :: (s.w.kn : Int) :: (s.w.ks.flatMap flK ++ (s.w.gn : Int) :: (s.w.gs ++ (s.w.iN : Int) :: tk flI s.w.its g.i))).map (.int .i64)) g.E) (fun g => s.w.iN - g.i) (LT1.mk 0 _ A31 c32 E33) (hz7 trivial) (sub_picks [0, 0, 0] rfl) ?_ ?_
  ·exact ⟨Nat.zero_le _, ho36⟩
  intro g _f hI; refine s_norm _ (by simp only [pull, picks, setG, List.cons_append, List.nil_append, List.append_nil, List.drop_succ_cons, List.drop_zero]; rfl) ?_; obtain ⟨hgi, hgo⟩ := hI; have hgl := os_lenI hgo; have hq1 : g.i < s.w.its.length → (tk flI s.w.its g.i).length + (flI (s.w.its.getD ((g.i : Nat) : Int).toNat default)).length ≤ (s.w.its.flatMap flI).length := fun h => tk_add (d := default) h; have hq0 : (tk flI s.w.its g.i).length ≤ (s.w.its.flatMap flI).length := tk_le; simp only [List.length_append, List.length_cons, List.length_nil, flT_len, flF_len, flK_len, flC_len, flI_len, flM_len] at hgl hq1; refine s_seq (s_region ?_); refine ov (y_lss rfl rfl) (o_nil ?_); refine s_seq ?_; refine s_if rfl (fun h37 => ?_) (fun h38 => ?_)
  ·refine s_skip ?_; refine s_seq ?_; refine s_block ?_; refine s_seq (s_region ?_); refine ov (y_indexAddr Tryz.runUnderlying33 Tryz.sizeOf54 (some_at (sz := 2) encIt_len (i := 0) hwI (by omega)) rfl rfl (by omega)) ?_; refine ov (y_loads (cs := [_, _, _]) Tryz.isAgg54 Tryz.sizeOf54 rfl (by unfold idx; rw [Option.isSome_map]; exact some_at (sz := 2) encIt_len (i := 0) hwI (by omega)) rfl (cels_at (sz := 3) encIt_len hwI.here (by omega))) ?_; refine o_alloc rfl Tryz.zeroValue54 rfl (fun b39 => ?_); refine o_stores (vs := [(.int _ _), (.int _ _), (.slice _ _ _)]) 3 rfl Tryz.sizeOf54 rfl rfl rfl (by simp [Value.oneCell']) (by simp) (o_nil ?_); refine s_seq (s_region ?_); have hii := hwII _ (getD_mem' (show g.i < s.w.its.length by omega) : (s.w.its.getD ((g.i : Nat) : Int).toNat default) ∈ s.w.its); have hil := hii.1; have hib := hii.2.2.1; refine ov (y_load Tryz.isAgg22 rfl (cel_own 0 rfl rfl)) ?_; refine ov (y_field0 (F := 0) Tryz.runUnderlying54 rfl Tryz.sizeOf51 rfl rfl) ?_; refine ov (y_field0 (F := 0) Tryz.runUnderlying51 rfl Tryz.sizeOf3 rfl rfl) ?_; refine ov (y_load Tryz.isAgg3 rfl (cel_own 3 rfl rfl)) ?_; refine ov (y_field0 (F := 0) Tryz.runUnderlying54 rfl Tryz.sizeOf51 rfl rfl) ?_; refine ov (y_field0 (F := 1) Tryz.runUnderlying51 rfl Tryz.sizeOf3 rfl rfl) ?_; refine ov (y_load Tryz.isAgg3 rfl (cel_own 3 rfl rfl)) ?_; refine ov (y_field0 (F := 2) Tryz.runUnderlying54 rfl Tryz.sizeOf52 rfl rfl) ?_; refine ov (y_load Tryz.isAgg52 rfl (cel_own 3 rfl rfl)) ?_; refine ov (y_len Tryz.runUnderlying52 rfl) ?_; refine o_lit (vs := [(0, .int _ _), (1, .int _ _), (2, .int _ _)]) rfl rfl (Numbers_k2 _ _ _) (fun b40 => ?_); refine o_append (sz := 1) (bytes := 8) (news := [(.int _ _), (.int _ _), (.int _ _)]) 1 rfl Tryz.underlying22 Tryz.type3 rfl rfl rfl rfl rfl hgo rfl rfl (Src.slice Tryz.underlying22 (cels_own 4 rfl rfl) rfl (by simp [Value.oneCell']) (by simp)) (by omega) (fun A41 c42 E43 ho44 hn45 => ?_); have ho46 : OS A41 (g.n + 3) c42 3 1 ((s.tick :: (s.w.kn : Int) :: (s.w.ks.flatMap flK ++ (s.w.gn : Int) :: (s.w.gs ++ (s.w.iN : Int) :: (tk flI s.w.its g.i ++ (s.w.its.getD ((g.i : Nat) : Int).toNat default).e :: (s.w.its.getD ((g.i : Nat) : Int).toNat default).g :: ((s.w.its.getD ((g.i : Nat) : Int).toNat default).n : Int) :: tk flC (s.w.its.getD ((g.i : Nat) : Int).toNat default).cs 0)))).map (.int .i64)) E43 := (os_eq ho44 (by simp only [List.map_append, List.map_cons, List.map_nil, List.append_assoc, List.cons_append, List.nil_append, tk_zero]; first | done | rfl))
   clear ho44
   refine o_store (v := .slice _ _ _) 0 rfl Tryz.sizeOf22 rfl rfl rfl rfl (o_nil ?_); refine s_norm [(cB [(.slice _ _ _)] 22 _), _, (cB [(.int _ _), (.slice _ _ _), (.slice _ _ _), (.slice _ _ _), (.slice _ _ _), (.slice _ _ _), (.slice _ _ _)] 41 _), (cB [(.int _ _), (.int _ _), (.slice _ _ _)] 54 _), (cB [(.int _ _), (.int _ _), (.int _ _)] 3 _)] rfl ?_; refine sf [(1, .pointer _), (2, .slice _ _ _), (3, .pointer _), (5, .func _ _ _), (11, .pointer _), (83, .slice _ _ _), (84, .int _ _), (85, .int _ _)] (fun _f => ?_); refine s_seq (s_region ?_); refine ov (y_field0 (F := 2) Tryz.runUnderlying54 rfl Tryz.sizeOf52 rfl rfl) ?_; refine ov (y_load Tryz.isAgg52 rfl (cel_own 3 rfl rfl)) ?_; refine ov (y_len Tryz.runUnderlying52 rfl) ?_; refine ov (y_move (v := .int _ _) rfl) (o_nil ?_); refine s_block ?_; refine s_loopK (γ := LT1) [(1, .pointer _), (2, .slice _ _ _), (3, .pointer _), (5, .func _ _ _), (83, .slice _ _ _), (84, .int _ _), (85, .int _ _), (102, .slice _ _ _), (103, .int _ _)] [_] (fun u => [(104, .int .i64 u.i)]) (fun u => [(cB [.slice u.A u.n u.c] 22 b2), u.E]) (fun u => u.i ≤ (s.w.its.getD ((g.i : Nat) : Int).toNat default).n ∧ OS u.A u.n u.c 3 1 ((s.tick :: (s.w.kn : Int) :: (s.w.ks.flatMap flK ++ (s.w.gn : Int) :: (s.w.gs ++ (s.w.iN : Int) :: (tk flI s.w.its g.i ++ (s.w.its.getD ((g.i : Nat) : Int).toNat default).e :: (s.w.its.getD ((g.i : Nat) : Int).toNat default).g :: ((s.w.its.getD ((g.i : Nat) : Int).toNat default).n : Int) :: tk flC (s.w.its.getD ((g.i : Nat) : Int).toNat default).cs u.i)))).map (.int .i64)) u.E) (fun u => (s.w.its.getD ((g.i : Nat) : Int).toNat default).n - u.i) (LT1.mk 0 _ A41 c42 E43) (hz10 trivial) (sub_picks [0, 0, 0] rfl) ?_ ?_
   ·exact ⟨Nat.zero_le _, ho46⟩
   intro u _f hJ; refine s_norm _ (by simp only [pull, picks, setG, List.cons_append, List.nil_append, List.append_nil, List.drop_succ_cons, List.drop_zero]; rfl) ?_; obtain ⟨hui, huo⟩ := hJ; have hul := os_lenI huo; have hq2 : u.i < (s.w.its.getD ((g.i : Nat) : Int).toNat default).cs.length → (tk flC (s.w.its.getD ((g.i : Nat) : Int).toNat default).cs u.i).length + (flC ((s.w.its.getD ((g.i : Nat) : Int).toNat default).cs.getD ((u.i : Nat) : Int).toNat default)).length ≤ ((s.w.its.getD ((g.i : Nat) : Int).toNat default).cs.flatMap flC).length := fun h => tk_add (d := default) h; simp only [List.length_append, List.length_cons, List.length_nil, flT_len, flF_len, flK_len, flC_len, flI_len, flM_len] at hul hq2; refine s_seq (s_region ?_); refine ov (y_lss rfl rfl) (o_nil ?_); refine s_seq ?_; refine s_if rfl (fun h47 => ?_) (fun h48 => ?_)
   ·refine s_skip ?_; refine s_seq ?_; refine s_block ?_; refine s_seq (s_region ?_); refine ov (y_indexAddr Tryz.runUnderlying52 Tryz.sizeOf56 (some_at (sz := 1) encC_len (i := 0) hii.2.2.2.1 (by omega)) rfl rfl (by omega)) ?_; refine ov (y_loads (cs := [_, _]) Tryz.isAgg56 Tryz.sizeOf56 rfl (by unfold idx; rw [Option.isSome_map]; exact some_at (sz := 1) encC_len (i := 0) hii.2.2.2.1 (by omega)) rfl (cels_at (sz := 2) encC_len hii.2.2.2.1.here (by omega))) ?_; refine o_alloc rfl Tryz.zeroValue56 rfl (fun b49 => ?_); refine o_stores (vs := [(.int _ _), (.slice _ _ _)]) 3 rfl Tryz.sizeOf56 rfl rfl rfl (by simp [Value.oneCell']) (by simp) (o_nil ?_); refine s_seq (s_region ?_); have hcc := hii.2.2.2.2 _ (getD_mem' (show u.i < (s.w.its.getD ((g.i : Nat) : Int).toNat default).cs.length by omega) : ((s.w.its.getD ((g.i : Nat) : Int).toNat default).cs.getD ((u.i : Nat) : Int).toNat default) ∈ (s.w.its.getD ((g.i : Nat) : Int).toNat default).cs); have hcl := hcc.1; have hcb := hcc.2.2.1; refine ov (y_load Tryz.isAgg22 rfl (cel_own 0 rfl rfl)) ?_; refine ov (y_field0 (F := 0) Tryz.runUnderlying56 rfl Tryz.sizeOf3 rfl rfl) ?_; refine ov (y_load Tryz.isAgg3 rfl (cel_own 3 rfl rfl)) ?_; refine o_lit (vs := [(0, .int _ _)]) rfl rfl (Numbers_k1 _) (fun b50 => ?_); refine o_append (sz := 1) (bytes := 8) (news := [(.int _ _)]) 1 rfl Tryz.underlying22 Tryz.type3 rfl rfl rfl rfl rfl huo rfl rfl (Src.slice Tryz.underlying22 (cels_own 4 rfl rfl) rfl (by simp [Value.oneCell']) (by simp)) (by omega) (fun A51 c52 E53 ho54 hn55 => ?_); have ho56 : OS A51 (u.n + 1) c52 3 1 ((s.tick :: (s.w.kn : Int) :: (s.w.ks.flatMap flK ++ (s.w.gn : Int) :: (s.w.gs ++ (s.w.iN : Int) :: (tk flI s.w.its g.i ++ (s.w.its.getD ((g.i : Nat) : Int).toNat default).e :: (s.w.its.getD ((g.i : Nat) : Int).toNat default).g :: ((s.w.its.getD ((g.i : Nat) : Int).toNat default).n : Int) :: (tk flC (s.w.its.getD ((g.i : Nat) : Int).toNat default).cs u.i ++ [((s.w.its.getD ((g.i : Nat) : Int).toNat default).cs.getD ((u.i : Nat) : Int).toNat default).kind]))))).map (.int .i64)) E53 := (os_eq ho54 (by simp only [List.map_append, List.map_cons, List.map_nil, List.append_assoc, List.cons_append, List.nil_append]; first | done | rfl))
    clear ho54
    refine o_store (v := .slice _ _ _) 0 rfl Tryz.sizeOf22 rfl rfl rfl rfl (o_nil ?_); refine s_norm [(cB [(.slice _ _ _)] 22 _), _, (cB [(.int _ _), (.slice _ _ _), (.slice _ _ _), (.slice _ _ _), (.slice _ _ _), (.slice _ _ _), (.slice _ _ _)] 41 _), (cB [(.int _ _), (.slice _ _ _)] 56 _), (cB [(.int _ _)] 3 _)] rfl ?_; refine s_region ?_; refine ov (y_move (v := .func _ _ _) rfl) ?_; refine ov (y_field0 (F := 1) Tryz.runUnderlying56 rfl Tryz.sizeOf22 rfl rfl) ?_; refine ov (y_load Tryz.isAgg22 rfl (cel_own 3 rfl rfl)) ?_; refine o_fnv' 2 (d := 116) rfl Tryz.call33 rfl rfl rfl (NumL_c _ _ _ (s.tick :: (s.w.kn : Int) :: (s.w.ks.flatMap flK ++ (s.w.gn : Int) :: (s.w.gs ++ (s.w.iN : Int) :: (tk flI s.w.its g.i ++ (s.w.its.getD ((g.i : Nat) : Int).toNat default).e :: (s.w.its.getD ((g.i : Nat) : Int).toNat default).g :: ((s.w.its.getD ((g.i : Nat) : Int).toNat default).n : Int) :: (tk flC (s.w.its.getD ((g.i : Nat) : Int).toNat default).cs u.i ++ [((s.w.its.getD ((g.i : Nat) : Int).toNat default).cs.getD ((u.i : Nat) : Int).toNat default).kind]))))) _ ho56 ((s.w.its.getD ((g.i : Nat) : Int).toNat default).cs.getD ((u.i : Nat) : Int).toNat default).A ((s.w.its.getD ((g.i : Nat) : Int).toNat default).cs.getD ((u.i : Nat) : Int).toNat default).n ((s.w.its.getD ((g.i : Nat) : Int).toNat default).cs.getD ((u.i : Nat) : Int).toNat default).c ((s.w.its.getD ((g.i : Nat) : Int).toNat default).cs.getD ((u.i : Nat) : Int).toNat default).vs hcc.2.2.2.here.down hcl hcc.2.1 (by omega)) ?_; rintro _ _ ⟨tA, tc, tE, rfl, hto, rfl⟩; have hto2 : OS tA (u.n + 1 + 1 + ((s.w.its.getD ((g.i : Nat) : Int).toNat default).cs.getD ((u.i : Nat) : Int).toNat default).n) tc 3 1 ((s.tick :: (s.w.kn : Int) :: (s.w.ks.flatMap flK ++ (s.w.gn : Int) :: (s.w.gs ++ (s.w.iN : Int) :: (tk flI s.w.its g.i ++ (s.w.its.getD ((g.i : Nat) : Int).toNat default).e :: (s.w.its.getD ((g.i : Nat) : Int).toNat default).g :: ((s.w.its.getD ((g.i : Nat) : Int).toNat default).n : Int) :: tk flC (s.w.its.getD ((g.i : Nat) : Int).toNat default).cs (u.i + 1))))).map (.int .i64)) tE := os_eq hto (by simp only [List.map_append, List.map_cons, List.map_nil, List.append_assoc, List.cons_append, List.nil_append, tk_succ (f := flC) (d := default) (xs := (s.w.its.getD ((g.i : Nat) : Int).toNat default).cs) (k := u.i) (by omega), flC]; first | done | rfl)
    clear hto
    refine o_nil ?_; refine s_region ?_; refine ov (y_add rfl rfl (by simp only [inK]; omega)) ?_; refine ov (y_move (v := .int _ _) rfl) (o_nil ?_); exact ⟨LT1.mk (u.i + 1) _ tA tc tE, (by first | omega | (dsimp only; omega)), ⟨by dsimp only; omega, hto2⟩, ⟨(congrArg (Value.int .i64) (by (try dsimp only); omega)), hz9 trivial⟩, (sub_picks [0, 0, 0] rfl)⟩
   ·refine s_exit ?_; refine s_region ?_; have hfin := os_eq huo (by simp only [List.map_append, List.map_cons, List.map_nil, List.append_assoc, List.cons_append, List.nil_append, tk_succ (f := flI) (d := default) (xs := s.w.its) (k := g.i) (by omega), flI, tk_all (show u.i = (s.w.its.getD ((g.i : Nat) : Int).toNat default).cs.length by omega)]; first | done | rfl : _ = (s.tick :: (s.w.kn : Int) :: (s.w.ks.flatMap flK ++ (s.w.gn : Int) :: (s.w.gs ++ (s.w.iN : Int) :: tk flI s.w.its (g.i + 1)))).map (Value.int .i64)); refine ov (y_add rfl rfl (by simp only [inK]; omega)) ?_; refine ov (y_move (v := .int _ _) rfl) (o_nil ?_); exact ⟨LT1.mk (g.i + 1) _ u.A u.c u.E, (by first | omega | (dsimp only; omega)), ⟨by dsimp only; omega, hfin⟩, ⟨(congrArg (Value.int .i64) (by (try dsimp only); omega)), hz6 trivial⟩, (sub_picks [0, 0, 0] rfl)⟩
  ·refine s_exit ?_; refine s_seq (s_region ?_); have hgk2 : g.i = s.w.its.length := by omega
   rw [tk_all hgk2] at hgo hgl; refine ov (y_load Tryz.isAgg22 rfl (cel_own 0 rfl rfl)) ?_; refine ov (y_field0 (F := 4) Tryz.runUnderlying41 rfl Tryz.sizeOf37 rfl rfl) ?_; refine ov (y_load Tryz.isAgg37 rfl (cel_own 2 rfl rfl)) ?_; refine ov (y_len Tryz.runUnderlying37 rfl) ?_; refine o_lit (vs := [(0, .int _ _)]) rfl rfl (Numbers_k1 _) (fun b57 => ?_); refine o_append (sz := 1) (bytes := 8) (news := [(.int _ _)]) 1 rfl Tryz.underlying22 Tryz.type3 rfl rfl rfl rfl rfl hgo rfl rfl (Src.slice Tryz.underlying22 (cels_own 3 rfl rfl) rfl (by simp [Value.oneCell']) (by simp)) (by omega) (fun A58 c59 E60 ho61 hn62 => ?_); have ho63 : OS A58 (g.n + 1) c59 3 1 ((s.tick :: (flW s.w ++ (s.cn : Int) :: tk flCo s.cs 0)).map (.int .i64)) E60 := (os_eq ho61 (by simp only [List.map_append, List.map_cons, List.map_nil, List.append_assoc, List.cons_append, List.nil_append, tk_zero, flW]; first | done | rfl))
   clear ho61
   refine o_store (v := .slice _ _ _) 0 rfl Tryz.sizeOf22 rfl rfl rfl rfl (o_nil ?_); refine s_norm [(cB [(.slice _ _ _)] 22 _), _, (cB [(.int _ _), (.slice _ _ _), (.slice _ _ _), (.slice _ _ _), (.slice _ _ _), (.slice _ _ _), (.slice _ _ _)] 41 _), (cB [(.int _ _)] 3 _)] rfl ?_; refine sf [(1, .pointer _), (2, .slice _ _ _), (3, .pointer _), (5, .func _ _ _)] (fun _f => ?_); refine s_seq ?_; refine s_seq (s_region ?_); refine ov (y_field0 (F := 4) Tryz.runUnderlying41 rfl Tryz.sizeOf37 rfl rfl) ?_; refine ov (y_load Tryz.isAgg37 rfl (cel_own 2 rfl rfl)) ?_; refine ov (y_len Tryz.runUnderlying37 rfl) ?_; refine ov (y_move (v := .int _ _) rfl) (o_nil ?_); refine s_block ?_; refine s_loopK (γ := LT1) [(1, .pointer _), (2, .slice _ _ _), (3, .pointer _), (5, .func _ _ _), (126, .slice _ _ _), (127, .int _ _)] [_] (fun g => [(128, .int .i64 g.i)]) (fun g => [(cB [.slice g.A g.n g.c] 22 b2), g.E]) (fun g => g.i ≤ s.cn ∧ OS g.A g.n g.c 3 1 ((s.tick :: (flW s.w ++ (s.cn : Int) :: tk flCo s.cs g.i)).map (.int .i64)) g.E) (fun g => s.cn - g.i) (LT1.mk 0 _ A58 c59 E60) (hz7 trivial) (sub_picks [0, 0, 0] rfl) ?_ ?_
   ·exact ⟨Nat.zero_le _, ho63⟩
   intro g _f hI; refine s_norm _ (by simp only [pull, picks, setG, List.cons_append, List.nil_append, List.append_nil, List.drop_succ_cons, List.drop_zero]; rfl) ?_; obtain ⟨hgi, hgo⟩ := hI; have hgl := os_lenI hgo; have hq1 : g.i < s.cs.length → (tk flCo s.cs g.i).length + 10 ≤ (s.cs.flatMap flCo).length := fun h => tk_add (f := flCo) (d := default) h; have hq0 : (tk flCo s.cs g.i).length ≤ (s.cs.flatMap flCo).length := tk_le; simp only [List.length_append, List.length_cons, List.length_nil, flW_len] at hgl; refine s_seq (s_region ?_); refine ov (y_lss rfl rfl) (o_nil ?_); refine s_seq ?_; refine s_if rfl (fun h64 => ?_) (fun h65 => ?_)
   ·refine s_skip ?_; refine s_seq ?_; refine s_block ?_; refine s_seq (s_region ?_); refine ov (y_indexAddr Tryz.runUnderlying37 Tryz.sizeOf89 (some_at (sz := 9) encCo_len (i := 0) hsC (by omega)) rfl rfl (by omega)) ?_; refine ov (y_loads (cs := [_, _, _, _, _, _, _, _, _, _]) Tryz.isAgg89 Tryz.sizeOf89 rfl (by unfold idx; rw [Option.isSome_map]; exact some_at (sz := 9) encCo_len (i := 0) hsC (by omega)) rfl (cels_at (sz := 10) encCo_len hsC.here (by omega))) ?_; refine o_alloc rfl Tryz.zeroValue89 rfl (fun b66 => ?_); refine o_stores (vs := [(.int _ _), (.int _ _), (.int _ _), (.int _ _), (.int _ _), (.int _ _), (.int _ _), (.int _ _), (.int _ _), (.int _ _)]) 3 rfl Tryz.sizeOf89 rfl rfl rfl (by simp [Value.oneCell']) (by simp) (o_nil ?_); refine s_seq (s_region ?_); refine ov (y_load Tryz.isAgg22 rfl (cel_own 0 rfl rfl)) ?_; refine ov (y_field0 (F := 0) Tryz.runUnderlying89 rfl Tryz.sizeOf3 rfl rfl) ?_; refine ov (y_load Tryz.isAgg3 rfl (cel_own 3 rfl rfl)) ?_; refine ov (y_field0 (F := 1) Tryz.runUnderlying89 rfl Tryz.sizeOf3 rfl rfl) ?_; refine ov (y_load Tryz.isAgg3 rfl (cel_own 3 rfl rfl)) ?_; refine ov (y_field0 (F := 2) Tryz.runUnderlying89 rfl Tryz.sizeOf3 rfl rfl) ?_; refine ov (y_load Tryz.isAgg3 rfl (cel_own 3 rfl rfl)) ?_; refine o_lit (vs := [(0, .int _ _), (1, .int _ _), (2, .int _ _)]) rfl rfl (Numbers_k2 _ _ _) (fun b67 => ?_); refine o_append (sz := 1) (bytes := 8) (news := [(.int _ _), (.int _ _), (.int _ _)]) 1 rfl Tryz.underlying22 Tryz.type3 rfl rfl rfl rfl rfl hgo rfl rfl (Src.slice Tryz.underlying22 (cels_own 4 rfl rfl) rfl (by simp [Value.oneCell']) (by simp)) (by omega) (fun A68 c69 E70 ho71 hn72 => ?_); have ho73 : OS A68 (g.n + 3) c69 3 1 ((s.tick :: (flW s.w ++ (s.cn : Int) :: (tk flCo s.cs g.i ++ [(s.cs.getD ((g.i : Nat) : Int).toNat default).a, (s.cs.getD ((g.i : Nat) : Int).toNat default).b, (s.cs.getD ((g.i : Nat) : Int).toNat default).id]))).map (.int .i64)) E70 := (os_eq ho71 (by simp only [List.map_append, List.map_cons, List.map_nil, List.append_assoc, List.cons_append, List.nil_append]; first | done | rfl))
    clear ho71
    refine o_store (v := .slice _ _ _) 0 rfl Tryz.sizeOf22 rfl rfl rfl rfl (o_nil ?_); refine s_norm [(cB [(.slice _ _ _)] 22 _), _, (cB [(.int _ _), (.slice _ _ _), (.slice _ _ _), (.slice _ _ _), (.slice _ _ _), (.slice _ _ _), (.slice _ _ _)] 41 _), (cB [(.int _ _), (.int _ _), (.int _ _), (.int _ _), (.int _ _), (.int _ _), (.int _ _), (.int _ _), (.int _ _), (.int _ _)] 89 _), (cB [(.int _ _), (.int _ _), (.int _ _)] 3 _)] rfl ?_; refine sf [(1, .pointer _), (2, .slice _ _ _), (3, .pointer _), (5, .func _ _ _), (15, .pointer _), (126, .slice _ _ _), (127, .int _ _), (128, .int _ _)] (fun _f => ?_); refine s_seq (s_region ?_); refine ov (y_load Tryz.isAgg22 rfl (cel_own 0 rfl rfl)) ?_; refine ov (y_field0 (F := 3) Tryz.runUnderlying89 rfl Tryz.sizeOf27 rfl rfl) ?_; refine ov (y_field0 (F := 0) Tryz.runUnderlying27 rfl Tryz.sizeOf3 rfl rfl) ?_; refine ov (y_load Tryz.isAgg3 rfl (cel_own 3 rfl rfl)) ?_; refine ov (y_field0 (F := 3) Tryz.runUnderlying89 rfl Tryz.sizeOf27 rfl rfl) ?_; refine ov (y_field0 (F := 1) Tryz.runUnderlying27 rfl Tryz.sizeOf3 rfl rfl) ?_; refine ov (y_load Tryz.isAgg3 rfl (cel_own 3 rfl rfl)) ?_; refine ov (y_field0 (F := 5) Tryz.runUnderlying89 rfl Tryz.sizeOf27 rfl rfl) ?_; refine ov (y_field0 (F := 0) Tryz.runUnderlying27 rfl Tryz.sizeOf3 rfl rfl) ?_; refine ov (y_load Tryz.isAgg3 rfl (cel_own 3 rfl rfl)) ?_; refine ov (y_field0 (F := 5) Tryz.runUnderlying89 rfl Tryz.sizeOf27 rfl rfl) ?_; refine ov (y_field0 (F := 1) Tryz.runUnderlying27 rfl Tryz.sizeOf3 rfl rfl) ?_; refine ov (y_load Tryz.isAgg3 rfl (cel_own 3 rfl rfl)) ?_; refine o_lit (vs := [(0, .int _ _), (1, .int _ _), (2, .int _ _), (3, .int _ _)]) rfl rfl (Numbers_k3 _ _ _ _) (fun b74 => ?_); refine o_append (sz := 1) (bytes := 8) (news := [(.int _ _), (.int _ _), (.int _ _), (.int _ _)]) 1 rfl Tryz.underlying22 Tryz.type3 rfl rfl rfl rfl rfl ho73 rfl rfl (Src.slice Tryz.underlying22 (cels_own 5 rfl rfl) rfl (by simp [Value.oneCell']) (by simp)) (by omega) (fun A75 c76 E77 ho78 hn79 => ?_); have ho80 : OS A75 (g.n + 3 + 4) c76 3 1 ((s.tick :: (flW s.w ++ (s.cn : Int) :: (tk flCo s.cs g.i ++ [(s.cs.getD ((g.i : Nat) : Int).toNat default).a, (s.cs.getD ((g.i : Nat) : Int).toNat default).b, (s.cs.getD ((g.i : Nat) : Int).toNat default).id, (s.cs.getD ((g.i : Nat) : Int).toNat default).px, (s.cs.getD ((g.i : Nat) : Int).toNat default).py, (s.cs.getD ((g.i : Nat) : Int).toNat default).nx, (s.cs.getD ((g.i : Nat) : Int).toNat default).ny]))).map (.int .i64)) E77 := (os_eq ho78 (by simp only [List.map_append, List.map_cons, List.map_nil, List.append_assoc, List.cons_append, List.nil_append]; first | done | rfl))
    clear ho78
    refine o_store (v := .slice _ _ _) 0 rfl Tryz.sizeOf22 rfl rfl rfl rfl (o_nil ?_); refine s_norm [(cB [(.slice _ _ _)] 22 _), _, (cB [(.int _ _), (.slice _ _ _), (.slice _ _ _), (.slice _ _ _), (.slice _ _ _), (.slice _ _ _), (.slice _ _ _)] 41 _), (cB [(.int _ _), (.int _ _), (.int _ _), (.int _ _), (.int _ _), (.int _ _), (.int _ _), (.int _ _), (.int _ _), (.int _ _)] 89 _), (cB [(.int _ _), (.int _ _), (.int _ _)] 3 _), (cB [(.int _ _), (.int _ _), (.int _ _), (.int _ _)] 3 _)] rfl ?_; refine sf [(1, .pointer _), (2, .slice _ _ _), (3, .pointer _), (5, .func _ _ _), (15, .pointer _), (126, .slice _ _ _), (127, .int _ _), (128, .int _ _)] (fun _f => ?_); refine s_region ?_; refine ov (y_load Tryz.isAgg22 rfl (cel_own 0 rfl rfl)) ?_; refine ov (y_field0 (F := 7) Tryz.runUnderlying89 rfl Tryz.sizeOf3 rfl rfl) ?_; refine ov (y_load Tryz.isAgg3 rfl (cel_own 3 rfl rfl)) ?_; refine ov (y_field0 (F := 8) Tryz.runUnderlying89 rfl Tryz.sizeOf3 rfl rfl) ?_; refine ov (y_load Tryz.isAgg3 rfl (cel_own 3 rfl rfl)) ?_; refine ov (y_field0 (F := 9) Tryz.runUnderlying89 rfl Tryz.sizeOf3 rfl rfl) ?_; refine ov (y_load Tryz.isAgg3 rfl (cel_own 3 rfl rfl)) ?_; refine o_lit (vs := [(0, .int _ _), (1, .int _ _), (2, .int _ _)]) rfl rfl (Numbers_k2 _ _ _) (fun b81 => ?_); refine o_append (sz := 1) (bytes := 8) (news := [(.int _ _), (.int _ _), (.int _ _)]) 1 rfl Tryz.underlying22 Tryz.type3 rfl rfl rfl rfl rfl ho80 rfl rfl (Src.slice Tryz.underlying22 (cels_own 6 rfl rfl) rfl (by simp [Value.oneCell']) (by simp)) (by omega) (fun A82 c83 E84 ho85 hn86 => ?_); have ho87 : OS A82 (g.n + 3 + 4 + 3) c83 3 1 ((s.tick :: (flW s.w ++ (s.cn : Int) :: tk flCo s.cs (g.i + 1))).map (.int .i64)) E84 := (os_eq ho85 (by simp only [List.map_append, List.map_cons, List.map_nil, List.append_assoc, List.cons_append, List.nil_append, tk_succ (f := flCo) (d := default) (xs := s.cs) (k := g.i) (by omega), flCo]; first | done | rfl))
    clear ho85
    refine o_store (v := .slice _ _ _) 0 rfl Tryz.sizeOf22 rfl rfl rfl rfl (o_nil ?_); refine s_norm [(cB [(.slice _ _ _)] 22 _), _, (cB [(.int _ _), (.slice _ _ _), (.slice _ _ _), (.slice _ _ _), (.slice _ _ _), (.slice _ _ _), (.slice _ _ _)] 41 _), (cB [(.int _ _), (.int _ _), (.int _ _), (.int _ _), (.int _ _), (.int _ _), (.int _ _), (.int _ _), (.int _ _), (.int _ _)] 89 _), (cB [(.int _ _), (.int _ _), (.int _ _)] 3 _), (cB [(.int _ _), (.int _ _), (.int _ _), (.int _ _)] 3 _), (cB [(.int _ _), (.int _ _), (.int _ _)] 3 _)] rfl ?_; refine s_region ?_; refine ov (y_add rfl rfl (by simp only [inK]; omega)) ?_; refine ov (y_move (v := .int _ _) rfl) (o_nil ?_); exact ⟨LT1.mk (g.i + 1) _ A82 c83 E84, (by first | omega | (dsimp only; omega)), ⟨by dsimp only; omega, ho87⟩, ⟨(congrArg (Value.int .i64) (by (try dsimp only); omega)), hz6 trivial⟩, (sub_picks [0, 0, 0] rfl)⟩
   ·refine s_exit ?_; refine s_seq (s_region ?_); have hgk3 : g.i = s.cs.length := by omega
    rw [tk_all hgk3] at hgo hgl; refine ov (y_load Tryz.isAgg22 rfl (cel_own 0 rfl rfl)) ?_; refine ov (y_field0 (F := 5) Tryz.runUnderlying41 rfl Tryz.sizeOf38 rfl rfl) ?_; refine ov (y_load Tryz.isAgg38 rfl (cel_own 2 rfl rfl)) ?_; refine ov (y_len Tryz.runUnderlying38 rfl) ?_; refine o_lit (vs := [(0, .int _ _)]) rfl rfl (Numbers_k1 _) (fun b88 => ?_); refine o_append (sz := 1) (bytes := 8) (news := [(.int _ _)]) 1 rfl Tryz.underlying22 Tryz.type3 rfl rfl rfl rfl rfl hgo rfl rfl (Src.slice Tryz.underlying22 (cels_own 3 rfl rfl) rfl (by simp [Value.oneCell']) (by simp)) (by omega) (fun A89 c90 E91 ho92 hn93 => ?_); have ho94 : OS A89 (g.n + 1) c90 3 1 ((s.tick :: (flW s.w ++ (s.cn : Int) :: (s.cs.flatMap flCo ++ (s.mn : Int) :: tk flM s.ms 0))).map (.int .i64)) E91 := (os_eq ho92 (by simp only [List.map_append, List.map_cons, List.map_nil, List.append_assoc, List.cons_append, List.nil_append, tk_zero]; first | done | rfl))
    clear ho92
    refine o_store (v := .slice _ _ _) 0 rfl Tryz.sizeOf22 rfl rfl rfl rfl (o_nil ?_); refine s_norm [(cB [(.slice _ _ _)] 22 _), _, (cB [(.int _ _), (.slice _ _ _), (.slice _ _ _), (.slice _ _ _), (.slice _ _ _), (.slice _ _ _), (.slice _ _ _)] 41 _), (cB [(.int _ _)] 3 _)] rfl ?_; refine sf [(1, .pointer _), (2, .slice _ _ _), (3, .pointer _), (5, .func _ _ _)] (fun _f => ?_); refine s_seq ?_; refine s_seq (s_region ?_); refine ov (y_field0 (F := 5) Tryz.runUnderlying41 rfl Tryz.sizeOf38 rfl rfl) ?_; refine ov (y_load Tryz.isAgg38 rfl (cel_own 2 rfl rfl)) ?_; refine ov (y_len Tryz.runUnderlying38 rfl) ?_; refine ov (y_move (v := .int _ _) rfl) (o_nil ?_); refine s_block ?_; refine s_loopK (γ := LT1) [(1, .pointer _), (2, .slice _ _ _), (3, .pointer _), (5, .func _ _ _), (173, .slice _ _ _), (174, .int _ _)] [_] (fun g => [(175, .int .i64 g.i)]) (fun g => [(cB [.slice g.A g.n g.c] 22 b2), g.E]) (fun g => g.i ≤ s.mn ∧ OS g.A g.n g.c 3 1 ((s.tick :: (flW s.w ++ (s.cn : Int) :: (s.cs.flatMap flCo ++ (s.mn : Int) :: tk flM s.ms g.i))).map (.int .i64)) g.E) (fun g => s.mn - g.i) (LT1.mk 0 _ A89 c90 E91) (hz7 trivial) (sub_picks [0, 0, 0] rfl) ?_ ?_
    ·exact ⟨Nat.zero_le _, ho94⟩
    intro g _f hI; refine s_norm _ (by simp only [pull, picks, setG, List.cons_append, List.nil_append, List.append_nil, List.drop_succ_cons, List.drop_zero]; rfl) ?_; obtain ⟨hgi, hgo⟩ := hI; have hgl := os_lenI hgo; have hq1 : g.i < s.ms.length → (tk flM s.ms g.i).length + (flM (s.ms.getD ((g.i : Nat) : Int).toNat default)).length ≤ (s.ms.flatMap flM).length := fun h => tk_add (d := default) h; have hq0 : (tk flM s.ms g.i).length ≤ (s.ms.flatMap flM).length := tk_le; simp only [List.length_append, List.length_cons, List.length_nil, flW_len, flM_len] at hgl hq1; refine s_seq (s_region ?_); refine ov (y_lss rfl rfl) (o_nil ?_); refine s_seq ?_; refine s_if rfl (fun h95 => ?_) (fun h96 => ?_)
    ·refine s_skip ?_; refine s_seq ?_; refine s_block ?_; refine s_seq (s_region ?_); refine ov (y_indexAddr Tryz.runUnderlying38 Tryz.sizeOf91 (some_at (sz := 3) encMi_len (i := 0) hsM (by omega)) rfl rfl (by omega)) ?_; refine ov (y_loads (cs := [_, _, _, _]) Tryz.isAgg91 Tryz.sizeOf91 rfl (by unfold idx; rw [Option.isSome_map]; exact some_at (sz := 3) encMi_len (i := 0) hsM (by omega)) rfl (cels_at (sz := 4) encMi_len hsM.here (by omega))) ?_; refine o_alloc rfl Tryz.zeroValue91 rfl (fun b97 => ?_); refine o_stores (vs := [(.int _ _), (.int _ _), (.int _ _), (.slice _ _ _)]) 3 rfl Tryz.sizeOf91 rfl rfl rfl (by simp [Value.oneCell']) (by simp) (o_nil ?_); refine s_seq (s_region ?_); have hmm := hsMM _ (getD_mem' (show g.i < s.ms.length by omega) : (s.ms.getD ((g.i : Nat) : Int).toNat default) ∈ s.ms); have hml := hmm.1; have hmb := hmm.2.2.1; refine ov (y_load Tryz.isAgg22 rfl (cel_own 0 rfl rfl)) ?_; refine ov (y_field0 (F := 0) Tryz.runUnderlying91 rfl Tryz.sizeOf51 rfl rfl) ?_; refine ov (y_field0 (F := 0) Tryz.runUnderlying51 rfl Tryz.sizeOf3 rfl rfl) ?_; refine ov (y_load Tryz.isAgg3 rfl (cel_own 3 rfl rfl)) ?_; refine ov (y_field0 (F := 0) Tryz.runUnderlying91 rfl Tryz.sizeOf51 rfl rfl) ?_; refine ov (y_field0 (F := 1) Tryz.runUnderlying51 rfl Tryz.sizeOf3 rfl rfl) ?_; refine ov (y_load Tryz.isAgg3 rfl (cel_own 3 rfl rfl)) ?_; refine ov (y_field0 (F := 2) Tryz.runUnderlying91 rfl Tryz.sizeOf3 rfl rfl) ?_; refine ov (y_load Tryz.isAgg3 rfl (cel_own 3 rfl rfl)) ?_; refine o_lit (vs := [(0, .int _ _), (1, .int _ _), (2, .int _ _)]) rfl rfl (Numbers_k2 _ _ _) (fun b98 => ?_); refine o_append (sz := 1) (bytes := 8) (news := [(.int _ _), (.int _ _), (.int _ _)]) 1 rfl Tryz.underlying22 Tryz.type3 rfl rfl rfl rfl rfl hgo rfl rfl (Src.slice Tryz.underlying22 (cels_own 4 rfl rfl) rfl (by simp [Value.oneCell']) (by simp)) (by omega) (fun A99 c100 E101 ho102 hn103 => ?_); have ho104 : OS A99 (g.n + 3) c100 3 1 ((s.tick :: (flW s.w ++ (s.cn : Int) :: (s.cs.flatMap flCo ++ (s.mn : Int) :: (tk flM s.ms g.i ++ [(s.ms.getD ((g.i : Nat) : Int).toNat default).e, (s.ms.getD ((g.i : Nat) : Int).toNat default).g, (s.ms.getD ((g.i : Nat) : Int).toNat default).p])))).map (.int .i64)) E101 := (os_eq ho102 (by simp only [List.map_append, List.map_cons, List.map_nil, List.append_assoc, List.cons_append, List.nil_append]; first | done | rfl))
     clear ho102
     refine o_store (v := .slice _ _ _) 0 rfl Tryz.sizeOf22 rfl rfl rfl rfl (o_nil ?_); refine s_norm [(cB [(.slice _ _ _)] 22 _), _, (cB [(.int _ _), (.slice _ _ _), (.slice _ _ _), (.slice _ _ _), (.slice _ _ _), (.slice _ _ _), (.slice _ _ _)] 41 _), (cB [(.int _ _), (.int _ _), (.int _ _), (.slice _ _ _)] 91 _), (cB [(.int _ _), (.int _ _), (.int _ _)] 3 _)] rfl ?_; refine sf [(1, .pointer _), (2, .slice _ _ _), (3, .pointer _), (5, .func _ _ _), (17, .pointer _), (173, .slice _ _ _), (174, .int _ _), (175, .int _ _)] (fun _f => ?_); refine s_region ?_; refine ov (y_move (v := .func _ _ _) rfl) ?_; refine ov (y_field0 (F := 3) Tryz.runUnderlying91 rfl Tryz.sizeOf22 rfl rfl) ?_; refine ov (y_load Tryz.isAgg22 rfl (cel_own 3 rfl rfl)) ?_; refine o_fnv' 2 (d := 193) rfl Tryz.call33 rfl rfl rfl (NumL_c _ _ _ (s.tick :: (flW s.w ++ (s.cn : Int) :: (s.cs.flatMap flCo ++ (s.mn : Int) :: (tk flM s.ms g.i ++ [(s.ms.getD ((g.i : Nat) : Int).toNat default).e, (s.ms.getD ((g.i : Nat) : Int).toNat default).g, (s.ms.getD ((g.i : Nat) : Int).toNat default).p])))) _ ho104 (s.ms.getD ((g.i : Nat) : Int).toNat default).A (s.ms.getD ((g.i : Nat) : Int).toNat default).n (s.ms.getD ((g.i : Nat) : Int).toNat default).c (s.ms.getD ((g.i : Nat) : Int).toNat default).vs hmm.2.2.2.here.down hml hmm.2.1 (by omega)) ?_; rintro _ _ ⟨tA, tc, tE, rfl, hto, rfl⟩; have hto2 : OS tA (g.n + 3 + 1 + (s.ms.getD ((g.i : Nat) : Int).toNat default).n) tc 3 1 ((s.tick :: (flW s.w ++ (s.cn : Int) :: (s.cs.flatMap flCo ++ (s.mn : Int) :: tk flM s.ms (g.i + 1)))).map (.int .i64)) tE := os_eq hto (by simp only [List.map_append, List.map_cons, List.map_nil, List.append_assoc, List.cons_append, List.nil_append, tk_succ (f := flM) (d := default) (xs := s.ms) (k := g.i) (by omega), flM]; first | done | rfl)
     clear hto
     refine o_nil ?_; refine s_region ?_; refine ov (y_add rfl rfl (by simp only [inK]; omega)) ?_; refine ov (y_move (v := .int _ _) rfl) (o_nil ?_); exact ⟨LT1.mk (g.i + 1) _ tA tc tE, (by first | omega | (dsimp only; omega)), ⟨by dsimp only; omega, hto2⟩, ⟨(congrArg (Value.int .i64) (by (try dsimp only); omega)), hz6 trivial⟩, (sub_picks [0, 0, 0] rfl)⟩
    ·refine s_exit ?_; refine s_seq (s_region ?_); have hgk4 : g.i = s.ms.length := by omega
     rw [tk_all hgk4] at hgo hgl; refine ov (y_load Tryz.isAgg22 rfl (cel_own 0 rfl rfl)) ?_; refine ov (y_field0 (F := 6) Tryz.runUnderlying41 rfl Tryz.sizeOf39 rfl rfl) ?_; refine ov (y_load Tryz.isAgg39 rfl (cel_own 2 rfl rfl)) ?_; refine ov (y_len Tryz.runUnderlying39 rfl) ?_; refine o_lit (vs := [(0, .int _ _)]) rfl rfl (Numbers_k1 _) (fun b105 => ?_); refine o_append (sz := 1) (bytes := 8) (news := [(.int _ _)]) 1 rfl Tryz.underlying22 Tryz.type3 rfl rfl rfl rfl rfl hgo rfl rfl (Src.slice Tryz.underlying22 (cels_own 3 rfl rfl) rfl (by simp [Value.oneCell']) (by simp)) (by omega) (fun A106 c107 E108 ho109 hn110 => ?_); have ho111 : OS A106 (g.n + 1) c107 3 1 ((s.tick :: (flW s.w ++ (s.cn : Int) :: (s.cs.flatMap flCo ++ (s.mn : Int) :: (s.ms.flatMap flM ++ (s.en : Int) :: tk flE s.es 0)))).map (.int .i64)) E108 := (os_eq ho109 (by simp only [List.map_append, List.map_cons, List.map_nil, List.append_assoc, List.cons_append, List.nil_append, tk_zero]; first | done | rfl))
     clear ho109
     refine o_store (v := .slice _ _ _) 0 rfl Tryz.sizeOf22 rfl rfl rfl rfl (o_nil ?_); refine s_norm [(cB [(.slice _ _ _)] 22 _), _, (cB [(.int _ _), (.slice _ _ _), (.slice _ _ _), (.slice _ _ _), (.slice _ _ _), (.slice _ _ _), (.slice _ _ _)] 41 _), (cB [(.int _ _)] 3 _)] rfl ?_; refine sf [(1, .pointer _), (2, .slice _ _ _), (3, .pointer _)] (fun _f => ?_); refine s_seq ?_; refine s_seq (s_region ?_); refine ov (y_field0 (F := 6) Tryz.runUnderlying41 rfl Tryz.sizeOf39 rfl rfl) ?_; refine ov (y_load Tryz.isAgg39 rfl (cel_own 2 rfl rfl)) ?_; refine ov (y_len Tryz.runUnderlying39 rfl) ?_; refine ov (y_move (v := .int _ _) rfl) (o_nil ?_); refine s_block ?_; refine s_loopK (γ := LT1) [(2, .slice _ _ _), (3, .pointer _), (202, .slice _ _ _), (203, .int _ _)] [] (fun g => [(204, .int .i64 g.i)]) (fun g => [(cB [.slice g.A g.n g.c] 22 b2), g.E]) (fun g => g.i ≤ s.en ∧ OS g.A g.n g.c 3 1 ((s.tick :: (flW s.w ++ (s.cn : Int) :: (s.cs.flatMap flCo ++ (s.mn : Int) :: (s.ms.flatMap flM ++ (s.en : Int) :: tk flE s.es g.i)))).map (.int .i64)) g.E) (fun g => s.en - g.i) (LT1.mk 0 _ A106 c107 E108) (hz5 trivial) (sub_picks [0, 0] rfl) ?_ ?_
     ·exact ⟨Nat.zero_le _, ho111⟩
     intro g _f hI; refine s_norm _ (by simp only [pull, picks, setG, List.cons_append, List.nil_append, List.append_nil, List.drop_succ_cons, List.drop_zero]; rfl) ?_; obtain ⟨hgi, hgo⟩ := hI; have hgl := os_lenI hgo; have hq1 : g.i < s.es.length → (tk flE s.es g.i).length + 4 ≤ (s.es.flatMap flE).length := fun h => tk_add (f := flE) (d := default) h; have hq0 : (tk flE s.es g.i).length ≤ (s.es.flatMap flE).length := tk_le; simp only [List.length_append, List.length_cons, List.length_nil, flW_len] at hgl; refine s_seq (s_region ?_); refine ov (y_lss rfl rfl) (o_nil ?_); refine s_seq ?_; refine s_if rfl (fun h112 => ?_) (fun h113 => ?_)
     ·refine s_skip ?_; refine s_seq ?_; refine s_block ?_; refine s_seq (s_region ?_); refine ov (y_indexAddr Tryz.runUnderlying39 Tryz.sizeOf93 (some_at (sz := 3) encEv_len (i := 0) hsE (by omega)) rfl rfl (by omega)) ?_; refine ov (y_loads (cs := [_, _, _, _]) Tryz.isAgg93 Tryz.sizeOf93 rfl (by unfold idx; rw [Option.isSome_map]; exact some_at (sz := 3) encEv_len (i := 0) hsE (by omega)) rfl (cels_at (sz := 4) encEv_len hsE.here (by omega))) ?_; refine o_alloc rfl Tryz.zeroValue93 rfl (fun b114 => ?_); refine o_stores (vs := [(.int _ _), (.int _ _), (.int _ _), (.int _ _)]) 2 rfl Tryz.sizeOf93 rfl rfl rfl (by simp [Value.oneCell']) (by simp) (o_nil ?_); refine s_region ?_; refine ov (y_load Tryz.isAgg22 rfl (cel_own 0 rfl rfl)) ?_; refine ov (y_field0 (F := 0) Tryz.runUnderlying93 rfl Tryz.sizeOf3 rfl rfl) ?_; refine ov (y_load Tryz.isAgg3 rfl (cel_own 2 rfl rfl)) ?_; refine ov (y_field0 (F := 1) Tryz.runUnderlying93 rfl Tryz.sizeOf51 rfl rfl) ?_; refine ov (y_field0 (F := 0) Tryz.runUnderlying51 rfl Tryz.sizeOf3 rfl rfl) ?_; refine ov (y_load Tryz.isAgg3 rfl (cel_own 2 rfl rfl)) ?_; refine ov (y_field0 (F := 1) Tryz.runUnderlying93 rfl Tryz.sizeOf51 rfl rfl) ?_; refine ov (y_field0 (F := 1) Tryz.runUnderlying51 rfl Tryz.sizeOf3 rfl rfl) ?_; refine ov (y_load Tryz.isAgg3 rfl (cel_own 2 rfl rfl)) ?_; refine ov (y_field0 (F := 3) Tryz.runUnderlying93 rfl Tryz.sizeOf3 rfl rfl) ?_; refine ov (y_load Tryz.isAgg3 rfl (cel_own 2 rfl rfl)) ?_; refine o_lit (vs := [(0, .int _ _), (1, .int _ _), (2, .int _ _), (3, .int _ _)]) rfl rfl (Numbers_k3 _ _ _ _) (fun b115 => ?_); refine o_append (sz := 1) (bytes := 8) (news := [(.int _ _), (.int _ _), (.int _ _), (.int _ _)]) 1 rfl Tryz.underlying22 Tryz.type3 rfl rfl rfl rfl rfl hgo rfl rfl (Src.slice Tryz.underlying22 (cels_own 3 rfl rfl) rfl (by simp [Value.oneCell']) (by simp)) (by omega) (fun A116 c117 E118 ho119 hn120 => ?_); have ho121 : OS A116 (g.n + 4) c117 3 1 ((s.tick :: (flW s.w ++ (s.cn : Int) :: (s.cs.flatMap flCo ++ (s.mn : Int) :: (s.ms.flatMap flM ++ (s.en : Int) :: tk flE s.es (g.i + 1))))).map (.int .i64)) E118 := (os_eq ho119 (by simp only [List.map_append, List.map_cons, List.map_nil, List.append_assoc, List.cons_append, List.nil_append, tk_succ (f := flE) (d := default) (xs := s.es) (k := g.i) (by omega), flE]; first | done | rfl))
      clear ho119
      refine o_store (v := .slice _ _ _) 0 rfl Tryz.sizeOf22 rfl rfl rfl rfl (o_nil ?_); refine s_norm [(cB [(.slice _ _ _)] 22 _), _, (cB [(.int _ _), (.int _ _), (.int _ _), (.int _ _)] 93 _), (cB [(.int _ _), (.int _ _), (.int _ _), (.int _ _)] 3 _)] rfl ?_; refine sf [(2, .slice _ _ _), (3, .pointer _), (202, .slice _ _ _), (203, .int _ _), (204, .int _ _)] (fun _f => ?_); refine s_region ?_; refine ov (y_add rfl rfl (by simp only [inK]; omega)) ?_; refine ov (y_move (v := .int _ _) rfl) (o_nil ?_); exact ⟨LT1.mk (g.i + 1) _ A116 c117 E118, (by first | omega | (dsimp only; omega)), ⟨by dsimp only; omega, ho121⟩, ⟨(congrArg (Value.int .i64) (by (try dsimp only); omega)), hz4 trivial⟩, (sub_picks [0, 0] rfl)⟩
     ·refine s_exit ?_; refine s_seq (s_region ?_); refine ov (y_load Tryz.isAgg22 rfl (cel_own 0 rfl rfl)) ?_; refine ov (y_assign (v := .slice _ _ _) rfl) (o_nil ?_); refine s_ret ?_; have hgk5 : g.i = s.es.length := by omega
      rw [tk_all hgk5] at hgo; exact ⟨_, [_], res1 rfl rfl, ⟨g.A, g.n, g.c, g.E, rfl, hgo, rfl⟩, sub_picks [1] rfl⟩

end Go.Proofs.YtlkajdcgdoijjaaGreatDoor.K
end
section
set_option linter.unusedVariables false
set_option linter.unusedSimpArgs false
set_option maxRecDepth 100000
namespace Go.Proofs.YtlkajdcgdoijjaaGreatDoor.K
open Go.RowKit

theorem SameSt_c {V : Mem} (x y : StR) (hx : StOK V x) (hy : StOK V y) (hbx : (flS x).length ≤ 1099511627776) (hby : (flS y).length ≤ 1099511627776) : CallS Tryz.prog 19 [.agg #[.int .i64 x.tick, .slice x.w.kA x.w.kn x.w.kc, .slice x.w.gA x.w.gn x.w.gc, .slice x.w.iA x.w.iN x.w.iC, .slice x.cA x.cn x.cc, .slice x.mA x.mn x.mc, .slice x.eA x.en x.ec], .agg #[.int .i64 y.tick, .slice y.w.kA y.w.kn y.w.kc, .slice y.w.gA y.w.gn y.w.gc, .slice y.w.iA y.w.iN y.w.iC, .slice y.cA y.cn y.cc, .slice y.mA y.mn y.mc, .slice y.eA y.en y.ec]].toArray V [] (fun r L' => r = .bool (decide (flS x = flS y)) ∧ L' = []) := by
 refine callS Tryz.func19 rfl rfl (fun w0 => ?_); refine s_seq (s_region ?_); refine o_box (v := (.agg #[(.int _ _), (.slice _ _ _), (.slice _ _ _), (.slice _ _ _), (.slice _ _ _), (.slice _ _ _), (.slice _ _ _)])) rfl rfl rfl (fun b1 => ?_); refine o_box (v := (.agg #[(.int _ _), (.slice _ _ _), (.slice _ _ _), (.slice _ _ _), (.slice _ _ _), (.slice _ _ _), (.slice _ _ _)])) rfl rfl rfl (fun b2 => ?_); refine ov (y_assign (v := .bool _) rfl) (o_nil ?_); refine s_seq ?_; refine s_drawn 0 (by kernel_rfl) ?_; refine dv 0 rfl rfl (y_loads (cs := [_, _, _, _, _, _, _]) Tryz.isAgg41 Tryz.sizeOf41 rfl rfl rfl (cels_own 0 rfl rfl)) ?_; refine dv 2 rfl rfl (y_loads (cs := [_, _, _, _, _, _, _]) Tryz.isAgg41 Tryz.sizeOf41 rfl rfl rfl (cels_own 1 rfl rfl)) ?_; refine d_eff (k := 1) (n := 0) (m := 2) rfl (by kernel_rfl) rfl ?_; refine o_fn 0 (d := 6) rfl Tryz.call15 (Numbers_c x (hx.sub MSub.ext) hbx) rfl ?_; rintro _ _ ⟨A1, n1, c1, E1, rfl, ho1, rfl⟩; refine o_nil ?_; refine d_eff (k := 3) (n := 1) (m := 2) rfl (by kernel_rfl) rfl ?_; refine o_fn 0 (d := 8) rfl Tryz.call15 (Numbers_c y (hy.sub MSub.ext) hby) rfl ?_; rintro _ _ ⟨A2, n2, c2, E2, rfl, ho2, rfl⟩; refine o_nil ?_; refine d_eff (k := 4) (n := 2) (m := 2) rfl (by kernel_rfl) rfl ?_; refine o_fn 0 (d := 9) rfl Tryz.call13 (EqualI_c A1 n1 c1 (flS x) (ho1.cels (j := 1) rfl).down (os_lenI ho1) A2 n2 c2 (flS y) (ho2.cels (j := 0) rfl).down (os_lenI ho2) (by have := os_lenI ho1; omega)) rfl ?_; rintro _ _ ⟨rfl, rfl⟩; refine o_nil ?_; refine dv 5 rfl rfl (y_assign (v := .bool _) rfl) ?_; refine d_nil (n := 2) (m := 2) (by kernel_rfl) rfl ?_; refine s_ret ?_; exact ⟨_, [], res1 rfl rfl, ⟨rfl, rfl⟩, sub_picks [] rfl⟩

/-- The state that answers a fault. -/
def st0 : StR := ⟨0, ⟨none, 0, 0, [], none, 0, 0, [], none, 0, 0, []⟩, none, 0, 0, [], none, 0, 0, [], none, 0, 0, []⟩
theorem st0_ok {V : Mem} : StOK V st0 := ⟨⟨⟨rfl, Nat.le_refl _, Nat.zero_le _, Cels.nil, fun x hx => absurd hx List.not_mem_nil⟩, ⟨rfl, Nat.le_refl _, Nat.zero_le _, Cels.nil⟩, ⟨rfl, Nat.le_refl _, Nat.zero_le _, Cels.nil, fun x hx => absurd hx List.not_mem_nil⟩⟩, ⟨rfl, Nat.le_refl _, Nat.zero_le _, Cels.nil⟩, ⟨rfl, Nat.le_refl _, Nat.zero_le _, Cels.nil, fun x hx => absurd hx List.not_mem_nil⟩, ⟨rfl, Nat.le_refl _, Nat.zero_le _, Cels.nil⟩⟩
theorem st0_len : (flS st0).length ≤ 1099511627776 := by decide

end Go.Proofs.YtlkajdcgdoijjaaGreatDoor.K
end
section
set_option linter.unusedSimpArgs false
set_option linter.unusedVariables false
namespace Go.Proofs.YtlkajdcgdoijjaaGreatDoor.K
open Go.RowKit
/-- The entries of a map. -/
def mEs : List (Int × Int) → Nat → List MapEntry
 | [], _ => []
 | p :: r, i => ⟨.int .i64 p.1, .int .i64 p.2, i⟩ :: mEs r (i + 1)
def mGet (xs : List (Int × Int)) (q : Int) : Option Int := (xs.find? (fun p => decide (p.1 = q))).map (·.2)
def mObj (xs : List (Int × Int)) : Obj := .map (mEs xs 0).toArray xs.length
def mGrp (b : Nat) (xs : List (Int × Int)) : Grp := [(b, mObj xs)]
theorem mEs_snoc (p : Int × Int) : ∀ (xs : List (Int × Int)) (i : Nat), mEs (xs ++ [p]) i = mEs xs i ++ [⟨.int .i64 p.1, .int .i64 p.2, i + xs.length⟩]
 | [], i => rfl
 | q :: xs, i => by
  simp only [List.cons_append, mEs, mEs_snoc p xs (i + 1), List.length_cons]; rw [show i + 1 + xs.length = i + (xs.length + 1) by omega]
theorem mGet_cons (p : Int × Int) (xs : List (Int × Int)) (q : Int) : mGet (p :: xs) q = if p.1 = q then some p.2 else mGet xs q := by
 unfold mGet; rw [List.find?_cons]
 by_cases h : p.1 = q
 ·simp [h]
 ·simp [h]
theorem mGet_none {xs : List (Int × Int)} {q : Int} (h : ∀ p ∈ xs, p.1 ≠ q) : mGet xs q = none := by
 unfold mGet; rw [List.find?_eq_none.2 (fun p hp => by simpa using h p hp)]; rfl
theorem mGet_snoc {xs : List (Int × Int)} {p : Int × Int} {q : Int} : mGet (xs ++ [p]) q = (mGet xs q).or (if p.1 = q then some p.2 else none) := by
 induction xs with
 | nil => simp [mGet_cons, mGet_none]
 | cons x xs ih => rw [List.cons_append, mGet_cons, mGet_cons, ih]; split <;> simp
theorem find_mEs (q : Int) : ∀ (xs : List (Int × Int)) (i j : Nat), ∃ r, Instr.findNow (.int .i64) (.int .i64 q) (mEs xs i) j = some r ∧ r.map (·.2) = (mGet xs q).map (.int .i64)
 | [], i, j => ⟨none, rfl, rfl⟩
 | p :: xs, i, j => by
  simp only [mEs, Instr.findNow, Instr.sameNow, mGet_cons]
  by_cases h : p.1 = q
  ·rw [if_pos h, show (q == p.1) = true from beq_iff_eq.2 h.symm]; exact ⟨_, rfl, rfl⟩
  ·rw [if_neg h, show (q == p.1) = false from by simpa using fun e => h e.symm]; exact find_mEs q xs (i + 1) (j + 1)
section
variable {P : Program} {N : Nm} {w0 : World} {V : Mem} {Q : Exit → Frm → List Grp → Prop} {f : Frm} {L : List Grp} {ops : Array Oper} {rest : List Oper} {o : Oper} {d : Nat} {v : Value}
variable {ty : TypeId} {ps : String} {af : Array Edge} {g : Option (Nat × Bool)}
theorem run_checkKey_int {kt : TypeId} {k : IntKind} {e : Bool} (n : Nat) (q : Int) (w : World) (hk : ∀ w, (underlying kt).run P w = .ok (.int k) w) : (Instr.checkKey e (n + 1) kt (.int k q)).run P w = .ok () w := by
 unfold Instr.checkKey; simp only [Sem.run_bind, hk, Result.andThen_ok]
 rfl
theorem o_makeMapI {t : TypeId} (hN : Nat.blt d N = true) (h : ∀ b, opsS P N w0 V ops Q rest (upd f d (.map (some b))) (L ++ [mGrp b []])) :
  opsS P N w0 V ops Q (⟨some d, .makeMap t none, ty, ps, af, none⟩ :: rest) f L := o_makeMap hN h
theorem o_insertI {t kt et : TypeId} {m k x : Operand} {b : Nat} {xs : List (Int × Int)} {q z : Int} (j : Nat) (hj : nth L j = some (mGrp b xs)) (ht : ∀ w, (underlying t).run P w = .ok (.map kt et) w) (hk : ∀ w, (underlying kt).run P w = .ok (.int .i64) w) (hm : evF f m = .map (some b)) (hkx : evF f k = .int .i64 q) (hv : evF f x = .int .i64 z) (hn : mGet xs q = none)
  (h : opsS P N w0 V ops Q rest f (setG L j (mGrp b (xs ++ [(q, z)])))) : opsS P N w0 V ops Q (⟨none, .mapUpdate t m k x, ty, ps, af, none⟩ :: rest) f L := by
 refine o_skip rfl rfl (fun w hw => ?_) h; have hb : w.heap[b]? = some (mObj xs) := hw.own (b, mObj xs) (nth_mem hj _ (by simp [mGrp])); have hg : (getObj b).run P w = .ok (mObj xs) w := by unfold mObj at hb ⊢; simp [getObj, Sem.run, hb]
 have hs : (setObj b (mObj (xs ++ [(q, z)]))).run P w = .ok () { w with heap := w.heap.setIfInBounds b (mObj (xs ++ [(q, z)])) } := by unfold mObj at hb ⊢; simp [setObj, Sem.run, hb]
 have hlt : b < w.heap.size := (Array.getElem?_eq_some_iff.1 hb).1; refine ⟨{ w with heap := w.heap.setIfInBounds b (mObj (xs ++ [(q, z)])) }, ?_, hw.put (r := []) hj rfl rfl rfl (by simp) (by simp [hlt]) (fun q hq => by simp [Array.getElem?_setIfInBounds, Ne.symm hq])⟩; have hck : (Instr.checkKey false 10000 kt (.int .i64 q)).run P w = .ok () w := run_checkKey_int 9999 q w hk; obtain ⟨r, h1, h2⟩ := find_mEs q xs 0 0; rw [hn] at h2; have hr : r = none := by cases r <;> simp_all
 subst hr; have hfk : (Instr.findKey kt (.int .i64 q) (mEs xs 0)).run P w = .ok none w := by simp [Instr.findKey, hk, h1]
 have hpush : mObj (xs ++ [(q, z)]) = .map (mEs xs 0 ++ [MapEntry.mk (.int .i64 q) (.int .i64 z) xs.length]).toArray (xs.length + 1) := by
  unfold mObj; rw [mEs_snoc, List.length_append, Nat.zero_add]; rfl
 rw [hpush] at hs ⊢; simp only [execOp, hm, hkx, hv, Sem.run_bind]; simp [Instr.mapUpdate, ht, hg, hck, hfk, hs, mObj]
theorem y_lookupI {t kt et : TypeId} {m k : Operand} {b : Nat} {xs : List (Int × Int)} {q : Int} (j : Nat) (hj : nth L j = some (mGrp b xs)) (ht : ∀ w, (underlying t).run P w = .ok (.map kt et) w) (hk : ∀ w, (underlying kt).run P w = .ok (.int .i64) w) (hz : ∀ w, (zeroValue et).run P w = .ok (.int .i64 0) w) (hm : evF f m = .map (some b)) (hkx : evF f k = .int .i64 q) :
  Yld P f V L ⟨some d, .lookup t m k true, ty, ps, af, g⟩ (.tuple #[.int .i64 ((mGet xs q).getD 0), .bool (mGet xs q).isSome]) := fun w0 w hw => by
 have hb : w.heap[b]? = some (mObj xs) := hw.own (b, mObj xs) (nth_mem hj _ (by simp [mGrp])); have hg : (getObj b).run P w = .ok (mObj xs) w := by unfold mObj at hb ⊢; simp [getObj, Sem.run, hb]
 have hck : ∀ e, (Instr.checkKey e 10000 kt (.int .i64 q)).run P w = .ok () w := fun e => run_checkKey_int 9999 q w hk; obtain ⟨r, h1, h2⟩ := find_mEs q xs 0 0; have hfk : (Instr.findKey kt (.int .i64 q) (mEs xs 0)).run P w = .ok r w := by simp [Instr.findKey, hk, h1]
 cases hq : mGet xs q with
 | none =>
  rw [hq] at h2; have hr : r = none := by cases r <;> simp_all
  subst hr; simp [execOp, hm, hkx, Instr.lookup, ht, hg, mObj, hck, hfk, hz]
 | some y =>
  rw [hq] at h2; obtain ⟨i, rfl⟩ : ∃ i, r = some (i, .int .i64 y) := by
   cases r with
   | none => simp at h2
   | some p => obtain ⟨i, v⟩ := p; simp at h2; exact ⟨i, by rw [h2]⟩
  simp [execOp, hm, hkx, Instr.lookup, ht, hg, mObj, hck, hfk]
end
end Go.Proofs.YtlkajdcgdoijjaaGreatDoor.K
end
section
set_option linter.unusedVariables false
set_option linter.unusedSimpArgs false
set_option maxRecDepth 100000
namespace Go.Proofs.YtlkajdcgdoijjaaGreatDoor.K
open Go.RowKit

end Go.Proofs.YtlkajdcgdoijjaaGreatDoor.K
end
section
set_option linter.unusedVariables false
set_option linter.unusedSimpArgs false
set_option maxRecDepth 100000
namespace Go.Proofs.YtlkajdcgdoijjaaGreatDoor.K
open Go.RowKit

/-- Where a kind with a name and fields is. -/
def locate (ks : List KR) (nm : ByteArray) (nms : List ByteArray) : Int × Bool :=
 match ks.findIdx? (fun k => decide (k.name = nm)) with
 | none => (-1, true)
 | some j => if names (ks.getD j default).fs = nms then ((j : Int), true) else (-1, false)
theorem locate_spot (ks : List KR) (nm : ByteArray) (nms : List ByteArray) : Spot ks nm nms (locate ks nm nms).1 (locate ks nm nms).2 := by
 unfold locate
 cases h : ks.findIdx? (fun k => decide (k.name = nm)) with
 | none =>
  rw [List.findIdx?_eq_none_iff] at h; refine .inl ⟨.inl ⟨rfl, fun j hj => ?_⟩, rfl, rfl⟩; have := h (ks.getD j default) (getD_mem' hj)
  simpa using this
 | some j =>
  rw [List.findIdx?_eq_some_iff_getElem] at h; obtain ⟨hj, h1, h2⟩ := h; have g1 : (ks.getD j default).name = nm := by rw [List.getD_eq_getElem?_getD, List.getElem?_eq_getElem hj]; simpa using h1
  have g2 : ∀ i, i < j → (ks.getD i default).name ≠ nm := fun i hi => by
   have := h2 i hi; rw [List.getD_eq_getElem?_getD, List.getElem?_eq_getElem (by omega)]; simpa using this
  refine .inr ⟨j, hj, .inr ⟨j, rfl, hj, g1, g2⟩, ?_⟩; dsimp only
  split
  ·rename_i e; exact .inl ⟨e, rfl, rfl⟩
  ·rename_i e; exact .inr ⟨e, rfl, rfl⟩
theorem Spot.eq {ks : List KR} {nm : ByteArray} {nms : List ByteArray} {r : Int} {o : Bool} (h : Spot ks nm nms r o) : r = (locate ks nm nms).1 ∧ o = (locate ks nm nms).2 := h.unique (locate_spot ks nm nms)
/-- The map of kinds, and its fault. -/
def ofR (ks : List KR) : (Int × Int × Int) × Int :=
 if ckErr ks ≠ 0 then ((0, 0, 0), ckErr ks) else
 if (locate ks (⟨#[112, 108, 97, 99, 101]⟩ : ByteArray) [(⟨#[120]⟩ : ByteArray), (⟨#[121]⟩ : ByteArray), (⟨#[97, 110, 103]⟩ : ByteArray)]).2 = false then ((0, 0, 0), 8) else
 if (locate ks (⟨#[109, 111, 116, 105, 111, 110]⟩ : ByteArray) [(⟨#[118, 120]⟩ : ByteArray), (⟨#[118, 121]⟩ : ByteArray), (⟨#[115, 112, 105, 110]⟩ : ByteArray), (⟨#[99, 97, 108, 109]⟩ : ByteArray)]).2 = false then ((0, 0, 0), 8) else
 if (locate ks (⟨#[115, 104, 97, 112, 101]⟩ : ByteArray) [(⟨#[119]⟩ : ByteArray), (⟨#[104]⟩ : ByteArray), (⟨#[109, 97, 115, 115]⟩ : ByteArray), (⟨#[98, 111, 117, 110, 99, 101]⟩ : ByteArray), (⟨#[114, 117, 98]⟩ : ByteArray)]).2 = false then ((0, 0, 0), 8) else
 (((locate ks (⟨#[112, 108, 97, 99, 101]⟩ : ByteArray) [(⟨#[120]⟩ : ByteArray), (⟨#[121]⟩ : ByteArray), (⟨#[97, 110, 103]⟩ : ByteArray)]).1, (locate ks (⟨#[109, 111, 116, 105, 111, 110]⟩ : ByteArray) [(⟨#[118, 120]⟩ : ByteArray), (⟨#[118, 121]⟩ : ByteArray), (⟨#[115, 112, 105, 110]⟩ : ByteArray), (⟨#[99, 97, 108, 109]⟩ : ByteArray)]).1, (locate ks (⟨#[115, 104, 97, 112, 101]⟩ : ByteArray) [(⟨#[119]⟩ : ByteArray), (⟨#[104]⟩ : ByteArray), (⟨#[109, 97, 115, 115]⟩ : ByteArray), (⟨#[98, 111, 117, 110, 99, 101]⟩ : ByteArray), (⟨#[114, 117, 98]⟩ : ByteArray)]).1), 0)
def agM (m : Int × Int × Int) : Value := .agg #[.int .i64 m.1, .int .i64 m.2.1, .int .i64 m.2.2]
theorem if8 {o : Bool} (h : ¬ (if o then (0 : Int) else 8) ≠ 0) : o = true := by cases o <;> simp_all
theorem if8' {o : Bool} (h : (if o then (0 : Int) else 8) ≠ 0) : o = false := by cases o <;> simp_all

theorem Of_k0 (w : World) : (Instr.build 143 ([] : List (Nat × Value)).toArray).run Tryz.prog w = .ok (.agg #[.int .i64 0, .int .i64 0, .int .i64 0]) w := by kernel_rfl
theorem Of_k1 (v0 : ByteArray) (v1 : ByteArray) (v2 : ByteArray) (w : World) : (Instr.buildSlice 25 3 ([(0, .string v0), (1, .string v1), (2, .string v2)] : List (Nat × Value)).toArray).run Tryz.prog w = .ok (.slice (some ⟨w.heap.size, 0, none⟩) 3 3) { w with heap := w.heap.push (.cells ([.string v0, .string v1, .string v2] : List Value).toArray 9 (0, 0)) } := by kernel_rfl
theorem Of_k2 (v0 : ByteArray) (v1 : ByteArray) (v2 : ByteArray) (v3 : ByteArray) (w : World) : (Instr.buildSlice 25 4 ([(0, .string v0), (1, .string v1), (2, .string v2), (3, .string v3)] : List (Nat × Value)).toArray).run Tryz.prog w = .ok (.slice (some ⟨w.heap.size, 0, none⟩) 4 4) { w with heap := w.heap.push (.cells ([.string v0, .string v1, .string v2, .string v3] : List Value).toArray 9 (0, 0)) } := by kernel_rfl
theorem Of_k3 (v0 : ByteArray) (v1 : ByteArray) (v2 : ByteArray) (v3 : ByteArray) (v4 : ByteArray) (w : World) : (Instr.buildSlice 25 5 ([(0, .string v0), (1, .string v1), (2, .string v2), (3, .string v3), (4, .string v4)] : List (Nat × Value)).toArray).run Tryz.prog w = .ok (.slice (some ⟨w.heap.size, 0, none⟩) 5 5) { w with heap := w.heap.push (.cells ([.string v0, .string v1, .string v2, .string v3, .string v4] : List Value).toArray 9 (0, 0)) } := by kernel_rfl
theorem Of_c {V : Mem} (A : Option Addr) (n c : Nat) (ks : List KR) (h : Cels V [] A (ks.flatMap encK)) (hn : ks.length = n) (hc : n ≤ c) (hb : n ≤ 140737488355328) (hK : ∀ k ∈ ks, KOK V k) : CallS Tryz.prog 64 [.slice A n c].toArray V [] (fun r L' => r = .tuple #[agM (ofR ks).1, .int .i64 (ofR ks).2] ∧ L' = []) := by
 refine callS Tryz.func64 rfl rfl (fun w0 => ?_); refine s_seq (s_region ?_); refine o_alloc rfl Tryz.zeroValue143 rfl (fun b1 => ?_); refine ov (y_assign (v := .int _ _) rfl) (o_nil ?_); refine s_seq ?_; refine s_seq (s_region ?_); refine ov (y_move (v := .slice _ _ _) rfl) ?_; refine o_fn 0 (d := 8) rfl Tryz.call68 (CheckK_c _ _ _ ks h.here.down hn hc hb (fun k hk => (hK k hk).lift)) rfl ?_; rintro _ _ ⟨rfl, rfl⟩; refine ov (y_assign (v := .int _ _) rfl) (o_nil ?_); refine s_seq (s_region ?_); refine ov (y_move (v := .int _ _) rfl) ?_; refine ov (y_neq rfl rfl) (o_nil ?_); refine s_if rfl (fun h2 => ?_) (fun h3 => ?_)
 ·have c0 := h2; refine s_seq (s_region ?_); refine ov (y_build (vs := []) rfl (Of_k0)) ?_; refine ov (y_move (v := .int _ _) rfl) ?_; refine o_stores (vs := [(.int _ _), (.int _ _), (.int _ _)]) 0 rfl Tryz.sizeOf143 rfl rfl rfl (by simp [Value.oneCell']) (by simp) ?_; refine ov (y_assign (v := .int _ _) rfl) (o_nil ?_); refine s_ret ?_; exact ⟨_, [], resv2 rfl (RV.cells rfl Tryz.isAgg143 Tryz.sizeOf143 rfl rfl (cels_own 0 rfl rfl)) (RV.tmp rfl), ⟨by unfold ofR; rw [if_pos (show ckErr ks ≠ 0 from c0)]; rfl, rfl⟩, sub_picks [] rfl⟩
 ·have c0 := Decidable.not_not.1 h3; refine s_skip ?_; refine s_seq (s_region ?_); refine o_alloc rfl Tryz.zeroValue143 rfl (fun b4 => ?_); refine o_nil ?_; refine s_seq (s_region ?_); refine ov (y_assign (v := .int _ _) rfl) (o_nil ?_); refine s_seq ?_; refine s_seq (s_region ?_); refine ov (y_move (v := .slice _ _ _) rfl) ?_; refine o_lit (vs := [(0, .string _), (1, .string _), (2, .string _)]) rfl rfl (Of_k1 _ _ _) (fun b5 => ?_); refine o_fn 0 (d := 16) rfl Tryz.call91 (find_c _ _ _ ks h.here.down hn hb (fun k hk => (hK k hk).lift) _ _ _ _ [(⟨#[120]⟩ : ByteArray), (⟨#[121]⟩ : ByteArray), (⟨#[97, 110, 103]⟩ : ByteArray)] (cels_own (cs := ([(⟨#[120]⟩ : ByteArray), (⟨#[121]⟩ : ByteArray), (⟨#[97, 110, 103]⟩ : ByteArray)]).map .string) 2 rfl rfl).down rfl) rfl ?_; rintro _ _ ⟨k0, o0, rfl, hs0, rfl⟩; obtain ⟨e0, f0⟩ := hs0.eq; refine ov (y_move (v := (.tuple #[(.int _ _), (.int _ _)])) rfl) ?_; refine ov (y_extract (v := .int _ _) rfl rfl) ?_; refine ov (y_extract (v := .int _ _) rfl rfl) ?_; refine ov (y_field0 (F := 0) Tryz.runUnderlying143 rfl Tryz.sizeOf3 rfl rfl) ?_; refine o_store (v := .int _ _) 1 rfl Tryz.sizeOf3 rfl rfl rfl rfl ?_; refine ov (y_assign (v := .int _ _) rfl) (o_nil ?_); refine sf [(0, .slice _ _ _), (2, .pointer _), (3, .int _ _), (5, .pointer _), (6, .int _ _)] (fun _f => ?_); refine s_seq (s_region ?_); refine ov (y_move (v := .int _ _) rfl) ?_; refine ov (y_neq rfl rfl) (o_nil ?_); refine s_if rfl (fun h6 => ?_) (fun h7 => ?_)
  ·have q0 := h6; refine s_seq (s_region ?_); refine ov (y_build (vs := []) rfl (Of_k0)) ?_; refine ov (y_move (v := .int _ _) rfl) ?_; refine o_stores (vs := [(.int _ _), (.int _ _), (.int _ _)]) 0 rfl Tryz.sizeOf143 rfl rfl rfl (by simp [Value.oneCell']) (by simp) ?_; refine ov (y_assign (v := .int _ _) rfl) (o_nil ?_); refine s_norm [(cB [(.int _ _), (.int _ _), (.int _ _)] 143 _), (cB [(.int _ _), (.int _ _), (.int _ _)] 143 _), (cB [(.string _), (.string _), (.string _)] 9 _)] rfl ?_; refine s_ret ?_; exact ⟨_, [], resv2 rfl (RV.cells rfl Tryz.isAgg143 Tryz.sizeOf143 rfl rfl (cels_own 0 rfl rfl)) (RV.tmp rfl), ⟨by unfold ofR; rw [if_neg (show ¬ (ckErr ks ≠ 0) from fun hh => hh c0)]; rw [if_pos (show (locate ks (⟨#[112, 108, 97, 99, 101]⟩ : ByteArray) [(⟨#[120]⟩ : ByteArray), (⟨#[121]⟩ : ByteArray), (⟨#[97, 110, 103]⟩ : ByteArray)]).2 = false from by rw [← f0]; exact if8' q0)]; rw [if8' q0]; rfl, rfl⟩, sub_picks [] rfl⟩
  ·have q0 := h7; refine s_skip ?_; refine s_seq ?_; refine s_seq (s_region ?_); refine ov (y_move (v := .slice _ _ _) rfl) ?_; refine o_lit (vs := [(0, .string _), (1, .string _), (2, .string _), (3, .string _)]) rfl rfl (Of_k2 _ _ _ _) (fun b8 => ?_); refine o_fn 0 (d := 27) rfl Tryz.call91 (find_c _ _ _ ks h.here.down hn hb (fun k hk => (hK k hk).lift) _ _ _ _ [(⟨#[118, 120]⟩ : ByteArray), (⟨#[118, 121]⟩ : ByteArray), (⟨#[115, 112, 105, 110]⟩ : ByteArray), (⟨#[99, 97, 108, 109]⟩ : ByteArray)] (cels_own (cs := ([(⟨#[118, 120]⟩ : ByteArray), (⟨#[118, 121]⟩ : ByteArray), (⟨#[115, 112, 105, 110]⟩ : ByteArray), (⟨#[99, 97, 108, 109]⟩ : ByteArray)]).map .string) 3 rfl rfl).down rfl) rfl ?_; rintro _ _ ⟨k1, o1, rfl, hs1, rfl⟩; obtain ⟨e1, f1⟩ := hs1.eq; refine ov (y_move (v := (.tuple #[(.int _ _), (.int _ _)])) rfl) ?_; refine ov (y_extract (v := .int _ _) rfl rfl) ?_; refine ov (y_extract (v := .int _ _) rfl rfl) ?_; refine ov (y_field0 (F := 1) Tryz.runUnderlying143 rfl Tryz.sizeOf3 rfl rfl) ?_; refine o_store (v := .int _ _) 1 rfl Tryz.sizeOf3 rfl rfl rfl rfl ?_; refine ov (y_assign (v := .int _ _) rfl) (o_nil ?_); refine s_norm [(cB [(.int _ _), (.int _ _), (.int _ _)] 143 _), (cB [(.int _ _), (.int _ _), (.int _ _)] 143 _), (cB [(.string _), (.string _), (.string _)] 9 _), (cB [(.string _), (.string _), (.string _), (.string _)] 9 _)] rfl ?_; refine s_seq (s_region ?_); refine ov (y_move (v := .int _ _) rfl) ?_; refine ov (y_neq rfl rfl) (o_nil ?_); refine s_if rfl (fun h9 => ?_) (fun h10 => ?_)
   ·have q1 := h9; refine s_seq (s_region ?_); refine ov (y_build (vs := []) rfl (Of_k0)) ?_; refine ov (y_move (v := .int _ _) rfl) ?_; refine o_stores (vs := [(.int _ _), (.int _ _), (.int _ _)]) 0 rfl Tryz.sizeOf143 rfl rfl rfl (by simp [Value.oneCell']) (by simp) ?_; refine ov (y_assign (v := .int _ _) rfl) (o_nil ?_); refine s_ret ?_; exact ⟨_, [], resv2 rfl (RV.cells rfl Tryz.isAgg143 Tryz.sizeOf143 rfl rfl (cels_own 0 rfl rfl)) (RV.tmp rfl), ⟨by unfold ofR; rw [if_neg (show ¬ (ckErr ks ≠ 0) from fun hh => hh c0)]; rw [if_neg (show ¬ (locate ks (⟨#[112, 108, 97, 99, 101]⟩ : ByteArray) [(⟨#[120]⟩ : ByteArray), (⟨#[121]⟩ : ByteArray), (⟨#[97, 110, 103]⟩ : ByteArray)]).2 = false from by rw [← f0, if8 q0]; decide)]; rw [if_pos (show (locate ks (⟨#[109, 111, 116, 105, 111, 110]⟩ : ByteArray) [(⟨#[118, 120]⟩ : ByteArray), (⟨#[118, 121]⟩ : ByteArray), (⟨#[115, 112, 105, 110]⟩ : ByteArray), (⟨#[99, 97, 108, 109]⟩ : ByteArray)]).2 = false from by rw [← f1]; exact if8' q1)]; rw [if8' q1]; rfl, rfl⟩, sub_picks [] rfl⟩
   ·have q1 := h10; refine s_skip ?_; refine s_seq ?_; refine s_seq (s_region ?_); refine ov (y_move (v := .slice _ _ _) rfl) ?_; refine o_lit (vs := [(0, .string _), (1, .string _), (2, .string _), (3, .string _), (4, .string _)]) rfl rfl (Of_k3 _ _ _ _ _) (fun b11 => ?_); refine o_fn 0 (d := 38) rfl Tryz.call91 (find_c _ _ _ ks h.here.down hn hb (fun k hk => (hK k hk).lift) _ _ _ _ [(⟨#[119]⟩ : ByteArray), (⟨#[104]⟩ : ByteArray), (⟨#[109, 97, 115, 115]⟩ : ByteArray), (⟨#[98, 111, 117, 110, 99, 101]⟩ : ByteArray), (⟨#[114, 117, 98]⟩ : ByteArray)] (cels_own (cs := ([(⟨#[119]⟩ : ByteArray), (⟨#[104]⟩ : ByteArray), (⟨#[109, 97, 115, 115]⟩ : ByteArray), (⟨#[98, 111, 117, 110, 99, 101]⟩ : ByteArray), (⟨#[114, 117, 98]⟩ : ByteArray)]).map .string) 4 rfl rfl).down rfl) rfl ?_; rintro _ _ ⟨k2, o2, rfl, hs2, rfl⟩; obtain ⟨e2, f2⟩ := hs2.eq; refine ov (y_move (v := (.tuple #[(.int _ _), (.int _ _)])) rfl) ?_; refine ov (y_extract (v := .int _ _) rfl rfl) ?_; refine ov (y_extract (v := .int _ _) rfl rfl) ?_; refine ov (y_field0 (F := 2) Tryz.runUnderlying143 rfl Tryz.sizeOf3 rfl rfl) ?_; refine o_store (v := .int _ _) 1 rfl Tryz.sizeOf3 rfl rfl rfl rfl ?_; refine ov (y_assign (v := .int _ _) rfl) (o_nil ?_); refine sf [(2, .pointer _), (3, .int _ _), (5, .pointer _), (6, .int _ _)] (fun _f => ?_); refine s_seq (s_region ?_); refine ov (y_move (v := .int _ _) rfl) ?_; refine ov (y_neq rfl rfl) (o_nil ?_); refine s_if rfl (fun h12 => ?_) (fun h13 => ?_)
    ·have q2 := h12; refine s_seq (s_region ?_); refine ov (y_build (vs := []) rfl (Of_k0)) ?_; refine ov (y_move (v := .int _ _) rfl) ?_; refine o_stores (vs := [(.int _ _), (.int _ _), (.int _ _)]) 0 rfl Tryz.sizeOf143 rfl rfl rfl (by simp [Value.oneCell']) (by simp) ?_; refine ov (y_assign (v := .int _ _) rfl) (o_nil ?_); refine s_norm [(cB [(.int _ _), (.int _ _), (.int _ _)] 143 _), (cB [(.int _ _), (.int _ _), (.int _ _)] 143 _), (cB [(.string _), (.string _), (.string _)] 9 _), (cB [(.string _), (.string _), (.string _), (.string _)] 9 _), (cB [(.string _), (.string _), (.string _), (.string _), (.string _)] 9 _)] rfl ?_; refine s_ret ?_; exact ⟨_, [], resv2 rfl (RV.cells rfl Tryz.isAgg143 Tryz.sizeOf143 rfl rfl (cels_own 0 rfl rfl)) (RV.tmp rfl), ⟨by unfold ofR; rw [if_neg (show ¬ (ckErr ks ≠ 0) from fun hh => hh c0)]; rw [if_neg (show ¬ (locate ks (⟨#[112, 108, 97, 99, 101]⟩ : ByteArray) [(⟨#[120]⟩ : ByteArray), (⟨#[121]⟩ : ByteArray), (⟨#[97, 110, 103]⟩ : ByteArray)]).2 = false from by rw [← f0, if8 q0]; decide)]; rw [if_neg (show ¬ (locate ks (⟨#[109, 111, 116, 105, 111, 110]⟩ : ByteArray) [(⟨#[118, 120]⟩ : ByteArray), (⟨#[118, 121]⟩ : ByteArray), (⟨#[115, 112, 105, 110]⟩ : ByteArray), (⟨#[99, 97, 108, 109]⟩ : ByteArray)]).2 = false from by rw [← f1, if8 q1]; decide)]; rw [if_pos (show (locate ks (⟨#[115, 104, 97, 112, 101]⟩ : ByteArray) [(⟨#[119]⟩ : ByteArray), (⟨#[104]⟩ : ByteArray), (⟨#[109, 97, 115, 115]⟩ : ByteArray), (⟨#[98, 111, 117, 110, 99, 101]⟩ : ByteArray), (⟨#[114, 117, 98]⟩ : ByteArray)]).2 = false from by rw [← f2]; exact if8' q2)]; rw [if8' q2]; rfl, rfl⟩, sub_picks [] rfl⟩
    ·have q2 := h13; refine s_skip ?_; refine s_seq (s_region ?_); refine ov (y_loads (cs := [_, _, _]) Tryz.isAgg143 Tryz.sizeOf143 rfl rfl rfl (cels_own 1 rfl rfl)) ?_; refine o_stores (vs := [(.int _ _), (.int _ _), (.int _ _)]) 0 rfl Tryz.sizeOf143 rfl rfl rfl (by simp [Value.oneCell']) (by simp) ?_; refine ov (y_assign (v := .int _ _) rfl) (o_nil ?_); refine s_norm [(cB [(.int _ _), (.int _ _), (.int _ _)] 143 _), (cB [(.int _ _), (.int _ _), (.int _ _)] 143 _), (cB [(.string _), (.string _), (.string _)] 9 _), (cB [(.string _), (.string _), (.string _), (.string _)] 9 _), (cB [(.string _), (.string _), (.string _), (.string _), (.string _)] 9 _)] rfl ?_; refine s_ret ?_; exact ⟨_, [], resv2 rfl (RV.cells rfl Tryz.isAgg143 Tryz.sizeOf143 rfl rfl (cels_own 0 rfl rfl)) (RV.tmp rfl), ⟨by unfold ofR; rw [if_neg (show ¬ (ckErr ks ≠ 0) from fun hh => hh c0)]; rw [if_neg (show ¬ (locate ks (⟨#[112, 108, 97, 99, 101]⟩ : ByteArray) [(⟨#[120]⟩ : ByteArray), (⟨#[121]⟩ : ByteArray), (⟨#[97, 110, 103]⟩ : ByteArray)]).2 = false from by rw [← f0, if8 q0]; decide)]; rw [if_neg (show ¬ (locate ks (⟨#[109, 111, 116, 105, 111, 110]⟩ : ByteArray) [(⟨#[118, 120]⟩ : ByteArray), (⟨#[118, 121]⟩ : ByteArray), (⟨#[115, 112, 105, 110]⟩ : ByteArray), (⟨#[99, 97, 108, 109]⟩ : ByteArray)]).2 = false from by rw [← f1, if8 q1]; decide)]; rw [if_neg (show ¬ (locate ks (⟨#[115, 104, 97, 112, 101]⟩ : ByteArray) [(⟨#[119]⟩ : ByteArray), (⟨#[104]⟩ : ByteArray), (⟨#[109, 97, 115, 115]⟩ : ByteArray), (⟨#[98, 111, 117, 110, 99, 101]⟩ : ByteArray), (⟨#[114, 117, 98]⟩ : ByteArray)]).2 = false from by rw [← f2, if8 q2]; decide)]; rw [← e0, ← e1, ← e2]; rfl, rfl⟩, sub_picks [] rfl⟩

end Go.Proofs.YtlkajdcgdoijjaaGreatDoor.K
end
section
set_option linter.unusedVariables false
namespace Go.Proofs.YtlkajdcgdoijjaaGreatDoor.K
open Go.RowKit
section
variable {P : Program} {N : Nm} {w0 : World} {V : Mem} {L0 : List Grp} {LS : List (Nat × List Grp)} {Q : Exit → Frm → List Grp → Prop} {f : Frm} {L : List Grp} {ops : Array Oper} {o : Oper} {d : Nat} {v : Value}
/-- The groups 'L0' stay as they are; others each till an operation. -/
def CU (w0 : World) (V : Mem) (L0 : List Grp) (LS : List (Nat × List Grp)) (listed : Array Bool) (w : World) : Prop := SH w0 V w L0 ∧ ∀ p ∈ LS, listed.getD p.1 true = false → SH w0 V w p.2
def drawU (P : Program) (N : Nm) (w0 : World) (V : Mem) (L0 : List Grp) (LS : List (Nat × List Grp)) (ops : Array Oper) (Q : Exit → Frm → List Grp → Prop) (fuel : Nat) (listed : List Bool) (f : Frm) (L : List Grp) : Prop :=
 ∀ a w, Rep N f a → SH w0 V w L → anyS P ops (CU w0 V L0 LS) (onN fun a w => lift N w0 V Q .normal a w) fuel listed.toArray a w
theorem s_drawU {id : Nat} {l : List Oper} (js : List Nat) (ts : List (Nat × List Nat)) (hm : P.follows .mixedOrders = true) (h0 : picks js L = L0) (hl : ts.map (fun t => (t.1, picks t.2 L)) = LS) (h : drawU P N w0 V L0 LS l.toArray Q l.length (List.replicate l.length false) f L) : wpS P N w0 V (.region id l.toArray true) Q f L := by
 intro a w ha hw; refine wp_mono (wp_region_any (Q := onN fun a w => lift N w0 V Q .normal a w) hm ?_) ?_
 ·have := (h a _ ha (hw.drawn (w.drawn + 1))).any
  simpa [List.toArray_replicate] using this
 ·intro e a w h
  cases e with
  | normal => exact h
  | _ => exact h.elim
/-- Which groups an operation reads. -/
def RdU (L0 : List Grp) (LS : List (Nat × List Grp)) (ops : Array Oper) (listed : List Bool) (i : Nat) (LD : List Grp) : Prop := (LS.all fun p => !(i == p.1)) = true ∧ (LD = L0 ∨ ∃ p ∈ LS, LD = p.2 ∧ ∃ cs, chainB ops listed i cs p.1 = true)
theorem RdU.stay {listed : List Bool} {i : Nat} (h : (LS.all fun p => !(i == p.1)) = true) : RdU L0 LS ops listed i L0 := ⟨h, .inl rfl⟩
theorem RdU.till {listed : List Bool} {i : Nat} {LD : List Grp} (q : Nat) {kk : Nat} (cs : List Nat) (h : (LS.all fun p => !(i == p.1)) = true) (hq : LS[q]? = some (kk, LD)) (hc : chainB ops listed i cs kk = true) : RdU L0 LS ops listed i LD :=
 ⟨h, .inr ⟨(kk, LD), List.mem_of_getElem? hq, rfl, cs, hc⟩⟩
theorem u_core {fuel i : Nat} {listed : List Bool} {LD : List Grp} (hi : ops[i]? = some o) (hs : Region.noSelect ops = true) (hr : (Region.ready .any ops listed.toArray).contains i = true) (hf : Region.free .any ops listed.toArray i = true) (hR : RdU L0 LS ops listed i LD) {a : Act} {w : World}
  (hy : YV P ops (fun w => SH w0 V w LD) o v a) (H : anyS P ops (CU w0 V L0 LS) (onN fun a w => lift N w0 V Q .normal a w) fuel (listed.set i true).toArray (a.put o.dst v) w) : anyS P ops (CU w0 V L0 LS) (onN fun a w => lift N w0 V Q .normal a w) (fuel + 1) listed.toArray a w := by
 obtain ⟨hne, hR⟩ := hR; have hne' : ∀ p ∈ LS, i ≠ p.1 := fun p hp => by
  have := List.all_eq_true.1 hne p hp
  simpa using this
 have hset : ∀ listed w, CU w0 V L0 LS (listed.setIfInBounds i true) w → CU w0 V L0 LS listed w := fun listed w h => ⟨h.1, fun p hp hl => h.2 p hp (by rw [getD_set_ne true (hne' p hp)]; exact hl)⟩; have H' : anyS P ops (CU w0 V L0 LS) (onN fun a w => lift N w0 V Q .normal a w) fuel (listed.toArray.setIfInBounds i true) (a.put o.dst v) w := by simpa using H
 rcases hR with rfl | ⟨p, hp, rfl, cs, hc⟩
 ·exact anyS_first (D := fun w => SH w0 V w LD) (inv := fun _ => True) hi (Region.noSelect_spec hs) (fun _ _ _ h => h) hset (fun _ _ _ h => h.1) (fun _ _ _ _ _ _ => trivial) fuel _ a w trivial (Region.free_spec hi hf) (by simpa using hr) hy H'
 ·obtain ⟨kk, LD⟩ := p; simp only [chainB, Bool.and_eq_true, List.all_eq_true, Bool.not_eq_true'] at hc; obtain ⟨hc1, hc2⟩ := hc; have hk : kk ∈ cs := by
   rcases links_last hc1 with h | h
   ·exact absurd h.symm (hne' _ hp)
   ·exact h
  refine anyS_first (D := fun w => SH w0 V w LD) (inv := fun listed => ∀ c ∈ cs, listed.getD c true = false) hi (Region.noSelect_spec hs) (fun _ _ _ h => h) hset (fun _ _ hv h => h.2 _ hp (hv kk hk)) ?_ fuel _ a w (fun c hcm => by simpa using hc2 c hcm) (Region.free_spec hi hf) (by simpa using hr) hy H'; intro listed j hv hri hrj hji c hcm; have hjc : j ≠ c := by
   rintro rfl; obtain ⟨oc, hoc, e, he, hb, hon⟩ := links_pred hc1 j hcm; obtain ⟨_, oj, hoj, hall⟩ := mem_ready.1 hrj; rw [hoc] at hoj
   cases hoj
   have h1 := hall e he hb; have h0 : listed.getD e.on true = false := by
    rcases hon with h | h
    ·rw [h]; exact (mem_ready.1 hri).1
    ·exact hv _ h
   rcases Nat.lt_or_ge e.on listed.size with h' | h'
   ·simp [h'] at h0 h1; rw [h0] at h1; cases h1
   ·simp [Array.getElem?_eq_none h'] at h1
  rw [getD_set_ne true hjc]; exact hv c hcm
def StU (listed : List Bool) (L : List Grp) : List (Nat × List Grp) → Prop
 | [] => True
 | p :: r => (listed.getD p.1 true = true ∨ ∃ ja, picks ja L = p.2) ∧ StU listed L r
theorem StU.get {listed : List Bool} : ∀ {LS : List (Nat × List Grp)}, StU listed L LS → ∀ p ∈ LS, listed.getD p.1 true = true ∨ ∃ ja, picks ja L = p.2
 | [], _, p, hp => by cases hp
 | q :: r, h, p, hp => by
  rcases List.mem_cons.1 hp with rfl | hp
  ·exact h.1
  ·exact StU.get h.2 p hp
theorem CU.of {listed : List Bool} {w : World} (js : List Nat) (hs : picks js L = L0) (h : StU listed L LS) (hw : SH w0 V w L) : CU w0 V L0 LS listed.toArray w := ⟨sub_picks js hs _ _ _ hw, fun p hp hl => by
 have e : listed.toArray.getD p.1 true = listed.getD p.1 true := by simp
 rcases h.get p hp with h1 | ⟨ja, h1⟩
 ·rw [e, h1] at hl; cases hl
 ·exact sub_picks ja h1 _ _ _ hw⟩
theorem u_nil {fuel : Nat} {listed : List Bool} (js : List Nat) (hr : Region.ready .any ops listed.toArray = []) (hk : StU listed L LS) (hs : picks js L = L0) (h : Q .normal f L) : drawU P N w0 V L0 LS ops Q fuel listed f L := by
 intro a w ha hw; have hc := CU.of js hs hk hw
 cases fuel with
 | zero => exact ⟨hc, hr, f, L, ha, hw, h⟩
 | succ n => exact ⟨hc, fun _ => ⟨f, L, ha, hw, h⟩, by rw [hr]; simp⟩
variable {fuel i j : Nat} {listed : List Bool} {LD : List Grp} {b b' : Bool}
theorem u_val (hi : ops[i]? = some o) (hs : Region.noSelect ops = true) (hr : (Region.ready .any ops listed.toArray).contains i = true) (hf : Region.free .any ops listed.toArray i = true) (hR : RdU L0 LS ops listed i LD) (hg : o.guard = none) (hd : o.dst = some d) (hN : Nat.blt d N = true)
  (hy : Yld P f V LD o v) (h : drawU P N w0 V L0 LS ops Q fuel (listed.set i true) (upd f d v) L) : drawU P N w0 V L0 LS ops Q (fuel + 1) listed f L := by
 intro a w ha hw; exact u_core hi hs hr hf hR (.inl ⟨by simp [Region.wanted, hg], fun w hc => by rw [ha.eval]; exact hy w0 w hc⟩) (h _ w (hd ▸ ha.put hN v) hw)
theorem u_effs {k : Nat} {ks : List Nat} (js : List Nat) (hr : Region.ready .any ops listed.toArray = k :: ks) (hs : picks js L = L0) (ha0 : StU listed L LS)
  (h : ∀ i ∈ k :: ks, ∃ o, ops[i]? = some o ∧ opsS P N w0 V ops (onlyS fun f' L' => drawU P N w0 V L0 LS ops Q fuel (listed.set i true) f' L') [o] f L) : drawU P N w0 V L0 LS ops Q (fuel + 1) listed f L := by
 intro a w ha hw; refine ⟨CU.of js hs ha0 hw, ?_, ?_⟩
 ·intro h0; rw [hr] at h0; cases h0
 intro i hi; rw [hr] at hi; obtain ⟨o, hk, h0⟩ := h i hi; have h1 := h0 a w ha hw; have key : ∀ (K : Act → World → Prop), (∀ a' w', lift N w0 V (onlyS fun f' L' => drawU P N w0 V L0 LS ops Q fuel (listed.set i true) f' L') .normal a' w' → K a' w') → wpOp P ops (onN fun a w => lift N w0 V Q .normal a w) i K a w := by
  intro K hK; unfold wpOp; simp only [hk]; unfold wpList at h1
  split at h1
  ·rename_i hwa
   rw [if_pos hwa]; rcases h1 with h1 | ⟨_, a', w', f', L', _, _, hF⟩
   ·refine .inl ?_; unfold Oper.wp at h1 ⊢
    generalize (execOp a.eval o).run P w = r at h1
    cases r with
    | ok nx w' =>
     cases nx <;> simp only [Oper.upon] at h1 ⊢
     case value u => exact hK _ _ h1
     case skip => exact hK _ _ h1
     case defer dd => exact hK _ _ h1
     case enter ff args =>
      refine Calls.mono h1 fun e w'' he => ?_
      cases e with
      | returned u => exact hK _ _ he
      | panicked c => obtain ⟨f', L', _, _, hF⟩ := he; exact hF.elim
      | outgrown => obtain ⟨a', w', f', L', _, _, hF⟩ := he; exact hF.elim
     case row row args => exact Rows.mono h1 fun u w'' he => hK _ _ he
    | halt x w' =>
     cases x <;> simp only [Oper.upon] at h1 ⊢
     case panic u => obtain ⟨f', L', _, _, hF⟩ := h1; exact hF.elim
   ·exact hF.elim
  ·rename_i hwa
   rw [if_neg hwa]; exact hK _ _ h1
 refine key _ ?_; rintro a' w' ⟨f', L', h1, h2, h3⟩; have := h3 a' w' h1 h2
 simpa using this
theorem u_eff {k : Nat} (js : List Nat) (hk : ops[k]? = some o) (hr : Region.ready .any ops listed.toArray = [k]) (hs : picks js L = L0) (ha0 : StU listed L LS)
  (h : opsS P N w0 V ops (onlyS fun f' L' => drawU P N w0 V L0 LS ops Q fuel (listed.set k true) f' L') [o] f L) : drawU P N w0 V L0 LS ops Q (fuel + 1) listed f L :=
 u_effs js hr hs ha0 fun i hi => by
  obtain rfl : i = k := by simpa using hi
  exact ⟨_, hk, h⟩
theorem u_eff2 {k k' : Nat} {o' : Oper} (js : List Nat) (hk : ops[k]? = some o) (hk' : ops[k']? = some o') (hr : Region.ready .any ops listed.toArray = [k, k']) (hs : picks js L = L0) (ha0 : StU listed L LS)
  (h : opsS P N w0 V ops (onlyS fun f' L' => drawU P N w0 V L0 LS ops Q fuel (listed.set k true) f' L') [o] f L) (h' : opsS P N w0 V ops (onlyS fun f' L' => drawU P N w0 V L0 LS ops Q fuel (listed.set k' true) f' L') [o'] f L) : drawU P N w0 V L0 LS ops Q (fuel + 1) listed f L :=
 u_effs js hr hs ha0 fun i hi => by
  rcases List.mem_cons.1 hi with rfl | hi
  ·exact ⟨_, hk, h⟩
  ·obtain rfl : i = k' := by simpa using hi
   exact ⟨_, hk', h'⟩
end
end Go.Proofs.YtlkajdcgdoijjaaGreatDoor.K
end
section
set_option linter.unusedSimpArgs false
set_option linter.unusedVariables false
namespace Go.Proofs.YtlkajdcgdoijjaaGreatDoor.K
open Go.RowKit
/-- The entries of a map. -/
def vEs : List (Int × Value) → Nat → List MapEntry
 | [], _ => []
 | p :: r, i => ⟨.int .i64 p.1, p.2, i⟩ :: vEs r (i + 1)
def vGet (xs : List (Int × Value)) (q : Int) : Option Value := (xs.find? (fun p => decide (p.1 = q))).map (·.2)
def vObj (xs : List (Int × Value)) : Obj := .map (vEs xs 0).toArray xs.length
def vGrp (b : Nat) (xs : List (Int × Value)) : Grp := [(b, vObj xs)]
theorem vEs_snoc (p : Int × Value) : ∀ (xs : List (Int × Value)) (i : Nat), vEs (xs ++ [p]) i = vEs xs i ++ [⟨.int .i64 p.1, p.2, i + xs.length⟩]
 | [], i => rfl
 | q :: xs, i => by
  simp only [List.cons_append, vEs, vEs_snoc p xs (i + 1), List.length_cons]; rw [show i + 1 + xs.length = i + (xs.length + 1) by omega]
theorem vGet_cons (p : Int × Value) (xs : List (Int × Value)) (q : Int) : vGet (p :: xs) q = if p.1 = q then some p.2 else vGet xs q := by
 unfold vGet; rw [List.find?_cons]
 by_cases h : p.1 = q
 ·simp [h]
 ·simp [h]
theorem find_vEs (q : Int) : ∀ (xs : List (Int × Value)) (i j : Nat), ∃ r, Instr.findNow (.int .i64) (.int .i64 q) (vEs xs i) j = some r ∧ r.map (·.2) = vGet xs q
 | [], i, j => ⟨none, rfl, rfl⟩
 | p :: xs, i, j => by
  simp only [vEs, Instr.findNow, Instr.sameNow, vGet_cons]
  by_cases h : p.1 = q
  ·rw [if_pos h, show (q == p.1) = true from beq_iff_eq.2 h.symm]; exact ⟨_, rfl, rfl⟩
  ·rw [if_neg h, show (q == p.1) = false from by simpa using fun e => h e.symm]; exact find_vEs q xs (i + 1) (j + 1)
section
variable {P : Program} {N : Nm} {w0 : World} {V : Mem} {Q : Exit → Frm → List Grp → Prop} {f : Frm} {L : List Grp} {ops : Array Oper} {rest : List Oper} {o : Oper} {d : Nat} {v : Value}
variable {ty : TypeId} {ps : String} {af : Array Edge} {g : Option (Nat × Bool)}
end
end Go.Proofs.YtlkajdcgdoijjaaGreatDoor.K
end
section
set_option linter.unusedSimpArgs false
set_option linter.unusedVariables false
namespace Go.Proofs.YtlkajdcgdoijjaaGreatDoor.K
open Go.RowKit
section
variable {P : Program} {N : Nm} {w0 : World} {V : Mem} {Q : Exit → Frm → List Grp → Prop} {f : Frm} {L : List Grp} {ops : Array Oper} {rest : List Oper} {o : Oper} {d : Nat} {v : Value}
variable {ty : TypeId} {ps : String} {af : Array Edge} {g : Option (Nat × Bool)}
theorem o_putV {t kt et : TypeId} {m k x : Operand} {b : Nat} {xs : List (Int × Value)} {q : Int} (j : Nat) (hj : nth L j = some (vGrp b xs)) (ht : ∀ w, (underlying t).run P w = .ok (.map kt et) w) (hk : ∀ w, (underlying kt).run P w = .ok (.int .i64) w) (hm : evF f m = .map (some b)) (hkx : evF f k = .int .i64 q) (hv : evF f x = v) (hn : vGet xs q = none)
  (h : opsS P N w0 V ops Q rest f (setG L j (vGrp b (xs ++ [(q, v)])))) : opsS P N w0 V ops Q (⟨none, .mapUpdate t m k x, ty, ps, af, none⟩ :: rest) f L := by
 refine o_skip rfl rfl (fun w hw => ?_) h; have hb : w.heap[b]? = some (vObj xs) := hw.own (b, vObj xs) (nth_mem hj _ (by simp [vGrp])); have hg : (getObj b).run P w = .ok (vObj xs) w := by unfold vObj at hb ⊢; simp [getObj, Sem.run, hb]
 have hs : (setObj b (vObj (xs ++ [(q, v)]))).run P w = .ok () { w with heap := w.heap.setIfInBounds b (vObj (xs ++ [(q, v)])) } := by unfold vObj at hb ⊢; simp [setObj, Sem.run, hb]
 have hlt : b < w.heap.size := (Array.getElem?_eq_some_iff.1 hb).1; refine ⟨{ w with heap := w.heap.setIfInBounds b (vObj (xs ++ [(q, v)])) }, ?_, hw.put (r := []) hj rfl rfl rfl (by simp) (by simp [hlt]) (fun q hq => by simp [Array.getElem?_setIfInBounds, Ne.symm hq])⟩; have hck : (Instr.checkKey false 10000 kt (.int .i64 q)).run P w = .ok () w := run_checkKey_int 9999 q w hk; obtain ⟨r, h1, h2⟩ := find_vEs q xs 0 0; rw [hn] at h2; have hr : r = none := by cases r <;> simp_all
 subst hr; have hfk : (Instr.findKey kt (.int .i64 q) (vEs xs 0)).run P w = .ok none w := by simp [Instr.findKey, hk, h1]
 have hpush : vObj (xs ++ [(q, v)]) = .map (vEs xs 0 ++ [MapEntry.mk (.int .i64 q) v xs.length]).toArray (xs.length + 1) := by
  unfold vObj; rw [vEs_snoc, List.length_append, Nat.zero_add]; rfl
 rw [hpush] at hs ⊢; simp only [execOp, hm, hkx, hv, Sem.run_bind]; simp [Instr.mapUpdate, ht, hg, hck, hfk, hs, vObj]
end
end Go.Proofs.YtlkajdcgdoijjaaGreatDoor.K
end
section
set_option linter.unusedVariables false
set_option linter.unusedSimpArgs false
set_option maxRecDepth 100000
namespace Go.Proofs.YtlkajdcgdoijjaaGreatDoor.K
open Go.RowKit

/-- Where a list lies. -/
structure HdR where
 A : Option Addr
 n : Nat
 c : Nat
 vs : List Int
instance : Inhabited HdR := ⟨⟨none, 0, 0, []⟩⟩
def HOK (V : Mem) (h : HdR) : Prop := h.vs.length = h.n ∧ h.n ≤ h.c ∧ h.n ≤ 17592186044416 ∧ Cels V [] h.A (h.vs.map (.int .i64))
def HdR.v (h : HdR) : Value := .slice h.A h.n h.c
theorem cel_hd {V : Mem} {L : List Grp} {A : Option Addr} {hs : List HdR} (h : Cels V L A (hs.map HdR.v)) {i : Nat} (hi : i < hs.length) : Cel V L (idx A i) (.slice (hs.getD i default).A (hs.getD i default).n (hs.getD i default).c) :=
 h.cel (by rw [List.getElem?_map, List.getD_eq_getElem?_getD, List.getElem?_eq_getElem hi]; rfl)
theorem some_hd {V : Mem} {L : List Grp} {A : Option Addr} {hs : List HdR} {i : Nat} (h : Cels V L A (hs.map HdR.v)) (hi : i < hs.length) : A.isSome = true := h.isSome (i := i) (by simpa using hi)
def enc2 (p : Int × Int) : List Value := [.int .i64 p.1, .int .i64 p.2]
theorem enc2_len (p : Int × Int) : (enc2 p).length = 2 := rfl
/-- The row of each slot. -/
def mOf (rows : List Int) : List (Int × Int) := (List.range rows.length).map fun i => (rows.getD i 0, (i : Int))
theorem mOf_snoc (rows : List Int) (n : Int) : mOf (rows ++ [n]) = mOf rows ++ [(n, (rows.length : Int))] := by
 unfold mOf; rw [List.length_append, List.length_singleton, List.range_succ, List.map_append, List.map_singleton]
 congr 1
 ·apply List.map_congr_left
  intro i hi; have hi' : i < rows.length := List.mem_range.1 hi; simp [List.getD_eq_getElem?_getD, List.getElem?_append_left hi']
 ·simp [List.getD_eq_getElem?_getD]
theorem mOf_none {rows : List Int} {n : Int} (h : n ∉ rows) : mGet (mOf rows) n = none := mGet_none fun p hp => by
 obtain ⟨i, hi, rfl⟩ := List.mem_map.1 hp; have hi' : i < rows.length := List.mem_range.1 hi; intro e
 apply h
 rw [← e]; simp [List.getD_eq_getElem?_getD, hi']
theorem mOf_some {rows : List Int} (hnd : rows.Nodup) {i : Nat} (hi : i < rows.length) : mGet (mOf rows) (rows.getD i 0) = some (i : Int) := by
 have key : ∀ k, k ≤ rows.length → i < k → mGet ((List.range k).map fun i => (rows.getD i 0, (i : Int))) (rows.getD i 0) = some (i : Int) := by
  intro k
  induction k with
  | zero => intro _ h; exact absurd h (Nat.not_lt_zero i)
  | succ k ih =>
   intro hk hik; rw [List.range_succ, List.map_append, List.map_singleton, mGet_snoc]
   by_cases e : i = k
   ·subst e; rw [mGet_none, if_pos rfl]; rfl; intro p hp; obtain ⟨j, hj, rfl⟩ := List.mem_map.1 hp; have hj' : j < i := List.mem_range.1 hj; intro e; have e1 : rows.getD j 0 = rows[j]'(by omega) := by simp [List.getD_eq_getElem?_getD, show j < rows.length by omega]
    have e2 : rows.getD i 0 = rows[i] := by simp [List.getD_eq_getElem?_getD, hi]
    rw [e1, e2] at e; have := (List.getElem_inj hnd).1 e; omega
   ·rw [ih (by omega) (by omega)]; rfl
 exact key rows.length (Nat.le_refl _) hi
/-- A block that is only read. -/
theorem cel_mem {V : Mem} {L : List Grp} {b off : Nat} {l : List Value} {T : TypeId} {fr : Nat × Nat} {v : Value} (h : V b (.cells l.toArray T fr)) (hv : nth l off = some v) : Cel V L (some ⟨b, off, none⟩) v :=
 ⟨_, l.toArray, T, fr, rfl, rfl, .inl h, by rw [nth_eq] at hv; simpa using hv⟩
theorem cels_mem {V : Mem} {L : List Grp} {b off : Nat} {l cs : List Value} {T : TypeId} {fr : Nat × Nat} (h : V b (.cells l.toArray T fr)) (hv : (l.drop off).take cs.length = cs) : Cels V L (some ⟨b, off, none⟩) cs := fun i c hi => by
 rw [idx_some]; refine cel_mem h ?_; rw [nth_eq]; have hlt := (List.getElem?_eq_some_iff.1 hi).1; rw [← hv, List.getElem?_take_of_lt hlt, List.getElem?_drop] at hi; exact hi
theorem y_lookupM {P : Program} {f : Frm} {V : Mem} {L : List Grp} {d : Nat} {ty : TypeId} {ps : String} {af : Array Edge} {g : Option (Nat × Bool)} {t kt et : TypeId} {m k : Operand} {b : Nat} {xs : List (Int × Int)} {q : Int} (hv : V b (mObj xs)) (ht : ∀ w, (underlying t).run P w = .ok (.map kt et) w) (hk : ∀ w, (underlying kt).run P w = .ok (.int .i64) w) (hz : ∀ w, (zeroValue et).run P w = .ok (.int .i64 0) w) (hm : evF f m = .map (some b)) (hkx : evF f k = .int .i64 q) :
  Yld P f V L ⟨some d, .lookup t m k true, ty, ps, af, g⟩ (.tuple #[.int .i64 ((mGet xs q).getD 0), .bool (mGet xs q).isSome]) := fun w0 w hw => by
 have hb : w.heap[b]? = some (mObj xs) := hw.imm b _ hv; have hg : (getObj b).run P w = .ok (mObj xs) w := by unfold mObj at hb ⊢; simp [getObj, Sem.run, hb]
 have hck : ∀ e, (Instr.checkKey e 10000 kt (.int .i64 q)).run P w = .ok () w := fun e => run_checkKey_int 9999 q w hk; obtain ⟨r, h1, h2⟩ := find_mEs q xs 0 0; have hfk : (Instr.findKey kt (.int .i64 q) (mEs xs 0)).run P w = .ok r w := by simp [Instr.findKey, hk, h1]
 cases hq : mGet xs q with
 | none =>
  rw [hq] at h2; have hr : r = none := by cases r <;> simp_all
  subst hr; simp [execOp, hm, hkx, Instr.lookup, ht, hg, mObj, hck, hfk, hz]
 | some y =>
  rw [hq] at h2; obtain ⟨i, rfl⟩ : ∃ i, r = some (i, .int .i64 y) := by
   cases r with
   | none => simp at h2
   | some p => obtain ⟨i, v⟩ := p; simp at h2; exact ⟨i, by rw [h2]⟩
  simp [execOp, hm, hkx, Instr.lookup, ht, hg, mObj, hck, hfk]
theorem sub_app4 {A B C D : Grp} {L : List Grp} (h : Sub [A, B, C, D] L) : Sub [A ++ (B ++ (C ++ D))] L := fun w0 V w hw => (h w0 V w hw).perm (by simp)
theorem perm_app4 {A B C D : Grp} : [A ++ (B ++ (C ++ D))].flatten.Perm [A, B, C, D].flatten := by simp

/-- A store lies in memory as it says: all its blocks together are the group 'G'. -/
def StV (b : Nat) (rows : List Int) (hs : List HdR) (G : Grp) : Prop := ∃ (vA : Option Addr) (vc : Nat) (EV : Grp) (rA : Option Addr) (rc : Nat) (ER : Grp) (mb : Nat), hs.length = rows.length ∧ G = (cB [.slice vA rows.length vc, .slice rA rows.length rc, .map (some mb)] 558 b) ++ (EV ++ (ER ++ mGrp mb (mOf rows))) ∧ OS vA rows.length vc 22 1 ((hs).map HdR.v) EV ∧ OS rA rows.length rc 3 1 (rows.map (.int .i64)) ER

/-- A store lies in memory as it says: all its blocks together are the group 'G'. -/
def StE (b : Nat) (rows : List Int) (hs : List (Int × Int)) (G : Grp) : Prop := ∃ (vA : Option Addr) (vc : Nat) (EV : Grp) (rA : Option Addr) (rc : Nat) (ER : Grp) (mb : Nat), hs.length = rows.length ∧ G = (cB [.slice vA rows.length vc, .slice rA rows.length rc, .map (some mb)] 523 b) ++ (EV ++ (ER ++ mGrp mb (mOf rows))) ∧ OS vA rows.length vc 51 2 ((hs).flatMap enc2) EV ∧ OS rA rows.length rc 3 1 (rows.map (.int .i64)) ER

structure LKo where
 k : Nat
 xs : List Int
 E : Grp
theorem kinds_step {cs : List CR} {xs : List Int} {k : Nat} (hk : k < cs.length) (hl : xs.length = cs.length) (h : xs.take k = (cs.map CR.kind).take k) : (xs.set ((k : Nat) : Int).toNat (cs.getD ((k : Nat) : Int).toNat default).kind).take (k + 1) = (cs.map CR.kind).take (k + 1) := by
 rw [show ((k : Nat) : Int).toNat = k from rfl]; rw [List.take_add_one, List.take_add_one, List.take_set_of_le (Nat.le_refl k), h]; simp [List.getElem?_set, hk, hl, List.getD_eq_getElem?_getD]

theorem kindsO_c {V : Mem} (A : Option Addr) (n c : Nat) (cs : List CR) (hcs : CsOK V A n c cs) : CallS Tryz.prog 350 [.slice A n c].toArray V [] (fun r L' => ∃ (B : Option Addr) (E : Grp), r = .slice B n n ∧ OS B n n 3 1 ((cs.map CR.kind).map (.int .i64)) E ∧ L' = [E]) := by
 obtain ⟨hCl, hCc, hCb, hC, hCC⟩ := hcs; refine callS Tryz.func350 rfl rfl (fun w0 => ?_); refine s_seq (s_region ?_); refine ov (y_assign (v := .slice _ _ _) rfl) (o_nil ?_); refine s_seq (s_region ?_); refine ov (y_move (v := .slice _ _ _) rfl) ?_; refine ov (y_len Tryz.runUnderlying52 rfl) ?_; refine o_make (sz := 1) (bytes := 8) (n := n) rfl Tryz.underlying22 Tryz.type3 rfl rfl rfl rfl rfl (by omega) (fun oA oE ho1 hoS => ?_); have hout : OS oA n n 3 1 (((List.replicate n (0 : Int))).map (.int .i64)) oE := os_made_int ho1
 clear ho1
 refine ov (y_assign (v := .slice _ _ _) rfl) (o_nil ?_); refine s_seq ?_; refine s_seq (s_region ?_); refine ov (y_move (v := .slice _ _ _) rfl) ?_; refine ov (y_len Tryz.runUnderlying52 rfl) ?_; refine ov (y_move (v := .int _ _) rfl) (o_nil ?_); refine s_block ?_; refine s_loopK (γ := LKo) [(2, .slice _ _ _), (3, .slice _ _ _), (9, .slice _ _ _), (10, .int _ _)] [] (fun g => [(11, .int .i64 g.k)]) (fun g => [g.E]) (fun g => g.k ≤ n ∧ OS oA n n 3 1 ((g.xs).map (.int .i64)) g.E ∧ g.xs.take g.k = (cs.map CR.kind).take g.k) (fun g => n - g.k) (LKo.mk 0 (List.replicate n 0) oE) (hz5 trivial) (sub_picks [0] rfl) ?_ ?_
 ·exact ⟨Nat.zero_le _, hout, rfl⟩
 intro g _f hI; refine s_norm _ (by simp only [pull, picks, setG, List.cons_append, List.nil_append, List.append_nil, List.drop_succ_cons, List.drop_zero]; rfl) ?_; obtain ⟨hgk, hxo, hxt⟩ := hI; have hxl : g.xs.length = n := by simpa using hxo.len
 refine s_seq (s_region ?_); refine ov (y_lss rfl rfl) (o_nil ?_); refine s_seq ?_; refine s_if rfl (fun h2 => ?_) (fun h3 => ?_)
 ·refine s_skip ?_; refine s_seq ?_; refine s_block ?_; refine s_seq (s_region ?_); refine ov (y_move (v := .int _ _) rfl) ?_; refine ov (y_indexAddr Tryz.runUnderlying52 Tryz.sizeOf56 (some_at (sz := 1) encC_len (i := 0) hC (by omega)) rfl rfl (by omega)) ?_; refine ov (y_loads (cs := [_, _]) Tryz.isAgg56 Tryz.sizeOf56 rfl (by unfold idx; rw [Option.isSome_map]; exact some_at (sz := 1) encC_len (i := 0) hC (by omega)) rfl (cels_at (sz := 2) encC_len hC.here (by omega))) ?_; refine o_alloc rfl Tryz.zeroValue56 rfl (fun b4 => ?_); refine ov (y_assign (v := .int _ _) rfl) ?_; refine o_stores (vs := [(.int _ _), (.slice _ _ _)]) 1 rfl Tryz.sizeOf56 rfl rfl rfl (by simp [Value.oneCell']) (by simp) (o_nil ?_); refine s_region ?_; refine ov (y_move (v := .slice _ _ _) rfl) ?_; refine ov (y_move (v := .int _ _) rfl) ?_; refine ov (y_field0 (F := 0) Tryz.runUnderlying56 rfl Tryz.sizeOf3 rfl rfl) ?_; refine ov (y_load Tryz.isAgg3 rfl (cel_own 1 rfl rfl)) ?_; refine ov (y_index1 Tryz.runUnderlying22 Tryz.sizeOf3 (hxo.some_of (by omega)) rfl rfl (by omega)) ?_; refine o_store_os (vs := [(.int _ _)]) 0 rfl hxo Tryz.sizeOf3 rfl rfl rfl (by simp [Value.oneCell']) (by simp) (by simp; omega) (fun E5 ho6 => ?_); have ho7 := os_lay_int ho6 (by simp; omega)
  clear ho6
  refine o_nil ?_; refine sf [(2, .slice _ _ _), (3, .slice _ _ _), (9, .slice _ _ _), (10, .int _ _), (11, .int _ _)] (fun _f => ?_); refine s_region ?_; refine ov (y_add rfl rfl (by simp only [inK]; omega)) ?_; refine ov (y_move (v := .int _ _) rfl) (o_nil ?_); exact ⟨LKo.mk (g.k + 1) (g.xs.set ((g.k : Nat) : Int).toNat (cs.getD ((g.k : Nat) : Int).toNat default).kind) E5, (by first | omega | (dsimp only; omega)), ⟨by dsimp only; omega, ho7, kinds_step (by omega) (by omega) hxt⟩, ⟨(congrArg (Value.int .i64) (by (try dsimp only); omega)), hz4 trivial⟩, (sub_picks [0] rfl)⟩
 ·refine s_exit ?_; refine s_seq (s_region ?_); refine ov (y_move (v := .slice _ _ _) rfl) ?_; refine ov (y_assign (v := .slice _ _ _) rfl) (o_nil ?_); refine s_ret ?_; have hgn : g.k = n := by omega
  rw [hgn, List.take_of_length_le (by omega), List.take_of_length_le (by simp; omega)] at hxt; rw [hxt] at hxo; exact ⟨_, [g.E], res1 rfl rfl, ⟨_, _, rfl, hxo, rfl⟩, sub_picks [0] rfl⟩

theorem NewV_k0 (v2 : Option Nat) (w : World) : (Instr.build 558 ([(2, .map v2)] : List (Nat × Value)).toArray).run Tryz.prog w = .ok (.agg #[.slice none 0 0, .slice none 0 0, .map v2]) w := by kernel_rfl
theorem NewV_c {V : Mem} : CallS Tryz.prog 355 [].toArray V [] (fun r L' => ∃ (b : Nat) (G : Grp), r = .pointer (some ⟨b, 0, none⟩) ∧ StV b [] [] G ∧ L' = [G]) := by
 refine callS Tryz.func355 rfl rfl (fun w0 => ?_); refine s_seq (s_region ?_); refine ov (y_assign (v := .pointer _) rfl) (o_nil ?_); refine s_seq (s_region ?_); refine o_makeMapI rfl (fun mb => ?_); refine ov (y_build (vs := [(2, .map _)]) rfl (NewV_k0 _)) ?_; refine o_box (v := (.agg #[(.slice _ _ _), (.slice _ _ _), (.map _)])) rfl rfl rfl (fun b1 => ?_); refine ov (y_assign (v := .pointer _) rfl) (o_nil ?_); refine s_ret ?_; exact ⟨_, [_], res1 rfl rfl, ⟨_, _, rfl, ⟨none, 0, [], none, 0, [], mb, rfl, rfl, OS.nil 22 1, OS.nil 3 1⟩, rfl⟩, sub_app4 (fun w0 V w hw => (show SH w0 V w _ from hw).perm (by simp [mOf, List.perm_append_comm]))⟩

theorem NewE_k0 (v2 : Option Nat) (w : World) : (Instr.build 523 ([(2, .map v2)] : List (Nat × Value)).toArray).run Tryz.prog w = .ok (.agg #[.slice none 0 0, .slice none 0 0, .map v2]) w := by kernel_rfl
theorem NewE_c {V : Mem} : CallS Tryz.prog 354 [].toArray V [] (fun r L' => ∃ (b : Nat) (G : Grp), r = .pointer (some ⟨b, 0, none⟩) ∧ StE b [] [] G ∧ L' = [G]) := by
 refine callS Tryz.func354 rfl rfl (fun w0 => ?_); refine s_seq (s_region ?_); refine ov (y_assign (v := .pointer _) rfl) (o_nil ?_); refine s_seq (s_region ?_); refine o_makeMapI rfl (fun mb => ?_); refine ov (y_build (vs := [(2, .map _)]) rfl (NewE_k0 _)) ?_; refine o_box (v := (.agg #[(.slice _ _ _), (.slice _ _ _), (.map _)])) rfl rfl rfl (fun b1 => ?_); refine ov (y_assign (v := .pointer _) rfl) (o_nil ?_); refine s_ret ?_; exact ⟨_, [_], res1 rfl rfl, ⟨_, _, rfl, ⟨none, 0, [], none, 0, [], mb, rfl, rfl, OS.nil 51 2, OS.nil 3 1⟩, rfl⟩, sub_app4 (fun w0 V w hw => (show SH w0 V w _ from hw).perm (by simp [mOf, List.perm_append_comm]))⟩

theorem PutV_k0 (v0 : Int) (w : World) : (Instr.buildSlice 22 1 ([(0, .int .i64 v0)] : List (Nat × Value)).toArray).run Tryz.prog w = .ok (.slice (some ⟨w.heap.size, 0, none⟩) 1 1) { w with heap := w.heap.push (.cells ([.int .i64 v0] : List Value).toArray 3 (0, 0)) } := by kernel_rfl
theorem PutV_k1 (v0A : Option Addr) (v0n : Nat) (v0c : Nat) (w : World) : (Instr.buildSlice 126 1 ([(0, .slice v0A v0n v0c)] : List (Nat × Value)).toArray).run Tryz.prog w = .ok (.slice (some ⟨w.heap.size, 0, none⟩) 1 1) { w with heap := w.heap.push (.cells ([.slice v0A v0n v0c] : List Value).toArray 22 (0, 0)) } := by kernel_rfl
theorem PutV_c {V : Mem} (b : Nat) (rows : List Int) (hs : List HdR) (G : Grp) (hst : StV b rows hs G) (n : Int) (hn : 0 ≤ n ∧ n < 256) (hnot : n ∉ rows) (hr : rows.length ≤ 256) (vB : Option Addr) (vn vk : Nat) (ws : List Int) : CallS Tryz.prog 358 [.pointer (some ⟨b, 0, none⟩), .int .i64 n, .slice vB vn vk].toArray V [G] (fun r L' => ∃ (G' : Grp), r = .int .i64 0 ∧ StV b (rows ++ [n]) (hs ++ [(HdR.mk vB vn vk ws)]) G' ∧ L' = [G']) := by
 obtain ⟨vA, vc, EV, rA, rc, ER, mb, hvl, rfl, hev, her⟩ := hst; refine callS Tryz.func358 rfl rfl (fun w0 => ?_); refine s_seq (s_region ?_); refine o_sub [(cB [.slice vA rows.length vc, .slice rA rows.length rc, .map (some mb)] 558 b), EV, ER, mGrp mb (mOf rows)] (fun w hw => hw.perm perm_app4) ?_; refine ov (y_assign (v := .int _ _) rfl) (o_nil ?_); refine s_seq ?_; refine s_seq (s_region ?_); refine ov (y_move (v := .int _ _) rfl) ?_; refine o_split rfl rfl rfl (y_lss rfl rfl) (fun p1 => ?_) (fun p2 => ?_)
 ·exact absurd p1 (by omega)
 ·refine ov (y_move (v := .bool _) rfl) ?_; refine o_guard_yes rfl rfl ?_; refine ov (y_move (v := .int _ _) rfl) ?_; refine o_guard_yes rfl rfl ?_; refine ov (y_geq rfl rfl) ?_; refine ov (y_pick_f (v := .bool _) rfl rfl) (o_nil ?_); refine s_if rfl (fun h3 => ?_) (fun h4 => ?_)
  ·exact absurd h3 (by omega)
  ·refine s_skip ?_; refine s_seq ?_; refine s_seq (s_region ?_); refine ov (y_move (v := .pointer _) rfl) ?_; refine ov (y_nilCheck rfl) ?_; refine ov (y_field0 (F := 2) Tryz.runUnderlying558 rfl Tryz.sizeOf228 rfl rfl) ?_; refine ov (y_load Tryz.isAgg228 rfl (cel_own 0 rfl rfl)) ?_; refine ov (y_move (v := .int _ _) rfl) ?_; refine ov ((y_lookupI 3 rfl Tryz.runUnderlying228 Tryz.runUnderlying3 Tryz.zeroValue3 rfl rfl).of_eq (v' := .tuple #[.int .i64 0, .bool false]) (by rw [mOf_none hnot]; rfl)) ?_; refine ov (y_move (v := (.tuple #[(.int _ _), (.bool _)])) rfl) ?_; refine ov (y_extract (v := .int _ _) rfl rfl) ?_; refine ov (y_extract (v := .bool _) rfl rfl) ?_; refine ov (y_assign (v := .int _ _) rfl) ?_; refine ov (y_assign (v := .bool _) rfl) (o_nil ?_); refine sf [(0, .pointer _), (1, .int _ _), (2, .slice _ _ _), (6, .int _ _), (7, .int _ _), (8, .bool _)] (fun _f => ?_); refine s_seq (s_region ?_); refine ov (y_move (v := .bool _) rfl) (o_nil ?_); refine s_else rfl ?_; refine s_skip ?_; refine s_seq ?_; refine s_tail 10 (by kernel_rfl) (by kernel_rfl) ?_; refine t_val rfl rfl rfl (y_move (v := .pointer _) rfl) ?_; refine t_val rfl rfl rfl (y_nilCheck rfl) ?_; refine t_val rfl rfl rfl (y_field0 (F := 2) Tryz.runUnderlying558 rfl Tryz.sizeOf228 rfl rfl) ?_; refine t_val rfl rfl rfl (y_load Tryz.isAgg228 rfl (cel_own 0 rfl rfl)) ?_; refine t_val rfl rfl rfl (y_move (v := .int _ _) rfl) ?_; refine t_val rfl rfl rfl (y_move (v := .pointer _) rfl) ?_; refine t_val rfl rfl rfl (y_nilCheck rfl) ?_; refine t_val rfl rfl rfl (y_field0 (F := 1) Tryz.runUnderlying558 rfl Tryz.sizeOf22 rfl rfl) ?_; refine t_val rfl rfl rfl (y_load Tryz.isAgg22 rfl (cel_own 0 rfl rfl)) ?_; refine t_val rfl rfl rfl (y_len Tryz.runUnderlying22 rfl) ?_; refine t_nil ?_; refine o_insertI (xs := mOf rows) (q := n) (z := (rows.length : Int)) 3 rfl Tryz.runUnderlying228 Tryz.runUnderlying3 rfl rfl rfl (mOf_none hnot) (o_nil ?_); refine s_seq ?_; refine s_drawU [3] [(18, [0])] (by kernel_rfl) rfl rfl ?_; refine u_val (i := 0) rfl (by kernel_rfl) (by kernel_rfl) (by kernel_rfl) (.stay rfl) rfl rfl rfl (y_move (v := .pointer _) rfl) ?_; refine u_val (i := 1) rfl (by kernel_rfl) (by kernel_rfl) (by kernel_rfl) (.stay rfl) rfl rfl rfl (y_move (v := .pointer _) rfl) ?_; refine u_val (i := 2) rfl (by kernel_rfl) (by kernel_rfl) (by kernel_rfl) (.stay rfl) rfl rfl rfl (y_move (v := .pointer _) rfl) ?_; refine u_val (i := 3) rfl (by kernel_rfl) (by kernel_rfl) (by kernel_rfl) (.stay rfl) rfl rfl rfl (y_nilCheck rfl) ?_; refine u_val (i := 4) rfl (by kernel_rfl) (by kernel_rfl) (by kernel_rfl) (.stay rfl) rfl rfl rfl (y_field0 (F := 1) Tryz.runUnderlying558 rfl Tryz.sizeOf22 rfl rfl) ?_; refine u_val (i := 5) rfl (by kernel_rfl) (by kernel_rfl) (by kernel_rfl) (.till 0 [18] rfl rfl (by kernel_rfl)) rfl rfl rfl (y_load Tryz.isAgg22 rfl (cel_own 0 rfl rfl)) ?_; refine u_val (i := 6) rfl (by kernel_rfl) (by kernel_rfl) (by kernel_rfl) (.stay rfl) rfl rfl rfl (y_move (v := .int _ _) rfl) ?_; refine u_val (i := 9) rfl (by kernel_rfl) (by kernel_rfl) (by kernel_rfl) (.stay rfl) rfl rfl rfl (y_move (v := .pointer _) rfl) ?_; refine u_val (i := 10) rfl (by kernel_rfl) (by kernel_rfl) (by kernel_rfl) (.stay rfl) rfl rfl rfl (y_nilCheck rfl) ?_; refine u_val (i := 11) rfl (by kernel_rfl) (by kernel_rfl) (by kernel_rfl) (.stay rfl) rfl rfl rfl (y_field0 (F := 0) Tryz.runUnderlying558 rfl Tryz.sizeOf126 rfl rfl) ?_; refine u_val (i := 12) rfl (by kernel_rfl) (by kernel_rfl) (by kernel_rfl) (.till 0 [18] rfl rfl (by kernel_rfl)) rfl rfl rfl (y_load Tryz.isAgg126 rfl (cel_own 0 rfl rfl)) ?_; refine u_val (i := 13) rfl (by kernel_rfl) (by kernel_rfl) (by kernel_rfl) (.stay rfl) rfl rfl rfl (y_move (v := .slice _ _ _) rfl) ?_; refine u_eff2 (k := 7) (k' := 14) [3] rfl rfl  (by kernel_rfl) rfl ⟨.inr ⟨[0], rfl⟩, trivial⟩ ?_ ?_
   ·refine o_lit (vs := [(0, .int _ _)]) rfl rfl (PutV_k0 _) (fun b5 => ?_); refine o_nil ?_; refine u_eff2 (k := 8) (k' := 14) [3] rfl rfl  (by kernel_rfl) rfl ⟨.inr ⟨[0], rfl⟩, trivial⟩ ?_ ?_
    ·refine o_append (sz := 1) (bytes := 8) (news := [(.int _ _)]) 2 rfl Tryz.underlying22 Tryz.type3 rfl rfl rfl rfl rfl her rfl rfl (Src.slice Tryz.underlying22 (cels_own 4 rfl rfl) rfl (by simp [Value.oneCell']) (by simp)) (by omega) (fun A6 c7 E8 ho9 hn10 => ?_); have ho11 : OS A6 (rows.length + 1) c7 3 1 ((rows ++ [n]).map (.int .i64)) E8 := (os_eq ho9 (by rw [List.map_append]; rfl))
     clear ho9
     refine o_nil ?_; refine u_eff (k := 14) [3] rfl  (by kernel_rfl) rfl ⟨.inr ⟨[0], rfl⟩, trivial⟩ ?_; refine o_lit (vs := [(0, .slice _ _ _)]) rfl rfl (PutV_k1 _ _ _) (fun b12 => ?_); refine o_nil ?_; refine u_eff (k := 15) [3] rfl  (by kernel_rfl) rfl ⟨.inr ⟨[0], rfl⟩, trivial⟩ ?_; refine o_append (sz := 1) (bytes := 24) (news := [(.slice _ _ _)]) 1 rfl Tryz.underlying126 Tryz.type22 rfl rfl rfl rfl rfl hev rfl rfl (Src.slice Tryz.underlying126 (cels_own 5 rfl rfl) rfl (by simp [Value.oneCell']) (by simp)) (by omega) (fun A13 c14 E15 ho16 hn17 => ?_); have ho18 : OS A13 (rows.length + 1) c14 22 1 ((hs ++ [(HdR.mk vB vn vk ws)]).map HdR.v) E15 := (os_eq ho16 (by rw [List.map_append]; rfl))
     clear ho16
     refine o_nil ?_; refine u_val (i := 16) rfl (by kernel_rfl) (by kernel_rfl) (by kernel_rfl) (.stay rfl) rfl rfl rfl (y_nilCheck rfl) ?_; refine u_val (i := 17) rfl (by kernel_rfl) (by kernel_rfl) (by kernel_rfl) (.stay rfl) rfl rfl rfl (y_field0 (F := 1) Tryz.runUnderlying558 rfl Tryz.sizeOf22 rfl rfl) ?_; refine u_eff (k := 18) [3] rfl  (by kernel_rfl) rfl ⟨.inr ⟨[0], rfl⟩, trivial⟩ ?_; refine o_store (v := .slice _ _ _) 0 rfl Tryz.sizeOf22 rfl rfl rfl rfl (o_nil ?_); refine u_val (i := 19) rfl (by kernel_rfl) (by kernel_rfl) (by kernel_rfl) (.stay rfl) rfl rfl rfl (y_nilCheck rfl) ?_; refine u_val (i := 20) rfl (by kernel_rfl) (by kernel_rfl) (by kernel_rfl) (.stay rfl) rfl rfl rfl (y_field0 (F := 0) Tryz.runUnderlying558 rfl Tryz.sizeOf126 rfl rfl) ?_; refine u_eff (k := 21) [3] rfl  (by kernel_rfl) rfl ⟨.inl rfl, trivial⟩ ?_; refine o_store (v := .slice _ _ _) 0 rfl Tryz.sizeOf126 rfl rfl rfl rfl (o_nil ?_); refine u_nil [3] (by kernel_rfl) ⟨.inl rfl, trivial⟩ rfl ?_; refine s_norm [(cB [(.slice _ _ _), (.slice _ _ _), (.map _)] 558 _), _, _, _, (cB [(.int _ _)] 3 _), (cB [(.slice _ _ _)] 22 _)] rfl ?_; refine sf [(6, .int _ _)] (fun _f => ?_); refine s_seq (s_region ?_); refine ov (y_assign (v := .int _ _) rfl) (o_nil ?_); refine s_ret ?_; have e1 : (rows ++ [n]).length = rows.length + 1 := by simp
     exact ⟨_, [_], res1 rfl rfl, ⟨_, rfl, ⟨A13, c14, E15, A6, c7, E8, mb, by simp [hvl], by rw [e1, mOf_snoc], by rw [e1]; exact ho18, by rw [e1]; exact ho11⟩, rfl⟩, sub_app4 (sub_picks [0, 0, 0, 0] rfl)⟩
    ·refine o_lit (vs := [(0, .slice _ _ _)]) rfl rfl (PutV_k1 _ _ _) (fun b19 => ?_); refine o_nil ?_; refine u_eff (k := 8) [3] rfl  (by kernel_rfl) rfl ⟨.inr ⟨[0], rfl⟩, trivial⟩ ?_; refine o_append (sz := 1) (bytes := 8) (news := [(.int _ _)]) 2 rfl Tryz.underlying22 Tryz.type3 rfl rfl rfl rfl rfl her rfl rfl (Src.slice Tryz.underlying22 (cels_own 4 rfl rfl) rfl (by simp [Value.oneCell']) (by simp)) (by omega) (fun A20 c21 E22 ho23 hn24 => ?_); have ho25 : OS A20 (rows.length + 1) c21 3 1 ((rows ++ [n]).map (.int .i64)) E22 := (os_eq ho23 (by rw [List.map_append]; rfl))
     clear ho23
     refine o_nil ?_; refine u_eff (k := 15) [3] rfl  (by kernel_rfl) rfl ⟨.inr ⟨[0], rfl⟩, trivial⟩ ?_; refine o_append (sz := 1) (bytes := 24) (news := [(.slice _ _ _)]) 1 rfl Tryz.underlying126 Tryz.type22 rfl rfl rfl rfl rfl hev rfl rfl (Src.slice Tryz.underlying126 (cels_own 5 rfl rfl) rfl (by simp [Value.oneCell']) (by simp)) (by omega) (fun A26 c27 E28 ho29 hn30 => ?_); have ho31 : OS A26 (rows.length + 1) c27 22 1 ((hs ++ [(HdR.mk vB vn vk ws)]).map HdR.v) E28 := (os_eq ho29 (by rw [List.map_append]; rfl))
     clear ho29
     refine o_nil ?_; refine u_val (i := 16) rfl (by kernel_rfl) (by kernel_rfl) (by kernel_rfl) (.stay rfl) rfl rfl rfl (y_nilCheck rfl) ?_; refine u_val (i := 17) rfl (by kernel_rfl) (by kernel_rfl) (by kernel_rfl) (.stay rfl) rfl rfl rfl (y_field0 (F := 1) Tryz.runUnderlying558 rfl Tryz.sizeOf22 rfl rfl) ?_; refine u_eff (k := 18) [3] rfl  (by kernel_rfl) rfl ⟨.inr ⟨[0], rfl⟩, trivial⟩ ?_; refine o_store (v := .slice _ _ _) 0 rfl Tryz.sizeOf22 rfl rfl rfl rfl (o_nil ?_); refine u_val (i := 19) rfl (by kernel_rfl) (by kernel_rfl) (by kernel_rfl) (.stay rfl) rfl rfl rfl (y_nilCheck rfl) ?_; refine u_val (i := 20) rfl (by kernel_rfl) (by kernel_rfl) (by kernel_rfl) (.stay rfl) rfl rfl rfl (y_field0 (F := 0) Tryz.runUnderlying558 rfl Tryz.sizeOf126 rfl rfl) ?_; refine u_eff (k := 21) [3] rfl  (by kernel_rfl) rfl ⟨.inl rfl, trivial⟩ ?_; refine o_store (v := .slice _ _ _) 0 rfl Tryz.sizeOf126 rfl rfl rfl rfl (o_nil ?_); refine u_nil [3] (by kernel_rfl) ⟨.inl rfl, trivial⟩ rfl ?_; refine s_norm [(cB [(.slice _ _ _), (.slice _ _ _), (.map _)] 558 _), _, _, _, (cB [(.int _ _)] 3 _), (cB [(.slice _ _ _)] 22 _)] rfl ?_; refine sf [(6, .int _ _)] (fun _f => ?_); refine s_seq (s_region ?_); refine ov (y_assign (v := .int _ _) rfl) (o_nil ?_); refine s_ret ?_; have e1 : (rows ++ [n]).length = rows.length + 1 := by simp
     exact ⟨_, [_], res1 rfl rfl, ⟨_, rfl, ⟨A26, c27, E28, A20, c21, E22, mb, by simp [hvl], by rw [e1, mOf_snoc], by rw [e1]; exact ho31, by rw [e1]; exact ho25⟩, rfl⟩, sub_app4 (sub_picks [0, 0, 0, 0] rfl)⟩
   ·refine o_lit (vs := [(0, .slice _ _ _)]) rfl rfl (PutV_k1 _ _ _) (fun b32 => ?_); refine o_nil ?_; refine u_eff (k := 7) [3] rfl  (by kernel_rfl) rfl ⟨.inr ⟨[0], rfl⟩, trivial⟩ ?_; refine o_lit (vs := [(0, .int _ _)]) rfl rfl (PutV_k0 _) (fun b33 => ?_); refine o_nil ?_; refine u_eff (k := 8) [3] rfl  (by kernel_rfl) rfl ⟨.inr ⟨[0], rfl⟩, trivial⟩ ?_; refine o_append (sz := 1) (bytes := 8) (news := [(.int _ _)]) 2 rfl Tryz.underlying22 Tryz.type3 rfl rfl rfl rfl rfl her rfl rfl (Src.slice Tryz.underlying22 (cels_own 5 rfl rfl) rfl (by simp [Value.oneCell']) (by simp)) (by omega) (fun A34 c35 E36 ho37 hn38 => ?_); have ho39 : OS A34 (rows.length + 1) c35 3 1 ((rows ++ [n]).map (.int .i64)) E36 := (os_eq ho37 (by rw [List.map_append]; rfl))
    clear ho37
    refine o_nil ?_; refine u_eff (k := 15) [3] rfl  (by kernel_rfl) rfl ⟨.inr ⟨[0], rfl⟩, trivial⟩ ?_; refine o_append (sz := 1) (bytes := 24) (news := [(.slice _ _ _)]) 1 rfl Tryz.underlying126 Tryz.type22 rfl rfl rfl rfl rfl hev rfl rfl (Src.slice Tryz.underlying126 (cels_own 4 rfl rfl) rfl (by simp [Value.oneCell']) (by simp)) (by omega) (fun A40 c41 E42 ho43 hn44 => ?_); have ho45 : OS A40 (rows.length + 1) c41 22 1 ((hs ++ [(HdR.mk vB vn vk ws)]).map HdR.v) E42 := (os_eq ho43 (by rw [List.map_append]; rfl))
    clear ho43
    refine o_nil ?_; refine u_val (i := 16) rfl (by kernel_rfl) (by kernel_rfl) (by kernel_rfl) (.stay rfl) rfl rfl rfl (y_nilCheck rfl) ?_; refine u_val (i := 17) rfl (by kernel_rfl) (by kernel_rfl) (by kernel_rfl) (.stay rfl) rfl rfl rfl (y_field0 (F := 1) Tryz.runUnderlying558 rfl Tryz.sizeOf22 rfl rfl) ?_; refine u_eff (k := 18) [3] rfl  (by kernel_rfl) rfl ⟨.inr ⟨[0], rfl⟩, trivial⟩ ?_; refine o_store (v := .slice _ _ _) 0 rfl Tryz.sizeOf22 rfl rfl rfl rfl (o_nil ?_); refine u_val (i := 19) rfl (by kernel_rfl) (by kernel_rfl) (by kernel_rfl) (.stay rfl) rfl rfl rfl (y_nilCheck rfl) ?_; refine u_val (i := 20) rfl (by kernel_rfl) (by kernel_rfl) (by kernel_rfl) (.stay rfl) rfl rfl rfl (y_field0 (F := 0) Tryz.runUnderlying558 rfl Tryz.sizeOf126 rfl rfl) ?_; refine u_eff (k := 21) [3] rfl  (by kernel_rfl) rfl ⟨.inl rfl, trivial⟩ ?_; refine o_store (v := .slice _ _ _) 0 rfl Tryz.sizeOf126 rfl rfl rfl rfl (o_nil ?_); refine u_nil [3] (by kernel_rfl) ⟨.inl rfl, trivial⟩ rfl ?_; refine s_norm [(cB [(.slice _ _ _), (.slice _ _ _), (.map _)] 558 _), _, _, _, (cB [(.slice _ _ _)] 22 _), (cB [(.int _ _)] 3 _)] rfl ?_; refine sf [(6, .int _ _)] (fun _f => ?_); refine s_seq (s_region ?_); refine ov (y_assign (v := .int _ _) rfl) (o_nil ?_); refine s_ret ?_; have e1 : (rows ++ [n]).length = rows.length + 1 := by simp
    exact ⟨_, [_], res1 rfl rfl, ⟨_, rfl, ⟨A40, c41, E42, A34, c35, E36, mb, by simp [hvl], by rw [e1, mOf_snoc], by rw [e1]; exact ho45, by rw [e1]; exact ho39⟩, rfl⟩, sub_app4 (sub_picks [0, 0, 0, 0] rfl)⟩

theorem PutE_k0 (v0 : Int) (w : World) : (Instr.buildSlice 22 1 ([(0, .int .i64 v0)] : List (Nat × Value)).toArray).run Tryz.prog w = .ok (.slice (some ⟨w.heap.size, 0, none⟩) 1 1) { w with heap := w.heap.push (.cells ([.int .i64 v0] : List Value).toArray 3 (0, 0)) } := by kernel_rfl
theorem PutE_k1 (v0x0 : Int) (v0x1 : Int) (w : World) : (Instr.buildSlice 168 1 ([(0, (.agg #[(.int .i64 v0x0), (.int .i64 v0x1)]))] : List (Nat × Value)).toArray).run Tryz.prog w = .ok (.slice (some ⟨w.heap.size, 0, none⟩) 1 1) { w with heap := w.heap.push (.cells ([.int .i64 v0x0, .int .i64 v0x1] : List Value).toArray 51 (0, 0)) } := by kernel_rfl
theorem PutE_c {V : Mem} (b : Nat) (rows : List Int) (es : List (Int × Int)) (G : Grp) (hst : StE b rows es G) (n : Int) (hn : 0 ≤ n ∧ n < 256) (hnot : n ∉ rows) (hr : rows.length ≤ 256) (e1 e2 : Int) : CallS Tryz.prog 357 [.pointer (some ⟨b, 0, none⟩), .int .i64 n, .agg #[.int .i64 e1, .int .i64 e2]].toArray V [G] (fun r L' => ∃ (G' : Grp), r = .int .i64 0 ∧ StE b (rows ++ [n]) (es ++ [(e1, e2)]) G' ∧ L' = [G']) := by
 obtain ⟨vA, vc, EV, rA, rc, ER, mb, hvl, rfl, hev, her⟩ := hst; refine callS Tryz.func357 rfl rfl (fun w0 => ?_); refine s_seq (s_region ?_); refine o_sub [(cB [.slice vA rows.length vc, .slice rA rows.length rc, .map (some mb)] 523 b), EV, ER, mGrp mb (mOf rows)] (fun w hw => hw.perm perm_app4) ?_; refine o_box (v := (.agg #[(.int _ _), (.int _ _)])) rfl rfl rfl (fun b1 => ?_); refine ov (y_assign (v := .int _ _) rfl) (o_nil ?_); refine s_seq ?_; refine s_seq (s_region ?_); refine ov (y_move (v := .int _ _) rfl) ?_; refine o_split rfl rfl rfl (y_lss rfl rfl) (fun p2 => ?_) (fun p3 => ?_)
 ·exact absurd p2 (by omega)
 ·refine ov (y_move (v := .bool _) rfl) ?_; refine o_guard_yes rfl rfl ?_; refine ov (y_move (v := .int _ _) rfl) ?_; refine o_guard_yes rfl rfl ?_; refine ov (y_geq rfl rfl) ?_; refine ov (y_pick_f (v := .bool _) rfl rfl) (o_nil ?_); refine s_if rfl (fun h4 => ?_) (fun h5 => ?_)
  ·exact absurd h4 (by omega)
  ·refine s_skip ?_; refine s_seq ?_; refine s_seq (s_region ?_); refine ov (y_move (v := .pointer _) rfl) ?_; refine ov (y_nilCheck rfl) ?_; refine ov (y_field0 (F := 2) Tryz.runUnderlying523 rfl Tryz.sizeOf228 rfl rfl) ?_; refine ov (y_load Tryz.isAgg228 rfl (cel_own 0 rfl rfl)) ?_; refine ov (y_move (v := .int _ _) rfl) ?_; refine ov ((y_lookupI 3 rfl Tryz.runUnderlying228 Tryz.runUnderlying3 Tryz.zeroValue3 rfl rfl).of_eq (v' := .tuple #[.int .i64 0, .bool false]) (by rw [mOf_none hnot]; rfl)) ?_; refine ov (y_move (v := (.tuple #[(.int _ _), (.bool _)])) rfl) ?_; refine ov (y_extract (v := .int _ _) rfl rfl) ?_; refine ov (y_extract (v := .bool _) rfl rfl) ?_; refine ov (y_assign (v := .int _ _) rfl) ?_; refine ov (y_assign (v := .bool _) rfl) (o_nil ?_); refine sf [(0, .pointer _), (1, .int _ _), (5, .pointer _), (6, .int _ _), (7, .int _ _), (8, .bool _)] (fun _f => ?_); refine s_seq (s_region ?_); refine ov (y_move (v := .bool _) rfl) (o_nil ?_); refine s_else rfl ?_; refine s_skip ?_; refine s_seq ?_; refine s_tail 10 (by kernel_rfl) (by kernel_rfl) ?_; refine t_val rfl rfl rfl (y_move (v := .pointer _) rfl) ?_; refine t_val rfl rfl rfl (y_nilCheck rfl) ?_; refine t_val rfl rfl rfl (y_field0 (F := 2) Tryz.runUnderlying523 rfl Tryz.sizeOf228 rfl rfl) ?_; refine t_val rfl rfl rfl (y_load Tryz.isAgg228 rfl (cel_own 0 rfl rfl)) ?_; refine t_val rfl rfl rfl (y_move (v := .int _ _) rfl) ?_; refine t_val rfl rfl rfl (y_move (v := .pointer _) rfl) ?_; refine t_val rfl rfl rfl (y_nilCheck rfl) ?_; refine t_val rfl rfl rfl (y_field0 (F := 1) Tryz.runUnderlying523 rfl Tryz.sizeOf22 rfl rfl) ?_; refine t_val rfl rfl rfl (y_load Tryz.isAgg22 rfl (cel_own 0 rfl rfl)) ?_; refine t_val rfl rfl rfl (y_len Tryz.runUnderlying22 rfl) ?_; refine t_nil ?_; refine o_insertI (xs := mOf rows) (q := n) (z := (rows.length : Int)) 3 rfl Tryz.runUnderlying228 Tryz.runUnderlying3 rfl rfl rfl (mOf_none hnot) (o_nil ?_); refine s_seq ?_; refine s_drawU [3, 3] [(18, [0])] (by kernel_rfl) rfl rfl ?_; refine u_val (i := 0) rfl (by kernel_rfl) (by kernel_rfl) (by kernel_rfl) (.stay rfl) rfl rfl rfl (y_move (v := .pointer _) rfl) ?_; refine u_val (i := 1) rfl (by kernel_rfl) (by kernel_rfl) (by kernel_rfl) (.stay rfl) rfl rfl rfl (y_move (v := .pointer _) rfl) ?_; refine u_val (i := 2) rfl (by kernel_rfl) (by kernel_rfl) (by kernel_rfl) (.stay rfl) rfl rfl rfl (y_move (v := .pointer _) rfl) ?_; refine u_val (i := 3) rfl (by kernel_rfl) (by kernel_rfl) (by kernel_rfl) (.stay rfl) rfl rfl rfl (y_nilCheck rfl) ?_; refine u_val (i := 4) rfl (by kernel_rfl) (by kernel_rfl) (by kernel_rfl) (.stay rfl) rfl rfl rfl (y_field0 (F := 1) Tryz.runUnderlying523 rfl Tryz.sizeOf22 rfl rfl) ?_; refine u_val (i := 5) rfl (by kernel_rfl) (by kernel_rfl) (by kernel_rfl) (.till 0 [18] rfl rfl (by kernel_rfl)) rfl rfl rfl (y_load Tryz.isAgg22 rfl (cel_own 0 rfl rfl)) ?_; refine u_val (i := 6) rfl (by kernel_rfl) (by kernel_rfl) (by kernel_rfl) (.stay rfl) rfl rfl rfl (y_move (v := .int _ _) rfl) ?_; refine u_val (i := 9) rfl (by kernel_rfl) (by kernel_rfl) (by kernel_rfl) (.stay rfl) rfl rfl rfl (y_move (v := .pointer _) rfl) ?_; refine u_val (i := 10) rfl (by kernel_rfl) (by kernel_rfl) (by kernel_rfl) (.stay rfl) rfl rfl rfl (y_nilCheck rfl) ?_; refine u_val (i := 11) rfl (by kernel_rfl) (by kernel_rfl) (by kernel_rfl) (.stay rfl) rfl rfl rfl (y_field0 (F := 0) Tryz.runUnderlying523 rfl Tryz.sizeOf168 rfl rfl) ?_; refine u_val (i := 12) rfl (by kernel_rfl) (by kernel_rfl) (by kernel_rfl) (.till 0 [18] rfl rfl (by kernel_rfl)) rfl rfl rfl (y_load Tryz.isAgg168 rfl (cel_own 0 rfl rfl)) ?_; refine u_val (i := 13) rfl (by kernel_rfl) (by kernel_rfl) (by kernel_rfl) (.stay rfl) rfl rfl rfl (y_loads (cs := [_, _]) Tryz.isAgg51 Tryz.sizeOf51 rfl rfl rfl (cels_own 1 rfl rfl)) ?_; refine u_eff2 (k := 7) (k' := 14) [3, 3] rfl rfl  (by kernel_rfl) rfl ⟨.inr ⟨[0], rfl⟩, trivial⟩ ?_ ?_
   ·refine o_lit (vs := [(0, .int _ _)]) rfl rfl (PutE_k0 _) (fun b6 => ?_); refine o_nil ?_; refine u_eff2 (k := 8) (k' := 14) [3, 3] rfl rfl  (by kernel_rfl) rfl ⟨.inr ⟨[0], rfl⟩, trivial⟩ ?_ ?_
    ·refine o_append (sz := 1) (bytes := 8) (news := [(.int _ _)]) 2 rfl Tryz.underlying22 Tryz.type3 rfl rfl rfl rfl rfl her rfl rfl (Src.slice Tryz.underlying22 (cels_own 5 rfl rfl) rfl (by simp [Value.oneCell']) (by simp)) (by omega) (fun A7 c8 E9 ho10 hn11 => ?_); have ho12 : OS A7 (rows.length + 1) c8 3 1 ((rows ++ [n]).map (.int .i64)) E9 := (os_eq ho10 (by rw [List.map_append]; rfl))
     clear ho10
     refine o_nil ?_; refine u_eff (k := 14) [3, 3] rfl  (by kernel_rfl) rfl ⟨.inr ⟨[0], rfl⟩, trivial⟩ ?_; refine o_lit (vs := [(0, .agg #[.int _ _, .int _ _])]) rfl rfl (PutE_k1 _ _) (fun b13 => ?_); refine o_nil ?_; refine u_eff (k := 15) [3, 3] rfl  (by kernel_rfl) rfl ⟨.inr ⟨[0], rfl⟩, trivial⟩ ?_; refine o_append (sz := 2) (bytes := 16) (news := [(.int _ _), (.int _ _)]) 1 rfl Tryz.underlying168 Tryz.type51 rfl rfl rfl rfl rfl hev rfl rfl (Src.slice Tryz.underlying168 (cels_own 6 rfl rfl) rfl (by simp [Value.oneCell']) (by simp)) (by omega) (fun A14 c15 E16 ho17 hn18 => ?_); have ho19 : OS A14 (rows.length + 1) c15 51 2 ((es ++ [(e1, e2)]).flatMap enc2) E16 := (os_snoc ho17 rfl)
     clear ho17
     refine o_nil ?_; refine u_val (i := 16) rfl (by kernel_rfl) (by kernel_rfl) (by kernel_rfl) (.stay rfl) rfl rfl rfl (y_nilCheck rfl) ?_; refine u_val (i := 17) rfl (by kernel_rfl) (by kernel_rfl) (by kernel_rfl) (.stay rfl) rfl rfl rfl (y_field0 (F := 1) Tryz.runUnderlying523 rfl Tryz.sizeOf22 rfl rfl) ?_; refine u_eff (k := 18) [3, 3] rfl  (by kernel_rfl) rfl ⟨.inr ⟨[0], rfl⟩, trivial⟩ ?_; refine o_store (v := .slice _ _ _) 0 rfl Tryz.sizeOf22 rfl rfl rfl rfl (o_nil ?_); refine u_val (i := 19) rfl (by kernel_rfl) (by kernel_rfl) (by kernel_rfl) (.stay rfl) rfl rfl rfl (y_nilCheck rfl) ?_; refine u_val (i := 20) rfl (by kernel_rfl) (by kernel_rfl) (by kernel_rfl) (.stay rfl) rfl rfl rfl (y_field0 (F := 0) Tryz.runUnderlying523 rfl Tryz.sizeOf168 rfl rfl) ?_; refine u_eff (k := 21) [3, 3] rfl  (by kernel_rfl) rfl ⟨.inl rfl, trivial⟩ ?_; refine o_store (v := .slice _ _ _) 0 rfl Tryz.sizeOf168 rfl rfl rfl rfl (o_nil ?_); refine u_nil [3, 3] (by kernel_rfl) ⟨.inl rfl, trivial⟩ rfl ?_; refine s_norm [(cB [(.slice _ _ _), (.slice _ _ _), (.map _)] 523 _), _, _, _, (cB [(.int _ _), (.int _ _)] 51 _), (cB [(.int _ _)] 3 _), (cB [(.int _ _), (.int _ _)] 51 _)] rfl ?_; refine sf [(6, .int _ _)] (fun _f => ?_); refine s_seq (s_region ?_); refine ov (y_assign (v := .int _ _) rfl) (o_nil ?_); refine s_ret ?_; have e1 : (rows ++ [n]).length = rows.length + 1 := by simp
     exact ⟨_, [_], res1 rfl rfl, ⟨_, rfl, ⟨A14, c15, E16, A7, c8, E9, mb, by simp [hvl], by rw [e1, mOf_snoc], by rw [e1]; exact ho19, by rw [e1]; exact ho12⟩, rfl⟩, sub_app4 (sub_picks [0, 0, 0, 0] rfl)⟩
    ·refine o_lit (vs := [(0, .agg #[.int _ _, .int _ _])]) rfl rfl (PutE_k1 _ _) (fun b20 => ?_); refine o_nil ?_; refine u_eff (k := 8) [3, 3] rfl  (by kernel_rfl) rfl ⟨.inr ⟨[0], rfl⟩, trivial⟩ ?_; refine o_append (sz := 1) (bytes := 8) (news := [(.int _ _)]) 2 rfl Tryz.underlying22 Tryz.type3 rfl rfl rfl rfl rfl her rfl rfl (Src.slice Tryz.underlying22 (cels_own 5 rfl rfl) rfl (by simp [Value.oneCell']) (by simp)) (by omega) (fun A21 c22 E23 ho24 hn25 => ?_); have ho26 : OS A21 (rows.length + 1) c22 3 1 ((rows ++ [n]).map (.int .i64)) E23 := (os_eq ho24 (by rw [List.map_append]; rfl))
     clear ho24
     refine o_nil ?_; refine u_eff (k := 15) [3, 3] rfl  (by kernel_rfl) rfl ⟨.inr ⟨[0], rfl⟩, trivial⟩ ?_; refine o_append (sz := 2) (bytes := 16) (news := [(.int _ _), (.int _ _)]) 1 rfl Tryz.underlying168 Tryz.type51 rfl rfl rfl rfl rfl hev rfl rfl (Src.slice Tryz.underlying168 (cels_own 6 rfl rfl) rfl (by simp [Value.oneCell']) (by simp)) (by omega) (fun A27 c28 E29 ho30 hn31 => ?_); have ho32 : OS A27 (rows.length + 1) c28 51 2 ((es ++ [(e1, e2)]).flatMap enc2) E29 := (os_snoc ho30 rfl)
     clear ho30
     refine o_nil ?_; refine u_val (i := 16) rfl (by kernel_rfl) (by kernel_rfl) (by kernel_rfl) (.stay rfl) rfl rfl rfl (y_nilCheck rfl) ?_; refine u_val (i := 17) rfl (by kernel_rfl) (by kernel_rfl) (by kernel_rfl) (.stay rfl) rfl rfl rfl (y_field0 (F := 1) Tryz.runUnderlying523 rfl Tryz.sizeOf22 rfl rfl) ?_; refine u_eff (k := 18) [3, 3] rfl  (by kernel_rfl) rfl ⟨.inr ⟨[0], rfl⟩, trivial⟩ ?_; refine o_store (v := .slice _ _ _) 0 rfl Tryz.sizeOf22 rfl rfl rfl rfl (o_nil ?_); refine u_val (i := 19) rfl (by kernel_rfl) (by kernel_rfl) (by kernel_rfl) (.stay rfl) rfl rfl rfl (y_nilCheck rfl) ?_; refine u_val (i := 20) rfl (by kernel_rfl) (by kernel_rfl) (by kernel_rfl) (.stay rfl) rfl rfl rfl (y_field0 (F := 0) Tryz.runUnderlying523 rfl Tryz.sizeOf168 rfl rfl) ?_; refine u_eff (k := 21) [3, 3] rfl  (by kernel_rfl) rfl ⟨.inl rfl, trivial⟩ ?_; refine o_store (v := .slice _ _ _) 0 rfl Tryz.sizeOf168 rfl rfl rfl rfl (o_nil ?_); refine u_nil [3, 3] (by kernel_rfl) ⟨.inl rfl, trivial⟩ rfl ?_; refine s_norm [(cB [(.slice _ _ _), (.slice _ _ _), (.map _)] 523 _), _, _, _, (cB [(.int _ _), (.int _ _)] 51 _), (cB [(.int _ _)] 3 _), (cB [(.int _ _), (.int _ _)] 51 _)] rfl ?_; refine sf [(6, .int _ _)] (fun _f => ?_); refine s_seq (s_region ?_); refine ov (y_assign (v := .int _ _) rfl) (o_nil ?_); refine s_ret ?_; have e1 : (rows ++ [n]).length = rows.length + 1 := by simp
     exact ⟨_, [_], res1 rfl rfl, ⟨_, rfl, ⟨A27, c28, E29, A21, c22, E23, mb, by simp [hvl], by rw [e1, mOf_snoc], by rw [e1]; exact ho32, by rw [e1]; exact ho26⟩, rfl⟩, sub_app4 (sub_picks [0, 0, 0, 0] rfl)⟩
   ·refine o_lit (vs := [(0, .agg #[.int _ _, .int _ _])]) rfl rfl (PutE_k1 _ _) (fun b33 => ?_); refine o_nil ?_; refine u_eff (k := 7) [3, 3] rfl  (by kernel_rfl) rfl ⟨.inr ⟨[0], rfl⟩, trivial⟩ ?_; refine o_lit (vs := [(0, .int _ _)]) rfl rfl (PutE_k0 _) (fun b34 => ?_); refine o_nil ?_; refine u_eff (k := 8) [3, 3] rfl  (by kernel_rfl) rfl ⟨.inr ⟨[0], rfl⟩, trivial⟩ ?_; refine o_append (sz := 1) (bytes := 8) (news := [(.int _ _)]) 2 rfl Tryz.underlying22 Tryz.type3 rfl rfl rfl rfl rfl her rfl rfl (Src.slice Tryz.underlying22 (cels_own 6 rfl rfl) rfl (by simp [Value.oneCell']) (by simp)) (by omega) (fun A35 c36 E37 ho38 hn39 => ?_); have ho40 : OS A35 (rows.length + 1) c36 3 1 ((rows ++ [n]).map (.int .i64)) E37 := (os_eq ho38 (by rw [List.map_append]; rfl))
    clear ho38
    refine o_nil ?_; refine u_eff (k := 15) [3, 3] rfl  (by kernel_rfl) rfl ⟨.inr ⟨[0], rfl⟩, trivial⟩ ?_; refine o_append (sz := 2) (bytes := 16) (news := [(.int _ _), (.int _ _)]) 1 rfl Tryz.underlying168 Tryz.type51 rfl rfl rfl rfl rfl hev rfl rfl (Src.slice Tryz.underlying168 (cels_own 5 rfl rfl) rfl (by simp [Value.oneCell']) (by simp)) (by omega) (fun A41 c42 E43 ho44 hn45 => ?_); have ho46 : OS A41 (rows.length + 1) c42 51 2 ((es ++ [(e1, e2)]).flatMap enc2) E43 := (os_snoc ho44 rfl)
    clear ho44
    refine o_nil ?_; refine u_val (i := 16) rfl (by kernel_rfl) (by kernel_rfl) (by kernel_rfl) (.stay rfl) rfl rfl rfl (y_nilCheck rfl) ?_; refine u_val (i := 17) rfl (by kernel_rfl) (by kernel_rfl) (by kernel_rfl) (.stay rfl) rfl rfl rfl (y_field0 (F := 1) Tryz.runUnderlying523 rfl Tryz.sizeOf22 rfl rfl) ?_; refine u_eff (k := 18) [3, 3] rfl  (by kernel_rfl) rfl ⟨.inr ⟨[0], rfl⟩, trivial⟩ ?_; refine o_store (v := .slice _ _ _) 0 rfl Tryz.sizeOf22 rfl rfl rfl rfl (o_nil ?_); refine u_val (i := 19) rfl (by kernel_rfl) (by kernel_rfl) (by kernel_rfl) (.stay rfl) rfl rfl rfl (y_nilCheck rfl) ?_; refine u_val (i := 20) rfl (by kernel_rfl) (by kernel_rfl) (by kernel_rfl) (.stay rfl) rfl rfl rfl (y_field0 (F := 0) Tryz.runUnderlying523 rfl Tryz.sizeOf168 rfl rfl) ?_; refine u_eff (k := 21) [3, 3] rfl  (by kernel_rfl) rfl ⟨.inl rfl, trivial⟩ ?_; refine o_store (v := .slice _ _ _) 0 rfl Tryz.sizeOf168 rfl rfl rfl rfl (o_nil ?_); refine u_nil [3, 3] (by kernel_rfl) ⟨.inl rfl, trivial⟩ rfl ?_; refine s_norm [(cB [(.slice _ _ _), (.slice _ _ _), (.map _)] 523 _), _, _, _, (cB [(.int _ _), (.int _ _)] 51 _), (cB [(.int _ _), (.int _ _)] 51 _), (cB [(.int _ _)] 3 _)] rfl ?_; refine sf [(6, .int _ _)] (fun _f => ?_); refine s_seq (s_region ?_); refine ov (y_assign (v := .int _ _) rfl) (o_nil ?_); refine s_ret ?_; have e1 : (rows ++ [n]).length = rows.length + 1 := by simp
    exact ⟨_, [_], res1 rfl rfl, ⟨_, rfl, ⟨A41, c42, E43, A35, c36, E37, mb, by simp [hvl], by rw [e1, mOf_snoc], by rw [e1]; exact ho46, by rw [e1]; exact ho40⟩, rfl⟩, sub_app4 (sub_picks [0, 0, 0, 0] rfl)⟩

theorem mem_app4 {V : Mem} {A B C D : Grp} (hm : MSub (inG (A ++ (B ++ (C ++ D)))) V) : MSub (inG A) V ∧ MSub (inG B) V ∧ MSub (inG C) V ∧ MSub (inG D) V := ⟨inG_left.trans hm, (inG_left.trans inG_right).trans hm, (inG_left.trans (inG_right.trans inG_right)).trans hm, (inG_right.trans (inG_right.trans inG_right)).trans hm⟩

theorem GetV_c {V : Mem} (b : Nat) (rows : List Int) (hs : List HdR) (G : Grp) (hst : StV b rows hs G) (hm : MSub (inG G) V) (hnd : rows.Nodup) (i : Nat) (hi : i < rows.length) : CallS Tryz.prog 366 [.pointer (some ⟨b, 0, none⟩), .int .i64 (rows.getD i 0)].toArray V [] (fun r L' => r = .tuple #[.slice (hs.getD i default).A (hs.getD i default).n (hs.getD i default).c, .bool true] ∧ L' = []) := by
 obtain ⟨vA, vc, EV, rA, rc, ER, mb, hvl, rfl, hev, her⟩ := hst; obtain ⟨hm1, hm2, _, hm4⟩ := mem_app4 hm; have hSb := hm1 _ _ (List.mem_singleton.2 rfl); have hMb := hm4 _ _ (List.mem_singleton.2 rfl); have hvv := hev.mem.ms hm2; refine callS Tryz.func366 rfl rfl (fun w0 => ?_); refine s_seq (s_region ?_); refine ov (y_assign (v := .slice _ _ _) rfl) ?_; refine ov (y_assign (v := .bool _) rfl) (o_nil ?_); refine s_seq (s_region ?_); refine ov (y_move (v := .pointer _) rfl) ?_; refine ov (y_nilCheck rfl) ?_; refine ov (y_field0 (F := 2) Tryz.runUnderlying558 rfl Tryz.sizeOf228 rfl rfl) ?_; refine ov (y_load Tryz.isAgg228 rfl (cel_mem hSb rfl)) ?_; refine ov (y_move (v := .int _ _) rfl) ?_; refine ov ((y_lookupM hMb Tryz.runUnderlying228 Tryz.runUnderlying3 Tryz.zeroValue3 rfl rfl).of_eq (v' := .tuple #[.int .i64 (i : Int), .bool true]) (by rw [mOf_some hnd hi]; rfl)) ?_; refine ov (y_move (v := (.tuple #[(.int _ _), (.bool _)])) rfl) ?_; refine ov (y_extract (v := .int _ _) rfl rfl) ?_; refine ov (y_extract (v := .bool _) rfl rfl) ?_; refine ov (y_assign (v := .int _ _) rfl) ?_; refine ov (y_assign (v := .bool _) rfl) (o_nil ?_); refine sf [(0, .pointer _), (4, .slice _ _ _), (5, .bool _), (6, .int _ _), (7, .bool _)] (fun _f => ?_); refine s_seq ?_; refine s_seq (s_region ?_); refine ov (y_move (v := .bool _) rfl) ?_; refine ov (y_notb rfl) (o_nil ?_); refine s_else rfl ?_; refine s_skip ?_; refine s_seq (s_region ?_); refine ov (y_move (v := .pointer _) rfl) ?_; refine ov (y_nilCheck rfl) ?_; refine ov (y_field0 (F := 0) Tryz.runUnderlying558 rfl Tryz.sizeOf126 rfl rfl) ?_; refine ov (y_load Tryz.isAgg126 rfl (cel_mem hSb rfl)) ?_; refine ov (y_move (v := .int _ _) rfl) ?_; refine ov (y_index1 Tryz.runUnderlying126 Tryz.sizeOf22 (some_hd hvv (by show i < hs.length; omega)) rfl rfl (by omega)) ?_; refine ov (y_load Tryz.isAgg22 rfl (cel_hd hvv.here (by show i < hs.length; omega))) ?_; refine ov (y_assign (v := .slice _ _ _) rfl) ?_; refine ov (y_assign (v := .bool _) rfl) (o_nil ?_); refine s_ret ?_; exact ⟨_, [], res2 rfl rfl rfl, ⟨rfl, rfl⟩, sub_picks [] rfl⟩

end Go.Proofs.YtlkajdcgdoijjaaGreatDoor.K
end
section
set_option linter.unusedVariables false
set_option linter.unusedSimpArgs false
namespace Go.Proofs.YtlkajdcgdoijjaaGreatDoor.K
open Go.RowKit
section
variable {P : Program} {Q : Exit → Act → World → Prop} {ops : Array Oper} {lp n : Nat}
def noDefer (l : List Oper) : Bool := l.all fun o => match o.op with | .defer _ => false | _ => true
theorem noDefer_op {o : Oper} (h : (match o.op with | .defer _ => false | _ => true) = true) : ∀ c, o.op ≠ .defer c := by
 intro c e; rw [e] at h
 cases h
theorem wp_round {o : Oper} {a : Act} {w : World} {K : Act → World → Prop} (hd : ∀ c, o.op ≠ .defer c) (h : o.wp P a w K Q) : o.wpIn (Fence.wide.inRound lp) n P a w K Q := by
 refine ⟨fun _ _ => trivial, ?_⟩; have hs : o.semAt (Fence.wide.inRound lp).round a.eval = execOp a.eval o := Oper.semAt_some lp a.eval o hd; rw [hs]; unfold Oper.wp at h
 generalize (execOp a.eval o).run P w = r at h
 cases r with
 | ok x w' =>
  cases x
  case value v => exact h
  case skip => exact h
  case defer d => exact h
  case enter f args => exact ⟨(fun hh => by cases hh), (callsIn_wide.2 h).inRound lp⟩
  case row row args =>
   refine ⟨(fun hh => by cases hh), ?_⟩; have h1 : RowsIn Fence.wide (n - 1) P row args w' (fun v w'' => K (a.put o.dst v) w'') := fun c cs _ => by
    obtain ⟨v, w2, hr, hs⟩ := h c cs; exact ⟨v, w2, hr, stepsIn_wide.2 hs⟩
   exact h1
  all_goals exact h.elim
 | halt x w' =>
  cases x
  case panic v => exact h
  all_goals exact h.elim
theorem list_round (hQ : ¬ LetsOut Q) : ∀ {l : List Oper} {a : Act} {w : World}, noDefer l = true → wpList P ops Q l a w → wpListIn (Fence.wide.inRound lp) n P ops Q l a w
 | [], a, w, _, h => h
 | o :: l, a, w, hn, h => by
  unfold noDefer at hn; rw [List.all_cons, Bool.and_eq_true] at hn; unfold wpList at h; unfold wpListIn
  split
  ·rename_i hw
   rw [if_pos hw] at h; rcases h with h | ⟨_, h⟩
   ·exact Oper.wpIn_mono (fun a' w' h' => list_round hQ hn.2 h') (wp_round (noDefer_op hn.1) h)
   ·exact (hQ h).elim
  ·rename_i hw
   rw [if_neg hw] at h; exact ⟨fun _ _ => trivial, list_round hQ hn.2 h⟩
theorem any_round {md : Region.Mode} (hQ : ¬ LetsOut Q) (hn : noDefer ops.toList = true) : ∀ {fuel : Nat} {listed : Array Bool} {a : Act} {w : World}, wpAny P md ops Q fuel listed a w → wpAnyIn (Fence.wide.inRound lp) n P md ops Q fuel listed a w
 | 0, _, _, _, h => h
 | fuel + 1, listed, a, w, h => by
  refine ⟨h.1, fun i hi => ?_⟩; have h1 := h.2 i hi; unfold wpOp at h1; unfold wpOpIn
  split at h1
  ·rename_i e; rw [e]; exact any_round hQ hn h1
  ·rename_i o e
   rw [e]; simp only
   split
   ·rename_i hw
    rw [if_pos hw] at h1; rcases h1 with h1 | ⟨_, h1⟩
    ·refine Oper.wpIn_mono (fun a' w' h' => any_round hQ hn h') (wp_round (noDefer_op ?_) h1); have := (List.all_eq_true.1 hn) o (by have := Array.mem_of_getElem? e; simpa using this); exact this
    ·exact (hQ h1).elim
   ·rename_i hw
    rw [if_neg hw] at h1; exact ⟨fun _ _ => trivial, any_round hQ hn h1⟩
end
end Go.Proofs.YtlkajdcgdoijjaaGreatDoor.K
end
section
set_option linter.unusedVariables false
set_option linter.unusedSimpArgs false
namespace Go.Proofs.YtlkajdcgdoijjaaGreatDoor.K
open Go.RowKit
section
variable {P : Program} {N : Nm} {w0 : World} {V : Mem} {Q : Exit → Frm → List Grp → Prop} {f : Frm} {L : List Grp}
/-- A loop at the end of a round. -/
def wpAgain (P : Program) (c : Code) (Q : Exit → Act → World → Prop) (a : Act) (w : World) : Prop :=
 ∀ (b : Frame) (k : List Item) (cs : List Frame), ∃ e a' w', Q e a' w' ∧ Arrives P (lone (b.at a (.inLoop c :: k)) cs w) b k cs e a' w'
theorem wp_rounds {c : Code} {Q : Exit → Act → World → Prop} {a : Act} {w : World} (h : c.wp P (Exit.then (wpAgain P c Q) Q) a w) (b : Frame) (k : List Item) (cs : List Frame) :
  ∃ e a' w', Q e a' w' ∧ Arrives P (lone (b.at a (.code c :: .inLoop c :: k)) cs w) b k cs e a' w' := by
 obtain ⟨e, a₁, w₁, hq, harr⟩ := h b (.inLoop c :: k) cs
 cases e with
 | normal =>
  obtain ⟨e₂, a₂, w₂, hq₂, harr₂⟩ := hq b k cs; exact ⟨e₂, a₂, w₂, hq₂, .of_steps harr harr₂⟩
 | exit id => exact ⟨_, a₁, w₁, hq, .pass (x := .inLoop c) rfl (fun _ _ => .inl (by simp)) harr⟩
 | goto l => exact ⟨_, a₁, w₁, hq, .pass (x := .inLoop c) rfl (fun _ _ => .inl (by simp)) harr⟩
 | ret => exact ⟨_, a₁, w₁, hq, .pass (x := .inLoop c) rfl (fun _ _ => .inl (by simp)) harr⟩
 | panic ch => exact ⟨_, a₁, w₁, hq, .pass (x := .inLoop c) rfl (fun _ _ => .inl (by simp)) harr⟩
 | outgrown => exact ⟨_, a₁, w₁, hq, .pass (x := .inLoop c) rfl (fun _ _ => .inl (by simp)) harr⟩
theorem wp_loop1 {c : Code} {Q : Exit → Act → World → Prop} {a : Act} {w : World} (h : c.wp P (Exit.then (wpAgain P c Q) Q) a w) : (Code.loop c).wp P Q a w := fun b k cs =>
 let ⟨e, a', w', hq, harr⟩ := wp_rounds h b k cs
 ⟨e, a', w', hq, .of_steps (.one step_loop) harr⟩
theorem wp_again {c : Code} {Q : Exit → Act → World → Prop} {a : Act} {w : World} (h : c.wp P (Exit.then (wpAgain P c Q) Q) a w) : wpAgain P c Q a w := fun b k cs =>
 let ⟨e, a', w', hq, harr⟩ := wp_rounds h b k cs
 ⟨e, a', w', hq, .of_steps (.one step_inLoop) harr⟩
/-! ### walks at whose end another number of calls is deferred -/
abbrev QX := Exit → Nm → Frm → List Grp → Prop
def liftX (w0 : World) (V : Mem) (Q : QX) : Exit → Act → World → Prop := fun e a w => ∃ N f L, Rep N f a ∧ SH w0 V w L ∧ Q e N f L
def wpX (P : Program) (w0 : World) (V : Mem) (c : Code) (Q : QX) (N : Nm) (f : Frm) (L : List Grp) : Prop := ∀ a w, Rep N f a → SH w0 V w L → c.wp P (liftX w0 V Q) a w
def thenX (next : Nm → Frm → List Grp → Prop) (Q : QX) : QX
 | .normal, N, f, L => next N f L
 | e, N, f, L => Q e N f L
def blockX (id : Nat) (Q : QX) : QX
 | .exit id', N, f, L => if id' = id then Q .normal N f L else Q (.exit id') N f L
 | e, N, f, L => Q e N f L
variable {X : QX}
theorem x_of {c : Code} (h : wpS P N w0 V c (fun e f L => X e N f L) f L) : wpX P w0 V c X N f L := fun a w ha hw => wp_mono (h a w ha hw) fun _ _ _ ⟨f', L', h1, h2, h3⟩ => ⟨N, f', L', h1, h2, h3⟩
theorem x_seq {x y : Code} (h : wpX P w0 V x (thenX (wpX P w0 V y X) X) N f L) : wpX P w0 V (.seq x y) X N f L := by
 intro a w ha hw; refine wp_seq (wp_mono (h a w ha hw) ?_); rintro e a' w' ⟨N', f', L', h1, h2, h3⟩
 cases e with
 | normal => exact h3 a' w' h1 h2
 | exit id => exact ⟨N', f', L', h1, h2, h3⟩
 | goto l => exact ⟨N', f', L', h1, h2, h3⟩
 | ret => exact ⟨N', f', L', h1, h2, h3⟩
 | panic ch => exact ⟨N', f', L', h1, h2, h3⟩
 | outgrown => exact ⟨N', f', L', h1, h2, h3⟩
theorem x_block {id : Nat} {c : Code} (h : wpX P w0 V c (blockX id X) N f L) : wpX P w0 V (.block id c) X N f L := by
 intro a w ha hw; refine wp_block (wp_mono (h a w ha hw) ?_); rintro e a' w' ⟨N', f', L', h1, h2, h3⟩
 cases e with
 | exit id' =>
  simp only [Exit.inBlock]; simp only [blockX] at h3
  by_cases hid : id' = id
  ·rw [if_pos hid] at h3 ⊢; exact ⟨N', f', L', h1, h2, h3⟩
  ·rw [if_neg hid] at h3 ⊢; exact ⟨N', f', L', h1, h2, h3⟩
 | normal => exact ⟨N', f', L', h1, h2, h3⟩
 | goto l => exact ⟨N', f', L', h1, h2, h3⟩
 | ret => exact ⟨N', f', L', h1, h2, h3⟩
 | panic ch => exact ⟨N', f', L', h1, h2, h3⟩
 | outgrown => exact ⟨N', f', L', h1, h2, h3⟩
theorem x_skip (h : X .normal N f L) : wpX P w0 V .skip X N f L := fun _ _ ha hw => wp_skip ⟨N, f, L, ha, hw, h⟩
theorem x_exit {id : Nat} (h : X (.exit id) N f L) : wpX P w0 V (.exit id) X N f L := fun _ _ ha hw => wp_exit ⟨N, f, L, ha, hw, h⟩
theorem x_ret (h : X .ret N f L) : wpX P w0 V .ret X N f L := fun _ _ ha hw => wp_ret ⟨N, f, L, ha, hw, h⟩
theorem x_then {c : Operand} {x y : Code} (hc : evF f c = .bool true) (h : wpX P w0 V x X N f L) : wpX P w0 V (.cond c x y) X N f L := fun a w ha hw => wp_cond (t := true) (by rw [ha.eval]; exact hc) (h a w ha hw)
theorem x_else {c : Operand} {x y : Code} (hc : evF f c = .bool false) (h : wpX P w0 V y X N f L) : wpX P w0 V (.cond c x y) X N f L := fun a w ha hw => wp_cond (t := false) (by rw [ha.eval]; exact hc) (h a w ha hw)
def againX (P : Program) (w0 : World) (V : Mem) (c : Code) (X : QX) (N : Nm) (f : Frm) (L : List Grp) : Prop := ∀ a w, Rep N f a → SH w0 V w L → wpAgain P c (liftX w0 V X) a w
theorem againX_lift {c : Code} (h : wpX P w0 V c (thenX (againX P w0 V c X) X) N f L) {a : Act} {w : World} (ha : Rep N f a) (hw : SH w0 V w L) : c.wp P (Exit.then (wpAgain P c (liftX w0 V X)) (liftX w0 V X)) a w := by
 refine wp_mono (h a w ha hw) ?_; rintro e a' w' ⟨N', f', L', h1, h2, h3⟩
 cases e with
 | normal => exact h3 a' w' h1 h2
 | exit id => exact ⟨N', f', L', h1, h2, h3⟩
 | goto l => exact ⟨N', f', L', h1, h2, h3⟩
 | ret => exact ⟨N', f', L', h1, h2, h3⟩
 | panic ch => exact ⟨N', f', L', h1, h2, h3⟩
 | outgrown => exact ⟨N', f', L', h1, h2, h3⟩
theorem x_loop1 {c : Code} (h : wpX P w0 V c (thenX (againX P w0 V c X) X) N f L) : wpX P w0 V (.loop c) X N f L := fun _ _ ha hw => wp_loop1 (againX_lift h ha hw)
theorem x_again {c : Code} (h : wpX P w0 V c (thenX (againX P w0 V c X) X) N f L) : againX P w0 V c X N f L := fun _ _ ha hw => wp_again (againX_lift h ha hw)
theorem x_sub {c : Code} (L' : List Grp) (hs : Sub L' L) (h : wpX P w0 V c X N f L') : wpX P w0 V c X N f L := fun a w ha hw => h a w ha (hs _ _ _ hw)
theorem SH.putObj {w : World} (h : SH w0 V w L) {j b : Nat} {o o' : Obj} (hj : nth L j = some [(b, o)]) : SH w0 V (w.putObj b o') (setG L j [(b, o')]) := by
 have hb : w.heap[b]? = some o := by
  obtain ⟨p, q, rfl, _⟩ := setG_split hj; exact h.own (b, o) (by simp)
 exact h.put hj rfl rfl rfl (World.putObj_size) (World.putObj_heap_same (Array.getElem?_eq_some_iff.1 hb).1) fun k hk => World.putObj_heap_other hk
theorem SH.at {w : World} (h : SH w0 V w L) {j b : Nat} {o : Obj} {r : Grp} (hj : nth L j = some ((b, o) :: r)) : w.heap[b]? = some o := by
 obtain ⟨p, q, rfl, _⟩ := setG_split hj; exact h.own (b, o) (by simp)

/-- A function's end, where its activation has the mark of a range over a function among its deferred calls. -/
def endX (P : Program) (fn : Func) (V : Mem) (R : Value → List Grp → Prop) : QX
 | .normal, N, f, L | .ret, N, f, L => ∃ D j, N.ds = [⟨.collected D, #[]⟩] ∧ nth L j = some [(D, .deferred (some []))] ∧ endS P fn V R .ret f (setG L j [(D, .deferred none)])
 | _, _, _, _ => False
theorem callX {fid : FuncId} {fn : Func} {c : Code} {args : Array Value} {R : Value → List Grp → Prop}
  (hf : P.funcs[fid]? = some fn) (hb : fn.body = some c) (hn : Nat.ble args.size fn.ntmps = true) (h : ∀ w0, wpX P w0 V c (endX P fn V R) ⟨fn.ntmps, []⟩ (entry args) L) : CallS P fid args V L R := by
 intro w0 w hw; refine (callsIn_wide (n := 0)).1 (callsIn_of_wp_marks hf hb trivial (wpIn_wide.2 ?_) rfl); refine wp_mono (h w0 _ w (entry_rep args fn.ntmps (Nat.le_of_ble_eq_true hn)) hw) ?_; rintro e a w' ⟨N', f', L', h1, h2, h3⟩; have key : (∃ D j, N'.ds = [⟨.collected D, #[]⟩] ∧ nth L' j = some [(D, .deferred (some []))] ∧ endS P fn V R .ret f' (setG L' j [(D, .deferred none)])) → LeavesInM Fence.wide 0 P fn a.tmps (fun e w' => ∃ v L', e = .returned v ∧ SH w0 V w' L' ∧ R v L') a.defers .returning w' := by
  rintro ⟨D, j, hd, hj, v, L2, hv, hR, hT⟩; rw [h1.defers, hd]; have h2' := h2.putObj (o' := .deferred none) hj; refine ⟨by simp, .inl ⟨D, _, rfl, run_takeDeferred (h2.at hj), ?_⟩⟩; exact ⟨v, hv _ _ _ _ h1 h2', v, L2, rfl, hT _ _ _ h2', hR⟩
 cases e with
 | normal => exact key h3
 | ret => exact key h3
 | exit id => exact h3.elim
 | goto l => exact h3.elim
 | panic ch => exact h3.elim
 | outgrown => exact h3.elim

theorem nth_last {L : List Grp} {G : Grp} : nth (L ++ [G]) L.length = some G := by rw [nth_eq]; simp
theorem setG_last {L : List Grp} {G H : Grp} : setG (L ++ [G]) L.length H = L ++ [H] := by
 induction L with
 | nil => rfl
 | cons x l ih => show x :: setG (l ++ [G]) l.length H = _; rw [ih]; rfl
/-- The statement itself: whatever the function does, it hands back the loop's record as it was. -/
theorem x_range {g : Operand} {ps : Array Tmp} {assign body : Code} {gf : Nat} {lb : Array Value} (M : Nat → List Grp → Prop)
  (hg : evF f g = .func (.func gf) #[] lb) (hd : N.ds = []) (hent : ∀ args w, (callFunc gf args).run P w = .ok (.enter gf args) w)
  (hc : ∀ (D l : Nat) (r : Loop), Rep N f { tmps := r.tmps, defers := [] } → r.state = .ready → r.pending = none → r.params = ps → r.assign = assign → r.body = body → CallS P gf (#[.func (.yield l) #[] #[]] ++ lb) V (L ++ [[(D, .deferred (some []))]] ++ [[(l, .loop r)]]) (fun _ L' => ∃ L2, L' = L2 ++ [[(l, .loop r)]] ∧ M D L2))
  (hq : ∀ D L2, M D L2 → X .normal ⟨N.n, [⟨.collected D, #[]⟩]⟩ f L2) : wpX P w0 V (.rangeFunc g ps assign body) X N f L := by
 intro a w ha hw; refine (wpIn_wide (n := 0)).1 (wpIn_rangeFunc fun fn _ => ?_); have hda : a.defers = [] := by rw [ha.defers, hd]
 have hx := hc w.heap.size (w.heap.size + 1) { state := .ready, pending := none, fn, tmps := a.tmps, params := ps, assign, body, defers := w.heap.size } ⟨ha.size, ha.get, hd.symm⟩ rfl rfl rfl rfl rfl; have hs1 := hw.alloc (.deferred (some [])); have hs2 := hs1.alloc (.loop { state := .ready, pending := none, fn, tmps := a.tmps, params := ps, assign, body, defers := w.heap.size }); rw [show ({ w with heap := w.heap.push (.deferred (some [])) } : World).heap.size = w.heap.size + 1 by simp] at hs2; obtain ⟨W1, hW1⟩ : ∃ W1, (w.alloc (.deferred (some []))).alloc (.loop { state := .ready, pending := none, fn, tmps := a.tmps, params := ps, assign, body, defers := w.heap.size }) = W1 := ⟨_, rfl⟩; have hs3 : SH w0 V W1 (L ++ [[(w.heap.size, .deferred (some []))]] ++ [[(w.heap.size + 1, .loop { state := .ready, pending := none, fn, tmps := a.tmps, params := ps, assign, body, defers := w.heap.size })]]) := by rw [← hW1]; exact hs2
 refine ⟨w.heap.size + 1, [{ target := .collected w.heap.size, args := #[] }], W1, { target := .fn (.func gf) lb, args := #[.func (.yield (w.heap.size + 1)) #[] #[]] }, W1, gf, #[.func (.yield (w.heap.size + 1)) #[] #[]] ++ lb, W1, hW1 ▸ run_enterLoop_outer _ _ _ _ _, ?_, (fun _ _ => trivial), ?_, (fun h => by cases h), ?_⟩
 ·have hg' : a.eval g = .func (.func gf) #[] lb := by rw [ha.eval]; exact hg
  simp only [resolve, hg']; simp [go_sem]
 ·simp [invoke, go_sem, hent]
 ·refine callsIn_wide.2 ((hx w0 _ hs3).mono ?_); rintro e w' ⟨v, L', rfl, hs, L2, rfl, hM⟩; have hs4 := hs.putObj (o' := .loop { state := .exhausted, pending := none, fn, tmps := a.tmps, params := ps, assign, body, defers := w.heap.size }) nth_last; refine ⟨none, _, run_endLoop (hs.at nth_last) (by simp), ⟨N.n, [⟨.collected w.heap.size, #[]⟩]⟩, f, L2, ⟨ha.size, ha.get, by rw [hda]; rfl⟩, hs4.front ?_, hq _ _ hM⟩; rw [setG_last]; exact ⟨_, rfl⟩

/-! ### the rounds -/
def wpR (P : Program) (l n : Nat) (N : Nm) (w0 : World) (V : Mem) (c : Code) (Q : Exit → Frm → List Grp → Prop) (f : Frm) (L : List Grp) : Prop := ∀ a w, Rep N f a → SH w0 V w L → c.wpIn (Fence.wide.inRound l) n P (lift N w0 V Q) a w
variable {l n : Nat}
theorem r_seq {x y : Code} (h : wpR P l n N w0 V x (thenS (wpR P l n N w0 V y Q) Q) f L) : wpR P l n N w0 V (.seq x y) Q f L := by
 intro a w ha hw; refine wpIn_seq (wpIn_mono (h a w ha hw) ?_); rintro e a' w' ⟨f', L', h1, h2, h3⟩
 cases e with
 | normal => exact h3 a' w' h1 h2
 | exit id => exact ⟨f', L', h1, h2, h3⟩
 | goto l => exact ⟨f', L', h1, h2, h3⟩
 | ret => exact ⟨f', L', h1, h2, h3⟩
 | panic ch => exact ⟨f', L', h1, h2, h3⟩
 | outgrown => exact ⟨f', L', h1, h2, h3⟩
theorem r_block {id : Nat} {c : Code} (h : wpR P l n N w0 V c (blockS id Q) f L) : wpR P l n N w0 V (.block id c) Q f L := by
 intro a w ha hw; refine wpIn_block (wpIn_mono (h a w ha hw) ?_); rintro e a' w' ⟨f', L', h1, h2, h3⟩
 cases e with
 | exit id' =>
  simp only [Exit.inBlock]; simp only [blockS] at h3
  by_cases hid : id' = id
  ·rw [if_pos hid] at h3 ⊢; exact ⟨f', L', h1, h2, h3⟩
  ·rw [if_neg hid] at h3 ⊢; exact ⟨f', L', h1, h2, h3⟩
 | normal => exact ⟨f', L', h1, h2, h3⟩
 | goto l => exact ⟨f', L', h1, h2, h3⟩
 | ret => exact ⟨f', L', h1, h2, h3⟩
 | panic ch => exact ⟨f', L', h1, h2, h3⟩
 | outgrown => exact ⟨f', L', h1, h2, h3⟩
theorem no_out (hQ : ∀ f L, ¬ Q .outgrown f L) : ¬ LetsOut (lift N w0 V Q) := fun ⟨_, _, _, _, _, _, h⟩ => hQ _ _ h
theorem r_region {id : Nat} {ops : List Oper} (hn : noDefer ops = true) (hQ : ∀ f L, ¬ Q .outgrown f L) (h : opsS P N w0 V ops.toArray Q ops f L) : wpR P l n N w0 V (.region id ops.toArray false) Q f L :=
 fun a w ha hw => wpIn_region_lit (list_round (no_out hQ) hn (h a w ha hw))
def YieldS (P : Program) (l : Nat) (r : Loop) (args : Array Value) (V : Mem) (G : Grp) (R : Grp → Prop) : Prop :=
 ∀ (n : Nat) (w0 w : World), SH w0 V w [G, [(l, .loop r)]] → RoundIn Fence.wide n P l r.fn ((r.params.zip args).foldl (fun tmps (t, a) => tmps.setIfInBounds t a) r.tmps) r.assign r.body w (fun e w' => e = .returned (.bool true) ∧ ∃ G', SH w0 V w' [G', [(l, .loop r)]] ∧ R G')
/-- A round, from its walk: the assignments first, then the body, the loop's record busy. -/
theorem yield_of {r : Loop} {args : Array Value} {G : Grp} {R : Grp → Prop} (hst : r.state = .ready) (hp : r.pending = none) (hrep : Rep N f { tmps := (r.params.zip args).foldl (fun tmps (t, a) => tmps.setIfInBounds t a) r.tmps, defers := [] })
  (h : ∀ w0 n, wpR P l n N w0 V r.assign (fun e f' L' => e = .normal ∧ ∃ L1, Sub ([(l, .loop r)] :: L1) L' ∧ wpR P l n N w0 V r.body (fun e' _ L'' => e' = .normal ∧ ∃ G', R G' ∧ Sub ([(l, .loop { r with state := .busy })] :: [G']) L'') f' ([(l, .loop { r with state := .busy })] :: L1)) f [G, [(l, .loop r)]]) : YieldS P l r args V G R := by
 intro n w0 w hw; refine roundIn_of_wpIn trivial (wpIn_mono (h w0 n _ w hrep hw) ?_); rintro e a w1 ⟨f', L', ha, hw', rfl, L1, hs, hb⟩; have hw1 := hs _ _ _ hw'; have hw2 := hw1.putObj (o' := .loop { r with state := .busy }) (j := 0) rfl; refine ⟨_, run_beginRound (hw1.at (j := 0) rfl) hst, wpIn_mono (hb a _ ha hw2) ?_⟩; rintro e a w3 ⟨f2, L2, ha2, hw3, rfl, G', hR, hs2⟩; have hw4 := hs2 _ _ _ hw3; have hw5 := hw4.putObj (o' := .loop r) (j := 0) rfl; refine ⟨_, _, run_endRound none (hw4.at (j := 0) rfl), rfl, G', ?_, hR⟩; have e : (.loop { ({ r with state := .busy } : Loop) with state := if (none : Option Code).isNone then .ready else .done, pending := none } : Obj) = .loop r := by
  cases r; simp at hst hp; subst hst hp; rfl
 rw [e]; exact hw5.perm (by simp [setG]; exact List.perm_append_comm (l₁ := [_]))

/-! ### an operation that calls the body -/
theorem wp_wide {o : Oper} {a : Act} {w : World} {K : Act → World → Prop} {Q Q1 : Exit → Act → World → Prop} (hq : (∀ c a w, Q1 (.panic c) a w → Q (.panic c) a w) ∧ (LetsOut Q1 → LetsOut Q)) (h : o.wp P a w K Q1) : o.wpIn Fence.wide n P a w K Q := by
 refine ⟨fun _ _ => trivial, ?_⟩; have hs : o.semAt Fence.wide.round a.eval = execOp a.eval o := Oper.semAt_none a.eval o; rw [hs]; unfold Oper.wp at h
 generalize (execOp a.eval o).run P w = r at h
 cases r with
 | ok x w' =>
  cases x
  case value v => exact h
  case skip => exact h
  case defer d => exact h
  case enter f args =>
   refine ⟨(fun hh => by cases hh), (callsIn_wide.2 h).mono fun e w'' he => ?_⟩
   cases e with
   | returned v => exact he
   | panicked c => exact hq.1 _ _ _ he
   | outgrown => exact hq.2 he
  case row row args =>
   refine ⟨(fun hh => by cases hh), ?_⟩; have h1 : RowsIn Fence.wide (n - 1) P row args w' (fun v w'' => K (a.put o.dst v) w'') := fun c cs _ => by
    obtain ⟨v, w2, hr, hs⟩ := h c cs; exact ⟨v, w2, hr, stepsIn_wide.2 hs⟩
   exact h1
  all_goals exact h.elim
 | halt x w' =>
  cases x
  case panic v => exact hq.1 _ _ _ h
  all_goals exact h.elim
theorem list_wide {ops : Array Oper} {Q Q1 : Exit → Act → World → Prop} {l2 : List Oper} (hq : (∀ c a w, Q1 (.panic c) a w → Q (.panic c) a w) ∧ (LetsOut Q1 → LetsOut Q)) (hQ : ¬ LetsOut Q1) (hK : ∀ a w, Q1 .normal a w → wpListIn Fence.wide n P ops Q l2 a w) : ∀ {l1 : List Oper} {a : Act} {w : World}, wpList P ops Q1 l1 a w → wpListIn Fence.wide n P ops Q (l1 ++ l2) a w
 | [], a, w, h => hK a w h
 | o :: l, a, w, h => by
  unfold wpList at h; rw [List.cons_append]; unfold wpListIn
  split
  ·rename_i hw
   rw [if_pos hw] at h; rcases h with h | ⟨_, h⟩
   ·exact Oper.wpIn_mono (fun a' w' h' => list_wide hq hQ hK h') (wp_wide hq h)
   ·exact (hQ h).elim
  ·rename_i hw
   rw [if_neg hw] at h; exact ⟨fun _ _ => trivial, list_wide hq hQ hK h⟩
theorem s_yield {id : Nat} {l1 l2 l0 : List Oper} {o : Oper} {d : Nat} {r : Loop} {args : Array Value} {R : Grp → Prop} {G : Grp} (hl : l0 = l1 ++ o :: l2) (hg : o.guard = none) (hd : o.dst = some d) (hN : Nat.blt d N = true) (hQ : ∀ f L, ¬ Q .outgrown f L)
  (hy : YieldS P l r args V G R)
  (h : opsS P N w0 V l0.toArray (fun e f' L' => e = .normal ∧ L' = [G, [(l, .loop r)]] ∧ (∀ w, w.heap[l]? = some (.loop r) → (execOp (evF f') o).run P w = .ok (.round l r.fn ((r.params.zip args).foldl (fun tmps (t, a) => tmps.setIfInBounds t a) r.tmps) r.assign r.body) w) ∧ ∀ G', R G' → opsS P N w0 V l0.toArray Q l2 (upd f' d (.bool true)) [G', [(l, .loop r)]]) l1 f L) :
  wpS P N w0 V (.region id l0.toArray false) Q f L := by
 intro a w ha hw; refine (wpIn_wide (n := 0)).1 (wpIn_region_lit ?_); rw [show ∀ X, wpListIn Fence.wide 0 P l0.toArray X l0 a w = wpListIn Fence.wide 0 P l0.toArray X (l1 ++ o :: l2) a w from fun X => congrArg (fun q => wpListIn Fence.wide 0 P l0.toArray X q a w) hl]; refine list_wide ⟨?_, ?_⟩ ?_ ?_ (h a w ha hw)
 ·rintro c a w ⟨_, _, _, _, h, _⟩; cases h
 ·rintro ⟨_, _, _, _, _, _, h, _⟩; cases h
 ·rintro ⟨_, _, _, _, _, _, h, _⟩; cases h
 rintro a' w' ⟨f', L', h1, h2, _, rfl, hrun, hnext⟩; unfold wpListIn; rw [if_pos (by simp [Region.wanted, hg])]; refine ⟨fun _ _ => trivial, ?_⟩; rw [show o.semAt Fence.wide.round a'.eval = execOp a'.eval o from Oper.semAt_none a'.eval o, h1.eval, hrun w' (h2.at (j := 1) rfl)]; refine ⟨(fun h => by cases h), (hy _ _ _ h2).mono ?_⟩; rintro e w'' ⟨rfl, G', hs, hR⟩
 show wpListIn _ _ _ _ _ _ (a'.put o.dst (.bool true)) w''
 rw [hd]; have := list_wide (n := 0) (l2 := []) (Q := lift N w0 V Q) (Q1 := lift N w0 V Q) ⟨fun _ _ _ h => h, fun h => h⟩ (no_out hQ) (fun _ _ h => h) (hnext G' hR _ _ (h1.put hN _) hs)
 rwa [List.append_nil] at this
theorem run_yieldv {d : Nat} {ty : TypeId} {ps : String} {af : Array Edge} {g : Option (Nat × Bool)} {ts : Array TypeId} {x : Operand} {xs : List Operand} {vs : List Value} {r : Loop} {w : World} (hl : w.heap[l]? = some (.loop r)) (hs : vs.length = r.params.size) (hf : evF f x = .func (.yield l) #[] #[]) (hx : xs.map (evF f) = vs) :
  (execOp (evF f) ⟨some d, .call { callee := .value x, args := xs.toArray, argTypes := ts }, ty, ps, af, g⟩).run P w = .ok (.round l r.fn ((r.params.zip vs.toArray).foldl (fun tmps (t, a) => tmps.setIfInBounds t a) r.tmps) r.assign r.body) w := by
 have e : xs.toArray.map (evF f) = vs.toArray := by rw [List.map_toArray, hx]
 have hy := run_yield (P := P) (args := vs.toArray) hl (by simpa using hs); simp only [execOp, resolve, e, hf, Deferred.ofValue, Sem.run_bind, Sem.run_pure, Result.andThen_ok, invoke]; simp [hy]
/-- Groups laid together. -/
theorem sub_flatl {GL : List Grp} (h : Sub GL L) : Sub [GL.flatten] L := fun w0 V w hw => (h w0 V w hw).perm (by simp)
theorem ms_fl {GL : List Grp} {E : Grp} (h : E ∈ GL) : MSub (inG E) (inG GL.flatten) := fun b o hb => List.mem_flatten.2 ⟨E, h, hb⟩
theorem x_if {c : Operand} {x y : Code} {p : Prop} [Decidable p] (hc : evF f c = .bool (decide p)) (ht : p → wpX P w0 V x X N f L) (hf : ¬ p → wpX P w0 V y X N f L) : wpX P w0 V (.cond c x y) X N f L := by
 by_cases hp : p
 ·exact x_then (by rw [hc]; simp [hp]) (ht hp)
 ·exact x_else (by rw [hc]; simp [hp]) (hf hp)
theorem x_pull {c : Code} (j : Nat) (h : wpX P w0 V c X N f (pull j L)) : wpX P w0 V c X N f L := x_sub _ (fun _ _ _ hw => hw.perm (pull_perm j L)) h
theorem x_split4 {c : Code} {A B C D : Grp} {R : List Grp} (h : wpX P w0 V c X N f (A :: B :: C :: D :: R)) : wpX P w0 V c X N f ((A ++ (B ++ (C ++ D))) :: R) := x_sub _ (fun _ _ _ hw => hw.perm (by simp)) h
theorem r_drawU {LS : List (Nat × List Grp)} {L0 : List Grp} {id : Nat} {ops : List Oper} (js : List Nat) (ts : List (Nat × List Nat)) (hm : P.follows .mixedOrders = true) (hn : noDefer ops = true) (h0 : picks js L = L0) (hl : ts.map (fun t => (t.1, picks t.2 L)) = LS) (h : drawU P N w0 V L0 LS ops.toArray Q ops.length (List.replicate ops.length false) f L) : wpR P l n N w0 V (.region id ops.toArray true) Q f L := by
 intro a w ha hw; refine wpIn_mono (wpIn_region_any (Q := onN fun a w => lift N w0 V Q .normal a w) hm ?_) ?_
 ·have := (h a _ ha (hw.drawn (w.drawn + 1))).any; refine any_round (onN_out _) (by simpa using hn) ?_
  simpa [List.toArray_replicate] using this
 ·intro e a w h
  cases e with
  | normal => exact h
  | _ => exact h.elim
theorem perm3 (A B C : Grp) : (A ++ (B ++ C)).Perm (C ++ (A ++ B)) := by rw [← List.append_assoc]; exact List.perm_append_comm
/-- The statement, where the body changes one group alone. -/
theorem x_range1 {g : Operand} {ps : Array Tmp} {assign body : Code} {gf : Nat} {lb : List Value} {G : Grp} {R0 : List Grp} (Rr : Grp → Prop)
  (hg : evF f g = .func (.func gf) #[] lb.toArray) (hd : N.ds = []) (hent : ∀ args w, (callFunc gf args).run P w = .ok (.enter gf args) w)
  (hc : ∀ (D l : Nat) (r : Loop), Rep N f { tmps := r.tmps, defers := [] } → r.state = .ready → r.pending = none → r.params = ps → r.assign = assign → r.body = body → CallS P gf (.func (.yield l) #[] #[] :: lb).toArray (ext V (R0 ++ [[(D, .deferred (some []))]])) [G, [(l, .loop r)]] (fun _ L' => ∃ G', Rr G' ∧ L' = [G', [(l, .loop r)]]))
  (hq : ∀ D G', Rr G' → X .normal ⟨N.n, [⟨.collected D, #[]⟩]⟩ f (G' :: (R0 ++ [[(D, .deferred (some []))]]))) : wpX P w0 V (.rangeFunc g ps assign body) X N f (G :: R0) := by
 refine x_range (fun D L2 => ∃ G', Rr G' ∧ L2 = G' :: (R0 ++ [[(D, .deferred (some []))]])) hg hd hent ?_ ?_
 ·intro D l r h1 h2 h3 h4 h5 h6; have hx := (hc D l r h1 h2 h3 h4 h5 h6).frame (L := (G :: R0) ++ [[(D, .deferred (some []))]] ++ [[(l, .loop r)]]) (by
   have h7 := (perm3 R0.flatten [(D, .deferred (some []))] [(l, .loop r)]).append_left G
   simpa using h7)
  have e : (.func (.yield l) #[] #[] :: lb).toArray = #[.func (.yield l) #[] #[]] ++ lb.toArray := by simp
  rw [e] at hx; refine hx.upto ?_; rintro v L' ⟨L1, ⟨G', hR, rfl⟩, rfl⟩; refine ⟨_, ⟨_, rfl, G', hR, rfl⟩, fun w0 V w hw => hw.perm ?_⟩; have h7 := (perm3 R0.flatten [(D, .deferred (some []))] [(l, .loop r)]).symm.append_left G'
  simpa using h7
 ·rintro D L2 ⟨G', hR, rfl⟩; exact hq D G' hR
theorem rep_two {r : Loop} {a b : Nat} {u v : Value} (hps : r.params = #[a, b]) (h : Rep N f { tmps := r.tmps, defers := [] }) (ha : Nat.blt a N = true) (hb : Nat.blt b N = true) : Rep N (upd (upd f a u) b v) { tmps := (r.params.zip [u, v].toArray).foldl (fun tmps (t, a) => tmps.setIfInBounds t a) r.tmps, defers := [] } := by
 have h2 := (h.put ha u).put hb v; have e : (r.params.zip [u, v].toArray).foldl (fun tmps (t, a) => tmps.setIfInBounds t a) r.tmps = (r.tmps.setIfInBounds a u).setIfInBounds b v := by
  rw [hps]; simp
 rw [e]; exact h2
end
end Go.Proofs.YtlkajdcgdoijjaaGreatDoor.K
end

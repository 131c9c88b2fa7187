/- Walk: the law on links. No condition beyond what each statement names. -/
import Derived.Test.YtdgmocibjjkghaaProg
import Derived.Test.YtdgmocibjjkghaaK14
import Derived.Test.YtdgmocibjjkghaaB9
import Derived.Test.YtdgmocibjjkghaaN1
import Derived.Test.YtdgmocibjjkghaaN3
import Derived.Test.YtdgmocibjjkghaaN4
import Derived.Test.YtdgmocibjjkghaaL1
import Derived.Test.YtdgmocibjjkghaaL2
import Derived.Test.YtdgmocibjjkghaaL3
import Derived.Test.YtdgmocibjjkghaaL4
import Derived.Test.YtdgmocibjjkghaaL5
import Derived.Test.YtdgmocibjjkghaaL6
import Derived.Test.YtdgmocibjjkghaaL7
import Derived.Test.YtdgmocibjjkghaaL8
import Derived.Test.YtdgmocibjjkghaaL9
import Derived.Test.YtdgmocibjjkghaaL10
import Derived.Test.YtdgmocibjjkghaaL11
set_option linter.unusedVariables false
set_option linter.unusedSimpArgs false
set_option maxRecDepth 100000
set_option maxHeartbeats 20000000
namespace Go.Proofs.Ytdgmocibjjkghaa.K
open Go.RowKit

structure LF where
  k : Nat
  E : Grp
  bs : List Int
structure LC where
  E : Grp
  bs : List Int
def Side.new : Side := ⟨0, [], none, 0, [], 0, [], none, 0, [], [], [], none, 0, [], [], [], none, 0, [], []⟩
theorem Side.new_ok (i : Nat) : Side.new.ok i := ⟨OS.nil _ _, OS.nil _ _, fun f hf => absurd hf List.not_mem_nil, OS.nil _ _, fun f hf => absurd hf List.not_mem_nil, OS.nil _ _, fun f hf => absurd hf List.not_mem_nil, ⟨rfl, rfl, Int.le_refl _, Int.le_refl _, Nat.zero_le _, Int.le_refl _, by show (0 : Int) ≤ 8 * (i : Int); omega, Nat.zero_le _⟩⟩
theorem o_norm {P : Program} {N : Nat} {w0 : World} {V : Mem} {L : List Grp} {ops : Array Oper} {Q : Exit → Frm → List Grp → Prop} {f : Frm} {rest : List Oper} (L' : List Grp) (hs : L = L') (h : opsS P N w0 V ops Q rest f L') : opsS P N w0 V ops Q rest f L := hs ▸ h
theorem d_eff3 {P : Program} {N : Nat} {w0 : World} {V : Mem} {L0 L : List Grp} {ops : Array Oper} {Q : Exit → Frm → List Grp → Prop} {f : Frm} {fuel k k' k'' n m : Nat} {listed : List Bool} {o o' o'' : Oper} (hk : ops[k]? = some o) (hk' : ops[k']? = some o') (hk'' : ops[k'']? = some o'') (hr : Region.ready .any ops listed.toArray = [k, k', k'']) (hs : (L.drop n).take m = L0)
    (h : opsS P N w0 V ops (onlyS fun f' L' => drawS P N w0 V L0 ops Q fuel (listed.set k true) f' L') [o] f L) (h' : opsS P N w0 V ops (onlyS fun f' L' => drawS P N w0 V L0 ops Q fuel (listed.set k' true) f' L') [o'] f L) (h'' : opsS P N w0 V ops (onlyS fun f' L' => drawS P N w0 V L0 ops Q fuel (listed.set k'' true) f' L') [o''] f L) : drawS P N w0 V L0 ops Q (fuel + 1) listed f L :=
  d_effs hr hs fun i hi => by
    rcases List.mem_cons.1 hi with rfl | hi
    · exact ⟨_, hk, h⟩
    · rcases List.mem_cons.1 hi with rfl | hi
      · exact ⟨_, hk', h'⟩
      · obtain rfl : i = k'' := by simpa using hi
        exact ⟨_, hk'', h''⟩

theorem getD_memN {fs : List FL} {k : Nat} (h : k < fs.length) : fs.getD k default ∈ fs := by
  rw [List.getD_eq_getElem?_getD, List.getElem?_eq_getElem h]; simp

theorem LinkSays_k0 (v0 : Option Addr) (v1 : Option Addr) (w : World) : (Instr.buildSlice 58 2 ([(0, (.pointer v0)), (1, (.pointer v1))] : List (Nat × Value)).toArray).run Try.prog w = .ok (.slice (some ⟨w.heap.size, 0, none⟩) 2 2) { w with heap := w.heap.push (.cells ([.pointer v0, .pointer v1] : List Value).toArray 56 (0, 0)) } := by kernel_rfl
theorem LinkSays_k1 (w : World) : (Instr.build 62 ([] : List (Nat × Value)).toArray).run Try.prog w = .ok (.agg #[.slice none 0 0, .int .i64 0, .int .i64 0, .slice none 0 0]) w := by kernel_rfl
theorem LinkSays_k2 (v0 : Option Addr) (v1 : Option Addr) (w : World) : (Instr.buildSlice 63 2 ([(0, (.pointer v0)), (1, (.pointer v1))] : List (Nat × Value)).toArray).run Try.prog w = .ok (.slice (some ⟨w.heap.size, 0, none⟩) 2 2) { w with heap := w.heap.push (.cells ([.pointer v0, .pointer v1] : List Value).toArray 59 (0, 0)) } := by kernel_rfl
theorem LinkSays_k3 (v0A : Option Addr) (v0n : Nat) (v0c : Nat) (w : World) : (Instr.buildSlice 60 1 ([(0, (.slice v0A v0n v0c))] : List (Nat × Value)).toArray).run Try.prog w = .ok (.slice (some ⟨w.heap.size, 0, none⟩) 1 1) { w with heap := w.heap.push (.cells ([.slice v0A v0n v0c] : List Value).toArray 29 (0, 0)) } := by kernel_rfl
theorem LinkSays_c {V : Mem} (A : Option Addr) (n c : Nat) (acts : List Int) (h : Cels V [] A (acts.map (.int .i64))) (hn : acts.length = n) (hb : n ≤ 140737488355328) (hnc : n ≤ c) (R : Option Addr) (m d : Nat) (raw : List Int) (hr : BB V R m d raw) (hm : m ≤ 140737488355328) : CallS Try.prog 6 [.slice A n c, .slice R m d].toArray V [] (fun r L' => r = .bool true ∧ L' = []) := by
  have hms8 := (parse_bd hr.1 hr.2.2.2).2.2.2.2
  refine callS Try.func6 rfl rfl (fun w0 => ?_)
  refine s_seq ?_
  refine s_region ?_
  refine o_val rfl rfl rfl (y_assign (v := (.bool _)) rfl) ?_
  refine o_nil ?_
  refine s_seq ?_
  refine s_seq ?_
  refine s_region ?_
  refine o_fn 0 (d := 16) rfl Try.call28 (deliversL_c) rfl ?_
  rintro _ _ ⟨rfl, rfl⟩
  refine o_val rfl rfl rfl (y_notb rfl) ?_
  refine o_nil ?_
  refine s_else rfl ?_
  refine s_skip ?_
  refine s_seq ?_
  refine s_region ?_
  refine o_fn 0 (d := 18) rfl Try.call29 (NewL_c) rfl ?_
  rintro _ _ ⟨e0, rfl, rfl⟩
  refine o_norm _ (by simp only [pull, picks, setG, List.cons_append, List.nil_append, List.append_nil, List.drop_succ_cons, List.drop_zero]; rfl) ?_
  refine o_fn 0 (d := 19) rfl Try.call29 (NewL_c) rfl ?_
  rintro _ _ ⟨e1, rfl, rfl⟩
  refine o_norm _ (by simp only [pull, picks, setG, List.cons_append, List.nil_append, List.append_nil, List.drop_succ_cons, List.drop_zero]; rfl) ?_
  refine o_lit (vs := [(0, .pointer _), (1, .pointer _)]) rfl rfl (LinkSays_k0 _ _) (fun b1 => ?_)
  refine o_val rfl rfl rfl (y_assign (v := (.slice _ _ _)) rfl) ?_
  refine o_nil ?_
  refine s_seq ?_
  refine s_region ?_
  refine o_val rfl rfl rfl (y_build (vs := []) rfl (LinkSays_k1)) ?_
  refine o_box (v := (.agg #[(.slice _ _ _), (.int _ _), (.int _ _), (.slice _ _ _)])) rfl rfl rfl (fun b2 => ?_)
  refine o_val rfl rfl rfl (y_build (vs := []) rfl (LinkSays_k1)) ?_
  refine o_box (v := (.agg #[(.slice _ _ _), (.int _ _), (.int _ _), (.slice _ _ _)])) rfl rfl rfl (fun b3 => ?_)
  refine o_lit (vs := [(0, .pointer _), (1, .pointer _)]) rfl rfl (LinkSays_k2 _ _) (fun b4 => ?_)
  refine o_val rfl rfl rfl (y_assign (v := (.slice _ _ _)) rfl) ?_
  refine o_nil ?_
  refine s_forget [(0, (.slice _ _ _)), (1, (.slice _ _ _)), (4, (.bool _)), (5, (.slice _ _ _)), (6, (.slice _ _ _))] ⟨rfl, rfl, rfl, rfl, rfl, trivial⟩ (fun _f => ?_)
  refine s_seq ?_
  refine s_region ?_
  refine o_alloc rfl Try.zeroValue64 rfl (fun b5 => ?_)
  refine o_nil ?_
  refine s_seq ?_
  refine s_seq ?_
  refine s_region ?_
  refine o_val rfl rfl rfl (y_move (v := (.slice _ _ _)) rfl) ?_
  refine o_val rfl rfl rfl (y_move (v := (.slice _ _ _)) rfl) ?_
  refine o_val rfl rfl rfl (y_len Try.runUnderlying30 rfl) ?_
  refine o_val rfl rfl rfl (y_min rfl rfl) ?_
  refine o_val rfl rfl rfl (y_cut_hi Try.runUnderlying30 Try.sizeOf3 rfl rfl (by omega)) ?_
  refine o_val rfl rfl rfl (y_len Try.runUnderlying30 rfl) ?_
  refine o_val rfl rfl rfl (y_move (v := (.int _ _)) rfl) ?_
  refine o_nil ?_
  refine s_block ?_
  refine s_group ?_
  refine s_group ?_
  refine s_group ?_
  refine s_group ?_
  refine s_group ?_
  refine s_group ?_
  refine s_group ?_
  refine s_group ?_
  refine s_group ?_
  refine s_group ?_
  refine s_group ?_
  refine s_group ?_
  refine s_group ?_
  refine s_group ?_
  refine s_group ?_
  refine s_group ?_
  refine s_group ?_
  refine s_sub_picks (L' := [endg e0 0 none 0 0 0 none 0 0, [], [], [], halfg b2 none 0 0 0 0 none 0 0, [], [], [], [], endg e1 0 none 0 0 0 none 0 0, [], [], [], halfg b3 none 0 0 0 0 none 0 0, [], [], [], [], [(b1, .cells [.pointer (some ⟨e0, 0, none⟩), .pointer (some ⟨e1, 0, none⟩)].toArray 56 (0, 0))], [(b4, .cells [.pointer (some ⟨b2, 0, none⟩), .pointer (some ⟨b3, 0, none⟩)].toArray 59 (0, 0))], [(b5, .cells [.slice none 0 0, .slice none 0 0].toArray 64 (0, 0))], [], [], []]) [1, 6, 6, 6, 2, 5, 5, 5, 5, 0, 4, 4, 4, 1, 3, 3, 3, 3, 0, 0, 0, 0, 0, 0] (by kernel_rfl) ?_
  refine s_loop (γ := LW) (fun u => [(1, .slice R m d), (5, .slice (some ⟨b1, 0, none⟩) 2 2), (6, .slice (some ⟨b4, 0, none⟩) 2 2), (7, .pointer (some ⟨b5, 0, none⟩)), (30, .slice A (min (n : Int) 60).toNat c), (31, .int .i64 (((min (n : Int) 60).toNat : Nat) : Int)), (32, .int .i64 u.i)]) (fun u => [endg e0 u.X0.acked u.X0.wA u.X0.ws.length u.X0.wc u.X0.next u.X0.gA u.X0.gs.length u.X0.gc, u.X0.wE, u.X0.gE, u.X0.P1, halfg b2 u.X0.sA u.X0.ss.length u.X0.sc u.X0.acked u.X0.next u.X0.nA u.X0.ns.length u.X0.nc, u.X0.sE, u.X0.P2, u.X0.nE, u.X0.P3, endg e1 u.X1.acked u.X1.wA u.X1.ws.length u.X1.wc u.X1.next u.X1.gA u.X1.gs.length u.X1.gc, u.X1.wE, u.X1.gE, u.X1.P1, halfg b3 u.X1.sA u.X1.ss.length u.X1.sc u.X1.acked u.X1.next u.X1.nA u.X1.ns.length u.X1.nc, u.X1.sE, u.X1.P2, u.X1.nE, u.X1.P3, [(b1, .cells [.pointer (some ⟨e0, 0, none⟩), .pointer (some ⟨e1, 0, none⟩)].toArray 56 (0, 0))], [(b4, .cells [.pointer (some ⟨b2, 0, none⟩), .pointer (some ⟨b3, 0, none⟩)].toArray 59 (0, 0))], [(b5, .cells [.slice u.aA0 u.a0.length u.ac0, .slice u.aA1 u.a1.length u.ac1].toArray 64 (0, 0))], u.aE0, u.aE1, u.AP]) (fun u => u.i ≤ (min (n : Int) 60).toNat ∧ u.ok u.i) (fun u => (min (n : Int) 60).toNat - u.i) (LW.mk 0 Side.new Side.new [] none 0 [] [] none 0 [] []) ?_ ⟨rfl, rfl, rfl, rfl, rfl, rfl, rfl, trivial⟩ (sub_front ⟨_, rfl⟩) ?_
  · exact ⟨Nat.zero_le _, Side.new_ok _, Side.new_ok _, OS.nil _ _, OS.nil _ _, fun f hf => absurd hf List.not_mem_nil, fun f hf => absurd hf List.not_mem_nil, Nat.zero_le _, Nat.zero_le _⟩
  · intro u _f hI
    obtain ⟨hi, hok⟩ := hI
    have hok2 := hok
    obtain ⟨hX0, hX1, ha0, ha1, hp0, hp1, hl0, hl1⟩ := hok2
    have hY0 := hX0
    obtain ⟨hw0, hg0, hi0, hs0, hj0, hn0, hk0, hT0⟩ := hX0
    have hlen0 := hT0.lens
    have hU0 := hT0
    obtain ⟨hwm0, hgm0, hb10, hb20, hb30, hb40, hb50, hb60⟩ := hU0
    have hY1 := hX1
    obtain ⟨hw1, hg1, hi1, hs1, hj1, hn1, hk1, hT1⟩ := hX1
    have hlen1 := hT1.lens
    have hU1 := hT1
    obtain ⟨hwm1, hgm1, hb11, hb21, hb31, hb41, hb51, hb61⟩ := hU1
    refine s_seq ?_
    refine s_region ?_
    rcases and1 (acts.getD ((u.i : Nat) : Int).toNat 0) with hwho | hwho
    · have hwh := hwho
      refine o_val rfl rfl rfl (y_lss rfl rfl) ?_
      refine o_nil ?_
      refine s_seq ?_
      refine s_if rfl (fun h6 => ?_) (fun h7 => ?_)
      · refine s_skip ?_
        refine s_seq ?_
        refine s_block ?_
        refine s_seq ?_
        refine s_region ?_
        refine o_val rfl rfl rfl (y_move (v := (.int _ _)) rfl) ?_
        refine o_val rfl rfl rfl (y_index1 Try.runUnderlying30 Try.sizeOf3 (some_int (i := 0) h (by omega)) rfl rfl (by omega)) ?_
        refine o_val rfl rfl rfl (y_load Try.isAgg3 rfl (cel_int h.here (by omega))) ?_
        refine o_val rfl rfl rfl (y_assign (v := (.int _ _)) rfl) ?_
        refine o_val rfl rfl rfl (y_assign (v := (.int _ _)) rfl) ?_
        refine o_nil ?_
        refine s_seq ?_
        refine s_region ?_
        refine o_val rfl rfl rfl (y_move (v := (.int _ _)) rfl) ?_
        refine o_val rfl rfl rfl ((y_and rfl rfl).int (hwho)) ?_
        refine o_val rfl rfl rfl (y_assign (v := (.int _ _)) rfl) ?_
        refine o_nil ?_
        refine s_join (γ := LW) (fun v => [(1, .slice R m d), (5, .slice (some ⟨b1, 0, none⟩) 2 2), (6, .slice (some ⟨b4, 0, none⟩) 2 2), (7, .pointer (some ⟨b5, 0, none⟩)), (8, .int .i64 u.i), (10, .int .i64 0), (30, .slice A (min (n : Int) 60).toNat c), (31, .int .i64 (((min (n : Int) 60).toNat : Nat) : Int)), (32, .int .i64 u.i)]) (fun v => [endg e0 v.X0.acked v.X0.wA v.X0.ws.length v.X0.wc v.X0.next v.X0.gA v.X0.gs.length v.X0.gc, v.X0.wE, v.X0.gE, v.X0.P1, halfg b2 v.X0.sA v.X0.ss.length v.X0.sc v.X0.acked v.X0.next v.X0.nA v.X0.ns.length v.X0.nc, v.X0.sE, v.X0.P2, v.X0.nE, v.X0.P3, endg e1 v.X1.acked v.X1.wA v.X1.ws.length v.X1.wc v.X1.next v.X1.gA v.X1.gs.length v.X1.gc, v.X1.wE, v.X1.gE, v.X1.P1, halfg b3 v.X1.sA v.X1.ss.length v.X1.sc v.X1.acked v.X1.next v.X1.nA v.X1.ns.length v.X1.nc, v.X1.sE, v.X1.P2, v.X1.nE, v.X1.P3, [(b1, .cells [.pointer (some ⟨e0, 0, none⟩), .pointer (some ⟨e1, 0, none⟩)].toArray 56 (0, 0))], [(b4, .cells [.pointer (some ⟨b2, 0, none⟩), .pointer (some ⟨b3, 0, none⟩)].toArray 59 (0, 0))], [(b5, .cells [.slice v.aA0 v.a0.length v.ac0, .slice v.aA1 v.a1.length v.ac1].toArray 64 (0, 0))], v.aE0, v.aE1, v.AP]) (fun v => v.ok (u.i + 1)) ?_ ?_
        · refine s_seq ?_
          refine s_region ?_
          refine o_val rfl rfl rfl (y_move (v := (.int _ _)) rfl) ?_
          refine o_val rfl rfl rfl (y_shr rfl rfl (by omega)) ?_
          refine o_val rfl rfl rfl (y_and rfl rfl) ?_
          have hk7 := and7 ((acts.getD ((u.i : Nat) : Int).toNat 0).fdiv (2 ^ min (1 : Int).toNat IntKind.i64.bits))
          refine o_nil ?_
          refine s_block ?_
          refine s_join (γ := Unit) (fun q0 => [(1, .slice R m d), (5, .slice (some ⟨b1, 0, none⟩) 2 2), (6, .slice (some ⟨b4, 0, none⟩) 2 2), (7, .pointer (some ⟨b5, 0, none⟩)), (8, .int .i64 u.i), (9, .int .i64 (acts.getD ((u.i : Nat) : Int).toNat 0)), (10, .int .i64 0), (30, .slice A (min (n : Int) 60).toNat c), (31, .int .i64 (((min (n : Int) 60).toNat : Nat) : Int)), (32, .int .i64 u.i), (41, .int .i64 (bAnd .i64 ((acts.getD ((u.i : Nat) : Int).toNat 0).fdiv (2 ^ min (1 : Int).toNat IntKind.i64.bits)) 7)), (89, .bool (decide ((bAnd .i64 ((acts.getD ((u.i : Nat) : Int).toNat 0).fdiv (2 ^ min (1 : Int).toNat IntKind.i64.bits)) 7) < 3)))]) (fun q0 => [endg e0 u.X0.acked u.X0.wA u.X0.ws.length u.X0.wc u.X0.next u.X0.gA u.X0.gs.length u.X0.gc, u.X0.wE, u.X0.gE, u.X0.P1, halfg b2 u.X0.sA u.X0.ss.length u.X0.sc u.X0.acked u.X0.next u.X0.nA u.X0.ns.length u.X0.nc, u.X0.sE, u.X0.P2, u.X0.nE, u.X0.P3, endg e1 u.X1.acked u.X1.wA u.X1.ws.length u.X1.wc u.X1.next u.X1.gA u.X1.gs.length u.X1.gc, u.X1.wE, u.X1.gE, u.X1.P1, halfg b3 u.X1.sA u.X1.ss.length u.X1.sc u.X1.acked u.X1.next u.X1.nA u.X1.ns.length u.X1.nc, u.X1.sE, u.X1.P2, u.X1.nE, u.X1.P3, [(b1, .cells [.pointer (some ⟨e0, 0, none⟩), .pointer (some ⟨e1, 0, none⟩)].toArray 56 (0, 0))], [(b4, .cells [.pointer (some ⟨b2, 0, none⟩), .pointer (some ⟨b3, 0, none⟩)].toArray 59 (0, 0))], [(b5, .cells [.slice u.aA0 u.a0.length u.ac0, .slice u.aA1 u.a1.length u.ac1].toArray 64 (0, 0))], u.aE0, u.aE1, u.AP]) (fun q0 => True) ?_ ?_
          · refine s_seq ?_
            refine s_region ?_
            refine o_val rfl rfl rfl (y_eql rfl rfl) ?_
            refine o_val rfl rfl rfl (y_assign (v := (.bool _)) rfl) ?_
            refine o_nil ?_
            refine s_if rfl (fun h8 => ?_) (fun h9 => ?_)
            · refine s_skip ?_
              exact ⟨(), trivial, ⟨rfl, rfl, rfl, rfl, rfl, rfl, rfl, rfl, rfl, rfl, rfl, (congrArg Value.bool (by rw [decide_eq_decide]; omega)), trivial⟩, (sub_picks [0, 0, 0, 0, 0, 0, 0, 0, 0, 0, 0, 0, 0, 0, 0, 0, 0, 0, 0, 0, 0, 0, 0, 0] (by kernel_rfl))⟩
            · refine s_seq ?_
              refine s_region ?_
              refine o_val rfl rfl rfl (y_eql rfl rfl) ?_
              refine o_val rfl rfl rfl (y_assign (v := (.bool _)) rfl) ?_
              refine o_nil ?_
              refine s_if rfl (fun h10 => ?_) (fun h11 => ?_)
              · refine s_skip ?_
                exact ⟨(), trivial, ⟨rfl, rfl, rfl, rfl, rfl, rfl, rfl, rfl, rfl, rfl, rfl, (congrArg Value.bool (by rw [decide_eq_decide]; omega)), trivial⟩, (sub_picks [0, 0, 0, 0, 0, 0, 0, 0, 0, 0, 0, 0, 0, 0, 0, 0, 0, 0, 0, 0, 0, 0, 0, 0] (by kernel_rfl))⟩
              · refine s_region ?_
                refine o_val rfl rfl rfl (y_eql rfl rfl) ?_
                refine o_val rfl rfl rfl (y_assign (v := (.bool _)) rfl) ?_
                refine o_nil ?_
                exact ⟨(), trivial, ⟨rfl, rfl, rfl, rfl, rfl, rfl, rfl, rfl, rfl, rfl, rfl, (congrArg Value.bool (by rw [decide_eq_decide]; omega)), trivial⟩, (sub_picks [0, 0, 0, 0, 0, 0, 0, 0, 0, 0, 0, 0, 0, 0, 0, 0, 0, 0, 0, 0, 0, 0, 0, 0] (by kernel_rfl))⟩
          · intro q0 _f hq0
            refine s_if rfl (fun h12 => ?_) (fun h13 => ?_)
            · refine s_seq ?_
              refine s_region ?_
              refine o_val rfl rfl rfl (y_move (v := (.int _ _)) rfl) ?_
              refine o_val rfl rfl rfl (y_shr rfl rfl (by omega)) ?_
              refine o_val rfl rfl rfl (y_and rfl rfl) ?_
              have hv := and1023 ((acts.getD ((u.i : Nat) : Int).toNat 0).fdiv (2 ^ min (4 : Int).toNat IntKind.i64.bits))
              have hv0 : 0 ≤ (min (bAnd .i64 ((acts.getD ((u.i : Nat) : Int).toNat 0).fdiv (2 ^ min (4 : Int).toNat IntKind.i64.bits)) 1023) 1001) := by omega
              refine o_val rfl rfl rfl (y_min rfl rfl) ?_
              refine o_make (sz := 1) (bytes := 1) (n := (min (bAnd .i64 ((acts.getD ((u.i : Nat) : Int).toNat 0).fdiv (2 ^ min (4 : Int).toNat IntKind.i64.bits)) 1023) 1001).toNat) rfl Try.underlying29 Try.type5 rfl rfl rfl (congrArg (Value.int .i64) (Int.toNat_of_nonneg hv0).symm) (congrArg (Value.int .i64) (Int.toNat_of_nonneg hv0).symm) (by omega) (fun dA dE ho14 hs15 => ?_)
              have hdt : OS dA (min (bAnd .i64 ((acts.getD ((u.i : Nat) : Int).toNat 0).fdiv (2 ^ min (4 : Int).toNat IntKind.i64.bits)) 1023) 1001).toNat (min (bAnd .i64 ((acts.getD ((u.i : Nat) : Int).toNat 0).fdiv (2 ^ min (4 : Int).toNat IntKind.i64.bits)) 1023) 1001).toNat 5 1 ((List.replicate (min (bAnd .i64 ((acts.getD ((u.i : Nat) : Int).toNat 0).fdiv (2 ^ min (4 : Int).toNat IntKind.i64.bits)) 1023) 1001).toNat (0 : Int)).map (.int .u8)) dE := os_made_int ho14
              clear ho14
              refine o_val rfl rfl rfl (y_assign (v := (.slice _ _ _)) rfl) ?_
              refine o_nil ?_
              refine s_seq ?_
              refine s_seq ?_
              refine s_region ?_
              refine o_val rfl rfl rfl (y_move (v := (.slice _ _ _)) rfl) ?_
              refine o_val rfl rfl rfl (y_len Try.runUnderlying29 rfl) ?_
              refine o_val rfl rfl rfl (y_move (v := (.int _ _)) rfl) ?_
              refine o_nil ?_
              refine s_block ?_
              refine s_loop (γ := LF) (fun x => [(1, .slice R m d), (5, .slice (some ⟨b1, 0, none⟩) 2 2), (6, .slice (some ⟨b4, 0, none⟩) 2 2), (7, .pointer (some ⟨b5, 0, none⟩)), (8, .int .i64 u.i), (9, .int .i64 (acts.getD ((u.i : Nat) : Int).toNat 0)), (10, .int .i64 0), (11, .slice dA (min (bAnd .i64 ((acts.getD ((u.i : Nat) : Int).toNat 0).fdiv (2 ^ min (4 : Int).toNat IntKind.i64.bits)) 1023) 1001).toNat (min (bAnd .i64 ((acts.getD ((u.i : Nat) : Int).toNat 0).fdiv (2 ^ min (4 : Int).toNat IntKind.i64.bits)) 1023) 1001).toNat), (30, .slice A (min (n : Int) 60).toNat c), (31, .int .i64 (((min (n : Int) 60).toNat : Nat) : Int)), (32, .int .i64 u.i), (99, .int .i64 (((min (bAnd .i64 ((acts.getD ((u.i : Nat) : Int).toNat 0).fdiv (2 ^ min (4 : Int).toNat IntKind.i64.bits)) 1023) 1001).toNat : Nat) : Int)), (100, .int .i64 x.k)]) (fun x => [endg e0 u.X0.acked u.X0.wA u.X0.ws.length u.X0.wc u.X0.next u.X0.gA u.X0.gs.length u.X0.gc, u.X0.wE, u.X0.gE, u.X0.P1, halfg b2 u.X0.sA u.X0.ss.length u.X0.sc u.X0.acked u.X0.next u.X0.nA u.X0.ns.length u.X0.nc, u.X0.sE, u.X0.P2, u.X0.nE, u.X0.P3, endg e1 u.X1.acked u.X1.wA u.X1.ws.length u.X1.wc u.X1.next u.X1.gA u.X1.gs.length u.X1.gc, u.X1.wE, u.X1.gE, u.X1.P1, halfg b3 u.X1.sA u.X1.ss.length u.X1.sc u.X1.acked u.X1.next u.X1.nA u.X1.ns.length u.X1.nc, u.X1.sE, u.X1.P2, u.X1.nE, u.X1.P3, [(b1, .cells [.pointer (some ⟨e0, 0, none⟩), .pointer (some ⟨e1, 0, none⟩)].toArray 56 (0, 0))], [(b4, .cells [.pointer (some ⟨b2, 0, none⟩), .pointer (some ⟨b3, 0, none⟩)].toArray 59 (0, 0))], [(b5, .cells [.slice u.aA0 u.a0.length u.ac0, .slice u.aA1 u.a1.length u.ac1].toArray 64 (0, 0))], u.aE0, u.aE1, u.AP, x.E]) (fun x => x.k ≤ (min (bAnd .i64 ((acts.getD ((u.i : Nat) : Int).toNat 0).fdiv (2 ^ min (4 : Int).toNat IntKind.i64.bits)) 1023) 1001).toNat ∧ OS dA (min (bAnd .i64 ((acts.getD ((u.i : Nat) : Int).toNat 0).fdiv (2 ^ min (4 : Int).toNat IntKind.i64.bits)) 1023) 1001).toNat (min (bAnd .i64 ((acts.getD ((u.i : Nat) : Int).toNat 0).fdiv (2 ^ min (4 : Int).toNat IntKind.i64.bits)) 1023) 1001).toNat 5 1 ((x.bs).map (.int .u8)) x.E ∧ ∀ b ∈ x.bs, 0 ≤ b ∧ b ≤ 255) (fun x => (min (bAnd .i64 ((acts.getD ((u.i : Nat) : Int).toNat 0).fdiv (2 ^ min (4 : Int).toNat IntKind.i64.bits)) 1023) 1001).toNat - x.k) (LF.mk 0 dE (List.replicate (min (bAnd .i64 ((acts.getD ((u.i : Nat) : Int).toNat 0).fdiv (2 ^ min (4 : Int).toNat IntKind.i64.bits)) 1023) 1001).toNat 0)) ?_ ⟨rfl, rfl, rfl, rfl, rfl, rfl, rfl, rfl, rfl, rfl, rfl, rfl, rfl, trivial⟩ (sub_front ⟨_, rfl⟩) ?_
              · exact ⟨Nat.zero_le _, hdt, fun b hb => by rw [List.eq_of_mem_replicate hb]; decide⟩
              · intro x _f hF
                obtain ⟨hxk, hxo, hxb⟩ := hF
                have hxl : x.bs.length = (min (bAnd .i64 ((acts.getD ((u.i : Nat) : Int).toNat 0).fdiv (2 ^ min (4 : Int).toNat IntKind.i64.bits)) 1023) 1001).toNat := by simpa using hxo.len
                refine s_seq ?_
                refine s_region ?_
                refine o_val rfl rfl rfl (y_lss rfl rfl) ?_
                refine o_nil ?_
                refine s_seq ?_
                refine s_if rfl (fun h16 => ?_) (fun h17 => ?_)
                · refine s_skip ?_
                  refine s_seq ?_
                  refine s_block ?_
                  refine s_seq ?_
                  refine s_region ?_
                  refine o_val rfl rfl rfl (y_move (v := (.int _ _)) rfl) ?_
                  refine o_val rfl rfl rfl (y_assign (v := (.int _ _)) rfl) ?_
                  refine o_nil ?_
                  refine s_region ?_
                  refine o_val rfl rfl rfl (y_move (v := (.slice _ _ _)) rfl) ?_
                  refine o_val rfl rfl rfl (y_move (v := (.int _ _)) rfl) ?_
                  refine o_val rfl rfl rfl (y_move (v := (.int _ _)) rfl) ?_
                  refine o_val rfl rfl rfl (y_move (v := (.int _ _)) rfl) ?_
                  refine o_val rfl rfl rfl (y_add rfl rfl (by simp only [inK]; omega)) ?_
                  refine o_val rfl rfl rfl (y_conv' Try.runUnderlying3 Try.runUnderlying5 rfl) ?_
                  refine o_val rfl rfl rfl (y_index1 Try.runUnderlying29 Try.sizeOf5 (hxo.some_of (by omega)) rfl rfl (by omega)) ?_
                  refine o_store_os (vs := [(.int _ _)]) 24 rfl hxo Try.sizeOf5 rfl rfl rfl (by simp [Value.oneCell']) (by simp) (by simp; omega) (fun E18 ho19 => ?_)
                  have ho20 := os_lay_int ho19 (by simp; omega)
                  clear ho19
                  refine o_nil ?_
                  refine s_region ?_
                  refine o_val rfl rfl rfl (y_add rfl rfl (by simp only [inK]; omega)) ?_
                  refine o_val rfl rfl rfl (y_move (v := (.int _ _)) rfl) ?_
                  refine o_nil ?_
                  exact ⟨LF.mk (x.k + 1) E18 (x.bs.set ((x.k : Nat) : Int).toNat (IntKind.u8.wrap ((u.i : Int) + (x.k : Int)))), (by first | omega | (dsimp only; omega)), ⟨by dsimp only; omega, ho20, set_byte hxb⟩, ⟨rfl, rfl, rfl, rfl, rfl, rfl, rfl, rfl, rfl, rfl, rfl, rfl, (congrArg (Value.int .i64) (by dsimp only; omega)), trivial⟩, sub_front ⟨_, rfl⟩⟩
                · refine s_exit ?_
                  refine s_seq ?_
                  refine s_region ?_
                  refine o_val rfl rfl rfl (y_move (v := (.slice _ _ _)) rfl) ?_
                  refine o_val rfl rfl rfl (y_move (v := (.int _ _)) rfl) ?_
                  refine o_val rfl rfl rfl (y_slice_lit (q := 0) Try.runUnderlying58 Try.sizeOf56 rfl rfl rfl rfl) ?_
                  refine o_val rfl rfl rfl (y_load Try.isAgg56 rfl (cel_own 18 rfl rfl)) ?_
                  refine o_val rfl rfl rfl (y_move (v := (.slice _ _ _)) rfl) ?_
                  refine o_pull 3 ?_
                  refine o_norm _ (by simp only [pull, picks, setG, List.cons_append, List.nil_append, List.append_nil, List.drop_succ_cons, List.drop_zero]; rfl) ?_
                  refine o_pull 2 ?_
                  refine o_norm _ (by simp only [pull, picks, setG, List.cons_append, List.nil_append, List.append_nil, List.drop_succ_cons, List.drop_zero]; rfl) ?_
                  refine o_pull 2 ?_
                  refine o_norm _ (by simp only [pull, picks, setG, List.cons_append, List.nil_append, List.append_nil, List.drop_succ_cons, List.drop_zero]; rfl) ?_
                  refine o_fn 3 (d := 116) rfl Try.call30 (SendL_c e0 u.X0.acked u.X0.wA u.X0.ws.length u.X0.wc u.X0.next u.X0.gA u.X0.gs.length u.X0.gc u.X0.ws u.X0.wE u.X0.P1 hw0 (u.X0.ws ++ u.X0.gs) hi0 (by omega) dA (min (bAnd .i64 ((acts.getD ((u.i : Nat) : Int).toNat 0).fdiv (2 ^ min (4 : Int).toNat IntKind.i64.bits)) 1023) 1001).toNat (min (bAnd .i64 ((acts.getD ((u.i : Nat) : Int).toNat 0).fdiv (2 ^ min (4 : Int).toNat IntKind.i64.bits)) 1023) 1001).toNat x.bs ⟨hxl, Nat.le_refl _, (hxo.cels (j := 21) rfl).down, hxb⟩) rfl ?_
                  rintro _ _ (⟨hbig, rfl, rfl⟩ | ⟨hsm, rfl, kA, kc, y, kE, kP, hyb, hyo, hyi, rfl⟩)
                  · refine o_norm _ (by simp only [pull, picks, setG, List.cons_append, List.nil_append, List.append_nil, List.drop_succ_cons, List.drop_zero]; rfl) ?_
                    refine o_val rfl rfl rfl (y_assign (v := (.int _ _)) rfl) ?_
                    refine o_nil ?_
                    refine s_seq ?_
                    refine s_seq ?_
                    refine s_region ?_
                    refine o_val rfl rfl rfl (y_move (v := (.slice _ _ _)) rfl) ?_
                    refine o_val rfl rfl rfl (y_len Try.runUnderlying29 rfl) ?_
                    refine o_val rfl rfl rfl (y_gtr rfl rfl) ?_
                    refine o_nil ?_
                    refine s_if rfl (fun h21 => ?_) (fun h22 => ?_)
                    · refine s_seq ?_
                      refine s_seq ?_
                      refine s_region ?_
                      refine o_val rfl rfl rfl (y_move (v := (.int _ _)) rfl) ?_
                      refine o_val rfl rfl rfl (y_neq rfl rfl) ?_
                      refine o_nil ?_
                      refine s_if rfl (fun h23 => ?_) (fun h24 => ?_)
                      · exact absurd rfl h23
                      · refine s_skip ?_
                        refine s_exit ?_
                        refine s_region ?_
                        refine o_val rfl rfl rfl (y_add rfl rfl (by simp only [inK]; omega)) ?_
                        refine o_val rfl rfl rfl (y_move (v := (.int _ _)) rfl) ?_
                        refine o_nil ?_
                        exact ⟨{ u with i := u.i + 1 }, (by first | omega | (dsimp only; omega)), ⟨by dsimp only; omega, hok.more rfl rfl rfl rfl rfl rfl rfl rfl rfl rfl rfl⟩, ⟨rfl, rfl, rfl, rfl, rfl, rfl, (congrArg (Value.int .i64) (by dsimp only; omega)), trivial⟩, (sub_picks [0, 0, 1, 0, 0, 0, 0, 0, 0, 0, 0, 0, 0, 0, 0, 0, 0, 0, 0, 0, 0, 0, 0, 0] (by kernel_rfl))⟩
                    · exfalso; omega
                  · refine o_norm _ (by simp only [pull, picks, setG, List.cons_append, List.nil_append, List.append_nil, List.drop_succ_cons, List.drop_zero]; rfl) ?_
                    refine o_val rfl rfl rfl (y_assign (v := (.int _ _)) rfl) ?_
                    refine o_nil ?_
                    refine s_seq ?_
                    refine s_seq ?_
                    refine s_region ?_
                    refine o_val rfl rfl rfl (y_move (v := (.slice _ _ _)) rfl) ?_
                    refine o_val rfl rfl rfl (y_len Try.runUnderlying29 rfl) ?_
                    refine o_val rfl rfl rfl (y_gtr rfl rfl) ?_
                    refine o_nil ?_
                    refine s_if rfl (fun h25 => ?_) (fun h26 => ?_)
                    · exfalso; omega
                    · refine s_skip ?_
                      refine s_seq ?_
                      refine s_pull 5 ?_
                      refine s_norm _ (by simp only [pull, picks, setG, List.cons_append, List.nil_append, List.append_nil, List.drop_succ_cons, List.drop_zero]; rfl) ?_
                      refine s_pull 5 ?_
                      refine s_norm _ (by simp only [pull, picks, setG, List.cons_append, List.nil_append, List.append_nil, List.drop_succ_cons, List.drop_zero]; rfl) ?_
                      refine s_drawn 2 (by kernel_rfl) ?_
                      refine d_val (i := 0) rfl (by kernel_rfl) (by kernel_rfl) (by kernel_rfl) rfl rfl rfl (y_move (v := (.slice _ _ _)) rfl) ?_
                      refine d_val (i := 1) rfl (by kernel_rfl) (by kernel_rfl) (by kernel_rfl) rfl rfl rfl (y_move (v := (.int _ _)) rfl) ?_
                      refine d_val (i := 2) rfl (by kernel_rfl) (by kernel_rfl) (by kernel_rfl) rfl rfl rfl (y_slice_lit (q := 0) Try.runUnderlying63 Try.sizeOf59 rfl rfl rfl rfl) ?_
                      refine d_val (i := 3) rfl (by kernel_rfl) (by kernel_rfl) (by kernel_rfl) rfl rfl rfl (y_load Try.isAgg59 rfl (cel_own 17 rfl rfl)) ?_
                      refine d_val (i := 4) rfl (by kernel_rfl) (by kernel_rfl) (by kernel_rfl) rfl rfl rfl (y_move (v := (.slice _ _ _)) rfl) ?_
                      refine d_val (i := 5) rfl (by kernel_rfl) (by kernel_rfl) (by kernel_rfl) rfl rfl rfl (y_move (v := (.int _ _)) rfl) ?_
                      refine d_val (i := 6) rfl (by kernel_rfl) (by kernel_rfl) (by kernel_rfl) rfl rfl rfl (y_slice_lit (q := 0) Try.runUnderlying63 Try.sizeOf59 rfl rfl rfl rfl) ?_
                      refine d_val (i := 7) rfl (by kernel_rfl) (by kernel_rfl) (by kernel_rfl) rfl rfl rfl (y_load Try.isAgg59 rfl (cel_own 17 rfl rfl)) ?_
                      refine d_val (i := 8) rfl (by kernel_rfl) (by kernel_rfl) (by kernel_rfl) rfl rfl rfl (y_nilCheck rfl) ?_
                      refine d_val (i := 9) rfl (by kernel_rfl) (by kernel_rfl) (by kernel_rfl) rfl rfl rfl (y_field0 Try.runUnderlying62 rfl Try.sizeOf60 rfl rfl) ?_
                      refine d_val (i := 11) rfl (by kernel_rfl) (by kernel_rfl) (by kernel_rfl) rfl rfl rfl (y_move (v := (.slice _ _ _)) rfl) ?_
                      refine d_eff2 (k := 10) (k' := 12) (n := 2) (m := 23) rfl rfl (by kernel_rfl) rfl ?_ ?_
                      · refine o_val rfl rfl rfl (y_load Try.isAgg60 rfl (cel_own 0 rfl rfl)) ?_
                        refine o_nil ?_
                        refine d_eff (k := 12) (n := 2) (m := 23) rfl (by kernel_rfl) rfl ?_
                        refine o_lit (vs := [(0, .slice _ _ _)]) rfl rfl (LinkSays_k3 _ _ _) (fun b27 => ?_)
                        refine o_nil ?_
                        refine d_eff (k := 13) (n := 2) (m := 23) rfl (by kernel_rfl) rfl ?_
                        refine o_append (sz := 1) (bytes := 24) (news := [(.slice _ _ _)]) 1 rfl Try.underlying60 Try.type29 rfl rfl rfl rfl rfl hs0 rfl rfl (Src.slice Try.underlying60 (cels_own 25 rfl rfl) rfl (by simp [Value.oneCell']) (by simp)) (by omega) (fun A28 c29 E30 ho31 hn32 => ?_)
                        have ho33 : OS A28 (u.X0.ss.length + 1) c29 29 1 ((u.X0.ss ++ [(fl dA (min (bAnd .i64 ((acts.getD ((u.i : Nat) : Int).toNat 0).fdiv (2 ^ min (4 : Int).toNat IntKind.i64.bits)) 1023) 1001).toNat (min (bAnd .i64 ((acts.getD ((u.i : Nat) : Int).toNat 0).fdiv (2 ^ min (4 : Int).toNat IntKind.i64.bits)) 1023) 1001).toNat x.bs)]).flatMap encB) E30 := (os_eq ho31 (by rw [List.flatMap_append]; rfl))
                        clear ho31
                        refine o_nil ?_
                        refine d_val (i := 14) rfl (by kernel_rfl) (by kernel_rfl) (by kernel_rfl) rfl rfl rfl (y_nilCheck rfl) ?_
                        refine d_val (i := 15) rfl (by kernel_rfl) (by kernel_rfl) (by kernel_rfl) rfl rfl rfl (y_field0 Try.runUnderlying62 rfl Try.sizeOf60 rfl rfl) ?_
                        refine d_eff (k := 16) (n := 2) (m := 23) rfl (by kernel_rfl) rfl ?_
                        refine o_store (v := (.slice _ _ _)) 0 rfl Try.sizeOf60 rfl rfl rfl rfl ?_
                        refine o_nil ?_
                        refine d_nil (n := 2) (m := 23) (by kernel_rfl) rfl ?_
                        refine s_norm [[(_, .cells [(.slice _ _ _), (.int _ _), (.int _ _), (.slice _ _ _)].toArray 62 (0, 0))], _, [(_, .cells [(.int _ _), (.slice _ _ _), (.int _ _), (.slice _ _ _)].toArray 143 (0, 0))], _, _, _, _, _, _, [(_, .cells [(.int _ _), (.slice _ _ _), (.int _ _), (.slice _ _ _)].toArray 143 (0, 0))], _, _, _, [(_, .cells [(.slice _ _ _), (.int _ _), (.int _ _), (.slice _ _ _)].toArray 62 (0, 0))], _, _, _, _, [(_, .cells [(.pointer _), (.pointer _)].toArray 56 (0, 0))], [(_, .cells [(.pointer _), (.pointer _)].toArray 59 (0, 0))], [(_, .cells [(.slice _ _ _), (.slice _ _ _)].toArray 64 (0, 0))], _, _, _, _, [(_, .cells [(.slice _ _ _)].toArray 29 (0, 0))]] rfl ?_
                        refine s_seq ?_
                        refine s_region ?_
                        have hjn := blin_snoc hj0 (BlIn.new (PG := u.X0.P2) hxo (by omega) hxb)
                        refine o_pull 6 ?_
                        refine o_norm _ (by simp only [pull, picks, setG, List.cons_append, List.nil_append, List.append_nil, List.drop_succ_cons, List.drop_zero]; rfl) ?_
                        refine o_pull 24 ?_
                        refine o_norm _ (by simp only [pull, picks, setG, List.cons_append, List.nil_append, List.append_nil, List.drop_succ_cons, List.drop_zero]; rfl) ?_
                        refine o_fuse ?_
                        refine o_val rfl rfl rfl (y_move (v := (.int _ _)) rfl) ?_
                        refine o_val rfl rfl rfl (y_neq rfl rfl) ?_
                        refine o_nil ?_
                        refine s_if rfl (fun h34 => ?_) (fun h35 => ?_)
                        · exact absurd rfl h34
                        · refine s_skip ?_
                          exact ⟨{ u with X0 := { u.X0 with ws := u.X0.ws ++ [y], wA := kA, wc := kc, wE := kE, P1 := kP, ss := u.X0.ss ++ [fl dA (min (bAnd .i64 ((acts.getD ((u.i : Nat) : Int).toNat 0).fdiv (2 ^ min (4 : Int).toNat IntKind.i64.bits)) 1023) 1001).toNat (min (bAnd .i64 ((acts.getD ((u.i : Nat) : Int).toNat 0).fdiv (2 ^ min (4 : Int).toNat IntKind.i64.bits)) 1023) 1001).toNat x.bs], sA := A28, sc := c29, sE := E30, P2 := x.E ++ u.X0.P2 } }, ⟨⟨(by dsimp only; rw [List.length_append]; exact hyo), hg0, mem_swap hyi, (by dsimp only; rw [List.length_append]; exact ho33), hjn, hn0, hk0, told_send (x := y) (y := fl dA (min (bAnd .i64 ((acts.getD ((u.i : Nat) : Int).toNat 0).fdiv (2 ^ min (4 : Int).toNat IntKind.i64.bits)) 1023) 1001).toNat (min (bAnd .i64 ((acts.getD ((u.i : Nat) : Int).toNat 0).fdiv (2 ^ min (4 : Int).toNat IntKind.i64.bits)) 1023) 1001).toNat x.bs) hT0 hyb rfl rfl rfl rfl rfl rfl⟩, hY1.more, ha0, ha1, hp0, hp1, by dsimp only; omega, by dsimp only; omega⟩, ⟨rfl, rfl, rfl, rfl, rfl, rfl, rfl, rfl, rfl, trivial⟩, (by dsimp only; simp only [List.length_append, List.length_singleton]; exact sub_picks [3, 3, 4, 3, 1, 1, 0, 0, 0, 0, 0, 0, 0, 0, 0, 0, 0, 0, 0, 0, 0, 0, 0, 0] (by kernel_rfl))⟩
                      · refine o_lit (vs := [(0, .slice _ _ _)]) rfl rfl (LinkSays_k3 _ _ _) (fun b36 => ?_)
                        refine o_nil ?_
                        refine d_now (i := 10) [] rfl (by kernel_rfl) (by kernel_rfl) (by kernel_rfl) rfl rfl rfl (y_load Try.isAgg60 rfl (cel_own 0 rfl rfl)) trivial ?_
                        refine d_eff (k := 13) (n := 2) (m := 23) rfl (by kernel_rfl) rfl ?_
                        refine o_append (sz := 1) (bytes := 24) (news := [(.slice _ _ _)]) 1 rfl Try.underlying60 Try.type29 rfl rfl rfl rfl rfl hs0 rfl rfl (Src.slice Try.underlying60 (cels_own 25 rfl rfl) rfl (by simp [Value.oneCell']) (by simp)) (by omega) (fun A37 c38 E39 ho40 hn41 => ?_)
                        have ho42 : OS A37 (u.X0.ss.length + 1) c38 29 1 ((u.X0.ss ++ [(fl dA (min (bAnd .i64 ((acts.getD ((u.i : Nat) : Int).toNat 0).fdiv (2 ^ min (4 : Int).toNat IntKind.i64.bits)) 1023) 1001).toNat (min (bAnd .i64 ((acts.getD ((u.i : Nat) : Int).toNat 0).fdiv (2 ^ min (4 : Int).toNat IntKind.i64.bits)) 1023) 1001).toNat x.bs)]).flatMap encB) E39 := (os_eq ho40 (by rw [List.flatMap_append]; rfl))
                        clear ho40
                        refine o_nil ?_
                        refine d_val (i := 14) rfl (by kernel_rfl) (by kernel_rfl) (by kernel_rfl) rfl rfl rfl (y_nilCheck rfl) ?_
                        refine d_val (i := 15) rfl (by kernel_rfl) (by kernel_rfl) (by kernel_rfl) rfl rfl rfl (y_field0 Try.runUnderlying62 rfl Try.sizeOf60 rfl rfl) ?_
                        refine d_eff (k := 16) (n := 2) (m := 23) rfl (by kernel_rfl) rfl ?_
                        refine o_store (v := (.slice _ _ _)) 0 rfl Try.sizeOf60 rfl rfl rfl rfl ?_
                        refine o_nil ?_
                        refine d_nil (n := 2) (m := 23) (by kernel_rfl) rfl ?_
                        refine s_norm [[(_, .cells [(.slice _ _ _), (.int _ _), (.int _ _), (.slice _ _ _)].toArray 62 (0, 0))], _, [(_, .cells [(.int _ _), (.slice _ _ _), (.int _ _), (.slice _ _ _)].toArray 143 (0, 0))], _, _, _, _, _, _, [(_, .cells [(.int _ _), (.slice _ _ _), (.int _ _), (.slice _ _ _)].toArray 143 (0, 0))], _, _, _, [(_, .cells [(.slice _ _ _), (.int _ _), (.int _ _), (.slice _ _ _)].toArray 62 (0, 0))], _, _, _, _, [(_, .cells [(.pointer _), (.pointer _)].toArray 56 (0, 0))], [(_, .cells [(.pointer _), (.pointer _)].toArray 59 (0, 0))], [(_, .cells [(.slice _ _ _), (.slice _ _ _)].toArray 64 (0, 0))], _, _, _, _, [(_, .cells [(.slice _ _ _)].toArray 29 (0, 0))]] rfl ?_
                        refine s_seq ?_
                        refine s_region ?_
                        have hjn := blin_snoc hj0 (BlIn.new (PG := u.X0.P2) hxo (by omega) hxb)
                        refine o_pull 6 ?_
                        refine o_norm _ (by simp only [pull, picks, setG, List.cons_append, List.nil_append, List.append_nil, List.drop_succ_cons, List.drop_zero]; rfl) ?_
                        refine o_pull 24 ?_
                        refine o_norm _ (by simp only [pull, picks, setG, List.cons_append, List.nil_append, List.append_nil, List.drop_succ_cons, List.drop_zero]; rfl) ?_
                        refine o_fuse ?_
                        refine o_val rfl rfl rfl (y_move (v := (.int _ _)) rfl) ?_
                        refine o_val rfl rfl rfl (y_neq rfl rfl) ?_
                        refine o_nil ?_
                        refine s_if rfl (fun h43 => ?_) (fun h44 => ?_)
                        · exact absurd rfl h43
                        · refine s_skip ?_
                          exact ⟨{ u with X0 := { u.X0 with ws := u.X0.ws ++ [y], wA := kA, wc := kc, wE := kE, P1 := kP, ss := u.X0.ss ++ [fl dA (min (bAnd .i64 ((acts.getD ((u.i : Nat) : Int).toNat 0).fdiv (2 ^ min (4 : Int).toNat IntKind.i64.bits)) 1023) 1001).toNat (min (bAnd .i64 ((acts.getD ((u.i : Nat) : Int).toNat 0).fdiv (2 ^ min (4 : Int).toNat IntKind.i64.bits)) 1023) 1001).toNat x.bs], sA := A37, sc := c38, sE := E39, P2 := x.E ++ u.X0.P2 } }, ⟨⟨(by dsimp only; rw [List.length_append]; exact hyo), hg0, mem_swap hyi, (by dsimp only; rw [List.length_append]; exact ho42), hjn, hn0, hk0, told_send (x := y) (y := fl dA (min (bAnd .i64 ((acts.getD ((u.i : Nat) : Int).toNat 0).fdiv (2 ^ min (4 : Int).toNat IntKind.i64.bits)) 1023) 1001).toNat (min (bAnd .i64 ((acts.getD ((u.i : Nat) : Int).toNat 0).fdiv (2 ^ min (4 : Int).toNat IntKind.i64.bits)) 1023) 1001).toNat x.bs) hT0 hyb rfl rfl rfl rfl rfl rfl⟩, hY1.more, ha0, ha1, hp0, hp1, by dsimp only; omega, by dsimp only; omega⟩, ⟨rfl, rfl, rfl, rfl, rfl, rfl, rfl, rfl, rfl, trivial⟩, (by dsimp only; simp only [List.length_append, List.length_singleton]; exact sub_picks [3, 3, 4, 3, 1, 1, 0, 0, 0, 0, 0, 0, 0, 0, 0, 0, 0, 0, 0, 0, 0, 0, 0, 0] (by kernel_rfl))⟩
            · refine s_join (γ := Unit) (fun q0 => [(1, .slice R m d), (5, .slice (some ⟨b1, 0, none⟩) 2 2), (6, .slice (some ⟨b4, 0, none⟩) 2 2), (7, .pointer (some ⟨b5, 0, none⟩)), (8, .int .i64 u.i), (9, .int .i64 (acts.getD ((u.i : Nat) : Int).toNat 0)), (10, .int .i64 0), (30, .slice A (min (n : Int) 60).toNat c), (31, .int .i64 (((min (n : Int) 60).toNat : Nat) : Int)), (32, .int .i64 u.i), (41, .int .i64 (bAnd .i64 ((acts.getD ((u.i : Nat) : Int).toNat 0).fdiv (2 ^ min (1 : Int).toNat IntKind.i64.bits)) 7)), (140, .bool (decide (3 ≤ (bAnd .i64 ((acts.getD ((u.i : Nat) : Int).toNat 0).fdiv (2 ^ min (1 : Int).toNat IntKind.i64.bits)) 7) ∧ (bAnd .i64 ((acts.getD ((u.i : Nat) : Int).toNat 0).fdiv (2 ^ min (1 : Int).toNat IntKind.i64.bits)) 7) ≤ 4)))]) (fun q0 => [endg e0 u.X0.acked u.X0.wA u.X0.ws.length u.X0.wc u.X0.next u.X0.gA u.X0.gs.length u.X0.gc, u.X0.wE, u.X0.gE, u.X0.P1, halfg b2 u.X0.sA u.X0.ss.length u.X0.sc u.X0.acked u.X0.next u.X0.nA u.X0.ns.length u.X0.nc, u.X0.sE, u.X0.P2, u.X0.nE, u.X0.P3, endg e1 u.X1.acked u.X1.wA u.X1.ws.length u.X1.wc u.X1.next u.X1.gA u.X1.gs.length u.X1.gc, u.X1.wE, u.X1.gE, u.X1.P1, halfg b3 u.X1.sA u.X1.ss.length u.X1.sc u.X1.acked u.X1.next u.X1.nA u.X1.ns.length u.X1.nc, u.X1.sE, u.X1.P2, u.X1.nE, u.X1.P3, [(b1, .cells [.pointer (some ⟨e0, 0, none⟩), .pointer (some ⟨e1, 0, none⟩)].toArray 56 (0, 0))], [(b4, .cells [.pointer (some ⟨b2, 0, none⟩), .pointer (some ⟨b3, 0, none⟩)].toArray 59 (0, 0))], [(b5, .cells [.slice u.aA0 u.a0.length u.ac0, .slice u.aA1 u.a1.length u.ac1].toArray 64 (0, 0))], u.aE0, u.aE1, u.AP]) (fun q0 => True) ?_ ?_
              · refine s_seq ?_
                refine s_region ?_
                refine o_val rfl rfl rfl (y_eql rfl rfl) ?_
                refine o_val rfl rfl rfl (y_assign (v := (.bool _)) rfl) ?_
                refine o_nil ?_
                refine s_if rfl (fun h45 => ?_) (fun h46 => ?_)
                · refine s_skip ?_
                  exact ⟨(), trivial, ⟨rfl, rfl, rfl, rfl, rfl, rfl, rfl, rfl, rfl, rfl, rfl, (congrArg Value.bool (by rw [decide_eq_decide]; omega)), trivial⟩, (sub_picks [0, 0, 0, 0, 0, 0, 0, 0, 0, 0, 0, 0, 0, 0, 0, 0, 0, 0, 0, 0, 0, 0, 0, 0] (by kernel_rfl))⟩
                · refine s_region ?_
                  refine o_val rfl rfl rfl (y_eql rfl rfl) ?_
                  refine o_val rfl rfl rfl (y_assign (v := (.bool _)) rfl) ?_
                  refine o_nil ?_
                  exact ⟨(), trivial, ⟨rfl, rfl, rfl, rfl, rfl, rfl, rfl, rfl, rfl, rfl, rfl, (congrArg Value.bool (by rw [decide_eq_decide]; omega)), trivial⟩, (sub_picks [0, 0, 0, 0, 0, 0, 0, 0, 0, 0, 0, 0, 0, 0, 0, 0, 0, 0, 0, 0, 0, 0, 0, 0] (by kernel_rfl))⟩
              · intro q0 _f hq0
                refine s_if rfl (fun h47 => ?_) (fun h48 => ?_)
                · refine s_seq ?_
                  refine s_region ?_
                  refine o_val rfl rfl rfl (y_move (v := (.slice _ _ _)) rfl) ?_
                  refine o_val rfl rfl rfl (y_move (v := (.int _ _)) rfl) ?_
                  refine o_val rfl rfl rfl (y_slice_lit (q := 0) Try.runUnderlying58 Try.sizeOf56 rfl rfl rfl rfl) ?_
                  refine o_val rfl rfl rfl (y_load Try.isAgg56 rfl (cel_own 18 rfl rfl)) ?_
                  refine o_pull 3 ?_
                  refine o_norm _ (by simp only [pull, picks, setG, List.cons_append, List.nil_append, List.append_nil, List.drop_succ_cons, List.drop_zero]; rfl) ?_
                  refine o_pull 2 ?_
                  refine o_norm _ (by simp only [pull, picks, setG, List.cons_append, List.nil_append, List.append_nil, List.drop_succ_cons, List.drop_zero]; rfl) ?_
                  refine o_pull 2 ?_
                  refine o_norm _ (by simp only [pull, picks, setG, List.cons_append, List.nil_append, List.append_nil, List.drop_succ_cons, List.drop_zero]; rfl) ?_
                  refine o_fn 3 (d := 147) rfl Try.call31 (OutI_c e0 u.X0.acked u.X0.wA u.X0.ws.length u.X0.wc u.X0.next u.X0.gA u.X0.gs.length u.X0.gc u.X0.ws u.X0.wE u.X0.P1 hw0 (fun f hf => hi0 f (List.mem_append_left _ hf)) (by omega)) rfl ?_
                  rintro _ _ ⟨oB, oc, oE, rfl, hoo, rfl⟩
                  refine o_norm _ (by simp only [pull, picks, setG, List.cons_append, List.nil_append, List.append_nil, List.drop_succ_cons, List.drop_zero]; rfl) ?_
                  refine o_val rfl rfl rfl (y_assign (v := (.slice _ _ _)) rfl) ?_
                  refine o_nil ?_
                  refine s_seq ?_
                  refine s_seq ?_
                  refine s_region ?_
                  refine o_val rfl rfl rfl (y_move (v := (.slice _ _ _)) rfl) ?_
                  refine o_val rfl rfl rfl (y_move (v := (.slice _ _ _)) rfl) ?_
                  refine o_val rfl rfl rfl (y_move (v := (.int _ _)) rfl) ?_
                  refine o_val rfl rfl rfl (y_slice_lit (q := 0) Try.runUnderlying63 Try.sizeOf59 rfl rfl rfl rfl) ?_
                  refine o_val rfl rfl rfl (y_load Try.isAgg59 rfl (cel_own 20 rfl rfl)) ?_
                  refine o_pull 7 ?_
                  refine o_norm _ (by simp only [pull, picks, setG, List.cons_append, List.nil_append, List.append_nil, List.drop_succ_cons, List.drop_zero]; rfl) ?_
                  refine o_pull 7 ?_
                  refine o_norm _ (by simp only [pull, picks, setG, List.cons_append, List.nil_append, List.append_nil, List.drop_succ_cons, List.drop_zero]; rfl) ?_
                  refine o_pull 7 ?_
                  refine o_norm _ (by simp only [pull, picks, setG, List.cons_append, List.nil_append, List.append_nil, List.drop_succ_cons, List.drop_zero]; rfl) ?_
                  refine o_fn 3 (d := 153) rfl Try.call32 (PacketI_c b2 u.X0.sA u.X0.ss.length u.X0.sc u.X0.acked u.X0.next u.X0.nA u.X0.ns.length u.X0.nc u.X0.ss u.X0.sE u.X0.P2 hs0 hj0 (by omega)) rfl ?_
                  rintro _ _ ⟨qB, qc, qE, rfl, hqo, rfl⟩
                  refine o_norm _ (by simp only [pull, picks, setG, List.cons_append, List.nil_append, List.append_nil, List.drop_succ_cons, List.drop_zero]; rfl) ?_
                  have hpe : pktOf u.X0.next.toNat u.X0.acked.toNat (u.X0.ws.map (·.bs)) = pktOf u.X0.next.toNat u.X0.acked.toNat ((u.X0.ss.drop u.X0.acked.toNat).map (·.bs)) := by rw [hwm0]
                  rw [← hpe] at hqo ⊢
                  have hbl := bl_bd (fun f hf => hi0 f (List.mem_append_left _ hf) : ∀ f ∈ u.X0.ws, BlIn u.X0.P1 f)
                  have hpb := pkt_byte (next := u.X0.next.toNat) (first := u.X0.acked.toNat) hbl.2
                  have hpl := pkt_len u.X0.next.toNat u.X0.acked.toNat (u.X0.ws.map (·.bs))
                  have hpf := flat_bd hbl.1 8
                  clear hpe
                  generalize hpk : pktOf u.X0.next.toNat u.X0.acked.toNat (u.X0.ws.map (·.bs)) = pk at hoo hqo hpb hpl ⊢
                  refine o_fn 0 (d := 154) rfl Try.call23 (BEqualL_c oB pk.length oc pk (hoo.cels (j := 7) rfl).down rfl hpb qB pk.length qc pk (hqo.cels (j := 3) rfl).down rfl hpb) rfl ?_
                  rintro _ _ ⟨rfl, rfl⟩
                  refine o_val rfl rfl rfl (y_not rfl) ?_
                  refine o_nil ?_
                  refine s_if rfl (fun h49 => ?_) (fun h50 => ?_)
                  · exact absurd rfl h49
                  · refine s_skip ?_
                    refine s_region ?_
                    have hpo := pkin_snoc hp1 (PkIn.new (PG := u.AP) hoo (by omega) hpb)
                    have hpw := pkin_grow (G := oE) hp0
                    refine o_pull 25 ?_
                    refine o_norm _ (by simp only [pull, picks, setG, List.cons_append, List.nil_append, List.append_nil, List.drop_succ_cons, List.drop_zero]; rfl) ?_
                    refine o_pull 8 ?_
                    refine o_norm _ (by simp only [pull, picks, setG, List.cons_append, List.nil_append, List.append_nil, List.drop_succ_cons, List.drop_zero]; rfl) ?_
                    refine o_fuse ?_
                    refine o_val rfl rfl rfl (y_move (v := (.int _ _)) rfl) ?_
                    refine o_val rfl rfl rfl (y_sub rfl rfl (by simp only [inK]; omega)) ?_
                    refine o_val rfl rfl rfl (y_move (v := (.int _ _)) rfl) ?_
                    refine o_val rfl rfl rfl (y_sub rfl rfl (by simp only [inK]; omega)) ?_
                    refine o_val rfl rfl rfl (y_index_lit (q := 1) Try.runUnderlying64 Try.sizeOf60 rfl rfl rfl rfl) ?_
                    refine o_val rfl rfl rfl (y_load Try.isAgg60 rfl (cel_own 22 rfl rfl)) ?_
                    refine o_val rfl rfl rfl (y_move (v := (.slice _ _ _)) rfl) ?_
                    refine o_lit (vs := [(0, .slice _ _ _)]) rfl rfl (LinkSays_k3 _ _ _) (fun b51 => ?_)
                    refine o_append (sz := 1) (bytes := 24) (news := [(.slice _ _ _)]) 24 rfl Try.underlying60 Try.type29 rfl rfl rfl rfl rfl ha1 rfl rfl (Src.slice Try.underlying60 (cels_own 25 rfl rfl) rfl (by simp [Value.oneCell']) (by simp)) (by omega) (fun A52 c53 E54 ho55 hn56 => ?_)
                    have ho57 : OS A52 (u.a1.length + 1) c53 29 1 ((u.a1 ++ [fl oB pk.length oc pk]).flatMap encB) E54 := (os_eq ho55 (by rw [List.flatMap_append]; rfl))
                    clear ho55
                    refine o_val rfl rfl rfl (y_index_lit (q := 1) Try.runUnderlying64 Try.sizeOf60 rfl rfl rfl rfl) ?_
                    refine o_store (v := (.slice _ _ _)) 22 rfl Try.sizeOf60 rfl rfl rfl rfl ?_
                    refine o_nil ?_
                    exact ⟨{ u with a1 := u.a1 ++ [fl oB pk.length oc pk], aA1 := A52, ac1 := c53, aE1 := E54, AP := oE ++ u.AP }, ⟨hY0.more, hY1.more, ha0, (by dsimp only; rw [List.length_append]; exact ho57), hpw, hpo, (by dsimp only; omega), (by dsimp only; rw [List.length_append]; simp only [List.length_singleton]; omega)⟩, ⟨rfl, rfl, rfl, rfl, rfl, rfl, rfl, rfl, rfl, trivial⟩, (by dsimp only; simp only [List.length_append, List.length_singleton]; exact sub_picks [5, 5, 6, 5, 1, 1, 1, 2, 2, 2, 2, 2, 2, 2, 2, 2, 2, 2, 2, 2, 2, 2, 2, 0] (by kernel_rfl))⟩
                · refine s_seq ?_
                  refine s_region ?_
                  refine o_val rfl rfl rfl (y_eql rfl rfl) ?_
                  refine o_val rfl rfl rfl (y_assign (v := (.bool _)) rfl) ?_
                  refine o_nil ?_
                  refine s_if rfl (fun h58 => ?_) (fun h59 => ?_)
                  · refine s_seq ?_
                    refine s_pull 8 ?_
                    refine s_norm _ (by simp only [pull, picks, setG, List.cons_append, List.nil_append, List.append_nil, List.drop_succ_cons, List.drop_zero]; rfl) ?_
                    refine s_pull 8 ?_
                    refine s_norm _ (by simp only [pull, picks, setG, List.cons_append, List.nil_append, List.append_nil, List.drop_succ_cons, List.drop_zero]; rfl) ?_
                    refine s_pull 6 ?_
                    refine s_norm _ (by simp only [pull, picks, setG, List.cons_append, List.nil_append, List.append_nil, List.drop_succ_cons, List.drop_zero]; rfl) ?_
                    refine s_pull 6 ?_
                    refine s_norm _ (by simp only [pull, picks, setG, List.cons_append, List.nil_append, List.append_nil, List.drop_succ_cons, List.drop_zero]; rfl) ?_
                    refine s_pull 6 ?_
                    refine s_norm _ (by simp only [pull, picks, setG, List.cons_append, List.nil_append, List.append_nil, List.drop_succ_cons, List.drop_zero]; rfl) ?_
                    refine s_pull 6 ?_
                    refine s_norm _ (by simp only [pull, picks, setG, List.cons_append, List.nil_append, List.append_nil, List.drop_succ_cons, List.drop_zero]; rfl) ?_
                    refine s_pull 6 ?_
                    refine s_norm _ (by simp only [pull, picks, setG, List.cons_append, List.nil_append, List.append_nil, List.drop_succ_cons, List.drop_zero]; rfl) ?_
                    refine s_drawn 7 (by kernel_rfl) ?_
                    refine d_val (i := 0) rfl (by kernel_rfl) (by kernel_rfl) (by kernel_rfl) rfl rfl rfl (y_move (v := (.slice _ _ _)) rfl) ?_
                    refine d_val (i := 1) rfl (by kernel_rfl) (by kernel_rfl) (by kernel_rfl) rfl rfl rfl (y_move (v := (.int _ _)) rfl) ?_
                    refine d_val (i := 2) rfl (by kernel_rfl) (by kernel_rfl) (by kernel_rfl) rfl rfl rfl (y_slice_lit (q := 0) Try.runUnderlying58 Try.sizeOf56 rfl rfl rfl rfl) ?_
                    refine d_val (i := 3) rfl (by kernel_rfl) (by kernel_rfl) (by kernel_rfl) rfl rfl rfl (y_load Try.isAgg56 rfl (cel_own 11 rfl rfl)) ?_
                    refine d_val (i := 4) rfl (by kernel_rfl) (by kernel_rfl) (by kernel_rfl) rfl rfl rfl (y_move (v := (.slice _ _ _)) rfl) ?_
                    refine d_val (i := 6) rfl (by kernel_rfl) (by kernel_rfl) (by kernel_rfl) rfl rfl rfl (y_move (v := (.slice _ _ _)) rfl) ?_
                    refine d_val (i := 7) rfl (by kernel_rfl) (by kernel_rfl) (by kernel_rfl) rfl rfl rfl (y_move (v := (.int _ _)) rfl) ?_
                    refine d_val (i := 8) rfl (by kernel_rfl) (by kernel_rfl) (by kernel_rfl) rfl rfl rfl (y_slice_lit (q := 0) Try.runUnderlying63 Try.sizeOf59 rfl rfl rfl rfl) ?_
                    refine d_val (i := 9) rfl (by kernel_rfl) (by kernel_rfl) (by kernel_rfl) rfl rfl rfl (y_load Try.isAgg59 rfl (cel_own 12 rfl rfl)) ?_
                    refine d_val (i := 10) rfl (by kernel_rfl) (by kernel_rfl) (by kernel_rfl) rfl rfl rfl (y_move (v := (.slice _ _ _)) rfl) ?_
                    refine d_eff (k := 5) (n := 7) (m := 17) rfl (by kernel_rfl) rfl ?_
                    refine o_fn 4 (d := 173) rfl Try.call33 (InL_c e0 u.X0.acked u.X0.wA u.X0.ws.length u.X0.wc u.X0.next u.X0.gA u.X0.gs.length u.X0.gc u.X0.ws u.X0.wE u.X0.gs u.X0.gE u.X0.P1 hw0 hg0 hi0 (by omega) R m d raw hr.lift hm) rfl ?_
                    rintro _ _ (⟨he1, rfl, yP, hyi, rfl⟩ | ⟨he1, rfl, yA, yc, zA, zc, zs, zE, yP, hzm, hyo, hzo, hyi, rfl⟩)
                    · refine o_norm _ (by simp only [pull, picks, setG, List.cons_append, List.nil_append, List.append_nil, List.drop_succ_cons, List.drop_zero]; rfl) ?_
                      refine o_nil ?_
                      refine d_eff (k := 11) (n := 7) (m := 17) rfl (by kernel_rfl) rfl ?_
                      refine o_pull 6 ?_
                      refine o_norm _ (by simp only [pull, picks, setG, List.cons_append, List.nil_append, List.append_nil, List.drop_succ_cons, List.drop_zero]; rfl) ?_
                      refine o_pull 6 ?_
                      refine o_norm _ (by simp only [pull, picks, setG, List.cons_append, List.nil_append, List.append_nil, List.drop_succ_cons, List.drop_zero]; rfl) ?_
                      refine o_pull 6 ?_
                      refine o_norm _ (by simp only [pull, picks, setG, List.cons_append, List.nil_append, List.append_nil, List.drop_succ_cons, List.drop_zero]; rfl) ?_
                      refine o_fn 3 (d := 179) rfl Try.call34 (TakeH_c b2 u.X0.sA u.X0.ss.length u.X0.sc u.X0.acked u.X0.next u.X0.nA u.X0.ns.length u.X0.nc u.X0.ns u.X0.nE u.X0.P3 hn0 hk0 (by omega) R m d raw hr.lift hm) rfl ?_
                      rintro _ _ (⟨he2, rfl, rfl⟩ | ⟨he2, _⟩)
                      · refine o_norm _ (by simp only [pull, picks, setG, List.cons_append, List.nil_append, List.append_nil, List.drop_succ_cons, List.drop_zero]; rfl) ?_
                        refine o_nil ?_
                        refine d_val (i := 12) rfl (by kernel_rfl) (by kernel_rfl) (by kernel_rfl) rfl rfl rfl (y_neq rfl rfl) ?_
                        refine d_nil (n := 7) (m := 17) (by kernel_rfl) rfl ?_
                        refine s_if rfl (fun h60 => ?_) (fun h61 => ?_)
                        · exact absurd (by rw [hlen0.1]) h60
                        · refine s_skip ?_
                          exact ⟨{ u with X0 := { u.X0 with P1 := yP } }, ⟨⟨hw0, hg0, hyi, hs0, hj0, hn0, hk0, hT0.more⟩, hY1.more, ha0, ha1, hp0, hp1, by dsimp only; omega, by dsimp only; omega⟩, ⟨rfl, rfl, rfl, rfl, rfl, rfl, rfl, rfl, rfl, trivial⟩, (sub_picks [3, 3, 3, 3, 0, 2, 2, 0, 0, 0, 0, 0, 0, 0, 0, 0, 0, 0, 0, 0, 0, 0, 0, 0] (by kernel_rfl))⟩
                      · exact absurd (by rw [hlen0.1]; exact he2) he1
                    · refine o_norm _ (by simp only [pull, picks, setG, List.cons_append, List.nil_append, List.append_nil, List.drop_succ_cons, List.drop_zero]; rfl) ?_
                      refine o_nil ?_
                      refine d_eff (k := 11) (n := 7) (m := 17) rfl (by kernel_rfl) rfl ?_
                      refine o_pull 6 ?_
                      refine o_norm _ (by simp only [pull, picks, setG, List.cons_append, List.nil_append, List.append_nil, List.drop_succ_cons, List.drop_zero]; rfl) ?_
                      refine o_pull 6 ?_
                      refine o_norm _ (by simp only [pull, picks, setG, List.cons_append, List.nil_append, List.append_nil, List.drop_succ_cons, List.drop_zero]; rfl) ?_
                      refine o_pull 6 ?_
                      refine o_norm _ (by simp only [pull, picks, setG, List.cons_append, List.nil_append, List.append_nil, List.drop_succ_cons, List.drop_zero]; rfl) ?_
                      refine o_fn 3 (d := 179) rfl Try.call34 (TakeH_c b2 u.X0.sA u.X0.ss.length u.X0.sc u.X0.acked u.X0.next u.X0.nA u.X0.ns.length u.X0.nc u.X0.ns u.X0.nE u.X0.P3 hn0 hk0 (by omega) R m d raw hr.lift hm) rfl ?_
                      rintro _ _ (⟨he2, _⟩ | ⟨he2, rfl, tA, tc, ts, tE, tP, htm, hto, hti, rfl⟩)
                      · exact absurd (by rw [← hlen0.1]; exact he1) he2
                      · refine o_norm _ (by simp only [pull, picks, setG, List.cons_append, List.nil_append, List.append_nil, List.drop_succ_cons, List.drop_zero]; rfl) ?_
                        refine o_nil ?_
                        refine d_val (i := 12) rfl (by kernel_rfl) (by kernel_rfl) (by kernel_rfl) rfl rfl rfl (y_neq rfl rfl) ?_
                        refine d_nil (n := 7) (m := 17) (by kernel_rfl) rfl ?_
                        refine s_if rfl (fun h62 => ?_) (fun h63 => ?_)
                        · exact absurd rfl h62
                        · refine s_skip ?_
                          exact ⟨{ u with X0 := { u.X0 with acked := max u.X0.acked (parse m raw).ack, ws := u.X0.ws.drop (max u.X0.acked (parse m raw).ack - u.X0.acked).toNat, wA := yA, wc := yc, next := (recv (parse m raw).first (parse m raw).ms u.X0.next (u.X0.gs.map (·.bs)) (parse m raw).ms.length).1, gs := zs, gA := zA, gc := zc, gE := zE, P1 := yP, ns := ts, nA := tA, nc := tc, nE := tE, P3 := tP } }, ⟨⟨(by dsimp only; rw [List.length_drop]; exact hyo), hzo, hyi, hs0, hj0, hto, hti, told_take (n := m) (bs := raw) hT0 (inErr_ok he2).2 hms8 rfl rfl rfl hzm htm rfl⟩, hY1.more, ha0, ha1, hp0, hp1, by dsimp only; omega, by dsimp only; omega⟩, ⟨rfl, rfl, rfl, rfl, rfl, rfl, rfl, rfl, rfl, trivial⟩, (by dsimp only; simp only [List.length_drop, hgm0]; exact sub_picks [3, 3, 3, 3, 0, 2, 2, 0, 0, 0, 0, 0, 0, 0, 0, 0, 0, 0, 0, 0, 0, 0, 0, 0] (by kernel_rfl))⟩
                  · refine s_seq ?_
                    refine s_seq ?_
                    refine s_region ?_
                    refine o_val rfl rfl rfl (y_move (v := (.int _ _)) rfl) ?_
                    refine o_val rfl rfl rfl (y_index_lit (q := 0) Try.runUnderlying64 Try.sizeOf60 rfl rfl rfl rfl) ?_
                    refine o_val rfl rfl rfl (y_load Try.isAgg60 rfl (cel_own 20 rfl rfl)) ?_
                    refine o_val rfl rfl rfl (y_len Try.runUnderlying60 rfl) ?_
                    refine o_val rfl rfl rfl (y_eql rfl rfl) ?_
                    refine o_nil ?_
                    refine s_if rfl (fun h64 => ?_) (fun h65 => ?_)
                    · refine s_exit ?_
                      refine s_region ?_
                      refine o_val rfl rfl rfl (y_add rfl rfl (by simp only [inK]; omega)) ?_
                      refine o_val rfl rfl rfl (y_move (v := (.int _ _)) rfl) ?_
                      refine o_nil ?_
                      exact ⟨{ u with i := u.i + 1 }, (by first | omega | (dsimp only; omega)), ⟨by dsimp only; omega, hok.more rfl rfl rfl rfl rfl rfl rfl rfl rfl rfl rfl⟩, ⟨rfl, rfl, rfl, rfl, rfl, rfl, (congrArg (Value.int .i64) (by dsimp only; omega)), trivial⟩, (sub_picks [0, 0, 0, 0, 0, 0, 0, 0, 0, 0, 0, 0, 0, 0, 0, 0, 0, 0, 0, 0, 0, 0, 0, 0] (by kernel_rfl))⟩
                    · refine s_skip ?_
                      refine s_seq ?_
                      refine s_drawn 0 (by kernel_rfl) ?_
                      refine d_val (i := 0) rfl (by kernel_rfl) (by kernel_rfl) (by kernel_rfl) rfl rfl rfl (y_move (v := (.int _ _)) rfl) ?_
                      refine d_val (i := 1) rfl (by kernel_rfl) (by kernel_rfl) (by kernel_rfl) rfl rfl rfl (y_index_lit (q := 0) Try.runUnderlying64 Try.sizeOf60 rfl rfl rfl rfl) ?_
                      refine d_val (i := 2) rfl (by kernel_rfl) (by kernel_rfl) (by kernel_rfl) rfl rfl rfl (y_load Try.isAgg60 rfl (cel_own 20 rfl rfl)) ?_
                      refine d_val (i := 3) rfl (by kernel_rfl) (by kernel_rfl) (by kernel_rfl) rfl rfl rfl (y_move (v := (.int _ _)) rfl) ?_
                      refine d_val (i := 4) rfl (by kernel_rfl) (by kernel_rfl) (by kernel_rfl) rfl rfl rfl (y_shr rfl rfl (by omega)) ?_
                      refine d_val (i := 5) rfl (by kernel_rfl) (by kernel_rfl) (by kernel_rfl) rfl rfl rfl (y_and rfl rfl) ?_
                      refine d_val (i := 6) rfl (by kernel_rfl) (by kernel_rfl) (by kernel_rfl) rfl rfl rfl (y_move (v := (.int _ _)) rfl) ?_
                      refine d_val (i := 7) rfl (by kernel_rfl) (by kernel_rfl) (by kernel_rfl) rfl rfl rfl (y_index_lit (q := 0) Try.runUnderlying64 Try.sizeOf60 rfl rfl rfl rfl) ?_
                      refine d_val (i := 8) rfl (by kernel_rfl) (by kernel_rfl) (by kernel_rfl) rfl rfl rfl (y_load Try.isAgg60 rfl (cel_own 20 rfl rfl)) ?_
                      refine d_val (i := 9) rfl (by kernel_rfl) (by kernel_rfl) (by kernel_rfl) rfl rfl rfl (y_len Try.runUnderlying60 rfl) ?_
                      refine d_val (i := 10) rfl (by kernel_rfl) (by kernel_rfl) (by kernel_rfl) rfl rfl rfl (y_rem rfl rfl (by have hv := and1023 ((acts.getD ((u.i : Nat) : Int).toNat 0).fdiv (2 ^ min (4 : Int).toNat IntKind.i64.bits)); omega)) ?_
                      have hv := and1023 ((acts.getD ((u.i : Nat) : Int).toNat 0).fdiv (2 ^ min (4 : Int).toNat IntKind.i64.bits))
                      have hrm : 0 ≤ ((bAnd .i64 ((acts.getD ((u.i : Nat) : Int).toNat 0).fdiv (2 ^ min (4 : Int).toNat IntKind.i64.bits)) 1023) % ((u.a0.length : Nat) : Int)) ∧ ((bAnd .i64 ((acts.getD ((u.i : Nat) : Int).toNat 0).fdiv (2 ^ min (4 : Int).toNat IntKind.i64.bits)) 1023) % ((u.a0.length : Nat) : Int)) < ((u.a0.length : Nat) : Int) := ⟨Int.emod_nonneg _ (by omega), Int.emod_lt_of_pos _ (by omega)⟩
                      have hpf : PkIn u.AP (u.a0.getD ((bAnd .i64 ((acts.getD ((u.i : Nat) : Int).toNat 0).fdiv (2 ^ min (4 : Int).toNat IntKind.i64.bits)) 1023) % ((u.a0.length : Nat) : Int)).toNat default) := hp0 _ (getD_memN (by omega))
                      have hpn := hpf.2.2.1
                      refine d_val (i := 11) rfl (by kernel_rfl) (by kernel_rfl) (by kernel_rfl) rfl rfl rfl (y_index1 Try.runUnderlying60 Try.sizeOf29 (ha0.some_of (by omega)) rfl rfl (by omega)) ?_
                      refine d_val (i := 12) rfl (by kernel_rfl) (by kernel_rfl) (by kernel_rfl) rfl rfl rfl (y_load Try.isAgg29 rfl (cel_B (ha0.cels (j := 21) rfl) (by omega))) ?_
                      refine d_eff (k := 13) (n := 0) (m := 24) rfl (by kernel_rfl) rfl ?_
                      refine o_fn 0 (d := 60) rfl Try.call35 (SCloneB_c _ (u.a0.getD ((bAnd .i64 ((acts.getD ((u.i : Nat) : Int).toNat 0).fdiv (2 ^ min (4 : Int).toNat IntKind.i64.bits)) 1023) % ((u.a0.length : Nat) : Int)).toNat default).n _ (u.a0.getD ((bAnd .i64 ((acts.getD ((u.i : Nat) : Int).toNat 0).fdiv (2 ^ min (4 : Int).toNat IntKind.i64.bits)) 1023) % ((u.a0.length : Nat) : Int)).toNat default).bs (hpf.at (j := 23) rfl).2.2.1 hpf.1 (by omega)) rfl ?_
                      rintro _ _ ⟨cB, ce, cG, rfl, hco, rfl⟩
                      refine o_norm _ (by simp only [pull, picks, setG, List.cons_append, List.nil_append, List.append_nil, List.drop_succ_cons, List.drop_zero]; rfl) ?_
                      refine o_nil ?_
                      refine d_val (i := 14) rfl (by kernel_rfl) (by kernel_rfl) (by kernel_rfl) rfl rfl rfl (y_assign (v := (.slice _ _ _)) rfl) ?_
                      refine d_nil (n := 1) (m := 24) (by kernel_rfl) rfl ?_
                      refine s_join (γ := LC) (fun z => [(1, .slice R m d), (5, .slice (some ⟨b1, 0, none⟩) 2 2), (6, .slice (some ⟨b4, 0, none⟩) 2 2), (7, .pointer (some ⟨b5, 0, none⟩)), (8, .int .i64 u.i), (9, .int .i64 (acts.getD ((u.i : Nat) : Int).toNat 0)), (10, .int .i64 0), (15, .slice cB (u.a0.getD ((bAnd .i64 ((acts.getD ((u.i : Nat) : Int).toNat 0).fdiv (2 ^ min (4 : Int).toNat IntKind.i64.bits)) 1023) % ((u.a0.length : Nat) : Int)).toNat default).n ce), (30, .slice A (min (n : Int) 60).toNat c), (31, .int .i64 (((min (n : Int) 60).toNat : Nat) : Int)), (32, .int .i64 u.i)]) (fun z => [endg e0 u.X0.acked u.X0.wA u.X0.ws.length u.X0.wc u.X0.next u.X0.gA u.X0.gs.length u.X0.gc, u.X0.wE, u.X0.gE, u.X0.P1, halfg b2 u.X0.sA u.X0.ss.length u.X0.sc u.X0.acked u.X0.next u.X0.nA u.X0.ns.length u.X0.nc, u.X0.sE, u.X0.P2, u.X0.nE, u.X0.P3, endg e1 u.X1.acked u.X1.wA u.X1.ws.length u.X1.wc u.X1.next u.X1.gA u.X1.gs.length u.X1.gc, u.X1.wE, u.X1.gE, u.X1.P1, halfg b3 u.X1.sA u.X1.ss.length u.X1.sc u.X1.acked u.X1.next u.X1.nA u.X1.ns.length u.X1.nc, u.X1.sE, u.X1.P2, u.X1.nE, u.X1.P3, [(b1, .cells [.pointer (some ⟨e0, 0, none⟩), .pointer (some ⟨e1, 0, none⟩)].toArray 56 (0, 0))], [(b4, .cells [.pointer (some ⟨b2, 0, none⟩), .pointer (some ⟨b3, 0, none⟩)].toArray 59 (0, 0))], [(b5, .cells [.slice u.aA0 u.a0.length u.ac0, .slice u.aA1 u.a1.length u.ac1].toArray 64 (0, 0))], u.aE0, u.aE1, u.AP, z.E]) (fun z => OS cB (u.a0.getD ((bAnd .i64 ((acts.getD ((u.i : Nat) : Int).toNat 0).fdiv (2 ^ min (4 : Int).toNat IntKind.i64.bits)) 1023) % ((u.a0.length : Nat) : Int)).toNat default).n ce 5 1 ((z.bs).map (.int .u8)) z.E ∧ ∀ b ∈ z.bs, 0 ≤ b ∧ b ≤ 255) ?_ ?_
                      · refine s_seq ?_
                        refine s_region ?_
                        refine o_val rfl rfl rfl (y_move (v := (.int _ _)) rfl) ?_
                        refine o_val rfl rfl rfl (y_shr rfl rfl (by omega)) ?_
                        refine o_val rfl rfl rfl (y_and rfl rfl) ?_
                        refine o_val rfl rfl rfl (y_eql rfl rfl) ?_
                        refine o_nil ?_
                        refine s_if rfl (fun h66 => ?_) (fun h67 => ?_)
                        · refine s_region ?_
                          refine o_val rfl rfl rfl (y_move (v := (.slice _ _ _)) rfl) ?_
                          refine o_val rfl rfl rfl (y_move (v := (.int _ _)) rfl) ?_
                          refine o_val rfl rfl rfl (y_shr rfl rfl (by omega)) ?_
                          refine o_val rfl rfl rfl (y_and rfl rfl) ?_
                          refine o_val rfl rfl rfl (y_move (v := (.slice _ _ _)) rfl) ?_
                          refine o_val rfl rfl rfl (y_len Try.runUnderlying29 rfl) ?_
                          refine o_val rfl rfl rfl (y_rem rfl rfl (by omega)) ?_
                          have hrq : 0 ≤ ((bAnd .i64 ((acts.getD ((u.i : Nat) : Int).toNat 0).fdiv (2 ^ min (4 : Int).toNat IntKind.i64.bits)) 1023) % (((u.a0.getD ((bAnd .i64 ((acts.getD ((u.i : Nat) : Int).toNat 0).fdiv (2 ^ min (4 : Int).toNat IntKind.i64.bits)) 1023) % ((u.a0.length : Nat) : Int)).toNat default).n : Nat) : Int)) ∧ ((bAnd .i64 ((acts.getD ((u.i : Nat) : Int).toNat 0).fdiv (2 ^ min (4 : Int).toNat IntKind.i64.bits)) 1023) % (((u.a0.getD ((bAnd .i64 ((acts.getD ((u.i : Nat) : Int).toNat 0).fdiv (2 ^ min (4 : Int).toNat IntKind.i64.bits)) 1023) % ((u.a0.length : Nat) : Int)).toNat default).n : Nat) : Int)) < (((u.a0.getD ((bAnd .i64 ((acts.getD ((u.i : Nat) : Int).toNat 0).fdiv (2 ^ min (4 : Int).toNat IntKind.i64.bits)) 1023) % ((u.a0.length : Nat) : Int)).toNat default).n : Nat) : Int) := ⟨Int.emod_nonneg _ (by omega), Int.emod_lt_of_pos _ (by omega)⟩
                          have hpl := hpf.1
                          refine o_val rfl rfl rfl (y_index1 Try.runUnderlying29 Try.sizeOf5 (hco.some_of (by omega)) rfl rfl (by omega)) ?_
                          refine o_val rfl rfl rfl (y_load Try.isAgg5 rfl (cel_int (hco.cels (j := 0) rfl) (by omega))) ?_
                          refine o_val rfl rfl rfl (y_add' rfl rfl) ?_
                          refine o_val rfl rfl rfl (y_index1 Try.runUnderlying29 Try.sizeOf5 (hco.some_of (by omega)) rfl rfl (by omega)) ?_
                          refine o_store_os (vs := [(.int _ _)]) 0 rfl hco Try.sizeOf5 rfl rfl rfl (by simp [Value.oneCell']) (by simp) (by first | omega | (simp only [List.length_map, List.length_cons, List.length_nil]; omega)) (fun E68 ho69 => ?_)
                          have ho70 := os_lay_int ho69 (by first | omega | (simp only [List.length_map, List.length_cons, List.length_nil]; omega))
                          clear ho69
                          refine o_nil ?_
                          exact ⟨LC.mk E68 ((u.a0.getD ((bAnd .i64 ((acts.getD ((u.i : Nat) : Int).toNat 0).fdiv (2 ^ min (4 : Int).toNat IntKind.i64.bits)) 1023) % ((u.a0.length : Nat) : Int)).toNat default).bs.set ((bAnd .i64 ((acts.getD ((u.i : Nat) : Int).toNat 0).fdiv (2 ^ min (4 : Int).toNat IntKind.i64.bits)) 1023) % (((u.a0.getD ((bAnd .i64 ((acts.getD ((u.i : Nat) : Int).toNat 0).fdiv (2 ^ min (4 : Int).toNat IntKind.i64.bits)) 1023) % ((u.a0.length : Nat) : Int)).toNat default).n : Nat) : Int)).toNat (IntKind.u8.wrap ((u.a0.getD ((bAnd .i64 ((acts.getD ((u.i : Nat) : Int).toNat 0).fdiv (2 ^ min (4 : Int).toNat IntKind.i64.bits)) 1023) % ((u.a0.length : Nat) : Int)).toNat default).bs.getD ((bAnd .i64 ((acts.getD ((u.i : Nat) : Int).toNat 0).fdiv (2 ^ min (4 : Int).toNat IntKind.i64.bits)) 1023) % (((u.a0.getD ((bAnd .i64 ((acts.getD ((u.i : Nat) : Int).toNat 0).fdiv (2 ^ min (4 : Int).toNat IntKind.i64.bits)) 1023) % ((u.a0.length : Nat) : Int)).toNat default).n : Nat) : Int)).toNat 0 + 1))), ⟨ho70, set_byte hpf.2.2.2.2⟩, ⟨rfl, rfl, rfl, rfl, rfl, rfl, rfl, rfl, rfl, rfl, rfl, trivial⟩, (sub_picks [1, 1, 1, 1, 1, 1, 1, 1, 1, 1, 1, 1, 1, 1, 1, 1, 1, 1, 1, 1, 1, 1, 1, 1, 0] (by kernel_rfl))⟩
                        · refine s_skip ?_
                          exact ⟨LC.mk cG (u.a0.getD ((bAnd .i64 ((acts.getD ((u.i : Nat) : Int).toNat 0).fdiv (2 ^ min (4 : Int).toNat IntKind.i64.bits)) 1023) % ((u.a0.length : Nat) : Int)).toNat default).bs, ⟨hco, hpf.2.2.2.2⟩, ⟨rfl, rfl, rfl, rfl, rfl, rfl, rfl, rfl, rfl, rfl, rfl, trivial⟩, (sub_picks [1, 1, 1, 1, 1, 1, 1, 1, 1, 1, 1, 1, 1, 1, 1, 1, 1, 1, 1, 1, 1, 1, 1, 1, 0] (by kernel_rfl))⟩
                      · intro z _f hZ
                        obtain ⟨hzo2, hzb⟩ := hZ
                        have hzl : z.bs.length = (u.a0.getD ((bAnd .i64 ((acts.getD ((u.i : Nat) : Int).toNat 0).fdiv (2 ^ min (4 : Int).toNat IntKind.i64.bits)) 1023) % ((u.a0.length : Nat) : Int)).toNat default).n := by simpa using hzo2.len
                        have hms8 := (parse_bd hzl hzb).2.2.2.2
                        refine s_seq ?_
                        refine s_pull 8 ?_
                        refine s_norm _ (by simp only [pull, picks, setG, List.cons_append, List.nil_append, List.append_nil, List.drop_succ_cons, List.drop_zero]; rfl) ?_
                        refine s_pull 8 ?_
                        refine s_norm _ (by simp only [pull, picks, setG, List.cons_append, List.nil_append, List.append_nil, List.drop_succ_cons, List.drop_zero]; rfl) ?_
                        refine s_pull 6 ?_
                        refine s_norm _ (by simp only [pull, picks, setG, List.cons_append, List.nil_append, List.append_nil, List.drop_succ_cons, List.drop_zero]; rfl) ?_
                        refine s_pull 6 ?_
                        refine s_norm _ (by simp only [pull, picks, setG, List.cons_append, List.nil_append, List.append_nil, List.drop_succ_cons, List.drop_zero]; rfl) ?_
                        refine s_pull 6 ?_
                        refine s_norm _ (by simp only [pull, picks, setG, List.cons_append, List.nil_append, List.append_nil, List.drop_succ_cons, List.drop_zero]; rfl) ?_
                        refine s_pull 6 ?_
                        refine s_norm _ (by simp only [pull, picks, setG, List.cons_append, List.nil_append, List.append_nil, List.drop_succ_cons, List.drop_zero]; rfl) ?_
                        refine s_pull 6 ?_
                        refine s_norm _ (by simp only [pull, picks, setG, List.cons_append, List.nil_append, List.append_nil, List.drop_succ_cons, List.drop_zero]; rfl) ?_
                        refine s_drawn 7 (by kernel_rfl) ?_
                        refine d_val (i := 0) rfl (by kernel_rfl) (by kernel_rfl) (by kernel_rfl) rfl rfl rfl (y_move (v := (.slice _ _ _)) rfl) ?_
                        refine d_val (i := 1) rfl (by kernel_rfl) (by kernel_rfl) (by kernel_rfl) rfl rfl rfl (y_move (v := (.int _ _)) rfl) ?_
                        refine d_val (i := 2) rfl (by kernel_rfl) (by kernel_rfl) (by kernel_rfl) rfl rfl rfl (y_slice_lit (q := 0) Try.runUnderlying58 Try.sizeOf56 rfl rfl rfl rfl) ?_
                        refine d_val (i := 3) rfl (by kernel_rfl) (by kernel_rfl) (by kernel_rfl) rfl rfl rfl (y_load Try.isAgg56 rfl (cel_own 11 rfl rfl)) ?_
                        refine d_val (i := 4) rfl (by kernel_rfl) (by kernel_rfl) (by kernel_rfl) rfl rfl rfl (y_move (v := (.slice _ _ _)) rfl) ?_
                        refine d_val (i := 6) rfl (by kernel_rfl) (by kernel_rfl) (by kernel_rfl) rfl rfl rfl (y_move (v := (.slice _ _ _)) rfl) ?_
                        refine d_val (i := 7) rfl (by kernel_rfl) (by kernel_rfl) (by kernel_rfl) rfl rfl rfl (y_move (v := (.int _ _)) rfl) ?_
                        refine d_val (i := 8) rfl (by kernel_rfl) (by kernel_rfl) (by kernel_rfl) rfl rfl rfl (y_slice_lit (q := 0) Try.runUnderlying63 Try.sizeOf59 rfl rfl rfl rfl) ?_
                        refine d_val (i := 9) rfl (by kernel_rfl) (by kernel_rfl) (by kernel_rfl) rfl rfl rfl (y_load Try.isAgg59 rfl (cel_own 12 rfl rfl)) ?_
                        refine d_val (i := 10) rfl (by kernel_rfl) (by kernel_rfl) (by kernel_rfl) rfl rfl rfl (y_move (v := (.slice _ _ _)) rfl) ?_
                        refine d_eff (k := 5) (n := 7) (m := 18) rfl (by kernel_rfl) rfl ?_
                        refine o_fn 4 (d := 81) rfl Try.call33 (InL_c e0 u.X0.acked u.X0.wA u.X0.ws.length u.X0.wc u.X0.next u.X0.gA u.X0.gs.length u.X0.gc u.X0.ws u.X0.wE u.X0.gs u.X0.gE u.X0.P1 hw0 hg0 hi0 (by omega) cB (u.a0.getD ((bAnd .i64 ((acts.getD ((u.i : Nat) : Int).toNat 0).fdiv (2 ^ min (4 : Int).toNat IntKind.i64.bits)) 1023) % ((u.a0.length : Nat) : Int)).toNat default).n ce z.bs ⟨hzl, hzo2.2.1, (hzo2.cels (j := 20) rfl).down, hzb⟩ (by omega)) rfl ?_
                        rintro _ _ (⟨he1, rfl, yP, hyi, rfl⟩ | ⟨he1, rfl, yA, yc, zA, zc, zs, zE, yP, hzm, hyo, hzo, hyi, rfl⟩)
                        · refine o_norm _ (by simp only [pull, picks, setG, List.cons_append, List.nil_append, List.append_nil, List.drop_succ_cons, List.drop_zero]; rfl) ?_
                          refine o_nil ?_
                          refine d_eff (k := 11) (n := 7) (m := 18) rfl (by kernel_rfl) rfl ?_
                          refine o_pull 6 ?_
                          refine o_norm _ (by simp only [pull, picks, setG, List.cons_append, List.nil_append, List.append_nil, List.drop_succ_cons, List.drop_zero]; rfl) ?_
                          refine o_pull 6 ?_
                          refine o_norm _ (by simp only [pull, picks, setG, List.cons_append, List.nil_append, List.append_nil, List.drop_succ_cons, List.drop_zero]; rfl) ?_
                          refine o_pull 6 ?_
                          refine o_norm _ (by simp only [pull, picks, setG, List.cons_append, List.nil_append, List.append_nil, List.drop_succ_cons, List.drop_zero]; rfl) ?_
                          refine o_fn 3 (d := 87) rfl Try.call34 (TakeH_c b2 u.X0.sA u.X0.ss.length u.X0.sc u.X0.acked u.X0.next u.X0.nA u.X0.ns.length u.X0.nc u.X0.ns u.X0.nE u.X0.P3 hn0 hk0 (by omega) cB (u.a0.getD ((bAnd .i64 ((acts.getD ((u.i : Nat) : Int).toNat 0).fdiv (2 ^ min (4 : Int).toNat IntKind.i64.bits)) 1023) % ((u.a0.length : Nat) : Int)).toNat default).n ce z.bs ⟨hzl, hzo2.2.1, (hzo2.cels (j := 21) rfl).down, hzb⟩ (by omega)) rfl ?_
                          rintro _ _ (⟨he2, rfl, rfl⟩ | ⟨he2, _⟩)
                          · refine o_norm _ (by simp only [pull, picks, setG, List.cons_append, List.nil_append, List.append_nil, List.drop_succ_cons, List.drop_zero]; rfl) ?_
                            refine o_nil ?_
                            refine d_val (i := 12) rfl (by kernel_rfl) (by kernel_rfl) (by kernel_rfl) rfl rfl rfl (y_neq rfl rfl) ?_
                            refine d_nil (n := 7) (m := 18) (by kernel_rfl) rfl ?_
                            refine s_if rfl (fun h71 => ?_) (fun h72 => ?_)
                            · exact absurd (by rw [hlen0.1]) h71
                            · refine s_skip ?_
                              exact ⟨{ u with X0 := { u.X0 with P1 := yP } }, ⟨⟨hw0, hg0, hyi, hs0, hj0, hn0, hk0, hT0.more⟩, hY1.more, ha0, ha1, hp0, hp1, by dsimp only; omega, by dsimp only; omega⟩, ⟨rfl, rfl, rfl, rfl, rfl, rfl, rfl, rfl, rfl, trivial⟩, (sub_picks [3, 3, 3, 3, 0, 2, 2, 0, 0, 0, 0, 0, 0, 0, 0, 0, 0, 0, 0, 0, 0, 0, 0, 0] (by kernel_rfl))⟩
                          · exact absurd (by rw [hlen0.1]; exact he2) he1
                        · refine o_norm _ (by simp only [pull, picks, setG, List.cons_append, List.nil_append, List.append_nil, List.drop_succ_cons, List.drop_zero]; rfl) ?_
                          refine o_nil ?_
                          refine d_eff (k := 11) (n := 7) (m := 18) rfl (by kernel_rfl) rfl ?_
                          refine o_pull 6 ?_
                          refine o_norm _ (by simp only [pull, picks, setG, List.cons_append, List.nil_append, List.append_nil, List.drop_succ_cons, List.drop_zero]; rfl) ?_
                          refine o_pull 6 ?_
                          refine o_norm _ (by simp only [pull, picks, setG, List.cons_append, List.nil_append, List.append_nil, List.drop_succ_cons, List.drop_zero]; rfl) ?_
                          refine o_pull 6 ?_
                          refine o_norm _ (by simp only [pull, picks, setG, List.cons_append, List.nil_append, List.append_nil, List.drop_succ_cons, List.drop_zero]; rfl) ?_
                          refine o_fn 3 (d := 87) rfl Try.call34 (TakeH_c b2 u.X0.sA u.X0.ss.length u.X0.sc u.X0.acked u.X0.next u.X0.nA u.X0.ns.length u.X0.nc u.X0.ns u.X0.nE u.X0.P3 hn0 hk0 (by omega) cB (u.a0.getD ((bAnd .i64 ((acts.getD ((u.i : Nat) : Int).toNat 0).fdiv (2 ^ min (4 : Int).toNat IntKind.i64.bits)) 1023) % ((u.a0.length : Nat) : Int)).toNat default).n ce z.bs ⟨hzl, hzo2.2.1, (hzo2.cels (j := 21) rfl).down, hzb⟩ (by omega)) rfl ?_
                          rintro _ _ (⟨he2, _⟩ | ⟨he2, rfl, tA, tc, ts, tE, tP, htm, hto, hti, rfl⟩)
                          · exact absurd (by rw [← hlen0.1]; exact he1) he2
                          · refine o_norm _ (by simp only [pull, picks, setG, List.cons_append, List.nil_append, List.append_nil, List.drop_succ_cons, List.drop_zero]; rfl) ?_
                            refine o_nil ?_
                            refine d_val (i := 12) rfl (by kernel_rfl) (by kernel_rfl) (by kernel_rfl) rfl rfl rfl (y_neq rfl rfl) ?_
                            refine d_nil (n := 7) (m := 18) (by kernel_rfl) rfl ?_
                            refine s_if rfl (fun h73 => ?_) (fun h74 => ?_)
                            · exact absurd rfl h73
                            · refine s_skip ?_
                              exact ⟨{ u with X0 := { u.X0 with acked := max u.X0.acked (parse (u.a0.getD ((bAnd .i64 ((acts.getD ((u.i : Nat) : Int).toNat 0).fdiv (2 ^ min (4 : Int).toNat IntKind.i64.bits)) 1023) % ((u.a0.length : Nat) : Int)).toNat default).n z.bs).ack, ws := u.X0.ws.drop (max u.X0.acked (parse (u.a0.getD ((bAnd .i64 ((acts.getD ((u.i : Nat) : Int).toNat 0).fdiv (2 ^ min (4 : Int).toNat IntKind.i64.bits)) 1023) % ((u.a0.length : Nat) : Int)).toNat default).n z.bs).ack - u.X0.acked).toNat, wA := yA, wc := yc, next := (recv (parse (u.a0.getD ((bAnd .i64 ((acts.getD ((u.i : Nat) : Int).toNat 0).fdiv (2 ^ min (4 : Int).toNat IntKind.i64.bits)) 1023) % ((u.a0.length : Nat) : Int)).toNat default).n z.bs).first (parse (u.a0.getD ((bAnd .i64 ((acts.getD ((u.i : Nat) : Int).toNat 0).fdiv (2 ^ min (4 : Int).toNat IntKind.i64.bits)) 1023) % ((u.a0.length : Nat) : Int)).toNat default).n z.bs).ms u.X0.next (u.X0.gs.map (·.bs)) (parse (u.a0.getD ((bAnd .i64 ((acts.getD ((u.i : Nat) : Int).toNat 0).fdiv (2 ^ min (4 : Int).toNat IntKind.i64.bits)) 1023) % ((u.a0.length : Nat) : Int)).toNat default).n z.bs).ms.length).1, gs := zs, gA := zA, gc := zc, gE := zE, P1 := yP, ns := ts, nA := tA, nc := tc, nE := tE, P3 := tP } }, ⟨⟨(by dsimp only; rw [List.length_drop]; exact hyo), hzo, hyi, hs0, hj0, hto, hti, told_take (n := (u.a0.getD ((bAnd .i64 ((acts.getD ((u.i : Nat) : Int).toNat 0).fdiv (2 ^ min (4 : Int).toNat IntKind.i64.bits)) 1023) % ((u.a0.length : Nat) : Int)).toNat default).n) (bs := z.bs) hT0 (inErr_ok he2).2 hms8 rfl rfl rfl hzm htm rfl⟩, hY1.more, ha0, ha1, hp0, hp1, by dsimp only; omega, by dsimp only; omega⟩, ⟨rfl, rfl, rfl, rfl, rfl, rfl, rfl, rfl, rfl, trivial⟩, (by dsimp only; simp only [List.length_drop, hgm0]; exact sub_picks [3, 3, 3, 3, 0, 2, 2, 0, 0, 0, 0, 0, 0, 0, 0, 0, 0, 0, 0, 0, 0, 0, 0, 0] (by kernel_rfl))⟩
        · intro v _f hV
          have hV2 := hV
          obtain ⟨hX0, hX1, ha0, ha1, hp0, hp1, hl0, hl1⟩ := hV2
          have hY0 := hX0
          obtain ⟨hw0, hg0, hi0, hs0, hj0, hn0, hk0, hT0⟩ := hX0
          have hlen0 := hT0.lens
          have hU0 := hT0
          obtain ⟨hwm0, hgm0, hb10, hb20, hb30, hb40, hb50, hb60⟩ := hU0
          have hY1 := hX1
          obtain ⟨hw1, hg1, hi1, hs1, hj1, hn1, hk1, hT1⟩ := hX1
          have hlen1 := hT1.lens
          have hU1 := hT1
          obtain ⟨hwm1, hgm1, hb11, hb21, hb31, hb41, hb51, hb61⟩ := hU1
          refine s_seq ?_
          refine s_pull 8 ?_
          refine s_norm _ (by simp only [pull, picks, setG, List.cons_append, List.nil_append, List.append_nil, List.drop_succ_cons, List.drop_zero]; rfl) ?_
          refine s_pull 8 ?_
          refine s_norm _ (by simp only [pull, picks, setG, List.cons_append, List.nil_append, List.append_nil, List.drop_succ_cons, List.drop_zero]; rfl) ?_
          refine s_pull 6 ?_
          refine s_norm _ (by simp only [pull, picks, setG, List.cons_append, List.nil_append, List.append_nil, List.drop_succ_cons, List.drop_zero]; rfl) ?_
          refine s_pull 6 ?_
          refine s_norm _ (by simp only [pull, picks, setG, List.cons_append, List.nil_append, List.append_nil, List.drop_succ_cons, List.drop_zero]; rfl) ?_
          refine s_pull 6 ?_
          refine s_norm _ (by simp only [pull, picks, setG, List.cons_append, List.nil_append, List.append_nil, List.drop_succ_cons, List.drop_zero]; rfl) ?_
          refine s_pull 5 ?_
          refine s_norm _ (by simp only [pull, picks, setG, List.cons_append, List.nil_append, List.append_nil, List.drop_succ_cons, List.drop_zero]; rfl) ?_
          refine s_drawn 6 (by kernel_rfl) ?_
          refine d_val (i := 0) rfl (by kernel_rfl) (by kernel_rfl) (by kernel_rfl) rfl rfl rfl (y_move (v := (.slice _ _ _)) rfl) ?_
          refine d_val (i := 1) rfl (by kernel_rfl) (by kernel_rfl) (by kernel_rfl) rfl rfl rfl (y_move (v := (.int _ _)) rfl) ?_
          refine d_val (i := 2) rfl (by kernel_rfl) (by kernel_rfl) (by kernel_rfl) rfl rfl rfl (y_slice_lit (q := 0) Try.runUnderlying58 Try.sizeOf56 rfl rfl rfl rfl) ?_
          refine d_val (i := 3) rfl (by kernel_rfl) (by kernel_rfl) (by kernel_rfl) rfl rfl rfl (y_load Try.isAgg56 rfl (cel_own 12 rfl rfl)) ?_
          refine d_val (i := 5) rfl (by kernel_rfl) (by kernel_rfl) (by kernel_rfl) rfl rfl rfl (y_move (v := (.slice _ _ _)) rfl) ?_
          refine d_val (i := 6) rfl (by kernel_rfl) (by kernel_rfl) (by kernel_rfl) rfl rfl rfl (y_move (v := (.int _ _)) rfl) ?_
          refine d_val (i := 7) rfl (by kernel_rfl) (by kernel_rfl) (by kernel_rfl) rfl rfl rfl (y_slice_lit (q := 0) Try.runUnderlying63 Try.sizeOf59 rfl rfl rfl rfl) ?_
          refine d_val (i := 8) rfl (by kernel_rfl) (by kernel_rfl) (by kernel_rfl) rfl rfl rfl (y_load Try.isAgg59 rfl (cel_own 13 rfl rfl)) ?_
          refine d_val (i := 9) rfl (by kernel_rfl) (by kernel_rfl) (by kernel_rfl) rfl rfl rfl (y_nilCheck rfl) ?_
          refine d_val (i := 10) rfl (by kernel_rfl) (by kernel_rfl) (by kernel_rfl) rfl rfl rfl (y_field0 Try.runUnderlying62 rfl Try.sizeOf60 rfl rfl) ?_
          refine d_val (i := 13) rfl (by kernel_rfl) (by kernel_rfl) (by kernel_rfl) rfl rfl rfl (y_move (v := (.slice _ _ _)) rfl) ?_
          refine d_val (i := 14) rfl (by kernel_rfl) (by kernel_rfl) (by kernel_rfl) rfl rfl rfl (y_move (v := (.int _ _)) rfl) ?_
          refine d_val (i := 15) rfl (by kernel_rfl) (by kernel_rfl) (by kernel_rfl) rfl rfl rfl (y_slice_lit (q := 0) Try.runUnderlying63 Try.sizeOf59 rfl rfl rfl rfl) ?_
          refine d_val (i := 16) rfl (by kernel_rfl) (by kernel_rfl) (by kernel_rfl) rfl rfl rfl (y_load Try.isAgg59 rfl (cel_own 13 rfl rfl)) ?_
          refine d_val (i := 17) rfl (by kernel_rfl) (by kernel_rfl) (by kernel_rfl) rfl rfl rfl (y_nilCheck rfl) ?_
          refine d_val (i := 18) rfl (by kernel_rfl) (by kernel_rfl) (by kernel_rfl) rfl rfl rfl (y_field0 Try.runUnderlying62 rfl Try.sizeOf3 rfl rfl) ?_
          refine d_eff3 (k := 4) (k' := 11) (k'' := 19) (n := 6) (m := 18) rfl rfl rfl (by kernel_rfl) rfl ?_ ?_ ?_
          · refine o_fn 1 (d := 185) rfl Try.call36 (WaitL_c e0 v.X0.acked v.X0.wA v.X0.ws.length v.X0.wc v.X0.next v.X0.gA v.X0.gs.length v.X0.gc) rfl ?_
            rintro _ _ ⟨rfl, rfl⟩
            refine o_norm _ (by simp only [pull, picks, setG, List.cons_append, List.nil_append, List.append_nil, List.drop_succ_cons, List.drop_zero]; rfl) ?_
            refine o_nil ?_
            refine d_now (i := 11) [(19, _, _)] rfl (by kernel_rfl) (by kernel_rfl) (by kernel_rfl) rfl rfl rfl (y_load Try.isAgg60 rfl (cel_own 3 rfl rfl)) ⟨⟨rfl, rfl, (y_load Try.isAgg3 rfl (cel_own 3 rfl rfl))⟩, trivial⟩ ?_
            refine d_val (i := 12) rfl (by kernel_rfl) (by kernel_rfl) (by kernel_rfl) rfl rfl rfl (y_len Try.runUnderlying60 rfl) ?_
            refine d_now (i := 19) [] rfl (by kernel_rfl) (by kernel_rfl) (by kernel_rfl) rfl rfl rfl (y_load Try.isAgg3 rfl (cel_own 3 rfl rfl)) trivial ?_
            refine d_val (i := 20) rfl (by kernel_rfl) (by kernel_rfl) (by kernel_rfl) rfl rfl rfl (y_sub rfl rfl (by simp only [inK]; omega)) ?_
            refine d_split (i := 21) rfl (by kernel_rfl) (by kernel_rfl) (by kernel_rfl) rfl rfl rfl (y_neq rfl rfl) (fun p75 => ?_) (fun p76 => ?_)
            · exfalso; omega
            · refine d_val (i := 22) rfl (by kernel_rfl) (by kernel_rfl) (by kernel_rfl) rfl rfl rfl (y_move (v := (.bool _)) rfl) ?_
              refine d_val_g (i := 23) rfl (by kernel_rfl) (by kernel_rfl) (by kernel_rfl) rfl rfl rfl rfl (y_move (v := (.int _ _)) rfl) ?_
              refine d_val_g (i := 24) rfl (by kernel_rfl) (by kernel_rfl) (by kernel_rfl) rfl rfl rfl rfl (y_rem rfl rfl (by omega)) ?_
              refine d_split_g (i := 25) rfl (by kernel_rfl) (by kernel_rfl) (by kernel_rfl) rfl rfl rfl rfl (y_eql rfl rfl) (fun p77 => ?_) (fun p78 => ?_)
              · refine d_val_g (i := 26) rfl (by kernel_rfl) (by kernel_rfl) (by kernel_rfl) rfl rfl rfl rfl (y_move (v := (.bool _)) rfl) ?_
                refine d_val_g (i := 27) rfl (by kernel_rfl) (by kernel_rfl) (by kernel_rfl) rfl rfl rfl rfl (y_move (v := (.slice _ _ _)) rfl) ?_
                refine d_val_g (i := 28) rfl (by kernel_rfl) (by kernel_rfl) (by kernel_rfl) rfl rfl rfl rfl (y_move (v := (.int _ _)) rfl) ?_
                refine d_val_g (i := 29) rfl (by kernel_rfl) (by kernel_rfl) (by kernel_rfl) rfl rfl rfl rfl (y_slice_lit (q := 0) Try.runUnderlying58 Try.sizeOf56 rfl rfl rfl rfl) ?_
                refine d_val_g (i := 30) rfl (by kernel_rfl) (by kernel_rfl) (by kernel_rfl) rfl rfl rfl rfl (y_load Try.isAgg56 rfl (cel_own 12 rfl rfl)) ?_
                refine d_val_g (i := 31) rfl (by kernel_rfl) (by kernel_rfl) (by kernel_rfl) rfl rfl rfl rfl (y_move (v := (.slice _ _ _)) rfl) ?_
                refine d_val_g (i := 32) rfl (by kernel_rfl) (by kernel_rfl) (by kernel_rfl) rfl rfl rfl rfl (y_move (v := (.int _ _)) rfl) ?_
                refine d_val_g (i := 33) rfl (by kernel_rfl) (by kernel_rfl) (by kernel_rfl) rfl rfl rfl rfl (y_slice_lit (q := 0) Try.runUnderlying63 Try.sizeOf59 rfl rfl rfl rfl) ?_
                refine d_val_g (i := 34) rfl (by kernel_rfl) (by kernel_rfl) (by kernel_rfl) rfl rfl rfl rfl (y_load Try.isAgg59 rfl (cel_own 13 rfl rfl)) ?_
                refine d_eff (k := 35) (n := 6) (m := 18) rfl (by kernel_rfl) rfl ?_
                refine o_guard_yes rfl rfl ?_
                refine o_fn 6 (d := 216) rfl Try.call37 (Got_c e0 v.X0.acked v.X0.wA v.X0.ws.length v.X0.wc v.X0.next v.X0.gA v.X0.gs.length v.X0.gc b2 v.X0.sA v.X0.ss.length v.X0.sc v.X0.acked v.X0.next v.X0.nA v.X0.ns.length v.X0.nc v.X0.gs v.X0.gE v.X0.P1 hg0 (fun f hf => hi0 f (List.mem_append_right _ hf)) v.X0.ns v.X0.nE v.X0.P3 hn0 hk0 (by omega)) rfl ?_
                rintro _ _ ⟨rfl, rfl⟩
                refine o_norm _ (by simp only [pull, picks, setG, List.cons_append, List.nil_append, List.append_nil, List.drop_succ_cons, List.drop_zero]; rfl) ?_
                rw [show decide (v.X0.gs.map (·.bs) = v.X0.ns.map (·.bs)) = true from decide_eq_true hgm0]
                refine o_newgroup ?_
                refine o_newgroup ?_
                refine o_nil ?_
                refine d_val_g (i := 36) rfl (by kernel_rfl) (by kernel_rfl) (by kernel_rfl) rfl rfl rfl rfl (y_notb rfl) ?_
                refine d_val_g (i := 37) rfl (by kernel_rfl) (by kernel_rfl) (by kernel_rfl) rfl rfl rfl rfl (y_pick_t (v := (.bool _)) rfl rfl) ?_
                refine d_val (i := 38) rfl (by kernel_rfl) (by kernel_rfl) (by kernel_rfl) rfl rfl rfl (y_pick_f (v := (.bool _)) rfl rfl) ?_
                refine d_nil (n := 4) (m := 18) (by kernel_rfl) rfl ?_
                refine s_else rfl ?_
                refine s_skip ?_
                refine s_region ?_
                refine o_val rfl rfl rfl (y_add rfl rfl (by simp only [inK]; omega)) ?_
                refine o_val rfl rfl rfl (y_move (v := (.int _ _)) rfl) ?_
                refine o_nil ?_
                exact ⟨{ v with i := u.i + 1, X0 := { v.X0 with gs := [], gA := none, gc := 0, gE := [], ns := [], nA := none, nc := 0, nE := [] } }, (by first | omega | (dsimp only; omega)), ⟨by dsimp only; omega, ⟨hw0, OS.nil _ _, (fun f hf => hi0 f (List.mem_append_left _ (by simpa using hf))), hs0, hj0, OS.nil _ _, (fun f hf => absurd hf List.not_mem_nil), told_got hT0 rfl rfl rfl rfl rfl rfl⟩, hY1, ha0, ha1, hp0, hp1, hl0, hl1⟩, ⟨rfl, rfl, rfl, rfl, rfl, rfl, (congrArg (Value.int .i64) (by dsimp only; omega)), trivial⟩, (sub_picks [0, 3, 20, 0, 0, 1, 1, 16, 0, 0, 0, 0, 0, 0, 0, 0, 0, 0, 0, 0, 0, 0, 0, 0] (by kernel_rfl))⟩
              · refine d_val_g (i := 26) rfl (by kernel_rfl) (by kernel_rfl) (by kernel_rfl) rfl rfl rfl rfl (y_move (v := (.bool _)) rfl) ?_
                refine d_guard_no (i := 27) rfl (by kernel_rfl) (by kernel_rfl) (by kernel_rfl) rfl rfl rfl rfl rfl ?_
                refine d_guard_no (i := 28) rfl (by kernel_rfl) (by kernel_rfl) (by kernel_rfl) rfl rfl rfl rfl rfl ?_
                refine d_guard_no (i := 29) rfl (by kernel_rfl) (by kernel_rfl) (by kernel_rfl) rfl rfl rfl rfl rfl ?_
                refine d_guard_no (i := 30) rfl (by kernel_rfl) (by kernel_rfl) (by kernel_rfl) rfl rfl rfl rfl rfl ?_
                refine d_guard_no (i := 31) rfl (by kernel_rfl) (by kernel_rfl) (by kernel_rfl) rfl rfl rfl rfl rfl ?_
                refine d_guard_no (i := 32) rfl (by kernel_rfl) (by kernel_rfl) (by kernel_rfl) rfl rfl rfl rfl rfl ?_
                refine d_guard_no (i := 33) rfl (by kernel_rfl) (by kernel_rfl) (by kernel_rfl) rfl rfl rfl rfl rfl ?_
                refine d_guard_no (i := 34) rfl (by kernel_rfl) (by kernel_rfl) (by kernel_rfl) rfl rfl rfl rfl rfl ?_
                refine d_eff (k := 35) (n := 6) (m := 18) rfl (by kernel_rfl) rfl ?_
                refine o_guard_no rfl rfl rfl rfl rfl ?_
                refine o_nil ?_
                refine d_guard_no (i := 36) rfl (by kernel_rfl) (by kernel_rfl) (by kernel_rfl) rfl rfl rfl rfl rfl ?_
                refine d_val_g (i := 37) rfl (by kernel_rfl) (by kernel_rfl) (by kernel_rfl) rfl rfl rfl rfl (y_pick_f (v := (.bool _)) rfl rfl) ?_
                refine d_val (i := 38) rfl (by kernel_rfl) (by kernel_rfl) (by kernel_rfl) rfl rfl rfl (y_pick_f (v := (.bool _)) rfl rfl) ?_
                refine d_nil (n := 6) (m := 18) (by kernel_rfl) rfl ?_
                refine s_else rfl ?_
                refine s_skip ?_
                refine s_region ?_
                refine o_val rfl rfl rfl (y_add rfl rfl (by simp only [inK]; omega)) ?_
                refine o_val rfl rfl rfl (y_move (v := (.int _ _)) rfl) ?_
                refine o_nil ?_
                exact ⟨{ v with i := u.i + 1 }, (by first | omega | (dsimp only; omega)), ⟨by dsimp only; omega, hV⟩, ⟨rfl, rfl, rfl, rfl, rfl, rfl, (congrArg (Value.int .i64) (by dsimp only; omega)), trivial⟩, (sub_picks [0, 5, 0, 0, 0, 2, 2, 0, 0, 0, 0, 0, 0, 0, 0, 0, 0, 0, 0, 0, 0, 0, 0, 0] (by kernel_rfl))⟩
          · refine o_val rfl rfl rfl (y_load Try.isAgg60 rfl (cel_own 3 rfl rfl)) ?_
            refine o_nil ?_
            refine d_val (i := 12) rfl (by kernel_rfl) (by kernel_rfl) (by kernel_rfl) rfl rfl rfl (y_len Try.runUnderlying60 rfl) ?_
            refine d_eff2 (k := 4) (k' := 19) (n := 6) (m := 18) rfl rfl (by kernel_rfl) rfl ?_ ?_
            · refine o_fn 1 (d := 185) rfl Try.call36 (WaitL_c e0 v.X0.acked v.X0.wA v.X0.ws.length v.X0.wc v.X0.next v.X0.gA v.X0.gs.length v.X0.gc) rfl ?_
              rintro _ _ ⟨rfl, rfl⟩
              refine o_norm _ (by simp only [pull, picks, setG, List.cons_append, List.nil_append, List.append_nil, List.drop_succ_cons, List.drop_zero]; rfl) ?_
              refine o_nil ?_
              refine d_now (i := 19) [] rfl (by kernel_rfl) (by kernel_rfl) (by kernel_rfl) rfl rfl rfl (y_load Try.isAgg3 rfl (cel_own 3 rfl rfl)) trivial ?_
              refine d_val (i := 20) rfl (by kernel_rfl) (by kernel_rfl) (by kernel_rfl) rfl rfl rfl (y_sub rfl rfl (by simp only [inK]; omega)) ?_
              refine d_split (i := 21) rfl (by kernel_rfl) (by kernel_rfl) (by kernel_rfl) rfl rfl rfl (y_neq rfl rfl) (fun p79 => ?_) (fun p80 => ?_)
              · exfalso; omega
              · refine d_val (i := 22) rfl (by kernel_rfl) (by kernel_rfl) (by kernel_rfl) rfl rfl rfl (y_move (v := (.bool _)) rfl) ?_
                refine d_val_g (i := 23) rfl (by kernel_rfl) (by kernel_rfl) (by kernel_rfl) rfl rfl rfl rfl (y_move (v := (.int _ _)) rfl) ?_
                refine d_val_g (i := 24) rfl (by kernel_rfl) (by kernel_rfl) (by kernel_rfl) rfl rfl rfl rfl (y_rem rfl rfl (by omega)) ?_
                refine d_split_g (i := 25) rfl (by kernel_rfl) (by kernel_rfl) (by kernel_rfl) rfl rfl rfl rfl (y_eql rfl rfl) (fun p81 => ?_) (fun p82 => ?_)
                · refine d_val_g (i := 26) rfl (by kernel_rfl) (by kernel_rfl) (by kernel_rfl) rfl rfl rfl rfl (y_move (v := (.bool _)) rfl) ?_
                  refine d_val_g (i := 27) rfl (by kernel_rfl) (by kernel_rfl) (by kernel_rfl) rfl rfl rfl rfl (y_move (v := (.slice _ _ _)) rfl) ?_
                  refine d_val_g (i := 28) rfl (by kernel_rfl) (by kernel_rfl) (by kernel_rfl) rfl rfl rfl rfl (y_move (v := (.int _ _)) rfl) ?_
                  refine d_val_g (i := 29) rfl (by kernel_rfl) (by kernel_rfl) (by kernel_rfl) rfl rfl rfl rfl (y_slice_lit (q := 0) Try.runUnderlying58 Try.sizeOf56 rfl rfl rfl rfl) ?_
                  refine d_val_g (i := 30) rfl (by kernel_rfl) (by kernel_rfl) (by kernel_rfl) rfl rfl rfl rfl (y_load Try.isAgg56 rfl (cel_own 12 rfl rfl)) ?_
                  refine d_val_g (i := 31) rfl (by kernel_rfl) (by kernel_rfl) (by kernel_rfl) rfl rfl rfl rfl (y_move (v := (.slice _ _ _)) rfl) ?_
                  refine d_val_g (i := 32) rfl (by kernel_rfl) (by kernel_rfl) (by kernel_rfl) rfl rfl rfl rfl (y_move (v := (.int _ _)) rfl) ?_
                  refine d_val_g (i := 33) rfl (by kernel_rfl) (by kernel_rfl) (by kernel_rfl) rfl rfl rfl rfl (y_slice_lit (q := 0) Try.runUnderlying63 Try.sizeOf59 rfl rfl rfl rfl) ?_
                  refine d_val_g (i := 34) rfl (by kernel_rfl) (by kernel_rfl) (by kernel_rfl) rfl rfl rfl rfl (y_load Try.isAgg59 rfl (cel_own 13 rfl rfl)) ?_
                  refine d_eff (k := 35) (n := 6) (m := 18) rfl (by kernel_rfl) rfl ?_
                  refine o_guard_yes rfl rfl ?_
                  refine o_fn 6 (d := 216) rfl Try.call37 (Got_c e0 v.X0.acked v.X0.wA v.X0.ws.length v.X0.wc v.X0.next v.X0.gA v.X0.gs.length v.X0.gc b2 v.X0.sA v.X0.ss.length v.X0.sc v.X0.acked v.X0.next v.X0.nA v.X0.ns.length v.X0.nc v.X0.gs v.X0.gE v.X0.P1 hg0 (fun f hf => hi0 f (List.mem_append_right _ hf)) v.X0.ns v.X0.nE v.X0.P3 hn0 hk0 (by omega)) rfl ?_
                  rintro _ _ ⟨rfl, rfl⟩
                  refine o_norm _ (by simp only [pull, picks, setG, List.cons_append, List.nil_append, List.append_nil, List.drop_succ_cons, List.drop_zero]; rfl) ?_
                  rw [show decide (v.X0.gs.map (·.bs) = v.X0.ns.map (·.bs)) = true from decide_eq_true hgm0]
                  refine o_newgroup ?_
                  refine o_newgroup ?_
                  refine o_nil ?_
                  refine d_val_g (i := 36) rfl (by kernel_rfl) (by kernel_rfl) (by kernel_rfl) rfl rfl rfl rfl (y_notb rfl) ?_
                  refine d_val_g (i := 37) rfl (by kernel_rfl) (by kernel_rfl) (by kernel_rfl) rfl rfl rfl rfl (y_pick_t (v := (.bool _)) rfl rfl) ?_
                  refine d_val (i := 38) rfl (by kernel_rfl) (by kernel_rfl) (by kernel_rfl) rfl rfl rfl (y_pick_f (v := (.bool _)) rfl rfl) ?_
                  refine d_nil (n := 4) (m := 18) (by kernel_rfl) rfl ?_
                  refine s_else rfl ?_
                  refine s_skip ?_
                  refine s_region ?_
                  refine o_val rfl rfl rfl (y_add rfl rfl (by simp only [inK]; omega)) ?_
                  refine o_val rfl rfl rfl (y_move (v := (.int _ _)) rfl) ?_
                  refine o_nil ?_
                  exact ⟨{ v with i := u.i + 1, X0 := { v.X0 with gs := [], gA := none, gc := 0, gE := [], ns := [], nA := none, nc := 0, nE := [] } }, (by first | omega | (dsimp only; omega)), ⟨by dsimp only; omega, ⟨hw0, OS.nil _ _, (fun f hf => hi0 f (List.mem_append_left _ (by simpa using hf))), hs0, hj0, OS.nil _ _, (fun f hf => absurd hf List.not_mem_nil), told_got hT0 rfl rfl rfl rfl rfl rfl⟩, hY1, ha0, ha1, hp0, hp1, hl0, hl1⟩, ⟨rfl, rfl, rfl, rfl, rfl, rfl, (congrArg (Value.int .i64) (by dsimp only; omega)), trivial⟩, (sub_picks [0, 3, 20, 0, 0, 1, 1, 16, 0, 0, 0, 0, 0, 0, 0, 0, 0, 0, 0, 0, 0, 0, 0, 0] (by kernel_rfl))⟩
                · refine d_val_g (i := 26) rfl (by kernel_rfl) (by kernel_rfl) (by kernel_rfl) rfl rfl rfl rfl (y_move (v := (.bool _)) rfl) ?_
                  refine d_guard_no (i := 27) rfl (by kernel_rfl) (by kernel_rfl) (by kernel_rfl) rfl rfl rfl rfl rfl ?_
                  refine d_guard_no (i := 28) rfl (by kernel_rfl) (by kernel_rfl) (by kernel_rfl) rfl rfl rfl rfl rfl ?_
                  refine d_guard_no (i := 29) rfl (by kernel_rfl) (by kernel_rfl) (by kernel_rfl) rfl rfl rfl rfl rfl ?_
                  refine d_guard_no (i := 30) rfl (by kernel_rfl) (by kernel_rfl) (by kernel_rfl) rfl rfl rfl rfl rfl ?_
                  refine d_guard_no (i := 31) rfl (by kernel_rfl) (by kernel_rfl) (by kernel_rfl) rfl rfl rfl rfl rfl ?_
                  refine d_guard_no (i := 32) rfl (by kernel_rfl) (by kernel_rfl) (by kernel_rfl) rfl rfl rfl rfl rfl ?_
                  refine d_guard_no (i := 33) rfl (by kernel_rfl) (by kernel_rfl) (by kernel_rfl) rfl rfl rfl rfl rfl ?_
                  refine d_guard_no (i := 34) rfl (by kernel_rfl) (by kernel_rfl) (by kernel_rfl) rfl rfl rfl rfl rfl ?_
                  refine d_eff (k := 35) (n := 6) (m := 18) rfl (by kernel_rfl) rfl ?_
                  refine o_guard_no rfl rfl rfl rfl rfl ?_
                  refine o_nil ?_
                  refine d_guard_no (i := 36) rfl (by kernel_rfl) (by kernel_rfl) (by kernel_rfl) rfl rfl rfl rfl rfl ?_
                  refine d_val_g (i := 37) rfl (by kernel_rfl) (by kernel_rfl) (by kernel_rfl) rfl rfl rfl rfl (y_pick_f (v := (.bool _)) rfl rfl) ?_
                  refine d_val (i := 38) rfl (by kernel_rfl) (by kernel_rfl) (by kernel_rfl) rfl rfl rfl (y_pick_f (v := (.bool _)) rfl rfl) ?_
                  refine d_nil (n := 6) (m := 18) (by kernel_rfl) rfl ?_
                  refine s_else rfl ?_
                  refine s_skip ?_
                  refine s_region ?_
                  refine o_val rfl rfl rfl (y_add rfl rfl (by simp only [inK]; omega)) ?_
                  refine o_val rfl rfl rfl (y_move (v := (.int _ _)) rfl) ?_
                  refine o_nil ?_
                  exact ⟨{ v with i := u.i + 1 }, (by first | omega | (dsimp only; omega)), ⟨by dsimp only; omega, hV⟩, ⟨rfl, rfl, rfl, rfl, rfl, rfl, (congrArg (Value.int .i64) (by dsimp only; omega)), trivial⟩, (sub_picks [0, 5, 0, 0, 0, 2, 2, 0, 0, 0, 0, 0, 0, 0, 0, 0, 0, 0, 0, 0, 0, 0, 0, 0] (by kernel_rfl))⟩
            · refine o_val rfl rfl rfl (y_load Try.isAgg3 rfl (cel_own 3 rfl rfl)) ?_
              refine o_nil ?_
              refine d_val (i := 20) rfl (by kernel_rfl) (by kernel_rfl) (by kernel_rfl) rfl rfl rfl (y_sub rfl rfl (by simp only [inK]; omega)) ?_
              refine d_eff (k := 4) (n := 6) (m := 18) rfl (by kernel_rfl) rfl ?_
              refine o_fn 1 (d := 185) rfl Try.call36 (WaitL_c e0 v.X0.acked v.X0.wA v.X0.ws.length v.X0.wc v.X0.next v.X0.gA v.X0.gs.length v.X0.gc) rfl ?_
              rintro _ _ ⟨rfl, rfl⟩
              refine o_norm _ (by simp only [pull, picks, setG, List.cons_append, List.nil_append, List.append_nil, List.drop_succ_cons, List.drop_zero]; rfl) ?_
              refine o_nil ?_
              refine d_split (i := 21) rfl (by kernel_rfl) (by kernel_rfl) (by kernel_rfl) rfl rfl rfl (y_neq rfl rfl) (fun p83 => ?_) (fun p84 => ?_)
              · exfalso; omega
              · refine d_val (i := 22) rfl (by kernel_rfl) (by kernel_rfl) (by kernel_rfl) rfl rfl rfl (y_move (v := (.bool _)) rfl) ?_
                refine d_val_g (i := 23) rfl (by kernel_rfl) (by kernel_rfl) (by kernel_rfl) rfl rfl rfl rfl (y_move (v := (.int _ _)) rfl) ?_
                refine d_val_g (i := 24) rfl (by kernel_rfl) (by kernel_rfl) (by kernel_rfl) rfl rfl rfl rfl (y_rem rfl rfl (by omega)) ?_
                refine d_split_g (i := 25) rfl (by kernel_rfl) (by kernel_rfl) (by kernel_rfl) rfl rfl rfl rfl (y_eql rfl rfl) (fun p85 => ?_) (fun p86 => ?_)
                · refine d_val_g (i := 26) rfl (by kernel_rfl) (by kernel_rfl) (by kernel_rfl) rfl rfl rfl rfl (y_move (v := (.bool _)) rfl) ?_
                  refine d_val_g (i := 27) rfl (by kernel_rfl) (by kernel_rfl) (by kernel_rfl) rfl rfl rfl rfl (y_move (v := (.slice _ _ _)) rfl) ?_
                  refine d_val_g (i := 28) rfl (by kernel_rfl) (by kernel_rfl) (by kernel_rfl) rfl rfl rfl rfl (y_move (v := (.int _ _)) rfl) ?_
                  refine d_val_g (i := 29) rfl (by kernel_rfl) (by kernel_rfl) (by kernel_rfl) rfl rfl rfl rfl (y_slice_lit (q := 0) Try.runUnderlying58 Try.sizeOf56 rfl rfl rfl rfl) ?_
                  refine d_val_g (i := 30) rfl (by kernel_rfl) (by kernel_rfl) (by kernel_rfl) rfl rfl rfl rfl (y_load Try.isAgg56 rfl (cel_own 12 rfl rfl)) ?_
                  refine d_val_g (i := 31) rfl (by kernel_rfl) (by kernel_rfl) (by kernel_rfl) rfl rfl rfl rfl (y_move (v := (.slice _ _ _)) rfl) ?_
                  refine d_val_g (i := 32) rfl (by kernel_rfl) (by kernel_rfl) (by kernel_rfl) rfl rfl rfl rfl (y_move (v := (.int _ _)) rfl) ?_
                  refine d_val_g (i := 33) rfl (by kernel_rfl) (by kernel_rfl) (by kernel_rfl) rfl rfl rfl rfl (y_slice_lit (q := 0) Try.runUnderlying63 Try.sizeOf59 rfl rfl rfl rfl) ?_
                  refine d_val_g (i := 34) rfl (by kernel_rfl) (by kernel_rfl) (by kernel_rfl) rfl rfl rfl rfl (y_load Try.isAgg59 rfl (cel_own 13 rfl rfl)) ?_
                  refine d_eff (k := 35) (n := 6) (m := 18) rfl (by kernel_rfl) rfl ?_
                  refine o_guard_yes rfl rfl ?_
                  refine o_fn 6 (d := 216) rfl Try.call37 (Got_c e0 v.X0.acked v.X0.wA v.X0.ws.length v.X0.wc v.X0.next v.X0.gA v.X0.gs.length v.X0.gc b2 v.X0.sA v.X0.ss.length v.X0.sc v.X0.acked v.X0.next v.X0.nA v.X0.ns.length v.X0.nc v.X0.gs v.X0.gE v.X0.P1 hg0 (fun f hf => hi0 f (List.mem_append_right _ hf)) v.X0.ns v.X0.nE v.X0.P3 hn0 hk0 (by omega)) rfl ?_
                  rintro _ _ ⟨rfl, rfl⟩
                  refine o_norm _ (by simp only [pull, picks, setG, List.cons_append, List.nil_append, List.append_nil, List.drop_succ_cons, List.drop_zero]; rfl) ?_
                  rw [show decide (v.X0.gs.map (·.bs) = v.X0.ns.map (·.bs)) = true from decide_eq_true hgm0]
                  refine o_newgroup ?_
                  refine o_newgroup ?_
                  refine o_nil ?_
                  refine d_val_g (i := 36) rfl (by kernel_rfl) (by kernel_rfl) (by kernel_rfl) rfl rfl rfl rfl (y_notb rfl) ?_
                  refine d_val_g (i := 37) rfl (by kernel_rfl) (by kernel_rfl) (by kernel_rfl) rfl rfl rfl rfl (y_pick_t (v := (.bool _)) rfl rfl) ?_
                  refine d_val (i := 38) rfl (by kernel_rfl) (by kernel_rfl) (by kernel_rfl) rfl rfl rfl (y_pick_f (v := (.bool _)) rfl rfl) ?_
                  refine d_nil (n := 4) (m := 18) (by kernel_rfl) rfl ?_
                  refine s_else rfl ?_
                  refine s_skip ?_
                  refine s_region ?_
                  refine o_val rfl rfl rfl (y_add rfl rfl (by simp only [inK]; omega)) ?_
                  refine o_val rfl rfl rfl (y_move (v := (.int _ _)) rfl) ?_
                  refine o_nil ?_
                  exact ⟨{ v with i := u.i + 1, X0 := { v.X0 with gs := [], gA := none, gc := 0, gE := [], ns := [], nA := none, nc := 0, nE := [] } }, (by first | omega | (dsimp only; omega)), ⟨by dsimp only; omega, ⟨hw0, OS.nil _ _, (fun f hf => hi0 f (List.mem_append_left _ (by simpa using hf))), hs0, hj0, OS.nil _ _, (fun f hf => absurd hf List.not_mem_nil), told_got hT0 rfl rfl rfl rfl rfl rfl⟩, hY1, ha0, ha1, hp0, hp1, hl0, hl1⟩, ⟨rfl, rfl, rfl, rfl, rfl, rfl, (congrArg (Value.int .i64) (by dsimp only; omega)), trivial⟩, (sub_picks [0, 3, 20, 0, 0, 1, 1, 16, 0, 0, 0, 0, 0, 0, 0, 0, 0, 0, 0, 0, 0, 0, 0, 0] (by kernel_rfl))⟩
                · refine d_val_g (i := 26) rfl (by kernel_rfl) (by kernel_rfl) (by kernel_rfl) rfl rfl rfl rfl (y_move (v := (.bool _)) rfl) ?_
                  refine d_guard_no (i := 27) rfl (by kernel_rfl) (by kernel_rfl) (by kernel_rfl) rfl rfl rfl rfl rfl ?_
                  refine d_guard_no (i := 28) rfl (by kernel_rfl) (by kernel_rfl) (by kernel_rfl) rfl rfl rfl rfl rfl ?_
                  refine d_guard_no (i := 29) rfl (by kernel_rfl) (by kernel_rfl) (by kernel_rfl) rfl rfl rfl rfl rfl ?_
                  refine d_guard_no (i := 30) rfl (by kernel_rfl) (by kernel_rfl) (by kernel_rfl) rfl rfl rfl rfl rfl ?_
                  refine d_guard_no (i := 31) rfl (by kernel_rfl) (by kernel_rfl) (by kernel_rfl) rfl rfl rfl rfl rfl ?_
                  refine d_guard_no (i := 32) rfl (by kernel_rfl) (by kernel_rfl) (by kernel_rfl) rfl rfl rfl rfl rfl ?_
                  refine d_guard_no (i := 33) rfl (by kernel_rfl) (by kernel_rfl) (by kernel_rfl) rfl rfl rfl rfl rfl ?_
                  refine d_guard_no (i := 34) rfl (by kernel_rfl) (by kernel_rfl) (by kernel_rfl) rfl rfl rfl rfl rfl ?_
                  refine d_eff (k := 35) (n := 6) (m := 18) rfl (by kernel_rfl) rfl ?_
                  refine o_guard_no rfl rfl rfl rfl rfl ?_
                  refine o_nil ?_
                  refine d_guard_no (i := 36) rfl (by kernel_rfl) (by kernel_rfl) (by kernel_rfl) rfl rfl rfl rfl rfl ?_
                  refine d_val_g (i := 37) rfl (by kernel_rfl) (by kernel_rfl) (by kernel_rfl) rfl rfl rfl rfl (y_pick_f (v := (.bool _)) rfl rfl) ?_
                  refine d_val (i := 38) rfl (by kernel_rfl) (by kernel_rfl) (by kernel_rfl) rfl rfl rfl (y_pick_f (v := (.bool _)) rfl rfl) ?_
                  refine d_nil (n := 6) (m := 18) (by kernel_rfl) rfl ?_
                  refine s_else rfl ?_
                  refine s_skip ?_
                  refine s_region ?_
                  refine o_val rfl rfl rfl (y_add rfl rfl (by simp only [inK]; omega)) ?_
                  refine o_val rfl rfl rfl (y_move (v := (.int _ _)) rfl) ?_
                  refine o_nil ?_
                  exact ⟨{ v with i := u.i + 1 }, (by first | omega | (dsimp only; omega)), ⟨by dsimp only; omega, hV⟩, ⟨rfl, rfl, rfl, rfl, rfl, rfl, (congrArg (Value.int .i64) (by dsimp only; omega)), trivial⟩, (sub_picks [0, 5, 0, 0, 0, 2, 2, 0, 0, 0, 0, 0, 0, 0, 0, 0, 0, 0, 0, 0, 0, 0, 0, 0] (by kernel_rfl))⟩
          · refine o_val rfl rfl rfl (y_load Try.isAgg3 rfl (cel_own 3 rfl rfl)) ?_
            refine o_nil ?_
            refine d_eff2 (k := 4) (k' := 11) (n := 6) (m := 18) rfl rfl (by kernel_rfl) rfl ?_ ?_
            · refine o_fn 1 (d := 185) rfl Try.call36 (WaitL_c e0 v.X0.acked v.X0.wA v.X0.ws.length v.X0.wc v.X0.next v.X0.gA v.X0.gs.length v.X0.gc) rfl ?_
              rintro _ _ ⟨rfl, rfl⟩
              refine o_norm _ (by simp only [pull, picks, setG, List.cons_append, List.nil_append, List.append_nil, List.drop_succ_cons, List.drop_zero]; rfl) ?_
              refine o_nil ?_
              refine d_now (i := 11) [] rfl (by kernel_rfl) (by kernel_rfl) (by kernel_rfl) rfl rfl rfl (y_load Try.isAgg60 rfl (cel_own 3 rfl rfl)) trivial ?_
              refine d_val (i := 12) rfl (by kernel_rfl) (by kernel_rfl) (by kernel_rfl) rfl rfl rfl (y_len Try.runUnderlying60 rfl) ?_
              refine d_val (i := 20) rfl (by kernel_rfl) (by kernel_rfl) (by kernel_rfl) rfl rfl rfl (y_sub rfl rfl (by simp only [inK]; omega)) ?_
              refine d_split (i := 21) rfl (by kernel_rfl) (by kernel_rfl) (by kernel_rfl) rfl rfl rfl (y_neq rfl rfl) (fun p87 => ?_) (fun p88 => ?_)
              · exfalso; omega
              · refine d_val (i := 22) rfl (by kernel_rfl) (by kernel_rfl) (by kernel_rfl) rfl rfl rfl (y_move (v := (.bool _)) rfl) ?_
                refine d_val_g (i := 23) rfl (by kernel_rfl) (by kernel_rfl) (by kernel_rfl) rfl rfl rfl rfl (y_move (v := (.int _ _)) rfl) ?_
                refine d_val_g (i := 24) rfl (by kernel_rfl) (by kernel_rfl) (by kernel_rfl) rfl rfl rfl rfl (y_rem rfl rfl (by omega)) ?_
                refine d_split_g (i := 25) rfl (by kernel_rfl) (by kernel_rfl) (by kernel_rfl) rfl rfl rfl rfl (y_eql rfl rfl) (fun p89 => ?_) (fun p90 => ?_)
                · refine d_val_g (i := 26) rfl (by kernel_rfl) (by kernel_rfl) (by kernel_rfl) rfl rfl rfl rfl (y_move (v := (.bool _)) rfl) ?_
                  refine d_val_g (i := 27) rfl (by kernel_rfl) (by kernel_rfl) (by kernel_rfl) rfl rfl rfl rfl (y_move (v := (.slice _ _ _)) rfl) ?_
                  refine d_val_g (i := 28) rfl (by kernel_rfl) (by kernel_rfl) (by kernel_rfl) rfl rfl rfl rfl (y_move (v := (.int _ _)) rfl) ?_
                  refine d_val_g (i := 29) rfl (by kernel_rfl) (by kernel_rfl) (by kernel_rfl) rfl rfl rfl rfl (y_slice_lit (q := 0) Try.runUnderlying58 Try.sizeOf56 rfl rfl rfl rfl) ?_
                  refine d_val_g (i := 30) rfl (by kernel_rfl) (by kernel_rfl) (by kernel_rfl) rfl rfl rfl rfl (y_load Try.isAgg56 rfl (cel_own 12 rfl rfl)) ?_
                  refine d_val_g (i := 31) rfl (by kernel_rfl) (by kernel_rfl) (by kernel_rfl) rfl rfl rfl rfl (y_move (v := (.slice _ _ _)) rfl) ?_
                  refine d_val_g (i := 32) rfl (by kernel_rfl) (by kernel_rfl) (by kernel_rfl) rfl rfl rfl rfl (y_move (v := (.int _ _)) rfl) ?_
                  refine d_val_g (i := 33) rfl (by kernel_rfl) (by kernel_rfl) (by kernel_rfl) rfl rfl rfl rfl (y_slice_lit (q := 0) Try.runUnderlying63 Try.sizeOf59 rfl rfl rfl rfl) ?_
                  refine d_val_g (i := 34) rfl (by kernel_rfl) (by kernel_rfl) (by kernel_rfl) rfl rfl rfl rfl (y_load Try.isAgg59 rfl (cel_own 13 rfl rfl)) ?_
                  refine d_eff (k := 35) (n := 6) (m := 18) rfl (by kernel_rfl) rfl ?_
                  refine o_guard_yes rfl rfl ?_
                  refine o_fn 6 (d := 216) rfl Try.call37 (Got_c e0 v.X0.acked v.X0.wA v.X0.ws.length v.X0.wc v.X0.next v.X0.gA v.X0.gs.length v.X0.gc b2 v.X0.sA v.X0.ss.length v.X0.sc v.X0.acked v.X0.next v.X0.nA v.X0.ns.length v.X0.nc v.X0.gs v.X0.gE v.X0.P1 hg0 (fun f hf => hi0 f (List.mem_append_right _ hf)) v.X0.ns v.X0.nE v.X0.P3 hn0 hk0 (by omega)) rfl ?_
                  rintro _ _ ⟨rfl, rfl⟩
                  refine o_norm _ (by simp only [pull, picks, setG, List.cons_append, List.nil_append, List.append_nil, List.drop_succ_cons, List.drop_zero]; rfl) ?_
                  rw [show decide (v.X0.gs.map (·.bs) = v.X0.ns.map (·.bs)) = true from decide_eq_true hgm0]
                  refine o_newgroup ?_
                  refine o_newgroup ?_
                  refine o_nil ?_
                  refine d_val_g (i := 36) rfl (by kernel_rfl) (by kernel_rfl) (by kernel_rfl) rfl rfl rfl rfl (y_notb rfl) ?_
                  refine d_val_g (i := 37) rfl (by kernel_rfl) (by kernel_rfl) (by kernel_rfl) rfl rfl rfl rfl (y_pick_t (v := (.bool _)) rfl rfl) ?_
                  refine d_val (i := 38) rfl (by kernel_rfl) (by kernel_rfl) (by kernel_rfl) rfl rfl rfl (y_pick_f (v := (.bool _)) rfl rfl) ?_
                  refine d_nil (n := 4) (m := 18) (by kernel_rfl) rfl ?_
                  refine s_else rfl ?_
                  refine s_skip ?_
                  refine s_region ?_
                  refine o_val rfl rfl rfl (y_add rfl rfl (by simp only [inK]; omega)) ?_
                  refine o_val rfl rfl rfl (y_move (v := (.int _ _)) rfl) ?_
                  refine o_nil ?_
                  exact ⟨{ v with i := u.i + 1, X0 := { v.X0 with gs := [], gA := none, gc := 0, gE := [], ns := [], nA := none, nc := 0, nE := [] } }, (by first | omega | (dsimp only; omega)), ⟨by dsimp only; omega, ⟨hw0, OS.nil _ _, (fun f hf => hi0 f (List.mem_append_left _ (by simpa using hf))), hs0, hj0, OS.nil _ _, (fun f hf => absurd hf List.not_mem_nil), told_got hT0 rfl rfl rfl rfl rfl rfl⟩, hY1, ha0, ha1, hp0, hp1, hl0, hl1⟩, ⟨rfl, rfl, rfl, rfl, rfl, rfl, (congrArg (Value.int .i64) (by dsimp only; omega)), trivial⟩, (sub_picks [0, 3, 20, 0, 0, 1, 1, 16, 0, 0, 0, 0, 0, 0, 0, 0, 0, 0, 0, 0, 0, 0, 0, 0] (by kernel_rfl))⟩
                · refine d_val_g (i := 26) rfl (by kernel_rfl) (by kernel_rfl) (by kernel_rfl) rfl rfl rfl rfl (y_move (v := (.bool _)) rfl) ?_
                  refine d_guard_no (i := 27) rfl (by kernel_rfl) (by kernel_rfl) (by kernel_rfl) rfl rfl rfl rfl rfl ?_
                  refine d_guard_no (i := 28) rfl (by kernel_rfl) (by kernel_rfl) (by kernel_rfl) rfl rfl rfl rfl rfl ?_
                  refine d_guard_no (i := 29) rfl (by kernel_rfl) (by kernel_rfl) (by kernel_rfl) rfl rfl rfl rfl rfl ?_
                  refine d_guard_no (i := 30) rfl (by kernel_rfl) (by kernel_rfl) (by kernel_rfl) rfl rfl rfl rfl rfl ?_
                  refine d_guard_no (i := 31) rfl (by kernel_rfl) (by kernel_rfl) (by kernel_rfl) rfl rfl rfl rfl rfl ?_
                  refine d_guard_no (i := 32) rfl (by kernel_rfl) (by kernel_rfl) (by kernel_rfl) rfl rfl rfl rfl rfl ?_
                  refine d_guard_no (i := 33) rfl (by kernel_rfl) (by kernel_rfl) (by kernel_rfl) rfl rfl rfl rfl rfl ?_
                  refine d_guard_no (i := 34) rfl (by kernel_rfl) (by kernel_rfl) (by kernel_rfl) rfl rfl rfl rfl rfl ?_
                  refine d_eff (k := 35) (n := 6) (m := 18) rfl (by kernel_rfl) rfl ?_
                  refine o_guard_no rfl rfl rfl rfl rfl ?_
                  refine o_nil ?_
                  refine d_guard_no (i := 36) rfl (by kernel_rfl) (by kernel_rfl) (by kernel_rfl) rfl rfl rfl rfl rfl ?_
                  refine d_val_g (i := 37) rfl (by kernel_rfl) (by kernel_rfl) (by kernel_rfl) rfl rfl rfl rfl (y_pick_f (v := (.bool _)) rfl rfl) ?_
                  refine d_val (i := 38) rfl (by kernel_rfl) (by kernel_rfl) (by kernel_rfl) rfl rfl rfl (y_pick_f (v := (.bool _)) rfl rfl) ?_
                  refine d_nil (n := 6) (m := 18) (by kernel_rfl) rfl ?_
                  refine s_else rfl ?_
                  refine s_skip ?_
                  refine s_region ?_
                  refine o_val rfl rfl rfl (y_add rfl rfl (by simp only [inK]; omega)) ?_
                  refine o_val rfl rfl rfl (y_move (v := (.int _ _)) rfl) ?_
                  refine o_nil ?_
                  exact ⟨{ v with i := u.i + 1 }, (by first | omega | (dsimp only; omega)), ⟨by dsimp only; omega, hV⟩, ⟨rfl, rfl, rfl, rfl, rfl, rfl, (congrArg (Value.int .i64) (by dsimp only; omega)), trivial⟩, (sub_picks [0, 5, 0, 0, 0, 2, 2, 0, 0, 0, 0, 0, 0, 0, 0, 0, 0, 0, 0, 0, 0, 0, 0, 0] (by kernel_rfl))⟩
            · refine o_val rfl rfl rfl (y_load Try.isAgg60 rfl (cel_own 3 rfl rfl)) ?_
              refine o_nil ?_
              refine d_val (i := 12) rfl (by kernel_rfl) (by kernel_rfl) (by kernel_rfl) rfl rfl rfl (y_len Try.runUnderlying60 rfl) ?_
              refine d_val (i := 20) rfl (by kernel_rfl) (by kernel_rfl) (by kernel_rfl) rfl rfl rfl (y_sub rfl rfl (by simp only [inK]; omega)) ?_
              refine d_eff (k := 4) (n := 6) (m := 18) rfl (by kernel_rfl) rfl ?_
              refine o_fn 1 (d := 185) rfl Try.call36 (WaitL_c e0 v.X0.acked v.X0.wA v.X0.ws.length v.X0.wc v.X0.next v.X0.gA v.X0.gs.length v.X0.gc) rfl ?_
              rintro _ _ ⟨rfl, rfl⟩
              refine o_norm _ (by simp only [pull, picks, setG, List.cons_append, List.nil_append, List.append_nil, List.drop_succ_cons, List.drop_zero]; rfl) ?_
              refine o_nil ?_
              refine d_split (i := 21) rfl (by kernel_rfl) (by kernel_rfl) (by kernel_rfl) rfl rfl rfl (y_neq rfl rfl) (fun p91 => ?_) (fun p92 => ?_)
              · exfalso; omega
              · refine d_val (i := 22) rfl (by kernel_rfl) (by kernel_rfl) (by kernel_rfl) rfl rfl rfl (y_move (v := (.bool _)) rfl) ?_
                refine d_val_g (i := 23) rfl (by kernel_rfl) (by kernel_rfl) (by kernel_rfl) rfl rfl rfl rfl (y_move (v := (.int _ _)) rfl) ?_
                refine d_val_g (i := 24) rfl (by kernel_rfl) (by kernel_rfl) (by kernel_rfl) rfl rfl rfl rfl (y_rem rfl rfl (by omega)) ?_
                refine d_split_g (i := 25) rfl (by kernel_rfl) (by kernel_rfl) (by kernel_rfl) rfl rfl rfl rfl (y_eql rfl rfl) (fun p93 => ?_) (fun p94 => ?_)
                · refine d_val_g (i := 26) rfl (by kernel_rfl) (by kernel_rfl) (by kernel_rfl) rfl rfl rfl rfl (y_move (v := (.bool _)) rfl) ?_
                  refine d_val_g (i := 27) rfl (by kernel_rfl) (by kernel_rfl) (by kernel_rfl) rfl rfl rfl rfl (y_move (v := (.slice _ _ _)) rfl) ?_
                  refine d_val_g (i := 28) rfl (by kernel_rfl) (by kernel_rfl) (by kernel_rfl) rfl rfl rfl rfl (y_move (v := (.int _ _)) rfl) ?_
                  refine d_val_g (i := 29) rfl (by kernel_rfl) (by kernel_rfl) (by kernel_rfl) rfl rfl rfl rfl (y_slice_lit (q := 0) Try.runUnderlying58 Try.sizeOf56 rfl rfl rfl rfl) ?_
                  refine d_val_g (i := 30) rfl (by kernel_rfl) (by kernel_rfl) (by kernel_rfl) rfl rfl rfl rfl (y_load Try.isAgg56 rfl (cel_own 12 rfl rfl)) ?_
                  refine d_val_g (i := 31) rfl (by kernel_rfl) (by kernel_rfl) (by kernel_rfl) rfl rfl rfl rfl (y_move (v := (.slice _ _ _)) rfl) ?_
                  refine d_val_g (i := 32) rfl (by kernel_rfl) (by kernel_rfl) (by kernel_rfl) rfl rfl rfl rfl (y_move (v := (.int _ _)) rfl) ?_
                  refine d_val_g (i := 33) rfl (by kernel_rfl) (by kernel_rfl) (by kernel_rfl) rfl rfl rfl rfl (y_slice_lit (q := 0) Try.runUnderlying63 Try.sizeOf59 rfl rfl rfl rfl) ?_
                  refine d_val_g (i := 34) rfl (by kernel_rfl) (by kernel_rfl) (by kernel_rfl) rfl rfl rfl rfl (y_load Try.isAgg59 rfl (cel_own 13 rfl rfl)) ?_
                  refine d_eff (k := 35) (n := 6) (m := 18) rfl (by kernel_rfl) rfl ?_
                  refine o_guard_yes rfl rfl ?_
                  refine o_fn 6 (d := 216) rfl Try.call37 (Got_c e0 v.X0.acked v.X0.wA v.X0.ws.length v.X0.wc v.X0.next v.X0.gA v.X0.gs.length v.X0.gc b2 v.X0.sA v.X0.ss.length v.X0.sc v.X0.acked v.X0.next v.X0.nA v.X0.ns.length v.X0.nc v.X0.gs v.X0.gE v.X0.P1 hg0 (fun f hf => hi0 f (List.mem_append_right _ hf)) v.X0.ns v.X0.nE v.X0.P3 hn0 hk0 (by omega)) rfl ?_
                  rintro _ _ ⟨rfl, rfl⟩
                  refine o_norm _ (by simp only [pull, picks, setG, List.cons_append, List.nil_append, List.append_nil, List.drop_succ_cons, List.drop_zero]; rfl) ?_
                  rw [show decide (v.X0.gs.map (·.bs) = v.X0.ns.map (·.bs)) = true from decide_eq_true hgm0]
                  refine o_newgroup ?_
                  refine o_newgroup ?_
                  refine o_nil ?_
                  refine d_val_g (i := 36) rfl (by kernel_rfl) (by kernel_rfl) (by kernel_rfl) rfl rfl rfl rfl (y_notb rfl) ?_
                  refine d_val_g (i := 37) rfl (by kernel_rfl) (by kernel_rfl) (by kernel_rfl) rfl rfl rfl rfl (y_pick_t (v := (.bool _)) rfl rfl) ?_
                  refine d_val (i := 38) rfl (by kernel_rfl) (by kernel_rfl) (by kernel_rfl) rfl rfl rfl (y_pick_f (v := (.bool _)) rfl rfl) ?_
                  refine d_nil (n := 4) (m := 18) (by kernel_rfl) rfl ?_
                  refine s_else rfl ?_
                  refine s_skip ?_
                  refine s_region ?_
                  refine o_val rfl rfl rfl (y_add rfl rfl (by simp only [inK]; omega)) ?_
                  refine o_val rfl rfl rfl (y_move (v := (.int _ _)) rfl) ?_
                  refine o_nil ?_
                  exact ⟨{ v with i := u.i + 1, X0 := { v.X0 with gs := [], gA := none, gc := 0, gE := [], ns := [], nA := none, nc := 0, nE := [] } }, (by first | omega | (dsimp only; omega)), ⟨by dsimp only; omega, ⟨hw0, OS.nil _ _, (fun f hf => hi0 f (List.mem_append_left _ (by simpa using hf))), hs0, hj0, OS.nil _ _, (fun f hf => absurd hf List.not_mem_nil), told_got hT0 rfl rfl rfl rfl rfl rfl⟩, hY1, ha0, ha1, hp0, hp1, hl0, hl1⟩, ⟨rfl, rfl, rfl, rfl, rfl, rfl, (congrArg (Value.int .i64) (by dsimp only; omega)), trivial⟩, (sub_picks [0, 3, 20, 0, 0, 1, 1, 16, 0, 0, 0, 0, 0, 0, 0, 0, 0, 0, 0, 0, 0, 0, 0, 0] (by kernel_rfl))⟩
                · refine d_val_g (i := 26) rfl (by kernel_rfl) (by kernel_rfl) (by kernel_rfl) rfl rfl rfl rfl (y_move (v := (.bool _)) rfl) ?_
                  refine d_guard_no (i := 27) rfl (by kernel_rfl) (by kernel_rfl) (by kernel_rfl) rfl rfl rfl rfl rfl ?_
                  refine d_guard_no (i := 28) rfl (by kernel_rfl) (by kernel_rfl) (by kernel_rfl) rfl rfl rfl rfl rfl ?_
                  refine d_guard_no (i := 29) rfl (by kernel_rfl) (by kernel_rfl) (by kernel_rfl) rfl rfl rfl rfl rfl ?_
                  refine d_guard_no (i := 30) rfl (by kernel_rfl) (by kernel_rfl) (by kernel_rfl) rfl rfl rfl rfl rfl ?_
                  refine d_guard_no (i := 31) rfl (by kernel_rfl) (by kernel_rfl) (by kernel_rfl) rfl rfl rfl rfl rfl ?_
                  refine d_guard_no (i := 32) rfl (by kernel_rfl) (by kernel_rfl) (by kernel_rfl) rfl rfl rfl rfl rfl ?_
                  refine d_guard_no (i := 33) rfl (by kernel_rfl) (by kernel_rfl) (by kernel_rfl) rfl rfl rfl rfl rfl ?_
                  refine d_guard_no (i := 34) rfl (by kernel_rfl) (by kernel_rfl) (by kernel_rfl) rfl rfl rfl rfl rfl ?_
                  refine d_eff (k := 35) (n := 6) (m := 18) rfl (by kernel_rfl) rfl ?_
                  refine o_guard_no rfl rfl rfl rfl rfl ?_
                  refine o_nil ?_
                  refine d_guard_no (i := 36) rfl (by kernel_rfl) (by kernel_rfl) (by kernel_rfl) rfl rfl rfl rfl rfl ?_
                  refine d_val_g (i := 37) rfl (by kernel_rfl) (by kernel_rfl) (by kernel_rfl) rfl rfl rfl rfl (y_pick_f (v := (.bool _)) rfl rfl) ?_
                  refine d_val (i := 38) rfl (by kernel_rfl) (by kernel_rfl) (by kernel_rfl) rfl rfl rfl (y_pick_f (v := (.bool _)) rfl rfl) ?_
                  refine d_nil (n := 6) (m := 18) (by kernel_rfl) rfl ?_
                  refine s_else rfl ?_
                  refine s_skip ?_
                  refine s_region ?_
                  refine o_val rfl rfl rfl (y_add rfl rfl (by simp only [inK]; omega)) ?_
                  refine o_val rfl rfl rfl (y_move (v := (.int _ _)) rfl) ?_
                  refine o_nil ?_
                  exact ⟨{ v with i := u.i + 1 }, (by first | omega | (dsimp only; omega)), ⟨by dsimp only; omega, hV⟩, ⟨rfl, rfl, rfl, rfl, rfl, rfl, (congrArg (Value.int .i64) (by dsimp only; omega)), trivial⟩, (sub_picks [0, 5, 0, 0, 0, 2, 2, 0, 0, 0, 0, 0, 0, 0, 0, 0, 0, 0, 0, 0, 0, 0, 0, 0] (by kernel_rfl))⟩
      · refine s_exit ?_
        refine s_seq ?_
        refine s_pull 17 ?_
        refine s_norm _ (by simp only [pull, picks, setG, List.cons_append, List.nil_append, List.append_nil, List.drop_succ_cons, List.drop_zero]; rfl) ?_
        refine s_pull 17 ?_
        refine s_norm _ (by simp only [pull, picks, setG, List.cons_append, List.nil_append, List.append_nil, List.drop_succ_cons, List.drop_zero]; rfl) ?_
        refine s_pull 15 ?_
        refine s_norm _ (by simp only [pull, picks, setG, List.cons_append, List.nil_append, List.append_nil, List.drop_succ_cons, List.drop_zero]; rfl) ?_
        refine s_pull 15 ?_
        refine s_norm _ (by simp only [pull, picks, setG, List.cons_append, List.nil_append, List.append_nil, List.drop_succ_cons, List.drop_zero]; rfl) ?_
        refine s_pull 15 ?_
        refine s_norm _ (by simp only [pull, picks, setG, List.cons_append, List.nil_append, List.append_nil, List.drop_succ_cons, List.drop_zero]; rfl) ?_
        refine s_pull 14 ?_
        refine s_norm _ (by simp only [pull, picks, setG, List.cons_append, List.nil_append, List.append_nil, List.drop_succ_cons, List.drop_zero]; rfl) ?_
        refine s_pull 14 ?_
        refine s_norm _ (by simp only [pull, picks, setG, List.cons_append, List.nil_append, List.append_nil, List.drop_succ_cons, List.drop_zero]; rfl) ?_
        refine s_pull 14 ?_
        refine s_norm _ (by simp only [pull, picks, setG, List.cons_append, List.nil_append, List.append_nil, List.drop_succ_cons, List.drop_zero]; rfl) ?_
        refine s_pull 12 ?_
        refine s_norm _ (by simp only [pull, picks, setG, List.cons_append, List.nil_append, List.append_nil, List.drop_succ_cons, List.drop_zero]; rfl) ?_
        refine s_pull 12 ?_
        refine s_norm _ (by simp only [pull, picks, setG, List.cons_append, List.nil_append, List.append_nil, List.drop_succ_cons, List.drop_zero]; rfl) ?_
        refine s_pull 12 ?_
        refine s_norm _ (by simp only [pull, picks, setG, List.cons_append, List.nil_append, List.append_nil, List.drop_succ_cons, List.drop_zero]; rfl) ?_
        refine s_pull 11 ?_
        refine s_norm _ (by simp only [pull, picks, setG, List.cons_append, List.nil_append, List.append_nil, List.drop_succ_cons, List.drop_zero]; rfl) ?_
        refine s_drawn 12 (by kernel_rfl) ?_
        refine d_val (i := 0) rfl (by kernel_rfl) (by kernel_rfl) (by kernel_rfl) rfl rfl rfl (y_move (v := (.slice _ _ _)) rfl) ?_
        refine d_val (i := 1) rfl (by kernel_rfl) (by kernel_rfl) (by kernel_rfl) rfl rfl rfl (y_slice_lit (q := 0) Try.runUnderlying58 Try.sizeOf56 rfl rfl rfl rfl) ?_
        refine d_val (i := 2) rfl (by kernel_rfl) (by kernel_rfl) (by kernel_rfl) rfl rfl rfl (y_load Try.isAgg56 rfl (cel_own 6 rfl rfl)) ?_
        refine d_val (i := 3) rfl (by kernel_rfl) (by kernel_rfl) (by kernel_rfl) rfl rfl rfl (y_move (v := (.slice _ _ _)) rfl) ?_
        refine d_val (i := 4) rfl (by kernel_rfl) (by kernel_rfl) (by kernel_rfl) rfl rfl rfl (y_slice_lit (q := 0) Try.runUnderlying63 Try.sizeOf59 rfl rfl rfl rfl) ?_
        refine d_val (i := 5) rfl (by kernel_rfl) (by kernel_rfl) (by kernel_rfl) rfl rfl rfl (y_load Try.isAgg59 rfl (cel_own 7 rfl rfl)) ?_
        refine d_eff (k := 6) (n := 12) (m := 12) rfl (by kernel_rfl) rfl ?_
        refine o_fn 6 (d := 227) rfl Try.call37 (Got_c e0 u.X0.acked u.X0.wA u.X0.ws.length u.X0.wc u.X0.next u.X0.gA u.X0.gs.length u.X0.gc b2 u.X0.sA u.X0.ss.length u.X0.sc u.X0.acked u.X0.next u.X0.nA u.X0.ns.length u.X0.nc u.X0.gs u.X0.gE u.X0.P1 hg0 (fun f hf => hi0 f (List.mem_append_right _ hf)) u.X0.ns u.X0.nE u.X0.P3 hn0 hk0 (by omega)) rfl ?_
        rintro _ _ ⟨rfl, rfl⟩
        refine o_norm _ (by simp only [pull, picks, setG, List.cons_append, List.nil_append, List.append_nil, List.drop_succ_cons, List.drop_zero]; rfl) ?_
        rw [show decide (u.X0.gs.map (·.bs) = u.X0.ns.map (·.bs)) = true from decide_eq_true hgm0]
        refine o_newgroup ?_
        refine o_newgroup ?_
        refine o_nil ?_
        refine d_val (i := 7) rfl (by kernel_rfl) (by kernel_rfl) (by kernel_rfl) rfl rfl rfl (y_move (v := (.bool _)) rfl) ?_
        refine d_val_g (i := 8) rfl (by kernel_rfl) (by kernel_rfl) (by kernel_rfl) rfl rfl rfl rfl (y_move (v := (.slice _ _ _)) rfl) ?_
        refine d_val_g (i := 9) rfl (by kernel_rfl) (by kernel_rfl) (by kernel_rfl) rfl rfl rfl rfl (y_slice_lit (q := 1) Try.runUnderlying58 Try.sizeOf56 rfl rfl rfl rfl) ?_
        refine d_val_g (i := 10) rfl (by kernel_rfl) (by kernel_rfl) (by kernel_rfl) rfl rfl rfl rfl (y_load Try.isAgg56 rfl (cel_own 6 rfl rfl)) ?_
        refine d_val_g (i := 11) rfl (by kernel_rfl) (by kernel_rfl) (by kernel_rfl) rfl rfl rfl rfl (y_move (v := (.slice _ _ _)) rfl) ?_
        refine d_val_g (i := 12) rfl (by kernel_rfl) (by kernel_rfl) (by kernel_rfl) rfl rfl rfl rfl (y_slice_lit (q := 1) Try.runUnderlying63 Try.sizeOf59 rfl rfl rfl rfl) ?_
        refine d_val_g (i := 13) rfl (by kernel_rfl) (by kernel_rfl) (by kernel_rfl) rfl rfl rfl rfl (y_load Try.isAgg59 rfl (cel_own 7 rfl rfl)) ?_
        refine d_eff (k := 14) (n := 10) (m := 12) rfl (by kernel_rfl) rfl ?_
        refine o_guard_yes rfl rfl ?_
        refine o_pull 9 ?_
        refine o_norm _ (by simp only [pull, picks, setG, List.cons_append, List.nil_append, List.append_nil, List.drop_succ_cons, List.drop_zero]; rfl) ?_
        refine o_pull 9 ?_
        refine o_norm _ (by simp only [pull, picks, setG, List.cons_append, List.nil_append, List.append_nil, List.drop_succ_cons, List.drop_zero]; rfl) ?_
        refine o_pull 9 ?_
        refine o_norm _ (by simp only [pull, picks, setG, List.cons_append, List.nil_append, List.append_nil, List.drop_succ_cons, List.drop_zero]; rfl) ?_
        refine o_pull 9 ?_
        refine o_norm _ (by simp only [pull, picks, setG, List.cons_append, List.nil_append, List.append_nil, List.drop_succ_cons, List.drop_zero]; rfl) ?_
        refine o_pull 9 ?_
        refine o_norm _ (by simp only [pull, picks, setG, List.cons_append, List.nil_append, List.append_nil, List.drop_succ_cons, List.drop_zero]; rfl) ?_
        refine o_pull 9 ?_
        refine o_norm _ (by simp only [pull, picks, setG, List.cons_append, List.nil_append, List.append_nil, List.drop_succ_cons, List.drop_zero]; rfl) ?_
        refine o_fn 6 (d := 235) rfl Try.call37 (Got_c e1 u.X1.acked u.X1.wA u.X1.ws.length u.X1.wc u.X1.next u.X1.gA u.X1.gs.length u.X1.gc b3 u.X1.sA u.X1.ss.length u.X1.sc u.X1.acked u.X1.next u.X1.nA u.X1.ns.length u.X1.nc u.X1.gs u.X1.gE u.X1.P1 hg1 (fun f hf => hi1 f (List.mem_append_right _ hf)) u.X1.ns u.X1.nE u.X1.P3 hn1 hk1 (by omega)) rfl ?_
        rintro _ _ ⟨rfl, rfl⟩
        refine o_norm _ (by simp only [pull, picks, setG, List.cons_append, List.nil_append, List.append_nil, List.drop_succ_cons, List.drop_zero]; rfl) ?_
        rw [show decide (u.X1.gs.map (·.bs) = u.X1.ns.map (·.bs)) = true from decide_eq_true hgm1]
        refine o_newgroup ?_
        refine o_newgroup ?_
        refine o_nil ?_
        refine d_val (i := 15) rfl (by kernel_rfl) (by kernel_rfl) (by kernel_rfl) rfl rfl rfl (y_pick_t (v := (.bool _)) rfl rfl) ?_
        refine d_val (i := 16) rfl (by kernel_rfl) (by kernel_rfl) (by kernel_rfl) rfl rfl rfl (y_assign (v := (.bool _)) rfl) ?_
        refine d_nil (n := 8) (m := 12) (by kernel_rfl) rfl ?_
        refine s_forget [(4, (.bool _))] ⟨rfl, trivial⟩ (fun _f => ?_)
        refine s_ret ?_
        exact ⟨_, [], res1 rfl rfl, ⟨rfl, rfl⟩, sub_picks [] (by kernel_rfl)⟩
    · have hwh := hwho
      refine o_val rfl rfl rfl (y_lss rfl rfl) ?_
      refine o_nil ?_
      refine s_seq ?_
      refine s_if rfl (fun h95 => ?_) (fun h96 => ?_)
      · refine s_skip ?_
        refine s_seq ?_
        refine s_block ?_
        refine s_seq ?_
        refine s_region ?_
        refine o_val rfl rfl rfl (y_move (v := (.int _ _)) rfl) ?_
        refine o_val rfl rfl rfl (y_index1 Try.runUnderlying30 Try.sizeOf3 (some_int (i := 0) h (by omega)) rfl rfl (by omega)) ?_
        refine o_val rfl rfl rfl (y_load Try.isAgg3 rfl (cel_int h.here (by omega))) ?_
        refine o_val rfl rfl rfl (y_assign (v := (.int _ _)) rfl) ?_
        refine o_val rfl rfl rfl (y_assign (v := (.int _ _)) rfl) ?_
        refine o_nil ?_
        refine s_seq ?_
        refine s_region ?_
        refine o_val rfl rfl rfl (y_move (v := (.int _ _)) rfl) ?_
        refine o_val rfl rfl rfl ((y_and rfl rfl).int (hwho)) ?_
        refine o_val rfl rfl rfl (y_assign (v := (.int _ _)) rfl) ?_
        refine o_nil ?_
        refine s_join (γ := LW) (fun v => [(1, .slice R m d), (5, .slice (some ⟨b1, 0, none⟩) 2 2), (6, .slice (some ⟨b4, 0, none⟩) 2 2), (7, .pointer (some ⟨b5, 0, none⟩)), (8, .int .i64 u.i), (10, .int .i64 1), (30, .slice A (min (n : Int) 60).toNat c), (31, .int .i64 (((min (n : Int) 60).toNat : Nat) : Int)), (32, .int .i64 u.i)]) (fun v => [endg e0 v.X0.acked v.X0.wA v.X0.ws.length v.X0.wc v.X0.next v.X0.gA v.X0.gs.length v.X0.gc, v.X0.wE, v.X0.gE, v.X0.P1, halfg b2 v.X0.sA v.X0.ss.length v.X0.sc v.X0.acked v.X0.next v.X0.nA v.X0.ns.length v.X0.nc, v.X0.sE, v.X0.P2, v.X0.nE, v.X0.P3, endg e1 v.X1.acked v.X1.wA v.X1.ws.length v.X1.wc v.X1.next v.X1.gA v.X1.gs.length v.X1.gc, v.X1.wE, v.X1.gE, v.X1.P1, halfg b3 v.X1.sA v.X1.ss.length v.X1.sc v.X1.acked v.X1.next v.X1.nA v.X1.ns.length v.X1.nc, v.X1.sE, v.X1.P2, v.X1.nE, v.X1.P3, [(b1, .cells [.pointer (some ⟨e0, 0, none⟩), .pointer (some ⟨e1, 0, none⟩)].toArray 56 (0, 0))], [(b4, .cells [.pointer (some ⟨b2, 0, none⟩), .pointer (some ⟨b3, 0, none⟩)].toArray 59 (0, 0))], [(b5, .cells [.slice v.aA0 v.a0.length v.ac0, .slice v.aA1 v.a1.length v.ac1].toArray 64 (0, 0))], v.aE0, v.aE1, v.AP]) (fun v => v.ok (u.i + 1)) ?_ ?_
        · refine s_seq ?_
          refine s_region ?_
          refine o_val rfl rfl rfl (y_move (v := (.int _ _)) rfl) ?_
          refine o_val rfl rfl rfl (y_shr rfl rfl (by omega)) ?_
          refine o_val rfl rfl rfl (y_and rfl rfl) ?_
          have hk7 := and7 ((acts.getD ((u.i : Nat) : Int).toNat 0).fdiv (2 ^ min (1 : Int).toNat IntKind.i64.bits))
          refine o_nil ?_
          refine s_block ?_
          refine s_join (γ := Unit) (fun q0 => [(1, .slice R m d), (5, .slice (some ⟨b1, 0, none⟩) 2 2), (6, .slice (some ⟨b4, 0, none⟩) 2 2), (7, .pointer (some ⟨b5, 0, none⟩)), (8, .int .i64 u.i), (9, .int .i64 (acts.getD ((u.i : Nat) : Int).toNat 0)), (10, .int .i64 1), (30, .slice A (min (n : Int) 60).toNat c), (31, .int .i64 (((min (n : Int) 60).toNat : Nat) : Int)), (32, .int .i64 u.i), (41, .int .i64 (bAnd .i64 ((acts.getD ((u.i : Nat) : Int).toNat 0).fdiv (2 ^ min (1 : Int).toNat IntKind.i64.bits)) 7)), (89, .bool (decide ((bAnd .i64 ((acts.getD ((u.i : Nat) : Int).toNat 0).fdiv (2 ^ min (1 : Int).toNat IntKind.i64.bits)) 7) < 3)))]) (fun q0 => [endg e0 u.X0.acked u.X0.wA u.X0.ws.length u.X0.wc u.X0.next u.X0.gA u.X0.gs.length u.X0.gc, u.X0.wE, u.X0.gE, u.X0.P1, halfg b2 u.X0.sA u.X0.ss.length u.X0.sc u.X0.acked u.X0.next u.X0.nA u.X0.ns.length u.X0.nc, u.X0.sE, u.X0.P2, u.X0.nE, u.X0.P3, endg e1 u.X1.acked u.X1.wA u.X1.ws.length u.X1.wc u.X1.next u.X1.gA u.X1.gs.length u.X1.gc, u.X1.wE, u.X1.gE, u.X1.P1, halfg b3 u.X1.sA u.X1.ss.length u.X1.sc u.X1.acked u.X1.next u.X1.nA u.X1.ns.length u.X1.nc, u.X1.sE, u.X1.P2, u.X1.nE, u.X1.P3, [(b1, .cells [.pointer (some ⟨e0, 0, none⟩), .pointer (some ⟨e1, 0, none⟩)].toArray 56 (0, 0))], [(b4, .cells [.pointer (some ⟨b2, 0, none⟩), .pointer (some ⟨b3, 0, none⟩)].toArray 59 (0, 0))], [(b5, .cells [.slice u.aA0 u.a0.length u.ac0, .slice u.aA1 u.a1.length u.ac1].toArray 64 (0, 0))], u.aE0, u.aE1, u.AP]) (fun q0 => True) ?_ ?_
          · refine s_seq ?_
            refine s_region ?_
            refine o_val rfl rfl rfl (y_eql rfl rfl) ?_
            refine o_val rfl rfl rfl (y_assign (v := (.bool _)) rfl) ?_
            refine o_nil ?_
            refine s_if rfl (fun h97 => ?_) (fun h98 => ?_)
            · refine s_skip ?_
              exact ⟨(), trivial, ⟨rfl, rfl, rfl, rfl, rfl, rfl, rfl, rfl, rfl, rfl, rfl, (congrArg Value.bool (by rw [decide_eq_decide]; omega)), trivial⟩, (sub_picks [0, 0, 0, 0, 0, 0, 0, 0, 0, 0, 0, 0, 0, 0, 0, 0, 0, 0, 0, 0, 0, 0, 0, 0] (by kernel_rfl))⟩
            · refine s_seq ?_
              refine s_region ?_
              refine o_val rfl rfl rfl (y_eql rfl rfl) ?_
              refine o_val rfl rfl rfl (y_assign (v := (.bool _)) rfl) ?_
              refine o_nil ?_
              refine s_if rfl (fun h99 => ?_) (fun h100 => ?_)
              · refine s_skip ?_
                exact ⟨(), trivial, ⟨rfl, rfl, rfl, rfl, rfl, rfl, rfl, rfl, rfl, rfl, rfl, (congrArg Value.bool (by rw [decide_eq_decide]; omega)), trivial⟩, (sub_picks [0, 0, 0, 0, 0, 0, 0, 0, 0, 0, 0, 0, 0, 0, 0, 0, 0, 0, 0, 0, 0, 0, 0, 0] (by kernel_rfl))⟩
              · refine s_region ?_
                refine o_val rfl rfl rfl (y_eql rfl rfl) ?_
                refine o_val rfl rfl rfl (y_assign (v := (.bool _)) rfl) ?_
                refine o_nil ?_
                exact ⟨(), trivial, ⟨rfl, rfl, rfl, rfl, rfl, rfl, rfl, rfl, rfl, rfl, rfl, (congrArg Value.bool (by rw [decide_eq_decide]; omega)), trivial⟩, (sub_picks [0, 0, 0, 0, 0, 0, 0, 0, 0, 0, 0, 0, 0, 0, 0, 0, 0, 0, 0, 0, 0, 0, 0, 0] (by kernel_rfl))⟩
          · intro q0 _f hq0
            refine s_if rfl (fun h101 => ?_) (fun h102 => ?_)
            · refine s_seq ?_
              refine s_region ?_
              refine o_val rfl rfl rfl (y_move (v := (.int _ _)) rfl) ?_
              refine o_val rfl rfl rfl (y_shr rfl rfl (by omega)) ?_
              refine o_val rfl rfl rfl (y_and rfl rfl) ?_
              have hv := and1023 ((acts.getD ((u.i : Nat) : Int).toNat 0).fdiv (2 ^ min (4 : Int).toNat IntKind.i64.bits))
              have hv0 : 0 ≤ (min (bAnd .i64 ((acts.getD ((u.i : Nat) : Int).toNat 0).fdiv (2 ^ min (4 : Int).toNat IntKind.i64.bits)) 1023) 1001) := by omega
              refine o_val rfl rfl rfl (y_min rfl rfl) ?_
              refine o_make (sz := 1) (bytes := 1) (n := (min (bAnd .i64 ((acts.getD ((u.i : Nat) : Int).toNat 0).fdiv (2 ^ min (4 : Int).toNat IntKind.i64.bits)) 1023) 1001).toNat) rfl Try.underlying29 Try.type5 rfl rfl rfl (congrArg (Value.int .i64) (Int.toNat_of_nonneg hv0).symm) (congrArg (Value.int .i64) (Int.toNat_of_nonneg hv0).symm) (by omega) (fun dA dE ho103 hs104 => ?_)
              have hdt : OS dA (min (bAnd .i64 ((acts.getD ((u.i : Nat) : Int).toNat 0).fdiv (2 ^ min (4 : Int).toNat IntKind.i64.bits)) 1023) 1001).toNat (min (bAnd .i64 ((acts.getD ((u.i : Nat) : Int).toNat 0).fdiv (2 ^ min (4 : Int).toNat IntKind.i64.bits)) 1023) 1001).toNat 5 1 ((List.replicate (min (bAnd .i64 ((acts.getD ((u.i : Nat) : Int).toNat 0).fdiv (2 ^ min (4 : Int).toNat IntKind.i64.bits)) 1023) 1001).toNat (0 : Int)).map (.int .u8)) dE := os_made_int ho103
              clear ho103
              refine o_val rfl rfl rfl (y_assign (v := (.slice _ _ _)) rfl) ?_
              refine o_nil ?_
              refine s_seq ?_
              refine s_seq ?_
              refine s_region ?_
              refine o_val rfl rfl rfl (y_move (v := (.slice _ _ _)) rfl) ?_
              refine o_val rfl rfl rfl (y_len Try.runUnderlying29 rfl) ?_
              refine o_val rfl rfl rfl (y_move (v := (.int _ _)) rfl) ?_
              refine o_nil ?_
              refine s_block ?_
              refine s_loop (γ := LF) (fun x => [(1, .slice R m d), (5, .slice (some ⟨b1, 0, none⟩) 2 2), (6, .slice (some ⟨b4, 0, none⟩) 2 2), (7, .pointer (some ⟨b5, 0, none⟩)), (8, .int .i64 u.i), (9, .int .i64 (acts.getD ((u.i : Nat) : Int).toNat 0)), (10, .int .i64 1), (11, .slice dA (min (bAnd .i64 ((acts.getD ((u.i : Nat) : Int).toNat 0).fdiv (2 ^ min (4 : Int).toNat IntKind.i64.bits)) 1023) 1001).toNat (min (bAnd .i64 ((acts.getD ((u.i : Nat) : Int).toNat 0).fdiv (2 ^ min (4 : Int).toNat IntKind.i64.bits)) 1023) 1001).toNat), (30, .slice A (min (n : Int) 60).toNat c), (31, .int .i64 (((min (n : Int) 60).toNat : Nat) : Int)), (32, .int .i64 u.i), (99, .int .i64 (((min (bAnd .i64 ((acts.getD ((u.i : Nat) : Int).toNat 0).fdiv (2 ^ min (4 : Int).toNat IntKind.i64.bits)) 1023) 1001).toNat : Nat) : Int)), (100, .int .i64 x.k)]) (fun x => [endg e0 u.X0.acked u.X0.wA u.X0.ws.length u.X0.wc u.X0.next u.X0.gA u.X0.gs.length u.X0.gc, u.X0.wE, u.X0.gE, u.X0.P1, halfg b2 u.X0.sA u.X0.ss.length u.X0.sc u.X0.acked u.X0.next u.X0.nA u.X0.ns.length u.X0.nc, u.X0.sE, u.X0.P2, u.X0.nE, u.X0.P3, endg e1 u.X1.acked u.X1.wA u.X1.ws.length u.X1.wc u.X1.next u.X1.gA u.X1.gs.length u.X1.gc, u.X1.wE, u.X1.gE, u.X1.P1, halfg b3 u.X1.sA u.X1.ss.length u.X1.sc u.X1.acked u.X1.next u.X1.nA u.X1.ns.length u.X1.nc, u.X1.sE, u.X1.P2, u.X1.nE, u.X1.P3, [(b1, .cells [.pointer (some ⟨e0, 0, none⟩), .pointer (some ⟨e1, 0, none⟩)].toArray 56 (0, 0))], [(b4, .cells [.pointer (some ⟨b2, 0, none⟩), .pointer (some ⟨b3, 0, none⟩)].toArray 59 (0, 0))], [(b5, .cells [.slice u.aA0 u.a0.length u.ac0, .slice u.aA1 u.a1.length u.ac1].toArray 64 (0, 0))], u.aE0, u.aE1, u.AP, x.E]) (fun x => x.k ≤ (min (bAnd .i64 ((acts.getD ((u.i : Nat) : Int).toNat 0).fdiv (2 ^ min (4 : Int).toNat IntKind.i64.bits)) 1023) 1001).toNat ∧ OS dA (min (bAnd .i64 ((acts.getD ((u.i : Nat) : Int).toNat 0).fdiv (2 ^ min (4 : Int).toNat IntKind.i64.bits)) 1023) 1001).toNat (min (bAnd .i64 ((acts.getD ((u.i : Nat) : Int).toNat 0).fdiv (2 ^ min (4 : Int).toNat IntKind.i64.bits)) 1023) 1001).toNat 5 1 ((x.bs).map (.int .u8)) x.E ∧ ∀ b ∈ x.bs, 0 ≤ b ∧ b ≤ 255) (fun x => (min (bAnd .i64 ((acts.getD ((u.i : Nat) : Int).toNat 0).fdiv (2 ^ min (4 : Int).toNat IntKind.i64.bits)) 1023) 1001).toNat - x.k) (LF.mk 0 dE (List.replicate (min (bAnd .i64 ((acts.getD ((u.i : Nat) : Int).toNat 0).fdiv (2 ^ min (4 : Int).toNat IntKind.i64.bits)) 1023) 1001).toNat 0)) ?_ ⟨rfl, rfl, rfl, rfl, rfl, rfl, rfl, rfl, rfl, rfl, rfl, rfl, rfl, trivial⟩ (sub_front ⟨_, rfl⟩) ?_
              · exact ⟨Nat.zero_le _, hdt, fun b hb => by rw [List.eq_of_mem_replicate hb]; decide⟩
              · intro x _f hF
                obtain ⟨hxk, hxo, hxb⟩ := hF
                have hxl : x.bs.length = (min (bAnd .i64 ((acts.getD ((u.i : Nat) : Int).toNat 0).fdiv (2 ^ min (4 : Int).toNat IntKind.i64.bits)) 1023) 1001).toNat := by simpa using hxo.len
                refine s_seq ?_
                refine s_region ?_
                refine o_val rfl rfl rfl (y_lss rfl rfl) ?_
                refine o_nil ?_
                refine s_seq ?_
                refine s_if rfl (fun h105 => ?_) (fun h106 => ?_)
                · refine s_skip ?_
                  refine s_seq ?_
                  refine s_block ?_
                  refine s_seq ?_
                  refine s_region ?_
                  refine o_val rfl rfl rfl (y_move (v := (.int _ _)) rfl) ?_
                  refine o_val rfl rfl rfl (y_assign (v := (.int _ _)) rfl) ?_
                  refine o_nil ?_
                  refine s_region ?_
                  refine o_val rfl rfl rfl (y_move (v := (.slice _ _ _)) rfl) ?_
                  refine o_val rfl rfl rfl (y_move (v := (.int _ _)) rfl) ?_
                  refine o_val rfl rfl rfl (y_move (v := (.int _ _)) rfl) ?_
                  refine o_val rfl rfl rfl (y_move (v := (.int _ _)) rfl) ?_
                  refine o_val rfl rfl rfl (y_add rfl rfl (by simp only [inK]; omega)) ?_
                  refine o_val rfl rfl rfl (y_conv' Try.runUnderlying3 Try.runUnderlying5 rfl) ?_
                  refine o_val rfl rfl rfl (y_index1 Try.runUnderlying29 Try.sizeOf5 (hxo.some_of (by omega)) rfl rfl (by omega)) ?_
                  refine o_store_os (vs := [(.int _ _)]) 24 rfl hxo Try.sizeOf5 rfl rfl rfl (by simp [Value.oneCell']) (by simp) (by simp; omega) (fun E107 ho108 => ?_)
                  have ho109 := os_lay_int ho108 (by simp; omega)
                  clear ho108
                  refine o_nil ?_
                  refine s_region ?_
                  refine o_val rfl rfl rfl (y_add rfl rfl (by simp only [inK]; omega)) ?_
                  refine o_val rfl rfl rfl (y_move (v := (.int _ _)) rfl) ?_
                  refine o_nil ?_
                  exact ⟨LF.mk (x.k + 1) E107 (x.bs.set ((x.k : Nat) : Int).toNat (IntKind.u8.wrap ((u.i : Int) + (x.k : Int)))), (by first | omega | (dsimp only; omega)), ⟨by dsimp only; omega, ho109, set_byte hxb⟩, ⟨rfl, rfl, rfl, rfl, rfl, rfl, rfl, rfl, rfl, rfl, rfl, rfl, (congrArg (Value.int .i64) (by dsimp only; omega)), trivial⟩, sub_front ⟨_, rfl⟩⟩
                · refine s_exit ?_
                  refine s_seq ?_
                  refine s_region ?_
                  refine o_val rfl rfl rfl (y_move (v := (.slice _ _ _)) rfl) ?_
                  refine o_val rfl rfl rfl (y_move (v := (.int _ _)) rfl) ?_
                  refine o_val rfl rfl rfl (y_slice_lit (q := 1) Try.runUnderlying58 Try.sizeOf56 rfl rfl rfl rfl) ?_
                  refine o_val rfl rfl rfl (y_load Try.isAgg56 rfl (cel_own 18 rfl rfl)) ?_
                  refine o_val rfl rfl rfl (y_move (v := (.slice _ _ _)) rfl) ?_
                  refine o_pull 12 ?_
                  refine o_norm _ (by simp only [pull, picks, setG, List.cons_append, List.nil_append, List.append_nil, List.drop_succ_cons, List.drop_zero]; rfl) ?_
                  refine o_pull 11 ?_
                  refine o_norm _ (by simp only [pull, picks, setG, List.cons_append, List.nil_append, List.append_nil, List.drop_succ_cons, List.drop_zero]; rfl) ?_
                  refine o_pull 11 ?_
                  refine o_norm _ (by simp only [pull, picks, setG, List.cons_append, List.nil_append, List.append_nil, List.drop_succ_cons, List.drop_zero]; rfl) ?_
                  refine o_fn 3 (d := 116) rfl Try.call30 (SendL_c e1 u.X1.acked u.X1.wA u.X1.ws.length u.X1.wc u.X1.next u.X1.gA u.X1.gs.length u.X1.gc u.X1.ws u.X1.wE u.X1.P1 hw1 (u.X1.ws ++ u.X1.gs) hi1 (by omega) dA (min (bAnd .i64 ((acts.getD ((u.i : Nat) : Int).toNat 0).fdiv (2 ^ min (4 : Int).toNat IntKind.i64.bits)) 1023) 1001).toNat (min (bAnd .i64 ((acts.getD ((u.i : Nat) : Int).toNat 0).fdiv (2 ^ min (4 : Int).toNat IntKind.i64.bits)) 1023) 1001).toNat x.bs ⟨hxl, Nat.le_refl _, (hxo.cels (j := 21) rfl).down, hxb⟩) rfl ?_
                  rintro _ _ (⟨hbig, rfl, rfl⟩ | ⟨hsm, rfl, kA, kc, y, kE, kP, hyb, hyo, hyi, rfl⟩)
                  · refine o_norm _ (by simp only [pull, picks, setG, List.cons_append, List.nil_append, List.append_nil, List.drop_succ_cons, List.drop_zero]; rfl) ?_
                    refine o_val rfl rfl rfl (y_assign (v := (.int _ _)) rfl) ?_
                    refine o_nil ?_
                    refine s_seq ?_
                    refine s_seq ?_
                    refine s_region ?_
                    refine o_val rfl rfl rfl (y_move (v := (.slice _ _ _)) rfl) ?_
                    refine o_val rfl rfl rfl (y_len Try.runUnderlying29 rfl) ?_
                    refine o_val rfl rfl rfl (y_gtr rfl rfl) ?_
                    refine o_nil ?_
                    refine s_if rfl (fun h110 => ?_) (fun h111 => ?_)
                    · refine s_seq ?_
                      refine s_seq ?_
                      refine s_region ?_
                      refine o_val rfl rfl rfl (y_move (v := (.int _ _)) rfl) ?_
                      refine o_val rfl rfl rfl (y_neq rfl rfl) ?_
                      refine o_nil ?_
                      refine s_if rfl (fun h112 => ?_) (fun h113 => ?_)
                      · exact absurd rfl h112
                      · refine s_skip ?_
                        refine s_exit ?_
                        refine s_region ?_
                        refine o_val rfl rfl rfl (y_add rfl rfl (by simp only [inK]; omega)) ?_
                        refine o_val rfl rfl rfl (y_move (v := (.int _ _)) rfl) ?_
                        refine o_nil ?_
                        exact ⟨{ u with i := u.i + 1 }, (by first | omega | (dsimp only; omega)), ⟨by dsimp only; omega, hok.more rfl rfl rfl rfl rfl rfl rfl rfl rfl rfl rfl⟩, ⟨rfl, rfl, rfl, rfl, rfl, rfl, (congrArg (Value.int .i64) (by dsimp only; omega)), trivial⟩, (sub_picks [3, 3, 3, 3, 3, 3, 3, 3, 3, 0, 0, 1, 0, 0, 0, 0, 0, 0, 0, 0, 0, 0, 0, 0] (by kernel_rfl))⟩
                    · exfalso; omega
                  · refine o_norm _ (by simp only [pull, picks, setG, List.cons_append, List.nil_append, List.append_nil, List.drop_succ_cons, List.drop_zero]; rfl) ?_
                    refine o_val rfl rfl rfl (y_assign (v := (.int _ _)) rfl) ?_
                    refine o_nil ?_
                    refine s_seq ?_
                    refine s_seq ?_
                    refine s_region ?_
                    refine o_val rfl rfl rfl (y_move (v := (.slice _ _ _)) rfl) ?_
                    refine o_val rfl rfl rfl (y_len Try.runUnderlying29 rfl) ?_
                    refine o_val rfl rfl rfl (y_gtr rfl rfl) ?_
                    refine o_nil ?_
                    refine s_if rfl (fun h114 => ?_) (fun h115 => ?_)
                    · exfalso; omega
                    · refine s_skip ?_
                      refine s_seq ?_
                      refine s_pull 14 ?_
                      refine s_norm _ (by simp only [pull, picks, setG, List.cons_append, List.nil_append, List.append_nil, List.drop_succ_cons, List.drop_zero]; rfl) ?_
                      refine s_pull 14 ?_
                      refine s_norm _ (by simp only [pull, picks, setG, List.cons_append, List.nil_append, List.append_nil, List.drop_succ_cons, List.drop_zero]; rfl) ?_
                      refine s_drawn 2 (by kernel_rfl) ?_
                      refine d_val (i := 0) rfl (by kernel_rfl) (by kernel_rfl) (by kernel_rfl) rfl rfl rfl (y_move (v := (.slice _ _ _)) rfl) ?_
                      refine d_val (i := 1) rfl (by kernel_rfl) (by kernel_rfl) (by kernel_rfl) rfl rfl rfl (y_move (v := (.int _ _)) rfl) ?_
                      refine d_val (i := 2) rfl (by kernel_rfl) (by kernel_rfl) (by kernel_rfl) rfl rfl rfl (y_slice_lit (q := 1) Try.runUnderlying63 Try.sizeOf59 rfl rfl rfl rfl) ?_
                      refine d_val (i := 3) rfl (by kernel_rfl) (by kernel_rfl) (by kernel_rfl) rfl rfl rfl (y_load Try.isAgg59 rfl (cel_own 17 rfl rfl)) ?_
                      refine d_val (i := 4) rfl (by kernel_rfl) (by kernel_rfl) (by kernel_rfl) rfl rfl rfl (y_move (v := (.slice _ _ _)) rfl) ?_
                      refine d_val (i := 5) rfl (by kernel_rfl) (by kernel_rfl) (by kernel_rfl) rfl rfl rfl (y_move (v := (.int _ _)) rfl) ?_
                      refine d_val (i := 6) rfl (by kernel_rfl) (by kernel_rfl) (by kernel_rfl) rfl rfl rfl (y_slice_lit (q := 1) Try.runUnderlying63 Try.sizeOf59 rfl rfl rfl rfl) ?_
                      refine d_val (i := 7) rfl (by kernel_rfl) (by kernel_rfl) (by kernel_rfl) rfl rfl rfl (y_load Try.isAgg59 rfl (cel_own 17 rfl rfl)) ?_
                      refine d_val (i := 8) rfl (by kernel_rfl) (by kernel_rfl) (by kernel_rfl) rfl rfl rfl (y_nilCheck rfl) ?_
                      refine d_val (i := 9) rfl (by kernel_rfl) (by kernel_rfl) (by kernel_rfl) rfl rfl rfl (y_field0 Try.runUnderlying62 rfl Try.sizeOf60 rfl rfl) ?_
                      refine d_val (i := 11) rfl (by kernel_rfl) (by kernel_rfl) (by kernel_rfl) rfl rfl rfl (y_move (v := (.slice _ _ _)) rfl) ?_
                      refine d_eff2 (k := 10) (k' := 12) (n := 2) (m := 23) rfl rfl (by kernel_rfl) rfl ?_ ?_
                      · refine o_val rfl rfl rfl (y_load Try.isAgg60 rfl (cel_own 0 rfl rfl)) ?_
                        refine o_nil ?_
                        refine d_eff (k := 12) (n := 2) (m := 23) rfl (by kernel_rfl) rfl ?_
                        refine o_lit (vs := [(0, .slice _ _ _)]) rfl rfl (LinkSays_k3 _ _ _) (fun b116 => ?_)
                        refine o_nil ?_
                        refine d_eff (k := 13) (n := 2) (m := 23) rfl (by kernel_rfl) rfl ?_
                        refine o_append (sz := 1) (bytes := 24) (news := [(.slice _ _ _)]) 1 rfl Try.underlying60 Try.type29 rfl rfl rfl rfl rfl hs1 rfl rfl (Src.slice Try.underlying60 (cels_own 25 rfl rfl) rfl (by simp [Value.oneCell']) (by simp)) (by omega) (fun A117 c118 E119 ho120 hn121 => ?_)
                        have ho122 : OS A117 (u.X1.ss.length + 1) c118 29 1 ((u.X1.ss ++ [(fl dA (min (bAnd .i64 ((acts.getD ((u.i : Nat) : Int).toNat 0).fdiv (2 ^ min (4 : Int).toNat IntKind.i64.bits)) 1023) 1001).toNat (min (bAnd .i64 ((acts.getD ((u.i : Nat) : Int).toNat 0).fdiv (2 ^ min (4 : Int).toNat IntKind.i64.bits)) 1023) 1001).toNat x.bs)]).flatMap encB) E119 := (os_eq ho120 (by rw [List.flatMap_append]; rfl))
                        clear ho120
                        refine o_nil ?_
                        refine d_val (i := 14) rfl (by kernel_rfl) (by kernel_rfl) (by kernel_rfl) rfl rfl rfl (y_nilCheck rfl) ?_
                        refine d_val (i := 15) rfl (by kernel_rfl) (by kernel_rfl) (by kernel_rfl) rfl rfl rfl (y_field0 Try.runUnderlying62 rfl Try.sizeOf60 rfl rfl) ?_
                        refine d_eff (k := 16) (n := 2) (m := 23) rfl (by kernel_rfl) rfl ?_
                        refine o_store (v := (.slice _ _ _)) 0 rfl Try.sizeOf60 rfl rfl rfl rfl ?_
                        refine o_nil ?_
                        refine d_nil (n := 2) (m := 23) (by kernel_rfl) rfl ?_
                        refine s_norm [[(_, .cells [(.slice _ _ _), (.int _ _), (.int _ _), (.slice _ _ _)].toArray 62 (0, 0))], _, [(_, .cells [(.int _ _), (.slice _ _ _), (.int _ _), (.slice _ _ _)].toArray 143 (0, 0))], _, _, [(_, .cells [(.int _ _), (.slice _ _ _), (.int _ _), (.slice _ _ _)].toArray 143 (0, 0))], _, _, _, [(_, .cells [(.slice _ _ _), (.int _ _), (.int _ _), (.slice _ _ _)].toArray 62 (0, 0))], _, _, _, _, _, _, _, _, [(_, .cells [(.pointer _), (.pointer _)].toArray 56 (0, 0))], [(_, .cells [(.pointer _), (.pointer _)].toArray 59 (0, 0))], [(_, .cells [(.slice _ _ _), (.slice _ _ _)].toArray 64 (0, 0))], _, _, _, _, [(_, .cells [(.slice _ _ _)].toArray 29 (0, 0))]] rfl ?_
                        refine s_seq ?_
                        refine s_region ?_
                        have hjn := blin_snoc hj1 (BlIn.new (PG := u.X1.P2) hxo (by omega) hxb)
                        refine o_pull 15 ?_
                        refine o_norm _ (by simp only [pull, picks, setG, List.cons_append, List.nil_append, List.append_nil, List.drop_succ_cons, List.drop_zero]; rfl) ?_
                        refine o_pull 24 ?_
                        refine o_norm _ (by simp only [pull, picks, setG, List.cons_append, List.nil_append, List.append_nil, List.drop_succ_cons, List.drop_zero]; rfl) ?_
                        refine o_fuse ?_
                        refine o_val rfl rfl rfl (y_move (v := (.int _ _)) rfl) ?_
                        refine o_val rfl rfl rfl (y_neq rfl rfl) ?_
                        refine o_nil ?_
                        refine s_if rfl (fun h123 => ?_) (fun h124 => ?_)
                        · exact absurd rfl h123
                        · refine s_skip ?_
                          exact ⟨{ u with X1 := { u.X1 with ws := u.X1.ws ++ [y], wA := kA, wc := kc, wE := kE, P1 := kP, ss := u.X1.ss ++ [fl dA (min (bAnd .i64 ((acts.getD ((u.i : Nat) : Int).toNat 0).fdiv (2 ^ min (4 : Int).toNat IntKind.i64.bits)) 1023) 1001).toNat (min (bAnd .i64 ((acts.getD ((u.i : Nat) : Int).toNat 0).fdiv (2 ^ min (4 : Int).toNat IntKind.i64.bits)) 1023) 1001).toNat x.bs], sA := A117, sc := c118, sE := E119, P2 := x.E ++ u.X1.P2 } }, ⟨hY0.more, ⟨(by dsimp only; rw [List.length_append]; exact hyo), hg1, mem_swap hyi, (by dsimp only; rw [List.length_append]; exact ho122), hjn, hn1, hk1, told_send (x := y) (y := fl dA (min (bAnd .i64 ((acts.getD ((u.i : Nat) : Int).toNat 0).fdiv (2 ^ min (4 : Int).toNat IntKind.i64.bits)) 1023) 1001).toNat (min (bAnd .i64 ((acts.getD ((u.i : Nat) : Int).toNat 0).fdiv (2 ^ min (4 : Int).toNat IntKind.i64.bits)) 1023) 1001).toNat x.bs) hT1 hyb rfl rfl rfl rfl rfl rfl⟩, ha0, ha1, hp0, hp1, by dsimp only; omega, by dsimp only; omega⟩, ⟨rfl, rfl, rfl, rfl, rfl, rfl, rfl, rfl, rfl, trivial⟩, (by dsimp only; simp only [List.length_append, List.length_singleton]; exact sub_picks [6, 6, 6, 6, 6, 6, 6, 6, 6, 3, 3, 4, 3, 1, 1, 0, 0, 0, 0, 0, 0, 0, 0, 0] (by kernel_rfl))⟩
                      · refine o_lit (vs := [(0, .slice _ _ _)]) rfl rfl (LinkSays_k3 _ _ _) (fun b125 => ?_)
                        refine o_nil ?_
                        refine d_now (i := 10) [] rfl (by kernel_rfl) (by kernel_rfl) (by kernel_rfl) rfl rfl rfl (y_load Try.isAgg60 rfl (cel_own 0 rfl rfl)) trivial ?_
                        refine d_eff (k := 13) (n := 2) (m := 23) rfl (by kernel_rfl) rfl ?_
                        refine o_append (sz := 1) (bytes := 24) (news := [(.slice _ _ _)]) 1 rfl Try.underlying60 Try.type29 rfl rfl rfl rfl rfl hs1 rfl rfl (Src.slice Try.underlying60 (cels_own 25 rfl rfl) rfl (by simp [Value.oneCell']) (by simp)) (by omega) (fun A126 c127 E128 ho129 hn130 => ?_)
                        have ho131 : OS A126 (u.X1.ss.length + 1) c127 29 1 ((u.X1.ss ++ [(fl dA (min (bAnd .i64 ((acts.getD ((u.i : Nat) : Int).toNat 0).fdiv (2 ^ min (4 : Int).toNat IntKind.i64.bits)) 1023) 1001).toNat (min (bAnd .i64 ((acts.getD ((u.i : Nat) : Int).toNat 0).fdiv (2 ^ min (4 : Int).toNat IntKind.i64.bits)) 1023) 1001).toNat x.bs)]).flatMap encB) E128 := (os_eq ho129 (by rw [List.flatMap_append]; rfl))
                        clear ho129
                        refine o_nil ?_
                        refine d_val (i := 14) rfl (by kernel_rfl) (by kernel_rfl) (by kernel_rfl) rfl rfl rfl (y_nilCheck rfl) ?_
                        refine d_val (i := 15) rfl (by kernel_rfl) (by kernel_rfl) (by kernel_rfl) rfl rfl rfl (y_field0 Try.runUnderlying62 rfl Try.sizeOf60 rfl rfl) ?_
                        refine d_eff (k := 16) (n := 2) (m := 23) rfl (by kernel_rfl) rfl ?_
                        refine o_store (v := (.slice _ _ _)) 0 rfl Try.sizeOf60 rfl rfl rfl rfl ?_
                        refine o_nil ?_
                        refine d_nil (n := 2) (m := 23) (by kernel_rfl) rfl ?_
                        refine s_norm [[(_, .cells [(.slice _ _ _), (.int _ _), (.int _ _), (.slice _ _ _)].toArray 62 (0, 0))], _, [(_, .cells [(.int _ _), (.slice _ _ _), (.int _ _), (.slice _ _ _)].toArray 143 (0, 0))], _, _, [(_, .cells [(.int _ _), (.slice _ _ _), (.int _ _), (.slice _ _ _)].toArray 143 (0, 0))], _, _, _, [(_, .cells [(.slice _ _ _), (.int _ _), (.int _ _), (.slice _ _ _)].toArray 62 (0, 0))], _, _, _, _, _, _, _, _, [(_, .cells [(.pointer _), (.pointer _)].toArray 56 (0, 0))], [(_, .cells [(.pointer _), (.pointer _)].toArray 59 (0, 0))], [(_, .cells [(.slice _ _ _), (.slice _ _ _)].toArray 64 (0, 0))], _, _, _, _, [(_, .cells [(.slice _ _ _)].toArray 29 (0, 0))]] rfl ?_
                        refine s_seq ?_
                        refine s_region ?_
                        have hjn := blin_snoc hj1 (BlIn.new (PG := u.X1.P2) hxo (by omega) hxb)
                        refine o_pull 15 ?_
                        refine o_norm _ (by simp only [pull, picks, setG, List.cons_append, List.nil_append, List.append_nil, List.drop_succ_cons, List.drop_zero]; rfl) ?_
                        refine o_pull 24 ?_
                        refine o_norm _ (by simp only [pull, picks, setG, List.cons_append, List.nil_append, List.append_nil, List.drop_succ_cons, List.drop_zero]; rfl) ?_
                        refine o_fuse ?_
                        refine o_val rfl rfl rfl (y_move (v := (.int _ _)) rfl) ?_
                        refine o_val rfl rfl rfl (y_neq rfl rfl) ?_
                        refine o_nil ?_
                        refine s_if rfl (fun h132 => ?_) (fun h133 => ?_)
                        · exact absurd rfl h132
                        · refine s_skip ?_
                          exact ⟨{ u with X1 := { u.X1 with ws := u.X1.ws ++ [y], wA := kA, wc := kc, wE := kE, P1 := kP, ss := u.X1.ss ++ [fl dA (min (bAnd .i64 ((acts.getD ((u.i : Nat) : Int).toNat 0).fdiv (2 ^ min (4 : Int).toNat IntKind.i64.bits)) 1023) 1001).toNat (min (bAnd .i64 ((acts.getD ((u.i : Nat) : Int).toNat 0).fdiv (2 ^ min (4 : Int).toNat IntKind.i64.bits)) 1023) 1001).toNat x.bs], sA := A126, sc := c127, sE := E128, P2 := x.E ++ u.X1.P2 } }, ⟨hY0.more, ⟨(by dsimp only; rw [List.length_append]; exact hyo), hg1, mem_swap hyi, (by dsimp only; rw [List.length_append]; exact ho131), hjn, hn1, hk1, told_send (x := y) (y := fl dA (min (bAnd .i64 ((acts.getD ((u.i : Nat) : Int).toNat 0).fdiv (2 ^ min (4 : Int).toNat IntKind.i64.bits)) 1023) 1001).toNat (min (bAnd .i64 ((acts.getD ((u.i : Nat) : Int).toNat 0).fdiv (2 ^ min (4 : Int).toNat IntKind.i64.bits)) 1023) 1001).toNat x.bs) hT1 hyb rfl rfl rfl rfl rfl rfl⟩, ha0, ha1, hp0, hp1, by dsimp only; omega, by dsimp only; omega⟩, ⟨rfl, rfl, rfl, rfl, rfl, rfl, rfl, rfl, rfl, trivial⟩, (by dsimp only; simp only [List.length_append, List.length_singleton]; exact sub_picks [6, 6, 6, 6, 6, 6, 6, 6, 6, 3, 3, 4, 3, 1, 1, 0, 0, 0, 0, 0, 0, 0, 0, 0] (by kernel_rfl))⟩
            · refine s_join (γ := Unit) (fun q0 => [(1, .slice R m d), (5, .slice (some ⟨b1, 0, none⟩) 2 2), (6, .slice (some ⟨b4, 0, none⟩) 2 2), (7, .pointer (some ⟨b5, 0, none⟩)), (8, .int .i64 u.i), (9, .int .i64 (acts.getD ((u.i : Nat) : Int).toNat 0)), (10, .int .i64 1), (30, .slice A (min (n : Int) 60).toNat c), (31, .int .i64 (((min (n : Int) 60).toNat : Nat) : Int)), (32, .int .i64 u.i), (41, .int .i64 (bAnd .i64 ((acts.getD ((u.i : Nat) : Int).toNat 0).fdiv (2 ^ min (1 : Int).toNat IntKind.i64.bits)) 7)), (140, .bool (decide (3 ≤ (bAnd .i64 ((acts.getD ((u.i : Nat) : Int).toNat 0).fdiv (2 ^ min (1 : Int).toNat IntKind.i64.bits)) 7) ∧ (bAnd .i64 ((acts.getD ((u.i : Nat) : Int).toNat 0).fdiv (2 ^ min (1 : Int).toNat IntKind.i64.bits)) 7) ≤ 4)))]) (fun q0 => [endg e0 u.X0.acked u.X0.wA u.X0.ws.length u.X0.wc u.X0.next u.X0.gA u.X0.gs.length u.X0.gc, u.X0.wE, u.X0.gE, u.X0.P1, halfg b2 u.X0.sA u.X0.ss.length u.X0.sc u.X0.acked u.X0.next u.X0.nA u.X0.ns.length u.X0.nc, u.X0.sE, u.X0.P2, u.X0.nE, u.X0.P3, endg e1 u.X1.acked u.X1.wA u.X1.ws.length u.X1.wc u.X1.next u.X1.gA u.X1.gs.length u.X1.gc, u.X1.wE, u.X1.gE, u.X1.P1, halfg b3 u.X1.sA u.X1.ss.length u.X1.sc u.X1.acked u.X1.next u.X1.nA u.X1.ns.length u.X1.nc, u.X1.sE, u.X1.P2, u.X1.nE, u.X1.P3, [(b1, .cells [.pointer (some ⟨e0, 0, none⟩), .pointer (some ⟨e1, 0, none⟩)].toArray 56 (0, 0))], [(b4, .cells [.pointer (some ⟨b2, 0, none⟩), .pointer (some ⟨b3, 0, none⟩)].toArray 59 (0, 0))], [(b5, .cells [.slice u.aA0 u.a0.length u.ac0, .slice u.aA1 u.a1.length u.ac1].toArray 64 (0, 0))], u.aE0, u.aE1, u.AP]) (fun q0 => True) ?_ ?_
              · refine s_seq ?_
                refine s_region ?_
                refine o_val rfl rfl rfl (y_eql rfl rfl) ?_
                refine o_val rfl rfl rfl (y_assign (v := (.bool _)) rfl) ?_
                refine o_nil ?_
                refine s_if rfl (fun h134 => ?_) (fun h135 => ?_)
                · refine s_skip ?_
                  exact ⟨(), trivial, ⟨rfl, rfl, rfl, rfl, rfl, rfl, rfl, rfl, rfl, rfl, rfl, (congrArg Value.bool (by rw [decide_eq_decide]; omega)), trivial⟩, (sub_picks [0, 0, 0, 0, 0, 0, 0, 0, 0, 0, 0, 0, 0, 0, 0, 0, 0, 0, 0, 0, 0, 0, 0, 0] (by kernel_rfl))⟩
                · refine s_region ?_
                  refine o_val rfl rfl rfl (y_eql rfl rfl) ?_
                  refine o_val rfl rfl rfl (y_assign (v := (.bool _)) rfl) ?_
                  refine o_nil ?_
                  exact ⟨(), trivial, ⟨rfl, rfl, rfl, rfl, rfl, rfl, rfl, rfl, rfl, rfl, rfl, (congrArg Value.bool (by rw [decide_eq_decide]; omega)), trivial⟩, (sub_picks [0, 0, 0, 0, 0, 0, 0, 0, 0, 0, 0, 0, 0, 0, 0, 0, 0, 0, 0, 0, 0, 0, 0, 0] (by kernel_rfl))⟩
              · intro q0 _f hq0
                refine s_if rfl (fun h136 => ?_) (fun h137 => ?_)
                · refine s_seq ?_
                  refine s_region ?_
                  refine o_val rfl rfl rfl (y_move (v := (.slice _ _ _)) rfl) ?_
                  refine o_val rfl rfl rfl (y_move (v := (.int _ _)) rfl) ?_
                  refine o_val rfl rfl rfl (y_slice_lit (q := 1) Try.runUnderlying58 Try.sizeOf56 rfl rfl rfl rfl) ?_
                  refine o_val rfl rfl rfl (y_load Try.isAgg56 rfl (cel_own 18 rfl rfl)) ?_
                  refine o_pull 12 ?_
                  refine o_norm _ (by simp only [pull, picks, setG, List.cons_append, List.nil_append, List.append_nil, List.drop_succ_cons, List.drop_zero]; rfl) ?_
                  refine o_pull 11 ?_
                  refine o_norm _ (by simp only [pull, picks, setG, List.cons_append, List.nil_append, List.append_nil, List.drop_succ_cons, List.drop_zero]; rfl) ?_
                  refine o_pull 11 ?_
                  refine o_norm _ (by simp only [pull, picks, setG, List.cons_append, List.nil_append, List.append_nil, List.drop_succ_cons, List.drop_zero]; rfl) ?_
                  refine o_fn 3 (d := 147) rfl Try.call31 (OutI_c e1 u.X1.acked u.X1.wA u.X1.ws.length u.X1.wc u.X1.next u.X1.gA u.X1.gs.length u.X1.gc u.X1.ws u.X1.wE u.X1.P1 hw1 (fun f hf => hi1 f (List.mem_append_left _ hf)) (by omega)) rfl ?_
                  rintro _ _ ⟨oB, oc, oE, rfl, hoo, rfl⟩
                  refine o_norm _ (by simp only [pull, picks, setG, List.cons_append, List.nil_append, List.append_nil, List.drop_succ_cons, List.drop_zero]; rfl) ?_
                  refine o_val rfl rfl rfl (y_assign (v := (.slice _ _ _)) rfl) ?_
                  refine o_nil ?_
                  refine s_seq ?_
                  refine s_seq ?_
                  refine s_region ?_
                  refine o_val rfl rfl rfl (y_move (v := (.slice _ _ _)) rfl) ?_
                  refine o_val rfl rfl rfl (y_move (v := (.slice _ _ _)) rfl) ?_
                  refine o_val rfl rfl rfl (y_move (v := (.int _ _)) rfl) ?_
                  refine o_val rfl rfl rfl (y_slice_lit (q := 1) Try.runUnderlying63 Try.sizeOf59 rfl rfl rfl rfl) ?_
                  refine o_val rfl rfl rfl (y_load Try.isAgg59 rfl (cel_own 20 rfl rfl)) ?_
                  refine o_pull 16 ?_
                  refine o_norm _ (by simp only [pull, picks, setG, List.cons_append, List.nil_append, List.append_nil, List.drop_succ_cons, List.drop_zero]; rfl) ?_
                  refine o_pull 16 ?_
                  refine o_norm _ (by simp only [pull, picks, setG, List.cons_append, List.nil_append, List.append_nil, List.drop_succ_cons, List.drop_zero]; rfl) ?_
                  refine o_pull 16 ?_
                  refine o_norm _ (by simp only [pull, picks, setG, List.cons_append, List.nil_append, List.append_nil, List.drop_succ_cons, List.drop_zero]; rfl) ?_
                  refine o_fn 3 (d := 153) rfl Try.call32 (PacketI_c b3 u.X1.sA u.X1.ss.length u.X1.sc u.X1.acked u.X1.next u.X1.nA u.X1.ns.length u.X1.nc u.X1.ss u.X1.sE u.X1.P2 hs1 hj1 (by omega)) rfl ?_
                  rintro _ _ ⟨qB, qc, qE, rfl, hqo, rfl⟩
                  refine o_norm _ (by simp only [pull, picks, setG, List.cons_append, List.nil_append, List.append_nil, List.drop_succ_cons, List.drop_zero]; rfl) ?_
                  have hpe : pktOf u.X1.next.toNat u.X1.acked.toNat (u.X1.ws.map (·.bs)) = pktOf u.X1.next.toNat u.X1.acked.toNat ((u.X1.ss.drop u.X1.acked.toNat).map (·.bs)) := by rw [hwm1]
                  rw [← hpe] at hqo ⊢
                  have hbl := bl_bd (fun f hf => hi1 f (List.mem_append_left _ hf) : ∀ f ∈ u.X1.ws, BlIn u.X1.P1 f)
                  have hpb := pkt_byte (next := u.X1.next.toNat) (first := u.X1.acked.toNat) hbl.2
                  have hpl := pkt_len u.X1.next.toNat u.X1.acked.toNat (u.X1.ws.map (·.bs))
                  have hpf := flat_bd hbl.1 8
                  clear hpe
                  generalize hpk : pktOf u.X1.next.toNat u.X1.acked.toNat (u.X1.ws.map (·.bs)) = pk at hoo hqo hpb hpl ⊢
                  refine o_fn 0 (d := 154) rfl Try.call23 (BEqualL_c oB pk.length oc pk (hoo.cels (j := 7) rfl).down rfl hpb qB pk.length qc pk (hqo.cels (j := 3) rfl).down rfl hpb) rfl ?_
                  rintro _ _ ⟨rfl, rfl⟩
                  refine o_val rfl rfl rfl (y_not rfl) ?_
                  refine o_nil ?_
                  refine s_if rfl (fun h138 => ?_) (fun h139 => ?_)
                  · exact absurd rfl h138
                  · refine s_skip ?_
                    refine s_region ?_
                    have hpo := pkin_snoc hp0 (PkIn.new (PG := u.AP) hoo (by omega) hpb)
                    have hpw := pkin_grow (G := oE) hp1
                    refine o_pull 25 ?_
                    refine o_norm _ (by simp only [pull, picks, setG, List.cons_append, List.nil_append, List.append_nil, List.drop_succ_cons, List.drop_zero]; rfl) ?_
                    refine o_pull 8 ?_
                    refine o_norm _ (by simp only [pull, picks, setG, List.cons_append, List.nil_append, List.append_nil, List.drop_succ_cons, List.drop_zero]; rfl) ?_
                    refine o_fuse ?_
                    refine o_val rfl rfl rfl (y_move (v := (.int _ _)) rfl) ?_
                    refine o_val rfl rfl rfl (y_sub rfl rfl (by simp only [inK]; omega)) ?_
                    refine o_val rfl rfl rfl (y_move (v := (.int _ _)) rfl) ?_
                    refine o_val rfl rfl rfl (y_sub rfl rfl (by simp only [inK]; omega)) ?_
                    refine o_val rfl rfl rfl (y_index_lit (q := 0) Try.runUnderlying64 Try.sizeOf60 rfl rfl rfl rfl) ?_
                    refine o_val rfl rfl rfl (y_load Try.isAgg60 rfl (cel_own 22 rfl rfl)) ?_
                    refine o_val rfl rfl rfl (y_move (v := (.slice _ _ _)) rfl) ?_
                    refine o_lit (vs := [(0, .slice _ _ _)]) rfl rfl (LinkSays_k3 _ _ _) (fun b140 => ?_)
                    refine o_append (sz := 1) (bytes := 24) (news := [(.slice _ _ _)]) 23 rfl Try.underlying60 Try.type29 rfl rfl rfl rfl rfl ha0 rfl rfl (Src.slice Try.underlying60 (cels_own 25 rfl rfl) rfl (by simp [Value.oneCell']) (by simp)) (by omega) (fun A141 c142 E143 ho144 hn145 => ?_)
                    have ho146 : OS A141 (u.a0.length + 1) c142 29 1 ((u.a0 ++ [fl oB pk.length oc pk]).flatMap encB) E143 := (os_eq ho144 (by rw [List.flatMap_append]; rfl))
                    clear ho144
                    refine o_val rfl rfl rfl (y_index_lit (q := 0) Try.runUnderlying64 Try.sizeOf60 rfl rfl rfl rfl) ?_
                    refine o_store (v := (.slice _ _ _)) 22 rfl Try.sizeOf60 rfl rfl rfl rfl ?_
                    refine o_nil ?_
                    exact ⟨{ u with a0 := u.a0 ++ [fl oB pk.length oc pk], aA0 := A141, ac0 := c142, aE0 := E143, AP := oE ++ u.AP }, ⟨hY0.more, hY1.more, (by dsimp only; rw [List.length_append]; exact ho146), ha1, hpo, hpw, (by dsimp only; rw [List.length_append]; simp only [List.length_singleton]; omega), (by dsimp only; omega)⟩, ⟨rfl, rfl, rfl, rfl, rfl, rfl, rfl, rfl, rfl, trivial⟩, (by dsimp only; simp only [List.length_append, List.length_singleton]; exact sub_picks [8, 8, 8, 8, 8, 8, 8, 8, 8, 5, 5, 6, 5, 1, 1, 1, 2, 2, 2, 2, 2, 2, 2, 0] (by kernel_rfl))⟩
                · refine s_seq ?_
                  refine s_region ?_
                  refine o_val rfl rfl rfl (y_eql rfl rfl) ?_
                  refine o_val rfl rfl rfl (y_assign (v := (.bool _)) rfl) ?_
                  refine o_nil ?_
                  refine s_if rfl (fun h147 => ?_) (fun h148 => ?_)
                  · refine s_seq ?_
                    refine s_pull 17 ?_
                    refine s_norm _ (by simp only [pull, picks, setG, List.cons_append, List.nil_append, List.append_nil, List.drop_succ_cons, List.drop_zero]; rfl) ?_
                    refine s_pull 17 ?_
                    refine s_norm _ (by simp only [pull, picks, setG, List.cons_append, List.nil_append, List.append_nil, List.drop_succ_cons, List.drop_zero]; rfl) ?_
                    refine s_pull 15 ?_
                    refine s_norm _ (by simp only [pull, picks, setG, List.cons_append, List.nil_append, List.append_nil, List.drop_succ_cons, List.drop_zero]; rfl) ?_
                    refine s_pull 15 ?_
                    refine s_norm _ (by simp only [pull, picks, setG, List.cons_append, List.nil_append, List.append_nil, List.drop_succ_cons, List.drop_zero]; rfl) ?_
                    refine s_pull 15 ?_
                    refine s_norm _ (by simp only [pull, picks, setG, List.cons_append, List.nil_append, List.append_nil, List.drop_succ_cons, List.drop_zero]; rfl) ?_
                    refine s_pull 15 ?_
                    refine s_norm _ (by simp only [pull, picks, setG, List.cons_append, List.nil_append, List.append_nil, List.drop_succ_cons, List.drop_zero]; rfl) ?_
                    refine s_pull 15 ?_
                    refine s_norm _ (by simp only [pull, picks, setG, List.cons_append, List.nil_append, List.append_nil, List.drop_succ_cons, List.drop_zero]; rfl) ?_
                    refine s_drawn 7 (by kernel_rfl) ?_
                    refine d_val (i := 0) rfl (by kernel_rfl) (by kernel_rfl) (by kernel_rfl) rfl rfl rfl (y_move (v := (.slice _ _ _)) rfl) ?_
                    refine d_val (i := 1) rfl (by kernel_rfl) (by kernel_rfl) (by kernel_rfl) rfl rfl rfl (y_move (v := (.int _ _)) rfl) ?_
                    refine d_val (i := 2) rfl (by kernel_rfl) (by kernel_rfl) (by kernel_rfl) rfl rfl rfl (y_slice_lit (q := 1) Try.runUnderlying58 Try.sizeOf56 rfl rfl rfl rfl) ?_
                    refine d_val (i := 3) rfl (by kernel_rfl) (by kernel_rfl) (by kernel_rfl) rfl rfl rfl (y_load Try.isAgg56 rfl (cel_own 11 rfl rfl)) ?_
                    refine d_val (i := 4) rfl (by kernel_rfl) (by kernel_rfl) (by kernel_rfl) rfl rfl rfl (y_move (v := (.slice _ _ _)) rfl) ?_
                    refine d_val (i := 6) rfl (by kernel_rfl) (by kernel_rfl) (by kernel_rfl) rfl rfl rfl (y_move (v := (.slice _ _ _)) rfl) ?_
                    refine d_val (i := 7) rfl (by kernel_rfl) (by kernel_rfl) (by kernel_rfl) rfl rfl rfl (y_move (v := (.int _ _)) rfl) ?_
                    refine d_val (i := 8) rfl (by kernel_rfl) (by kernel_rfl) (by kernel_rfl) rfl rfl rfl (y_slice_lit (q := 1) Try.runUnderlying63 Try.sizeOf59 rfl rfl rfl rfl) ?_
                    refine d_val (i := 9) rfl (by kernel_rfl) (by kernel_rfl) (by kernel_rfl) rfl rfl rfl (y_load Try.isAgg59 rfl (cel_own 12 rfl rfl)) ?_
                    refine d_val (i := 10) rfl (by kernel_rfl) (by kernel_rfl) (by kernel_rfl) rfl rfl rfl (y_move (v := (.slice _ _ _)) rfl) ?_
                    refine d_eff (k := 5) (n := 7) (m := 17) rfl (by kernel_rfl) rfl ?_
                    refine o_fn 4 (d := 173) rfl Try.call33 (InL_c e1 u.X1.acked u.X1.wA u.X1.ws.length u.X1.wc u.X1.next u.X1.gA u.X1.gs.length u.X1.gc u.X1.ws u.X1.wE u.X1.gs u.X1.gE u.X1.P1 hw1 hg1 hi1 (by omega) R m d raw hr.lift hm) rfl ?_
                    rintro _ _ (⟨he1, rfl, yP, hyi, rfl⟩ | ⟨he1, rfl, yA, yc, zA, zc, zs, zE, yP, hzm, hyo, hzo, hyi, rfl⟩)
                    · refine o_norm _ (by simp only [pull, picks, setG, List.cons_append, List.nil_append, List.append_nil, List.drop_succ_cons, List.drop_zero]; rfl) ?_
                      refine o_nil ?_
                      refine d_eff (k := 11) (n := 7) (m := 17) rfl (by kernel_rfl) rfl ?_
                      refine o_pull 6 ?_
                      refine o_norm _ (by simp only [pull, picks, setG, List.cons_append, List.nil_append, List.append_nil, List.drop_succ_cons, List.drop_zero]; rfl) ?_
                      refine o_pull 6 ?_
                      refine o_norm _ (by simp only [pull, picks, setG, List.cons_append, List.nil_append, List.append_nil, List.drop_succ_cons, List.drop_zero]; rfl) ?_
                      refine o_pull 6 ?_
                      refine o_norm _ (by simp only [pull, picks, setG, List.cons_append, List.nil_append, List.append_nil, List.drop_succ_cons, List.drop_zero]; rfl) ?_
                      refine o_fn 3 (d := 179) rfl Try.call34 (TakeH_c b3 u.X1.sA u.X1.ss.length u.X1.sc u.X1.acked u.X1.next u.X1.nA u.X1.ns.length u.X1.nc u.X1.ns u.X1.nE u.X1.P3 hn1 hk1 (by omega) R m d raw hr.lift hm) rfl ?_
                      rintro _ _ (⟨he2, rfl, rfl⟩ | ⟨he2, _⟩)
                      · refine o_norm _ (by simp only [pull, picks, setG, List.cons_append, List.nil_append, List.append_nil, List.drop_succ_cons, List.drop_zero]; rfl) ?_
                        refine o_nil ?_
                        refine d_val (i := 12) rfl (by kernel_rfl) (by kernel_rfl) (by kernel_rfl) rfl rfl rfl (y_neq rfl rfl) ?_
                        refine d_nil (n := 7) (m := 17) (by kernel_rfl) rfl ?_
                        refine s_if rfl (fun h149 => ?_) (fun h150 => ?_)
                        · exact absurd (by rw [hlen1.1]) h149
                        · refine s_skip ?_
                          exact ⟨{ u with X1 := { u.X1 with P1 := yP } }, ⟨hY0.more, ⟨hw1, hg1, hyi, hs1, hj1, hn1, hk1, hT1.more⟩, ha0, ha1, hp0, hp1, by dsimp only; omega, by dsimp only; omega⟩, ⟨rfl, rfl, rfl, rfl, rfl, rfl, rfl, rfl, rfl, trivial⟩, (sub_picks [7, 7, 7, 7, 7, 7, 7, 7, 7, 3, 3, 3, 3, 0, 2, 2, 0, 0, 0, 0, 0, 0, 0, 0] (by kernel_rfl))⟩
                      · exact absurd (by rw [hlen1.1]; exact he2) he1
                    · refine o_norm _ (by simp only [pull, picks, setG, List.cons_append, List.nil_append, List.append_nil, List.drop_succ_cons, List.drop_zero]; rfl) ?_
                      refine o_nil ?_
                      refine d_eff (k := 11) (n := 7) (m := 17) rfl (by kernel_rfl) rfl ?_
                      refine o_pull 6 ?_
                      refine o_norm _ (by simp only [pull, picks, setG, List.cons_append, List.nil_append, List.append_nil, List.drop_succ_cons, List.drop_zero]; rfl) ?_
                      refine o_pull 6 ?_
                      refine o_norm _ (by simp only [pull, picks, setG, List.cons_append, List.nil_append, List.append_nil, List.drop_succ_cons, List.drop_zero]; rfl) ?_
                      refine o_pull 6 ?_
                      refine o_norm _ (by simp only [pull, picks, setG, List.cons_append, List.nil_append, List.append_nil, List.drop_succ_cons, List.drop_zero]; rfl) ?_
                      refine o_fn 3 (d := 179) rfl Try.call34 (TakeH_c b3 u.X1.sA u.X1.ss.length u.X1.sc u.X1.acked u.X1.next u.X1.nA u.X1.ns.length u.X1.nc u.X1.ns u.X1.nE u.X1.P3 hn1 hk1 (by omega) R m d raw hr.lift hm) rfl ?_
                      rintro _ _ (⟨he2, _⟩ | ⟨he2, rfl, tA, tc, ts, tE, tP, htm, hto, hti, rfl⟩)
                      · exact absurd (by rw [← hlen1.1]; exact he1) he2
                      · refine o_norm _ (by simp only [pull, picks, setG, List.cons_append, List.nil_append, List.append_nil, List.drop_succ_cons, List.drop_zero]; rfl) ?_
                        refine o_nil ?_
                        refine d_val (i := 12) rfl (by kernel_rfl) (by kernel_rfl) (by kernel_rfl) rfl rfl rfl (y_neq rfl rfl) ?_
                        refine d_nil (n := 7) (m := 17) (by kernel_rfl) rfl ?_
                        refine s_if rfl (fun h151 => ?_) (fun h152 => ?_)
                        · exact absurd rfl h151
                        · refine s_skip ?_
                          exact ⟨{ u with X1 := { u.X1 with acked := max u.X1.acked (parse m raw).ack, ws := u.X1.ws.drop (max u.X1.acked (parse m raw).ack - u.X1.acked).toNat, wA := yA, wc := yc, next := (recv (parse m raw).first (parse m raw).ms u.X1.next (u.X1.gs.map (·.bs)) (parse m raw).ms.length).1, gs := zs, gA := zA, gc := zc, gE := zE, P1 := yP, ns := ts, nA := tA, nc := tc, nE := tE, P3 := tP } }, ⟨hY0.more, ⟨(by dsimp only; rw [List.length_drop]; exact hyo), hzo, hyi, hs1, hj1, hto, hti, told_take (n := m) (bs := raw) hT1 (inErr_ok he2).2 hms8 rfl rfl rfl hzm htm rfl⟩, ha0, ha1, hp0, hp1, by dsimp only; omega, by dsimp only; omega⟩, ⟨rfl, rfl, rfl, rfl, rfl, rfl, rfl, rfl, rfl, trivial⟩, (by dsimp only; simp only [List.length_drop, hgm1]; exact sub_picks [7, 7, 7, 7, 7, 7, 7, 7, 7, 3, 3, 3, 3, 0, 2, 2, 0, 0, 0, 0, 0, 0, 0, 0] (by kernel_rfl))⟩
                  · refine s_seq ?_
                    refine s_seq ?_
                    refine s_region ?_
                    refine o_val rfl rfl rfl (y_move (v := (.int _ _)) rfl) ?_
                    refine o_val rfl rfl rfl (y_index_lit (q := 1) Try.runUnderlying64 Try.sizeOf60 rfl rfl rfl rfl) ?_
                    refine o_val rfl rfl rfl (y_load Try.isAgg60 rfl (cel_own 20 rfl rfl)) ?_
                    refine o_val rfl rfl rfl (y_len Try.runUnderlying60 rfl) ?_
                    refine o_val rfl rfl rfl (y_eql rfl rfl) ?_
                    refine o_nil ?_
                    refine s_if rfl (fun h153 => ?_) (fun h154 => ?_)
                    · refine s_exit ?_
                      refine s_region ?_
                      refine o_val rfl rfl rfl (y_add rfl rfl (by simp only [inK]; omega)) ?_
                      refine o_val rfl rfl rfl (y_move (v := (.int _ _)) rfl) ?_
                      refine o_nil ?_
                      exact ⟨{ u with i := u.i + 1 }, (by first | omega | (dsimp only; omega)), ⟨by dsimp only; omega, hok.more rfl rfl rfl rfl rfl rfl rfl rfl rfl rfl rfl⟩, ⟨rfl, rfl, rfl, rfl, rfl, rfl, (congrArg (Value.int .i64) (by dsimp only; omega)), trivial⟩, (sub_picks [0, 0, 0, 0, 0, 0, 0, 0, 0, 0, 0, 0, 0, 0, 0, 0, 0, 0, 0, 0, 0, 0, 0, 0] (by kernel_rfl))⟩
                    · refine s_skip ?_
                      refine s_seq ?_
                      refine s_drawn 0 (by kernel_rfl) ?_
                      refine d_val (i := 0) rfl (by kernel_rfl) (by kernel_rfl) (by kernel_rfl) rfl rfl rfl (y_move (v := (.int _ _)) rfl) ?_
                      refine d_val (i := 1) rfl (by kernel_rfl) (by kernel_rfl) (by kernel_rfl) rfl rfl rfl (y_index_lit (q := 1) Try.runUnderlying64 Try.sizeOf60 rfl rfl rfl rfl) ?_
                      refine d_val (i := 2) rfl (by kernel_rfl) (by kernel_rfl) (by kernel_rfl) rfl rfl rfl (y_load Try.isAgg60 rfl (cel_own 20 rfl rfl)) ?_
                      refine d_val (i := 3) rfl (by kernel_rfl) (by kernel_rfl) (by kernel_rfl) rfl rfl rfl (y_move (v := (.int _ _)) rfl) ?_
                      refine d_val (i := 4) rfl (by kernel_rfl) (by kernel_rfl) (by kernel_rfl) rfl rfl rfl (y_shr rfl rfl (by omega)) ?_
                      refine d_val (i := 5) rfl (by kernel_rfl) (by kernel_rfl) (by kernel_rfl) rfl rfl rfl (y_and rfl rfl) ?_
                      refine d_val (i := 6) rfl (by kernel_rfl) (by kernel_rfl) (by kernel_rfl) rfl rfl rfl (y_move (v := (.int _ _)) rfl) ?_
                      refine d_val (i := 7) rfl (by kernel_rfl) (by kernel_rfl) (by kernel_rfl) rfl rfl rfl (y_index_lit (q := 1) Try.runUnderlying64 Try.sizeOf60 rfl rfl rfl rfl) ?_
                      refine d_val (i := 8) rfl (by kernel_rfl) (by kernel_rfl) (by kernel_rfl) rfl rfl rfl (y_load Try.isAgg60 rfl (cel_own 20 rfl rfl)) ?_
                      refine d_val (i := 9) rfl (by kernel_rfl) (by kernel_rfl) (by kernel_rfl) rfl rfl rfl (y_len Try.runUnderlying60 rfl) ?_
                      refine d_val (i := 10) rfl (by kernel_rfl) (by kernel_rfl) (by kernel_rfl) rfl rfl rfl (y_rem rfl rfl (by have hv := and1023 ((acts.getD ((u.i : Nat) : Int).toNat 0).fdiv (2 ^ min (4 : Int).toNat IntKind.i64.bits)); omega)) ?_
                      have hv := and1023 ((acts.getD ((u.i : Nat) : Int).toNat 0).fdiv (2 ^ min (4 : Int).toNat IntKind.i64.bits))
                      have hrm : 0 ≤ ((bAnd .i64 ((acts.getD ((u.i : Nat) : Int).toNat 0).fdiv (2 ^ min (4 : Int).toNat IntKind.i64.bits)) 1023) % ((u.a1.length : Nat) : Int)) ∧ ((bAnd .i64 ((acts.getD ((u.i : Nat) : Int).toNat 0).fdiv (2 ^ min (4 : Int).toNat IntKind.i64.bits)) 1023) % ((u.a1.length : Nat) : Int)) < ((u.a1.length : Nat) : Int) := ⟨Int.emod_nonneg _ (by omega), Int.emod_lt_of_pos _ (by omega)⟩
                      have hpf : PkIn u.AP (u.a1.getD ((bAnd .i64 ((acts.getD ((u.i : Nat) : Int).toNat 0).fdiv (2 ^ min (4 : Int).toNat IntKind.i64.bits)) 1023) % ((u.a1.length : Nat) : Int)).toNat default) := hp1 _ (getD_memN (by omega))
                      have hpn := hpf.2.2.1
                      refine d_val (i := 11) rfl (by kernel_rfl) (by kernel_rfl) (by kernel_rfl) rfl rfl rfl (y_index1 Try.runUnderlying60 Try.sizeOf29 (ha1.some_of (by omega)) rfl rfl (by omega)) ?_
                      refine d_val (i := 12) rfl (by kernel_rfl) (by kernel_rfl) (by kernel_rfl) rfl rfl rfl (y_load Try.isAgg29 rfl (cel_B (ha1.cels (j := 22) rfl) (by omega))) ?_
                      refine d_eff (k := 13) (n := 0) (m := 24) rfl (by kernel_rfl) rfl ?_
                      refine o_fn 0 (d := 60) rfl Try.call35 (SCloneB_c _ (u.a1.getD ((bAnd .i64 ((acts.getD ((u.i : Nat) : Int).toNat 0).fdiv (2 ^ min (4 : Int).toNat IntKind.i64.bits)) 1023) % ((u.a1.length : Nat) : Int)).toNat default).n _ (u.a1.getD ((bAnd .i64 ((acts.getD ((u.i : Nat) : Int).toNat 0).fdiv (2 ^ min (4 : Int).toNat IntKind.i64.bits)) 1023) % ((u.a1.length : Nat) : Int)).toNat default).bs (hpf.at (j := 23) rfl).2.2.1 hpf.1 (by omega)) rfl ?_
                      rintro _ _ ⟨cB, ce, cG, rfl, hco, rfl⟩
                      refine o_norm _ (by simp only [pull, picks, setG, List.cons_append, List.nil_append, List.append_nil, List.drop_succ_cons, List.drop_zero]; rfl) ?_
                      refine o_nil ?_
                      refine d_val (i := 14) rfl (by kernel_rfl) (by kernel_rfl) (by kernel_rfl) rfl rfl rfl (y_assign (v := (.slice _ _ _)) rfl) ?_
                      refine d_nil (n := 1) (m := 24) (by kernel_rfl) rfl ?_
                      refine s_join (γ := LC) (fun z => [(1, .slice R m d), (5, .slice (some ⟨b1, 0, none⟩) 2 2), (6, .slice (some ⟨b4, 0, none⟩) 2 2), (7, .pointer (some ⟨b5, 0, none⟩)), (8, .int .i64 u.i), (9, .int .i64 (acts.getD ((u.i : Nat) : Int).toNat 0)), (10, .int .i64 1), (15, .slice cB (u.a1.getD ((bAnd .i64 ((acts.getD ((u.i : Nat) : Int).toNat 0).fdiv (2 ^ min (4 : Int).toNat IntKind.i64.bits)) 1023) % ((u.a1.length : Nat) : Int)).toNat default).n ce), (30, .slice A (min (n : Int) 60).toNat c), (31, .int .i64 (((min (n : Int) 60).toNat : Nat) : Int)), (32, .int .i64 u.i)]) (fun z => [endg e0 u.X0.acked u.X0.wA u.X0.ws.length u.X0.wc u.X0.next u.X0.gA u.X0.gs.length u.X0.gc, u.X0.wE, u.X0.gE, u.X0.P1, halfg b2 u.X0.sA u.X0.ss.length u.X0.sc u.X0.acked u.X0.next u.X0.nA u.X0.ns.length u.X0.nc, u.X0.sE, u.X0.P2, u.X0.nE, u.X0.P3, endg e1 u.X1.acked u.X1.wA u.X1.ws.length u.X1.wc u.X1.next u.X1.gA u.X1.gs.length u.X1.gc, u.X1.wE, u.X1.gE, u.X1.P1, halfg b3 u.X1.sA u.X1.ss.length u.X1.sc u.X1.acked u.X1.next u.X1.nA u.X1.ns.length u.X1.nc, u.X1.sE, u.X1.P2, u.X1.nE, u.X1.P3, [(b1, .cells [.pointer (some ⟨e0, 0, none⟩), .pointer (some ⟨e1, 0, none⟩)].toArray 56 (0, 0))], [(b4, .cells [.pointer (some ⟨b2, 0, none⟩), .pointer (some ⟨b3, 0, none⟩)].toArray 59 (0, 0))], [(b5, .cells [.slice u.aA0 u.a0.length u.ac0, .slice u.aA1 u.a1.length u.ac1].toArray 64 (0, 0))], u.aE0, u.aE1, u.AP, z.E]) (fun z => OS cB (u.a1.getD ((bAnd .i64 ((acts.getD ((u.i : Nat) : Int).toNat 0).fdiv (2 ^ min (4 : Int).toNat IntKind.i64.bits)) 1023) % ((u.a1.length : Nat) : Int)).toNat default).n ce 5 1 ((z.bs).map (.int .u8)) z.E ∧ ∀ b ∈ z.bs, 0 ≤ b ∧ b ≤ 255) ?_ ?_
                      · refine s_seq ?_
                        refine s_region ?_
                        refine o_val rfl rfl rfl (y_move (v := (.int _ _)) rfl) ?_
                        refine o_val rfl rfl rfl (y_shr rfl rfl (by omega)) ?_
                        refine o_val rfl rfl rfl (y_and rfl rfl) ?_
                        refine o_val rfl rfl rfl (y_eql rfl rfl) ?_
                        refine o_nil ?_
                        refine s_if rfl (fun h155 => ?_) (fun h156 => ?_)
                        · refine s_region ?_
                          refine o_val rfl rfl rfl (y_move (v := (.slice _ _ _)) rfl) ?_
                          refine o_val rfl rfl rfl (y_move (v := (.int _ _)) rfl) ?_
                          refine o_val rfl rfl rfl (y_shr rfl rfl (by omega)) ?_
                          refine o_val rfl rfl rfl (y_and rfl rfl) ?_
                          refine o_val rfl rfl rfl (y_move (v := (.slice _ _ _)) rfl) ?_
                          refine o_val rfl rfl rfl (y_len Try.runUnderlying29 rfl) ?_
                          refine o_val rfl rfl rfl (y_rem rfl rfl (by omega)) ?_
                          have hrq : 0 ≤ ((bAnd .i64 ((acts.getD ((u.i : Nat) : Int).toNat 0).fdiv (2 ^ min (4 : Int).toNat IntKind.i64.bits)) 1023) % (((u.a1.getD ((bAnd .i64 ((acts.getD ((u.i : Nat) : Int).toNat 0).fdiv (2 ^ min (4 : Int).toNat IntKind.i64.bits)) 1023) % ((u.a1.length : Nat) : Int)).toNat default).n : Nat) : Int)) ∧ ((bAnd .i64 ((acts.getD ((u.i : Nat) : Int).toNat 0).fdiv (2 ^ min (4 : Int).toNat IntKind.i64.bits)) 1023) % (((u.a1.getD ((bAnd .i64 ((acts.getD ((u.i : Nat) : Int).toNat 0).fdiv (2 ^ min (4 : Int).toNat IntKind.i64.bits)) 1023) % ((u.a1.length : Nat) : Int)).toNat default).n : Nat) : Int)) < (((u.a1.getD ((bAnd .i64 ((acts.getD ((u.i : Nat) : Int).toNat 0).fdiv (2 ^ min (4 : Int).toNat IntKind.i64.bits)) 1023) % ((u.a1.length : Nat) : Int)).toNat default).n : Nat) : Int) := ⟨Int.emod_nonneg _ (by omega), Int.emod_lt_of_pos _ (by omega)⟩
                          have hpl := hpf.1
                          refine o_val rfl rfl rfl (y_index1 Try.runUnderlying29 Try.sizeOf5 (hco.some_of (by omega)) rfl rfl (by omega)) ?_
                          refine o_val rfl rfl rfl (y_load Try.isAgg5 rfl (cel_int (hco.cels (j := 0) rfl) (by omega))) ?_
                          refine o_val rfl rfl rfl (y_add' rfl rfl) ?_
                          refine o_val rfl rfl rfl (y_index1 Try.runUnderlying29 Try.sizeOf5 (hco.some_of (by omega)) rfl rfl (by omega)) ?_
                          refine o_store_os (vs := [(.int _ _)]) 0 rfl hco Try.sizeOf5 rfl rfl rfl (by simp [Value.oneCell']) (by simp) (by first | omega | (simp only [List.length_map, List.length_cons, List.length_nil]; omega)) (fun E157 ho158 => ?_)
                          have ho159 := os_lay_int ho158 (by first | omega | (simp only [List.length_map, List.length_cons, List.length_nil]; omega))
                          clear ho158
                          refine o_nil ?_
                          exact ⟨LC.mk E157 ((u.a1.getD ((bAnd .i64 ((acts.getD ((u.i : Nat) : Int).toNat 0).fdiv (2 ^ min (4 : Int).toNat IntKind.i64.bits)) 1023) % ((u.a1.length : Nat) : Int)).toNat default).bs.set ((bAnd .i64 ((acts.getD ((u.i : Nat) : Int).toNat 0).fdiv (2 ^ min (4 : Int).toNat IntKind.i64.bits)) 1023) % (((u.a1.getD ((bAnd .i64 ((acts.getD ((u.i : Nat) : Int).toNat 0).fdiv (2 ^ min (4 : Int).toNat IntKind.i64.bits)) 1023) % ((u.a1.length : Nat) : Int)).toNat default).n : Nat) : Int)).toNat (IntKind.u8.wrap ((u.a1.getD ((bAnd .i64 ((acts.getD ((u.i : Nat) : Int).toNat 0).fdiv (2 ^ min (4 : Int).toNat IntKind.i64.bits)) 1023) % ((u.a1.length : Nat) : Int)).toNat default).bs.getD ((bAnd .i64 ((acts.getD ((u.i : Nat) : Int).toNat 0).fdiv (2 ^ min (4 : Int).toNat IntKind.i64.bits)) 1023) % (((u.a1.getD ((bAnd .i64 ((acts.getD ((u.i : Nat) : Int).toNat 0).fdiv (2 ^ min (4 : Int).toNat IntKind.i64.bits)) 1023) % ((u.a1.length : Nat) : Int)).toNat default).n : Nat) : Int)).toNat 0 + 1))), ⟨ho159, set_byte hpf.2.2.2.2⟩, ⟨rfl, rfl, rfl, rfl, rfl, rfl, rfl, rfl, rfl, rfl, rfl, trivial⟩, (sub_picks [1, 1, 1, 1, 1, 1, 1, 1, 1, 1, 1, 1, 1, 1, 1, 1, 1, 1, 1, 1, 1, 1, 1, 1, 0] (by kernel_rfl))⟩
                        · refine s_skip ?_
                          exact ⟨LC.mk cG (u.a1.getD ((bAnd .i64 ((acts.getD ((u.i : Nat) : Int).toNat 0).fdiv (2 ^ min (4 : Int).toNat IntKind.i64.bits)) 1023) % ((u.a1.length : Nat) : Int)).toNat default).bs, ⟨hco, hpf.2.2.2.2⟩, ⟨rfl, rfl, rfl, rfl, rfl, rfl, rfl, rfl, rfl, rfl, rfl, trivial⟩, (sub_picks [1, 1, 1, 1, 1, 1, 1, 1, 1, 1, 1, 1, 1, 1, 1, 1, 1, 1, 1, 1, 1, 1, 1, 1, 0] (by kernel_rfl))⟩
                      · intro z _f hZ
                        obtain ⟨hzo2, hzb⟩ := hZ
                        have hzl : z.bs.length = (u.a1.getD ((bAnd .i64 ((acts.getD ((u.i : Nat) : Int).toNat 0).fdiv (2 ^ min (4 : Int).toNat IntKind.i64.bits)) 1023) % ((u.a1.length : Nat) : Int)).toNat default).n := by simpa using hzo2.len
                        have hms8 := (parse_bd hzl hzb).2.2.2.2
                        refine s_seq ?_
                        refine s_pull 17 ?_
                        refine s_norm _ (by simp only [pull, picks, setG, List.cons_append, List.nil_append, List.append_nil, List.drop_succ_cons, List.drop_zero]; rfl) ?_
                        refine s_pull 17 ?_
                        refine s_norm _ (by simp only [pull, picks, setG, List.cons_append, List.nil_append, List.append_nil, List.drop_succ_cons, List.drop_zero]; rfl) ?_
                        refine s_pull 15 ?_
                        refine s_norm _ (by simp only [pull, picks, setG, List.cons_append, List.nil_append, List.append_nil, List.drop_succ_cons, List.drop_zero]; rfl) ?_
                        refine s_pull 15 ?_
                        refine s_norm _ (by simp only [pull, picks, setG, List.cons_append, List.nil_append, List.append_nil, List.drop_succ_cons, List.drop_zero]; rfl) ?_
                        refine s_pull 15 ?_
                        refine s_norm _ (by simp only [pull, picks, setG, List.cons_append, List.nil_append, List.append_nil, List.drop_succ_cons, List.drop_zero]; rfl) ?_
                        refine s_pull 15 ?_
                        refine s_norm _ (by simp only [pull, picks, setG, List.cons_append, List.nil_append, List.append_nil, List.drop_succ_cons, List.drop_zero]; rfl) ?_
                        refine s_pull 15 ?_
                        refine s_norm _ (by simp only [pull, picks, setG, List.cons_append, List.nil_append, List.append_nil, List.drop_succ_cons, List.drop_zero]; rfl) ?_
                        refine s_drawn 7 (by kernel_rfl) ?_
                        refine d_val (i := 0) rfl (by kernel_rfl) (by kernel_rfl) (by kernel_rfl) rfl rfl rfl (y_move (v := (.slice _ _ _)) rfl) ?_
                        refine d_val (i := 1) rfl (by kernel_rfl) (by kernel_rfl) (by kernel_rfl) rfl rfl rfl (y_move (v := (.int _ _)) rfl) ?_
                        refine d_val (i := 2) rfl (by kernel_rfl) (by kernel_rfl) (by kernel_rfl) rfl rfl rfl (y_slice_lit (q := 1) Try.runUnderlying58 Try.sizeOf56 rfl rfl rfl rfl) ?_
                        refine d_val (i := 3) rfl (by kernel_rfl) (by kernel_rfl) (by kernel_rfl) rfl rfl rfl (y_load Try.isAgg56 rfl (cel_own 11 rfl rfl)) ?_
                        refine d_val (i := 4) rfl (by kernel_rfl) (by kernel_rfl) (by kernel_rfl) rfl rfl rfl (y_move (v := (.slice _ _ _)) rfl) ?_
                        refine d_val (i := 6) rfl (by kernel_rfl) (by kernel_rfl) (by kernel_rfl) rfl rfl rfl (y_move (v := (.slice _ _ _)) rfl) ?_
                        refine d_val (i := 7) rfl (by kernel_rfl) (by kernel_rfl) (by kernel_rfl) rfl rfl rfl (y_move (v := (.int _ _)) rfl) ?_
                        refine d_val (i := 8) rfl (by kernel_rfl) (by kernel_rfl) (by kernel_rfl) rfl rfl rfl (y_slice_lit (q := 1) Try.runUnderlying63 Try.sizeOf59 rfl rfl rfl rfl) ?_
                        refine d_val (i := 9) rfl (by kernel_rfl) (by kernel_rfl) (by kernel_rfl) rfl rfl rfl (y_load Try.isAgg59 rfl (cel_own 12 rfl rfl)) ?_
                        refine d_val (i := 10) rfl (by kernel_rfl) (by kernel_rfl) (by kernel_rfl) rfl rfl rfl (y_move (v := (.slice _ _ _)) rfl) ?_
                        refine d_eff (k := 5) (n := 7) (m := 18) rfl (by kernel_rfl) rfl ?_
                        refine o_fn 4 (d := 81) rfl Try.call33 (InL_c e1 u.X1.acked u.X1.wA u.X1.ws.length u.X1.wc u.X1.next u.X1.gA u.X1.gs.length u.X1.gc u.X1.ws u.X1.wE u.X1.gs u.X1.gE u.X1.P1 hw1 hg1 hi1 (by omega) cB (u.a1.getD ((bAnd .i64 ((acts.getD ((u.i : Nat) : Int).toNat 0).fdiv (2 ^ min (4 : Int).toNat IntKind.i64.bits)) 1023) % ((u.a1.length : Nat) : Int)).toNat default).n ce z.bs ⟨hzl, hzo2.2.1, (hzo2.cels (j := 20) rfl).down, hzb⟩ (by omega)) rfl ?_
                        rintro _ _ (⟨he1, rfl, yP, hyi, rfl⟩ | ⟨he1, rfl, yA, yc, zA, zc, zs, zE, yP, hzm, hyo, hzo, hyi, rfl⟩)
                        · refine o_norm _ (by simp only [pull, picks, setG, List.cons_append, List.nil_append, List.append_nil, List.drop_succ_cons, List.drop_zero]; rfl) ?_
                          refine o_nil ?_
                          refine d_eff (k := 11) (n := 7) (m := 18) rfl (by kernel_rfl) rfl ?_
                          refine o_pull 6 ?_
                          refine o_norm _ (by simp only [pull, picks, setG, List.cons_append, List.nil_append, List.append_nil, List.drop_succ_cons, List.drop_zero]; rfl) ?_
                          refine o_pull 6 ?_
                          refine o_norm _ (by simp only [pull, picks, setG, List.cons_append, List.nil_append, List.append_nil, List.drop_succ_cons, List.drop_zero]; rfl) ?_
                          refine o_pull 6 ?_
                          refine o_norm _ (by simp only [pull, picks, setG, List.cons_append, List.nil_append, List.append_nil, List.drop_succ_cons, List.drop_zero]; rfl) ?_
                          refine o_fn 3 (d := 87) rfl Try.call34 (TakeH_c b3 u.X1.sA u.X1.ss.length u.X1.sc u.X1.acked u.X1.next u.X1.nA u.X1.ns.length u.X1.nc u.X1.ns u.X1.nE u.X1.P3 hn1 hk1 (by omega) cB (u.a1.getD ((bAnd .i64 ((acts.getD ((u.i : Nat) : Int).toNat 0).fdiv (2 ^ min (4 : Int).toNat IntKind.i64.bits)) 1023) % ((u.a1.length : Nat) : Int)).toNat default).n ce z.bs ⟨hzl, hzo2.2.1, (hzo2.cels (j := 21) rfl).down, hzb⟩ (by omega)) rfl ?_
                          rintro _ _ (⟨he2, rfl, rfl⟩ | ⟨he2, _⟩)
                          · refine o_norm _ (by simp only [pull, picks, setG, List.cons_append, List.nil_append, List.append_nil, List.drop_succ_cons, List.drop_zero]; rfl) ?_
                            refine o_nil ?_
                            refine d_val (i := 12) rfl (by kernel_rfl) (by kernel_rfl) (by kernel_rfl) rfl rfl rfl (y_neq rfl rfl) ?_
                            refine d_nil (n := 7) (m := 18) (by kernel_rfl) rfl ?_
                            refine s_if rfl (fun h160 => ?_) (fun h161 => ?_)
                            · exact absurd (by rw [hlen1.1]) h160
                            · refine s_skip ?_
                              exact ⟨{ u with X1 := { u.X1 with P1 := yP } }, ⟨hY0.more, ⟨hw1, hg1, hyi, hs1, hj1, hn1, hk1, hT1.more⟩, ha0, ha1, hp0, hp1, by dsimp only; omega, by dsimp only; omega⟩, ⟨rfl, rfl, rfl, rfl, rfl, rfl, rfl, rfl, rfl, trivial⟩, (sub_picks [7, 7, 7, 7, 7, 7, 7, 7, 7, 3, 3, 3, 3, 0, 2, 2, 0, 0, 0, 0, 0, 0, 0, 0] (by kernel_rfl))⟩
                          · exact absurd (by rw [hlen1.1]; exact he2) he1
                        · refine o_norm _ (by simp only [pull, picks, setG, List.cons_append, List.nil_append, List.append_nil, List.drop_succ_cons, List.drop_zero]; rfl) ?_
                          refine o_nil ?_
                          refine d_eff (k := 11) (n := 7) (m := 18) rfl (by kernel_rfl) rfl ?_
                          refine o_pull 6 ?_
                          refine o_norm _ (by simp only [pull, picks, setG, List.cons_append, List.nil_append, List.append_nil, List.drop_succ_cons, List.drop_zero]; rfl) ?_
                          refine o_pull 6 ?_
                          refine o_norm _ (by simp only [pull, picks, setG, List.cons_append, List.nil_append, List.append_nil, List.drop_succ_cons, List.drop_zero]; rfl) ?_
                          refine o_pull 6 ?_
                          refine o_norm _ (by simp only [pull, picks, setG, List.cons_append, List.nil_append, List.append_nil, List.drop_succ_cons, List.drop_zero]; rfl) ?_
                          refine o_fn 3 (d := 87) rfl Try.call34 (TakeH_c b3 u.X1.sA u.X1.ss.length u.X1.sc u.X1.acked u.X1.next u.X1.nA u.X1.ns.length u.X1.nc u.X1.ns u.X1.nE u.X1.P3 hn1 hk1 (by omega) cB (u.a1.getD ((bAnd .i64 ((acts.getD ((u.i : Nat) : Int).toNat 0).fdiv (2 ^ min (4 : Int).toNat IntKind.i64.bits)) 1023) % ((u.a1.length : Nat) : Int)).toNat default).n ce z.bs ⟨hzl, hzo2.2.1, (hzo2.cels (j := 21) rfl).down, hzb⟩ (by omega)) rfl ?_
                          rintro _ _ (⟨he2, _⟩ | ⟨he2, rfl, tA, tc, ts, tE, tP, htm, hto, hti, rfl⟩)
                          · exact absurd (by rw [← hlen1.1]; exact he1) he2
                          · refine o_norm _ (by simp only [pull, picks, setG, List.cons_append, List.nil_append, List.append_nil, List.drop_succ_cons, List.drop_zero]; rfl) ?_
                            refine o_nil ?_
                            refine d_val (i := 12) rfl (by kernel_rfl) (by kernel_rfl) (by kernel_rfl) rfl rfl rfl (y_neq rfl rfl) ?_
                            refine d_nil (n := 7) (m := 18) (by kernel_rfl) rfl ?_
                            refine s_if rfl (fun h162 => ?_) (fun h163 => ?_)
                            · exact absurd rfl h162
                            · refine s_skip ?_
                              exact ⟨{ u with X1 := { u.X1 with acked := max u.X1.acked (parse (u.a1.getD ((bAnd .i64 ((acts.getD ((u.i : Nat) : Int).toNat 0).fdiv (2 ^ min (4 : Int).toNat IntKind.i64.bits)) 1023) % ((u.a1.length : Nat) : Int)).toNat default).n z.bs).ack, ws := u.X1.ws.drop (max u.X1.acked (parse (u.a1.getD ((bAnd .i64 ((acts.getD ((u.i : Nat) : Int).toNat 0).fdiv (2 ^ min (4 : Int).toNat IntKind.i64.bits)) 1023) % ((u.a1.length : Nat) : Int)).toNat default).n z.bs).ack - u.X1.acked).toNat, wA := yA, wc := yc, next := (recv (parse (u.a1.getD ((bAnd .i64 ((acts.getD ((u.i : Nat) : Int).toNat 0).fdiv (2 ^ min (4 : Int).toNat IntKind.i64.bits)) 1023) % ((u.a1.length : Nat) : Int)).toNat default).n z.bs).first (parse (u.a1.getD ((bAnd .i64 ((acts.getD ((u.i : Nat) : Int).toNat 0).fdiv (2 ^ min (4 : Int).toNat IntKind.i64.bits)) 1023) % ((u.a1.length : Nat) : Int)).toNat default).n z.bs).ms u.X1.next (u.X1.gs.map (·.bs)) (parse (u.a1.getD ((bAnd .i64 ((acts.getD ((u.i : Nat) : Int).toNat 0).fdiv (2 ^ min (4 : Int).toNat IntKind.i64.bits)) 1023) % ((u.a1.length : Nat) : Int)).toNat default).n z.bs).ms.length).1, gs := zs, gA := zA, gc := zc, gE := zE, P1 := yP, ns := ts, nA := tA, nc := tc, nE := tE, P3 := tP } }, ⟨hY0.more, ⟨(by dsimp only; rw [List.length_drop]; exact hyo), hzo, hyi, hs1, hj1, hto, hti, told_take (n := (u.a1.getD ((bAnd .i64 ((acts.getD ((u.i : Nat) : Int).toNat 0).fdiv (2 ^ min (4 : Int).toNat IntKind.i64.bits)) 1023) % ((u.a1.length : Nat) : Int)).toNat default).n) (bs := z.bs) hT1 (inErr_ok he2).2 hms8 rfl rfl rfl hzm htm rfl⟩, ha0, ha1, hp0, hp1, by dsimp only; omega, by dsimp only; omega⟩, ⟨rfl, rfl, rfl, rfl, rfl, rfl, rfl, rfl, rfl, trivial⟩, (by dsimp only; simp only [List.length_drop, hgm1]; exact sub_picks [7, 7, 7, 7, 7, 7, 7, 7, 7, 3, 3, 3, 3, 0, 2, 2, 0, 0, 0, 0, 0, 0, 0, 0] (by kernel_rfl))⟩
        · intro v _f hV
          have hV2 := hV
          obtain ⟨hX0, hX1, ha0, ha1, hp0, hp1, hl0, hl1⟩ := hV2
          have hY0 := hX0
          obtain ⟨hw0, hg0, hi0, hs0, hj0, hn0, hk0, hT0⟩ := hX0
          have hlen0 := hT0.lens
          have hU0 := hT0
          obtain ⟨hwm0, hgm0, hb10, hb20, hb30, hb40, hb50, hb60⟩ := hU0
          have hY1 := hX1
          obtain ⟨hw1, hg1, hi1, hs1, hj1, hn1, hk1, hT1⟩ := hX1
          have hlen1 := hT1.lens
          have hU1 := hT1
          obtain ⟨hwm1, hgm1, hb11, hb21, hb31, hb41, hb51, hb61⟩ := hU1
          refine s_seq ?_
          refine s_pull 17 ?_
          refine s_norm _ (by simp only [pull, picks, setG, List.cons_append, List.nil_append, List.append_nil, List.drop_succ_cons, List.drop_zero]; rfl) ?_
          refine s_pull 17 ?_
          refine s_norm _ (by simp only [pull, picks, setG, List.cons_append, List.nil_append, List.append_nil, List.drop_succ_cons, List.drop_zero]; rfl) ?_
          refine s_pull 15 ?_
          refine s_norm _ (by simp only [pull, picks, setG, List.cons_append, List.nil_append, List.append_nil, List.drop_succ_cons, List.drop_zero]; rfl) ?_
          refine s_pull 15 ?_
          refine s_norm _ (by simp only [pull, picks, setG, List.cons_append, List.nil_append, List.append_nil, List.drop_succ_cons, List.drop_zero]; rfl) ?_
          refine s_pull 15 ?_
          refine s_norm _ (by simp only [pull, picks, setG, List.cons_append, List.nil_append, List.append_nil, List.drop_succ_cons, List.drop_zero]; rfl) ?_
          refine s_pull 14 ?_
          refine s_norm _ (by simp only [pull, picks, setG, List.cons_append, List.nil_append, List.append_nil, List.drop_succ_cons, List.drop_zero]; rfl) ?_
          refine s_drawn 6 (by kernel_rfl) ?_
          refine d_val (i := 0) rfl (by kernel_rfl) (by kernel_rfl) (by kernel_rfl) rfl rfl rfl (y_move (v := (.slice _ _ _)) rfl) ?_
          refine d_val (i := 1) rfl (by kernel_rfl) (by kernel_rfl) (by kernel_rfl) rfl rfl rfl (y_move (v := (.int _ _)) rfl) ?_
          refine d_val (i := 2) rfl (by kernel_rfl) (by kernel_rfl) (by kernel_rfl) rfl rfl rfl (y_slice_lit (q := 1) Try.runUnderlying58 Try.sizeOf56 rfl rfl rfl rfl) ?_
          refine d_val (i := 3) rfl (by kernel_rfl) (by kernel_rfl) (by kernel_rfl) rfl rfl rfl (y_load Try.isAgg56 rfl (cel_own 12 rfl rfl)) ?_
          refine d_val (i := 5) rfl (by kernel_rfl) (by kernel_rfl) (by kernel_rfl) rfl rfl rfl (y_move (v := (.slice _ _ _)) rfl) ?_
          refine d_val (i := 6) rfl (by kernel_rfl) (by kernel_rfl) (by kernel_rfl) rfl rfl rfl (y_move (v := (.int _ _)) rfl) ?_
          refine d_val (i := 7) rfl (by kernel_rfl) (by kernel_rfl) (by kernel_rfl) rfl rfl rfl (y_slice_lit (q := 1) Try.runUnderlying63 Try.sizeOf59 rfl rfl rfl rfl) ?_
          refine d_val (i := 8) rfl (by kernel_rfl) (by kernel_rfl) (by kernel_rfl) rfl rfl rfl (y_load Try.isAgg59 rfl (cel_own 13 rfl rfl)) ?_
          refine d_val (i := 9) rfl (by kernel_rfl) (by kernel_rfl) (by kernel_rfl) rfl rfl rfl (y_nilCheck rfl) ?_
          refine d_val (i := 10) rfl (by kernel_rfl) (by kernel_rfl) (by kernel_rfl) rfl rfl rfl (y_field0 Try.runUnderlying62 rfl Try.sizeOf60 rfl rfl) ?_
          refine d_val (i := 13) rfl (by kernel_rfl) (by kernel_rfl) (by kernel_rfl) rfl rfl rfl (y_move (v := (.slice _ _ _)) rfl) ?_
          refine d_val (i := 14) rfl (by kernel_rfl) (by kernel_rfl) (by kernel_rfl) rfl rfl rfl (y_move (v := (.int _ _)) rfl) ?_
          refine d_val (i := 15) rfl (by kernel_rfl) (by kernel_rfl) (by kernel_rfl) rfl rfl rfl (y_slice_lit (q := 1) Try.runUnderlying63 Try.sizeOf59 rfl rfl rfl rfl) ?_
          refine d_val (i := 16) rfl (by kernel_rfl) (by kernel_rfl) (by kernel_rfl) rfl rfl rfl (y_load Try.isAgg59 rfl (cel_own 13 rfl rfl)) ?_
          refine d_val (i := 17) rfl (by kernel_rfl) (by kernel_rfl) (by kernel_rfl) rfl rfl rfl (y_nilCheck rfl) ?_
          refine d_val (i := 18) rfl (by kernel_rfl) (by kernel_rfl) (by kernel_rfl) rfl rfl rfl (y_field0 Try.runUnderlying62 rfl Try.sizeOf3 rfl rfl) ?_
          refine d_eff3 (k := 4) (k' := 11) (k'' := 19) (n := 6) (m := 18) rfl rfl rfl (by kernel_rfl) rfl ?_ ?_ ?_
          · refine o_fn 1 (d := 185) rfl Try.call36 (WaitL_c e1 v.X1.acked v.X1.wA v.X1.ws.length v.X1.wc v.X1.next v.X1.gA v.X1.gs.length v.X1.gc) rfl ?_
            rintro _ _ ⟨rfl, rfl⟩
            refine o_norm _ (by simp only [pull, picks, setG, List.cons_append, List.nil_append, List.append_nil, List.drop_succ_cons, List.drop_zero]; rfl) ?_
            refine o_nil ?_
            refine d_now (i := 11) [(19, _, _)] rfl (by kernel_rfl) (by kernel_rfl) (by kernel_rfl) rfl rfl rfl (y_load Try.isAgg60 rfl (cel_own 3 rfl rfl)) ⟨⟨rfl, rfl, (y_load Try.isAgg3 rfl (cel_own 3 rfl rfl))⟩, trivial⟩ ?_
            refine d_val (i := 12) rfl (by kernel_rfl) (by kernel_rfl) (by kernel_rfl) rfl rfl rfl (y_len Try.runUnderlying60 rfl) ?_
            refine d_now (i := 19) [] rfl (by kernel_rfl) (by kernel_rfl) (by kernel_rfl) rfl rfl rfl (y_load Try.isAgg3 rfl (cel_own 3 rfl rfl)) trivial ?_
            refine d_val (i := 20) rfl (by kernel_rfl) (by kernel_rfl) (by kernel_rfl) rfl rfl rfl (y_sub rfl rfl (by simp only [inK]; omega)) ?_
            refine d_split (i := 21) rfl (by kernel_rfl) (by kernel_rfl) (by kernel_rfl) rfl rfl rfl (y_neq rfl rfl) (fun p164 => ?_) (fun p165 => ?_)
            · exfalso; omega
            · refine d_val (i := 22) rfl (by kernel_rfl) (by kernel_rfl) (by kernel_rfl) rfl rfl rfl (y_move (v := (.bool _)) rfl) ?_
              refine d_val_g (i := 23) rfl (by kernel_rfl) (by kernel_rfl) (by kernel_rfl) rfl rfl rfl rfl (y_move (v := (.int _ _)) rfl) ?_
              refine d_val_g (i := 24) rfl (by kernel_rfl) (by kernel_rfl) (by kernel_rfl) rfl rfl rfl rfl (y_rem rfl rfl (by omega)) ?_
              refine d_split_g (i := 25) rfl (by kernel_rfl) (by kernel_rfl) (by kernel_rfl) rfl rfl rfl rfl (y_eql rfl rfl) (fun p166 => ?_) (fun p167 => ?_)
              · refine d_val_g (i := 26) rfl (by kernel_rfl) (by kernel_rfl) (by kernel_rfl) rfl rfl rfl rfl (y_move (v := (.bool _)) rfl) ?_
                refine d_val_g (i := 27) rfl (by kernel_rfl) (by kernel_rfl) (by kernel_rfl) rfl rfl rfl rfl (y_move (v := (.slice _ _ _)) rfl) ?_
                refine d_val_g (i := 28) rfl (by kernel_rfl) (by kernel_rfl) (by kernel_rfl) rfl rfl rfl rfl (y_move (v := (.int _ _)) rfl) ?_
                refine d_val_g (i := 29) rfl (by kernel_rfl) (by kernel_rfl) (by kernel_rfl) rfl rfl rfl rfl (y_slice_lit (q := 1) Try.runUnderlying58 Try.sizeOf56 rfl rfl rfl rfl) ?_
                refine d_val_g (i := 30) rfl (by kernel_rfl) (by kernel_rfl) (by kernel_rfl) rfl rfl rfl rfl (y_load Try.isAgg56 rfl (cel_own 12 rfl rfl)) ?_
                refine d_val_g (i := 31) rfl (by kernel_rfl) (by kernel_rfl) (by kernel_rfl) rfl rfl rfl rfl (y_move (v := (.slice _ _ _)) rfl) ?_
                refine d_val_g (i := 32) rfl (by kernel_rfl) (by kernel_rfl) (by kernel_rfl) rfl rfl rfl rfl (y_move (v := (.int _ _)) rfl) ?_
                refine d_val_g (i := 33) rfl (by kernel_rfl) (by kernel_rfl) (by kernel_rfl) rfl rfl rfl rfl (y_slice_lit (q := 1) Try.runUnderlying63 Try.sizeOf59 rfl rfl rfl rfl) ?_
                refine d_val_g (i := 34) rfl (by kernel_rfl) (by kernel_rfl) (by kernel_rfl) rfl rfl rfl rfl (y_load Try.isAgg59 rfl (cel_own 13 rfl rfl)) ?_
                refine d_eff (k := 35) (n := 6) (m := 18) rfl (by kernel_rfl) rfl ?_
                refine o_guard_yes rfl rfl ?_
                refine o_fn 6 (d := 216) rfl Try.call37 (Got_c e1 v.X1.acked v.X1.wA v.X1.ws.length v.X1.wc v.X1.next v.X1.gA v.X1.gs.length v.X1.gc b3 v.X1.sA v.X1.ss.length v.X1.sc v.X1.acked v.X1.next v.X1.nA v.X1.ns.length v.X1.nc v.X1.gs v.X1.gE v.X1.P1 hg1 (fun f hf => hi1 f (List.mem_append_right _ hf)) v.X1.ns v.X1.nE v.X1.P3 hn1 hk1 (by omega)) rfl ?_
                rintro _ _ ⟨rfl, rfl⟩
                refine o_norm _ (by simp only [pull, picks, setG, List.cons_append, List.nil_append, List.append_nil, List.drop_succ_cons, List.drop_zero]; rfl) ?_
                rw [show decide (v.X1.gs.map (·.bs) = v.X1.ns.map (·.bs)) = true from decide_eq_true hgm1]
                refine o_newgroup ?_
                refine o_newgroup ?_
                refine o_nil ?_
                refine d_val_g (i := 36) rfl (by kernel_rfl) (by kernel_rfl) (by kernel_rfl) rfl rfl rfl rfl (y_notb rfl) ?_
                refine d_val_g (i := 37) rfl (by kernel_rfl) (by kernel_rfl) (by kernel_rfl) rfl rfl rfl rfl (y_pick_t (v := (.bool _)) rfl rfl) ?_
                refine d_val (i := 38) rfl (by kernel_rfl) (by kernel_rfl) (by kernel_rfl) rfl rfl rfl (y_pick_f (v := (.bool _)) rfl rfl) ?_
                refine d_nil (n := 4) (m := 18) (by kernel_rfl) rfl ?_
                refine s_else rfl ?_
                refine s_skip ?_
                refine s_region ?_
                refine o_val rfl rfl rfl (y_add rfl rfl (by simp only [inK]; omega)) ?_
                refine o_val rfl rfl rfl (y_move (v := (.int _ _)) rfl) ?_
                refine o_nil ?_
                exact ⟨{ v with i := u.i + 1, X1 := { v.X1 with gs := [], gA := none, gc := 0, gE := [], ns := [], nA := none, nc := 0, nE := [] } }, (by first | omega | (dsimp only; omega)), ⟨by dsimp only; omega, hY0, ⟨hw1, OS.nil _ _, (fun f hf => hi1 f (List.mem_append_left _ (by simpa using hf))), hs1, hj1, OS.nil _ _, (fun f hf => absurd hf List.not_mem_nil), told_got hT1 rfl rfl rfl rfl rfl rfl⟩, ha0, ha1, hp0, hp1, hl0, hl1⟩, ⟨rfl, rfl, rfl, rfl, rfl, rfl, (congrArg (Value.int .i64) (by dsimp only; omega)), trivial⟩, (sub_picks [4, 4, 4, 4, 4, 4, 4, 4, 4, 0, 3, 11, 0, 0, 1, 1, 7, 0, 0, 0, 0, 0, 0, 0] (by kernel_rfl))⟩
              · refine d_val_g (i := 26) rfl (by kernel_rfl) (by kernel_rfl) (by kernel_rfl) rfl rfl rfl rfl (y_move (v := (.bool _)) rfl) ?_
                refine d_guard_no (i := 27) rfl (by kernel_rfl) (by kernel_rfl) (by kernel_rfl) rfl rfl rfl rfl rfl ?_
                refine d_guard_no (i := 28) rfl (by kernel_rfl) (by kernel_rfl) (by kernel_rfl) rfl rfl rfl rfl rfl ?_
                refine d_guard_no (i := 29) rfl (by kernel_rfl) (by kernel_rfl) (by kernel_rfl) rfl rfl rfl rfl rfl ?_
                refine d_guard_no (i := 30) rfl (by kernel_rfl) (by kernel_rfl) (by kernel_rfl) rfl rfl rfl rfl rfl ?_
                refine d_guard_no (i := 31) rfl (by kernel_rfl) (by kernel_rfl) (by kernel_rfl) rfl rfl rfl rfl rfl ?_
                refine d_guard_no (i := 32) rfl (by kernel_rfl) (by kernel_rfl) (by kernel_rfl) rfl rfl rfl rfl rfl ?_
                refine d_guard_no (i := 33) rfl (by kernel_rfl) (by kernel_rfl) (by kernel_rfl) rfl rfl rfl rfl rfl ?_
                refine d_guard_no (i := 34) rfl (by kernel_rfl) (by kernel_rfl) (by kernel_rfl) rfl rfl rfl rfl rfl ?_
                refine d_eff (k := 35) (n := 6) (m := 18) rfl (by kernel_rfl) rfl ?_
                refine o_guard_no rfl rfl rfl rfl rfl ?_
                refine o_nil ?_
                refine d_guard_no (i := 36) rfl (by kernel_rfl) (by kernel_rfl) (by kernel_rfl) rfl rfl rfl rfl rfl ?_
                refine d_val_g (i := 37) rfl (by kernel_rfl) (by kernel_rfl) (by kernel_rfl) rfl rfl rfl rfl (y_pick_f (v := (.bool _)) rfl rfl) ?_
                refine d_val (i := 38) rfl (by kernel_rfl) (by kernel_rfl) (by kernel_rfl) rfl rfl rfl (y_pick_f (v := (.bool _)) rfl rfl) ?_
                refine d_nil (n := 6) (m := 18) (by kernel_rfl) rfl ?_
                refine s_else rfl ?_
                refine s_skip ?_
                refine s_region ?_
                refine o_val rfl rfl rfl (y_add rfl rfl (by simp only [inK]; omega)) ?_
                refine o_val rfl rfl rfl (y_move (v := (.int _ _)) rfl) ?_
                refine o_nil ?_
                exact ⟨{ v with i := u.i + 1 }, (by first | omega | (dsimp only; omega)), ⟨by dsimp only; omega, hV⟩, ⟨rfl, rfl, rfl, rfl, rfl, rfl, (congrArg (Value.int .i64) (by dsimp only; omega)), trivial⟩, (sub_picks [6, 6, 6, 6, 6, 6, 6, 6, 6, 0, 5, 0, 0, 0, 2, 2, 0, 0, 0, 0, 0, 0, 0, 0] (by kernel_rfl))⟩
          · refine o_val rfl rfl rfl (y_load Try.isAgg60 rfl (cel_own 3 rfl rfl)) ?_
            refine o_nil ?_
            refine d_val (i := 12) rfl (by kernel_rfl) (by kernel_rfl) (by kernel_rfl) rfl rfl rfl (y_len Try.runUnderlying60 rfl) ?_
            refine d_eff2 (k := 4) (k' := 19) (n := 6) (m := 18) rfl rfl (by kernel_rfl) rfl ?_ ?_
            · refine o_fn 1 (d := 185) rfl Try.call36 (WaitL_c e1 v.X1.acked v.X1.wA v.X1.ws.length v.X1.wc v.X1.next v.X1.gA v.X1.gs.length v.X1.gc) rfl ?_
              rintro _ _ ⟨rfl, rfl⟩
              refine o_norm _ (by simp only [pull, picks, setG, List.cons_append, List.nil_append, List.append_nil, List.drop_succ_cons, List.drop_zero]; rfl) ?_
              refine o_nil ?_
              refine d_now (i := 19) [] rfl (by kernel_rfl) (by kernel_rfl) (by kernel_rfl) rfl rfl rfl (y_load Try.isAgg3 rfl (cel_own 3 rfl rfl)) trivial ?_
              refine d_val (i := 20) rfl (by kernel_rfl) (by kernel_rfl) (by kernel_rfl) rfl rfl rfl (y_sub rfl rfl (by simp only [inK]; omega)) ?_
              refine d_split (i := 21) rfl (by kernel_rfl) (by kernel_rfl) (by kernel_rfl) rfl rfl rfl (y_neq rfl rfl) (fun p168 => ?_) (fun p169 => ?_)
              · exfalso; omega
              · refine d_val (i := 22) rfl (by kernel_rfl) (by kernel_rfl) (by kernel_rfl) rfl rfl rfl (y_move (v := (.bool _)) rfl) ?_
                refine d_val_g (i := 23) rfl (by kernel_rfl) (by kernel_rfl) (by kernel_rfl) rfl rfl rfl rfl (y_move (v := (.int _ _)) rfl) ?_
                refine d_val_g (i := 24) rfl (by kernel_rfl) (by kernel_rfl) (by kernel_rfl) rfl rfl rfl rfl (y_rem rfl rfl (by omega)) ?_
                refine d_split_g (i := 25) rfl (by kernel_rfl) (by kernel_rfl) (by kernel_rfl) rfl rfl rfl rfl (y_eql rfl rfl) (fun p170 => ?_) (fun p171 => ?_)
                · refine d_val_g (i := 26) rfl (by kernel_rfl) (by kernel_rfl) (by kernel_rfl) rfl rfl rfl rfl (y_move (v := (.bool _)) rfl) ?_
                  refine d_val_g (i := 27) rfl (by kernel_rfl) (by kernel_rfl) (by kernel_rfl) rfl rfl rfl rfl (y_move (v := (.slice _ _ _)) rfl) ?_
                  refine d_val_g (i := 28) rfl (by kernel_rfl) (by kernel_rfl) (by kernel_rfl) rfl rfl rfl rfl (y_move (v := (.int _ _)) rfl) ?_
                  refine d_val_g (i := 29) rfl (by kernel_rfl) (by kernel_rfl) (by kernel_rfl) rfl rfl rfl rfl (y_slice_lit (q := 1) Try.runUnderlying58 Try.sizeOf56 rfl rfl rfl rfl) ?_
                  refine d_val_g (i := 30) rfl (by kernel_rfl) (by kernel_rfl) (by kernel_rfl) rfl rfl rfl rfl (y_load Try.isAgg56 rfl (cel_own 12 rfl rfl)) ?_
                  refine d_val_g (i := 31) rfl (by kernel_rfl) (by kernel_rfl) (by kernel_rfl) rfl rfl rfl rfl (y_move (v := (.slice _ _ _)) rfl) ?_
                  refine d_val_g (i := 32) rfl (by kernel_rfl) (by kernel_rfl) (by kernel_rfl) rfl rfl rfl rfl (y_move (v := (.int _ _)) rfl) ?_
                  refine d_val_g (i := 33) rfl (by kernel_rfl) (by kernel_rfl) (by kernel_rfl) rfl rfl rfl rfl (y_slice_lit (q := 1) Try.runUnderlying63 Try.sizeOf59 rfl rfl rfl rfl) ?_
                  refine d_val_g (i := 34) rfl (by kernel_rfl) (by kernel_rfl) (by kernel_rfl) rfl rfl rfl rfl (y_load Try.isAgg59 rfl (cel_own 13 rfl rfl)) ?_
                  refine d_eff (k := 35) (n := 6) (m := 18) rfl (by kernel_rfl) rfl ?_
                  refine o_guard_yes rfl rfl ?_
                  refine o_fn 6 (d := 216) rfl Try.call37 (Got_c e1 v.X1.acked v.X1.wA v.X1.ws.length v.X1.wc v.X1.next v.X1.gA v.X1.gs.length v.X1.gc b3 v.X1.sA v.X1.ss.length v.X1.sc v.X1.acked v.X1.next v.X1.nA v.X1.ns.length v.X1.nc v.X1.gs v.X1.gE v.X1.P1 hg1 (fun f hf => hi1 f (List.mem_append_right _ hf)) v.X1.ns v.X1.nE v.X1.P3 hn1 hk1 (by omega)) rfl ?_
                  rintro _ _ ⟨rfl, rfl⟩
                  refine o_norm _ (by simp only [pull, picks, setG, List.cons_append, List.nil_append, List.append_nil, List.drop_succ_cons, List.drop_zero]; rfl) ?_
                  rw [show decide (v.X1.gs.map (·.bs) = v.X1.ns.map (·.bs)) = true from decide_eq_true hgm1]
                  refine o_newgroup ?_
                  refine o_newgroup ?_
                  refine o_nil ?_
                  refine d_val_g (i := 36) rfl (by kernel_rfl) (by kernel_rfl) (by kernel_rfl) rfl rfl rfl rfl (y_notb rfl) ?_
                  refine d_val_g (i := 37) rfl (by kernel_rfl) (by kernel_rfl) (by kernel_rfl) rfl rfl rfl rfl (y_pick_t (v := (.bool _)) rfl rfl) ?_
                  refine d_val (i := 38) rfl (by kernel_rfl) (by kernel_rfl) (by kernel_rfl) rfl rfl rfl (y_pick_f (v := (.bool _)) rfl rfl) ?_
                  refine d_nil (n := 4) (m := 18) (by kernel_rfl) rfl ?_
                  refine s_else rfl ?_
                  refine s_skip ?_
                  refine s_region ?_
                  refine o_val rfl rfl rfl (y_add rfl rfl (by simp only [inK]; omega)) ?_
                  refine o_val rfl rfl rfl (y_move (v := (.int _ _)) rfl) ?_
                  refine o_nil ?_
                  exact ⟨{ v with i := u.i + 1, X1 := { v.X1 with gs := [], gA := none, gc := 0, gE := [], ns := [], nA := none, nc := 0, nE := [] } }, (by first | omega | (dsimp only; omega)), ⟨by dsimp only; omega, hY0, ⟨hw1, OS.nil _ _, (fun f hf => hi1 f (List.mem_append_left _ (by simpa using hf))), hs1, hj1, OS.nil _ _, (fun f hf => absurd hf List.not_mem_nil), told_got hT1 rfl rfl rfl rfl rfl rfl⟩, ha0, ha1, hp0, hp1, hl0, hl1⟩, ⟨rfl, rfl, rfl, rfl, rfl, rfl, (congrArg (Value.int .i64) (by dsimp only; omega)), trivial⟩, (sub_picks [4, 4, 4, 4, 4, 4, 4, 4, 4, 0, 3, 11, 0, 0, 1, 1, 7, 0, 0, 0, 0, 0, 0, 0] (by kernel_rfl))⟩
                · refine d_val_g (i := 26) rfl (by kernel_rfl) (by kernel_rfl) (by kernel_rfl) rfl rfl rfl rfl (y_move (v := (.bool _)) rfl) ?_
                  refine d_guard_no (i := 27) rfl (by kernel_rfl) (by kernel_rfl) (by kernel_rfl) rfl rfl rfl rfl rfl ?_
                  refine d_guard_no (i := 28) rfl (by kernel_rfl) (by kernel_rfl) (by kernel_rfl) rfl rfl rfl rfl rfl ?_
                  refine d_guard_no (i := 29) rfl (by kernel_rfl) (by kernel_rfl) (by kernel_rfl) rfl rfl rfl rfl rfl ?_
                  refine d_guard_no (i := 30) rfl (by kernel_rfl) (by kernel_rfl) (by kernel_rfl) rfl rfl rfl rfl rfl ?_
                  refine d_guard_no (i := 31) rfl (by kernel_rfl) (by kernel_rfl) (by kernel_rfl) rfl rfl rfl rfl rfl ?_
                  refine d_guard_no (i := 32) rfl (by kernel_rfl) (by kernel_rfl) (by kernel_rfl) rfl rfl rfl rfl rfl ?_
                  refine d_guard_no (i := 33) rfl (by kernel_rfl) (by kernel_rfl) (by kernel_rfl) rfl rfl rfl rfl rfl ?_
                  refine d_guard_no (i := 34) rfl (by kernel_rfl) (by kernel_rfl) (by kernel_rfl) rfl rfl rfl rfl rfl ?_
                  refine d_eff (k := 35) (n := 6) (m := 18) rfl (by kernel_rfl) rfl ?_
                  refine o_guard_no rfl rfl rfl rfl rfl ?_
                  refine o_nil ?_
                  refine d_guard_no (i := 36) rfl (by kernel_rfl) (by kernel_rfl) (by kernel_rfl) rfl rfl rfl rfl rfl ?_
                  refine d_val_g (i := 37) rfl (by kernel_rfl) (by kernel_rfl) (by kernel_rfl) rfl rfl rfl rfl (y_pick_f (v := (.bool _)) rfl rfl) ?_
                  refine d_val (i := 38) rfl (by kernel_rfl) (by kernel_rfl) (by kernel_rfl) rfl rfl rfl (y_pick_f (v := (.bool _)) rfl rfl) ?_
                  refine d_nil (n := 6) (m := 18) (by kernel_rfl) rfl ?_
                  refine s_else rfl ?_
                  refine s_skip ?_
                  refine s_region ?_
                  refine o_val rfl rfl rfl (y_add rfl rfl (by simp only [inK]; omega)) ?_
                  refine o_val rfl rfl rfl (y_move (v := (.int _ _)) rfl) ?_
                  refine o_nil ?_
                  exact ⟨{ v with i := u.i + 1 }, (by first | omega | (dsimp only; omega)), ⟨by dsimp only; omega, hV⟩, ⟨rfl, rfl, rfl, rfl, rfl, rfl, (congrArg (Value.int .i64) (by dsimp only; omega)), trivial⟩, (sub_picks [6, 6, 6, 6, 6, 6, 6, 6, 6, 0, 5, 0, 0, 0, 2, 2, 0, 0, 0, 0, 0, 0, 0, 0] (by kernel_rfl))⟩
            · refine o_val rfl rfl rfl (y_load Try.isAgg3 rfl (cel_own 3 rfl rfl)) ?_
              refine o_nil ?_
              refine d_val (i := 20) rfl (by kernel_rfl) (by kernel_rfl) (by kernel_rfl) rfl rfl rfl (y_sub rfl rfl (by simp only [inK]; omega)) ?_
              refine d_eff (k := 4) (n := 6) (m := 18) rfl (by kernel_rfl) rfl ?_
              refine o_fn 1 (d := 185) rfl Try.call36 (WaitL_c e1 v.X1.acked v.X1.wA v.X1.ws.length v.X1.wc v.X1.next v.X1.gA v.X1.gs.length v.X1.gc) rfl ?_
              rintro _ _ ⟨rfl, rfl⟩
              refine o_norm _ (by simp only [pull, picks, setG, List.cons_append, List.nil_append, List.append_nil, List.drop_succ_cons, List.drop_zero]; rfl) ?_
              refine o_nil ?_
              refine d_split (i := 21) rfl (by kernel_rfl) (by kernel_rfl) (by kernel_rfl) rfl rfl rfl (y_neq rfl rfl) (fun p172 => ?_) (fun p173 => ?_)
              · exfalso; omega
              · refine d_val (i := 22) rfl (by kernel_rfl) (by kernel_rfl) (by kernel_rfl) rfl rfl rfl (y_move (v := (.bool _)) rfl) ?_
                refine d_val_g (i := 23) rfl (by kernel_rfl) (by kernel_rfl) (by kernel_rfl) rfl rfl rfl rfl (y_move (v := (.int _ _)) rfl) ?_
                refine d_val_g (i := 24) rfl (by kernel_rfl) (by kernel_rfl) (by kernel_rfl) rfl rfl rfl rfl (y_rem rfl rfl (by omega)) ?_
                refine d_split_g (i := 25) rfl (by kernel_rfl) (by kernel_rfl) (by kernel_rfl) rfl rfl rfl rfl (y_eql rfl rfl) (fun p174 => ?_) (fun p175 => ?_)
                · refine d_val_g (i := 26) rfl (by kernel_rfl) (by kernel_rfl) (by kernel_rfl) rfl rfl rfl rfl (y_move (v := (.bool _)) rfl) ?_
                  refine d_val_g (i := 27) rfl (by kernel_rfl) (by kernel_rfl) (by kernel_rfl) rfl rfl rfl rfl (y_move (v := (.slice _ _ _)) rfl) ?_
                  refine d_val_g (i := 28) rfl (by kernel_rfl) (by kernel_rfl) (by kernel_rfl) rfl rfl rfl rfl (y_move (v := (.int _ _)) rfl) ?_
                  refine d_val_g (i := 29) rfl (by kernel_rfl) (by kernel_rfl) (by kernel_rfl) rfl rfl rfl rfl (y_slice_lit (q := 1) Try.runUnderlying58 Try.sizeOf56 rfl rfl rfl rfl) ?_
                  refine d_val_g (i := 30) rfl (by kernel_rfl) (by kernel_rfl) (by kernel_rfl) rfl rfl rfl rfl (y_load Try.isAgg56 rfl (cel_own 12 rfl rfl)) ?_
                  refine d_val_g (i := 31) rfl (by kernel_rfl) (by kernel_rfl) (by kernel_rfl) rfl rfl rfl rfl (y_move (v := (.slice _ _ _)) rfl) ?_
                  refine d_val_g (i := 32) rfl (by kernel_rfl) (by kernel_rfl) (by kernel_rfl) rfl rfl rfl rfl (y_move (v := (.int _ _)) rfl) ?_
                  refine d_val_g (i := 33) rfl (by kernel_rfl) (by kernel_rfl) (by kernel_rfl) rfl rfl rfl rfl (y_slice_lit (q := 1) Try.runUnderlying63 Try.sizeOf59 rfl rfl rfl rfl) ?_
                  refine d_val_g (i := 34) rfl (by kernel_rfl) (by kernel_rfl) (by kernel_rfl) rfl rfl rfl rfl (y_load Try.isAgg59 rfl (cel_own 13 rfl rfl)) ?_
                  refine d_eff (k := 35) (n := 6) (m := 18) rfl (by kernel_rfl) rfl ?_
                  refine o_guard_yes rfl rfl ?_
                  refine o_fn 6 (d := 216) rfl Try.call37 (Got_c e1 v.X1.acked v.X1.wA v.X1.ws.length v.X1.wc v.X1.next v.X1.gA v.X1.gs.length v.X1.gc b3 v.X1.sA v.X1.ss.length v.X1.sc v.X1.acked v.X1.next v.X1.nA v.X1.ns.length v.X1.nc v.X1.gs v.X1.gE v.X1.P1 hg1 (fun f hf => hi1 f (List.mem_append_right _ hf)) v.X1.ns v.X1.nE v.X1.P3 hn1 hk1 (by omega)) rfl ?_
                  rintro _ _ ⟨rfl, rfl⟩
                  refine o_norm _ (by simp only [pull, picks, setG, List.cons_append, List.nil_append, List.append_nil, List.drop_succ_cons, List.drop_zero]; rfl) ?_
                  rw [show decide (v.X1.gs.map (·.bs) = v.X1.ns.map (·.bs)) = true from decide_eq_true hgm1]
                  refine o_newgroup ?_
                  refine o_newgroup ?_
                  refine o_nil ?_
                  refine d_val_g (i := 36) rfl (by kernel_rfl) (by kernel_rfl) (by kernel_rfl) rfl rfl rfl rfl (y_notb rfl) ?_
                  refine d_val_g (i := 37) rfl (by kernel_rfl) (by kernel_rfl) (by kernel_rfl) rfl rfl rfl rfl (y_pick_t (v := (.bool _)) rfl rfl) ?_
                  refine d_val (i := 38) rfl (by kernel_rfl) (by kernel_rfl) (by kernel_rfl) rfl rfl rfl (y_pick_f (v := (.bool _)) rfl rfl) ?_
                  refine d_nil (n := 4) (m := 18) (by kernel_rfl) rfl ?_
                  refine s_else rfl ?_
                  refine s_skip ?_
                  refine s_region ?_
                  refine o_val rfl rfl rfl (y_add rfl rfl (by simp only [inK]; omega)) ?_
                  refine o_val rfl rfl rfl (y_move (v := (.int _ _)) rfl) ?_
                  refine o_nil ?_
                  exact ⟨{ v with i := u.i + 1, X1 := { v.X1 with gs := [], gA := none, gc := 0, gE := [], ns := [], nA := none, nc := 0, nE := [] } }, (by first | omega | (dsimp only; omega)), ⟨by dsimp only; omega, hY0, ⟨hw1, OS.nil _ _, (fun f hf => hi1 f (List.mem_append_left _ (by simpa using hf))), hs1, hj1, OS.nil _ _, (fun f hf => absurd hf List.not_mem_nil), told_got hT1 rfl rfl rfl rfl rfl rfl⟩, ha0, ha1, hp0, hp1, hl0, hl1⟩, ⟨rfl, rfl, rfl, rfl, rfl, rfl, (congrArg (Value.int .i64) (by dsimp only; omega)), trivial⟩, (sub_picks [4, 4, 4, 4, 4, 4, 4, 4, 4, 0, 3, 11, 0, 0, 1, 1, 7, 0, 0, 0, 0, 0, 0, 0] (by kernel_rfl))⟩
                · refine d_val_g (i := 26) rfl (by kernel_rfl) (by kernel_rfl) (by kernel_rfl) rfl rfl rfl rfl (y_move (v := (.bool _)) rfl) ?_
                  refine d_guard_no (i := 27) rfl (by kernel_rfl) (by kernel_rfl) (by kernel_rfl) rfl rfl rfl rfl rfl ?_
                  refine d_guard_no (i := 28) rfl (by kernel_rfl) (by kernel_rfl) (by kernel_rfl) rfl rfl rfl rfl rfl ?_
                  refine d_guard_no (i := 29) rfl (by kernel_rfl) (by kernel_rfl) (by kernel_rfl) rfl rfl rfl rfl rfl ?_
                  refine d_guard_no (i := 30) rfl (by kernel_rfl) (by kernel_rfl) (by kernel_rfl) rfl rfl rfl rfl rfl ?_
                  refine d_guard_no (i := 31) rfl (by kernel_rfl) (by kernel_rfl) (by kernel_rfl) rfl rfl rfl rfl rfl ?_
                  refine d_guard_no (i := 32) rfl (by kernel_rfl) (by kernel_rfl) (by kernel_rfl) rfl rfl rfl rfl rfl ?_
                  refine d_guard_no (i := 33) rfl (by kernel_rfl) (by kernel_rfl) (by kernel_rfl) rfl rfl rfl rfl rfl ?_
                  refine d_guard_no (i := 34) rfl (by kernel_rfl) (by kernel_rfl) (by kernel_rfl) rfl rfl rfl rfl rfl ?_
                  refine d_eff (k := 35) (n := 6) (m := 18) rfl (by kernel_rfl) rfl ?_
                  refine o_guard_no rfl rfl rfl rfl rfl ?_
                  refine o_nil ?_
                  refine d_guard_no (i := 36) rfl (by kernel_rfl) (by kernel_rfl) (by kernel_rfl) rfl rfl rfl rfl rfl ?_
                  refine d_val_g (i := 37) rfl (by kernel_rfl) (by kernel_rfl) (by kernel_rfl) rfl rfl rfl rfl (y_pick_f (v := (.bool _)) rfl rfl) ?_
                  refine d_val (i := 38) rfl (by kernel_rfl) (by kernel_rfl) (by kernel_rfl) rfl rfl rfl (y_pick_f (v := (.bool _)) rfl rfl) ?_
                  refine d_nil (n := 6) (m := 18) (by kernel_rfl) rfl ?_
                  refine s_else rfl ?_
                  refine s_skip ?_
                  refine s_region ?_
                  refine o_val rfl rfl rfl (y_add rfl rfl (by simp only [inK]; omega)) ?_
                  refine o_val rfl rfl rfl (y_move (v := (.int _ _)) rfl) ?_
                  refine o_nil ?_
                  exact ⟨{ v with i := u.i + 1 }, (by first | omega | (dsimp only; omega)), ⟨by dsimp only; omega, hV⟩, ⟨rfl, rfl, rfl, rfl, rfl, rfl, (congrArg (Value.int .i64) (by dsimp only; omega)), trivial⟩, (sub_picks [6, 6, 6, 6, 6, 6, 6, 6, 6, 0, 5, 0, 0, 0, 2, 2, 0, 0, 0, 0, 0, 0, 0, 0] (by kernel_rfl))⟩
          · refine o_val rfl rfl rfl (y_load Try.isAgg3 rfl (cel_own 3 rfl rfl)) ?_
            refine o_nil ?_
            refine d_eff2 (k := 4) (k' := 11) (n := 6) (m := 18) rfl rfl (by kernel_rfl) rfl ?_ ?_
            · refine o_fn 1 (d := 185) rfl Try.call36 (WaitL_c e1 v.X1.acked v.X1.wA v.X1.ws.length v.X1.wc v.X1.next v.X1.gA v.X1.gs.length v.X1.gc) rfl ?_
              rintro _ _ ⟨rfl, rfl⟩
              refine o_norm _ (by simp only [pull, picks, setG, List.cons_append, List.nil_append, List.append_nil, List.drop_succ_cons, List.drop_zero]; rfl) ?_
              refine o_nil ?_
              refine d_now (i := 11) [] rfl (by kernel_rfl) (by kernel_rfl) (by kernel_rfl) rfl rfl rfl (y_load Try.isAgg60 rfl (cel_own 3 rfl rfl)) trivial ?_
              refine d_val (i := 12) rfl (by kernel_rfl) (by kernel_rfl) (by kernel_rfl) rfl rfl rfl (y_len Try.runUnderlying60 rfl) ?_
              refine d_val (i := 20) rfl (by kernel_rfl) (by kernel_rfl) (by kernel_rfl) rfl rfl rfl (y_sub rfl rfl (by simp only [inK]; omega)) ?_
              refine d_split (i := 21) rfl (by kernel_rfl) (by kernel_rfl) (by kernel_rfl) rfl rfl rfl (y_neq rfl rfl) (fun p176 => ?_) (fun p177 => ?_)
              · exfalso; omega
              · refine d_val (i := 22) rfl (by kernel_rfl) (by kernel_rfl) (by kernel_rfl) rfl rfl rfl (y_move (v := (.bool _)) rfl) ?_
                refine d_val_g (i := 23) rfl (by kernel_rfl) (by kernel_rfl) (by kernel_rfl) rfl rfl rfl rfl (y_move (v := (.int _ _)) rfl) ?_
                refine d_val_g (i := 24) rfl (by kernel_rfl) (by kernel_rfl) (by kernel_rfl) rfl rfl rfl rfl (y_rem rfl rfl (by omega)) ?_
                refine d_split_g (i := 25) rfl (by kernel_rfl) (by kernel_rfl) (by kernel_rfl) rfl rfl rfl rfl (y_eql rfl rfl) (fun p178 => ?_) (fun p179 => ?_)
                · refine d_val_g (i := 26) rfl (by kernel_rfl) (by kernel_rfl) (by kernel_rfl) rfl rfl rfl rfl (y_move (v := (.bool _)) rfl) ?_
                  refine d_val_g (i := 27) rfl (by kernel_rfl) (by kernel_rfl) (by kernel_rfl) rfl rfl rfl rfl (y_move (v := (.slice _ _ _)) rfl) ?_
                  refine d_val_g (i := 28) rfl (by kernel_rfl) (by kernel_rfl) (by kernel_rfl) rfl rfl rfl rfl (y_move (v := (.int _ _)) rfl) ?_
                  refine d_val_g (i := 29) rfl (by kernel_rfl) (by kernel_rfl) (by kernel_rfl) rfl rfl rfl rfl (y_slice_lit (q := 1) Try.runUnderlying58 Try.sizeOf56 rfl rfl rfl rfl) ?_
                  refine d_val_g (i := 30) rfl (by kernel_rfl) (by kernel_rfl) (by kernel_rfl) rfl rfl rfl rfl (y_load Try.isAgg56 rfl (cel_own 12 rfl rfl)) ?_
                  refine d_val_g (i := 31) rfl (by kernel_rfl) (by kernel_rfl) (by kernel_rfl) rfl rfl rfl rfl (y_move (v := (.slice _ _ _)) rfl) ?_
                  refine d_val_g (i := 32) rfl (by kernel_rfl) (by kernel_rfl) (by kernel_rfl) rfl rfl rfl rfl (y_move (v := (.int _ _)) rfl) ?_
                  refine d_val_g (i := 33) rfl (by kernel_rfl) (by kernel_rfl) (by kernel_rfl) rfl rfl rfl rfl (y_slice_lit (q := 1) Try.runUnderlying63 Try.sizeOf59 rfl rfl rfl rfl) ?_
                  refine d_val_g (i := 34) rfl (by kernel_rfl) (by kernel_rfl) (by kernel_rfl) rfl rfl rfl rfl (y_load Try.isAgg59 rfl (cel_own 13 rfl rfl)) ?_
                  refine d_eff (k := 35) (n := 6) (m := 18) rfl (by kernel_rfl) rfl ?_
                  refine o_guard_yes rfl rfl ?_
                  refine o_fn 6 (d := 216) rfl Try.call37 (Got_c e1 v.X1.acked v.X1.wA v.X1.ws.length v.X1.wc v.X1.next v.X1.gA v.X1.gs.length v.X1.gc b3 v.X1.sA v.X1.ss.length v.X1.sc v.X1.acked v.X1.next v.X1.nA v.X1.ns.length v.X1.nc v.X1.gs v.X1.gE v.X1.P1 hg1 (fun f hf => hi1 f (List.mem_append_right _ hf)) v.X1.ns v.X1.nE v.X1.P3 hn1 hk1 (by omega)) rfl ?_
                  rintro _ _ ⟨rfl, rfl⟩
                  refine o_norm _ (by simp only [pull, picks, setG, List.cons_append, List.nil_append, List.append_nil, List.drop_succ_cons, List.drop_zero]; rfl) ?_
                  rw [show decide (v.X1.gs.map (·.bs) = v.X1.ns.map (·.bs)) = true from decide_eq_true hgm1]
                  refine o_newgroup ?_
                  refine o_newgroup ?_
                  refine o_nil ?_
                  refine d_val_g (i := 36) rfl (by kernel_rfl) (by kernel_rfl) (by kernel_rfl) rfl rfl rfl rfl (y_notb rfl) ?_
                  refine d_val_g (i := 37) rfl (by kernel_rfl) (by kernel_rfl) (by kernel_rfl) rfl rfl rfl rfl (y_pick_t (v := (.bool _)) rfl rfl) ?_
                  refine d_val (i := 38) rfl (by kernel_rfl) (by kernel_rfl) (by kernel_rfl) rfl rfl rfl (y_pick_f (v := (.bool _)) rfl rfl) ?_
                  refine d_nil (n := 4) (m := 18) (by kernel_rfl) rfl ?_
                  refine s_else rfl ?_
                  refine s_skip ?_
                  refine s_region ?_
                  refine o_val rfl rfl rfl (y_add rfl rfl (by simp only [inK]; omega)) ?_
                  refine o_val rfl rfl rfl (y_move (v := (.int _ _)) rfl) ?_
                  refine o_nil ?_
                  exact ⟨{ v with i := u.i + 1, X1 := { v.X1 with gs := [], gA := none, gc := 0, gE := [], ns := [], nA := none, nc := 0, nE := [] } }, (by first | omega | (dsimp only; omega)), ⟨by dsimp only; omega, hY0, ⟨hw1, OS.nil _ _, (fun f hf => hi1 f (List.mem_append_left _ (by simpa using hf))), hs1, hj1, OS.nil _ _, (fun f hf => absurd hf List.not_mem_nil), told_got hT1 rfl rfl rfl rfl rfl rfl⟩, ha0, ha1, hp0, hp1, hl0, hl1⟩, ⟨rfl, rfl, rfl, rfl, rfl, rfl, (congrArg (Value.int .i64) (by dsimp only; omega)), trivial⟩, (sub_picks [4, 4, 4, 4, 4, 4, 4, 4, 4, 0, 3, 11, 0, 0, 1, 1, 7, 0, 0, 0, 0, 0, 0, 0] (by kernel_rfl))⟩
                · refine d_val_g (i := 26) rfl (by kernel_rfl) (by kernel_rfl) (by kernel_rfl) rfl rfl rfl rfl (y_move (v := (.bool _)) rfl) ?_
                  refine d_guard_no (i := 27) rfl (by kernel_rfl) (by kernel_rfl) (by kernel_rfl) rfl rfl rfl rfl rfl ?_
                  refine d_guard_no (i := 28) rfl (by kernel_rfl) (by kernel_rfl) (by kernel_rfl) rfl rfl rfl rfl rfl ?_
                  refine d_guard_no (i := 29) rfl (by kernel_rfl) (by kernel_rfl) (by kernel_rfl) rfl rfl rfl rfl rfl ?_
                  refine d_guard_no (i := 30) rfl (by kernel_rfl) (by kernel_rfl) (by kernel_rfl) rfl rfl rfl rfl rfl ?_
                  refine d_guard_no (i := 31) rfl (by kernel_rfl) (by kernel_rfl) (by kernel_rfl) rfl rfl rfl rfl rfl ?_
                  refine d_guard_no (i := 32) rfl (by kernel_rfl) (by kernel_rfl) (by kernel_rfl) rfl rfl rfl rfl rfl ?_
                  refine d_guard_no (i := 33) rfl (by kernel_rfl) (by kernel_rfl) (by kernel_rfl) rfl rfl rfl rfl rfl ?_
                  refine d_guard_no (i := 34) rfl (by kernel_rfl) (by kernel_rfl) (by kernel_rfl) rfl rfl rfl rfl rfl ?_
                  refine d_eff (k := 35) (n := 6) (m := 18) rfl (by kernel_rfl) rfl ?_
                  refine o_guard_no rfl rfl rfl rfl rfl ?_
                  refine o_nil ?_
                  refine d_guard_no (i := 36) rfl (by kernel_rfl) (by kernel_rfl) (by kernel_rfl) rfl rfl rfl rfl rfl ?_
                  refine d_val_g (i := 37) rfl (by kernel_rfl) (by kernel_rfl) (by kernel_rfl) rfl rfl rfl rfl (y_pick_f (v := (.bool _)) rfl rfl) ?_
                  refine d_val (i := 38) rfl (by kernel_rfl) (by kernel_rfl) (by kernel_rfl) rfl rfl rfl (y_pick_f (v := (.bool _)) rfl rfl) ?_
                  refine d_nil (n := 6) (m := 18) (by kernel_rfl) rfl ?_
                  refine s_else rfl ?_
                  refine s_skip ?_
                  refine s_region ?_
                  refine o_val rfl rfl rfl (y_add rfl rfl (by simp only [inK]; omega)) ?_
                  refine o_val rfl rfl rfl (y_move (v := (.int _ _)) rfl) ?_
                  refine o_nil ?_
                  exact ⟨{ v with i := u.i + 1 }, (by first | omega | (dsimp only; omega)), ⟨by dsimp only; omega, hV⟩, ⟨rfl, rfl, rfl, rfl, rfl, rfl, (congrArg (Value.int .i64) (by dsimp only; omega)), trivial⟩, (sub_picks [6, 6, 6, 6, 6, 6, 6, 6, 6, 0, 5, 0, 0, 0, 2, 2, 0, 0, 0, 0, 0, 0, 0, 0] (by kernel_rfl))⟩
            · refine o_val rfl rfl rfl (y_load Try.isAgg60 rfl (cel_own 3 rfl rfl)) ?_
              refine o_nil ?_
              refine d_val (i := 12) rfl (by kernel_rfl) (by kernel_rfl) (by kernel_rfl) rfl rfl rfl (y_len Try.runUnderlying60 rfl) ?_
              refine d_val (i := 20) rfl (by kernel_rfl) (by kernel_rfl) (by kernel_rfl) rfl rfl rfl (y_sub rfl rfl (by simp only [inK]; omega)) ?_
              refine d_eff (k := 4) (n := 6) (m := 18) rfl (by kernel_rfl) rfl ?_
              refine o_fn 1 (d := 185) rfl Try.call36 (WaitL_c e1 v.X1.acked v.X1.wA v.X1.ws.length v.X1.wc v.X1.next v.X1.gA v.X1.gs.length v.X1.gc) rfl ?_
              rintro _ _ ⟨rfl, rfl⟩
              refine o_norm _ (by simp only [pull, picks, setG, List.cons_append, List.nil_append, List.append_nil, List.drop_succ_cons, List.drop_zero]; rfl) ?_
              refine o_nil ?_
              refine d_split (i := 21) rfl (by kernel_rfl) (by kernel_rfl) (by kernel_rfl) rfl rfl rfl (y_neq rfl rfl) (fun p180 => ?_) (fun p181 => ?_)
              · exfalso; omega
              · refine d_val (i := 22) rfl (by kernel_rfl) (by kernel_rfl) (by kernel_rfl) rfl rfl rfl (y_move (v := (.bool _)) rfl) ?_
                refine d_val_g (i := 23) rfl (by kernel_rfl) (by kernel_rfl) (by kernel_rfl) rfl rfl rfl rfl (y_move (v := (.int _ _)) rfl) ?_
                refine d_val_g (i := 24) rfl (by kernel_rfl) (by kernel_rfl) (by kernel_rfl) rfl rfl rfl rfl (y_rem rfl rfl (by omega)) ?_
                refine d_split_g (i := 25) rfl (by kernel_rfl) (by kernel_rfl) (by kernel_rfl) rfl rfl rfl rfl (y_eql rfl rfl) (fun p182 => ?_) (fun p183 => ?_)
                · refine d_val_g (i := 26) rfl (by kernel_rfl) (by kernel_rfl) (by kernel_rfl) rfl rfl rfl rfl (y_move (v := (.bool _)) rfl) ?_
                  refine d_val_g (i := 27) rfl (by kernel_rfl) (by kernel_rfl) (by kernel_rfl) rfl rfl rfl rfl (y_move (v := (.slice _ _ _)) rfl) ?_
                  refine d_val_g (i := 28) rfl (by kernel_rfl) (by kernel_rfl) (by kernel_rfl) rfl rfl rfl rfl (y_move (v := (.int _ _)) rfl) ?_
                  refine d_val_g (i := 29) rfl (by kernel_rfl) (by kernel_rfl) (by kernel_rfl) rfl rfl rfl rfl (y_slice_lit (q := 1) Try.runUnderlying58 Try.sizeOf56 rfl rfl rfl rfl) ?_
                  refine d_val_g (i := 30) rfl (by kernel_rfl) (by kernel_rfl) (by kernel_rfl) rfl rfl rfl rfl (y_load Try.isAgg56 rfl (cel_own 12 rfl rfl)) ?_
                  refine d_val_g (i := 31) rfl (by kernel_rfl) (by kernel_rfl) (by kernel_rfl) rfl rfl rfl rfl (y_move (v := (.slice _ _ _)) rfl) ?_
                  refine d_val_g (i := 32) rfl (by kernel_rfl) (by kernel_rfl) (by kernel_rfl) rfl rfl rfl rfl (y_move (v := (.int _ _)) rfl) ?_
                  refine d_val_g (i := 33) rfl (by kernel_rfl) (by kernel_rfl) (by kernel_rfl) rfl rfl rfl rfl (y_slice_lit (q := 1) Try.runUnderlying63 Try.sizeOf59 rfl rfl rfl rfl) ?_
                  refine d_val_g (i := 34) rfl (by kernel_rfl) (by kernel_rfl) (by kernel_rfl) rfl rfl rfl rfl (y_load Try.isAgg59 rfl (cel_own 13 rfl rfl)) ?_
                  refine d_eff (k := 35) (n := 6) (m := 18) rfl (by kernel_rfl) rfl ?_
                  refine o_guard_yes rfl rfl ?_
                  refine o_fn 6 (d := 216) rfl Try.call37 (Got_c e1 v.X1.acked v.X1.wA v.X1.ws.length v.X1.wc v.X1.next v.X1.gA v.X1.gs.length v.X1.gc b3 v.X1.sA v.X1.ss.length v.X1.sc v.X1.acked v.X1.next v.X1.nA v.X1.ns.length v.X1.nc v.X1.gs v.X1.gE v.X1.P1 hg1 (fun f hf => hi1 f (List.mem_append_right _ hf)) v.X1.ns v.X1.nE v.X1.P3 hn1 hk1 (by omega)) rfl ?_
                  rintro _ _ ⟨rfl, rfl⟩
                  refine o_norm _ (by simp only [pull, picks, setG, List.cons_append, List.nil_append, List.append_nil, List.drop_succ_cons, List.drop_zero]; rfl) ?_
                  rw [show decide (v.X1.gs.map (·.bs) = v.X1.ns.map (·.bs)) = true from decide_eq_true hgm1]
                  refine o_newgroup ?_
                  refine o_newgroup ?_
                  refine o_nil ?_
                  refine d_val_g (i := 36) rfl (by kernel_rfl) (by kernel_rfl) (by kernel_rfl) rfl rfl rfl rfl (y_notb rfl) ?_
                  refine d_val_g (i := 37) rfl (by kernel_rfl) (by kernel_rfl) (by kernel_rfl) rfl rfl rfl rfl (y_pick_t (v := (.bool _)) rfl rfl) ?_
                  refine d_val (i := 38) rfl (by kernel_rfl) (by kernel_rfl) (by kernel_rfl) rfl rfl rfl (y_pick_f (v := (.bool _)) rfl rfl) ?_
                  refine d_nil (n := 4) (m := 18) (by kernel_rfl) rfl ?_
                  refine s_else rfl ?_
                  refine s_skip ?_
                  refine s_region ?_
                  refine o_val rfl rfl rfl (y_add rfl rfl (by simp only [inK]; omega)) ?_
                  refine o_val rfl rfl rfl (y_move (v := (.int _ _)) rfl) ?_
                  refine o_nil ?_
                  exact ⟨{ v with i := u.i + 1, X1 := { v.X1 with gs := [], gA := none, gc := 0, gE := [], ns := [], nA := none, nc := 0, nE := [] } }, (by first | omega | (dsimp only; omega)), ⟨by dsimp only; omega, hY0, ⟨hw1, OS.nil _ _, (fun f hf => hi1 f (List.mem_append_left _ (by simpa using hf))), hs1, hj1, OS.nil _ _, (fun f hf => absurd hf List.not_mem_nil), told_got hT1 rfl rfl rfl rfl rfl rfl⟩, ha0, ha1, hp0, hp1, hl0, hl1⟩, ⟨rfl, rfl, rfl, rfl, rfl, rfl, (congrArg (Value.int .i64) (by dsimp only; omega)), trivial⟩, (sub_picks [4, 4, 4, 4, 4, 4, 4, 4, 4, 0, 3, 11, 0, 0, 1, 1, 7, 0, 0, 0, 0, 0, 0, 0] (by kernel_rfl))⟩
                · refine d_val_g (i := 26) rfl (by kernel_rfl) (by kernel_rfl) (by kernel_rfl) rfl rfl rfl rfl (y_move (v := (.bool _)) rfl) ?_
                  refine d_guard_no (i := 27) rfl (by kernel_rfl) (by kernel_rfl) (by kernel_rfl) rfl rfl rfl rfl rfl ?_
                  refine d_guard_no (i := 28) rfl (by kernel_rfl) (by kernel_rfl) (by kernel_rfl) rfl rfl rfl rfl rfl ?_
                  refine d_guard_no (i := 29) rfl (by kernel_rfl) (by kernel_rfl) (by kernel_rfl) rfl rfl rfl rfl rfl ?_
                  refine d_guard_no (i := 30) rfl (by kernel_rfl) (by kernel_rfl) (by kernel_rfl) rfl rfl rfl rfl rfl ?_
                  refine d_guard_no (i := 31) rfl (by kernel_rfl) (by kernel_rfl) (by kernel_rfl) rfl rfl rfl rfl rfl ?_
                  refine d_guard_no (i := 32) rfl (by kernel_rfl) (by kernel_rfl) (by kernel_rfl) rfl rfl rfl rfl rfl ?_
                  refine d_guard_no (i := 33) rfl (by kernel_rfl) (by kernel_rfl) (by kernel_rfl) rfl rfl rfl rfl rfl ?_
                  refine d_guard_no (i := 34) rfl (by kernel_rfl) (by kernel_rfl) (by kernel_rfl) rfl rfl rfl rfl rfl ?_
                  refine d_eff (k := 35) (n := 6) (m := 18) rfl (by kernel_rfl) rfl ?_
                  refine o_guard_no rfl rfl rfl rfl rfl ?_
                  refine o_nil ?_
                  refine d_guard_no (i := 36) rfl (by kernel_rfl) (by kernel_rfl) (by kernel_rfl) rfl rfl rfl rfl rfl ?_
                  refine d_val_g (i := 37) rfl (by kernel_rfl) (by kernel_rfl) (by kernel_rfl) rfl rfl rfl rfl (y_pick_f (v := (.bool _)) rfl rfl) ?_
                  refine d_val (i := 38) rfl (by kernel_rfl) (by kernel_rfl) (by kernel_rfl) rfl rfl rfl (y_pick_f (v := (.bool _)) rfl rfl) ?_
                  refine d_nil (n := 6) (m := 18) (by kernel_rfl) rfl ?_
                  refine s_else rfl ?_
                  refine s_skip ?_
                  refine s_region ?_
                  refine o_val rfl rfl rfl (y_add rfl rfl (by simp only [inK]; omega)) ?_
                  refine o_val rfl rfl rfl (y_move (v := (.int _ _)) rfl) ?_
                  refine o_nil ?_
                  exact ⟨{ v with i := u.i + 1 }, (by first | omega | (dsimp only; omega)), ⟨by dsimp only; omega, hV⟩, ⟨rfl, rfl, rfl, rfl, rfl, rfl, (congrArg (Value.int .i64) (by dsimp only; omega)), trivial⟩, (sub_picks [6, 6, 6, 6, 6, 6, 6, 6, 6, 0, 5, 0, 0, 0, 2, 2, 0, 0, 0, 0, 0, 0, 0, 0] (by kernel_rfl))⟩
      · refine s_exit ?_
        refine s_seq ?_
        refine s_pull 17 ?_
        refine s_norm _ (by simp only [pull, picks, setG, List.cons_append, List.nil_append, List.append_nil, List.drop_succ_cons, List.drop_zero]; rfl) ?_
        refine s_pull 17 ?_
        refine s_norm _ (by simp only [pull, picks, setG, List.cons_append, List.nil_append, List.append_nil, List.drop_succ_cons, List.drop_zero]; rfl) ?_
        refine s_pull 15 ?_
        refine s_norm _ (by simp only [pull, picks, setG, List.cons_append, List.nil_append, List.append_nil, List.drop_succ_cons, List.drop_zero]; rfl) ?_
        refine s_pull 15 ?_
        refine s_norm _ (by simp only [pull, picks, setG, List.cons_append, List.nil_append, List.append_nil, List.drop_succ_cons, List.drop_zero]; rfl) ?_
        refine s_pull 15 ?_
        refine s_norm _ (by simp only [pull, picks, setG, List.cons_append, List.nil_append, List.append_nil, List.drop_succ_cons, List.drop_zero]; rfl) ?_
        refine s_pull 14 ?_
        refine s_norm _ (by simp only [pull, picks, setG, List.cons_append, List.nil_append, List.append_nil, List.drop_succ_cons, List.drop_zero]; rfl) ?_
        refine s_pull 14 ?_
        refine s_norm _ (by simp only [pull, picks, setG, List.cons_append, List.nil_append, List.append_nil, List.drop_succ_cons, List.drop_zero]; rfl) ?_
        refine s_pull 14 ?_
        refine s_norm _ (by simp only [pull, picks, setG, List.cons_append, List.nil_append, List.append_nil, List.drop_succ_cons, List.drop_zero]; rfl) ?_
        refine s_pull 12 ?_
        refine s_norm _ (by simp only [pull, picks, setG, List.cons_append, List.nil_append, List.append_nil, List.drop_succ_cons, List.drop_zero]; rfl) ?_
        refine s_pull 12 ?_
        refine s_norm _ (by simp only [pull, picks, setG, List.cons_append, List.nil_append, List.append_nil, List.drop_succ_cons, List.drop_zero]; rfl) ?_
        refine s_pull 12 ?_
        refine s_norm _ (by simp only [pull, picks, setG, List.cons_append, List.nil_append, List.append_nil, List.drop_succ_cons, List.drop_zero]; rfl) ?_
        refine s_pull 11 ?_
        refine s_norm _ (by simp only [pull, picks, setG, List.cons_append, List.nil_append, List.append_nil, List.drop_succ_cons, List.drop_zero]; rfl) ?_
        refine s_drawn 12 (by kernel_rfl) ?_
        refine d_val (i := 0) rfl (by kernel_rfl) (by kernel_rfl) (by kernel_rfl) rfl rfl rfl (y_move (v := (.slice _ _ _)) rfl) ?_
        refine d_val (i := 1) rfl (by kernel_rfl) (by kernel_rfl) (by kernel_rfl) rfl rfl rfl (y_slice_lit (q := 0) Try.runUnderlying58 Try.sizeOf56 rfl rfl rfl rfl) ?_
        refine d_val (i := 2) rfl (by kernel_rfl) (by kernel_rfl) (by kernel_rfl) rfl rfl rfl (y_load Try.isAgg56 rfl (cel_own 6 rfl rfl)) ?_
        refine d_val (i := 3) rfl (by kernel_rfl) (by kernel_rfl) (by kernel_rfl) rfl rfl rfl (y_move (v := (.slice _ _ _)) rfl) ?_
        refine d_val (i := 4) rfl (by kernel_rfl) (by kernel_rfl) (by kernel_rfl) rfl rfl rfl (y_slice_lit (q := 0) Try.runUnderlying63 Try.sizeOf59 rfl rfl rfl rfl) ?_
        refine d_val (i := 5) rfl (by kernel_rfl) (by kernel_rfl) (by kernel_rfl) rfl rfl rfl (y_load Try.isAgg59 rfl (cel_own 7 rfl rfl)) ?_
        refine d_eff (k := 6) (n := 12) (m := 12) rfl (by kernel_rfl) rfl ?_
        refine o_fn 6 (d := 227) rfl Try.call37 (Got_c e0 u.X0.acked u.X0.wA u.X0.ws.length u.X0.wc u.X0.next u.X0.gA u.X0.gs.length u.X0.gc b2 u.X0.sA u.X0.ss.length u.X0.sc u.X0.acked u.X0.next u.X0.nA u.X0.ns.length u.X0.nc u.X0.gs u.X0.gE u.X0.P1 hg0 (fun f hf => hi0 f (List.mem_append_right _ hf)) u.X0.ns u.X0.nE u.X0.P3 hn0 hk0 (by omega)) rfl ?_
        rintro _ _ ⟨rfl, rfl⟩
        refine o_norm _ (by simp only [pull, picks, setG, List.cons_append, List.nil_append, List.append_nil, List.drop_succ_cons, List.drop_zero]; rfl) ?_
        rw [show decide (u.X0.gs.map (·.bs) = u.X0.ns.map (·.bs)) = true from decide_eq_true hgm0]
        refine o_newgroup ?_
        refine o_newgroup ?_
        refine o_nil ?_
        refine d_val (i := 7) rfl (by kernel_rfl) (by kernel_rfl) (by kernel_rfl) rfl rfl rfl (y_move (v := (.bool _)) rfl) ?_
        refine d_val_g (i := 8) rfl (by kernel_rfl) (by kernel_rfl) (by kernel_rfl) rfl rfl rfl rfl (y_move (v := (.slice _ _ _)) rfl) ?_
        refine d_val_g (i := 9) rfl (by kernel_rfl) (by kernel_rfl) (by kernel_rfl) rfl rfl rfl rfl (y_slice_lit (q := 1) Try.runUnderlying58 Try.sizeOf56 rfl rfl rfl rfl) ?_
        refine d_val_g (i := 10) rfl (by kernel_rfl) (by kernel_rfl) (by kernel_rfl) rfl rfl rfl rfl (y_load Try.isAgg56 rfl (cel_own 6 rfl rfl)) ?_
        refine d_val_g (i := 11) rfl (by kernel_rfl) (by kernel_rfl) (by kernel_rfl) rfl rfl rfl rfl (y_move (v := (.slice _ _ _)) rfl) ?_
        refine d_val_g (i := 12) rfl (by kernel_rfl) (by kernel_rfl) (by kernel_rfl) rfl rfl rfl rfl (y_slice_lit (q := 1) Try.runUnderlying63 Try.sizeOf59 rfl rfl rfl rfl) ?_
        refine d_val_g (i := 13) rfl (by kernel_rfl) (by kernel_rfl) (by kernel_rfl) rfl rfl rfl rfl (y_load Try.isAgg59 rfl (cel_own 7 rfl rfl)) ?_
        refine d_eff (k := 14) (n := 10) (m := 12) rfl (by kernel_rfl) rfl ?_
        refine o_guard_yes rfl rfl ?_
        refine o_pull 9 ?_
        refine o_norm _ (by simp only [pull, picks, setG, List.cons_append, List.nil_append, List.append_nil, List.drop_succ_cons, List.drop_zero]; rfl) ?_
        refine o_pull 9 ?_
        refine o_norm _ (by simp only [pull, picks, setG, List.cons_append, List.nil_append, List.append_nil, List.drop_succ_cons, List.drop_zero]; rfl) ?_
        refine o_pull 9 ?_
        refine o_norm _ (by simp only [pull, picks, setG, List.cons_append, List.nil_append, List.append_nil, List.drop_succ_cons, List.drop_zero]; rfl) ?_
        refine o_pull 9 ?_
        refine o_norm _ (by simp only [pull, picks, setG, List.cons_append, List.nil_append, List.append_nil, List.drop_succ_cons, List.drop_zero]; rfl) ?_
        refine o_pull 9 ?_
        refine o_norm _ (by simp only [pull, picks, setG, List.cons_append, List.nil_append, List.append_nil, List.drop_succ_cons, List.drop_zero]; rfl) ?_
        refine o_pull 9 ?_
        refine o_norm _ (by simp only [pull, picks, setG, List.cons_append, List.nil_append, List.append_nil, List.drop_succ_cons, List.drop_zero]; rfl) ?_
        refine o_fn 6 (d := 235) rfl Try.call37 (Got_c e1 u.X1.acked u.X1.wA u.X1.ws.length u.X1.wc u.X1.next u.X1.gA u.X1.gs.length u.X1.gc b3 u.X1.sA u.X1.ss.length u.X1.sc u.X1.acked u.X1.next u.X1.nA u.X1.ns.length u.X1.nc u.X1.gs u.X1.gE u.X1.P1 hg1 (fun f hf => hi1 f (List.mem_append_right _ hf)) u.X1.ns u.X1.nE u.X1.P3 hn1 hk1 (by omega)) rfl ?_
        rintro _ _ ⟨rfl, rfl⟩
        refine o_norm _ (by simp only [pull, picks, setG, List.cons_append, List.nil_append, List.append_nil, List.drop_succ_cons, List.drop_zero]; rfl) ?_
        rw [show decide (u.X1.gs.map (·.bs) = u.X1.ns.map (·.bs)) = true from decide_eq_true hgm1]
        refine o_newgroup ?_
        refine o_newgroup ?_
        refine o_nil ?_
        refine d_val (i := 15) rfl (by kernel_rfl) (by kernel_rfl) (by kernel_rfl) rfl rfl rfl (y_pick_t (v := (.bool _)) rfl rfl) ?_
        refine d_val (i := 16) rfl (by kernel_rfl) (by kernel_rfl) (by kernel_rfl) rfl rfl rfl (y_assign (v := (.bool _)) rfl) ?_
        refine d_nil (n := 8) (m := 12) (by kernel_rfl) rfl ?_
        refine s_forget [(4, (.bool _))] ⟨rfl, trivial⟩ (fun _f => ?_)
        refine s_ret ?_
        exact ⟨_, [], res1 rfl rfl, ⟨rfl, rfl⟩, sub_picks [] (by kernel_rfl)⟩

end Go.Proofs.Ytdgmocibjjkghaa.K

/- Walks over the package tourlaw4: the fact of the templates. No condition beyond what each statement names. -/
import Derived.Test.YtacmbiohjiogiaaProg
import Derived.Test.YtacmbiohjiogiaaK14
import Derived.Test.YtacmbiohjiogiaaK19
import Derived.Test.YtacmbiohjiogiaaM1
import Derived.Test.YtacmbiohjiogiaaM2
import Derived.Test.YtacmbiohjiogiaaW1
import Derived.Test.YtacmbiohjiogiaaW2
import Derived.Test.YtacmbiohjiogiaaW3
import Derived.Test.YtacmbiohjiogiaaW4
import Derived.Test.YtacmbiohjiogiaaW5
import Derived.Test.YtacmbiohjiogiaaW6
import Derived.Test.YtacmbiohjiogiaaW7
import Derived.Test.YtacmbiohjiogiaaX1
import Derived.Test.YtacmbiohjiogiaaXK
import Derived.Test.YtacmbiohjiogiaaP1
import Derived.Test.YtacmbiohjiogiaaP2
import Derived.Test.YtacmbiohjiogiaaP3
import Derived.Test.YtacmbiohjiogiaaP4
import Derived.Test.YtacmbiohjiogiaaP5
import Derived.Test.YtacmbiohjiogiaaP6
import Derived.Test.YtacmbiohjiogiaaP7
import Derived.Test.YtacmbiohjiogiaaP8
set_option linter.unusedVariables false
set_option linter.unusedSimpArgs false
set_option maxRecDepth 100000
set_option maxHeartbeats 1000000
namespace Go.Proofs.Ytacmbiohjiogiaa.K
open Go.RowKit

theorem two_okT {ks : List KR} {t1 t2 : PfR} (h1 : t1.ps = []) (c1 : heldP ks t1.cs) (p2 : t2.ps.length ≤ 2) (q2 : ∀ y ∈ t2.ps, partG ks [t1] y) (c2 : heldP ks t2.cs) : okTs ks [t1, t2] :=
  okTs_snoc (l := [t1]) (one_okT h1 c1) (by decide : (1 : Nat) < 4) p2 q2 c2
def twoT : List TV := [([(0, [1, 2])], []), ([], [(0, [([], 0, 1, 5)])])]
def twoB : List BV := [([], []), ([0], [(0, [1, 5])])]
theorem two_use (b : Nat) : useV [spotK b] [([(0, [1, 2])], [])] (0, [([], 0, 1, 5)]) = .ok [([], [(0, [1, 5])])] := by
  show useV [spotK 0] [([(0, [1, 2])], [])] (0, [([], 0, 1, 5)]) = .ok [([], [(0, [1, 5])])]
  rfl
theorem two_raw (b : Nat) : rawV [spotK b] twoT 1 = twoB := by
  show rawV [spotK 0] twoT 1 = twoB
  rfl

theorem builds4_k0 (v0 : Int) (v1 : Int) (w : World) : (Instr.buildSlice 22 2 ([(0, (.int .i64 v0)), (1, (.int .i64 v1))] : List (Nat × Value)).toArray).run Try.prog w = .ok (.slice (some ⟨w.heap.size, 0, none⟩) 2 2) { w with heap := w.heap.push (.cells ([.int .i64 v0, .int .i64 v1] : List Value).toArray 3 (0, 0)) } := by kernel_rfl
theorem builds4_k1 (v1A : Option Addr) (v1n : Nat) (v1c : Nat) (w : World) : (Instr.build 155 ([(1, (.slice v1A v1n v1c))] : List (Nat × Value)).toArray).run Try.prog w = .ok (.agg #[.int .i64 0, .slice v1A v1n v1c]) w := by kernel_rfl
theorem builds4_k2 (v0x0 : Int) (v0x1A : Option Addr) (v0x1n : Nat) (v0x1c : Nat) (w : World) : (Instr.buildSlice 33 1 ([(0, (.agg #[(.int .i64 v0x0), (.slice v0x1A v0x1n v0x1c)]))] : List (Nat × Value)).toArray).run Try.prog w = .ok (.slice (some ⟨w.heap.size, 0, none⟩) 1 1) { w with heap := w.heap.push (.cells ([.int .i64 v0x0, .slice v0x1A v0x1n v0x1c] : List Value).toArray 155 (0, 0)) } := by kernel_rfl
theorem builds4_k3 (v0A : Option Addr) (v0n : Nat) (v0c : Nat) (w : World) : (Instr.build 38 ([(0, (.slice v0A v0n v0c))] : List (Nat × Value)).toArray).run Try.prog w = .ok (.agg #[.slice v0A v0n v0c, .slice none 0 0]) w := by kernel_rfl
theorem builds4_k4 (v1 : Int) (w : World) : (Instr.build 145 ([(1, (.int .i64 v1))] : List (Nat × Value)).toArray).run Try.prog w = .ok (.agg #[.int .i64 0, .int .i64 v1]) w := by kernel_rfl
theorem builds4_k5 (v1x0 : Int) (v1x1 : Int) (v2 : Int) (w : World) : (Instr.build 147 ([(1, (.agg #[(.int .i64 v1x0), (.int .i64 v1x1)])), (2, (.int .i64 v2))] : List (Nat × Value)).toArray).run Try.prog w = .ok (.agg #[.slice none 0 0, .int .i64 v1x0, .int .i64 v1x1, .int .i64 v2]) w := by kernel_rfl
theorem builds4_k6 (v0x0A : Option Addr) (v0x0n : Nat) (v0x0c : Nat) (v0x1 : Int) (v0x2 : Int) (v0x3 : Int) (w : World) : (Instr.buildSlice 39 1 ([(0, (.agg #[(.slice v0x0A v0x0n v0x0c), (.int .i64 v0x1), (.int .i64 v0x2), (.int .i64 v0x3)]))] : List (Nat × Value)).toArray).run Try.prog w = .ok (.slice (some ⟨w.heap.size, 0, none⟩) 1 1) { w with heap := w.heap.push (.cells ([.slice v0x0A v0x0n v0x0c, .int .i64 v0x1, .int .i64 v0x2, .int .i64 v0x3] : List Value).toArray 147 (0, 0)) } := by kernel_rfl
theorem builds4_k7 (v1A : Option Addr) (v1n : Nat) (v1c : Nat) (w : World) : (Instr.build 41 ([(1, (.slice v1A v1n v1c))] : List (Nat × Value)).toArray).run Try.prog w = .ok (.agg #[.int .i64 0, .slice v1A v1n v1c]) w := by kernel_rfl
theorem builds4_k8 (v0x0 : Int) (v0x1A : Option Addr) (v0x1n : Nat) (v0x1c : Nat) (w : World) : (Instr.buildSlice 36 1 ([(0, (.agg #[(.int .i64 v0x0), (.slice v0x1A v0x1n v0x1c)]))] : List (Nat × Value)).toArray).run Try.prog w = .ok (.slice (some ⟨w.heap.size, 0, none⟩) 1 1) { w with heap := w.heap.push (.cells ([.int .i64 v0x0, .slice v0x1A v0x1n v0x1c] : List Value).toArray 41 (0, 0)) } := by kernel_rfl
theorem builds4_k9 (v1A : Option Addr) (v1n : Nat) (v1c : Nat) (w : World) : (Instr.build 38 ([(1, (.slice v1A v1n v1c))] : List (Nat × Value)).toArray).run Try.prog w = .ok (.agg #[.slice none 0 0, .slice v1A v1n v1c]) w := by kernel_rfl
theorem builds4_k10 (v0x0A : Option Addr) (v0x0n : Nat) (v0x0c : Nat) (v0x1A : Option Addr) (v0x1n : Nat) (v0x1c : Nat) (v1x0A : Option Addr) (v1x0n : Nat) (v1x0c : Nat) (v1x1A : Option Addr) (v1x1n : Nat) (v1x1c : Nat) (w : World) : (Instr.buildSlice 25 2 ([(0, (.agg #[(.slice v0x0A v0x0n v0x0c), (.slice v0x1A v0x1n v0x1c)])), (1, (.agg #[(.slice v1x0A v1x0n v1x0c), (.slice v1x1A v1x1n v1x1c)]))] : List (Nat × Value)).toArray).run Try.prog w = .ok (.slice (some ⟨w.heap.size, 0, none⟩) 2 2) { w with heap := w.heap.push (.cells ([.slice v0x0A v0x0n v0x0c, .slice v0x1A v0x1n v0x1c, .slice v1x0A v1x0n v1x0c, .slice v1x1A v1x1n v1x1c] : List Value).toArray 38 (0, 0)) } := by kernel_rfl
theorem builds4_k11 (v0 : Int) (w : World) : (Instr.buildSlice 22 1 ([(0, (.int .i64 v0))] : List (Nat × Value)).toArray).run Try.prog w = .ok (.slice (some ⟨w.heap.size, 0, none⟩) 1 1) { w with heap := w.heap.push (.cells ([.int .i64 v0] : List Value).toArray 3 (0, 0)) } := by kernel_rfl
theorem builds4_c {V : Mem} : CallS Try.prog 64 [].toArray V [] (fun r L' => r = .bool true ∧ L' = []) := by
  refine callS Try.func64 rfl rfl (fun w0 => ?_)
  refine s_seq ?_
  refine s_region ?_
  refine o_val rfl rfl rfl (y_assign (v := (.bool _)) rfl) ?_
  refine o_nil ?_
  refine s_seq ?_
  refine s_region ?_
  refine o_fn 0 (d := 6) rfl Try.call90 (Kinds0_c) rfl ?_
  rintro _ _ ⟨kb6, kb8, rfl, rfl⟩
  refine o_val rfl rfl rfl (y_assign (v := (.slice _ _ _)) rfl) ?_
  refine o_nil ?_
  refine s_seq ?_
  refine s_region ?_
  refine o_lit (vs := [(0, .int _ _), (1, .int _ _)]) rfl rfl (builds4_k0 _ _) (fun b1 => ?_)
  refine o_val rfl rfl rfl (y_build (vs := [(1, .slice _ _ _)]) rfl (builds4_k1 _ _ _)) ?_
  refine o_lit (vs := [(0, .agg #[.int _ _, .slice _ _ _])]) rfl rfl (builds4_k2 _ _ _ _) (fun b2 => ?_)
  refine o_val rfl rfl rfl (y_build (vs := [(0, .slice _ _ _)]) rfl (builds4_k3 _ _ _)) ?_
  refine o_alloc rfl Try.zeroValue38 rfl (fun b3 => ?_)
  refine o_stores (vs := [(.slice _ _ _), (.slice _ _ _)]) 4 rfl Try.sizeOf38 rfl rfl rfl (by simp [Value.oneCell']) (by simp) ?_
  refine o_nil ?_
  refine s_seq ?_
  refine s_region ?_
  refine o_val rfl rfl rfl (y_build (vs := [(1, .int _ _)]) rfl (builds4_k4 _)) ?_
  refine o_val rfl rfl rfl (y_build (vs := [(1, .agg #[.int _ _, .int _ _]), (2, .int _ _)]) rfl (builds4_k5 _ _ _)) ?_
  refine o_lit (vs := [(0, .agg #[.slice _ _ _, .int _ _, .int _ _, .int _ _])]) rfl rfl (builds4_k6 _ _ _ _ _ _) (fun b4 => ?_)
  refine o_val rfl rfl rfl (y_build (vs := [(1, .slice _ _ _)]) rfl (builds4_k7 _ _ _)) ?_
  refine o_lit (vs := [(0, .agg #[.int _ _, .slice _ _ _])]) rfl rfl (builds4_k8 _ _ _ _) (fun b5 => ?_)
  refine o_val rfl rfl rfl (y_build (vs := [(1, .slice _ _ _)]) rfl (builds4_k9 _ _ _)) ?_
  refine o_alloc rfl Try.zeroValue38 rfl (fun b6 => ?_)
  refine o_stores (vs := [(.slice _ _ _), (.slice _ _ _)]) 7 rfl Try.sizeOf38 rfl rfl rfl (by simp [Value.oneCell']) (by simp) ?_
  refine o_nil ?_
  refine s_seq ?_
  refine s_region ?_
  refine o_val rfl rfl rfl (y_move (v := (.slice _ _ _)) rfl) ?_
  refine o_val rfl rfl rfl (y_loads (cs := [_, _]) Try.isAgg38 Try.sizeOf38 rfl rfl rfl (cels_own 4 rfl rfl)) ?_
  refine o_val rfl rfl rfl (y_loads (cs := [_, _]) Try.isAgg38 Try.sizeOf38 rfl rfl rfl (cels_own 7 rfl rfl)) ?_
  refine o_lit (vs := [(0, .agg #[.slice _ _ _, .slice _ _ _]), (1, .agg #[.slice _ _ _, .slice _ _ _])]) rfl rfl (builds4_k10 _ _ _ _ _ _ _ _ _ _ _ _) (fun b7 => ?_)
  refine o_fn 0 (d := 22) rfl Try.call19 (Build_c (some ⟨kb8, 0, none⟩) 1 1 [spotK kb6] (show KsOK _ (some ⟨kb8, 0, none⟩) 1 1 [spotK kb6] from ⟨rfl, Nat.le_refl _, (show (1 : Nat) ≤ 3518437208883 from by decide), (cels_lit (b := kb8) (T := 58) ([spotK kb6].flatMap encK) (j := 1) rfl).down, fun x hx => by obtain rfl := List.mem_singleton.1 hx; exact ⟨rfl, Nat.le_refl _, (show (2 : Nat) ≤ 4398046511104 from by decide), (cels_lit (b := kb6) (T := 61) (spotFs.flatMap encF) (j := 0) rfl).down⟩⟩) (spot_ok kb6) (some ⟨b7, 0, none⟩) 2 2 [(PfR.mk (some ⟨b2, 0, none⟩) 1 1 [(newC 0 (some ⟨b1, 0, none⟩) 2 2 [1, 2])] none 0 0 []), (PfR.mk none 0 0 [] (some ⟨b5, 0, none⟩) 1 1 [(PaR.mk 0 (some ⟨b4, 0, none⟩) 1 1 [(OvR.mk none 0 0 [] 0 1 5)])])] (show LsOK _ (some ⟨b7, 0, none⟩) 2 2 [(PfR.mk (some ⟨b2, 0, none⟩) 1 1 [(newC 0 (some ⟨b1, 0, none⟩) 2 2 [1, 2])] none 0 0 []), (PfR.mk none 0 0 [] (some ⟨b5, 0, none⟩) 1 1 [(PaR.mk 0 (some ⟨b4, 0, none⟩) 1 1 [(OvR.mk none 0 0 [] 0 1 5)])])] from ⟨rfl, Nat.le_refl _, (show (2 : Nat) ≤ 1000 from by decide), (cels_lit (b := b7) (T := 38) ([(PfR.mk (some ⟨b2, 0, none⟩) 1 1 [(newC 0 (some ⟨b1, 0, none⟩) 2 2 [1, 2])] none 0 0 []), (PfR.mk none 0 0 [] (some ⟨b5, 0, none⟩) 1 1 [(PaR.mk 0 (some ⟨b4, 0, none⟩) 1 1 [(OvR.mk none 0 0 [] 0 1 5)])])].flatMap encPf) (j := 8) rfl).down, fun x hx => by rcases List.mem_cons.1 hx with rfl | hx; (· exact ⟨⟨rfl, Nat.le_refl _, (show (1 : Nat) ≤ 4398046511104 from by decide), (cels_lit (b := b2) (T := 155) ([(newC 0 (some ⟨b1, 0, none⟩) 2 2 [1, 2])].flatMap encC) (j := 3) rfl).down, fun y hy => by obtain rfl := List.mem_singleton.1 hy; exact ⟨rfl, Nat.le_refl _, (show (2 : Nat) ≤ 17592186044416 from by decide), (cels_lit (b := b1) (T := 3) ([.int .i64 1, .int .i64 2]) (j := 2) rfl).down⟩⟩, ⟨rfl, Nat.le_refl _, Nat.zero_le _, Cels.nil, fun y hy => absurd hy List.not_mem_nil⟩⟩); (· obtain rfl := List.mem_singleton.1 hx; exact ⟨⟨rfl, Nat.le_refl _, Nat.zero_le _, Cels.nil, fun y hy => absurd hy List.not_mem_nil⟩, ⟨rfl, Nat.le_refl _, (show (1 : Nat) ≤ 4398046511104 from by decide), (cels_lit (b := b5) (T := 41) ([(PaR.mk 0 (some ⟨b4, 0, none⟩) 1 1 [(OvR.mk none 0 0 [] 0 1 5)])].flatMap encPa) (j := 6) rfl).down, fun y hy => by obtain rfl := List.mem_singleton.1 hy; exact ⟨rfl, Nat.le_refl _, (show (1 : Nat) ≤ 4398046511104 from by decide), (cels_lit (b := b4) (T := 147) ([(OvR.mk none 0 0 [] 0 1 5)].flatMap encOv) (j := 5) rfl).down, fun z hz => by obtain rfl := List.mem_singleton.1 hz; exact ⟨rfl, Nat.le_refl _, Nat.zero_le _, Cels.nil⟩⟩⟩⟩)⟩) (two_okT (ks := [spotK kb6]) (t1 := (PfR.mk (some ⟨b2, 0, none⟩) 1 1 [(newC 0 (some ⟨b1, 0, none⟩) 2 2 [1, 2])] none 0 0 [])) (t2 := (PfR.mk none 0 0 [] (some ⟨b5, 0, none⟩) 1 1 [(PaR.mk 0 (some ⟨b4, 0, none⟩) 1 1 [(OvR.mk none 0 0 [] 0 1 5)])])) rfl (held_one ⟨(by decide : (-1 : Int) < 0), (by decide : (0 : Int) < 1), spot_12 kb6⟩) (show (1 : Nat) ≤ 2 from by decide) (fun y hy => by obtain rfl := List.mem_singleton.1 hy; exact ⟨Int.le_refl _, (by decide : (0 : Int) < 1), (by decide : (1 : Nat) ≤ 40), _, two_use kb6⟩) (fun j hj => absurd hj (Nat.not_lt_zero j))) 1 (by decide : (1 : Nat) < 2) 1 rfl none 0 0 [] ⟨rfl, Nat.le_refl _, Nat.zero_le _, Cels.nil, fun y hy => absurd hy List.not_mem_nil⟩) rfl ?_
  rintro _ _ (⟨e, hx, he, rfl, rfl⟩ | ⟨bs', gs', B', bn', C', E', P', hx, rfl, hbn, ho', hb', rfl⟩)
  · exact absurd (hx.symm.trans (show resV [spotK kb6] ([(PfR.mk (some ⟨b2, 0, none⟩) 1 1 [(newC 0 (some ⟨b1, 0, none⟩) 2 2 [1, 2])] none 0 0 []), (PfR.mk none 0 0 [] (some ⟨b5, 0, none⟩) 1 1 [(PaR.mk 0 (some ⟨b4, 0, none⟩) 1 1 [(OvR.mk none 0 0 [] 0 1 5)])])].map PfR.d) 1 (([] : List OvR).map OvR.d) = .ok twoB from (resV_nil _ _ _).trans (congrArg Except.ok (two_raw kb6)))) (by simp)
  · have hbd : bs'.map BR.d = twoB := Except.ok.inj (hx.symm.trans (show resV [spotK kb6] ([(PfR.mk (some ⟨b2, 0, none⟩) 1 1 [(newC 0 (some ⟨b1, 0, none⟩) 2 2 [1, 2])] none 0 0 []), (PfR.mk none 0 0 [] (some ⟨b5, 0, none⟩) 1 1 [(PaR.mk 0 (some ⟨b4, 0, none⟩) 1 1 [(OvR.mk none 0 0 [] 0 1 5)])])].map PfR.d) 1 (([] : List OvR).map OvR.d) = .ok twoB from (resV_nil _ _ _).trans (congrArg Except.ok (two_raw kb6))))
    have hb2 : bs'.length = 2 := by have := congrArg List.length hbd; simpa [twoB] using this
    have hbj : BOK [spotK kb6] (inG P') (gs'.getD 1 []) (bs'.getD (1 : Int).toNat default) := hb'.2 1 (by omega)
    have hbe : (bs'.getD (1 : Int).toNat default).d = ([0], [(0, [1, 5])]) := by rw [← bget, hbd]; rfl
    have hps : (bs'.getD (1 : Int).toNat default).ps = [0] := congrArg Prod.fst hbe
    have hcs : (bs'.getD (1 : Int).toNat default).cs.map CR.d = [(0, [1, 5])] := congrArg Prod.snd hbe
    have hc1 : (bs'.getD (1 : Int).toNat default).cs.length = 1 := by have := congrArg List.length hcs; simpa using this
    have hcn : (bs'.getD (1 : Int).toNat default).cs.length = (bs'.getD (1 : Int).toNat default).cn := hbj.2.2.2.2.1
    have hcc := hbj.2.2.1 _ (getD_mem' (show (0 : Int).toNat < (bs'.getD (1 : Int).toNat default).cs.length by omega) : ((bs'.getD (1 : Int).toNat default).cs.getD (0 : Int).toNat default) ∈ (bs'.getD (1 : Int).toNat default).cs)
    have hvs : ((bs'.getD (1 : Int).toNat default).cs.getD (0 : Int).toNat default).vs = [1, 5] := by have h1 := cget (bs'.getD (1 : Int).toNat default).cs (0 : Int).toNat; rw [hcs] at h1; exact (congrArg Prod.snd h1).symm
    have hcm := hbj.2.1.mem.ms (inG_list (gs := gs') (i := 1) (by have := hb'.1; omega))
    refine o_val rfl rfl rfl (y_move (v := (.tuple #[(.slice _ _ _), (.int _ _)])) rfl) ?_
    refine o_val rfl rfl rfl (y_extract (v := (.slice _ _ _)) rfl rfl) ?_
    refine o_val rfl rfl rfl (y_extract (v := (.int _ _)) rfl rfl) ?_
    refine o_val rfl rfl rfl (y_assign (v := (.slice _ _ _)) rfl) ?_
    refine o_val rfl rfl rfl (y_assign (v := (.int _ _)) rfl) ?_
    refine o_nil ?_
    refine s_seq ?_
    refine s_region ?_
    refine o_val rfl rfl rfl (y_move (v := (.int _ _)) rfl) ?_
    refine o_split rfl rfl rfl (y_eql rfl rfl) (fun p8 => ?_) (fun p9 => ?_)
    · refine o_val rfl rfl rfl (y_move (v := (.bool _)) rfl) ?_
      refine o_guard_yes rfl rfl ?_
      refine o_val rfl rfl rfl (y_move (v := (.slice _ _ _)) rfl) ?_
      refine o_guard_yes rfl rfl ?_
      refine o_val rfl rfl rfl (y_len Try.runUnderlying28 rfl) ?_
      refine o_guard_yes rfl rfl ?_
      refine o_split rfl rfl rfl (y_eql rfl rfl) (fun p10 => ?_) (fun p11 => ?_)
      · refine o_val rfl rfl rfl (y_pick_t (v := (.bool _)) rfl rfl) ?_
        refine o_val rfl rfl rfl (y_move (v := (.bool _)) rfl) ?_
        refine o_guard_yes rfl rfl ?_
        refine o_val rfl rfl rfl (y_move (v := (.slice _ _ _)) rfl) ?_
        refine o_guard_yes rfl rfl ?_
        refine o_val rfl rfl rfl (y_indexAddr Try.runUnderlying28 Try.sizeOf35 (ho'.some_of (by omega)) rfl rfl (by omega)) ?_
        refine o_guard_yes rfl rfl ?_
        refine o_val rfl rfl rfl (y_fieldX (F := 0) Try.runUnderlying35 rfl Try.sizeOf22 rfl (ho'.some_of (by omega)) rfl) ?_
        refine o_guard_yes rfl rfl ?_
        refine o_val rfl rfl rfl (y_load Try.isAgg22 rfl ((cels_at (sz := 2) encB_len (ho'.cels (j := 0) rfl) (by omega)).cel' (i := 0) rfl)) ?_
        refine o_guard_yes rfl rfl ?_
        refine o_lit (vs := [(0, .int _ _)]) rfl rfl (builds4_k11 _) (fun b12 => ?_)
        refine o_guard_yes rfl rfl ?_
        refine o_fn 0 (d := 38) rfl Try.call21 (EqualI_c (bs'.getD (1 : Int).toNat default).pA (bs'.getD (1 : Int).toNat default).pn (bs'.getD (1 : Int).toNat default).pc (bs'.getD (1 : Int).toNat default).ps (hbj.1.2.2.2.ms (inG_ext (j := 2) rfl)) hbj.1.1 _ 1 1 [0] (cels_own 12 rfl rfl).down rfl (by have := hbj.1.2.2.1; omega)) rfl ?_
        rintro _ _ ⟨rfl, rfl⟩
        refine o_split rfl rfl rfl (y_pick_t (v := (.bool _)) rfl rfl) (fun p13 => ?_) (fun p14 => ?_)
        · refine o_val rfl rfl rfl (y_move (v := (.bool _)) rfl) ?_
          refine o_guard_yes rfl rfl ?_
          refine o_val rfl rfl rfl (y_move (v := (.slice _ _ _)) rfl) ?_
          refine o_guard_yes rfl rfl ?_
          refine o_val rfl rfl rfl (y_indexAddr Try.runUnderlying28 Try.sizeOf35 (ho'.some_of (by omega)) rfl rfl (by omega)) ?_
          refine o_guard_yes rfl rfl ?_
          refine o_val rfl rfl rfl (y_fieldX (F := 1) Try.runUnderlying35 rfl Try.sizeOf33 rfl (ho'.some_of (by omega)) rfl) ?_
          refine o_guard_yes rfl rfl ?_
          refine o_val rfl rfl rfl (y_load Try.isAgg33 rfl ((cels_at (sz := 2) encB_len (ho'.cels (j := 0) rfl) (by omega)).cel' (i := 1) rfl)) ?_
          refine o_guard_yes rfl rfl ?_
          refine o_val rfl rfl rfl (y_len Try.runUnderlying33 rfl) ?_
          refine o_guard_yes rfl rfl ?_
          refine o_split rfl rfl rfl (y_eql rfl rfl) (fun p15 => ?_) (fun p16 => ?_)
          · refine o_val rfl rfl rfl (y_pick_t (v := (.bool _)) rfl rfl) ?_
            refine o_val rfl rfl rfl (y_move (v := (.bool _)) rfl) ?_
            refine o_guard_yes rfl rfl ?_
            refine o_val rfl rfl rfl (y_move (v := (.slice _ _ _)) rfl) ?_
            refine o_guard_yes rfl rfl ?_
            refine o_val rfl rfl rfl (y_indexAddr Try.runUnderlying28 Try.sizeOf35 (ho'.some_of (by omega)) rfl rfl (by omega)) ?_
            refine o_guard_yes rfl rfl ?_
            refine o_val rfl rfl rfl (y_fieldX (F := 1) Try.runUnderlying35 rfl Try.sizeOf33 rfl (ho'.some_of (by omega)) rfl) ?_
            refine o_guard_yes rfl rfl ?_
            refine o_val rfl rfl rfl (y_load Try.isAgg33 rfl ((cels_at (sz := 2) encB_len (ho'.cels (j := 0) rfl) (by omega)).cel' (i := 1) rfl)) ?_
            refine o_guard_yes rfl rfl ?_
            refine o_val rfl rfl rfl (y_indexAddr Try.runUnderlying33 Try.sizeOf155 (some_at (sz := 1) encC_len (i := 0) hcm (by omega)) rfl rfl (by omega)) ?_
            refine o_guard_yes rfl rfl ?_
            refine o_val rfl rfl rfl (y_fieldX (F := 1) Try.runUnderlying155 rfl Try.sizeOf22 rfl (some_at (sz := 1) encC_len (i := 0) hcm (by omega)) rfl) ?_
            refine o_guard_yes rfl rfl ?_
            refine o_val rfl rfl rfl (y_load Try.isAgg22 rfl ((cels_at (sz := 2) encC_len ((hcm).ms (inG_ext (j := 1) rfl)).up (by omega)).cel' (i := 1) rfl)) ?_
            refine o_guard_yes rfl rfl ?_
            refine o_lit (vs := [(0, .int _ _), (1, .int _ _)]) rfl rfl (builds4_k0 _ _) (fun b17 => ?_)
            refine o_guard_yes rfl rfl ?_
            refine o_fn 0 (d := 57) rfl Try.call21 (EqualI_c ((bs'.getD (1 : Int).toNat default).cs.getD (0 : Int).toNat default).A ((bs'.getD (1 : Int).toNat default).cs.getD (0 : Int).toNat default).n ((bs'.getD (1 : Int).toNat default).cs.getD (0 : Int).toNat default).c ((bs'.getD (1 : Int).toNat default).cs.getD (0 : Int).toNat default).vs (hcc.2.2.2.ms (inG_ext (j := 2) rfl)) hcc.1 _ 2 2 [1, 5] (cels_own 13 rfl rfl).down rfl (by have := hcc.2.2.1; omega)) rfl ?_
            rintro _ _ ⟨rfl, rfl⟩
            refine o_val rfl rfl rfl (y_pick_t (v := (.bool _)) rfl rfl) ?_
            refine o_val rfl rfl rfl (y_assign (v := (.bool _)) rfl) ?_
            refine o_nil ?_
            refine s_ret ?_
            exact ⟨_, [], res1 rfl rfl, ⟨congrArg Value.bool (decide_eq_true hvs), rfl⟩, sub_picks [] rfl⟩
          · exfalso; omega
        · exact absurd hps p14
      · exfalso; omega
    · exact absurd rfl p9

end Go.Proofs.Ytacmbiohjiogiaa.K

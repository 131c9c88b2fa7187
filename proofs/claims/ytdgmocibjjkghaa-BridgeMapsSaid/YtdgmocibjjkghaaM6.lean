/- Walks: kinds that come in; the law of the map of kinds. No condition beyond what each statement names. -/
import Derived.Test.YtdgmocibjjkghaaProg
import Derived.Test.YtdgmocibjjkghaaK11
import Derived.Test.YtdgmocibjjkghaaM1
import Derived.Test.YtdgmocibjjkghaaM2
import Derived.Test.YtdgmocibjjkghaaM3
import Derived.Test.YtdgmocibjjkghaaM4
import Derived.Test.YtdgmocibjjkghaaM5
set_option linter.unusedVariables false
set_option linter.unusedSimpArgs false
set_option maxRecDepth 100000
namespace Go.Proofs.Ytdgmocibjjkghaa.K
open Go.RowKit

theorem opens_fd {H : Type} {enc : TypeId × Value → H} {w : World} {base : Nat} {spare : Nat → Bool} {held : Bool} {Cn : TypeId → DataW H → Prop} {b : Nat} (hC : Cnd Try.prog b Cn) : Opens enc Try.prog w base spare held Cn 172 encF (fun f => inK .i64 f.bits ∧ inK .i64 f.low) := by
  intro n cs x h hcn
  obtain ⟨hl, hf⟩ := trod_struct_at hC Try.underlying172 h hcn
  rw [show Try.prog.cellsOf 172 = 3 from by kernel_rfl] at hl
  match cs, hl with
  | [c0, c1, c2], _ =>
    obtain ⟨n0, y0, t0, k0⟩ := hf 0 _ rfl
    obtain ⟨a0, e0, r0⟩ := opens_field (opens_string Try.underlying9) (sz := 1) (cs' := [c0]) (by kernel_rfl) t0 k0 rfl
    obtain rfl := (List.cons.inj e0).1
    obtain ⟨n1, y1, t1, k1⟩ := hf 1 _ rfl
    obtain ⟨a1, e1, r1⟩ := opens_field (opens_int Try.underlying3) (sz := 1) (cs' := [c1]) (by kernel_rfl) t1 k1 rfl
    obtain rfl := (List.cons.inj e1).1
    obtain ⟨n2, y2, t2, k2⟩ := hf 2 _ rfl
    obtain ⟨a2, e2, r2⟩ := opens_field (opens_int Try.underlying3) (sz := 1) (cs' := [c2]) (by kernel_rfl) t2 k2 rfl
    obtain rfl := (List.cons.inj e2).1
    exact ⟨⟨a0, a1, a2⟩, rfl, r1, r2⟩

/-- A kind that came in. -/
def KIn (w : World) (k : KR) : Prop := KOK (memOf w) k ∧ ∀ f ∈ k.fs, inK .i64 f.bits ∧ inK .i64 f.low

theorem opens_kd {H : Type} {enc : TypeId × Value → H} {w : World} {base : Nat} {spare : Nat → Bool} {held : Bool} {Cn : TypeId → DataW H → Prop} {b : Nat} (hC : Cnd Try.prog b Cn) : Opens enc Try.prog w base spare held Cn 170 encK (KIn w) := by
  intro n cs x h hcn
  obtain ⟨hl, hf⟩ := trod_struct_at hC Try.underlying170 h hcn
  rw [show Try.prog.cellsOf 170 = 2 from by kernel_rfl] at hl
  match cs, hl with
  | [c0, c1], _ =>
    obtain ⟨n0, y0, t0, k0⟩ := hf 0 _ rfl
    obtain ⟨a0, e0, r0⟩ := opens_field (opens_string Try.underlying9) (sz := 1) (cs' := [c0]) (by kernel_rfl) t0 k0 rfl
    obtain rfl := (List.cons.inj e0).1
    obtain ⟨n1, y1, t1, k1⟩ := hf 1 _ rfl
    obtain ⟨q, e1, r1⟩ := opens_field (opens_slice hC encF_len (by decide) Try.underlying168 (by kernel_rfl) (by_ := 32) (by kernel_rfl) (opens_fd hC)) (sz := 1) (cs' := [c1]) (by kernel_rfl) t1 k1 rfl
    obtain rfl := (List.cons.inj e1).1
    exact ⟨⟨a0, q.A, q.n, q.c, q.xs⟩, rfl, ⟨r1.len, r1.cap, by have := r1.reach; dsimp only; omega, r1.cels⟩, r1.all⟩

theorem opens_kds {H : Type} {enc : TypeId × Value → H} {w : World} {base : Nat} {spare : Nat → Bool} {held : Bool} {Cn : TypeId → DataW H → Prop} {b : Nat} (hC : Cnd Try.prog b Cn) : Opens enc Try.prog w base spare held Cn 50 encS (SOK (memOf w) 40 b encK (KIn w)) :=
  opens_slice hC encK_len (by decide) Try.underlying50 (by kernel_rfl) (by kernel_rfl) (opens_kd hC)

def KR.of (s : ByteArray × List FR) : KR := ⟨s.1, none, s.2.length, s.2.length, s.2⟩
theorem shape_getD {ks ks' : List KR} (h : ks.map KR.shape = ks'.map KR.shape) (j : Nat) : (ks.getD j default).name = (ks'.getD j default).name ∧ (ks.getD j default).fs = (ks'.getD j default).fs := by
  have e : ∀ l : List KR, (l.map KR.shape).getD j (KR.shape default) = KR.shape (l.getD j default) := fun l => by
    rw [List.getD_eq_getElem?_getD, List.getD_eq_getElem?_getD, List.getElem?_map]
    cases l[j]? <;> rfl
  have h1 := e ks
  rw [h, e ks'] at h1
  exact ⟨(congrArg Prod.fst h1).symm, (congrArg Prod.snd h1).symm⟩
theorem oneErr_shape {k k' : KR} (h1 : k.name = k'.name) (h2 : k.fs = k'.fs) : oneErr k = oneErr k' := by unfold oneErr; rw [h1, h2]
theorem dupK_shape {ks ks' : List KR} (h : ks.map KR.shape = ks'.map KR.shape) (k : Nat) : dupK ks k ↔ dupK ks' k := by
  unfold dupK
  simp only [(shape_getD h _).1]
theorem chTo_shape {ks ks' : List KR} (h : ks.map KR.shape = ks'.map KR.shape) : ∀ n, chTo ks n = chTo ks' n
  | 0 => rfl
  | n + 1 => by
    simp only [chTo]
    rw [chTo_shape h n, oneErr_shape (shape_getD h n).1 (shape_getD h n).2]
    simp only [dupK_shape h n]
theorem ckErr_shape {ks ks' : List KR} (h : ks.map KR.shape = ks'.map KR.shape) : ckErr ks = ckErr ks' := by
  have hl : ks.length = ks'.length := by have := congrArg List.length h; simpa using this
  unfold ckErr
  rw [hl, chTo_shape h]
theorem locate_shape {ks ks' : List KR} (h : ks.map KR.shape = ks'.map KR.shape) (nm : ByteArray) (nms : List ByteArray) : locate ks nm nms = locate ks' nm nms := by
  have e : ∀ l : List KR, l.findIdx? (fun k => decide (k.name = nm)) = (l.map KR.shape).findIdx? (fun s => decide (s.1 = nm)) := fun l => by
    rw [List.findIdx?_map]; rfl
  unfold locate
  rw [e ks, h, ← e ks']
  cases ks'.findIdx? (fun k => decide (k.name = nm)) with
  | none => rfl
  | some j => simp only [(shape_getD h j).2]
theorem ofR_shape {ks ks' : List KR} (h : ks.map KR.shape = ks'.map KR.shape) : ofR ks = ofR ks' := by
  unfold ofR
  rw [ckErr_shape h]
  simp only [locate_shape h]
theorem of_shape (l : List (ByteArray × List FR)) : (l.map KR.of).map KR.shape = l := by
  rw [List.map_map]
  conv => rhs; rw [← List.map_id l]
  rfl
theorem ofR_kinds {ks : List KR} {n : Int} (h : ks.map KR.shape = kindsOf n) : ofR ks = ofR ((kindsOf n).map KR.of) := ofR_shape (by rw [h, of_shape])
theorem ofR_4 {ks : List KR} (h : ks.map KR.shape = kindsOf 4) : ofR ks = ((1, 2, 3), 0) := by
  rw [ofR_kinds h]
  decide +kernel
theorem len_4 {ks : List KR} (h : ks.map KR.shape = kindsOf 4) : ks.length = 4 := by
  have := congrArg List.length h
  rw [List.length_map] at this
  rw [this]
  decide +kernel

theorem bodies_k0 (v0 : Int) (v1 : Int) (v2 : Int) (w : World) : (Instr.build 52 ([(0, (.int .i64 v0)), (1, (.int .i64 v1)), (2, (.int .i64 v2))] : List (Nat × Value)).toArray).run Try.prog w = .ok (.agg #[.int .i64 v0, .int .i64 v1, .int .i64 v2]) w := by kernel_rfl
theorem bodies_c {V : Mem} : CallS Try.prog 27 [].toArray V [] (fun r L' => r = .bool true ∧ L' = []) := by
  refine callS Try.func27 rfl rfl (fun w0 => ?_)
  refine s_seq ?_
  refine s_region ?_
  refine o_val rfl rfl rfl (y_assign (v := (.bool _)) rfl) ?_
  refine o_nil ?_
  refine s_seq ?_
  refine s_region ?_
  refine o_fn 0 (d := 4) rfl Try.call73 (KindsM_c 4) rfl ?_
  rintro _ _ ⟨kA, km, kc, ks, kG, rfl, hk, hkn, hkc, hkK, hks, rfl⟩
  have h4 := len_4 hks
  refine o_fn 0 (d := 5) rfl Try.call25 (Of_c _ _ _ ks hk.post.down hkn hkc (by omega) (fun k h => (hkK k h).mono ext_post)) rfl ?_
  rintro _ _ ⟨rfl, rfl⟩
  rw [ofR_4 hks]
  refine o_val rfl rfl rfl (y_move (v := (.tuple #[(.agg #[(.int _ _), (.int _ _), (.int _ _)]), (.int _ _)])) rfl) ?_
  refine o_val rfl rfl rfl (y_extract (v := (.agg #[(.int _ _), (.int _ _), (.int _ _)])) rfl rfl) ?_
  refine o_val rfl rfl rfl (y_extract (v := (.int _ _)) rfl rfl) ?_
  refine o_alloc rfl Try.zeroValue52 rfl (fun b1 => ?_)
  refine o_stores (vs := [(.int _ _), (.int _ _), (.int _ _)]) 1 rfl Try.sizeOf52 rfl rfl rfl (by simp [Value.oneCell']) (by simp) ?_
  refine o_val rfl rfl rfl (y_assign (v := (.int _ _)) rfl) ?_
  refine o_nil ?_
  refine s_seq ?_
  refine s_region ?_
  refine o_val rfl rfl rfl (y_move (v := (.int _ _)) rfl) ?_
  refine o_split rfl rfl rfl (y_eql rfl rfl) (fun p2 => ?_) (fun p3 => ?_)
  · refine o_val rfl rfl rfl (y_move (v := (.bool _)) rfl) ?_
    refine o_guard_yes rfl rfl ?_
    refine o_val rfl rfl rfl (y_loads (cs := [_, _, _]) Try.isAgg52 Try.sizeOf52 rfl rfl rfl (cels_own 1 rfl rfl)) ?_
    refine o_guard_yes rfl rfl ?_
    refine o_val rfl rfl rfl (y_build (vs := [(0, .int _ _), (1, .int _ _), (2, .int _ _)]) rfl (bodies_k0 _ _ _)) ?_
    refine o_guard_yes rfl rfl ?_
    refine o_val rfl rfl rfl (y_eql_map rfl rfl) ?_
    refine o_val rfl rfl rfl (y_pick_t (v := (.bool _)) rfl rfl) ?_
    refine o_val rfl rfl rfl (y_assign (v := (.bool _)) rfl) ?_
    refine o_nil ?_
    refine s_forget [(0, (.bool _))] ⟨rfl, trivial⟩ (fun _f => ?_)
    refine s_ret ?_
    exact ⟨_, [], res1 rfl rfl, ⟨rfl, rfl⟩, sub_picks [] rfl⟩
  · exact absurd rfl p3

theorem BridgeMaps_c {V : Mem} (A : Option Addr) (n c : Nat) (ks : List KR) (h : Cels V [] A (ks.flatMap encK)) (hn : ks.length = n) (hc : n ≤ c) (hb : n ≤ 140737488355328) (hK : ∀ k ∈ ks, KOK V k) : CallS Try.prog 5 [.slice A n c].toArray V [] (fun r L' => r = .bool true ∧ L' = []) := by
  refine callS Try.func5 rfl rfl (fun w0 => ?_)
  refine s_seq ?_
  refine s_region ?_
  refine o_val rfl rfl rfl (y_assign (v := (.bool _)) rfl) ?_
  refine o_nil ?_
  refine s_seq ?_
  refine s_region ?_
  refine o_val rfl rfl rfl (y_move (v := (.slice _ _ _)) rfl) ?_
  refine o_fn 0 (d := 9) rfl Try.call25 (Of_c _ _ _ ks h.here.down hn hc hb (fun k hk => (hK k hk).lift)) rfl ?_
  rintro _ _ ⟨rfl, rfl⟩
  refine o_val rfl rfl rfl (y_move (v := (.tuple #[(.agg #[(.int _ _), (.int _ _), (.int _ _)]), (.int _ _)])) rfl) ?_
  refine o_val rfl rfl rfl (y_extract (v := (.agg #[(.int _ _), (.int _ _), (.int _ _)])) rfl rfl) ?_
  refine o_val rfl rfl rfl (y_extract (v := (.int _ _)) rfl rfl) ?_
  refine o_alloc rfl Try.zeroValue52 rfl (fun b1 => ?_)
  refine o_stores (vs := [(.int _ _), (.int _ _), (.int _ _)]) 0 rfl Try.sizeOf52 rfl rfl rfl (by simp [Value.oneCell']) (by simp) ?_
  refine o_val rfl rfl rfl (y_assign (v := (.int _ _)) rfl) ?_
  refine o_nil ?_
  refine s_seq ?_
  refine s_region ?_
  refine o_val rfl rfl rfl (y_move (v := (.slice _ _ _)) rfl) ?_
  refine o_fn 0 (d := 14) rfl Try.call26 (mapFault_c _ _ _ ks h.here.down hn hc hb (fun k hk => (hK k hk).lift)) rfl ?_
  rintro _ _ ⟨rfl, rfl⟩
  refine o_val rfl rfl rfl (y_move (v := (.tuple #[(.agg #[(.int _ _), (.int _ _), (.int _ _)]), (.int _ _)])) rfl) ?_
  refine o_val rfl rfl rfl (y_extract (v := (.agg #[(.int _ _), (.int _ _), (.int _ _)])) rfl rfl) ?_
  refine o_val rfl rfl rfl (y_extract (v := (.int _ _)) rfl rfl) ?_
  refine o_alloc rfl Try.zeroValue52 rfl (fun b2 => ?_)
  refine o_stores (vs := [(.int _ _), (.int _ _), (.int _ _)]) 1 rfl Try.sizeOf52 rfl rfl rfl (by simp [Value.oneCell']) (by simp) ?_
  refine o_val rfl rfl rfl (y_assign (v := (.int _ _)) rfl) ?_
  refine o_nil ?_
  refine s_norm [[(_, .cells [(.int _ _), (.int _ _), (.int _ _)].toArray 52 (0, 0))], [(_, .cells [(.int _ _), (.int _ _), (.int _ _)].toArray 52 (0, 0))]] rfl ?_
  refine s_forget [(2, (.bool _)), (3, (.pointer _)), (4, (.int _ _)), (5, (.pointer _)), (6, (.int _ _))] ⟨rfl, rfl, rfl, rfl, rfl, trivial⟩ (fun _f => ?_)
  refine s_seq ?_
  refine s_region ?_
  refine o_fn 0 (d := 17) rfl Try.call27 (bodies_c) rfl ?_
  rintro _ _ ⟨rfl, rfl⟩
  refine o_val rfl rfl rfl (y_move (v := (.bool _)) rfl) ?_
  refine o_guard_yes rfl rfl ?_
  refine o_val rfl rfl rfl (y_move (v := (.int _ _)) rfl) ?_
  refine o_guard_yes rfl rfl ?_
  refine o_val rfl rfl rfl (y_move (v := (.int _ _)) rfl) ?_
  refine o_guard_yes rfl rfl ?_
  refine o_split rfl rfl rfl (y_eql rfl rfl) (fun p3 => ?_) (fun p4 => ?_)
  · refine o_val rfl rfl rfl (y_pick_t (v := (.bool _)) rfl rfl) ?_
    refine o_val rfl rfl rfl (y_move (v := (.bool _)) rfl) ?_
    refine o_guard_yes rfl rfl ?_
    refine o_val rfl rfl rfl (y_loads (cs := [_, _, _]) Try.isAgg52 Try.sizeOf52 rfl rfl rfl (cels_own 0 rfl rfl)) ?_
    refine o_guard_yes rfl rfl ?_
    refine o_val rfl rfl rfl (y_loads (cs := [_, _, _]) Try.isAgg52 Try.sizeOf52 rfl rfl rfl (cels_own 1 rfl rfl)) ?_
    refine o_guard_yes rfl rfl ?_
    refine o_val rfl rfl rfl (y_eql_map rfl rfl) ?_
    refine o_val rfl rfl rfl (y_pick_t (v := (.bool _)) rfl rfl) ?_
    refine o_val rfl rfl rfl (y_assign (v := (.bool _)) rfl) ?_
    refine o_nil ?_
    refine s_ret ?_
    exact ⟨_, [], res1 rfl rfl, ⟨congrArg Value.bool (decide_eq_true ⟨rfl, rfl, rfl⟩), rfl⟩, sub_picks [] rfl⟩
  · exact absurd rfl p4

end Go.Proofs.Ytdgmocibjjkghaa.K

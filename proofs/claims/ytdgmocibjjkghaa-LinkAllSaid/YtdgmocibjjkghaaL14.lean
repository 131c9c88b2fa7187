/- Walk: the law on links over any network. No condition beyond what each statement names. -/
import Derived.Test.YtdgmocibjjkghaaProg
import Derived.Test.YtdgmocibjjkghaaK13
import Derived.Test.YtdgmocibjjkghaaK14
import Derived.Test.YtdgmocibjjkghaaK15
import Derived.Test.YtdgmocibjjkghaaB9
import Derived.Test.YtdgmocibjjkghaaN1
import Derived.Test.YtdgmocibjjkghaaN2
import Derived.Test.YtdgmocibjjkghaaN3
import Derived.Test.YtdgmocibjjkghaaN4
import Derived.Test.YtdgmocibjjkghaaN5
import Derived.Test.YtdgmocibjjkghaaL1
import Derived.Test.YtdgmocibjjkghaaL2
import Derived.Test.YtdgmocibjjkghaaL3
import Derived.Test.YtdgmocibjjkghaaL4
import Derived.Test.YtdgmocibjjkghaaL5
import Derived.Test.YtdgmocibjjkghaaL6
import Derived.Test.YtdgmocibjjkghaaL8
import Derived.Test.YtdgmocibjjkghaaL9
import Derived.Test.YtdgmocibjjkghaaL11
import Derived.Test.YtdgmocibjjkghaaL13
set_option linter.unusedVariables false
set_option linter.unusedSimpArgs false
set_option maxRecDepth 100000
set_option maxHeartbeats 20000000
namespace Go.Proofs.Ytdgmocibjjkghaa.K
open Go.RowKit

theorem errN_zero {ends : Int} {ds : List DD} (h : errN ends ds = 0) : (1 ≤ ends ∧ ends ≤ 8) ∧ ds.length ≤ 1000 ∧ ∀ d ∈ ds, d.ok := by
  unfold errN at h
  split at h
  · cases h
  · split at h
    · cases h
    · split at h
      · exact ⟨by omega, by omega, by assumption⟩
      · cases h
theorem and31' (x : Int) : 0 ≤ bAnd .i64 x 31 ∧ bAnd .i64 x 31 ≤ 31 := and_low' x 5 31 rfl (by omega)
def lastOK (ds : List DD) (k : Nat) (l : Int) : Prop := 0 ≤ l ∧ l ≤ 399 ∧ ∀ j, j < k → (ds.getD j default).packet < 400 → (ds.getD j default).packet ≤ l
theorem last_yes {ds : List DD} {k : Nat} {l : Int} (h : lastOK ds k l) (hp : (ds.getD ((k : Nat) : Int).toNat default).packet < 400) : lastOK ds (k + 1) (max l (ds.getD ((k : Nat) : Int).toNat default).packet) := by
  rw [show ((k : Nat) : Int).toNat = k from rfl] at hp ⊢
  refine ⟨by have := h.1; omega, by have := h.2.1; omega, fun j hj hh => ?_⟩
  by_cases e : j = k
  · subst e; omega
  · have := h.2.2 j (by omega) hh; omega
theorem last_no {ds : List DD} {k : Nat} {l : Int} (h : lastOK ds k l) (hp : ¬ (ds.getD ((k : Nat) : Int).toNat default).packet < 400) : lastOK ds (k + 1) l := by
  rw [show ((k : Nat) : Int).toNat = k from rfl] at hp
  refine ⟨h.1, h.2.1, fun j hj hh => ?_⟩
  by_cases e : j = k
  · subst e; omega
  · exact h.2.2 j (by omega) hh
theorem last_all {ds : List DD} {k : Nat} {l : Int} (h : lastOK ds k l) (hk : ds.length ≤ k) : ∀ d ∈ ds, d.packet < 400 → d.packet ≤ l := fun d hd hh => by
  obtain ⟨j, hj, rfl⟩ := List.mem_iff_getElem.1 hd
  have := h.2.2 j (by omega)
  rw [List.getD_eq_getElem?_getD, List.getElem?_eq_getElem hj] at this
  exact this hh
structure LLa where
  k : Nat
  l : Int
structure LAs where
  s : Nat
  X0 : EP
  X1 : EP
  Y : NP
structure LAe where
  i : Nat
  X0 : EP
  X1 : EP
  Y : NP
structure LAp where
  j : Nat
  X0 : EP
  X1 : EP
def EP.new : EP := ⟨0, 0, [], none, 0, [], []⟩
def sqL (step : Int) (i : Nat) (c a : Int) (s : Nat) : FL := ⟨step, 0, (i : Int), 1 - (i : Int), none, 0, 0, pkL i c a s⟩
def newL (step : Int) (n : Nat) (X0 X1 : EP) (s : Nat) : List FL := if n = 0 then [] else if n = 1 then [sqL step 0 X0.c X0.a s] else [sqL step 0 X0.c X0.a s, sqL step 1 X1.c X1.a s]
theorem EP.new_ok (i : Nat) : EP.new.ok i 0 := ⟨OS.nil _ _, fun f hf => absurd hf List.not_mem_nil, by simp [EP.new, waitL], Int.le_refl _, Int.le_refl _, Int.le_refl _⟩
theorem out_yes {X : EP} {i s : Nat} (h : X.ok i s) {y : FL} (hy : y.bs = msgL i s) : (X.ws ++ [y]).map (·.bs) = waitL i X.a (s + 1) := by
  rw [List.map_append, h.2.2.1, ← waitL_snoc i h.2.2.2.1 h.2.2.2.2.1]
  simp [hy]
theorem out_len {i : Nat} {c a : Int} {s : Nat} : (pkL i c a s).length ≤ 4000 := by have := (pkL_len i c a s).2; omega
theorem good_new {X0 X1 : EP} {step : Int} {s : Nat} (h0 : X0.ok 0 s) (h1 : X1.ok 1 s) : ∀ x ∈ newL step 2 X0 X1 s, Good X0 X1 s s x.pk := by
  intro x hx
  simp only [newL] at hx
  simp at hx
  rcases hx with rfl | rfl
  · exact .inl ⟨X0.c, X0.a, s, rfl, h0.2.2.2.2.2, by omega, h0.2.2.2.1, by omega, h0.2.2.2.2.1, Nat.le_refl _⟩
  · exact .inr ⟨X1.c, X1.a, s, rfl, h1.2.2.2.2.2, by omega, h1.2.2.2.1, by omega, h1.2.2.2.2.1, Nat.le_refl _⟩
theorem newL_len {step : Int} {n : Nat} {X0 X1 : EP} {s : Nat} (h : n ≤ 2) : (newL step n X0 X1 s).length = n := by
  unfold newL
  split
  · simp; omega
  · split
    · simp; omega
    · simp; omega
theorem dn_snoc {X0 X1 : EP} {l : List FL} {j : Nat} (hj : j < l.length) (h : ∀ f ∈ l.take j, DnE X0 X1 f) (hn : DnE X0 X1 (l.getD ((j : Nat) : Int).toNat default)) : ∀ f ∈ l.take (j + 1), DnE X0 X1 f := fun f hf => by
  rw [take_snoc hj] at hf
  rcases List.mem_append.1 hf with hf | hf
  · exact h f hf
  · rw [List.mem_singleton.1 hf]; exact hn
theorem in_wait {Y : EP} {i s : Nat} (h : Y.ok i s) (k : Int) : (Y.ws.drop (max Y.a k - Y.a).toNat).map (·.bs) = waitL i (max Y.a k) s := by
  rw [List.map_drop, h.2.2.1, waitL_drop i s h.2.2.2.1 (by omega)]
/-- A packet that came in is in order; what it brings. -/
theorem in_pk {X0 X1 : EP} {s : Nat} (hs : s ≤ 31) (hr : Rel X0 X1 s s) (h0 : X0.ok 0 s) (h1 : X1.ok 1 s) {f : FL} {i : Nat} {c a : Int} {t : Nat} (hb : f.bs = pkL i c a t) (hn : f.bs.length = f.n) (hc : 0 ≤ c ∧ c ≤ s) (ha : 0 ≤ a ∧ a ≤ t) (ht : t ≤ s) : parse f.n f.bs = ⟨0, c, a, (waitL i a t).take 8⟩ := by
  rw [← hn, hb, parse_pkL (by omega) (by omega)]
theorem in_err {f : FL} {i : Nat} {c a : Int} {t : Nat} (h : parse f.n f.bs = ⟨0, c, a, (waitL i a t).take 8⟩) {all : Int} (hc : c ≤ all) : inErr f.n f.bs all = 0 := by
  unfold inErr
  rw [h, if_neg (fun hh => hh rfl), if_neg (by dsimp only; omega)]
theorem in_recv {f : FL} {i : Nat} {c a : Int} {t : Nat} (h : parse f.n f.bs = ⟨0, c, a, (waitL i a t).take 8⟩) {n : Int} (h0 : 0 ≤ a) (hn : a ≤ n) :
    recv (parse f.n f.bs).first (parse f.n f.bs).ms n [] (parse f.n f.bs).ms.length = (max n (a + ((min 8 (t - a.toNat) : Nat) : Int)), (List.range' n.toNat (max n (a + ((min 8 (t - a.toNat) : Nat) : Int)) - n).toNat).map (msgL i)) := by
  rw [h]
  have := recv_msgs (i := i) (s := t) h0 hn ((waitL i a t).take 8).length (Nat.le_refl _)
  rw [List.length_take, waitL_len] at this
  dsimp only
  rw [List.length_take, waitL_len]
  exact this

theorem eqIn_came (d : Nat) (a0 a1 b0 b1 : Int) (w : World) : (Op.equalIn (d + 2) 70 (.agg #[.int .i64 a0, .int .i64 a1]) (.agg #[.int .i64 b0, .int .i64 b1])).run Try.prog w = .ok (decide (a0 = b0 ∧ a1 = b1)) w := by
  have h1 : (underlying 70).run Try.prog w = .ok (.array 2 3) w := Try.runUnderlying70 w
  have h3 : (underlying 3).run Try.prog w = .ok (.int .i64) w := Try.runUnderlying3 w
  have h2 : (sizeOf 3).run Try.prog w = .ok 1 w := Try.sizeOf3 w
  unfold Op.equalIn
  simp only [Sem.run_bind, h1, Result.andThen_ok, h2]
  simp [go_sem, Std.Legacy.Range.forIn_eq_forIn_range', List.range', h2, h3, Op.equalIn]
  by_cases e0 : a0 = b0 <;> by_cases e1 : a1 = b1 <;> simp [e0, e1]
theorem run_eql_came (a0 a1 b0 b1 : Int) (w : World) : (binOp .eql 70 (.agg #[.int .i64 a0, .int .i64 a1]) (.agg #[.int .i64 b0, .int .i64 b1])).run Try.prog w = .ok (.bool (decide (a0 = b0 ∧ a1 = b1))) w := by
  have h := eqIn_came 9998 a0 a1 b0 b1 w
  simp [go_sem, h]
theorem y_eql_came {f : Frm} {V : Mem} {L : List Grp} {d : Option Tmp} {ty : TypeId} {ps : String} {af : Array Edge} {g : Option (Nat × Bool)} {x y : Operand} {yt : TypeId} {a0 a1 b0 b1 : Int} (hx : evF f x = .agg #[.int .i64 a0, .int .i64 a1]) (hy : evF f y = .agg #[.int .i64 b0, .int .i64 b1]) :
    Yld Try.prog f V L ⟨d, .binOp .eql 70 x y yt, ty, ps, af, g⟩ (.bool (decide (a0 = b0 ∧ a1 = b1))) := fun _ w _ => by
  simp only [execOp, hx, hy, Sem.run_bind, eqGuard_agg (P := Try.prog) (t := 70) (by kernel_rfl), Result.andThen_ok, run_eql_came]
  rfl

theorem LinkAll_k0 (v0 : Option Addr) (v1 : Option Addr) (w : World) : (Instr.buildSlice 58 2 ([(0, (.pointer v0)), (1, (.pointer v1))] : List (Nat × Value)).toArray).run Try.prog w = .ok (.slice (some ⟨w.heap.size, 0, none⟩) 2 2) { w with heap := w.heap.push (.cells ([.pointer v0, .pointer v1] : List Value).toArray 56 (0, 0)) } := by kernel_rfl
theorem LinkAll_k1 (w : World) : (Instr.build 70 ([] : List (Nat × Value)).toArray).run Try.prog w = .ok (.agg #[.int .i64 0, .int .i64 0]) w := by kernel_rfl
theorem LinkAll_k2 (v0 : Int) (v1 : Int) (w : World) : (Instr.buildSlice 29 2 ([(0, (.int .u8 v0)), (1, (.int .u8 v1))] : List (Nat × Value)).toArray).run Try.prog w = .ok (.slice (some ⟨w.heap.size, 0, none⟩) 2 2) { w with heap := w.heap.push (.cells ([.int .u8 v0, .int .u8 v1] : List Value).toArray 5 (0, 0)) } := by kernel_rfl
theorem LinkAll_k3 (v0 : Int) (v1 : Int) (w : World) : (Instr.build 70 ([(0, (.int .i64 v0)), (1, (.int .i64 v1))] : List (Nat × Value)).toArray).run Try.prog w = .ok (.agg #[.int .i64 v0, .int .i64 v1]) w := by kernel_rfl
theorem LinkAll_c {V : Mem} (N : Option Addr) (n c : Nat) (ds : List DD) (h : Cels V [] N (ds.flatMap encD)) (hn : ds.length = n) (hb : n ≤ 140737488355328) (x : Int) (hx : inK .i64 x) : CallS Try.prog 7 [.slice N n c, .int .i64 x].toArray V [] (fun r L' => r = .bool true ∧ L' = []) := by
  refine callS Try.func7 rfl rfl (fun w0 => ?_)
  refine s_seq ?_
  refine s_region ?_
  refine o_val rfl rfl rfl (y_assign (v := (.bool _)) rfl) ?_
  refine o_nil ?_
  refine s_seq ?_
  refine s_region ?_
  refine o_val rfl rfl rfl (y_move (v := (.slice _ _ _)) rfl) ?_
  refine o_fn 0 (d := 21) rfl Try.call12 (NewN_c 2 N n c ds h.here.down hn hb) rfl ?_
  rintro _ _ (⟨hbad, rfl, rfl⟩ | ⟨hgood, nb, dA, dc, DG, rfl, hod, rfl⟩)
  · refine o_norm _ (by simp only [pull, picks, setG, List.cons_append, List.nil_append, List.append_nil, List.drop_succ_cons, List.drop_zero]; rfl) ?_
    refine o_val rfl rfl rfl (y_move (v := (.tuple #[(.pointer _), (.int _ _)])) rfl) ?_
    refine o_val rfl rfl rfl (y_extract (v := (.pointer _)) rfl rfl) ?_
    refine o_val rfl rfl rfl (y_extract (v := (.int _ _)) rfl rfl) ?_
    refine o_val rfl rfl rfl (y_assign (v := (.pointer _)) rfl) ?_
    refine o_val rfl rfl rfl (y_assign (v := (.int _ _)) rfl) ?_
    refine o_nil ?_
    refine s_seq ?_
    refine s_seq ?_
    refine s_region ?_
    refine o_fn 0 (d := 24) rfl Try.call13 (arrivesK_c) rfl ?_
    rintro _ _ ⟨rfl, rfl⟩
    refine o_val rfl rfl rfl (y_notb rfl) ?_
    refine o_val rfl rfl rfl (y_move (v := (.bool _)) rfl) ?_
    refine o_guard_yes rfl rfl ?_
    refine o_val rfl rfl rfl (y_move (v := (.int _ _)) rfl) ?_
    refine o_guard_yes rfl rfl ?_
    refine o_val rfl rfl rfl (y_neq rfl rfl) ?_
    refine o_val rfl rfl rfl (y_pick_f (v := (.bool _)) rfl rfl) ?_
    refine o_nil ?_
    refine s_forget [(0, (.slice _ _ _)), (1, (.int _ _)), (4, (.bool _)), (5, (.pointer _)), (29, (.bool _))] ⟨rfl, rfl, rfl, rfl, rfl, trivial⟩ (fun _f => ?_)
    refine s_if rfl (fun h1 => ?_) (fun h2 => ?_)
    · refine s_seq ?_
      refine s_region ?_
      refine o_fn 0 (d := 30) rfl Try.call13 (arrivesK_c) rfl ?_
      rintro _ _ ⟨rfl, rfl⟩
      refine o_val rfl rfl rfl (y_assign (v := (.bool _)) rfl) ?_
      refine o_nil ?_
      refine s_ret ?_
      exact ⟨_, [], res1 rfl rfl, ⟨rfl, rfl⟩, sub_picks [] rfl⟩
    · exact absurd (Decidable.not_not.1 h2) hbad
  · refine o_norm _ (by simp only [pull, picks, setG, List.cons_append, List.nil_append, List.append_nil, List.drop_succ_cons, List.drop_zero]; rfl) ?_
    obtain ⟨hends, hdn, hdk⟩ := errN_zero hgood
    have h31 := and31' x
    have hM : (((bAnd .i64 x 31).toNat : Nat) : Int) = (bAnd .i64 x 31) := Int.toNat_of_nonneg h31.1
    have hM31 : (bAnd .i64 x 31).toNat ≤ 31 := by omega
    refine o_val rfl rfl rfl (y_move (v := (.tuple #[(.pointer _), (.int _ _)])) rfl) ?_
    refine o_val rfl rfl rfl (y_extract (v := (.pointer _)) rfl rfl) ?_
    refine o_val rfl rfl rfl (y_extract (v := (.int _ _)) rfl rfl) ?_
    refine o_val rfl rfl rfl (y_assign (v := (.pointer _)) rfl) ?_
    refine o_val rfl rfl rfl (y_assign (v := (.int _ _)) rfl) ?_
    refine o_nil ?_
    refine s_seq ?_
    refine s_seq ?_
    refine s_region ?_
    refine o_fn 0 (d := 24) rfl Try.call13 (arrivesK_c) rfl ?_
    rintro _ _ ⟨rfl, rfl⟩
    refine o_val rfl rfl rfl (y_notb rfl) ?_
    refine o_val rfl rfl rfl (y_move (v := (.bool _)) rfl) ?_
    refine o_guard_yes rfl rfl ?_
    refine o_val rfl rfl rfl (y_move (v := (.int _ _)) rfl) ?_
    refine o_guard_yes rfl rfl ?_
    refine o_val rfl rfl rfl (y_neq rfl rfl) ?_
    refine o_val rfl rfl rfl (y_pick_f (v := (.bool _)) rfl rfl) ?_
    refine o_nil ?_
    refine s_forget [(0, (.slice _ _ _)), (1, (.int _ _)), (4, (.bool _)), (5, (.pointer _)), (29, (.bool _))] ⟨rfl, rfl, rfl, rfl, rfl, trivial⟩ (fun _f => ?_)
    refine s_if rfl (fun h3 => ?_) (fun h4 => ?_)
    · exact absurd rfl h3
    · refine s_skip ?_
      refine s_seq ?_
      refine s_region ?_
      refine o_fn 0 (d := 31) rfl Try.call29 (NewL_c) rfl ?_
      rintro _ _ ⟨e0, rfl, rfl⟩
      refine o_norm _ (by simp only [pull, picks, setG, List.cons_append, List.nil_append, List.append_nil, List.drop_succ_cons, List.drop_zero]; rfl) ?_
      refine o_fn 0 (d := 32) rfl Try.call29 (NewL_c) rfl ?_
      rintro _ _ ⟨e1, rfl, rfl⟩
      refine o_norm _ (by simp only [pull, picks, setG, List.cons_append, List.nil_append, List.append_nil, List.drop_succ_cons, List.drop_zero]; rfl) ?_
      refine o_lit (vs := [(0, .pointer _), (1, .pointer _)]) rfl rfl (LinkAll_k0 _ _) (fun b5 => ?_)
      refine o_val rfl rfl rfl (y_assign (v := (.slice _ _ _)) rfl) ?_
      refine o_nil ?_
      refine s_seq ?_
      refine s_seq ?_
      refine s_region ?_
      refine o_val rfl rfl rfl (y_move (v := (.slice _ _ _)) rfl) ?_
      refine o_val rfl rfl rfl (y_slice_lit (q := 0) Try.runUnderlying58 Try.sizeOf56 rfl rfl rfl rfl) ?_
      refine o_val rfl rfl rfl (y_load Try.isAgg56 rfl (cel_own 4 rfl rfl)) ?_
      refine o_val rfl rfl rfl ((y_eql_ptr_nil (by kernel_rfl) rfl rfl).bf rfl) ?_
      refine o_val rfl rfl rfl (y_move (v := (.bool _)) rfl) ?_
      refine o_guard_yes rfl rfl ?_
      refine o_val rfl rfl rfl (y_move (v := (.slice _ _ _)) rfl) ?_
      refine o_guard_yes rfl rfl ?_
      refine o_val rfl rfl rfl (y_slice_lit (q := 1) Try.runUnderlying58 Try.sizeOf56 rfl rfl rfl rfl) ?_
      refine o_guard_yes rfl rfl ?_
      refine o_val rfl rfl rfl (y_load Try.isAgg56 rfl (cel_own 4 rfl rfl)) ?_
      refine o_guard_yes rfl rfl ?_
      refine o_val rfl rfl rfl ((y_eql_ptr_nil (by kernel_rfl) rfl rfl).bf rfl) ?_
      refine o_val rfl rfl rfl (y_pick_f (v := (.bool _)) rfl rfl) ?_
      refine o_nil ?_
      refine s_forget [(0, (.slice _ _ _)), (1, (.int _ _)), (4, (.bool _)), (5, (.pointer _)), (7, (.slice _ _ _)), (43, (.bool _))] ⟨rfl, rfl, rfl, rfl, rfl, rfl, trivial⟩ (fun _f => ?_)
      refine s_else rfl ?_
      refine s_skip ?_
      refine s_seq ?_
      refine s_region ?_
      refine o_val rfl rfl rfl (y_move (v := (.int _ _)) rfl) ?_
      refine o_val rfl rfl rfl (y_and rfl rfl) ?_
      refine o_val rfl rfl rfl (y_assign (v := (.int _ _)) rfl) ?_
      refine o_nil ?_
      refine s_seq ?_
      refine s_region ?_
      refine o_val rfl rfl rfl (y_build (vs := []) rfl (LinkAll_k1)) ?_
      refine o_alloc rfl Try.zeroValue70 rfl (fun b6 => ?_)
      refine o_stores (vs := [(.int _ _), (.int _ _)]) 5 rfl Try.sizeOf70 rfl rfl rfl (by simp [Value.oneCell']) (by simp) ?_
      refine o_nil ?_
      refine s_seq ?_
      refine s_region ?_
      refine o_val rfl rfl rfl (y_assign (v := (.int _ _)) rfl) ?_
      refine o_nil ?_
      refine s_seq ?_
      refine s_seq ?_
      refine s_region ?_
      refine o_val rfl rfl rfl (y_move (v := (.slice _ _ _)) rfl) ?_
      refine o_val rfl rfl rfl (y_len Try.runUnderlying22 rfl) ?_
      refine o_val rfl rfl rfl (y_move (v := (.int _ _)) rfl) ?_
      refine o_nil ?_
      refine s_block ?_
      refine s_sub_picks (L' := [netg nb 2 dA n dc 0 0 none 0 0, DG, endg e0 0 none 0 0 0 none 0 0, endg e1 0 none 0 0 0 none 0 0, [(b5, .cells [.pointer (some ⟨e0, 0, none⟩), .pointer (some ⟨e1, 0, none⟩)].toArray 56 (0, 0))], [(b6, .cells [.int .i64 0, .int .i64 0].toArray 70 (0, 0))]]) [2, 2, 1, 0, 0, 0] (by rfl) ?_
      refine s_loop (γ := LLa) (fun g => [(0, .slice N n c), (1, .int .i64 (bAnd .i64 x 31)), (5, .pointer (some ⟨nb, 0, none⟩)), (7, .slice (some ⟨b5, 0, none⟩) 2 2), (8, .pointer (some ⟨b6, 0, none⟩)), (9, .int .i64 g.l), (47, .slice N n c), (48, .int .i64 n), (49, .int .i64 g.k)]) (fun g => [netg nb 2 dA n dc 0 0 none 0 0, DG, endg e0 0 none 0 0 0 none 0 0, endg e1 0 none 0 0 0 none 0 0, [(b5, .cells [.pointer (some ⟨e0, 0, none⟩), .pointer (some ⟨e1, 0, none⟩)].toArray 56 (0, 0))], [(b6, .cells [.int .i64 0, .int .i64 0].toArray 70 (0, 0))]]) (fun g => g.k ≤ n ∧ lastOK ds g.k g.l) (fun g => n - g.k) (LLa.mk 0 0) ?_ ⟨rfl, rfl, rfl, rfl, rfl, rfl, rfl, rfl, rfl, trivial⟩ (sub_front ⟨_, rfl⟩) ?_
      · exact ⟨Nat.zero_le _, Int.le_refl _, by decide, fun j hj => absurd hj (Nat.not_lt_zero j)⟩
      · intro g _f hI
        obtain ⟨hgk, hlo⟩ := hI
        have hlo2 := hlo
        refine s_seq ?_
        refine s_region ?_
        refine o_val rfl rfl rfl (y_lss rfl rfl) ?_
        refine o_nil ?_
        refine s_seq ?_
        refine s_if rfl (fun h7 => ?_) (fun h8 => ?_)
        · refine s_skip ?_
          refine s_seq ?_
          refine s_block ?_
          refine s_seq ?_
          refine s_region ?_
          refine o_val rfl rfl rfl (y_indexAddr Try.runUnderlying22 Try.sizeOf36 (some_at (sz := 2) encD_len (i := 0) h (by omega)) rfl rfl (by omega)) ?_
          refine o_val rfl rfl rfl (y_loads (cs := [_, _, _]) Try.isAgg36 Try.sizeOf36 rfl (by unfold idx; rw [Option.isSome_map]; exact some_at (sz := 2) encD_len (i := 0) h (by omega)) rfl (cels_at (sz := 3) encD_len h.here (by omega))) ?_
          refine o_alloc rfl Try.zeroValue36 rfl (fun b9 => ?_)
          refine o_stores (vs := [(.int _ _), (.int _ _), (.int _ _)]) 6 rfl Try.sizeOf36 rfl rfl rfl (by simp [Value.oneCell']) (by simp) ?_
          refine o_nil ?_
          refine s_norm [[(_, .cells [(.int _ _), (.slice _ _ _), (.int _ _), (.int _ _), (.slice _ _ _)].toArray 130 (0, 0))], _, [(_, .cells [(.int _ _), (.slice _ _ _), (.int _ _), (.slice _ _ _)].toArray 143 (0, 0))], [(_, .cells [(.int _ _), (.slice _ _ _), (.int _ _), (.slice _ _ _)].toArray 143 (0, 0))], [(_, .cells [(.pointer _), (.pointer _)].toArray 56 (0, 0))], [(_, .cells [(.int _ _), (.int _ _)].toArray 70 (0, 0))], [(_, .cells [(.int _ _), (.int _ _), (.int _ _)].toArray 36 (0, 0))]] rfl ?_
          refine s_seq ?_
          refine s_region ?_
          refine o_val rfl rfl rfl (y_field0 Try.runUnderlying36 rfl Try.sizeOf3 rfl rfl) ?_
          refine o_val rfl rfl rfl (y_load Try.isAgg3 rfl (cel_own 6 rfl rfl)) ?_
          refine o_val rfl rfl rfl (y_lss rfl rfl) ?_
          refine o_nil ?_
          refine s_if rfl (fun h10 => ?_) (fun h11 => ?_)
          · have hpk := h10
            refine s_region ?_
            refine o_val rfl rfl rfl (y_move (v := (.int _ _)) rfl) ?_
            refine o_val rfl rfl rfl (y_field0 Try.runUnderlying36 rfl Try.sizeOf3 rfl rfl) ?_
            refine o_val rfl rfl rfl (y_load Try.isAgg3 rfl (cel_own 6 rfl rfl)) ?_
            refine o_val rfl rfl rfl (y_max rfl rfl) ?_
            refine o_val rfl rfl rfl (y_assign (v := (.int _ _)) rfl) ?_
            refine o_nil ?_
            refine s_region ?_
            refine o_val rfl rfl rfl (y_add rfl rfl (by simp only [inK]; omega)) ?_
            refine o_val rfl rfl rfl (y_move (v := (.int _ _)) rfl) ?_
            refine o_nil ?_
            exact ⟨LLa.mk (g.k + 1) (max g.l (ds.getD ((g.k : Nat) : Int).toNat default).packet), (by first | omega | (dsimp only; omega)), ⟨by dsimp only; omega, last_yes hlo hpk⟩, ⟨rfl, rfl, rfl, rfl, rfl, rfl, rfl, rfl, (congrArg (Value.int .i64) (by dsimp only; omega)), trivial⟩, (sub_picks [0, 0, 0, 0, 0, 0] (by rfl))⟩
          · have hpk := h11
            refine s_skip ?_
            refine s_region ?_
            refine o_val rfl rfl rfl (y_add rfl rfl (by simp only [inK]; omega)) ?_
            refine o_val rfl rfl rfl (y_move (v := (.int _ _)) rfl) ?_
            refine o_nil ?_
            exact ⟨LLa.mk (g.k + 1) g.l, (by first | omega | (dsimp only; omega)), ⟨by dsimp only; omega, last_no hlo hpk⟩, ⟨rfl, rfl, rfl, rfl, rfl, rfl, rfl, rfl, (congrArg (Value.int .i64) (by dsimp only; omega)), trivial⟩, (sub_picks [0, 0, 0, 0, 0, 0] (by rfl))⟩
        · refine s_exit ?_
          refine s_seq ?_
          refine s_seq ?_
          refine s_region ?_
          have hgn : g.k = n := by omega
          have hlast := last_all hlo2 (by omega)
          have hl0 := hlo2.1
          have hl9 := hlo2.2.1
          refine o_val rfl rfl rfl (y_move (v := (.int _ _)) rfl) ?_
          refine o_val rfl rfl rfl (y_move (v := (.slice _ _ _)) rfl) ?_
          refine o_val rfl rfl rfl (y_len Try.runUnderlying22 rfl) ?_
          refine o_val rfl rfl rfl (y_add rfl rfl (by simp only [inK]; omega)) ?_
          refine o_val rfl rfl rfl (y_mul rfl rfl (by simp only [inK]; omega)) ?_
          refine o_val rfl rfl rfl (y_add rfl rfl (by simp only [inK]; omega)) ?_
          refine o_val rfl rfl rfl (y_add rfl rfl (by simp only [inK]; omega)) ?_
          refine o_val rfl rfl rfl (y_move (v := (.int _ _)) rfl) ?_
          refine o_nil ?_
          refine s_block ?_
          refine s_group ?_
          refine s_group ?_
          refine s_group ?_
          refine s_group ?_
          refine s_group ?_
          refine s_group ?_
          refine s_sub_picks (L' := [endg e0 0 none 0 0 0 none 0 0, [], [], endg e1 0 none 0 0 0 none 0 0, [], [], [(b5, .cells [.pointer (some ⟨e0, 0, none⟩), .pointer (some ⟨e1, 0, none⟩)].toArray 56 (0, 0))], netg nb 2 dA n dc 0 0 none 0 0, DG, [], [], [(b6, .cells [.int .i64 0, .int .i64 0].toArray 70 (0, 0))]]) [2, 5, 5, 2, 4, 4, 2, 0, 0, 1, 1, 0] (by rfl) ?_
          refine s_loop (γ := LAs) (fun u => [(0, .slice N n c), (1, .int .i64 (bAnd .i64 x 31)), (5, .pointer (some ⟨nb, 0, none⟩)), (7, .slice (some ⟨b5, 0, none⟩) 2 2), (8, .pointer (some ⟨b6, 0, none⟩)), (67, .int .i64 (g.l + 60 * (1 + ((n : Nat) : Int)) + 40)), (68, .int .i64 u.s)]) (fun u => [endg e0 u.X0.a u.X0.wA u.X0.ws.length u.X0.wc u.X0.c none 0 0, u.X0.wE, u.X0.P, endg e1 u.X1.a u.X1.wA u.X1.ws.length u.X1.wc u.X1.c none 0 0, u.X1.wE, u.X1.P, [(b5, .cells [.pointer (some ⟨e0, 0, none⟩), .pointer (some ⟨e1, 0, none⟩)].toArray 56 (0, 0))], netg nb 2 dA n dc ((u.s : Nat) : Int) ((u.Y.sl.length : Nat) : Int) u.Y.A u.Y.fs.length u.Y.c, DG, u.Y.E, u.Y.PG, [(b6, .cells [.int .i64 u.X0.c, .int .i64 u.X1.c].toArray 70 (0, 0))]]) (fun u => ((u.s : Nat) : Int) ≤ (g.l + 60 * (1 + ((n : Nat) : Int)) + 40) ∧ u.s ≤ 901 ∧ u.X0.ok 0 (min u.s (bAnd .i64 x 31).toNat) ∧ u.X1.ok 1 (min u.s (bAnd .i64 x 31).toNat) ∧ Rel u.X0 u.X1 (min u.s (bAnd .i64 x 31).toNat) (min u.s (bAnd .i64 x 31).toNat) ∧ (∀ q ∈ u.Y.sl, Good u.X0 u.X1 (min u.s (bAnd .i64 x 31).toNat) (min u.s (bAnd .i64 x 31).toNat) q.pk) ∧ u.Y.ok ds u.s ∧ u.Y.sl.length = 2 * u.s ∧ Lv ds g.l (bAnd .i64 x 31).toNat u.s u.X0 u.X1) (fun u => ((g.l + 60 * (1 + ((n : Nat) : Int)) + 40) - u.s).toNat) (LAs.mk 0 EP.new EP.new ⟨[], none, 0, [], [], []⟩) ?_ ⟨rfl, rfl, rfl, rfl, rfl, rfl, rfl, trivial⟩ (sub_front ⟨_, rfl⟩) ?_
          · refine ⟨by dsimp only; omega, by decide, by dsimp only; rw [Nat.zero_min]; exact EP.new_ok 0, by dsimp only; rw [Nat.zero_min]; exact EP.new_ok 1, ⟨Int.le_refl _, by show (0 : Int) ≤ _; omega, Int.le_refl _, by show (0 : Int) ≤ _; omega⟩, fun q hq => absurd hq List.not_mem_nil, ⟨OS.nil _ _, fun f hf => absurd hf List.not_mem_nil, NJ.zero _ _, Nat.zero_le _⟩, rfl, ?_⟩
            intro _ d hd hsd
            unfold S0L at hsd
            dsimp only at hsd
            exfalso
            omega
          · intro u _f hJ
            obtain ⟨hsT, hs9, hk0, hk1, hrel, hgood, ⟨hof, hfin, hnj, hfl⟩, hsl, hlv⟩ := hJ
            have hrel2 := hrel
            obtain ⟨hr1, hr2, hr3, hr4⟩ := hrel2
            have hX0 := hk0
            have hX1 := hk1
            have hZ0 := hX0
            have hZ1 := hX1
            obtain ⟨hw0, hi0, hm0, ha0, hb0, hc0⟩ := hZ0
            obtain ⟨hw1, hi1, hm1, ha1, hb1, hc1⟩ := hZ1
            have hlen0 := EP.len hX0
            have hlen1 := EP.len hX1
            refine s_seq ?_
            refine s_region ?_
            refine o_val rfl rfl rfl (y_lss rfl rfl) ?_
            refine o_nil ?_
            refine s_seq ?_
            refine s_if rfl (fun h12 => ?_) (fun h13 => ?_)
            · refine s_skip ?_
              refine s_seq ?_
              refine s_block ?_
              refine s_seq ?_
              refine s_region ?_
              refine o_val rfl rfl rfl (y_move (v := (.int _ _)) rfl) ?_
              refine o_val rfl rfl rfl (y_assign (v := (.int _ _)) rfl) ?_
              refine o_nil ?_
              refine s_seq ?_
              refine s_seq ?_
              refine s_region ?_
              refine o_val rfl rfl rfl (y_move (v := (.int _ _)) rfl) ?_
              refine o_val rfl rfl rfl (y_gtr rfl rfl) ?_
              refine o_nil ?_
              refine s_if rfl (fun h14 => ?_) (fun h15 => ?_)
              · refine s_seq ?_
                refine s_region ?_
                refine o_val rfl rfl rfl (y_assign (v := (.bool _)) rfl) ?_
                refine o_nil ?_
                refine s_ret ?_
                exact ⟨_, [], res1 rfl rfl, ⟨rfl, rfl⟩, sub_picks [] rfl⟩
              · refine s_skip ?_
                refine s_seq ?_
                refine s_seq ?_
                refine s_region ?_
                refine o_val rfl rfl rfl (y_move (v := (.slice _ _ _)) rfl) ?_
                refine o_val rfl rfl rfl (y_len Try.runUnderlying58 rfl) ?_
                refine o_val rfl rfl rfl (y_move (v := (.int _ _)) rfl) ?_
                refine o_nil ?_
                refine s_block ?_
                refine s_loop (γ := LAe) (fun v => [(0, .slice N n c), (1, .int .i64 (bAnd .i64 x 31)), (5, .pointer (some ⟨nb, 0, none⟩)), (7, .slice (some ⟨b5, 0, none⟩) 2 2), (8, .pointer (some ⟨b6, 0, none⟩)), (67, .int .i64 (g.l + 60 * (1 + ((n : Nat) : Int)) + 40)), (68, .int .i64 u.s), (12, .int .i64 u.s), (73, .slice (some ⟨b5, 0, none⟩) 2 2), (74, .int .i64 2), (75, .int .i64 v.i)]) (fun v => [endg e0 v.X0.a v.X0.wA v.X0.ws.length v.X0.wc v.X0.c none 0 0, v.X0.wE, v.X0.P, endg e1 v.X1.a v.X1.wA v.X1.ws.length v.X1.wc v.X1.c none 0 0, v.X1.wE, v.X1.P, [(b5, .cells [.pointer (some ⟨e0, 0, none⟩), .pointer (some ⟨e1, 0, none⟩)].toArray 56 (0, 0))], netg nb 2 dA n dc ((u.s : Nat) : Int) ((v.Y.sl.length : Nat) : Int) v.Y.A v.Y.fs.length v.Y.c, DG, v.Y.E, v.Y.PG, [(b6, .cells [.int .i64 u.X0.c, .int .i64 u.X1.c].toArray 70 (0, 0))]]) (fun v => v.i ≤ 2 ∧ v.X0.ok 0 (if 0 < v.i then (min (u.s + 1) (bAnd .i64 x 31).toNat) else (min u.s (bAnd .i64 x 31).toNat)) ∧ v.X1.ok 1 (if 1 < v.i then (min (u.s + 1) (bAnd .i64 x 31).toNat) else (min u.s (bAnd .i64 x 31).toNat)) ∧ (v.X0.a = u.X0.a ∧ v.X0.c = u.X0.c ∧ v.X1.a = u.X1.a ∧ v.X1.c = u.X1.c) ∧ v.Y.ok ds u.s ∧ v.Y.sl = u.Y.sl ++ newL u.s v.i u.X0 u.X1 (min (u.s + 1) (bAnd .i64 x 31).toNat)) (fun v => 2 - v.i) (LAe.mk 0 u.X0 u.X1 u.Y) ?_ ⟨rfl, rfl, rfl, rfl, rfl, rfl, rfl, rfl, rfl, rfl, rfl, trivial⟩ (sub_picks [0, 0, 0, 0, 0, 0, 0, 0, 0, 0, 0, 0] (by rfl)) ?_
                · exact ⟨by show 0 ≤ 2; decide, by dsimp only; rw [if_neg (by omega)]; exact hk0, by dsimp only; rw [if_neg (by omega)]; exact hk1, ⟨rfl, rfl, rfl, rfl⟩, ⟨hof, hfin, hnj, hfl⟩, by dsimp only; simp [newL]⟩
                · intro v _f hE
                  obtain ⟨hvi2, hk2, hk3, ⟨hsa0, hsc0, hsa1, hsc1⟩, ⟨hof2, hfin2, hnj2, hfl2⟩, hsl2⟩ := hE
                  have hsll : v.Y.sl.length = 2 * u.s + v.i := by rw [hsl2, List.length_append, newL_len hvi2, hsl]
                  have hs31a : (if 0 < v.i then (min (u.s + 1) (bAnd .i64 x 31).toNat) else (min u.s (bAnd .i64 x 31).toNat)) ≤ 31 := by split <;> omega
                  have hs31b : (if 1 < v.i then (min (u.s + 1) (bAnd .i64 x 31).toNat) else (min u.s (bAnd .i64 x 31).toNat)) ≤ 31 := by split <;> omega
                  have hX0 := hk2
                  have hX1 := hk3
                  have hZ0 := hX0
                  have hZ1 := hX1
                  obtain ⟨hw0, hi0, hm0, ha0, hb0, hc0⟩ := hZ0
                  obtain ⟨hw1, hi1, hm1, ha1, hb1, hc1⟩ := hZ1
                  have hlen0 := EP.len hX0
                  have hlen1 := EP.len hX1
                  refine s_seq ?_
                  refine s_region ?_
                  refine o_val rfl rfl rfl (y_lss rfl rfl) ?_
                  refine o_nil ?_
                  refine s_seq ?_
                  refine s_if rfl (fun h16 => ?_) (fun h17 => ?_)
                  · refine s_skip ?_
                    refine s_seq ?_
                    refine s_block ?_
                    refine s_seq ?_
                    refine s_region ?_
                    rcases (show v.i = 0 ∨ v.i = 1 by omega) with hvi | hvi
                    · have hvi' := hvi
                      refine o_val rfl rfl rfl (y_move (v := (.int _ _)) rfl) ?_
                      refine o_val rfl rfl rfl (y_slice_lit (q := 0) Try.runUnderlying58 Try.sizeOf56 rfl rfl (by rw [hvi]; rfl) (by rw [hvi]; rfl)) ?_
                      refine o_val rfl rfl rfl (y_load Try.isAgg56 rfl (cel_own 6 rfl rfl)) ?_
                      refine o_val rfl rfl rfl (y_assign (v := (.int _ _)) rfl) ?_
                      refine o_val rfl rfl rfl (y_assign (v := (.pointer _)) rfl) ?_
                      refine o_nil ?_
                      refine s_seq ?_
                      refine s_region ?_
                      refine o_val rfl rfl rfl (y_move (v := (.int _ _)) rfl) ?_
                      refine o_val rfl rfl rfl (y_move (v := (.int _ _)) rfl) ?_
                      refine o_split rfl rfl rfl (y_lss rfl rfl) (fun p18 => ?_) (fun p19 => ?_)
                      · refine o_val rfl rfl rfl (y_move (v := (.bool _)) rfl) ?_
                        refine o_guard_yes rfl rfl ?_
                        refine o_val rfl rfl rfl (y_move (v := (.pointer _)) rfl) ?_
                        refine o_guard_yes rfl rfl ?_
                        refine o_val rfl rfl rfl (y_move (v := (.int _ _)) rfl) ?_
                        refine o_guard_yes rfl rfl ?_
                        refine o_val rfl rfl rfl (y_conv Try.runUnderlying3 Try.runUnderlying5 rfl (by simp only [inK]; omega)) ?_
                        refine o_guard_yes rfl rfl ?_
                        refine o_val rfl rfl rfl (y_move (v := (.int _ _)) rfl) ?_
                        refine o_guard_yes rfl rfl ?_
                        refine o_val rfl rfl rfl (y_conv Try.runUnderlying3 Try.runUnderlying5 rfl (by simp only [inK]; omega)) ?_
                        refine o_guard_yes rfl rfl ?_
                        refine o_lit (vs := [(0, .int _ _), (1, .int _ _)]) rfl rfl (LinkAll_k2 _ _) (fun b20 => ?_)
                        refine o_guard_yes rfl rfl ?_
                        refine o_fn 3 (d := 90) rfl Try.call30 (SendL_c e0 v.X0.a v.X0.wA v.X0.ws.length v.X0.wc v.X0.c none 0 0 v.X0.ws v.X0.wE v.X0.P hw0 v.X0.ws hi0 (by omega) _ 2 _ (msgL 0 u.s) ⟨rfl, by decide, (cels_own (cs := (msgL 0 u.s).map (.int .u8)) 9 rfl (by rw [hvi]; rfl)).down, by simp only [msgL, List.mem_cons, List.not_mem_nil, or_false]; omega⟩) rfl ?_
                        rintro _ _ (⟨hbig, _⟩ | ⟨hsm, rfl, kA, kc, y, kE, kP, hyb, hyo, hyi, rfl⟩)
                        · exact absurd hbig (by decide)
                        · refine o_norm _ (by simp only [pull, picks, setG, List.cons_append, List.nil_append, List.append_nil, List.drop_succ_cons, List.drop_zero]; rfl) ?_
                          refine o_guard_yes rfl rfl ?_
                          refine o_split rfl rfl rfl (y_neq rfl rfl) (fun p21 => ?_) (fun p22 => ?_)
                          · exact absurd rfl p21
                          · refine o_val rfl rfl rfl (y_pick_t (v := (.bool _)) rfl rfl) ?_
                            refine o_val rfl rfl rfl (y_move (v := (.bool _)) rfl) ?_
                            refine o_guard_yes rfl rfl ?_
                            refine o_val rfl rfl rfl (y_move (v := (.pointer _)) rfl) ?_
                            refine o_guard_yes rfl rfl ?_
                            refine o_val rfl rfl rfl (y_move (v := (.int _ _)) rfl) ?_
                            refine o_guard_yes rfl rfl ?_
                            refine o_val rfl rfl rfl (y_move (v := (.int _ _)) rfl) ?_
                            refine o_guard_yes rfl rfl ?_
                            refine o_val rfl rfl rfl (y_sub rfl rfl (by simp only [inK]; omega)) ?_
                            refine o_guard_yes rfl rfl ?_
                            refine o_val rfl rfl rfl (y_move (v := (.pointer _)) rfl) ?_
                            refine o_guard_yes rfl rfl ?_
                            refine o_fn 3 (d := 99) rfl Try.call31 (OutI_c e0 v.X0.a kA (v.X0.ws.length + 1) kc v.X0.c none 0 0 (v.X0.ws ++ [y]) kE kP hyo hyi (by omega)) rfl ?_
                            rintro _ _ ⟨oB, oc, oE, rfl, hoo, rfl⟩
                            refine o_norm _ (by simp only [pull, picks, setG, List.cons_append, List.nil_append, List.append_nil, List.drop_succ_cons, List.drop_zero]; rfl) ?_
                            have hss : (if 0 < v.i then (min (u.s + 1) (bAnd .i64 x 31).toNat) else (min u.s (bAnd .i64 x 31).toNat)) = (u.s : Nat) := by rw [if_neg (by omega)]; omega
                            have hss2 : (min (u.s + 1) (bAnd .i64 x 31).toNat) = (u.s + 1 : Nat) := by omega
                            have hwy : (v.X0.ws ++ [y]).map (·.bs) = waitL 0 v.X0.a (min (u.s + 1) (bAnd .i64 x 31).toNat) := by rw [hss2]; have hh := hX0; rw [hss] at hh; exact out_yes hh hyb
                            have hpe : pktOf v.X0.c.toNat v.X0.a.toNat ((v.X0.ws ++ [y]).map (·.bs)) = (pkL 0 u.X0.c u.X0.a (min (u.s + 1) (bAnd .i64 x 31).toNat)) := by rw [hwy, hsa0, hsc0]; rfl
                            rw [hpe] at hoo ⊢
                            have hpb : ∀ b ∈ (pkL 0 u.X0.c u.X0.a (min (u.s + 1) (bAnd .i64 x 31).toNat)), 0 ≤ b ∧ b ≤ 255 := pkL_byte (by decide) (by omega)
                            have hpl := pkL_len 0 u.X0.c u.X0.a (min (u.s + 1) (bAnd .i64 x 31).toNat)
                            refine o_guard_yes rfl rfl ?_
                            refine o_pull 11 ?_
                            refine o_norm _ (by simp only [pull, picks, setG, List.cons_append, List.nil_append, List.append_nil, List.drop_succ_cons, List.drop_zero]; rfl) ?_
                            refine o_pull 11 ?_
                            refine o_norm _ (by simp only [pull, picks, setG, List.cons_append, List.nil_append, List.append_nil, List.drop_succ_cons, List.drop_zero]; rfl) ?_
                            refine o_pull 11 ?_
                            refine o_norm _ (by simp only [pull, picks, setG, List.cons_append, List.nil_append, List.append_nil, List.drop_succ_cons, List.drop_zero]; rfl) ?_
                            refine o_pull 11 ?_
                            refine o_norm _ (by simp only [pull, picks, setG, List.cons_append, List.nil_append, List.append_nil, List.drop_succ_cons, List.drop_zero]; rfl) ?_
                            refine o_fn 4 (d := 100) rfl Try.call14 (SendN_c nb 2 dA n dc ((u.s : Nat) : Int) ((v.Y.sl.length : Nat) : Int) v.Y.A v.Y.fs.length v.Y.c ds DG hod (by omega) hdk v.Y.fs v.Y.E hof2 (by omega) (by omega) (by omega) v.Y.PG hfin2 ((v.i : Nat) : Int) (1 - ((v.i : Nat) : Int)) oB (pkL 0 u.X0.c u.X0.a (min (u.s + 1) (bAnd .i64 x 31).toNat)).length oc (pkL 0 u.X0.c u.X0.a (min (u.s + 1) (bAnd .i64 x 31).toNat)) (hoo.cels (j := 3) rfl).down rfl (by omega) hpb) rfl ?_
                            rintro _ _ (⟨hbad2, _, _⟩ | ⟨_, rfl, sA, sn, sc, sE, gs, xs, PG', hput, hkey, hos', hin', rfl⟩)
                            · exact absurd (serr2 (by omega) (by omega) (by omega)) hbad2
                            · refine o_norm _ (by simp only [pull, picks, setG, List.cons_append, List.nil_append, List.append_nil, List.drop_succ_cons, List.drop_zero]; rfl) ?_
                              have hsn : sn = gs.length := by have := hos'.len; rw [flat_len encFl_len] at this; omega
                              subst hsn
                              have hnj4 := hnj2.send hdk (sqL u.s 0 u.X0.c u.X0.a (min (u.s + 1) (bAnd .i64 x 31).toNat)) rfl hput (by rw [hkey, hvi]; rfl)
                              have hgl : gs.length = v.Y.fs.length + xs.length := by have := (puts_facts (step := ((u.s : Nat) : Int)) hput (fun x hx => times_late hdk _ (by rw [← key_due hkey]; exact List.mem_map_of_mem hx)) hnj2.sorted hnj2.late).2.2.2.length_eq; simpa using this
                              have hxl : xs.length ≤ 1001 := by have h1 := congrArg List.length (key_due hkey); have h2 := times_len (ds := ds) (num := ((v.Y.sl.length : Nat) : Int)) (step := ((u.s : Nat) : Int)); simp at h1; omega
                              refine o_guard_yes rfl rfl ?_
                              refine o_val rfl rfl rfl (y_neq rfl rfl) ?_
                              refine o_val rfl rfl rfl (y_pick_f (v := (.bool _)) rfl rfl) ?_
                              refine o_nil ?_
                              refine s_if rfl (fun h23 => ?_) (fun h24 => ?_)
                              · exact absurd rfl h23
                              · refine s_skip ?_
                                refine s_region ?_
                                refine o_val rfl rfl rfl (y_add rfl rfl (by simp only [inK]; omega)) ?_
                                refine o_val rfl rfl rfl (y_move (v := (.int _ _)) rfl) ?_
                                refine o_nil ?_
                                exact ⟨LAe.mk (v.i + 1) { v.X0 with ws := v.X0.ws ++ [y], wA := kA, wc := kc, wE := kE, P := kP } v.X1 ⟨gs, sA, sc, sE, PG', v.Y.sl ++ [sqL u.s 0 u.X0.c u.X0.a (min (u.s + 1) (bAnd .i64 x 31).toNat)]⟩, (by first | omega | (dsimp only; omega)), ⟨by dsimp only; omega, by dsimp only; rw [hvi, if_pos (by omega)]; exact ⟨by dsimp only; rw [List.length_append]; exact hyo, hyi, by dsimp only; exact hwy, ha0, by dsimp only; omega, hc0⟩, by dsimp only; rw [hvi, if_neg (by omega)]; have hh := hk3; rw [hvi, if_neg (by omega)] at hh; exact hh, ⟨hsa0, hsc0, hsa1, hsc1⟩, ⟨hos', hin', hnj4, by dsimp only; rw [List.length_append]; simp only [List.length_singleton]; omega⟩, by dsimp only; rw [hsl2, hvi]; simp [newL]⟩, ⟨rfl, rfl, rfl, rfl, rfl, rfl, rfl, rfl, rfl, rfl, (congrArg (Value.int .i64) (by dsimp only; omega)), trivial⟩, (by dsimp only; simp only [List.length_append, List.length_singleton]; exact sub_picks [4, 4, 4, 5, 5, 5, 5, 0, 0, 0, 0, 1] (by rfl))⟩
                      · refine o_val rfl rfl rfl (y_move (v := (.bool _)) rfl) ?_
                        refine o_guard_no rfl rfl rfl rfl rfl ?_
                        refine o_guard_no rfl rfl rfl rfl rfl ?_
                        refine o_guard_no rfl rfl rfl rfl rfl ?_
                        refine o_guard_no rfl rfl rfl rfl rfl ?_
                        refine o_guard_no rfl rfl rfl rfl rfl ?_
                        refine o_guard_no rfl rfl rfl rfl rfl ?_
                        refine o_guard_no rfl rfl rfl rfl rfl ?_
                        refine o_guard_no rfl rfl rfl rfl rfl ?_
                        refine o_val rfl rfl rfl (y_pick_f (v := (.bool _)) rfl rfl) ?_
                        refine o_val rfl rfl rfl (y_move (v := (.bool _)) rfl) ?_
                        refine o_guard_yes rfl rfl ?_
                        refine o_val rfl rfl rfl (y_move (v := (.pointer _)) rfl) ?_
                        refine o_guard_yes rfl rfl ?_
                        refine o_val rfl rfl rfl (y_move (v := (.int _ _)) rfl) ?_
                        refine o_guard_yes rfl rfl ?_
                        refine o_val rfl rfl rfl (y_move (v := (.int _ _)) rfl) ?_
                        refine o_guard_yes rfl rfl ?_
                        refine o_val rfl rfl rfl (y_sub rfl rfl (by simp only [inK]; omega)) ?_
                        refine o_guard_yes rfl rfl ?_
                        refine o_val rfl rfl rfl (y_move (v := (.pointer _)) rfl) ?_
                        refine o_guard_yes rfl rfl ?_
                        refine o_fn 3 (d := 99) rfl Try.call31 (OutI_c e0 v.X0.a v.X0.wA v.X0.ws.length v.X0.wc v.X0.c none 0 0 v.X0.ws v.X0.wE v.X0.P hw0 hi0 (by omega)) rfl ?_
                        rintro _ _ ⟨oB, oc, oE, rfl, hoo, rfl⟩
                        refine o_norm _ (by simp only [pull, picks, setG, List.cons_append, List.nil_append, List.append_nil, List.drop_succ_cons, List.drop_zero]; rfl) ?_
                        have hss : (if 0 < v.i then (min (u.s + 1) (bAnd .i64 x 31).toNat) else (min u.s (bAnd .i64 x 31).toNat)) = ((bAnd .i64 x 31).toNat : Nat) := by rw [if_neg (by omega)]; omega
                        have hss2 : (min (u.s + 1) (bAnd .i64 x 31).toNat) = ((bAnd .i64 x 31).toNat : Nat) := by omega
                        have hwy : v.X0.ws.map (·.bs) = waitL 0 v.X0.a (min (u.s + 1) (bAnd .i64 x 31).toNat) := by rw [hss2, ← hss]; exact hm0
                        have hpe : pktOf v.X0.c.toNat v.X0.a.toNat (v.X0.ws.map (·.bs)) = (pkL 0 u.X0.c u.X0.a (min (u.s + 1) (bAnd .i64 x 31).toNat)) := by rw [hwy, hsa0, hsc0]; rfl
                        rw [hpe] at hoo ⊢
                        have hpb : ∀ b ∈ (pkL 0 u.X0.c u.X0.a (min (u.s + 1) (bAnd .i64 x 31).toNat)), 0 ≤ b ∧ b ≤ 255 := pkL_byte (by decide) (by omega)
                        have hpl := pkL_len 0 u.X0.c u.X0.a (min (u.s + 1) (bAnd .i64 x 31).toNat)
                        refine o_guard_yes rfl rfl ?_
                        refine o_pull 11 ?_
                        refine o_norm _ (by simp only [pull, picks, setG, List.cons_append, List.nil_append, List.append_nil, List.drop_succ_cons, List.drop_zero]; rfl) ?_
                        refine o_pull 11 ?_
                        refine o_norm _ (by simp only [pull, picks, setG, List.cons_append, List.nil_append, List.append_nil, List.drop_succ_cons, List.drop_zero]; rfl) ?_
                        refine o_pull 11 ?_
                        refine o_norm _ (by simp only [pull, picks, setG, List.cons_append, List.nil_append, List.append_nil, List.drop_succ_cons, List.drop_zero]; rfl) ?_
                        refine o_pull 11 ?_
                        refine o_norm _ (by simp only [pull, picks, setG, List.cons_append, List.nil_append, List.append_nil, List.drop_succ_cons, List.drop_zero]; rfl) ?_
                        refine o_fn 4 (d := 100) rfl Try.call14 (SendN_c nb 2 dA n dc ((u.s : Nat) : Int) ((v.Y.sl.length : Nat) : Int) v.Y.A v.Y.fs.length v.Y.c ds DG hod (by omega) hdk v.Y.fs v.Y.E hof2 (by omega) (by omega) (by omega) v.Y.PG hfin2 ((v.i : Nat) : Int) (1 - ((v.i : Nat) : Int)) oB (pkL 0 u.X0.c u.X0.a (min (u.s + 1) (bAnd .i64 x 31).toNat)).length oc (pkL 0 u.X0.c u.X0.a (min (u.s + 1) (bAnd .i64 x 31).toNat)) (hoo.cels (j := 3) rfl).down rfl (by omega) hpb) rfl ?_
                        rintro _ _ (⟨hbad2, _, _⟩ | ⟨_, rfl, sA, sn, sc, sE, gs, xs, PG', hput, hkey, hos', hin', rfl⟩)
                        · exact absurd (serr2 (by omega) (by omega) (by omega)) hbad2
                        · refine o_norm _ (by simp only [pull, picks, setG, List.cons_append, List.nil_append, List.append_nil, List.drop_succ_cons, List.drop_zero]; rfl) ?_
                          have hsn : sn = gs.length := by have := hos'.len; rw [flat_len encFl_len] at this; omega
                          subst hsn
                          have hnj4 := hnj2.send hdk (sqL u.s 0 u.X0.c u.X0.a (min (u.s + 1) (bAnd .i64 x 31).toNat)) rfl hput (by rw [hkey, hvi]; rfl)
                          have hgl : gs.length = v.Y.fs.length + xs.length := by have := (puts_facts (step := ((u.s : Nat) : Int)) hput (fun x hx => times_late hdk _ (by rw [← key_due hkey]; exact List.mem_map_of_mem hx)) hnj2.sorted hnj2.late).2.2.2.length_eq; simpa using this
                          have hxl : xs.length ≤ 1001 := by have h1 := congrArg List.length (key_due hkey); have h2 := times_len (ds := ds) (num := ((v.Y.sl.length : Nat) : Int)) (step := ((u.s : Nat) : Int)); simp at h1; omega
                          refine o_guard_yes rfl rfl ?_
                          refine o_val rfl rfl rfl (y_neq rfl rfl) ?_
                          refine o_val rfl rfl rfl (y_pick_f (v := (.bool _)) rfl rfl) ?_
                          refine o_nil ?_
                          refine s_if rfl (fun h25 => ?_) (fun h26 => ?_)
                          · exact absurd rfl h25
                          · refine s_skip ?_
                            refine s_region ?_
                            refine o_val rfl rfl rfl (y_add rfl rfl (by simp only [inK]; omega)) ?_
                            refine o_val rfl rfl rfl (y_move (v := (.int _ _)) rfl) ?_
                            refine o_nil ?_
                            exact ⟨LAe.mk (v.i + 1) v.X0 v.X1 ⟨gs, sA, sc, sE, PG', v.Y.sl ++ [sqL u.s 0 u.X0.c u.X0.a (min (u.s + 1) (bAnd .i64 x 31).toNat)]⟩, (by first | omega | (dsimp only; omega)), ⟨by dsimp only; omega, by dsimp only; rw [hvi, if_pos (by omega)]; exact ⟨hw0, hi0, hwy, ha0, by omega, hc0⟩, by dsimp only; rw [hvi, if_neg (by omega)]; have hh := hk3; rw [hvi, if_neg (by omega)] at hh; exact hh, ⟨hsa0, hsc0, hsa1, hsc1⟩, ⟨hos', hin', hnj4, by dsimp only; rw [List.length_append]; simp only [List.length_singleton]; omega⟩, by dsimp only; rw [hsl2, hvi]; simp [newL]⟩, ⟨rfl, rfl, rfl, rfl, rfl, rfl, rfl, rfl, rfl, rfl, (congrArg (Value.int .i64) (by dsimp only; omega)), trivial⟩, (by dsimp only; simp only [List.length_append, List.length_singleton]; exact sub_picks [4, 4, 4, 5, 5, 5, 5, 0, 0, 0, 0, 1] (by rfl))⟩
                    · have hvi' := hvi
                      refine o_val rfl rfl rfl (y_move (v := (.int _ _)) rfl) ?_
                      refine o_val rfl rfl rfl (y_slice_lit (q := 1) Try.runUnderlying58 Try.sizeOf56 rfl rfl (by rw [hvi]; rfl) (by rw [hvi]; rfl)) ?_
                      refine o_val rfl rfl rfl (y_load Try.isAgg56 rfl (cel_own 6 rfl rfl)) ?_
                      refine o_val rfl rfl rfl (y_assign (v := (.int _ _)) rfl) ?_
                      refine o_val rfl rfl rfl (y_assign (v := (.pointer _)) rfl) ?_
                      refine o_nil ?_
                      refine s_seq ?_
                      refine s_region ?_
                      refine o_val rfl rfl rfl (y_move (v := (.int _ _)) rfl) ?_
                      refine o_val rfl rfl rfl (y_move (v := (.int _ _)) rfl) ?_
                      refine o_split rfl rfl rfl (y_lss rfl rfl) (fun p27 => ?_) (fun p28 => ?_)
                      · refine o_val rfl rfl rfl (y_move (v := (.bool _)) rfl) ?_
                        refine o_guard_yes rfl rfl ?_
                        refine o_val rfl rfl rfl (y_move (v := (.pointer _)) rfl) ?_
                        refine o_guard_yes rfl rfl ?_
                        refine o_val rfl rfl rfl (y_move (v := (.int _ _)) rfl) ?_
                        refine o_guard_yes rfl rfl ?_
                        refine o_val rfl rfl rfl (y_conv Try.runUnderlying3 Try.runUnderlying5 rfl (by simp only [inK]; omega)) ?_
                        refine o_guard_yes rfl rfl ?_
                        refine o_val rfl rfl rfl (y_move (v := (.int _ _)) rfl) ?_
                        refine o_guard_yes rfl rfl ?_
                        refine o_val rfl rfl rfl (y_conv Try.runUnderlying3 Try.runUnderlying5 rfl (by simp only [inK]; omega)) ?_
                        refine o_guard_yes rfl rfl ?_
                        refine o_lit (vs := [(0, .int _ _), (1, .int _ _)]) rfl rfl (LinkAll_k2 _ _) (fun b29 => ?_)
                        refine o_guard_yes rfl rfl ?_
                        refine o_pull 5 ?_
                        refine o_norm _ (by simp only [pull, picks, setG, List.cons_append, List.nil_append, List.append_nil, List.drop_succ_cons, List.drop_zero]; rfl) ?_
                        refine o_pull 5 ?_
                        refine o_norm _ (by simp only [pull, picks, setG, List.cons_append, List.nil_append, List.append_nil, List.drop_succ_cons, List.drop_zero]; rfl) ?_
                        refine o_pull 5 ?_
                        refine o_norm _ (by simp only [pull, picks, setG, List.cons_append, List.nil_append, List.append_nil, List.drop_succ_cons, List.drop_zero]; rfl) ?_
                        refine o_fn 3 (d := 90) rfl Try.call30 (SendL_c e1 v.X1.a v.X1.wA v.X1.ws.length v.X1.wc v.X1.c none 0 0 v.X1.ws v.X1.wE v.X1.P hw1 v.X1.ws hi1 (by omega) _ 2 _ (msgL 1 u.s) ⟨rfl, by decide, (cels_own (cs := (msgL 1 u.s).map (.int .u8)) 9 rfl (by rw [hvi]; rfl)).down, by simp only [msgL, List.mem_cons, List.not_mem_nil, or_false]; omega⟩) rfl ?_
                        rintro _ _ (⟨hbig, _⟩ | ⟨hsm, rfl, kA, kc, y, kE, kP, hyb, hyo, hyi, rfl⟩)
                        · exact absurd hbig (by decide)
                        · refine o_norm _ (by simp only [pull, picks, setG, List.cons_append, List.nil_append, List.append_nil, List.drop_succ_cons, List.drop_zero]; rfl) ?_
                          refine o_guard_yes rfl rfl ?_
                          refine o_split rfl rfl rfl (y_neq rfl rfl) (fun p30 => ?_) (fun p31 => ?_)
                          · exact absurd rfl p30
                          · refine o_val rfl rfl rfl (y_pick_t (v := (.bool _)) rfl rfl) ?_
                            refine o_val rfl rfl rfl (y_move (v := (.bool _)) rfl) ?_
                            refine o_guard_yes rfl rfl ?_
                            refine o_val rfl rfl rfl (y_move (v := (.pointer _)) rfl) ?_
                            refine o_guard_yes rfl rfl ?_
                            refine o_val rfl rfl rfl (y_move (v := (.int _ _)) rfl) ?_
                            refine o_guard_yes rfl rfl ?_
                            refine o_val rfl rfl rfl (y_move (v := (.int _ _)) rfl) ?_
                            refine o_guard_yes rfl rfl ?_
                            refine o_val rfl rfl rfl (y_sub rfl rfl (by simp only [inK]; omega)) ?_
                            refine o_guard_yes rfl rfl ?_
                            refine o_val rfl rfl rfl (y_move (v := (.pointer _)) rfl) ?_
                            refine o_guard_yes rfl rfl ?_
                            refine o_fn 3 (d := 99) rfl Try.call31 (OutI_c e1 v.X1.a kA (v.X1.ws.length + 1) kc v.X1.c none 0 0 (v.X1.ws ++ [y]) kE kP hyo hyi (by omega)) rfl ?_
                            rintro _ _ ⟨oB, oc, oE, rfl, hoo, rfl⟩
                            refine o_norm _ (by simp only [pull, picks, setG, List.cons_append, List.nil_append, List.append_nil, List.drop_succ_cons, List.drop_zero]; rfl) ?_
                            have hss : (if 1 < v.i then (min (u.s + 1) (bAnd .i64 x 31).toNat) else (min u.s (bAnd .i64 x 31).toNat)) = (u.s : Nat) := by rw [if_neg (by omega)]; omega
                            have hss2 : (min (u.s + 1) (bAnd .i64 x 31).toNat) = (u.s + 1 : Nat) := by omega
                            have hwy : (v.X1.ws ++ [y]).map (·.bs) = waitL 1 v.X1.a (min (u.s + 1) (bAnd .i64 x 31).toNat) := by rw [hss2]; have hh := hX1; rw [hss] at hh; exact out_yes hh hyb
                            have hpe : pktOf v.X1.c.toNat v.X1.a.toNat ((v.X1.ws ++ [y]).map (·.bs)) = (pkL 1 u.X1.c u.X1.a (min (u.s + 1) (bAnd .i64 x 31).toNat)) := by rw [hwy, hsa1, hsc1]; rfl
                            rw [hpe] at hoo ⊢
                            have hpb : ∀ b ∈ (pkL 1 u.X1.c u.X1.a (min (u.s + 1) (bAnd .i64 x 31).toNat)), 0 ≤ b ∧ b ≤ 255 := pkL_byte (by decide) (by omega)
                            have hpl := pkL_len 1 u.X1.c u.X1.a (min (u.s + 1) (bAnd .i64 x 31).toNat)
                            refine o_guard_yes rfl rfl ?_
                            refine o_pull 11 ?_
                            refine o_norm _ (by simp only [pull, picks, setG, List.cons_append, List.nil_append, List.append_nil, List.drop_succ_cons, List.drop_zero]; rfl) ?_
                            refine o_pull 11 ?_
                            refine o_norm _ (by simp only [pull, picks, setG, List.cons_append, List.nil_append, List.append_nil, List.drop_succ_cons, List.drop_zero]; rfl) ?_
                            refine o_pull 11 ?_
                            refine o_norm _ (by simp only [pull, picks, setG, List.cons_append, List.nil_append, List.append_nil, List.drop_succ_cons, List.drop_zero]; rfl) ?_
                            refine o_pull 11 ?_
                            refine o_norm _ (by simp only [pull, picks, setG, List.cons_append, List.nil_append, List.append_nil, List.drop_succ_cons, List.drop_zero]; rfl) ?_
                            refine o_fn 4 (d := 100) rfl Try.call14 (SendN_c nb 2 dA n dc ((u.s : Nat) : Int) ((v.Y.sl.length : Nat) : Int) v.Y.A v.Y.fs.length v.Y.c ds DG hod (by omega) hdk v.Y.fs v.Y.E hof2 (by omega) (by omega) (by omega) v.Y.PG hfin2 ((v.i : Nat) : Int) (1 - ((v.i : Nat) : Int)) oB (pkL 1 u.X1.c u.X1.a (min (u.s + 1) (bAnd .i64 x 31).toNat)).length oc (pkL 1 u.X1.c u.X1.a (min (u.s + 1) (bAnd .i64 x 31).toNat)) (hoo.cels (j := 3) rfl).down rfl (by omega) hpb) rfl ?_
                            rintro _ _ (⟨hbad2, _, _⟩ | ⟨_, rfl, sA, sn, sc, sE, gs, xs, PG', hput, hkey, hos', hin', rfl⟩)
                            · exact absurd (serr2 (by omega) (by omega) (by omega)) hbad2
                            · refine o_norm _ (by simp only [pull, picks, setG, List.cons_append, List.nil_append, List.append_nil, List.drop_succ_cons, List.drop_zero]; rfl) ?_
                              have hsn : sn = gs.length := by have := hos'.len; rw [flat_len encFl_len] at this; omega
                              subst hsn
                              have hnj4 := hnj2.send hdk (sqL u.s 1 u.X1.c u.X1.a (min (u.s + 1) (bAnd .i64 x 31).toNat)) rfl hput (by rw [hkey, hvi]; rfl)
                              have hgl : gs.length = v.Y.fs.length + xs.length := by have := (puts_facts (step := ((u.s : Nat) : Int)) hput (fun x hx => times_late hdk _ (by rw [← key_due hkey]; exact List.mem_map_of_mem hx)) hnj2.sorted hnj2.late).2.2.2.length_eq; simpa using this
                              have hxl : xs.length ≤ 1001 := by have h1 := congrArg List.length (key_due hkey); have h2 := times_len (ds := ds) (num := ((v.Y.sl.length : Nat) : Int)) (step := ((u.s : Nat) : Int)); simp at h1; omega
                              refine o_guard_yes rfl rfl ?_
                              refine o_val rfl rfl rfl (y_neq rfl rfl) ?_
                              refine o_val rfl rfl rfl (y_pick_f (v := (.bool _)) rfl rfl) ?_
                              refine o_nil ?_
                              refine s_if rfl (fun h32 => ?_) (fun h33 => ?_)
                              · exact absurd rfl h32
                              · refine s_skip ?_
                                refine s_region ?_
                                refine o_val rfl rfl rfl (y_add rfl rfl (by simp only [inK]; omega)) ?_
                                refine o_val rfl rfl rfl (y_move (v := (.int _ _)) rfl) ?_
                                refine o_nil ?_
                                exact ⟨LAe.mk (v.i + 1) v.X0 { v.X1 with ws := v.X1.ws ++ [y], wA := kA, wc := kc, wE := kE, P := kP } ⟨gs, sA, sc, sE, PG', v.Y.sl ++ [sqL u.s 1 u.X1.c u.X1.a (min (u.s + 1) (bAnd .i64 x 31).toNat)]⟩, (by first | omega | (dsimp only; omega)), ⟨by dsimp only; omega, by dsimp only; rw [hvi, if_pos (by omega)]; have hh := hk2; rw [hvi, if_pos (by omega)] at hh; exact hh, by dsimp only; rw [hvi, if_pos (by omega)]; exact ⟨by dsimp only; rw [List.length_append]; exact hyo, hyi, by dsimp only; exact hwy, ha1, by dsimp only; omega, hc1⟩, ⟨hsa0, hsc0, hsa1, hsc1⟩, ⟨hos', hin', hnj4, by dsimp only; rw [List.length_append]; simp only [List.length_singleton]; omega⟩, by dsimp only; rw [hsl2, hvi]; simp [newL]⟩, ⟨rfl, rfl, rfl, rfl, rfl, rfl, rfl, rfl, rfl, rfl, (congrArg (Value.int .i64) (by dsimp only; omega)), trivial⟩, (by dsimp only; simp only [List.length_append, List.length_singleton]; exact sub_picks [8, 8, 8, 4, 4, 4, 5, 0, 0, 0, 0, 1] (by rfl))⟩
                      · refine o_val rfl rfl rfl (y_move (v := (.bool _)) rfl) ?_
                        refine o_guard_no rfl rfl rfl rfl rfl ?_
                        refine o_guard_no rfl rfl rfl rfl rfl ?_
                        refine o_guard_no rfl rfl rfl rfl rfl ?_
                        refine o_guard_no rfl rfl rfl rfl rfl ?_
                        refine o_guard_no rfl rfl rfl rfl rfl ?_
                        refine o_guard_no rfl rfl rfl rfl rfl ?_
                        refine o_guard_no rfl rfl rfl rfl rfl ?_
                        refine o_guard_no rfl rfl rfl rfl rfl ?_
                        refine o_val rfl rfl rfl (y_pick_f (v := (.bool _)) rfl rfl) ?_
                        refine o_val rfl rfl rfl (y_move (v := (.bool _)) rfl) ?_
                        refine o_guard_yes rfl rfl ?_
                        refine o_val rfl rfl rfl (y_move (v := (.pointer _)) rfl) ?_
                        refine o_guard_yes rfl rfl ?_
                        refine o_val rfl rfl rfl (y_move (v := (.int _ _)) rfl) ?_
                        refine o_guard_yes rfl rfl ?_
                        refine o_val rfl rfl rfl (y_move (v := (.int _ _)) rfl) ?_
                        refine o_guard_yes rfl rfl ?_
                        refine o_val rfl rfl rfl (y_sub rfl rfl (by simp only [inK]; omega)) ?_
                        refine o_guard_yes rfl rfl ?_
                        refine o_val rfl rfl rfl (y_move (v := (.pointer _)) rfl) ?_
                        refine o_guard_yes rfl rfl ?_
                        refine o_pull 5 ?_
                        refine o_norm _ (by simp only [pull, picks, setG, List.cons_append, List.nil_append, List.append_nil, List.drop_succ_cons, List.drop_zero]; rfl) ?_
                        refine o_pull 5 ?_
                        refine o_norm _ (by simp only [pull, picks, setG, List.cons_append, List.nil_append, List.append_nil, List.drop_succ_cons, List.drop_zero]; rfl) ?_
                        refine o_pull 5 ?_
                        refine o_norm _ (by simp only [pull, picks, setG, List.cons_append, List.nil_append, List.append_nil, List.drop_succ_cons, List.drop_zero]; rfl) ?_
                        refine o_fn 3 (d := 99) rfl Try.call31 (OutI_c e1 v.X1.a v.X1.wA v.X1.ws.length v.X1.wc v.X1.c none 0 0 v.X1.ws v.X1.wE v.X1.P hw1 hi1 (by omega)) rfl ?_
                        rintro _ _ ⟨oB, oc, oE, rfl, hoo, rfl⟩
                        refine o_norm _ (by simp only [pull, picks, setG, List.cons_append, List.nil_append, List.append_nil, List.drop_succ_cons, List.drop_zero]; rfl) ?_
                        have hss : (if 1 < v.i then (min (u.s + 1) (bAnd .i64 x 31).toNat) else (min u.s (bAnd .i64 x 31).toNat)) = ((bAnd .i64 x 31).toNat : Nat) := by rw [if_neg (by omega)]; omega
                        have hss2 : (min (u.s + 1) (bAnd .i64 x 31).toNat) = ((bAnd .i64 x 31).toNat : Nat) := by omega
                        have hwy : v.X1.ws.map (·.bs) = waitL 1 v.X1.a (min (u.s + 1) (bAnd .i64 x 31).toNat) := by rw [hss2, ← hss]; exact hm1
                        have hpe : pktOf v.X1.c.toNat v.X1.a.toNat (v.X1.ws.map (·.bs)) = (pkL 1 u.X1.c u.X1.a (min (u.s + 1) (bAnd .i64 x 31).toNat)) := by rw [hwy, hsa1, hsc1]; rfl
                        rw [hpe] at hoo ⊢
                        have hpb : ∀ b ∈ (pkL 1 u.X1.c u.X1.a (min (u.s + 1) (bAnd .i64 x 31).toNat)), 0 ≤ b ∧ b ≤ 255 := pkL_byte (by decide) (by omega)
                        have hpl := pkL_len 1 u.X1.c u.X1.a (min (u.s + 1) (bAnd .i64 x 31).toNat)
                        refine o_guard_yes rfl rfl ?_
                        refine o_pull 11 ?_
                        refine o_norm _ (by simp only [pull, picks, setG, List.cons_append, List.nil_append, List.append_nil, List.drop_succ_cons, List.drop_zero]; rfl) ?_
                        refine o_pull 11 ?_
                        refine o_norm _ (by simp only [pull, picks, setG, List.cons_append, List.nil_append, List.append_nil, List.drop_succ_cons, List.drop_zero]; rfl) ?_
                        refine o_pull 11 ?_
                        refine o_norm _ (by simp only [pull, picks, setG, List.cons_append, List.nil_append, List.append_nil, List.drop_succ_cons, List.drop_zero]; rfl) ?_
                        refine o_pull 11 ?_
                        refine o_norm _ (by simp only [pull, picks, setG, List.cons_append, List.nil_append, List.append_nil, List.drop_succ_cons, List.drop_zero]; rfl) ?_
                        refine o_fn 4 (d := 100) rfl Try.call14 (SendN_c nb 2 dA n dc ((u.s : Nat) : Int) ((v.Y.sl.length : Nat) : Int) v.Y.A v.Y.fs.length v.Y.c ds DG hod (by omega) hdk v.Y.fs v.Y.E hof2 (by omega) (by omega) (by omega) v.Y.PG hfin2 ((v.i : Nat) : Int) (1 - ((v.i : Nat) : Int)) oB (pkL 1 u.X1.c u.X1.a (min (u.s + 1) (bAnd .i64 x 31).toNat)).length oc (pkL 1 u.X1.c u.X1.a (min (u.s + 1) (bAnd .i64 x 31).toNat)) (hoo.cels (j := 3) rfl).down rfl (by omega) hpb) rfl ?_
                        rintro _ _ (⟨hbad2, _, _⟩ | ⟨_, rfl, sA, sn, sc, sE, gs, xs, PG', hput, hkey, hos', hin', rfl⟩)
                        · exact absurd (serr2 (by omega) (by omega) (by omega)) hbad2
                        · refine o_norm _ (by simp only [pull, picks, setG, List.cons_append, List.nil_append, List.append_nil, List.drop_succ_cons, List.drop_zero]; rfl) ?_
                          have hsn : sn = gs.length := by have := hos'.len; rw [flat_len encFl_len] at this; omega
                          subst hsn
                          have hnj4 := hnj2.send hdk (sqL u.s 1 u.X1.c u.X1.a (min (u.s + 1) (bAnd .i64 x 31).toNat)) rfl hput (by rw [hkey, hvi]; rfl)
                          have hgl : gs.length = v.Y.fs.length + xs.length := by have := (puts_facts (step := ((u.s : Nat) : Int)) hput (fun x hx => times_late hdk _ (by rw [← key_due hkey]; exact List.mem_map_of_mem hx)) hnj2.sorted hnj2.late).2.2.2.length_eq; simpa using this
                          have hxl : xs.length ≤ 1001 := by have h1 := congrArg List.length (key_due hkey); have h2 := times_len (ds := ds) (num := ((v.Y.sl.length : Nat) : Int)) (step := ((u.s : Nat) : Int)); simp at h1; omega
                          refine o_guard_yes rfl rfl ?_
                          refine o_val rfl rfl rfl (y_neq rfl rfl) ?_
                          refine o_val rfl rfl rfl (y_pick_f (v := (.bool _)) rfl rfl) ?_
                          refine o_nil ?_
                          refine s_if rfl (fun h34 => ?_) (fun h35 => ?_)
                          · exact absurd rfl h34
                          · refine s_skip ?_
                            refine s_region ?_
                            refine o_val rfl rfl rfl (y_add rfl rfl (by simp only [inK]; omega)) ?_
                            refine o_val rfl rfl rfl (y_move (v := (.int _ _)) rfl) ?_
                            refine o_nil ?_
                            exact ⟨LAe.mk (v.i + 1) v.X0 v.X1 ⟨gs, sA, sc, sE, PG', v.Y.sl ++ [sqL u.s 1 u.X1.c u.X1.a (min (u.s + 1) (bAnd .i64 x 31).toNat)]⟩, (by first | omega | (dsimp only; omega)), ⟨by dsimp only; omega, by dsimp only; rw [hvi, if_pos (by omega)]; have hh := hk2; rw [hvi, if_pos (by omega)] at hh; exact hh, by dsimp only; rw [hvi, if_pos (by omega)]; exact ⟨hw1, hi1, hwy, ha1, by omega, hc1⟩, ⟨hsa0, hsc0, hsa1, hsc1⟩, ⟨hos', hin', hnj4, by dsimp only; rw [List.length_append]; simp only [List.length_singleton]; omega⟩, by dsimp only; rw [hsl2, hvi]; simp [newL]⟩, ⟨rfl, rfl, rfl, rfl, rfl, rfl, rfl, rfl, rfl, rfl, (congrArg (Value.int .i64) (by dsimp only; omega)), trivial⟩, (by dsimp only; simp only [List.length_append, List.length_singleton]; exact sub_picks [8, 8, 8, 4, 4, 4, 5, 0, 0, 0, 0, 1] (by rfl))⟩
                  · refine s_exit ?_
                    refine s_seq ?_
                    refine s_region ?_
                    refine o_val rfl rfl rfl (y_move (v := (.pointer _)) rfl) ?_
                    refine o_pull 9 ?_
                    refine o_norm _ (by simp only [pull, picks, setG, List.cons_append, List.nil_append, List.append_nil, List.drop_succ_cons, List.drop_zero]; rfl) ?_
                    refine o_pull 8 ?_
                    refine o_norm _ (by simp only [pull, picks, setG, List.cons_append, List.nil_append, List.append_nil, List.drop_succ_cons, List.drop_zero]; rfl) ?_
                    refine o_fn 2 (d := 105) rfl Try.call15 (StepN_c nb 2 dA n dc ((u.s : Nat) : Int) ((v.Y.sl.length : Nat) : Int) v.Y.A v.Y.fs.length v.Y.c v.Y.fs v.Y.E hof2 (by omega) (by omega)) rfl ?_
                    rintro _ _ ⟨k, kA, kc, kE, kB, ke, kG, rfl, hk10, hk11, hk12, hko, hka, rfl⟩
                    refine o_norm _ (by simp only [pull, picks, setG, List.cons_append, List.nil_append, List.append_nil, List.drop_succ_cons, List.drop_zero]; rfl) ?_
                    have hvi3 : v.i = 2 := by omega
                    rw [hvi3, if_pos (by omega)] at hk2 hk3
                    rw [hvi3] at hsl2
                    have hnj3 := hnj2.step hk11 hk12
                    have hgood3 : ∀ q ∈ v.Y.sl, Good v.X0 v.X1 (min (u.s + 1) (bAnd .i64 x 31).toNat) (min (u.s + 1) (bAnd .i64 x 31).toNat) q.pk := by
                      intro q hq
                      rw [hsl2] at hq
                      rcases List.mem_append.1 hq with hq | hq
                      · exact (hgood q hq).mono (by omega) (by omega) (by omega) (by omega) (by omega) (by omega)
                      · refine good_new (step := u.s) hk2 hk3 q ?_
                        simp only [newL] at hq ⊢
                        rw [hsa0, hsc0, hsa1, hsc1]; exact hq
                    have hag := arr_good hnj3.2 hgood3
                    have hrel3 : Rel v.X0 v.X1 (min (u.s + 1) (bAnd .i64 x 31).toNat) (min (u.s + 1) (bAnd .i64 x 31).toNat) := ⟨by omega, by omega, by omega, by omega⟩
                    have hsq0 : (v.Y.sl.getD (2 * u.s) default).due = u.s ∧ (v.Y.sl.getD (2 * u.s) default).pk = (0, 1, pkL 0 u.X0.c u.X0.a (min (u.s + 1) (bAnd .i64 x 31).toNat)) := by rw [hsl2, ← hsl]; simp [newL, List.getD_eq_getElem?_getD]; exact ⟨rfl, rfl⟩
                    have hsq1 : (v.Y.sl.getD (2 * u.s + 1) default).due = u.s ∧ (v.Y.sl.getD (2 * u.s + 1) default).pk = (1, 0, pkL 1 u.X1.c u.X1.a (min (u.s + 1) (bAnd .i64 x 31).toNat)) := by rw [hsl2, ← hsl]; simp [newL, List.getD_eq_getElem?_getD]; exact ⟨rfl, rfl⟩
                    refine o_val rfl rfl rfl (y_len Try.runUnderlying31 rfl) ?_
                    refine o_val rfl rfl rfl (y_move (v := (.int _ _)) rfl) ?_
                    refine o_nil ?_
                    refine s_block ?_
                    refine s_group ?_
                    refine s_group ?_
                    refine s_loop (γ := LAp) (fun w => [(0, .slice N n c), (1, .int .i64 (bAnd .i64 x 31)), (5, .pointer (some ⟨nb, 0, none⟩)), (7, .slice (some ⟨b5, 0, none⟩) 2 2), (8, .pointer (some ⟨b6, 0, none⟩)), (67, .int .i64 (g.l + 60 * (1 + ((n : Nat) : Int)) + 40)), (68, .int .i64 u.s), (12, .int .i64 u.s), (105, .slice kB k ke), (106, .int .i64 k), (107, .int .i64 w.j)]) (fun w => [endg e0 w.X0.a w.X0.wA w.X0.ws.length w.X0.wc w.X0.c none 0 0, w.X0.wE, [], w.X0.P, endg e1 w.X1.a w.X1.wA w.X1.ws.length w.X1.wc w.X1.c none 0 0, w.X1.wE, [], w.X1.P, [(b5, .cells [.pointer (some ⟨e0, 0, none⟩), .pointer (some ⟨e1, 0, none⟩)].toArray 56 (0, 0))], netg nb 2 dA n dc (((u.s : Nat) : Int) + 1) ((v.Y.sl.length : Nat) : Int) kA (v.Y.fs.length - k) kc, DG, kE, v.Y.PG, [(b6, .cells [.int .i64 w.X0.c, .int .i64 w.X1.c].toArray 70 (0, 0))], kG]) (fun w => w.j ≤ k ∧ w.X0.ok 0 (min (u.s + 1) (bAnd .i64 x 31).toNat) ∧ w.X1.ok 1 (min (u.s + 1) (bAnd .i64 x 31).toNat) ∧ Rel w.X0 w.X1 (min (u.s + 1) (bAnd .i64 x 31).toNat) (min (u.s + 1) (bAnd .i64 x 31).toNat) ∧ (v.X0.c ≤ w.X0.c ∧ v.X0.a ≤ w.X0.a ∧ v.X1.c ≤ w.X1.c ∧ v.X1.a ≤ w.X1.a) ∧ ∀ f ∈ (v.Y.fs.take k).take w.j, DnE w.X0 w.X1 f) (fun w => k - w.j) (LAp.mk 0 v.X0 v.X1) ?_ ⟨rfl, rfl, rfl, rfl, rfl, rfl, rfl, rfl, rfl, rfl, rfl, trivial⟩ (by dsimp only; rw [hsc0, hsc1]; exact sub_picks [3, 3, 11, 3, 3, 3, 8, 3, 3, 0, 2, 0, 1, 1, 0] (by rfl)) ?_
                    · exact ⟨Nat.zero_le _, hk2, hk3, hrel3, ⟨Int.le_refl _, Int.le_refl _, Int.le_refl _, Int.le_refl _⟩, fun f hf => by simp at hf⟩
                    · intro w _f hW
                      obtain ⟨hwj, hk4, hk5, hrel4, ⟨hq1, hq2, hq3, hq4⟩, hdn⟩ := hW
                      have hkl : (v.Y.fs.take k).length = k := by rw [List.length_take]; omega
                      have hrel5 := hrel4
                      obtain ⟨hr1, hr2, hr3, hr4⟩ := hrel5
                      have hX0 := hk4
                      have hX1 := hk5
                      have hZ0 := hX0
                      have hZ1 := hX1
                      obtain ⟨hw0, hi0, hm0, ha0, hb0, hc0⟩ := hZ0
                      obtain ⟨hw1, hi1, hm1, ha1, hb1, hc1⟩ := hZ1
                      have hlen0 := EP.len hX0
                      have hlen1 := EP.len hX1
                      refine s_seq ?_
                      refine s_region ?_
                      refine o_val rfl rfl rfl (y_lss rfl rfl) ?_
                      refine o_nil ?_
                      refine s_seq ?_
                      refine s_if rfl (fun h36 => ?_) (fun h37 => ?_)
                      · refine s_skip ?_
                        refine s_seq ?_
                        refine s_block ?_
                        refine s_seq ?_
                        refine s_region ?_
                        have hfm : ((v.Y.fs.take k).getD ((w.j : Nat) : Int).toNat default) ∈ v.Y.fs.take k := getD_memF (by omega)
                        have hff := hfin2 _ (List.mem_of_mem_take hfm)
                        rcases hag _ hfm with ⟨pc, pa, ps, hpk, hp1, hp2, hp3, hp4, hp5, hp6⟩ | ⟨pc, pa, ps, hpk, hp1, hp2, hp3, hp4, hp5, hp6⟩
                        · have hwi : ((v.Y.fs.take k).getD ((w.j : Nat) : Int).toNat default).dst = 1 := congrArg (fun q => q.2.1) hpk
                          have hwf : ((v.Y.fs.take k).getD ((w.j : Nat) : Int).toNat default).src = 0 := congrArg (fun q => q.1) hpk
                          have hbs : ((v.Y.fs.take k).getD ((w.j : Nat) : Int).toNat default).bs = pkL 0 pc pa ps := congrArg (fun q => q.2.2) hpk
                          have hpp := in_pk (by omega) hrel4 hX0 hX1 hbs hff.1 (by omega) (by omega) (by omega)
                          have hrc := in_recv hpp hp3 (n := w.X1.c) (by omega)
                          have herr := in_err hpp (all := w.X1.a + (w.X1.ws.length : Int)) (by omega)
                          refine o_val rfl rfl rfl (y_indexAddr Try.runUnderlying31 Try.sizeOf34 (hko.some_of (by omega)) rfl rfl (by omega)) ?_
                          refine o_val rfl rfl rfl (y_loads (cs := [_, _, _]) Try.isAgg34 Try.sizeOf34 rfl (by unfold idx; rw [Option.isSome_map]; exact hko.some_of (by omega)) rfl (cels_at (sz := 3) encPk_len (hko.cels (j := 14) rfl) (by omega))) ?_
                          refine o_alloc rfl Try.zeroValue34 rfl (fun b38 => ?_)
                          refine o_stores (vs := [(.int _ _), (.int _ _), (.slice _ _ _)]) 15 rfl Try.sizeOf34 rfl rfl rfl (by simp [Value.oneCell']) (by simp) ?_
                          refine o_nil ?_
                          refine s_norm [[(_, .cells [(.int _ _), (.slice _ _ _), (.int _ _), (.slice _ _ _)].toArray 143 (0, 0))], _, _, _, [(_, .cells [(.int _ _), (.slice _ _ _), (.int _ _), (.slice _ _ _)].toArray 143 (0, 0))], _, _, _, [(_, .cells [(.pointer _), (.pointer _)].toArray 56 (0, 0))], [(_, .cells [(.int _ _), (.slice _ _ _), (.int _ _), (.int _ _), (.slice _ _ _)].toArray 130 (0, 0))], _, _, _, [(_, .cells [(.int _ _), (.int _ _)].toArray 70 (0, 0))], _, [(_, .cells [(.int _ _), (.int _ _), (.slice _ _ _)].toArray 34 (0, 0))]] rfl ?_
                          refine s_seq ?_
                          refine s_seq ?_
                          refine s_pull 7 ?_
                          refine s_norm _ (by simp only [pull, picks, setG, List.cons_append, List.nil_append, List.append_nil, List.drop_succ_cons, List.drop_zero]; rfl) ?_
                          refine s_pull 7 ?_
                          refine s_norm _ (by simp only [pull, picks, setG, List.cons_append, List.nil_append, List.append_nil, List.drop_succ_cons, List.drop_zero]; rfl) ?_
                          refine s_pull 7 ?_
                          refine s_norm _ (by simp only [pull, picks, setG, List.cons_append, List.nil_append, List.append_nil, List.drop_succ_cons, List.drop_zero]; rfl) ?_
                          refine s_pull 7 ?_
                          refine s_norm _ (by simp only [pull, picks, setG, List.cons_append, List.nil_append, List.append_nil, List.drop_succ_cons, List.drop_zero]; rfl) ?_
                          refine s_drawn 4 (by kernel_rfl) ?_
                          refine d_val (i := 0) rfl (by kernel_rfl) (by kernel_rfl) (by kernel_rfl) rfl rfl rfl (y_move (v := (.slice _ _ _)) rfl) ?_
                          refine d_val (i := 1) rfl (by kernel_rfl) (by kernel_rfl) (by kernel_rfl) rfl rfl rfl (y_field0 Try.runUnderlying34 rfl Try.sizeOf3 rfl rfl) ?_
                          refine d_val (i := 2) rfl (by kernel_rfl) (by kernel_rfl) (by kernel_rfl) rfl rfl rfl (y_load Try.isAgg3 rfl (cel_own 11 rfl rfl)) ?_
                          refine d_val (i := 3) rfl (by kernel_rfl) (by kernel_rfl) (by kernel_rfl) rfl rfl rfl (y_slice_lit (q := 1) Try.runUnderlying58 Try.sizeOf56 rfl rfl (by rw [hwi]; rfl) (by rw [hwi]; rfl)) ?_
                          refine d_val (i := 4) rfl (by kernel_rfl) (by kernel_rfl) (by kernel_rfl) rfl rfl rfl (y_load Try.isAgg56 rfl (cel_own 4 rfl rfl)) ?_
                          refine d_val (i := 5) rfl (by kernel_rfl) (by kernel_rfl) (by kernel_rfl) rfl rfl rfl (y_field0 Try.runUnderlying34 rfl Try.sizeOf29 rfl rfl) ?_
                          refine d_val (i := 6) rfl (by kernel_rfl) (by kernel_rfl) (by kernel_rfl) rfl rfl rfl (y_load Try.isAgg29 rfl (cel_own 11 rfl rfl)) ?_
                          refine d_eff (k := 7) (n := 4) (m := 12) rfl (by kernel_rfl) rfl ?_
                          refine o_fn 4 (d := 118) rfl Try.call33 (InL_c e1 w.X1.a w.X1.wA w.X1.ws.length w.X1.wc w.X1.c none 0 0 w.X1.ws w.X1.wE [] [] w.X1.P hw1 (OS.nil _ _) (fun f hf => hi1 f (by simpa using hf)) (by omega) ((v.Y.fs.take k).getD ((w.j : Nat) : Int).toNat default).A ((v.Y.fs.take k).getD ((w.j : Nat) : Int).toNat default).n ((v.Y.fs.take k).getD ((w.j : Nat) : Int).toNat default).c ((v.Y.fs.take k).getD ((w.j : Nat) : Int).toNat default).bs (hff.bb (j := 8) rfl) (by have := hff.2.2.1; omega)) rfl ?_
                          rintro _ _ (⟨he1, _⟩ | ⟨he1, rfl, yA, yc, zA, zc, zs, zE, yP, hzm, hyo, hzo, hyi, rfl⟩)
                          · exact absurd herr he1
                          · refine o_norm _ (by simp only [pull, picks, setG, List.cons_append, List.nil_append, List.append_nil, List.drop_succ_cons, List.drop_zero]; rfl) ?_
                            refine o_nil ?_
                            refine d_val (i := 8) rfl (by kernel_rfl) (by kernel_rfl) (by kernel_rfl) rfl rfl rfl (y_neq rfl rfl) ?_
                            refine d_nil (n := 4) (m := 12) (by kernel_rfl) rfl ?_
                            refine s_if rfl (fun h39 => ?_) (fun h40 => ?_)
                            · exact absurd rfl h39
                            · refine s_skip ?_
                              refine s_seq ?_
                              refine s_region ?_
                              refine o_val rfl rfl rfl (y_move (v := (.slice _ _ _)) rfl) ?_
                              refine o_val rfl rfl rfl (y_field0 Try.runUnderlying34 rfl Try.sizeOf3 rfl rfl) ?_
                              refine o_val rfl rfl rfl (y_load Try.isAgg3 rfl (cel_own 15 rfl rfl)) ?_
                              refine o_val rfl rfl rfl (y_slice_lit (q := 1) Try.runUnderlying58 Try.sizeOf56 rfl rfl (by rw [hwi]; rfl) (by rw [hwi]; rfl)) ?_
                              refine o_val rfl rfl rfl (y_load Try.isAgg56 rfl (cel_own 8 rfl rfl)) ?_
                              refine o_fn 1 (d := 125) rfl Try.call38 (GotL_c _ _ _ _ _ _ _ _ _) rfl ?_
                              rintro _ _ ⟨rfl, rfl⟩
                              refine o_norm _ (by simp only [pull, picks, setG, List.cons_append, List.nil_append, List.append_nil, List.drop_succ_cons, List.drop_zero]; rfl) ?_
                              refine o_newgroup ?_
                              have hzm2 : zs.map (·.bs) = (List.range' w.X1.c.toNat (max w.X1.c (pa + ((min 8 (ps - pa.toNat) : Nat) : Int)) - w.X1.c).toNat).map (msgL 0) := by rw [hzm, List.map_nil, hrc]
                              have hzl : zs.length = (max w.X1.c (pa + ((min 8 (ps - pa.toNat) : Nat) : Int)) - w.X1.c).toNat := by have := congrArg List.length hzm2; simpa using this
                              refine o_val rfl rfl rfl (y_len Try.runUnderlying60 rfl) ?_
                              refine o_val rfl rfl rfl (y_move (v := (.int _ _)) rfl) ?_
                              refine o_nil ?_
                              refine s_block ?_
                              refine s_loop (γ := Nat) (fun z => [(0, .slice N n c), (1, .int .i64 (bAnd .i64 x 31)), (5, .pointer (some ⟨nb, 0, none⟩)), (7, .slice (some ⟨b5, 0, none⟩) 2 2), (8, .pointer (some ⟨b6, 0, none⟩)), (67, .int .i64 (g.l + 60 * (1 + ((n : Nat) : Int)) + 40)), (68, .int .i64 u.s), (12, .int .i64 u.s), (105, .slice kB k ke), (106, .int .i64 k), (107, .int .i64 w.j), (16, .pointer (some ⟨b38, 0, none⟩)), (125, .slice zA zs.length zc), (126, .int .i64 zs.length), (127, .int .i64 z)]) (fun z => [endg e0 w.X0.a w.X0.wA w.X0.ws.length w.X0.wc w.X0.c none 0 0, w.X0.wE, [], w.X0.P, endg e1 (max w.X1.a (parse ((v.Y.fs.take k).getD ((w.j : Nat) : Int).toNat default).n ((v.Y.fs.take k).getD ((w.j : Nat) : Int).toNat default).bs).ack) yA (w.X1.ws.length - (max w.X1.a (parse ((v.Y.fs.take k).getD ((w.j : Nat) : Int).toNat default).n ((v.Y.fs.take k).getD ((w.j : Nat) : Int).toNat default).bs).ack - w.X1.a).toNat) yc (recv (parse ((v.Y.fs.take k).getD ((w.j : Nat) : Int).toNat default).n ((v.Y.fs.take k).getD ((w.j : Nat) : Int).toNat default).bs).first (parse ((v.Y.fs.take k).getD ((w.j : Nat) : Int).toNat default).n ((v.Y.fs.take k).getD ((w.j : Nat) : Int).toNat default).bs).ms w.X1.c [] (parse ((v.Y.fs.take k).getD ((w.j : Nat) : Int).toNat default).n ((v.Y.fs.take k).getD ((w.j : Nat) : Int).toNat default).bs).ms.length).1 none 0 0, w.X1.wE, [], yP, [(b5, .cells [.pointer (some ⟨e0, 0, none⟩), .pointer (some ⟨e1, 0, none⟩)].toArray 56 (0, 0))], netg nb 2 dA n dc (((u.s : Nat) : Int) + 1) ((v.Y.sl.length : Nat) : Int) kA (v.Y.fs.length - k) kc, DG, kE, v.Y.PG, [(b6, .cells [.int .i64 w.X0.c, .int .i64 (w.X1.c + ((z : Nat) : Int))].toArray 70 (0, 0))], kG, zE, [(b38, .cells [.int .i64 ((v.Y.fs.take k).getD ((w.j : Nat) : Int).toNat default).src, .int .i64 ((v.Y.fs.take k).getD ((w.j : Nat) : Int).toNat default).dst, .slice ((v.Y.fs.take k).getD ((w.j : Nat) : Int).toNat default).A ((v.Y.fs.take k).getD ((w.j : Nat) : Int).toNat default).n ((v.Y.fs.take k).getD ((w.j : Nat) : Int).toNat default).c].toArray 34 (0, 0))]]) (fun z => z ≤ zs.length) (fun z => zs.length - z) (0) ?_ ⟨rfl, rfl, rfl, rfl, rfl, rfl, rfl, rfl, rfl, rfl, rfl, rfl, rfl, rfl, rfl, trivial⟩ (by first | exact sub_picks [4, 4, 4, 4, 0, 0, 10, 1, 1, 1, 1, 1, 1, 1, 1, 0, 0] (by rfl) | (rw [show w.X1.c + ((0 : Nat) : Int) = w.X1.c by omega]; exact sub_picks [4, 4, 4, 4, 0, 0, 10, 1, 1, 1, 1, 1, 1, 1, 1, 0, 0] (by rfl))) ?_
                              · exact Nat.zero_le _
                              · intro z _f hZ
                                have hzn := hZ
                                refine s_seq ?_
                                refine s_region ?_
                                refine o_val rfl rfl rfl (y_lss rfl rfl) ?_
                                refine o_nil ?_
                                refine s_seq ?_
                                refine s_if rfl (fun h41 => ?_) (fun h42 => ?_)
                                · refine s_skip ?_
                                  refine s_seq ?_
                                  refine s_block ?_
                                  refine s_seq ?_
                                  refine s_region ?_
                                  refine o_val rfl rfl rfl (y_index1 Try.runUnderlying60 Try.sizeOf29 (hzo.some_of (by omega)) rfl rfl (by omega)) ?_
                                  have hzb : BlIn yP (zs.getD ((z : Nat) : Int).toNat default) := hyi _ (List.mem_append_right _ (getD_memF (by omega)))
                                  have hzg : (zs.getD ((z : Nat) : Int).toNat default).bs = _ := (map_getD (by omega)).symm
                                  refine o_val rfl rfl rfl (y_load Try.isAgg29 rfl (cel_B (hzo.cels (j := 15) rfl) (by omega))) ?_
                                  refine o_val rfl rfl rfl (y_assign (v := (.slice _ _ _)) rfl) ?_
                                  refine o_nil ?_
                                  refine s_seq ?_
                                  refine s_seq ?_
                                  refine s_drawn 0 (by kernel_rfl) ?_
                                  refine d_val (i := 0) rfl (by kernel_rfl) (by kernel_rfl) (by kernel_rfl) rfl rfl rfl (y_move (v := (.slice _ _ _)) rfl) ?_
                                  refine d_val (i := 1) rfl (by kernel_rfl) (by kernel_rfl) (by kernel_rfl) rfl rfl rfl (y_field0 Try.runUnderlying34 rfl Try.sizeOf3 rfl rfl) ?_
                                  refine d_val (i := 2) rfl (by kernel_rfl) (by kernel_rfl) (by kernel_rfl) rfl rfl rfl (y_load Try.isAgg3 rfl (cel_own 16 rfl rfl)) ?_
                                  refine d_val (i := 3) rfl (by kernel_rfl) (by kernel_rfl) (by kernel_rfl) rfl rfl rfl (y_index_lit (q := 1) Try.runUnderlying70 Try.sizeOf3 rfl rfl (by rw [hwi]; rfl) (by rw [hwi]; rfl)) ?_
                                  refine d_val (i := 4) rfl (by kernel_rfl) (by kernel_rfl) (by kernel_rfl) rfl rfl rfl (y_load Try.isAgg3 rfl (cel_own 13 rfl rfl)) ?_
                                  refine d_val (i := 5) rfl (by kernel_rfl) (by kernel_rfl) (by kernel_rfl) rfl rfl rfl (y_conv Try.runUnderlying3 Try.runUnderlying5 rfl (by simp only [inK]; omega)) ?_
                                  refine d_val (i := 6) rfl (by kernel_rfl) (by kernel_rfl) (by kernel_rfl) rfl rfl rfl (y_field0 Try.runUnderlying34 rfl Try.sizeOf3 rfl rfl) ?_
                                  refine d_val (i := 7) rfl (by kernel_rfl) (by kernel_rfl) (by kernel_rfl) rfl rfl rfl (y_load Try.isAgg3 rfl (cel_own 16 rfl rfl)) ?_
                                  refine d_val (i := 8) rfl (by kernel_rfl) (by kernel_rfl) (by kernel_rfl) rfl rfl rfl (y_conv Try.runUnderlying3 Try.runUnderlying5 rfl (by simp only [inK]; omega)) ?_
                                  refine d_eff (k := 9) (n := 0) (m := 17) rfl (by kernel_rfl) rfl ?_
                                  refine o_lit (vs := [(0, .int _ _), (1, .int _ _)]) rfl rfl (LinkAll_k2 _ _) (fun b43 => ?_)
                                  refine o_nil ?_
                                  refine d_eff (k := 10) (n := 0) (m := 17) rfl (by kernel_rfl) rfl ?_
                                  refine o_fn 0 (d := 141) rfl Try.call23 (BEqualL_c _ _ _ (zs.getD ((z : Nat) : Int).toNat default).bs (hzb.at (j := 7) rfl).2.2.1 hzb.1 hzb.2.2.2.2 _ 2 _ (msgL 0 (w.X1.c.toNat + z)) (cels_own (cs := (msgL 0 (w.X1.c.toNat + z)).map (.int .u8)) 17 rfl (by unfold msgL; rw [show (((w.X1.c.toNat + z : Nat)) : Int) = w.X1.c + ((z : Nat) : Int) by omega, hwf]; rfl)).down rfl (by unfold msgL; simp only [List.mem_cons, List.not_mem_nil, or_false]; omega)) rfl ?_
                                  rintro _ _ ⟨rfl, rfl⟩
                                  refine o_nil ?_
                                  refine d_val (i := 11) rfl (by kernel_rfl) (by kernel_rfl) (by kernel_rfl) rfl rfl rfl (y_not rfl) ?_
                                  refine d_nil (n := 0) (m := 17) (by kernel_rfl) rfl ?_
                                  refine s_if rfl (fun h44 => ?_) (fun h45 => ?_)
                                  · exact absurd (by rw [hzg, hzm2, recvs_get (by omega)]) h44
                                  · refine s_skip ?_
                                    refine s_region ?_
                                    refine o_val rfl rfl rfl (y_field0 Try.runUnderlying34 rfl Try.sizeOf3 rfl rfl) ?_
                                    refine o_val rfl rfl rfl (y_load Try.isAgg3 rfl (cel_own 16 rfl rfl)) ?_
                                    refine o_val rfl rfl rfl (y_index_lit (q := 1) Try.runUnderlying70 Try.sizeOf3 rfl rfl (by rw [hwi]; rfl) (by rw [hwi]; rfl)) ?_
                                    refine o_val rfl rfl rfl (y_load Try.isAgg3 rfl (cel_own 13 rfl rfl)) ?_
                                    refine o_val rfl rfl rfl (y_add rfl rfl (by simp only [inK]; omega)) ?_
                                    refine o_val rfl rfl rfl (y_index_lit (q := 1) Try.runUnderlying70 Try.sizeOf3 rfl rfl (by rw [hwi]; rfl) (by rw [hwi]; rfl)) ?_
                                    refine o_store (v := (.int _ _)) 13 rfl Try.sizeOf3 rfl rfl rfl rfl ?_
                                    refine o_nil ?_
                                    refine s_region ?_
                                    refine o_val rfl rfl rfl (y_add rfl rfl (by simp only [inK]; omega)) ?_
                                    refine o_val rfl rfl rfl (y_move (v := (.int _ _)) rfl) ?_
                                    refine o_nil ?_
                                    exact ⟨z + 1, (by first | omega | (dsimp only; omega)), (by omega), ⟨rfl, rfl, rfl, rfl, rfl, rfl, rfl, rfl, rfl, rfl, rfl, rfl, rfl, rfl, (congrArg (Value.int .i64) (by omega)), trivial⟩, (by first | exact sub_picks [0, 0, 0, 0, 0, 0, 0, 0, 0, 0, 0, 0, 0, 0, 0, 0, 0] (by rfl) | (rw [show w.X1.c + ((z + 1 : Nat) : Int) = w.X1.c + ((z : Nat) : Int) + 1 by omega]; exact sub_picks [0, 0, 0, 0, 0, 0, 0, 0, 0, 0, 0, 0, 0, 0, 0, 0, 0] (by rfl)))⟩
                                · refine s_exit ?_
                                  refine s_region ?_
                                  refine o_val rfl rfl rfl (y_add rfl rfl (by simp only [inK]; omega)) ?_
                                  refine o_val rfl rfl rfl (y_move (v := (.int _ _)) rfl) ?_
                                  refine o_nil ?_
                                  have hz2 : w.X1.c + ((z : Nat) : Int) = (recv (parse ((v.Y.fs.take k).getD ((w.j : Nat) : Int).toNat default).n ((v.Y.fs.take k).getD ((w.j : Nat) : Int).toNat default).bs).first (parse ((v.Y.fs.take k).getD ((w.j : Nat) : Int).toNat default).n ((v.Y.fs.take k).getD ((w.j : Nat) : Int).toNat default).bs).ms w.X1.c [] (parse ((v.Y.fs.take k).getD ((w.j : Nat) : Int).toNat default).n ((v.Y.fs.take k).getD ((w.j : Nat) : Int).toNat default).bs).ms.length).1 := by rw [hrc]; dsimp only; omega
                                  rw [hz2]
                                  exact ⟨LAp.mk (w.j + 1) w.X0 { w.X1 with a := max w.X1.a (parse ((v.Y.fs.take k).getD ((w.j : Nat) : Int).toNat default).n ((v.Y.fs.take k).getD ((w.j : Nat) : Int).toNat default).bs).ack, c := (recv (parse ((v.Y.fs.take k).getD ((w.j : Nat) : Int).toNat default).n ((v.Y.fs.take k).getD ((w.j : Nat) : Int).toNat default).bs).first (parse ((v.Y.fs.take k).getD ((w.j : Nat) : Int).toNat default).n ((v.Y.fs.take k).getD ((w.j : Nat) : Int).toNat default).bs).ms w.X1.c [] (parse ((v.Y.fs.take k).getD ((w.j : Nat) : Int).toNat default).n ((v.Y.fs.take k).getD ((w.j : Nat) : Int).toNat default).bs).ms.length).1, ws := w.X1.ws.drop (max w.X1.a (parse ((v.Y.fs.take k).getD ((w.j : Nat) : Int).toNat default).n ((v.Y.fs.take k).getD ((w.j : Nat) : Int).toNat default).bs).ack - w.X1.a).toNat, wA := yA, wc := yc, P := yP }, (by first | omega | (dsimp only; omega)), ⟨by dsimp only; omega, hX0, ⟨by dsimp only; rw [List.length_drop]; exact hyo, fun f hf => hyi f (List.mem_append_left _ hf), by dsimp only; exact in_wait hX1 _, by (try dsimp only); (try rw [hrc]); (try rw [hpp]); (try dsimp only); omega, by (try dsimp only); (try rw [hrc]); (try rw [hpp]); (try dsimp only); omega, by (try dsimp only); (try rw [hrc]); (try rw [hpp]); (try dsimp only); omega⟩, ⟨by (try dsimp only); (try rw [hrc]); (try rw [hpp]); (try dsimp only); omega, by (try dsimp only); (try rw [hrc]); (try rw [hpp]); (try dsimp only); omega, by (try dsimp only); (try rw [hrc]); (try rw [hpp]); (try dsimp only); omega, by (try dsimp only); (try rw [hrc]); (try rw [hpp]); (try dsimp only); omega⟩, ⟨by (try dsimp only); (try rw [hrc]); (try rw [hpp]); (try dsimp only); omega, by (try dsimp only); (try rw [hrc]); (try rw [hpp]); (try dsimp only); omega, by (try dsimp only); (try rw [hrc]); (try rw [hpp]); (try dsimp only); omega, by (try dsimp only); (try rw [hrc]); (try rw [hpp]); (try dsimp only); omega⟩, dn_snoc (by omega) (fun f hf => (hdn f hf).mono (by (try dsimp only); (try rw [hrc]); (try rw [hpp]); (try dsimp only); omega) (by (try dsimp only); (try rw [hrc]); (try rw [hpp]); (try dsimp only); omega) (by (try dsimp only); (try rw [hrc]); (try rw [hpp]); (try dsimp only); omega) (by (try dsimp only); (try rw [hrc]); (try rw [hpp]); (try dsimp only); omega)) (by unfold DnE; rw [if_neg (by rw [hwi]; decide)]; unfold Dn; rw [hff.1, hrc, hpp]; dsimp only; rw [List.length_take, waitL_len]; omega)⟩, ⟨rfl, rfl, rfl, rfl, rfl, rfl, rfl, rfl, rfl, rfl, (congrArg (Value.int .i64) (by dsimp only; omega)), trivial⟩, (by dsimp only; simp only [List.length_drop]; exact sub_picks [0, 0, 0, 0, 0, 0, 0, 0, 0, 0, 0, 0, 0, 0, 0] (by rfl))⟩
                        · have hwi : ((v.Y.fs.take k).getD ((w.j : Nat) : Int).toNat default).dst = 0 := congrArg (fun q => q.2.1) hpk
                          have hwf : ((v.Y.fs.take k).getD ((w.j : Nat) : Int).toNat default).src = 1 := congrArg (fun q => q.1) hpk
                          have hbs : ((v.Y.fs.take k).getD ((w.j : Nat) : Int).toNat default).bs = pkL 1 pc pa ps := congrArg (fun q => q.2.2) hpk
                          have hpp := in_pk (by omega) hrel4 hX0 hX1 hbs hff.1 (by omega) (by omega) (by omega)
                          have hrc := in_recv hpp hp3 (n := w.X0.c) (by omega)
                          have herr := in_err hpp (all := w.X0.a + (w.X0.ws.length : Int)) (by omega)
                          refine o_val rfl rfl rfl (y_indexAddr Try.runUnderlying31 Try.sizeOf34 (hko.some_of (by omega)) rfl rfl (by omega)) ?_
                          refine o_val rfl rfl rfl (y_loads (cs := [_, _, _]) Try.isAgg34 Try.sizeOf34 rfl (by unfold idx; rw [Option.isSome_map]; exact hko.some_of (by omega)) rfl (cels_at (sz := 3) encPk_len (hko.cels (j := 14) rfl) (by omega))) ?_
                          refine o_alloc rfl Try.zeroValue34 rfl (fun b46 => ?_)
                          refine o_stores (vs := [(.int _ _), (.int _ _), (.slice _ _ _)]) 15 rfl Try.sizeOf34 rfl rfl rfl (by simp [Value.oneCell']) (by simp) ?_
                          refine o_nil ?_
                          refine s_norm [[(_, .cells [(.int _ _), (.slice _ _ _), (.int _ _), (.slice _ _ _)].toArray 143 (0, 0))], _, _, _, [(_, .cells [(.int _ _), (.slice _ _ _), (.int _ _), (.slice _ _ _)].toArray 143 (0, 0))], _, _, _, [(_, .cells [(.pointer _), (.pointer _)].toArray 56 (0, 0))], [(_, .cells [(.int _ _), (.slice _ _ _), (.int _ _), (.int _ _), (.slice _ _ _)].toArray 130 (0, 0))], _, _, _, [(_, .cells [(.int _ _), (.int _ _)].toArray 70 (0, 0))], _, [(_, .cells [(.int _ _), (.int _ _), (.slice _ _ _)].toArray 34 (0, 0))]] rfl ?_
                          refine s_seq ?_
                          refine s_seq ?_
                          refine s_pull 3 ?_
                          refine s_norm _ (by simp only [pull, picks, setG, List.cons_append, List.nil_append, List.append_nil, List.drop_succ_cons, List.drop_zero]; rfl) ?_
                          refine s_pull 3 ?_
                          refine s_norm _ (by simp only [pull, picks, setG, List.cons_append, List.nil_append, List.append_nil, List.drop_succ_cons, List.drop_zero]; rfl) ?_
                          refine s_pull 3 ?_
                          refine s_norm _ (by simp only [pull, picks, setG, List.cons_append, List.nil_append, List.append_nil, List.drop_succ_cons, List.drop_zero]; rfl) ?_
                          refine s_pull 3 ?_
                          refine s_norm _ (by simp only [pull, picks, setG, List.cons_append, List.nil_append, List.append_nil, List.drop_succ_cons, List.drop_zero]; rfl) ?_
                          refine s_drawn 4 (by kernel_rfl) ?_
                          refine d_val (i := 0) rfl (by kernel_rfl) (by kernel_rfl) (by kernel_rfl) rfl rfl rfl (y_move (v := (.slice _ _ _)) rfl) ?_
                          refine d_val (i := 1) rfl (by kernel_rfl) (by kernel_rfl) (by kernel_rfl) rfl rfl rfl (y_field0 Try.runUnderlying34 rfl Try.sizeOf3 rfl rfl) ?_
                          refine d_val (i := 2) rfl (by kernel_rfl) (by kernel_rfl) (by kernel_rfl) rfl rfl rfl (y_load Try.isAgg3 rfl (cel_own 11 rfl rfl)) ?_
                          refine d_val (i := 3) rfl (by kernel_rfl) (by kernel_rfl) (by kernel_rfl) rfl rfl rfl (y_slice_lit (q := 0) Try.runUnderlying58 Try.sizeOf56 rfl rfl (by rw [hwi]; rfl) (by rw [hwi]; rfl)) ?_
                          refine d_val (i := 4) rfl (by kernel_rfl) (by kernel_rfl) (by kernel_rfl) rfl rfl rfl (y_load Try.isAgg56 rfl (cel_own 4 rfl rfl)) ?_
                          refine d_val (i := 5) rfl (by kernel_rfl) (by kernel_rfl) (by kernel_rfl) rfl rfl rfl (y_field0 Try.runUnderlying34 rfl Try.sizeOf29 rfl rfl) ?_
                          refine d_val (i := 6) rfl (by kernel_rfl) (by kernel_rfl) (by kernel_rfl) rfl rfl rfl (y_load Try.isAgg29 rfl (cel_own 11 rfl rfl)) ?_
                          refine d_eff (k := 7) (n := 4) (m := 12) rfl (by kernel_rfl) rfl ?_
                          refine o_fn 4 (d := 118) rfl Try.call33 (InL_c e0 w.X0.a w.X0.wA w.X0.ws.length w.X0.wc w.X0.c none 0 0 w.X0.ws w.X0.wE [] [] w.X0.P hw0 (OS.nil _ _) (fun f hf => hi0 f (by simpa using hf)) (by omega) ((v.Y.fs.take k).getD ((w.j : Nat) : Int).toNat default).A ((v.Y.fs.take k).getD ((w.j : Nat) : Int).toNat default).n ((v.Y.fs.take k).getD ((w.j : Nat) : Int).toNat default).c ((v.Y.fs.take k).getD ((w.j : Nat) : Int).toNat default).bs (hff.bb (j := 8) rfl) (by have := hff.2.2.1; omega)) rfl ?_
                          rintro _ _ (⟨he1, _⟩ | ⟨he1, rfl, yA, yc, zA, zc, zs, zE, yP, hzm, hyo, hzo, hyi, rfl⟩)
                          · exact absurd herr he1
                          · refine o_norm _ (by simp only [pull, picks, setG, List.cons_append, List.nil_append, List.append_nil, List.drop_succ_cons, List.drop_zero]; rfl) ?_
                            refine o_nil ?_
                            refine d_val (i := 8) rfl (by kernel_rfl) (by kernel_rfl) (by kernel_rfl) rfl rfl rfl (y_neq rfl rfl) ?_
                            refine d_nil (n := 4) (m := 12) (by kernel_rfl) rfl ?_
                            refine s_if rfl (fun h47 => ?_) (fun h48 => ?_)
                            · exact absurd rfl h47
                            · refine s_skip ?_
                              refine s_seq ?_
                              refine s_region ?_
                              refine o_val rfl rfl rfl (y_move (v := (.slice _ _ _)) rfl) ?_
                              refine o_val rfl rfl rfl (y_field0 Try.runUnderlying34 rfl Try.sizeOf3 rfl rfl) ?_
                              refine o_val rfl rfl rfl (y_load Try.isAgg3 rfl (cel_own 15 rfl rfl)) ?_
                              refine o_val rfl rfl rfl (y_slice_lit (q := 0) Try.runUnderlying58 Try.sizeOf56 rfl rfl (by rw [hwi]; rfl) (by rw [hwi]; rfl)) ?_
                              refine o_val rfl rfl rfl (y_load Try.isAgg56 rfl (cel_own 8 rfl rfl)) ?_
                              refine o_fn 1 (d := 125) rfl Try.call38 (GotL_c _ _ _ _ _ _ _ _ _) rfl ?_
                              rintro _ _ ⟨rfl, rfl⟩
                              refine o_norm _ (by simp only [pull, picks, setG, List.cons_append, List.nil_append, List.append_nil, List.drop_succ_cons, List.drop_zero]; rfl) ?_
                              refine o_newgroup ?_
                              have hzm2 : zs.map (·.bs) = (List.range' w.X0.c.toNat (max w.X0.c (pa + ((min 8 (ps - pa.toNat) : Nat) : Int)) - w.X0.c).toNat).map (msgL 1) := by rw [hzm, List.map_nil, hrc]
                              have hzl : zs.length = (max w.X0.c (pa + ((min 8 (ps - pa.toNat) : Nat) : Int)) - w.X0.c).toNat := by have := congrArg List.length hzm2; simpa using this
                              refine o_val rfl rfl rfl (y_len Try.runUnderlying60 rfl) ?_
                              refine o_val rfl rfl rfl (y_move (v := (.int _ _)) rfl) ?_
                              refine o_nil ?_
                              refine s_block ?_
                              refine s_loop (γ := Nat) (fun z => [(0, .slice N n c), (1, .int .i64 (bAnd .i64 x 31)), (5, .pointer (some ⟨nb, 0, none⟩)), (7, .slice (some ⟨b5, 0, none⟩) 2 2), (8, .pointer (some ⟨b6, 0, none⟩)), (67, .int .i64 (g.l + 60 * (1 + ((n : Nat) : Int)) + 40)), (68, .int .i64 u.s), (12, .int .i64 u.s), (105, .slice kB k ke), (106, .int .i64 k), (107, .int .i64 w.j), (16, .pointer (some ⟨b46, 0, none⟩)), (125, .slice zA zs.length zc), (126, .int .i64 zs.length), (127, .int .i64 z)]) (fun z => [endg e0 (max w.X0.a (parse ((v.Y.fs.take k).getD ((w.j : Nat) : Int).toNat default).n ((v.Y.fs.take k).getD ((w.j : Nat) : Int).toNat default).bs).ack) yA (w.X0.ws.length - (max w.X0.a (parse ((v.Y.fs.take k).getD ((w.j : Nat) : Int).toNat default).n ((v.Y.fs.take k).getD ((w.j : Nat) : Int).toNat default).bs).ack - w.X0.a).toNat) yc (recv (parse ((v.Y.fs.take k).getD ((w.j : Nat) : Int).toNat default).n ((v.Y.fs.take k).getD ((w.j : Nat) : Int).toNat default).bs).first (parse ((v.Y.fs.take k).getD ((w.j : Nat) : Int).toNat default).n ((v.Y.fs.take k).getD ((w.j : Nat) : Int).toNat default).bs).ms w.X0.c [] (parse ((v.Y.fs.take k).getD ((w.j : Nat) : Int).toNat default).n ((v.Y.fs.take k).getD ((w.j : Nat) : Int).toNat default).bs).ms.length).1 none 0 0, w.X0.wE, [], yP, endg e1 w.X1.a w.X1.wA w.X1.ws.length w.X1.wc w.X1.c none 0 0, w.X1.wE, [], w.X1.P, [(b5, .cells [.pointer (some ⟨e0, 0, none⟩), .pointer (some ⟨e1, 0, none⟩)].toArray 56 (0, 0))], netg nb 2 dA n dc (((u.s : Nat) : Int) + 1) ((v.Y.sl.length : Nat) : Int) kA (v.Y.fs.length - k) kc, DG, kE, v.Y.PG, [(b6, .cells [.int .i64 (w.X0.c + ((z : Nat) : Int)), .int .i64 w.X1.c].toArray 70 (0, 0))], kG, zE, [(b46, .cells [.int .i64 ((v.Y.fs.take k).getD ((w.j : Nat) : Int).toNat default).src, .int .i64 ((v.Y.fs.take k).getD ((w.j : Nat) : Int).toNat default).dst, .slice ((v.Y.fs.take k).getD ((w.j : Nat) : Int).toNat default).A ((v.Y.fs.take k).getD ((w.j : Nat) : Int).toNat default).n ((v.Y.fs.take k).getD ((w.j : Nat) : Int).toNat default).c].toArray 34 (0, 0))]]) (fun z => z ≤ zs.length) (fun z => zs.length - z) (0) ?_ ⟨rfl, rfl, rfl, rfl, rfl, rfl, rfl, rfl, rfl, rfl, rfl, rfl, rfl, rfl, rfl, trivial⟩ (by first | exact sub_picks [0, 0, 14, 1, 1, 1, 1, 1, 1, 1, 1, 1, 1, 1, 1, 0, 0] (by rfl) | (rw [show w.X0.c + ((0 : Nat) : Int) = w.X0.c by omega]; exact sub_picks [0, 0, 14, 1, 1, 1, 1, 1, 1, 1, 1, 1, 1, 1, 1, 0, 0] (by rfl))) ?_
                              · exact Nat.zero_le _
                              · intro z _f hZ
                                have hzn := hZ
                                refine s_seq ?_
                                refine s_region ?_
                                refine o_val rfl rfl rfl (y_lss rfl rfl) ?_
                                refine o_nil ?_
                                refine s_seq ?_
                                refine s_if rfl (fun h49 => ?_) (fun h50 => ?_)
                                · refine s_skip ?_
                                  refine s_seq ?_
                                  refine s_block ?_
                                  refine s_seq ?_
                                  refine s_region ?_
                                  refine o_val rfl rfl rfl (y_index1 Try.runUnderlying60 Try.sizeOf29 (hzo.some_of (by omega)) rfl rfl (by omega)) ?_
                                  have hzb : BlIn yP (zs.getD ((z : Nat) : Int).toNat default) := hyi _ (List.mem_append_right _ (getD_memF (by omega)))
                                  have hzg : (zs.getD ((z : Nat) : Int).toNat default).bs = _ := (map_getD (by omega)).symm
                                  refine o_val rfl rfl rfl (y_load Try.isAgg29 rfl (cel_B (hzo.cels (j := 15) rfl) (by omega))) ?_
                                  refine o_val rfl rfl rfl (y_assign (v := (.slice _ _ _)) rfl) ?_
                                  refine o_nil ?_
                                  refine s_seq ?_
                                  refine s_seq ?_
                                  refine s_drawn 0 (by kernel_rfl) ?_
                                  refine d_val (i := 0) rfl (by kernel_rfl) (by kernel_rfl) (by kernel_rfl) rfl rfl rfl (y_move (v := (.slice _ _ _)) rfl) ?_
                                  refine d_val (i := 1) rfl (by kernel_rfl) (by kernel_rfl) (by kernel_rfl) rfl rfl rfl (y_field0 Try.runUnderlying34 rfl Try.sizeOf3 rfl rfl) ?_
                                  refine d_val (i := 2) rfl (by kernel_rfl) (by kernel_rfl) (by kernel_rfl) rfl rfl rfl (y_load Try.isAgg3 rfl (cel_own 16 rfl rfl)) ?_
                                  refine d_val (i := 3) rfl (by kernel_rfl) (by kernel_rfl) (by kernel_rfl) rfl rfl rfl (y_index_lit (q := 0) Try.runUnderlying70 Try.sizeOf3 rfl rfl (by rw [hwi]; rfl) (by rw [hwi]; rfl)) ?_
                                  refine d_val (i := 4) rfl (by kernel_rfl) (by kernel_rfl) (by kernel_rfl) rfl rfl rfl (y_load Try.isAgg3 rfl (cel_own 13 rfl rfl)) ?_
                                  refine d_val (i := 5) rfl (by kernel_rfl) (by kernel_rfl) (by kernel_rfl) rfl rfl rfl (y_conv Try.runUnderlying3 Try.runUnderlying5 rfl (by simp only [inK]; omega)) ?_
                                  refine d_val (i := 6) rfl (by kernel_rfl) (by kernel_rfl) (by kernel_rfl) rfl rfl rfl (y_field0 Try.runUnderlying34 rfl Try.sizeOf3 rfl rfl) ?_
                                  refine d_val (i := 7) rfl (by kernel_rfl) (by kernel_rfl) (by kernel_rfl) rfl rfl rfl (y_load Try.isAgg3 rfl (cel_own 16 rfl rfl)) ?_
                                  refine d_val (i := 8) rfl (by kernel_rfl) (by kernel_rfl) (by kernel_rfl) rfl rfl rfl (y_conv Try.runUnderlying3 Try.runUnderlying5 rfl (by simp only [inK]; omega)) ?_
                                  refine d_eff (k := 9) (n := 0) (m := 17) rfl (by kernel_rfl) rfl ?_
                                  refine o_lit (vs := [(0, .int _ _), (1, .int _ _)]) rfl rfl (LinkAll_k2 _ _) (fun b51 => ?_)
                                  refine o_nil ?_
                                  refine d_eff (k := 10) (n := 0) (m := 17) rfl (by kernel_rfl) rfl ?_
                                  refine o_fn 0 (d := 141) rfl Try.call23 (BEqualL_c _ _ _ (zs.getD ((z : Nat) : Int).toNat default).bs (hzb.at (j := 3) rfl).2.2.1 hzb.1 hzb.2.2.2.2 _ 2 _ (msgL 1 (w.X0.c.toNat + z)) (cels_own (cs := (msgL 1 (w.X0.c.toNat + z)).map (.int .u8)) 17 rfl (by unfold msgL; rw [show (((w.X0.c.toNat + z : Nat)) : Int) = w.X0.c + ((z : Nat) : Int) by omega, hwf]; rfl)).down rfl (by unfold msgL; simp only [List.mem_cons, List.not_mem_nil, or_false]; omega)) rfl ?_
                                  rintro _ _ ⟨rfl, rfl⟩
                                  refine o_nil ?_
                                  refine d_val (i := 11) rfl (by kernel_rfl) (by kernel_rfl) (by kernel_rfl) rfl rfl rfl (y_not rfl) ?_
                                  refine d_nil (n := 0) (m := 17) (by kernel_rfl) rfl ?_
                                  refine s_if rfl (fun h52 => ?_) (fun h53 => ?_)
                                  · exact absurd (by rw [hzg, hzm2, recvs_get (by omega)]) h52
                                  · refine s_skip ?_
                                    refine s_region ?_
                                    refine o_val rfl rfl rfl (y_field0 Try.runUnderlying34 rfl Try.sizeOf3 rfl rfl) ?_
                                    refine o_val rfl rfl rfl (y_load Try.isAgg3 rfl (cel_own 16 rfl rfl)) ?_
                                    refine o_val rfl rfl rfl (y_index_lit (q := 0) Try.runUnderlying70 Try.sizeOf3 rfl rfl (by rw [hwi]; rfl) (by rw [hwi]; rfl)) ?_
                                    refine o_val rfl rfl rfl (y_load Try.isAgg3 rfl (cel_own 13 rfl rfl)) ?_
                                    refine o_val rfl rfl rfl (y_add rfl rfl (by simp only [inK]; omega)) ?_
                                    refine o_val rfl rfl rfl (y_index_lit (q := 0) Try.runUnderlying70 Try.sizeOf3 rfl rfl (by rw [hwi]; rfl) (by rw [hwi]; rfl)) ?_
                                    refine o_store (v := (.int _ _)) 13 rfl Try.sizeOf3 rfl rfl rfl rfl ?_
                                    refine o_nil ?_
                                    refine s_region ?_
                                    refine o_val rfl rfl rfl (y_add rfl rfl (by simp only [inK]; omega)) ?_
                                    refine o_val rfl rfl rfl (y_move (v := (.int _ _)) rfl) ?_
                                    refine o_nil ?_
                                    exact ⟨z + 1, (by first | omega | (dsimp only; omega)), (by omega), ⟨rfl, rfl, rfl, rfl, rfl, rfl, rfl, rfl, rfl, rfl, rfl, rfl, rfl, rfl, (congrArg (Value.int .i64) (by omega)), trivial⟩, (by first | exact sub_picks [0, 0, 0, 0, 0, 0, 0, 0, 0, 0, 0, 0, 0, 0, 0, 0, 0] (by rfl) | (rw [show w.X0.c + ((z + 1 : Nat) : Int) = w.X0.c + ((z : Nat) : Int) + 1 by omega]; exact sub_picks [0, 0, 0, 0, 0, 0, 0, 0, 0, 0, 0, 0, 0, 0, 0, 0, 0] (by rfl)))⟩
                                · refine s_exit ?_
                                  refine s_region ?_
                                  refine o_val rfl rfl rfl (y_add rfl rfl (by simp only [inK]; omega)) ?_
                                  refine o_val rfl rfl rfl (y_move (v := (.int _ _)) rfl) ?_
                                  refine o_nil ?_
                                  have hz2 : w.X0.c + ((z : Nat) : Int) = (recv (parse ((v.Y.fs.take k).getD ((w.j : Nat) : Int).toNat default).n ((v.Y.fs.take k).getD ((w.j : Nat) : Int).toNat default).bs).first (parse ((v.Y.fs.take k).getD ((w.j : Nat) : Int).toNat default).n ((v.Y.fs.take k).getD ((w.j : Nat) : Int).toNat default).bs).ms w.X0.c [] (parse ((v.Y.fs.take k).getD ((w.j : Nat) : Int).toNat default).n ((v.Y.fs.take k).getD ((w.j : Nat) : Int).toNat default).bs).ms.length).1 := by rw [hrc]; dsimp only; omega
                                  rw [hz2]
                                  exact ⟨LAp.mk (w.j + 1) { w.X0 with a := max w.X0.a (parse ((v.Y.fs.take k).getD ((w.j : Nat) : Int).toNat default).n ((v.Y.fs.take k).getD ((w.j : Nat) : Int).toNat default).bs).ack, c := (recv (parse ((v.Y.fs.take k).getD ((w.j : Nat) : Int).toNat default).n ((v.Y.fs.take k).getD ((w.j : Nat) : Int).toNat default).bs).first (parse ((v.Y.fs.take k).getD ((w.j : Nat) : Int).toNat default).n ((v.Y.fs.take k).getD ((w.j : Nat) : Int).toNat default).bs).ms w.X0.c [] (parse ((v.Y.fs.take k).getD ((w.j : Nat) : Int).toNat default).n ((v.Y.fs.take k).getD ((w.j : Nat) : Int).toNat default).bs).ms.length).1, ws := w.X0.ws.drop (max w.X0.a (parse ((v.Y.fs.take k).getD ((w.j : Nat) : Int).toNat default).n ((v.Y.fs.take k).getD ((w.j : Nat) : Int).toNat default).bs).ack - w.X0.a).toNat, wA := yA, wc := yc, P := yP } w.X1, (by first | omega | (dsimp only; omega)), ⟨by dsimp only; omega, ⟨by dsimp only; rw [List.length_drop]; exact hyo, fun f hf => hyi f (List.mem_append_left _ hf), by dsimp only; exact in_wait hX0 _, by (try dsimp only); (try rw [hrc]); (try rw [hpp]); (try dsimp only); omega, by (try dsimp only); (try rw [hrc]); (try rw [hpp]); (try dsimp only); omega, by (try dsimp only); (try rw [hrc]); (try rw [hpp]); (try dsimp only); omega⟩, hX1, ⟨by (try dsimp only); (try rw [hrc]); (try rw [hpp]); (try dsimp only); omega, by (try dsimp only); (try rw [hrc]); (try rw [hpp]); (try dsimp only); omega, by (try dsimp only); (try rw [hrc]); (try rw [hpp]); (try dsimp only); omega, by (try dsimp only); (try rw [hrc]); (try rw [hpp]); (try dsimp only); omega⟩, ⟨by (try dsimp only); (try rw [hrc]); (try rw [hpp]); (try dsimp only); omega, by (try dsimp only); (try rw [hrc]); (try rw [hpp]); (try dsimp only); omega, by (try dsimp only); (try rw [hrc]); (try rw [hpp]); (try dsimp only); omega, by (try dsimp only); (try rw [hrc]); (try rw [hpp]); (try dsimp only); omega⟩, dn_snoc (by omega) (fun f hf => (hdn f hf).mono (by (try dsimp only); (try rw [hrc]); (try rw [hpp]); (try dsimp only); omega) (by (try dsimp only); (try rw [hrc]); (try rw [hpp]); (try dsimp only); omega) (by (try dsimp only); (try rw [hrc]); (try rw [hpp]); (try dsimp only); omega) (by (try dsimp only); (try rw [hrc]); (try rw [hpp]); (try dsimp only); omega)) (by unfold DnE; rw [if_pos hwi]; unfold Dn; rw [hff.1, hrc, hpp]; dsimp only; rw [List.length_take, waitL_len]; omega)⟩, ⟨rfl, rfl, rfl, rfl, rfl, rfl, rfl, rfl, rfl, rfl, (congrArg (Value.int .i64) (by dsimp only; omega)), trivial⟩, (by dsimp only; simp only [List.length_drop]; exact sub_picks [0, 0, 0, 0, 0, 0, 0, 0, 0, 0, 0, 0, 0, 0, 0] (by rfl))⟩
                      · refine s_exit ?_
                        refine s_region ?_
                        refine o_val rfl rfl rfl (y_add rfl rfl (by simp only [inK]; omega)) ?_
                        refine o_val rfl rfl rfl (y_move (v := (.int _ _)) rfl) ?_
                        refine o_nil ?_
                        have hwj2 : w.j = k := by omega
                        rw [hwj2, List.take_of_length_le (by rw [List.length_take]; omega)] at hdn
                        exact ⟨LAs.mk (u.s + 1) w.X0 w.X1 ⟨v.Y.fs.drop k, kA, kc, kE, v.Y.PG, v.Y.sl⟩, (by dsimp only; omega), ⟨by dsimp only; omega, by dsimp only; omega, hX0, hX1, hrel4, fun q hq => (hgood3 q hq).mono hq1 hq2 hq3 hq4 (Nat.le_refl _) (Nat.le_refl _), ⟨by dsimp only; rw [List.length_drop]; exact hka, fun f hf => hfin2 f (List.mem_of_mem_drop hf), hnj3.1, by dsimp only; rw [List.length_drop]; omega⟩, by dsimp only; omega, Lv.step hlast hl0 hM31 hlv (by omega) (by omega) (by omega) (by omega) hnj3.2 (by omega) hsq0 hsq1 hdn ⟨ha0, hc0⟩ ⟨ha1, hc1⟩⟩, ⟨rfl, rfl, rfl, rfl, rfl, rfl, (congrArg (Value.int .i64) (by dsimp only; omega)), trivial⟩, (by dsimp only; simp only [List.length_drop]; exact sub_picks [0, 0, 1, 1, 1, 2, 2, 2, 2, 2, 2, 2] (by rfl))⟩
            · refine s_exit ?_
              refine s_seq ?_
              refine s_pull 3 ?_
              refine s_norm _ (by simp only [pull, picks, setG, List.cons_append, List.nil_append, List.append_nil, List.drop_succ_cons, List.drop_zero]; rfl) ?_
              refine s_pull 1 ?_
              refine s_norm _ (by simp only [pull, picks, setG, List.cons_append, List.nil_append, List.append_nil, List.drop_succ_cons, List.drop_zero]; rfl) ?_
              refine s_drawn 2 (by kernel_rfl) ?_
              refine d_val (i := 0) rfl (by kernel_rfl) (by kernel_rfl) (by kernel_rfl) rfl rfl rfl (y_move (v := (.slice _ _ _)) rfl) ?_
              refine d_eff (k := 1) (n := 2) (m := 10) rfl (by kernel_rfl) rfl ?_
              refine o_fn 0 (d := 153) rfl Try.call39 (ContD_c N n c ds h.here.down hn hb) rfl ?_
              rintro _ _ ⟨rfl, rfl⟩
              refine o_nil ?_
              refine d_split (i := 2) rfl (by kernel_rfl) (by kernel_rfl) (by kernel_rfl) rfl rfl rfl (y_move (v := (.bool _)) rfl) (fun p54 => ?_) (fun p55 => ?_)
              · refine d_guard_no (i := 3) rfl (by kernel_rfl) (by kernel_rfl) (by kernel_rfl) rfl rfl rfl rfl rfl ?_
                refine d_guard_no (i := 4) rfl (by kernel_rfl) (by kernel_rfl) (by kernel_rfl) rfl rfl rfl rfl rfl ?_
                refine d_guard_no (i := 5) rfl (by kernel_rfl) (by kernel_rfl) (by kernel_rfl) rfl rfl rfl rfl rfl ?_
                refine d_guard_no (i := 6) rfl (by kernel_rfl) (by kernel_rfl) (by kernel_rfl) rfl rfl rfl rfl rfl ?_
                refine d_guard_no (i := 7) rfl (by kernel_rfl) (by kernel_rfl) (by kernel_rfl) rfl rfl rfl rfl rfl ?_
                refine d_guard_no (i := 8) rfl (by kernel_rfl) (by kernel_rfl) (by kernel_rfl) rfl rfl rfl rfl rfl ?_
                refine d_guard_un (i := 9) rfl (by kernel_rfl) (by kernel_rfl) (by kernel_rfl) rfl rfl rfl rfl ?_
                refine d_guard_un (i := 10) rfl (by kernel_rfl) (by kernel_rfl) (by kernel_rfl) rfl rfl rfl rfl ?_
                refine d_guard_un (i := 11) rfl (by kernel_rfl) (by kernel_rfl) (by kernel_rfl) rfl rfl rfl rfl ?_
                refine d_guard_un (i := 13) rfl (by kernel_rfl) (by kernel_rfl) (by kernel_rfl) rfl rfl rfl rfl ?_
                refine d_guard_un (i := 14) rfl (by kernel_rfl) (by kernel_rfl) (by kernel_rfl) rfl rfl rfl rfl ?_
                refine d_guard_un (i := 15) rfl (by kernel_rfl) (by kernel_rfl) (by kernel_rfl) rfl rfl rfl rfl ?_
                refine d_eff (k := 12) (n := 2) (m := 10) rfl (by kernel_rfl) rfl ?_
                refine o_guard_un rfl rfl rfl rfl ?_
                refine o_nil ?_
                refine d_eff (k := 16) (n := 2) (m := 10) rfl (by kernel_rfl) rfl ?_
                refine o_guard_un rfl rfl rfl rfl ?_
                refine o_nil ?_
                refine d_guard_un (i := 17) rfl (by kernel_rfl) (by kernel_rfl) (by kernel_rfl) rfl rfl rfl rfl ?_
                refine d_guard_un (i := 18) rfl (by kernel_rfl) (by kernel_rfl) (by kernel_rfl) rfl rfl rfl rfl ?_
                refine d_guard_no (i := 19) rfl (by kernel_rfl) (by kernel_rfl) (by kernel_rfl) rfl rfl rfl rfl rfl ?_
                refine d_val (i := 20) rfl (by kernel_rfl) (by kernel_rfl) (by kernel_rfl) rfl rfl rfl (y_pick_t (v := (.bool _)) rfl rfl) ?_
                refine d_val (i := 21) rfl (by kernel_rfl) (by kernel_rfl) (by kernel_rfl) rfl rfl rfl (y_assign (v := (.bool _)) rfl) ?_
                refine d_nil (n := 2) (m := 10) (by kernel_rfl) rfl ?_
                refine s_forget [(4, (.bool _))] ⟨rfl, trivial⟩ (fun _f => ?_)
                refine s_ret ?_
                exact ⟨_, [], res1 rfl rfl, ⟨rfl, rfl⟩, sub_picks [] rfl⟩
              · have hnl := noLate p55
                have hfin3 : u.X0.c = (bAnd .i64 x 31) ∧ u.X1.c = (bAnd .i64 x 31) ∧ u.X0.ws.length = 0 ∧ u.X1.ws.length = 0 := by have hS : S0L g.l (bAnd .i64 x 31).toNat = max (g.l / 2 + 1) (((bAnd .i64 x 31).toNat : Nat) : Int) := rfl; have hh := hlv hnl (((u.s : Nat) : Int) - S0L g.l (bAnd .i64 x 31).toNat) (by omega) (by omega); omega
                refine d_val_g (i := 3) rfl (by kernel_rfl) (by kernel_rfl) (by kernel_rfl) rfl rfl rfl rfl (y_loads (cs := [_, _]) Try.isAgg70 Try.sizeOf70 rfl rfl rfl (cels_own 9 rfl rfl)) ?_
                refine d_val_g (i := 4) rfl (by kernel_rfl) (by kernel_rfl) (by kernel_rfl) rfl rfl rfl rfl (y_move (v := (.int _ _)) rfl) ?_
                refine d_val_g (i := 5) rfl (by kernel_rfl) (by kernel_rfl) (by kernel_rfl) rfl rfl rfl rfl (y_move (v := (.int _ _)) rfl) ?_
                refine d_val_g (i := 6) rfl (by kernel_rfl) (by kernel_rfl) (by kernel_rfl) rfl rfl rfl rfl (y_build (vs := [(0, .int _ _), (1, .int _ _)]) rfl (LinkAll_k3 _ _)) ?_
                refine d_split_g (i := 7) rfl (by kernel_rfl) (by kernel_rfl) (by kernel_rfl) rfl rfl rfl rfl (y_eql_came rfl rfl) (fun p56 => ?_) (fun p57 => ?_)
                · refine d_val_g (i := 8) rfl (by kernel_rfl) (by kernel_rfl) (by kernel_rfl) rfl rfl rfl rfl (y_move (v := (.bool _)) rfl) ?_
                  refine d_val_g (i := 9) rfl (by kernel_rfl) (by kernel_rfl) (by kernel_rfl) rfl rfl rfl rfl (y_move (v := (.slice _ _ _)) rfl) ?_
                  refine d_val_g (i := 10) rfl (by kernel_rfl) (by kernel_rfl) (by kernel_rfl) rfl rfl rfl rfl (y_slice_lit (q := 0) Try.runUnderlying58 Try.sizeOf56 rfl rfl rfl rfl) ?_
                  refine d_val_g (i := 11) rfl (by kernel_rfl) (by kernel_rfl) (by kernel_rfl) rfl rfl rfl rfl (y_load Try.isAgg56 rfl (cel_own 4 rfl rfl)) ?_
                  refine d_val_g (i := 13) rfl (by kernel_rfl) (by kernel_rfl) (by kernel_rfl) rfl rfl rfl rfl (y_move (v := (.slice _ _ _)) rfl) ?_
                  refine d_val_g (i := 14) rfl (by kernel_rfl) (by kernel_rfl) (by kernel_rfl) rfl rfl rfl rfl (y_slice_lit (q := 1) Try.runUnderlying58 Try.sizeOf56 rfl rfl rfl rfl) ?_
                  refine d_val_g (i := 15) rfl (by kernel_rfl) (by kernel_rfl) (by kernel_rfl) rfl rfl rfl rfl (y_load Try.isAgg56 rfl (cel_own 4 rfl rfl)) ?_
                  refine d_eff (k := 12) (n := 2) (m := 10) rfl (by kernel_rfl) rfl ?_
                  refine o_guard_yes rfl rfl ?_
                  refine o_fn 1 (d := 164) rfl Try.call36 (WaitL_c e0 u.X0.a u.X0.wA u.X0.ws.length u.X0.wc u.X0.c none 0 0) rfl ?_
                  rintro _ _ ⟨rfl, rfl⟩
                  refine o_norm _ (by simp only [pull, picks, setG, List.cons_append, List.nil_append, List.append_nil, List.drop_succ_cons, List.drop_zero]; rfl) ?_
                  refine o_nil ?_
                  refine d_eff (k := 16) (n := 2) (m := 10) rfl (by kernel_rfl) rfl ?_
                  refine o_guard_yes rfl rfl ?_
                  refine o_pull 1 ?_
                  refine o_norm _ (by simp only [pull, picks, setG, List.cons_append, List.nil_append, List.append_nil, List.drop_succ_cons, List.drop_zero]; rfl) ?_
                  refine o_fn 1 (d := 168) rfl Try.call36 (WaitL_c e1 u.X1.a u.X1.wA u.X1.ws.length u.X1.wc u.X1.c none 0 0) rfl ?_
                  rintro _ _ ⟨rfl, rfl⟩
                  refine o_norm _ (by simp only [pull, picks, setG, List.cons_append, List.nil_append, List.append_nil, List.drop_succ_cons, List.drop_zero]; rfl) ?_
                  refine o_nil ?_
                  refine d_val_g (i := 17) rfl (by kernel_rfl) (by kernel_rfl) (by kernel_rfl) rfl rfl rfl rfl (y_add rfl rfl (by simp only [inK]; omega)) ?_
                  refine d_split_g (i := 18) rfl (by kernel_rfl) (by kernel_rfl) (by kernel_rfl) rfl rfl rfl rfl (y_eql rfl rfl) (fun p58 => ?_) (fun p59 => ?_)
                  · refine d_val_g (i := 19) rfl (by kernel_rfl) (by kernel_rfl) (by kernel_rfl) rfl rfl rfl rfl (y_pick_t (v := (.bool _)) rfl rfl) ?_
                    refine d_val (i := 20) rfl (by kernel_rfl) (by kernel_rfl) (by kernel_rfl) rfl rfl rfl (y_pick_f (v := (.bool _)) rfl rfl) ?_
                    refine d_val (i := 21) rfl (by kernel_rfl) (by kernel_rfl) (by kernel_rfl) rfl rfl rfl (y_assign (v := (.bool _)) rfl) ?_
                    refine d_nil (n := 2) (m := 10) (by kernel_rfl) rfl ?_
                    refine s_forget [(4, (.bool _))] ⟨rfl, trivial⟩ (fun _f => ?_)
                    refine s_ret ?_
                    exact ⟨_, [], res1 rfl rfl, ⟨rfl, rfl⟩, sub_picks [] rfl⟩
                  · exact absurd (by have := hfin3; omega) p59
                · exact absurd (by have := hfin3; omega) p57

end Go.Proofs.Ytdgmocibjjkghaa.K

/- Two ends and two halves side by side. No condition beyond what each statement names. -/
import Derived.Test.YtdgmocibjjkghaaProg
import Derived.Test.YtdgmocibjjkghaaK14
import Derived.Test.YtdgmocibjjkghaaB9
import Derived.Test.YtdgmocibjjkghaaN1
import Derived.Test.YtdgmocibjjkghaaN3
import Derived.Test.YtdgmocibjjkghaaN4
import Derived.Test.YtdgmocibjjkghaaL1
import Derived.Test.YtdgmocibjjkghaaL2
import Derived.Test.YtdgmocibjjkghaaL3
import Derived.Test.YtdgmocibjjkghaaL4
import Derived.Test.YtdgmocibjjkghaaL5
import Derived.Test.YtdgmocibjjkghaaL6
import Derived.Test.YtdgmocibjjkghaaL7
import Derived.Test.YtdgmocibjjkghaaL8
import Derived.Test.YtdgmocibjjkghaaL9
import Derived.Test.YtdgmocibjjkghaaL10
set_option linter.unusedVariables false
set_option linter.unusedSimpArgs false
set_option maxRecDepth 100000
namespace Go.Proofs.Ytdgmocibjjkghaa.K
open Go.RowKit

theorem SCloneB_k0 (w : World) : (Instr.buildSlice 29 0 ([] : List (Nat × Value)).toArray).run Try.prog w = .ok (.slice (some ⟨w.heap.size, 0, none⟩) 0 0) { w with heap := w.heap.push (.cells ([] : List Value).toArray 5 (0, 0)) } := by kernel_rfl
theorem SCloneB_c {V : Mem} (A : Option Addr) (n c : Nat) (bb : List Int) (h : Cels V [] A ((bb).map (.int .u8))) (hn : bb.length = n) (hb : n * 1 ≤ 140737488355328) : CallS Try.prog 35 [.slice A n c].toArray V []
    (fun r L' => ∃ B e G, r = .slice B n e ∧ OS B n e 5 1 ((bb).map (.int .u8)) G ∧ L' = [G]) := by
  refine callS Try.func35 rfl rfl (fun w0 => ?_)
  refine s_seq ?_
  refine s_region ?_
  refine o_val rfl rfl rfl (y_assign (v := (.slice _ _ _)) rfl) ?_
  refine o_nil ?_
  refine s_seq ?_
  refine s_seq ?_
  refine s_region ?_
  refine o_val rfl rfl rfl (y_move (v := (.slice _ _ _)) rfl) ?_
  refine o_val rfl rfl rfl (y_eql_nil Try.underlying29 rfl rfl) ?_
  refine o_nil ?_
  refine s_if rfl (fun h1 => ?_) (fun h2 => ?_)
  · subst h1
    have hbb := h.none_nil
    have hb0 : bb = [] := by simpa using hbb
    subst hb0
    obtain rfl : 0 = n := hn
    refine s_seq ?_
    refine s_region ?_
    refine o_val rfl rfl rfl (y_assign (v := (.slice _ _ _)) rfl) ?_
    refine o_nil ?_
    refine s_ret ?_
    exact ⟨_, [[]], res1 rfl rfl, ⟨_, _, [], rfl, OS.nil _ _, rfl⟩, sub_none⟩
  · refine s_skip ?_
    refine s_seq ?_
    refine s_region ?_
    refine o_lit (vs := []) rfl rfl (SCloneB_k0) (fun b3 => ?_)
    refine o_val rfl rfl rfl (y_move (v := (.slice _ _ _)) rfl) ?_
    refine o_append (sz := 1) (bytes := 1) (news := (bb).map (.int .u8)) 0 rfl Try.underlying29 Try.type5 rfl rfl rfl rfl rfl (OS.lit (sz := 1) (n := 0) rfl (by decide)) rfl rfl (Src.rd (sz := 0) Try.underlying29 h.here (by simp [hn]) (one_int _ _)) (by omega) (fun A4 c5 E6 ho7 hn8 => ?_)
    have ho9 : OS A4 n c5 5 1 ((bb).map (.int .u8)) E6 := by simpa using ho7
    clear ho7
    refine o_val rfl rfl rfl (y_assign (v := (.slice _ _ _)) rfl) ?_
    refine o_nil ?_
    refine s_ret ?_
    exact ⟨_, _, res1 rfl rfl, ⟨_, _, _, congrArg (fun k => Value.slice _ k _) (Nat.zero_add _), ho9, rfl⟩, sub_front ⟨_, rfl⟩⟩

theorem OutI_c {V : Mem} (b : Nat) (first : Int) (wA : Option Addr) (wn wc : Nat) (next : Int) (gA : Option Addr) (gn gc : Nat) (ws : List FL) (WG PG : Grp) (how : OS wA wn wc 29 1 ((ws).flatMap encB) WG) (hin : ∀ f ∈ ws, BlIn PG f) (hf : 0 ≤ first ∧ first ≤ 1000000 ∧ 0 ≤ next ∧ next ≤ 1000000) : CallS Try.prog 31 [.pointer (some ⟨b, 0, none⟩)].toArray V [endg b first wA wn wc next gA gn gc, WG, PG] (fun r L' => ∃ (B : Option Addr) (c : Nat) (E : Grp), r = .slice B (pktOf next.toNat first.toNat (ws.map (·.bs))).length c ∧ OS B (pktOf next.toNat first.toNat (ws.map (·.bs))).length c 5 1 (((pktOf next.toNat first.toNat (ws.map (·.bs)))).map (.int .u8)) E ∧ L' = [endg b first wA wn wc next gA gn gc, WG, PG, E]) := by
  have h := OutL_c (V := V) b first.toNat wA wn wc next.toNat gA gn gc ws WG PG how hin (by omega)
  rwa [Int.toNat_of_nonneg hf.1, Int.toNat_of_nonneg hf.2.2.1] at h

theorem PacketI_c {V : Mem} (b : Nat) (sA : Option Addr) (sn sc : Nat) (acked came : Int) (nA : Option Addr) (nn nc : Nat) (ss : List FL) (SG PG : Grp) (hos : OS sA sn sc 29 1 ((ss).flatMap encB) SG) (hin : ∀ f ∈ ss, BlIn PG f) (hf : 0 ≤ acked ∧ acked ≤ sn ∧ sn ≤ 1000000 ∧ 0 ≤ came ∧ came ≤ 1000000) : CallS Try.prog 32 [.pointer (some ⟨b, 0, none⟩)].toArray V [halfg b sA sn sc acked came nA nn nc, SG, PG] (fun r L' => ∃ (B : Option Addr) (c : Nat) (E : Grp), r = .slice B (pktOf came.toNat acked.toNat ((ss.drop acked.toNat).map (·.bs))).length c ∧ OS B (pktOf came.toNat acked.toNat ((ss.drop acked.toNat).map (·.bs))).length c 5 1 (((pktOf came.toNat acked.toNat ((ss.drop acked.toNat).map (·.bs)))).map (.int .u8)) E ∧ L' = [halfg b sA sn sc acked came nA nn nc, SG, PG, E]) := by
  have h := PacketH_c (V := V) b sA sn sc acked.toNat came.toNat nA nn nc ss SG PG hos hin (by omega)
  rwa [Int.toNat_of_nonneg hf.1, Int.toNat_of_nonneg hf.2.2.2.1] at h

/-- A packet's bytes lie in a pool. -/
def PkIn (PG : Grp) (f : FL) : Prop := f.bs.length = f.n ∧ f.n ≤ f.c ∧ (17 ≤ f.n ∧ f.n ≤ 1000000) ∧ Cels nowhere [PG] f.A (f.bs.map (.int .u8)) ∧ ∀ b ∈ f.bs, 0 ≤ b ∧ b ≤ 255
theorem PkIn.grow {G PG : Grp} {f : FL} (h : PkIn PG f) : PkIn (G ++ PG) f := ⟨h.1, h.2.1, h.2.2.1, h.2.2.2.1.mono (fun b o hb => by
  rcases hb with hb | hb
  · exact hb.elim
  · exact .inr (by simp only [List.flatten_cons, List.flatten_nil, List.append_nil] at hb ⊢; exact List.mem_append_right _ hb)), h.2.2.2.2⟩
theorem PkIn.new {G PG : Grp} {B : Option Addr} {n e : Nat} {T : TypeId} {bs : List Int} (ho : OS B n e T 1 (bs.map (.int .u8)) G) (hn : 17 ≤ n ∧ n ≤ 1000000) (hb : ∀ b ∈ bs, 0 ≤ b ∧ b ≤ 255) : PkIn (G ++ PG) (fl B n e bs) :=
  ⟨by have := ho.len; simpa [fl] using this, ho.2.1, hn, (ho.cels (V := nowhere) (L := [G]) (j := 0) rfl).mono (fun b o hb => by
    rcases hb with hb | hb
    · exact hb.elim
    · exact .inr (by simp only [List.flatten_cons, List.flatten_nil, List.append_nil] at hb ⊢; exact List.mem_append_left _ hb)), hb⟩
theorem PkIn.at {PG : Grp} {f : FL} (h : PkIn PG f) {V : Mem} {L : List Grp} {j : Nat} (hj : nth L j = some PG) : BB (ext V L) f.A f.n f.c f.bs := ⟨h.1, h.2.1, Cels.down (h.2.2.2.1.mono (fun b o hb => by
  rcases hb with hb | hb
  · exact hb.elim
  · exact .inr (nth_mem hj _ (by simpa using hb)))), h.2.2.2.2⟩
theorem pkin_snoc {PG G : Grp} {fs : List FL} {x : FL} (h : ∀ f ∈ fs, PkIn PG f) (hx : PkIn (G ++ PG) x) : ∀ f ∈ fs ++ [x], PkIn (G ++ PG) f := fun f hf => by
  rcases List.mem_append.1 hf with hf | hf
  · exact (h f hf).grow
  · rw [List.mem_singleton.1 hf]; exact hx
theorem pkin_grow {PG G : Grp} {fs : List FL} (h : ∀ f ∈ fs, PkIn PG f) : ∀ f ∈ fs, PkIn (G ++ PG) f := fun f hf => (h f hf).grow
/-- An end and its half. -/
structure Side where
  acked : Int
  ws : List FL
  wA : Option Addr
  wc : Nat
  wE : Grp
  next : Int
  gs : List FL
  gA : Option Addr
  gc : Nat
  gE : Grp
  P1 : Grp
  ss : List FL
  sA : Option Addr
  sc : Nat
  sE : Grp
  P2 : Grp
  ns : List FL
  nA : Option Addr
  nc : Nat
  nE : Grp
  P3 : Grp
def Side.told (X : Side) (i : Nat) : Prop := X.ws.map (·.bs) = (X.ss.drop X.acked.toNat).map (·.bs) ∧ X.gs.map (·.bs) = X.ns.map (·.bs) ∧ 0 ≤ X.acked ∧ X.acked ≤ X.ss.length ∧ X.ss.length ≤ i ∧ 0 ≤ X.next ∧ X.next ≤ 8 * i ∧ X.gs.length ≤ 8 * i
def Side.ok (X : Side) (i : Nat) : Prop := OS X.wA X.ws.length X.wc 29 1 ((X.ws).flatMap encB) X.wE ∧ OS X.gA X.gs.length X.gc 29 1 ((X.gs).flatMap encB) X.gE ∧ (∀ f ∈ X.ws ++ X.gs, BlIn X.P1 f) ∧ OS X.sA X.ss.length X.sc 29 1 ((X.ss).flatMap encB) X.sE ∧ (∀ f ∈ X.ss, BlIn X.P2 f) ∧ OS X.nA X.ns.length X.nc 29 1 ((X.ns).flatMap encB) X.nE ∧ (∀ f ∈ X.ns, BlIn X.P3 f) ∧ X.told i
theorem Side.told.more {X : Side} {i : Nat} (h : X.told i) : X.told (i + 1) := by
  obtain ⟨h1, h2, h3, h4, h5, h6, h7, h8⟩ := h
  exact ⟨h1, h2, h3, h4, by omega, h6, by omega, by omega⟩
theorem Side.ok.more {X : Side} {i : Nat} (h : X.ok i) : X.ok (i + 1) := by
  obtain ⟨h1, h2, h3, h4, h5, h6, h7, h8⟩ := h
  exact ⟨h1, h2, h3, h4, h5, h6, h7, h8.more⟩
theorem Side.told.lens {X : Side} {i : Nat} (h : X.told i) : X.acked + (X.ws.length : Int) = X.ss.length ∧ X.gs.length = X.ns.length := by
  obtain ⟨h1, h2, h3, h4, _⟩ := h
  have e1 := congrArg List.length h1
  have e2 := congrArg List.length h2
  simp only [List.length_map, List.length_drop] at e1 e2
  exact ⟨by omega, e2⟩
theorem mem_swap {ws gs : List FL} {x : FL} {PG : Grp} (h : ∀ f ∈ ws ++ gs ++ [x], BlIn PG f) : ∀ f ∈ ws ++ [x] ++ gs, BlIn PG f := fun f hf => h f (by
  simp only [List.mem_append, List.mem_singleton] at hf ⊢
  rcases hf with (hf | hf) | hf
  · exact .inl (.inl hf)
  · exact .inr hf
  · exact .inl (.inr hf))
theorem inErr_ok {n : Nat} {bs : List Int} {all : Int} (h : inErr n bs all = 0) : (parse n bs).err = 0 ∧ (parse n bs).ack ≤ all := by
  unfold inErr at h
  split at h
  · rename_i h1; exact absurd h h1
  · rename_i h1
    split at h
    · cases h
    · exact ⟨Decidable.not_not.1 h1, by omega⟩
theorem told_take {X Y : Side} {i : Nat} {n : Nat} {bs : List Int} (h : X.told i) (hp : (parse n bs).ack ≤ X.ss.length) (hm : (parse n bs).ms.length ≤ 8)
    (h1 : Y.acked = max X.acked (parse n bs).ack) (h2 : Y.ws = X.ws.drop (max X.acked (parse n bs).ack - X.acked).toNat) (h3 : Y.next = (recv (parse n bs).first (parse n bs).ms X.next (X.gs.map (·.bs)) (parse n bs).ms.length).1)
    (h4 : Y.gs.map (·.bs) = (recv (parse n bs).first (parse n bs).ms X.next (X.gs.map (·.bs)) (parse n bs).ms.length).2) (h5 : Y.ns.map (·.bs) = (recv (parse n bs).first (parse n bs).ms X.next (X.ns.map (·.bs)) (parse n bs).ms.length).2) (h6 : Y.ss = X.ss) : Y.told (i + 1) := by
  obtain ⟨e1, e2, e3, e4, e5, e6, e7, e8⟩ := h
  have hr := recv_bd (parse n bs).first (parse n bs).ms X.next (X.gs.map (·.bs)) (parse n bs).ms.length
  rw [← h3, ← h4, List.length_map, List.length_map] at hr
  refine ⟨?_, ?_, by omega, by rw [h6]; omega, by rw [h6]; omega, by omega, by omega, by omega⟩
  · rw [h2, h6, h1, List.map_drop, e1, List.map_drop, List.map_drop, List.drop_drop]
    congr 1; omega
  · rw [h4, h5, e2]
theorem told_send {X Y : Side} {i : Nat} {x y : FL} (h : X.told i) (hxy : x.bs = y.bs) (h1 : Y.acked = X.acked) (h2 : Y.ws = X.ws ++ [x]) (h3 : Y.next = X.next) (h4 : Y.gs = X.gs) (h5 : Y.ns = X.ns) (h6 : Y.ss = X.ss ++ [y]) : Y.told (i + 1) := by
  obtain ⟨e1, e2, e3, e4, e5, e6, e7, e8⟩ := h
  refine ⟨?_, by rw [h4, h5]; exact e2, by omega, by rw [h6, List.length_append]; simp only [List.length_singleton]; omega, by rw [h6, List.length_append]; simp only [List.length_singleton]; omega, by omega, by omega, by rw [h4]; omega⟩
  rw [h2, h6, h1, List.drop_append_of_le_length (by omega), List.map_append, List.map_append, e1]
  simp [hxy]
theorem told_got {X Y : Side} {i : Nat} (h : X.told i) (h1 : Y.acked = X.acked) (h2 : Y.ws = X.ws) (h3 : Y.next = X.next) (h4 : Y.gs = []) (h5 : Y.ns = []) (h6 : Y.ss = X.ss) : Y.told i := by
  obtain ⟨e1, e2, e3, e4, e5, e6, e7, e8⟩ := h
  exact ⟨by rw [h2, h6, h1]; exact e1, by rw [h4, h5], by omega, by rw [h6]; omega, by rw [h6]; omega, by omega, by omega, by rw [h4]; exact Nat.zero_le _⟩
/-- The state of the law's loop. -/
structure LW where
  i : Nat
  X0 : Side
  X1 : Side
  a0 : List FL
  aA0 : Option Addr
  ac0 : Nat
  aE0 : Grp
  a1 : List FL
  aA1 : Option Addr
  ac1 : Nat
  aE1 : Grp
  AP : Grp
def LW.ok (u : LW) (i : Nat) : Prop := u.X0.ok i ∧ u.X1.ok i ∧ OS u.aA0 u.a0.length u.ac0 29 1 ((u.a0).flatMap encB) u.aE0 ∧ OS u.aA1 u.a1.length u.ac1 29 1 ((u.a1).flatMap encB) u.aE1 ∧ (∀ f ∈ u.a0, PkIn u.AP f) ∧ (∀ f ∈ u.a1, PkIn u.AP f) ∧ u.a0.length ≤ i ∧ u.a1.length ≤ i
theorem LW.ok.more {u v : LW} {i : Nat} (h : u.ok i) (h0 : v.X0 = u.X0) (h1 : v.X1 = u.X1) (h2 : v.a0 = u.a0) (h3 : v.aA0 = u.aA0) (h4 : v.ac0 = u.ac0) (h5 : v.aE0 = u.aE0) (h6 : v.a1 = u.a1) (h7 : v.aA1 = u.aA1) (h8 : v.ac1 = u.ac1) (h9 : v.aE1 = u.aE1) (h10 : v.AP = u.AP) : v.ok (i + 1) := by
  unfold LW.ok at *
  obtain ⟨e1, e2, e3, e4, e5, e6, e7, e8⟩ := h
  rw [h0, h1, h2, h3, h4, h5, h6, h7, h8, h9, h10]
  exact ⟨e1.more, e2.more, e3, e4, e5, e6, by omega, by omega⟩
theorem and_low' (x : Int) (k m : Nat) (hm : m = 2 ^ k - 1) (hk : k ≤ 16) : 0 ≤ bAnd .i64 x (m : Nat) ∧ bAnd .i64 x (m : Nat) ≤ (m : Nat) := by
  unfold bAnd
  have hp := Nat.pow_le_pow_right (show 0 < 2 by omega) hk
  have h2 : (BitVec.ofInt 64 (m : Int)).toNat = m := by
    rw [BitVec.toNat_ofInt]
    omega
  have h1 : (BitVec.ofInt IntKind.i64.bits x &&& BitVec.ofInt IntKind.i64.bits (m : Int)).toNat ≤ m := by
    rw [BitVec.toNat_and]
    refine Nat.le_trans Nat.and_le_right ?_
    rw [show IntKind.i64.bits = 64 from rfl, h2]
    exact Nat.le_refl _
  rw [wrap_in (k := .i64) (by simp only [inK]; omega)]
  omega
theorem and1 (x : Int) : bAnd .i64 x 1 = 0 ∨ bAnd .i64 x 1 = 1 := by
  have : 0 ≤ bAnd .i64 x 1 ∧ bAnd .i64 x 1 ≤ 1 := and_low' x 1 1 rfl (by omega)
  omega
theorem and7 (x : Int) : 0 ≤ bAnd .i64 x 7 ∧ bAnd .i64 x 7 ≤ 7 := and_low' x 3 7 rfl (by omega)
theorem and1023 (x : Int) : 0 ≤ bAnd .i64 x 1023 ∧ bAnd .i64 x 1023 ≤ 1023 := and_low' x 10 1023 rfl (by omega)
theorem set_byte {bs : List Int} {k : Nat} {z : Int} (h : ∀ b ∈ bs, 0 ≤ b ∧ b ≤ 255) : ∀ b ∈ bs.set k (IntKind.u8.wrap z), 0 ≤ b ∧ b ≤ 255 := by
  intro b hb
  rcases List.mem_or_eq_of_mem_set hb with hb | rfl
  · exact h b hb
  · exact inK_wrap .u8 z
theorem y_slice_lit {P : Program} {V : Mem} {L : List Grp} {f : Frm} {x y : Operand} {d : Nat} {ty : TypeId} {ps : String} {af : Array Edge} {g : Option (Nat × Bool)} {t E : TypeId} {k : IntKind} {b n c q : Nat} {i : Int} (ht : ∀ w, (underlying t).run P w = .ok (.slice E) w) (hz : ∀ w, (sizeOf E).run P w = .ok 1 w) (hx : evF f x = .slice (some ⟨b, 0, none⟩) n c) (hy : evF f y = .int k i) (h : (Nat.blt i.toNat n && decide (0 ≤ i)) = true) (hq : i.toNat = q) :
    Yld P f V L ⟨some d, .indexAddr t x y, ty, ps, af, g⟩ (.pointer (some ⟨b, q, none⟩)) :=
  (y_index1 ht hz rfl hx hy (by simp [Nat.blt_eq] at h; omega)).of_eq (by rw [hq]; simp [idx, Addr.add, eq_comm])

end Go.Proofs.Ytdgmocibjjkghaa.K

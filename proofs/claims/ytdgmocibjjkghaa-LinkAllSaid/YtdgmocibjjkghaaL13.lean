/- Plain laws of the protocol over any network; walks: is there a deed for a late packet? No condition beyond what each statement names. -/
import Derived.Test.YtdgmocibjjkghaaProg
import Derived.Test.YtdgmocibjjkghaaK14
import Derived.Test.YtdgmocibjjkghaaB9
import Derived.Test.YtdgmocibjjkghaaN1
import Derived.Test.YtdgmocibjjkghaaN2
import Derived.Test.YtdgmocibjjkghaaN3
import Derived.Test.YtdgmocibjjkghaaN4
import Derived.Test.YtdgmocibjjkghaaN5
import Derived.Test.YtdgmocibjjkghaaL1
import Derived.Test.YtdgmocibjjkghaaL2
import Derived.Test.YtdgmocibjjkghaaL3
import Derived.Test.YtdgmocibjjkghaaL4
import Derived.Test.YtdgmocibjjkghaaL5
import Derived.Test.YtdgmocibjjkghaaL6
import Derived.Test.YtdgmocibjjkghaaL9
import Derived.Test.YtdgmocibjjkghaaL11
set_option linter.unusedVariables false
set_option linter.unusedSimpArgs false
set_option maxRecDepth 100000
namespace Go.Proofs.Ytdgmocibjjkghaa.K
open Go.RowKit


/-- Message 'k' of end 'i'. -/
def msgL (i k : Nat) : List Int := [(k : Int), (i : Int)]
/-- The messages of end 'i' from 'a' on, of 's' that were sent. -/
def waitL (i : Nat) (a : Int) (s : Nat) : List (List Int) := (List.range' a.toNat (s - a.toNat)).map (msgL i)
def pkL (i : Nat) (c a : Int) (s : Nat) : List Int := pktOf c.toNat a.toNat (waitL i a s)
theorem waitL_len (i : Nat) (a : Int) (s : Nat) : (waitL i a s).length = s - a.toNat := by simp [waitL]
theorem waitL_two {i : Nat} {a : Int} {s : Nat} : ∀ m ∈ waitL i a s, m.length = 2 := by
  intro m hm
  unfold waitL at hm
  obtain ⟨k, _, rfl⟩ := List.mem_map.1 hm
  rfl
theorem waitL_byte {i : Nat} {a : Int} {s : Nat} (hi : i ≤ 1) (hs : s ≤ 31) : ∀ m ∈ waitL i a s, ∀ b ∈ m, 0 ≤ b ∧ b ≤ 255 := by
  intro m hm b hb
  unfold waitL at hm
  obtain ⟨k, hk, rfl⟩ := List.mem_map.1 hm
  rw [List.mem_range'_1] at hk
  simp only [msgL, List.mem_cons, List.not_mem_nil, or_false] at hb
  omega
theorem waitL_drop (i : Nat) {a b : Int} (s : Nat) (h0 : 0 ≤ a) (h : a ≤ b) : (waitL i a s).drop (b - a).toNat = waitL i b s := by
  unfold waitL
  rw [← List.map_drop, List.drop_range']
  congr 1
  · congr 1 <;> omega
theorem waitL_snoc (i : Nat) {a : Int} {s : Nat} (h0 : 0 ≤ a) (h : a ≤ s) : waitL i a s ++ [msgL i s] = waitL i a (s + 1) := by
  unfold waitL
  rw [show s + 1 - a.toNat = (s - a.toNat) + 1 by omega, List.range'_1_concat, List.map_append, show a.toNat + (s - a.toNat) = s by omega]
  rfl
theorem pkL_len (i : Nat) (c a : Int) (s : Nat) : 17 ≤ (pkL i c a s).length ∧ (pkL i c a s).length ≤ 49 := by
  unfold pkL
  rw [pkt_len]
  have := flat_bd (ms := waitL i a s) (k := 2) (fun m hm => by rw [waitL_two m hm]; omega) 8
  omega
theorem pkL_byte {i : Nat} {c a : Int} {s : Nat} (hi : i ≤ 1) (hs : s ≤ 31) : ∀ b ∈ pkL i c a s, 0 ≤ b ∧ b ≤ 255 := pkt_byte (waitL_byte hi hs)
theorem parse_pkL {i : Nat} {c a : Int} {s : Nat} (hc : 0 ≤ c ∧ c ≤ 31) (ha : 0 ≤ a ∧ a ≤ 31) : parse (pkL i c a s).length (pkL i c a s) = ⟨0, c, a, (waitL i a s).take 8⟩ := by
  unfold pkL
  rw [parse_pkt (fun m hm => by rw [waitL_two m hm]; omega) (by omega) (by omega)]
  rw [show ((c.toNat : Nat) : Int) = c by omega, show ((a.toNat : Nat) : Int) = a by omega]
theorem waitL_get {i : Nat} {a : Int} {s j : Nat} (h : j < ((waitL i a s).take 8).length) : ((waitL i a s).take 8).getD j [] = msgL i (a.toNat + j) := by
  rw [List.length_take, waitL_len] at h
  rw [List.getD_eq_getElem?_getD, List.getElem?_take, if_pos (by omega)]
  unfold waitL
  rw [List.getElem?_map, List.getElem?_range' (by omega)]
  simp
/-- What a packet's messages add to what was delivered. -/
theorem recv_msgs {i : Nat} {a n : Int} {s : Nat} (h0 : 0 ≤ a) (h : a ≤ n) : ∀ j, j ≤ ((waitL i a s).take 8).length →
    recv a ((waitL i a s).take 8) n [] j = (max n (a + j), (List.range' n.toNat (max n (a + j) - n).toNat).map (msgL i))
  | 0, _ => by
    rw [show max n (a + ((0 : Nat) : Int)) = n by omega]
    simp [recv]
  | j + 1, hj => by
    have ih := recv_msgs (i := i) (s := s) h0 h j (by omega)
    by_cases e : n ≤ a + j
    · have e1 : max n (a + (j : Int)) = a + j := by omega
      rw [e1] at ih
      rw [recv_yes (by rw [ih]), ih]
      dsimp only
      have e2 : max n (a + ((j + 1 : Nat) : Int)) = a + j + 1 := by omega
      rw [e2, waitL_get (by omega), show (a + (j : Int) + 1 - n).toNat = (a + (j : Int) - n).toNat + 1 by omega, List.range'_1_concat, List.map_append]
      rw [show n.toNat + (a + (j : Int) - n).toNat = a.toNat + j by omega]
      rfl
    · have e1 : max n (a + (j : Int)) = n := by omega
      rw [e1] at ih
      rw [recv_no (by rw [ih]; dsimp only; omega), ih]
      have e2 : max n (a + ((j + 1 : Nat) : Int)) = n := by omega
      rw [e2]
structure EP where
  a : Int
  c : Int
  ws : List FL
  wA : Option Addr
  wc : Nat
  wE : Grp
  P : Grp
/-- An end 'i' with 's' messages sent, all of them acknowledged or waiting. -/
def EP.ok (X : EP) (i s : Nat) : Prop := OS X.wA X.ws.length X.wc 29 1 (X.ws.flatMap encB) X.wE ∧ (∀ f ∈ X.ws, BlIn X.P f) ∧ X.ws.map (·.bs) = waitL i X.a s ∧ 0 ≤ X.a ∧ X.a ≤ s ∧ 0 ≤ X.c
def Rel (X0 X1 : EP) (s0 s1 : Nat) : Prop := X0.a ≤ X1.c ∧ X1.c ≤ s0 ∧ X1.a ≤ X0.c ∧ X0.c ≤ s1
/-- A packet of the past. -/
def Good (X0 X1 : EP) (s0 s1 : Nat) (q : Int × Int × List Int) : Prop :=
  (∃ (c a : Int) (s : Nat), q = (0, 1, pkL 0 c a s) ∧ 0 ≤ c ∧ c ≤ X0.c ∧ 0 ≤ a ∧ a ≤ X0.a ∧ a ≤ s ∧ s ≤ s0) ∨ (∃ (c a : Int) (s : Nat), q = (1, 0, pkL 1 c a s) ∧ 0 ≤ c ∧ c ≤ X1.c ∧ 0 ≤ a ∧ a ≤ X1.a ∧ a ≤ s ∧ s ≤ s1)
theorem Good.mono {X0 X1 Y0 Y1 : EP} {s0 s1 r0 r1 : Nat} {q : Int × Int × List Int} (h : Good X0 X1 s0 s1 q) (h1 : X0.c ≤ Y0.c) (h2 : X0.a ≤ Y0.a) (h3 : X1.c ≤ Y1.c) (h4 : X1.a ≤ Y1.a) (h5 : s0 ≤ r0) (h6 : s1 ≤ r1) : Good Y0 Y1 r0 r1 q := by
  rcases h with ⟨c, a, s, e, h⟩ | ⟨c, a, s, e, h⟩
  · exact .inl ⟨c, a, s, e, by omega⟩
  · exact .inr ⟨c, a, s, e, by omega⟩
theorem EP.len {X : EP} {i s : Nat} (h : X.ok i s) : X.a + (X.ws.length : Int) = s := by
  have := congrArg List.length h.2.2.1
  rw [List.length_map, waitL_len] at this
  have h1 := h.2.2.2.1
  have h2 := h.2.2.2.2.1
  omega
theorem EP.out {X : EP} {i s : Nat} (h : X.ok i s) : pktOf X.c.toNat X.a.toNat (X.ws.map (·.bs)) = pkL i X.c X.a s := by rw [h.2.2.1]; rfl
/-- What an end has done with a packet. -/
def Dn (f : FL) (a c : Int) : Prop := (parse f.bs.length f.bs).ack ≤ a ∧ (parse f.bs.length f.bs).first + ((parse f.bs.length f.bs).ms.length : Int) ≤ c
def DnE (X0 X1 : EP) (f : FL) : Prop := if f.dst = 0 then Dn f X0.a X0.c else Dn f X1.a X1.c
theorem Dn.mono {f : FL} {a c b d : Int} (h : Dn f a c) (h1 : a ≤ b) (h2 : c ≤ d) : Dn f b d := ⟨Int.le_trans h.1 h1, Int.le_trans h.2 h2⟩
theorem DnE.mono {X0 X1 Y0 Y1 : EP} {f : FL} (h : DnE X0 X1 f) (h1 : X0.c ≤ Y0.c) (h2 : X0.a ≤ Y0.a) (h3 : X1.c ≤ Y1.c) (h4 : X1.a ≤ Y1.a) : DnE Y0 Y1 f := by
  unfold DnE at h ⊢
  split at h
  · rw [if_pos (by assumption)]; exact h.mono h2 h1
  · rw [if_neg (by assumption)]; exact h.mono h4 h3
structure NP where
  fs : List FL
  A : Option Addr
  c : Nat
  E : Grp
  PG : Grp
  sl : List FL
def NP.ok (Y : NP) (ds : List DD) (step : Int) : Prop := OS Y.A Y.fs.length Y.c 133 5 (Y.fs.flatMap encFl) Y.E ∧ (∀ f ∈ Y.fs, FlIn Y.PG f) ∧ NJ ds Y.sl Y.fs step ∧ Y.fs.length ≤ 1001 * Y.sl.length
/-- A packet that no deed is for arrives in the step in which it was sent. -/
theorem arrive_now {ds : List DD} {sl fs : List FL} {k : Nat} {step : Int} (he : (fs.take k).map FL.pk = ((ems ds sl).filter (fun q => decide (q.1 = step + 1))).map (·.2)) {num : Nat} (hn : num < sl.length) (hd : (sl.getD num default).due = step) (hno : ∀ d ∈ ds, d.packet ≠ num) :
    ∃ f ∈ fs.take k, f.pk = (sl.getD num default).pk := by
  have ht : step + 1 ∈ timesOf ds num (sl.getD num default).due := by
    have h1 : ∀ (p : DD → Bool), (∀ d, p d = true → d.packet = num) → ds.filter p = [] := fun p hp => List.filter_eq_nil_iff.2 fun d hh => fun h2 => hno d hh (hp d h2)
    have h2 : lostOf ds num = false := by
      unfold lostOf
      rw [List.any_eq_false]
      intro d hh h2
      exact hno d hh (by simpa using (of_decide_eq_true h2).1)
    unfold timesOf
    rw [h2]
    unfold delayOf
    rw [h1 _ (fun d h => (of_decide_eq_true h).1), hd]
    simp
  have hm : (step + 1, (sl.getD num default).pk) ∈ ems ds sl := by
    unfold ems emsTo
    exact List.mem_flatMap.2 ⟨num, by simpa using hn, List.mem_map.2 ⟨_, ht, rfl⟩⟩
  have hm2 : (sl.getD num default).pk ∈ ((ems ds sl).filter (fun q => decide (q.1 = step + 1))).map (·.2) := List.mem_map.2 ⟨_, List.mem_filter.2 ⟨hm, by simp⟩, rfl⟩
  rw [← he] at hm2
  obtain ⟨f, hf, e⟩ := List.mem_map.1 hm2
  exact ⟨f, hf, e⟩
theorem arr_good {ds : List DD} {sl fs : List FL} {k : Nat} {step : Int} {X0 X1 : EP} {s0 s1 : Nat} (he : (fs.take k).map FL.pk = ((ems ds sl).filter (fun q => decide (q.1 = step + 1))).map (·.2)) (hg : ∀ x ∈ sl, Good X0 X1 s0 s1 x.pk) : ∀ f ∈ fs.take k, Good X0 X1 s0 s1 f.pk := by
  intro f hf
  have h1 : f.pk ∈ (fs.take k).map FL.pk := List.mem_map_of_mem hf
  rw [he] at h1
  obtain ⟨q, hq, e⟩ := List.mem_map.1 h1
  have hq := (List.mem_filter.1 hq).1
  unfold ems emsTo at hq
  obtain ⟨i, hi, hq⟩ := List.mem_flatMap.1 hq
  obtain ⟨t, _, e2⟩ := List.mem_map.1 hq
  rw [← e, ← e2]
  exact hg _ (getD_memF (by simpa using hi))
/-- How far both ends are, 's' steps after the start, if every deed is for a packet before 400. -/
def S0L (l : Int) (many : Nat) : Int := max (l / 2 + 1) many
def Lv (ds : List DD) (l : Int) (many : Nat) (s : Int) (X0 X1 : EP) : Prop := (∀ d ∈ ds, d.packet < 400) → ∀ d : Int, 0 ≤ d → s = S0L l many + d → min (8 * (d / 2)) many ≤ X0.a ∧ min (8 * (d / 2)) many ≤ X1.a ∧ min (8 * ((d + 1) / 2)) many ≤ X0.c ∧ min (8 * ((d + 1) / 2)) many ≤ X1.c
theorem dn_pk {f x : FL} {a c : Int} (h : Dn f a c) (e : f.pk = x.pk) : Dn x a c := by
  have : f.bs = x.bs := congrArg (fun q => q.2.2) e
  unfold Dn at h ⊢
  rw [← this]; exact h
/-- One step more. -/
theorem Lv.step {ds : List DD} {l : Int} {many : Nat} {s : Nat} {X0 X1 Y0 Y1 : EP} {sl fs : List FL} {k : Nat} (hl : ∀ d ∈ ds, d.packet < 400 → d.packet ≤ l) (h0 : 0 ≤ l) (hm : many ≤ 31)
    (h : Lv ds l many s X0 X1) (ha0 : 0 ≤ X0.a ∧ X0.a ≤ min (s + 1) many) (ha1 : 0 ≤ X1.a ∧ X1.a ≤ min (s + 1) many) (hc0 : 0 ≤ X0.c ∧ X0.c ≤ min (s + 1) many) (hc1 : 0 ≤ X1.c ∧ X1.c ≤ min (s + 1) many)
    (he : (fs.take k).map FL.pk = ((ems ds sl).filter (fun q => decide (q.1 = (s : Int) + 1))).map (·.2)) (hn : sl.length = 2 * s + 2)
    (hx0 : (sl.getD (2 * s) default).due = s ∧ (sl.getD (2 * s) default).pk = (0, 1, pkL 0 X0.c X0.a (min (s + 1) many))) (hx1 : (sl.getD (2 * s + 1) default).due = s ∧ (sl.getD (2 * s + 1) default).pk = (1, 0, pkL 1 X1.c X1.a (min (s + 1) many)))
    (hd : ∀ f ∈ fs.take k, DnE Y0 Y1 f) (hy0 : 0 ≤ Y0.a ∧ 0 ≤ Y0.c) (hy1 : 0 ≤ Y1.a ∧ 0 ≤ Y1.c) : Lv ds l many (s + 1) Y0 Y1 := by
  intro hall d hd0 hsd
  by_cases e : d = 0
  · subst e
    rw [show (8 * ((0 : Int) / 2)) = 0 from rfl, show (8 * (((0 : Int) + 1) / 2)) = 0 from rfl]
    omega
  · have hs : S0L l many ≤ s := by omega
    have hS : l / 2 + 1 ≤ S0L l many ∧ (many : Int) ≤ S0L l many := by unfold S0L; omega
    have hno : ∀ (q : Nat), 2 * s ≤ q → ∀ x ∈ ds, x.packet ≠ q := fun q hq x hx => by
      have := hl x hx (hall x hx)
      omega
    have hl2 := h hall (d - 1) (by omega) (by omega)
    obtain ⟨f0, hf0, e0⟩ := arrive_now he (num := 2 * s) (by omega) hx0.1 (hno _ (by omega))
    obtain ⟨f1, hf1, e1⟩ := arrive_now he (num := 2 * s + 1) (by omega) hx1.1 (hno _ (by omega))
    have hmn : min (s + 1) many = many := by omega
    rw [hmn] at hx0 hx1 ha0 ha1 hc0 hc1
    have k0 := hd f0 hf0
    have k1 := hd f1 hf1
    have d0 : f0.dst = 1 := congrArg (fun q => q.2.1) (e0.trans hx0.2)
    have d1 : f1.dst = 0 := congrArg (fun q => q.2.1) (e1.trans hx1.2)
    have b0 : f0.bs = pkL 0 X0.c X0.a many := congrArg (fun q => q.2.2) (e0.trans hx0.2)
    have b1 : f1.bs = pkL 1 X1.c X1.a many := congrArg (fun q => q.2.2) (e1.trans hx1.2)
    unfold DnE at k0 k1
    rw [if_neg (by omega)] at k0
    rw [if_pos d1] at k1
    unfold Dn at k0 k1
    rw [b0, parse_pkL (by omega) (by omega)] at k0
    rw [b1, parse_pkL (by omega) (by omega)] at k1
    dsimp only at k0 k1
    rw [List.length_take, waitL_len] at k0 k1
    omega
theorem recvs_len {i : Nat} {n m : Int} : ((List.range' n.toNat (m - n).toNat).map (msgL i)).length = (m - n).toNat := by simp
theorem recvs_get {i : Nat} {n m : Int} {z : Nat} (h : z < (m - n).toNat) : ((List.range' n.toNat (m - n).toNat).map (msgL i)).getD z [] = msgL i (n.toNat + z) := by
  rw [List.getD_eq_getElem?_getD, List.getElem?_map, List.getElem?_range' h]
  simp
theorem serr2 {sent src dst : Int} {n : Nat} (h : (src = 0 ∧ dst = 1) ∨ (src = 1 ∧ dst = 0)) (hn : n ≤ 4000) (hs : sent < 32768) : sendErr 2 sent src dst n = 0 := by
  unfold sendErr; rw [if_neg (by omega), if_neg (by omega), if_neg (by omega)]
theorem FlIn.bb {PG : Grp} {f : FL} (h : FlIn PG f) {V : Mem} {L : List Grp} {j : Nat} (hj : nth L j = some PG) : BB (ext V L) f.A f.n f.c f.bs := ⟨h.1, h.2.1, (h.cels hj).down, h.2.2.2.2⟩
def hasLate (ds : List DD) : Prop := ∃ d ∈ ds, 400 ≤ d.packet
instance (ds : List DD) : Decidable (hasLate ds) := by unfold hasLate; infer_instance
theorem noLate {ds : List DD} (h : ¬ hasLate ds) : ∀ d ∈ ds, d.packet < 400 := fun d hd => Int.not_le.1 fun h2 => h ⟨d, hd, h2⟩

theorem late1_c {V : Mem} (d : DD) : CallS Try.prog 40 [.agg #[.int .i64 d.kind, .int .i64 d.packet, .int .i64 d.n]].toArray V [] (fun r L' => r = .bool (decide (400 ≤ d.packet)) ∧ L' = []) := by
  refine callS Try.func40 rfl rfl (fun w0 => ?_)
  refine s_seq ?_
  refine s_region ?_
  refine o_box (v := (.agg #[(.int _ _), (.int _ _), (.int _ _)])) rfl rfl rfl (fun b1 => ?_)
  refine o_val rfl rfl rfl (y_assign (v := (.bool _)) rfl) ?_
  refine o_nil ?_
  refine s_seq ?_
  refine s_region ?_
  refine o_val rfl rfl rfl (y_field0 Try.runUnderlying36 rfl Try.sizeOf3 rfl rfl) ?_
  refine o_val rfl rfl rfl (y_load Try.isAgg3 rfl (cel_own 0 rfl rfl)) ?_
  refine o_val rfl rfl rfl (y_geq rfl rfl) ?_
  refine o_val rfl rfl rfl (y_assign (v := (.bool _)) rfl) ?_
  refine o_nil ?_
  refine s_ret ?_
  exact ⟨_, _, res1 rfl rfl, ⟨rfl, rfl⟩, sub_front ⟨_, rfl⟩⟩

theorem IndexD_c {V : Mem} (A : Option Addr) (n c : Nat) (ds : List DD) (h : Cels V [] A (ds.flatMap encD)) (hn : ds.length = n) (hb : n ≤ 140737488355328) : CallS Try.prog 81 [.slice A n c, .func (.func 40) #[] #[]].toArray V [] (fun r L' => ∃ k, r = .int .i64 k ∧ ((0 ≤ k ∧ ∃ j, j < ds.length ∧ 400 ≤ (ds.getD j default).packet) ∨ (k < 0 ∧ ∀ j, j < ds.length → ¬ 400 ≤ (ds.getD j default).packet)) ∧ L' = []) := by
  refine callS Try.func81 rfl rfl (fun w0 => ?_)
  refine s_seq ?_
  refine s_region ?_
  refine o_val rfl rfl rfl (y_assign (v := (.int _ _)) rfl) ?_
  refine o_nil ?_
  refine s_seq ?_
  refine s_seq ?_
  refine s_region ?_
  refine o_val rfl rfl rfl (y_move (v := (.slice _ _ _)) rfl) ?_
  refine o_val rfl rfl rfl (y_len Try.runUnderlying22 rfl) ?_
  refine o_val rfl rfl rfl (y_move (v := (.int _ _)) rfl) ?_
  refine o_nil ?_
  refine s_block ?_
  refine s_loop (γ := Nat) (fun g => [(0, .slice A n c), (1, .func (.func 40) #[] #[]), (7, .int .i64 n), (8, .int .i64 g)]) (fun g => []) (fun g => g ≤ n ∧ ∀ j, j < g → ¬ 400 ≤ (ds.getD j default).packet) (fun g => n - g) (0) ?_ ⟨rfl, rfl, rfl, rfl, trivial⟩ (sub_front ⟨_, rfl⟩) ?_
  · exact ⟨Nat.zero_le _, fun j hj => absurd hj (Nat.not_lt_zero j)⟩
  · intro g _f hI
    obtain ⟨hg, hall⟩ := hI
    refine s_seq ?_
    refine s_region ?_
    refine o_val rfl rfl rfl (y_lss rfl rfl) ?_
    refine o_nil ?_
    refine s_seq ?_
    refine s_if rfl (fun h1 => ?_) (fun h2 => ?_)
    · refine s_skip ?_
      refine s_seq ?_
      refine s_block ?_
      refine s_seq ?_
      refine s_region ?_
      refine o_val rfl rfl rfl (y_move (v := (.int _ _)) rfl) ?_
      refine o_val rfl rfl rfl (y_assign (v := (.int _ _)) rfl) ?_
      refine o_nil ?_
      refine s_seq ?_
      refine s_region ?_
      refine o_val rfl rfl rfl (y_move (v := (.func _ _ _)) rfl) ?_
      refine o_val rfl rfl rfl (y_move (v := (.slice _ _ _)) rfl) ?_
      refine o_val rfl rfl rfl (y_move (v := (.int _ _)) rfl) ?_
      refine o_val rfl rfl rfl (y_indexAddr Try.runUnderlying22 Try.sizeOf36 (some_at (sz := 2) encD_len (i := 0) h (by omega)) rfl rfl (by omega)) ?_
      refine o_val rfl rfl rfl (y_loads (cs := [_, _, _]) Try.isAgg36 Try.sizeOf36 rfl (by unfold idx; rw [Option.isSome_map]; exact some_at (sz := 2) encD_len (i := 0) h (by omega)) rfl (cels_at (sz := 3) encD_len h.here (by omega))) ?_
      refine o_fnv' 0 (d := 16) rfl Try.call40 rfl rfl rfl (late1_c (ds.getD g default)) ?_
      rintro _ _ ⟨rfl, rfl⟩
      refine o_nil ?_
      refine s_if rfl (fun h3 => ?_) (fun h4 => ?_)
      · refine s_seq ?_
        refine s_region ?_
        refine o_val rfl rfl rfl (y_move (v := (.int _ _)) rfl) ?_
        refine o_val rfl rfl rfl (y_assign (v := (.int _ _)) rfl) ?_
        refine o_nil ?_
        refine s_ret ?_
        exact ⟨_, _, res1 rfl rfl, ⟨_, rfl, .inl ⟨by omega, g, by omega, by assumption⟩, rfl⟩, sub_front ⟨_, rfl⟩⟩
      · refine s_skip ?_
        refine s_region ?_
        refine o_val rfl rfl rfl (y_add rfl rfl (by simp only [inK]; omega)) ?_
        refine o_val rfl rfl rfl (y_move (v := (.int _ _)) rfl) ?_
        refine o_nil ?_
        exact ⟨g + 1, (by first | omega | (dsimp only; omega)), ⟨by omega, fun j hj => if e : j = g then by (rw [e]; assumption) else hall j (by omega)⟩, ⟨rfl, rfl, rfl, (congrArg (Value.int _) (by omega)), trivial⟩, sub_front ⟨_, rfl⟩⟩
    · refine s_exit ?_
      refine s_seq ?_
      refine s_region ?_
      refine o_val rfl rfl rfl (y_assign (v := (.int _ _)) rfl) ?_
      refine o_nil ?_
      refine s_ret ?_
      exact ⟨_, _, res1 rfl rfl, ⟨_, rfl, .inr ⟨by omega, fun j hj => hall j (by omega)⟩, rfl⟩, sub_front ⟨_, rfl⟩⟩

theorem ContD_c {V : Mem} (A : Option Addr) (n c : Nat) (ds : List DD) (h : Cels V [] A (ds.flatMap encD)) (hn : ds.length = n) (hb : n ≤ 140737488355328) : CallS Try.prog 39 [.slice A n c, .func (.func 40) #[] #[]].toArray V [] (fun r L' => r = .bool (decide (hasLate ds)) ∧ L' = []) := by
  refine callS Try.func39 rfl rfl (fun w0 => ?_)
  refine s_seq ?_
  refine s_region ?_
  refine o_val rfl rfl rfl (y_assign (v := (.bool _)) rfl) ?_
  refine o_nil ?_
  refine s_seq ?_
  refine s_region ?_
  refine o_val rfl rfl rfl (y_move (v := (.slice _ _ _)) rfl) ?_
  refine o_val rfl rfl rfl (y_move (v := (.func _ _ _)) rfl) ?_
  refine o_fn 0 (d := 7) rfl Try.call81 (IndexD_c _ _ _ ds h.here.down hn hb) rfl ?_
  rintro _ _ ⟨k, rfl, hk, rfl⟩
  refine o_val rfl rfl rfl (y_geq rfl rfl) ?_
  refine o_val rfl rfl rfl (y_assign (v := (.bool _)) rfl) ?_
  refine o_nil ?_
  refine s_ret ?_
  have hkd : (0 ≤ k) ↔ hasLate ds := by
    rcases hk with ⟨h1, j, hj, h3⟩ | ⟨h1, h2⟩
    · exact ⟨fun _ => ⟨_, getD_memD (k := j) hj, h3⟩, fun _ => h1⟩
    · refine ⟨fun h => by omega, fun ⟨d, hd, h4⟩ => ?_⟩
      obtain ⟨j, hj, rfl⟩ := List.mem_iff_getElem.1 hd
      have := h2 j hj
      rw [List.getD_eq_getElem?_getD, List.getElem?_eq_getElem hj] at this
      exact absurd h4 this
  exact ⟨_, _, res1 rfl rfl, ⟨congrArg Value.bool (decide_eq_decide.2 hkd), rfl⟩, sub_front ⟨_, rfl⟩⟩

end Go.Proofs.Ytdgmocibjjkghaa.K

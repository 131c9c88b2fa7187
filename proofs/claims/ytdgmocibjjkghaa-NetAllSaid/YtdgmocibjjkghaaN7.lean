/- Walk: the law that what is not lost arrives once, and once more for each deed that doubles it. No condition beyond what each statement names. -/
import Derived.Test.YtdgmocibjjkghaaProg
import Derived.Test.YtdgmocibjjkghaaK13
import Derived.Test.YtdgmocibjjkghaaB9
import Derived.Test.YtdgmocibjjkghaaN1
import Derived.Test.YtdgmocibjjkghaaN2
import Derived.Test.YtdgmocibjjkghaaN3
import Derived.Test.YtdgmocibjjkghaaN4
import Derived.Test.YtdgmocibjjkghaaN5
import Derived.Test.YtdgmocibjjkghaaN6
set_option linter.unusedVariables false
set_option linter.unusedSimpArgs false
set_option maxRecDepth 100000
set_option maxHeartbeats 1000000
namespace Go.Proofs.Ytdgmocibjjkghaa.K
open Go.RowKit

theorem and31 (x : Int) : 0 ≤ bAnd .i64 x 31 ∧ bAnd .i64 x 31 ≤ 31 := and_low' x 5 31 rfl (by omega)
def pkOf (i : Nat) : Int × Int × List Int := ((i : Int) % 3, ((i : Int) + 1) % 3, [(i : Int)])
def mkS (i : Nat) : FL := ⟨0, 0, (i : Int) % 3, ((i : Int) + 1) % 3, none, 0, 0, [(i : Int)]⟩
def sl (n : Nat) : List FL := (List.range n).map mkS
theorem sl_len (n : Nat) : (sl n).length = n := by simp [sl]
theorem sl_succ (n : Nat) : sl (n + 1) = sl n ++ [mkS n] := by simp [sl, List.range_succ]
theorem sl_at {n k : Nat} (h : k < n) : (sl n).getD k default = mkS k := by simp [sl, List.getD_eq_getElem?_getD, h]
def cnt (l : List (Int × Int × Int × List Int)) (i : Nat) : Nat := l.countP (fun q => decide (q.2.2.2 = [(i : Int)]))
def cntF (l : List FL) (i : Nat) : Nat := l.countP (fun f => decide (f.bs = [(i : Int)]))
theorem cnt_emsTo (ds : List DD) (n i : Nat) : ∀ k, k ≤ n → cnt (emsTo ds (sl n) k) i = if i < k then (timesOf ds i 0).length else 0
  | 0, _ => by simp [emsTo, cnt]
  | k + 1, h => by
    rw [ems_step, cnt, List.countP_append, sl_at (show k < n by omega)]
    have ih := cnt_emsTo ds n i k (by omega)
    unfold cnt at ih
    rw [ih, List.countP_map]
    by_cases e : i = k
    · subst e
      rw [if_neg (Nat.lt_irrefl _), if_pos (by omega), List.countP_eq_length.2 (fun t _ => by simp [Function.comp, mkS, FL.pk])]
      simp [mkS]
    · rw [List.countP_eq_zero.2 (fun t _ => by simp [Function.comp, mkS, FL.pk]; omega)]
      by_cases h2 : i < k
      · rw [if_pos h2, if_pos (by omega)]; rfl
      · rw [if_neg h2, if_neg (by omega)]
theorem cnt_ems (ds : List DD) {n i : Nat} (h : i < n) : cnt (ems ds (sl n)) i = (timesOf ds i 0).length := by
  unfold ems; rw [sl_len, cnt_emsTo ds n i n (Nat.le_refl n), if_pos h]
theorem ems_mem {ds : List DD} {n : Nat} {q : Int × Int × Int × List Int} (h : q ∈ ems ds (sl n)) : ∃ i, i < n ∧ q.2 = pkOf i ∧ q.1 ∈ timesOf ds i 0 := by
  unfold ems emsTo at h
  obtain ⟨i, hi, hq⟩ := List.mem_flatMap.1 h
  rw [sl_len] at hi
  have hi' : i < n := by simpa using hi
  rw [sl_at hi'] at hq
  obtain ⟨t, ht, rfl⟩ := List.mem_map.1 hq
  exact ⟨i, hi', rfl, ht⟩
theorem times_top {ds : List DD} {num : Int} (hd : ∀ d ∈ ds, d.ok) : ∀ t ∈ timesOf ds num 0, 0 < t ∧ t ≤ 51 + 50 * ds.length := by
  intro t ht
  have h0 := times_late hd t ht
  refine ⟨h0, ?_⟩
  unfold timesOf at ht
  split at ht
  · simp at ht
  · have h1 := delay_bd (num := num) hd
    rcases List.mem_cons.1 ht with rfl | ht
    · omega
    · obtain ⟨c, hc, rfl⟩ := List.mem_map.1 ht
      have := cop_bd (num := num) hd c hc
      omega
theorem cnt_split (l : List (Int × Int × Int × List Int)) (s : Int) (i : Nat) : cnt (l.filter (fun q => decide (q.1 ≤ s))) i + cnt (l.filter (fun q => decide (q.1 = s + 1))) i = cnt (l.filter (fun q => decide (q.1 ≤ s + 1))) i := by
  unfold cnt
  induction l with
  | nil => rfl
  | cons a l ih =>
    rw [List.filter_cons, List.filter_cons, List.filter_cons]
    by_cases h1 : a.1 ≤ s
    · rw [if_pos (by simpa using h1), if_neg (by simp; omega), if_pos (by simp; omega), List.countP_cons, List.countP_cons]; omega
    · by_cases h2 : a.1 = s + 1
      · rw [if_neg (by simpa using h1), if_pos (by simpa using h2), if_pos (by simp; omega), List.countP_cons, List.countP_cons]; omega
      · rw [if_neg (by simpa using h1), if_neg (by simpa using h2), if_neg (by simp; omega)]; exact ih
/-- What has been counted up to a step. -/
def Cn (ds : List DD) (n : Nat) (s : Int) (cs : List Int) : Prop := cs.length = n ∧ ∀ i, i < n → cs.getD i 0 = cnt ((ems ds (sl n)).filter (fun q => decide (q.1 ≤ s))) i
theorem Cn.zero (ds : List DD) (hd : ∀ d ∈ ds, d.ok) (n : Nat) : Cn ds n 0 (List.replicate n 0) := by
  refine ⟨by simp, fun i hi => ?_⟩
  rw [List.filter_eq_nil_iff.2 (fun q hq => by
    obtain ⟨j, _, _, ht⟩ := ems_mem hq
    have := (times_top hd _ ht).1
    simp; omega)]
  simp [cnt, List.getD_eq_getElem?_getD, hi]
/-- Part of a step's packets counted. -/
def Cj (ds : List DD) (n : Nat) (s : Int) (fs : List FL) (cs : List Int) : Prop := cs.length = n ∧ ∀ i, i < n → cs.getD i 0 = cnt ((ems ds (sl n)).filter (fun q => decide (q.1 ≤ s))) i + cntF fs i
theorem Cn.start {ds : List DD} {n : Nat} {s : Int} {cs : List Int} (h : Cn ds n s cs) : Cj ds n s [] cs := ⟨h.1, fun i hi => by rw [h.2 i hi]; simp [cntF]⟩
theorem Cj.step {ds : List DD} {n : Nat} {s : Int} {fs : List FL} {cs : List Int} {f : FL} {v : Nat} (h : Cj ds n s fs cs) (hf : f.bs = [(v : Int)]) (hv : v < n) : Cj ds n s (fs ++ [f]) (cs.set v (cs.getD v 0 + 1)) := by
  refine ⟨by rw [List.length_set]; exact h.1, fun i hi => ?_⟩
  rw [getD_set _ _ _ _ (by rw [h.1]; exact hv)]
  have e : cntF (fs ++ [f]) i = cntF fs i + if i = v then 1 else 0 := by
    unfold cntF
    rw [List.countP_append, List.countP_cons, List.countP_nil, hf]
    by_cases e : i = v
    · subst e; simp
    · rw [if_neg e, if_neg (by simp; omega)]
  rw [e]
  by_cases e2 : i = v
  · subst e2; rw [if_pos rfl, if_pos rfl, h.2 i hi]; omega
  · rw [if_neg e2, if_neg e2, h.2 i hi]; omega
theorem Cj.done {ds : List DD} {n : Nat} {s : Int} {fs : List FL} {cs : List Int} (h : Cj ds n s fs cs) (he : fs.map FL.pk = ((ems ds (sl n)).filter (fun q => decide (q.1 = s + 1))).map (·.2)) : Cn ds n (s + 1) cs := by
  refine ⟨h.1, fun i hi => ?_⟩
  rw [h.2 i hi, ← cnt_split]
  have e1 : cntF fs i = (fs.map FL.pk).countP (fun p => decide (p.2.2 = [(i : Int)])) := by
    unfold cntF; rw [List.countP_map]; rfl
  rw [e1, he, List.countP_map]
  unfold cnt
  rw [show ((fun p : Int × Int × List Int => decide (p.2.2 = [(i : Int)])) ∘ fun q : Int × Int × Int × List Int => q.2) = fun q => decide (q.2.2.2 = [(i : Int)]) from rfl]
  omega
theorem Cn.full {ds : List DD} (hd : ∀ d ∈ ds, d.ok) {n : Nat} {s : Int} {cs : List Int} (h : Cn ds n s cs) (hs : 51 + 50 * (ds.length : Int) ≤ s) {i : Nat} (hi : i < n) : cs.getD i 0 = (timesOf ds i 0).length := by
  rw [h.2 i hi, List.filter_eq_self.2 (fun q hq => by
    obtain ⟨j, _, _, ht⟩ := ems_mem hq
    have := (times_top hd _ ht).2
    simp; omega), cnt_ems ds hi]
theorem NJ.empty {ds : List DD} (hd : ∀ d ∈ ds, d.ok) {n : Nat} {fs : List FL} {s : Int} (h : NJ ds (sl n) fs s) (hs : 51 + 50 * (ds.length : Int) ≤ s) : fs.length = 0 := by
  rw [h.len, List.filter_eq_nil_iff.2 (fun q hq => by
    obtain ⟨j, _, _, ht⟩ := ems_mem hq
    have := (times_top hd _ ht).2
    simp; omega)]
  rfl
theorem arr_mem {ds : List DD} {n : Nat} {fs : List FL} {s : Int} (he : fs.map FL.pk = ((ems ds (sl n)).filter (fun q => decide (q.1 = s + 1))).map (·.2)) {f : FL} (hf : f ∈ fs) : ∃ i : Nat, i < n ∧ f.src = (i : Int) % 3 ∧ f.dst = ((i : Int) + 1) % 3 ∧ f.bs = [(i : Int)] := by
  have h1 : f.pk ∈ fs.map FL.pk := List.mem_map_of_mem hf
  rw [he] at h1
  obtain ⟨q, hq, e⟩ := List.mem_map.1 h1
  obtain ⟨i, hi, h2, _⟩ := ems_mem (List.mem_filter.1 hq).1
  rw [h2] at e
  simp only [pkOf, FL.pk, Prod.mk.injEq] at e
  exact ⟨i, hi, e.1.symm, e.2.1.symm, e.2.2.symm⟩
theorem serr0 (i : Nat) (h : i ≤ 31) : sendErr 3 (i : Nat) ((i : Int) % 3) (((i : Int) + 1) % 3) 1 = 0 := by
  unfold sendErr; rw [if_neg (by omega), if_neg (by omega), if_neg (by omega)]
theorem times_count (ds : List DD) (num : Int) : ((timesOf ds num 0).length : Int) = if lostOf ds num then 0 else 1 + (copiesOf ds num).length := by
  unfold timesOf
  split <;> simp
  omega
structure NA1 where
  i : Nat
  fs : List FL
  A : Option Addr
  c : Nat
  E : Grp
  PG : Grp
structure NA2 where
  s : Nat
  fs : List FL
  A : Option Addr
  c : Nat
  E : Grp
  cs : List Int
  CE : Grp
structure NA3 where
  j : Nat
  cs : List Int
  CE : Grp
theorem take_snocF {l : List FL} {k : Nat} (hk : k < l.length) : l.take (k + 1) = l.take k ++ [l.getD ((k : Nat) : Int).toNat default] := take_snoc hk

theorem cnt_le2 {ds : List DD} {n : Nat} {s : Int} {i : Nat} : cnt ((ems ds (sl n)).filter (fun q => decide (q.1 ≤ s))) i ≤ n * (ds.length + 1) := by
  unfold cnt
  refine Nat.le_trans List.countP_le_length (Nat.le_trans (List.length_filter_le _ _) ?_)
  have := ems_len ds (sl n) (sl n).length
  rw [sl_len] at this
  unfold ems
  rw [sl_len]; exact this

theorem NetAll_k0 (v0 : Int) (w : World) : (Instr.buildSlice 29 1 ([(0, (.int .u8 v0))] : List (Nat × Value)).toArray).run Try.prog w = .ok (.slice (some ⟨w.heap.size, 0, none⟩) 1 1) { w with heap := w.heap.push (.cells ([.int .u8 v0] : List Value).toArray 5 (0, 0)) } := by kernel_rfl
theorem NetAll_c {V : Mem} (N : Option Addr) (n c : Nat) (ds : List DD) (h : Cels V [] N (ds.flatMap encD)) (hn : ds.length = n) (hb : n ≤ 140737488355328) (x : Int) (hx : inK .i64 x) : CallS Try.prog 3 [.slice N n c, .int .i64 x].toArray V [] (fun r L' => r = .bool true ∧ L' = []) := by
  refine callS Try.func3 rfl rfl (fun w0 => ?_)
  refine s_seq ?_
  refine s_region ?_
  refine o_val rfl rfl rfl (y_assign (v := (.bool _)) rfl) ?_
  refine o_nil ?_
  refine s_seq ?_
  refine s_region ?_
  refine o_val rfl rfl rfl (y_move (v := (.slice _ _ _)) rfl) ?_
  refine o_fn 0 (d := 18) rfl Try.call12 (NewN_c 3 N n c ds h.here.down hn hb) rfl ?_
  rintro _ _ (⟨hbad, rfl, rfl⟩ | ⟨hgood, nb, dA, dc, DG, rfl, hod, rfl⟩)
  · refine o_val rfl rfl rfl (y_move (v := (.tuple #[(.pointer _), (.int _ _)])) rfl) ?_
    refine o_val rfl rfl rfl (y_extract (v := (.pointer _)) rfl rfl) ?_
    refine o_val rfl rfl rfl (y_extract (v := (.int _ _)) rfl rfl) ?_
    refine o_val rfl rfl rfl (y_assign (v := (.pointer _)) rfl) ?_
    refine o_val rfl rfl rfl (y_assign (v := (.int _ _)) rfl) ?_
    refine o_nil ?_
    refine s_seq ?_
    refine s_seq ?_
    refine s_region ?_
    refine o_fn 0 (d := 21) rfl Try.call13 (arrivesK_c) rfl ?_
    rintro _ _ ⟨rfl, rfl⟩
    refine o_val rfl rfl rfl (y_notb rfl) ?_
    refine o_val rfl rfl rfl (y_move (v := (.bool _)) rfl) ?_
    refine o_guard_yes rfl rfl ?_
    refine o_val rfl rfl rfl (y_move (v := (.int _ _)) rfl) ?_
    refine o_guard_yes rfl rfl ?_
    refine o_val rfl rfl rfl (y_neq rfl rfl) ?_
    refine o_val rfl rfl rfl (y_pick_f (v := (.bool _)) rfl rfl) ?_
    refine o_nil ?_
    refine s_forget [(0, (.slice _ _ _)), (1, (.int _ _)), (4, (.bool _)), (5, (.pointer _)), (26, (.bool _))] ⟨rfl, rfl, rfl, rfl, rfl, trivial⟩ (fun _f => ?_)
    refine s_if rfl (fun h1 => ?_) (fun h2 => ?_)
    · refine s_seq ?_
      refine s_region ?_
      refine o_fn 0 (d := 27) rfl Try.call13 (arrivesK_c) rfl ?_
      rintro _ _ ⟨rfl, rfl⟩
      refine o_val rfl rfl rfl (y_move (v := (.bool _)) rfl) ?_
      refine o_guard_yes rfl rfl ?_
      refine o_val rfl rfl rfl (y_move (v := (.pointer _)) rfl) ?_
      refine o_guard_yes rfl rfl ?_
      refine o_val rfl rfl rfl ((y_eql_ptr_nil (by kernel_rfl) rfl rfl).bt rfl) ?_
      refine o_val rfl rfl rfl (y_pick_t (v := (.bool _)) rfl rfl) ?_
      refine o_val rfl rfl rfl (y_assign (v := (.bool _)) rfl) ?_
      refine o_nil ?_
      refine s_ret ?_
      exact ⟨_, [], res1 rfl rfl, ⟨rfl, rfl⟩, sub_picks [] rfl⟩
    · exact absurd (Decidable.not_not.1 h2) hbad
  · obtain ⟨hends, hdn, hdk⟩ := errN_zero hgood
    have h31 := and31 x
    refine o_val rfl rfl rfl (y_move (v := (.tuple #[(.pointer _), (.int _ _)])) rfl) ?_
    refine o_val rfl rfl rfl (y_extract (v := (.pointer _)) rfl rfl) ?_
    refine o_val rfl rfl rfl (y_extract (v := (.int _ _)) rfl rfl) ?_
    refine o_val rfl rfl rfl (y_assign (v := (.pointer _)) rfl) ?_
    refine o_val rfl rfl rfl (y_assign (v := (.int _ _)) rfl) ?_
    refine o_nil ?_
    refine s_seq ?_
    refine s_seq ?_
    refine s_region ?_
    refine o_fn 0 (d := 21) rfl Try.call13 (arrivesK_c) rfl ?_
    rintro _ _ ⟨rfl, rfl⟩
    refine o_val rfl rfl rfl (y_notb rfl) ?_
    refine o_val rfl rfl rfl (y_move (v := (.bool _)) rfl) ?_
    refine o_guard_yes rfl rfl ?_
    refine o_val rfl rfl rfl (y_move (v := (.int _ _)) rfl) ?_
    refine o_guard_yes rfl rfl ?_
    refine o_val rfl rfl rfl (y_neq rfl rfl) ?_
    refine o_val rfl rfl rfl (y_pick_f (v := (.bool _)) rfl rfl) ?_
    refine o_nil ?_
    refine s_forget [(0, (.slice _ _ _)), (1, (.int _ _)), (4, (.bool _)), (5, (.pointer _)), (26, (.bool _))] ⟨rfl, rfl, rfl, rfl, rfl, trivial⟩ (fun _f => ?_)
    refine s_if rfl (fun h3 => ?_) (fun h4 => ?_)
    · exact absurd rfl h3
    · refine s_skip ?_
      refine s_seq ?_
      refine s_region ?_
      refine o_val rfl rfl rfl (y_move (v := (.int _ _)) rfl) ?_
      refine o_val rfl rfl rfl (y_and rfl rfl) ?_
      refine o_val rfl rfl rfl (y_assign (v := (.int _ _)) rfl) ?_
      refine o_nil ?_
      refine s_seq ?_
      refine s_seq ?_
      refine s_region ?_
      refine o_val rfl rfl rfl (y_move (v := (.int _ _)) rfl) ?_
      refine o_val rfl rfl rfl (y_move (v := (.int _ _)) rfl) ?_
      refine o_nil ?_
      refine s_block ?_
      refine s_group ?_
      refine s_group ?_
      refine s_loop (γ := NA1) (fun g => [(0, .slice N n c), (1, .int .i64 (bAnd .i64 x 31)), (5, .pointer (some ⟨nb, 0, none⟩)), (34, .int .i64 (bAnd .i64 x 31)), (35, .int .i64 g.i)]) (fun g => [netg nb 3 dA n dc 0 (g.i : Nat) g.A g.fs.length g.c, DG, g.E, g.PG]) (fun g => g.i ≤ (bAnd .i64 x 31).toNat ∧ OS g.A g.fs.length g.c 133 5 ((g.fs).flatMap encFl) g.E ∧ (∀ f ∈ g.fs, FlIn g.PG f) ∧ NJ ds (sl g.i) g.fs 0 ∧ g.fs.length ≤ 1001 * g.i) (fun g => (bAnd .i64 x 31).toNat - g.i) (NA1.mk 0 [] none 0 [] []) ?_ ⟨rfl, rfl, rfl, rfl, rfl, trivial⟩ (sub_front ⟨_, rfl⟩) ?_
      · exact ⟨Nat.zero_le _, OS.nil _ _, by simp, NJ.zero _ _, Nat.zero_le _⟩
      · intro g _f hI
        obtain ⟨hi, hof, hfin, hnj, hfl⟩ := hI
        refine s_seq ?_
        refine s_region ?_
        refine o_val rfl rfl rfl (y_lss rfl rfl) ?_
        refine o_nil ?_
        refine s_seq ?_
        refine s_if rfl (fun h5 => ?_) (fun h6 => ?_)
        · refine s_skip ?_
          refine s_seq ?_
          refine s_block ?_
          refine s_seq ?_
          refine s_region ?_
          refine o_val rfl rfl rfl (y_move (v := (.int _ _)) rfl) ?_
          refine o_val rfl rfl rfl (y_assign (v := (.int _ _)) rfl) ?_
          refine o_nil ?_
          refine s_seq ?_
          refine s_region ?_
          refine o_val rfl rfl rfl (y_move (v := (.pointer _)) rfl) ?_
          refine o_val rfl rfl rfl (y_move (v := (.int _ _)) rfl) ?_
          refine o_val rfl rfl rfl (y_rem rfl rfl (by omega)) ?_
          refine o_val rfl rfl rfl (y_move (v := (.int _ _)) rfl) ?_
          refine o_val rfl rfl rfl (y_add rfl rfl (by simp only [inK]; omega)) ?_
          refine o_val rfl rfl rfl (y_rem rfl rfl (by omega)) ?_
          refine o_val rfl rfl rfl (y_move (v := (.int _ _)) rfl) ?_
          refine o_val rfl rfl rfl (y_conv Try.runUnderlying3 Try.runUnderlying5 rfl (by simp only [inK]; omega)) ?_
          refine o_lit (vs := [(0, .int _ _)]) rfl rfl (NetAll_k0 _) (fun b7 => ?_)
          refine o_fn 4 (d := 47) rfl Try.call14 (SendN_c nb 3 dA n dc 0 (g.i : Nat) g.A g.fs.length g.c ds DG hod (by omega) hdk g.fs g.E hof (by omega) (by omega) (by omega) g.PG hfin ((g.i : Int) % 3) (((g.i : Int) + 1) % 3) _ 1 _ [(g.i : Int)] (cels_own (cs := ([(g.i : Int)] : List Int).map (.int .u8)) 0 rfl rfl).down rfl (by omega) (by simp; omega)) rfl ?_
          rintro _ _ (⟨hbad2, _, _⟩ | ⟨_, rfl, sA, sn, sc, sE, gs, xs, PG', hput, hkey, hos', hin', rfl⟩)
          · exact absurd (serr0 g.i (by omega)) hbad2
          · have hsn : sn = gs.length := by have := hos'.len; rw [flat_len encFl_len] at this; omega
            subst hsn
            have hnj2 := hnj.send hdk (mkS g.i) rfl hput (by rw [sl_len]; exact hkey)
            rw [← sl_succ] at hnj2
            have hgl : gs.length = g.fs.length + xs.length := by have := (puts_facts (step := 0) hput (fun x hx => times_late hdk _ (by rw [← key_due hkey]; exact List.mem_map_of_mem hx)) hnj.sorted hnj.late).2.2.2.length_eq; simpa using this
            have hxl : xs.length ≤ 1001 := by have h1 := congrArg List.length (key_due hkey); have h2 := times_len (ds := ds) (num := ((g.i : Nat) : Int)) (step := 0); simp at h1; omega
            refine o_val rfl rfl rfl (y_neq rfl rfl) ?_
            refine o_nil ?_
            refine s_if rfl (fun h8 => ?_) (fun h9 => ?_)
            · exact absurd rfl h8
            · refine s_skip ?_
              refine s_region ?_
              refine o_val rfl rfl rfl (y_add rfl rfl (by simp only [inK]; omega)) ?_
              refine o_val rfl rfl rfl (y_move (v := (.int _ _)) rfl) ?_
              refine o_nil ?_
              exact ⟨NA1.mk (g.i + 1) gs sA sc sE PG', (by first | omega | (dsimp only; omega)), ⟨by dsimp only; omega, hos', hin', hnj2, by dsimp only; omega⟩, ⟨rfl, rfl, rfl, rfl, (congrArg (Value.int .i64) (by dsimp only; omega)), trivial⟩, (sub_picks [0, 0, 0, 0] rfl)⟩
        · refine s_exit ?_
          refine s_seq ?_
          refine s_region ?_
          refine o_val rfl rfl rfl (y_move (v := (.int _ _)) rfl) ?_
          refine o_make (sz := 1) (bytes := 8) (n := (bAnd .i64 x 31).toNat) rfl Try.underlying30 Try.type3 rfl rfl rfl (congrArg (Value.int .i64) (Int.toNat_of_nonneg h31.1).symm) (congrArg (Value.int .i64) (Int.toNat_of_nonneg h31.1).symm) (by omega) (fun cA cE ho10 hs11 => ?_)
          have hct : OS cA (bAnd .i64 x 31).toNat (bAnd .i64 x 31).toNat 3 1 ((List.replicate (bAnd .i64 x 31).toNat (0 : Int)).map (.int .i64)) cE := os_made_int ho10
          clear ho10
          refine o_val rfl rfl rfl (y_assign (v := (.slice _ _ _)) rfl) ?_
          refine o_nil ?_
          refine s_seq ?_
          refine s_seq ?_
          refine s_region ?_
          refine o_val rfl rfl rfl (y_move (v := (.slice _ _ _)) rfl) ?_
          refine o_val rfl rfl rfl (y_len Try.runUnderlying22 rfl) ?_
          refine o_val rfl rfl rfl (y_add rfl rfl (by simp only [inK]; omega)) ?_
          refine o_val rfl rfl rfl (y_mul rfl rfl (by simp only [inK]; omega)) ?_
          refine o_val rfl rfl rfl (y_add rfl rfl (by simp only [inK]; omega)) ?_
          refine o_val rfl rfl rfl (y_move (v := (.int _ _)) rfl) ?_
          refine o_nil ?_
          refine s_block ?_
          have hgi : g.i = (bAnd .i64 x 31).toNat := by omega
          rw [hgi] at hnj ⊢
          refine s_sub_picks [0, 0, 0, 0, 0] rfl ?_
          refine s_loop (γ := NA2) (fun u => [(0, .slice N n c), (1, .int .i64 (bAnd .i64 x 31)), (5, .pointer (some ⟨nb, 0, none⟩)), (8, .slice cA (bAnd .i64 x 31).toNat (bAnd .i64 x 31).toNat), (56, .int .i64 (1 + 51 * (1 + (n : Int)))), (57, .int .i64 u.s)]) (fun u => [netg nb 3 dA n dc (u.s : Nat) ((bAnd .i64 x 31).toNat : Nat) u.A u.fs.length u.c, DG, u.E, g.PG, u.CE]) (fun u => (u.s : Int) ≤ (1 + 51 * (1 + (n : Int))) ∧ OS u.A u.fs.length u.c 133 5 ((u.fs).flatMap encFl) u.E ∧ (∀ f ∈ u.fs, FlIn g.PG f) ∧ NJ ds (sl (bAnd .i64 x 31).toNat) u.fs u.s ∧ u.fs.length ≤ 32000 ∧ OS cA (bAnd .i64 x 31).toNat (bAnd .i64 x 31).toNat 3 1 ((u.cs).map (.int .i64)) u.CE ∧ Cn ds (bAnd .i64 x 31).toNat u.s u.cs) (fun u => ((1 + 51 * (1 + (n : Int))) - u.s).toNat) (NA2.mk 0 g.fs g.A g.c g.E (List.replicate (bAnd .i64 x 31).toNat 0) cE) ?_ ⟨rfl, rfl, rfl, rfl, rfl, rfl, trivial⟩ (sub_front ⟨_, rfl⟩) ?_
          · exact ⟨by dsimp only; omega, hof, hfin, hnj, by dsimp only; omega, hct, Cn.zero ds hdk _⟩
          · intro u _f hJ
            obtain ⟨hs, hof2, hfin2, hnj2, hfl2, hct2, hcn⟩ := hJ
            refine s_seq ?_
            refine s_region ?_
            refine o_val rfl rfl rfl (y_lss rfl rfl) ?_
            refine o_nil ?_
            refine s_seq ?_
            refine s_if rfl (fun h12 => ?_) (fun h13 => ?_)
            · refine s_skip ?_
              refine s_seq ?_
              refine s_block ?_
              refine s_seq ?_
              refine s_region ?_
              refine o_val rfl rfl rfl (y_move (v := (.pointer _)) rfl) ?_
              refine o_pull 2 ?_
              refine o_pull 1 ?_
              refine o_fn 2 (d := 60) rfl Try.call15 (StepN_c nb 3 dA n dc (u.s : Nat) ((bAnd .i64 x 31).toNat : Nat) u.A u.fs.length u.c u.fs u.E hof2 (by omega) (by omega)) rfl ?_
              rintro _ _ ⟨k, kA, kc, kE, kB, ke, kG, rfl, hk1, hk2, hk3, hko, hka, rfl⟩
              have hnj3 := hnj2.step hk2 hk3
              refine o_val rfl rfl rfl (y_len Try.runUnderlying31 rfl) ?_
              refine o_val rfl rfl rfl (y_move (v := (.int _ _)) rfl) ?_
              refine o_nil ?_
              refine s_block ?_
              refine s_loop (γ := NA3) (fun w => [(0, .slice N n c), (1, .int .i64 (bAnd .i64 x 31)), (5, .pointer (some ⟨nb, 0, none⟩)), (8, .slice cA (bAnd .i64 x 31).toNat (bAnd .i64 x 31).toNat), (56, .int .i64 (1 + 51 * (1 + (n : Int)))), (57, .int .i64 u.s), (60, .slice kB k ke), (61, .int .i64 k), (62, .int .i64 w.j)]) (fun w => [netg nb 3 dA n dc ((u.s : Nat) + 1) ((bAnd .i64 x 31).toNat : Nat) kA (u.fs.length - k) kc, DG, kE, g.PG, w.CE, kG]) (fun w => w.j ≤ k ∧ OS cA (bAnd .i64 x 31).toNat (bAnd .i64 x 31).toNat 3 1 ((w.cs).map (.int .i64)) w.CE ∧ Cj ds (bAnd .i64 x 31).toNat u.s ((u.fs.take k).take w.j) w.cs) (fun w => k - w.j) (NA3.mk 0 u.cs u.CE) ?_ ⟨rfl, rfl, rfl, rfl, rfl, rfl, rfl, rfl, rfl, trivial⟩ (sub_picks [0, 2, 0, 1, 1, 0] rfl) ?_
              · exact ⟨Nat.zero_le _, hct2, hcn.start⟩
              · intro w _f hW
                obtain ⟨hwj, hct3, hcj⟩ := hW
                have hkl : (u.fs.take k).length = k := by rw [List.length_take]; omega
                refine s_seq ?_
                refine s_region ?_
                refine o_val rfl rfl rfl (y_lss rfl rfl) ?_
                refine o_nil ?_
                refine s_seq ?_
                refine s_if rfl (fun h14 => ?_) (fun h15 => ?_)
                · refine s_skip ?_
                  refine s_seq ?_
                  refine s_block ?_
                  refine s_seq ?_
                  refine s_region ?_
                  have hfm : ((u.fs.take k).getD ((w.j : Nat) : Int).toNat default) ∈ u.fs.take k := getD_memF (by omega)
                  have hff := hfin2 _ (List.mem_of_mem_take hfm)
                  obtain ⟨v, hv, hvs, hvd, hvb⟩ := arr_mem hnj3.2 hfm
                  have hvn := hff.1
                  rw [hvb] at hvn
                  have hvn : 1 = ((u.fs.take k).getD ((w.j : Nat) : Int).toNat default).n := hvn
                  have hv0 : ((u.fs.take k).getD ((w.j : Nat) : Int).toNat default).bs.getD (0 : Int).toNat 0 = v := by rw [hvb]; rfl
                  have hvl : ((u.fs.take k).getD ((w.j : Nat) : Int).toNat default).bs.length = 1 := by rw [hvb]; rfl
                  refine o_val rfl rfl rfl (y_indexAddr Try.runUnderlying31 Try.sizeOf34 (hko.some_of (by omega)) rfl rfl (by omega)) ?_
                  refine o_val rfl rfl rfl (y_loads (cs := [_, _, _]) Try.isAgg34 Try.sizeOf34 rfl (by unfold idx; rw [Option.isSome_map]; exact hko.some_of (by omega)) rfl (cels_at (sz := 3) encPk_len (hko.cels (j := 5) rfl) (by omega))) ?_
                  refine o_alloc rfl Try.zeroValue34 rfl (fun b16 => ?_)
                  refine o_stores (vs := [(.int _ _), (.int _ _), (.slice _ _ _)]) 6 rfl Try.sizeOf34 rfl rfl rfl (by simp [Value.oneCell']) (by simp) ?_
                  refine o_nil ?_
                  refine s_seq ?_
                  refine s_seq ?_
                  refine s_quiet (by kernel_rfl) (by kernel_rfl) ?_
                  refine q_val rfl rfl rfl (y_field0 Try.runUnderlying34 rfl Try.sizeOf29 rfl rfl) ?_
                  refine q_val rfl rfl rfl (y_load Try.isAgg29 rfl (cel_own 6 rfl rfl)) ?_
                  refine q_val rfl rfl rfl (y_len Try.runUnderlying29 rfl) ?_
                  refine q_split rfl rfl rfl (y_neq rfl rfl) (fun p17 => ?_) (fun p18 => ?_)
                  · exfalso; omega
                  · refine q_val rfl rfl rfl (y_move (v := (.bool _)) rfl) ?_
                    refine q_guard_yes rfl rfl ?_
                    refine q_val rfl rfl rfl (y_field0 Try.runUnderlying34 rfl Try.sizeOf29 rfl rfl) ?_
                    refine q_guard_yes rfl rfl ?_
                    refine q_val rfl rfl rfl (y_load Try.isAgg29 rfl (cel_own 6 rfl rfl)) ?_
                    refine q_guard_yes rfl rfl ?_
                    refine q_val rfl rfl rfl (y_index1 Try.runUnderlying29 Try.sizeOf5 (some_int (i := 0) hff.2.2.2.1 (by omega)) rfl rfl (by omega)) ?_
                    refine q_guard_yes rfl rfl ?_
                    refine q_val rfl rfl rfl (y_load Try.isAgg5 rfl (cel_int (hff.cels (j := 3) rfl) (by omega))) ?_
                    refine q_guard_yes rfl rfl ?_
                    refine q_val rfl rfl rfl (y_conv Try.runUnderlying5 Try.runUnderlying3 rfl (by rw [hv0]; simp only [inK]; omega)) ?_
                    refine q_guard_yes rfl rfl ?_
                    refine q_val rfl rfl rfl (y_move (v := (.int _ _)) rfl) ?_
                    refine q_guard_yes rfl rfl ?_
                    refine q_split rfl rfl rfl (y_geq rfl rfl) (fun p19 => ?_) (fun p20 => ?_)
                    · exfalso; rw [hv0] at p19; omega
                    · refine q_val rfl rfl rfl (y_pick_f (v := (.bool _)) rfl rfl) ?_
                      refine q_val rfl rfl rfl (y_move (v := (.bool _)) rfl) ?_
                      refine q_guard_yes rfl rfl ?_
                      refine q_val rfl rfl rfl (y_field0 Try.runUnderlying34 rfl Try.sizeOf3 rfl rfl) ?_
                      refine q_guard_yes rfl rfl ?_
                      refine q_val rfl rfl rfl (y_load Try.isAgg3 rfl (cel_own 6 rfl rfl)) ?_
                      refine q_guard_yes rfl rfl ?_
                      refine q_val rfl rfl rfl (y_field0 Try.runUnderlying34 rfl Try.sizeOf29 rfl rfl) ?_
                      refine q_guard_yes rfl rfl ?_
                      refine q_val rfl rfl rfl (y_load Try.isAgg29 rfl (cel_own 6 rfl rfl)) ?_
                      refine q_guard_yes rfl rfl ?_
                      refine q_val rfl rfl rfl (y_index1 Try.runUnderlying29 Try.sizeOf5 (some_int (i := 0) hff.2.2.2.1 (by omega)) rfl rfl (by omega)) ?_
                      refine q_guard_yes rfl rfl ?_
                      refine q_val rfl rfl rfl (y_load Try.isAgg5 rfl (cel_int (hff.cels (j := 3) rfl) (by omega))) ?_
                      refine q_guard_yes rfl rfl ?_
                      refine q_val rfl rfl rfl (y_conv Try.runUnderlying5 Try.runUnderlying3 rfl (by rw [hv0]; simp only [inK]; omega)) ?_
                      refine q_guard_yes rfl rfl ?_
                      refine q_val rfl rfl rfl (y_rem rfl rfl (by rw [hv0]; omega)) ?_
                      refine q_guard_yes rfl rfl ?_
                      refine q_split rfl rfl rfl (y_neq rfl rfl) (fun p21 => ?_) (fun p22 => ?_)
                      · exfalso; rw [hv0] at p21; omega
                      · refine q_val rfl rfl rfl (y_pick_f (v := (.bool _)) rfl rfl) ?_
                        refine q_val rfl rfl rfl (y_move (v := (.bool _)) rfl) ?_
                        refine q_guard_yes rfl rfl ?_
                        refine q_val rfl rfl rfl (y_field0 Try.runUnderlying34 rfl Try.sizeOf3 rfl rfl) ?_
                        refine q_guard_yes rfl rfl ?_
                        refine q_val rfl rfl rfl (y_load Try.isAgg3 rfl (cel_own 6 rfl rfl)) ?_
                        refine q_guard_yes rfl rfl ?_
                        refine q_val rfl rfl rfl (y_field0 Try.runUnderlying34 rfl Try.sizeOf3 rfl rfl) ?_
                        refine q_guard_yes rfl rfl ?_
                        refine q_val rfl rfl rfl (y_load Try.isAgg3 rfl (cel_own 6 rfl rfl)) ?_
                        refine q_guard_yes rfl rfl ?_
                        refine q_val rfl rfl rfl (y_add rfl rfl (by simp only [inK]; omega)) ?_
                        refine q_guard_yes rfl rfl ?_
                        refine q_val rfl rfl rfl (y_rem rfl rfl (by omega)) ?_
                        refine q_guard_yes rfl rfl ?_
                        refine q_val rfl rfl rfl (y_neq rfl rfl) ?_
                        refine q_val rfl rfl rfl (y_pick_f (v := (.bool _)) rfl rfl) ?_
                        refine q_nil ?_
                        refine s_if rfl (fun h23 => ?_) (fun h24 => ?_)
                        · exfalso; omega
                        · refine s_skip ?_
                          refine s_region ?_
                          refine o_val rfl rfl rfl (y_move (v := (.slice _ _ _)) rfl) ?_
                          refine o_val rfl rfl rfl (y_field0 Try.runUnderlying34 rfl Try.sizeOf29 rfl rfl) ?_
                          refine o_val rfl rfl rfl (y_load Try.isAgg29 rfl (cel_own 6 rfl rfl)) ?_
                          refine o_val rfl rfl rfl (y_index1 Try.runUnderlying29 Try.sizeOf5 (some_int (i := 0) hff.2.2.2.1 (by omega)) rfl rfl (by omega)) ?_
                          refine o_val rfl rfl rfl (y_load Try.isAgg5 rfl (cel_int (hff.cels (j := 3) rfl) (by omega))) ?_
                          refine o_val rfl rfl rfl (y_index1 Try.runUnderlying30 Try.sizeOf3 (hct3.some_of (by omega)) rfl rfl (by rw [hv0]; omega)) ?_
                          refine o_val rfl rfl rfl (y_load Try.isAgg3 rfl (cel_int (hct3.cels (j := 4) rfl) (by rw [hv0, hcj.1]; omega))) ?_
                          refine o_val rfl rfl rfl (y_add rfl rfl (by have h2 := hcj.2 v hv; have hc1 := cnt_le2 (ds := ds) (n := (bAnd .i64 x 31).toNat) (s := u.s) (i := v); have hm9 := Nat.mul_le_mul (show (bAnd .i64 x 31).toNat ≤ 31 by omega) (show ds.length + 1 ≤ 1001 by omega); have hc2 := List.countP_le_length (p := fun f : FL => decide (f.bs = [(v : Int)])) (l := (u.fs.take k).take w.j); rw [hv0]; have e : ((v : Nat) : Int).toNat = v := rfl; rw [e]; unfold cntF at h2; rw [h2]; simp only [List.length_take] at hc2; simp only [inK]; omega)) ?_
                          refine o_val rfl rfl rfl (y_index1 Try.runUnderlying30 Try.sizeOf3 (hct3.some_of (by omega)) rfl rfl (by rw [hv0]; omega)) ?_
                          refine o_store_os (vs := [(.int _ _)]) 4 rfl hct3 Try.sizeOf3 rfl rfl rfl (by simp [Value.oneCell']) (by simp) (by rw [hv0]; simp [hcj.1]; omega) (fun E25 ho26 => ?_)
                          have ho27 : OS cA (bAnd .i64 x 31).toNat (bAnd .i64 x 31).toNat 3 1 ((w.cs.set v (w.cs.getD v 0 + 1)).map (.int .i64)) E25 := (by rw [hv0] at ho26; exact os_lay_int ho26 (by rw [hcj.1]; exact hv))
                          clear ho26
                          refine o_nil ?_
                          refine s_region ?_
                          refine o_val rfl rfl rfl (y_add rfl rfl (by simp only [inK]; omega)) ?_
                          refine o_val rfl rfl rfl (y_move (v := (.int _ _)) rfl) ?_
                          refine o_nil ?_
                          exact ⟨NA3.mk (w.j + 1) (w.cs.set v (w.cs.getD v 0 + 1)) E25, (by first | omega | (dsimp only; omega)), ⟨by dsimp only; omega, ho27, by dsimp only; rw [take_snocF (by omega)]; exact hcj.step hvb hv⟩, ⟨rfl, rfl, rfl, rfl, rfl, rfl, rfl, rfl, (congrArg (Value.int .i64) (by dsimp only; omega)), trivial⟩, (sub_picks [0, 0, 0, 0, 0, 0] rfl)⟩
                · refine s_exit ?_
                  refine s_region ?_
                  refine o_val rfl rfl rfl (y_add rfl rfl (by simp only [inK]; omega)) ?_
                  refine o_val rfl rfl rfl (y_move (v := (.int _ _)) rfl) ?_
                  refine o_nil ?_
                  have hwj : w.j = k := by omega
                  rw [hwj, List.take_of_length_le (by rw [List.length_take]; omega)] at hcj
                  have hcn2 := hcj.done hnj3.2
                  exact ⟨NA2.mk (u.s + 1) (u.fs.drop k) kA kc kE w.cs w.CE, (by dsimp only; omega), ⟨by dsimp only; omega, by dsimp only; rw [List.length_drop]; exact hka, fun f hf => hfin2 f (List.mem_of_mem_drop hf), hnj3.1, by dsimp only; rw [List.length_drop]; omega, hct3, hcn2⟩, ⟨rfl, rfl, rfl, rfl, rfl, (congrArg (Value.int .i64) (by dsimp only; omega)), trivial⟩, (by dsimp only; rw [List.length_drop]; exact sub_picks [0, 0, 0, 0, 0] rfl)⟩
            · refine s_exit ?_
              refine s_seq ?_
              refine s_seq ?_
              refine s_region ?_
              refine o_val rfl rfl rfl (y_move (v := (.int _ _)) rfl) ?_
              refine o_val rfl rfl rfl (y_move (v := (.int _ _)) rfl) ?_
              refine o_nil ?_
              refine s_block ?_
              refine s_loop (γ := Nat) (fun z => [(0, .slice N n c), (1, .int .i64 (bAnd .i64 x 31)), (5, .pointer (some ⟨nb, 0, none⟩)), (8, .slice cA (bAnd .i64 x 31).toNat (bAnd .i64 x 31).toNat), (110, .int .i64 (bAnd .i64 x 31)), (111, .int .i64 z)]) (fun z => [netg nb 3 dA n dc (u.s : Nat) ((bAnd .i64 x 31).toNat : Nat) u.A u.fs.length u.c, DG, u.E, g.PG, u.CE]) (fun z => z ≤ (bAnd .i64 x 31).toNat) (fun z => (bAnd .i64 x 31).toNat - z) (0) ?_ ⟨rfl, rfl, rfl, rfl, rfl, rfl, trivial⟩ (sub_picks [0, 0, 0, 0, 0] rfl) ?_
              · exact Nat.zero_le _
              · intro z _f hZ
                refine s_seq ?_
                refine s_region ?_
                refine o_val rfl rfl rfl (y_lss rfl rfl) ?_
                refine o_nil ?_
                refine s_seq ?_
                refine s_if rfl (fun h28 => ?_) (fun h29 => ?_)
                · refine s_skip ?_
                  refine s_seq ?_
                  refine s_block ?_
                  refine s_seq ?_
                  refine s_region ?_
                  refine o_val rfl rfl rfl (y_move (v := (.int _ _)) rfl) ?_
                  refine o_val rfl rfl rfl (y_assign (v := (.int _ _)) rfl) ?_
                  refine o_nil ?_
                  refine s_seq ?_
                  refine s_region ?_
                  refine o_val rfl rfl rfl (y_assign (v := (.int _ _)) rfl) ?_
                  refine o_val rfl rfl rfl (y_assign (v := (.bool _)) rfl) ?_
                  refine o_nil ?_
                  refine s_seq ?_
                  refine s_seq ?_
                  refine s_region ?_
                  refine o_val rfl rfl rfl (y_move (v := (.slice _ _ _)) rfl) ?_
                  refine o_val rfl rfl rfl (y_len Try.runUnderlying22 rfl) ?_
                  refine o_val rfl rfl rfl (y_move (v := (.int _ _)) rfl) ?_
                  refine o_nil ?_
                  refine s_block ?_
                  refine s_loop (γ := Nat) (fun y => [(0, .slice N n c), (1, .int .i64 (bAnd .i64 x 31)), (5, .pointer (some ⟨nb, 0, none⟩)), (8, .slice cA (bAnd .i64 x 31).toNat (bAnd .i64 x 31).toNat), (11, .int .i64 z), (12, .int .i64 (1 + (copiesOf (ds.take y) z).length : Nat)), (13, .bool (lostOf (ds.take y) z)), (110, .int .i64 (bAnd .i64 x 31)), (111, .int .i64 z), (114, .slice N n c), (115, .int .i64 n), (116, .int .i64 y)]) (fun y => [netg nb 3 dA n dc (u.s : Nat) ((bAnd .i64 x 31).toNat : Nat) u.A u.fs.length u.c, DG, u.E, g.PG, u.CE]) (fun y => y ≤ n) (fun y => n - y) (0) ?_ ⟨rfl, rfl, rfl, rfl, rfl, rfl, rfl, rfl, rfl, rfl, rfl, rfl, trivial⟩ (sub_picks [0, 0, 0, 0, 0] rfl) ?_
                  · exact Nat.zero_le _
                  · intro y _f hY
                    have hcl := cop_len (ds := ds.take y) (num := (z : Int))
                    rw [List.length_take] at hcl
                    have hlst := fun hk => lost_step (ds := ds) (num := (z : Int)) (k := y) hk
                    have hcst := fun hk => cop_step (ds := ds) (num := (z : Int)) (k := y) hk
                    refine s_seq ?_
                    refine s_region ?_
                    refine o_val rfl rfl rfl (y_lss rfl rfl) ?_
                    refine o_nil ?_
                    refine s_seq ?_
                    refine s_if rfl (fun h30 => ?_) (fun h31 => ?_)
                    · refine s_skip ?_
                      refine s_seq ?_
                      refine s_block ?_
                      refine s_seq ?_
                      refine s_region ?_
                      refine o_val rfl rfl rfl (y_indexAddr Try.runUnderlying22 Try.sizeOf36 (some_at (sz := 2) encD_len (i := 0) h (by omega)) rfl rfl (by omega)) ?_
                      refine o_val rfl rfl rfl (y_loads (cs := [_, _, _]) Try.isAgg36 Try.sizeOf36 rfl (by unfold idx; rw [Option.isSome_map]; exact some_at (sz := 2) encD_len (i := 0) h (by omega)) rfl (cels_at (sz := 3) encD_len h.here (by omega))) ?_
                      refine o_alloc rfl Try.zeroValue36 rfl (fun b32 => ?_)
                      refine o_stores (vs := [(.int _ _), (.int _ _), (.int _ _)]) 5 rfl Try.sizeOf36 rfl rfl rfl (by simp [Value.oneCell']) (by simp) ?_
                      refine o_nil ?_
                      refine s_seq ?_
                      refine s_region ?_
                      refine o_val rfl rfl rfl (y_field0 Try.runUnderlying36 rfl Try.sizeOf3 rfl rfl) ?_
                      refine o_val rfl rfl rfl (y_load Try.isAgg3 rfl (cel_own 5 rfl rfl)) ?_
                      refine o_val rfl rfl rfl (y_move (v := (.int _ _)) rfl) ?_
                      refine o_val rfl rfl rfl (y_eql rfl rfl) ?_
                      refine o_nil ?_
                      refine s_if rfl (fun h33 => ?_) (fun h34 => ?_)
                      · have hpk := h33
                        refine s_seq ?_
                        refine s_region ?_
                        refine o_splitb rfl rfl rfl (y_move (v := (.bool _)) rfl) (fun p35 => ?_) (fun p36 => ?_)
                        · have hlo := p35
                          refine o_val rfl rfl rfl (y_move (v := (.bool _)) rfl) ?_
                          refine o_guard_no rfl rfl rfl rfl rfl ?_
                          refine o_guard_no rfl rfl rfl rfl rfl ?_
                          refine o_guard_no rfl rfl rfl rfl rfl ?_
                          refine o_val rfl rfl rfl (y_pick_t (v := (.bool _)) rfl rfl) ?_
                          refine o_val rfl rfl rfl (y_assign (v := (.bool _)) rfl) ?_
                          refine o_nil ?_
                          refine s_seq ?_
                          refine s_region ?_
                          refine o_val rfl rfl rfl (y_field0 Try.runUnderlying36 rfl Try.sizeOf3 rfl rfl) ?_
                          refine o_val rfl rfl rfl (y_load Try.isAgg3 rfl (cel_own 5 rfl rfl)) ?_
                          refine o_val rfl rfl rfl (y_eql rfl rfl) ?_
                          refine o_nil ?_
                          refine s_if rfl (fun h37 => ?_) (fun h38 => ?_)
                          · refine s_region ?_
                            refine o_val rfl rfl rfl (y_move (v := (.int _ _)) rfl) ?_
                            refine o_val rfl rfl rfl (y_add rfl rfl (by simp only [inK]; omega)) ?_
                            refine o_val rfl rfl rfl (y_assign (v := (.int _ _)) rfl) ?_
                            refine o_nil ?_
                            refine s_region ?_
                            refine o_val rfl rfl rfl (y_add rfl rfl (by simp only [inK]; omega)) ?_
                            refine o_val rfl rfl rfl (y_move (v := (.int _ _)) rfl) ?_
                            refine o_nil ?_
                            exact ⟨y + 1, (by first | omega | (dsimp only; omega)), (by omega), ⟨rfl, rfl, rfl, rfl, rfl, (congrArg (Value.int .i64) (by rw [hcst (by omega)]; first | (rw [if_neg (by omega), List.append_nil]) | (rw [if_pos (by omega), List.length_append]; simp; omega))), (congrArg Value.bool (by rw [hlst (by omega)]; first | (rw [decide_eq_false (by omega)]; simp; done) | (rw [hlo, Bool.true_or]) | (rw [hlo, Bool.false_or, decide_eq_decide]; exact ⟨fun h => ⟨hpk, h⟩, fun h => h.2⟩))), rfl, rfl, rfl, rfl, (congrArg (Value.int .i64) (by omega)), trivial⟩, (sub_picks [0, 0, 0, 0, 0] rfl)⟩
                          · refine s_skip ?_
                            refine s_region ?_
                            refine o_val rfl rfl rfl (y_add rfl rfl (by simp only [inK]; omega)) ?_
                            refine o_val rfl rfl rfl (y_move (v := (.int _ _)) rfl) ?_
                            refine o_nil ?_
                            exact ⟨y + 1, (by first | omega | (dsimp only; omega)), (by omega), ⟨rfl, rfl, rfl, rfl, rfl, (congrArg (Value.int .i64) (by rw [hcst (by omega)]; first | (rw [if_neg (by omega), List.append_nil]) | (rw [if_pos (by omega), List.length_append]; simp; omega))), (congrArg Value.bool (by rw [hlst (by omega)]; first | (rw [decide_eq_false (by omega)]; simp; done) | (rw [hlo, Bool.true_or]) | (rw [hlo, Bool.false_or, decide_eq_decide]; exact ⟨fun h => ⟨hpk, h⟩, fun h => h.2⟩))), rfl, rfl, rfl, rfl, (congrArg (Value.int .i64) (by omega)), trivial⟩, (sub_picks [0, 0, 0, 0, 0] rfl)⟩
                        · have hlo := p36
                          refine o_val rfl rfl rfl (y_move (v := (.bool _)) rfl) ?_
                          refine o_guard_yes rfl rfl ?_
                          refine o_val rfl rfl rfl (y_field0 Try.runUnderlying36 rfl Try.sizeOf3 rfl rfl) ?_
                          refine o_guard_yes rfl rfl ?_
                          refine o_val rfl rfl rfl (y_load Try.isAgg3 rfl (cel_own 5 rfl rfl)) ?_
                          refine o_guard_yes rfl rfl ?_
                          refine o_val rfl rfl rfl (y_eql rfl rfl) ?_
                          refine o_val rfl rfl rfl (y_pick_f (v := (.bool _)) rfl rfl) ?_
                          refine o_val rfl rfl rfl (y_assign (v := (.bool _)) rfl) ?_
                          refine o_nil ?_
                          refine s_seq ?_
                          refine s_region ?_
                          refine o_val rfl rfl rfl (y_field0 Try.runUnderlying36 rfl Try.sizeOf3 rfl rfl) ?_
                          refine o_val rfl rfl rfl (y_load Try.isAgg3 rfl (cel_own 5 rfl rfl)) ?_
                          refine o_val rfl rfl rfl (y_eql rfl rfl) ?_
                          refine o_nil ?_
                          refine s_if rfl (fun h39 => ?_) (fun h40 => ?_)
                          · refine s_region ?_
                            refine o_val rfl rfl rfl (y_move (v := (.int _ _)) rfl) ?_
                            refine o_val rfl rfl rfl (y_add rfl rfl (by simp only [inK]; omega)) ?_
                            refine o_val rfl rfl rfl (y_assign (v := (.int _ _)) rfl) ?_
                            refine o_nil ?_
                            refine s_region ?_
                            refine o_val rfl rfl rfl (y_add rfl rfl (by simp only [inK]; omega)) ?_
                            refine o_val rfl rfl rfl (y_move (v := (.int _ _)) rfl) ?_
                            refine o_nil ?_
                            exact ⟨y + 1, (by first | omega | (dsimp only; omega)), (by omega), ⟨rfl, rfl, rfl, rfl, rfl, (congrArg (Value.int .i64) (by rw [hcst (by omega)]; first | (rw [if_neg (by omega), List.append_nil]) | (rw [if_pos (by omega), List.length_append]; simp; omega))), (congrArg Value.bool (by rw [hlst (by omega)]; first | (rw [decide_eq_false (by omega)]; simp; done) | (rw [hlo, Bool.true_or]) | (rw [hlo, Bool.false_or, decide_eq_decide]; exact ⟨fun h => ⟨hpk, h⟩, fun h => h.2⟩))), rfl, rfl, rfl, rfl, (congrArg (Value.int .i64) (by omega)), trivial⟩, (sub_picks [0, 0, 0, 0, 0] rfl)⟩
                          · refine s_skip ?_
                            refine s_region ?_
                            refine o_val rfl rfl rfl (y_add rfl rfl (by simp only [inK]; omega)) ?_
                            refine o_val rfl rfl rfl (y_move (v := (.int _ _)) rfl) ?_
                            refine o_nil ?_
                            exact ⟨y + 1, (by first | omega | (dsimp only; omega)), (by omega), ⟨rfl, rfl, rfl, rfl, rfl, (congrArg (Value.int .i64) (by rw [hcst (by omega)]; first | (rw [if_neg (by omega), List.append_nil]) | (rw [if_pos (by omega), List.length_append]; simp; omega))), (congrArg Value.bool (by rw [hlst (by omega)]; first | (rw [decide_eq_false (by omega)]; simp; done) | (rw [hlo, Bool.true_or]) | (rw [hlo, Bool.false_or, decide_eq_decide]; exact ⟨fun h => ⟨hpk, h⟩, fun h => h.2⟩))), rfl, rfl, rfl, rfl, (congrArg (Value.int .i64) (by omega)), trivial⟩, (sub_picks [0, 0, 0, 0, 0] rfl)⟩
                      · have hpk := h34
                        refine s_skip ?_
                        refine s_region ?_
                        refine o_val rfl rfl rfl (y_add rfl rfl (by simp only [inK]; omega)) ?_
                        refine o_val rfl rfl rfl (y_move (v := (.int _ _)) rfl) ?_
                        refine o_nil ?_
                        exact ⟨y + 1, (by first | omega | (dsimp only; omega)), (by omega), ⟨rfl, rfl, rfl, rfl, rfl, (congrArg (Value.int .i64) (by rw [hcst (by omega)]; first | (rw [if_neg (by omega), List.append_nil]) | (rw [if_pos (by omega), List.length_append]; simp; omega))), (congrArg Value.bool (by rw [hlst (by omega)]; first | (rw [decide_eq_false (by omega)]; simp; done) | (rw [hlo, Bool.true_or]) | (rw [hlo, Bool.false_or, decide_eq_decide]; exact ⟨fun h => ⟨hpk, h⟩, fun h => h.2⟩))), rfl, rfl, rfl, rfl, (congrArg (Value.int .i64) (by omega)), trivial⟩, (sub_picks [0, 0, 0, 0, 0] rfl)⟩
                    · refine s_exit ?_
                      refine s_seq ?_
                      refine s_seq ?_
                      refine s_region ?_
                      refine o_val rfl rfl rfl (y_move (v := (.bool _)) rfl) ?_
                      refine o_nil ?_
                      refine s_ifb rfl (fun h41 => ?_) (fun h42 => ?_)
                      · have eds : ds.take y = ds := List.take_of_length_le (by omega)
                        rw [eds] at h41 hcl ⊢
                        have hwant := h41
                        have hfull := hcn.full hdk (by omega) (i := z) (by omega)
                        have htc := times_count ds (z : Int)
                        refine s_region ?_
                        refine o_val rfl rfl rfl (y_assign (v := (.int _ _)) rfl) ?_
                        refine o_nil ?_
                        refine s_seq ?_
                        refine s_region ?_
                        refine o_val rfl rfl rfl (y_move (v := (.slice _ _ _)) rfl) ?_
                        refine o_val rfl rfl rfl (y_move (v := (.int _ _)) rfl) ?_
                        refine o_val rfl rfl rfl (y_index1 Try.runUnderlying30 Try.sizeOf3 (hct2.some_of (by omega)) rfl rfl (by omega)) ?_
                        refine o_val rfl rfl rfl (y_load Try.isAgg3 rfl (cel_int (hct2.cels (j := 4) rfl) (by rw [hcn.1]; omega))) ?_
                        refine o_val rfl rfl rfl (y_move (v := (.int _ _)) rfl) ?_
                        refine o_val rfl rfl rfl (y_neq rfl rfl) ?_
                        refine o_nil ?_
                        refine s_if rfl (fun h43 => ?_) (fun h44 => ?_)
                        · exfalso; have e : ((z : Nat) : Int).toNat = z := rfl; rw [e] at h43; rw [hwant] at htc; simp only [Bool.false_eq_true, if_false, if_true] at htc; omega
                        · refine s_skip ?_
                          refine s_region ?_
                          refine o_val rfl rfl rfl (y_add rfl rfl (by simp only [inK]; omega)) ?_
                          refine o_val rfl rfl rfl (y_move (v := (.int _ _)) rfl) ?_
                          refine o_nil ?_
                          exact ⟨z + 1, (by first | omega | (dsimp only; omega)), (by omega), ⟨rfl, rfl, rfl, rfl, rfl, (congrArg (Value.int .i64) (by omega)), trivial⟩, (sub_picks [0, 0, 0, 0, 0] rfl)⟩
                      · have eds : ds.take y = ds := List.take_of_length_le (by omega)
                        rw [eds] at h42 hcl ⊢
                        have hwant := h42
                        have hfull := hcn.full hdk (by omega) (i := z) (by omega)
                        have htc := times_count ds (z : Int)
                        refine s_skip ?_
                        refine s_seq ?_
                        refine s_region ?_
                        refine o_val rfl rfl rfl (y_move (v := (.slice _ _ _)) rfl) ?_
                        refine o_val rfl rfl rfl (y_move (v := (.int _ _)) rfl) ?_
                        refine o_val rfl rfl rfl (y_index1 Try.runUnderlying30 Try.sizeOf3 (hct2.some_of (by omega)) rfl rfl (by omega)) ?_
                        refine o_val rfl rfl rfl (y_load Try.isAgg3 rfl (cel_int (hct2.cels (j := 4) rfl) (by rw [hcn.1]; omega))) ?_
                        refine o_val rfl rfl rfl (y_move (v := (.int _ _)) rfl) ?_
                        refine o_val rfl rfl rfl (y_neq rfl rfl) ?_
                        refine o_nil ?_
                        refine s_if rfl (fun h45 => ?_) (fun h46 => ?_)
                        · exfalso; have e : ((z : Nat) : Int).toNat = z := rfl; rw [e] at h45; rw [hwant] at htc; simp only [Bool.false_eq_true, if_false, if_true] at htc; omega
                        · refine s_skip ?_
                          refine s_region ?_
                          refine o_val rfl rfl rfl (y_add rfl rfl (by simp only [inK]; omega)) ?_
                          refine o_val rfl rfl rfl (y_move (v := (.int _ _)) rfl) ?_
                          refine o_nil ?_
                          exact ⟨z + 1, (by first | omega | (dsimp only; omega)), (by omega), ⟨rfl, rfl, rfl, rfl, rfl, (congrArg (Value.int .i64) (by omega)), trivial⟩, (sub_picks [0, 0, 0, 0, 0] rfl)⟩
                · refine s_exit ?_
                  refine s_seq ?_
                  refine s_region ?_
                  refine o_val rfl rfl rfl (y_move (v := (.pointer _)) rfl) ?_
                  refine o_fn 1 (d := 145) rfl Try.call16 (LeftN_c _ _ _ _ _ _ _ _ _ _) rfl ?_
                  rintro _ _ ⟨rfl, rfl⟩
                  refine o_split rfl rfl rfl (y_eql rfl rfl) (fun p47 => ?_) (fun p48 => ?_)
                  · refine o_val rfl rfl rfl (y_move (v := (.bool _)) rfl) ?_
                    refine o_guard_yes rfl rfl ?_
                    refine o_val rfl rfl rfl (y_move (v := (.pointer _)) rfl) ?_
                    refine o_guard_yes rfl rfl ?_
                    refine o_fn 1 (d := 149) rfl Try.call17 (SentN_c _ _ _ _ _ _ _ _ _ _) rfl ?_
                    rintro _ _ ⟨rfl, rfl⟩
                    refine o_guard_yes rfl rfl ?_
                    refine o_val rfl rfl rfl (y_move (v := (.int _ _)) rfl) ?_
                    refine o_guard_yes rfl rfl ?_
                    refine o_val rfl rfl rfl (y_eql rfl rfl) ?_
                    refine o_val rfl rfl rfl (y_pick_t (v := (.bool _)) rfl rfl) ?_
                    refine o_val rfl rfl rfl (y_assign (v := (.bool _)) rfl) ?_
                    refine o_nil ?_
                    refine s_ret ?_
                    exact ⟨_, [], res1 rfl rfl, ⟨congrArg Value.bool (decide_eq_true (by omega)), rfl⟩, sub_picks [] rfl⟩
                  · exact absurd (by have := hnj2.empty hdk (by omega); omega) p48

end Go.Proofs.Ytdgmocibjjkghaa.K

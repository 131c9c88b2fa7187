/- Walks: deeds judged by the reference, packets compared, a fact; what is on its way and what the reference says of it. No condition beyond what each statement names. -/
import Derived.Test.YtdgmocibjjkghaaProg
import Derived.Test.YtdgmocibjjkghaaK13
import Derived.Test.YtdgmocibjjkghaaB9
import Derived.Test.YtdgmocibjjkghaaN1
import Derived.Test.YtdgmocibjjkghaaN2
import Derived.Test.YtdgmocibjjkghaaN3
import Derived.Test.YtdgmocibjjkghaaN4
set_option linter.unusedVariables false
set_option linter.unusedSimpArgs false
set_option maxRecDepth 100000
namespace Go.Proofs.Ytdgmocibjjkghaa.K
open Go.RowKit

theorem InsF.split {fs gs : List FL} {x : FL} (h : InsF fs x gs) (hs : fs.Pairwise (fun a b => a.due ≤ b.due)) : ∃ l r, fs = l ++ r ∧ gs = l ++ x :: r ∧ (∀ a ∈ l, a.due ≤ x.due) ∧ (∀ b ∈ r, x.due < b.due) := by
  obtain ⟨k, hk, rfl, h1, h2⟩ := h
  refine ⟨fs.take k, fs.drop k, (List.take_append_drop k fs).symm, rfl, fun a ha => ?_, fun b hb => ?_⟩
  · obtain ⟨i, hi, rfl⟩ := List.mem_iff_getElem.1 ha
    rw [List.length_take] at hi
    rw [List.getElem_take]
    rcases h2 with h2 | h2
    · omega
    · rw [List.getD_eq_getElem?_getD, List.getElem?_eq_getElem (show k - 1 < fs.length by omega)] at h2
      by_cases e : i = k - 1
      · subst e; exact h2
      · exact Int.le_trans (List.pairwise_iff_getElem.1 hs i (k - 1) (by omega) (by omega) (by omega)) h2
  · obtain ⟨i, hi, rfl⟩ := List.mem_iff_getElem.1 hb
    rw [List.length_drop] at hi
    have := h1 (k + i) (by omega) (by omega)
    rw [List.getD_eq_getElem?_getD, List.getElem?_eq_getElem (show k + i < fs.length by omega)] at this
    rw [List.getElem_drop]; exact this
def atT (t : Int) (fs : List FL) : List (Int × Int × List Int) := (fs.filter (fun f => decide (f.due = t))).map FL.pk
theorem atT_app (t : Int) (a b : List FL) : atT t (a ++ b) = atT t a ++ atT t b := by simp [atT]
theorem atT_none {t : Int} {b : List FL} (h : ∀ f ∈ b, f.due ≠ t) : atT t b = [] := by
  unfold atT
  rw [List.filter_eq_nil_iff.2 (fun f hf => by simpa using h f hf)]; rfl
theorem InsF.atT {fs gs : List FL} {x : FL} (h : InsF fs x gs) (hs : fs.Pairwise (fun a b => a.due ≤ b.due)) (t : Int) : K.atT t gs = K.atT t fs ++ K.atT t [x] := by
  obtain ⟨l, r, rfl, rfl, h1, h2⟩ := h.split hs
  rw [show l ++ x :: r = l ++ ([x] ++ r) from rfl, atT_app, atT_app, atT_app]
  by_cases e : x.due = t
  · rw [atT_none (b := r) (fun f hf => by have := h2 f hf; omega)]; simp
  · rw [atT_none (b := [x]) (fun f hf => by
      have hfx : f = x := by simpa using hf
      rw [hfx]; exact e)]; simp
theorem InsF.sorted {fs gs : List FL} {x : FL} (h : InsF fs x gs) (hs : fs.Pairwise (fun a b => a.due ≤ b.due)) : gs.Pairwise (fun a b => a.due ≤ b.due) := by
  obtain ⟨l, r, rfl, rfl, h1, h2⟩ := h.split hs
  rw [List.pairwise_append] at hs
  rw [List.pairwise_append, List.pairwise_cons]
  refine ⟨hs.1, ⟨fun b hb => Int.le_of_lt (h2 b hb), hs.2.1⟩, fun a ha b hb => ?_⟩
  rcases List.mem_cons.1 hb with rfl | hb
  · exact h1 a ha
  · exact hs.2.2 a ha b hb
theorem InsF.perm {fs gs : List FL} {x : FL} (h : InsF fs x gs) : gs.Perm (x :: fs) := by
  obtain ⟨k, hk, rfl, _⟩ := h
  have : (fs.take k ++ x :: fs.drop k).Perm (x :: (fs.take k ++ fs.drop k)) := List.perm_middle
  rwa [List.take_append_drop] at this
theorem puts_facts {step : Int} : ∀ {xs fs gs : List FL}, Puts fs xs gs → (∀ x ∈ xs, step < x.due) → fs.Pairwise (fun a b => a.due ≤ b.due) → (∀ f ∈ fs, step < f.due) →
    gs.Pairwise (fun a b => a.due ≤ b.due) ∧ (∀ f ∈ gs, step < f.due) ∧ (∀ t, atT t gs = atT t fs ++ atT t xs) ∧ gs.Perm (fs ++ xs)
  | [], fs, gs, h, _, hs, hl => by
    have h : gs = fs := h
    subst h
    exact ⟨hs, hl, fun t => by simp [atT], by simp⟩
  | x :: r, fs, gs, h, hx, hs, hl => by
    obtain ⟨us, h1, h2⟩ := h
    have hs1 := h1.sorted hs
    have hl1 : ∀ f ∈ us, step < f.due := fun f hf => by
      rcases h1.mem.1 hf with rfl | hf
      · exact hx _ (by simp)
      · exact hl f hf
    obtain ⟨g1, g2, g3, g4⟩ := puts_facts h2 (fun y hy => hx y (List.mem_cons_of_mem _ hy)) hs1 hl1
    refine ⟨g1, g2, fun t => ?_, ?_⟩
    · rw [g3 t, h1.atT hs t, List.append_assoc, ← atT_app]; rfl
    · refine g4.trans ((h1.perm.append_right r).trans ?_)
      exact (List.perm_middle (l₁ := fs)).symm
/-- What is on its way is what the reference says. -/
structure NJ (ds : List DD) (ss fs : List FL) (step : Int) : Prop where
  sorted : fs.Pairwise (fun a b => a.due ≤ b.due)
  late : ∀ f ∈ fs, step < f.due
  same : ∀ t, step < t → atT t fs = ((ems ds ss).filter (fun q => decide (q.1 = t))).map (·.2)
  perm : (fs.map (·.due)).Perm (((ems ds ss).filter (fun q => decide (step < q.1))).map (·.1))
theorem NJ.zero (ds : List DD) (step : Int) : NJ ds [] [] step := ⟨List.Pairwise.nil, by simp, fun t _ => by simp [atT, ems, emsTo], by simp [ems, emsTo]⟩
theorem ems_snoc (ds : List DD) (ss : List FL) (s : FL) : ems ds (ss ++ [s]) = ems ds ss ++ (timesOf ds ss.length s.due).map fun t => (t, s.pk) := by
  unfold ems
  rw [List.length_append, List.length_cons, List.length_nil, ems_step]
  have e : (ss ++ [s]).getD ss.length default = s := by simp [List.getD_eq_getElem?_getD]
  rw [e]
  congr 1
  unfold emsTo
  rw [List.flatMap_def, List.flatMap_def]
  congr 1
  apply List.map_congr_left
  intro i hi
  have hi' : i < ss.length := by simpa using hi
  rw [show (ss ++ [s]).getD i default = ss.getD i default by simp [List.getD_eq_getElem?_getD, List.getElem?_append_left hi']]
theorem times_late {ds : List DD} {num step : Int} (hd : ∀ d ∈ ds, d.ok) : ∀ t ∈ timesOf ds num step, step < t := by
  intro t ht
  unfold timesOf at ht
  split at ht
  · simp at ht
  · have h1 := delay_bd (num := num) hd
    rcases List.mem_cons.1 ht with rfl | ht
    · omega
    · obtain ⟨c, hc, rfl⟩ := List.mem_map.1 ht
      have := cop_bd (num := num) hd c hc
      omega
theorem key_due {xs : List FL} {ts : List Int} {a b c : Int} {bs : List Int} (h : xs.map FL.key = ts.map (fun t => (t, a, b, c, bs))) : xs.map (·.due) = ts := by
  have := congrArg (List.map (·.1)) h
  rw [List.map_map, List.map_map] at this
  simpa [Function.comp_def, FL.key] using this
theorem key_atT {t : Int} : ∀ {xs : List FL} {ts : List Int} {a b c : Int} {bs : List Int}, xs.map FL.key = ts.map (fun t => (t, a, b, c, bs)) → atT t xs = ((ts.map fun u => (u, (b, c, bs))).filter (fun q => decide (q.1 = t))).map (·.2)
  | [], [], _, _, _, _, _ => rfl
  | [], _ :: _, _, _, _, _, h => by simp at h
  | _ :: _, [], _, _, _, _, h => by simp at h
  | x :: xs, u :: ts, a, b, c, bs, h => by
    simp only [List.map_cons, List.cons.injEq] at h
    have ih := key_atT (t := t) h.2
    have hx := h.1
    simp only [FL.key, Prod.mk.injEq] at hx
    obtain ⟨e1, e2, e3, e4, e5⟩ := hx
    unfold atT at ih ⊢
    rw [List.filter_cons, List.map_cons, List.filter_cons]
    by_cases e : u = t
    · rw [if_pos (by simp [e1, e]), if_pos (by simp [e]), List.map_cons, List.map_cons, ih]
      simp [FL.pk, e3, e4, e5]
    · rw [if_neg (by simp [e1, e]), if_neg (by simp [e]), ih]
theorem NJ.send {ds : List DD} {ss fs gs xs : List FL} {step num : Int} (h : NJ ds ss fs step) (hd : ∀ d ∈ ds, d.ok) (s : FL) (hs : s.due = step) (hput : Puts fs xs gs) (hkey : xs.map FL.key = (timesOf ds ss.length step).map (fun t => (t, num, s.src, s.dst, s.bs))) : NJ ds (ss ++ [s]) gs step := by
  have hx : ∀ x ∈ xs, step < x.due := fun x hx => by
    have : x.due ∈ xs.map (·.due) := List.mem_map_of_mem hx
    rw [key_due hkey] at this
    exact times_late hd _ this
  obtain ⟨g1, g2, g3, g4⟩ := puts_facts hput hx h.sorted h.late
  refine ⟨g1, g2, fun t ht => ?_, ?_⟩
  · rw [g3 t, h.same t ht, ems_snoc, List.filter_append, List.map_append, key_atT hkey, hs]; rfl
  · refine (g4.map _).trans ?_
    rw [List.map_append, ems_snoc, List.filter_append, List.map_append, hs]
    refine List.Perm.append h.perm ?_
    rw [key_due hkey]
    have e : ((timesOf ds ss.length step).map fun t => (t, s.pk)).filter (fun q => decide (step < q.1)) = (timesOf ds ss.length step).map fun t => (t, s.pk) := List.filter_eq_self.2 (fun q hq => by
      obtain ⟨t, ht, rfl⟩ := List.mem_map.1 hq
      simpa using times_late hd t ht)
    rw [e, List.map_map]
    exact List.Perm.of_eq (by simp [Function.comp_def])
theorem NJ.step {ds : List DD} {ss fs : List FL} {step : Int} (h : NJ ds ss fs step) {k : Nat} (hle : ∀ f ∈ fs.take k, f.due ≤ step + 1) (hgt : k = fs.length ∨ step + 1 < (fs.getD k default).due) :
    NJ ds ss (fs.drop k) (step + 1) ∧ (fs.take k).map FL.pk = ((ems ds ss).filter (fun q => decide (q.1 = step + 1))).map (·.2) := by
  have hl : ∀ f ∈ fs.drop k, step + 1 < f.due := fun f hf => by
    obtain ⟨i, hi, rfl⟩ := List.mem_iff_getElem.1 hf
    rw [List.length_drop] at hi
    rw [List.getElem_drop]
    rcases hgt with hgt | hgt
    · omega
    · rw [List.getD_eq_getElem?_getD, List.getElem?_eq_getElem (show k < fs.length by omega)] at hgt
      by_cases e : i = 0
      · subst e; simpa using hgt
      · have := List.pairwise_iff_getElem.1 h.sorted k (k + i) (by omega) (by omega) (by omega)
        simp only [Option.getD_some] at hgt
        omega
  have htk : ∀ f ∈ fs.take k, f.due = step + 1 := fun f hf => by
    have h1 := hle f hf
    have h2 := h.late f (List.mem_of_mem_take hf)
    omega
  have hsp : ∀ t, atT t fs = atT t (fs.take k) ++ atT t (fs.drop k) := fun t => by rw [← atT_app, List.take_append_drop]
  refine ⟨⟨h.sorted.sublist (List.drop_sublist k fs), hl, fun t ht => ?_, ?_⟩, ?_⟩
  · rw [← h.same t (by omega), hsp t, atT_none (b := fs.take k) (fun f hf => by have := htk f hf; omega)]; rfl
  · have h1 := h.perm.filter (fun t => decide (step + 1 < t))
    have e1 : (fs.map (·.due)).filter (fun t => decide (step + 1 < t)) = (fs.drop k).map (·.due) := by
      conv => lhs; rw [← List.take_append_drop k fs]
      rw [List.map_append, List.filter_append, List.filter_eq_nil_iff.2 (fun t ht => by
        obtain ⟨f, hf, rfl⟩ := List.mem_map.1 ht
        have := htk f hf
        simp only [decide_eq_true_eq]; omega), List.nil_append]
      exact List.filter_eq_self.2 (fun t ht => by
        obtain ⟨f, hf, rfl⟩ := List.mem_map.1 ht
        simpa using hl f hf)
    rw [e1, List.filter_map, List.filter_filter] at h1
    refine h1.trans (List.Perm.of_eq ?_)
    congr 1
    apply List.filter_congr
    intro q _
    simp only [Function.comp]
    by_cases h2 : step + 1 < q.1
    · simp [h2]; omega
    · simp [h2]
  · rw [← h.same (step + 1) (by omega), hsp, atT_none (b := fs.drop k) (fun f hf => by have := hl f hf; omega), List.append_nil]
    unfold atT
    rw [List.filter_eq_self.2 (fun f hf => by simpa using htk f hf)]
theorem NJ.len {ds : List DD} {ss fs : List FL} {step : Int} (h : NJ ds ss fs step) : fs.length = ((ems ds ss).filter (fun q => decide (step < q.1))).length := by
  have := h.perm.length_eq
  simpa using this
theorem one_fact {xs gs : List FL} (h : Puts [] xs gs) (hk : xs.map FL.key = (timesOf [] 0 0).map (fun t => (t, 0, 0, 1, ([7] : List Int)))) : gs.length = 1 ∧ ∀ f ∈ gs, f.due = 1 := by
  have hd := key_due hk
  have e : timesOf [] 0 0 = [1] := by decide
  rw [e] at hd
  have hx : ∀ x ∈ xs, (0 : Int) < x.due := fun x hx => by
    have : x.due ∈ xs.map (·.due) := List.mem_map_of_mem hx
    rw [hd] at this
    simp at this
    omega
  obtain ⟨_, _, _, g4⟩ := puts_facts h hx List.Pairwise.nil (by simp)
  have hl : xs.length = 1 := by have := congrArg List.length hd; simpa using this
  refine ⟨by have := g4.length_eq; simpa [hl] using this, fun f hf => ?_⟩
  have h1 : f ∈ xs := by have := g4.mem_iff.1 hf; simpa using this
  have : f.due ∈ xs.map (·.due) := List.mem_map_of_mem h1
  rw [hd] at this
  simpa using this

theorem BEqual_c {V : Mem} (A : Option Addr) (n c : Nat) (bs : List Int) (h : Cels V [] A (bs.map (.int .u8))) (hn : bs.length = n) (hb : ∀ b ∈ bs, 0 ≤ b ∧ b ≤ 255) (B : Option Addr) (m d : Nat) (cs : List Int) (h' : Cels V [] B (cs.map (.int .u8))) (hm : cs.length = m) (hc : ∀ b ∈ cs, 0 ≤ b ∧ b ≤ 255) : CallS Try.prog 23 [.slice A n c, .slice B m d].toArray V [] (fun r L' => r = .bool (decide (bs = cs)) ∧ L' = []) := by
  refine callS Try.func23 rfl rfl (fun w0 => ?_)
  refine s_seq ?_
  refine s_region ?_
  refine o_val rfl rfl rfl (y_assign (v := (.bool _)) rfl) ?_
  refine o_nil ?_
  refine s_seq ?_
  refine s_region ?_
  refine o_val rfl rfl rfl (y_move (v := (.slice _ _ _)) rfl) ?_
  refine o_val rfl rfl rfl (y_bytes_str Try.underlying29 Try.underlying5 Try.underlying9 rfl (h.here) (hn)) ?_
  refine o_val rfl rfl rfl (y_move (v := (.slice _ _ _)) rfl) ?_
  refine o_val rfl rfl rfl (y_bytes_str Try.underlying29 Try.underlying5 Try.underlying9 rfl (h'.here) (hm)) ?_
  refine o_val rfl rfl rfl (y_eql_str rfl rfl) ?_
  refine o_val rfl rfl rfl (y_assign (v := (.bool _)) rfl) ?_
  refine o_nil ?_
  refine s_ret ?_
  exact ⟨_, _, res1 rfl rfl, ⟨congrArg Value.bool (by rw [decide_eq_decide]; exact mkB_inj hb hc), rfl⟩, sub_front ⟨_, rfl⟩⟩

theorem DeedFault_c {V : Mem} (ends : Int) (N : Option Addr) (n c : Nat) (ds : List DD) (h : Cels V [] N (ds.flatMap encD)) (hn : ds.length = n) (hb : n ≤ 140737488355328) : CallS Try.prog 18 [.int .i64 ends, .slice N n c].toArray V [] (fun r L' => r = .int .i64 (errN ends ds) ∧ L' = []) := by
  refine callS Try.func18 rfl rfl (fun w0 => ?_)
  refine s_seq ?_
  refine s_region ?_
  refine o_val rfl rfl rfl (y_assign (v := (.int _ _)) rfl) ?_
  refine o_nil ?_
  refine s_seq ?_
  refine s_seq ?_
  refine s_region ?_
  refine o_val rfl rfl rfl (y_move (v := (.int _ _)) rfl) ?_
  refine o_split rfl rfl rfl (y_lss rfl rfl) (fun p1 => ?_) (fun p2 => ?_)
  · refine o_val rfl rfl rfl (y_move (v := (.bool _)) rfl) ?_
    refine o_guard_no rfl rfl rfl rfl rfl ?_
    refine o_guard_no rfl rfl rfl rfl rfl ?_
    refine o_val rfl rfl rfl (y_pick_t (v := (.bool _)) rfl rfl) ?_
    refine o_nil ?_
    refine s_then rfl ?_
    refine s_seq ?_
    refine s_region ?_
    refine o_val rfl rfl rfl (y_assign (v := (.int _ _)) rfl) ?_
    refine o_nil ?_
    refine s_ret ?_
    exact ⟨_, [], res1 rfl rfl, ⟨congrArg (Value.int .i64) (by unfold errN; rw [if_pos (by omega)]), rfl⟩, sub_picks [] rfl⟩
  · refine o_val rfl rfl rfl (y_move (v := (.bool _)) rfl) ?_
    refine o_guard_yes rfl rfl ?_
    refine o_val rfl rfl rfl (y_move (v := (.int _ _)) rfl) ?_
    refine o_guard_yes rfl rfl ?_
    refine o_val rfl rfl rfl (y_gtr rfl rfl) ?_
    refine o_val rfl rfl rfl (y_pick_f (v := (.bool _)) rfl rfl) ?_
    refine o_nil ?_
    refine s_if rfl (fun h3 => ?_) (fun h4 => ?_)
    · refine s_seq ?_
      refine s_region ?_
      refine o_val rfl rfl rfl (y_assign (v := (.int _ _)) rfl) ?_
      refine o_nil ?_
      refine s_ret ?_
      exact ⟨_, [], res1 rfl rfl, ⟨congrArg (Value.int .i64) (by unfold errN; rw [if_pos (by omega)]), rfl⟩, sub_picks [] rfl⟩
    · refine s_skip ?_
      refine s_seq ?_
      refine s_seq ?_
      refine s_region ?_
      refine o_val rfl rfl rfl (y_move (v := (.slice _ _ _)) rfl) ?_
      refine o_val rfl rfl rfl (y_len Try.runUnderlying22 rfl) ?_
      refine o_val rfl rfl rfl (y_gtr rfl rfl) ?_
      refine o_nil ?_
      refine s_if rfl (fun h5 => ?_) (fun h6 => ?_)
      · refine s_seq ?_
        refine s_region ?_
        refine o_val rfl rfl rfl (y_assign (v := (.int _ _)) rfl) ?_
        refine o_nil ?_
        refine s_ret ?_
        exact ⟨_, [], res1 rfl rfl, ⟨congrArg (Value.int .i64) (by unfold errN; rw [if_neg (by omega), if_pos (by omega)]), rfl⟩, sub_picks [] rfl⟩
      · refine s_skip ?_
        refine s_seq ?_
        refine s_seq ?_
        refine s_region ?_
        refine o_val rfl rfl rfl (y_move (v := (.slice _ _ _)) rfl) ?_
        refine o_val rfl rfl rfl (y_len Try.runUnderlying22 rfl) ?_
        refine o_val rfl rfl rfl (y_move (v := (.int _ _)) rfl) ?_
        refine o_nil ?_
        refine s_forget [(4, (.int _ _)), (16, (.slice _ _ _)), (17, (.int _ _)), (18, (.int _ _))] ⟨rfl, rfl, rfl, rfl, trivial⟩ (fun _f => ?_)
        refine s_block ?_
        refine s_loop (γ := Nat) (fun g => [(16, .slice N n c), (17, .int .i64 n), (18, .int .i64 g)]) (fun g => []) (fun g => g ≤ n ∧ ∀ j, j < g → (ds.getD j default).ok) (fun g => n - g) (0) ?_ ⟨rfl, rfl, rfl, trivial⟩ (sub_front ⟨_, rfl⟩) ?_
        · exact ⟨Nat.zero_le _, fun j hj => absurd hj (Nat.not_lt_zero j)⟩
        · intro g _f hI
          obtain ⟨hi, hall⟩ := hI
          refine s_seq ?_
          refine s_region ?_
          refine o_val rfl rfl rfl (y_lss rfl rfl) ?_
          refine o_nil ?_
          refine s_seq ?_
          refine s_if rfl (fun h7 => ?_) (fun h8 => ?_)
          · refine s_skip ?_
            refine s_seq ?_
            refine s_block ?_
            refine s_seq ?_
            refine s_region ?_
            refine o_val rfl rfl rfl (y_indexAddr Try.runUnderlying22 Try.sizeOf36 (some_at (sz := 2) encD_len (i := 0) h (by omega)) rfl rfl (by omega)) ?_
            refine o_val rfl rfl rfl (y_loads (cs := [_, _, _]) Try.isAgg36 Try.sizeOf36 rfl (by unfold idx; rw [Option.isSome_map]; exact some_at (sz := 2) encD_len (i := 0) h (by omega)) rfl (cels_at (sz := 3) encD_len h.here (by omega))) ?_
            refine o_alloc rfl Try.zeroValue36 rfl (fun b9 => ?_)
            refine o_stores (vs := [(.int _ _), (.int _ _), (.int _ _)]) 0 rfl Try.sizeOf36 rfl rfl rfl (by simp [Value.oneCell']) (by simp) ?_
            refine o_nil ?_
            refine s_seq ?_
            refine s_region ?_
            refine o_val rfl rfl rfl (y_field0 Try.runUnderlying36 rfl Try.sizeOf3 rfl rfl) ?_
            refine o_val rfl rfl rfl (y_load Try.isAgg3 rfl (cel_own 0 rfl rfl)) ?_
            refine o_split rfl rfl rfl (y_lss rfl rfl) (fun p10 => ?_) (fun p11 => ?_)
            · refine o_val rfl rfl rfl (y_move (v := (.bool _)) rfl) ?_
              refine o_guard_no rfl rfl rfl rfl rfl ?_
              refine o_guard_no rfl rfl rfl rfl rfl ?_
              refine o_guard_no rfl rfl rfl rfl rfl ?_
              refine o_val rfl rfl rfl (y_pick_t (v := (.bool _)) rfl rfl) ?_
              refine o_val rfl rfl rfl (y_move (v := (.bool _)) rfl) ?_
              refine o_guard_no rfl rfl rfl rfl rfl ?_
              refine o_guard_no rfl rfl rfl rfl rfl ?_
              refine o_guard_no rfl rfl rfl rfl rfl ?_
              refine o_val rfl rfl rfl (y_pick_t (v := (.bool _)) rfl rfl) ?_
              refine o_val rfl rfl rfl (y_move (v := (.bool _)) rfl) ?_
              refine o_guard_no rfl rfl rfl rfl rfl ?_
              refine o_guard_no rfl rfl rfl rfl rfl ?_
              refine o_guard_no rfl rfl rfl rfl rfl ?_
              refine o_val rfl rfl rfl (y_pick_t (v := (.bool _)) rfl rfl) ?_
              refine o_val rfl rfl rfl (y_move (v := (.bool _)) rfl) ?_
              refine o_guard_no rfl rfl rfl rfl rfl ?_
              refine o_guard_no rfl rfl rfl rfl rfl ?_
              refine o_guard_no rfl rfl rfl rfl rfl ?_
              refine o_val rfl rfl rfl (y_pick_t (v := (.bool _)) rfl rfl) ?_
              refine o_val rfl rfl rfl (y_move (v := (.bool _)) rfl) ?_
              refine o_guard_no rfl rfl rfl rfl rfl ?_
              refine o_guard_no rfl rfl rfl rfl rfl ?_
              refine o_guard_no rfl rfl rfl rfl rfl ?_
              refine o_val rfl rfl rfl (y_pick_t (v := (.bool _)) rfl rfl) ?_
              refine o_val rfl rfl rfl (y_move (v := (.bool _)) rfl) ?_
              refine o_guard_no rfl rfl rfl rfl rfl ?_
              refine o_guard_no rfl rfl rfl rfl rfl ?_
              refine o_guard_no rfl rfl rfl rfl rfl ?_
              refine o_guard_no rfl rfl rfl rfl rfl ?_
              refine o_guard_un rfl rfl rfl rfl ?_
              refine o_guard_un rfl rfl rfl rfl ?_
              refine o_guard_un rfl rfl rfl rfl ?_
              refine o_guard_no rfl rfl rfl rfl rfl ?_
              refine o_val rfl rfl rfl (y_pick_t (v := (.bool _)) rfl rfl) ?_
              refine o_nil ?_
              refine s_then rfl ?_
              refine s_seq ?_
              refine s_region ?_
              refine o_val rfl rfl rfl (y_assign (v := (.int _ _)) rfl) ?_
              refine o_nil ?_
              refine s_ret ?_
              exact ⟨_, [], res1 rfl rfl, ⟨congrArg (Value.int .i64) (by unfold errN; rw [if_neg (by omega), if_neg (by omega), if_neg (ok_not (k := g) (by omega) (fun hh => by unfold DD.ok at hh; omega))]), rfl⟩, sub_picks [] rfl⟩
            · refine o_val rfl rfl rfl (y_move (v := (.bool _)) rfl) ?_
              refine o_guard_yes rfl rfl ?_
              refine o_val rfl rfl rfl (y_field0 Try.runUnderlying36 rfl Try.sizeOf3 rfl rfl) ?_
              refine o_guard_yes rfl rfl ?_
              refine o_val rfl rfl rfl (y_load Try.isAgg3 rfl (cel_own 0 rfl rfl)) ?_
              refine o_guard_yes rfl rfl ?_
              refine o_split rfl rfl rfl (y_gtr rfl rfl) (fun p12 => ?_) (fun p13 => ?_)
              · refine o_val rfl rfl rfl (y_pick_f (v := (.bool _)) rfl rfl) ?_
                refine o_val rfl rfl rfl (y_move (v := (.bool _)) rfl) ?_
                refine o_guard_no rfl rfl rfl rfl rfl ?_
                refine o_guard_no rfl rfl rfl rfl rfl ?_
                refine o_guard_no rfl rfl rfl rfl rfl ?_
                refine o_val rfl rfl rfl (y_pick_t (v := (.bool _)) rfl rfl) ?_
                refine o_val rfl rfl rfl (y_move (v := (.bool _)) rfl) ?_
                refine o_guard_no rfl rfl rfl rfl rfl ?_
                refine o_guard_no rfl rfl rfl rfl rfl ?_
                refine o_guard_no rfl rfl rfl rfl rfl ?_
                refine o_val rfl rfl rfl (y_pick_t (v := (.bool _)) rfl rfl) ?_
                refine o_val rfl rfl rfl (y_move (v := (.bool _)) rfl) ?_
                refine o_guard_no rfl rfl rfl rfl rfl ?_
                refine o_guard_no rfl rfl rfl rfl rfl ?_
                refine o_guard_no rfl rfl rfl rfl rfl ?_
                refine o_val rfl rfl rfl (y_pick_t (v := (.bool _)) rfl rfl) ?_
                refine o_val rfl rfl rfl (y_move (v := (.bool _)) rfl) ?_
                refine o_guard_no rfl rfl rfl rfl rfl ?_
                refine o_guard_no rfl rfl rfl rfl rfl ?_
                refine o_guard_no rfl rfl rfl rfl rfl ?_
                refine o_val rfl rfl rfl (y_pick_t (v := (.bool _)) rfl rfl) ?_
                refine o_val rfl rfl rfl (y_move (v := (.bool _)) rfl) ?_
                refine o_guard_no rfl rfl rfl rfl rfl ?_
                refine o_guard_no rfl rfl rfl rfl rfl ?_
                refine o_guard_no rfl rfl rfl rfl rfl ?_
                refine o_guard_no rfl rfl rfl rfl rfl ?_
                refine o_guard_un rfl rfl rfl rfl ?_
                refine o_guard_un rfl rfl rfl rfl ?_
                refine o_guard_un rfl rfl rfl rfl ?_
                refine o_guard_no rfl rfl rfl rfl rfl ?_
                refine o_val rfl rfl rfl (y_pick_t (v := (.bool _)) rfl rfl) ?_
                refine o_nil ?_
                refine s_then rfl ?_
                refine s_seq ?_
                refine s_region ?_
                refine o_val rfl rfl rfl (y_assign (v := (.int _ _)) rfl) ?_
                refine o_nil ?_
                refine s_ret ?_
                exact ⟨_, [], res1 rfl rfl, ⟨congrArg (Value.int .i64) (by unfold errN; rw [if_neg (by omega), if_neg (by omega), if_neg (ok_not (k := g) (by omega) (fun hh => by unfold DD.ok at hh; omega))]), rfl⟩, sub_picks [] rfl⟩
              · refine o_val rfl rfl rfl (y_pick_f (v := (.bool _)) rfl rfl) ?_
                refine o_val rfl rfl rfl (y_move (v := (.bool _)) rfl) ?_
                refine o_guard_yes rfl rfl ?_
                refine o_val rfl rfl rfl (y_field0 Try.runUnderlying36 rfl Try.sizeOf3 rfl rfl) ?_
                refine o_guard_yes rfl rfl ?_
                refine o_val rfl rfl rfl (y_load Try.isAgg3 rfl (cel_own 0 rfl rfl)) ?_
                refine o_guard_yes rfl rfl ?_
                refine o_split rfl rfl rfl (y_lss rfl rfl) (fun p14 => ?_) (fun p15 => ?_)
                · refine o_val rfl rfl rfl (y_pick_f (v := (.bool _)) rfl rfl) ?_
                  refine o_val rfl rfl rfl (y_move (v := (.bool _)) rfl) ?_
                  refine o_guard_no rfl rfl rfl rfl rfl ?_
                  refine o_guard_no rfl rfl rfl rfl rfl ?_
                  refine o_guard_no rfl rfl rfl rfl rfl ?_
                  refine o_val rfl rfl rfl (y_pick_t (v := (.bool _)) rfl rfl) ?_
                  refine o_val rfl rfl rfl (y_move (v := (.bool _)) rfl) ?_
                  refine o_guard_no rfl rfl rfl rfl rfl ?_
                  refine o_guard_no rfl rfl rfl rfl rfl ?_
                  refine o_guard_no rfl rfl rfl rfl rfl ?_
                  refine o_val rfl rfl rfl (y_pick_t (v := (.bool _)) rfl rfl) ?_
                  refine o_val rfl rfl rfl (y_move (v := (.bool _)) rfl) ?_
                  refine o_guard_no rfl rfl rfl rfl rfl ?_
                  refine o_guard_no rfl rfl rfl rfl rfl ?_
                  refine o_guard_no rfl rfl rfl rfl rfl ?_
                  refine o_val rfl rfl rfl (y_pick_t (v := (.bool _)) rfl rfl) ?_
                  refine o_val rfl rfl rfl (y_move (v := (.bool _)) rfl) ?_
                  refine o_guard_no rfl rfl rfl rfl rfl ?_
                  refine o_guard_no rfl rfl rfl rfl rfl ?_
                  refine o_guard_no rfl rfl rfl rfl rfl ?_
                  refine o_guard_no rfl rfl rfl rfl rfl ?_
                  refine o_guard_un rfl rfl rfl rfl ?_
                  refine o_guard_un rfl rfl rfl rfl ?_
                  refine o_guard_un rfl rfl rfl rfl ?_
                  refine o_guard_no rfl rfl rfl rfl rfl ?_
                  refine o_val rfl rfl rfl (y_pick_t (v := (.bool _)) rfl rfl) ?_
                  refine o_nil ?_
                  refine s_then rfl ?_
                  refine s_seq ?_
                  refine s_region ?_
                  refine o_val rfl rfl rfl (y_assign (v := (.int _ _)) rfl) ?_
                  refine o_nil ?_
                  refine s_ret ?_
                  exact ⟨_, [], res1 rfl rfl, ⟨congrArg (Value.int .i64) (by unfold errN; rw [if_neg (by omega), if_neg (by omega), if_neg (ok_not (k := g) (by omega) (fun hh => by unfold DD.ok at hh; omega))]), rfl⟩, sub_picks [] rfl⟩
                · refine o_val rfl rfl rfl (y_pick_f (v := (.bool _)) rfl rfl) ?_
                  refine o_val rfl rfl rfl (y_move (v := (.bool _)) rfl) ?_
                  refine o_guard_yes rfl rfl ?_
                  refine o_val rfl rfl rfl (y_field0 Try.runUnderlying36 rfl Try.sizeOf3 rfl rfl) ?_
                  refine o_guard_yes rfl rfl ?_
                  refine o_val rfl rfl rfl (y_load Try.isAgg3 rfl (cel_own 0 rfl rfl)) ?_
                  refine o_guard_yes rfl rfl ?_
                  refine o_split rfl rfl rfl (y_gtr rfl rfl) (fun p16 => ?_) (fun p17 => ?_)
                  · refine o_val rfl rfl rfl (y_pick_f (v := (.bool _)) rfl rfl) ?_
                    refine o_val rfl rfl rfl (y_move (v := (.bool _)) rfl) ?_
                    refine o_guard_no rfl rfl rfl rfl rfl ?_
                    refine o_guard_no rfl rfl rfl rfl rfl ?_
                    refine o_guard_no rfl rfl rfl rfl rfl ?_
                    refine o_val rfl rfl rfl (y_pick_t (v := (.bool _)) rfl rfl) ?_
                    refine o_val rfl rfl rfl (y_move (v := (.bool _)) rfl) ?_
                    refine o_guard_no rfl rfl rfl rfl rfl ?_
                    refine o_guard_no rfl rfl rfl rfl rfl ?_
                    refine o_guard_no rfl rfl rfl rfl rfl ?_
                    refine o_val rfl rfl rfl (y_pick_t (v := (.bool _)) rfl rfl) ?_
                    refine o_val rfl rfl rfl (y_move (v := (.bool _)) rfl) ?_
                    refine o_guard_no rfl rfl rfl rfl rfl ?_
                    refine o_guard_no rfl rfl rfl rfl rfl ?_
                    refine o_guard_no rfl rfl rfl rfl rfl ?_
                    refine o_guard_no rfl rfl rfl rfl rfl ?_
                    refine o_guard_un rfl rfl rfl rfl ?_
                    refine o_guard_un rfl rfl rfl rfl ?_
                    refine o_guard_un rfl rfl rfl rfl ?_
                    refine o_guard_no rfl rfl rfl rfl rfl ?_
                    refine o_val rfl rfl rfl (y_pick_t (v := (.bool _)) rfl rfl) ?_
                    refine o_nil ?_
                    refine s_then rfl ?_
                    refine s_seq ?_
                    refine s_region ?_
                    refine o_val rfl rfl rfl (y_assign (v := (.int _ _)) rfl) ?_
                    refine o_nil ?_
                    refine s_ret ?_
                    exact ⟨_, [], res1 rfl rfl, ⟨congrArg (Value.int .i64) (by unfold errN; rw [if_neg (by omega), if_neg (by omega), if_neg (ok_not (k := g) (by omega) (fun hh => by unfold DD.ok at hh; omega))]), rfl⟩, sub_picks [] rfl⟩
                  · refine o_val rfl rfl rfl (y_pick_f (v := (.bool _)) rfl rfl) ?_
                    refine o_val rfl rfl rfl (y_move (v := (.bool _)) rfl) ?_
                    refine o_guard_yes rfl rfl ?_
                    refine o_val rfl rfl rfl (y_field0 Try.runUnderlying36 rfl Try.sizeOf3 rfl rfl) ?_
                    refine o_guard_yes rfl rfl ?_
                    refine o_val rfl rfl rfl (y_load Try.isAgg3 rfl (cel_own 0 rfl rfl)) ?_
                    refine o_guard_yes rfl rfl ?_
                    refine o_split rfl rfl rfl (y_lss rfl rfl) (fun p18 => ?_) (fun p19 => ?_)
                    · refine o_val rfl rfl rfl (y_pick_f (v := (.bool _)) rfl rfl) ?_
                      refine o_val rfl rfl rfl (y_move (v := (.bool _)) rfl) ?_
                      refine o_guard_no rfl rfl rfl rfl rfl ?_
                      refine o_guard_no rfl rfl rfl rfl rfl ?_
                      refine o_guard_no rfl rfl rfl rfl rfl ?_
                      refine o_val rfl rfl rfl (y_pick_t (v := (.bool _)) rfl rfl) ?_
                      refine o_val rfl rfl rfl (y_move (v := (.bool _)) rfl) ?_
                      refine o_guard_no rfl rfl rfl rfl rfl ?_
                      refine o_guard_no rfl rfl rfl rfl rfl ?_
                      refine o_guard_no rfl rfl rfl rfl rfl ?_
                      refine o_guard_no rfl rfl rfl rfl rfl ?_
                      refine o_guard_un rfl rfl rfl rfl ?_
                      refine o_guard_un rfl rfl rfl rfl ?_
                      refine o_guard_un rfl rfl rfl rfl ?_
                      refine o_guard_no rfl rfl rfl rfl rfl ?_
                      refine o_val rfl rfl rfl (y_pick_t (v := (.bool _)) rfl rfl) ?_
                      refine o_nil ?_
                      refine s_then rfl ?_
                      refine s_seq ?_
                      refine s_region ?_
                      refine o_val rfl rfl rfl (y_assign (v := (.int _ _)) rfl) ?_
                      refine o_nil ?_
                      refine s_ret ?_
                      exact ⟨_, [], res1 rfl rfl, ⟨congrArg (Value.int .i64) (by unfold errN; rw [if_neg (by omega), if_neg (by omega), if_neg (ok_not (k := g) (by omega) (fun hh => by unfold DD.ok at hh; omega))]), rfl⟩, sub_picks [] rfl⟩
                    · refine o_val rfl rfl rfl (y_pick_f (v := (.bool _)) rfl rfl) ?_
                      refine o_val rfl rfl rfl (y_move (v := (.bool _)) rfl) ?_
                      refine o_guard_yes rfl rfl ?_
                      refine o_val rfl rfl rfl (y_field0 Try.runUnderlying36 rfl Try.sizeOf3 rfl rfl) ?_
                      refine o_guard_yes rfl rfl ?_
                      refine o_val rfl rfl rfl (y_load Try.isAgg3 rfl (cel_own 0 rfl rfl)) ?_
                      refine o_guard_yes rfl rfl ?_
                      refine o_split rfl rfl rfl (y_gtr rfl rfl) (fun p20 => ?_) (fun p21 => ?_)
                      · refine o_val rfl rfl rfl (y_pick_f (v := (.bool _)) rfl rfl) ?_
                        refine o_val rfl rfl rfl (y_move (v := (.bool _)) rfl) ?_
                        refine o_guard_no rfl rfl rfl rfl rfl ?_
                        refine o_guard_no rfl rfl rfl rfl rfl ?_
                        refine o_guard_no rfl rfl rfl rfl rfl ?_
                        refine o_guard_no rfl rfl rfl rfl rfl ?_
                        refine o_guard_un rfl rfl rfl rfl ?_
                        refine o_guard_un rfl rfl rfl rfl ?_
                        refine o_guard_un rfl rfl rfl rfl ?_
                        refine o_guard_no rfl rfl rfl rfl rfl ?_
                        refine o_val rfl rfl rfl (y_pick_t (v := (.bool _)) rfl rfl) ?_
                        refine o_nil ?_
                        refine s_then rfl ?_
                        refine s_seq ?_
                        refine s_region ?_
                        refine o_val rfl rfl rfl (y_assign (v := (.int _ _)) rfl) ?_
                        refine o_nil ?_
                        refine s_ret ?_
                        exact ⟨_, [], res1 rfl rfl, ⟨congrArg (Value.int .i64) (by unfold errN; rw [if_neg (by omega), if_neg (by omega), if_neg (ok_not (k := g) (by omega) (fun hh => by unfold DD.ok at hh; omega))]), rfl⟩, sub_picks [] rfl⟩
                      · refine o_val rfl rfl rfl (y_pick_f (v := (.bool _)) rfl rfl) ?_
                        refine o_val rfl rfl rfl (y_move (v := (.bool _)) rfl) ?_
                        refine o_guard_yes rfl rfl ?_
                        refine o_val rfl rfl rfl (y_field0 Try.runUnderlying36 rfl Try.sizeOf3 rfl rfl) ?_
                        refine o_guard_yes rfl rfl ?_
                        refine o_val rfl rfl rfl (y_load Try.isAgg3 rfl (cel_own 0 rfl rfl)) ?_
                        refine o_guard_yes rfl rfl ?_
                        refine o_split rfl rfl rfl (y_eql rfl rfl) (fun p22 => ?_) (fun p23 => ?_)
                        · refine o_guard_yes rfl rfl ?_
                          refine o_val rfl rfl rfl (y_move (v := (.bool _)) rfl) ?_
                          refine o_guard_yes rfl rfl ?_
                          refine o_val rfl rfl rfl (y_field0 Try.runUnderlying36 rfl Try.sizeOf3 rfl rfl) ?_
                          refine o_guard_yes rfl rfl ?_
                          refine o_val rfl rfl rfl (y_load Try.isAgg3 rfl (cel_own 0 rfl rfl)) ?_
                          refine o_guard_yes rfl rfl ?_
                          refine o_split rfl rfl rfl (y_gtr rfl rfl) (fun p24 => ?_) (fun p25 => ?_)
                          · refine o_guard_yes rfl rfl ?_
                            refine o_val rfl rfl rfl (y_pick_t (v := (.bool _)) rfl rfl) ?_
                            refine o_val rfl rfl rfl (y_pick_f (v := (.bool _)) rfl rfl) ?_
                            refine o_nil ?_
                            refine s_then rfl ?_
                            refine s_seq ?_
                            refine s_region ?_
                            refine o_val rfl rfl rfl (y_assign (v := (.int _ _)) rfl) ?_
                            refine o_nil ?_
                            refine s_ret ?_
                            exact ⟨_, [], res1 rfl rfl, ⟨congrArg (Value.int .i64) (by unfold errN; rw [if_neg (by omega), if_neg (by omega), if_neg (ok_not (k := g) (by omega) (fun hh => by unfold DD.ok at hh; omega))]), rfl⟩, sub_picks [] rfl⟩
                          · refine o_guard_yes rfl rfl ?_
                            refine o_val rfl rfl rfl (y_pick_t (v := (.bool _)) rfl rfl) ?_
                            refine o_val rfl rfl rfl (y_pick_f (v := (.bool _)) rfl rfl) ?_
                            refine o_nil ?_
                            refine s_else rfl ?_
                            refine s_skip ?_
                            refine s_region ?_
                            refine o_val rfl rfl rfl (y_add rfl rfl (by simp only [inK]; omega)) ?_
                            refine o_val rfl rfl rfl (y_move (v := (.int _ _)) rfl) ?_
                            refine o_nil ?_
                            exact ⟨g + 1, (by first | omega | (dsimp only; omega)), ⟨by omega, ok_step hall (by unfold DD.ok; omega)⟩, ⟨rfl, rfl, (congrArg (Value.int .i64) (by omega)), trivial⟩, sub_front ⟨_, rfl⟩⟩
                        · refine o_guard_yes rfl rfl ?_
                          refine o_val rfl rfl rfl (y_move (v := (.bool _)) rfl) ?_
                          refine o_guard_no rfl rfl rfl rfl rfl ?_
                          refine o_guard_no rfl rfl rfl rfl rfl ?_
                          refine o_guard_no rfl rfl rfl rfl rfl ?_
                          refine o_guard_yes rfl rfl ?_
                          refine o_val rfl rfl rfl (y_pick_f (v := (.bool _)) rfl rfl) ?_
                          refine o_val rfl rfl rfl (y_pick_f (v := (.bool _)) rfl rfl) ?_
                          refine o_nil ?_
                          refine s_else rfl ?_
                          refine s_skip ?_
                          refine s_region ?_
                          refine o_val rfl rfl rfl (y_add rfl rfl (by simp only [inK]; omega)) ?_
                          refine o_val rfl rfl rfl (y_move (v := (.int _ _)) rfl) ?_
                          refine o_nil ?_
                          exact ⟨g + 1, (by first | omega | (dsimp only; omega)), ⟨by omega, ok_step hall (by unfold DD.ok; omega)⟩, ⟨rfl, rfl, (congrArg (Value.int .i64) (by omega)), trivial⟩, sub_front ⟨_, rfl⟩⟩
          · refine s_exit ?_
            refine s_seq ?_
            refine s_region ?_
            refine o_val rfl rfl rfl (y_assign (v := (.int _ _)) rfl) ?_
            refine o_nil ?_
            refine s_ret ?_
            exact ⟨_, [], res1 rfl rfl, ⟨congrArg (Value.int .i64) (by unfold errN; rw [if_neg (by omega), if_neg (by omega), if_pos (ok_all hall (by omega))]), rfl⟩, sub_picks [] rfl⟩

theorem pkEq_c {V : Mem} (f q : FL) (hf : FlOK V f) (hg : FlOK V q) : CallS Try.prog 22 [.agg #[.int .i64 f.src, .int .i64 f.dst, .slice f.A f.n f.c], .agg #[.int .i64 q.src, .int .i64 q.dst, .slice q.A q.n q.c]].toArray V [] (fun r L' => r = .bool (decide (f.pk = q.pk)) ∧ L' = []) := by
  refine callS Try.func22 rfl rfl (fun w0 => ?_)
  refine s_seq ?_
  refine s_region ?_
  refine o_box (v := (.agg #[(.int _ _), (.int _ _), (.slice _ _ _)])) rfl rfl rfl (fun b1 => ?_)
  refine o_box (v := (.agg #[(.int _ _), (.int _ _), (.slice _ _ _)])) rfl rfl rfl (fun b2 => ?_)
  refine o_val rfl rfl rfl (y_assign (v := (.bool _)) rfl) ?_
  refine o_nil ?_
  refine s_seq ?_
  refine s_region ?_
  refine o_val rfl rfl rfl (y_field0 Try.runUnderlying34 rfl Try.sizeOf3 rfl rfl) ?_
  refine o_val rfl rfl rfl (y_load Try.isAgg3 rfl (cel_own 0 rfl rfl)) ?_
  refine o_val rfl rfl rfl (y_field0 Try.runUnderlying34 rfl Try.sizeOf3 rfl rfl) ?_
  refine o_val rfl rfl rfl (y_load Try.isAgg3 rfl (cel_own 1 rfl rfl)) ?_
  refine o_split rfl rfl rfl (y_eql rfl rfl) (fun p3 => ?_) (fun p4 => ?_)
  · have hq1 := p3
    refine o_val rfl rfl rfl (y_move (v := (.bool _)) rfl) ?_
    refine o_guard_yes rfl rfl ?_
    refine o_val rfl rfl rfl (y_field0 Try.runUnderlying34 rfl Try.sizeOf3 rfl rfl) ?_
    refine o_guard_yes rfl rfl ?_
    refine o_val rfl rfl rfl (y_load Try.isAgg3 rfl (cel_own 0 rfl rfl)) ?_
    refine o_guard_yes rfl rfl ?_
    refine o_val rfl rfl rfl (y_field0 Try.runUnderlying34 rfl Try.sizeOf3 rfl rfl) ?_
    refine o_guard_yes rfl rfl ?_
    refine o_val rfl rfl rfl (y_load Try.isAgg3 rfl (cel_own 1 rfl rfl)) ?_
    refine o_guard_yes rfl rfl ?_
    refine o_split rfl rfl rfl (y_eql rfl rfl) (fun p5 => ?_) (fun p6 => ?_)
    · have hq2 := p5
      refine o_val rfl rfl rfl (y_pick_t (v := (.bool _)) rfl rfl) ?_
      refine o_val rfl rfl rfl (y_move (v := (.bool _)) rfl) ?_
      refine o_guard_yes rfl rfl ?_
      refine o_val rfl rfl rfl (y_field0 Try.runUnderlying34 rfl Try.sizeOf29 rfl rfl) ?_
      refine o_guard_yes rfl rfl ?_
      refine o_val rfl rfl rfl (y_load Try.isAgg29 rfl (cel_own 0 rfl rfl)) ?_
      refine o_guard_yes rfl rfl ?_
      refine o_val rfl rfl rfl (y_field0 Try.runUnderlying34 rfl Try.sizeOf29 rfl rfl) ?_
      refine o_guard_yes rfl rfl ?_
      refine o_val rfl rfl rfl (y_load Try.isAgg29 rfl (cel_own 1 rfl rfl)) ?_
      refine o_guard_yes rfl rfl ?_
      refine o_fn 0 (d := 22) rfl Try.call23 (BEqual_c _ f.n _ f.bs hf.2.2.2.1.here.down hf.1 hf.2.2.2.2 _ q.n _ q.bs hg.2.2.2.1.here.down hg.1 hg.2.2.2.2) rfl ?_
      rintro _ _ ⟨rfl, rfl⟩
      refine o_val rfl rfl rfl (y_pick_t (v := (.bool _)) rfl rfl) ?_
      refine o_val rfl rfl rfl (y_assign (v := (.bool _)) rfl) ?_
      refine o_nil ?_
      refine s_forget [(4, (.bool _))] ⟨rfl, trivial⟩ (fun _f => ?_)
      refine s_ret ?_
      exact ⟨_, [], res1 rfl rfl, ⟨congrArg Value.bool (by rw [decide_eq_decide]; exact ⟨fun e => by unfold FL.pk; rw [hq1, hq2, e], fun e => congrArg (·.2.2) e⟩), rfl⟩, sub_picks [] rfl⟩
    · have hq2 := p6
      refine o_val rfl rfl rfl (y_pick_t (v := (.bool _)) rfl rfl) ?_
      refine o_val rfl rfl rfl (y_move (v := (.bool _)) rfl) ?_
      refine o_guard_no rfl rfl rfl rfl rfl ?_
      refine o_guard_no rfl rfl rfl rfl rfl ?_
      refine o_guard_no rfl rfl rfl rfl rfl ?_
      refine o_guard_no rfl rfl rfl rfl rfl ?_
      refine o_guard_no rfl rfl rfl rfl rfl ?_
      refine o_val rfl rfl rfl (y_pick_f (v := (.bool _)) rfl rfl) ?_
      refine o_val rfl rfl rfl (y_assign (v := (.bool _)) rfl) ?_
      refine o_nil ?_
      refine s_forget [(4, (.bool _))] ⟨rfl, trivial⟩ (fun _f => ?_)
      refine s_ret ?_
      exact ⟨_, [], res1 rfl rfl, ⟨congrArg Value.bool (decide_eq_false (fun e => hq2 (congrArg (·.2.1) e))).symm, rfl⟩, sub_picks [] rfl⟩
  · have hq1 := p4
    refine o_val rfl rfl rfl (y_move (v := (.bool _)) rfl) ?_
    refine o_guard_no rfl rfl rfl rfl rfl ?_
    refine o_guard_no rfl rfl rfl rfl rfl ?_
    refine o_guard_no rfl rfl rfl rfl rfl ?_
    refine o_guard_no rfl rfl rfl rfl rfl ?_
    refine o_guard_no rfl rfl rfl rfl rfl ?_
    refine o_val rfl rfl rfl (y_pick_f (v := (.bool _)) rfl rfl) ?_
    refine o_val rfl rfl rfl (y_move (v := (.bool _)) rfl) ?_
    refine o_guard_no rfl rfl rfl rfl rfl ?_
    refine o_guard_no rfl rfl rfl rfl rfl ?_
    refine o_guard_no rfl rfl rfl rfl rfl ?_
    refine o_guard_no rfl rfl rfl rfl rfl ?_
    refine o_guard_no rfl rfl rfl rfl rfl ?_
    refine o_val rfl rfl rfl (y_pick_f (v := (.bool _)) rfl rfl) ?_
    refine o_val rfl rfl rfl (y_assign (v := (.bool _)) rfl) ?_
    refine o_nil ?_
    refine s_forget [(4, (.bool _))] ⟨rfl, trivial⟩ (fun _f => ?_)
    refine s_ret ?_
    exact ⟨_, [], res1 rfl rfl, ⟨congrArg Value.bool (decide_eq_false (fun e => hq1 (congrArg (·.1) e))).symm, rfl⟩, sub_picks [] rfl⟩

theorem pks_step {ps qs : List FL} {k : Nat} (h : ∀ j, j < k → (ps.getD j default).pk = (qs.getD j default).pk) (hk : (ps.getD ((k : Nat) : Int).toNat default).pk = (qs.getD ((k : Nat) : Int).toNat default).pk) : ∀ j, j < k + 1 → (ps.getD j default).pk = (qs.getD j default).pk := by
  intro j hj
  by_cases e : j = k
  · rw [e]; exact hk
  · exact h j (by omega)
theorem pks_all {ps qs : List FL} (hl : ps.length = qs.length) (h : ∀ j, j < ps.length → (ps.getD j default).pk = (qs.getD j default).pk) : ps.map FL.pk = qs.map FL.pk := by
  apply List.ext_getElem (by simpa using hl)
  intro j h1 h2
  have := h j (by simpa using h1)
  simp at h1 h2
  simpa [List.getD_eq_getElem?_getD, h1, h2] using this
theorem pks_not {ps qs : List FL} {k : Nat} (hk : k < ps.length) (hl : ps.length = qs.length) (h : ¬ (ps.getD ((k : Nat) : Int).toNat default).pk = (qs.getD ((k : Nat) : Int).toNat default).pk) : ¬ ps.map FL.pk = qs.map FL.pk := fun e => h (by
  have : (ps.map FL.pk)[k]? = (qs.map FL.pk)[k]? := by rw [e]
  rw [List.getElem?_map, List.getElem?_map, List.getElem?_eq_getElem hk, List.getElem?_eq_getElem (by omega)] at this
  simpa [List.getD_eq_getElem?_getD, hk, show k < qs.length by omega] using this)

theorem EqualPk_c {V : Mem} (A : Option Addr) (n c : Nat) (ps : List FL) (h : Cels V [] A (ps.flatMap encPk)) (hn : ps.length = n) (hb : n ≤ 140737488355328) (hp : ∀ f ∈ ps, FlOK V f) (M : Option Addr) (m e : Nat) (qs : List FL) (h' : Cels V [] M (qs.flatMap encPk)) (hm : qs.length = m) (hq : ∀ f ∈ qs, FlOK V f) : CallS Try.prog 21 [.slice A n c, .slice M m e, .func (.func 22) #[] #[]].toArray V [] (fun r L' => r = .bool (decide (ps.map FL.pk = qs.map FL.pk)) ∧ L' = []) := by
  refine callS Try.func21 rfl rfl (fun w0 => ?_)
  refine s_seq ?_
  refine s_region ?_
  refine o_val rfl rfl rfl (y_assign (v := (.bool _)) rfl) ?_
  refine o_nil ?_
  refine s_seq ?_
  refine s_seq ?_
  refine s_region ?_
  refine o_val rfl rfl rfl (y_move (v := (.slice _ _ _)) rfl) ?_
  refine o_val rfl rfl rfl (y_len Try.runUnderlying31 rfl) ?_
  refine o_val rfl rfl rfl (y_move (v := (.slice _ _ _)) rfl) ?_
  refine o_val rfl rfl rfl (y_len Try.runUnderlying31 rfl) ?_
  refine o_val rfl rfl rfl (y_neq rfl rfl) ?_
  refine o_nil ?_
  refine s_if rfl (fun h1 => ?_) (fun h2 => ?_)
  · have hlen := h1
    refine s_seq ?_
    refine s_region ?_
    refine o_val rfl rfl rfl (y_assign (v := (.bool _)) rfl) ?_
    refine o_nil ?_
    refine s_ret ?_
    exact ⟨_, [], res1 rfl rfl, ⟨congrArg Value.bool (decide_eq_false (fun e => by have := congrArg List.length e; simp at this; omega)).symm, rfl⟩, sub_picks [] rfl⟩
  · have hlen := h2
    refine s_skip ?_
    refine s_seq ?_
    refine s_seq ?_
    refine s_region ?_
    refine o_val rfl rfl rfl (y_move (v := (.slice _ _ _)) rfl) ?_
    refine o_val rfl rfl rfl (y_len Try.runUnderlying31 rfl) ?_
    refine o_val rfl rfl rfl (y_move (v := (.int _ _)) rfl) ?_
    refine o_nil ?_
    refine s_block ?_
    refine s_loop (γ := Nat) (fun g => [(1, .slice M m e), (2, .func (.func 22) #[] #[]), (15, .slice A n c), (16, .int .i64 n), (17, .int .i64 g)]) (fun g => []) (fun g => g ≤ n ∧ ∀ j, j < g → (ps.getD j default).pk = (qs.getD j default).pk) (fun g => n - g) (0) ?_ ⟨rfl, rfl, rfl, rfl, rfl, trivial⟩ (sub_front ⟨_, rfl⟩) ?_
    · exact ⟨Nat.zero_le _, fun j hj => absurd hj (Nat.not_lt_zero j)⟩
    · intro g _f hI
      obtain ⟨hg, hall⟩ := hI
      refine s_seq ?_
      refine s_region ?_
      refine o_val rfl rfl rfl (y_lss rfl rfl) ?_
      refine o_nil ?_
      refine s_seq ?_
      refine s_if rfl (fun h3 => ?_) (fun h4 => ?_)
      · refine s_skip ?_
        refine s_seq ?_
        refine s_block ?_
        refine s_seq ?_
        refine s_region ?_
        refine o_val rfl rfl rfl (y_move (v := (.int _ _)) rfl) ?_
        refine o_val rfl rfl rfl (y_indexAddr Try.runUnderlying31 Try.sizeOf34 (some_at (sz := 2) encPk_len (i := 0) h (by omega)) rfl rfl (by omega)) ?_
        refine o_val rfl rfl rfl (y_loads (cs := [_, _, _]) Try.isAgg34 Try.sizeOf34 rfl (by unfold idx; rw [Option.isSome_map]; exact some_at (sz := 2) encPk_len (i := 0) h (by omega)) rfl (cels_at (sz := 3) encPk_len h.here (by omega))) ?_
        refine o_alloc rfl Try.zeroValue34 rfl (fun b5 => ?_)
        refine o_val rfl rfl rfl (y_assign (v := (.int _ _)) rfl) ?_
        refine o_stores (vs := [(.int _ _), (.int _ _), (.slice _ _ _)]) 0 rfl Try.sizeOf34 rfl rfl rfl (by simp [Value.oneCell']) (by simp) ?_
        refine o_nil ?_
        refine s_seq ?_
        refine s_region ?_
        refine o_val rfl rfl rfl (y_move (v := (.slice _ _ _)) rfl) ?_
        refine o_val rfl rfl rfl (y_move (v := (.int _ _)) rfl) ?_
        refine o_val rfl rfl rfl (y_indexAddr Try.runUnderlying31 Try.sizeOf34 (some_at (sz := 2) encPk_len (i := 0) h' (by omega)) rfl rfl (by omega)) ?_
        refine o_val rfl rfl rfl (y_loads (cs := [_, _, _]) Try.isAgg34 Try.sizeOf34 rfl (by unfold idx; rw [Option.isSome_map]; exact some_at (sz := 2) encPk_len (i := 0) h' (by omega)) rfl (cels_at (sz := 3) encPk_len h'.here (by omega))) ?_
        refine o_alloc rfl Try.zeroValue34 rfl (fun b6 => ?_)
        refine o_stores (vs := [(.int _ _), (.int _ _), (.slice _ _ _)]) 1 rfl Try.sizeOf34 rfl rfl rfl (by simp [Value.oneCell']) (by simp) ?_
        refine o_nil ?_
        refine s_norm [[(_, .cells [(.int _ _), (.int _ _), (.slice _ _ _)].toArray 34 (0, 0))], [(_, .cells [(.int _ _), (.int _ _), (.slice _ _ _)].toArray 34 (0, 0))]] rfl ?_
        refine s_seq ?_
        refine s_region ?_
        refine o_val rfl rfl rfl (y_move (v := (.func _ _ _)) rfl) ?_
        refine o_val rfl rfl rfl (y_loads (cs := [_, _, _]) Try.isAgg34 Try.sizeOf34 rfl rfl rfl (cels_own 0 rfl rfl)) ?_
        refine o_val rfl rfl rfl (y_loads (cs := [_, _, _]) Try.isAgg34 Try.sizeOf34 rfl rfl rfl (cels_own 1 rfl rfl)) ?_
        refine o_fnv' 0 (d := 29) rfl Try.call22 rfl rfl rfl (pkEq_c (ps.getD ((g : Nat) : Int).toNat default) (qs.getD ((g : Nat) : Int).toNat default) (hp _ (getD_memF (ss := ps) (k := g) (by omega))).lift (hq _ (getD_memF (ss := qs) (k := g) (by omega))).lift) ?_
        rintro _ _ ⟨rfl, rfl⟩
        refine o_val rfl rfl rfl (y_not rfl) ?_
        refine o_nil ?_
        refine s_if rfl (fun h7 => ?_) (fun h8 => ?_)
        · have hne := h7
          refine s_seq ?_
          refine s_region ?_
          refine o_val rfl rfl rfl (y_assign (v := (.bool _)) rfl) ?_
          refine o_nil ?_
          refine s_ret ?_
          exact ⟨_, [], res1 rfl rfl, ⟨congrArg Value.bool (decide_eq_false (pks_not (k := g) (by omega) (by omega) hne)).symm, rfl⟩, sub_picks [] rfl⟩
        · have heq := Decidable.not_not.1 h8
          refine s_skip ?_
          refine s_region ?_
          refine o_val rfl rfl rfl (y_add rfl rfl (by simp only [inK]; omega)) ?_
          refine o_val rfl rfl rfl (y_move (v := (.int _ _)) rfl) ?_
          refine o_nil ?_
          exact ⟨g + 1, (by first | omega | (dsimp only; omega)), ⟨by omega, pks_step hall heq⟩, ⟨rfl, rfl, rfl, rfl, (congrArg (Value.int _) (by omega)), trivial⟩, sub_front ⟨_, rfl⟩⟩
      · refine s_exit ?_
        refine s_seq ?_
        refine s_region ?_
        refine o_val rfl rfl rfl (y_assign (v := (.bool _)) rfl) ?_
        refine o_nil ?_
        refine s_ret ?_
        exact ⟨_, [], res1 rfl rfl, ⟨congrArg Value.bool (decide_eq_true (pks_all (by omega) (fun j hj => hall j (by omega)))).symm, rfl⟩, sub_picks [] rfl⟩

theorem arrivesL_k0 (v0 : Int) (w : World) : (Instr.buildSlice 29 1 ([(0, (.int .u8 v0))] : List (Nat × Value)).toArray).run Try.prog w = .ok (.slice (some ⟨w.heap.size, 0, none⟩) 1 1) { w with heap := w.heap.push (.cells ([.int .u8 v0] : List Value).toArray 5 (0, 0)) } := by kernel_rfl
theorem arrivesL_c {V : Mem} : CallS Try.prog 19 [].toArray V [] (fun r L' => r = .bool true ∧ L' = []) := by
  refine callS Try.func19 rfl rfl (fun w0 => ?_)
  refine s_seq ?_
  refine s_region ?_
  refine o_val rfl rfl rfl (y_assign (v := (.bool _)) rfl) ?_
  refine o_nil ?_
  refine s_seq ?_
  refine s_region ?_
  refine o_fn 0 (d := 4) rfl Try.call12 (NewN_c 2 none 0 0 [] Cels.nil rfl (by decide)) rfl ?_
  rintro _ _ (⟨hbad, _, _⟩ | ⟨_, nb, dA, dc, DG, rfl, hod, rfl⟩)
  · exact absurd (by decide) hbad
  · refine o_val rfl rfl rfl (y_move (v := (.tuple #[(.pointer _), (.int _ _)])) rfl) ?_
    refine o_val rfl rfl rfl (y_extract (v := (.pointer _)) rfl rfl) ?_
    refine o_val rfl rfl rfl (y_extract (v := (.int _ _)) rfl rfl) ?_
    refine o_val rfl rfl rfl (y_assign (v := (.pointer _)) rfl) ?_
    refine o_val rfl rfl rfl (y_assign (v := (.int _ _)) rfl) ?_
    refine o_nil ?_
    refine s_seq ?_
    refine s_region ?_
    refine o_val rfl rfl rfl (y_move (v := (.int _ _)) rfl) ?_
    refine o_split rfl rfl rfl (y_eql rfl rfl) (fun p1 => ?_) (fun p2 => ?_)
    · refine o_val rfl rfl rfl (y_move (v := (.bool _)) rfl) ?_
      refine o_guard_yes rfl rfl ?_
      refine o_val rfl rfl rfl (y_move (v := (.pointer _)) rfl) ?_
      refine o_guard_yes rfl rfl ?_
      refine o_val rfl rfl rfl ((y_neq_ptr_nil (by kernel_rfl) rfl rfl).bt rfl) ?_
      refine o_val rfl rfl rfl (y_pick_t (v := (.bool _)) rfl rfl) ?_
      refine o_val rfl rfl rfl (y_move (v := (.bool _)) rfl) ?_
      refine o_guard_yes rfl rfl ?_
      refine o_val rfl rfl rfl (y_move (v := (.pointer _)) rfl) ?_
      refine o_guard_yes rfl rfl ?_
      refine o_lit (vs := [(0, .int _ _)]) rfl rfl (arrivesL_k0 _) (fun b3 => ?_)
      refine o_newgroup ?_
      refine o_newgroup ?_
      refine o_guard_yes rfl rfl ?_
      refine o_pull 4 ?_
      refine o_pull 4 ?_
      refine o_pull 3 ?_
      refine o_pull 3 ?_
      refine o_fn 4 (d := 16) rfl Try.call14 (SendN_c nb 2 dA 0 dc 0 0 none 0 0 [] DG hod (by decide) (by simp) [] [] (OS.nil _ _) (by decide) (by decide) (by decide) [] (by simp) 0 1 _ 1 _ [7] (cels_own (cs := ([7] : List Int).map (.int .u8)) 0 rfl rfl).down rfl (by decide) (by decide)) rfl ?_
      rintro _ _ (⟨hbad, _, _⟩ | ⟨_, rfl, sA, sn, sc, sE, gs, xs, PG, hput, hkey, hos, hin, rfl⟩)
      · exact absurd (by decide) hbad
      · have hone := one_fact hput hkey
        have hsn : sn = 1 := by have := hos.len; rw [flat_len encFl_len, hone.1] at this; omega
        refine o_guard_yes rfl rfl ?_
        refine o_split rfl rfl rfl (y_eql rfl rfl) (fun p4 => ?_) (fun p5 => ?_)
        · refine o_val rfl rfl rfl (y_pick_t (v := (.bool _)) rfl rfl) ?_
          refine o_val rfl rfl rfl (y_move (v := (.bool _)) rfl) ?_
          refine o_guard_yes rfl rfl ?_
          refine o_val rfl rfl rfl (y_move (v := (.pointer _)) rfl) ?_
          refine o_guard_yes rfl rfl ?_
          refine o_fn 1 (d := 21) rfl Try.call16 (LeftN_c _ _ _ _ _ _ _ _ _ _) rfl ?_
          rintro _ _ ⟨rfl, rfl⟩
          refine o_guard_yes rfl rfl ?_
          refine o_split rfl rfl rfl (y_eql rfl rfl) (fun p6 => ?_) (fun p7 => ?_)
          · refine o_val rfl rfl rfl (y_pick_t (v := (.bool _)) rfl rfl) ?_
            refine o_val rfl rfl rfl (y_move (v := (.bool _)) rfl) ?_
            refine o_guard_yes rfl rfl ?_
            refine o_val rfl rfl rfl (y_move (v := (.pointer _)) rfl) ?_
            refine o_guard_yes rfl rfl ?_
            refine o_pull 2 ?_
            refine o_pull 1 ?_
            refine o_fn 2 (d := 26) rfl Try.call15 (StepN_c nb 2 dA 0 dc 0 (0 + 1) sA sn sc gs sE hos (by omega) (by decide)) rfl ?_
            rintro _ _ ⟨k, kA, kc, kE, kB, ke, kG, rfl, hk1, hk2, hk3, hko, hka, rfl⟩
            have hk : k = 1 := by
              rcases hk3 with hk3 | hk3
              · omega
              · by_cases e : k = 0
                · subst e
                  have := hone.2 (gs.getD 0 default) (getD_memF (by omega))
                  omega
                · omega
            refine o_guard_yes rfl rfl ?_
            refine o_val rfl rfl rfl (y_len Try.runUnderlying31 rfl) ?_
            refine o_guard_yes rfl rfl ?_
            refine o_val rfl rfl rfl (y_eql rfl rfl) ?_
            refine o_val rfl rfl rfl (y_pick_t (v := (.bool _)) rfl rfl) ?_
            refine o_val rfl rfl rfl (y_assign (v := (.bool _)) rfl) ?_
            refine o_nil ?_
            refine s_forget [(0, (.bool _))] ⟨rfl, trivial⟩ (fun _f => ?_)
            refine s_ret ?_
            exact ⟨_, [], res1 rfl rfl, ⟨congrArg Value.bool (decide_eq_true (by omega)), rfl⟩, sub_picks [] rfl⟩
          · exfalso; omega
        · exact absurd rfl p5
    · exact absurd rfl p2

theorem arrivesK_k0 (v0 : Int) (w : World) : (Instr.buildSlice 29 1 ([(0, (.int .u8 v0))] : List (Nat × Value)).toArray).run Try.prog w = .ok (.slice (some ⟨w.heap.size, 0, none⟩) 1 1) { w with heap := w.heap.push (.cells ([.int .u8 v0] : List Value).toArray 5 (0, 0)) } := by kernel_rfl
theorem arrivesK_c {V : Mem} : CallS Try.prog 13 [].toArray V [] (fun r L' => r = .bool true ∧ L' = []) := by
  refine callS Try.func13 rfl rfl (fun w0 => ?_)
  refine s_seq ?_
  refine s_region ?_
  refine o_val rfl rfl rfl (y_assign (v := (.bool _)) rfl) ?_
  refine o_nil ?_
  refine s_seq ?_
  refine s_region ?_
  refine o_fn 0 (d := 4) rfl Try.call12 (NewN_c 2 none 0 0 [] Cels.nil rfl (by decide)) rfl ?_
  rintro _ _ (⟨hbad, _, _⟩ | ⟨_, nb, dA, dc, DG, rfl, hod, rfl⟩)
  · exact absurd (by decide) hbad
  · refine o_val rfl rfl rfl (y_move (v := (.tuple #[(.pointer _), (.int _ _)])) rfl) ?_
    refine o_val rfl rfl rfl (y_extract (v := (.pointer _)) rfl rfl) ?_
    refine o_val rfl rfl rfl (y_extract (v := (.int _ _)) rfl rfl) ?_
    refine o_val rfl rfl rfl (y_assign (v := (.pointer _)) rfl) ?_
    refine o_val rfl rfl rfl (y_assign (v := (.int _ _)) rfl) ?_
    refine o_nil ?_
    refine s_seq ?_
    refine s_region ?_
    refine o_val rfl rfl rfl (y_move (v := (.int _ _)) rfl) ?_
    refine o_split rfl rfl rfl (y_eql rfl rfl) (fun p1 => ?_) (fun p2 => ?_)
    · refine o_val rfl rfl rfl (y_move (v := (.bool _)) rfl) ?_
      refine o_guard_yes rfl rfl ?_
      refine o_val rfl rfl rfl (y_move (v := (.pointer _)) rfl) ?_
      refine o_guard_yes rfl rfl ?_
      refine o_val rfl rfl rfl ((y_neq_ptr_nil (by kernel_rfl) rfl rfl).bt rfl) ?_
      refine o_val rfl rfl rfl (y_pick_t (v := (.bool _)) rfl rfl) ?_
      refine o_val rfl rfl rfl (y_move (v := (.bool _)) rfl) ?_
      refine o_guard_yes rfl rfl ?_
      refine o_val rfl rfl rfl (y_move (v := (.pointer _)) rfl) ?_
      refine o_guard_yes rfl rfl ?_
      refine o_lit (vs := [(0, .int _ _)]) rfl rfl (arrivesK_k0 _) (fun b3 => ?_)
      refine o_newgroup ?_
      refine o_newgroup ?_
      refine o_guard_yes rfl rfl ?_
      refine o_pull 4 ?_
      refine o_pull 4 ?_
      refine o_pull 3 ?_
      refine o_pull 3 ?_
      refine o_fn 4 (d := 16) rfl Try.call14 (SendN_c nb 2 dA 0 dc 0 0 none 0 0 [] DG hod (by decide) (by simp) [] [] (OS.nil _ _) (by decide) (by decide) (by decide) [] (by simp) 0 1 _ 1 _ [7] (cels_own (cs := ([7] : List Int).map (.int .u8)) 0 rfl rfl).down rfl (by decide) (by decide)) rfl ?_
      rintro _ _ (⟨hbad, _, _⟩ | ⟨_, rfl, sA, sn, sc, sE, gs, xs, PG, hput, hkey, hos, hin, rfl⟩)
      · exact absurd (by decide) hbad
      · have hone := one_fact hput hkey
        have hsn : sn = 1 := by have := hos.len; rw [flat_len encFl_len, hone.1] at this; omega
        refine o_guard_yes rfl rfl ?_
        refine o_split rfl rfl rfl (y_eql rfl rfl) (fun p4 => ?_) (fun p5 => ?_)
        · refine o_val rfl rfl rfl (y_pick_t (v := (.bool _)) rfl rfl) ?_
          refine o_val rfl rfl rfl (y_move (v := (.bool _)) rfl) ?_
          refine o_guard_yes rfl rfl ?_
          refine o_val rfl rfl rfl (y_move (v := (.pointer _)) rfl) ?_
          refine o_guard_yes rfl rfl ?_
          refine o_pull 2 ?_
          refine o_pull 1 ?_
          refine o_fn 2 (d := 21) rfl Try.call15 (StepN_c nb 2 dA 0 dc 0 (0 + 1) sA sn sc gs sE hos (by omega) (by decide)) rfl ?_
          rintro _ _ ⟨k, kA, kc, kE, kB, ke, kG, rfl, hk1, hk2, hk3, hko, hka, rfl⟩
          have hk : k = 1 := by
            rcases hk3 with hk3 | hk3
            · omega
            · by_cases e : k = 0
              · subst e
                have := hone.2 (gs.getD 0 default) (getD_memF (by omega))
                omega
              · omega
          refine o_guard_yes rfl rfl ?_
          refine o_val rfl rfl rfl (y_len Try.runUnderlying31 rfl) ?_
          refine o_guard_yes rfl rfl ?_
          refine o_val rfl rfl rfl (y_eql rfl rfl) ?_
          refine o_val rfl rfl rfl (y_pick_t (v := (.bool _)) rfl rfl) ?_
          refine o_val rfl rfl rfl (y_assign (v := (.bool _)) rfl) ?_
          refine o_nil ?_
          refine s_forget [(0, (.bool _))] ⟨rfl, trivial⟩ (fun _f => ?_)
          refine s_ret ?_
          exact ⟨_, [], res1 rfl rfl, ⟨congrArg Value.bool (decide_eq_true (by omega)), rfl⟩, sub_picks [] rfl⟩
        · exact absurd rfl p5
    · exact absurd rfl p2

end Go.Proofs.Ytdgmocibjjkghaa.K

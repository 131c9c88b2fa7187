/- Templates: the replacements that Diff gives (plain laws). No condition beyond what each statement names. -/
import Derived.Test.YtacmbiohjiogiaaProg
import Derived.Test.YtacmbiohjiogiaaK14
import Derived.Test.YtacmbiohjiogiaaK19
import Derived.Test.YtacmbiohjiogiaaM1
import Derived.Test.YtacmbiohjiogiaaM2
import Derived.Test.YtacmbiohjiogiaaW1
import Derived.Test.YtacmbiohjiogiaaW2
import Derived.Test.YtacmbiohjiogiaaW3
import Derived.Test.YtacmbiohjiogiaaW4
import Derived.Test.YtacmbiohjiogiaaW5
import Derived.Test.YtacmbiohjiogiaaW6
import Derived.Test.YtacmbiohjiogiaaW7
import Derived.Test.YtacmbiohjiogiaaX1
import Derived.Test.YtacmbiohjiogiaaP1
import Derived.Test.YtacmbiohjiogiaaP2
import Derived.Test.YtacmbiohjiogiaaP3
import Derived.Test.YtacmbiohjiogiaaP4
import Derived.Test.YtacmbiohjiogiaaP5
import Derived.Test.YtacmbiohjiogiaaP6
import Derived.Test.YtacmbiohjiogiaaP7
import Derived.Test.YtacmbiohjiogiaaP8
import Derived.Test.YtacmbiohjiogiaaP10
set_option linter.unusedVariables false
set_option linter.unusedSimpArgs false
set_option maxRecDepth 100000
namespace Go.Proofs.Ytacmbiohjiogiaa.K
open Go.RowKit

theorem cmpI_self (a : Int) : cmpI a a = 0 := by unfold cmpI; rw [if_neg (by omega), if_neg (by omega)]
theorem cmpI_gt {a b : Int} (h : b < a) : cmpI a b = 1 := by unfold cmpI; rw [if_neg (by omega), if_pos h]
theorem cmpL_self : ∀ a : List Int, cmpL a a = 0
  | [] => rfl
  | x :: a => by simp only [cmpL]; rw [cmpI_self, if_neg (by decide)]; exact cmpL_self a
theorem cmpL_cons (k : Int) (a b : List Int) : cmpL (k :: a) (k :: b) = cmpL a b := by simp only [cmpL]; rw [cmpI_self, if_neg (by decide)]
theorem cmpL_up {k k' : Int} (h : k' < k) (a b : List Int) : cmpL (k :: a) (k' :: b) = 1 := by simp only [cmpL]; rw [cmpI_gt h, if_pos (by decide)]
/-- The paths grow. -/
def upP (l : List (List Int)) : Prop := l.Pairwise fun a b => cmpL b a = 1
theorem mkTo_low (ks : List KR) (r : List (List BV)) (t : TV) : ∀ k, ∀ x ∈ (mkTo ks r t k).map Prod.fst, x = [] ∨ ∃ (q : Int) (y : List Int), x = q :: y ∧ q < (k : Int)
  | 0, x, hx => by simp [mkTo] at hx; exact .inl hx
  | k + 1, x, hx => by
    simp only [mkTo, List.map_append, List.mem_append] at hx
    rcases hx with hx | hx
    · rcases mkTo_low ks r t k x hx with h | ⟨q, y, h, hq⟩
      · exact .inl h
      · exact .inr ⟨q, y, h, by omega⟩
    · simp only [List.map_map, List.mem_map] at hx
      obtain ⟨b, _, rfl⟩ := hx
      exact .inr ⟨_, _, rfl, by omega⟩
theorem okV_up {ks : List KR} {bs : List BV} {os : List OV} (h : upP (bs.map Prod.fst)) : upP ((okV (oversV ks bs os)).map Prod.fst) := by
  cases ho : oversV ks bs os with
  | error e => exact List.Pairwise.nil
  | ok b => show upP (b.map Prod.fst); rw [(oversV_len ho).2]; exact h
theorem mkTo_up {ks : List KR} {r : List (List BV)} {t : TV} (hr : ∀ j, upP ((r.getD j []).map Prod.fst)) : ∀ k, upP ((mkTo ks r t k).map Prod.fst)
  | 0 => by simp [mkTo, upP]
  | k + 1 => by
    simp only [mkTo, List.map_append]
    refine List.pairwise_append.2 ⟨mkTo_up hr k, ?_, fun x hx y hy => ?_⟩
    · have h := okV_up (ks := ks) (os := (t.2.getD k default).2) (hr (t.2.getD k default).1.toNat)
      rw [List.map_map, show (Prod.fst ∘ preV (k : Nat)) = (fun b : BV => (k : Int) :: b.1) from rfl]
      rw [show (fun b : BV => (k : Int) :: b.1) = (fun q => (k : Int) :: q) ∘ Prod.fst from rfl, ← List.map_map]
      exact List.Pairwise.map _ (fun a b hab => by rw [cmpL_cons]; exact hab) h
    · simp only [List.map_map, List.mem_map] at hy
      obtain ⟨b, _, rfl⟩ := hy
      rcases mkTo_low ks r t k x hx with h | ⟨q, z, h, hq⟩
      · rw [h]; rfl
      · rw [h]; exact cmpL_up hq _ _
theorem rawsV_up (ks : List KR) (ts : List TV) : ∀ n j, upP (((rawsV ks ts n).getD j []).map Prod.fst)
  | 0, j => by simp [rawsV, upP]
  | n + 1, j => by
    simp only [rawsV]
    by_cases h : j < n + 1
    · rw [getD_snoc (by rw [rawsV_len]; exact h)]
      split
      · exact mkTo_up (rawsV_up ks ts n) _
      · exact rawsV_up ks ts n j
    · rw [List.getD_eq_getElem?_getD, List.getElem?_eq_none (by rw [List.length_append, rawsV_len]; simp; omega)]
      exact List.Pairwise.nil
theorem rawV_up (ks : List KR) (ts : List TV) (n : Nat) : upP ((rawV ks ts n).map Prod.fst) := rawsV_up ks ts (n + 1) n
theorem up_ne {bs : List BV} (h : upP (bs.map Prod.fst)) {i j : Nat} (hij : i < j) (hj : j < bs.length) : cmpL (bs.getD j default).1 (bs.getD i default).1 = 1 := by
  have h1 := (List.pairwise_iff_getElem.1 h) i j (by rw [List.length_map]; omega) (by rw [List.length_map]; exact hj) hij
  rw [List.getElem_map, List.getElem_map] at h1
  rw [getD_at hj, getD_at (by omega)]
  exact h1
theorem up_diff {bs : List BV} (h : upP (bs.map Prod.fst)) {i j : Nat} (hij : i < j) (hj : j < bs.length) : (bs.getD i default).1 ≠ (bs.getD j default).1 := fun e => by
  have := up_ne h hij hj
  rw [e, cmpL_self] at this
  exact absurd this (by decide)
/-- Components of rising kinds, of which the values fit. -/
def goodV (ks : List KR) (cs : List CV) : Prop := (∀ i j, i < j → j < cs.length → (cs.getD i default).1 < (cs.getD j default).1) ∧ ∀ j, j < cs.length → holdsV (ks.getD (cs.getD j default).1.toNat default) (cs.getD j default).2
theorem held_up {ks : List KR} {cs : List CR} (h : heldP ks cs) : ∀ {j i : Nat}, i < j → j < cs.length → (cs.getD i default).kind < (cs.getD j default).kind
  | 0, i, hij, _ => absurd hij (Nat.not_lt_zero i)
  | j + 1, i, hij, hj => by
    have h1 := (h (j + 1) hj).1
    simp only [lastC] at h1
    by_cases e : i = j
    · rw [e]; exact h1
    · have := held_up h (show i < j by omega) (by omega); omega
theorem held_goodV {ks : List KR} {cs : List CR} (h : heldP ks cs) : goodV ks (cs.map CR.d) := by
  refine ⟨fun i j hij hj => ?_, fun j hj => ?_⟩
  · rw [cget, cget]; exact held_up h hij (by simpa using hj)
  · rw [cget]; exact (h j (by simpa using hj)).2.2
-- what a difference is made of
theorem mem_diffC {q : List Int} {k : Int} {xs ys : List Int} : ∀ {n : Nat} {y : OV}, y ∈ diffC q k xs ys n → y.1 = q ∧ y.2.1 = k ∧ ∃ f : Nat, f < n ∧ y.2.2.1 = f
  | 0, y, h => absurd h List.not_mem_nil
  | n + 1, y, h => by
    simp only [diffC, List.mem_append] at h
    rcases h with h | h
    · obtain ⟨h1, h2, f, hf, h3⟩ := mem_diffC h
      exact ⟨h1, h2, f, by omega, h3⟩
    · split at h
      · rw [List.mem_singleton] at h; rw [h]; exact ⟨rfl, rfl, n, by omega, rfl⟩
      · exact absurd h List.not_mem_nil
theorem mem_diffB {q : List Int} {cs ws : List CV} : ∀ {n : Nat} {y : OV}, y ∈ diffB q cs ws n → y.1 = q ∧ ∃ j : Nat, j < n ∧ y.2.1 = (cs.getD j default).1
  | 0, y, h => absurd h List.not_mem_nil
  | n + 1, y, h => by
    simp only [diffB, List.mem_append] at h
    rcases h with h | h
    · obtain ⟨h1, j, hj, h3⟩ := mem_diffB h
      exact ⟨h1, j, by omega, h3⟩
    · obtain ⟨h1, h2, _⟩ := mem_diffC h
      exact ⟨h1, n, by omega, h2⟩
theorem mem_diffTo {bs ws : List BV} : ∀ {n : Nat} {y : OV}, y ∈ diffTo bs ws n → ∃ i : Nat, i < n ∧ y.1 = (bs.getD i default).1
  | 0, y, h => absurd h List.not_mem_nil
  | n + 1, y, h => by
    simp only [diffTo, List.mem_append] at h
    rcases h with h | h
    · obtain ⟨i, hi, h3⟩ := mem_diffTo h
      exact ⟨i, by omega, h3⟩
    · exact ⟨n, by omega, (mem_diffB h).1⟩
theorem keyC_path {x y : OV} (h : cmpL y.1 x.1 = 1) : 0 ≤ keyC y x := by unfold keyC; simp only [orV]; rw [h, if_pos (by decide)]; decide
theorem keyC_kind {x y : OV} (h : y.1 = x.1) (hk : x.2.1 < y.2.1) : 0 ≤ keyC y x := by unfold keyC; simp only [orV]; rw [h, cmpL_self, if_neg (by decide), cmpI_gt hk, if_pos (by decide)]; decide
theorem keyC_field {x y : OV} (h : y.1 = x.1) (hk : y.2.1 = x.2.1) (hf : x.2.2.1 ≤ y.2.2.1) : 0 ≤ keyC y x := by
  unfold keyC; simp only [orV]; rw [h, cmpL_self, hk, cmpI_self, if_neg (by decide), if_neg (by decide)]
  by_cases e : x.2.2.1 = y.2.2.1
  · rw [e, cmpI_self, if_neg (by decide)]; decide
  · rw [cmpI_gt (by omega), if_pos (by decide)]; decide
def srtO (l : List OV) : Prop := l.Pairwise fun x y => 0 ≤ keyC y x
theorem srt_C (q : List Int) (k : Int) (xs ys : List Int) : ∀ n, srtO (diffC q k xs ys n)
  | 0 => List.Pairwise.nil
  | n + 1 => by
    simp only [diffC]
    refine List.pairwise_append.2 ⟨srt_C q k xs ys n, by split <;> simp, fun x hx y hy => ?_⟩
    obtain ⟨h1, h2, f, hf, h3⟩ := mem_diffC hx
    split at hy
    · rw [List.mem_singleton] at hy
      rw [hy]; exact keyC_field h1.symm h2.symm (by rw [h3]; dsimp only; omega)
    · exact absurd hy List.not_mem_nil
theorem srt_B {ks : List KR} {q : List Int} {cs ws : List CV} (h : goodV ks cs) : ∀ n, n ≤ cs.length → srtO (diffB q cs ws n)
  | 0, _ => List.Pairwise.nil
  | n + 1, hn => by
    simp only [diffB]
    refine List.pairwise_append.2 ⟨srt_B h n (by omega), srt_C _ _ _ _ _, fun x hx y hy => ?_⟩
    obtain ⟨h1, j, hj, h2⟩ := mem_diffB hx
    obtain ⟨h3, h4, _⟩ := mem_diffC hy
    exact keyC_kind (h3.trans h1.symm) (by rw [h2, h4]; exact h.1 j n hj (by omega))
theorem srt_To {ks : List KR} {bs ws : List BV} (hu : upP (bs.map Prod.fst)) (h : ∀ i, i < bs.length → goodV ks (bs.getD i default).2) : ∀ n, n ≤ bs.length → srtO (diffTo bs ws n)
  | 0, _ => List.Pairwise.nil
  | n + 1, hn => by
    simp only [diffTo]
    refine List.pairwise_append.2 ⟨srt_To hu h n (by omega), srt_B (h n (by omega)) _ (Nat.le_refl _), fun x hx y hy => ?_⟩
    obtain ⟨i, hi, h1⟩ := mem_diffTo hx
    exact keyC_path (by rw [(mem_diffB hy).1, h1]; exact up_ne hu hi (by omega))
/-- What the stable sort asks. -/
theorem srt_ix {l : List OvR} (h : srtO (l.map OvR.d)) : ∀ i j : Int, 0 ≤ i → i ≤ j → j < (l.length : Nat) → 0 ≤ keyC (l.getD j.toNat default).d (l.getD i.toNat default).d := fun i j h0 hij hj => by
  by_cases e : i = j
  · rw [e]; exact keyC_field rfl rfl (Int.le_refl _)
  · have h1 := (List.pairwise_iff_getElem.1 h) i.toNat j.toNat (by rw [List.length_map]; omega) (by rw [List.length_map]; omega) (by omega)
    rw [List.getElem_map, List.getElem_map] at h1
    rw [getD_at (show j.toNat < l.length by omega), getD_at (show i.toNat < l.length by omega)]
    exact h1
-- how many there are
theorem diffC_set (q : List Int) (k : Int) (xs ys : List Int) (g : Nat) (v : Int) : ∀ n, (n ≤ g → diffC q k xs (ys.set g v) n = diffC q k xs ys n) ∧ (diffC q k xs (ys.set g v) n).length ≤ (diffC q k xs ys n).length + 1
  | 0 => ⟨fun _ => rfl, Nat.le_succ _⟩
  | n + 1 => by
    obtain ⟨h1, h2⟩ := diffC_set q k xs ys g v n
    have e : g ≠ n → (ys.set g v).getD n 0 = ys.getD n 0 := fun hne => by simp only [List.getD_eq_getElem?_getD, List.getElem?_set, if_neg hne]
    simp only [diffC, List.length_append]
    constructor
    · intro hn
      rw [h1 (by omega), e (by omega)]
    · by_cases hg : g = n
      · subst hg
        rw [h1 (Nat.le_refl _)]
        have b1 : ∀ (P : Prop) [Decidable P] (z : OV), (if P then [z] else ([] : List OV)).length ≤ 1 := fun P _ z => by split <;> simp
        exact Nat.le_trans (Nat.add_le_add_left (b1 _ _) _) (by omega)
      · rw [e hg]
        omega
theorem diffB_set (q : List Int) (cs ws : List CV) (g : Nat) (w : CV) (hw : ∀ k xs, (diffC q k xs w.2 w.2.length).length ≤ (diffC q k xs (ws.getD g default).2 (ws.getD g default).2.length).length + 1) : ∀ n, n ≤ ws.length → (n ≤ g → diffB q cs (ws.set g w) n = diffB q cs ws n) ∧ (diffB q cs (ws.set g w) n).length ≤ (diffB q cs ws n).length + 1
  | 0, _ => ⟨fun _ => rfl, Nat.le_succ _⟩
  | n + 1, hn => by
    obtain ⟨h1, h2⟩ := diffB_set q cs ws g w hw n (by omega)
    have e : g ≠ n → (ws.set g w).getD n default = ws.getD n default := fun hne => by simp only [List.getD_eq_getElem?_getD, List.getElem?_set, if_neg hne]
    simp only [diffB, List.length_append]
    constructor
    · intro hn'
      rw [h1 (by omega), e (by omega)]
    · by_cases hg : g = n
      · subst hg
        rw [h1 (Nat.le_refl _)]
        have e2 : (ws.set g w).getD g default = w := by rw [getD_set' (by omega), if_pos rfl]
        rw [e2]
        have := hw (cs.getD g default).1 (cs.getD g default).2
        omega
      · rw [e hg]; omega
theorem diffTo_set (bs ws : List BV) (g : Nat) (w : BV) (hw : ∀ q cs n, n ≤ (ws.getD g default).2.length → (diffB q cs w.2 n).length ≤ (diffB q cs (ws.getD g default).2 n).length + 1) (hl : ∀ i, i < bs.length → (bs.getD i default).2.length = (ws.getD i default).2.length) : ∀ n, n ≤ bs.length → n ≤ ws.length → (n ≤ g → diffTo bs (ws.set g w) n = diffTo bs ws n) ∧ (diffTo bs (ws.set g w) n).length ≤ (diffTo bs ws n).length + 1
  | 0, _, _ => ⟨fun _ => rfl, Nat.le_succ _⟩
  | n + 1, hn, hn2 => by
    obtain ⟨h1, h2⟩ := diffTo_set bs ws g w hw hl n (by omega) (by omega)
    have e : g ≠ n → (ws.set g w).getD n default = ws.getD n default := fun hne => by simp only [List.getD_eq_getElem?_getD, List.getElem?_set, if_neg hne]
    simp only [diffTo, List.length_append]
    constructor
    · intro hn'
      rw [h1 (by omega), e (by omega)]
    · by_cases hg : g = n
      · subst hg
        rw [h1 (Nat.le_refl _)]
        have e2 : (ws.set g w).getD g default = w := by rw [getD_set' (by omega), if_pos rfl]
        rw [e2]
        have := hw (bs.getD g default).1 (bs.getD g default).2 (bs.getD g default).2.length (by rw [hl g (by omega)]; exact Nat.le_refl _)
        omega
      · rw [e hg]; omega
/-- The same form: paths and kinds, and how many values. -/
def formB (b : BV) : List Int × List (Int × Nat) := (b.1, b.2.map fun c => (c.1, c.2.length))
theorem overV_form {ks : List KR} {bs bs' : List BV} {o : OV} (h : overV ks bs o = .ok bs') : bs'.map formB = bs.map formB ∧ ∀ ws : List BV, ws.map formB = bs.map formB → (diffV ws bs').length ≤ (diffV ws bs).length + 1 := by
  unfold overV at h
  split at h
  · cases h
  · rename_i i hi
    split at h
    · cases h
    · rename_i j hj
      split at h
      · cases h
      · split at h
        · cases h
          have hib : i < bs.length := by
            have := (List.findIdx?_eq_some_iff_getElem.1 hi).1; exact this
          have hjc : j < (bs.getD i default).2.length := (List.findIdx?_eq_some_iff_getElem.1 hj).1
          constructor
          · rw [List.map_set]
            apply List.ext_getElem (by simp)
            intro m h1 h2
            rw [List.getElem_set]
            split
            · rename_i e; subst e
              rw [List.getElem_map, getD_at hib]
              unfold formB putC
              simp only [List.map_set]
              congr 1
              apply List.ext_getElem (by simp)
              intro q h3 h4
              rw [List.getElem_set]
              split
              · rename_i e; subst e
                have hjc' : j < bs[i].2.length := by simpa using h4
                rw [List.getElem_map, getD_at hjc', List.length_set]
              · rfl
            · rfl
          · intro ws hws
            have hlen : ws.length = bs.length := by have := congrArg List.length hws; simpa using this
            have hl : ∀ m, m < ws.length → (ws.getD m default).2.length = (bs.getD m default).2.length := fun m hm => by
              have e : ∀ l : List BV, (l.map formB).getD m (formB default) = formB (l.getD m default) := fun l => by
                simp only [List.getD_eq_getElem?_getD, List.getElem?_map]
                cases l[m]? <;> rfl
              have h1 := e ws
              rw [hws, e bs] at h1
              have := congrArg (fun z => z.2.length) h1
              simpa [formB] using this.symm
            unfold diffV
            refine (diffTo_set ws bs i _ (fun q cs n hn => ?_) hl ws.length (Nat.le_refl _) (by omega)).2
            exact (diffB_set q cs (bs.getD i default).2 j _ (fun k xs => by rw [List.length_set]; exact (diffC_set q k xs _ _ _ _).2) n hn).2
        · cases h
theorem diffC_nil (q : List Int) (k : Int) (xs : List Int) : ∀ n, diffC q k xs xs n = []
  | 0 => rfl
  | n + 1 => by simp only [diffC]; rw [diffC_nil q k xs n, if_neg (by simp)]; rfl
theorem diffB_nil (q : List Int) (cs : List CV) : ∀ n, diffB q cs cs n = []
  | 0 => rfl
  | n + 1 => by simp only [diffB]; rw [diffB_nil q cs n, diffC_nil]; rfl
theorem diffTo_nil (bs : List BV) : ∀ n, diffTo bs bs n = []
  | 0 => rfl
  | n + 1 => by simp only [diffTo]; rw [diffTo_nil bs n, diffB_nil]; rfl
theorem oversV_few {ks : List KR} {ws : List BV} : ∀ {os : List OV} {bs bs' : List BV}, oversV ks bs os = .ok bs' → ws.map formB = bs.map formB → bs'.map formB = bs.map formB ∧ (diffV ws bs').length ≤ (diffV ws bs).length + os.length
  | [], bs, bs', h, _ => by cases h; exact ⟨rfl, Nat.le_refl _⟩
  | o :: os, bs, bs', h, hw => by
    unfold oversV at h
    split at h
    · cases h
    · rename_i b1 h1
      obtain ⟨f1, f2⟩ := overV_form h1
      obtain ⟨g1, g2⟩ := oversV_few h (hw.trans f1.symm)
      have := f2 ws hw
      exact ⟨g1.trans f1, by simp only [List.length_cons]; omega⟩
theorem oversV_app {ks : List KR} : ∀ {a b : List OV} {s s1 : List BV}, oversV ks s a = .ok s1 → oversV ks s (a ++ b) = oversV ks s1 b
  | [], b, s, s1, h => by cases h; rfl
  | o :: a, b, s, s1, h => by
    unfold oversV at h
    simp only [List.cons_append, oversV]
    cases hh : overV ks s o with
    | error e => rw [hh] at h; cases h
    | ok t => rw [hh] at h; exact oversV_app h
-- the replacements lead from one to the other
theorem pIdx_at {s : List BV} {k : Nat} (hk : k < s.length) {q : List Int} (he : (s.getD k default).1 = q) (hn : ∀ i, i < k → (s.getD i default).1 ≠ q) : pIdx s q = some k := by
  unfold pIdx
  rw [List.findIdx?_eq_some_iff_getElem]
  rw [getD_at hk] at he
  refine ⟨hk, by simpa using he, fun i hi => ?_⟩
  have := hn i hi
  rw [getD_at (by omega)] at this
  simpa using this
theorem cIdx_at {s : List CV} {k : Nat} (hk : k < s.length) {q : Int} (he : (s.getD k default).1 = q) (hn : ∀ i, i < k → (s.getD i default).1 ≠ q) : cIdx s q = some k := by
  unfold cIdx
  rw [List.findIdx?_eq_some_iff_getElem]
  rw [getD_at hk] at he
  refine ⟨hk, by simpa using he, fun i hi => ?_⟩
  have := hn i hi
  rw [getD_at (by omega)] at this
  simpa using this
theorem over_step {ks : List KR} {s : List BV} {q : List Int} {k j f : Nat} {kd x : Int} (hp : pIdx s q = some k) (hc : cIdx (s.getD k default).2 kd = some j) (hf : f < ((s.getD k default).2.getD j default).2.length) (hx : fitsV (fldOf ks kd f) x) :
    overV ks s (q, kd, (f : Int), x) = .ok (s.set k ((s.getD k default).1, putC (s.getD k default).2 j f x)) := by
  unfold overV
  simp only [hp, hc]
  rw [if_neg (by omega), if_pos hx]
theorem set_same {α : Type} {s : List α} {k : Nat} {a b : α} : (s.set k a).set k b = s.set k b := by simp
theorem mix_set {ys V : List Int} {f : Nat} (hf : f < V.length) (hl : ys.length = V.length) : (ys.take f ++ V.drop f).set f (ys.getD f 0) = ys.take (f + 1) ++ V.drop (f + 1) := by
  rw [drop_cons (xs := V) (d := 0) hf, take_next (d := 0) (show f < ys.length by omega), List.append_assoc, List.set_append_right _ _ (by rw [List.length_take]; omega), List.length_take, show f - min f ys.length = 0 by omega]; rfl
theorem mixG_set {α : Type} {ys V : List α} {d : α} {f : Nat} (hf : f < V.length) (hl : ys.length = V.length) : (ys.take f ++ V.drop f).set f (ys.getD f d) = ys.take (f + 1) ++ V.drop (f + 1) := by
  rw [drop_cons (xs := V) (d := d) hf, take_next (d := d) (show f < ys.length by omega), List.append_assoc, List.set_append_right _ _ (by rw [List.length_take]; omega), List.length_take, show f - min f ys.length = 0 by omega]; rfl
theorem mix_at {α : Type} {ys V : List α} {d : α} {f : Nat} (hf : f < V.length) (hl : ys.length = V.length) : (ys.take f ++ V.drop f).getD f d = V.getD f d := by
  rw [drop_cons (xs := V) (d := d) hf, List.getD_eq_getElem?_getD, List.getElem?_append_right (by rw [List.length_take]; omega), List.length_take, show f - min f ys.length = 0 by omega]; rfl
theorem mix_len {α : Type} {ys V : List α} {f : Nat} (hf : f ≤ V.length) (hl : ys.length = V.length) : (ys.take f ++ V.drop f).length = V.length := by rw [List.length_append, List.length_take, List.length_drop]; omega
theorem over_fields {ks : List KR} {s : List BV} {q : List Int} {k j : Nat} {kd : Int} {C : List CV} {V ys : List Int} (hk : k < s.length) (hp : pIdx s q = some k) (hs : s.getD k default = (q, C)) (hj : j < C.length) (hc : cIdx C kd = some j) (hC : C.getD j default = (kd, V)) (hl : ys.length = V.length) (hx : ∀ f : Nat, f < V.length → fitsV (fldOf ks kd f) (ys.getD f 0)) :
    ∀ n, n ≤ V.length → oversV ks s (diffC q kd V ys n) = .ok (s.set k (q, C.set j (kd, ys.take n ++ V.drop n)))
  | 0, _ => by
    simp only [diffC, oversV, List.take_zero, List.drop_zero, List.nil_append]
    have e1 : C.set j (kd, V) = C := by rw [← hC, getD_at hj]; exact List.set_getElem_self hj
    rw [e1, ← hs, getD_at hk, List.set_getElem_self hk]
  | n + 1, hn => by
    have ih := over_fields hk hp hs hj hc hC hl hx n (by omega)
    simp only [diffC]
    rw [oversV_app ih]
    have hm := mix_set (ys := ys) (V := V) (f := n) (by omega) hl
    split
    · rename_i hne
      have hg : (s.set k (q, C.set j (kd, ys.take n ++ V.drop n))).getD k default = (q, C.set j (kd, ys.take n ++ V.drop n)) := by rw [getD_set' hk, if_pos rfl]
      have hg2 : (C.set j (kd, ys.take n ++ V.drop n)).getD j default = (kd, ys.take n ++ V.drop n) := by rw [getD_set' hj, if_pos rfl]
      have hp1 := List.findIdx?_eq_some_iff_getElem.1 hp
      have hc1 := List.findIdx?_eq_some_iff_getElem.1 hc
      have hp' : pIdx (s.set k (q, C.set j (kd, ys.take n ++ V.drop n))) q = some k := pIdx_at (by rw [List.length_set]; exact hk) (by rw [hg]) (fun i hi => by
        rw [getD_set' hk, if_neg (by omega), getD_at (by omega)]
        have := hp1.2.2 i hi; simpa using this)
      have hc' : cIdx (C.set j (kd, ys.take n ++ V.drop n)) kd = some j := cIdx_at (by rw [List.length_set]; exact hj) (by rw [hg2]) (fun i hi => by
        rw [getD_set' hj, if_neg (by omega), getD_at (by omega)]
        have := hc1.2.2 i hi; simpa using this)
      have hst := over_step (ks := ks) (f := n) (x := ys.getD n 0) hp' (by rw [hg]; exact hc') (by rw [hg]; dsimp only; rw [hg2]; dsimp only; rw [mix_len (by omega) hl]; omega) (hx n (by omega))
      rw [hg] at hst
      simp only [oversV, hst]
      unfold putC
      rw [hg2]
      simp only [Int.toNat_natCast]
      rw [hm, set_same, set_same]
    · rename_i he
      have he : ys.getD n 0 = V.getD n 0 := Decidable.not_not.1 he
      simp only [oversV]
      have : ys.take n ++ V.drop n = ys.take (n + 1) ++ V.drop (n + 1) := by
        rw [← hm]
        apply List.ext_getElem (by simp)
        intro i h1 h2
        rw [List.getElem_set]
        split
        · rename_i e; subst e
          have := mix_at (ys := ys) (V := V) (d := 0) (f := n) (by omega) hl
          rw [getD_at h1] at this
          rw [this, he]
        · rfl
      rw [this]
/-- Components of the same kinds, with as many values. -/
def sameC2 (cs ws : List CV) : Prop := ws.length = cs.length ∧ ∀ j, j < cs.length → (ws.getD j default).1 = (cs.getD j default).1 ∧ (ws.getD j default).2.length = (cs.getD j default).2.length
theorem fits_of {ks : List KR} {ws : List CV} (h : goodV ks ws) {j f : Nat} (hj : j < ws.length) (hf : f < (ws.getD j default).2.length) : fitsV (fldOf ks (ws.getD j default).1 f) ((ws.getD j default).2.getD f 0) := by
  obtain ⟨h1, h2, h3⟩ := holds_fits (h.2 j hj)
  exact h3 f (by omega)
theorem mix_kind {cs ws : List CV} (h : sameC2 cs ws) {j i : Nat} (hj : j ≤ cs.length) (hi : i < cs.length) : ((ws.take j ++ cs.drop j).getD i default).1 = (cs.getD i default).1 := by
  by_cases hij : i < j
  · rw [getD_before (by rw [List.length_take]; have := h.1; omega), take_getD hij]; exact (h.2 i hi).1
  · rw [List.getD_eq_getElem?_getD, List.getElem?_append_right (by rw [List.length_take]; omega), List.length_take, List.getElem?_drop, show j + (i - min j ws.length) = i by have := h.1; omega, ← List.getD_eq_getElem?_getD]
theorem over_comps {ks : List KR} {s : List BV} {q : List Int} {k : Nat} {cs ws : List CV} (hk : k < s.length) (hp : pIdx s q = some k) (hs : s.getD k default = (q, cs)) (hsm : sameC2 cs ws) (hg : goodV ks cs) (hw : goodV ks ws) :
    ∀ n, n ≤ cs.length → oversV ks s (diffB q cs ws n) = .ok (s.set k (q, ws.take n ++ cs.drop n))
  | 0, _ => by
    simp only [diffB, oversV, List.take_zero, List.drop_zero, List.nil_append]
    rw [← hs, getD_at hk, List.set_getElem_self hk]
  | n + 1, hn => by
    have ih := over_comps hk hp hs hsm hg hw n (by omega)
    simp only [diffB]
    rw [oversV_app ih]
    have hl := hsm.1
    obtain ⟨a1, a2⟩ := hsm.2 n (by omega)
    have hgk : (s.set k (q, ws.take n ++ cs.drop n)).getD k default = (q, ws.take n ++ cs.drop n) := by rw [getD_set' hk, if_pos rfl]
    have hp1 := List.findIdx?_eq_some_iff_getElem.1 hp
    have hp' : pIdx (s.set k (q, ws.take n ++ cs.drop n)) q = some k := pIdx_at (by rw [List.length_set]; exact hk) (by rw [hgk]) (fun i hi => by
      rw [getD_set' hk, if_neg (by omega), getD_at (by omega)]
      have := hp1.2.2 i hi; simpa using this)
    have hm := mix_at (ys := ws) (V := cs) (d := default) (f := n) (by omega) hl
    have hml := mix_len (ys := ws) (V := cs) (f := n) (by omega) hl
    have hc' : cIdx (ws.take n ++ cs.drop n) (cs.getD n default).1 = some n := cIdx_at (by rw [hml]; omega) (by rw [hm]) (fun i hi => by
      rw [mix_kind hsm (by omega) (by omega)]
      have := hg.1 i n hi (by omega); omega)
    have hf := over_fields (ks := ks) (ys := (ws.getD n default).2) (by rw [List.length_set]; exact hk) hp' hgk (by rw [hml]; omega) hc' (by rw [hm]) a2 (fun f hf => by rw [← a1]; exact fits_of hw (by omega) (by omega)) (ws.getD n default).2.length (by omega)
    have e1 : (cs.getD n default).2.drop (ws.getD n default).2.length = [] := List.drop_eq_nil_of_le (by omega)
    rw [hf, List.take_length, e1, List.append_nil, set_same, ← a1]
    rw [show ((ws.getD n default).1, (ws.getD n default).2) = ws.getD n default from rfl, mixG_set (by omega) hl]
theorem over_all {ks : List KR} {bs ws : List BV} (hl : ws.length = bs.length) (hp : upP (bs.map Prod.fst)) (hpp : ∀ i, i < bs.length → (ws.getD i default).1 = (bs.getD i default).1) (hsm : ∀ i, i < bs.length → sameC2 (bs.getD i default).2 (ws.getD i default).2) (hg : ∀ i, i < bs.length → goodV ks (bs.getD i default).2) (hw : ∀ i, i < bs.length → goodV ks (ws.getD i default).2) :
    ∀ n, n ≤ bs.length → oversV ks bs (diffTo bs ws n) = .ok (ws.take n ++ bs.drop n)
  | 0, _ => rfl
  | n + 1, hn => by
    have ih := over_all hl hp hpp hsm hg hw n (by omega)
    simp only [diffTo]
    rw [oversV_app ih]
    have hm := mix_at (ys := ws) (V := bs) (d := default) (f := n) (by omega) hl
    have hml := mix_len (ys := ws) (V := bs) (f := n) (by omega) hl
    have hpi : pIdx (ws.take n ++ bs.drop n) (bs.getD n default).1 = some n := pIdx_at (by rw [hml]; omega) (by rw [hm]) (fun i hi => by
      rw [getD_before (by rw [List.length_take]; omega), take_getD hi, hpp i (by omega)]
      exact up_diff hp hi (by omega))
    have hc := over_comps (ks := ks) (ws := (ws.getD n default).2) (by rw [hml]; omega) hpi (by rw [hm]) (hsm n (by omega)) (hg n (by omega)) (hw n (by omega)) (bs.getD n default).2.length (Nat.le_refl _)
    have e1 : (ws.getD n default).2.take (bs.getD n default).2.length = (ws.getD n default).2 := List.take_of_length_le (by rw [(hsm n (by omega)).1]; exact Nat.le_refl _)
    have e2 : (bs.getD n default).2.drop (bs.getD n default).2.length = [] := List.drop_length
    rw [hc, e1, e2, List.append_nil, ← hpp n (by omega)]
    rw [show ((ws.getD n default).1, (ws.getD n default).2) = ws.getD n default from rfl, mixG_set (by omega) hl]
theorem over_diff {ks : List KR} {bs ws : List BV} (hl : ws.length = bs.length) (hp : upP (bs.map Prod.fst)) (hpp : ∀ i, i < bs.length → (ws.getD i default).1 = (bs.getD i default).1) (hsm : ∀ i, i < bs.length → sameC2 (bs.getD i default).2 (ws.getD i default).2) (hg : ∀ i, i < bs.length → goodV ks (bs.getD i default).2) (hw : ∀ i, i < bs.length → goodV ks (ws.getD i default).2) :
    oversV ks bs (diffV bs ws) = .ok ws := by
  unfold diffV
  rw [over_all hl hp hpp hsm hg hw _ (Nat.le_refl _), List.take_of_length_le (by omega), List.drop_length, List.append_nil]
theorem form_at {bs ws : List BV} (h : ws.map formB = bs.map formB) : ws.length = bs.length ∧ (∀ i, (ws.getD i default).1 = (bs.getD i default).1) ∧ ∀ i, sameC2 (bs.getD i default).2 (ws.getD i default).2 := by
  have hl : ws.length = bs.length := by have := congrArg List.length h; simpa using this
  have hf : ∀ i, formB (ws.getD i default) = formB (bs.getD i default) := fun i => by
    have e : ∀ l : List BV, (l.map formB).getD i (formB default) = formB (l.getD i default) := fun l => by
      simp only [List.getD_eq_getElem?_getD, List.getElem?_map]
      cases l[i]? <;> rfl
    rw [← e, h, e]
  refine ⟨hl, fun i => congrArg (fun z : List Int × List (Int × Nat) => z.1) (hf i), fun i => ?_⟩
  have h2 : (ws.getD i default).2.map (fun c : CV => (c.1, c.2.length)) = (bs.getD i default).2.map (fun c : CV => (c.1, c.2.length)) := congrArg (fun z : List Int × List (Int × Nat) => z.2) (hf i)
  have hl2 : (ws.getD i default).2.length = (bs.getD i default).2.length := by have := congrArg List.length h2; simpa using this
  refine ⟨hl2, fun j hj => ?_⟩
  have e : ∀ l : List CV, (l.map (fun c : CV => (c.1, c.2.length))).getD j ((default : CV).1, (default : CV).2.length) = ((l.getD j default).1, (l.getD j default).2.length) := fun l => by
    simp only [List.getD_eq_getElem?_getD, List.getElem?_map]
    cases l[j]? <;> rfl
  have h3 := e (ws.getD i default).2
  rw [h2, e] at h3
  exact ⟨(congrArg Prod.fst h3).symm, (congrArg Prod.snd h3).symm⟩
theorem form_shape {bs ws : List BV} (h : ws.map formB = bs.map formB) : ws.map shapeB = bs.map shapeB := by
  have e : ∀ l : List BV, l.map shapeB = (l.map formB).map (fun z => (z.1, z.2.map Prod.fst)) := fun l => by
    rw [List.map_map]
    apply List.map_congr_left
    intro b _
    simp [formB, shapeB]
  rw [e, h, ← e]

end Go.Proofs.Ytacmbiohjiogiaa.K

/- Walks over the package prefab: replacements cleaned; entities compared. No condition beyond what each statement names. -/
import Derived.Test.YtacmbiohjiogiaaProg
import Derived.Test.YtacmbiohjiogiaaK14
import Derived.Test.YtacmbiohjiogiaaK19
import Derived.Test.YtacmbiohjiogiaaM1
import Derived.Test.YtacmbiohjiogiaaM2
import Derived.Test.YtacmbiohjiogiaaW1
import Derived.Test.YtacmbiohjiogiaaW2
import Derived.Test.YtacmbiohjiogiaaW3
import Derived.Test.YtacmbiohjiogiaaW4
import Derived.Test.YtacmbiohjiogiaaW5
import Derived.Test.YtacmbiohjiogiaaW6
import Derived.Test.YtacmbiohjiogiaaW7
import Derived.Test.YtacmbiohjiogiaaX1
import Derived.Test.YtacmbiohjiogiaaP1
import Derived.Test.YtacmbiohjiogiaaP2
import Derived.Test.YtacmbiohjiogiaaP3
import Derived.Test.YtacmbiohjiogiaaP4
import Derived.Test.YtacmbiohjiogiaaP5
import Derived.Test.YtacmbiohjiogiaaP6
import Derived.Test.YtacmbiohjiogiaaP7
import Derived.Test.YtacmbiohjiogiaaP8
import Derived.Test.YtacmbiohjiogiaaP9
import Derived.Test.YtacmbiohjiogiaaP10
import Derived.Test.YtacmbiohjiogiaaP11
set_option linter.unusedVariables false
set_option linter.unusedSimpArgs false
set_option maxRecDepth 100000
set_option maxHeartbeats 1000000
namespace Go.Proofs.Ytacmbiohjiogiaa.K
open Go.RowKit

theorem good_put {ks : List KR} {cs : List CV} (h : goodV ks cs) {j : Nat} (hj : j < cs.length) {f : Int} (hf : 0 ≤ f ∧ f < ((cs.getD j default).2.length : Nat)) {v : Int} (hv : fitsV (fldOf ks (cs.getD j default).1 f) v) : goodV ks (putC cs j f v) := by
  have e : ∀ i, ((putC cs j f v).getD i default).1 = (cs.getD i default).1 := fun i => by
    unfold putC
    rw [getD_set' hj]
    split
    · rename_i e; rw [e]
    · rfl
  have hl : (putC cs j f v).length = cs.length := List.length_set ..
  refine ⟨fun a b hab hb => by rw [e, e]; exact h.1 a b hab (by omega), fun i hi => ?_⟩
  rw [e]
  unfold putC
  rw [getD_set' hj]
  split
  · rename_i e2; rw [e2]; exact holds_set (h.2 j hj) (by omega) hv
  · exact h.2 i (by omega)
theorem overV_good {ks : List KR} {bs bs' : List BV} {o : OV} (h : ∀ i, i < bs.length → goodV ks (bs.getD i default).2) (ho : overV ks bs o = .ok bs') : ∀ i, i < bs'.length → goodV ks (bs'.getD i default).2 := by
  unfold overV at ho
  split at ho
  · cases ho
  · rename_i i hi
    split at ho
    · cases ho
    · rename_i j hj
      split at ho
      · cases ho
      · rename_i hf
        split at ho
        · rename_i hv
          cases ho
          have hib : i < bs.length := (List.findIdx?_eq_some_iff_getElem.1 hi).1
          have hj' := List.findIdx?_eq_some_iff_getElem.1 hj
          have hjc : j < (bs.getD i default).2.length := hj'.1
          have hk : ((bs.getD i default).2.getD j default).1 = o.2.1 := by
            have := hj'.2.1
            rw [getD_at hjc]; simpa using this
          intro m hm
          rw [List.length_set] at hm
          rw [getD_set' hib]
          split
          · exact good_put (h i hib) hjc (by omega) (by rw [hk]; exact hv)
          · exact h m hm
        · cases ho
theorem oversV_good {ks : List KR} : ∀ {os : List OV} {bs bs' : List BV}, (∀ i, i < bs.length → goodV ks (bs.getD i default).2) → oversV ks bs os = .ok bs' → ∀ i, i < bs'.length → goodV ks (bs'.getD i default).2
  | [], bs, bs', h, ho => by cases ho; exact h
  | o :: os, bs, bs', h, ho => by
    unfold oversV at ho
    split at ho
    · cases ho
    · rename_i b1 h1
      exact oversV_good (overV_good h h1) ho
theorem rawTo_good {ks : List KR} {ts : List TV} : ∀ (n : Nat), (∀ i, i ≤ n → goodT ks ts i ∧ goodV ks (ts.getD i default).1) → ∀ k, k ≤ (ts.getD n default).2.length → ∀ i, i < (rawTo ks ts n k).length → goodV ks ((rawTo ks ts n k).getD i default).2 := by
  intro n
  induction n using Nat.strongRecOn with
  | _ n ih =>
    intro hg k hk
    induction k with
    | zero =>
      intro i hi
      rw [rawTo_zero] at hi ⊢
      have : i = 0 := by simpa using hi
      subst this; exact (hg n (Nat.le_refl _)).2
    | succ k ihk =>
      intro i hi
      obtain ⟨h1, h2, _, bs, hu⟩ := (hg n (Nat.le_refl _)).1.2 k (by omega)
      have hs := rawTo_step (hg n (Nat.le_refl _)).1 (by omega) hu
      rw [hs] at hi ⊢
      by_cases h : i < (rawTo ks ts n k).length
      · rw [getD_before h]; exact ihk (by omega) i h
      · rw [List.length_append, List.length_map] at hi
        have hj : ((ts.getD n default).2.getD k default).1.toNat < n := by omega
        have hraw : ∀ i, i < (rawV ks ts ((ts.getD n default).2.getD k default).1.toNat).length → goodV ks ((rawV ks ts ((ts.getD n default).2.getD k default).1.toNat).getD i default).2 := by
          rw [rawV_eq]; exact ih _ hj (fun i hi => hg i (by omega)) _ (Nat.le_refl _)
        have hgd := oversV_good hraw hu (i - (rawTo ks ts n k).length) (by omega)
        rw [List.getD_eq_getElem?_getD, List.getElem?_append_right (by omega), List.getElem?_map, List.getElem?_eq_getElem (by omega)]
        rw [getD_at (by omega)] at hgd
        exact hgd
theorem rawV_good {ks : List KR} {l : List PfR} (hok : okTs ks l) {n : Nat} (hn : n < l.length) : ∀ i, i < (rawV ks (l.map PfR.d) n).length → goodV ks ((rawV ks (l.map PfR.d) n).getD i default).2 := by
  rw [rawV_eq]
  refine rawTo_good n (fun i hi => ⟨hok.2.1 i (by omega), ?_⟩) _ (Nat.le_refl _)
  rw [tget]; exact held_goodV (hok.2.2 i (by omega))
theorem resV_ok {ks : List KR} {ts : List TV} {n : Nat} {os : List OV} {b : List BV} (h : resV ks ts n os = .ok b) : os.length ≤ 40 ∧ oversV ks (rawV ks ts n) os = .ok b := by
  unfold resV at h
  split at h
  · cases h
  · exact ⟨by omega, h⟩
theorem shape_map (bs : List BR) : bs.map (fun b => shapeB b.d) = (bs.map BR.d).map shapeB := by rw [List.map_map]; rfl
/-- All that there is to know of the replacements of a build. -/
theorem clean_all {ks : List KR} {l : List PfR} (hok : okTs ks l) {n : Nat} (hn : n < l.length) {os : List OV} {b : List BV} (h : resV ks (l.map PfR.d) n os = .ok b) :
    b.map formB = (rawV ks (l.map PfR.d) n).map formB ∧ diffE (rawV ks (l.map PfR.d) n) b = .ok (diffV (rawV ks (l.map PfR.d) n) b) ∧ (diffV (rawV ks (l.map PfR.d) n) b).length ≤ os.length ∧ srtO (diffV (rawV ks (l.map PfR.d) n) b) ∧ resV ks (l.map PfR.d) n (diffV (rawV ks (l.map PfR.d) n) b) = .ok b := by
  obtain ⟨h40, ho⟩ := resV_ok h
  obtain ⟨f1, f2⟩ := oversV_few ho rfl
  have f3 : diffV (rawV ks (l.map PfR.d) n) (rawV ks (l.map PfR.d) n) = [] := diffTo_nil _ _
  rw [f3, List.length_nil, Nat.zero_add] at f2
  have hg := rawV_good hok hn
  have hw := oversV_good hg ho
  obtain ⟨fl, fp, fs⟩ := form_at f1
  have hup := rawV_up ks (l.map PfR.d) n
  have hs := srt_To (ws := b) hup hg _ (Nat.le_refl _)
  have hd := over_diff (ks := ks) (ws := b) fl hup (fun i _ => fp i) (fun i _ => fs i) hg (fun i hi => hw i (by omega))
  refine ⟨f1, ?_, f2, hs, ?_⟩
  · unfold diffE; rw [if_neg (by omega), if_neg (by omega)]
  · unfold resV; rw [if_neg (by omega)]; exact hd
def BinOK (V : Mem) (b : BR) : Prop := PthOK V b ∧ CsOK V b.cA b.cn b.cc b.cs
theorem BinOK.sub {V V' : Mem} {b : BR} (h : BinOK V b) (hm : MSub V V') : BinOK V' b := ⟨h.1.sub hm, h.2.sub hm⟩

theorem CleanP_c {V : Mem} (A : Option Addr) (nK cK : Nat) (ks : List KR) (hks : KsOK V A nK cK ks) (hck : ckErr ks = 0) (lA : Option Addr) (ln lc : Nat) (l : List PfR) (hl : LsOK V lA ln lc l) (hok : okTs ks l) (n : Nat) (hn : n < l.length) (z : Int) (hz : z = (n : Int)) (oA : Option Addr) (on oc : Nat) (os : List OvR) (hos : OsOK V oA on oc os) : CallS Try.prog 54 [.slice A nK cK, .slice lA ln lc, .int .i64 z, .slice oA on oc].toArray V [] (fun r L' => (∃ e : Int, resV ks (l.map PfR.d) n (os.map OvR.d) = .error e ∧ e ≠ 0 ∧ r = .tuple #[.slice none 0 0, .int .i64 e] ∧ L' = []) ∨ (∃ (b : List BV) (ds : List OvR) (dA : Option Addr) (dn dC : Nat) (E P : Grp), resV ks (l.map PfR.d) n (os.map OvR.d) = .ok b ∧ ds.map OvR.d = diffV (rawV ks (l.map PfR.d) n) b ∧ r = .tuple #[.slice dA dn dC, .int .i64 0] ∧ ds.length = dn ∧ OS dA dn dC 147 4 ((ds).flatMap encOv) E ∧ (∀ x ∈ ds, OvOK (inG P) x ∧ x.n ≤ 1000) ∧ L' = [E, P])) := by
  have hl4 := hok.1
  refine callS Try.func54 rfl rfl (fun w0 => ?_)
  refine s_seq ?_
  refine s_region ?_
  refine o_val rfl rfl rfl (y_assign (v := (.slice _ _ _)) rfl) ?_
  refine o_val rfl rfl rfl (y_assign (v := (.int _ _)) rfl) ?_
  refine o_nil ?_
  refine s_seq ?_
  refine s_region ?_
  refine o_val rfl rfl rfl (y_move (v := (.slice _ _ _)) rfl) ?_
  refine o_val rfl rfl rfl (y_move (v := (.slice _ _ _)) rfl) ?_
  refine o_val rfl rfl rfl (y_move (v := (.int _ _)) rfl) ?_
  refine o_val rfl rfl rfl (y_move (v := (.slice _ _ _)) rfl) ?_
  refine o_fn 0 (d := 18) rfl Try.call19 (Build_c A nK cK ks (hks.sub MSub.ext) hck lA ln lc l (hl.sub MSub.ext) hok n hn z hz oA on oc os (hos.sub MSub.ext)) rfl ?_
  rintro _ _ (⟨e, hx, he, rfl, rfl⟩ | ⟨bs', gs', B', bn', C', E', P', hx, rfl, hbn, ho', hb', rfl⟩)
  · refine o_val rfl rfl rfl (y_move (v := (.tuple #[(.slice _ _ _), (.int _ _)])) rfl) ?_
    refine o_val rfl rfl rfl (y_extract (v := (.slice _ _ _)) rfl rfl) ?_
    refine o_val rfl rfl rfl (y_extract (v := (.int _ _)) rfl rfl) ?_
    refine o_val rfl rfl rfl (y_assign (v := (.slice _ _ _)) rfl) ?_
    refine o_val rfl rfl rfl (y_assign (v := (.int _ _)) rfl) ?_
    refine o_nil ?_
    refine s_forget [(0, (.slice _ _ _)), (1, (.slice _ _ _)), (2, (.int _ _)), (8, (.slice _ _ _)), (9, (.int _ _)), (10, (.slice _ _ _)), (11, (.int _ _))] ⟨rfl, rfl, rfl, rfl, rfl, rfl, rfl, trivial⟩ (fun _f => ?_)
    refine s_seq ?_
    refine s_seq ?_
    refine s_region ?_
    refine o_val rfl rfl rfl (y_move (v := (.int _ _)) rfl) ?_
    refine o_val rfl rfl rfl (y_neq rfl rfl) ?_
    refine o_nil ?_
    refine s_if rfl (fun h1 => ?_) (fun h2 => ?_)
    · refine s_seq ?_
      refine s_region ?_
      refine o_val rfl rfl rfl (y_move (v := (.int _ _)) rfl) ?_
      refine o_val rfl rfl rfl (y_assign (v := (.slice _ _ _)) rfl) ?_
      refine o_val rfl rfl rfl (y_assign (v := (.int _ _)) rfl) ?_
      refine o_nil ?_
      refine s_ret ?_
      exact ⟨_, [], res2 rfl rfl rfl, .inl ⟨e, hx, he, rfl, rfl⟩, sub_picks [] rfl⟩
    · exact absurd (Decidable.not_not.1 h2) he
  · obtain ⟨hfm, hde, hfew, hsrt, hback⟩ := clean_all hok hn hx
    have h40 := (resV_ok hx).1
    rw [List.length_map] at h40 hfew
    have hb15 := rawV_15 (fun i hi => hok.2.1 i (by omega)) (show n ≤ 3 by omega)
    have hbl : bn' = (rawV ks (l.map PfR.d) n).length := by have := congrArg List.length hfm; rw [List.length_map, List.length_map, List.length_map] at this; omega
    refine o_val rfl rfl rfl (y_move (v := (.tuple #[(.slice _ _ _), (.int _ _)])) rfl) ?_
    refine o_val rfl rfl rfl (y_extract (v := (.slice _ _ _)) rfl rfl) ?_
    refine o_val rfl rfl rfl (y_extract (v := (.int _ _)) rfl rfl) ?_
    refine o_val rfl rfl rfl (y_assign (v := (.slice _ _ _)) rfl) ?_
    refine o_val rfl rfl rfl (y_assign (v := (.int _ _)) rfl) ?_
    refine o_nil ?_
    refine s_forget [(0, (.slice _ _ _)), (1, (.slice _ _ _)), (2, (.int _ _)), (8, (.slice _ _ _)), (9, (.int _ _)), (10, (.slice _ _ _)), (11, (.int _ _))] ⟨rfl, rfl, rfl, rfl, rfl, rfl, rfl, trivial⟩ (fun _f => ?_)
    refine s_seq ?_
    refine s_seq ?_
    refine s_region ?_
    refine o_val rfl rfl rfl (y_move (v := (.int _ _)) rfl) ?_
    refine o_val rfl rfl rfl (y_neq rfl rfl) ?_
    refine o_nil ?_
    refine s_if rfl (fun h3 => ?_) (fun h4 => ?_)
    · exact absurd rfl h3
    · refine s_skip ?_
      refine s_seq ?_
      refine s_region ?_
      refine o_val rfl rfl rfl (y_move (v := (.slice _ _ _)) rfl) ?_
      refine o_val rfl rfl rfl (y_move (v := (.slice _ _ _)) rfl) ?_
      refine o_val rfl rfl rfl (y_move (v := (.int _ _)) rfl) ?_
      refine o_val rfl rfl rfl (y_move (v := (.slice _ _ _)) rfl) ?_
      refine o_fn 0 (d := 29) rfl Try.call53 (DiffP_c A nK cK ks (hks.sub MSub.ext) hck lA ln lc l (hl.sub MSub.ext) hok n hn z hz B' bn' C' bs' (ho'.cels (j := 0) rfl).down hbn (by omega) (hb'.want (inG_ext (j := 2) rfl) (inG_ext (j := 1) rfl)) (fun _ => by rw [shape_map]; exact form_shape hfm)) rfl ?_
      rintro _ _ (⟨e2, hd2, he2, rfl, rfl⟩ | ⟨ds, dA, dn, dC, dE, dP, hdd, rfl, hdn, hdo, hdx, rfl⟩)
      · exact absurd (hd2.symm.trans hde) (by simp)
      · have hdd := Except.ok.inj (hdd.symm.trans hde)
        have hdl : ds.length ≤ os.length := by have := congrArg List.length hdd; rw [List.length_map] at this; omega
        refine o_val rfl rfl rfl (y_move (v := (.tuple #[(.slice _ _ _), (.int _ _)])) rfl) ?_
        refine o_val rfl rfl rfl (y_extract (v := (.slice _ _ _)) rfl rfl) ?_
        refine o_val rfl rfl rfl (y_extract (v := (.int _ _)) rfl rfl) ?_
        refine o_val rfl rfl rfl (y_assign (v := (.slice _ _ _)) rfl) ?_
        refine o_val rfl rfl rfl (y_assign (v := (.int _ _)) rfl) ?_
        refine o_nil ?_
        refine s_seq ?_
        refine s_seq ?_
        refine s_region ?_
        refine o_val rfl rfl rfl (y_move (v := (.int _ _)) rfl) ?_
        refine o_val rfl rfl rfl (y_neq rfl rfl) ?_
        refine o_nil ?_
        refine s_if rfl (fun h5 => ?_) (fun h6 => ?_)
        · exact absurd rfl h5
        · refine s_skip ?_
          refine s_seq ?_
          refine s_region ?_
          refine o_val rfl rfl rfl (y_move (v := (.slice _ _ _)) rfl) ?_
          refine o_fn 0 (d := 36) rfl Try.call67 (SortO_c dA dn dC ds (hdo.cels (j := 0) rfl).down hdn (by omega) (fun x hx => (hdx x hx).1.sub (inG_ext (j := 1) rfl)) 131 [] Try.call131 (fun x y => keyC x.d y.d) (fun V' x y hx hy => Clean1_c x y hx hy) (by rw [← hdn]; exact srt_ix (by rw [hdd]; exact hsrt))) rfl ?_
          rintro _ _ ⟨rfl, rfl⟩
          refine o_nil ?_
          refine s_forget [(8, (.slice _ _ _)), (9, (.int _ _)), (12, (.slice _ _ _))] ⟨rfl, rfl, rfl, trivial⟩ (fun _f => ?_)
          refine s_seq ?_
          refine s_region ?_
          refine o_val rfl rfl rfl (y_move (v := (.slice _ _ _)) rfl) ?_
          refine o_val rfl rfl rfl (y_assign (v := (.slice _ _ _)) rfl) ?_
          refine o_val rfl rfl rfl (y_assign (v := (.int _ _)) rfl) ?_
          refine o_nil ?_
          refine s_ret ?_
          exact ⟨_, [_, _], res2 rfl rfl rfl, .inr ⟨bs'.map BR.d, ds, _, _, _, _, _, hx, hdd, rfl, hdn, hdo, hdx, rfl⟩, sub_picks [0, 0] rfl⟩

theorem EqualFB_c {V : Mem} (A : Option Addr) (n c : Nat) (xs : List BR) (h : Cels V [] A (xs.flatMap encB)) (hn : xs.length = n) (hbn : n ≤ 140737488355328) (hX : ∀ x ∈ xs, BinOK V x) (B : Option Addr) (m d : Nat) (ys : List BR) (h' : Cels V [] B (ys.flatMap encB)) (hm : ys.length = m) (hbm : m ≤ 140737488355328) (hY : ∀ x ∈ ys, BinOK V x) (fid : FuncId) (cap : List Value) (hcall : ∀ args w, (callFunc fid args).run Try.prog w = .ok (.enter fid args) w) (p : BR → BR → Prop) [∀ x y, Decidable (p x y)] (hf : ∀ (V' : Mem) (x y : BR) (hx : BinOK V' x) (hy : BinOK V' y), CallS Try.prog fid (([.agg #[.slice x.pA x.pn x.pc, .slice x.cA x.cn x.cc], .agg #[.slice y.pA y.pn y.pc, .slice y.cA y.cn y.cc]] : List Value) ++ cap).toArray V' [] (fun r L' => r = .bool (decide (p x y)) ∧ L' = [])) : CallS Try.prog 134 [.slice A n c, .slice B m d, .func (.func fid) #[] cap.toArray].toArray V [] (fun r L' => r = .bool (decide (All2 p xs ys)) ∧ L' = []) := by
  refine callS Try.func134 rfl rfl (fun w0 => ?_)
  refine s_seq ?_
  refine s_region ?_
  refine o_val rfl rfl rfl (y_assign (v := (.bool _)) rfl) ?_
  refine o_nil ?_
  refine s_seq ?_
  refine s_seq ?_
  refine s_region ?_
  refine o_val rfl rfl rfl (y_move (v := (.slice _ _ _)) rfl) ?_
  refine o_val rfl rfl rfl (y_len Try.runUnderlying28 rfl) ?_
  refine o_val rfl rfl rfl (y_move (v := (.slice _ _ _)) rfl) ?_
  refine o_val rfl rfl rfl (y_len Try.runUnderlying28 rfl) ?_
  refine o_val rfl rfl rfl (y_neq rfl rfl) ?_
  refine o_nil ?_
  refine s_if rfl (fun h1 => ?_) (fun h2 => ?_)
  · refine s_seq ?_
    refine s_region ?_
    refine o_val rfl rfl rfl (y_assign (v := (.bool _)) rfl) ?_
    refine o_nil ?_
    refine s_ret ?_
    exact ⟨_, [], res1 rfl rfl, ⟨congrArg Value.bool (decide_eq_false (fun hh => by have := hh.1; omega)).symm, rfl⟩, sub_picks [] rfl⟩
  · refine s_skip ?_
    refine s_seq ?_
    refine s_seq ?_
    refine s_region ?_
    refine o_val rfl rfl rfl (y_move (v := (.slice _ _ _)) rfl) ?_
    refine o_val rfl rfl rfl (y_len Try.runUnderlying28 rfl) ?_
    refine o_val rfl rfl rfl (y_move (v := (.int _ _)) rfl) ?_
    refine o_nil ?_
    refine s_block ?_
    refine s_loopK (γ := Nat) [(1, (.slice _ _ _)), (2, (.func _ _ _)), (15, (.slice _ _ _)), (16, (.int _ _))] [] (fun g => [(17, .int .i64 g)]) (fun g => []) (fun g => g ≤ n ∧ ∀ j, j < g → p (xs.getD j default) (ys.getD j default)) (fun g => n - g) (0) ⟨rfl, rfl, rfl, rfl, rfl, trivial⟩ (sub_picks [] rfl) ?_ ?_
    · exact ⟨Nat.zero_le _, fun j hj => absurd hj (Nat.not_lt_zero j)⟩
    intro g _f hI
    obtain ⟨hg, hall⟩ := hI
    refine s_seq ?_
    refine s_region ?_
    refine o_val rfl rfl rfl (y_lss rfl rfl) ?_
    refine o_nil ?_
    refine s_seq ?_
    refine s_if rfl (fun h3 => ?_) (fun h4 => ?_)
    · refine s_skip ?_
      refine s_seq ?_
      refine s_block ?_
      refine s_seq ?_
      refine s_region ?_
      refine o_val rfl rfl rfl (y_move (v := (.int _ _)) rfl) ?_
      refine o_val rfl rfl rfl (y_indexAddr Try.runUnderlying28 Try.sizeOf35 (some_at (sz := 1) encB_len (i := 0) h (by omega)) rfl rfl (by omega)) ?_
      refine o_val rfl rfl rfl (y_loads (cs := [_, _]) Try.isAgg35 Try.sizeOf35 rfl (by unfold idx; rw [Option.isSome_map]; exact some_at (sz := 1) encB_len (i := 0) h (by omega)) rfl (cels_at (sz := 2) encB_len h.here (by omega))) ?_
      refine o_alloc rfl Try.zeroValue35 rfl (fun b5 => ?_)
      refine o_val rfl rfl rfl (y_assign (v := (.int _ _)) rfl) ?_
      refine o_stores (vs := [(.slice _ _ _), (.slice _ _ _)]) 0 rfl Try.sizeOf35 rfl rfl rfl (by simp [Value.oneCell']) (by simp) ?_
      refine o_nil ?_
      refine s_seq ?_
      refine s_region ?_
      refine o_val rfl rfl rfl (y_move (v := (.slice _ _ _)) rfl) ?_
      refine o_val rfl rfl rfl (y_move (v := (.int _ _)) rfl) ?_
      refine o_val rfl rfl rfl (y_indexAddr Try.runUnderlying28 Try.sizeOf35 (some_at (sz := 1) encB_len (i := 0) h' (by omega)) rfl rfl (by omega)) ?_
      refine o_val rfl rfl rfl (y_loads (cs := [_, _]) Try.isAgg35 Try.sizeOf35 rfl (by unfold idx; rw [Option.isSome_map]; exact some_at (sz := 1) encB_len (i := 0) h' (by omega)) rfl (cels_at (sz := 2) encB_len h'.here (by omega))) ?_
      refine o_alloc rfl Try.zeroValue35 rfl (fun b6 => ?_)
      refine o_stores (vs := [(.slice _ _ _), (.slice _ _ _)]) 1 rfl Try.sizeOf35 rfl rfl rfl (by simp [Value.oneCell']) (by simp) ?_
      refine o_nil ?_
      refine s_norm [[(_, .cells [(.slice _ _ _), (.slice _ _ _)].toArray 35 (0, 0))], [(_, .cells [(.slice _ _ _), (.slice _ _ _)].toArray 35 (0, 0))]] rfl ?_
      refine s_forget [(1, (.slice _ _ _)), (2, (.func _ _ _)), (8, (.pointer _)), (9, (.pointer _)), (15, (.slice _ _ _)), (16, (.int _ _)), (17, (.int _ _))] ⟨rfl, rfl, rfl, rfl, rfl, rfl, rfl, trivial⟩ (fun _f => ?_)
      refine s_seq ?_
      refine s_region ?_
      have hx := hX _ (getD_mem' (show g < xs.length by omega) : (xs.getD ((g : Nat) : Int).toNat default) ∈ xs)
      have hy := hY _ (getD_mem' (show g < ys.length by omega) : (ys.getD ((g : Nat) : Int).toNat default) ∈ ys)
      refine o_val rfl rfl rfl (y_move (v := (.func _ _ _)) rfl) ?_
      refine o_val rfl rfl rfl (y_loads (cs := [_, _]) Try.isAgg35 Try.sizeOf35 rfl rfl rfl (cels_own 0 rfl rfl)) ?_
      refine o_val rfl rfl rfl (y_loads (cs := [_, _]) Try.isAgg35 Try.sizeOf35 rfl rfl rfl (cels_own 1 rfl rfl)) ?_
      refine o_fnv' 0 (d := 29) rfl hcall rfl rfl rfl (hf _ (xs.getD ((g : Nat) : Int).toNat default) (ys.getD ((g : Nat) : Int).toNat default) (hx.sub MSub.ext) (hy.sub MSub.ext)) ?_
      rintro _ _ ⟨rfl, rfl⟩
      refine o_val rfl rfl rfl (y_not rfl) ?_
      refine o_nil ?_
      refine s_if rfl (fun h7 => ?_) (fun h8 => ?_)
      · have hne := h7
        refine s_seq ?_
        refine s_region ?_
        refine o_val rfl rfl rfl (y_assign (v := (.bool _)) rfl) ?_
        refine o_nil ?_
        refine s_ret ?_
        exact ⟨_, [], res1 rfl rfl, ⟨congrArg Value.bool (decide_eq_false (fun hh => hne (hh.2 g (by omega)))).symm, rfl⟩, sub_picks [] rfl⟩
      · have heq := Decidable.not_not.1 h8
        refine s_skip ?_
        refine s_region ?_
        refine o_val rfl rfl rfl (y_add rfl rfl (by simp only [inK]; omega)) ?_
        refine o_val rfl rfl rfl (y_move (v := (.int _ _)) rfl) ?_
        refine o_nil ?_
        exact ⟨g + 1, (by first | omega | (dsimp only; omega)), ⟨by omega, all_next hall heq⟩, ⟨(congrArg (Value.int .i64) (by omega)), rfl, rfl, rfl, rfl, trivial⟩, (sub_picks [] rfl)⟩
    · refine s_exit ?_
      refine s_seq ?_
      refine s_region ?_
      refine o_val rfl rfl rfl (y_assign (v := (.bool _)) rfl) ?_
      refine o_nil ?_
      refine s_ret ?_
      exact ⟨_, [], res1 rfl rfl, ⟨congrArg Value.bool (decide_eq_true (⟨by omega, fun j hj => hall j (by omega)⟩)).symm, rfl⟩, sub_picks [] rfl⟩

theorem sameB2_c {V : Mem} (x y : CR) (hx : COK V x) (hy : COK V y) : CallS Try.prog 136 [.agg #[.int .i64 x.kind, .slice x.A x.n x.c], .agg #[.int .i64 y.kind, .slice y.A y.n y.c]].toArray V [] (fun r L' => r = .bool (decide (x.d = y.d)) ∧ L' = []) := by
  refine callS Try.func136 rfl rfl (fun w0 => ?_)
  refine s_seq ?_
  refine s_region ?_
  refine o_box (v := (.agg #[(.int _ _), (.slice _ _ _)])) rfl rfl rfl (fun b1 => ?_)
  refine o_box (v := (.agg #[(.int _ _), (.slice _ _ _)])) rfl rfl rfl (fun b2 => ?_)
  refine o_val rfl rfl rfl (y_assign (v := (.bool _)) rfl) ?_
  refine o_nil ?_
  refine s_seq ?_
  refine s_region ?_
  refine o_val rfl rfl rfl (y_field0 Try.runUnderlying155 rfl Try.sizeOf3 rfl rfl) ?_
  refine o_val rfl rfl rfl (y_load Try.isAgg3 rfl (cel_own 0 rfl rfl)) ?_
  refine o_val rfl rfl rfl (y_field0 Try.runUnderlying155 rfl Try.sizeOf3 rfl rfl) ?_
  refine o_val rfl rfl rfl (y_load Try.isAgg3 rfl (cel_own 1 rfl rfl)) ?_
  refine o_split rfl rfl rfl (y_eql rfl rfl) (fun p3 => ?_) (fun p4 => ?_)
  · have hk : x.kind = y.kind := p3
    refine o_val rfl rfl rfl (y_move (v := (.bool _)) rfl) ?_
    refine o_guard_yes rfl rfl ?_
    refine o_val rfl rfl rfl (y_field0 Try.runUnderlying155 rfl Try.sizeOf22 rfl rfl) ?_
    refine o_guard_yes rfl rfl ?_
    refine o_val rfl rfl rfl (y_load Try.isAgg22 rfl (cel_own 0 rfl rfl)) ?_
    refine o_guard_yes rfl rfl ?_
    refine o_val rfl rfl rfl (y_field0 Try.runUnderlying155 rfl Try.sizeOf22 rfl rfl) ?_
    refine o_guard_yes rfl rfl ?_
    refine o_val rfl rfl rfl (y_load Try.isAgg22 rfl (cel_own 1 rfl rfl)) ?_
    refine o_guard_yes rfl rfl ?_
    refine o_fn 0 (d := 15) rfl Try.call21 (EqualI_c x.A x.n x.c x.vs hx.2.2.2.here.down hx.1 y.A y.n y.c y.vs hy.2.2.2.here.down hy.1 (by have := hx.2.2.1; omega)) rfl ?_
    rintro _ _ ⟨rfl, rfl⟩
    refine o_val rfl rfl rfl (y_pick_t (v := (.bool _)) rfl rfl) ?_
    refine o_val rfl rfl rfl (y_assign (v := (.bool _)) rfl) ?_
    refine o_nil ?_
    refine s_forget [(4, (.bool _))] ⟨rfl, trivial⟩ (fun _f => ?_)
    refine s_ret ?_
    exact ⟨_, [], res1 rfl rfl, ⟨congrArg Value.bool (decide_eq_decide.2 ⟨fun hh => Prod.ext hk hh, fun hh => congrArg Prod.snd hh⟩), rfl⟩, sub_picks [] rfl⟩
  · have hk : ¬ x.kind = y.kind := p4
    refine o_val rfl rfl rfl (y_move (v := (.bool _)) rfl) ?_
    refine o_guard_no rfl rfl rfl rfl rfl ?_
    refine o_guard_no rfl rfl rfl rfl rfl ?_
    refine o_guard_no rfl rfl rfl rfl rfl ?_
    refine o_guard_no rfl rfl rfl rfl rfl ?_
    refine o_guard_no rfl rfl rfl rfl rfl ?_
    refine o_val rfl rfl rfl (y_pick_f (v := (.bool _)) rfl rfl) ?_
    refine o_val rfl rfl rfl (y_assign (v := (.bool _)) rfl) ?_
    refine o_nil ?_
    refine s_forget [(4, (.bool _))] ⟨rfl, trivial⟩ (fun _f => ?_)
    refine s_ret ?_
    exact ⟨_, [], res1 rfl rfl, ⟨congrArg Value.bool ((decide_eq_false (fun hh => hk (congrArg Prod.fst hh))).symm), rfl⟩, sub_picks [] rfl⟩

theorem sameB1_c {V : Mem} (x y : BR) (hx : BinOK V x) (hy : BinOK V y) : CallS Try.prog 135 [.agg #[.slice x.pA x.pn x.pc, .slice x.cA x.cn x.cc], .agg #[.slice y.pA y.pn y.pc, .slice y.cA y.cn y.cc]].toArray V [] (fun r L' => r = .bool (decide (x.d = y.d)) ∧ L' = []) := by
  refine callS Try.func135 rfl rfl (fun w0 => ?_)
  refine s_seq ?_
  refine s_region ?_
  refine o_box (v := (.agg #[(.slice _ _ _), (.slice _ _ _)])) rfl rfl rfl (fun b1 => ?_)
  refine o_box (v := (.agg #[(.slice _ _ _), (.slice _ _ _)])) rfl rfl rfl (fun b2 => ?_)
  refine o_val rfl rfl rfl (y_assign (v := (.bool _)) rfl) ?_
  refine o_nil ?_
  refine s_seq ?_
  refine s_region ?_
  refine o_val rfl rfl rfl (y_field0 Try.runUnderlying35 rfl Try.sizeOf22 rfl rfl) ?_
  refine o_val rfl rfl rfl (y_load Try.isAgg22 rfl (cel_own 0 rfl rfl)) ?_
  refine o_val rfl rfl rfl (y_field0 Try.runUnderlying35 rfl Try.sizeOf22 rfl rfl) ?_
  refine o_val rfl rfl rfl (y_load Try.isAgg22 rfl (cel_own 1 rfl rfl)) ?_
  refine o_fn 0 (d := 9) rfl Try.call21 (EqualI_c x.pA x.pn x.pc x.ps hx.1.2.2.2.here.down hx.1.1 y.pA y.pn y.pc y.ps hy.1.2.2.2.here.down hy.1.1 (by have := hx.1.2.2.1; omega)) rfl ?_
  rintro _ _ ⟨rfl, rfl⟩
  refine o_split rfl rfl rfl (y_move (v := (.bool _)) rfl) (fun p3 => ?_) (fun p4 => ?_)
  · have hk : x.ps = y.ps := p3
    refine o_guard_yes rfl rfl ?_
    refine o_val rfl rfl rfl (y_field0 Try.runUnderlying35 rfl Try.sizeOf33 rfl rfl) ?_
    refine o_guard_yes rfl rfl ?_
    refine o_val rfl rfl rfl (y_load Try.isAgg33 rfl (cel_own 0 rfl rfl)) ?_
    refine o_guard_yes rfl rfl ?_
    refine o_val rfl rfl rfl (y_field0 Try.runUnderlying35 rfl Try.sizeOf33 rfl rfl) ?_
    refine o_guard_yes rfl rfl ?_
    refine o_val rfl rfl rfl (y_load Try.isAgg33 rfl (cel_own 1 rfl rfl)) ?_
    refine o_guard_yes rfl rfl ?_
    refine o_fn 0 (d := 15) rfl Try.call129 (EqualFC_c x.cA x.cn x.cc x.cs hx.2.2.2.2.1.here.down hx.2.1 (by have := hx.2.2.2.1; omega) (fun z hz => (hx.2.2.2.2.2 z hz).sub MSub.ext) y.cA y.cn y.cc y.cs hy.2.2.2.2.1.here.down hy.2.1 (by have := hy.2.2.2.1; omega) (fun z hz => (hy.2.2.2.2.2 z hz).sub MSub.ext) 136 [] Try.call136 (fun a b => a.d = b.d) (fun V' a b ha hb => sameB2_c a b ha hb)) rfl ?_
    rintro _ _ ⟨rfl, rfl⟩
    refine o_val rfl rfl rfl (y_pick_t (v := (.bool _)) rfl rfl) ?_
    refine o_val rfl rfl rfl (y_assign (v := (.bool _)) rfl) ?_
    refine o_nil ?_
    refine s_forget [(4, (.bool _))] ⟨rfl, trivial⟩ (fun _f => ?_)
    refine s_ret ?_
    exact ⟨_, [], res1 rfl rfl, ⟨congrArg Value.bool (decide_eq_decide.2 ⟨fun hh => Prod.ext hk (all2_map.1 hh), fun hh => all2_map.2 (congrArg Prod.snd hh)⟩), rfl⟩, sub_picks [] rfl⟩
  · have hk : ¬ x.ps = y.ps := p4
    refine o_guard_no rfl rfl rfl rfl rfl ?_
    refine o_guard_no rfl rfl rfl rfl rfl ?_
    refine o_guard_no rfl rfl rfl rfl rfl ?_
    refine o_guard_no rfl rfl rfl rfl rfl ?_
    refine o_guard_no rfl rfl rfl rfl rfl ?_
    refine o_val rfl rfl rfl (y_pick_f (v := (.bool _)) rfl rfl) ?_
    refine o_val rfl rfl rfl (y_assign (v := (.bool _)) rfl) ?_
    refine o_nil ?_
    refine s_forget [(4, (.bool _))] ⟨rfl, trivial⟩ (fun _f => ?_)
    refine s_ret ?_
    exact ⟨_, [], res1 rfl rfl, ⟨congrArg Value.bool ((decide_eq_false (fun hh => hk (congrArg Prod.fst hh))).symm), rfl⟩, sub_picks [] rfl⟩

theorem sameBuilt_c {V : Mem} (A : Option Addr) (n c : Nat) (xs : List BR) (h : Cels V [] A (xs.flatMap encB)) (hn : xs.length = n) (hb1 : n ≤ 1000) (hX : ∀ x ∈ xs, BinOK V x) (B : Option Addr) (m d : Nat) (ys : List BR) (h' : Cels V [] B (ys.flatMap encB)) (hm : ys.length = m) (hb2 : m ≤ 1000) (hY : ∀ x ∈ ys, BinOK V x) : CallS Try.prog 55 [.slice A n c, .slice B m d].toArray V [] (fun r L' => r = .bool (decide (xs.map BR.d = ys.map BR.d)) ∧ L' = []) := by
  refine callS Try.func55 rfl rfl (fun w0 => ?_)
  refine s_seq ?_
  refine s_region ?_
  refine o_val rfl rfl rfl (y_assign (v := (.bool _)) rfl) ?_
  refine o_nil ?_
  refine s_seq ?_
  refine s_region ?_
  refine o_val rfl rfl rfl (y_move (v := (.slice _ _ _)) rfl) ?_
  refine o_val rfl rfl rfl (y_move (v := (.slice _ _ _)) rfl) ?_
  refine o_fn 0 (d := 7) rfl Try.call134 (EqualFB_c A n c xs h.here.down hn (by omega) (fun z hz => (hX z hz).sub MSub.ext) B m d ys h'.here.down hm (by omega) (fun z hz => (hY z hz).sub MSub.ext) 135 [] Try.call135 (fun a b => a.d = b.d) (fun V' a b ha hb => sameB1_c a b ha hb)) rfl ?_
  rintro _ _ ⟨rfl, rfl⟩
  refine o_val rfl rfl rfl (y_assign (v := (.bool _)) rfl) ?_
  refine o_nil ?_
  refine s_ret ?_
  exact ⟨_, [], res1 rfl rfl, ⟨congrArg Value.bool (decide_eq_decide.2 all2_map), rfl⟩, sub_picks [] rfl⟩

end Go.Proofs.Ytacmbiohjiogiaa.K

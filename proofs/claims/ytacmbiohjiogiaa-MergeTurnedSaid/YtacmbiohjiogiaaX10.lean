/- Walk over the law MergeOne. No condition beyond what each statement names. -/
import Derived.Test.YtacmbiohjiogiaaProg
import Derived.Test.YtacmbiohjiogiaaK17
import Derived.Test.YtacmbiohjiogiaaM1
import Derived.Test.YtacmbiohjiogiaaM2
import Derived.Test.YtacmbiohjiogiaaW1
import Derived.Test.YtacmbiohjiogiaaW2
import Derived.Test.YtacmbiohjiogiaaW3
import Derived.Test.YtacmbiohjiogiaaW4
import Derived.Test.YtacmbiohjiogiaaW5
import Derived.Test.YtacmbiohjiogiaaW6
import Derived.Test.YtacmbiohjiogiaaW7
import Derived.Test.YtacmbiohjiogiaaW8
import Derived.Test.YtacmbiohjiogiaaX1
import Derived.Test.YtacmbiohjiogiaaX2
import Derived.Test.YtacmbiohjiogiaaX3
import Derived.Test.YtacmbiohjiogiaaX4
import Derived.Test.YtacmbiohjiogiaaX5
import Derived.Test.YtacmbiohjiogiaaX6
import Derived.Test.YtacmbiohjiogiaaX7
import Derived.Test.YtacmbiohjiogiaaX8
import Derived.Test.YtacmbiohjiogiaaX9
set_option linter.unusedVariables false
set_option linter.unusedSimpArgs false
set_option maxRecDepth 100000
namespace Go.Proofs.Ytacmbiohjiogiaa.K
open Go.RowKit

theorem orM_sub {A B X : Mem} (h : MSub A X) (h' : MSub B X) : MSub (orM A B) X := fun b o hb => hb.elim (h b o) (h' b o)
theorem wok_strong {w' : WR} {KE KP GE IE CE VP : Grp} {X : Mem} (hl : ∀ i ∈ w'.its, i.cs.length ≤ 4398046511104) (hkn : w'.ks.length ≤ 1000) (hgn : w'.gs.length ≤ 1000) (hin : w'.its.length ≤ 1000)
    (t1 : OS w'.kA w'.kn w'.kc 58 2 (w'.ks.flatMap encK) KE) (t2 : ∀ x ∈ w'.ks, KOK (inG KP) x) (t3 : OS w'.gA w'.gn w'.gc 3 1 (w'.gs.map (.int .i64)) GE) (t4 : OS w'.iA w'.iN w'.iC 136 3 (w'.its.flatMap encIt) IE) (t5 : MCs 155 w'.its CE) (t6 : ∀ x ∈ w'.its, ∀ y ∈ x.cs, COK (inG VP) y)
    (m1 : MSub (inG KE) X) (m2 : MSub (inG KP) X) (m3 : MSub (inG GE) X) (m4 : MSub (inG IE) X) (m5 : MSub (inG CE) X) (m6 : MSub (inG VP) X) : WOK X w' := by
  have l1 := t1.len
  have l3 := t3.len
  have l4 := t4.len
  rw [flat_len encK_len] at l1
  rw [List.length_map] at l3
  rw [flat_len encIt_len] at l4
  refine ⟨⟨by omega, t1.2.1, by omega, t1.mem.ms m1, fun x hx => (t2 x hx).sub m2⟩, ⟨by omega, t3.2.1, by omega, t3.mem.ms m3⟩, ⟨by omega, t4.2.1, by omega, t4.mem.ms m4, fun i hi => ?_⟩⟩
  obtain ⟨r1, r2, r3⟩ := t5.read hi
  exact ⟨r1, r2, by have := hl i hi; omega, r3.ms m5, fun y hy => (t6 i hi y hy).sub m6⟩
theorem len_d {its its' : List IR} (e : its.map IR.d = its'.map IR.d) {B : Nat} (h : ∀ j ∈ its', j.cs.length ≤ B) : ∀ i ∈ its, i.cs.length ≤ B := fun i hi => by
  have h1 : i.d ∈ its'.map IR.d := e ▸ List.mem_map_of_mem hi
  obtain ⟨j, hj, hd⟩ := List.mem_map.1 h1
  have h2 := congrArg (fun q => q.2.2.length) hd
  unfold IR.d at h2
  simp only [List.length_map] at h2
  have := h j hj
  omega
theorem gTo_of {wo wx wy : WR} {i : Nat} {m : Int} (h0 : 0 ≤ m) (h1 : i < wx.gs.length → wx.gs.getD i 0 ≤ m) (h2 : i < wy.gs.length → wy.gs.getD i 0 ≤ m) (h3 : i < wo.gs.length → wo.gs.getD i 0 ≤ m)
    (he : (i < wx.gs.length ∧ wx.gs.getD i 0 = m) ∨ (i < wy.gs.length ∧ wy.gs.getD i 0 = m) ∨ (i < wo.gs.length ∧ wo.gs.getD i 0 = m)) : gTo wo wx wy i 3 = m := by
  simp only [gTo, stepG]
  split <;> split <;> split <;> omega

theorem MergeOne_c {V : Mem} (A : Option Addr) (n c : Nat) (l : List Int) (h : Cels V [] A (l.map (.int .i64))) (hn : l.length = n) (hc : n ≤ c) (B : Option Addr) (m d : Nat) (x : List Int) (h' : Cels V [] B (x.map (.int .i64))) (hm : x.length = m) (hd : m ≤ d) : CallS Try.prog 5 [.slice A n c, .slice B m d].toArray V [] (fun r L' => r = .bool true ∧ L' = []) := by
  refine callS Try.func5 rfl rfl (fun w0 => ?_)
  refine s_seq ?_
  refine s_region ?_
  refine o_val rfl rfl rfl (y_assign (v := (.bool _)) rfl) ?_
  refine o_nil ?_
  refine s_seq ?_
  refine s_region ?_
  refine o_val rfl rfl rfl (y_move (v := (.slice _ _ _)) rfl) ?_
  refine o_fn 0 (d := 17) rfl Try.call23 (GenW_c A n c l h.here.down hn hc) rfl ?_
  rintro _ _ ⟨w, wG, rfl, hw, hs, rfl⟩
  refine o_alloc rfl Try.zeroValue47 rfl (fun b1 => ?_)
  refine o_stores (vs := [(.slice _ _ _), (.slice _ _ _), (.slice _ _ _)]) 1 rfl Try.sizeOf47 rfl rfl rfl (by simp [Value.oneCell']) (by simp) ?_
  refine o_nil ?_
  refine s_seq ?_
  refine s_region ?_
  refine o_val rfl rfl rfl (y_loads (cs := [_, _, _]) Try.isAgg47 Try.sizeOf47 rfl rfl rfl (cels_own 1 rfl rfl)) ?_
  refine o_val rfl rfl rfl (y_move (v := (.slice _ _ _)) rfl) ?_
  refine o_fn 0 (d := 20) rfl Try.call24 (Changed_c (inG_ext (j := 0) rfl) w hw hs.2.2.2.1 2 (by decide) (fun j hj => by have := hs.2.2.2.2 j hj; omega) (by have := hs.2.1; omega) B m d x h'.here.down hm hd) rfl ?_
  rintro _ _ ⟨a, aG, rfl, ha, hks, haz, hag, hai, hwa, hge, hga, rfl⟩
  refine o_alloc rfl Try.zeroValue47 rfl (fun b2 => ?_)
  refine o_stores (vs := [(.slice _ _ _), (.slice _ _ _), (.slice _ _ _)]) 3 rfl Try.sizeOf47 rfl rfl rfl (by simp [Value.oneCell']) (by simp) ?_
  refine o_nil ?_
  refine s_norm [_, _, [(_, .cells [(.slice _ _ _), (.slice _ _ _), (.slice _ _ _)].toArray 47 (0, 0))], [(_, .cells [(.slice _ _ _), (.slice _ _ _), (.slice _ _ _)].toArray 47 (0, 0))]] rfl ?_
  refine s_seq ?_
  refine s_region ?_
  have hwz := hs.2.2.2.1
  have hwz0 := wErr_zero hwz
  have haz0 := wErr_zero haz
  have hK := hw.1.1
  have hKc := ck_len hwz0.1
  have hgw := hw.2.1.1
  have hgn := ha.2.1.1
  have hil := ha.2.2.1
  have haI : ∀ j ∈ a.its, j.cs.length ≤ 4398046511104 := fun j hj => by have h1 := ha.2.2.2.2.2.2 j hj; have h2 := h1.1; have h3 := h1.2.2.1; omega
  have hwx : w.ks.map KR.d = a.ks.map KR.d := by rw [hks]
  have hte1 : threeErr w a w = 0 := te_zero hwz haz hwz hwx rfl
  have hte2 : threeErr w w a = 0 := te_zero hwz hwz haz rfl hwx
  have hte3 : threeErr w a a = 0 := te_zero hwz haz haz hwx hwx
  have hh : ∀ i j, findI a.its i = some j → heldP a.ks j.cs := fun i j hj => (find_held haz0.2.2.2 hj).2.2.2.2.2
  have hhw : ∀ i j, findI w.its i = some j → heldP a.ks j.cs := fun i j hj => by rw [hks]; exact (find_held hwz0.2.2.2 hj).2.2.2.2.2
  have hKa : a.ks.length ≤ w.kn := by rw [hks]; omega
  have hgi : ∀ i, i < w.gs.length → w.gs.getD i 0 ≤ a.gs.getD i 0 := hge
  have hd1 := one_data (K := w.kn) (wo := w) (wx := a) (wy := w) (a := a) haz0.2.2 (fun i => by unfold mergeAt; exact slotA (ks := a.ks) (hh _) hKa) (N := max (max a.gn w.gn) w.gn) (by omega) (fun i hi => gTo_of (haz0.2.2.1 i hi).1 (fun hj => by first | exact Int.le_refl _ | exact hgi i hj) (fun hj => by first | exact Int.le_refl _ | exact hgi i hj) (fun hj => hgi i hj) (by first | exact .inl ⟨hi, rfl⟩ | exact .inr (.inl ⟨hi, rfl⟩)))
  have hd2 := one_data (K := w.kn) (wo := w) (wx := w) (wy := a) (a := a) haz0.2.2 (fun i => by unfold mergeAt; exact slotB (ks := a.ks) (hhw _) (hh _) hKa) (N := max (max w.gn a.gn) w.gn) (by omega) (fun i hi => gTo_of (haz0.2.2.1 i hi).1 (fun hj => by first | exact Int.le_refl _ | exact hgi i hj) (fun hj => by first | exact Int.le_refl _ | exact hgi i hj) (fun hj => hgi i hj) (by first | exact .inl ⟨hi, rfl⟩ | exact .inr (.inl ⟨hi, rfl⟩)))
  have hd3 := one_data (K := w.kn) (wo := w) (wx := a) (wy := a) (a := a) haz0.2.2 (fun i => by unfold mergeAt; exact slotD (ks := a.ks) (hh _) hKa) (N := max (max a.gn a.gn) w.gn) (by omega) (fun i hi => gTo_of (haz0.2.2.1 i hi).1 (fun hj => by first | exact Int.le_refl _ | exact hgi i hj) (fun hj => by first | exact Int.le_refl _ | exact hgi i hj) (fun hj => hgi i hj) (by first | exact .inl ⟨hi, rfl⟩ | exact .inr (.inl ⟨hi, rfl⟩)))
  refine o_val rfl rfl rfl (y_loads (cs := [_, _, _]) Try.isAgg47 Try.sizeOf47 rfl rfl rfl (cels_own 2 rfl rfl)) ?_
  refine o_val rfl rfl rfl (y_loads (cs := [_, _, _]) Try.isAgg47 Try.sizeOf47 rfl rfl rfl (cels_own 3 rfl rfl)) ?_
  refine o_val rfl rfl rfl (y_loads (cs := [_, _, _]) Try.isAgg47 Try.sizeOf47 rfl rfl rfl (cels_own 2 rfl rfl)) ?_
  refine o_fn 0 (d := 25) rfl Try.call25 (Three_c w a w (hw.sub (inG_ext (j := 1) rfl)) (ha.sub (orM_sub (inG_ext (j := 1) rfl) (inG_ext (j := 0) rfl))) (hw.sub (inG_ext (j := 1) rfl))) rfl ?_
  rintro _ _ (⟨tbad1, rfl, rfl⟩ | ⟨_, tw1, tKE1, tKP1, tGE1, tIE1, tCE1, tVP1, tkl1, tA1, tC1, tE1, rfl, t11, t21, t31, t41, t51, t61, t71, t81, t91, t101, t111, rfl⟩)
  · exact absurd hte1 tbad1
  · refine o_val rfl rfl rfl (y_move (v := (.tuple #[(.agg #[(.slice _ _ _), (.slice _ _ _), (.slice _ _ _)]), (.slice _ _ _), (.int _ _)])) rfl) ?_
    refine o_val rfl rfl rfl (y_extract (v := (.agg #[(.slice _ _ _), (.slice _ _ _), (.slice _ _ _)])) rfl rfl) ?_
    refine o_val rfl rfl rfl (y_extract (v := (.slice _ _ _)) rfl rfl) ?_
    refine o_val rfl rfl rfl (y_extract (v := (.int _ _)) rfl rfl) ?_
    refine o_alloc rfl Try.zeroValue47 rfl (fun b3 => ?_)
    refine o_stores (vs := [(.slice _ _ _), (.slice _ _ _), (.slice _ _ _)]) 11 rfl Try.sizeOf47 rfl rfl rfl (by simp [Value.oneCell']) (by simp) ?_
    refine o_val rfl rfl rfl (y_assign (v := (.slice _ _ _)) rfl) ?_
    refine o_val rfl rfl rfl (y_assign (v := (.int _ _)) rfl) ?_
    refine o_nil ?_
    refine s_forget [(4, (.bool _)), (5, (.pointer _)), (6, (.pointer _)), (7, (.pointer _)), (8, (.slice _ _ _)), (9, (.int _ _))] ⟨rfl, rfl, rfl, rfl, rfl, rfl, trivial⟩ (fun _f => ?_)
    refine s_seq ?_
    refine s_region ?_
    refine o_val rfl rfl rfl (y_loads (cs := [_, _, _]) Try.isAgg47 Try.sizeOf47 rfl rfl rfl (cels_own 9 rfl rfl)) ?_
    refine o_val rfl rfl rfl (y_loads (cs := [_, _, _]) Try.isAgg47 Try.sizeOf47 rfl rfl rfl (cels_own 9 rfl rfl)) ?_
    refine o_val rfl rfl rfl (y_loads (cs := [_, _, _]) Try.isAgg47 Try.sizeOf47 rfl rfl rfl (cels_own 10 rfl rfl)) ?_
    refine o_fn 0 (d := 33) rfl Try.call25 (Three_c w w a (hw.sub (inG_ext (j := 8) rfl)) (hw.sub (inG_ext (j := 8) rfl)) (ha.sub (orM_sub (inG_ext (j := 8) rfl) (inG_ext (j := 7) rfl)))) rfl ?_
    rintro _ _ (⟨tbad2, rfl, rfl⟩ | ⟨_, tw2, tKE2, tKP2, tGE2, tIE2, tCE2, tVP2, tkl2, tA2, tC2, tE2, rfl, t12, t22, t32, t42, t52, t62, t72, t82, t92, t102, t112, rfl⟩)
    · exact absurd hte2 tbad2
    · refine o_val rfl rfl rfl (y_move (v := (.tuple #[(.agg #[(.slice _ _ _), (.slice _ _ _), (.slice _ _ _)]), (.slice _ _ _), (.int _ _)])) rfl) ?_
      refine o_val rfl rfl rfl (y_extract (v := (.agg #[(.slice _ _ _), (.slice _ _ _), (.slice _ _ _)])) rfl rfl) ?_
      refine o_val rfl rfl rfl (y_extract (v := (.slice _ _ _)) rfl rfl) ?_
      refine o_val rfl rfl rfl (y_extract (v := (.int _ _)) rfl rfl) ?_
      refine o_alloc rfl Try.zeroValue47 rfl (fun b4 => ?_)
      refine o_stores (vs := [(.slice _ _ _), (.slice _ _ _), (.slice _ _ _)]) 19 rfl Try.sizeOf47 rfl rfl rfl (by simp [Value.oneCell']) (by simp) ?_
      refine o_val rfl rfl rfl (y_assign (v := (.slice _ _ _)) rfl) ?_
      refine o_val rfl rfl rfl (y_assign (v := (.int _ _)) rfl) ?_
      refine o_nil ?_
      refine s_norm [_, _, _, _, _, _, _, _, _, _, _, _, _, _, _, _, [(_, .cells [(.slice _ _ _), (.slice _ _ _), (.slice _ _ _)].toArray 47 (0, 0))], [(_, .cells [(.slice _ _ _), (.slice _ _ _), (.slice _ _ _)].toArray 47 (0, 0))], [(_, .cells [(.slice _ _ _), (.slice _ _ _), (.slice _ _ _)].toArray 47 (0, 0))], [(_, .cells [(.slice _ _ _), (.slice _ _ _), (.slice _ _ _)].toArray 47 (0, 0))]] rfl ?_
      refine s_seq ?_
      refine s_region ?_
      refine o_val rfl rfl rfl (y_loads (cs := [_, _, _]) Try.isAgg47 Try.sizeOf47 rfl rfl rfl (cels_own 16 rfl rfl)) ?_
      refine o_val rfl rfl rfl (y_loads (cs := [_, _, _]) Try.isAgg47 Try.sizeOf47 rfl rfl rfl (cels_own 17 rfl rfl)) ?_
      refine o_val rfl rfl rfl (y_loads (cs := [_, _, _]) Try.isAgg47 Try.sizeOf47 rfl rfl rfl (cels_own 17 rfl rfl)) ?_
      refine o_fn 0 (d := 41) rfl Try.call25 (Three_c w a a (hw.sub (inG_ext (j := 15) rfl)) (ha.sub (orM_sub (inG_ext (j := 15) rfl) (inG_ext (j := 14) rfl))) (ha.sub (orM_sub (inG_ext (j := 15) rfl) (inG_ext (j := 14) rfl)))) rfl ?_
      rintro _ _ (⟨tbad3, rfl, rfl⟩ | ⟨_, tw3, tKE3, tKP3, tGE3, tIE3, tCE3, tVP3, tkl3, tA3, tC3, tE3, rfl, t13, t23, t33, t43, t53, t63, t73, t83, t93, t103, t113, rfl⟩)
      · exact absurd hte3 tbad3
      · refine o_val rfl rfl rfl (y_move (v := (.tuple #[(.agg #[(.slice _ _ _), (.slice _ _ _), (.slice _ _ _)]), (.slice _ _ _), (.int _ _)])) rfl) ?_
        refine o_val rfl rfl rfl (y_extract (v := (.agg #[(.slice _ _ _), (.slice _ _ _), (.slice _ _ _)])) rfl rfl) ?_
        refine o_val rfl rfl rfl (y_extract (v := (.slice _ _ _)) rfl rfl) ?_
        refine o_val rfl rfl rfl (y_extract (v := (.int _ _)) rfl rfl) ?_
        refine o_alloc rfl Try.zeroValue47 rfl (fun b5 => ?_)
        refine o_stores (vs := [(.slice _ _ _), (.slice _ _ _), (.slice _ _ _)]) 27 rfl Try.sizeOf47 rfl rfl rfl (by simp [Value.oneCell']) (by simp) ?_
        refine o_val rfl rfl rfl (y_assign (v := (.slice _ _ _)) rfl) ?_
        refine o_val rfl rfl rfl (y_assign (v := (.int _ _)) rfl) ?_
        refine o_nil ?_
        refine s_forget [(4, (.bool _)), (6, (.pointer _)), (7, (.pointer _)), (8, (.slice _ _ _)), (9, (.int _ _)), (10, (.pointer _)), (11, (.slice _ _ _)), (12, (.int _ _)), (13, (.pointer _)), (14, (.slice _ _ _)), (15, (.int _ _))] ⟨rfl, rfl, rfl, rfl, rfl, rfl, rfl, rfl, rfl, rfl, rfl, trivial⟩ (fun _f => ?_)
        refine s_seq ?_
        refine s_region ?_
        have hkl1 : tkl1.length = 0 := by rw [t101, hd1.2.2]; rfl
        have e91 := t91.trans hd1.1
        have e81 := t81.trans hd1.2.1
        have hk1 : tw1.ks.length = a.ks.length := by have := congrArg List.length (t71.trans hwx); simpa using this
        have hg1 : tw1.gs.length = a.gs.length := by rw [e81]
        have hi1 : tw1.its.length = a.its.length := by have := congrArg List.length e91; simpa using this
        have hsame1 : tw1.d = a.d := Prod.ext (t71.trans hwx) (Prod.ext e81 e91)
        have hkl2 : tkl2.length = 0 := by rw [t102, hd2.2.2]; rfl
        have e92 := t92.trans hd2.1
        have e82 := t82.trans hd2.2.1
        have hk2 : tw2.ks.length = a.ks.length := by have := congrArg List.length (t72.trans hwx); simpa using this
        have hg2 : tw2.gs.length = a.gs.length := by rw [e82]
        have hi2 : tw2.its.length = a.its.length := by have := congrArg List.length e92; simpa using this
        have hsame2 : tw2.d = a.d := Prod.ext (t72.trans hwx) (Prod.ext e82 e92)
        have hkl3 : tkl3.length = 0 := by rw [t103, hd3.2.2]; rfl
        have e93 := t93.trans hd3.1
        have e83 := t83.trans hd3.2.1
        have hk3 : tw3.ks.length = a.ks.length := by have := congrArg List.length (t73.trans hwx); simpa using this
        have hg3 : tw3.gs.length = a.gs.length := by rw [e83]
        have hi3 : tw3.its.length = a.its.length := by have := congrArg List.length e93; simpa using this
        have hsame3 : tw3.d = a.d := Prod.ext (t73.trans hwx) (Prod.ext e83 e93)
        refine o_fn 0 (d := 45) rfl Try.call34 (merges_c) rfl ?_
        rintro _ _ ⟨rfl, rfl⟩
        refine o_val rfl rfl rfl (y_move (v := (.bool _)) rfl) ?_
        refine o_guard_yes rfl rfl ?_
        refine o_val rfl rfl rfl (y_move (v := (.int _ _)) rfl) ?_
        refine o_guard_yes rfl rfl ?_
        refine o_split rfl rfl rfl (y_eql rfl rfl) (fun p6 => ?_) (fun p7 => ?_)
        · refine o_val rfl rfl rfl (y_pick_t (v := (.bool _)) rfl rfl) ?_
          refine o_val rfl rfl rfl (y_move (v := (.bool _)) rfl) ?_
          refine o_guard_yes rfl rfl ?_
          refine o_val rfl rfl rfl (y_move (v := (.int _ _)) rfl) ?_
          refine o_guard_yes rfl rfl ?_
          refine o_split rfl rfl rfl (y_eql rfl rfl) (fun p8 => ?_) (fun p9 => ?_)
          · refine o_val rfl rfl rfl (y_pick_t (v := (.bool _)) rfl rfl) ?_
            refine o_val rfl rfl rfl (y_move (v := (.bool _)) rfl) ?_
            refine o_guard_yes rfl rfl ?_
            refine o_val rfl rfl rfl (y_move (v := (.int _ _)) rfl) ?_
            refine o_guard_yes rfl rfl ?_
            refine o_split rfl rfl rfl (y_eql rfl rfl) (fun p10 => ?_) (fun p11 => ?_)
            · refine o_val rfl rfl rfl (y_pick_t (v := (.bool _)) rfl rfl) ?_
              refine o_val rfl rfl rfl (y_move (v := (.bool _)) rfl) ?_
              refine o_guard_yes rfl rfl ?_
              refine o_val rfl rfl rfl (y_move (v := (.slice _ _ _)) rfl) ?_
              refine o_guard_yes rfl rfl ?_
              refine o_val rfl rfl rfl (y_len Try.runUnderlying50 rfl) ?_
              refine o_guard_yes rfl rfl ?_
              refine o_val rfl rfl rfl (y_move (v := (.slice _ _ _)) rfl) ?_
              refine o_guard_yes rfl rfl ?_
              refine o_val rfl rfl rfl (y_len Try.runUnderlying50 rfl) ?_
              refine o_guard_yes rfl rfl ?_
              refine o_val rfl rfl rfl (y_add rfl rfl (by simp only [inK]; omega)) ?_
              refine o_guard_yes rfl rfl ?_
              refine o_val rfl rfl rfl (y_move (v := (.slice _ _ _)) rfl) ?_
              refine o_guard_yes rfl rfl ?_
              refine o_val rfl rfl rfl (y_len Try.runUnderlying50 rfl) ?_
              refine o_guard_yes rfl rfl ?_
              refine o_val rfl rfl rfl (y_add rfl rfl (by simp only [inK]; omega)) ?_
              refine o_guard_yes rfl rfl ?_
              refine o_split rfl rfl rfl (y_eql rfl rfl) (fun p12 => ?_) (fun p13 => ?_)
              · refine o_val rfl rfl rfl (y_pick_t (v := (.bool _)) rfl rfl) ?_
                refine o_val rfl rfl rfl (y_move (v := (.bool _)) rfl) ?_
                refine o_guard_yes rfl rfl ?_
                refine o_val rfl rfl rfl (y_loads (cs := [_, _, _]) Try.isAgg47 Try.sizeOf47 rfl rfl rfl (cels_own 25 rfl rfl)) ?_
                refine o_guard_yes rfl rfl ?_
                refine o_val rfl rfl rfl (y_loads (cs := [_, _, _]) Try.isAgg47 Try.sizeOf47 rfl rfl rfl (cels_own 24 rfl rfl)) ?_
                refine o_guard_yes rfl rfl ?_
                refine o_fn 0 (d := 72) rfl Try.call32 (SameW_c tw1 (wok_strong (len_d e91 haI) (by rw [hk1]; omega) (by rw [hg1]; omega) (by rw [hi1]; omega) t11 t21 t31 t41 t51 t61 (inG_ext (j := 14) rfl) (inG_ext (j := 15) rfl) (inG_ext (j := 16) rfl) (inG_ext (j := 17) rfl) (inG_ext (j := 18) rfl) (inG_ext (j := 19) rfl)) a (ha.sub (orM_sub (inG_ext (j := 22) rfl) (inG_ext (j := 21) rfl)))) rfl ?_
                rintro _ _ ⟨rfl, rfl⟩
                refine o_split rfl rfl rfl (y_pick_t (v := (.bool _)) rfl rfl) (fun p14 => ?_) (fun p15 => ?_)
                · refine o_val rfl rfl rfl (y_move (v := (.bool _)) rfl) ?_
                  refine o_guard_yes rfl rfl ?_
                  refine o_val rfl rfl rfl (y_loads (cs := [_, _, _]) Try.isAgg47 Try.sizeOf47 rfl rfl rfl (cels_own 26 rfl rfl)) ?_
                  refine o_guard_yes rfl rfl ?_
                  refine o_val rfl rfl rfl (y_loads (cs := [_, _, _]) Try.isAgg47 Try.sizeOf47 rfl rfl rfl (cels_own 24 rfl rfl)) ?_
                  refine o_guard_yes rfl rfl ?_
                  refine o_fn 0 (d := 77) rfl Try.call32 (SameW_c tw2 (wok_strong (len_d e92 haI) (by rw [hk2]; omega) (by rw [hg2]; omega) (by rw [hi2]; omega) t12 t22 t32 t42 t52 t62 (inG_ext (j := 7) rfl) (inG_ext (j := 8) rfl) (inG_ext (j := 9) rfl) (inG_ext (j := 10) rfl) (inG_ext (j := 11) rfl) (inG_ext (j := 12) rfl)) a (ha.sub (orM_sub (inG_ext (j := 22) rfl) (inG_ext (j := 21) rfl)))) rfl ?_
                  rintro _ _ ⟨rfl, rfl⟩
                  refine o_split rfl rfl rfl (y_pick_t (v := (.bool _)) rfl rfl) (fun p16 => ?_) (fun p17 => ?_)
                  · refine o_val rfl rfl rfl (y_move (v := (.bool _)) rfl) ?_
                    refine o_guard_yes rfl rfl ?_
                    refine o_val rfl rfl rfl (y_loads (cs := [_, _, _]) Try.isAgg47 Try.sizeOf47 rfl rfl rfl (cels_own 27 rfl rfl)) ?_
                    refine o_guard_yes rfl rfl ?_
                    refine o_val rfl rfl rfl (y_loads (cs := [_, _, _]) Try.isAgg47 Try.sizeOf47 rfl rfl rfl (cels_own 24 rfl rfl)) ?_
                    refine o_guard_yes rfl rfl ?_
                    refine o_fn 0 (d := 82) rfl Try.call32 (SameW_c tw3 (wok_strong (len_d e93 haI) (by rw [hk3]; omega) (by rw [hg3]; omega) (by rw [hi3]; omega) t13 t23 t33 t43 t53 t63 (inG_ext (j := 0) rfl) (inG_ext (j := 1) rfl) (inG_ext (j := 2) rfl) (inG_ext (j := 3) rfl) (inG_ext (j := 4) rfl) (inG_ext (j := 5) rfl)) a (ha.sub (orM_sub (inG_ext (j := 22) rfl) (inG_ext (j := 21) rfl)))) rfl ?_
                    rintro _ _ ⟨rfl, rfl⟩
                    refine o_val rfl rfl rfl (y_pick_t (v := (.bool _)) rfl rfl) ?_
                    refine o_val rfl rfl rfl (y_assign (v := (.bool _)) rfl) ?_
                    refine o_nil ?_
                    refine s_forget [(4, (.bool _))] ⟨rfl, trivial⟩ (fun _f => ?_)
                    refine s_ret ?_
                    exact ⟨_, [], res1 rfl rfl, ⟨congrArg Value.bool (decide_eq_true hsame3), rfl⟩, sub_picks [] rfl⟩
                  · exact absurd hsame2 p17
                · exact absurd hsame1 p15
              · exact absurd (by omega) p13
            · exact absurd rfl p11
          · exact absurd rfl p9
        · exact absurd rfl p7

end Go.Proofs.Ytacmbiohjiogiaa.K

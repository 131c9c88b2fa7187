/- Walks over the package tourmake: components and worlds. No condition beyond what each statement names. -/
import Derived.Test.YtacmbiohjiogiaaProg
import Derived.Test.YtacmbiohjiogiaaK17
import Derived.Test.YtacmbiohjiogiaaM1
import Derived.Test.YtacmbiohjiogiaaM2
import Derived.Test.YtacmbiohjiogiaaW1
import Derived.Test.YtacmbiohjiogiaaW2
import Derived.Test.YtacmbiohjiogiaaW3
import Derived.Test.YtacmbiohjiogiaaW5
import Derived.Test.YtacmbiohjiogiaaW6
set_option linter.unusedVariables false
set_option linter.unusedSimpArgs false
set_option maxRecDepth 100000
set_option maxHeartbeats 1000000
namespace Go.Proofs.Ytacmbiohjiogiaa.K
open Go.RowKit

theorem chTo_one {ks : List KR} : ∀ {n : Nat}, chTo ks n = 0 → ∀ j, j < n → oneErr (ks.getD j default) = 0
  | 0, _, j, hj => absurd hj (Nat.not_lt_zero j)
  | n + 1, h, j, hj => by
    simp only [chTo] at h
    split at h
    · rename_i h1; exact absurd h h1
    · rename_i h1
      split at h
      · rename_i h2; exact absurd h h2
      · rename_i h2
        by_cases e : j = n
        · rw [e]; exact Decidable.not_not.1 h2
        · exact chTo_one (Decidable.not_not.1 h1) j (by omega)
theorem ck_one {ks : List KR} (h : ckErr ks = 0) {j : Nat} (hj : j < ks.length) : oneErr (ks.getD j default) = 0 := by
  unfold ckErr at h
  split at h
  · cases h
  · exact chTo_one h j hj
theorem ck_len {ks : List KR} (h : ckErr ks = 0) : ks.length ≤ 16 := by
  unfold ckErr at h
  split at h
  · cases h
  · omega
theorem one_field {k : KR} (h : oneErr k = 0) {j : Nat} (hj : j < k.fs.length) : fOK (k.fs.getD j default) := oneTo_fields (oneErr_zero h).2.2 j hj
/-- Values that fit are the values of a kind. -/
theorem holds_of {k : KR} {vs : List Int} (h : oneErr k = 0) (hl : vs.length = k.fs.length) (hv : ∀ j, j < k.fs.length → fitsV (k.fs.getD j default) (vs.getD j 0)) : holdsV k vs := by
  refine ⟨by unfold fitErr; rw [if_neg (fun hh => hh h), if_neg (by omega)], ext_getD (by rw [fitV_len hl, hl]) fun j hj => ?_⟩
  rw [fitV_len hl] at hj
  rw [fitV_get hl hj]
  exact (nearV_eq (one_field h hj)).2 (hv j hj)
theorem holds_fits {k : KR} {vs : List Int} (h : holdsV k vs) : oneErr k = 0 ∧ vs.length = k.fs.length ∧ ∀ j, j < k.fs.length → fitsV (k.fs.getD j default) (vs.getD j 0) := by
  obtain ⟨h1, h2⟩ := h
  unfold fitErr at h1
  split at h1
  · rename_i hh; exact absurd h1 hh
  · rename_i hh
    split at h1
    · cases h1
    · rename_i hl
      have hl : vs.length = k.fs.length := Decidable.not_not.1 hl
      have ho : oneErr k = 0 := Decidable.not_not.1 hh
      refine ⟨ho, hl, fun j hj => ?_⟩
      have := fitV_get hl hj
      rw [h2] at this
      exact (nearV_eq (one_field ho hj)).1 this.symm
theorem held_snoc {ks : List KR} {cs : List CR} {c : CR} (h : heldP ks cs) (hc : goodC ks (lastC cs cs.length) c) : heldP ks (cs ++ [c]) := by
  have hlast : ∀ j, j ≤ cs.length → lastC (cs ++ [c]) j = lastC cs j := fun j hj => by
    cases j with
    | zero => rfl
    | succ j => simp only [lastC]; rw [getD_snoc (by omega), if_neg (by omega)]
  intro j hj
  rw [List.length_append, List.length_singleton] at hj
  rw [hlast j (by omega), getD_snoc hj]
  by_cases e : j = cs.length
  · rw [if_pos e, e]; exact hc
  · rw [if_neg e]; exact h j (by omega)
theorem lastC_lt {cs : List CR} {i : Int} (h : ∀ x ∈ cs, x.kind < i) (hi : 0 ≤ i) : lastC cs cs.length < i := by
  cases hcs : cs.length with
  | zero => simp only [lastC]; omega
  | succ n => simp only [lastC]; exact h _ (getD_mem' (by omega))
structure LG7 where
  i : Nat
  cs : List CR
  B : Option Addr
  c : Nat
  E : Grp
  P : Grp
  S : Grp
structure LF7 where
  vs : List Int
  A : Option Addr
  c : Nat
  E : Grp
  S : Grp
theorem fits_snoc {fs : List FR} {vs : List Int} {v : Int} (h : ∀ j, j < vs.length → fitsV (fs.getD j default) (vs.getD j 0)) (hv : fitsV (fs.getD vs.length default) v) : ∀ j, j < (vs ++ [v]).length → fitsV (fs.getD j default) ((vs ++ [v]).getD j 0) := fun j hj => by
  rw [List.length_append, List.length_singleton] at hj
  rw [getD_snoc hj]
  by_cases e : j = vs.length
  · rw [if_pos e, e]; exact hv
  · rw [if_neg e]; exact h j (by omega)
theorem fits_low {f : FR} (h : fOK f) {k : Int} (h0 : 0 ≤ k) (h1 : k < 2 ^ f.bits.toNat) : fitsV f (f.low + k) := by
  unfold fitsV highV; rw [if_pos h]; omega

theorem GenC_k0 (v0 : Int) (w : World) : (Instr.build 155 ([(0, (.int .i64 v0))] : List (Nat × Value)).toArray).run Try.prog w = .ok (.agg #[.int .i64 v0, .slice none 0 0]) w := by kernel_rfl
theorem GenC_k1 (v0 : Int) (w : World) : (Instr.buildSlice 22 1 ([(0, (.int .i64 v0))] : List (Nat × Value)).toArray).run Try.prog w = .ok (.slice (some ⟨w.heap.size, 0, none⟩) 1 1) { w with heap := w.heap.push (.cells ([.int .i64 v0] : List Value).toArray 3 (0, 0)) } := by kernel_rfl
theorem GenC_k2 (v0x0 : Int) (v0x1A : Option Addr) (v0x1n : Nat) (v0x1c : Nat) (w : World) : (Instr.buildSlice 33 1 ([(0, (.agg #[(.int .i64 v0x0), (.slice v0x1A v0x1n v0x1c)]))] : List (Nat × Value)).toArray).run Try.prog w = .ok (.slice (some ⟨w.heap.size, 0, none⟩) 1 1) { w with heap := w.heap.push (.cells ([.int .i64 v0x0, .slice v0x1A v0x1n v0x1c] : List Value).toArray 155 (0, 0)) } := by kernel_rfl
theorem GenC_c {V V0 : Mem} {sb : Nat} {G : Grp} (hst : Strm V0 sb G) (hm0 : MSub V0 V) (A : Option Addr) (n c : Nat) (ks : List KR) (hks : KsOK V A n c ks) (hck : ckErr ks = 0) : CallS Try.prog 92 [.slice A n c, .pointer (some ⟨sb, 0, none⟩)].toArray V [G] (fun r L' => ∃ (B : Option Addr) (c : Nat) (E P S : Grp) (cs : List CR), r = .slice B cs.length c ∧ OS B cs.length c 155 2 ((cs).flatMap encC) E ∧ (∀ x ∈ cs, COK (inG P) x) ∧ heldP ks cs ∧ cs.length ≤ 16 ∧ Strm V0 sb S ∧ L' = [S, E, P]) := by
  have hk16 := ck_len hck
  obtain ⟨hKl, hKc, hKb, hK, hKK⟩ := hks
  refine callS Try.func92 rfl rfl (fun w0 => ?_)
  refine s_seq ?_
  refine s_region ?_
  refine o_val rfl rfl rfl (y_assign (v := (.slice _ _ _)) rfl) ?_
  refine o_nil ?_
  refine s_seq ?_
  refine s_region ?_
  refine o_val rfl rfl rfl (y_assign (v := (.slice _ _ _)) rfl) ?_
  refine o_nil ?_
  refine s_seq ?_
  refine s_seq ?_
  refine s_region ?_
  refine o_val rfl rfl rfl (y_move (v := (.slice _ _ _)) rfl) ?_
  refine o_val rfl rfl rfl (y_len Try.runUnderlying23 rfl) ?_
  refine o_val rfl rfl rfl (y_move (v := (.int _ _)) rfl) ?_
  refine o_nil ?_
  refine s_block ?_
  refine s_group ?_
  refine s_group ?_
  refine s_loopK (γ := LG7) [(1, (.pointer _)), (4, (.slice _ _ _)), (11, (.slice _ _ _)), (12, (.int _ _))] [] (fun g => [(5, .slice g.B g.cs.length g.c), (13, .int .i64 g.i)]) (fun g => [g.S, g.E, g.P]) (fun g => g.i ≤ n ∧ OS g.B g.cs.length g.c 155 2 ((g.cs).flatMap encC) g.E ∧ (∀ x ∈ g.cs, COK (inG g.P) x) ∧ heldP ks g.cs ∧ (∀ x ∈ g.cs, x.kind < g.i) ∧ g.cs.length ≤ g.i ∧ Strm V0 sb g.S) (fun g => n - g.i) (LG7.mk 0 [] none 0 [] [] G) ⟨rfl, rfl, rfl, rfl, rfl, rfl, trivial⟩ (sub_picks [0, 0, 0] rfl) ?_ ?_
  · exact ⟨Nat.zero_le _, OS.nil _ _, fun x hx => absurd hx List.not_mem_nil, fun j hj => absurd hj (Nat.not_lt_zero j), fun x hx => absurd hx List.not_mem_nil, Nat.zero_le _, hst⟩
  intro g _f hI
  refine s_norm _ (by simp only [pull, picks, setG, List.cons_append, List.nil_append, List.append_nil, List.drop_succ_cons, List.drop_zero]; rfl) ?_
  obtain ⟨hgi, hxo, hxc, hxh, hxk, hxl, hst1⟩ := hI
  refine s_seq ?_
  refine s_region ?_
  refine o_val rfl rfl rfl (y_lss rfl rfl) ?_
  refine o_nil ?_
  refine s_seq ?_
  refine s_if rfl (fun h1 => ?_) (fun h2 => ?_)
  · refine s_skip ?_
    refine s_seq ?_
    refine s_block ?_
    refine s_seq ?_
    refine s_region ?_
    refine o_val rfl rfl rfl (y_move (v := (.int _ _)) rfl) ?_
    refine o_val rfl rfl rfl (y_indexAddr Try.runUnderlying23 Try.sizeOf58 (some_at (sz := 1) encK_len (i := 0) hK (by omega)) rfl rfl (by omega)) ?_
    refine o_val rfl rfl rfl (y_loads (cs := [_, _]) Try.isAgg58 Try.sizeOf58 rfl (by unfold idx; rw [Option.isSome_map]; exact some_at (sz := 1) encK_len (i := 0) hK (by omega)) rfl (cels_at (sz := 2) encK_len hK.here (by omega))) ?_
    have hkk := hKK _ (getD_mem' (show g.i < ks.length by omega) : (ks.getD ((g.i : Nat) : Int).toNat default) ∈ ks)
    have hone : oneErr (ks.getD ((g.i : Nat) : Int).toNat default) = 0 := ck_one hck (j := g.i) (by omega)
    have hfl := hkk.1
    have hfb := hkk.2.2.1
    refine o_alloc rfl Try.zeroValue58 rfl (fun b3 => ?_)
    refine o_val rfl rfl rfl (y_assign (v := (.int _ _)) rfl) ?_
    refine o_stores (vs := [(.string _), (.slice _ _ _)]) 3 rfl Try.sizeOf58 rfl rfl rfl (by simp [Value.oneCell']) (by simp) ?_
    refine o_nil ?_
    refine s_seq ?_
    refine s_seq ?_
    refine s_region ?_
    refine o_val rfl rfl rfl (y_move (v := (.pointer _)) rfl) ?_
    refine o_fn 1 (d := 19) rfl Try.call87 (NextS_c hst1 (hm0 := (hm0.trans MSub.ext)) 3 (by omega)) rfl ?_
    rintro _ _ ⟨k3, sG', rfl, hk30, hk31, hst1, rfl⟩
    refine o_val rfl rfl rfl (y_eql rfl rfl) ?_
    refine o_nil ?_
    refine s_if rfl (fun h4 => ?_) (fun h5 => ?_)
    · refine s_exit ?_
      refine s_region ?_
      refine o_val rfl rfl rfl (y_add rfl rfl (by simp only [inK]; omega)) ?_
      refine o_val rfl rfl rfl (y_move (v := (.int _ _)) rfl) ?_
      refine o_nil ?_
      exact ⟨LG7.mk (g.i + 1) g.cs g.B g.c g.E g.P sG', (by first | omega | (dsimp only; omega)), ⟨by dsimp only; omega, hxo, hxc, hxh, fun x hx => by have := hxk x hx; dsimp only; omega, by dsimp only; omega, hst1⟩, ⟨rfl, (congrArg (Value.int .i64) (by (try dsimp only); omega)), rfl, rfl, rfl, rfl, trivial⟩, (sub_picks [0, 0, 0] rfl)⟩
    · refine s_skip ?_
      refine s_seq ?_
      refine s_region ?_
      refine o_val rfl rfl rfl (y_move (v := (.int _ _)) rfl) ?_
      refine o_val rfl rfl rfl (y_build (vs := [(0, .int _ _)]) rfl (GenC_k0 _)) ?_
      refine o_alloc rfl Try.zeroValue155 rfl (fun b6 => ?_)
      refine o_stores (vs := [(.int _ _), (.slice _ _ _)]) 4 rfl Try.sizeOf155 rfl rfl rfl (by simp [Value.oneCell']) (by simp) ?_
      refine o_nil ?_
      refine s_norm [_, _, _, [(_, .cells [(.string _), (.slice _ _ _)].toArray 58 (0, 0))], [(_, .cells [(.int _ _), (.slice _ _ _)].toArray 155 (0, 0))]] rfl ?_
      refine s_seq ?_
      refine s_seq ?_
      refine s_region ?_
      refine o_val rfl rfl rfl (y_field0 Try.runUnderlying58 rfl Try.sizeOf56 rfl rfl) ?_
      refine o_val rfl rfl rfl (y_load Try.isAgg56 rfl (cel_own 3 rfl rfl)) ?_
      refine o_val rfl rfl rfl (y_len Try.runUnderlying56 rfl) ?_
      refine o_val rfl rfl rfl (y_move (v := (.int _ _)) rfl) ?_
      refine o_nil ?_
      refine s_block ?_
      refine s_group ?_
      refine s_loopK (γ := LF7) [(1, (.pointer _)), (4, (.slice _ _ _)), (5, (.slice _ _ _)), (8, (.pointer _)), (11, (.slice _ _ _)), (12, (.int _ _)), (13, (.int _ _)), (24, (.slice _ _ _)), (25, (.int _ _))] [_, _] (fun u => [(26, .int .i64 u.vs.length)]) (fun u => [u.S, u.E, [(b6, .cells [.int .i64 ((g.i : Nat) : Int), .slice u.A u.vs.length u.c].toArray 155 (0, 0))]]) (fun u => u.vs.length ≤ (ks.getD ((g.i : Nat) : Int).toNat default).n ∧ OS u.A u.vs.length u.c 3 1 ((u.vs).map (.int .i64)) u.E ∧ (∀ j, j < u.vs.length → fitsV ((ks.getD ((g.i : Nat) : Int).toNat default).fs.getD j default) (u.vs.getD j 0)) ∧ Strm V0 sb u.S) (fun u => (ks.getD ((g.i : Nat) : Int).toNat default).n - u.vs.length) (LF7.mk [] none 0 [] sG') ⟨rfl, rfl, rfl, rfl, rfl, rfl, rfl, rfl, rfl, rfl, trivial⟩ (sub_picks [0, 4, 3, 0, 0] rfl) ?_ ?_
      · exact ⟨Nat.zero_le _, OS.nil _ _, fun j hj => absurd hj (Nat.not_lt_zero j), hst1⟩
      intro u _f hJ
      refine s_norm _ (by simp only [pull, picks, setG, List.cons_append, List.nil_append, List.append_nil, List.drop_succ_cons, List.drop_zero]; rfl) ?_
      obtain ⟨hul, hvo, hfit, hst1⟩ := hJ
      refine s_seq ?_
      refine s_region ?_
      refine o_val rfl rfl rfl (y_lss rfl rfl) ?_
      refine o_nil ?_
      refine s_seq ?_
      refine s_if rfl (fun h7 => ?_) (fun h8 => ?_)
      · refine s_skip ?_
        refine s_seq ?_
        refine s_block ?_
        refine s_seq ?_
        refine s_region ?_
        refine o_val rfl rfl rfl (y_indexAddr Try.runUnderlying56 Try.sizeOf61 (some_at (sz := 2) encF_len (i := 0) hkk.2.2.2 (by omega)) rfl rfl (by omega)) ?_
        refine o_val rfl rfl rfl (y_loads (cs := [_, _, _]) Try.isAgg61 Try.sizeOf61 rfl (by unfold idx; rw [Option.isSome_map]; exact some_at (sz := 2) encF_len (i := 0) hkk.2.2.2 (by omega)) rfl (cels_at (sz := 3) encF_len hkk.2.2.2.here (by omega))) ?_
        refine o_alloc rfl Try.zeroValue61 rfl (fun b9 => ?_)
        refine o_stores (vs := [(.string _), (.int _ _), (.int _ _)]) 5 rfl Try.sizeOf61 rfl rfl rfl (by simp [Value.oneCell']) (by simp) ?_
        refine o_nil ?_
        refine s_pull 2 ?_
        refine s_pull 2 ?_
        refine s_pull 2 ?_
        refine s_drawn 3 (by kernel_rfl) ?_
        refine d_val (i := 0) rfl (by kernel_rfl) (by kernel_rfl) (by kernel_rfl) rfl rfl rfl (y_field0 Try.runUnderlying155 rfl Try.sizeOf22 rfl rfl) ?_
        have hfok : fOK ((ks.getD ((g.i : Nat) : Int).toNat default).fs.getD ((u.vs.length : Nat) : Int).toNat default) := one_field hone (by omega)
        have hp := pow_bd ⟨hfok.2.1, hfok.2.2.1⟩
        have hlo := hfok.2.2.2
        refine d_val (i := 2) rfl (by kernel_rfl) (by kernel_rfl) (by kernel_rfl) rfl rfl rfl (y_field0 Try.runUnderlying61 rfl Try.sizeOf3 rfl rfl) ?_
        refine d_val (i := 3) rfl (by kernel_rfl) (by kernel_rfl) (by kernel_rfl) rfl rfl rfl (y_load Try.isAgg3 rfl (cel_own 2 rfl rfl)) ?_
        refine d_val (i := 4) rfl (by kernel_rfl) (by kernel_rfl) (by kernel_rfl) rfl rfl rfl (y_move (v := (.pointer _)) rfl) ?_
        refine d_val (i := 5) rfl (by kernel_rfl) (by kernel_rfl) (by kernel_rfl) rfl rfl rfl (y_field0 Try.runUnderlying61 rfl Try.sizeOf3 rfl rfl) ?_
        refine d_val (i := 6) rfl (by kernel_rfl) (by kernel_rfl) (by kernel_rfl) rfl rfl rfl (y_load Try.isAgg3 rfl (cel_own 2 rfl rfl)) ?_
        refine d_val (i := 7) rfl (by kernel_rfl) (by kernel_rfl) (by kernel_rfl) rfl rfl rfl ((y_shl rfl rfl (by have := hfok.2.1; omega)).int (pow_bits ⟨hfok.2.1, hfok.2.2.1⟩)) ?_
        refine d_eff2 (k := 1) (k' := 8) (n := 3) (m := 3) rfl rfl (by kernel_rfl) rfl ?_ ?_
        · refine o_val rfl rfl rfl (y_load Try.isAgg22 rfl (cel_own 2 rfl rfl)) ?_
          refine o_nil ?_
          refine d_eff (k := 8) (n := 3) (m := 3) rfl (by kernel_rfl) rfl ?_
          refine o_fn 1 (d := 38) rfl Try.call87 (NextS_c hst1 (hm0 := (hm0.trans MSub.ext)) _ (by omega)) rfl ?_
          rintro _ _ ⟨kv, sG', rfl, hkv0, hkv1, hst1, rfl⟩
          refine o_nil ?_
          refine d_val (i := 9) rfl (by kernel_rfl) (by kernel_rfl) (by kernel_rfl) rfl rfl rfl (y_add rfl rfl (by have := hkv1 (by omega); simp only [inK]; omega)) ?_
          refine d_eff (k := 10) (n := 3) (m := 3) rfl (by kernel_rfl) rfl ?_
          refine o_lit (vs := [(0, .int _ _)]) rfl rfl (GenC_k1 _) (fun b10 => ?_)
          refine o_nil ?_
          refine d_eff (k := 11) (n := 3) (m := 3) rfl (by kernel_rfl) rfl ?_
          refine o_append (sz := 1) (bytes := 8) (news := [(.int _ _)]) 1 rfl Try.underlying22 Try.type3 rfl rfl rfl rfl rfl hvo rfl rfl (Src.slice Try.underlying22 (cels_own 6 rfl rfl) rfl (by simp [Value.oneCell']) (by simp)) (by omega) (fun A11 c12 E13 ho14 hn15 => ?_)
          have ho16 : OS A11 (u.vs.length + 1) c12 3 1 ((u.vs ++ [((ks.getD ((g.i : Nat) : Int).toNat default).fs.getD ((u.vs.length : Nat) : Int).toNat default).low + kv]).map (.int .i64)) E13 := (os_eq ho14 (by rw [List.map_append]; rfl))
          clear ho14
          refine o_nil ?_
          refine d_val (i := 12) rfl (by kernel_rfl) (by kernel_rfl) (by kernel_rfl) rfl rfl rfl (y_field0 Try.runUnderlying155 rfl Try.sizeOf22 rfl rfl) ?_
          refine d_eff (k := 13) (n := 3) (m := 3) rfl (by kernel_rfl) rfl ?_
          refine o_store (v := (.slice _ _ _)) 2 rfl Try.sizeOf22 rfl rfl rfl rfl ?_
          refine o_nil ?_
          refine d_nil (n := 3) (m := 3) (by kernel_rfl) rfl ?_
          refine s_norm [_, _, [(_, .cells [(.int _ _), (.slice _ _ _)].toArray 155 (0, 0))], _, _, [(_, .cells [(.string _), (.int _ _), (.int _ _)].toArray 61 (0, 0))], [(_, .cells [(.int _ _)].toArray 3 (0, 0))]] rfl ?_
          refine s_forget [(1, (.pointer _)), (4, (.slice _ _ _)), (5, (.slice _ _ _)), (8, (.pointer _)), (11, (.slice _ _ _)), (12, (.int _ _)), (13, (.int _ _)), (24, (.slice _ _ _)), (25, (.int _ _)), (26, (.int _ _))] ⟨rfl, rfl, rfl, rfl, rfl, rfl, rfl, rfl, rfl, rfl, trivial⟩ (fun _f => ?_)
          refine s_region ?_
          refine o_val rfl rfl rfl (y_add rfl rfl (by simp only [inK]; omega)) ?_
          refine o_val rfl rfl rfl (y_move (v := (.int _ _)) rfl) ?_
          refine o_nil ?_
          exact ⟨LF7.mk (u.vs ++ [((ks.getD ((g.i : Nat) : Int).toNat default).fs.getD ((u.vs.length : Nat) : Int).toNat default).low + kv]) A11 c12 E13 sG', (by simp only [List.length_append, List.length_singleton]; omega), ⟨by simp only [List.length_append, List.length_singleton]; omega, by dsimp only; rw [List.length_append]; exact ho16, fits_snoc hfit (fits_low hfok hkv0 (hkv1 (by omega))), hst1⟩, ⟨(congrArg (Value.int .i64) (by simp only [List.length_append, List.length_singleton]; omega)), rfl, rfl, rfl, rfl, rfl, rfl, rfl, rfl, rfl, trivial⟩, (by dsimp only; rw [List.length_append]; exact sub_picks [0, 0, 0, 0, 0] rfl)⟩
        · refine o_fn 1 (d := 38) rfl Try.call87 (NextS_c hst1 (hm0 := (hm0.trans MSub.ext)) _ (by omega)) rfl ?_
          rintro _ _ ⟨kv, sG', rfl, hkv0, hkv1, hst1, rfl⟩
          refine o_nil ?_
          refine d_val (i := 9) rfl (by kernel_rfl) (by kernel_rfl) (by kernel_rfl) rfl rfl rfl (y_add rfl rfl (by have := hkv1 (by omega); simp only [inK]; omega)) ?_
          refine d_eff2 (k := 1) (k' := 10) (n := 3) (m := 3) rfl rfl (by kernel_rfl) rfl ?_ ?_
          · refine o_val rfl rfl rfl (y_load Try.isAgg22 rfl (cel_own 2 rfl rfl)) ?_
            refine o_nil ?_
            refine d_eff (k := 10) (n := 3) (m := 3) rfl (by kernel_rfl) rfl ?_
            refine o_lit (vs := [(0, .int _ _)]) rfl rfl (GenC_k1 _) (fun b17 => ?_)
            refine o_nil ?_
            refine d_eff (k := 11) (n := 3) (m := 3) rfl (by kernel_rfl) rfl ?_
            refine o_append (sz := 1) (bytes := 8) (news := [(.int _ _)]) 1 rfl Try.underlying22 Try.type3 rfl rfl rfl rfl rfl hvo rfl rfl (Src.slice Try.underlying22 (cels_own 6 rfl rfl) rfl (by simp [Value.oneCell']) (by simp)) (by omega) (fun A18 c19 E20 ho21 hn22 => ?_)
            have ho23 : OS A18 (u.vs.length + 1) c19 3 1 ((u.vs ++ [((ks.getD ((g.i : Nat) : Int).toNat default).fs.getD ((u.vs.length : Nat) : Int).toNat default).low + kv]).map (.int .i64)) E20 := (os_eq ho21 (by rw [List.map_append]; rfl))
            clear ho21
            refine o_nil ?_
            refine d_val (i := 12) rfl (by kernel_rfl) (by kernel_rfl) (by kernel_rfl) rfl rfl rfl (y_field0 Try.runUnderlying155 rfl Try.sizeOf22 rfl rfl) ?_
            refine d_eff (k := 13) (n := 3) (m := 3) rfl (by kernel_rfl) rfl ?_
            refine o_store (v := (.slice _ _ _)) 2 rfl Try.sizeOf22 rfl rfl rfl rfl ?_
            refine o_nil ?_
            refine d_nil (n := 3) (m := 3) (by kernel_rfl) rfl ?_
            refine s_norm [_, _, [(_, .cells [(.int _ _), (.slice _ _ _)].toArray 155 (0, 0))], _, _, [(_, .cells [(.string _), (.int _ _), (.int _ _)].toArray 61 (0, 0))], [(_, .cells [(.int _ _)].toArray 3 (0, 0))]] rfl ?_
            refine s_forget [(1, (.pointer _)), (4, (.slice _ _ _)), (5, (.slice _ _ _)), (8, (.pointer _)), (11, (.slice _ _ _)), (12, (.int _ _)), (13, (.int _ _)), (24, (.slice _ _ _)), (25, (.int _ _)), (26, (.int _ _))] ⟨rfl, rfl, rfl, rfl, rfl, rfl, rfl, rfl, rfl, rfl, trivial⟩ (fun _f => ?_)
            refine s_region ?_
            refine o_val rfl rfl rfl (y_add rfl rfl (by simp only [inK]; omega)) ?_
            refine o_val rfl rfl rfl (y_move (v := (.int _ _)) rfl) ?_
            refine o_nil ?_
            exact ⟨LF7.mk (u.vs ++ [((ks.getD ((g.i : Nat) : Int).toNat default).fs.getD ((u.vs.length : Nat) : Int).toNat default).low + kv]) A18 c19 E20 sG', (by simp only [List.length_append, List.length_singleton]; omega), ⟨by simp only [List.length_append, List.length_singleton]; omega, by dsimp only; rw [List.length_append]; exact ho23, fits_snoc hfit (fits_low hfok hkv0 (hkv1 (by omega))), hst1⟩, ⟨(congrArg (Value.int .i64) (by simp only [List.length_append, List.length_singleton]; omega)), rfl, rfl, rfl, rfl, rfl, rfl, rfl, rfl, rfl, trivial⟩, (by dsimp only; rw [List.length_append]; exact sub_picks [0, 0, 0, 0, 0] rfl)⟩
          · refine o_lit (vs := [(0, .int _ _)]) rfl rfl (GenC_k1 _) (fun b24 => ?_)
            refine o_nil ?_
            refine d_now (i := 1) [] rfl (by kernel_rfl) (by kernel_rfl) (by kernel_rfl) rfl rfl rfl (y_load Try.isAgg22 rfl (cel_own 2 rfl rfl)) trivial ?_
            refine d_eff (k := 11) (n := 3) (m := 3) rfl (by kernel_rfl) rfl ?_
            refine o_append (sz := 1) (bytes := 8) (news := [(.int _ _)]) 1 rfl Try.underlying22 Try.type3 rfl rfl rfl rfl rfl hvo rfl rfl (Src.slice Try.underlying22 (cels_own 6 rfl rfl) rfl (by simp [Value.oneCell']) (by simp)) (by omega) (fun A25 c26 E27 ho28 hn29 => ?_)
            have ho30 : OS A25 (u.vs.length + 1) c26 3 1 ((u.vs ++ [((ks.getD ((g.i : Nat) : Int).toNat default).fs.getD ((u.vs.length : Nat) : Int).toNat default).low + kv]).map (.int .i64)) E27 := (os_eq ho28 (by rw [List.map_append]; rfl))
            clear ho28
            refine o_nil ?_
            refine d_val (i := 12) rfl (by kernel_rfl) (by kernel_rfl) (by kernel_rfl) rfl rfl rfl (y_field0 Try.runUnderlying155 rfl Try.sizeOf22 rfl rfl) ?_
            refine d_eff (k := 13) (n := 3) (m := 3) rfl (by kernel_rfl) rfl ?_
            refine o_store (v := (.slice _ _ _)) 2 rfl Try.sizeOf22 rfl rfl rfl rfl ?_
            refine o_nil ?_
            refine d_nil (n := 3) (m := 3) (by kernel_rfl) rfl ?_
            refine s_norm [_, _, [(_, .cells [(.int _ _), (.slice _ _ _)].toArray 155 (0, 0))], _, _, [(_, .cells [(.string _), (.int _ _), (.int _ _)].toArray 61 (0, 0))], [(_, .cells [(.int _ _)].toArray 3 (0, 0))]] rfl ?_
            refine s_forget [(1, (.pointer _)), (4, (.slice _ _ _)), (5, (.slice _ _ _)), (8, (.pointer _)), (11, (.slice _ _ _)), (12, (.int _ _)), (13, (.int _ _)), (24, (.slice _ _ _)), (25, (.int _ _)), (26, (.int _ _))] ⟨rfl, rfl, rfl, rfl, rfl, rfl, rfl, rfl, rfl, rfl, trivial⟩ (fun _f => ?_)
            refine s_region ?_
            refine o_val rfl rfl rfl (y_add rfl rfl (by simp only [inK]; omega)) ?_
            refine o_val rfl rfl rfl (y_move (v := (.int _ _)) rfl) ?_
            refine o_nil ?_
            exact ⟨LF7.mk (u.vs ++ [((ks.getD ((g.i : Nat) : Int).toNat default).fs.getD ((u.vs.length : Nat) : Int).toNat default).low + kv]) A25 c26 E27 sG', (by simp only [List.length_append, List.length_singleton]; omega), ⟨by simp only [List.length_append, List.length_singleton]; omega, by dsimp only; rw [List.length_append]; exact ho30, fits_snoc hfit (fits_low hfok hkv0 (hkv1 (by omega))), hst1⟩, ⟨(congrArg (Value.int .i64) (by simp only [List.length_append, List.length_singleton]; omega)), rfl, rfl, rfl, rfl, rfl, rfl, rfl, rfl, rfl, trivial⟩, (by dsimp only; rw [List.length_append]; exact sub_picks [0, 0, 0, 0, 0] rfl)⟩
      · refine s_exit ?_
        refine s_region ?_
        refine o_val rfl rfl rfl (y_move (v := (.slice _ _ _)) rfl) ?_
        refine o_val rfl rfl rfl (y_loads (cs := [_, _]) Try.isAgg155 Try.sizeOf155 rfl rfl rfl (cels_own 2 rfl rfl)) ?_
        refine o_lit (vs := [(0, .agg #[.int _ _, .slice _ _ _])]) rfl rfl (GenC_k2 _ _ _ _) (fun b31 => ?_)
        refine o_append (sz := 2) (bytes := 32) (news := [(.int _ _), (.slice _ _ _)]) 3 rfl Try.underlying33 Try.type155 rfl rfl rfl rfl rfl hxo rfl rfl (Src.slice Try.underlying33 (cels_own 5 rfl rfl) rfl (by simp [Value.oneCell']) (by simp)) (by omega) (fun A32 c33 E34 ho35 hn36 => ?_)
        have ho37 : OS A32 (g.cs.length + 1) c33 155 2 ((g.cs ++ [(newC ((g.i : Nat) : Int) u.A u.vs.length u.c u.vs)]).flatMap encC) E34 := os_snoc ho35 rfl
        clear ho35
        refine o_pull 4 ?_
        refine o_pull 2 ?_
        refine o_fuse ?_
        refine o_val rfl rfl rfl (y_assign (v := (.slice _ _ _)) rfl) ?_
        refine o_nil ?_
        refine s_norm [_, _, [(_, .cells [(.int _ _), (.slice _ _ _)].toArray 155 (0, 0))], _, [(_, .cells [(.int _ _), (.slice _ _ _)].toArray 155 (0, 0))]] rfl ?_
        refine s_forget [(1, (.pointer _)), (4, (.slice _ _ _)), (5, (.slice _ _ _)), (11, (.slice _ _ _)), (12, (.int _ _)), (13, (.int _ _))] ⟨rfl, rfl, rfl, rfl, rfl, rfl, trivial⟩ (fun _f => ?_)
        refine s_region ?_
        refine o_val rfl rfl rfl (y_add rfl rfl (by simp only [inK]; omega)) ?_
        refine o_val rfl rfl rfl (y_move (v := (.int _ _)) rfl) ?_
        refine o_nil ?_
        exact ⟨LG7.mk (g.i + 1) (g.cs ++ [(newC ((g.i : Nat) : Int) u.A u.vs.length u.c u.vs)]) A32 c33 E34 (u.E ++ g.P) u.S, (by first | omega | (dsimp only; omega)), ⟨by dsimp only; omega, by dsimp only; rw [List.length_append]; exact ho37, all_snoc (fun x hx => (hxc x hx).sub inG_right) (cok_new hvo (by omega)), held_snoc hxh ⟨(show lastC g.cs g.cs.length < ((g.i : Nat) : Int) from lastC_lt hxk (by omega)), by dsimp only [newC]; omega, by dsimp only [newC]; exact holds_of hone (by omega) (fun j hj => hfit j (by omega))⟩, all_snoc (fun x hx => by have := hxk x hx; dsimp only; omega) (by dsimp only [newC]; omega), by simp only [List.length_append, List.length_singleton]; omega, hst1⟩, ⟨(by dsimp only; rw [List.length_append]; rfl), (congrArg (Value.int .i64) (by (try dsimp only); omega)), rfl, rfl, rfl, rfl, trivial⟩, (sub_picks [1, 2, 0] rfl)⟩
  · refine s_exit ?_
    refine s_seq ?_
    refine s_region ?_
    refine o_val rfl rfl rfl (y_move (v := (.slice _ _ _)) rfl) ?_
    refine o_val rfl rfl rfl (y_assign (v := (.slice _ _ _)) rfl) ?_
    refine o_nil ?_
    refine s_ret ?_
    exact ⟨_, [_, _, _], res1 rfl rfl, ⟨_, _, _, _, _, _, rfl, hxo, hxc, hxh, by omega, hst1, rfl⟩, sub_picks [0, 0, 0] rfl⟩

end Go.Proofs.Ytacmbiohjiogiaa.K

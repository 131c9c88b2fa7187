/- Proved: for all states, numbers and turns whose reading is of bulk at most 1048576 the law GameFlat returns true. No condition. -/
import Derived.Test.YtlkajdcgdoijjaaGreatDoorRows
import Derived.Test.YtlkajdcgdoijjaaGreatDoorQ5
import Derived.Test.YtlkajdcgdoijjaaGreatDoorFR0
import Derived.Test.YtlkajdcgdoijjaaGreatDoorFR1
import Derived.Test.YtlkajdcgdoijjaaGreatDoorFR2
import Derived.Test.YtlkajdcgdoijjaaGreatDoorFR3
import Derived.Test.YtlkajdcgdoijjaaGreatDoorFR6
import Derived.Deep.CondSized
namespace Go.Proofs.YtlkajdcgdoijjaaGreatDoor.GameFlat
open Go.ChangeShapes Go.WideShapes Go.ChangeAt Go.RowKit Go.Proofs.YtlkajdcgdoijjaaGreatDoor.K
set_option linter.unusedVariables false
set_option maxRecDepth 100000
open Go.ChangeMaps (open_string shut_string)
theorem one_le {H : Type} (d : DataW H) : 1 ≤ Rows.uptoBulk d := by
  cases d with
  | lit l => cases l <;> simp [Rows.uptoBulk]
  | nil => simp [Rows.uptoBulk]
  | ptr d => simp [Rows.uptoBulk]
  | slice elems spare => simp [Rows.uptoBulk]
  | agg parts => simp [Rows.uptoBulk]
  | iface t d => simp [Rows.uptoBulk]
  | map entries => simp [Rows.uptoBulk]
  | held h => simp [Rows.uptoBulk]
theorem part_le {H : Type} {d : DataW H} : ∀ {l : List (DataW H)}, d ∈ l → Rows.uptoBulk d ≤ Rows.uptoBulkAll l
  | [], h => by cases h
  | x :: r, h => by
    simp only [Rows.uptoBulkAll]
    rcases List.mem_cons.1 h with rfl | h
    · omega
    · have := part_le h; omega
theorem length_le {H : Type} : ∀ l : List (DataW H), l.length ≤ Rows.uptoBulkAll l
  | [] => by simp [Rows.uptoBulkAll]
  | x :: r => by have := one_le x; have := length_le r; simp only [Rows.uptoBulkAll, List.length_cons]; omega
/-- A slice that was read is short. -/
theorem small_len {H : Type} {ds : List (DataW H)} {d : DataW H} {len : Nat} (hk : Rows.uptoSmall H ds = true) (hd : d ∈ ds) (h : len = 0 ∨ ∃ el sp, d = .slice el sp ∧ el.length = len) : len ≤ 1048576 := by
  have hb : Rows.uptoBulkAll ds ≤ 1048576 := of_decide_eq_true hk
  rcases h with rfl | ⟨el, sp, rfl, rfl⟩
  · omega
  · have h1 := part_le hd
    have h2 := length_le el
    simp only [Rows.uptoBulk] at h1
    omega

theorem own : ownKnob Tryz.prog.godebug = none := by kernel_rfl
theorem laidOut : laidOutB Tryz.prog = true := by kernel_rfl
theorem noInit : Tryz.checked.prog.inits.idxOf? 4 = none := by kernel_rfl
theorem lifted (os : Os) (started : os.Started) (H : Type) (enc : TypeId × Value → H) (F : Stop.Interp) :
    ReturnsInHanded {} Tryz.checked os 4 .any (fun w args => ((Rows.OpenSpec.upto Rows.gameFlatSpec).pre enc Tryz.prog Tryz.f4 [] false w args ∧ laidMetH Tryz.prog Rows.gameFlatUptoRow.laid w) ∧ sizedMet enc Tryz.prog Tryz.f4 (Rows.OpenSpec.upto Rows.gameFlatSpec) false w args) (((Rows.OpenSpec.upto Rows.gameFlatSpec).at F).post enc Tryz.prog Tryz.f4 false true false false) := by
  refine ret_laid (C := Tryz.checked) (s := Rows.OpenSpec.upto Rows.gameFlatSpec) (k := Rows.uptoSmall) (X := fun w => laidMetH Tryz.prog Rows.gameFlatUptoRow.laid w) rfl own started noInit Tryz.func4
    ⟨World.doorLaid Tryz.prog 400 os, fun _ _ => 0, ⟨#[], #[.agg #[.int .i64 0, .slice none 0 0, .slice none 0 0, .slice none 0 0, .slice none 0 0, .slice none 0 0, .slice none 0 0], .agg #[.int .i64 0, .slice none 0 0, .slice none 0 0, .slice none 0 0, .slice none 0 0, .slice none 0 0, .slice none 0 0], .slice none 0 0, .int .i64 0], []⟩, rfl, World.shaped_of_RefB (door1 os) (door2 os), (Input.okWide_of_okWideB (base := 0) (door3 os)).1, (Input.okWide_of_okWideB (door3 os)).2, ⟨⟨(OpenSpec.pre_some rfl [] false _ _).2 ⟨_, _, _, DataW.Whole_of_whole (door4 os H enc), rfl, by kernel_rfl⟩, door_met os⟩, (show sizedMet enc _ _ (Rows.OpenSpec.upto Rows.gameFlatSpec) false _ _ from sizedMet_of_sizedB (s := (Rows.OpenSpec.upto Rows.gameFlatSpec).bare) (fuel := 8) (door5 os H enc))⟩, by
      simp only [Assume.holds]
      exact ⟨by simp, by simp, (fun h => by cases h), by simp, by simp⟩⟩ ?_
  intro W base args ds gs before hval0 hW hk0 hsz0
  have hval : ∀ (j : Nat) t v, Tryz.f4.params[j]? = some t → args[j]? = some v → Value.okWide Tryz.prog W .any base t v := hval0
  have hsz : (DataW.weightsEach Tryz.prog (Tryz.f4.params.toList ++ Rows.gameFlatSpec.plain.varTypes Tryz.prog) (ds ++ gs)).all (· ≤ reachBytes) = true := hsz0
  have hW' := hW
  obtain ⟨p, q, hA0, hV, rfl, hfz, hnd⟩ := hW
  have hA : DataW.TrodAll enc Tryz.prog W 0 (fun _ => true) true Tryz.f4.params.toList args.toList ds p := hA0
  rw [Tryz.params4] at hA hval hsz
  obtain ⟨v0, vs0, d0, ds0, p0, q0, hargs, rfl, rfl, h0, r0⟩ := trodAll_cons hA
  obtain ⟨v1, vs1, d1, ds1, p1, q1, rfl, rfl, rfl, h1, r1⟩ := trodAll_cons r0
  obtain ⟨v2, vs2, d2, ds2, p2, q2, rfl, rfl, rfl, h2, r2⟩ := trodAll_cons r1
  obtain ⟨v3, vs3, d3, ds3, p3, q3, rfl, rfl, rfl, h3, r3⟩ := trodAll_cons r2
  obtain ⟨rfl, rfl, rfl⟩ := trodAll_nil r3
  obtain rfl : args = #[v0, v1, v2, v3] := by cases args; simp_all
  obtain ⟨rfl, rfl⟩ := trodVars_none hV
  have k0 := h0
  have lt0 : ∀ x ∈ p0, x.block < W.heap.size := by obtain ⟨m, hm⟩ := k0; exact DataW.trod_lt m _ _ _ hm
  obtain ⟨cs0, rfl, hsz0⟩ := okWide_struct Tryz.underlying41 (hval 0 41 v0 rfl rfl)
  obtain ⟨q0, hv0, hS0, hI0, hB0⟩ : ∃ q : StR, cs0 = (encSt q).toArray ∧ StOK (memOf W) q ∧ (∀ y ∈ flS q, inK .i64 y) ∧ (flS q).length ≤ 1048576 := by
    obtain ⟨fuel, hf⟩ := k0
    have hcn := cnb_of hsz hk0 (j := 0) rfl rfl (by simp)
    obtain ⟨q, hcs, hS, hI, hB⟩ := openM_st fuel _ _ hf hcn.1
    exact ⟨q, by rw [← hcs]; simp [Value.cells], hS, hI, Nat.le_trans hB hcn.2⟩
  subst hv0
  have k1 := h1
  have lt1 : ∀ x ∈ p1, x.block < W.heap.size := by obtain ⟨m, hm⟩ := k1; exact DataW.trod_lt m _ _ _ hm
  obtain ⟨cs1, rfl, hsz1⟩ := okWide_struct Tryz.underlying41 (hval 1 41 v1 rfl rfl)
  obtain ⟨q1, hv1, hS1, hI1, hB1⟩ : ∃ q : StR, cs1 = (encSt q).toArray ∧ StOK (memOf W) q ∧ (∀ y ∈ flS q, inK .i64 y) ∧ (flS q).length ≤ 1048576 := by
    obtain ⟨fuel, hf⟩ := k1
    have hcn := cnb_of hsz hk0 (j := 1) rfl rfl (by simp)
    obtain ⟨q, hcs, hS, hI, hB⟩ := openM_st fuel _ _ hf hcn.1
    exact ⟨q, by rw [← hcs]; simp [Value.cells], hS, hI, Nat.le_trans hB hcn.2⟩
  subst hv1
  have k2 := h2
  have lt2 : ∀ x ∈ p2, x.block < W.heap.size := by obtain ⟨m, hm⟩ := k2; exact DataW.trod_lt m _ _ _ hm
  obtain ⟨a2, len2, cap2, rfl⟩ := okWide_slice Tryz.underlying22 (hval 2 22 v2 rfl rfl)
  obtain ⟨xs2, hl2, hq2, hz2, hc2, hR2, hb2⟩ : ∃ xs : List Int, xs.length = len2 ∧ len2 ≤ cap2 ∧ len2 ≤ 1048576 ∧ Cels (memOf W) [] a2 (xs.flatMap (fun a => [Value.int .i64 a])) ∧ (∀ a ∈ xs, (inK .i64) a) ∧ len2 * 8 ≤ 140737488351232 := by
    obtain ⟨fuel, hf⟩ := k2
    obtain ⟨A, l, c, xs, hcs, g1, g2, g3, g4, g5, g6⟩ := open_elems (fun a => [Value.int .i64 a]) (inK .i64) (fun _ => rfl) (by decide) Tryz.underlying22 (by kernel_rfl) (el_int Tryz.underlying3) hf
    simp [Value.cells] at hcs
    obtain ⟨rfl, rfl, rfl⟩ := hcs
    exact ⟨xs, g1, g2, small_len hk0 (by simp) g6, g4, g5, reach hsz Tryz.underlying22 (j := 2) rfl rfl (by kernel_rfl) g6⟩
  have k3 := h3
  have lt3 : ∀ x ∈ p3, x.block < W.heap.size := by obtain ⟨m, hm⟩ := k3; exact DataW.trod_lt m _ _ _ hm
  obtain ⟨x3, rfl, rfl, rfl, wx3⟩ := open_int Tryz.underlying3 (hval 3 3 v3 rfl rfl) h3
  have wi3 : inK .i64 x3 := by simp [Lit.wf, IntKind.min, IntKind.max, IntKind.signed, IntKind.bits] at wx3; simp only [inK]; omega
  clear hA0 hval0
  subst hl2
  refine (law_calls ((GameFlat_c q0 q1 hS0 hS1 hB0 hB1 a2 xs2.length cap2 xs2 (flat_one xs2 ▸ hc2) rfl hq2 hz2 x3).mono fun _ _ h => h.1)).mono fun e W' ⟨he, bel⟩ => ?_
  subst he
  exact ⟨_, rfl, _, _, _, [], _, [], hW', trodAll_mk1 (shut_bool Tryz.underlying4 _), (trodAll_cons_mk (Below.trod laidOut (by kernel_rfl) (of_decide_eq_true (by kernel_rfl)) k0 bel lt0) (trodAll_cons_mk (Below.trod laidOut (by kernel_rfl) (of_decide_eq_true (by kernel_rfl)) k1 bel lt1) (trodAll_cons_mk (Below.trod laidOut (by kernel_rfl) (of_decide_eq_true (by kernel_rfl)) k2 bel lt2) (trodAll_cons_mk (Below.trod laidOut (by kernel_rfl) (of_decide_eq_true (by kernel_rfl)) k3 bel lt3) trodAll_mk0)))), rfl, bel.frame _, fun h => by cases h⟩
theorem named4 : Tryz.pinned.checked.prog.funcNamed "tourney/tourlaw4.GameFlat" = some 4 := by kernel_rfl
theorem inst4 : Tryz.f4.isInstance Tryz.pinned.checked.prog Rows.gameFlatUptoRow.origin Rows.gameFlatUptoRow.targs := of_decide_eq_true (by kernel_rfl)
theorem andI {a b : Bool} (h : a = true) (h' : b = true) : (a && b) = true := by rw [h, h']; rfl
theorem closed : joinedFacts Tryz.prog 4 Tryz.f4 (Rows.OpenSpec.upto Rows.gameFlatSpec).bare Rows.gameFlatUptoRow = true :=
  (andI (andI (andI (andI (andI (andI (andI (andI (andI (andI (andI (andI (andI (andI (andI (andI (andI (andI (andI (andI (andI (andI (andI (andI (andI (andI (andI (andI (andI (andI (andI fct0 fct1) fct2) fct3) fct4) fct5) fct6) fct7) fct8) fct9) fct10) fct11) fct12) fct13) fct14) fct15) fct16) fct17) fct18) fct19) fct20) fct21) fct22) fct23) fct24) fct25) fct26) fct27) fct28) fct29) fct30) fct31)
theorem over : Rows.gameFlatUptoRow.holds Tryz.pinned (Rows.OpenSpec.upto Rows.gameFlatSpec) :=
  OpenClaim.holds_of_cond 4 Tryz.f4 rfl rfl rfl rfl rfl rfl rfl ⟨rfl, rfl, rfl, rfl, rfl⟩ rfl rfl rfl rfl rfl named4 Tryz.func4 closed
    inst4 (by unfold Func.isWrapper; first | (rw [if_pos (by decide +kernel)]; kernel_rfl) | (rw [if_neg (by decide +kernel)]; exact ⟨rfl, rfl⟩))
    (fun os started H enc _ F => lifted os started H enc F)
end Go.Proofs.YtlkajdcgdoijjaaGreatDoor.GameFlat

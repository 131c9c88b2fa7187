/- Proved: for all worlds and lists the law MergeSays returns true: merge.Three returns the result of the reference, its faults and its clashes. No condition beyond the row's own. -/
import Derived.Test.YtacmbiohjiogiaaRows
import Derived.Test.YtacmbiohjiogiaaK6
import Derived.Test.YtacmbiohjiogiaaOW
import Derived.Test.YtacmbiohjiogiaaS6
namespace Go.Proofs.Ytacmbiohjiogiaa.MergeSays
open Go.ChangeShapes Go.WideShapes Go.ChangeAt Go.RowKit Go.Proofs.Ytacmbiohjiogiaa.K
open Go.ChangeMaps (open_string shut_string)
set_option linter.unusedVariables false
set_option maxRecDepth 100000

theorem own : ownKnob Try.prog.godebug = none := by kernel_rfl
theorem laidOut : laidOutB Try.prog = true := by kernel_rfl
theorem lifted (os : Os) (started : os.Started) (H : Type) (enc : TypeId × Value → H) :
  ReturnsInHanded {} Try.checked os 4 .any (Rows.mergeSaysSpec.pre6 enc Try.prog Try.f4 Rows.mergeSaysRow.domain false) (Rows.mergeSaysSpec.post enc Try.prog Try.f4 false true false false) := by
 refine returnsInHanded_of_change_sized (C := Try.checked) own started (by kernel_rfl) Try.func4
  (ChangeSpec.witness6 (enc := enc) (C := Try.checked) false ⟨#[], #[.agg #[.slice none 0 0, .slice none 0 0, .slice none 0 0], .agg #[.slice none 0 0, .slice none 0 0, .slice none 0 0], .agg #[.slice none 0 0, .slice none 0 0, .slice none 0 0], .slice none 0 0, .slice none 0 0, .slice none 0 0], []⟩ 8 (by kernel_rfl) (by kernel_rfl) (by kernel_rfl) (by kernel_rfl)) ?_
 intro W base args ds gs before hval0 hW hcnd hsz0 _; have hval : ∀ (j : Nat) t v, Try.f4.params[j]? = some t → args[j]? = some v → Value.okWide Try.prog W .any base t v := hval0; have hsz : (DataW.weightsEach Try.prog (Try.f4.params.toList ++ Rows.mergeSaysSpec.plain.varTypes Try.prog) (ds ++ gs)).all (· ≤ reachBytes) = true := hsz0; have hW' := hW; obtain ⟨p, q, hA0, hV, rfl, hfz, hnd⟩ := hW; have hA : DataW.TrodAll enc Try.prog W 0 (fun _ => true) true Try.f4.params.toList args.toList ds p := hA0; rw [Try.params4] at hA hval hsz; obtain ⟨v0, vs0, d0, ds0, p0, q0, hargs, rfl, rfl, h0, r0⟩ := trodAll_cons hA; obtain ⟨v1, vs1, d1, ds1, p1, q1, rfl, rfl, rfl, h1, r1⟩ := trodAll_cons r0; obtain ⟨v2, vs2, d2, ds2, p2, q2, rfl, rfl, rfl, h2, r2⟩ := trodAll_cons r1; obtain ⟨v3, vs3, d3, ds3, p3, q3, rfl, rfl, rfl, h3, r3⟩ := trodAll_cons r2; obtain ⟨v4, vs4, d4, ds4, p4, q4, rfl, rfl, rfl, h4, r4⟩ := trodAll_cons r3; obtain ⟨v5, vs5, d5, ds5, p5, q5, rfl, rfl, rfl, h5, r5⟩ := trodAll_cons r4; obtain ⟨rfl, rfl, rfl⟩ := trodAll_nil r5; obtain rfl : args = #[v0, v1, v2, v3, v4, v5] := by cases args; simp_all
 obtain ⟨rfl, rfl⟩ := trodVars_none hV; have k0 := h0; have lt0 : ∀ x ∈ p0, x.block < W.heap.size := by obtain ⟨m, hm⟩ := k0; exact DataW.trod_lt m _ _ _ hm
 obtain ⟨cs0, rfl, hsz0⟩ := okWide_struct Try.underlying47 (hval 0 47 v0 rfl rfl); obtain ⟨q0, hv0, hS0⟩ : ∃ q : WR, cs0 = (encW q).toArray ∧ WOK (memOf W) q := by
  obtain ⟨fuel, hf⟩ := k0; obtain ⟨q, hcs, hS⟩ := opens_wd (cnd_w _) fuel _ _ hf (cnw_of hsz (j := 0) rfl rfl); exact ⟨q, by rw [← hcs]; simp [Value.cells], hS⟩
 subst hv0; have k1 := h1; have lt1 : ∀ x ∈ p1, x.block < W.heap.size := by obtain ⟨m, hm⟩ := k1; exact DataW.trod_lt m _ _ _ hm
 obtain ⟨cs1, rfl, hsz1⟩ := okWide_struct Try.underlying47 (hval 1 47 v1 rfl rfl); obtain ⟨q1, hv1, hS1⟩ : ∃ q : WR, cs1 = (encW q).toArray ∧ WOK (memOf W) q := by
  obtain ⟨fuel, hf⟩ := k1; obtain ⟨q, hcs, hS⟩ := opens_wd (cnd_w _) fuel _ _ hf (cnw_of hsz (j := 1) rfl rfl); exact ⟨q, by rw [← hcs]; simp [Value.cells], hS⟩
 subst hv1; have k2 := h2; have lt2 : ∀ x ∈ p2, x.block < W.heap.size := by obtain ⟨m, hm⟩ := k2; exact DataW.trod_lt m _ _ _ hm
 obtain ⟨cs2, rfl, hsz2⟩ := okWide_struct Try.underlying47 (hval 2 47 v2 rfl rfl); obtain ⟨q2, hv2, hS2⟩ : ∃ q : WR, cs2 = (encW q).toArray ∧ WOK (memOf W) q := by
  obtain ⟨fuel, hf⟩ := k2; obtain ⟨q, hcs, hS⟩ := opens_wd (cnd_w _) fuel _ _ hf (cnw_of hsz (j := 2) rfl rfl); exact ⟨q, by rw [← hcs]; simp [Value.cells], hS⟩
 subst hv2; have k3 := h3; have lt3 : ∀ x ∈ p3, x.block < W.heap.size := by obtain ⟨m, hm⟩ := k3; exact DataW.trod_lt m _ _ _ hm
 obtain ⟨a3, len3, cap3, rfl⟩ := okWide_slice Try.underlying22 (hval 3 22 v3 rfl rfl); obtain ⟨xs3, hl3, hq3, hc3, hR3, hb3⟩ : ∃ xs : List Int, xs.length = len3 ∧ len3 ≤ cap3 ∧ Cels (memOf W) [] a3 (xs.flatMap (fun a => [Value.int .i64 a])) ∧ (∀ a ∈ xs, (inK .i64) a) ∧ len3 * 8 ≤ 140737488351232 := by
  obtain ⟨fuel, hf⟩ := k3; obtain ⟨A, l, c, xs, hcs, g1, g2, g3, g4, g5, g6⟩ := open_elems (fun a => [Value.int .i64 a]) (inK .i64) (fun _ => rfl) (by decide) Try.underlying22 (by kernel_rfl) (el_int Try.underlying3) hf; simp [Value.cells] at hcs; obtain ⟨rfl, rfl, rfl⟩ := hcs; exact ⟨xs, g1, g2, g4, g5, reach hsz Try.underlying22 (j := 3) rfl rfl (by kernel_rfl) g6⟩
 have k4 := h4; have lt4 : ∀ x ∈ p4, x.block < W.heap.size := by obtain ⟨m, hm⟩ := k4; exact DataW.trod_lt m _ _ _ hm
 obtain ⟨a4, len4, cap4, rfl⟩ := okWide_slice Try.underlying22 (hval 4 22 v4 rfl rfl); obtain ⟨xs4, hl4, hq4, hc4, hR4, hb4⟩ : ∃ xs : List Int, xs.length = len4 ∧ len4 ≤ cap4 ∧ Cels (memOf W) [] a4 (xs.flatMap (fun a => [Value.int .i64 a])) ∧ (∀ a ∈ xs, (inK .i64) a) ∧ len4 * 8 ≤ 140737488351232 := by
  obtain ⟨fuel, hf⟩ := k4; obtain ⟨A, l, c, xs, hcs, g1, g2, g3, g4, g5, g6⟩ := open_elems (fun a => [Value.int .i64 a]) (inK .i64) (fun _ => rfl) (by decide) Try.underlying22 (by kernel_rfl) (el_int Try.underlying3) hf; simp [Value.cells] at hcs; obtain ⟨rfl, rfl, rfl⟩ := hcs; exact ⟨xs, g1, g2, g4, g5, reach hsz Try.underlying22 (j := 4) rfl rfl (by kernel_rfl) g6⟩
 have k5 := h5; have lt5 : ∀ x ∈ p5, x.block < W.heap.size := by obtain ⟨m, hm⟩ := k5; exact DataW.trod_lt m _ _ _ hm
 obtain ⟨a5, len5, cap5, rfl⟩ := okWide_slice Try.underlying22 (hval 5 22 v5 rfl rfl); obtain ⟨xs5, hl5, hq5, hc5, hR5, hb5⟩ : ∃ xs : List Int, xs.length = len5 ∧ len5 ≤ cap5 ∧ Cels (memOf W) [] a5 (xs.flatMap (fun a => [Value.int .i64 a])) ∧ (∀ a ∈ xs, (inK .i64) a) ∧ len5 * 8 ≤ 140737488351232 := by
  obtain ⟨fuel, hf⟩ := k5; obtain ⟨A, l, c, xs, hcs, g1, g2, g3, g4, g5, g6⟩ := open_elems (fun a => [Value.int .i64 a]) (inK .i64) (fun _ => rfl) (by decide) Try.underlying22 (by kernel_rfl) (el_int Try.underlying3) hf; simp [Value.cells] at hcs; obtain ⟨rfl, rfl, rfl⟩ := hcs; exact ⟨xs, g1, g2, g4, g5, reach hsz Try.underlying22 (j := 5) rfl rfl (by kernel_rfl) g6⟩
 clear hA0 hval0
 subst hl3 hl4 hl5; refine (law_calls ((MergeSays_c q0 q1 q2 hS0 hS1 hS2 a3 xs3.length cap3 xs3 (flat_one xs3 ▸ hc3) rfl (by omega) a4 xs4.length cap4 xs4 (flat_one xs4 ▸ hc4) rfl (by omega) a5 xs5.length cap5 xs5 (flat_one xs5 ▸ hc5) rfl (by omega)).mono fun _ _ h => h.1)).mono fun e W' ⟨he, bel⟩ => ?_; subst he; exact ⟨_, rfl, _, _, _, [], _, [], hW', trodAll_mk1 (shut_bool Try.underlying4 _), (trodAll_cons_mk (Below.trod laidOut (by kernel_rfl) (of_decide_eq_true (by kernel_rfl)) k0 bel lt0) (trodAll_cons_mk (Below.trod laidOut (by kernel_rfl) (of_decide_eq_true (by kernel_rfl)) k1 bel lt1) (trodAll_cons_mk (Below.trod laidOut (by kernel_rfl) (of_decide_eq_true (by kernel_rfl)) k2 bel lt2) (trodAll_cons_mk (Below.trod laidOut (by kernel_rfl) (of_decide_eq_true (by kernel_rfl)) k3 bel lt3) (trodAll_cons_mk (Below.trod laidOut (by kernel_rfl) (of_decide_eq_true (by kernel_rfl)) k4 bel lt4) (trodAll_cons_mk (Below.trod laidOut (by kernel_rfl) (of_decide_eq_true (by kernel_rfl)) k5 bel lt5) trodAll_mk0)))))), rfl, bel.frame _, fun h => by cases h⟩
theorem over : Rows.mergeSaysRow.holds Try.pinned (OpenSpec.ofChange Rows.mergeSaysSpec) :=
 OpenClaim.holds_of_wide 4 Try.f4 rfl rfl rfl rfl rfl rfl rfl ⟨rfl, rfl, rfl, rfl, rfl⟩ rfl rfl rfl rfl rfl (by kernel_rfl) Try.func4 (by kernel_rfl)
  (of_decide_eq_true (by kernel_rfl)) (by unfold Func.isWrapper; first | (rw [if_pos (by decide +kernel)]; kernel_rfl) | (rw [if_neg (by decide +kernel)]; exact ⟨rfl, rfl⟩))
  (fun os started H enc _ => lifted os started H enc)
theorem proved : Rows.MergeSaysSaid := over
#print axioms proved
end Go.Proofs.Ytacmbiohjiogiaa.MergeSays

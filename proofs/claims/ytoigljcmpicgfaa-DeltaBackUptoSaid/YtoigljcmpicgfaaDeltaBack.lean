/- Proved: for all lists and bytes of bulk at most 1048576 the law DeltaBack returns true: Back returns the list that was encoded; other bytes are refused, or are those of the list that is returned. No condition beyond the row's own. -/
import Derived.Test.YtoigljcmpicgfaaRows
import Derived.Test.YtoigljcmpicgfaaK6
import Derived.Test.YtoigljcmpicgfaaD10
import Derived.Deep.CondSized
namespace Go.Proofs.Ytoigljcmpicgfaa.DeltaBack
open Go.ChangeShapes Go.WideShapes Go.ChangeAt Go.RowKit Go.Proofs.Ytoigljcmpicgfaa.K
open Go.ChangeMaps (open_string shut_string)
set_option linter.unusedVariables false
set_option maxRecDepth 100000
theorem one_le {H : Type} (d : DataW H) : 1 ≤ Rows.uptoBulk d := by
  cases d with
  | lit l => cases l <;> simp [Rows.uptoBulk]
  | nil => simp [Rows.uptoBulk]
  | ptr d => simp [Rows.uptoBulk]
  | slice elems spare => simp [Rows.uptoBulk]
  | agg parts => simp [Rows.uptoBulk]
  | iface t d => simp [Rows.uptoBulk]
  | map entries => simp [Rows.uptoBulk]
  | held h => simp [Rows.uptoBulk]
theorem part_le {H : Type} {d : DataW H} : ∀ {l : List (DataW H)}, d ∈ l → Rows.uptoBulk d ≤ Rows.uptoBulkAll l
  | [], h => by cases h
  | x :: r, h => by
    simp only [Rows.uptoBulkAll]
    rcases List.mem_cons.1 h with rfl | h
    · omega
    · have := part_le h; omega
theorem length_le {H : Type} : ∀ l : List (DataW H), l.length ≤ Rows.uptoBulkAll l
  | [] => by simp [Rows.uptoBulkAll]
  | x :: r => by have := one_le x; have := length_le r; simp only [Rows.uptoBulkAll, List.length_cons]; omega
/-- A slice that was read is short. -/
theorem small_len {H : Type} {ds : List (DataW H)} {d : DataW H} {len : Nat} (hk : Rows.uptoSmall H ds = true) (hd : d ∈ ds) (h : len = 0 ∨ ∃ el sp, d = .slice el sp ∧ el.length = len) : len ≤ 1048576 := by
  have hb : Rows.uptoBulkAll ds ≤ 1048576 := of_decide_eq_true hk
  rcases h with rfl | ⟨el, sp, rfl, rfl⟩
  · omega
  · have h1 := part_le hd
    have h2 := length_le el
    simp only [Rows.uptoBulk] at h1
    omega

theorem own : ownKnob Try.prog.godebug = none := by kernel_rfl
theorem laidOut : laidOutB Try.prog = true := by kernel_rfl
theorem lifted (os : Os) (started : os.Started) (H : Type) (enc : TypeId × Value → H) (F : Stop.Interp) :
    ReturnsInHanded {} Try.checked os 3 .any ((Rows.OpenSpec.upto Rows.deltaBackSpec).pre6 enc Try.prog Try.f3 Rows.deltaBackUptoRow.domain false) (((Rows.OpenSpec.upto Rows.deltaBackSpec).at F).post enc Try.prog Try.f3 false true false false) := by
  refine returnsInHanded_of_cond_sized (C := Try.checked) (s := Rows.OpenSpec.upto Rows.deltaBackSpec) (k := Rows.uptoSmall) rfl own started (by kernel_rfl) Try.func3
    (OpenSpec.witness (enc := enc) (C := Try.checked) (s := Rows.OpenSpec.upto Rows.deltaBackSpec) (k := Rows.uptoSmall) rfl false ⟨#[], #[.slice none 0 0, .slice none 0 0, .slice none 0 0, .int .i64 0], []⟩ 8 (by kernel_rfl) (by kernel_rfl) (by kernel_rfl) (x := ([.nil, .nil, .nil, .lit (.int .i64 0)], [], [])) (by kernel_rfl) rfl (by kernel_rfl)) ?_
  intro W base args ds gs before hval0 hW hcnd hk0 hsz0 _
  have hval : ∀ (j : Nat) t v, Try.f3.params[j]? = some t → args[j]? = some v → Value.okWide Try.prog W .any base t v := hval0
  have hsz : (DataW.weightsEach Try.prog (Try.f3.params.toList ++ Rows.deltaBackSpec.plain.varTypes Try.prog) (ds ++ gs)).all (· ≤ reachBytes) = true := hsz0
  have hW' := hW
  obtain ⟨p, q, hA0, hV, rfl, hfz, hnd⟩ := hW
  have hA : DataW.TrodAll enc Try.prog W 0 (fun _ => true) true Try.f3.params.toList args.toList ds p := hA0
  rw [Try.params3] at hA hval hsz
  obtain ⟨v0, vs0, d0, ds0, p0, q0, hargs, rfl, rfl, h0, r0⟩ := trodAll_cons hA
  obtain ⟨v1, vs1, d1, ds1, p1, q1, rfl, rfl, rfl, h1, r1⟩ := trodAll_cons r0
  obtain ⟨v2, vs2, d2, ds2, p2, q2, rfl, rfl, rfl, h2, r2⟩ := trodAll_cons r1
  obtain ⟨v3, vs3, d3, ds3, p3, q3, rfl, rfl, rfl, h3, r3⟩ := trodAll_cons r2
  obtain ⟨rfl, rfl, rfl⟩ := trodAll_nil r3
  obtain rfl : args = #[v0, v1, v2, v3] := by cases args; simp_all
  obtain ⟨rfl, rfl⟩ := trodVars_none hV
  have k0 := h0
  have lt0 : ∀ x ∈ p0, x.block < W.heap.size := by obtain ⟨m, hm⟩ := k0; exact DataW.trod_lt m _ _ _ hm
  obtain ⟨a0, len0, cap0, rfl⟩ := okWide_slice Try.underlying22 (hval 0 22 v0 rfl rfl)
  obtain ⟨xs0, hl0, hq0, hz0, hc0, hR0, hb0⟩ : ∃ xs : List Int, xs.length = len0 ∧ len0 ≤ cap0 ∧ len0 ≤ 1048576 ∧ Cels (memOf W) [] a0 (xs.flatMap (fun a => [Value.int .i64 a])) ∧ (∀ a ∈ xs, (inK .i64) a) ∧ len0 * 8 ≤ 140737488351232 := by
    obtain ⟨fuel, hf⟩ := k0
    obtain ⟨A, l, c, xs, hcs, g1, g2, g3, g4, g5, g6⟩ := open_elems (fun a => [Value.int .i64 a]) (inK .i64) (fun _ => rfl) (by decide) Try.underlying22 (by kernel_rfl) (el_int Try.underlying3) hf
    simp [Value.cells] at hcs
    obtain ⟨rfl, rfl, rfl⟩ := hcs
    exact ⟨xs, g1, g2, small_len hk0 (by simp) g6, g4, g5, reach hsz Try.underlying22 (j := 0) rfl rfl (by kernel_rfl) g6⟩
  have k1 := h1
  have lt1 : ∀ x ∈ p1, x.block < W.heap.size := by obtain ⟨m, hm⟩ := k1; exact DataW.trod_lt m _ _ _ hm
  obtain ⟨a1, len1, cap1, rfl⟩ := okWide_slice Try.underlying22 (hval 1 22 v1 rfl rfl)
  obtain ⟨xs1, hl1, hq1, hz1, hc1, hR1, hb1⟩ : ∃ xs : List Int, xs.length = len1 ∧ len1 ≤ cap1 ∧ len1 ≤ 1048576 ∧ Cels (memOf W) [] a1 (xs.flatMap (fun a => [Value.int .i64 a])) ∧ (∀ a ∈ xs, (inK .i64) a) ∧ len1 * 8 ≤ 140737488351232 := by
    obtain ⟨fuel, hf⟩ := k1
    obtain ⟨A, l, c, xs, hcs, g1, g2, g3, g4, g5, g6⟩ := open_elems (fun a => [Value.int .i64 a]) (inK .i64) (fun _ => rfl) (by decide) Try.underlying22 (by kernel_rfl) (el_int Try.underlying3) hf
    simp [Value.cells] at hcs
    obtain ⟨rfl, rfl, rfl⟩ := hcs
    exact ⟨xs, g1, g2, small_len hk0 (by simp) g6, g4, g5, reach hsz Try.underlying22 (j := 1) rfl rfl (by kernel_rfl) g6⟩
  have k2 := h2
  have lt2 : ∀ x ∈ p2, x.block < W.heap.size := by obtain ⟨m, hm⟩ := k2; exact DataW.trod_lt m _ _ _ hm
  obtain ⟨a2, len2, cap2, rfl⟩ := okWide_slice Try.underlying23 (hval 2 23 v2 rfl rfl)
  obtain ⟨xs2, hl2, hq2, hz2, hc2, hR2, hb2⟩ : ∃ xs : List Int, xs.length = len2 ∧ len2 ≤ cap2 ∧ len2 ≤ 1048576 ∧ Cels (memOf W) [] a2 (xs.flatMap (fun a => [Value.int .u8 a])) ∧ (∀ a ∈ xs, (inK .u8) a) ∧ len2 * 1 ≤ 140737488351232 := by
    obtain ⟨fuel, hf⟩ := k2
    obtain ⟨A, l, c, xs, hcs, g1, g2, g3, g4, g5, g6⟩ := open_elems (fun a => [Value.int .u8 a]) (inK .u8) (fun _ => rfl) (by decide) Try.underlying23 (by kernel_rfl) (el_int Try.underlying5) hf
    simp [Value.cells] at hcs
    obtain ⟨rfl, rfl, rfl⟩ := hcs
    exact ⟨xs, g1, g2, small_len hk0 (by simp) g6, g4, g5, reach hsz Try.underlying23 (j := 2) rfl rfl (by kernel_rfl) g6⟩
  have k3 := h3
  have lt3 : ∀ x ∈ p3, x.block < W.heap.size := by obtain ⟨m, hm⟩ := k3; exact DataW.trod_lt m _ _ _ hm
  obtain ⟨x3, rfl, rfl, rfl, wx3⟩ := open_int Try.underlying3 (hval 3 3 v3 rfl rfl) h3
  have wi3 : inK .i64 x3 := by simp [Lit.wf, IntKind.min, IntKind.max, IntKind.signed, IntKind.bits] at wx3; simp only [inK]; omega
  clear hA0 hval0
  subst hl0 hl1 hl2
  refine (law_calls ((DeltaBack_c a0 xs0.length cap0 xs0 (flat_one xs0 ▸ hc0) rfl hz0 a1 xs1.length cap1 xs1 (flat_one xs1 ▸ hc1) rfl hz1 hR1 a2 xs2.length cap2 xs2 (flat_one xs2 ▸ hc2) rfl (fun b hb => hR2 b hb) hz2 x3).mono fun _ _ h => h.1)).mono fun e W' ⟨he, bel⟩ => ?_
  subst he
  exact ⟨_, rfl, _, _, _, [], _, [], hW', trodAll_mk1 (shut_bool Try.underlying4 _), (trodAll_cons_mk (Below.trod laidOut (by kernel_rfl) (of_decide_eq_true (by kernel_rfl)) k0 bel lt0) (trodAll_cons_mk (Below.trod laidOut (by kernel_rfl) (of_decide_eq_true (by kernel_rfl)) k1 bel lt1) (trodAll_cons_mk (Below.trod laidOut (by kernel_rfl) (of_decide_eq_true (by kernel_rfl)) k2 bel lt2) (trodAll_cons_mk (Below.trod laidOut (by kernel_rfl) (of_decide_eq_true (by kernel_rfl)) k3 bel lt3) trodAll_mk0)))), rfl, bel.frame _, fun h => by cases h⟩
theorem over : Rows.deltaBackUptoRow.holds Try.pinned (Rows.OpenSpec.upto Rows.deltaBackSpec) :=
  OpenClaim.holds_of_cond 3 Try.f3 rfl rfl rfl rfl rfl rfl rfl ⟨rfl, rfl, rfl, rfl, rfl⟩ rfl rfl rfl rfl rfl (by kernel_rfl) Try.func3 (by kernel_rfl)
    (of_decide_eq_true (by kernel_rfl)) (by unfold Func.isWrapper; first | (rw [if_pos (by decide +kernel)]; kernel_rfl) | (rw [if_neg (by decide +kernel)]; exact ⟨rfl, rfl⟩))
    (fun os started H enc _ F => lifted os started H enc F)
theorem proved : Rows.DeltaBackUptoSaid := over
#print axioms proved
end Go.Proofs.Ytoigljcmpicgfaa.DeltaBack

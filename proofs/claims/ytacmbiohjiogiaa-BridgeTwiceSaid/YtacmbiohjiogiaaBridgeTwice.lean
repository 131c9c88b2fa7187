/- Proved: for all lists the law BridgeTwice returns true: after writing a scene back once, further writing changes nothing. No condition beyond the row's own. -/
import Derived.Test.YtacmbiohjiogiaaRows
import Derived.Test.YtacmbiohjiogiaaQ5
namespace Go.Proofs.Ytacmbiohjiogiaa.BridgeTwice
open Go.ChangeShapes Go.WideShapes Go.ChangeAt Go.RowKit Go.Proofs.Ytacmbiohjiogiaa.K
open Go.ChangeMaps (open_string shut_string)
set_option linter.unusedVariables false
set_option maxRecDepth 100000

theorem own : ownKnob Try.prog.godebug = none := by kernel_rfl
theorem laidOut : laidOutB Try.prog = true := by kernel_rfl
theorem lifted (os : Os) (started : os.Started) (H : Type) (enc : TypeId × Value → H) :
  ReturnsInHanded {} Try.checked os 13 .any (Rows.bridgeTwiceSpec.pre6 enc Try.prog Try.f13 Rows.bridgeTwiceRow.domain false) (Rows.bridgeTwiceSpec.post enc Try.prog Try.f13 false true false false) := by
 refine returnsInHanded_of_change_sized (C := Try.checked) own started (by kernel_rfl) Try.func13
  (ChangeSpec.witness6 (enc := enc) (C := Try.checked) false ⟨#[], #[.slice none 0 0, .slice none 0 0], []⟩ 8 (by kernel_rfl) (by kernel_rfl) (by kernel_rfl) (by kernel_rfl)) ?_
 intro W base args ds gs before hval0 hW hcnd hsz0 _; have hval : ∀ (j : Nat) t v, Try.f13.params[j]? = some t → args[j]? = some v → Value.okWide Try.prog W .any base t v := hval0; have hsz : (DataW.weightsEach Try.prog (Try.f13.params.toList ++ Rows.bridgeTwiceSpec.plain.varTypes Try.prog) (ds ++ gs)).all (· ≤ reachBytes) = true := hsz0; have hW' := hW; obtain ⟨p, q, hA0, hV, rfl, hfz, hnd⟩ := hW; have hA : DataW.TrodAll enc Try.prog W 0 (fun _ => true) true Try.f13.params.toList args.toList ds p := hA0; rw [Try.params13] at hA hval hsz; obtain ⟨v0, vs0, d0, ds0, p0, q0, hargs, rfl, rfl, h0, r0⟩ := trodAll_cons hA; obtain ⟨v1, vs1, d1, ds1, p1, q1, rfl, rfl, rfl, h1, r1⟩ := trodAll_cons r0; obtain ⟨rfl, rfl, rfl⟩ := trodAll_nil r1; obtain rfl : args = #[v0, v1] := by cases args; simp_all
 obtain ⟨rfl, rfl⟩ := trodVars_none hV; have k0 := h0; have lt0 : ∀ x ∈ p0, x.block < W.heap.size := by obtain ⟨m, hm⟩ := k0; exact DataW.trod_lt m _ _ _ hm
 obtain ⟨a0, len0, cap0, rfl⟩ := okWide_slice Try.underlying22 (hval 0 22 v0 rfl rfl); obtain ⟨xs0, hl0, hq0, hc0, hR0, hb0⟩ : ∃ xs : List Int, xs.length = len0 ∧ len0 ≤ cap0 ∧ Cels (memOf W) [] a0 (xs.flatMap (fun a => [Value.int .i64 a])) ∧ (∀ a ∈ xs, (inK .i64) a) ∧ len0 * 8 ≤ 140737488351232 := by
  obtain ⟨fuel, hf⟩ := k0; obtain ⟨A, l, c, xs, hcs, g1, g2, g3, g4, g5, g6⟩ := open_elems (fun a => [Value.int .i64 a]) (inK .i64) (fun _ => rfl) (by decide) Try.underlying22 (by kernel_rfl) (el_int Try.underlying3) hf; simp [Value.cells] at hcs; obtain ⟨rfl, rfl, rfl⟩ := hcs; exact ⟨xs, g1, g2, g4, g5, reach hsz Try.underlying22 (j := 0) rfl rfl (by kernel_rfl) g6⟩
 have k1 := h1; have lt1 : ∀ x ∈ p1, x.block < W.heap.size := by obtain ⟨m, hm⟩ := k1; exact DataW.trod_lt m _ _ _ hm
 obtain ⟨a1, len1, cap1, rfl⟩ := okWide_slice Try.underlying22 (hval 1 22 v1 rfl rfl); obtain ⟨xs1, hl1, hq1, hc1, hR1, hb1⟩ : ∃ xs : List Int, xs.length = len1 ∧ len1 ≤ cap1 ∧ Cels (memOf W) [] a1 (xs.flatMap (fun a => [Value.int .i64 a])) ∧ (∀ a ∈ xs, (inK .i64) a) ∧ len1 * 8 ≤ 140737488351232 := by
  obtain ⟨fuel, hf⟩ := k1; obtain ⟨A, l, c, xs, hcs, g1, g2, g3, g4, g5, g6⟩ := open_elems (fun a => [Value.int .i64 a]) (inK .i64) (fun _ => rfl) (by decide) Try.underlying22 (by kernel_rfl) (el_int Try.underlying3) hf; simp [Value.cells] at hcs; obtain ⟨rfl, rfl, rfl⟩ := hcs; exact ⟨xs, g1, g2, g4, g5, reach hsz Try.underlying22 (j := 1) rfl rfl (by kernel_rfl) g6⟩
 clear hA0 hval0
 subst hl0 hl1; refine (law_calls ((BridgeTwice_c a0 xs0.length cap0 xs0 (flat_one xs0 ▸ hc0) rfl (by omega) a1 xs1.length cap1 xs1 (flat_one xs1 ▸ hc1) rfl (by omega)).mono fun _ _ h => h.1)).mono fun e W' ⟨he, bel⟩ => ?_; subst he; exact ⟨_, rfl, _, _, _, [], _, [], hW', trodAll_mk1 (shut_bool Try.underlying4 _), (trodAll_cons_mk (Below.trod laidOut (by kernel_rfl) (of_decide_eq_true (by kernel_rfl)) k0 bel lt0) (trodAll_cons_mk (Below.trod laidOut (by kernel_rfl) (of_decide_eq_true (by kernel_rfl)) k1 bel lt1) trodAll_mk0)), rfl, bel.frame _, fun h => by cases h⟩
theorem andI {a b : Bool} (h : a = true) (h' : b = true) : (a && b) = true := by rw [h, h']; rfl
theorem fct0 : (Rows.bridgeTwiceRow.wf (OpenSpec.ofChange Rows.bridgeTwiceSpec)) = true := by kernel_rfl
theorem fct1 : (laidOutB Try.prog) = true := by kernel_rfl
theorem fct2 : (mapsRowed Try.prog) = true := by kernel_rfl
theorem fct3 : (Try.f13.params.all (Try.prog.readableRec ·)) = true := by kernel_rfl
theorem fct4 : (namedTie Try.prog Rows.bridgeTwiceRow.named Rows.bridgeTwiceSpec.vars) = true := by kernel_rfl
theorem fct5 : ((Rows.bridgeTwiceRow.stops == [])) = true := by kernel_rfl
theorem fct6 : ((Try.prog.stops == [])) = true := by kernel_rfl
theorem fct7 : ((Rows.bridgeTwiceRow.knobs == [])) = true := by kernel_rfl
theorem fct8 : ((Try.prog.stopKnobs == [])) = true := by kernel_rfl
theorem fct9 : ((Rows.bridgeTwiceRow.inPlace == Try.prog.inPlace 13)) = true := by kernel_rfl
theorem fct10 : ((Rows.bridgeTwiceRow.unfollowed == Try.prog.unfollowed 13)) = true := by kernel_rfl
theorem fct11 : ((Rows.bridgeTwiceRow.recurses == Try.prog.recurses 13)) = true := by kernel_rfl
theorem fct12 : ((Rows.bridgeTwiceRow.named == Try.prog.varsNamed 13)) = true := by kernel_rfl
theorem fct13 : ((Rows.bridgeTwiceRow.maps == (Try.f13.params.toList ++ Rows.bridgeTwiceSpec.plain.varTypes Try.prog).any (Try.prog.mapsRec ·))) = true := by kernel_rfl
theorem fct14 : ((Rows.bridgeTwiceRow.ifaces == (Try.f13.params.toList ++ Rows.bridgeTwiceSpec.plain.varTypes Try.prog).any (Try.prog.ifacesRec ·))) = true := by kernel_rfl
theorem fct15 : ((Rows.bridgeTwiceRow.mapsOut == Try.prog.mapsAmong Try.f13.resultTypes.toList)) = true := by kernel_rfl
theorem fct16 : ((Rows.bridgeTwiceRow.loops == (Try.f13.params.toList ++ Rows.bridgeTwiceSpec.plain.varTypes Try.prog).any (Try.prog.loopsFrom ·))) = true := by kernel_rfl
theorem fct17 : ((Rows.bridgeTwiceRow.wideKeys == (Try.f13.params.toList ++ Rows.bridgeTwiceSpec.plain.varTypes Try.prog ++ Try.f13.resultTypes.toList).any (Try.prog.wideKeysFrom ·))) = true := by kernel_rfl
theorem fct18 : (Rows.bridgeTwiceSpec.vars.all (Try.prog.varReadable ·)) = true := by kernel_rfl
theorem fct19 : (Try.f13.resultTypes.all (fun t => Try.prog.readableRec t && decide (t < Try.prog.types.size))) = true := by kernel_rfl
theorem fct20 : ((Rows.bridgeTwiceRow.ifacesOut == Try.f13.resultTypes.toList.any (Try.prog.ifacesRec ·))) = true := by kernel_rfl
theorem fct21 : ((Rows.bridgeTwiceRow.loopsOut == Try.f13.resultTypes.toList.any (Try.prog.loopsFrom ·))) = true := by kernel_rfl
theorem fct22 : ((Rows.bridgeTwiceRow.plainKeys == Try.prog.plainKeys)) = true := by kernel_rfl
theorem fct23 : (Rows.bridgeTwiceRow.shortTexts.isNone) = true := by kernel_rfl
theorem fct24 : (Try.prog.stopsHeard) = true := by kernel_rfl
theorem fct25 : (Try.prog.mayEnter) = true := by kernel_rfl
theorem fct26 : ((Rows.bridgeTwiceRow.lifted == Try.prog.liftsFinal)) = true := by kernel_rfl
theorem fct27 : ((Try.prog.make == some Rows.bridgeTwiceRow.make)) = true := by kernel_rfl
theorem fct28 : ((Rows.bridgeTwiceRow.kinds == (if Rows.bridgeTwiceRow.domain.isEmpty then [] else Try.f13.params.toList.map fun t => match Try.prog.underlying t with | some (.int k) => some k | _ => none))) = true := by kernel_rfl
theorem fct29 : ((Rows.bridgeTwiceRow.pinned == Rows.bridgeTwiceRow.pinnedBy)) = true := by kernel_rfl
theorem fct30 : ((Rows.bridgeTwiceRow.veiled == (Try.f13.params.toList ++ Rows.bridgeTwiceSpec.plain.varTypes Try.prog ++ Try.f13.resultTypes.toList).any (Try.prog.veiledRec ·))) = true := by kernel_rfl
theorem fct31 : (Rows.bridgeTwiceRow.veiledFits Try.prog Try.f13.params.toList (Try.f13.params.toList ++ Rows.bridgeTwiceSpec.plain.varTypes Try.prog ++ Try.f13.resultTypes.toList)) = true := by kernel_rfl
theorem closed : joinedFacts Try.prog 13 Try.f13 Rows.bridgeTwiceSpec Rows.bridgeTwiceRow = true :=
 (andI (andI (andI (andI (andI (andI (andI (andI (andI (andI (andI (andI (andI (andI (andI (andI (andI (andI (andI (andI (andI (andI (andI (andI (andI (andI (andI (andI (andI (andI (andI fct0 fct1) fct2) fct3) fct4) fct5) fct6) fct7) fct8) fct9) fct10) fct11) fct12) fct13) fct14) fct15) fct16) fct17) fct18) fct19) fct20) fct21) fct22) fct23) fct24) fct25) fct26) fct27) fct28) fct29) fct30) fct31)
theorem over : Rows.bridgeTwiceRow.holds Try.pinned (OpenSpec.ofChange Rows.bridgeTwiceSpec) :=
 OpenClaim.holds_of_wide 13 Try.f13 rfl rfl rfl rfl rfl rfl rfl ⟨rfl, rfl, rfl, rfl, rfl⟩ rfl rfl rfl rfl rfl (by kernel_rfl) Try.func13 closed
  (of_decide_eq_true (by kernel_rfl)) (by unfold Func.isWrapper; first | (rw [if_pos (by decide +kernel)]; kernel_rfl) | (rw [if_neg (by decide +kernel)]; exact ⟨rfl, rfl⟩))
  (fun os started H enc _ => lifted os started H enc)
theorem proved : Rows.BridgeTwiceSaid := over
#print axioms proved
end Go.Proofs.Ytacmbiohjiogiaa.BridgeTwice

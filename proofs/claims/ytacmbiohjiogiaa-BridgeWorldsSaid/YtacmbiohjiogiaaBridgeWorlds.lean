/- Proved: for all worlds, lists, scenes and entities the law BridgeWorlds returns true: World returns the world, the contacts and the faults of the reference. No condition beyond the row's own. -/
import Derived.Test.YtacmbiohjiogiaaRows
import Derived.Test.YtacmbiohjiogiaaQ6
namespace Go.Proofs.Ytacmbiohjiogiaa.BridgeWorlds
open Go.ChangeShapes Go.WideShapes Go.ChangeAt Go.RowKit Go.Proofs.Ytacmbiohjiogiaa.K
open Go.ChangeMaps (open_string shut_string)
set_option linter.unusedVariables false
set_option maxRecDepth 100000

theorem own : ownKnob Try.prog.godebug = none := by kernel_rfl
theorem laidOut : laidOutB Try.prog = true := by kernel_rfl
theorem lifted (os : Os) (started : os.Started) (H : Type) (enc : TypeId × Value → H) :
  ReturnsInHanded {} Try.checked os 10 .any (Rows.bridgeWorldsSpec.pre6 enc Try.prog Try.f10 Rows.bridgeWorldsRow.domain false) (Rows.bridgeWorldsSpec.post enc Try.prog Try.f10 false true false false) := by
 refine returnsInHanded_of_change_sized (C := Try.checked) own started (by kernel_rfl) Try.func10
  (ChangeSpec.witness6 (enc := enc) (C := Try.checked) false ⟨#[], #[.agg #[.slice none 0 0, .slice none 0 0, .slice none 0 0], .slice none 0 0, .slice none 0 0, .agg #[.slice none 0 0, .slice none 0 0, .slice none 0 0, .int .i64 0, .int .i64 0, .int .i64 0], .slice none 0 0], []⟩ 8 (by kernel_rfl) (by kernel_rfl) (by kernel_rfl) (by kernel_rfl)) ?_
 intro W base args ds gs before hval0 hW hcnd hsz0 _; have hval : ∀ (j : Nat) t v, Try.f10.params[j]? = some t → args[j]? = some v → Value.okWide Try.prog W .any base t v := hval0; have hsz : (DataW.weightsEach Try.prog (Try.f10.params.toList ++ Rows.bridgeWorldsSpec.plain.varTypes Try.prog) (ds ++ gs)).all (· ≤ reachBytes) = true := hsz0; have hW' := hW; obtain ⟨p, q, hA0, hV, rfl, hfz, hnd⟩ := hW; have hA : DataW.TrodAll enc Try.prog W 0 (fun _ => true) true Try.f10.params.toList args.toList ds p := hA0; rw [Try.params10] at hA hval hsz; obtain ⟨v0, vs0, d0, ds0, p0, q0, hargs, rfl, rfl, h0, r0⟩ := trodAll_cons hA; obtain ⟨v1, vs1, d1, ds1, p1, q1, rfl, rfl, rfl, h1, r1⟩ := trodAll_cons r0; obtain ⟨v2, vs2, d2, ds2, p2, q2, rfl, rfl, rfl, h2, r2⟩ := trodAll_cons r1; obtain ⟨v3, vs3, d3, ds3, p3, q3, rfl, rfl, rfl, h3, r3⟩ := trodAll_cons r2; obtain ⟨v4, vs4, d4, ds4, p4, q4, rfl, rfl, rfl, h4, r4⟩ := trodAll_cons r3; obtain ⟨rfl, rfl, rfl⟩ := trodAll_nil r4; obtain rfl : args = #[v0, v1, v2, v3, v4] := by cases args; simp_all
 obtain ⟨rfl, rfl⟩ := trodVars_none hV; have k0 := h0; have lt0 : ∀ x ∈ p0, x.block < W.heap.size := by obtain ⟨m, hm⟩ := k0; exact DataW.trod_lt m _ _ _ hm
 obtain ⟨cs0, rfl, hsz0⟩ := okWide_struct Try.underlying47 (hval 0 47 v0 rfl rfl); obtain ⟨q0, hv0, hS0⟩ : ∃ q : WR, cs0 = (encW q).toArray ∧ WOK (memOf W) q := by
  obtain ⟨fuel, hf⟩ := k0; obtain ⟨q, hcs, hS⟩ := opens_wd (cnd_w _) fuel _ _ hf (cnw_of hsz (j := 0) rfl rfl); exact ⟨q, by rw [← hcs]; simp [Value.cells], hS⟩
 subst hv0; have k1 := h1; have lt1 : ∀ x ∈ p1, x.block < W.heap.size := by obtain ⟨m, hm⟩ := k1; exact DataW.trod_lt m _ _ _ hm
 obtain ⟨a1, len1, cap1, rfl⟩ := okWide_slice Try.underlying22 (hval 1 22 v1 rfl rfl); obtain ⟨xs1, hl1, hq1, hc1, hR1, hb1⟩ : ∃ xs : List Int, xs.length = len1 ∧ len1 ≤ cap1 ∧ Cels (memOf W) [] a1 (xs.flatMap (fun a => [Value.int .i64 a])) ∧ (∀ a ∈ xs, (inK .i64) a) ∧ len1 * 8 ≤ 140737488351232 := by
  obtain ⟨fuel, hf⟩ := k1; obtain ⟨A, l, c, xs, hcs, g1, g2, g3, g4, g5, g6⟩ := open_elems (fun a => [Value.int .i64 a]) (inK .i64) (fun _ => rfl) (by decide) Try.underlying22 (by kernel_rfl) (el_int Try.underlying3) hf; simp [Value.cells] at hcs; obtain ⟨rfl, rfl, rfl⟩ := hcs; exact ⟨xs, g1, g2, g4, g5, reach hsz Try.underlying22 (j := 1) rfl rfl (by kernel_rfl) g6⟩
 have k2 := h2; have lt2 : ∀ x ∈ p2, x.block < W.heap.size := by obtain ⟨m, hm⟩ := k2; exact DataW.trod_lt m _ _ _ hm
 obtain ⟨a2, len2, cap2, rfl⟩ := okWide_slice Try.underlying22 (hval 2 22 v2 rfl rfl); obtain ⟨xs2, hl2, hq2, hc2, hR2, hb2⟩ : ∃ xs : List Int, xs.length = len2 ∧ len2 ≤ cap2 ∧ Cels (memOf W) [] a2 (xs.flatMap (fun a => [Value.int .i64 a])) ∧ (∀ a ∈ xs, (inK .i64) a) ∧ len2 * 8 ≤ 140737488351232 := by
  obtain ⟨fuel, hf⟩ := k2; obtain ⟨A, l, c, xs, hcs, g1, g2, g3, g4, g5, g6⟩ := open_elems (fun a => [Value.int .i64 a]) (inK .i64) (fun _ => rfl) (by decide) Try.underlying22 (by kernel_rfl) (el_int Try.underlying3) hf; simp [Value.cells] at hcs; obtain ⟨rfl, rfl, rfl⟩ := hcs; exact ⟨xs, g1, g2, g4, g5, reach hsz Try.underlying22 (j := 2) rfl rfl (by kernel_rfl) g6⟩
 have k3 := h3; have lt3 : ∀ x ∈ p3, x.block < W.heap.size := by obtain ⟨m, hm⟩ := k3; exact DataW.trod_lt m _ _ _ hm
 obtain ⟨cs3, rfl, hsz3⟩ := okWide_struct Try.underlying100 (hval 3 100 v3 rfl rfl); obtain ⟨q3, hv3, hS3⟩ : ∃ q : SnR, cs3 = (encSn q).toArray ∧ SnOK (memOf W) q := by
  obtain ⟨fuel, hf⟩ := k3; obtain ⟨q, hcs, hS⟩ := opens_sn (cnd_w _) fuel _ _ hf (cnw_of hsz (j := 3) rfl rfl); exact ⟨q, by rw [← hcs]; simp [Value.cells], hS⟩
 subst hv3; have k4 := h4; have lt4 : ∀ x ∈ p4, x.block < W.heap.size := by obtain ⟨m, hm⟩ := k4; exact DataW.trod_lt m _ _ _ hm
 obtain ⟨a4, len4, cap4, rfl⟩ := okWide_slice Try.underlying101 (hval 4 101 v4 rfl rfl); obtain ⟨q4, hv4, hS4⟩ : ∃ q : SR (Int × Int), Value.slice a4 len4 cap4 = .slice q.A q.n q.c ∧ SOK (memOf W) 16 0 encV2 (fun _ => True) q := by
  obtain ⟨fuel, hf⟩ := k4; obtain ⟨q, hcs, hS⟩ := opens_ens (cnd_w _) fuel _ _ hf (cnw_of hsz (j := 4) rfl rfl); simp [Value.cells, encS] at hcs; exact ⟨q, by simp [hcs], hS⟩
 obtain ⟨q4A, q4n, q4c, q4xs⟩ := q4; simp only [Value.slice.injEq] at hv4; obtain ⟨rfl, rfl, rfl⟩ := hv4
 clear hA0 hval0
 subst hl1 hl2; refine (law_calls ((BridgeWorlds_c q0 hS0 a1 xs1.length cap1 xs1 (flat_one xs1 ▸ hc1) rfl (by omega) a2 xs2.length cap2 xs2 (flat_one xs2 ▸ hc2) rfl (by omega) _ _ _ q3.bs hS3.1.2.2.2 hS3.1.1 hS3.1.2.2.1 _ _ _ _ _ _ q3.cs hS3.2.2.2.2 hS3.2.1 hS3.2.2.2.1 _ _ _ _ _ _ q4xs (ens_in hS4).2.2.2 (ens_in hS4).1 (ens_in hS4).2.2.1).mono fun _ _ h => h.1)).mono fun e W' ⟨he, bel⟩ => ?_; subst he; exact ⟨_, rfl, _, _, _, [], _, [], hW', trodAll_mk1 (shut_bool Try.underlying4 _), (trodAll_cons_mk (Below.trod laidOut (by kernel_rfl) (of_decide_eq_true (by kernel_rfl)) k0 bel lt0) (trodAll_cons_mk (Below.trod laidOut (by kernel_rfl) (of_decide_eq_true (by kernel_rfl)) k1 bel lt1) (trodAll_cons_mk (Below.trod laidOut (by kernel_rfl) (of_decide_eq_true (by kernel_rfl)) k2 bel lt2) (trodAll_cons_mk (Below.trod laidOut (by kernel_rfl) (of_decide_eq_true (by kernel_rfl)) k3 bel lt3) (trodAll_cons_mk (Below.trod laidOut (by kernel_rfl) (of_decide_eq_true (by kernel_rfl)) k4 bel lt4) trodAll_mk0))))), rfl, bel.frame _, fun h => by cases h⟩
theorem andI {a b : Bool} (h : a = true) (h' : b = true) : (a && b) = true := by rw [h, h']; rfl
theorem fct0 : (Rows.bridgeWorldsRow.wf (OpenSpec.ofChange Rows.bridgeWorldsSpec)) = true := by kernel_rfl
theorem fct1 : (laidOutB Try.prog) = true := by kernel_rfl
theorem fct2 : (mapsRowed Try.prog) = true := by kernel_rfl
theorem fct3 : (Try.f10.params.all (Try.prog.readableRec ·)) = true := by kernel_rfl
theorem fct4 : (namedTie Try.prog Rows.bridgeWorldsRow.named Rows.bridgeWorldsSpec.vars) = true := by kernel_rfl
theorem fct5 : ((Rows.bridgeWorldsRow.stops == [])) = true := by kernel_rfl
theorem fct6 : ((Try.prog.stops == [])) = true := by kernel_rfl
theorem fct7 : ((Rows.bridgeWorldsRow.knobs == [])) = true := by kernel_rfl
theorem fct8 : ((Try.prog.stopKnobs == [])) = true := by kernel_rfl
theorem fct9 : ((Rows.bridgeWorldsRow.inPlace == Try.prog.inPlace 10)) = true := by kernel_rfl
theorem fct10 : ((Rows.bridgeWorldsRow.unfollowed == Try.prog.unfollowed 10)) = true := by kernel_rfl
theorem fct11 : ((Rows.bridgeWorldsRow.recurses == Try.prog.recurses 10)) = true := by kernel_rfl
theorem fct12 : ((Rows.bridgeWorldsRow.named == Try.prog.varsNamed 10)) = true := by kernel_rfl
theorem fct13 : ((Rows.bridgeWorldsRow.maps == (Try.f10.params.toList ++ Rows.bridgeWorldsSpec.plain.varTypes Try.prog).any (Try.prog.mapsRec ·))) = true := by kernel_rfl
theorem fct14 : ((Rows.bridgeWorldsRow.ifaces == (Try.f10.params.toList ++ Rows.bridgeWorldsSpec.plain.varTypes Try.prog).any (Try.prog.ifacesRec ·))) = true := by kernel_rfl
theorem fct15 : ((Rows.bridgeWorldsRow.mapsOut == Try.prog.mapsAmong Try.f10.resultTypes.toList)) = true := by kernel_rfl
theorem fct16 : ((Rows.bridgeWorldsRow.loops == (Try.f10.params.toList ++ Rows.bridgeWorldsSpec.plain.varTypes Try.prog).any (Try.prog.loopsFrom ·))) = true := by kernel_rfl
theorem fct17 : ((Rows.bridgeWorldsRow.wideKeys == (Try.f10.params.toList ++ Rows.bridgeWorldsSpec.plain.varTypes Try.prog ++ Try.f10.resultTypes.toList).any (Try.prog.wideKeysFrom ·))) = true := by kernel_rfl
theorem fct18 : (Rows.bridgeWorldsSpec.vars.all (Try.prog.varReadable ·)) = true := by kernel_rfl
theorem fct19 : (Try.f10.resultTypes.all (fun t => Try.prog.readableRec t && decide (t < Try.prog.types.size))) = true := by kernel_rfl
theorem fct20 : ((Rows.bridgeWorldsRow.ifacesOut == Try.f10.resultTypes.toList.any (Try.prog.ifacesRec ·))) = true := by kernel_rfl
theorem fct21 : ((Rows.bridgeWorldsRow.loopsOut == Try.f10.resultTypes.toList.any (Try.prog.loopsFrom ·))) = true := by kernel_rfl
theorem fct22 : ((Rows.bridgeWorldsRow.plainKeys == Try.prog.plainKeys)) = true := by kernel_rfl
theorem fct23 : (Rows.bridgeWorldsRow.shortTexts.isNone) = true := by kernel_rfl
theorem fct24 : (Try.prog.stopsHeard) = true := by kernel_rfl
theorem fct25 : (Try.prog.mayEnter) = true := by kernel_rfl
theorem fct26 : ((Rows.bridgeWorldsRow.lifted == Try.prog.liftsFinal)) = true := by kernel_rfl
theorem fct27 : ((Try.prog.make == some Rows.bridgeWorldsRow.make)) = true := by kernel_rfl
theorem fct28 : ((Rows.bridgeWorldsRow.kinds == (if Rows.bridgeWorldsRow.domain.isEmpty then [] else Try.f10.params.toList.map fun t => match Try.prog.underlying t with | some (.int k) => some k | _ => none))) = true := by kernel_rfl
theorem fct29 : ((Rows.bridgeWorldsRow.pinned == Rows.bridgeWorldsRow.pinnedBy)) = true := by kernel_rfl
theorem fct30 : ((Rows.bridgeWorldsRow.veiled == (Try.f10.params.toList ++ Rows.bridgeWorldsSpec.plain.varTypes Try.prog ++ Try.f10.resultTypes.toList).any (Try.prog.veiledRec ·))) = true := by kernel_rfl
theorem fct31 : (Rows.bridgeWorldsRow.veiledFits Try.prog Try.f10.params.toList (Try.f10.params.toList ++ Rows.bridgeWorldsSpec.plain.varTypes Try.prog ++ Try.f10.resultTypes.toList)) = true := by kernel_rfl
theorem closed : joinedFacts Try.prog 10 Try.f10 Rows.bridgeWorldsSpec Rows.bridgeWorldsRow = true :=
 (andI (andI (andI (andI (andI (andI (andI (andI (andI (andI (andI (andI (andI (andI (andI (andI (andI (andI (andI (andI (andI (andI (andI (andI (andI (andI (andI (andI (andI (andI (andI fct0 fct1) fct2) fct3) fct4) fct5) fct6) fct7) fct8) fct9) fct10) fct11) fct12) fct13) fct14) fct15) fct16) fct17) fct18) fct19) fct20) fct21) fct22) fct23) fct24) fct25) fct26) fct27) fct28) fct29) fct30) fct31)
theorem over : Rows.bridgeWorldsRow.holds Try.pinned (OpenSpec.ofChange Rows.bridgeWorldsSpec) :=
 OpenClaim.holds_of_wide 10 Try.f10 rfl rfl rfl rfl rfl rfl rfl ⟨rfl, rfl, rfl, rfl, rfl⟩ rfl rfl rfl rfl rfl (by kernel_rfl) Try.func10 closed
  (of_decide_eq_true (by kernel_rfl)) (by unfold Func.isWrapper; first | (rw [if_pos (by decide +kernel)]; kernel_rfl) | (rw [if_neg (by decide +kernel)]; exact ⟨rfl, rfl⟩))
  (fun os started H enc _ => lifted os started H enc)
theorem proved : Rows.BridgeWorldsSaid := over
#print axioms proved
end Go.Proofs.Ytacmbiohjiogiaa.BridgeWorlds

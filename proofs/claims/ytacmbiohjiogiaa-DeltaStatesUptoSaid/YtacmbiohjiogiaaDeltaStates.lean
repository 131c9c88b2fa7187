/- Proved: for all states whose reading is of bulk at most 1048576 the law DeltaStates returns true: Make and Apply return the specified results. No condition beyond the row's own. -/
import Derived.Test.YtacmbiohjiogiaaRows
import Derived.Test.YtacmbiohjiogiaaQ3
import Derived.Deep.CondSized
namespace Go.Proofs.Ytacmbiohjiogiaa.DeltaStates
open Go.ChangeShapes Go.WideShapes Go.ChangeAt Go.RowKit Go.Proofs.Ytacmbiohjiogiaa.K
open Go.ChangeMaps (open_string shut_string)
set_option linter.unusedVariables false
set_option maxRecDepth 100000
theorem own : ownKnob Try.prog.godebug = none := by kernel_rfl
theorem laidOut : laidOutB Try.prog = true := by kernel_rfl
theorem lifted (os : Os) (started : os.Started) (H : Type) (enc : TypeId × Value → H) (F : Stop.Interp) :
  ReturnsInHanded {} Try.checked os 7 .any ((Rows.OpenSpec.upto Rows.deltaStatesSpec).pre6 enc Try.prog Try.f7 Rows.deltaStatesUptoRow.domain false) (((Rows.OpenSpec.upto Rows.deltaStatesSpec).at F).post enc Try.prog Try.f7 false true false false) := by
 refine returnsInHanded_of_cond_sized (C := Try.checked) (s := Rows.OpenSpec.upto Rows.deltaStatesSpec) (k := Rows.uptoSmall) rfl own started (by kernel_rfl) Try.func7
  (OpenSpec.witness (enc := enc) (C := Try.checked) (s := Rows.OpenSpec.upto Rows.deltaStatesSpec) (k := Rows.uptoSmall) rfl false ⟨#[], #[.agg #[.int .i64 0, .slice none 0 0, .slice none 0 0, .slice none 0 0, .slice none 0 0, .slice none 0 0, .slice none 0 0], .agg #[.int .i64 0, .slice none 0 0, .slice none 0 0, .slice none 0 0, .slice none 0 0, .slice none 0 0, .slice none 0 0], .agg #[.int .i64 0, .slice none 0 0, .slice none 0 0, .slice none 0 0, .slice none 0 0, .slice none 0 0, .slice none 0 0]], []⟩ 8 (by kernel_rfl) (by kernel_rfl) (by kernel_rfl) (x := ([.agg [.lit (.int .i64 0), .agg [.nil, .nil, .nil], .nil, .nil, .nil], .agg [.lit (.int .i64 0), .agg [.nil, .nil, .nil], .nil, .nil, .nil], .agg [.lit (.int .i64 0), .agg [.nil, .nil, .nil], .nil, .nil, .nil]], [], [])) (by kernel_rfl) rfl (by kernel_rfl)) ?_
 intro W base args ds gs before hval0 hW hcnd hk0 hsz0 _; have hval : ∀ (j : Nat) t v, Try.f7.params[j]? = some t → args[j]? = some v → Value.okWide Try.prog W .any base t v := hval0; have hsz : (DataW.weightsEach Try.prog (Try.f7.params.toList ++ Rows.deltaStatesSpec.plain.varTypes Try.prog) (ds ++ gs)).all (· ≤ reachBytes) = true := hsz0; have hW' := hW; obtain ⟨p, q, hA0, hV, rfl, hfz, hnd⟩ := hW; have hA : DataW.TrodAll enc Try.prog W 0 (fun _ => true) true Try.f7.params.toList args.toList ds p := hA0; rw [Try.params7] at hA hval hsz; obtain ⟨v0, vs0, d0, ds0, p0, q0, hargs, rfl, rfl, h0, r0⟩ := trodAll_cons hA; obtain ⟨v1, vs1, d1, ds1, p1, q1, rfl, rfl, rfl, h1, r1⟩ := trodAll_cons r0; obtain ⟨v2, vs2, d2, ds2, p2, q2, rfl, rfl, rfl, h2, r2⟩ := trodAll_cons r1; obtain ⟨rfl, rfl, rfl⟩ := trodAll_nil r2; obtain rfl : args = #[v0, v1, v2] := by cases args; simp_all
 obtain ⟨rfl, rfl⟩ := trodVars_none hV; have k0 := h0; have lt0 : ∀ x ∈ p0, x.block < W.heap.size := by obtain ⟨m, hm⟩ := k0; exact DataW.trod_lt m _ _ _ hm
 obtain ⟨cs0, rfl, hsz0⟩ := okWide_struct Try.underlying75 (hval 0 75 v0 rfl rfl); obtain ⟨q0, hv0, hS0, hI0, hB0⟩ : ∃ q : StR, cs0 = (encSt q).toArray ∧ StOK (memOf W) q ∧ (∀ y ∈ flS q, inK .i64 y) ∧ (flS q).length ≤ 1048576 := by
  obtain ⟨fuel, hf⟩ := k0; have hcn := cnb_of hsz hk0 (j := 0) rfl rfl (by simp); obtain ⟨q, hcs, hS, hI, hB⟩ := openM_st fuel _ _ hf hcn.1; exact ⟨q, by rw [← hcs]; simp [Value.cells], hS, hI, Nat.le_trans hB hcn.2⟩
 subst hv0; have k1 := h1; have lt1 : ∀ x ∈ p1, x.block < W.heap.size := by obtain ⟨m, hm⟩ := k1; exact DataW.trod_lt m _ _ _ hm
 obtain ⟨cs1, rfl, hsz1⟩ := okWide_struct Try.underlying75 (hval 1 75 v1 rfl rfl); obtain ⟨q1, hv1, hS1, hI1, hB1⟩ : ∃ q : StR, cs1 = (encSt q).toArray ∧ StOK (memOf W) q ∧ (∀ y ∈ flS q, inK .i64 y) ∧ (flS q).length ≤ 1048576 := by
  obtain ⟨fuel, hf⟩ := k1; have hcn := cnb_of hsz hk0 (j := 1) rfl rfl (by simp); obtain ⟨q, hcs, hS, hI, hB⟩ := openM_st fuel _ _ hf hcn.1; exact ⟨q, by rw [← hcs]; simp [Value.cells], hS, hI, Nat.le_trans hB hcn.2⟩
 subst hv1; have k2 := h2; have lt2 : ∀ x ∈ p2, x.block < W.heap.size := by obtain ⟨m, hm⟩ := k2; exact DataW.trod_lt m _ _ _ hm
 obtain ⟨cs2, rfl, hsz2⟩ := okWide_struct Try.underlying75 (hval 2 75 v2 rfl rfl); obtain ⟨q2, hv2, hS2, hI2, hB2⟩ : ∃ q : StR, cs2 = (encSt q).toArray ∧ StOK (memOf W) q ∧ (∀ y ∈ flS q, inK .i64 y) ∧ (flS q).length ≤ 1048576 := by
  obtain ⟨fuel, hf⟩ := k2; have hcn := cnb_of hsz hk0 (j := 2) rfl rfl (by simp); obtain ⟨q, hcs, hS, hI, hB⟩ := openM_st fuel _ _ hf hcn.1; exact ⟨q, by rw [← hcs]; simp [Value.cells], hS, hI, Nat.le_trans hB hcn.2⟩
 subst hv2
 clear hA0 hval0
 skip
 refine (law_calls ((DeltaStates_c q0 q1 q2 hS0 hS1 hS2 hB0 hB1 hB2 hI1).mono fun _ _ h => h.1)).mono fun e W' ⟨he, bel⟩ => ?_; subst he; exact ⟨_, rfl, _, _, _, [], _, [], hW', trodAll_mk1 (shut_bool Try.underlying4 _), (trodAll_cons_mk (Below.trod laidOut (by kernel_rfl) (of_decide_eq_true (by kernel_rfl)) k0 bel lt0) (trodAll_cons_mk (Below.trod laidOut (by kernel_rfl) (of_decide_eq_true (by kernel_rfl)) k1 bel lt1) (trodAll_cons_mk (Below.trod laidOut (by kernel_rfl) (of_decide_eq_true (by kernel_rfl)) k2 bel lt2) trodAll_mk0))), rfl, bel.frame _, fun h => by cases h⟩
theorem andI {a b : Bool} (h : a = true) (h' : b = true) : (a && b) = true := by rw [h, h']; rfl
theorem fct0 : (Rows.deltaStatesUptoRow.wf (OpenSpec.ofChange (Rows.OpenSpec.upto Rows.deltaStatesSpec).bare)) = true := by kernel_rfl
theorem fct1 : (laidOutB Try.prog) = true := by kernel_rfl
theorem fct2 : (mapsRowed Try.prog) = true := by kernel_rfl
theorem fct3 : (Try.f7.params.all (Try.prog.readableRec ·)) = true := by kernel_rfl
theorem fct4 : (namedTie Try.prog Rows.deltaStatesUptoRow.named (Rows.OpenSpec.upto Rows.deltaStatesSpec).bare.vars) = true := by kernel_rfl
theorem fct5 : ((Rows.deltaStatesUptoRow.stops == [])) = true := by kernel_rfl
theorem fct6 : ((Try.prog.stops == [])) = true := by kernel_rfl
theorem fct7 : ((Rows.deltaStatesUptoRow.knobs == [])) = true := by kernel_rfl
theorem fct8 : ((Try.prog.stopKnobs == [])) = true := by kernel_rfl
theorem fct9 : ((Rows.deltaStatesUptoRow.inPlace == Try.prog.inPlace 7)) = true := by kernel_rfl
theorem fct10 : ((Rows.deltaStatesUptoRow.unfollowed == Try.prog.unfollowed 7)) = true := by kernel_rfl
theorem fct11 : ((Rows.deltaStatesUptoRow.recurses == Try.prog.recurses 7)) = true := by kernel_rfl
theorem fct12 : ((Rows.deltaStatesUptoRow.named == Try.prog.varsNamed 7)) = true := by kernel_rfl
theorem fct13 : ((Rows.deltaStatesUptoRow.maps == (Try.f7.params.toList ++ (Rows.OpenSpec.upto Rows.deltaStatesSpec).bare.plain.varTypes Try.prog).any (Try.prog.mapsRec ·))) = true := by kernel_rfl
theorem fct14 : ((Rows.deltaStatesUptoRow.ifaces == (Try.f7.params.toList ++ (Rows.OpenSpec.upto Rows.deltaStatesSpec).bare.plain.varTypes Try.prog).any (Try.prog.ifacesRec ·))) = true := by kernel_rfl
theorem fct15 : ((Rows.deltaStatesUptoRow.mapsOut == Try.prog.mapsAmong Try.f7.resultTypes.toList)) = true := by kernel_rfl
theorem fct16 : ((Rows.deltaStatesUptoRow.loops == (Try.f7.params.toList ++ (Rows.OpenSpec.upto Rows.deltaStatesSpec).bare.plain.varTypes Try.prog).any (Try.prog.loopsFrom ·))) = true := by kernel_rfl
theorem fct17 : ((Rows.deltaStatesUptoRow.wideKeys == (Try.f7.params.toList ++ (Rows.OpenSpec.upto Rows.deltaStatesSpec).bare.plain.varTypes Try.prog ++ Try.f7.resultTypes.toList).any (Try.prog.wideKeysFrom ·))) = true := by kernel_rfl
theorem fct18 : ((Rows.OpenSpec.upto Rows.deltaStatesSpec).bare.vars.all (Try.prog.varReadable ·)) = true := by kernel_rfl
theorem fct19 : (Try.f7.resultTypes.all (fun t => Try.prog.readableRec t && decide (t < Try.prog.types.size))) = true := by kernel_rfl
theorem fct20 : ((Rows.deltaStatesUptoRow.ifacesOut == Try.f7.resultTypes.toList.any (Try.prog.ifacesRec ·))) = true := by kernel_rfl
theorem fct21 : ((Rows.deltaStatesUptoRow.loopsOut == Try.f7.resultTypes.toList.any (Try.prog.loopsFrom ·))) = true := by kernel_rfl
theorem fct22 : ((Rows.deltaStatesUptoRow.plainKeys == Try.prog.plainKeys)) = true := by kernel_rfl
theorem fct23 : (Rows.deltaStatesUptoRow.shortTexts.isNone) = true := by kernel_rfl
theorem fct24 : (Try.prog.stopsHeard) = true := by kernel_rfl
theorem fct25 : (Try.prog.mayEnter) = true := by kernel_rfl
theorem fct26 : ((Rows.deltaStatesUptoRow.lifted == Try.prog.liftsFinal)) = true := by kernel_rfl
theorem fct27 : ((Try.prog.make == some Rows.deltaStatesUptoRow.make)) = true := by kernel_rfl
theorem fct28 : ((Rows.deltaStatesUptoRow.kinds == (if Rows.deltaStatesUptoRow.domain.isEmpty then [] else Try.f7.params.toList.map fun t => match Try.prog.underlying t with | some (.int k) => some k | _ => none))) = true := by kernel_rfl
theorem fct29 : ((Rows.deltaStatesUptoRow.pinned == Rows.deltaStatesUptoRow.pinnedBy)) = true := by kernel_rfl
theorem fct30 : ((Rows.deltaStatesUptoRow.veiled == (Try.f7.params.toList ++ (Rows.OpenSpec.upto Rows.deltaStatesSpec).bare.plain.varTypes Try.prog ++ Try.f7.resultTypes.toList).any (Try.prog.veiledRec ·))) = true := by kernel_rfl
theorem fct31 : (Rows.deltaStatesUptoRow.veiledFits Try.prog Try.f7.params.toList (Try.f7.params.toList ++ (Rows.OpenSpec.upto Rows.deltaStatesSpec).bare.plain.varTypes Try.prog ++ Try.f7.resultTypes.toList)) = true := by kernel_rfl
theorem closed : joinedFacts Try.prog 7 Try.f7 (Rows.OpenSpec.upto Rows.deltaStatesSpec).bare Rows.deltaStatesUptoRow = true :=
 (andI (andI (andI (andI (andI (andI (andI (andI (andI (andI (andI (andI (andI (andI (andI (andI (andI (andI (andI (andI (andI (andI (andI (andI (andI (andI (andI (andI (andI (andI (andI fct0 fct1) fct2) fct3) fct4) fct5) fct6) fct7) fct8) fct9) fct10) fct11) fct12) fct13) fct14) fct15) fct16) fct17) fct18) fct19) fct20) fct21) fct22) fct23) fct24) fct25) fct26) fct27) fct28) fct29) fct30) fct31)
theorem over : Rows.deltaStatesUptoRow.holds Try.pinned (Rows.OpenSpec.upto Rows.deltaStatesSpec) :=
 OpenClaim.holds_of_cond 7 Try.f7 rfl rfl rfl rfl rfl rfl rfl ⟨rfl, rfl, rfl, rfl, rfl⟩ rfl rfl rfl rfl rfl (by kernel_rfl) Try.func7 closed
  (of_decide_eq_true (by kernel_rfl)) (by unfold Func.isWrapper; first | (rw [if_pos (by decide +kernel)]; kernel_rfl) | (rw [if_neg (by decide +kernel)]; exact ⟨rfl, rfl⟩))
  (fun os started H enc _ F => lifted os started H enc F)
theorem proved : Rows.DeltaStatesUptoSaid := over
#print axioms proved
end Go.Proofs.Ytacmbiohjiogiaa.DeltaStates

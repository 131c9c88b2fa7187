/- Proved: for all lists of kinds the law BridgeMaps returns true: Of returns the specified result. No condition beyond the row's own. -/
import Derived.Test.YtdgmocibjjkghaaRows
import Derived.Test.YtdgmocibjjkghaaK6
import Derived.Test.YtdgmocibjjkghaaM6
namespace Go.Proofs.Ytdgmocibjjkghaa.BridgeMaps
open Go.ChangeShapes Go.WideShapes Go.ChangeAt Go.RowKit Go.Proofs.Ytdgmocibjjkghaa.K
open Go.ChangeMaps (open_string shut_string)
set_option linter.unusedVariables false
set_option maxRecDepth 100000

theorem own : ownKnob Try.prog.godebug = none := by kernel_rfl
theorem laidOut : laidOutB Try.prog = true := by kernel_rfl
theorem lifted (os : Os) (started : os.Started) (H : Type) (enc : TypeId × Value → H) :
    ReturnsInHanded {} Try.checked os 5 .any (Rows.bridgeMapsSpec.pre6 enc Try.prog Try.f5 Rows.bridgeMapsRow.domain false) (Rows.bridgeMapsSpec.post enc Try.prog Try.f5 false true false false) := by
  refine returnsInHanded_of_change_sized (C := Try.checked) own started (by kernel_rfl) Try.func5
    (ChangeSpec.witness6 (enc := enc) (C := Try.checked) false ⟨#[], #[.slice none 0 0], []⟩ 8 (by kernel_rfl) (by kernel_rfl) (by kernel_rfl) (by kernel_rfl)) ?_
  intro W base args ds gs before hval0 hW hcnd hsz0 _
  have hval : ∀ (j : Nat) t v, Try.f5.params[j]? = some t → args[j]? = some v → Value.okWide Try.prog W .any base t v := hval0
  have hsz : (DataW.weightsEach Try.prog (Try.f5.params.toList ++ Rows.bridgeMapsSpec.plain.varTypes Try.prog) (ds ++ gs)).all (· ≤ reachBytes) = true := hsz0
  have hW' := hW
  obtain ⟨p, q, hA0, hV, rfl, hfz, hnd⟩ := hW
  have hA : DataW.TrodAll enc Try.prog W 0 (fun _ => true) true Try.f5.params.toList args.toList ds p := hA0
  rw [Try.params5] at hA hval hsz
  obtain ⟨v0, vs0, d0, ds0, p0, q0, hargs, rfl, rfl, h0, r0⟩ := trodAll_cons hA
  obtain ⟨rfl, rfl, rfl⟩ := trodAll_nil r0
  obtain rfl : args = #[v0] := by cases args; simp_all
  obtain ⟨rfl, rfl⟩ := trodVars_none hV
  have k0 := h0
  have lt0 : ∀ x ∈ p0, x.block < W.heap.size := by obtain ⟨m, hm⟩ := k0; exact DataW.trod_lt m _ _ _ hm
  obtain ⟨a0, len0, cap0, rfl⟩ := okWide_slice Try.underlying50 (hval 0 50 v0 rfl rfl)
  obtain ⟨q0, hv0, hS0⟩ : ∃ q : SR KR, Value.slice a0 len0 cap0 = .slice q.A q.n q.c ∧ SOK (memOf W) 40 0 encK (KIn W) q := by
    obtain ⟨fuel, hf⟩ := k0
    obtain ⟨q, hcs, hS⟩ := opens_kds (cnd_w _) fuel _ _ hf (cnw_of hsz (j := 0) rfl rfl)
    simp [Value.cells, encS] at hcs
    exact ⟨q, by simp [hcs], hS⟩
  obtain ⟨q0A, q0n, q0c, q0xs⟩ := q0
  simp only [Value.slice.injEq] at hv0
  obtain ⟨rfl, rfl, rfl⟩ := hv0
  clear hA0 hval0
  skip
  refine (law_calls ((BridgeMaps_c _ _ _ q0xs hS0.cels hS0.len hS0.cap (show len0 ≤ 140737488355328 from by have hr : len0 * _ ≤ _ := hS0.reach; omega) (fun k hk => (hS0.all k hk).1)).mono fun _ _ h => h.1)).mono fun e W' ⟨he, bel⟩ => ?_
  subst he
  exact ⟨_, rfl, _, _, _, [], _, [], hW', trodAll_mk1 (shut_bool Try.underlying4 _), (trodAll_cons_mk (Below.trod laidOut (by kernel_rfl) (of_decide_eq_true (by kernel_rfl)) k0 bel lt0) trodAll_mk0), rfl, bel.frame _, fun h => by cases h⟩
theorem over : Rows.bridgeMapsRow.holds Try.pinned (OpenSpec.ofChange Rows.bridgeMapsSpec) :=
  OpenClaim.holds_of_wide 5 Try.f5 rfl rfl rfl rfl rfl rfl rfl ⟨rfl, rfl, rfl, rfl, rfl⟩ rfl rfl rfl rfl rfl (by kernel_rfl) Try.func5 (by kernel_rfl)
    (of_decide_eq_true (by kernel_rfl)) (by unfold Func.isWrapper; first | (rw [if_pos (by decide +kernel)]; kernel_rfl) | (rw [if_neg (by decide +kernel)]; exact ⟨rfl, rfl⟩))
    (fun os started H enc _ => lifted os started H enc)
theorem proved : Rows.BridgeMapsSaid := over
#print axioms proved
end Go.Proofs.Ytdgmocibjjkghaa.BridgeMaps

/- Proved: for all deeds and sequences of calls the law NetSays returns true: the packets of the reference arrive. No condition beyond the row's own. -/
import Derived.Test.YtdgmocibjjkghaaRows
import Derived.Test.YtdgmocibjjkghaaK6
import Derived.Test.YtdgmocibjjkghaaN6
namespace Go.Proofs.Ytdgmocibjjkghaa.NetSays
open Go.ChangeShapes Go.WideShapes Go.ChangeAt Go.RowKit Go.Proofs.Ytdgmocibjjkghaa.K
open Go.ChangeMaps (open_string shut_string)
set_option linter.unusedVariables false
set_option maxRecDepth 100000
theorem el_dd {H : Type} {enc : TypeId × Value → H} {w : World} {base : Nat} {spare : Nat → Bool} {held : Bool} (n : Nat) (cs : List Value) (x : DataW H × List MemPlace) (h : DataW.trod enc Try.prog w base spare held n 36 cs = some x) : ∃ a : DD, cs = encD a ∧ a.fit := by
  obtain ⟨y0, y1, y2, m, _, hl, h0, h1, h2⟩ := Go.Deep.trod_struct3 Try.underlying36 h
  have e3 : Try.prog.cellsOf 36 = 3 := by kernel_rfl
  have e1 : Try.prog.cellsOf 3 = 1 := by kernel_rfl
  rw [e3] at hl
  match cs, hl with
  | [c0, c1, c2], _ =>
    simp only [e1, List.take, List.drop] at h0 h1 h2
    obtain ⟨a, ha, wa⟩ := el_int (k := .i64) Try.underlying3 _ _ _ h0
    obtain ⟨b, hb, wb⟩ := el_int (k := .i64) Try.underlying3 _ _ _ h1
    obtain ⟨c, hc, wc⟩ := el_int (k := .i64) Try.underlying3 _ _ _ h2
    simp at ha hb hc
    subst ha hb hc
    exact ⟨⟨a, b, c⟩, rfl, wa, wb, wc⟩

theorem own : ownKnob Try.prog.godebug = none := by kernel_rfl
theorem laidOut : laidOutB Try.prog = true := by kernel_rfl
theorem lifted (os : Os) (started : os.Started) (H : Type) (enc : TypeId × Value → H) :
    ReturnsInHanded {} Try.checked os 4 .any (Rows.netSaysSpec.pre6 enc Try.prog Try.f4 Rows.netSaysRow.domain false) (Rows.netSaysSpec.post enc Try.prog Try.f4 false true false false) := by
  refine returnsInHanded_of_change_sized (C := Try.checked) own started (by kernel_rfl) Try.func4
    (ChangeSpec.witness6 (enc := enc) (C := Try.checked) false ⟨#[], #[.int .i64 0, .slice none 0 0, .slice none 0 0], []⟩ 8 (by kernel_rfl) (by kernel_rfl) (by kernel_rfl) (by kernel_rfl)) ?_
  intro W base args ds gs before hval0 hW hcnd hsz0 _
  have hval : ∀ (j : Nat) t v, Try.f4.params[j]? = some t → args[j]? = some v → Value.okWide Try.prog W .any base t v := hval0
  have hsz : (DataW.weightsEach Try.prog (Try.f4.params.toList ++ Rows.netSaysSpec.plain.varTypes Try.prog) (ds ++ gs)).all (· ≤ reachBytes) = true := hsz0
  have hW' := hW
  obtain ⟨p, q, hA0, hV, rfl, hfz, hnd⟩ := hW
  have hA : DataW.TrodAll enc Try.prog W 0 (fun _ => true) true Try.f4.params.toList args.toList ds p := hA0
  rw [Try.params4] at hA hval hsz
  obtain ⟨v0, vs0, d0, ds0, p0, q0, hargs, rfl, rfl, h0, r0⟩ := trodAll_cons hA
  obtain ⟨v1, vs1, d1, ds1, p1, q1, rfl, rfl, rfl, h1, r1⟩ := trodAll_cons r0
  obtain ⟨v2, vs2, d2, ds2, p2, q2, rfl, rfl, rfl, h2, r2⟩ := trodAll_cons r1
  obtain ⟨rfl, rfl, rfl⟩ := trodAll_nil r2
  obtain rfl : args = #[v0, v1, v2] := by cases args; simp_all
  obtain ⟨rfl, rfl⟩ := trodVars_none hV
  have k0 := h0
  have lt0 : ∀ x ∈ p0, x.block < W.heap.size := by obtain ⟨m, hm⟩ := k0; exact DataW.trod_lt m _ _ _ hm
  obtain ⟨x0, rfl, rfl, rfl, wx0⟩ := open_int Try.underlying3 (hval 0 3 v0 rfl rfl) h0
  have wi0 : inK .i64 x0 := by simp [Lit.wf, IntKind.min, IntKind.max, IntKind.signed, IntKind.bits] at wx0; simp only [inK]; omega
  have k1 := h1
  have lt1 : ∀ x ∈ p1, x.block < W.heap.size := by obtain ⟨m, hm⟩ := k1; exact DataW.trod_lt m _ _ _ hm
  obtain ⟨a1, len1, cap1, rfl⟩ := okWide_slice Try.underlying22 (hval 1 22 v1 rfl rfl)
  obtain ⟨xs1, hl1, hq1, hc1, hR1, hb1⟩ : ∃ xs : List DD, xs.length = len1 ∧ len1 ≤ cap1 ∧ Cels (memOf W) [] a1 (xs.flatMap encD) ∧ (∀ a ∈ xs, DD.fit a) ∧ len1 * 24 ≤ 140737488351232 := by
    obtain ⟨fuel, hf⟩ := k1
    obtain ⟨A, l, c, xs, hcs, g1, g2, g3, g4, g5, g6⟩ := open_elems encD DD.fit encD_len (by decide) Try.underlying22 (by kernel_rfl) el_dd hf
    simp [Value.cells] at hcs
    obtain ⟨rfl, rfl, rfl⟩ := hcs
    exact ⟨xs, g1, g2, g4, g5, reach hsz Try.underlying22 (j := 1) rfl rfl (by kernel_rfl) g6⟩
  have k2 := h2
  have lt2 : ∀ x ∈ p2, x.block < W.heap.size := by obtain ⟨m, hm⟩ := k2; exact DataW.trod_lt m _ _ _ hm
  obtain ⟨a2, len2, cap2, rfl⟩ := okWide_slice Try.underlying30 (hval 2 30 v2 rfl rfl)
  obtain ⟨xs2, hl2, hq2, hc2, hR2, hb2⟩ : ∃ xs : List Int, xs.length = len2 ∧ len2 ≤ cap2 ∧ Cels (memOf W) [] a2 (xs.flatMap (fun a => [Value.int .i64 a])) ∧ (∀ a ∈ xs, (inK .i64) a) ∧ len2 * 8 ≤ 140737488351232 := by
    obtain ⟨fuel, hf⟩ := k2
    obtain ⟨A, l, c, xs, hcs, g1, g2, g3, g4, g5, g6⟩ := open_elems (fun a => [Value.int .i64 a]) (inK .i64) (fun _ => rfl) (by decide) Try.underlying30 (by kernel_rfl) (el_int Try.underlying3) hf
    simp [Value.cells] at hcs
    obtain ⟨rfl, rfl, rfl⟩ := hcs
    exact ⟨xs, g1, g2, g4, g5, reach hsz Try.underlying30 (j := 2) rfl rfl (by kernel_rfl) g6⟩
  clear hA0 hval0
  subst hl1 hl2
  refine (law_calls ((NetSays_c x0 a1 xs1.length cap1 xs1 hc1 rfl (by omega) a2 xs2.length cap2 xs2 (flat_one xs2 ▸ hc2) rfl hq2 (by omega)).mono fun _ _ h => h.1)).mono fun e W' ⟨he, bel⟩ => ?_
  subst he
  exact ⟨_, rfl, _, _, _, [], _, [], hW', trodAll_mk1 (shut_bool Try.underlying4 _), (trodAll_cons_mk (Below.trod laidOut (by kernel_rfl) (of_decide_eq_true (by kernel_rfl)) k0 bel lt0) (trodAll_cons_mk (Below.trod laidOut (by kernel_rfl) (of_decide_eq_true (by kernel_rfl)) k1 bel lt1) (trodAll_cons_mk (Below.trod laidOut (by kernel_rfl) (of_decide_eq_true (by kernel_rfl)) k2 bel lt2) trodAll_mk0))), rfl, bel.frame _, fun h => by cases h⟩
theorem over : Rows.netSaysRow.holds Try.pinned (OpenSpec.ofChange Rows.netSaysSpec) :=
  OpenClaim.holds_of_wide 4 Try.f4 rfl rfl rfl rfl rfl rfl rfl ⟨rfl, rfl, rfl, rfl, rfl⟩ rfl rfl rfl rfl rfl (by kernel_rfl) Try.func4 (by kernel_rfl)
    (of_decide_eq_true (by kernel_rfl)) (by unfold Func.isWrapper; first | (rw [if_pos (by decide +kernel)]; kernel_rfl) | (rw [if_neg (by decide +kernel)]; exact ⟨rfl, rfl⟩))
    (fun os started H enc _ => lifted os started H enc)
theorem proved : Rows.NetSaysSaid := over
#print axioms proved
end Go.Proofs.Ytdgmocibjjkghaa.NetSays

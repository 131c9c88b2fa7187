/- The library's slices.Values, slices.Collect over a slice of numbers (a range over a function). No condition beyond what each statement names. -/
import Derived.Test.YtmdbmeilmhjjaaaProg
import Derived.Test.YtmdbmeilmhjjaaaK10
import Derived.RangeFuncBox
import Derived.RangeFuncLeaves
import Derived.Shelf.Abstract
import Derived.WalkKit
import Derived.OwnWalkIn
import Derived.TacticsInMore
import Derived.LoopNIn
import Derived.LoopIn
import Derived.Maps.AppendAt
set_option linter.unusedVariables false
set_option linter.unusedSimpArgs false
set_option maxRecDepth 100000
set_option maxHeartbeats 2000000
namespace Go.Proofs.Ytmdbmeilmhjjaaa.K
open Go.RowKit

open Go.Shelf
section iter
attribute [local go_sem] Oper.semAt_some
def uptoF {α : Type} (f : Nat → α) (k : Nat) : List α := (List.range k).map f
theorem uptoF_succ {α : Type} (f : Nat → α) (k : Nat) : uptoF f (k + 1) = uptoF f k ++ [f k] := by simp [uptoF, List.range_succ]
theorem uptoF_length {α : Type} (f : Nat → α) (k : Nat) : (uptoF f k).length = k := by simp [uptoF]
theorem uptoF_all (zs : List Int) : uptoF (fun j => zs[j]?.getD 0) zs.length = zs := by
  apply List.ext_getElem
  · simp [uptoF]
  · intro i h1 h2
    simp [uptoF, h2]
/-- What slices.Values hands back, called. -/
theorem values1_in (F : Fence) (n : Nat) (h7 : F.fn 14) (hro : F.round = none) (hn : 1 ≤ n) (l Bs n₀ b off len cap : Nat) (zs : List Int) (hreach : len * 8 ≤ 140737488351232) (hb : b < n₀) (J Jx : List Int → World → Prop)
    (hY : ∀ pre x W, J pre W → pre.length < len → YieldAt F (n - 1) Try.prog l #[.int .i64 x] W fun e W' =>
      (e = .returned (.bool true) ∧ J (pre ++ [x]) W' ∧ Below n₀ W W') ∨ (e = .returned (.bool false) ∧ Jx (pre ++ [x]) W'))
    (W : World) (hBs : W.cell? ⟨Bs, 0, none⟩ = some (.slice (some ⟨b, off, none⟩) len cap)) (hc : ∀ j, j < len → W.cell? ⟨b, off + j, none⟩ = some (.int .i64 (zs[j]?.getD 0))) (h0 : J [] W) :
    CallsIn F n Try.prog 14 #[.func (.yield l) #[] #[], .pointer (some ⟨Bs, 0, none⟩)] W fun e W' => (∃ v, e = .returned v) ∧
      ((∃ ys, ys = uptoF (fun j => zs[j]?.getD 0) len ∧ J ys W') ∨ (∃ pre, (∃ k, k ≤ len ∧ pre = uptoF (fun j => zs[j]?.getD 0) k) ∧ Jx pre W')) := by
  refine callsIn_of_wp Try.func14 rfl h7 ?_ hro
  simp only [Try.ntmps14, List.size_toArray, List.length_cons, List.length_nil, Nat.reduceAdd, Nat.reduceSub, Array.replicate_succ, Array.replicate_zero, List.push_toArray, List.append_toArray, List.nil_append, List.cons_append]
  gi_wp2
  gi_loopw [7] (fun i wr => ∃ k : Nat, k ≤ len ∧ i = .int .i64 k ∧ J (uptoF (fun j => zs[j]?.getD 0) k) wr ∧ Below n₀ W wr)
    (fun i _ => len - (intOf i).toNat)
  case atStart => exact ⟨0, Nat.zero_le _, rfl, h0, Below.refl _ _⟩
  case round =>
    obtain ⟨k, hk, rfl, hJs, hnx⟩ := hrel
    have hcx : k < len → wr.cell? ⟨b, off + k, none⟩ = some (.int .i64 (zs[k]?.getD 0)) := fun h => (hnx.cell (p := ⟨b, off + k, none⟩) hb).trans (hc k h)
    by_cases hlt : k < len
    · obtain ⟨fn, tmps, assign, body, hy, hR⟩ := hY _ (zs[k]?.getD 0) wr hJs (by rw [uptoF_length]; exact hlt)
      have hcx' := hcx hlt
      gi_wp2
      refine hR.mono ?_
      rintro e W3 (⟨rfl, hJ3, hk3⟩ | ⟨rfl, hJx3⟩)
      · gi_wp2
        go_roundw
        case rel => exact ⟨k + 1, by omega, by simp, by rw [uptoF_succ]; exact hJ3, hnx.trans hk3⟩
        case measure => simp [intOf]; omega
      · gi_wp2
        refine bodyPost_ret (results_none rfl _ _ _) rfl ?_
        exact ⟨⟨_, rfl⟩, .inr ⟨_, ⟨k + 1, by omega, (uptoF_succ _ _).symm⟩, hJx3⟩⟩
    · obtain rfl : k = len := by omega
      gi_wp2
      go_end0
      exact ⟨⟨_, rfl⟩, .inl ⟨_, rfl, hJs⟩⟩
/-- A slice value holds numbers, in a block below a place. -/
def IntsAt (n₀ : Nat) (W : World) (sv : Value) (zs : List Int) : Prop :=
  ∃ b off cap, sv = .slice (some ⟨b, off, none⟩) zs.length cap ∧ b < n₀ ∧ ∀ j, j < zs.length → W.cell? ⟨b, off + j, none⟩ = some (.int .i64 (zs[j]?.getD 0))
theorem IntsAt.below {n₀ : Nat} {A B : World} (h : Below n₀ A B) {sv : Value} {zs : List Int} : IntsAt n₀ A sv zs → IntsAt n₀ B sv zs
  | ⟨b, off, cap, e, hb, hc⟩ => ⟨b, off, cap, e, hb, fun j hj => (h.cell (p := ⟨b, off + j, none⟩) hb).trans (hc j hj)⟩
theorem values_stops (F : Fence) (n : Nat) (h7 : F.fn 14) (hro : F.round = none) (hn : 1 ≤ n) (Bs n₀ : Nat) (sv : Value) (zs : List Int) (hreach : zs.length * 8 ≤ 140737488351232) (w : World) (hBs : Bs < w.heap.size) (hn₀ : n₀ ≤ w.heap.size)
    (hc : w.cell? ⟨Bs, 0, none⟩ = some sv) (hI : IntsAt n₀ w sv zs) :
    SeqStopsK F n Try.prog 14 #[.pointer (some ⟨Bs, 0, none⟩)] (fun x : Int => #[Value.int .i64 x]) (Below n₀) (fun ys => ys = zs) (fun _ => True) zs.length w := fun l J Jx W hW _ _ hY h0 => by
  have hc' := (hW.cell (p := ⟨Bs, 0, none⟩) hBs).trans hc
  obtain ⟨b, off, cap, rfl, hb, hcs⟩ := hI.below (hW.mono hn₀)
  refine (values1_in F n h7 hro hn l Bs n₀ b off zs.length cap zs hreach hb J Jx hY W hc' hcs h0).mono ?_
  rintro e W' ⟨he, ⟨ys, rfl, hj⟩ | ⟨pre, ⟨k, hk, rfl⟩, hj⟩⟩
  · exact ⟨he, .inl ⟨_, uptoF_all zs, hj⟩⟩
  · exact ⟨he, .inr ⟨_, trivial, hj⟩⟩
theorem infoTN : (Try.prog.info? 3).map (fun i => (i.zero, i.size, i.bytes)) = some (some (.int .i64 0), 1, 8) := by kernel_rfl
/-- slices.AppendSeq onto nothing. -/
theorem appendSeq_in (F : Fence) (n : Nat) (h3 : F.fn 15) (h5 : F.fn 14) (hro : F.round = none) (hn : 3 ≤ n) (Bs : Nat) (sv : Value) (zs : List Int) (hlen : zs.length ≤ maxLen) (hbytes : zs.length * 8 ≤ 140737488351232) (w : World) (hBs : Bs < w.heap.size)
    (hc : w.cell? ⟨Bs, 0, none⟩ = some sv) (hI : IntsAt w.heap.size w sv zs) :
    CallsIn F n Try.prog 15 #[.slice none 0 0, .func (.func 14) #[] #[.pointer (some ⟨Bs, 0, none⟩)]] w fun e W' => ∃ v, e = .returned v ∧ W'.ownsRow w.heap.size 3 1 v zs.length (zs.map (Value.int .i64)) ∧ (v = .slice none 0 0 ↔ zs = []) ∧ Below w.heap.size w W' := by
  have h1 : 1 ≤ n := by omega
  obtain ⟨i0, hi, hz0, hz1, hz2⟩ := info_parts infoTN
  refine callsIn_of_wp_marks Try.func15 rfl h3 ?_ hro
  simp only [Try.ntmps15, List.size_toArray, List.length_cons, List.length_nil, Nat.reduceAdd, Nat.reduceSub, Array.replicate_succ, Array.replicate_zero, List.push_toArray, List.append_toArray, List.nil_append, List.cons_append]
  gi_wp2
  have bO := Boxed.new w 22 (.slice none 0 0)
  have hB0 : Below w.heap.size w (w.alloc (.cells #[.slice none 0 0] 22)) := (Below.refl _ w).alloc (Nat.le_refl _) _
  refine wpIn_rangeFunc_ownG hro h1 (gf := 14) (lb := #[.pointer (some ⟨Bs, 0, none⟩)]) rfl h5 (enters_of Try.func14 (by kernel_rfl) rfl)
    (values_stops F (n - 1) h5 hro (by omega) Bs w.heap.size sv zs hbytes _ (by simp; omega) (by simp) ((hB0.cell (p := ⟨Bs, 0, none⟩) hBs).trans hc) (hI.below hB0)) belowK_t (belowK_b (by simp)) (Below.refl _ _) (fun _ => rfl)
    (fun pre W => (∃ v, Boxed W w.heap.size 22 v ∧ W.ownsRow w.heap.size 3 1 v pre.length (pre.map (Value.int .i64)) ∧ (v = .slice none 0 0 ↔ pre = [])) ∧ Below w.heap.size w W)
    (fun _ _ _ => False)
    (OwnFrom.and (Own.from (holdsRow_own w.heap.size w.heap.size 22 3 1 (fun pre => pre.length) (fun pre => pre.map (Value.int .i64)) (fun pre v => v = .slice none 0 0 ↔ pre = [])) _) (ownFrom_below (Nat.le_refl _) (by simp)))
    (fun _ _ _ _ _ hs _ _ => hs)
    ⟨⟨_, bO, World.ownsRow_nil _ _ _ _, by simp⟩, hB0⟩
    (fun x => { tmps := #[.slice none 0 0, .func (.func 14) #[] #[.pointer (some ⟨Bs, 0, none⟩)], .pointer (some ⟨w.heap.size, 0, none⟩), undef, .slice none 0 0, .int .i64 x, .func (.func 14) #[] #[.pointer (some ⟨Bs, 0, none⟩)], .int .i64 x, undef, undef, undef, undef, undef], defers := [] }) ?assign ?body ?done ?stop
  case assign =>
    intro l x W K hK
    gi_wp2
    exact hK
  case body =>
    rintro l pre x W ⟨⟨v, hv, hrow, hnil⟩, hB⟩ hlt
    have hc := hv.cell
    gi_wp2_with (gi_at_builtin; refine wpListIn_append_own _ rfl _ _ 22 rfl w.heap.size 3 i0 (.int .i64 0) 1 8 Try.underlying22 hi hz0 hz1 hz2 rfl (by decide) _ _ _ rfl (hrow.alloc _) ⟨W.heap.size, 0, none⟩ 1 1 [.int .i64 x] rfl rfl (cell_one_new _ _ _) (by simp [Value.oneCell']) (by omega) (by omega) (by have := hB.size; simp; omega) ?_; intro v' w1 hown' hgrow _; obtain ⟨g', cap', rfl⟩ := ownsRow_succ hown'; obtain ⟨hv1, hv2, hr2, hk2, hb2⟩ := hv.appended (by decide) hrow hB.size (Nat.le_refl _) hown' hgrow; have hc1 := hv1.cell; have hf1 := hv1.frozen)
    exact ⟨hk2.from _, hb2, ⟨_, hv2, by simpa using hr2, by simp⟩, hB.trans hb2⟩
  case done =>
    rintro D ys W hD rfl ⟨⟨v, hv, hrow, hnil⟩, hB⟩ hK
    have hc := hv.cell
    gi_wp2
    refine ⟨by simp, .inl ⟨_, _, rfl, run_takeDeferred hK, ?_⟩⟩
    exact ⟨_, results_tmp rfl _ _ _, v, rfl, ownsRow_putObj hrow _ hK rfl, hnil, hB.trans (belowK_b (w := w) (Nat.le_refl _) W D _ _ (by simp at hD; omega) hK rfl rfl)⟩
  case stop =>
    rintro D c pre W _ _ h _
    exact h.elim
end iter
/-- The same, as the walks tell it. -/
def vgrp (b : Nat) (A : Option Addr) (n c : Nat) : Grp := [(b, .cells [.slice A n c].toArray 22 (0, 0))]
theorem Below.sh {w0 w w' : World} {V : Mem} {L : List Grp} (h : SH w0 V w L) (hb : Below w.heap.size w w') : SH w0 V w' L := by
  have lt : ∀ {k : Nat} {o : Obj}, w.heap[k]? = some o → w'.heap[k]? = some o := fun {k o} hk => by
    rw [hb.block k (Array.getElem?_eq_some_iff.1 hk).1]; exact hk
  exact ⟨hb.os.trans h.os, hb.tape.trans h.tape, hb.output.trans h.output, Nat.le_trans h.size hb.size, fun k o hk => lt (h.imm k o hk), fun e he => lt (h.own e he), h.nodup, h.sep⟩
theorem SH.row {w0 w w' : World} {V : Mem} {L : List Grp} (h : SH w0 V w L) (hb : Below w.heap.size w w') {T n : Nat} {v : Value} {xs : List Value} (hr : w'.ownsRow w.heap.size T 1 v n xs) : ∃ A c E, v = .slice A n c ∧ OS A n c T 1 xs E ∧ SH w0 V w' (L ++ [E]) := by
  have h' := Below.sh h hb
  rcases hr.2 with ⟨rfl, rfl⟩ | ⟨g, cap, cur, rfl, hg, hc, h1, h2, h3, h4⟩
  · have : xs = [] := List.eq_nil_of_length_eq_zero (by simpa using hr.1)
    subst this
    exact ⟨none, 0, [], rfl, OS.nil _ _, h'.perm (by simp)⟩
  · refine ⟨_, _, [(g, .cells cur T (0, 0))], rfl, ⟨hr.1, h1, h2, .inr ⟨g, [], cur.toList.drop (n * 1), [], rfl, ?_, ?_⟩⟩, ?_⟩
    · have e : cur = (xs ++ cur.toList.drop (n * 1)).toArray := by
        apply Array.ext'
        rw [← h4, List.take_append_drop]
      simp only [List.nil_append, List.append_nil]
      rw [← e]
    · rw [← h4, ← List.length_append, List.take_append_drop, Array.length_toList, h3]
    · refine ⟨h'.os, h'.tape, h'.output, h'.size, h'.imm, ?_, ?_, ?_⟩
      · intro e he
        rw [List.flatten_append, List.mem_append] at he
        rcases he with he | he
        · exact h'.own e he
        · obtain rfl : e = (g, .cells cur T (0, 0)) := by simpa using he
          exact hc
      · rw [List.flatten_append, List.map_append, List.nodup_append]
        refine ⟨h'.nodup, by simp, ?_⟩
        intro x hx y hy hxy
        subst hxy
        obtain ⟨e, he, rfl⟩ := List.mem_map.1 hx
        have h5 := (Array.getElem?_eq_some_iff.1 (h.own e he)).1
        have h6 : e.1 = g := by simpa using hy
        omega
      · intro e he o ho
        rw [List.flatten_append, List.mem_append] at he
        rcases he with he | he
        · exact h'.sep e he o ho
        · obtain rfl : e = (g, .cells cur T (0, 0)) := by simpa using he
          have h5 := (Array.getElem?_eq_some_iff.1 (h.imm _ _ ho)).1
          dsimp only at h5
          omega
theorem AppendSeq_c {V : Mem} (A : Option Addr) (n c : Nat) (xs : List Int) (h : Cels V [] A (xs.map (.int .i64))) (hn : xs.length = n) (h0 : 0 < n) (hb : n * 8 ≤ 140737488351232) (b : Nat) :
    CallS Try.prog 15 [.slice none 0 0, .func (.func 14) #[] [.pointer (some ⟨b, 0, none⟩)].toArray].toArray V [vgrp b A n c] (fun r L' => ∃ B e E, r = .slice B n e ∧ OS B n e 3 1 (xs.map (.int .i64)) E ∧ L' = [vgrp b A n c, E]) := by
  intro w0 w hw
  have hbox : w.heap[b]? = some (.cells #[.slice A n c] 22 (0, 0)) := hw.own (b, .cells #[.slice A n c] 22 (0, 0)) (by simp [vgrp])
  have hblt := (Array.getElem?_eq_some_iff.1 hbox).1
  obtain ⟨a, rfl⟩ := Option.isSome_iff_exists.1 (h.isSome (i := 0) (by simpa [hn] using h0))
  have hx0 : (xs.map (Value.int .i64))[0]? = some (.int .i64 (xs[0]'(by omega))) := by simp
  obtain ⟨ab, ao, sp⟩ := a
  have hsp : sp = none ∧ ab < w.heap.size := by
    have hc := h 0 _ hx0
    rw [idx_zero] at hc
    obtain ⟨a', arr, T, fr, e, hs, hx, _⟩ := hc
    cases e
    refine ⟨hs, ?_⟩
    rcases hx with hx | hx
    · exact (Array.getElem?_eq_some_iff.1 (hw.imm _ _ hx)).1
    · simp at hx
  obtain ⟨rfl, hlt⟩ := hsp
  have hcell : ∀ j v, (xs.map (Value.int .i64))[j]? = some v → w.cell? ⟨ab, ao + j, none⟩ = some v := fun j v hj => by
    have hc := h j v hj
    rw [idx_some] at hc
    exact hc.cell (hw.sublist (L' := []) (by simp))
  have hI : IntsAt w.heap.size w (.slice (some ⟨ab, ao, none⟩) n c) xs := ⟨ab, ao, c, by rw [hn], hlt, fun j hj => (hcell j (.int .i64 (xs[j]?.getD 0)) (by simp [hj]))⟩
  have hcx : w.cell? ⟨b, 0, none⟩ = some (.slice (some ⟨ab, ao, none⟩) n c) := by rw [cell_of_row w b 0 _ 22 (0, 0) hbox]; rfl
  have := callsIn_wide.1 (appendSeq_in Fence.wide 3 trivial trivial rfl (Nat.le_refl _) b _ xs (by unfold maxLen; omega) (by rw [hn]; exact hb) w hblt hcx hI)
  refine this.mono ?_
  rintro e w' ⟨v, rfl, hrow, _, hbel⟩
  obtain ⟨B, e, E, rfl, ho, hsh⟩ := hw.row hbel hrow
  rw [hn] at ho
  exact ⟨_, _, rfl, hsh, B, e, E, by rw [hn], ho, rfl⟩

end Go.Proofs.Ytmdbmeilmhjjaaa.K

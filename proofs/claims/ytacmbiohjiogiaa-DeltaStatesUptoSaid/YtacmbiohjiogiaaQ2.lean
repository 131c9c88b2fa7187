/- Parts of the walk, in build order: rules, contracts, plain laws. No condition beyond what each statement names. -/
import Derived.Test.YtacmbiohjiogiaaQ1
import Derived.Test.YtacmbiohjiogiaaProg
section
set_option linter.unusedVariables false
set_option linter.unusedSimpArgs false
set_option maxRecDepth 100000
namespace Go.Proofs.Ytacmbiohjiogiaa.K
open Go.RowKit

theorem one_lenM (a : Int) : ([Value.int .i64 a] : List Value).length = 1 := rfl
theorem flat_self (xs : List Int) : xs.flatMap (fun a => [a]) = xs := by
 induction xs with
 | nil => rfl
 | cons x xs ih => rw [List.flatMap_cons, ih]; rfl
def encRfM (r : Int × Int) : List Value := [.int .i64 r.1, .int .i64 r.2]
def flRf (r : Int × Int) : List Int := [r.1, r.2]
theorem openM_fd {H : Type} {enc : TypeId × Value → H} {w : World} {base : Nat} {spare : Nat → Bool} {held : Bool} : OpensM enc Try.prog w base spare held 61 encF (fun _ => True) flF := by
 intro n cs x h hcn; obtain ⟨hl, ps, hpl, hpb, hf⟩ := trod_structM Try.underlying61 h hcn; rw [show Try.prog.cellsOf 61 = 3 from by kernel_rfl] at hl
 match cs, hl, ps, hpl with
 | [c0, c1, c2], _, [p0, p1, p2], _ =>
  obtain ⟨n0, y0, t0, k0, j0⟩ := hf 0 _ rfl; obtain ⟨a0, e0, r0, s0, b0⟩ := openM_field (openM_string Try.underlying9) (sz := 1) (cs' := [c0]) (by kernel_rfl) t0 k0 rfl; obtain rfl : p0 = y0.1 := Option.some.inj j0; obtain rfl := (List.cons.inj e0).1; obtain ⟨n1, y1, t1, k1, j1⟩ := hf 1 _ rfl; obtain ⟨a1, e1, r1, s1, b1⟩ := openM_field (openM_int Try.underlying3) (sz := 1) (cs' := [c1]) (by kernel_rfl) t1 k1 rfl; obtain rfl : p1 = y1.1 := Option.some.inj j1; obtain rfl := (List.cons.inj e1).1; obtain ⟨n2, y2, t2, k2, j2⟩ := hf 2 _ rfl; obtain ⟨a2, e2, r2, s2, b2⟩ := openM_field (openM_int Try.underlying3) (sz := 1) (cs' := [c2]) (by kernel_rfl) t2 k2 rfl; obtain rfl : p2 = y2.1 := Option.some.inj j2; obtain rfl := (List.cons.inj e2).1; simp only [Rows.uptoBulkAll] at hpb; have hfl : (flF) (⟨a0, a1, a2⟩) = ((a0.size : Int) :: bts a0) ++ ([a1]) ++ ([a2]) := (by simp only [flF, flT, List.append_assoc, List.singleton_append, List.cons_append, List.nil_append]); exact ⟨⟨a0, a1, a2⟩, rfl, trivial, hfl ▸ inK_app (inK_app (s0) s1) s2, by rw [hfl]; simp only [List.length_append] at *; omega⟩

theorem openM_kd {H : Type} {enc : TypeId × Value → H} {w : World} {base : Nat} {spare : Nat → Bool} {held : Bool} : OpensM enc Try.prog w base spare held 58 encK (KOK (memOf w)) flK := by
 intro n cs x h hcn; obtain ⟨hl, ps, hpl, hpb, hf⟩ := trod_structM Try.underlying58 h hcn; rw [show Try.prog.cellsOf 58 = 2 from by kernel_rfl] at hl
 match cs, hl, ps, hpl with
 | [c0, c1], _, [p0, p1], _ =>
  obtain ⟨n0, y0, t0, k0, j0⟩ := hf 0 _ rfl; obtain ⟨a0, e0, r0, s0, b0⟩ := openM_field (openM_string Try.underlying9) (sz := 1) (cs' := [c0]) (by kernel_rfl) t0 k0 rfl; obtain rfl : p0 = y0.1 := Option.some.inj j0; obtain rfl := (List.cons.inj e0).1; obtain ⟨n1, y1, t1, k1, j1⟩ := hf 1 _ rfl; obtain ⟨q, e1, r1, s1, b1⟩ := openM_field (openM_slice encF_len (by decide) Try.underlying56 (by kernel_rfl) (by_ := 32) (by kernel_rfl) openM_fd) (sz := 1) (cs' := [c1]) (by kernel_rfl) t1 k1 rfl; obtain rfl : p1 = y1.1 := Option.some.inj j1; obtain rfl := (List.cons.inj e1).1; simp only [Rows.uptoBulkAll] at hpb; have hfl : (flK) (⟨a0, q.A, q.n, q.c, q.xs⟩) = ((a0.size : Int) :: bts a0) ++ ((q.n : Int) :: q.xs.flatMap flF) := rfl; exact ⟨⟨a0, q.A, q.n, q.c, q.xs⟩, rfl, ⟨r1.len, r1.cap, by have := r1.reach; dsimp only; omega, r1.cels⟩, hfl ▸ inK_app (s0) s1, by rw [hfl]; simp only [List.length_append] at *; omega⟩

theorem openM_ref {H : Type} {enc : TypeId × Value → H} {w : World} {base : Nat} {spare : Nat → Bool} {held : Bool} : OpensM enc Try.prog w base spare held 117 encRfM (fun _ => True) flRf := by
 intro n cs x h hcn; obtain ⟨hl, ps, hpl, hpb, hf⟩ := trod_structM Try.underlying117 h hcn; rw [show Try.prog.cellsOf 117 = 2 from by kernel_rfl] at hl
 match cs, hl, ps, hpl with
 | [c0, c1], _, [p0, p1], _ =>
  obtain ⟨n0, y0, t0, k0, j0⟩ := hf 0 _ rfl; obtain ⟨a0, e0, r0, s0, b0⟩ := openM_field (openM_int Try.underlying3) (sz := 1) (cs' := [c0]) (by kernel_rfl) t0 k0 rfl; obtain rfl : p0 = y0.1 := Option.some.inj j0; obtain rfl := (List.cons.inj e0).1; obtain ⟨n1, y1, t1, k1, j1⟩ := hf 1 _ rfl; obtain ⟨a1, e1, r1, s1, b1⟩ := openM_field (openM_int Try.underlying3) (sz := 1) (cs' := [c1]) (by kernel_rfl) t1 k1 rfl; obtain rfl : p1 = y1.1 := Option.some.inj j1; obtain rfl := (List.cons.inj e1).1; simp only [Rows.uptoBulkAll] at hpb; have hfl : (flRf) (⟨a0, a1⟩) = ([a0]) ++ ([a1]) := rfl; exact ⟨⟨a0, a1⟩, rfl, trivial, hfl ▸ inK_app (s0) s1, by rw [hfl]; simp only [List.length_append] at *; omega⟩

theorem openM_vec {H : Type} {enc : TypeId × Value → H} {w : World} {base : Nat} {spare : Nat → Bool} {held : Bool} : OpensM enc Try.prog w base spare held 90 encRfM (fun _ => True) flRf := by
 intro n cs x h hcn; obtain ⟨hl, ps, hpl, hpb, hf⟩ := trod_structM Try.underlying90 h hcn; rw [show Try.prog.cellsOf 90 = 2 from by kernel_rfl] at hl
 match cs, hl, ps, hpl with
 | [c0, c1], _, [p0, p1], _ =>
  obtain ⟨n0, y0, t0, k0, j0⟩ := hf 0 _ rfl; obtain ⟨a0, e0, r0, s0, b0⟩ := openM_field (openM_int Try.underlying3) (sz := 1) (cs' := [c0]) (by kernel_rfl) t0 k0 rfl; obtain rfl : p0 = y0.1 := Option.some.inj j0; obtain rfl := (List.cons.inj e0).1; obtain ⟨n1, y1, t1, k1, j1⟩ := hf 1 _ rfl; obtain ⟨a1, e1, r1, s1, b1⟩ := openM_field (openM_int Try.underlying3) (sz := 1) (cs' := [c1]) (by kernel_rfl) t1 k1 rfl; obtain rfl : p1 = y1.1 := Option.some.inj j1; obtain rfl := (List.cons.inj e1).1; simp only [Rows.uptoBulkAll] at hpb; have hfl : (flRf) (⟨a0, a1⟩) = ([a0]) ++ ([a1]) := rfl; exact ⟨⟨a0, a1⟩, rfl, trivial, hfl ▸ inK_app (s0) s1, by rw [hfl]; simp only [List.length_append] at *; omega⟩

theorem openM_cp {H : Type} {enc : TypeId × Value → H} {w : World} {base : Nat} {spare : Nat → Bool} {held : Bool} : OpensM enc Try.prog w base spare held 155 encC (COK (memOf w)) flC := by
 intro n cs x h hcn; obtain ⟨hl, ps, hpl, hpb, hf⟩ := trod_structM Try.underlying155 h hcn; rw [show Try.prog.cellsOf 155 = 2 from by kernel_rfl] at hl
 match cs, hl, ps, hpl with
 | [c0, c1], _, [p0, p1], _ =>
  obtain ⟨n0, y0, t0, k0, j0⟩ := hf 0 _ rfl; obtain ⟨a0, e0, r0, s0, b0⟩ := openM_field (openM_int Try.underlying3) (sz := 1) (cs' := [c0]) (by kernel_rfl) t0 k0 rfl; obtain rfl : p0 = y0.1 := Option.some.inj j0; obtain rfl := (List.cons.inj e0).1; obtain ⟨n1, y1, t1, k1, j1⟩ := hf 1 _ rfl; obtain ⟨q, e1, r1, s1, b1⟩ := openM_field (openM_slice one_lenM (by decide) Try.underlying22 (by kernel_rfl) (by_ := 8) (by kernel_rfl) (openM_int Try.underlying3)) (sz := 1) (cs' := [c1]) (by kernel_rfl) t1 k1 rfl; obtain rfl : p1 = y1.1 := Option.some.inj j1; obtain rfl := (List.cons.inj e1).1; simp only [Rows.uptoBulkAll] at hpb; have hfl : (flC) (⟨a0, q.A, q.n, q.c, q.xs⟩) = ([a0]) ++ ((q.n : Int) :: q.xs.flatMap (fun a : Int => [a])) := (by rw [flat_self]; rfl); exact ⟨⟨a0, q.A, q.n, q.c, q.xs⟩, rfl, ⟨r1.len, r1.cap, by have := r1.reach; dsimp only; omega, (flat_one q.xs).symm ▸ r1.cels⟩, hfl ▸ inK_app (s0) s1, by rw [hfl]; simp only [List.length_append] at *; omega⟩

theorem openM_it {H : Type} {enc : TypeId × Value → H} {w : World} {base : Nat} {spare : Nat → Bool} {held : Bool} : OpensM enc Try.prog w base spare held 136 encIt (IOK (memOf w)) flI := by
 intro n cs x h hcn; obtain ⟨hl, ps, hpl, hpb, hf⟩ := trod_structM Try.underlying136 h hcn; rw [show Try.prog.cellsOf 136 = 3 from by kernel_rfl] at hl
 match cs, hl, ps, hpl with
 | [c0, c1, c2], _, [p0, p1], _ =>
  obtain ⟨n0, y0, t0, k0, j0⟩ := hf 0 _ rfl; obtain ⟨rf, e0, r0, s0, b0⟩ := openM_field openM_ref (sz := 2) (cs' := [c0, c1]) (by kernel_rfl) t0 k0 rfl; obtain rfl : p0 = y0.1 := Option.some.inj j0; obtain ⟨rfl, rfl⟩ : c0 = Value.int .i64 rf.1 ∧ c1 = Value.int .i64 rf.2 := by simpa [encRfM] using e0
  obtain ⟨n1, y1, t1, k1, j1⟩ := hf 1 _ rfl; obtain ⟨q, e1, r1, s1, b1⟩ := openM_field (openM_slice encC_len (by decide) Try.underlying33 (by kernel_rfl) (by_ := 32) (by kernel_rfl) openM_cp) (sz := 1) (cs' := [c2]) (by kernel_rfl) t1 k1 rfl; obtain rfl : p1 = y1.1 := Option.some.inj j1; obtain rfl := (List.cons.inj e1).1; simp only [Rows.uptoBulkAll] at hpb; have hfl : (flI) (⟨rf.1, rf.2, q.A, q.n, q.c, q.xs⟩) = (flRf rf) ++ ((q.n : Int) :: q.xs.flatMap flC) := rfl; exact ⟨⟨rf.1, rf.2, q.A, q.n, q.c, q.xs⟩, rfl, ⟨r1.len, r1.cap, by have := r1.reach; dsimp only; omega, r1.cels, r1.all⟩, hfl ▸ inK_app (s0) s1, by rw [hfl]; simp only [List.length_append] at *; omega⟩

theorem openM_wd {H : Type} {enc : TypeId × Value → H} {w : World} {base : Nat} {spare : Nat → Bool} {held : Bool} : OpensM enc Try.prog w base spare held 47 encW (WOK (memOf w)) flW := by
 intro n cs x h hcn; obtain ⟨hl, ps, hpl, hpb, hf⟩ := trod_structM Try.underlying47 h hcn; rw [show Try.prog.cellsOf 47 = 3 from by kernel_rfl] at hl
 match cs, hl, ps, hpl with
 | [c0, c1, c2], _, [p0, p1, p2], _ =>
  obtain ⟨n0, y0, t0, k0, j0⟩ := hf 0 _ rfl; obtain ⟨qk, e0, r0, s0, b0⟩ := openM_field (openM_slice encK_len (by decide) Try.underlying23 (by kernel_rfl) (by_ := 40) (by kernel_rfl) openM_kd) (sz := 1) (cs' := [c0]) (by kernel_rfl) t0 k0 rfl; obtain rfl : p0 = y0.1 := Option.some.inj j0; obtain rfl := (List.cons.inj e0).1; obtain ⟨n1, y1, t1, k1, j1⟩ := hf 1 _ rfl; obtain ⟨qg, e1, r1, s1, b1⟩ := openM_field (openM_slice one_lenM (by decide) Try.underlying22 (by kernel_rfl) (by_ := 8) (by kernel_rfl) (openM_int Try.underlying3)) (sz := 1) (cs' := [c1]) (by kernel_rfl) t1 k1 rfl; obtain rfl : p1 = y1.1 := Option.some.inj j1; obtain rfl := (List.cons.inj e1).1; obtain ⟨n2, y2, t2, k2, j2⟩ := hf 2 _ rfl; obtain ⟨qi, e2, r2, s2, b2⟩ := openM_field (openM_slice encIt_len (by decide) Try.underlying45 (by kernel_rfl) (by_ := 40) (by kernel_rfl) openM_it) (sz := 1) (cs' := [c2]) (by kernel_rfl) t2 k2 rfl; obtain rfl : p2 = y2.1 := Option.some.inj j2; obtain rfl := (List.cons.inj e2).1; simp only [Rows.uptoBulkAll] at hpb; have hfl : (flW) (⟨qk.A, qk.n, qk.c, qk.xs, qg.A, qg.n, qg.c, qg.xs, qi.A, qi.n, qi.c, qi.xs⟩) = ((qk.n : Int) :: qk.xs.flatMap flK) ++ ((qg.n : Int) :: qg.xs.flatMap (fun a : Int => [a])) ++ ((qi.n : Int) :: qi.xs.flatMap flI) := (by rw [flat_self]; simp only [flW, List.cons_append, List.append_assoc, List.nil_append]); exact ⟨⟨qk.A, qk.n, qk.c, qk.xs, qg.A, qg.n, qg.c, qg.xs, qi.A, qi.n, qi.c, qi.xs⟩, rfl, ⟨⟨r0.len, r0.cap, by have := r0.reach; dsimp only; omega, r0.cels, r0.all⟩, ⟨r1.len, r1.cap, by have := r1.reach; dsimp only; omega, (flat_one qg.xs).symm ▸ r1.cels⟩, ⟨r2.len, r2.cap, by have := r2.reach; dsimp only; omega, r2.cels, r2.all⟩⟩, hfl ▸ inK_app (inK_app (s0) s1) s2, by rw [hfl]; simp only [List.length_append] at *; omega⟩

theorem openM_co {H : Type} {enc : TypeId × Value → H} {w : World} {base : Nat} {spare : Nat → Bool} {held : Bool} : OpensM enc Try.prog w base spare held 120 encCo (fun _ => True) flCo := by
 intro n cs x h hcn; obtain ⟨hl, ps, hpl, hpb, hf⟩ := trod_structM Try.underlying120 h hcn; rw [show Try.prog.cellsOf 120 = 10 from by kernel_rfl] at hl
 match cs, hl, ps, hpl with
 | [c0, c1, c2, c3, c4, c5, c6, c7, c8, c9], _, [p0, p1, p2, p3, p4, p5, p6, p7], _ =>
  obtain ⟨n0, y0, t0, k0, j0⟩ := hf 0 _ rfl; obtain ⟨a0, e0, r0, s0, b0⟩ := openM_field (openM_int Try.underlying3) (sz := 1) (cs' := [c0]) (by kernel_rfl) t0 k0 rfl; obtain rfl : p0 = y0.1 := Option.some.inj j0; obtain rfl := (List.cons.inj e0).1; obtain ⟨n1, y1, t1, k1, j1⟩ := hf 1 _ rfl; obtain ⟨a1, e1, r1, s1, b1⟩ := openM_field (openM_int Try.underlying3) (sz := 1) (cs' := [c1]) (by kernel_rfl) t1 k1 rfl; obtain rfl : p1 = y1.1 := Option.some.inj j1; obtain rfl := (List.cons.inj e1).1; obtain ⟨n2, y2, t2, k2, j2⟩ := hf 2 _ rfl; obtain ⟨a2, e2, r2, s2, b2⟩ := openM_field (openM_int Try.underlying3) (sz := 1) (cs' := [c2]) (by kernel_rfl) t2 k2 rfl; obtain rfl : p2 = y2.1 := Option.some.inj j2; obtain rfl := (List.cons.inj e2).1; obtain ⟨n3, y3, t3, k3, j3⟩ := hf 3 _ rfl; obtain ⟨vp, e3, r3, s3, b3⟩ := openM_field openM_vec (sz := 2) (cs' := [c3, c4]) (by kernel_rfl) t3 k3 rfl; obtain rfl : p3 = y3.1 := Option.some.inj j3; obtain ⟨rfl, rfl⟩ : c3 = Value.int .i64 vp.1 ∧ c4 = Value.int .i64 vp.2 := by simpa [encRfM] using e3
  obtain ⟨n4, y4, t4, k4, j4⟩ := hf 4 _ rfl; obtain ⟨vn, e4, r4, s4, b4⟩ := openM_field openM_vec (sz := 2) (cs' := [c5, c6]) (by kernel_rfl) t4 k4 rfl; obtain rfl : p4 = y4.1 := Option.some.inj j4; obtain ⟨rfl, rfl⟩ : c5 = Value.int .i64 vn.1 ∧ c6 = Value.int .i64 vn.2 := by simpa [encRfM] using e4
  obtain ⟨n5, y5, t5, k5, j5⟩ := hf 5 _ rfl; obtain ⟨a5, e5, r5, s5, b5⟩ := openM_field (openM_int Try.underlying3) (sz := 1) (cs' := [c7]) (by kernel_rfl) t5 k5 rfl; obtain rfl : p5 = y5.1 := Option.some.inj j5; obtain rfl := (List.cons.inj e5).1; obtain ⟨n6, y6, t6, k6, j6⟩ := hf 6 _ rfl; obtain ⟨a6, e6, r6, s6, b6⟩ := openM_field (openM_int Try.underlying3) (sz := 1) (cs' := [c8]) (by kernel_rfl) t6 k6 rfl; obtain rfl : p6 = y6.1 := Option.some.inj j6; obtain rfl := (List.cons.inj e6).1; obtain ⟨n7, y7, t7, k7, j7⟩ := hf 7 _ rfl; obtain ⟨a7, e7, r7, s7, b7⟩ := openM_field (openM_int Try.underlying3) (sz := 1) (cs' := [c9]) (by kernel_rfl) t7 k7 rfl; obtain rfl : p7 = y7.1 := Option.some.inj j7; obtain rfl := (List.cons.inj e7).1; simp only [Rows.uptoBulkAll] at hpb; have hfl : (flCo) (⟨a0, a1, a2, vp.1, vp.2, vn.1, vn.2, a5, a6, a7⟩) = ([a0]) ++ ([a1]) ++ ([a2]) ++ (flRf vp) ++ (flRf vn) ++ ([a5]) ++ ([a6]) ++ ([a7]) := rfl; exact ⟨⟨a0, a1, a2, vp.1, vp.2, vn.1, vn.2, a5, a6, a7⟩, rfl, trivial, hfl ▸ inK_app (inK_app (inK_app (inK_app (inK_app (inK_app (inK_app (s0) s1) s2) s3) s4) s5) s6) s7, by rw [hfl]; simp only [List.length_append] at *; omega⟩

theorem openM_mi {H : Type} {enc : TypeId × Value → H} {w : World} {base : Nat} {spare : Nat → Bool} {held : Bool} : OpensM enc Try.prog w base spare held 212 encMi (MOK (memOf w)) flM := by
 intro n cs x h hcn; obtain ⟨hl, ps, hpl, hpb, hf⟩ := trod_structM Try.underlying212 h hcn; rw [show Try.prog.cellsOf 212 = 4 from by kernel_rfl] at hl
 match cs, hl, ps, hpl with
 | [c0, c1, c2, c3], _, [p0, p1, p2], _ =>
  obtain ⟨n0, y0, t0, k0, j0⟩ := hf 0 _ rfl; obtain ⟨rf, e0, r0, s0, b0⟩ := openM_field openM_ref (sz := 2) (cs' := [c0, c1]) (by kernel_rfl) t0 k0 rfl; obtain rfl : p0 = y0.1 := Option.some.inj j0; obtain ⟨rfl, rfl⟩ : c0 = Value.int .i64 rf.1 ∧ c1 = Value.int .i64 rf.2 := by simpa [encRfM] using e0
  obtain ⟨n1, y1, t1, k1, j1⟩ := hf 1 _ rfl; obtain ⟨a1, e1, r1, s1, b1⟩ := openM_field (openM_int Try.underlying3) (sz := 1) (cs' := [c2]) (by kernel_rfl) t1 k1 rfl; obtain rfl : p1 = y1.1 := Option.some.inj j1; obtain rfl := (List.cons.inj e1).1; obtain ⟨n2, y2, t2, k2, j2⟩ := hf 2 _ rfl; obtain ⟨q, e2, r2, s2, b2⟩ := openM_field (openM_slice one_lenM (by decide) Try.underlying22 (by kernel_rfl) (by_ := 8) (by kernel_rfl) (openM_int Try.underlying3)) (sz := 1) (cs' := [c3]) (by kernel_rfl) t2 k2 rfl; obtain rfl : p2 = y2.1 := Option.some.inj j2; obtain rfl := (List.cons.inj e2).1; simp only [Rows.uptoBulkAll] at hpb; have hfl : (flM) (⟨rf.1, rf.2, a1, q.A, q.n, q.c, q.xs⟩) = (flRf rf) ++ ([a1]) ++ ((q.n : Int) :: q.xs.flatMap (fun a : Int => [a])) := (by rw [flat_self]; rfl); exact ⟨⟨rf.1, rf.2, a1, q.A, q.n, q.c, q.xs⟩, rfl, ⟨r2.len, r2.cap, by have := r2.reach; dsimp only; omega, (flat_one q.xs).symm ▸ r2.cels⟩, hfl ▸ inK_app (inK_app (s0) s1) s2, by rw [hfl]; simp only [List.length_append] at *; omega⟩

theorem openM_ev {H : Type} {enc : TypeId × Value → H} {w : World} {base : Nat} {spare : Nat → Bool} {held : Bool} : OpensM enc Try.prog w base spare held 214 encEv (fun _ => True) flE := by
 intro n cs x h hcn; obtain ⟨hl, ps, hpl, hpb, hf⟩ := trod_structM Try.underlying214 h hcn; rw [show Try.prog.cellsOf 214 = 4 from by kernel_rfl] at hl
 match cs, hl, ps, hpl with
 | [c0, c1, c2, c3], _, [p0, p1, p2], _ =>
  obtain ⟨n0, y0, t0, k0, j0⟩ := hf 0 _ rfl; obtain ⟨a0, e0, r0, s0, b0⟩ := openM_field (openM_int Try.underlying3) (sz := 1) (cs' := [c0]) (by kernel_rfl) t0 k0 rfl; obtain rfl : p0 = y0.1 := Option.some.inj j0; obtain rfl := (List.cons.inj e0).1; obtain ⟨n1, y1, t1, k1, j1⟩ := hf 1 _ rfl; obtain ⟨rf, e1, r1, s1, b1⟩ := openM_field openM_ref (sz := 2) (cs' := [c1, c2]) (by kernel_rfl) t1 k1 rfl; obtain rfl : p1 = y1.1 := Option.some.inj j1; obtain ⟨rfl, rfl⟩ : c1 = Value.int .i64 rf.1 ∧ c2 = Value.int .i64 rf.2 := by simpa [encRfM] using e1
  obtain ⟨n2, y2, t2, k2, j2⟩ := hf 2 _ rfl; obtain ⟨a2, e2, r2, s2, b2⟩ := openM_field (openM_int Try.underlying3) (sz := 1) (cs' := [c3]) (by kernel_rfl) t2 k2 rfl; obtain rfl : p2 = y2.1 := Option.some.inj j2; obtain rfl := (List.cons.inj e2).1; simp only [Rows.uptoBulkAll] at hpb; have hfl : (flE) (⟨a0, rf.1, rf.2, a2⟩) = ([a0]) ++ (flRf rf) ++ ([a2]) := rfl; exact ⟨⟨a0, rf.1, rf.2, a2⟩, rfl, trivial, hfl ▸ inK_app (inK_app (s0) s1) s2, by rw [hfl]; simp only [List.length_append] at *; omega⟩

def encSt (s : StR) : List Value := [.int .i64 s.tick, .slice s.w.kA s.w.kn s.w.kc, .slice s.w.gA s.w.gn s.w.gc, .slice s.w.iA s.w.iN s.w.iC, .slice s.cA s.cn s.cc, .slice s.mA s.mn s.mc, .slice s.eA s.en s.ec]

theorem openM_st {H : Type} {enc : TypeId × Value → H} {w : World} {base : Nat} {spare : Nat → Bool} {held : Bool} : OpensM enc Try.prog w base spare held 75 encSt (StOK (memOf w)) flS := by
 intro n cs x h hcn; obtain ⟨hl, ps, hpl, hpb, hf⟩ := trod_structM Try.underlying75 h hcn; rw [show Try.prog.cellsOf 75 = 7 from by kernel_rfl] at hl
 match cs, hl, ps, hpl with
 | [c0, c1, c2, c3, c4, c5, c6], _, [p0, p1, p2, p3, p4], _ =>
  obtain ⟨n0, y0, t0, k0, j0⟩ := hf 0 _ rfl; obtain ⟨a0, e0, r0, s0, b0⟩ := openM_field (openM_int Try.underlying3) (sz := 1) (cs' := [c0]) (by kernel_rfl) t0 k0 rfl; obtain rfl : p0 = y0.1 := Option.some.inj j0; obtain rfl := (List.cons.inj e0).1; obtain ⟨n1, y1, t1, k1, j1⟩ := hf 1 _ rfl; obtain ⟨wd, e1, r1, s1, b1⟩ := openM_field openM_wd (sz := 3) (cs' := [c1, c2, c3]) (by kernel_rfl) t1 k1 rfl; obtain rfl : p1 = y1.1 := Option.some.inj j1; obtain ⟨rfl, rfl, rfl⟩ : c1 = Value.slice wd.kA wd.kn wd.kc ∧ c2 = Value.slice wd.gA wd.gn wd.gc ∧ c3 = Value.slice wd.iA wd.iN wd.iC := by simpa [encW] using e1
  obtain ⟨n2, y2, t2, k2, j2⟩ := hf 2 _ rfl; obtain ⟨qc, e2, r2, s2, b2⟩ := openM_field (openM_slice encCo_len (by decide) Try.underlying71 (by kernel_rfl) (by_ := 80) (by kernel_rfl) openM_co) (sz := 1) (cs' := [c4]) (by kernel_rfl) t2 k2 rfl; obtain rfl : p2 = y2.1 := Option.some.inj j2; obtain rfl := (List.cons.inj e2).1; obtain ⟨n3, y3, t3, k3, j3⟩ := hf 3 _ rfl; obtain ⟨qm, e3, r3, s3, b3⟩ := openM_field (openM_slice encMi_len (by decide) Try.underlying72 (by kernel_rfl) (by_ := 48) (by kernel_rfl) openM_mi) (sz := 1) (cs' := [c5]) (by kernel_rfl) t3 k3 rfl; obtain rfl : p3 = y3.1 := Option.some.inj j3; obtain rfl := (List.cons.inj e3).1; obtain ⟨n4, y4, t4, k4, j4⟩ := hf 4 _ rfl; obtain ⟨qe, e4, r4, s4, b4⟩ := openM_field (openM_slice encEv_len (by decide) Try.underlying73 (by kernel_rfl) (by_ := 32) (by kernel_rfl) openM_ev) (sz := 1) (cs' := [c6]) (by kernel_rfl) t4 k4 rfl; obtain rfl : p4 = y4.1 := Option.some.inj j4; obtain rfl := (List.cons.inj e4).1; simp only [Rows.uptoBulkAll] at hpb; have hfl : (flS) (⟨a0, wd, qc.A, qc.n, qc.c, qc.xs, qm.A, qm.n, qm.c, qm.xs, qe.A, qe.n, qe.c, qe.xs⟩) = ([a0]) ++ (flW wd) ++ ((qc.n : Int) :: qc.xs.flatMap flCo) ++ ((qm.n : Int) :: qm.xs.flatMap flM) ++ ((qe.n : Int) :: qe.xs.flatMap flE) := (by simp only [flS, List.cons_append, List.append_assoc, List.nil_append]); exact ⟨⟨a0, wd, qc.A, qc.n, qc.c, qc.xs, qm.A, qm.n, qm.c, qm.xs, qe.A, qe.n, qe.c, qe.xs⟩, rfl, ⟨r1, ⟨r2.len, r2.cap, by have := r2.reach; dsimp only; omega, r2.cels⟩, ⟨r3.len, r3.cap, by have := r3.reach; dsimp only; omega, r3.cels, r3.all⟩, ⟨r4.len, r4.cap, by have := r4.reach; dsimp only; omega, r4.cels⟩⟩, hfl ▸ inK_app (inK_app (inK_app (inK_app (s0) s1) s2) s3) s4, by rw [hfl]; simp only [List.length_append] at *; omega⟩

end Go.Proofs.Ytacmbiohjiogiaa.K
end
section
namespace Go.Proofs.Ytacmbiohjiogiaa.K
open Go.RowKit
section
variable {P : Program} {V : Mem} {f : Frm} {L : List Grp} {ty : TypeId} {ps : String} {af : Array Edge} {x y y' : Operand}
end
end Go.Proofs.Ytacmbiohjiogiaa.K
end
section
namespace Go.Proofs.Ytacmbiohjiogiaa.K
open Go.RowKit
section
variable {P : Program} {N : Nat} {w0 : World} {V : Mem} {Q : Exit → Frm → List Grp → Prop} {f : Frm} {L : List Grp} {ops : Array Oper} {rest : List Oper} {v : Value}
variable {ty : TypeId} {ps : String} {af : Array Edge} {x y z0 : Operand}
end
end Go.Proofs.Ytacmbiohjiogiaa.K
end
section
set_option linter.unusedVariables false
set_option linter.unusedSimpArgs false
set_option maxRecDepth 100000
namespace Go.Proofs.Ytacmbiohjiogiaa.K
open Go.RowKit

/-- What a component says, and an item: without where it lies. -/
def CR.d (c : CR) : Int × List Int := (c.kind, c.vs)
def IR.d (i : IR) : Int × Int × List (Int × List Int) := (i.e, i.g, i.cs.map CR.d)
theorem mapint_none {xs : List Int} {k : IntKind} (h : xs.map (Value.int k) = []) : xs = [] := by simpa using h
theorem CloneI_k0 (w : World) : (Instr.buildSlice 22 0 ([] : List (Nat × Value)).toArray).run Try.prog w = .ok (.slice (some ⟨w.heap.size, 0, none⟩) 0 0) { w with heap := w.heap.push (.cells ([] : List Value).toArray 3 (0, 0)) } := by kernel_rfl
theorem CloneI_c {V : Mem} (A : Option Addr) (n c : Nat) (bb : List Int) (h : Cels V [] A ((bb).map (.int .i64))) (hn : bb.length = n) (hb : n * 8 ≤ 140737488355328) : CallS Try.prog 93 [.slice A n c].toArray V []
  (fun r L' => ∃ B e G, r = .slice B n e ∧ OS B n e 3 1 ((bb).map (.int .i64)) G ∧ L' = [G]) := by
 refine callS Try.func93 rfl rfl (fun w0 => ?_); refine s_seq (s_region ?_); refine o_val rfl rfl rfl (y_assign (v := (.slice _ _ _)) rfl) (o_nil ?_); refine s_seq ?_; refine s_seq (s_region ?_); refine o_val rfl rfl rfl (y_move (v := (.slice _ _ _)) rfl) ?_; refine o_val rfl rfl rfl (y_eql_nil Try.underlying22 rfl rfl) (o_nil ?_); refine s_if rfl (fun h1 => ?_) (fun h2 => ?_)
 ·subst h1; have hbb := h.none_nil; have hb0 : bb = [] := mapint_none hbb; subst hb0; obtain rfl : 0 = n := hn; refine s_seq (s_region ?_); refine o_val rfl rfl rfl (y_assign (v := (.slice _ _ _)) rfl) (o_nil ?_); refine s_ret ?_; exact ⟨_, [[]], res1 rfl rfl, ⟨_, _, [], rfl, OS.nil _ _, rfl⟩, sub_none⟩
 ·refine s_skip ?_; refine s_seq (s_region ?_); refine o_lit (vs := []) rfl rfl (CloneI_k0) (fun b3 => ?_); refine o_val rfl rfl rfl (y_move (v := (.slice _ _ _)) rfl) ?_; refine o_append (sz := 1) (bytes := 8) (news := (bb).map (.int .i64)) 0 rfl Try.underlying22 Try.type3 rfl rfl rfl rfl rfl (OS.lit (sz := 1) (n := 0) rfl (by decide)) rfl rfl (Src.rd (sz := 0) Try.underlying22 h.here (by simp [hn]) (one_int _ _)) (by omega) (fun A4 c5 E6 ho7 hn8 => ?_); have ho9 : OS A4 n c5 3 1 ((bb).map (.int .i64)) E6 := by simpa using ho7
  clear ho7
  refine o_val rfl rfl rfl (y_assign (v := (.slice _ _ _)) rfl) (o_nil ?_); refine s_norm [_] rfl ?_; refine s_ret ?_; exact ⟨_, _, res1 rfl rfl, ⟨_, _, _, congrArg (fun k => Value.slice _ k _) (Nat.zero_add _), ho9, rfl⟩, sub_front ⟨_, rfl⟩⟩

end Go.Proofs.Ytacmbiohjiogiaa.K
end
section
set_option linter.unusedVariables false
set_option linter.unusedSimpArgs false
set_option maxRecDepth 100000
namespace Go.Proofs.Ytacmbiohjiogiaa.K
open Go.RowKit

/-- Element by element. -/
def All2 {α β : Type} [Inhabited α] [Inhabited β] (p : α → β → Prop) (xs : List α) (ys : List β) : Prop := xs.length = ys.length ∧ ∀ j, j < xs.length → p (xs.getD j default) (ys.getD j default)
instance {α β : Type} [Inhabited α] [Inhabited β] (p : α → β → Prop) [∀ x y, Decidable (p x y)] (xs : List α) (ys : List β) : Decidable (All2 p xs ys) := by unfold All2; infer_instance
instance : DecidableEq FR := fun a b => if h : a.name = b.name ∧ a.bits = b.bits ∧ a.low = b.low then isTrue (by cases a; cases b; simp_all) else isFalse (fun e => h (by subst e; exact ⟨rfl, rfl, rfl⟩))

theorem EqualI_c {V : Mem} (A : Option Addr) (n c : Nat) (xs : List Int) (h : Cels V [] A (xs.map (.int .i64))) (hn : xs.length = n) (B : Option Addr) (m d : Nat) (ys : List Int) (h' : Cels V [] B (ys.map (.int .i64))) (hm : ys.length = m) (hb : n ≤ 140737488355328) : CallS Try.prog 21 [.slice A n c, .slice B m d].toArray V [] (fun r L' => r = .bool (decide (xs = ys)) ∧ L' = []) := by
 refine callS Try.func21 rfl rfl (fun w0 => ?_); refine s_seq (s_region ?_); refine o_val rfl rfl rfl (y_assign (v := (.bool _)) rfl) (o_nil ?_); refine s_seq ?_; refine s_seq (s_region ?_); refine o_val rfl rfl rfl (y_move (v := (.slice _ _ _)) rfl) ?_; refine o_val rfl rfl rfl (y_len Try.runUnderlying22 rfl) ?_; refine o_val rfl rfl rfl (y_move (v := (.slice _ _ _)) rfl) ?_; refine o_val rfl rfl rfl (y_len Try.runUnderlying22 rfl) ?_; refine o_val rfl rfl rfl (y_neq rfl rfl) (o_nil ?_); refine s_if rfl (fun h1 => ?_) (fun h2 => ?_)
 ·refine s_seq (s_region ?_); refine o_val rfl rfl rfl (y_assign (v := (.bool _)) rfl) (o_nil ?_); refine s_ret ?_; exact ⟨_, [], res1 rfl rfl, ⟨congrArg Value.bool (decide_eq_false (fun hh => by have := congrArg List.length hh; omega)).symm, rfl⟩, sub_picks [] rfl⟩
 ·refine s_skip ?_; refine s_seq ?_; refine s_seq (s_region ?_); refine o_val rfl rfl rfl (y_move (v := (.slice _ _ _)) rfl) ?_; refine o_val rfl rfl rfl (y_len Try.runUnderlying22 rfl) ?_; refine o_val rfl rfl rfl (y_move (v := (.int _ _)) rfl) (o_nil ?_); refine s_block ?_; refine s_loopK (γ := Nat) [(0, (.slice _ _ _)), (1, (.slice _ _ _)), (12, (.int _ _))] [] (fun g => [(13, .int .i64 g)]) (fun g => []) (fun g => g ≤ n ∧ ∀ j, j < g → xs.getD j 0 = ys.getD j 0) (fun g => n - g) (0) ⟨rfl, rfl, rfl, rfl, trivial⟩ (sub_picks [] rfl) ?_ ?_
  ·exact ⟨Nat.zero_le _, fun j hj => absurd hj (Nat.not_lt_zero j)⟩
  intro g _f hI; obtain ⟨hg, hall⟩ := hI; refine s_seq (s_region ?_); refine o_val rfl rfl rfl (y_lss rfl rfl) (o_nil ?_); refine s_seq ?_; refine s_if rfl (fun h3 => ?_) (fun h4 => ?_)
  ·refine s_skip ?_; refine s_seq ?_; refine s_block ?_; refine s_seq (s_region ?_); refine o_val rfl rfl rfl (y_move (v := (.int _ _)) rfl) ?_; refine o_val rfl rfl rfl (y_assign (v := (.int _ _)) rfl) (o_nil ?_); refine s_seq ?_; refine s_quiet (by kernel_rfl) (by kernel_rfl) ?_; refine q_val rfl rfl rfl (y_move (v := (.slice _ _ _)) rfl) ?_; refine q_val rfl rfl rfl (y_move (v := (.int _ _)) rfl) ?_; refine q_val rfl rfl rfl (y_index1 Try.runUnderlying22 Try.sizeOf3 (some_int (i := 0) h (by omega)) rfl rfl (by omega)) ?_; refine q_val rfl rfl rfl (y_load Try.isAgg3 rfl (cel_int h.here (by omega))) ?_; refine q_val rfl rfl rfl (y_move (v := (.slice _ _ _)) rfl) ?_; refine q_val rfl rfl rfl (y_move (v := (.int _ _)) rfl) ?_; refine q_val rfl rfl rfl (y_index1 Try.runUnderlying22 Try.sizeOf3 (some_int (i := 0) h' (by omega)) rfl rfl (by omega)) ?_; refine q_val rfl rfl rfl (y_load Try.isAgg3 rfl (cel_int h'.here (by omega))) ?_; refine q_val rfl rfl rfl (y_neq rfl rfl) ?_; refine q_nil ?_; refine s_forget [(0, (.slice _ _ _)), (1, (.slice _ _ _)), (12, (.int _ _)), (13, (.int _ _)), (24, (.bool _))] ⟨rfl, rfl, rfl, rfl, rfl, trivial⟩ (fun _f => ?_); refine s_if rfl (fun h5 => ?_) (fun h6 => ?_)
   ·have hne := h5; refine s_seq (s_region ?_); refine o_val rfl rfl rfl (y_assign (v := (.bool _)) rfl) (o_nil ?_); refine s_ret ?_; exact ⟨_, [], res1 rfl rfl, ⟨congrArg Value.bool (decide_eq_false (fun hh => hne (by rw [hh]))).symm, rfl⟩, sub_picks [] rfl⟩
   ·have heq := Decidable.not_not.1 h6; refine s_skip ?_; refine s_region ?_; refine o_val rfl rfl rfl (y_add rfl rfl (by simp only [inK]; omega)) ?_; refine o_val rfl rfl rfl (y_move (v := (.int _ _)) rfl) (o_nil ?_); exact ⟨g + 1, (by first | omega | (dsimp only; omega)), ⟨by omega, all_next hall heq⟩, ⟨(congrArg (Value.int .i64) (by omega)), rfl, rfl, rfl, trivial⟩, (sub_picks [] rfl)⟩
  ·refine s_exit ?_; refine s_seq (s_region ?_); refine o_val rfl rfl rfl (y_assign (v := (.bool _)) rfl) (o_nil ?_); refine s_ret ?_; exact ⟨_, [], res1 rfl rfl, ⟨congrArg Value.bool (decide_eq_true (ext_getD (by omega) (fun j hj => hall j (by omega)))).symm, rfl⟩, sub_picks [] rfl⟩

/-- What a world says. -/
def WR.d (w : WR) : List (ByteArray × List FR) × List Int × List (Int × Int × List (Int × List Int)) := (w.ks.map KR.d, w.gs, w.its.map IR.d)
instance (w v : WR) : Decidable (w.d = v.d) := decidable_of_iff (w.ks.map KR.d = v.ks.map KR.d ∧ w.gs = v.gs ∧ w.its.map IR.d = v.its.map IR.d) ⟨fun h => Prod.ext h.1 (Prod.ext h.2.1 h.2.2), fun h => ⟨congrArg Prod.fst h, congrArg (fun q => q.2.1) h, congrArg (fun q => q.2.2) h⟩⟩

end Go.Proofs.Ytacmbiohjiogiaa.K
end
section
set_option linter.unusedVariables false
set_option linter.unusedSimpArgs false
set_option maxRecDepth 100000
namespace Go.Proofs.Ytacmbiohjiogiaa.K
open Go.RowKit

/-- The names of fields. -/
def names (fs : List FR) : List ByteArray := fs.map (·.name)
end Go.Proofs.Ytacmbiohjiogiaa.K
end
section
set_option linter.unusedVariables false
set_option linter.unusedSimpArgs false
set_option maxRecDepth 100000
namespace Go.Proofs.Ytacmbiohjiogiaa.K
open Go.RowKit

end Go.Proofs.Ytacmbiohjiogiaa.K
end
section
set_option linter.unusedVariables false
set_option linter.unusedSimpArgs false
set_option maxRecDepth 100000
set_option maxHeartbeats 1000000
namespace Go.Proofs.Ytacmbiohjiogiaa.K
open Go.RowKit

end Go.Proofs.Ytacmbiohjiogiaa.K
end
section
set_option linter.unusedVariables false
set_option linter.unusedSimpArgs false
set_option maxRecDepth 100000
set_option maxHeartbeats 1000000
namespace Go.Proofs.Ytacmbiohjiogiaa.K
open Go.RowKit

end Go.Proofs.Ytacmbiohjiogiaa.K
end
section
set_option linter.unusedVariables false
set_option linter.unusedSimpArgs false
set_option maxRecDepth 100000
set_option maxHeartbeats 1000000
namespace Go.Proofs.Ytacmbiohjiogiaa.K
open Go.RowKit

theorem Sub.trans {L L' L'' : List Grp} (h : Sub L'' L') (h' : Sub L' L) : Sub L'' L := fun w0 V w hw => h w0 V w (h' w0 V w hw)
theorem inG_mem {G : Grp} {L : List Grp} (h : G ∈ L) : MSub (inG G) (inG L.flatten) := fun _ _ hb => List.mem_flatten.2 ⟨G, h, hb⟩
end Go.Proofs.Ytacmbiohjiogiaa.K
end
section
set_option linter.unusedVariables false
set_option linter.unusedSimpArgs false
set_option maxRecDepth 100000
set_option maxHeartbeats 2000000
namespace Go.Proofs.Ytacmbiohjiogiaa.K
open Go.RowKit

/-- What is left to be read, and whether something was amiss. -/
abbrev RS : Type := List Int × Bool
def nxV (s : RS) : Int := s.1.headD 0
def nxS (s : RS) : RS := (s.1.tail, s.2 || s.1.isEmpty)
def mnP (s : RS) : Prop := nxV s < 0 ∨ (s.1.tail.length : Int) < nxV s
instance (s : RS) : Decidable (mnP s) := by unfold mnP; infer_instance
def mnV (s : RS) : Nat := if mnP s then 0 else (nxV s).toNat
def mnS (s : RS) : RS := (s.1.tail, if mnP s then true else s.2 || s.1.isEmpty)
def liV (s : RS) : List Int := s.1.tail.take (mnV s)
def liS (s : RS) : RS := (s.1.tail.drop (mnV s), (mnS s).2)
def badB (n : Int) : Bool := decide (n < 0) || decide (255 < n)
def txV (s : RS) : ByteArray := mkB ((liV s).map IntKind.u8.wrap)
def txS (s : RS) : RS := ((liS s).1, (liS s).2 || (liV s).any badB)
theorem mnV_le (s : RS) : mnV s ≤ s.1.tail.length := by
 by_cases h : mnP s
 ·rw [mnV, if_pos h]; omega
 ·rw [mnV, if_neg h]; unfold mnP at h; omega
theorem liV_len (s : RS) : (liV s).length = mnV s := by unfold liV; rw [List.length_take]; have := mnV_le s; omega
def rdg (b : Nat) (A : Option Addr) (n c : Nat) (bad : Bool) : Grp := [(b, .cells [.slice A n c, .bool bad].toArray 281 (0, 0))]
/-- A reader: what is left lies in the memory 'V0'. -/
def Rdr (V0 : Mem) (b : Nat) (s : RS) (G : Grp) : Prop := ∃ (A : Option Addr) (n c : Nat), G = rdg b A n c s.2 ∧ s.1.length = n ∧ n ≤ c ∧ n ≤ 1099511627776 ∧ Cels V0 [] A (s.1.map (.int .i64))
theorem Rdr.new {V0 : Mem} {b : Nat} {A : Option Addr} {n c : Nat} {xs : List Int} {bad : Bool} (h : Cels V0 [] A (xs.map (.int .i64))) (hn : xs.length = n) (hc : n ≤ c) (hb : n ≤ 1099511627776) : Rdr V0 b (xs, bad) (rdg b A n c bad) := ⟨A, n, c, rfl, hn, hc, hb, h⟩
theorem Rdr.few {V0 : Mem} {b : Nat} {s : RS} {G : Grp} (h : Rdr V0 b s G) : s.1.length ≤ 1099511627776 := by obtain ⟨_, _, _, _, h1, _, h2, _⟩ := h; omega
theorem cut_tail {V : Mem} {A : Option Addr} {n c : Nat} {xs : List Int} (h : Cels V [] A (xs.map (.int .i64))) (hn : xs.length = n) (hc : n ≤ c) (k : Nat) (hk : k ≤ n) : Cels V [] (cutA A c k 1) ((xs.drop k).map (.int .i64)) := by
 have h1 := h.cut c k 1 (n - k) (fun e => by omega); rw [Nat.mul_one, ← List.map_drop, List.take_of_length_le (by simp; omega)] at h1; exact h1
theorem cels_take {V : Mem} {A : Option Addr} {xs : List Int} (h : Cels V [] A (xs.map (.int .i64))) (k : Nat) : Cels V [] A ((xs.take k).map (.int .i64)) := fun i c hi => h i c (by
 rw [List.map_take, List.getElem?_take] at hi
 split at hi
 ·exact hi
 ·cases hi)
structure LT3 where
 i : Nat
 A : Option Addr
 c : Nat
 E : Grp
 bad : Bool

theorem NextR_c {V V0 : Mem} (hm : MSub V0 V) {b : Nat} {s : RS} {G : Grp} (hR : Rdr V0 b s G) : CallS Try.prog 174 [.pointer (some ⟨b, 0, none⟩)].toArray V [G] (fun r L' => ∃ G', r = .int .i64 (nxV s) ∧ Rdr V0 b (nxS s) G' ∧ L' = [G']) := by
 obtain ⟨l, bad⟩ := s; obtain ⟨A, n, c, rfl, hn, hc, hb, h⟩ := hR; dsimp only at *; refine callS Try.func174 rfl rfl (fun w0 => ?_); refine s_seq (s_region ?_); refine o_val rfl rfl rfl (y_assign (v := (.int _ _)) rfl) (o_nil ?_); refine s_seq ?_; refine s_seq (s_region ?_); refine o_val rfl rfl rfl (y_move (v := (.pointer _)) rfl) ?_; refine o_val rfl rfl rfl (y_nilCheck rfl) ?_; refine o_val rfl rfl rfl (y_field0 Try.runUnderlying281 rfl Try.sizeOf22 rfl rfl) ?_; refine o_val rfl rfl rfl (y_load Try.isAgg22 rfl (cel_own 0 rfl rfl)) ?_; refine o_val rfl rfl rfl (y_len Try.runUnderlying22 rfl) ?_; refine o_val rfl rfl rfl (y_eql rfl rfl) (o_nil ?_); refine s_if rfl (fun h1 => ?_) (fun h2 => ?_)
 ·have h0 : l = [] := List.eq_nil_of_length_eq_zero (by omega); subst h0; refine s_seq (s_region ?_); refine o_val rfl rfl rfl (y_move (v := (.pointer _)) rfl) ?_; refine o_val rfl rfl rfl (y_nilCheck rfl) ?_; refine o_val rfl rfl rfl (y_field0 Try.runUnderlying281 rfl Try.sizeOf4 rfl rfl) ?_; refine o_store (v := (.bool _)) 0 rfl Try.sizeOf4 rfl rfl rfl rfl (o_nil ?_); refine s_seq (s_region ?_); refine o_val rfl rfl rfl (y_assign (v := (.int _ _)) rfl) (o_nil ?_); refine s_ret ?_; exact ⟨_, [_], res1 rfl rfl, ⟨_, rfl, ⟨_, _, _, by simp only [nxS, List.isEmpty_nil, Bool.or_true]; rfl, hn, hc, hb, h⟩, rfl⟩, sub_front ⟨_, rfl⟩⟩
 ·have h0 : ¬ n = 0 := by omega
  obtain ⟨x, t, rfl⟩ : ∃ x t, l = x :: t := by cases l with | nil => exact absurd hn.symm h0 | cons x t => exact ⟨x, t, rfl⟩
  refine s_skip ?_; refine s_seq (s_region ?_); refine o_val rfl rfl rfl (y_move (v := (.pointer _)) rfl) ?_; refine o_val rfl rfl rfl (y_nilCheck rfl) ?_; refine o_val rfl rfl rfl (y_field0 Try.runUnderlying281 rfl Try.sizeOf22 rfl rfl) ?_; refine o_val rfl rfl rfl (y_load Try.isAgg22 rfl (cel_own 0 rfl rfl)) ?_; refine o_val rfl rfl rfl (y_index1 Try.runUnderlying22 Try.sizeOf3 (some_int (i := 0) (h.ms hm) (by simp)) rfl rfl (by omega)) ?_; refine o_val rfl rfl rfl (y_load Try.isAgg3 rfl (cel_int (h.ms hm).here (by simp))) ?_; refine o_val rfl rfl rfl (y_assign (v := (.int _ _)) rfl) (o_nil ?_); refine s_forget [(0, (.pointer _)), (2, (.int _ _)), (3, (.int _ _))] ⟨rfl, rfl, rfl, trivial⟩ (fun _f => ?_); refine s_seq (s_region ?_); refine o_val rfl rfl rfl (y_move (v := (.pointer _)) rfl) ?_; refine o_val rfl rfl rfl (y_move (v := (.pointer _)) rfl) ?_; refine o_val rfl rfl rfl (y_nilCheck rfl) ?_; refine o_val rfl rfl rfl (y_field0 Try.runUnderlying281 rfl Try.sizeOf22 rfl rfl) ?_; refine o_val rfl rfl rfl (y_load Try.isAgg22 rfl (cel_own 0 rfl rfl)) ?_; refine o_val rfl rfl rfl (y_cut_lo Try.runUnderlying22 Try.sizeOf3 rfl rfl (by omega)) ?_; refine o_val rfl rfl rfl (y_nilCheck rfl) ?_; refine o_val rfl rfl rfl (y_field0 Try.runUnderlying281 rfl Try.sizeOf22 rfl rfl) ?_; refine o_store (v := (.slice _ _ _)) 0 rfl Try.sizeOf22 rfl rfl rfl rfl (o_nil ?_); refine s_seq (s_region ?_); refine o_val rfl rfl rfl (y_move (v := (.int _ _)) rfl) ?_; refine o_val rfl rfl rfl (y_assign (v := (.int _ _)) rfl) (o_nil ?_); refine s_ret ?_; exact ⟨_, [_], res1 rfl rfl, ⟨_, rfl, ⟨_, _, _, by simp only [nxS, List.isEmpty_cons, Bool.or_false]; rfl, by simp only [nxS, List.tail_cons, List.length_cons] at *; omega, by omega, by omega, cut_tail h hn hc 1 (by omega)⟩, rfl⟩, sub_front ⟨_, rfl⟩⟩

theorem ManyR_c {V V0 : Mem} (hm : MSub V0 V) {b : Nat} {s : RS} {G : Grp} (hR : Rdr V0 b s G) : CallS Try.prog 176 [.pointer (some ⟨b, 0, none⟩)].toArray V [G] (fun r L' => ∃ G', r = .int .i64 (mnV s : Nat) ∧ Rdr V0 b (mnS s) G' ∧ L' = [G']) := by
 refine callS Try.func176 rfl rfl (fun w0 => ?_); refine s_seq (s_region ?_); refine o_val rfl rfl rfl (y_assign (v := (.int _ _)) rfl) (o_nil ?_); refine s_seq (s_region ?_); refine o_val rfl rfl rfl (y_move (v := (.pointer _)) rfl) ?_; refine o_fn 1 (d := 5) rfl Try.call174 (NextR_c (hm.trans MSub.ext) hR) rfl ?_; rintro _ _ ⟨G', rfl, hR', rfl⟩; refine o_val rfl rfl rfl (y_assign (v := (.int _ _)) rfl) (o_nil ?_); refine s_seq ?_; refine s_seq (s_region ?_); obtain ⟨A, n, c, rfl, hn, hc, hb, h⟩ := hR'; simp only [nxS] at hn h; refine o_val rfl rfl rfl (y_move (v := (.int _ _)) rfl) ?_; refine o_split rfl rfl rfl (y_lss rfl rfl) (fun p1 => ?_) (fun p2 => ?_)
 ·have h1 := p1; have hP : mnP s := .inl h1; refine o_val rfl rfl rfl (y_move (v := (.bool _)) rfl) ?_; refine o_guard_no rfl rfl rfl rfl rfl ?_; refine o_guard_no rfl rfl rfl rfl rfl ?_; refine o_guard_no rfl rfl rfl rfl rfl ?_; refine o_guard_no rfl rfl rfl rfl rfl ?_; refine o_guard_no rfl rfl rfl rfl rfl ?_; refine o_guard_no rfl rfl rfl rfl rfl ?_; refine o_guard_no rfl rfl rfl rfl rfl ?_; refine o_val rfl rfl rfl (y_pick_t (v := (.bool _)) rfl rfl) (o_nil ?_); refine s_forget [(0, (.pointer _)), (2, (.int _ _)), (3, (.int _ _)), (16, (.bool _))] ⟨rfl, rfl, rfl, rfl, trivial⟩ (fun _f => ?_); refine s_then rfl ?_; refine s_seq (s_region ?_); refine o_val rfl rfl rfl (y_move (v := (.pointer _)) rfl) ?_; refine o_val rfl rfl rfl (y_nilCheck rfl) ?_; refine o_val rfl rfl rfl (y_field0 Try.runUnderlying281 rfl Try.sizeOf4 rfl rfl) ?_; refine o_store (v := (.bool _)) 0 rfl Try.sizeOf4 rfl rfl rfl rfl (o_nil ?_); refine s_seq (s_region ?_); refine o_val rfl rfl rfl (y_assign (v := (.int _ _)) rfl) (o_nil ?_); refine s_ret ?_; exact ⟨_, [_], res1 rfl rfl, ⟨_, congrArg (Value.int .i64) (by unfold mnV; rw [if_pos hP]; rfl), ⟨_, _, _, by simp only [mnS, if_pos hP]; first | done | rfl, hn, hc, hb, h⟩, rfl⟩, sub_front ⟨_, rfl⟩⟩
 ·have h1 := p2; refine o_val rfl rfl rfl (y_move (v := (.bool _)) rfl) ?_; refine o_guard_yes rfl rfl ?_; refine o_val rfl rfl rfl (y_move (v := (.int _ _)) rfl) ?_; refine o_guard_yes rfl rfl ?_; refine o_val rfl rfl rfl (y_move (v := (.pointer _)) rfl) ?_; refine o_guard_yes rfl rfl ?_; refine o_val rfl rfl rfl (y_nilCheck rfl) ?_; refine o_guard_yes rfl rfl ?_; refine o_val rfl rfl rfl (y_field0 Try.runUnderlying281 rfl Try.sizeOf22 rfl rfl) ?_; refine o_guard_yes rfl rfl ?_; refine o_val rfl rfl rfl (y_load Try.isAgg22 rfl (cel_own 0 rfl rfl)) ?_; refine o_guard_yes rfl rfl ?_; refine o_val rfl rfl rfl (y_len Try.runUnderlying22 rfl) ?_; refine o_guard_yes rfl rfl ?_; refine o_val rfl rfl rfl (y_gtr rfl rfl) ?_; refine o_val rfl rfl rfl (y_pick_f (v := (.bool _)) rfl rfl) (o_nil ?_); refine s_forget [(0, (.pointer _)), (2, (.int _ _)), (3, (.int _ _)), (16, (.bool _))] ⟨rfl, rfl, rfl, rfl, trivial⟩ (fun _f => ?_); refine s_if rfl (fun h3 => ?_) (fun h4 => ?_)
  ·have hP : mnP s := by unfold mnP; omega
   refine s_seq (s_region ?_); refine o_val rfl rfl rfl (y_move (v := (.pointer _)) rfl) ?_; refine o_val rfl rfl rfl (y_nilCheck rfl) ?_; refine o_val rfl rfl rfl (y_field0 Try.runUnderlying281 rfl Try.sizeOf4 rfl rfl) ?_; refine o_store (v := (.bool _)) 0 rfl Try.sizeOf4 rfl rfl rfl rfl (o_nil ?_); refine s_seq (s_region ?_); refine o_val rfl rfl rfl (y_assign (v := (.int _ _)) rfl) (o_nil ?_); refine s_ret ?_; exact ⟨_, [_], res1 rfl rfl, ⟨_, congrArg (Value.int .i64) (by unfold mnV; rw [if_pos hP]; rfl), ⟨_, _, _, by simp only [mnS, if_pos hP]; first | done | rfl, hn, hc, hb, h⟩, rfl⟩, sub_front ⟨_, rfl⟩⟩
  ·have hP : ¬ mnP s := by unfold mnP; omega
   refine s_skip ?_; refine s_seq (s_region ?_); refine o_val rfl rfl rfl (y_move (v := (.int _ _)) rfl) ?_; refine o_val rfl rfl rfl (y_assign (v := (.int _ _)) rfl) (o_nil ?_); refine s_ret ?_; exact ⟨_, [_], res1 rfl rfl, ⟨_, congrArg (Value.int .i64) (by unfold mnV; rw [if_neg hP]; unfold mnP at hP; omega), ⟨_, _, _, by simp only [mnS, if_neg hP, nxS]; first | done | rfl, hn, hc, hb, h⟩, rfl⟩, sub_front ⟨_, rfl⟩⟩

theorem ListR_c {V V0 : Mem} (hm : MSub V0 V) {b : Nat} {s : RS} {G : Grp} (hR : Rdr V0 b s G) : CallS Try.prog 177 [.pointer (some ⟨b, 0, none⟩)].toArray V [G] (fun r L' => ∃ G' B e E, r = .slice B (mnV s) e ∧ Rdr V0 b (liS s) G' ∧ OS B (mnV s) e 3 1 ((liV s).map (.int .i64)) E ∧ L' = [G', E]) := by
 refine callS Try.func177 rfl rfl (fun w0 => ?_); refine s_seq (s_region ?_); refine o_val rfl rfl rfl (y_assign (v := (.slice _ _ _)) rfl) (o_nil ?_); refine s_seq (s_region ?_); refine o_val rfl rfl rfl (y_move (v := (.pointer _)) rfl) ?_; refine o_fn 1 (d := 6) rfl Try.call176 (ManyR_c (hm.trans MSub.ext) hR) rfl ?_; rintro _ _ ⟨G', rfl, hR', rfl⟩; refine o_val rfl rfl rfl (y_assign (v := (.int _ _)) rfl) (o_nil ?_); refine s_seq (s_region ?_); obtain ⟨A, n, c, rfl, hn, hc, hb, h⟩ := hR'; simp only [mnS] at hn h; have hml := mnV_le s; refine o_val rfl rfl rfl (y_move (v := (.pointer _)) rfl) ?_; refine o_val rfl rfl rfl (y_nilCheck rfl) ?_; refine o_val rfl rfl rfl (y_field0 Try.runUnderlying281 rfl Try.sizeOf22 rfl rfl) ?_; refine o_val rfl rfl rfl (y_load Try.isAgg22 rfl (cel_own 0 rfl rfl)) ?_; refine o_val rfl rfl rfl (y_move (v := (.int _ _)) rfl) ?_; refine o_val rfl rfl rfl (y_cut_hi Try.runUnderlying22 Try.sizeOf3 rfl rfl (by omega)) ?_; refine o_fn 0 (d := 13) rfl Try.call93 (CloneI_c A (mnV s) c (liV s) (cels_take (h.ms (hm.trans MSub.ext)) _) (liV_len s) (by omega)) rfl ?_; rintro _ _ ⟨B, e, E, rfl, hE, rfl⟩; refine o_val rfl rfl rfl (y_assign (v := (.slice _ _ _)) rfl) (o_nil ?_); refine s_seq (s_region ?_); refine o_val rfl rfl rfl (y_move (v := (.pointer _)) rfl) ?_; refine o_val rfl rfl rfl (y_move (v := (.pointer _)) rfl) ?_; refine o_val rfl rfl rfl (y_nilCheck rfl) ?_; refine o_val rfl rfl rfl (y_field0 Try.runUnderlying281 rfl Try.sizeOf22 rfl rfl) ?_; refine o_val rfl rfl rfl (y_load Try.isAgg22 rfl (cel_own 1 rfl rfl)) ?_; refine o_val rfl rfl rfl (y_move (v := (.int _ _)) rfl) ?_; refine o_val rfl rfl rfl (y_cut_lo Try.runUnderlying22 Try.sizeOf3 rfl rfl (by omega)) ?_; refine o_val rfl rfl rfl (y_nilCheck rfl) ?_; refine o_val rfl rfl rfl (y_field0 Try.runUnderlying281 rfl Try.sizeOf22 rfl rfl) ?_; refine o_store (v := (.slice _ _ _)) 1 rfl Try.sizeOf22 rfl rfl rfl rfl (o_nil ?_); refine s_forget [(2, (.slice _ _ _)), (4, (.slice _ _ _))] ⟨rfl, rfl, trivial⟩ (fun _f => ?_); refine s_seq (s_region ?_); refine o_val rfl rfl rfl (y_move (v := (.slice _ _ _)) rfl) ?_; refine o_val rfl rfl rfl (y_assign (v := (.slice _ _ _)) rfl) (o_nil ?_); refine s_ret ?_; exact ⟨_, [_, _], res1 rfl rfl, ⟨_, _, _, _, rfl, ⟨_, _, _, rfl, by simp only [liS, List.length_drop]; omega, by omega, by omega, cut_tail h hn hc (mnV s) (by omega)⟩, hE, rfl⟩, sub_picks [1, 0] rfl⟩

theorem TextR_k0 (v0 : Int) (w : World) : (Instr.buildSlice 76 1 ([(0, (.int .u8 v0))] : List (Nat × Value)).toArray).run Try.prog w = .ok (.slice (some ⟨w.heap.size, 0, none⟩) 1 1) { w with heap := w.heap.push (.cells ([.int .u8 v0] : List Value).toArray 5 (0, 0)) } := by kernel_rfl
theorem TextR_c {V V0 : Mem} (hm : MSub V0 V) {b : Nat} {s : RS} {G : Grp} (hR : Rdr V0 b s G) : CallS Try.prog 207 [.pointer (some ⟨b, 0, none⟩)].toArray V [G] (fun r L' => ∃ G', r = .string (txV s) ∧ Rdr V0 b (txS s) G' ∧ L' = [G']) := by
 have hfew := hR.few; have htl : s.1.tail.length ≤ s.1.length := by rw [List.length_tail]; omega
 refine callS Try.func207 rfl rfl (fun w0 => ?_); refine s_seq (s_region ?_); refine o_val rfl rfl rfl (y_assign (v := (.string _)) rfl) (o_nil ?_); refine s_seq (s_region ?_); refine o_val rfl rfl rfl (y_assign (v := (.slice _ _ _)) rfl) (o_nil ?_); refine s_seq ?_; refine s_seq (s_region ?_); refine o_val rfl rfl rfl (y_move (v := (.pointer _)) rfl) ?_; refine o_fn 1 (d := 7) rfl Try.call177 (ListR_c (hm.trans MSub.ext) hR) rfl ?_; rintro _ _ ⟨G', lB, le, lE, rfl, hR', hlo, rfl⟩; refine o_val rfl rfl rfl (y_len Try.runUnderlying22 rfl) ?_; refine o_val rfl rfl rfl (y_move (v := (.int _ _)) rfl) (o_nil ?_); refine s_block ?_; refine s_group ?_; obtain ⟨A, n, c, rfl, hn, hc, hb, h⟩ := hR'; refine s_loopK (γ := LT3) [(0, (.pointer _)), (2, (.string _)), (7, (.slice _ _ _)), (8, (.int _ _))] [_] (fun g => [(3, .slice g.A g.i g.c), (9, .int .i64 g.i)]) (fun g => [rdg b A n c g.bad, g.E]) (fun g => g.i ≤ mnV s ∧ OS g.A g.i g.c 5 1 ((((liV s).take g.i).map IntKind.u8.wrap).map (.int .u8)) g.E ∧ g.bad = ((liS s).2 || ((liV s).take g.i).any badB)) (fun g => mnV s - g.i) (LT3.mk 0 none 0 [] (liS s).2) ⟨rfl, rfl, rfl, rfl, rfl, rfl, trivial⟩ (sub_picks [0, 1, 0] rfl) ?_ ?_
 ·exact ⟨Nat.zero_le _, OS.nil _ _, by simp⟩
 intro g _f hI; refine s_norm _ (by simp only [pull, picks, setG, List.cons_append, List.nil_append, List.append_nil, List.drop_succ_cons, List.drop_zero]; rfl) ?_; obtain ⟨hgi, hgo, hgb⟩ := hI; have hll := liV_len s; have hml := mnV_le s; simp only [liS, List.length_drop] at hn; refine s_seq (s_region ?_); refine o_val rfl rfl rfl (y_lss rfl rfl) (o_nil ?_); refine s_seq ?_; refine s_if rfl (fun h1 => ?_) (fun h2 => ?_)
 ·refine s_skip ?_; refine s_seq ?_; refine s_block ?_; refine s_seq (s_region ?_); refine o_val rfl rfl rfl (y_index1 Try.runUnderlying22 Try.sizeOf3 (hlo.some_of (by omega)) rfl rfl (by omega)) ?_; refine o_val rfl rfl rfl (y_load Try.isAgg3 rfl (cel_int (hlo.cels (j := 2) rfl) (by omega))) ?_; refine o_val rfl rfl rfl (y_assign (v := (.int _ _)) rfl) (o_nil ?_); refine s_seq ?_; refine s_seq (s_region ?_); refine o_val rfl rfl rfl (y_move (v := (.int _ _)) rfl) ?_; refine o_split rfl rfl rfl (y_lss rfl rfl) (fun p3 => ?_) (fun p4 => ?_)
  ·have hbd : badB ((liV s).getD ((g.i : Nat) : Int).toNat 0) = true := by unfold badB; rw [decide_eq_true p3]; rfl
   refine o_val rfl rfl rfl (y_move (v := (.bool _)) rfl) ?_; refine o_guard_no rfl rfl rfl rfl rfl ?_; refine o_guard_no rfl rfl rfl rfl rfl ?_; refine o_val rfl rfl rfl (y_pick_t (v := (.bool _)) rfl rfl) (o_nil ?_); refine s_forget [(0, (.pointer _)), (2, (.string _)), (3, (.slice _ _ _)), (5, (.int _ _)), (7, (.slice _ _ _)), (8, (.int _ _)), (9, (.int _ _)), (18, (.bool _))] ⟨rfl, rfl, rfl, rfl, rfl, rfl, rfl, rfl, trivial⟩ (fun _f => ?_); refine s_then rfl ?_; refine s_region ?_; refine o_val rfl rfl rfl (y_move (v := (.pointer _)) rfl) ?_; refine o_val rfl rfl rfl (y_nilCheck rfl) ?_; refine o_val rfl rfl rfl (y_field0 Try.runUnderlying281 rfl Try.sizeOf4 rfl rfl) ?_; refine o_store (v := (.bool _)) 0 rfl Try.sizeOf4 rfl rfl rfl rfl (o_nil ?_); refine s_region ?_; refine o_val rfl rfl rfl (y_move (v := (.slice _ _ _)) rfl) ?_; refine o_val rfl rfl rfl (y_move (v := (.int _ _)) rfl) ?_; refine o_val rfl rfl rfl (y_conv' Try.runUnderlying3 Try.runUnderlying5 rfl) ?_; refine o_lit (vs := [(0, .int _ _)]) rfl rfl (TextR_k0 _) (fun b5 => ?_); refine o_append (sz := 1) (bytes := 1) (news := [(.int _ _)]) 1 rfl Try.underlying76 Try.type5 rfl rfl rfl rfl rfl hgo rfl rfl (Src.slice Try.underlying76 (cels_own 3 rfl rfl) rfl (by simp [Value.oneCell']) (by simp)) (by omega) (fun A6 c7 E8 ho9 hn10 => ?_); have ho11 : OS A6 (g.i + 1) c7 5 1 ((((liV s).take (g.i + 1)).map IntKind.u8.wrap).map (.int .u8)) E8 := (os_eq ho9 (by rw [tkg (d := 0) (show g.i < (liV s).length by omega)]; simp only [List.map_append, List.map_cons, List.map_nil]; first | done | rfl))
   clear ho9
   refine o_val rfl rfl rfl (y_assign (v := (.slice _ _ _)) rfl) (o_nil ?_); refine s_norm [[(_, .cells [(.slice _ _ _), (.bool _)].toArray 281 (0, 0))], _, _, [(_, .cells [(.int _ _)].toArray 5 (0, 0))]] rfl ?_; refine s_region ?_; refine o_val rfl rfl rfl (y_add rfl rfl (by simp only [inK]; omega)) ?_; refine o_val rfl rfl rfl (y_move (v := (.int _ _)) rfl) (o_nil ?_); exact ⟨LT3.mk (g.i + 1) A6 c7 E8 true, (by first | omega | (dsimp only; omega)), ⟨by dsimp only; omega, ho11, by dsimp only; rw [tkg (d := 0) (show g.i < (liV s).length by omega), List.any_append]; simp only [List.any_cons, List.any_nil, Bool.or_false]; rw [show badB ((liV s).getD g.i 0) = true from hbd]; simp⟩, ⟨rfl, (congrArg (Value.int .i64) (by (try dsimp only); omega)), rfl, rfl, rfl, rfl, trivial⟩, (sub_picks [0, 0, 0] rfl)⟩
  ·have h1 := p4; refine o_val rfl rfl rfl (y_move (v := (.bool _)) rfl) ?_; refine o_guard_yes rfl rfl ?_; refine o_val rfl rfl rfl (y_move (v := (.int _ _)) rfl) ?_; refine o_guard_yes rfl rfl ?_; refine o_val rfl rfl rfl (y_gtr rfl rfl) ?_; refine o_val rfl rfl rfl (y_pick_f (v := (.bool _)) rfl rfl) (o_nil ?_); refine s_forget [(0, (.pointer _)), (2, (.string _)), (3, (.slice _ _ _)), (5, (.int _ _)), (7, (.slice _ _ _)), (8, (.int _ _)), (9, (.int _ _)), (18, (.bool _))] ⟨rfl, rfl, rfl, rfl, rfl, rfl, rfl, rfl, trivial⟩ (fun _f => ?_); refine s_if rfl (fun h12 => ?_) (fun h13 => ?_)
   ·have hbd : badB ((liV s).getD ((g.i : Nat) : Int).toNat 0) = true := by unfold badB; rw [decide_eq_true (show 255 < ((liV s).getD ((g.i : Nat) : Int).toNat 0) from h12)]; simp
    refine s_region ?_; refine o_val rfl rfl rfl (y_move (v := (.pointer _)) rfl) ?_; refine o_val rfl rfl rfl (y_nilCheck rfl) ?_; refine o_val rfl rfl rfl (y_field0 Try.runUnderlying281 rfl Try.sizeOf4 rfl rfl) ?_; refine o_store (v := (.bool _)) 0 rfl Try.sizeOf4 rfl rfl rfl rfl (o_nil ?_); refine s_region ?_; refine o_val rfl rfl rfl (y_move (v := (.slice _ _ _)) rfl) ?_; refine o_val rfl rfl rfl (y_move (v := (.int _ _)) rfl) ?_; refine o_val rfl rfl rfl (y_conv' Try.runUnderlying3 Try.runUnderlying5 rfl) ?_; refine o_lit (vs := [(0, .int _ _)]) rfl rfl (TextR_k0 _) (fun b14 => ?_); refine o_append (sz := 1) (bytes := 1) (news := [(.int _ _)]) 1 rfl Try.underlying76 Try.type5 rfl rfl rfl rfl rfl hgo rfl rfl (Src.slice Try.underlying76 (cels_own 3 rfl rfl) rfl (by simp [Value.oneCell']) (by simp)) (by omega) (fun A15 c16 E17 ho18 hn19 => ?_); have ho20 : OS A15 (g.i + 1) c16 5 1 ((((liV s).take (g.i + 1)).map IntKind.u8.wrap).map (.int .u8)) E17 := (os_eq ho18 (by rw [tkg (d := 0) (show g.i < (liV s).length by omega)]; simp only [List.map_append, List.map_cons, List.map_nil]; first | done | rfl))
    clear ho18
    refine o_val rfl rfl rfl (y_assign (v := (.slice _ _ _)) rfl) (o_nil ?_); refine s_norm [[(_, .cells [(.slice _ _ _), (.bool _)].toArray 281 (0, 0))], _, _, [(_, .cells [(.int _ _)].toArray 5 (0, 0))]] rfl ?_; refine s_region ?_; refine o_val rfl rfl rfl (y_add rfl rfl (by simp only [inK]; omega)) ?_; refine o_val rfl rfl rfl (y_move (v := (.int _ _)) rfl) (o_nil ?_); exact ⟨LT3.mk (g.i + 1) A15 c16 E17 true, (by first | omega | (dsimp only; omega)), ⟨by dsimp only; omega, ho20, by dsimp only; rw [tkg (d := 0) (show g.i < (liV s).length by omega), List.any_append]; simp only [List.any_cons, List.any_nil, Bool.or_false]; rw [show badB ((liV s).getD g.i 0) = true from hbd]; simp⟩, ⟨rfl, (congrArg (Value.int .i64) (by (try dsimp only); omega)), rfl, rfl, rfl, rfl, trivial⟩, (sub_picks [0, 0, 0] rfl)⟩
   ·have hbd : badB ((liV s).getD ((g.i : Nat) : Int).toNat 0) = false := by unfold badB; rw [decide_eq_false (show ¬ 255 < ((liV s).getD ((g.i : Nat) : Int).toNat 0) from h13), decide_eq_false h1]; rfl
    refine s_skip ?_; refine s_region ?_; refine o_val rfl rfl rfl (y_move (v := (.slice _ _ _)) rfl) ?_; refine o_val rfl rfl rfl (y_move (v := (.int _ _)) rfl) ?_; refine o_val rfl rfl rfl (y_conv' Try.runUnderlying3 Try.runUnderlying5 rfl) ?_; refine o_lit (vs := [(0, .int _ _)]) rfl rfl (TextR_k0 _) (fun b21 => ?_); refine o_append (sz := 1) (bytes := 1) (news := [(.int _ _)]) 1 rfl Try.underlying76 Try.type5 rfl rfl rfl rfl rfl hgo rfl rfl (Src.slice Try.underlying76 (cels_own 3 rfl rfl) rfl (by simp [Value.oneCell']) (by simp)) (by omega) (fun A22 c23 E24 ho25 hn26 => ?_); have ho27 : OS A22 (g.i + 1) c23 5 1 ((((liV s).take (g.i + 1)).map IntKind.u8.wrap).map (.int .u8)) E24 := (os_eq ho25 (by rw [tkg (d := 0) (show g.i < (liV s).length by omega)]; simp only [List.map_append, List.map_cons, List.map_nil]; first | done | rfl))
    clear ho25
    refine o_val rfl rfl rfl (y_assign (v := (.slice _ _ _)) rfl) (o_nil ?_); refine s_norm [[(_, .cells [(.slice _ _ _), (.bool _)].toArray 281 (0, 0))], _, _, [(_, .cells [(.int _ _)].toArray 5 (0, 0))]] rfl ?_; refine s_region ?_; refine o_val rfl rfl rfl (y_add rfl rfl (by simp only [inK]; omega)) ?_; refine o_val rfl rfl rfl (y_move (v := (.int _ _)) rfl) (o_nil ?_); exact ⟨LT3.mk (g.i + 1) A22 c23 E24 g.bad, (by first | omega | (dsimp only; omega)), ⟨by dsimp only; omega, ho27, by dsimp only; rw [tkg (d := 0) (show g.i < (liV s).length by omega), List.any_append]; simp only [List.any_cons, List.any_nil, Bool.or_false]; rw [show badB ((liV s).getD g.i 0) = false from hbd, Bool.or_false]; exact hgb⟩, ⟨rfl, (congrArg (Value.int .i64) (by (try dsimp only); omega)), rfl, rfl, rfl, rfl, trivial⟩, (sub_picks [0, 0, 0] rfl)⟩
 ·refine s_exit ?_; refine s_seq (s_region ?_); refine o_val rfl rfl rfl (y_move (v := (.slice _ _ _)) rfl) ?_; refine o_val rfl rfl rfl (y_bytes_str Try.underlying76 Try.underlying5 Try.underlying9 rfl ((hgo.cels (j := 1) rfl)) (by rw [List.length_map, List.length_take]; omega)) ?_; refine o_val rfl rfl rfl (y_assign (v := (.string _)) rfl) (o_nil ?_); refine s_ret ?_; have hgm : g.i = mnV s := by omega
  rw [hgm, List.take_of_length_le (by omega)] at hgb; exact ⟨_, [_], res1 rfl rfl, ⟨_, congrArg Value.string (by rw [hgm, List.take_of_length_le (by omega)]; rfl), ⟨A, n, c, by simp only [txS, ← hgb], by simp only [txS, liS, List.length_drop]; omega, hc, hb, h⟩, rfl⟩, sub_picks [0] rfl⟩

end Go.Proofs.Ytacmbiohjiogiaa.K
end
section
set_option linter.unusedVariables false
set_option linter.unusedSimpArgs false
set_option maxRecDepth 100000
set_option maxHeartbeats 4000000
namespace Go.Proofs.Ytacmbiohjiogiaa.K
open Go.RowKit

def fldS : Nat → RS → RS
 | 0, s => s
 | i + 1, s => nxS (nxS (txS (fldS i s)))
def fldV : Nat → RS → List FR
 | 0, _ => []
 | i + 1, s => fldV i s ++ [⟨txV (fldS i s), nxV (txS (fldS i s)), nxV (nxS (txS (fldS i s)))⟩]
def kdS : Nat → RS → RS
 | 0, s => s
 | i + 1, s => fldS (mnV (txS (kdS i s))) (mnS (txS (kdS i s)))
def kdV : Nat → RS → List (ByteArray × List FR)
 | 0, _ => []
 | i + 1, s => kdV i s ++ [(txV (kdS i s), fldV (mnV (txS (kdS i s))) (mnS (txS (kdS i s))))]
def cpS : Nat → RS → RS
 | 0, s => s
 | i + 1, s => liS (nxS (cpS i s))
def cpV : Nat → RS → List (Int × List Int)
 | 0, _ => []
 | i + 1, s => cpV i s ++ [(nxV (cpS i s), liV (nxS (cpS i s)))]
def itS : Nat → RS → RS
 | 0, s => s
 | i + 1, s => cpS (mnV (nxS (nxS (itS i s)))) (mnS (nxS (nxS (itS i s))))
def itV : Nat → RS → List (Int × Int × List (Int × List Int))
 | 0, _ => []
 | i + 1, s => itV i s ++ [(nxV (itS i s), nxV (nxS (itS i s)), cpV (mnV (nxS (nxS (itS i s)))) (mnS (nxS (nxS (itS i s)))))]
def wdA (s : RS) : RS := kdS (mnV s) (mnS s)
def wdS (s : RS) : RS := itS (mnV (liS (wdA s))) (mnS (liS (wdA s)))
def wdV (s : RS) : List (ByteArray × List FR) × List Int × List (Int × Int × List (Int × List Int)) := (kdV (mnV s) (mnS s), liV (wdA s), itV (mnV (liS (wdA s))) (mnS (liS (wdA s))))
theorem mn_few {V0 : Mem} {b : Nat} {s : RS} {G : Grp} (h : Rdr V0 b (mnS s) G) : mnV s ≤ 1099511627776 := Nat.le_trans (mnV_le s) h.few
theorem mn_few2 {V0 : Mem} {b : Nat} {s : RS} {G : Grp} (h : Rdr V0 b s G) : mnV s ≤ 1099511627776 := by
 have h1 := mnV_le s; have h2 := h.few; rw [List.length_tail] at h1; omega
structure LK4 where
 i : Nat
 ks : List KR
 A : Option Addr
 c : Nat
 E : Grp
 P : Grp
 R : Grp
structure LF4 where
 i : Nat
 fs : List FR
 A : Option Addr
 c : Nat
 E : Grp
 R : Grp
structure LI4 where
 i : Nat
 its : List IR
 A : Option Addr
 c : Nat
 E : Grp
 P : Grp
 R : Grp
structure LC4 where
 i : Nat
 cs : List CR
 A : Option Addr
 c : Nat
 E : Grp
 P : Grp
 R : Grp

theorem WorldR_k0 (v0 : ByteArray) (w : World) : (Instr.build 58 ([(0, (.string v0))] : List (Nat × Value)).toArray).run Try.prog w = .ok (.agg #[.string v0, .slice none 0 0]) w := by kernel_rfl
theorem WorldR_k1 (v0 : ByteArray) (w : World) : (Instr.build 61 ([(0, (.string v0))] : List (Nat × Value)).toArray).run Try.prog w = .ok (.agg #[.string v0, .int .i64 0, .int .i64 0]) w := by kernel_rfl
theorem WorldR_k2 (v0x0 : ByteArray) (v0x1 : Int) (v0x2 : Int) (w : World) : (Instr.buildSlice 56 1 ([(0, (.agg #[(.string v0x0), (.int .i64 v0x1), (.int .i64 v0x2)]))] : List (Nat × Value)).toArray).run Try.prog w = .ok (.slice (some ⟨w.heap.size, 0, none⟩) 1 1) { w with heap := w.heap.push (.cells ([.string v0x0, .int .i64 v0x1, .int .i64 v0x2] : List Value).toArray 61 (0, 0)) } := by kernel_rfl
theorem WorldR_k3 (v0x0 : ByteArray) (v0x1A : Option Addr) (v0x1n : Nat) (v0x1c : Nat) (w : World) : (Instr.buildSlice 23 1 ([(0, (.agg #[(.string v0x0), (.slice v0x1A v0x1n v0x1c)]))] : List (Nat × Value)).toArray).run Try.prog w = .ok (.slice (some ⟨w.heap.size, 0, none⟩) 1 1) { w with heap := w.heap.push (.cells ([.string v0x0, .slice v0x1A v0x1n v0x1c] : List Value).toArray 58 (0, 0)) } := by kernel_rfl
theorem WorldR_k4 (v0 : Int) (v1 : Int) (w : World) : (Instr.build 117 ([(0, (.int .i64 v0)), (1, (.int .i64 v1))] : List (Nat × Value)).toArray).run Try.prog w = .ok (.agg #[.int .i64 v0, .int .i64 v1]) w := by kernel_rfl
theorem WorldR_k5 (v0x0 : Int) (v0x1 : Int) (w : World) : (Instr.build 136 ([(0, (.agg #[(.int .i64 v0x0), (.int .i64 v0x1)]))] : List (Nat × Value)).toArray).run Try.prog w = .ok (.agg #[.int .i64 v0x0, .int .i64 v0x1, .slice none 0 0]) w := by kernel_rfl
theorem WorldR_k6 (v0 : Int) (v1A : Option Addr) (v1n : Nat) (v1c : Nat) (w : World) : (Instr.build 155 ([(0, (.int .i64 v0)), (1, (.slice v1A v1n v1c))] : List (Nat × Value)).toArray).run Try.prog w = .ok (.agg #[.int .i64 v0, .slice v1A v1n v1c]) w := by kernel_rfl
theorem WorldR_k7 (v0x0 : Int) (v0x1A : Option Addr) (v0x1n : Nat) (v0x1c : Nat) (w : World) : (Instr.buildSlice 33 1 ([(0, (.agg #[(.int .i64 v0x0), (.slice v0x1A v0x1n v0x1c)]))] : List (Nat × Value)).toArray).run Try.prog w = .ok (.slice (some ⟨w.heap.size, 0, none⟩) 1 1) { w with heap := w.heap.push (.cells ([.int .i64 v0x0, .slice v0x1A v0x1n v0x1c] : List Value).toArray 155 (0, 0)) } := by kernel_rfl
theorem WorldR_k8 (v0x0 : Int) (v0x1 : Int) (v0x2A : Option Addr) (v0x2n : Nat) (v0x2c : Nat) (w : World) : (Instr.buildSlice 45 1 ([(0, (.agg #[(.int .i64 v0x0), (.int .i64 v0x1), (.slice v0x2A v0x2n v0x2c)]))] : List (Nat × Value)).toArray).run Try.prog w = .ok (.slice (some ⟨w.heap.size, 0, none⟩) 1 1) { w with heap := w.heap.push (.cells ([.int .i64 v0x0, .int .i64 v0x1, .slice v0x2A v0x2n v0x2c] : List Value).toArray 136 (0, 0)) } := by kernel_rfl
theorem WorldR_c {V V0 : Mem} (hm : MSub V0 V) {b : Nat} {s : RS} {G : Grp} (hR : Rdr V0 b s G) : CallS Try.prog 175 [.pointer (some ⟨b, 0, none⟩)].toArray V [G] (fun r L' => ∃ (w : WR) (G' P : Grp), r = .agg #[.slice w.kA w.kn w.kc, .slice w.gA w.gn w.gc, .slice w.iA w.iN w.iC] ∧ WOK (inG P) w ∧ w.d = wdV s ∧ Rdr V0 b (wdS s) G' ∧ L' = [G', P]) := by
 refine callS Try.func175 rfl rfl (fun w0 => ?_); refine s_seq (s_region ?_); refine o_alloc rfl Try.zeroValue47 rfl (fun b1 => ?_); refine o_nil ?_; refine s_seq (s_region ?_); refine o_alloc rfl Try.zeroValue47 rfl (fun b2 => ?_); refine o_nil ?_; refine s_seq ?_; refine s_seq (s_region ?_); refine o_val rfl rfl rfl (y_move (v := (.pointer _)) rfl) ?_; refine o_fn 1 (d := 8) rfl Try.call176 (ManyR_c (hm.trans MSub.ext) hR) rfl ?_; rintro _ _ ⟨h1G, rfl, h1, rfl⟩; have h1f := mn_few h1; refine o_val rfl rfl rfl (y_move (v := (.int _ _)) rfl) (o_nil ?_); refine s_block ?_; refine s_group ?_; refine s_group ?_; refine s_loopK (γ := LK4) [(0, (.pointer _)), (2, (.pointer _)), (3, (.pointer _)), (8, (.int _ _))] [_] (fun g => [(9, .int .i64 g.i)]) (fun g => [g.R, [(b2, .cells [.slice g.A g.ks.length g.c, .slice none 0 0, .slice none 0 0].toArray 47 (0, 0))], g.E, g.P]) (fun g => g.i ≤ mnV s ∧ g.ks.length = g.i ∧ OS g.A g.ks.length g.c 58 2 ((g.ks).flatMap encK) g.E ∧ (∀ x ∈ g.ks, KOK (inG g.P) x) ∧ g.ks.map KR.d = kdV g.i (mnS s) ∧ Rdr V0 b (kdS g.i (mnS s)) g.R) (fun g => mnV s - g.i) (LK4.mk 0 [] none 0 [] [] h1G) ⟨rfl, rfl, rfl, rfl, rfl, trivial⟩ (sub_picks [0, 1, 1, 1, 0] rfl) ?_ ?_
 ·exact ⟨Nat.zero_le _, rfl, OS.nil _ _, fun x hx => absurd hx List.not_mem_nil, rfl, h1⟩
 intro g _f hI; refine s_norm _ (by simp only [pull, picks, setG, List.cons_append, List.nil_append, List.append_nil, List.drop_succ_cons, List.drop_zero]; rfl) ?_; obtain ⟨hgi, hgl, hko, hkx, hkd, hr1⟩ := hI; refine s_seq (s_region ?_); refine o_val rfl rfl rfl (y_lss rfl rfl) (o_nil ?_); refine s_seq ?_; refine s_if rfl (fun h3 => ?_) (fun h4 => ?_)
 ·refine s_skip ?_; refine s_seq ?_; refine s_block ?_; refine s_seq (s_region ?_); refine o_val rfl rfl rfl (y_move (v := (.pointer _)) rfl) ?_; refine o_fn 1 (d := 12) rfl Try.call207 (TextR_c (hm.trans MSub.ext) hr1) rfl ?_; rintro _ _ ⟨h2G, rfl, h2, rfl⟩; refine o_val rfl rfl rfl (y_build (vs := [(0, .string _)]) rfl (WorldR_k0 _)) ?_; refine o_alloc rfl Try.zeroValue58 rfl (fun b5 => ?_); refine o_stores (vs := [(.string _), (.slice _ _ _)]) 5 rfl Try.sizeOf58 rfl rfl rfl (by simp [Value.oneCell']) (by simp) (o_nil ?_); refine s_seq ?_; refine s_seq (s_region ?_); refine o_val rfl rfl rfl (y_move (v := (.pointer _)) rfl) ?_; refine o_fn 1 (d := 15) rfl Try.call176 (ManyR_c (hm.trans MSub.ext) h2) rfl ?_; rintro _ _ ⟨h3G, rfl, h3, rfl⟩; have h3f := mn_few h3; refine o_val rfl rfl rfl (y_move (v := (.int _ _)) rfl) (o_nil ?_); refine s_block ?_; refine s_group ?_; refine s_loopK (γ := LF4) [(0, (.pointer _)), (2, (.pointer _)), (3, (.pointer _)), (4, (.pointer _)), (8, (.int _ _)), (9, (.int _ _)), (15, (.int _ _))] [_, _, _, _] (fun u => [(16, .int .i64 u.i)]) (fun u => [u.R, [(b5, .cells [.string (txV (kdS g.i (mnS s))), .slice u.A u.fs.length u.c].toArray 58 (0, 0))], u.E]) (fun u => u.i ≤ mnV (txS (kdS g.i (mnS s))) ∧ u.fs.length = u.i ∧ OS u.A u.fs.length u.c 61 3 ((u.fs).flatMap encF) u.E ∧ u.fs = fldV u.i (mnS (txS (kdS g.i (mnS s)))) ∧ Rdr V0 b (fldS u.i (mnS (txS (kdS g.i (mnS s))))) u.R) (fun u => mnV (txS (kdS g.i (mnS s))) - u.i) (LF4.mk 0 [] none 0 [] h3G) ⟨rfl, rfl, rfl, rfl, rfl, rfl, rfl, rfl, trivial⟩ (sub_picks [0, 4, 4, 0, 0, 0, 0] rfl) ?_ ?_
  ·exact ⟨Nat.zero_le _, rfl, OS.nil _ _, rfl, h3⟩
  intro u _f hJ; refine s_norm _ (by simp only [pull, picks, setG, List.cons_append, List.nil_append, List.append_nil, List.drop_succ_cons, List.drop_zero]; rfl) ?_; obtain ⟨hui, hul, huo, hfd, hr3⟩ := hJ; refine s_seq (s_region ?_); refine o_val rfl rfl rfl (y_lss rfl rfl) (o_nil ?_); refine s_seq ?_; refine s_if rfl (fun h6 => ?_) (fun h7 => ?_)
  ·refine s_skip ?_; refine s_seq ?_; refine s_block ?_; refine s_seq (s_region ?_); refine o_val rfl rfl rfl (y_move (v := (.pointer _)) rfl) ?_; refine o_fn 1 (d := 19) rfl Try.call207 (TextR_c (hm.trans MSub.ext) hr3) rfl ?_; rintro _ _ ⟨h4G, rfl, h4, rfl⟩; refine o_val rfl rfl rfl (y_build (vs := [(0, .string _)]) rfl (WorldR_k1 _)) ?_; refine o_alloc rfl Try.zeroValue61 rfl (fun b8 => ?_); refine o_stores (vs := [(.string _), (.int _ _), (.int _ _)]) 7 rfl Try.sizeOf61 rfl rfl rfl (by simp [Value.oneCell']) (by simp) (o_nil ?_); refine s_norm [_, [(_, .cells [(.string _), (.slice _ _ _)].toArray 58 (0, 0))], _, [(_, .cells [(.slice _ _ _), (.slice _ _ _), (.slice _ _ _)].toArray 47 (0, 0))], _, _, [(_, .cells [(.slice _ _ _), (.slice _ _ _), (.slice _ _ _)].toArray 47 (0, 0))], [(_, .cells [(.string _), (.int _ _), (.int _ _)].toArray 61 (0, 0))]] rfl ?_; refine s_seq (s_region ?_); refine o_val rfl rfl rfl (y_move (v := (.pointer _)) rfl) ?_; refine o_fn 1 (d := 22) rfl Try.call174 (NextR_c (hm.trans MSub.ext) h4) rfl ?_; rintro _ _ ⟨h5G, rfl, h5, rfl⟩; have h5f := h5.few; refine o_val rfl rfl rfl (y_field0 Try.runUnderlying61 rfl Try.sizeOf3 rfl rfl) ?_; refine o_store (v := (.int _ _)) 7 rfl Try.sizeOf3 rfl rfl rfl rfl (o_nil ?_); refine s_forget [(0, (.pointer _)), (2, (.pointer _)), (3, (.pointer _)), (4, (.pointer _)), (5, (.pointer _)), (8, (.int _ _)), (9, (.int _ _)), (15, (.int _ _)), (16, (.int _ _))] ⟨rfl, rfl, rfl, rfl, rfl, rfl, rfl, rfl, rfl, trivial⟩ (fun _f => ?_); refine s_seq (s_region ?_); refine o_val rfl rfl rfl (y_move (v := (.pointer _)) rfl) ?_; refine o_fn 1 (d := 25) rfl Try.call174 (NextR_c (hm.trans MSub.ext) h5) rfl ?_; rintro _ _ ⟨h6G, rfl, h6, rfl⟩; have h6f := h6.few; refine o_val rfl rfl rfl (y_field0 Try.runUnderlying61 rfl Try.sizeOf3 rfl rfl) ?_; refine o_store (v := (.int _ _)) 7 rfl Try.sizeOf3 rfl rfl rfl rfl (o_nil ?_); refine s_norm [_, [(_, .cells [(.string _), (.slice _ _ _)].toArray 58 (0, 0))], _, [(_, .cells [(.slice _ _ _), (.slice _ _ _), (.slice _ _ _)].toArray 47 (0, 0))], _, _, [(_, .cells [(.slice _ _ _), (.slice _ _ _), (.slice _ _ _)].toArray 47 (0, 0))], [(_, .cells [(.string _), (.int _ _), (.int _ _)].toArray 61 (0, 0))]] rfl ?_; refine s_region ?_; refine o_val rfl rfl rfl (y_field0 Try.runUnderlying58 rfl Try.sizeOf56 rfl rfl) ?_; refine o_val rfl rfl rfl (y_load Try.isAgg56 rfl (cel_own 1 rfl rfl)) ?_; refine o_val rfl rfl rfl (y_loads (cs := [_, _, _]) Try.isAgg61 Try.sizeOf61 rfl rfl rfl (cels_own 7 rfl rfl)) ?_; refine o_lit (vs := [(0, .agg #[.string _, .int _ _, .int _ _])]) rfl rfl (WorldR_k2 _ _ _) (fun b9 => ?_); refine o_append (sz := 3) (bytes := 32) (news := [(.string _), (.int _ _), (.int _ _)]) 2 rfl Try.underlying56 Try.type61 rfl rfl rfl rfl rfl huo rfl rfl (Src.slice Try.underlying56 (cels_own 8 rfl rfl) rfl (by simp [Value.oneCell']) (by simp)) (by omega) (fun A10 c11 E12 ho13 hn14 => ?_); have ho15 : OS A10 (u.fs.length + 1) c11 61 3 ((u.fs ++ [(FR.mk (txV (fldS u.i (mnS (txS (kdS g.i (mnS s)))))) (nxV (txS (fldS u.i (mnS (txS (kdS g.i (mnS s))))))) (nxV (nxS (txS (fldS u.i (mnS (txS (kdS g.i (mnS s)))))))))]).flatMap encF) E12 := os_snoc ho13 rfl
   clear ho13
   refine o_val rfl rfl rfl (y_field0 Try.runUnderlying58 rfl Try.sizeOf56 rfl rfl) ?_; refine o_store (v := (.slice _ _ _)) 1 rfl Try.sizeOf56 rfl rfl rfl rfl (o_nil ?_); refine s_norm [_, [(_, .cells [(.string _), (.slice _ _ _)].toArray 58 (0, 0))], _, [(_, .cells [(.slice _ _ _), (.slice _ _ _), (.slice _ _ _)].toArray 47 (0, 0))], _, _, [(_, .cells [(.slice _ _ _), (.slice _ _ _), (.slice _ _ _)].toArray 47 (0, 0))], [(_, .cells [(.string _), (.int _ _), (.int _ _)].toArray 61 (0, 0))], [(_, .cells [(.string _), (.int _ _), (.int _ _)].toArray 61 (0, 0))]] rfl ?_; refine s_region ?_; refine o_val rfl rfl rfl (y_add rfl rfl (by simp only [inK]; omega)) ?_; refine o_val rfl rfl rfl (y_move (v := (.int _ _)) rfl) (o_nil ?_); exact ⟨LF4.mk (u.i + 1) (u.fs ++ [(FR.mk (txV (fldS u.i (mnS (txS (kdS g.i (mnS s)))))) (nxV (txS (fldS u.i (mnS (txS (kdS g.i (mnS s))))))) (nxV (nxS (txS (fldS u.i (mnS (txS (kdS g.i (mnS s)))))))))]) A10 c11 E12 h6G, (by first | omega | (dsimp only; omega)), ⟨by dsimp only; omega, by simp only [List.length_append, List.length_singleton]; omega, by dsimp only; rw [List.length_append]; exact ho15, by dsimp only [fldV]; rw [← hfd], h6⟩, ⟨(congrArg (Value.int .i64) (by (try dsimp only); omega)), rfl, rfl, rfl, rfl, rfl, rfl, rfl, trivial⟩, (by dsimp only; rw [List.length_append]; exact sub_picks [0, 0, 0, 0, 0, 0, 0] rfl)⟩
  ·refine s_exit ?_; refine s_region ?_; have hum : u.i = mnV (txS (kdS g.i (mnS s))) := by omega
   refine o_val rfl rfl rfl (y_field0 Try.runUnderlying47 rfl Try.sizeOf23 rfl rfl) ?_; refine o_val rfl rfl rfl (y_load Try.isAgg23 rfl (cel_own 3 rfl rfl)) ?_; refine o_val rfl rfl rfl (y_loads (cs := [_, _]) Try.isAgg58 Try.sizeOf58 rfl rfl rfl (cels_own 1 rfl rfl)) ?_; refine o_lit (vs := [(0, .agg #[.string _, .slice _ _ _])]) rfl rfl (WorldR_k3 _ _ _ _) (fun b16 => ?_); refine o_append (sz := 2) (bytes := 40) (news := [(.string _), (.slice _ _ _)]) 4 rfl Try.underlying23 Try.type58 rfl rfl rfl rfl rfl hko rfl rfl (Src.slice Try.underlying23 (cels_own 7 rfl rfl) rfl (by simp [Value.oneCell']) (by simp)) (by omega) (fun A17 c18 E19 ho20 hn21 => ?_); have ho22 : OS A17 (g.ks.length + 1) c18 58 2 ((g.ks ++ [(KR.mk (txV (kdS g.i (mnS s))) u.A u.fs.length u.c u.fs)]).flatMap encK) E19 := os_snoc ho20 rfl
   clear ho20
   refine o_val rfl rfl rfl (y_field0 Try.runUnderlying47 rfl Try.sizeOf23 rfl rfl) ?_; refine o_store (v := (.slice _ _ _)) 3 rfl Try.sizeOf23 rfl rfl rfl rfl (o_nil ?_); refine s_norm [_, [(_, .cells [(.string _), (.slice _ _ _)].toArray 58 (0, 0))], _, [(_, .cells [(.slice _ _ _), (.slice _ _ _), (.slice _ _ _)].toArray 47 (0, 0))], _, _, [(_, .cells [(.slice _ _ _), (.slice _ _ _), (.slice _ _ _)].toArray 47 (0, 0))], [(_, .cells [(.string _), (.slice _ _ _)].toArray 58 (0, 0))]] rfl ?_; refine s_forget [(0, (.pointer _)), (2, (.pointer _)), (3, (.pointer _)), (8, (.int _ _)), (9, (.int _ _))] ⟨rfl, rfl, rfl, rfl, rfl, trivial⟩ (fun _f => ?_); refine s_region ?_; refine o_pull 5 ?_; refine o_pull 3 ?_; refine o_fuse ?_; refine o_val rfl rfl rfl (y_add rfl rfl (by simp only [inK]; omega)) ?_; refine o_val rfl rfl rfl (y_move (v := (.int _ _)) rfl) (o_nil ?_); exact ⟨LK4.mk (g.i + 1) (g.ks ++ [(KR.mk (txV (kdS g.i (mnS s))) u.A u.fs.length u.c u.fs)]) A17 c18 E19 (u.E ++ g.P) u.R, (by first | omega | (dsimp only; omega)), ⟨by dsimp only; omega, by simp only [List.length_append, List.length_singleton]; omega, by dsimp only; rw [List.length_append]; exact ho22, all_snoc (fun x hx => (hkx x hx).sub inG_right) ⟨rfl, huo.2.1, by dsimp only; omega, huo.mem.ms inG_left⟩, by show (g.ks ++ [(KR.mk (txV (kdS g.i (mnS s))) u.A u.fs.length u.c u.fs)]).map KR.d = kdV g.i (mnS s) ++ [(txV (kdS g.i (mnS s)), fldV (mnV (txS (kdS g.i (mnS s)))) (mnS (txS (kdS g.i (mnS s)))))]; rw [List.map_append, hkd, ← hum, ← hfd]; rfl, by show Rdr V0 b (fldS (mnV (txS (kdS g.i (mnS s)))) (mnS (txS (kdS g.i (mnS s))))) u.R; rw [← hum]; exact hr3⟩, ⟨(congrArg (Value.int .i64) (by (try dsimp only); omega)), rfl, rfl, rfl, rfl, trivial⟩, (by dsimp only; rw [List.length_append]; exact sub_picks [1, 2, 2, 0, 1] rfl)⟩
 ·refine s_exit ?_; refine s_seq (s_region ?_); have hgm : g.i = mnV s := by omega
  rw [hgm] at hkd hr1
  change Rdr V0 b (wdA s) g.R at hr1
  refine o_val rfl rfl rfl (y_move (v := (.pointer _)) rfl) ?_; refine o_fn 1 (d := 42) rfl Try.call177 (ListR_c (hm.trans MSub.ext) hr1) rfl ?_; rintro _ _ ⟨h7G, gB, ge, gE, rfl, h7, go, rfl⟩; have h7m := mn_few2 hr1; refine o_val rfl rfl rfl (y_field0 Try.runUnderlying47 rfl Try.sizeOf22 rfl rfl) ?_; refine o_store (v := (.slice _ _ _)) 2 rfl Try.sizeOf22 rfl rfl rfl rfl (o_nil ?_); refine s_seq ?_; refine s_seq (s_region ?_); refine o_val rfl rfl rfl (y_move (v := (.pointer _)) rfl) ?_; refine o_fn 1 (d := 45) rfl Try.call176 (ManyR_c (hm.trans MSub.ext) h7) rfl ?_; rintro _ _ ⟨h8G, rfl, h8, rfl⟩; have h8f := mn_few h8; refine o_val rfl rfl rfl (y_move (v := (.int _ _)) rfl) (o_nil ?_); refine s_block ?_; refine s_group ?_; refine s_group ?_; refine s_loopK (γ := LI4) [(0, (.pointer _)), (2, (.pointer _)), (3, (.pointer _)), (45, (.int _ _))] [_, _, _, _] (fun q => [(46, .int .i64 q.i)]) (fun q => [q.R, [(b2, .cells [.slice g.A g.ks.length g.c, .slice gB (mnV (wdA s)) ge, .slice q.A q.its.length q.c].toArray 47 (0, 0))], q.E, q.P]) (fun q => q.i ≤ mnV (liS (wdA s)) ∧ q.its.length = q.i ∧ OS q.A q.its.length q.c 136 3 ((q.its).flatMap encIt) q.E ∧ (∀ x ∈ q.its, IOK (inG q.P) x) ∧ q.its.map IR.d = itV q.i (mnS (liS (wdA s))) ∧ Rdr V0 b (itS q.i (mnS (liS (wdA s)))) q.R) (fun q => mnV (liS (wdA s)) - q.i) (LI4.mk 0 [] none 0 [] [] h8G) ⟨rfl, rfl, rfl, rfl, rfl, trivial⟩ (sub_picks [0, 1, 4, 4, 0, 0, 0, 0] rfl) ?_ ?_
  ·exact ⟨Nat.zero_le _, rfl, OS.nil _ _, fun x hx => absurd hx List.not_mem_nil, rfl, h8⟩
  intro q _f hQ; refine s_norm _ (by simp only [pull, picks, setG, List.cons_append, List.nil_append, List.append_nil, List.drop_succ_cons, List.drop_zero]; rfl) ?_; obtain ⟨hqi, hql, hio, hix, hid, hr5⟩ := hQ; refine s_seq (s_region ?_); refine o_val rfl rfl rfl (y_lss rfl rfl) (o_nil ?_); refine s_seq ?_; refine s_if rfl (fun h23 => ?_) (fun h24 => ?_)
  ·refine s_skip ?_; refine s_seq ?_; refine s_block ?_; refine s_seq (s_region ?_); refine o_val rfl rfl rfl (y_move (v := (.pointer _)) rfl) ?_; refine o_fn 1 (d := 49) rfl Try.call174 (NextR_c (hm.trans MSub.ext) hr5) rfl ?_; rintro _ _ ⟨h9G, rfl, h9, rfl⟩; have h9f := h9.few; refine o_val rfl rfl rfl (y_move (v := (.pointer _)) rfl) ?_; refine o_fn 1 (d := 51) rfl Try.call174 (NextR_c (hm.trans MSub.ext) h9) rfl ?_; rintro _ _ ⟨h10G, rfl, h10, rfl⟩; have h10f := h10.few; refine o_val rfl rfl rfl (y_build (vs := [(0, .int _ _), (1, .int _ _)]) rfl (WorldR_k4 _ _)) ?_; refine o_val rfl rfl rfl (y_build (vs := [(0, .agg #[.int _ _, .int _ _])]) rfl (WorldR_k5 _ _)) ?_; refine o_alloc rfl Try.zeroValue136 rfl (fun b25 => ?_); refine o_stores (vs := [(.int _ _), (.int _ _), (.slice _ _ _)]) 8 rfl Try.sizeOf136 rfl rfl rfl (by simp [Value.oneCell']) (by simp) (o_nil ?_); refine s_norm [_, [(_, .cells [(.slice _ _ _), (.slice _ _ _), (.slice _ _ _)].toArray 47 (0, 0))], _, _, _, _, _, [(_, .cells [(.slice _ _ _), (.slice _ _ _), (.slice _ _ _)].toArray 47 (0, 0))], [(_, .cells [(.int _ _), (.int _ _), (.slice _ _ _)].toArray 136 (0, 0))]] rfl ?_; refine s_seq ?_; refine s_seq (s_region ?_); refine o_val rfl rfl rfl (y_move (v := (.pointer _)) rfl) ?_; refine o_fn 1 (d := 55) rfl Try.call176 (ManyR_c (hm.trans MSub.ext) h10) rfl ?_; rintro _ _ ⟨h11G, rfl, h11, rfl⟩; have h11f := mn_few h11; refine o_val rfl rfl rfl (y_move (v := (.int _ _)) rfl) (o_nil ?_); refine s_forget [(0, (.pointer _)), (2, (.pointer _)), (3, (.pointer _)), (6, (.pointer _)), (45, (.int _ _)), (46, (.int _ _)), (55, (.int _ _)), (56, (.int _ _))] ⟨rfl, rfl, rfl, rfl, rfl, rfl, rfl, rfl, trivial⟩ (fun _f => ?_); refine s_block ?_; refine s_group ?_; refine s_group ?_; refine s_loopK (γ := LC4) [(0, (.pointer _)), (2, (.pointer _)), (3, (.pointer _)), (6, (.pointer _)), (45, (.int _ _)), (46, (.int _ _)), (55, (.int _ _))] [_, _, _, _, _, _, _] (fun v => [(56, .int .i64 v.i)]) (fun v => [v.R, [(b25, .cells [.int .i64 (nxV (itS q.i (mnS (liS (wdA s))))), .int .i64 (nxV (nxS (itS q.i (mnS (liS (wdA s)))))), .slice v.A v.cs.length v.c].toArray 136 (0, 0))], v.E, v.P]) (fun v => v.i ≤ mnV (nxS (nxS (itS q.i (mnS (liS (wdA s)))))) ∧ v.cs.length = v.i ∧ OS v.A v.cs.length v.c 155 2 ((v.cs).flatMap encC) v.E ∧ (∀ x ∈ v.cs, COK (inG v.P) x) ∧ v.cs.map CR.d = cpV v.i (mnS (nxS (nxS (itS q.i (mnS (liS (wdA s))))))) ∧ Rdr V0 b (cpS v.i (mnS (nxS (nxS (itS q.i (mnS (liS (wdA s)))))))) v.R) (fun v => mnV (nxS (nxS (itS q.i (mnS (liS (wdA s)))))) - v.i) (LC4.mk 0 [] none 0 [] [] h11G) ⟨rfl, rfl, rfl, rfl, rfl, rfl, rfl, rfl, trivial⟩ (sub_picks [0, 7, 7, 7, 0, 0, 0, 0, 0, 0, 0] rfl) ?_ ?_
   ·exact ⟨Nat.zero_le _, rfl, OS.nil _ _, fun x hx => absurd hx List.not_mem_nil, rfl, h11⟩
   intro v _f hV; refine s_norm _ (by simp only [pull, picks, setG, List.cons_append, List.nil_append, List.append_nil, List.drop_succ_cons, List.drop_zero]; rfl) ?_; obtain ⟨hvi, hvl, hvo, hvx, hvd, hr7⟩ := hV; refine s_seq (s_region ?_); refine o_val rfl rfl rfl (y_lss rfl rfl) (o_nil ?_); refine s_seq ?_; refine s_if rfl (fun h26 => ?_) (fun h27 => ?_)
   ·refine s_skip ?_; refine s_seq ?_; refine s_block ?_; refine s_pull 2 ?_; refine s_pull 2 ?_; refine s_pull 2 ?_; refine s_drawn 3 (by kernel_rfl) ?_; refine d_val (i := 0) rfl (by kernel_rfl) (by kernel_rfl) (by kernel_rfl) rfl rfl rfl (y_field0 Try.runUnderlying136 rfl Try.sizeOf33 rfl rfl) ?_; refine d_val (i := 2) rfl (by kernel_rfl) (by kernel_rfl) (by kernel_rfl) rfl rfl rfl (y_move (v := (.pointer _)) rfl) ?_; refine d_val (i := 4) rfl (by kernel_rfl) (by kernel_rfl) (by kernel_rfl) rfl rfl rfl (y_move (v := (.pointer _)) rfl) ?_; refine d_eff2 (k := 1) (k' := 3) (n := 3) (m := 8) rfl rfl (by kernel_rfl) rfl ?_ ?_
    ·refine o_val rfl rfl rfl (y_load Try.isAgg33 rfl (cel_own 1 rfl rfl)) (o_nil ?_); refine d_eff (k := 3) (n := 3) (m := 8) rfl (by kernel_rfl) rfl ?_; refine o_fn 1 (d := 61) rfl Try.call174 (NextR_c (hm.trans MSub.ext) hr7) rfl ?_; rintro _ _ ⟨h12G, rfl, h12, rfl⟩; have h12f := h12.few; refine o_nil ?_; refine d_eff (k := 5) (n := 3) (m := 8) rfl (by kernel_rfl) rfl ?_; refine o_fn 1 (d := 63) rfl Try.call177 (ListR_c (hm.trans MSub.ext) h12) rfl ?_; rintro _ _ ⟨h13G, lB, le, lE, rfl, h13, lo, rfl⟩; have h13m := mn_few2 h12; refine o_nil ?_; refine d_val (i := 6) rfl (by kernel_rfl) (by kernel_rfl) (by kernel_rfl) rfl rfl rfl (y_build (vs := [(0, .int _ _), (1, .slice _ _ _)]) rfl (WorldR_k6 _ _ _ _)) ?_; refine d_eff (k := 7) (n := 4) (m := 8) rfl (by kernel_rfl) rfl ?_; refine o_lit (vs := [(0, .agg #[.int _ _, .slice _ _ _])]) rfl rfl (WorldR_k7 _ _ _ _) (fun b28 => ?_); refine o_nil ?_; refine d_eff (k := 8) (n := 4) (m := 8) rfl (by kernel_rfl) rfl ?_; refine o_append (sz := 2) (bytes := 32) (news := [(.int _ _), (.slice _ _ _)]) 3 rfl Try.underlying33 Try.type155 rfl rfl rfl rfl rfl hvo rfl rfl (Src.slice Try.underlying33 (cels_own 12 rfl rfl) rfl (by simp [Value.oneCell']) (by simp)) (by omega) (fun A29 c30 E31 ho32 hn33 => ?_); have ho34 : OS A29 (v.cs.length + 1) c30 155 2 ((v.cs ++ [(CR.mk (nxV (cpS v.i (mnS (nxS (nxS (itS q.i (mnS (liS (wdA s))))))))) lB (mnV (nxS (cpS v.i (mnS (nxS (nxS (itS q.i (mnS (liS (wdA s)))))))))) le (liV (nxS (cpS v.i (mnS (nxS (nxS (itS q.i (mnS (liS (wdA s)))))))))))]).flatMap encC) E31 := os_snoc ho32 rfl
     clear ho32
     refine o_nil ?_; refine d_val (i := 9) rfl (by kernel_rfl) (by kernel_rfl) (by kernel_rfl) rfl rfl rfl (y_field0 Try.runUnderlying136 rfl Try.sizeOf33 rfl rfl) ?_; refine d_eff (k := 10) (n := 4) (m := 8) rfl (by kernel_rfl) rfl ?_; refine o_store (v := (.slice _ _ _)) 2 rfl Try.sizeOf33 rfl rfl rfl rfl (o_nil ?_); refine d_nil (n := 4) (m := 8) (by kernel_rfl) rfl ?_; refine s_norm [_, _, [(_, .cells [(.int _ _), (.int _ _), (.slice _ _ _)].toArray 136 (0, 0))], _, _, [(_, .cells [(.slice _ _ _), (.slice _ _ _), (.slice _ _ _)].toArray 47 (0, 0))], _, _, _, _, _, [(_, .cells [(.slice _ _ _), (.slice _ _ _), (.slice _ _ _)].toArray 47 (0, 0))], [(_, .cells [(.int _ _), (.slice _ _ _)].toArray 155 (0, 0))]] rfl ?_; refine s_forget [(0, (.pointer _)), (2, (.pointer _)), (3, (.pointer _)), (6, (.pointer _)), (45, (.int _ _)), (46, (.int _ _)), (55, (.int _ _)), (56, (.int _ _))] ⟨rfl, rfl, rfl, rfl, rfl, rfl, rfl, rfl, trivial⟩ (fun _f => ?_); refine s_region ?_; refine o_pull 4 ?_; refine o_pull 2 ?_; refine o_fuse ?_; refine o_val rfl rfl rfl (y_add rfl rfl (by simp only [inK]; omega)) ?_; refine o_val rfl rfl rfl (y_move (v := (.int _ _)) rfl) (o_nil ?_); exact ⟨LC4.mk (v.i + 1) (v.cs ++ [(CR.mk (nxV (cpS v.i (mnS (nxS (nxS (itS q.i (mnS (liS (wdA s))))))))) lB (mnV (nxS (cpS v.i (mnS (nxS (nxS (itS q.i (mnS (liS (wdA s)))))))))) le (liV (nxS (cpS v.i (mnS (nxS (nxS (itS q.i (mnS (liS (wdA s)))))))))))]) A29 c30 E31 (lE ++ v.P) h13G, (by first | omega | (dsimp only; omega)), ⟨by dsimp only; omega, by simp only [List.length_append, List.length_singleton]; omega, by dsimp only; rw [List.length_append]; exact ho34, all_snoc (fun x hx => (hvx x hx).sub inG_right) ⟨liV_len _, lo.2.1, by dsimp only; omega, lo.mem.ms inG_left⟩, by dsimp only [cpV]; rw [List.map_append, hvd]; rfl, h13⟩, ⟨(congrArg (Value.int .i64) (by (try dsimp only); omega)), rfl, rfl, rfl, rfl, rfl, rfl, rfl, trivial⟩, (by dsimp only; rw [List.length_append]; exact sub_picks [1, 1, 1, 0, 0, 0, 0, 0, 0, 0, 0] rfl)⟩
    ·refine o_fn 1 (d := 61) rfl Try.call174 (NextR_c (hm.trans MSub.ext) hr7) rfl ?_; rintro _ _ ⟨h12G, rfl, h12, rfl⟩; have h12f := h12.few; refine o_nil ?_; refine d_eff2 (k := 1) (k' := 5) (n := 3) (m := 8) rfl rfl (by kernel_rfl) rfl ?_ ?_
     ·refine o_val rfl rfl rfl (y_load Try.isAgg33 rfl (cel_own 1 rfl rfl)) (o_nil ?_); refine d_eff (k := 5) (n := 3) (m := 8) rfl (by kernel_rfl) rfl ?_; refine o_fn 1 (d := 63) rfl Try.call177 (ListR_c (hm.trans MSub.ext) h12) rfl ?_; rintro _ _ ⟨h13G, lB, le, lE, rfl, h13, lo, rfl⟩; have h13m := mn_few2 h12; refine o_nil ?_; refine d_val (i := 6) rfl (by kernel_rfl) (by kernel_rfl) (by kernel_rfl) rfl rfl rfl (y_build (vs := [(0, .int _ _), (1, .slice _ _ _)]) rfl (WorldR_k6 _ _ _ _)) ?_; refine d_eff (k := 7) (n := 4) (m := 8) rfl (by kernel_rfl) rfl ?_; refine o_lit (vs := [(0, .agg #[.int _ _, .slice _ _ _])]) rfl rfl (WorldR_k7 _ _ _ _) (fun b35 => ?_); refine o_nil ?_; refine d_eff (k := 8) (n := 4) (m := 8) rfl (by kernel_rfl) rfl ?_; refine o_append (sz := 2) (bytes := 32) (news := [(.int _ _), (.slice _ _ _)]) 3 rfl Try.underlying33 Try.type155 rfl rfl rfl rfl rfl hvo rfl rfl (Src.slice Try.underlying33 (cels_own 12 rfl rfl) rfl (by simp [Value.oneCell']) (by simp)) (by omega) (fun A36 c37 E38 ho39 hn40 => ?_); have ho41 : OS A36 (v.cs.length + 1) c37 155 2 ((v.cs ++ [(CR.mk (nxV (cpS v.i (mnS (nxS (nxS (itS q.i (mnS (liS (wdA s))))))))) lB (mnV (nxS (cpS v.i (mnS (nxS (nxS (itS q.i (mnS (liS (wdA s)))))))))) le (liV (nxS (cpS v.i (mnS (nxS (nxS (itS q.i (mnS (liS (wdA s)))))))))))]).flatMap encC) E38 := os_snoc ho39 rfl
      clear ho39
      refine o_nil ?_; refine d_val (i := 9) rfl (by kernel_rfl) (by kernel_rfl) (by kernel_rfl) rfl rfl rfl (y_field0 Try.runUnderlying136 rfl Try.sizeOf33 rfl rfl) ?_; refine d_eff (k := 10) (n := 4) (m := 8) rfl (by kernel_rfl) rfl ?_; refine o_store (v := (.slice _ _ _)) 2 rfl Try.sizeOf33 rfl rfl rfl rfl (o_nil ?_); refine d_nil (n := 4) (m := 8) (by kernel_rfl) rfl ?_; refine s_norm [_, _, [(_, .cells [(.int _ _), (.int _ _), (.slice _ _ _)].toArray 136 (0, 0))], _, _, [(_, .cells [(.slice _ _ _), (.slice _ _ _), (.slice _ _ _)].toArray 47 (0, 0))], _, _, _, _, _, [(_, .cells [(.slice _ _ _), (.slice _ _ _), (.slice _ _ _)].toArray 47 (0, 0))], [(_, .cells [(.int _ _), (.slice _ _ _)].toArray 155 (0, 0))]] rfl ?_; refine s_forget [(0, (.pointer _)), (2, (.pointer _)), (3, (.pointer _)), (6, (.pointer _)), (45, (.int _ _)), (46, (.int _ _)), (55, (.int _ _)), (56, (.int _ _))] ⟨rfl, rfl, rfl, rfl, rfl, rfl, rfl, rfl, trivial⟩ (fun _f => ?_); refine s_region ?_; refine o_pull 4 ?_; refine o_pull 2 ?_; refine o_fuse ?_; refine o_val rfl rfl rfl (y_add rfl rfl (by simp only [inK]; omega)) ?_; refine o_val rfl rfl rfl (y_move (v := (.int _ _)) rfl) (o_nil ?_); exact ⟨LC4.mk (v.i + 1) (v.cs ++ [(CR.mk (nxV (cpS v.i (mnS (nxS (nxS (itS q.i (mnS (liS (wdA s))))))))) lB (mnV (nxS (cpS v.i (mnS (nxS (nxS (itS q.i (mnS (liS (wdA s)))))))))) le (liV (nxS (cpS v.i (mnS (nxS (nxS (itS q.i (mnS (liS (wdA s)))))))))))]) A36 c37 E38 (lE ++ v.P) h13G, (by first | omega | (dsimp only; omega)), ⟨by dsimp only; omega, by simp only [List.length_append, List.length_singleton]; omega, by dsimp only; rw [List.length_append]; exact ho41, all_snoc (fun x hx => (hvx x hx).sub inG_right) ⟨liV_len _, lo.2.1, by dsimp only; omega, lo.mem.ms inG_left⟩, by dsimp only [cpV]; rw [List.map_append, hvd]; rfl, h13⟩, ⟨(congrArg (Value.int .i64) (by (try dsimp only); omega)), rfl, rfl, rfl, rfl, rfl, rfl, rfl, trivial⟩, (by dsimp only; rw [List.length_append]; exact sub_picks [1, 1, 1, 0, 0, 0, 0, 0, 0, 0, 0] rfl)⟩
     ·refine o_fn 1 (d := 63) rfl Try.call177 (ListR_c (hm.trans MSub.ext) h12) rfl ?_; rintro _ _ ⟨h13G, lB, le, lE, rfl, h13, lo, rfl⟩; have h13m := mn_few2 h12; refine o_nil ?_; refine d_val (i := 6) rfl (by kernel_rfl) (by kernel_rfl) (by kernel_rfl) rfl rfl rfl (y_build (vs := [(0, .int _ _), (1, .slice _ _ _)]) rfl (WorldR_k6 _ _ _ _)) ?_; refine d_eff2 (k := 1) (k' := 7) (n := 4) (m := 8) rfl rfl (by kernel_rfl) rfl ?_ ?_
      ·refine o_val rfl rfl rfl (y_load Try.isAgg33 rfl (cel_own 2 rfl rfl)) (o_nil ?_); refine d_eff (k := 7) (n := 4) (m := 8) rfl (by kernel_rfl) rfl ?_; refine o_lit (vs := [(0, .agg #[.int _ _, .slice _ _ _])]) rfl rfl (WorldR_k7 _ _ _ _) (fun b42 => ?_); refine o_nil ?_; refine d_eff (k := 8) (n := 4) (m := 8) rfl (by kernel_rfl) rfl ?_; refine o_append (sz := 2) (bytes := 32) (news := [(.int _ _), (.slice _ _ _)]) 3 rfl Try.underlying33 Try.type155 rfl rfl rfl rfl rfl hvo rfl rfl (Src.slice Try.underlying33 (cels_own 12 rfl rfl) rfl (by simp [Value.oneCell']) (by simp)) (by omega) (fun A43 c44 E45 ho46 hn47 => ?_); have ho48 : OS A43 (v.cs.length + 1) c44 155 2 ((v.cs ++ [(CR.mk (nxV (cpS v.i (mnS (nxS (nxS (itS q.i (mnS (liS (wdA s))))))))) lB (mnV (nxS (cpS v.i (mnS (nxS (nxS (itS q.i (mnS (liS (wdA s)))))))))) le (liV (nxS (cpS v.i (mnS (nxS (nxS (itS q.i (mnS (liS (wdA s)))))))))))]).flatMap encC) E45 := os_snoc ho46 rfl
       clear ho46
       refine o_nil ?_; refine d_val (i := 9) rfl (by kernel_rfl) (by kernel_rfl) (by kernel_rfl) rfl rfl rfl (y_field0 Try.runUnderlying136 rfl Try.sizeOf33 rfl rfl) ?_; refine d_eff (k := 10) (n := 4) (m := 8) rfl (by kernel_rfl) rfl ?_; refine o_store (v := (.slice _ _ _)) 2 rfl Try.sizeOf33 rfl rfl rfl rfl (o_nil ?_); refine d_nil (n := 4) (m := 8) (by kernel_rfl) rfl ?_; refine s_norm [_, _, [(_, .cells [(.int _ _), (.int _ _), (.slice _ _ _)].toArray 136 (0, 0))], _, _, [(_, .cells [(.slice _ _ _), (.slice _ _ _), (.slice _ _ _)].toArray 47 (0, 0))], _, _, _, _, _, [(_, .cells [(.slice _ _ _), (.slice _ _ _), (.slice _ _ _)].toArray 47 (0, 0))], [(_, .cells [(.int _ _), (.slice _ _ _)].toArray 155 (0, 0))]] rfl ?_; refine s_forget [(0, (.pointer _)), (2, (.pointer _)), (3, (.pointer _)), (6, (.pointer _)), (45, (.int _ _)), (46, (.int _ _)), (55, (.int _ _)), (56, (.int _ _))] ⟨rfl, rfl, rfl, rfl, rfl, rfl, rfl, rfl, trivial⟩ (fun _f => ?_); refine s_region ?_; refine o_pull 4 ?_; refine o_pull 2 ?_; refine o_fuse ?_; refine o_val rfl rfl rfl (y_add rfl rfl (by simp only [inK]; omega)) ?_; refine o_val rfl rfl rfl (y_move (v := (.int _ _)) rfl) (o_nil ?_); exact ⟨LC4.mk (v.i + 1) (v.cs ++ [(CR.mk (nxV (cpS v.i (mnS (nxS (nxS (itS q.i (mnS (liS (wdA s))))))))) lB (mnV (nxS (cpS v.i (mnS (nxS (nxS (itS q.i (mnS (liS (wdA s)))))))))) le (liV (nxS (cpS v.i (mnS (nxS (nxS (itS q.i (mnS (liS (wdA s)))))))))))]) A43 c44 E45 (lE ++ v.P) h13G, (by first | omega | (dsimp only; omega)), ⟨by dsimp only; omega, by simp only [List.length_append, List.length_singleton]; omega, by dsimp only; rw [List.length_append]; exact ho48, all_snoc (fun x hx => (hvx x hx).sub inG_right) ⟨liV_len _, lo.2.1, by dsimp only; omega, lo.mem.ms inG_left⟩, by dsimp only [cpV]; rw [List.map_append, hvd]; rfl, h13⟩, ⟨(congrArg (Value.int .i64) (by (try dsimp only); omega)), rfl, rfl, rfl, rfl, rfl, rfl, rfl, trivial⟩, (by dsimp only; rw [List.length_append]; exact sub_picks [1, 1, 1, 0, 0, 0, 0, 0, 0, 0, 0] rfl)⟩
      ·refine o_lit (vs := [(0, .agg #[.int _ _, .slice _ _ _])]) rfl rfl (WorldR_k7 _ _ _ _) (fun b49 => ?_); refine o_nil ?_; refine d_now (i := 1) [] rfl (by kernel_rfl) (by kernel_rfl) (by kernel_rfl) rfl rfl rfl (y_load Try.isAgg33 rfl (cel_own 2 rfl rfl)) trivial ?_; refine d_eff (k := 8) (n := 4) (m := 8) rfl (by kernel_rfl) rfl ?_; refine o_append (sz := 2) (bytes := 32) (news := [(.int _ _), (.slice _ _ _)]) 3 rfl Try.underlying33 Try.type155 rfl rfl rfl rfl rfl hvo rfl rfl (Src.slice Try.underlying33 (cels_own 12 rfl rfl) rfl (by simp [Value.oneCell']) (by simp)) (by omega) (fun A50 c51 E52 ho53 hn54 => ?_); have ho55 : OS A50 (v.cs.length + 1) c51 155 2 ((v.cs ++ [(CR.mk (nxV (cpS v.i (mnS (nxS (nxS (itS q.i (mnS (liS (wdA s))))))))) lB (mnV (nxS (cpS v.i (mnS (nxS (nxS (itS q.i (mnS (liS (wdA s)))))))))) le (liV (nxS (cpS v.i (mnS (nxS (nxS (itS q.i (mnS (liS (wdA s)))))))))))]).flatMap encC) E52 := os_snoc ho53 rfl
       clear ho53
       refine o_nil ?_; refine d_val (i := 9) rfl (by kernel_rfl) (by kernel_rfl) (by kernel_rfl) rfl rfl rfl (y_field0 Try.runUnderlying136 rfl Try.sizeOf33 rfl rfl) ?_; refine d_eff (k := 10) (n := 4) (m := 8) rfl (by kernel_rfl) rfl ?_; refine o_store (v := (.slice _ _ _)) 2 rfl Try.sizeOf33 rfl rfl rfl rfl (o_nil ?_); refine d_nil (n := 4) (m := 8) (by kernel_rfl) rfl ?_; refine s_norm [_, _, [(_, .cells [(.int _ _), (.int _ _), (.slice _ _ _)].toArray 136 (0, 0))], _, _, [(_, .cells [(.slice _ _ _), (.slice _ _ _), (.slice _ _ _)].toArray 47 (0, 0))], _, _, _, _, _, [(_, .cells [(.slice _ _ _), (.slice _ _ _), (.slice _ _ _)].toArray 47 (0, 0))], [(_, .cells [(.int _ _), (.slice _ _ _)].toArray 155 (0, 0))]] rfl ?_; refine s_forget [(0, (.pointer _)), (2, (.pointer _)), (3, (.pointer _)), (6, (.pointer _)), (45, (.int _ _)), (46, (.int _ _)), (55, (.int _ _)), (56, (.int _ _))] ⟨rfl, rfl, rfl, rfl, rfl, rfl, rfl, rfl, trivial⟩ (fun _f => ?_); refine s_region ?_; refine o_pull 4 ?_; refine o_pull 2 ?_; refine o_fuse ?_; refine o_val rfl rfl rfl (y_add rfl rfl (by simp only [inK]; omega)) ?_; refine o_val rfl rfl rfl (y_move (v := (.int _ _)) rfl) (o_nil ?_); exact ⟨LC4.mk (v.i + 1) (v.cs ++ [(CR.mk (nxV (cpS v.i (mnS (nxS (nxS (itS q.i (mnS (liS (wdA s))))))))) lB (mnV (nxS (cpS v.i (mnS (nxS (nxS (itS q.i (mnS (liS (wdA s)))))))))) le (liV (nxS (cpS v.i (mnS (nxS (nxS (itS q.i (mnS (liS (wdA s)))))))))))]) A50 c51 E52 (lE ++ v.P) h13G, (by first | omega | (dsimp only; omega)), ⟨by dsimp only; omega, by simp only [List.length_append, List.length_singleton]; omega, by dsimp only; rw [List.length_append]; exact ho55, all_snoc (fun x hx => (hvx x hx).sub inG_right) ⟨liV_len _, lo.2.1, by dsimp only; omega, lo.mem.ms inG_left⟩, by dsimp only [cpV]; rw [List.map_append, hvd]; rfl, h13⟩, ⟨(congrArg (Value.int .i64) (by (try dsimp only); omega)), rfl, rfl, rfl, rfl, rfl, rfl, rfl, trivial⟩, (by dsimp only; rw [List.length_append]; exact sub_picks [1, 1, 1, 0, 0, 0, 0, 0, 0, 0, 0] rfl)⟩
   ·refine s_exit ?_; refine s_region ?_; have hvm : v.i = mnV (nxS (nxS (itS q.i (mnS (liS (wdA s)))))) := by omega
    refine o_val rfl rfl rfl (y_field0 Try.runUnderlying47 rfl Try.sizeOf45 rfl rfl) ?_; refine o_val rfl rfl rfl (y_load Try.isAgg45 rfl (cel_own 4 rfl rfl)) ?_; refine o_val rfl rfl rfl (y_loads (cs := [_, _, _]) Try.isAgg136 Try.sizeOf136 rfl rfl rfl (cels_own 1 rfl rfl)) ?_; refine o_lit (vs := [(0, .agg #[.int _ _, .int _ _, .slice _ _ _])]) rfl rfl (WorldR_k8 _ _ _ _ _) (fun b56 => ?_); refine o_append (sz := 3) (bytes := 40) (news := [(.int _ _), (.int _ _), (.slice _ _ _)]) 5 rfl Try.underlying45 Try.type136 rfl rfl rfl rfl rfl hio rfl rfl (Src.slice Try.underlying45 (cels_own 11 rfl rfl) rfl (by simp [Value.oneCell']) (by simp)) (by omega) (fun A57 c58 E59 ho60 hn61 => ?_); have ho62 : OS A57 (q.its.length + 1) c58 136 3 ((q.its ++ [(IR.mk (nxV (itS q.i (mnS (liS (wdA s))))) (nxV (nxS (itS q.i (mnS (liS (wdA s)))))) v.A v.cs.length v.c v.cs)]).flatMap encIt) E59 := os_snoc ho60 rfl
    clear ho60
    refine o_val rfl rfl rfl (y_field0 Try.runUnderlying47 rfl Try.sizeOf45 rfl rfl) ?_; refine o_store (v := (.slice _ _ _)) 4 rfl Try.sizeOf45 rfl rfl rfl rfl (o_nil ?_); refine s_norm [_, [(_, .cells [(.int _ _), (.int _ _), (.slice _ _ _)].toArray 136 (0, 0))], _, _, [(_, .cells [(.slice _ _ _), (.slice _ _ _), (.slice _ _ _)].toArray 47 (0, 0))], _, _, _, _, _, [(_, .cells [(.slice _ _ _), (.slice _ _ _), (.slice _ _ _)].toArray 47 (0, 0))], [(_, .cells [(.int _ _), (.int _ _), (.slice _ _ _)].toArray 136 (0, 0))]] rfl ?_; refine s_forget [(0, (.pointer _)), (2, (.pointer _)), (3, (.pointer _)), (45, (.int _ _)), (46, (.int _ _))] ⟨rfl, rfl, rfl, rfl, rfl, trivial⟩ (fun _f => ?_); refine s_region ?_; refine o_pull 6 ?_; refine o_pull 4 ?_; refine o_fuse ?_; refine o_pull 3 ?_; refine o_fuse ?_; refine o_val rfl rfl rfl (y_add rfl rfl (by simp only [inK]; omega)) ?_; refine o_val rfl rfl rfl (y_move (v := (.int _ _)) rfl) (o_nil ?_); exact ⟨LI4.mk (q.i + 1) (q.its ++ [(IR.mk (nxV (itS q.i (mnS (liS (wdA s))))) (nxV (nxS (itS q.i (mnS (liS (wdA s)))))) v.A v.cs.length v.c v.cs)]) A57 c58 E59 (v.E ++ (v.P ++ q.P)) v.R, (by first | omega | (dsimp only; omega)), ⟨by dsimp only; omega, by simp only [List.length_append, List.length_singleton]; omega, by dsimp only; rw [List.length_append]; exact ho62, all_snoc (fun x hx => ((hix x hx).sub inG_right).sub inG_right) ⟨rfl, hvo.2.1, by dsimp only; omega, hvo.mem.ms inG_left, fun y hy => ((hvx y hy).sub inG_left).sub inG_right⟩, by show (q.its ++ [(IR.mk (nxV (itS q.i (mnS (liS (wdA s))))) (nxV (nxS (itS q.i (mnS (liS (wdA s)))))) v.A v.cs.length v.c v.cs)]).map IR.d = itV q.i (mnS (liS (wdA s))) ++ [(nxV (itS q.i (mnS (liS (wdA s)))), nxV (nxS (itS q.i (mnS (liS (wdA s))))), cpV (mnV (nxS (nxS (itS q.i (mnS (liS (wdA s))))))) (mnS (nxS (nxS (itS q.i (mnS (liS (wdA s))))))))]; rw [List.map_append, hid, ← hvm, ← hvd]; rfl, by show Rdr V0 b (cpS (mnV (nxS (nxS (itS q.i (mnS (liS (wdA s))))))) (mnS (nxS (nxS (itS q.i (mnS (liS (wdA s)))))))) v.R; rw [← hvm]; exact hr7⟩, ⟨(congrArg (Value.int .i64) (by (try dsimp only); omega)), rfl, rfl, rfl, rfl, trivial⟩, (by dsimp only; rw [List.length_append]; exact sub_picks [1, 2, 2, 0, 1, 1, 1, 1] rfl)⟩
  ·refine s_exit ?_; refine s_seq (s_region ?_); refine o_val rfl rfl rfl (y_loads (cs := [_, _, _]) Try.isAgg47 Try.sizeOf47 rfl rfl rfl (cels_own 1 rfl rfl)) ?_; refine o_stores (vs := [(.slice _ _ _), (.slice _ _ _), (.slice _ _ _)]) 7 rfl Try.sizeOf47 rfl rfl rfl (by simp [Value.oneCell']) (by simp) (o_nil ?_); refine s_norm [_, [(_, .cells [(.slice _ _ _), (.slice _ _ _), (.slice _ _ _)].toArray 47 (0, 0))], _, _, _, _, _, [(_, .cells [(.slice _ _ _), (.slice _ _ _), (.slice _ _ _)].toArray 47 (0, 0))]] rfl ?_; refine s_ret ?_; have hqm : q.i = mnV (liS (wdA s)) := by omega
   rw [hqm] at hid hr5; have hall : ∀ (X : Grp), X ∈ [g.E, g.P, gE, q.E, q.P] → MSub (inG X) (inG ([g.E, g.P, gE, q.E, q.P] : List Grp).flatten) := fun X hX => inG_mem hX; have hgb := mn_few2 hr1; exact ⟨_, [q.R, ([g.E, g.P, gE, q.E, q.P] : List Grp).flatten], resv1 rfl (RV.cells (cs := [_, _, _]) rfl Try.isAgg47 Try.sizeOf47 rfl rfl (cels_own 7 rfl rfl)), ⟨⟨g.A, g.ks.length, g.c, g.ks, gB, mnV (wdA s), ge, liV (wdA s), q.A, q.its.length, q.c, q.its⟩, _, _, rfl, ⟨⟨rfl, hko.2.1, by dsimp only; omega, hko.mem.ms (hall _ (by simp)), fun x hx => (hkx x hx).sub (hall _ (by simp))⟩, ⟨liV_len _, go.2.1, by dsimp only; omega, go.mem.ms (hall _ (by simp))⟩, ⟨rfl, hio.2.1, by dsimp only; omega, hio.mem.ms (hall _ (by simp)), fun x hx => (hix x hx).sub (hall _ (by simp))⟩⟩, Prod.ext hkd (Prod.ext rfl hid), hr5, rfl⟩, Sub.trans (L' := [q.R, g.E, g.P, gE, q.E, q.P]) (fun w0 V w hs => hs.sublist (by simp)) (sub_picks [0, 4, 4, 3, 1, 1] rfl)⟩

end Go.Proofs.Ytacmbiohjiogiaa.K
end
section
set_option linter.unusedVariables false
set_option linter.unusedSimpArgs false
set_option maxRecDepth 100000
set_option maxHeartbeats 4000000
namespace Go.Proofs.Ytacmbiohjiogiaa.K
open Go.RowKit

def nk : Nat → RS → RS
 | 0, s => s
 | k + 1, s => nxS (nk k s)
def coS : Nat → RS → RS
 | 0, s => s
 | i + 1, s => nk 10 (coS i s)
def coV : Nat → RS → List CoR
 | 0, _ => []
 | i + 1, s => coV i s ++ [⟨nxV (nk 0 (coS i s)), nxV (nk 1 (coS i s)), nxV (nk 2 (coS i s)), nxV (nk 3 (coS i s)), nxV (nk 4 (coS i s)), nxV (nk 5 (coS i s)), nxV (nk 6 (coS i s)), nxV (nk 7 (coS i s)), nxV (nk 8 (coS i s)), nxV (nk 9 (coS i s))⟩]
def miS : Nat → RS → RS
 | 0, s => s
 | i + 1, s => liS (nk 3 (miS i s))
def miV : Nat → RS → List (Int × Int × Int × List Int)
 | 0, _ => []
 | i + 1, s => miV i s ++ [(nxV (nk 0 (miS i s)), nxV (nk 1 (miS i s)), nxV (nk 2 (miS i s)), liV (nk 3 (miS i s)))]
def evS : Nat → RS → RS
 | 0, s => s
 | i + 1, s => nk 4 (evS i s)
def evV : Nat → RS → List EvR
 | 0, _ => []
 | i + 1, s => evV i s ++ [⟨nxV (nk 0 (evS i s)), nxV (nk 1 (evS i s)), nxV (nk 2 (evS i s)), nxV (nk 3 (evS i s))⟩]
def sA (s : RS) : RS := wdS (nxS s)
def sB (s : RS) : RS := coS (mnV (sA s)) (mnS (sA s))
def sC (s : RS) : RS := miS (mnV (sB s)) (mnS (sB s))
def sD (s : RS) : RS := evS (mnV (sC s)) (mnS (sC s))
def MiR.d (m : MiR) : Int × Int × Int × List Int := (m.e, m.g, m.p, m.vs)
abbrev StD : Type := Int × (List (ByteArray × List FR) × List Int × List (Int × Int × List (Int × List Int))) × List CoR × List (Int × Int × Int × List Int) × List EvR
def StR.d (s : StR) : StD := (s.tick, s.w.d, s.cs, s.ms.map MiR.d, s.es)
def stV (s : RS) : StD := (nxV s, wdV (nxS s), coV (mnV (sA s)) (mnS (sA s)), miV (mnV (sB s)) (mnS (sB s)), evV (mnV (sC s)) (mnS (sC s)))
def stBad (s : RS) : Prop := (sD s).2 = true ∨ 0 < (sD s).1.length
structure LO5 where
 i : Nat
 cs : List CoR
 A : Option Addr
 c : Nat
 E : Grp
 R : Grp
structure LM5 where
 i : Nat
 ms : List MiR
 A : Option Addr
 c : Nat
 E : Grp
 P : Grp
 R : Grp
structure LE5 where
 i : Nat
 es : List EvR
 A : Option Addr
 c : Nat
 E : Grp
 R : Grp

theorem Unflat_k0 (v0A : Option Addr) (v0n : Nat) (v0c : Nat) (w : World) : (Instr.build 281 ([(0, (.slice v0A v0n v0c))] : List (Nat × Value)).toArray).run Try.prog w = .ok (.agg #[.slice v0A v0n v0c, .bool false]) w := by kernel_rfl
theorem Unflat_k1 (v0 : Int) (w : World) : (Instr.build 75 ([(0, (.int .i64 v0))] : List (Nat × Value)).toArray).run Try.prog w = .ok (.agg #[.int .i64 v0, .slice none 0 0, .slice none 0 0, .slice none 0 0, .slice none 0 0, .slice none 0 0, .slice none 0 0]) w := by kernel_rfl
theorem Unflat_k2 (v0 : Int) (v1 : Int) (v2 : Int) (w : World) : (Instr.build 120 ([(0, (.int .i64 v0)), (1, (.int .i64 v1)), (2, (.int .i64 v2))] : List (Nat × Value)).toArray).run Try.prog w = .ok (.agg #[.int .i64 v0, .int .i64 v1, .int .i64 v2, .int .i64 0, .int .i64 0, .int .i64 0, .int .i64 0, .int .i64 0, .int .i64 0, .int .i64 0]) w := by kernel_rfl
theorem Unflat_k3 (v0 : Int) (v1 : Int) (w : World) : (Instr.build 90 ([(0, (.int .i64 v0)), (1, (.int .i64 v1))] : List (Nat × Value)).toArray).run Try.prog w = .ok (.agg #[.int .i64 v0, .int .i64 v1]) w := by kernel_rfl
theorem Unflat_k4 (v0x0 : Int) (v0x1 : Int) (v0x2 : Int) (v0x3 : Int) (v0x4 : Int) (v0x5 : Int) (v0x6 : Int) (v0x7 : Int) (v0x8 : Int) (v0x9 : Int) (w : World) : (Instr.buildSlice 71 1 ([(0, (.agg #[(.int .i64 v0x0), (.int .i64 v0x1), (.int .i64 v0x2), (.int .i64 v0x3), (.int .i64 v0x4), (.int .i64 v0x5), (.int .i64 v0x6), (.int .i64 v0x7), (.int .i64 v0x8), (.int .i64 v0x9)]))] : List (Nat × Value)).toArray).run Try.prog w = .ok (.slice (some ⟨w.heap.size, 0, none⟩) 1 1) { w with heap := w.heap.push (.cells ([.int .i64 v0x0, .int .i64 v0x1, .int .i64 v0x2, .int .i64 v0x3, .int .i64 v0x4, .int .i64 v0x5, .int .i64 v0x6, .int .i64 v0x7, .int .i64 v0x8, .int .i64 v0x9] : List Value).toArray 120 (0, 0)) } := by kernel_rfl
theorem Unflat_k5 (v0 : Int) (v1 : Int) (w : World) : (Instr.build 117 ([(0, (.int .i64 v0)), (1, (.int .i64 v1))] : List (Nat × Value)).toArray).run Try.prog w = .ok (.agg #[.int .i64 v0, .int .i64 v1]) w := by kernel_rfl
theorem Unflat_k6 (v0x0 : Int) (v0x1 : Int) (v1 : Int) (w : World) : (Instr.build 212 ([(0, (.agg #[(.int .i64 v0x0), (.int .i64 v0x1)])), (1, (.int .i64 v1))] : List (Nat × Value)).toArray).run Try.prog w = .ok (.agg #[.int .i64 v0x0, .int .i64 v0x1, .int .i64 v1, .slice none 0 0]) w := by kernel_rfl
theorem Unflat_k7 (v0x0 : Int) (v0x1 : Int) (v0x2 : Int) (v0x3A : Option Addr) (v0x3n : Nat) (v0x3c : Nat) (w : World) : (Instr.buildSlice 72 1 ([(0, (.agg #[(.int .i64 v0x0), (.int .i64 v0x1), (.int .i64 v0x2), (.slice v0x3A v0x3n v0x3c)]))] : List (Nat × Value)).toArray).run Try.prog w = .ok (.slice (some ⟨w.heap.size, 0, none⟩) 1 1) { w with heap := w.heap.push (.cells ([.int .i64 v0x0, .int .i64 v0x1, .int .i64 v0x2, .slice v0x3A v0x3n v0x3c] : List Value).toArray 212 (0, 0)) } := by kernel_rfl
theorem Unflat_k8 (v0 : Int) (w : World) : (Instr.build 214 ([(0, (.int .i64 v0))] : List (Nat × Value)).toArray).run Try.prog w = .ok (.agg #[.int .i64 v0, .int .i64 0, .int .i64 0, .int .i64 0]) w := by kernel_rfl
theorem Unflat_k9 (v0x0 : Int) (v0x1 : Int) (v0x2 : Int) (v0x3 : Int) (w : World) : (Instr.buildSlice 73 1 ([(0, (.agg #[(.int .i64 v0x0), (.int .i64 v0x1), (.int .i64 v0x2), (.int .i64 v0x3)]))] : List (Nat × Value)).toArray).run Try.prog w = .ok (.slice (some ⟨w.heap.size, 0, none⟩) 1 1) { w with heap := w.heap.push (.cells ([.int .i64 v0x0, .int .i64 v0x1, .int .i64 v0x2, .int .i64 v0x3] : List Value).toArray 214 (0, 0)) } := by kernel_rfl
theorem Unflat_k10 (w : World) : (Instr.build 75 ([] : List (Nat × Value)).toArray).run Try.prog w = .ok (.agg #[.int .i64 0, .slice none 0 0, .slice none 0 0, .slice none 0 0, .slice none 0 0, .slice none 0 0, .slice none 0 0]) w := by kernel_rfl
theorem Unflat_c {V : Mem} (A : Option Addr) (n c : Nat) (l : List Int) (h : Cels V [] A (l.map (.int .i64))) (hn : l.length = n) (hc : n ≤ c) (hb : n ≤ 1099511627776) : CallS Try.prog 118 [.slice A n c].toArray V [] (fun r L' => (stBad ((l, false) : RS) ∧ r = .tuple #[.agg #[.int .i64 0, .slice none 0 0, .slice none 0 0, .slice none 0 0, .slice none 0 0, .slice none 0 0, .slice none 0 0], .int .i64 3] ∧ L' = []) ∨ (¬ stBad ((l, false) : RS) ∧ ∃ (s' : StR) (P : Grp), r = .tuple #[.agg #[.int .i64 s'.tick, .slice s'.w.kA s'.w.kn s'.w.kc, .slice s'.w.gA s'.w.gn s'.w.gc, .slice s'.w.iA s'.w.iN s'.w.iC, .slice s'.cA s'.cn s'.cc, .slice s'.mA s'.mn s'.mc, .slice s'.eA s'.en s'.ec], .int .i64 0] ∧ StOK (inG P) s' ∧ s'.d = stV ((l, false) : RS) ∧ L' = [P])) := by
 refine callS Try.func118 rfl rfl (fun w0 => ?_); refine s_seq (s_region ?_); refine o_alloc rfl Try.zeroValue75 rfl (fun b1 => ?_); refine o_val rfl rfl rfl (y_assign (v := (.int _ _)) rfl) (o_nil ?_); refine s_seq (s_region ?_); refine o_val rfl rfl rfl (y_move (v := (.slice _ _ _)) rfl) ?_; refine o_val rfl rfl rfl (y_build (vs := [(0, .slice _ _ _)]) rfl (Unflat_k0 _ _ _)) ?_; refine o_box (v := (.agg #[(.slice _ _ _), (.bool _)])) rfl rfl rfl (fun b2 => ?_); refine o_val rfl rfl rfl (y_assign (v := (.pointer _)) rfl) (o_nil ?_); refine s_seq (s_region ?_); have h0 : Rdr V b2 ((l, false) : RS) (rdg b2 A n c false) := Rdr.new h hn hc hb; refine o_val rfl rfl rfl (y_move (v := (.pointer _)) rfl) ?_; refine o_pull 1 ?_; refine o_fn 1 (d := 13) rfl Try.call174 (NextR_c MSub.ext h0) rfl ?_; rintro _ _ ⟨h1G, rfl, h1, rfl⟩; refine o_val rfl rfl rfl (y_build (vs := [(0, .int _ _)]) rfl (Unflat_k1 _)) ?_; refine o_alloc rfl Try.zeroValue75 rfl (fun b3 => ?_); refine o_stores (vs := [(.int _ _), (.slice _ _ _), (.slice _ _ _), (.slice _ _ _), (.slice _ _ _), (.slice _ _ _), (.slice _ _ _)]) 2 rfl Try.sizeOf75 rfl rfl rfl (by simp [Value.oneCell']) (by simp) (o_nil ?_); refine s_seq (s_region ?_); refine o_val rfl rfl rfl (y_move (v := (.pointer _)) rfl) ?_; refine o_fn 1 (d := 16) rfl Try.call175 (WorldR_c MSub.ext h1) rfl ?_; rintro _ _ ⟨w, h2G, wP, rfl, hwo, hwd, h2, rfl⟩; refine o_val rfl rfl rfl (y_field0 Try.runUnderlying75 rfl Try.sizeOf47 rfl rfl) ?_; refine o_stores (vs := [(.slice _ _ _), (.slice _ _ _), (.slice _ _ _)]) 3 rfl Try.sizeOf47 rfl rfl rfl (by simp [Value.oneCell']) (by first | (simp; done) | (simp [lay]; done)) (o_nil ?_); refine s_norm [_, _, [(_, .cells [(.int _ _), (.slice _ _ _), (.slice _ _ _), (.slice _ _ _), (.slice _ _ _), (.slice _ _ _), (.slice _ _ _)].toArray 75 (0, 0))], [(_, .cells [(.int _ _), (.slice _ _ _), (.slice _ _ _), (.slice _ _ _), (.slice _ _ _), (.slice _ _ _), (.slice _ _ _)].toArray 75 (0, 0))]] rfl ?_; refine s_forget [(2, (.pointer _)), (3, (.int _ _)), (4, (.pointer _)), (5, (.pointer _))] ⟨rfl, rfl, rfl, rfl, trivial⟩ (fun _f => ?_); refine s_seq ?_; refine s_seq (s_region ?_)
 change Rdr V _ (sA ((l, false) : RS)) h2G at h2
 refine o_val rfl rfl rfl (y_move (v := (.pointer _)) rfl) ?_; refine o_fn 1 (d := 19) rfl Try.call176 (ManyR_c MSub.ext h2) rfl ?_; rintro _ _ ⟨h3G, rfl, h3, rfl⟩; have h3f := mn_few h3; refine o_val rfl rfl rfl (y_move (v := (.int _ _)) rfl) (o_nil ?_); refine s_block ?_; refine s_group ?_; refine s_loopK (γ := LO5) [(2, (.pointer _)), (3, (.int _ _)), (4, (.pointer _)), (5, (.pointer _)), (19, (.int _ _))] [_, _] (fun g => [(20, .int .i64 g.i)]) (fun g => [g.R, [(b3, .cells [.int .i64 (nxV ((l, false) : RS)), .slice w.kA w.kn w.kc, .slice w.gA w.gn w.gc, .slice w.iA w.iN w.iC, .slice g.A g.cs.length g.c, .slice none 0 0, .slice none 0 0].toArray 75 (0, 0))], g.E]) (fun g => g.i ≤ mnV (sA ((l, false) : RS)) ∧ g.cs.length = g.i ∧ OS g.A g.cs.length g.c 120 10 ((g.cs).flatMap encCo) g.E ∧ g.cs = coV g.i (mnS (sA ((l, false) : RS))) ∧ Rdr V b2 (coS g.i (mnS (sA ((l, false) : RS)))) g.R) (fun g => mnV (sA ((l, false) : RS)) - g.i) (LO5.mk 0 [] none 0 [] h3G) ⟨rfl, rfl, rfl, rfl, rfl, rfl, trivial⟩ (sub_picks [0, 2, 2, 0, 0] rfl) ?_ ?_
 ·exact ⟨Nat.zero_le _, rfl, OS.nil _ _, rfl, h3⟩
 intro g _f hI; refine s_norm _ (by simp only [pull, picks, setG, List.cons_append, List.nil_append, List.append_nil, List.drop_succ_cons, List.drop_zero]; rfl) ?_; obtain ⟨hgi, hgl, hco, hcd, hr1⟩ := hI; refine s_seq (s_region ?_); refine o_val rfl rfl rfl (y_lss rfl rfl) (o_nil ?_); refine s_seq ?_; refine s_if rfl (fun h4 => ?_) (fun h5 => ?_)
 ·refine s_skip ?_; refine s_seq ?_; refine s_block ?_; refine s_seq (s_region ?_); refine o_val rfl rfl rfl (y_move (v := (.pointer _)) rfl) ?_; refine o_fn 1 (d := 23) rfl Try.call174 (NextR_c MSub.ext hr1) rfl ?_; rintro _ _ ⟨o1G, rfl, o1, rfl⟩; refine o_val rfl rfl rfl (y_move (v := (.pointer _)) rfl) ?_; refine o_fn 1 (d := 25) rfl Try.call174 (NextR_c MSub.ext o1) rfl ?_; rintro _ _ ⟨o2G, rfl, o2, rfl⟩; refine o_val rfl rfl rfl (y_move (v := (.pointer _)) rfl) ?_; refine o_fn 1 (d := 27) rfl Try.call174 (NextR_c MSub.ext o2) rfl ?_; rintro _ _ ⟨o3G, rfl, o3, rfl⟩; refine o_val rfl rfl rfl (y_build (vs := [(0, .int _ _), (1, .int _ _), (2, .int _ _)]) rfl (Unflat_k2 _ _ _)) ?_; refine o_alloc rfl Try.zeroValue120 rfl (fun b6 => ?_); refine o_stores (vs := [(.int _ _), (.int _ _), (.int _ _), (.int _ _), (.int _ _), (.int _ _), (.int _ _), (.int _ _), (.int _ _), (.int _ _)]) 5 rfl Try.sizeOf120 rfl rfl rfl (by simp [Value.oneCell']) (by simp) (o_nil ?_); refine s_forget [(2, (.pointer _)), (3, (.int _ _)), (4, (.pointer _)), (5, (.pointer _)), (6, (.pointer _)), (19, (.int _ _)), (20, (.int _ _))] ⟨rfl, rfl, rfl, rfl, rfl, rfl, rfl, trivial⟩ (fun _f => ?_); refine s_seq (s_region ?_); refine o_val rfl rfl rfl (y_move (v := (.pointer _)) rfl) ?_; refine o_fn 1 (d := 30) rfl Try.call174 (NextR_c MSub.ext o3) rfl ?_; rintro _ _ ⟨o4G, rfl, o4, rfl⟩; refine o_val rfl rfl rfl (y_move (v := (.pointer _)) rfl) ?_; refine o_fn 1 (d := 32) rfl Try.call174 (NextR_c MSub.ext o4) rfl ?_; rintro _ _ ⟨o5G, rfl, o5, rfl⟩; refine o_val rfl rfl rfl (y_build (vs := [(0, .int _ _), (1, .int _ _)]) rfl (Unflat_k3 _ _)) ?_; refine o_val rfl rfl rfl (y_field0 Try.runUnderlying120 rfl Try.sizeOf90 rfl rfl) ?_; refine o_stores (vs := [(.int _ _), (.int _ _)]) 5 rfl Try.sizeOf90 rfl rfl rfl (by simp [Value.oneCell']) (by first | (simp; done) | (simp [lay]; done)) (o_nil ?_); refine s_norm [_, [(_, .cells [(.int _ _), (.slice _ _ _), (.slice _ _ _), (.slice _ _ _), (.slice _ _ _), (.slice _ _ _), (.slice _ _ _)].toArray 75 (0, 0))], _, _, [(_, .cells [(.int _ _), (.slice _ _ _), (.slice _ _ _), (.slice _ _ _), (.slice _ _ _), (.slice _ _ _), (.slice _ _ _)].toArray 75 (0, 0))], [(_, .cells [(.int _ _), (.int _ _), (.int _ _), (.int _ _), (.int _ _), (.int _ _), (.int _ _), (.int _ _), (.int _ _), (.int _ _)].toArray 120 (0, 0))]] rfl ?_; refine s_seq (s_region ?_); refine o_val rfl rfl rfl (y_move (v := (.pointer _)) rfl) ?_; refine o_fn 1 (d := 36) rfl Try.call174 (NextR_c MSub.ext o5) rfl ?_; rintro _ _ ⟨o6G, rfl, o6, rfl⟩; refine o_val rfl rfl rfl (y_move (v := (.pointer _)) rfl) ?_; refine o_fn 1 (d := 38) rfl Try.call174 (NextR_c MSub.ext o6) rfl ?_; rintro _ _ ⟨o7G, rfl, o7, rfl⟩; refine o_val rfl rfl rfl (y_build (vs := [(0, .int _ _), (1, .int _ _)]) rfl (Unflat_k3 _ _)) ?_; refine o_val rfl rfl rfl (y_field0 Try.runUnderlying120 rfl Try.sizeOf90 rfl rfl) ?_; refine o_stores (vs := [(.int _ _), (.int _ _)]) 5 rfl Try.sizeOf90 rfl rfl rfl (by simp [Value.oneCell']) (by first | (simp; done) | (simp [lay]; done)) (o_nil ?_); refine s_seq (s_region ?_); refine o_val rfl rfl rfl (y_move (v := (.pointer _)) rfl) ?_; refine o_fn 1 (d := 42) rfl Try.call174 (NextR_c MSub.ext o7) rfl ?_; rintro _ _ ⟨o8G, rfl, o8, rfl⟩; refine o_val rfl rfl rfl (y_move (v := (.pointer _)) rfl) ?_; refine o_fn 1 (d := 44) rfl Try.call174 (NextR_c MSub.ext o8) rfl ?_; rintro _ _ ⟨o9G, rfl, o9, rfl⟩; refine o_val rfl rfl rfl (y_move (v := (.pointer _)) rfl) ?_; refine o_fn 1 (d := 46) rfl Try.call174 (NextR_c MSub.ext o9) rfl ?_; rintro _ _ ⟨o10G, rfl, o10, rfl⟩; refine o_val rfl rfl rfl (y_field0 Try.runUnderlying120 rfl Try.sizeOf3 rfl rfl) ?_; refine o_store (v := (.int _ _)) 5 rfl Try.sizeOf3 rfl rfl rfl rfl ?_; refine o_val rfl rfl rfl (y_field0 Try.runUnderlying120 rfl Try.sizeOf3 rfl rfl) ?_; refine o_store (v := (.int _ _)) 5 rfl Try.sizeOf3 rfl rfl rfl rfl ?_; refine o_val rfl rfl rfl (y_field0 Try.runUnderlying120 rfl Try.sizeOf3 rfl rfl) ?_; refine o_store (v := (.int _ _)) 5 rfl Try.sizeOf3 rfl rfl rfl rfl (o_nil ?_); refine s_norm [_, [(_, .cells [(.int _ _), (.slice _ _ _), (.slice _ _ _), (.slice _ _ _), (.slice _ _ _), (.slice _ _ _), (.slice _ _ _)].toArray 75 (0, 0))], _, _, [(_, .cells [(.int _ _), (.slice _ _ _), (.slice _ _ _), (.slice _ _ _), (.slice _ _ _), (.slice _ _ _), (.slice _ _ _)].toArray 75 (0, 0))], [(_, .cells [(.int _ _), (.int _ _), (.int _ _), (.int _ _), (.int _ _), (.int _ _), (.int _ _), (.int _ _), (.int _ _), (.int _ _)].toArray 120 (0, 0))]] rfl ?_; refine s_forget [(2, (.pointer _)), (3, (.int _ _)), (4, (.pointer _)), (5, (.pointer _)), (6, (.pointer _)), (19, (.int _ _)), (20, (.int _ _))] ⟨rfl, rfl, rfl, rfl, rfl, rfl, rfl, trivial⟩ (fun _f => ?_); refine s_region ?_; refine o_val rfl rfl rfl (y_field0 Try.runUnderlying75 rfl Try.sizeOf71 rfl rfl) ?_; refine o_val rfl rfl rfl (y_load Try.isAgg71 rfl (cel_own 1 rfl rfl)) ?_; refine o_val rfl rfl rfl (y_loads (cs := [_, _, _, _, _, _, _, _, _, _]) Try.isAgg120 Try.sizeOf120 rfl rfl rfl (cels_own 5 rfl rfl)) ?_; refine o_lit (vs := [(0, .agg #[.int _ _, .int _ _, .int _ _, .int _ _, .int _ _, .int _ _, .int _ _, .int _ _, .int _ _, .int _ _])]) rfl rfl (Unflat_k4 _ _ _ _ _ _ _ _ _ _) (fun b7 => ?_); refine o_append (sz := 10) (bytes := 80) (news := [(.int _ _), (.int _ _), (.int _ _), (.int _ _), (.int _ _), (.int _ _), (.int _ _), (.int _ _), (.int _ _), (.int _ _)]) 2 rfl Try.underlying71 Try.type120 rfl rfl rfl rfl rfl hco rfl rfl (Src.slice Try.underlying71 (cels_own 6 rfl rfl) rfl (by simp [Value.oneCell']) (by simp)) (by omega) (fun A8 c9 E10 ho11 hn12 => ?_); have ho13 : OS A8 (g.cs.length + 1) c9 120 10 ((g.cs ++ [(CoR.mk (nxV (nk 0 (coS g.i (mnS (sA ((l, false) : RS)))))) (nxV (nk 1 (coS g.i (mnS (sA ((l, false) : RS)))))) (nxV (nk 2 (coS g.i (mnS (sA ((l, false) : RS)))))) (nxV (nk 3 (coS g.i (mnS (sA ((l, false) : RS)))))) (nxV (nk 4 (coS g.i (mnS (sA ((l, false) : RS)))))) (nxV (nk 5 (coS g.i (mnS (sA ((l, false) : RS)))))) (nxV (nk 6 (coS g.i (mnS (sA ((l, false) : RS)))))) (nxV (nk 7 (coS g.i (mnS (sA ((l, false) : RS)))))) (nxV (nk 8 (coS g.i (mnS (sA ((l, false) : RS)))))) (nxV (nk 9 (coS g.i (mnS (sA ((l, false) : RS)))))))]).flatMap encCo) E10 := os_snoc ho11 rfl
  clear ho11
  refine o_val rfl rfl rfl (y_field0 Try.runUnderlying75 rfl Try.sizeOf71 rfl rfl) ?_; refine o_store (v := (.slice _ _ _)) 1 rfl Try.sizeOf71 rfl rfl rfl rfl (o_nil ?_); refine s_norm [_, [(_, .cells [(.int _ _), (.slice _ _ _), (.slice _ _ _), (.slice _ _ _), (.slice _ _ _), (.slice _ _ _), (.slice _ _ _)].toArray 75 (0, 0))], _, _, [(_, .cells [(.int _ _), (.slice _ _ _), (.slice _ _ _), (.slice _ _ _), (.slice _ _ _), (.slice _ _ _), (.slice _ _ _)].toArray 75 (0, 0))], [(_, .cells [(.int _ _), (.int _ _), (.int _ _), (.int _ _), (.int _ _), (.int _ _), (.int _ _), (.int _ _), (.int _ _), (.int _ _)].toArray 120 (0, 0))], [(_, .cells [(.int _ _), (.int _ _), (.int _ _), (.int _ _), (.int _ _), (.int _ _), (.int _ _), (.int _ _), (.int _ _), (.int _ _)].toArray 120 (0, 0))]] rfl ?_; refine s_region ?_; refine o_val rfl rfl rfl (y_add rfl rfl (by simp only [inK]; omega)) ?_; refine o_val rfl rfl rfl (y_move (v := (.int _ _)) rfl) (o_nil ?_); exact ⟨LO5.mk (g.i + 1) (g.cs ++ [(CoR.mk (nxV (nk 0 (coS g.i (mnS (sA ((l, false) : RS)))))) (nxV (nk 1 (coS g.i (mnS (sA ((l, false) : RS)))))) (nxV (nk 2 (coS g.i (mnS (sA ((l, false) : RS)))))) (nxV (nk 3 (coS g.i (mnS (sA ((l, false) : RS)))))) (nxV (nk 4 (coS g.i (mnS (sA ((l, false) : RS)))))) (nxV (nk 5 (coS g.i (mnS (sA ((l, false) : RS)))))) (nxV (nk 6 (coS g.i (mnS (sA ((l, false) : RS)))))) (nxV (nk 7 (coS g.i (mnS (sA ((l, false) : RS)))))) (nxV (nk 8 (coS g.i (mnS (sA ((l, false) : RS)))))) (nxV (nk 9 (coS g.i (mnS (sA ((l, false) : RS)))))))]) A8 c9 E10 o10G, (by first | omega | (dsimp only; omega)), ⟨by dsimp only; omega, by simp only [List.length_append, List.length_singleton]; omega, by dsimp only; rw [List.length_append]; exact ho13, by show g.cs ++ [_] = coV g.i (mnS (sA ((l, false) : RS))) ++ [_]; rw [← hcd], o10⟩, ⟨(congrArg (Value.int .i64) (by (try dsimp only); omega)), rfl, rfl, rfl, rfl, rfl, trivial⟩, (by dsimp only; rw [List.length_append]; exact sub_picks [0, 0, 0, 0, 0] rfl)⟩
 ·refine s_exit ?_; refine s_seq ?_; refine s_seq (s_region ?_); have hgm : g.i = mnV (sA ((l, false) : RS)) := by omega
  rw [hgm] at hcd hr1
  change Rdr V _ (sB ((l, false) : RS)) g.R at hr1
  refine o_val rfl rfl rfl (y_move (v := (.pointer _)) rfl) ?_; refine o_fn 1 (d := 58) rfl Try.call176 (ManyR_c MSub.ext hr1) rfl ?_; rintro _ _ ⟨h4G, rfl, h4, rfl⟩; have h4f := mn_few h4; refine o_val rfl rfl rfl (y_move (v := (.int _ _)) rfl) (o_nil ?_); refine s_block ?_; refine s_group ?_; refine s_group ?_; refine s_loopK (γ := LM5) [(2, (.pointer _)), (3, (.int _ _)), (4, (.pointer _)), (5, (.pointer _)), (58, (.int _ _))] [_, _, _] (fun u => [(59, .int .i64 u.i)]) (fun u => [u.R, [(b3, .cells [.int .i64 (nxV ((l, false) : RS)), .slice w.kA w.kn w.kc, .slice w.gA w.gn w.gc, .slice w.iA w.iN w.iC, .slice g.A g.cs.length g.c, .slice u.A u.ms.length u.c, .slice none 0 0].toArray 75 (0, 0))], u.E, u.P]) (fun u => u.i ≤ mnV (sB ((l, false) : RS)) ∧ u.ms.length = u.i ∧ OS u.A u.ms.length u.c 212 4 ((u.ms).flatMap encMi) u.E ∧ (∀ x ∈ u.ms, MOK (inG u.P) x) ∧ u.ms.map MiR.d = miV u.i (mnS (sB ((l, false) : RS))) ∧ Rdr V b2 (miS u.i (mnS (sB ((l, false) : RS)))) u.R) (fun u => mnV (sB ((l, false) : RS)) - u.i) (LM5.mk 0 [] none 0 [] [] h4G) ⟨rfl, rfl, rfl, rfl, rfl, rfl, trivial⟩ (sub_picks [0, 0, 3, 3, 0, 0, 0] rfl) ?_ ?_
  ·exact ⟨Nat.zero_le _, rfl, OS.nil _ _, fun x hx => absurd hx List.not_mem_nil, rfl, h4⟩
  intro u _f hJ; refine s_norm _ (by simp only [pull, picks, setG, List.cons_append, List.nil_append, List.append_nil, List.drop_succ_cons, List.drop_zero]; rfl) ?_; obtain ⟨hui, hul, hmo, hmx, hmd, hr2⟩ := hJ; refine s_seq (s_region ?_); refine o_val rfl rfl rfl (y_lss rfl rfl) (o_nil ?_); refine s_seq ?_; refine s_if rfl (fun h14 => ?_) (fun h15 => ?_)
  ·refine s_skip ?_; refine s_seq ?_; refine s_block ?_; refine s_seq (s_region ?_); refine o_val rfl rfl rfl (y_move (v := (.pointer _)) rfl) ?_; refine o_fn 1 (d := 62) rfl Try.call174 (NextR_c MSub.ext hr2) rfl ?_; rintro _ _ ⟨m1G, rfl, m1, rfl⟩; refine o_val rfl rfl rfl (y_move (v := (.pointer _)) rfl) ?_; refine o_fn 1 (d := 64) rfl Try.call174 (NextR_c MSub.ext m1) rfl ?_; rintro _ _ ⟨m2G, rfl, m2, rfl⟩; refine o_val rfl rfl rfl (y_build (vs := [(0, .int _ _), (1, .int _ _)]) rfl (Unflat_k5 _ _)) ?_; refine o_val rfl rfl rfl (y_move (v := (.pointer _)) rfl) ?_; refine o_fn 1 (d := 67) rfl Try.call174 (NextR_c MSub.ext m2) rfl ?_; rintro _ _ ⟨m3G, rfl, m3, rfl⟩; refine o_val rfl rfl rfl (y_build (vs := [(0, .agg #[.int _ _, .int _ _]), (1, .int _ _)]) rfl (Unflat_k6 _ _ _)) ?_; refine o_alloc rfl Try.zeroValue212 rfl (fun b16 => ?_); refine o_stores (vs := [(.int _ _), (.int _ _), (.int _ _), (.slice _ _ _)]) 7 rfl Try.sizeOf212 rfl rfl rfl (by simp [Value.oneCell']) (by simp) (o_nil ?_); refine s_forget [(2, (.pointer _)), (3, (.int _ _)), (4, (.pointer _)), (5, (.pointer _)), (7, (.pointer _)), (58, (.int _ _)), (59, (.int _ _))] ⟨rfl, rfl, rfl, rfl, rfl, rfl, rfl, trivial⟩ (fun _f => ?_); refine s_seq (s_region ?_); refine o_val rfl rfl rfl (y_move (v := (.pointer _)) rfl) ?_; refine o_fn 1 (d := 70) rfl Try.call177 (ListR_c MSub.ext m3) rfl ?_; rintro _ _ ⟨m4G, lB, le, lE, rfl, m4, lo, rfl⟩; have m4m := mn_few2 m3; refine o_val rfl rfl rfl (y_field0 Try.runUnderlying212 rfl Try.sizeOf22 rfl rfl) ?_; refine o_store (v := (.slice _ _ _)) 8 rfl Try.sizeOf22 rfl rfl rfl rfl (o_nil ?_); refine s_norm [_, _, [(_, .cells [(.int _ _), (.slice _ _ _), (.slice _ _ _), (.slice _ _ _), (.slice _ _ _), (.slice _ _ _), (.slice _ _ _)].toArray 75 (0, 0))], _, _, _, _, [(_, .cells [(.int _ _), (.slice _ _ _), (.slice _ _ _), (.slice _ _ _), (.slice _ _ _), (.slice _ _ _), (.slice _ _ _)].toArray 75 (0, 0))], [(_, .cells [(.int _ _), (.int _ _), (.int _ _), (.slice _ _ _)].toArray 212 (0, 0))]] rfl ?_; refine s_region ?_; refine o_val rfl rfl rfl (y_field0 Try.runUnderlying75 rfl Try.sizeOf72 rfl rfl) ?_; refine o_val rfl rfl rfl (y_load Try.isAgg72 rfl (cel_own 2 rfl rfl)) ?_; refine o_val rfl rfl rfl (y_loads (cs := [_, _, _, _]) Try.isAgg212 Try.sizeOf212 rfl rfl rfl (cels_own 8 rfl rfl)) ?_; refine o_lit (vs := [(0, .agg #[.int _ _, .int _ _, .int _ _, .slice _ _ _])]) rfl rfl (Unflat_k7 _ _ _ _ _ _) (fun b17 => ?_); refine o_append (sz := 4) (bytes := 48) (news := [(.int _ _), (.int _ _), (.int _ _), (.slice _ _ _)]) 3 rfl Try.underlying72 Try.type212 rfl rfl rfl rfl rfl hmo rfl rfl (Src.slice Try.underlying72 (cels_own 9 rfl rfl) rfl (by simp [Value.oneCell']) (by simp)) (by omega) (fun A18 c19 E20 ho21 hn22 => ?_); have ho23 : OS A18 (u.ms.length + 1) c19 212 4 ((u.ms ++ [(MiR.mk (nxV (nk 0 (miS u.i (mnS (sB ((l, false) : RS)))))) (nxV (nk 1 (miS u.i (mnS (sB ((l, false) : RS)))))) (nxV (nk 2 (miS u.i (mnS (sB ((l, false) : RS)))))) lB (mnV (nk 3 (miS u.i (mnS (sB ((l, false) : RS)))))) le (liV (nk 3 (miS u.i (mnS (sB ((l, false) : RS)))))))]).flatMap encMi) E20 := os_snoc ho21 rfl
   clear ho21
   refine o_val rfl rfl rfl (y_field0 Try.runUnderlying75 rfl Try.sizeOf72 rfl rfl) ?_; refine o_store (v := (.slice _ _ _)) 2 rfl Try.sizeOf72 rfl rfl rfl rfl (o_nil ?_); refine s_norm [_, _, [(_, .cells [(.int _ _), (.slice _ _ _), (.slice _ _ _), (.slice _ _ _), (.slice _ _ _), (.slice _ _ _), (.slice _ _ _)].toArray 75 (0, 0))], _, _, _, _, [(_, .cells [(.int _ _), (.slice _ _ _), (.slice _ _ _), (.slice _ _ _), (.slice _ _ _), (.slice _ _ _), (.slice _ _ _)].toArray 75 (0, 0))], [(_, .cells [(.int _ _), (.int _ _), (.int _ _), (.slice _ _ _)].toArray 212 (0, 0))], [(_, .cells [(.int _ _), (.int _ _), (.int _ _), (.slice _ _ _)].toArray 212 (0, 0))]] rfl ?_; refine s_region ?_; refine o_pull 4 ?_; refine o_pull 2 ?_; refine o_fuse ?_; refine o_val rfl rfl rfl (y_add rfl rfl (by simp only [inK]; omega)) ?_; refine o_val rfl rfl rfl (y_move (v := (.int _ _)) rfl) (o_nil ?_); exact ⟨LM5.mk (u.i + 1) (u.ms ++ [(MiR.mk (nxV (nk 0 (miS u.i (mnS (sB ((l, false) : RS)))))) (nxV (nk 1 (miS u.i (mnS (sB ((l, false) : RS)))))) (nxV (nk 2 (miS u.i (mnS (sB ((l, false) : RS)))))) lB (mnV (nk 3 (miS u.i (mnS (sB ((l, false) : RS)))))) le (liV (nk 3 (miS u.i (mnS (sB ((l, false) : RS)))))))]) A18 c19 E20 (lE ++ u.P) m4G, (by first | omega | (dsimp only; omega)), ⟨by dsimp only; omega, by simp only [List.length_append, List.length_singleton]; omega, by dsimp only; rw [List.length_append]; exact ho23, all_snoc (fun x hx => (hmx x hx).sub inG_right) ⟨liV_len _, lo.2.1, Nat.le_trans m4m (by decide), lo.mem.ms inG_left⟩, by show (u.ms ++ [(MiR.mk (nxV (nk 0 (miS u.i (mnS (sB ((l, false) : RS)))))) (nxV (nk 1 (miS u.i (mnS (sB ((l, false) : RS)))))) (nxV (nk 2 (miS u.i (mnS (sB ((l, false) : RS)))))) lB (mnV (nk 3 (miS u.i (mnS (sB ((l, false) : RS)))))) le (liV (nk 3 (miS u.i (mnS (sB ((l, false) : RS)))))))]).map MiR.d = miV u.i (mnS (sB ((l, false) : RS))) ++ [_]; rw [List.map_append, hmd]; rfl, m4⟩, ⟨(congrArg (Value.int .i64) (by (try dsimp only); omega)), rfl, rfl, rfl, rfl, rfl, trivial⟩, (by dsimp only; rw [List.length_append]; exact sub_picks [1, 1, 1, 0, 0, 0, 0] rfl)⟩
  ·refine s_exit ?_; refine s_seq ?_; refine s_seq (s_region ?_); have hum : u.i = mnV (sB ((l, false) : RS)) := by omega
   rw [hum] at hmd hr2
   change Rdr V _ (sC ((l, false) : RS)) u.R at hr2
   refine o_val rfl rfl rfl (y_move (v := (.pointer _)) rfl) ?_; refine o_fn 1 (d := 80) rfl Try.call176 (ManyR_c MSub.ext hr2) rfl ?_; rintro _ _ ⟨h5G, rfl, h5, rfl⟩; have h5f := mn_few h5; refine o_val rfl rfl rfl (y_move (v := (.int _ _)) rfl) (o_nil ?_); refine s_block ?_; refine s_group ?_; refine s_loopK (γ := LE5) [(2, (.pointer _)), (3, (.int _ _)), (4, (.pointer _)), (5, (.pointer _)), (80, (.int _ _))] [_, _, _, _, _] (fun v => [(81, .int .i64 v.i)]) (fun v => [v.R, [(b3, .cells [.int .i64 (nxV ((l, false) : RS)), .slice w.kA w.kn w.kc, .slice w.gA w.gn w.gc, .slice w.iA w.iN w.iC, .slice g.A g.cs.length g.c, .slice u.A u.ms.length u.c, .slice v.A v.es.length v.c].toArray 75 (0, 0))], v.E]) (fun v => v.i ≤ mnV (sC ((l, false) : RS)) ∧ v.es.length = v.i ∧ OS v.A v.es.length v.c 214 4 ((v.es).flatMap encEv) v.E ∧ v.es = evV v.i (mnS (sC ((l, false) : RS))) ∧ Rdr V b2 (evS v.i (mnS (sC ((l, false) : RS)))) v.R) (fun v => mnV (sC ((l, false) : RS)) - v.i) (LE5.mk 0 [] none 0 [] h5G) ⟨rfl, rfl, rfl, rfl, rfl, rfl, trivial⟩ (sub_picks [0, 0, 5, 0, 0, 0, 0, 0] rfl) ?_ ?_
   ·exact ⟨Nat.zero_le _, rfl, OS.nil _ _, rfl, h5⟩
   intro v _f hV; refine s_norm _ (by simp only [pull, picks, setG, List.cons_append, List.nil_append, List.append_nil, List.drop_succ_cons, List.drop_zero]; rfl) ?_; obtain ⟨hvi, hvl, hvo, hvd, hr3⟩ := hV; refine s_seq (s_region ?_); refine o_val rfl rfl rfl (y_lss rfl rfl) (o_nil ?_); refine s_seq ?_; refine s_if rfl (fun h24 => ?_) (fun h25 => ?_)
   ·refine s_skip ?_; refine s_seq ?_; refine s_block ?_; refine s_seq (s_region ?_); refine o_val rfl rfl rfl (y_move (v := (.pointer _)) rfl) ?_; refine o_fn 1 (d := 84) rfl Try.call174 (NextR_c MSub.ext hr3) rfl ?_; rintro _ _ ⟨e1G, rfl, e1, rfl⟩; refine o_val rfl rfl rfl (y_build (vs := [(0, .int _ _)]) rfl (Unflat_k8 _)) ?_; refine o_alloc rfl Try.zeroValue214 rfl (fun b26 => ?_); refine o_stores (vs := [(.int _ _), (.int _ _), (.int _ _), (.int _ _)]) 8 rfl Try.sizeOf214 rfl rfl rfl (by simp [Value.oneCell']) (by simp) (o_nil ?_); refine s_seq (s_region ?_); refine o_val rfl rfl rfl (y_move (v := (.pointer _)) rfl) ?_; refine o_fn 1 (d := 87) rfl Try.call174 (NextR_c MSub.ext e1) rfl ?_; rintro _ _ ⟨e2G, rfl, e2, rfl⟩; refine o_val rfl rfl rfl (y_move (v := (.pointer _)) rfl) ?_; refine o_fn 1 (d := 89) rfl Try.call174 (NextR_c MSub.ext e2) rfl ?_; rintro _ _ ⟨e3G, rfl, e3, rfl⟩; refine o_val rfl rfl rfl (y_build (vs := [(0, .int _ _), (1, .int _ _)]) rfl (Unflat_k5 _ _)) ?_; refine o_val rfl rfl rfl (y_field0 Try.runUnderlying214 rfl Try.sizeOf117 rfl rfl) ?_; refine o_stores (vs := [(.int _ _), (.int _ _)]) 8 rfl Try.sizeOf117 rfl rfl rfl (by simp [Value.oneCell']) (by first | (simp; done) | (simp [lay]; done)) (o_nil ?_); refine s_norm [_, [(_, .cells [(.int _ _), (.slice _ _ _), (.slice _ _ _), (.slice _ _ _), (.slice _ _ _), (.slice _ _ _), (.slice _ _ _)].toArray 75 (0, 0))], _, _, _, _, _, [(_, .cells [(.int _ _), (.slice _ _ _), (.slice _ _ _), (.slice _ _ _), (.slice _ _ _), (.slice _ _ _), (.slice _ _ _)].toArray 75 (0, 0))], [(_, .cells [(.int _ _), (.int _ _), (.int _ _), (.int _ _)].toArray 214 (0, 0))]] rfl ?_; refine s_forget [(2, (.pointer _)), (3, (.int _ _)), (4, (.pointer _)), (5, (.pointer _)), (8, (.pointer _)), (80, (.int _ _)), (81, (.int _ _))] ⟨rfl, rfl, rfl, rfl, rfl, rfl, rfl, trivial⟩ (fun _f => ?_); refine s_seq (s_region ?_); refine o_val rfl rfl rfl (y_move (v := (.pointer _)) rfl) ?_; refine o_fn 1 (d := 93) rfl Try.call174 (NextR_c MSub.ext e3) rfl ?_; rintro _ _ ⟨e4G, rfl, e4, rfl⟩; refine o_val rfl rfl rfl (y_field0 Try.runUnderlying214 rfl Try.sizeOf3 rfl rfl) ?_; refine o_store (v := (.int _ _)) 8 rfl Try.sizeOf3 rfl rfl rfl rfl (o_nil ?_); refine s_region ?_; refine o_val rfl rfl rfl (y_field0 Try.runUnderlying75 rfl Try.sizeOf73 rfl rfl) ?_; refine o_val rfl rfl rfl (y_load Try.isAgg73 rfl (cel_own 1 rfl rfl)) ?_; refine o_val rfl rfl rfl (y_loads (cs := [_, _, _, _]) Try.isAgg214 Try.sizeOf214 rfl rfl rfl (cels_own 8 rfl rfl)) ?_; refine o_lit (vs := [(0, .agg #[.int _ _, .int _ _, .int _ _, .int _ _])]) rfl rfl (Unflat_k9 _ _ _ _) (fun b27 => ?_); refine o_append (sz := 4) (bytes := 32) (news := [(.int _ _), (.int _ _), (.int _ _), (.int _ _)]) 2 rfl Try.underlying73 Try.type214 rfl rfl rfl rfl rfl hvo rfl rfl (Src.slice Try.underlying73 (cels_own 9 rfl rfl) rfl (by simp [Value.oneCell']) (by simp)) (by omega) (fun A28 c29 E30 ho31 hn32 => ?_); have ho33 : OS A28 (v.es.length + 1) c29 214 4 ((v.es ++ [(EvR.mk (nxV (nk 0 (evS v.i (mnS (sC ((l, false) : RS)))))) (nxV (nk 1 (evS v.i (mnS (sC ((l, false) : RS)))))) (nxV (nk 2 (evS v.i (mnS (sC ((l, false) : RS)))))) (nxV (nk 3 (evS v.i (mnS (sC ((l, false) : RS)))))))]).flatMap encEv) E30 := os_snoc ho31 rfl
    clear ho31
    refine o_val rfl rfl rfl (y_field0 Try.runUnderlying75 rfl Try.sizeOf73 rfl rfl) ?_; refine o_store (v := (.slice _ _ _)) 1 rfl Try.sizeOf73 rfl rfl rfl rfl (o_nil ?_); refine s_norm [_, [(_, .cells [(.int _ _), (.slice _ _ _), (.slice _ _ _), (.slice _ _ _), (.slice _ _ _), (.slice _ _ _), (.slice _ _ _)].toArray 75 (0, 0))], _, _, _, _, _, [(_, .cells [(.int _ _), (.slice _ _ _), (.slice _ _ _), (.slice _ _ _), (.slice _ _ _), (.slice _ _ _), (.slice _ _ _)].toArray 75 (0, 0))], [(_, .cells [(.int _ _), (.int _ _), (.int _ _), (.int _ _)].toArray 214 (0, 0))], [(_, .cells [(.int _ _), (.int _ _), (.int _ _), (.int _ _)].toArray 214 (0, 0))]] rfl ?_; refine s_region ?_; refine o_val rfl rfl rfl (y_add rfl rfl (by simp only [inK]; omega)) ?_; refine o_val rfl rfl rfl (y_move (v := (.int _ _)) rfl) (o_nil ?_); exact ⟨LE5.mk (v.i + 1) (v.es ++ [(EvR.mk (nxV (nk 0 (evS v.i (mnS (sC ((l, false) : RS)))))) (nxV (nk 1 (evS v.i (mnS (sC ((l, false) : RS)))))) (nxV (nk 2 (evS v.i (mnS (sC ((l, false) : RS)))))) (nxV (nk 3 (evS v.i (mnS (sC ((l, false) : RS)))))))]) A28 c29 E30 e4G, (by first | omega | (dsimp only; omega)), ⟨by dsimp only; omega, by simp only [List.length_append, List.length_singleton]; omega, by dsimp only; rw [List.length_append]; exact ho33, by show v.es ++ [_] = evV v.i (mnS (sC ((l, false) : RS))) ++ [_]; rw [← hvd], e4⟩, ⟨(congrArg (Value.int .i64) (by (try dsimp only); omega)), rfl, rfl, rfl, rfl, rfl, trivial⟩, (by dsimp only; rw [List.length_append]; exact sub_picks [0, 0, 0, 0, 0, 0, 0, 0] rfl)⟩
   ·refine s_exit ?_; refine s_seq ?_; refine s_seq (s_region ?_); have hvm : v.i = mnV (sC ((l, false) : RS)) := by omega
    rw [hvm] at hvd hr3; have hr4 : Rdr V b2 (sD ((l, false) : RS)) v.R := hr3; obtain ⟨rA, rn, rc, hrE, hrn, hrc, hrb, hrh⟩ := hr4; rw [hrE]; refine o_val rfl rfl rfl (y_move (v := (.pointer _)) rfl) ?_; refine o_val rfl rfl rfl (y_nilCheck rfl) ?_; refine o_val rfl rfl rfl (y_field0 Try.runUnderlying281 rfl Try.sizeOf4 rfl rfl) ?_; refine o_splitb rfl rfl rfl (y_load Try.isAgg4 rfl (cel_own 0 rfl rfl)) (fun p34 => ?_) (fun p35 => ?_)
    ·have hbad : stBad ((l, false) : RS) := .inl p34; refine o_val rfl rfl rfl (y_move (v := (.bool _)) rfl) ?_; refine o_guard_no rfl rfl rfl rfl rfl ?_; refine o_guard_no rfl rfl rfl rfl rfl ?_; refine o_guard_no rfl rfl rfl rfl rfl ?_; refine o_guard_no rfl rfl rfl rfl rfl ?_; refine o_guard_no rfl rfl rfl rfl rfl ?_; refine o_guard_no rfl rfl rfl rfl rfl ?_; refine o_val rfl rfl rfl (y_pick_t (v := (.bool _)) rfl rfl) (o_nil ?_); refine s_forget [(2, (.pointer _)), (3, (.int _ _)), (5, (.pointer _)), (113, (.bool _))] ⟨rfl, rfl, rfl, rfl, trivial⟩ (fun _f => ?_); refine s_then rfl ?_; refine s_seq (s_region ?_); refine o_val rfl rfl rfl (y_build (vs := []) rfl (Unflat_k10)) ?_; refine o_stores (vs := [(.int _ _), (.slice _ _ _), (.slice _ _ _), (.slice _ _ _), (.slice _ _ _), (.slice _ _ _), (.slice _ _ _)]) 7 rfl Try.sizeOf75 rfl rfl rfl (by simp [Value.oneCell']) (by simp) ?_; refine o_val rfl rfl rfl (y_assign (v := (.int _ _)) rfl) (o_nil ?_); refine s_ret ?_; exact ⟨_, [], resv2 rfl (RV.cells (cs := [_, _, _, _, _, _, _]) rfl Try.isAgg75 Try.sizeOf75 rfl rfl (cels_own 7 rfl rfl)) (RV.tmp rfl), .inl ⟨hbad, rfl, rfl⟩, sub_picks [] rfl⟩
    ·have hb2 := p35; refine o_val rfl rfl rfl (y_move (v := (.bool _)) rfl) ?_; refine o_guard_yes rfl rfl ?_; refine o_val rfl rfl rfl (y_move (v := (.pointer _)) rfl) ?_; refine o_guard_yes rfl rfl ?_; refine o_val rfl rfl rfl (y_nilCheck rfl) ?_; refine o_guard_yes rfl rfl ?_; refine o_val rfl rfl rfl (y_field0 Try.runUnderlying281 rfl Try.sizeOf22 rfl rfl) ?_; refine o_guard_yes rfl rfl ?_; refine o_val rfl rfl rfl (y_load Try.isAgg22 rfl (cel_own 0 rfl rfl)) ?_; refine o_guard_yes rfl rfl ?_; refine o_val rfl rfl rfl (y_len Try.runUnderlying22 rfl) ?_; refine o_guard_yes rfl rfl ?_; refine o_val rfl rfl rfl (y_gtr rfl rfl) ?_; refine o_val rfl rfl rfl (y_pick_f (v := (.bool _)) rfl rfl) (o_nil ?_); refine s_forget [(2, (.pointer _)), (3, (.int _ _)), (5, (.pointer _)), (113, (.bool _))] ⟨rfl, rfl, rfl, rfl, trivial⟩ (fun _f => ?_); refine s_if rfl (fun h36 => ?_) (fun h37 => ?_)
     ·have hbad : stBad ((l, false) : RS) := .inr (by have := h36; omega); refine s_seq (s_region ?_); refine o_val rfl rfl rfl (y_build (vs := []) rfl (Unflat_k10)) ?_; refine o_stores (vs := [(.int _ _), (.slice _ _ _), (.slice _ _ _), (.slice _ _ _), (.slice _ _ _), (.slice _ _ _), (.slice _ _ _)]) 7 rfl Try.sizeOf75 rfl rfl rfl (by simp [Value.oneCell']) (by simp) ?_; refine o_val rfl rfl rfl (y_assign (v := (.int _ _)) rfl) (o_nil ?_); refine s_ret ?_; exact ⟨_, [], resv2 rfl (RV.cells (cs := [_, _, _, _, _, _, _]) rfl Try.isAgg75 Try.sizeOf75 rfl rfl (cels_own 7 rfl rfl)) (RV.tmp rfl), .inl ⟨hbad, rfl, rfl⟩, sub_picks [] rfl⟩
     ·have hbad : ¬ stBad ((l, false) : RS) := fun hh => hh.elim (fun h => by rw [h] at hb2; cases hb2) (fun h => by omega); refine s_skip ?_; refine s_seq (s_region ?_); refine o_val rfl rfl rfl (y_loads (cs := [_, _, _, _, _, _, _]) Try.isAgg75 Try.sizeOf75 rfl rfl rfl (cels_own 1 rfl rfl)) ?_; refine o_stores (vs := [(.int _ _), (.slice _ _ _), (.slice _ _ _), (.slice _ _ _), (.slice _ _ _), (.slice _ _ _), (.slice _ _ _)]) 7 rfl Try.sizeOf75 rfl rfl rfl (by simp [Value.oneCell']) (by simp) ?_; refine o_val rfl rfl rfl (y_assign (v := (.int _ _)) rfl) (o_nil ?_); refine s_ret ?_; have hall : ∀ (X : Grp), X ∈ [wP, g.E, u.E, u.P, v.E] → MSub (inG X) (inG ([wP, g.E, u.E, u.P, v.E] : List Grp).flatten) := fun X hX => inG_mem hX; exact ⟨_, [([wP, g.E, u.E, u.P, v.E] : List Grp).flatten], resv2 rfl (RV.cells (cs := [_, _, _, _, _, _, _]) rfl Try.isAgg75 Try.sizeOf75 rfl rfl (cels_own 7 rfl rfl)) (RV.tmp rfl), .inr ⟨hbad, ⟨_, w, g.A, g.cs.length, g.c, g.cs, u.A, u.ms.length, u.c, u.ms, v.A, v.es.length, v.c, v.es⟩, _, rfl, ⟨hwo.sub (hall _ (by simp)), ⟨rfl, hco.2.1, by dsimp only; omega, hco.mem.ms (hall _ (by simp))⟩, ⟨rfl, hmo.2.1, by dsimp only; omega, hmo.mem.ms (hall _ (by simp)), fun x hx => (hmx x hx).sub (hall _ (by simp))⟩, ⟨rfl, hvo.2.1, by dsimp only; omega, hvo.mem.ms (hall _ (by simp))⟩⟩, Prod.ext rfl (Prod.ext hwd (Prod.ext hcd (Prod.ext hmd hvd))), rfl⟩, Sub.trans (L' := [wP, g.E, u.E, u.P, v.E]) sub_flat (sub_picks [6, 5, 3, 3, 2] rfl)⟩

end Go.Proofs.Ytacmbiohjiogiaa.K
end
section
set_option linter.unusedVariables false
set_option linter.unusedSimpArgs false
set_option maxRecDepth 100000
namespace Go.Proofs.Ytacmbiohjiogiaa.K
open Go.RowKit

def dK (k : ByteArray × List FR) : List Int := flT k.1 ++ (k.2.length : Int) :: k.2.flatMap flF
def dC (c : Int × List Int) : List Int := c.1 :: (c.2.length : Int) :: c.2
def dI (i : Int × Int × List (Int × List Int)) : List Int := i.1 :: i.2.1 :: (i.2.2.length : Int) :: i.2.2.flatMap dC
def dW (w : List (ByteArray × List FR) × List Int × List (Int × Int × List (Int × List Int))) : List Int := (w.1.length : Int) :: (w.1.flatMap dK ++ (w.2.1.length : Int) :: (w.2.1 ++ (w.2.2.length : Int) :: w.2.2.flatMap dI))
def dM (m : Int × Int × Int × List Int) : List Int := m.1 :: m.2.1 :: m.2.2.1 :: (m.2.2.2.length : Int) :: m.2.2.2
/-- The numbers of a state, told from what it says alone. -/
def dS (s : StD) : List Int := s.1 :: (dW s.2.1 ++ (s.2.2.1.length : Int) :: (s.2.2.1.flatMap flCo ++ (s.2.2.2.1.length : Int) :: (s.2.2.2.1.flatMap dM ++ (s.2.2.2.2.length : Int) :: s.2.2.2.2.flatMap flE)))
theorem flat_d {α β : Type} {f : α → List Int} {g : β → List Int} {d : α → β} : ∀ {xs : List α}, (∀ x ∈ xs, f x = g (d x)) → xs.flatMap f = (xs.map d).flatMap g
 | [], _ => rfl
 | x :: xs, h => by
  simp only [List.flatMap_cons, List.map_cons]; rw [h x List.mem_cons_self, flat_d fun y hy => h y (List.mem_cons_of_mem _ hy)]
theorem flK_d {V : Mem} {k : KR} (h : KOK V k) : flK k = dK k.d := by unfold flK dK KR.d; rw [h.1]
theorem flC_d {V : Mem} {c : CR} (h : COK V c) : flC c = dC c.d := by unfold flC dC CR.d; rw [h.1]
theorem flI_d {V : Mem} {i : IR} (h : IOK V i) : flI i = dI i.d := by
 unfold flI dI IR.d; dsimp only; rw [flat_d (g := dC) (d := CR.d) fun c hc => flC_d (h.2.2.2.2 c hc), List.length_map, h.1]
theorem flW_d {V : Mem} {w : WR} (h : WOK V w) : flW w = dW w.d := by
 obtain ⟨h1, h2, h3⟩ := h; unfold flW dW WR.d; dsimp only; rw [flat_d (g := dK) (d := KR.d) fun c hc => flK_d (h1.2.2.2.2 c hc), flat_d (g := dI) (d := IR.d) fun c hc => flI_d (h3.2.2.2.2 c hc), List.length_map, List.length_map, h1.1, h2.1, h3.1]
theorem flM_d {V : Mem} {m : MiR} (h : MOK V m) : flM m = dM m.d := by unfold flM dM MiR.d; rw [h.1]
theorem flS_d {V : Mem} {s : StR} (h : StOK V s) : flS s = dS s.d := by
 obtain ⟨h1, h2, h3, h4⟩ := h; unfold flS dS StR.d; dsimp only; rw [flW_d h1, flat_d (g := dM) (d := MiR.d) fun c hc => flM_d (h3.2.2.2.2 c hc), List.length_map, h2.1, h3.1, h4.1]
theorem rd_nx {a : Int} {t : List Int} {b : Bool} : nxS (a :: t, b) = (t, b) ∧ nxV (a :: t, b) = a := ⟨by simp [nxS], rfl⟩
theorem rd_mn {n : Nat} {t : List Int} {b : Bool} (h : n ≤ t.length) : mnS ((n : Int) :: t, b) = (t, b) ∧ mnV ((n : Int) :: t, b) = n := by
 have hp : ¬ mnP ((n : Int) :: t, b) := by unfold mnP nxV; simp only [List.headD_cons, List.tail_cons]; omega
 refine ⟨?_, ?_⟩
 ·unfold mnS; rw [if_neg hp]; simp
 ·unfold mnV; rw [if_neg hp]; simp [nxV]
theorem rd_li {xs t : List Int} {b : Bool} : liS ((xs.length : Int) :: (xs ++ t), b) = (t, b) ∧ liV ((xs.length : Int) :: (xs ++ t), b) = xs := by
 have h := rd_mn (n := xs.length) (t := xs ++ t) (b := b) (by simp); unfold liS liV; rw [h.1, h.2]; simp
theorem any_bad {s : ByteArray} : (bts s).any badB = false := by
 rw [List.any_eq_false]; intro x hx; have := bts_bd x hx; unfold badB; rw [decide_eq_false (by omega), decide_eq_false (by omega)]; simp
theorem rd_tx {s : ByteArray} {t : List Int} {b : Bool} : txS (flT s ++ t, b) = (t, b) ∧ txV (flT s ++ t, b) = s := by
 have e : (flT s ++ t, b) = ((((bts s).length : Nat) : Int) :: (bts s ++ t), b) := by unfold flT; rw [bts_len]; rfl
 rw [e]; have h := rd_li (xs := bts s) (t := t) (b := b); unfold txS txV; rw [h.1, h.2, any_bad]; refine ⟨by simp, ?_⟩; have : (bts s).map IntKind.u8.wrap = bts s := by
  conv => rhs; rw [← List.map_id (bts s)]
  apply List.map_congr_left
  intro x hx; have := bts_bd x hx; exact wrap_in (by simp only [inK]; omega)
 rw [this, mkB_bts]
theorem rd_all {β : Type} {f : β → List Int} {st : RS → RS} {val : RS → β} {S : Nat → RS → RS} {W : Nat → RS → List β} (h0 : ∀ s, S 0 s = s) (h1 : ∀ s, W 0 s = []) (h2 : ∀ i s, S (i + 1) s = st (S i s)) (h3 : ∀ i s, W (i + 1) s = W i s ++ [val (S i s)])
  {xs : List β} (hx : ∀ x ∈ xs, ∀ t b, st (f x ++ t, b) = (t, b) ∧ val (f x ++ t, b) = x) (t : List Int) (b : Bool) : S xs.length (xs.flatMap f ++ t, b) = (t, b) ∧ W xs.length (xs.flatMap f ++ t, b) = xs := by
 have key : ∀ i, i ≤ xs.length → S i (xs.flatMap f ++ t, b) = ((xs.drop i).flatMap f ++ t, b) ∧ W i (xs.flatMap f ++ t, b) = xs.take i := by
  intro i
  induction i with
  | zero => intro _; exact ⟨by rw [h0]; rfl, by rw [h1]; rfl⟩
  | succ i ih =>
   intro hi; obtain ⟨a1, a2⟩ := ih (by omega); have hd : xs.drop i = xs[i] :: xs.drop (i + 1) := List.drop_eq_getElem_cons (by omega); have hx1 := hx xs[i] (List.getElem_mem _) ((xs.drop (i + 1)).flatMap f ++ t) b; rw [h2, h3, a1, a2, hd, List.flatMap_cons, List.append_assoc]; refine ⟨hx1.1, ?_⟩; rw [hx1.2, List.take_succ_eq_append_getElem]
 have := key xs.length (Nat.le_refl _); rw [List.drop_length, List.take_length] at this; exact this
theorem flat_ge {β : Type} {f : β → List Int} : ∀ {xs : List β}, (∀ x, 1 ≤ (f x).length) → xs.length ≤ (xs.flatMap f).length
 | [], _ => Nat.le_refl _
 | x :: xs, h => by
  have h1 := h x; have h2 := flat_ge (xs := xs) h; simp only [List.flatMap_cons, List.length_append, List.length_cons]; omega
theorem rd_fld (fs : List FR) (t : List Int) (b : Bool) : fldS fs.length (fs.flatMap flF ++ t, b) = (t, b) ∧ fldV fs.length (fs.flatMap flF ++ t, b) = fs :=
 rd_all (f := flF) (st := fun s => nxS (nxS (txS s))) (val := fun s => ⟨txV s, nxV (txS s), nxV (nxS (txS s))⟩) (S := fldS) (W := fldV) (fun _ => rfl) (fun _ => rfl) (fun _ _ => rfl) (fun _ _ => rfl) (fun x _ t b => by
  unfold flF; rw [List.append_assoc, (rd_tx (s := x.name)).1, (rd_tx (s := x.name)).2]; refine ⟨?_, ?_⟩
  ·show nxS (nxS (x.bits :: x.low :: t, b)) = _
   rw [rd_nx.1, rd_nx.1]
  ·show (⟨_, nxV (x.bits :: x.low :: t, b), nxV (nxS (x.bits :: x.low :: t, b))⟩ : FR) = x
   rw [rd_nx.1]; rfl) t b
theorem rd_kd (ks : List (ByteArray × List FR)) (t : List Int) (b : Bool) : kdS ks.length (ks.flatMap dK ++ t, b) = (t, b) ∧ kdV ks.length (ks.flatMap dK ++ t, b) = ks :=
 rd_all (f := dK) (st := fun s => fldS (mnV (txS s)) (mnS (txS s))) (val := fun s => (txV s, fldV (mnV (txS s)) (mnS (txS s)))) (S := kdS) (W := kdV) (fun _ => rfl) (fun _ => rfl) (fun _ _ => rfl) (fun _ _ => rfl) (fun x _ t b => by
  unfold dK; rw [List.append_assoc, (rd_tx (s := x.1)).1, (rd_tx (s := x.1)).2, List.cons_append]; have hm := rd_mn (n := x.2.length) (t := x.2.flatMap flF ++ t) (b := b) (by have := flat_ge (f := flF) (xs := x.2) (fun f => by rw [flF_len]; omega); rw [List.length_append]; omega); rw [hm.1, hm.2, (rd_fld _ _ _).1, (rd_fld _ _ _).2]; exact ⟨rfl, rfl⟩) t b
theorem rd_cp (cs : List (Int × List Int)) (t : List Int) (b : Bool) : cpS cs.length (cs.flatMap dC ++ t, b) = (t, b) ∧ cpV cs.length (cs.flatMap dC ++ t, b) = cs :=
 rd_all (f := dC) (st := fun s => liS (nxS s)) (val := fun s => (nxV s, liV (nxS s))) (S := cpS) (W := cpV) (fun _ => rfl) (fun _ => rfl) (fun _ _ => rfl) (fun _ _ => rfl) (fun x _ t b => by
  unfold dC; rw [List.cons_append, List.cons_append, rd_nx.1, rd_nx.2, rd_li.1, rd_li.2]; exact ⟨rfl, rfl⟩) t b
theorem rd_it (is : List (Int × Int × List (Int × List Int))) (t : List Int) (b : Bool) : itS is.length (is.flatMap dI ++ t, b) = (t, b) ∧ itV is.length (is.flatMap dI ++ t, b) = is :=
 rd_all (f := dI) (st := fun s => cpS (mnV (nxS (nxS s))) (mnS (nxS (nxS s)))) (val := fun s => (nxV s, nxV (nxS s), cpV (mnV (nxS (nxS s))) (mnS (nxS (nxS s))))) (S := itS) (W := itV) (fun _ => rfl) (fun _ => rfl) (fun _ _ => rfl) (fun _ _ => rfl) (fun x _ t b => by
  unfold dI; rw [List.cons_append, List.cons_append, List.cons_append]; have hm := rd_mn (n := x.2.2.length) (t := x.2.2.flatMap dC ++ t) (b := b) (by have := flat_ge (f := dC) (xs := x.2.2) (fun f => by unfold dC; simp); rw [List.length_append]; omega); rw [rd_nx.1, rd_nx.1, rd_nx.2, rd_nx.2, hm.1, hm.2, (rd_cp _ _ _).1, (rd_cp _ _ _).2]; exact ⟨rfl, rfl⟩) t b
theorem rd_wd (w : List (ByteArray × List FR) × List Int × List (Int × Int × List (Int × List Int))) (t : List Int) (b : Bool) : wdS (dW w ++ t, b) = (t, b) ∧ wdV (dW w ++ t, b) = w := by
 have e : dW w ++ t = (w.1.length : Int) :: (w.1.flatMap dK ++ ((w.2.1.length : Int) :: (w.2.1 ++ ((w.2.2.length : Int) :: (w.2.2.flatMap dI ++ t))))) := by
  unfold dW; simp only [List.cons_append, List.append_assoc]
 rw [e]; have hm := rd_mn (n := w.1.length) (t := w.1.flatMap dK ++ ((w.2.1.length : Int) :: (w.2.1 ++ ((w.2.2.length : Int) :: (w.2.2.flatMap dI ++ t))))) (b := b) (by have := flat_ge (f := dK) (xs := w.1) (fun f => by unfold dK; rw [List.length_append, flT_len]; omega); rw [List.length_append]; omega); have hn := rd_mn (n := w.2.2.length) (t := w.2.2.flatMap dI ++ t) (b := b) (by have := flat_ge (f := dI) (xs := w.2.2) (fun f => by unfold dI; simp); rw [List.length_append]; omega); unfold wdS wdV wdA; rw [hm.1, hm.2, (rd_kd _ _ _).1, (rd_kd _ _ _).2, rd_li.1, rd_li.2, hn.1, hn.2, (rd_it _ _ _).1, (rd_it _ _ _).2]; exact ⟨rfl, rfl⟩
theorem rd_co (cs : List CoR) (t : List Int) (b : Bool) : coS cs.length (cs.flatMap flCo ++ t, b) = (t, b) ∧ coV cs.length (cs.flatMap flCo ++ t, b) = cs :=
 rd_all (f := flCo) (st := nk 10) (val := fun s => ⟨nxV (nk 0 s), nxV (nk 1 s), nxV (nk 2 s), nxV (nk 3 s), nxV (nk 4 s), nxV (nk 5 s), nxV (nk 6 s), nxV (nk 7 s), nxV (nk 8 s), nxV (nk 9 s)⟩) (S := coS) (W := coV) (fun _ => rfl) (fun _ => rfl) (fun _ _ => rfl) (fun _ _ => rfl) (fun x _ t b => by
  unfold flCo; simp only [List.cons_append, List.nil_append, nk, rd_nx.1, rd_nx.2]; exact ⟨trivial, trivial⟩) t b
theorem rd_mi (ms : List (Int × Int × Int × List Int)) (t : List Int) (b : Bool) : miS ms.length (ms.flatMap dM ++ t, b) = (t, b) ∧ miV ms.length (ms.flatMap dM ++ t, b) = ms :=
 rd_all (f := dM) (st := fun s => liS (nk 3 s)) (val := fun s => (nxV (nk 0 s), nxV (nk 1 s), nxV (nk 2 s), liV (nk 3 s))) (S := miS) (W := miV) (fun _ => rfl) (fun _ => rfl) (fun _ _ => rfl) (fun _ _ => rfl) (fun x _ t b => by
  unfold dM; simp only [List.cons_append, List.nil_append, nk, rd_nx.1, rd_nx.2, rd_li.1, rd_li.2]; exact ⟨trivial, trivial⟩) t b
theorem rd_ev (es : List EvR) (t : List Int) (b : Bool) : evS es.length (es.flatMap flE ++ t, b) = (t, b) ∧ evV es.length (es.flatMap flE ++ t, b) = es :=
 rd_all (f := flE) (st := nk 4) (val := fun s => ⟨nxV (nk 0 s), nxV (nk 1 s), nxV (nk 2 s), nxV (nk 3 s)⟩) (S := evS) (W := evV) (fun _ => rfl) (fun _ => rfl) (fun _ _ => rfl) (fun _ _ => rfl) (fun x _ t b => by
  unfold flE; simp only [List.cons_append, List.nil_append, nk, rd_nx.1, rd_nx.2]; exact ⟨trivial, trivial⟩) t b
/-- What Flat wrote, Unflat reads. -/
theorem st_back (s : StD) : ¬ stBad (dS s, false) ∧ stV (dS s, false) = s := by
 have hc := rd_mn (n := s.2.2.1.length) (t := s.2.2.1.flatMap flCo ++ ((s.2.2.2.1.length : Int) :: (s.2.2.2.1.flatMap dM ++ (s.2.2.2.2.length : Int) :: s.2.2.2.2.flatMap flE))) (b := false) (by have := flat_ge (f := flCo) (xs := s.2.2.1) (fun f => by unfold flCo; simp); rw [List.length_append]; omega); have hm := rd_mn (n := s.2.2.2.1.length) (t := s.2.2.2.1.flatMap dM ++ (s.2.2.2.2.length : Int) :: s.2.2.2.2.flatMap flE) (b := false) (by have := flat_ge (f := dM) (xs := s.2.2.2.1) (fun f => by unfold dM; simp); rw [List.length_append]; omega); have he := rd_mn (n := s.2.2.2.2.length) (t := s.2.2.2.2.flatMap flE ++ []) (b := false) (by have := flat_ge (f := flE) (xs := s.2.2.2.2) (fun f => by unfold flE; simp); rw [List.length_append]; omega); rw [List.append_nil] at he; have ee := rd_ev s.2.2.2.2 [] false; rw [List.append_nil] at ee; have e0 : nxS (dS s, false) = (dW s.2.1 ++ ((s.2.2.1.length : Int) :: (s.2.2.1.flatMap flCo ++ ((s.2.2.2.1.length : Int) :: (s.2.2.2.1.flatMap dM ++ (s.2.2.2.2.length : Int) :: s.2.2.2.2.flatMap flE)))), false) := by unfold dS; exact rd_nx.1
 have e1 : sA (dS s, false) = ((s.2.2.1.length : Int) :: (s.2.2.1.flatMap flCo ++ ((s.2.2.2.1.length : Int) :: (s.2.2.2.1.flatMap dM ++ (s.2.2.2.2.length : Int) :: s.2.2.2.2.flatMap flE))), false) := by unfold sA; rw [e0, (rd_wd _ _ _).1]
 have e2 : sB (dS s, false) = ((s.2.2.2.1.length : Int) :: (s.2.2.2.1.flatMap dM ++ (s.2.2.2.2.length : Int) :: s.2.2.2.2.flatMap flE), false) := by unfold sB; rw [e1, hc.1, hc.2, (rd_co _ _ _).1]
 have e3 : sC (dS s, false) = ((s.2.2.2.2.length : Int) :: s.2.2.2.2.flatMap flE, false) := by unfold sC; rw [e2, hm.1, hm.2, (rd_mi _ _ _).1]
 have e4 : sD (dS s, false) = ([], false) := by unfold sD; rw [e3, he.1, he.2, ee.1]
 refine ⟨?_, ?_⟩
 ·unfold stBad; rw [e4]; simp
 ·unfold stV; rw [e3, e2, e1, e0, he.1, he.2, ee.2, hm.1, hm.2, (rd_mi _ _ _).2, hc.1, hc.2, (rd_co _ _ _).2, (rd_wd _ _ _).2]
  rfl

end Go.Proofs.Ytacmbiohjiogiaa.K
end
section
namespace Go.Proofs.Ytacmbiohjiogiaa.K
open Go.RowKit

theorem ofInt_toNat (w : Nat) (a : Int) (h0 : 0 ≤ a) (h1 : a.toNat < 2 ^ w) : (BitVec.ofInt w a).toNat = a.toNat := by
 obtain ⟨n, rfl⟩ := Int.eq_ofNat_of_zero_le h0; simp at h1 ⊢; exact Nat.mod_eq_of_lt h1
theorem bOr_u8 {a b : Int} (ha : 0 ≤ a ∧ a ≤ 255) (hb : 0 ≤ b ∧ b ≤ 255) : bOr .u8 a b = ((a.toNat ||| b.toNat : Nat) : Int) := by
 unfold bOr; have h1 := ofInt_toNat 8 a ha.1 (by omega); have h2 := ofInt_toNat 8 b hb.1 (by omega); have h3 : a.toNat ||| b.toNat < 2 ^ 8 := Nat.or_lt_two_pow (by omega) (by omega); rw [show IntKind.u8.bits = 8 from rfl, BitVec.toNat_or, h1, h2]; exact wrap_in ⟨by omega, by omega⟩
theorem bAnd_one {k : IntKind} {a : Int} (hk : k = .u64) (ha : 0 ≤ a ∧ a ≤ 18446744073709551615) : bAnd k a 1 = a % 2 := by
 subst hk; unfold bAnd; have h1 := ofInt_toNat 64 a ha.1 (by omega); have h2 := ofInt_toNat 64 1 (by omega) (by omega); rw [show IntKind.u64.bits = 64 from rfl, BitVec.toNat_and, h1, h2, show (1 : Int).toNat = 1 from rfl, Nat.and_one_is_mod]; rw [wrap_in (k := .u64) (by simp only [inK]; omega)]; omega

/-- The bytes 'bs' hold the bits. -/
def Wr (bs : List Int) (bits : List Bool) : Prop :=
 bs.length = (bits.length + 7) / 8 ∧ (∀ b ∈ bs, 0 ≤ b ∧ b ≤ 255) ∧ ∀ j t, j < bs.length → t < 8 → (bs.getD j 0).toNat.testBit t = bits.getD (8 * j + t) false
theorem Wr.nil : Wr [] [] := ⟨rfl, by simp, by simp⟩
theorem getD_mem {α : Type} {l : List α} {j : Nat} {d : α} (h : j < l.length) : l.getD j d ∈ l := by
 rw [List.getD_eq_getElem?_getD, List.getElem?_eq_getElem h]; simp
theorem Wr.bd {bs : List Int} {bits : List Bool} (h : Wr bs bits) (j : Nat) : 0 ≤ bs.getD j 0 ∧ bs.getD j 0 ≤ 255 := by
 by_cases hj : j < bs.length
 ·exact h.2.1 _ (getD_mem hj)
 ·rw [List.getD_eq_getElem?_getD, List.getElem?_eq_none (by omega)]; simp
theorem byte_ext {a b : Int} (ha : 0 ≤ a ∧ a ≤ 255) (hb : 0 ≤ b ∧ b ≤ 255) (h : ∀ t, t < 8 → a.toNat.testBit t = b.toNat.testBit t) : a = b := by
 have : a.toNat = b.toNat := by
  apply Nat.eq_of_testBit_eq
  intro t
  by_cases ht : t < 8
  ·exact h t ht
  ·rw [Nat.testBit_lt_two_pow (Nat.lt_of_lt_of_le (show a.toNat < 2 ^ 8 by omega) (Nat.pow_le_pow_right (by omega) (by omega))), Nat.testBit_lt_two_pow (Nat.lt_of_lt_of_le (show b.toNat < 2 ^ 8 by omega) (Nat.pow_le_pow_right (by omega) (by omega)))]
 omega
theorem Wr.unique {bs cs : List Int} {bits : List Bool} (h : Wr bs bits) (h' : Wr cs bits) : bs = cs := by
 apply List.ext_getElem (by rw [h.1, h'.1])
 intro j h1 h2; have e1 : bs.getD j 0 = bs[j] := by simp [h1]
 have e2 : cs.getD j 0 = cs[j] := by simp [h2]
 rw [← e1, ← e2]; exact byte_ext (h.bd j) (h'.bd j) fun t ht => by rw [h.2.2 j t h1 ht, h'.2.2 j t h2 ht]

/-- The slot for the next bit is there. -/
def room (bs : List Int) (n : Nat) : List Int := if n % 8 = 0 then bs ++ [0] else bs
theorem Wr.roomLen {bs : List Int} {bits : List Bool} (h : Wr bs bits) : (room bs bits.length).length = bits.length / 8 + 1 := by
 unfold room; have := h.1
 split
 ·simp; omega
 ·omega
theorem Wr.roomBd {bs : List Int} {bits : List Bool} (h : Wr bs bits) : ∀ b ∈ room bs bits.length, 0 ≤ b ∧ b ≤ 255 := by
 unfold room
 split
 ·intro b hb; rcases List.mem_append.1 hb with hb | hb
  ·exact h.2.1 b hb
  ·simp at hb; subst hb; omega
 ·exact h.2.1
theorem Wr.roomBit {bs : List Int} {bits : List Bool} (h : Wr bs bits) {j t : Nat} (hj : j < bits.length / 8 + 1) (ht : t < 8) : ((room bs bits.length).getD j 0).toNat.testBit t = bits.getD (8 * j + t) false := by
 have hl := h.1; unfold room
 split
 ·rename_i hm
  by_cases hjl : j < bs.length
  ·have : (bs ++ [0]).getD j 0 = bs.getD j 0 := by simp [List.getD_eq_getElem?_getD, List.getElem?_append_left hjl]
   rw [this]; exact h.2.2 j t hjl ht
  ·have hjl' : j = bs.length := by omega
   subst hjl'; have : (bs ++ [0]).getD bs.length 0 = (0 : Int) := by simp
   rw [this, List.getD_eq_getElem?_getD, List.getElem?_eq_none (by omega)]; simp
 ·exact h.2.2 j t (by omega) ht
theorem pow_bit (t u : Nat) : (2 ^ t).testBit u = decide (t = u) := by rw [Nat.testBit_two_pow]
theorem pow_le_255 {t : Nat} (h : t < 8) : 2 ^ t ≤ 128 := by
 have := Nat.pow_le_pow_right (show 0 < 2 by omega) (show t ≤ 7 by omega); omega
theorem Wr.step {bs : List Int} {bits : List Bool} (h : Wr bs bits) (b : Bool) {x : Int} (hx : x = if b then ((2 ^ (bits.length % 8) : Nat) : Int) else 0) :
  Wr ((room bs bits.length).set (bits.length / 8) (bOr .u8 ((room bs bits.length).getD (bits.length / 8) 0) x)) (bits ++ [b]) := by
 have hrl := h.roomLen; have ht8 : bits.length % 8 < 8 := Nat.mod_lt _ (by omega); have hp := pow_le_255 ht8; have hxb : 0 ≤ x ∧ x ≤ 255 := by
  subst hx
  generalize 2 ^ (bits.length % 8) = p at hp
  split <;> omega
 have hob : 0 ≤ (room bs bits.length).getD (bits.length / 8) 0 ∧ (room bs bits.length).getD (bits.length / 8) 0 ≤ 255 := h.roomBd _ (getD_mem (by omega)); refine ⟨by simp [hrl]; omega, ?_, ?_⟩
 ·intro c hc; rcases List.mem_or_eq_of_mem_set hc with hc | rfl
  ·exact h.roomBd c hc
  ·rw [bOr_u8 hob hxb]; have : ((room bs bits.length).getD (bits.length / 8) 0).toNat ||| x.toNat < 2 ^ 8 := Nat.or_lt_two_pow (by omega) (by omega); omega
 ·intro j t hj ht; rw [List.length_set, hrl] at hj; have hr := h.roomBit hj ht
  by_cases hjn : j = bits.length / 8
  ·subst hjn; have e1 : ((room bs bits.length).set (bits.length / 8) (bOr .u8 ((room bs bits.length).getD (bits.length / 8) 0) x)).getD (bits.length / 8) 0 = bOr .u8 ((room bs bits.length).getD (bits.length / 8) 0) x := by
    simp [List.getD_eq_getElem?_getD, hrl]
   rw [e1, bOr_u8 hob hxb, Int.toNat_natCast, Nat.testBit_or, hr]; have hxt : x.toNat.testBit t = (b && decide (bits.length % 8 = t)) := by
    subst hx
    cases b
    ·simp
    ·simp only [if_true, Int.toNat_natCast, pow_bit, Bool.true_and]
   rw [hxt]
   by_cases htt : bits.length % 8 = t
   ·have hidx : 8 * (bits.length / 8) + t = bits.length := by omega
    rw [hidx]; simp [htt]
   ·have hne : 8 * (bits.length / 8) + t ≠ bits.length := by omega
    simp only [htt, decide_false, Bool.and_false, Bool.or_false]; simp only [List.getD_eq_getElem?_getD, List.getElem?_append]
    split
    ·rfl
    ·rename_i hh
     rw [List.getElem?_eq_none (by omega), List.getElem?_eq_none (by simp; omega)]
  ·have e1 : ((room bs bits.length).set (bits.length / 8) (bOr .u8 ((room bs bits.length).getD (bits.length / 8) 0) x)).getD j 0 = (room bs bits.length).getD j 0 := by
    simp [List.getD_eq_getElem?_getD, Ne.symm hjn]
   rw [e1, hr]; simp only [List.getD_eq_getElem?_getD, List.getElem?_append]; rw [if_pos (by omega)]

/-- The n lowest bits of a number, the lowest first. -/
def bitsOf (v : Int) (n : Nat) : List Bool := (List.range n).map fun i => v.toNat.testBit i
theorem bitsOf_zero (v : Int) : bitsOf v 0 = [] := rfl
theorem bitsOf_succ (v : Int) (n : Nat) : bitsOf v (n + 1) = bitsOf v n ++ [v.toNat.testBit n] := by simp [bitsOf, List.range_succ]
theorem bitsOf_len (v : Int) (n : Nat) : (bitsOf v n).length = n := by simp [bitsOf]
/-- A number's bit as the code takes it: shifted down, masked, made a byte, shifted up. -/
theorem bit_byte {v : Int} (hv : 0 ≤ v ∧ v ≤ 18446744073709551615) {i t : Nat} (hi : i < 64) (ht : t < 8) :
  IntKind.u8.wrap (IntKind.u8.wrap (bAnd .u64 (v.fdiv (2 ^ (min i 64))) 1) * 2 ^ (min t 8)) = if v.toNat.testBit i then ((2 ^ t : Nat) : Int) else 0 := by
 obtain ⟨n, rfl⟩ := Int.eq_ofNat_of_zero_le hv.1; rw [show min i 64 = i by omega, show min t 8 = t by omega]; have h1 : (n : Int).fdiv (2 ^ i) = ((n / 2 ^ i : Nat) : Int) := by
  rw [Int.fdiv_eq_ediv_of_nonneg _ (Int.le_of_lt (Int.pow_pos (by omega)))]; simp
 rw [h1]; have h2 : n / 2 ^ i ≤ n := Nat.div_le_self _ _; rw [bAnd_one rfl ⟨Int.natCast_nonneg _, Int.le_trans (Int.ofNat_le.2 h2) hv.2⟩]; have h3 : ((n / 2 ^ i : Nat) : Int) % 2 = if n.testBit i then 1 else 0 := by
  rw [Nat.testBit_eq_decide_div_mod_eq]
  by_cases hh : n / 2 ^ i % 2 = 1
  ·rw [if_pos (by simpa using hh)]; omega
  ·rw [if_neg (by simpa using hh)]; omega
 rw [h3, Int.toNat_natCast]; have hp := pow_le_255 ht
 split
 ·rw [wrap_in (k := .u8) (n := 1) (by simp only [inK]; omega), Int.one_mul, wrap_in (k := .u8)]
  ·simp
  ·have : (2 : Int) ^ t = ((2 ^ t : Nat) : Int) := by simp
   rw [this]; simp only [inK]; generalize 2 ^ t = p at hp; omega
 ·rw [wrap_in (k := .u8) (n := 0) (by simp only [inK]; omega), Int.zero_mul]; rfl
end Go.Proofs.Ytacmbiohjiogiaa.K
end
section
namespace Go.Proofs.Ytacmbiohjiogiaa.K
open Go.RowKit

def bitAt (bs : List Int) (p : Nat) : Bool := (bs.getD (p / 8) 0).toNat.testBit (p % 8)
/-- The number of so many bits from a place on. -/
def num (bs : List Int) (p : Nat) : Nat → Nat
 | 0 => 0
 | k + 1 => num bs p k + (if bitAt bs (p + k) then 2 ^ k else 0)
theorem num_lt (bs : List Int) (p : Nat) : ∀ k, num bs p k < 2 ^ k
 | 0 => by simp [num]
 | k + 1 => by
  have := num_lt bs p k; simp only [num, Nat.pow_succ]
  split <;> omega
theorem num_succ_or (bs : List Int) (p k : Nat) : num bs p (k + 1) = num bs p k ||| (if bitAt bs (p + k) then 2 ^ k else 0) := by
 have h := num_lt bs p k; simp only [num]
 split
 ·have := Nat.two_pow_add_eq_or_of_lt h 1; rw [Nat.mul_one] at this; rw [Nat.add_comm, this, Nat.or_comm]
 ·simp
theorem num_testBit (bs : List Int) (p : Nat) : ∀ k i, (num bs p k).testBit i = (decide (i < k) && bitAt bs (p + i))
 | 0, i => by simp [num]
 | k + 1, i => by
  rw [num_succ_or, Nat.testBit_or, num_testBit bs p k i]
  by_cases h1 : i < k
  ·have : (if bitAt bs (p + k) then 2 ^ k else 0).testBit i = false := by
    split
    ·rw [Nat.testBit_two_pow]; simp; omega
    ·simp
   rw [this]; simp [h1, show i < k + 1 by omega]
  ·by_cases h2 : i = k
   ·subst h2
    by_cases h3 : bitAt bs (p + i) = true
    ·simp [h3, Nat.testBit_two_pow]
    ·simp at h3; simp [h3]
   ·have : (if bitAt bs (p + k) then 2 ^ k else 0).testBit i = false := by
     split
     ·rw [Nat.testBit_two_pow]; simp; omega
     ·simp
    rw [this]; simp [h1, show ¬ i < k + 1 by omega]
/-- The number whose bits these are. -/
theorem num_of {bs : List Int} {p k : Nat} {v : Int} (hv : 0 ≤ v ∧ v < 2 ^ k) (h : ∀ i, i < k → bitAt bs (p + i) = v.toNat.testBit i) : (num bs p k : Int) = v := by
 obtain ⟨n, rfl⟩ := Int.eq_ofNat_of_zero_le hv.1
 congr 1
 apply Nat.eq_of_testBit_eq
 intro i; rw [num_testBit]
 by_cases hi : i < k
 ·rw [h i hi]; simp [hi]
 ·have : n < 2 ^ k := by have := hv.2; exact_mod_cast this
  rw [Nat.testBit_lt_two_pow (Nat.lt_of_lt_of_le this (Nat.pow_le_pow_right (by omega) (by omega)))]; simp [hi]
theorem u8_bit {b : Int} (hb : 0 ≤ b ∧ b ≤ 255) {r : Nat} (hr : r < 8) : bAnd .u8 (b.fdiv (2 ^ (min r 8))) 1 = if b.toNat.testBit r then 1 else 0 := by
 obtain ⟨n, rfl⟩ := Int.eq_ofNat_of_zero_le hb.1; rw [show min r 8 = r by omega]; have h1 : (n : Int).fdiv (2 ^ r) = ((n / 2 ^ r : Nat) : Int) := by
  rw [Int.fdiv_eq_ediv_of_nonneg _ (Int.le_of_lt (Int.pow_pos (by omega)))]; simp
 have h2 : n / 2 ^ r ≤ n := Nat.div_le_self _ _; rw [h1, Int.toNat_natCast, Nat.testBit_eq_decide_div_mod_eq]
 generalize n / 2 ^ r = m at h2
 have h3 := ofInt_toNat 8 (m : Int) (by omega) (by omega); have h4 := ofInt_toNat 8 1 (by omega) (by omega); unfold bAnd; rw [show IntKind.u8.bits = 8 from rfl, BitVec.toNat_and, h3, h4, show (1 : Int).toNat = 1 from rfl, Nat.and_one_is_mod, Int.toNat_natCast]; rw [wrap_in (k := .u8) (by simp only [inK]; omega)]
 by_cases hh : m % 2 = 1
 ·simp [hh]
 ·simp [hh, show m % 2 = 0 by omega]
theorem bytes_bd {bs : List Int} (hb : ∀ b ∈ bs, 0 ≤ b ∧ b ≤ 255) (j : Nat) : 0 ≤ bs.getD j 0 ∧ bs.getD j 0 ≤ 255 := by
 by_cases hj : j < bs.length
 ·exact hb _ (getD_mem hj)
 ·rw [List.getD_eq_getElem?_getD, List.getElem?_eq_none (by omega)]; simp
theorem bit_q {bs : List Int} (hb : ∀ b ∈ bs, 0 ≤ b ∧ b ≤ 255) (q : Nat) : bAnd .u8 ((bs.getD ((q : Int) / 8).toNat 0).fdiv (2 ^ (min (((q : Int) % 8).toNat) 8))) 1 = if bitAt bs q then 1 else 0 := by
 rw [show ((q : Int) / 8).toNat = q / 8 by omega, show ((q : Int) % 8).toNat = q % 8 by omega, u8_bit (bytes_bd hb _) (Nat.mod_lt _ (by omega))]
 rfl
theorem bit_q_bd {bs : List Int} (hb : ∀ b ∈ bs, 0 ≤ b ∧ b ≤ 255) (q : Nat) : 0 ≤ bAnd .u8 ((bs.getD ((q : Int) / 8).toNat 0).fdiv (2 ^ (min (((q : Int) % 8).toNat) 8))) 1 ∧ bAnd .u8 ((bs.getD ((q : Int) / 8).toNat 0).fdiv (2 ^ (min (((q : Int) % 8).toNat) 8))) 1 ≤ 1 := by
 rw [bit_q hb]; split <;> omega
theorem bit_q_in {bs : List Int} (hb : ∀ b ∈ bs, 0 ≤ b ∧ b ≤ 255) (q : Nat) : inK .u64 (bAnd .u8 ((bs.getD ((q : Int) / 8).toNat 0).fdiv (2 ^ (min (((q : Int) % 8).toNat) 8))) 1) := by
 have := bit_q_bd hb q; simp only [inK]; omega
theorem bOr_u64 {a b : Int} (ha : 0 ≤ a ∧ a < 18446744073709551616) (hb : 0 ≤ b ∧ b < 18446744073709551616) : bOr .u64 a b = ((a.toNat ||| b.toNat : Nat) : Int) := by
 unfold bOr; have h1 := ofInt_toNat 64 a ha.1 (by omega); have h2 := ofInt_toNat 64 b hb.1 (by omega); have h3 : a.toNat ||| b.toNat < 2 ^ 64 := Nat.or_lt_two_pow (by omega) (by omega); rw [show IntKind.u64.bits = 64 from rfl, BitVec.toNat_or, h1, h2]; exact wrap_in (by simp only [inK]; omega)
theorem pow_bdB {k n : Nat} (h : k < n) : 2 ^ k * 2 ≤ 2 ^ n := by
 have := Nat.pow_le_pow_right (show 0 < 2 by omega) (show k + 1 ≤ n by omega)
 rwa [Nat.pow_succ] at this
theorem bit_shl {k : IntKind} {b : Bool} {i n : Nat} (hi : i < n) (hn : n ≤ 64) (h : inK k ((2 ^ i : Nat) : Int)) (h0 : inK k 0) : k.wrap ((if b then 1 else 0) * 2 ^ (min ((i : Int).toNat) 64)) = ((if b then 2 ^ i else 0 : Nat) : Int) := by
 rw [show min (i : Int).toNat 64 = i by omega]
 cases b
 ·simp only [Bool.false_eq_true, if_false, Int.zero_mul]; exact wrap_in h0
 ·simp only [if_true, Int.one_mul]; rw [show (2 : Int) ^ i = ((2 ^ i : Nat) : Int) by simp]; exact wrap_in h
theorem get_step {bs : List Int} (hb : ∀ b ∈ bs, 0 ≤ b ∧ b ≤ 255) {p i : Nat} (hi : i < 64) :
  bOr .u64 (num bs p i : Nat) (IntKind.u64.wrap (bAnd .u8 ((bs.getD (((p + i : Nat) : Int) / 8).toNat 0).fdiv (2 ^ (min ((((p + i : Nat) : Int) % 8).toNat) 8))) 1 * 2 ^ (min ((i : Int).toNat) 64))) = (num bs p (i + 1) : Nat) := by
 have hp := pow_bdB hi; have hl := num_lt bs p i; rw [bit_q hb, bit_shl hi (Nat.le_refl _) (by simp only [inK]; generalize 2 ^ i = z at hp; omega) (by simp only [inK]; omega)]; rw [bOr_u64 ⟨by omega, by generalize 2 ^ i = z at *; omega⟩ ⟨by split <;> omega, by generalize 2 ^ i = z at *; split <;> omega⟩, Int.toNat_natCast, Int.toNat_natCast, num_succ_or]
/-! What a reader of so many bits answers: the number, the fault, the place behind. -/
def gv (bs : List Int) (N p m : Nat) : Int := if N < p + m then 0 else num bs p m
def ge (N p m : Nat) : Int := if N < p + m then 14 else 0
def gp (N p m : Nat) : Nat := if N < p + m then p else p + m
theorem gp_le {N p m : Nat} (h : p ≤ N) : gp N p m ≤ N := by unfold gp; split <;> omega
end Go.Proofs.Ytacmbiohjiogiaa.K
end
section
set_option linter.unusedVariables false
set_option linter.unusedSimpArgs false
set_option maxRecDepth 100000
namespace Go.Proofs.Ytacmbiohjiogiaa.K
open Go.RowKit

/-- Is an input one that the program takes? -/
def okIn (k x y : Int) : Prop := 0 ≤ k ∧ k ≤ 255 ∧ -128 ≤ x ∧ x ≤ 127 ∧ -128 ≤ y ∧ y ≤ 127
instance (k x y : Int) : Decidable (okIn k x y) := by unfold okIn; infer_instance
/-- A writer in a loop. -/
structure WS where
 i : Nat
 A : Option Addr
 n : Nat
 c : Nat
 E : Grp
 bs : List Int
 bits : List Bool
/-- A writer's own block. -/
def wgrp (g : Nat) (A : Option Addr) (n c : Nat) (k : Int) : Grp := [(g, .cells [.slice A n c, .int .i64 k].toArray 266 (0, 0))]
theorem shr_none {v : Int} {n : Nat} (h0 : 0 ≤ v) (hn : n ≤ 64) (h : v < 2 ^ n) : v.fdiv (2 ^ (min (n : Int).toNat 64)) = 0 := by
 rw [show min (n : Int).toNat 64 = n by omega, Int.fdiv_eq_ediv_of_nonneg _ (Int.le_of_lt (Int.pow_pos (by omega)))]; exact Int.ediv_eq_zero_of_lt h0 h
theorem room_yes {bs : List Int} {n : Nat} (h : n % 8 = 0) : room bs n = bs ++ [0] := by simp [room, h]
theorem room_no {bs : List Int} {n : Nat} (h : ¬ n % 8 = 0) : room bs n = bs := by simp [room, h]
theorem put_step {bs : List Int} {bits : List Bool} {v : Int} {i : Nat} (h : Wr bs (bits ++ bitsOf v i)) (hv : 0 ≤ v ∧ v ≤ 18446744073709551615) (hi : i < 64) :
  Wr ((room bs (bits.length + i)).set ((((bits.length + i : Nat) : Int) / 8).toNat) (bOr .u8 ((room bs (bits.length + i)).getD ((((bits.length + i : Nat) : Int) / 8).toNat) 0)
   (IntKind.u8.wrap (IntKind.u8.wrap (bAnd .u64 (v.fdiv (2 ^ (min ((i : Int).toNat) 64))) 1) * 2 ^ (min ((((bits.length + i : Nat) : Int) % 8).toNat) 8))))) (bits ++ bitsOf v (i + 1)) := by
 have hl : (bits ++ bitsOf v i).length = bits.length + i := by rw [List.length_append, bitsOf_len]
 have h1 : (((bits.length + i : Nat) : Int) / 8).toNat = (bits.length + i) / 8 := by omega
 have h2 : (((bits.length + i : Nat) : Int) % 8).toNat = (bits.length + i) % 8 := by omega
 have hs := h.step (v.toNat.testBit i) (x := _) rfl; rw [hl] at hs; rw [h1, h2, Int.toNat_natCast, bit_byte hv hi (Nat.mod_lt _ (by omega)), bitsOf_succ, ← List.append_assoc]; exact hs
theorem map_one (bs : List Int) : List.map (Value.int .u8) bs ++ [Value.int .u8 0] = (bs ++ [0]).map (Value.int .u8) := by simp

theorem Put_k0 (v0 : Int) (w : World) : (Instr.buildSlice 76 1 ([(0, (.int .u8 v0))] : List (Nat × Value)).toArray).run Try.prog w = .ok (.slice (some ⟨w.heap.size, 0, none⟩) 1 1) { w with heap := w.heap.push (.cells ([.int .u8 v0] : List Value).toArray 5 (0, 0)) } := by kernel_rfl
theorem Put_c (p : Nat) (A : Option Addr) (m c : Nat) (E : Grp) (bs : List Int) (bits : List Bool) (v : Int) (n : Nat) (hW : Wr bs bits) (hos : OS A m c 5 1 (bs.map (.int .u8)) E)
  (hv : 0 ≤ v ∧ v ≤ 18446744073709551615) (hn : n ≤ 64) (hvn : n < 64 → v < 2 ^ n) (hfit : bits.length + n ≤ 524288) (V : Mem) :
  CallS Try.prog 164 [.pointer (some ⟨p, 0, none⟩), .int .u64 v, .int .i64 n].toArray V [wgrp p A m c bits.length, E]
   (fun r L' => r = .int .i64 0 ∧ ∃ A m c E bs', Wr bs' (bits ++ bitsOf v n) ∧ OS A m c 5 1 (bs'.map (.int .u8)) E ∧ L' = [wgrp p A m c ((bits ++ bitsOf v n).length : Nat), E]) := by
 refine callS Try.func164 rfl rfl (fun w0 => ?_); refine s_seq (s_region ?_); refine o_val rfl rfl rfl (y_assign (v := (.int _ _)) rfl) (o_nil ?_); refine s_join (γ := Unit) (fun u => [(0, .pointer (some ⟨p, 0, none⟩)), (1, .int .u64 v), (2, .int .i64 n)]) (fun u => [wgrp p A m c bits.length, E]) (fun u => True) ?_ ?_
 ·refine s_seq (s_region ?_); refine o_val rfl rfl rfl (y_move (v := (.int _ _)) rfl) ?_; refine o_split rfl rfl rfl (y_lss rfl rfl) (fun p1 => ?_) (fun p2 => ?_)
  ·exfalso; omega
  ·refine o_val rfl rfl rfl (y_move (v := (.bool _)) rfl) ?_; refine o_guard_yes rfl rfl ?_; refine o_val rfl rfl rfl (y_move (v := (.int _ _)) rfl) ?_; refine o_guard_yes rfl rfl ?_; refine o_split rfl rfl rfl (y_gtr rfl rfl) (fun p3 => ?_) (fun p4 => ?_)
   ·exfalso; omega
   ·refine o_val rfl rfl rfl (y_pick_f (v := (.bool _)) rfl rfl) ?_; refine o_val rfl rfl rfl (y_move (v := (.bool _)) rfl) ?_; refine o_guard_yes rfl rfl ?_; refine o_val rfl rfl rfl (y_move (v := (.int _ _)) rfl) ?_; refine o_guard_yes rfl rfl ?_; refine o_split rfl rfl rfl (y_lss rfl rfl) (fun p5 => ?_) (fun p6 => ?_)
    ·refine o_guard_yes rfl rfl ?_; refine o_val rfl rfl rfl (y_move (v := (.bool _)) rfl) ?_; refine o_guard_yes rfl rfl ?_; refine o_val rfl rfl rfl (y_move (v := (.int _ _)) rfl) ?_; refine o_guard_yes rfl rfl ?_; refine o_val rfl rfl rfl (y_move (v := (.int _ _)) rfl) ?_; refine o_guard_yes rfl rfl ?_; refine o_val rfl rfl rfl (y_shr rfl rfl (by omega)) ?_; refine o_guard_yes rfl rfl ?_; refine o_split rfl rfl rfl (y_neq rfl rfl) (fun p7 => ?_) (fun p8 => ?_)
     ·exact absurd (shr_none hv.1 hn (hvn (by omega))) p7
     ·refine o_guard_yes rfl rfl ?_; refine o_val rfl rfl rfl (y_pick_t (v := (.bool _)) rfl rfl) ?_; refine o_val rfl rfl rfl (y_pick_f (v := (.bool _)) rfl rfl) (o_nil ?_); refine s_else rfl ?_; refine s_skip ?_; exact ⟨(), trivial, ⟨rfl, rfl, rfl, trivial⟩, sub_front ⟨_, rfl⟩⟩
    ·refine o_guard_yes rfl rfl ?_; refine o_val rfl rfl rfl (y_move (v := (.bool _)) rfl) ?_; refine o_guard_no rfl rfl rfl rfl rfl ?_; refine o_guard_no rfl rfl rfl rfl rfl ?_; refine o_guard_no rfl rfl rfl rfl rfl ?_; refine o_guard_no rfl rfl rfl rfl rfl ?_; refine o_guard_yes rfl rfl ?_; refine o_val rfl rfl rfl (y_pick_f (v := (.bool _)) rfl rfl) ?_; refine o_val rfl rfl rfl (y_pick_f (v := (.bool _)) rfl rfl) (o_nil ?_); refine s_else rfl ?_; refine s_skip ?_; exact ⟨(), trivial, ⟨rfl, rfl, rfl, trivial⟩, sub_front ⟨_, rfl⟩⟩
 ·intro u _f hI; refine s_seq ?_; refine s_seq (s_region ?_); refine o_val rfl rfl rfl (y_move (v := (.pointer _)) rfl) ?_; refine o_val rfl rfl rfl (y_nilCheck rfl) ?_; refine o_val rfl rfl rfl (y_field0 Try.runUnderlying266 rfl Try.sizeOf3 rfl rfl) ?_; refine o_val rfl rfl rfl (y_load Try.isAgg3 rfl (cel_own 0 rfl rfl)) ?_; refine o_val rfl rfl rfl (y_move (v := (.int _ _)) rfl) ?_; refine o_val rfl rfl rfl (y_add rfl rfl (by simp only [inK]; omega)) ?_; refine o_val rfl rfl rfl (y_gtr rfl rfl) (o_nil ?_); refine s_if rfl (fun h9 => ?_) (fun h10 => ?_)
  ·exfalso; omega
  ·refine s_skip ?_; refine s_seq ?_; refine s_seq (s_region ?_); refine o_val rfl rfl rfl (y_move (v := (.int _ _)) rfl) ?_; refine o_val rfl rfl rfl (y_move (v := (.int _ _)) rfl) (o_nil ?_); refine s_block ?_; refine s_loop (γ := G1 × List Int) (fun g => [(0, .pointer (some ⟨p, 0, none⟩)), (1, .int .u64 v), (2, .int .i64 n), (31, .int .i64 n), (32, .int .i64 g.1.i)]) (fun g => [wgrp p g.1.A g.1.n g.1.c (bits.length + g.1.i : Nat), g.1.E]) (fun g => g.1.i ≤ n ∧ Wr g.2 (bits ++ bitsOf v g.1.i) ∧ OS g.1.A g.1.n g.1.c 5 1 (g.2.map (.int .u8)) g.1.E) (fun g => n - g.1.i) ((G1.mk 0 A m c E, bs)) ?_ ⟨rfl, rfl, rfl, rfl, rfl, trivial⟩ (sub_front ⟨_, rfl⟩) ?_
   ·exact ⟨Nat.zero_le _, by rw [bitsOf_zero, List.append_nil]; exact hW, hos⟩
   ·intro g _f hI; obtain ⟨hi, hW1, hos1⟩ := hI; have hl1 : (bits ++ bitsOf v g.1.i).length = bits.length + g.1.i := by rw [List.length_append, bitsOf_len]
    refine s_seq (s_region ?_); refine o_val rfl rfl rfl (y_lss rfl rfl) (o_nil ?_); refine s_seq ?_; refine s_if rfl (fun h11 => ?_) (fun h12 => ?_)
    ·refine s_skip ?_; refine s_seq ?_; refine s_block ?_; refine s_seq (s_region ?_); refine o_val rfl rfl rfl (y_move (v := (.int _ _)) rfl) ?_; refine o_val rfl rfl rfl (y_assign (v := (.int _ _)) rfl) (o_nil ?_); refine s_join (γ := G1) (fun q => [(0, .pointer (some ⟨p, 0, none⟩)), (1, .int .u64 v), (2, .int .i64 n), (7, .int .i64 g.1.i), (31, .int .i64 n), (32, .int .i64 g.1.i)]) (fun q => [wgrp p q.A q.n q.c (bits.length + g.1.i : Nat), q.E]) (fun q => OS q.A q.n q.c 5 1 ((room g.2 (bits.length + g.1.i)).map (.int .u8)) q.E) ?_ ?_
     ·refine s_seq (s_region ?_); refine o_val rfl rfl rfl (y_move (v := (.pointer _)) rfl) ?_; refine o_val rfl rfl rfl (y_nilCheck rfl) ?_; refine o_val rfl rfl rfl (y_field0 Try.runUnderlying266 rfl Try.sizeOf3 rfl rfl) ?_; refine o_val rfl rfl rfl (y_load Try.isAgg3 rfl (cel_own 0 rfl rfl)) ?_; refine o_val rfl rfl rfl (y_rem rfl rfl (by omega)) ?_; refine o_val rfl rfl rfl (y_eql rfl rfl) (o_nil ?_); refine s_if rfl (fun h13 => ?_) (fun h14 => ?_)
      ·refine s_region ?_; refine o_val rfl rfl rfl (y_move (v := (.pointer _)) rfl) ?_; refine o_val rfl rfl rfl (y_move (v := (.pointer _)) rfl) ?_; refine o_val rfl rfl rfl (y_nilCheck rfl) ?_; refine o_val rfl rfl rfl (y_field0 Try.runUnderlying266 rfl Try.sizeOf76 rfl rfl) ?_; refine o_val rfl rfl rfl (y_load Try.isAgg76 rfl (cel_own 0 rfl rfl)) ?_; refine o_lit (vs := [(0, .int _ _)]) rfl rfl (Put_k0 _) (fun b15 => ?_); refine o_append (sz := 1) (bytes := 1) (news := [(.int _ _)]) 1 rfl Try.underlying76 Try.type5 rfl rfl rfl rfl rfl hos1 rfl rfl (Src.slice Try.underlying76 (cels_own 2 rfl rfl) rfl (by simp [Value.oneCell']) (by simp)) (by have h1 := hos1.len; have h2 := hW1.1; rw [hl1] at h2; simp at h1; omega) (fun A16 c17 E18 ho19 hn20 => ?_); have ho21 : OS A16 (g.1.n + 1) c17 5 1 ((room g.2 (bits.length + g.1.i)).map (.int .u8)) E18 := by rw [room_yes (by omega), ← map_one]; exact ho19
       clear ho19
       refine o_val rfl rfl rfl (y_nilCheck rfl) ?_; refine o_val rfl rfl rfl (y_field0 Try.runUnderlying266 rfl Try.sizeOf76 rfl rfl) ?_; refine o_store (v := (.slice _ _ _)) 0 rfl Try.sizeOf76 rfl rfl rfl rfl (o_nil ?_); exact ⟨(G1.mk 0 A16 (g.1.n + 1) c17 E18), ho21, ⟨rfl, rfl, rfl, rfl, rfl, rfl, trivial⟩, sub_front ⟨_, rfl⟩⟩
      ·refine s_skip ?_; exact ⟨(G1.mk 0 g.1.A g.1.n g.1.c g.1.E), (by rw [room_no (by omega)]; exact hos1), ⟨rfl, rfl, rfl, rfl, rfl, rfl, trivial⟩, sub_front ⟨_, rfl⟩⟩
     ·intro q _f hoq; have hrl := hW1.roomLen; rw [hl1] at hrl; have hqn := hoq.len; simp only [List.length_map, hrl] at hqn; refine s_seq ?_; refine s_tail 24 (by kernel_rfl) (by kernel_rfl) ?_; refine t_val rfl rfl rfl (y_move (v := (.pointer _)) rfl) ?_; refine t_val rfl rfl rfl (y_nilCheck rfl) ?_; refine t_val rfl rfl rfl (y_field0 Try.runUnderlying266 rfl Try.sizeOf76 rfl rfl) ?_; refine t_val rfl rfl rfl (y_load Try.isAgg76 rfl (cel_own 0 rfl rfl)) ?_; refine t_val rfl rfl rfl (y_move (v := (.pointer _)) rfl) ?_; refine t_val rfl rfl rfl (y_nilCheck rfl) ?_; refine t_val rfl rfl rfl (y_field0 Try.runUnderlying266 rfl Try.sizeOf3 rfl rfl) ?_; refine t_val rfl rfl rfl (y_load Try.isAgg3 rfl (cel_own 0 rfl rfl)) ?_; refine t_val rfl rfl rfl (y_quo rfl rfl (by simp only [inK]; omega)) ?_; refine t_val rfl rfl rfl (y_index1 Try.runUnderlying76 Try.sizeOf5 (hoq.some_of (by omega)) rfl rfl (by omega)) ?_; refine t_val rfl rfl rfl (y_load Try.isAgg5 rfl (cel_int (hoq.cels (j := 1) rfl) (by rw [hrl]; omega))) ?_; refine t_val rfl rfl rfl (y_move (v := (.int _ _)) rfl) ?_; refine t_val rfl rfl rfl (y_move (v := (.int _ _)) rfl) ?_; refine t_val rfl rfl rfl (y_shr rfl rfl (by omega)) ?_; refine t_val rfl rfl rfl (y_and rfl rfl) ?_; refine t_val rfl rfl rfl (y_conv' Try.runUnderlying86 Try.runUnderlying5 rfl) ?_; refine t_val rfl rfl rfl (y_move (v := (.pointer _)) rfl) ?_; refine t_val rfl rfl rfl (y_nilCheck rfl) ?_; refine t_val rfl rfl rfl (y_field0 Try.runUnderlying266 rfl Try.sizeOf3 rfl rfl) ?_; refine t_val rfl rfl rfl (y_load Try.isAgg3 rfl (cel_own 0 rfl rfl)) ?_; refine t_val rfl rfl rfl (y_rem rfl rfl (by omega)) ?_; refine t_val rfl rfl rfl (y_shl rfl rfl (by omega)) ?_; refine t_val rfl rfl rfl (y_or rfl rfl) ?_; refine t_val rfl rfl rfl (y_index1 Try.runUnderlying76 Try.sizeOf5 (hoq.some_of (by omega)) rfl rfl (by omega)) ?_; refine t_nil ?_; refine o_store_os (vs := [(.int _ _)]) 1 rfl hoq Try.sizeOf5 rfl rfl rfl (by simp [Value.oneCell']) (by simp) (by simp [hrl] <;> omega) (fun E22 ho23 => ?_); have ho24 := os_lay_int ho23 (by simp [hrl] <;> omega)
      clear ho23
      refine o_nil ?_; refine s_region ?_; refine o_val rfl rfl rfl (y_move (v := (.pointer _)) rfl) ?_; refine o_val rfl rfl rfl (y_nilCheck rfl) ?_; refine o_val rfl rfl rfl (y_field0 Try.runUnderlying266 rfl Try.sizeOf3 rfl rfl) ?_; refine o_val rfl rfl rfl (y_load Try.isAgg3 rfl (cel_own 0 rfl rfl)) ?_; refine o_val rfl rfl rfl (y_add rfl rfl (by simp only [inK]; omega)) ?_; refine o_val rfl rfl rfl (y_nilCheck rfl) ?_; refine o_val rfl rfl rfl (y_field0 Try.runUnderlying266 rfl Try.sizeOf3 rfl rfl) ?_; refine o_store (v := (.int _ _)) 0 rfl Try.sizeOf3 rfl rfl rfl rfl (o_nil ?_); refine s_region ?_; refine o_val rfl rfl rfl (y_add rfl rfl (by simp only [inK]; omega)) ?_; refine o_val rfl rfl rfl (y_move (v := (.int _ _)) rfl) (o_nil ?_); exact ⟨(G1.mk (g.1.i + 1) q.A q.n q.c E22, _), (by first | omega | (dsimp only; omega)), ⟨by show g.1.i + 1 ≤ n; omega, put_step hW1 hv (by omega), ho24⟩, ⟨rfl, rfl, rfl, rfl, (congrArg (Value.int _) (by show (g.1.i : Int) + 1 = ((g.1.i + 1 : Nat) : Int); omega)), trivial⟩, sub_front ⟨_, rfl⟩⟩
    ·refine s_exit ?_; refine s_seq (s_region ?_); refine o_val rfl rfl rfl (y_assign (v := (.int _ _)) rfl) (o_nil ?_); refine s_ret ?_; have hin : g.1.i = n := by omega
     rw [hin] at hW1 hl1; exact ⟨_, _, res1 rfl rfl, ⟨rfl, _, _, _, _, _, hW1, hos1, by rw [hl1, ← hin]⟩, sub_front ⟨_, rfl⟩⟩

end Go.Proofs.Ytacmbiohjiogiaa.K
end
section
set_option linter.unusedVariables false
set_option linter.unusedSimpArgs false
set_option maxRecDepth 100000
namespace Go.Proofs.Ytacmbiohjiogiaa.K
open Go.RowKit

structure Inp where
 k : Int
 x : Int
 y : Int
instance : Inhabited Inp := ⟨⟨0, 0, 0⟩⟩
instance : DecidableEq Inp := fun a b => decidable_of_iff (a.k = b.k ∧ a.x = b.x ∧ a.y = b.y) ⟨fun ⟨h1, h2, h3⟩ => by cases a; cases b; simp_all, fun h => by subst h; exact ⟨rfl, rfl, rfl⟩⟩
def Inp.ok (i : Inp) : Prop := okIn i.k i.x i.y
instance (i : Inp) : Decidable i.ok := by unfold Inp.ok; infer_instance
/-- Is a frame one for so many players? -/
def okFr (p : Int) (l : List Inp) : Prop := 1 ≤ p ∧ p ≤ 8 ∧ (l.length : Int) = p ∧ ∀ i ∈ l, i.ok
instance (p : Int) (l : List Inp) : Decidable (okFr p l) := by unfold okFr; infer_instance
end Go.Proofs.Ytacmbiohjiogiaa.K
end
section
set_option linter.unusedVariables false
set_option linter.unusedSimpArgs false
set_option maxRecDepth 100000
namespace Go.Proofs.Ytacmbiohjiogiaa.K
open Go.RowKit

theorem Bytes_c (p : Nat) (A : Option Addr) (m c : Nat) (E : Grp) (bs : List Int) (k : Int) (hos : OS A m c 5 1 (bs.map (.int .u8)) E) (hb : m ≤ 140737488355328) (V : Mem) :
  CallS Try.prog 168 [.pointer (some ⟨p, 0, none⟩)].toArray V [wgrp p A m c k, E]
   (fun r L' => ∃ B e G, r = .slice B m e ∧ OS B m e 5 1 (bs.map (.int .u8)) G ∧ L' = [wgrp p A m c k, E, G]) := by
 refine callS Try.func168 rfl rfl (fun w0 => ?_); refine s_seq (s_region ?_); refine o_val rfl rfl rfl (y_assign (v := (.slice _ _ _)) rfl) (o_nil ?_); refine s_seq (s_region ?_); refine o_val rfl rfl rfl (y_move (v := (.pointer _)) rfl) ?_; refine o_val rfl rfl rfl (y_nilCheck rfl) ?_; refine o_val rfl rfl rfl (y_field0 Try.runUnderlying266 rfl Try.sizeOf76 rfl rfl) ?_; refine o_val rfl rfl rfl (y_load Try.isAgg76 rfl (cel_own 0 rfl rfl)) ?_; refine o_newgroup ?_; refine o_append (sz := 1) (bytes := 1) (news := _) 2 rfl Try.underlying76 Try.type5 rfl rfl rfl rfl rfl (OS.nil 5 1) rfl rfl (Src.own (sz := 0) Try.underlying76 (j := 1) rfl hos (one_int _ _)) (by omega) (fun A2 c3 E4 ho5 hn6 => ?_); have ho7 : OS A2 m c3 5 1 (bs.map (.int .u8)) E4 := by simpa using ho5
 clear ho5
 refine o_val rfl rfl rfl (y_assign (v := (.slice _ _ _)) rfl) (o_nil ?_); refine s_ret ?_; exact ⟨_, _, res1 rfl rfl, ⟨A2, c3, E4, congrArg (fun k => Value.slice A2 k c3) (Nat.zero_add m), ho7, rfl⟩, sub_front ⟨_, rfl⟩⟩

end Go.Proofs.Ytacmbiohjiogiaa.K
end
section
namespace Go.Proofs.Ytacmbiohjiogiaa.K
open Go.RowKit

theorem getD_app_l {α : Type} {a b : List α} {d : α} {i : Nat} (h : i < a.length) : (a ++ b).getD i d = a.getD i d := by simp [List.getD_eq_getElem?_getD, List.getElem?_append_left h]
theorem getD_app_r {α : Type} {a b : List α} {d : α} {i : Nat} : (a ++ b).getD (a.length + i) d = b.getD i d := by simp [List.getD_eq_getElem?_getD, List.getElem?_append_right]
theorem bitsOf_getD {v : Int} {n i : Nat} (h : i < n) : (bitsOf v n).getD i false = v.toNat.testBit i := by
 simp [bitsOf, List.getD_eq_getElem?_getD, h]
theorem Wr.bit {bs : List Int} {bits : List Bool} (h : Wr bs bits) {j : Nat} (hj : j < 8 * bs.length) : bitAt bs j = bits.getD j false := by
 have := h.2.2 (j / 8) (j % 8) (by omega) (Nat.mod_lt _ (by omega)); rw [show 8 * (j / 8) + j % 8 = j by omega] at this; exact this
end Go.Proofs.Ytacmbiohjiogiaa.K
end
section
namespace Go.Proofs.Ytacmbiohjiogiaa.K
open Go.RowKit

/-- How many groups of four bits a number takes. -/
def isGrp (v g : Nat) : Prop := 1 ≤ g ∧ v / 16 ^ g = 0 ∧ ∀ j, 1 ≤ j → j < g → v / 16 ^ j ≠ 0
theorem isGrp_unique {v g g' : Nat} (h : isGrp v g) (h' : isGrp v g') : g = g' := by
 rcases Nat.lt_trichotomy g g' with hl | hl | hl
 ·exact absurd h.2.1 (h'.2.2 g h.1 hl)
 ·exact hl
 ·exact absurd h'.2.1 (h.2.2 g' h'.1 hl)
def grp (v : Nat) : Nat := if v < 16 then 1 else grp (v / 16) + 1
termination_by v
decreasing_by omega
theorem div_pow16 (v i : Nat) : v / 16 ^ (i + 1) = v / 16 / 16 ^ i := by rw [Nat.pow_succ, Nat.mul_comm, Nat.div_div_eq_div_mul]
theorem grp_is (v : Nat) : isGrp v (grp v) := by
 induction v using Nat.strongRecOn with
 | _ v ih =>
  unfold grp
  split
  ·rename_i h; exact ⟨Nat.le_refl _, by rw [Nat.pow_one]; omega, fun j h1 h2 => by omega⟩
  ·rename_i h
   obtain ⟨h1, h2, h3⟩ := ih (v / 16) (by omega); refine ⟨by omega, by rw [div_pow16]; exact h2, fun j hj1 hj2 => ?_⟩; obtain ⟨i, rfl⟩ : ∃ i, j = i + 1 := ⟨j - 1, by omega⟩; rw [div_pow16]
   by_cases hi : i = 0
   ·subst hi; rw [Nat.pow_zero, Nat.div_one]; omega
   ·exact h3 i (by omega) (by omega)
theorem div16_zero {v i : Nat} (hv : v < 18446744073709551616) (hi : 16 ≤ i) : v / 16 ^ i = 0 := by
 apply Nat.div_eq_of_lt
 exact Nat.lt_of_lt_of_le hv (by have := Nat.pow_le_pow_right (show 0 < 16 by omega) hi; exact Nat.le_trans (by decide) this)
theorem grp_le {v : Nat} (hv : v < 18446744073709551616) : 1 ≤ grp v ∧ grp v ≤ 16 := by
 obtain ⟨h1, h2, h3⟩ := grp_is v; refine ⟨h1, ?_⟩
 by_cases h : grp v ≤ 16
 ·exact h
 ·exact absurd (div16_zero hv (Nat.le_refl 16)) (h3 16 (by omega) (by omega))
/-- The first groups of a number. -/
def natBits (v g : Nat) : List Bool := (List.range g).flatMap fun i => bitsOf (v / 16 ^ i : Nat) 4 ++ [decide (v / 16 ^ (i + 1) ≠ 0)]
theorem natBits_zero (v : Nat) : natBits v 0 = [] := rfl
theorem natBits_succ (v g : Nat) : natBits v (g + 1) = natBits v g ++ (bitsOf (v / 16 ^ g : Nat) 4 ++ [decide (v / 16 ^ (g + 1) ≠ 0)]) := by simp [natBits, List.range_succ]
theorem natBits_len (v : Nat) : ∀ g, (natBits v g).length = 5 * g
 | 0 => rfl
 | g + 1 => by rw [natBits_succ, List.length_append, natBits_len v g]; simp [bitsOf_len]; omega
def natB (v : Nat) : List Bool := natBits v (grp v)
theorem natB_len (v : Nat) : (natB v).length = 5 * grp v := natBits_len v _
theorem natB_bd {v : Nat} (hv : v < 18446744073709551616) : 5 ≤ (natB v).length ∧ (natB v).length ≤ 80 := by
 have := grp_le hv; rw [natB_len]; omega
theorem shr16 (v i : Nat) : (v : Int).fdiv (2 ^ (min ((4 * (i : Int)).toNat) 64)) = if i ≤ 16 then ((v / 16 ^ i : Nat) : Int) else (v : Int).fdiv (2 ^ 64) := by
 by_cases h : i ≤ 16
 ·rw [if_pos h, show min (4 * (i : Int)).toNat 64 = 4 * i by omega, Int.fdiv_eq_ediv_of_nonneg _ (Int.le_of_lt (Int.pow_pos (by omega))), show (16 : Nat) = 2 ^ 4 from rfl, ← Nat.pow_mul]; simp
 ·rw [if_neg h, show min (4 * (i : Int)).toNat 64 = 64 by omega]
theorem shr4 (v : Nat) : (v : Int).fdiv (2 ^ (min ((4 : Int).toNat) 64)) = ((v / 16 : Nat) : Int) := by
 have := shr16 v 1
 simpa using this
theorem and15 {a : Nat} (ha : a < 18446744073709551616) : bAnd .u64 (a : Int) 15 = ((a % 16 : Nat) : Int) := by
 unfold bAnd; have h1 := ofInt_toNat 64 (a : Int) (by omega) (by omega); have h2 := ofInt_toNat 64 15 (by omega) (by omega); rw [show IntKind.u64.bits = 64 from rfl, BitVec.toNat_and, h1, h2, show (15 : Int).toNat = 2 ^ 4 - 1 from rfl, Nat.and_two_pow_sub_one_eq_mod, Int.toNat_natCast]; exact wrap_in (k := .u64) (by simp only [inK]; omega)
theorem div_le16 {v : Nat} (hv : v < 18446744073709551616) (i : Nat) : v / 16 ^ i < 18446744073709551616 := Nat.lt_of_le_of_lt (Nat.div_le_self _ _) hv
theorem or16 {a : Nat} (ha : a < 16) : bOr .u64 (a : Int) 16 = ((a + 16 : Nat) : Int) := by
 rw [bOr_u64 (by omega) (by omega), Int.toNat_natCast]; have := Nat.two_pow_add_eq_or_of_lt (show a < 2 ^ 4 from ha) 1; rw [Nat.mul_one] at this; rw [show (16 : Int).toNat = 2 ^ 4 from rfl, Nat.or_comm, ← this, Nat.add_comm]
theorem or0 {a : Nat} (ha : a < 16) : bOr .u64 (a : Int) 0 = (a : Int) := by
 rw [bOr_u64 (by omega) (by omega), Int.toNat_natCast]; simp
theorem nib1 {v i : Nat} (hv : v < 18446744073709551616) (hi : i ≤ 16) : bOr .u64 (bAnd .u64 ((v : Int).fdiv (2 ^ (min ((4 * (i : Int)).toNat) 64))) 15) 16 = ((v / 16 ^ i % 16 + 16 : Nat) : Int) := by
 rw [shr16, if_pos hi, and15 (div_le16 hv i), or16 (Nat.mod_lt _ (by omega))]
theorem nib0 {v i : Nat} (hv : v < 18446744073709551616) (hi : i ≤ 16) : bOr .u64 (bAnd .u64 ((v : Int).fdiv (2 ^ (min ((4 * (i : Int)).toNat) 64))) 15) 0 = ((v / 16 ^ i % 16 : Nat) : Int) := by
 rw [shr16, if_pos hi, and15 (div_le16 hv i), or0 (Nat.mod_lt _ (by omega))]
theorem bits5 (a : Nat) : bitsOf ((a % 16 : Nat) : Int) 5 = bitsOf (a : Int) 4 ++ [false] := by
 rw [bitsOf_succ]
 congr 1
 ·unfold bitsOf
  apply List.map_congr_left
  intro i hi; have hi4 : i < 4 := List.mem_range.1 hi; rw [Int.toNat_natCast, Int.toNat_natCast, show (16 : Nat) = 2 ^ 4 from rfl, Nat.testBit_mod_two_pow]; simp [hi4]
 ·rw [Int.toNat_natCast, Nat.testBit_lt_two_pow (i := 4) (Nat.mod_lt _ (by omega))]
theorem bits5' (a : Nat) : bitsOf ((a % 16 + 16 : Nat) : Int) 5 = bitsOf (a : Int) 4 ++ [true] := by
 have e : a % 16 + 16 = 2 ^ 4 * 1 + a % 16 := by omega
 rw [bitsOf_succ]
 congr 1
 ·unfold bitsOf
  apply List.map_congr_left
  intro i hi; have hi4 : i < 4 := List.mem_range.1 hi; rw [Int.toNat_natCast, Int.toNat_natCast, e, Nat.testBit_two_pow_mul_add _ (Nat.mod_lt _ (by omega)), if_pos hi4, Nat.testBit_mod_two_pow (j := 4)]; simp [hi4]
 ·rw [Int.toNat_natCast, e, Nat.testBit_two_pow_mul_add _ (Nat.mod_lt _ (by omega)), if_neg (by omega)]; rfl
/-- One more group, as the writer writes it. -/
theorem nat_more {v g i : Nat} (h : isGrp v g) (hi : i + 1 < g) : natBits v i ++ bitsOf ((v / 16 ^ i % 16 + 16 : Nat) : Int) 5 = natBits v (i + 1) := by
 rw [natBits_succ, bits5', decide_eq_true (h.2.2 (i + 1) (by omega) hi)]
theorem nat_last {v g i : Nat} (h : isGrp v g) (hi : i < g) (hi' : ¬ i + 1 < g) : natBits v i ++ bitsOf ((v / 16 ^ i % 16 : Nat) : Int) 5 = natBits v (i + 1) := by
 have e : i + 1 = g := by omega
 rw [natBits_succ, bits5, decide_eq_false (by rw [e]; exact fun hh => hh h.2.1)]
/-- A signed number as one without a sign. -/
def zz (d : Int) : Nat := if 0 ≤ d then (2 * d).toNat else (-2 * d - 1).toNat
theorem zz_lt {d : Int} (h : inK .i64 d) : zz d < 18446744073709551616 := by
 unfold zz; simp only [inK] at h; split <;> omega
theorem xor_ones {a : Nat} (ha : a < 18446744073709551616) : bXor .u64 (a : Int) 18446744073709551615 = ((18446744073709551615 - a : Nat) : Int) := by
 unfold bXor; rw [show IntKind.u64.bits = 64 from rfl]; have h1 : BitVec.ofInt 64 18446744073709551615 = BitVec.allOnes 64 := by decide
 have h2 : (BitVec.ofInt 64 (a : Int)).toNat = a := by rw [ofInt_toNat 64 (a : Int) (by omega) (by omega), Int.toNat_natCast]
 rw [h1, BitVec.xor_allOnes, BitVec.toNat_not, h2]; rw [show 2 ^ 64 - 1 - a = 18446744073709551615 - a by omega]; exact wrap_in (k := .u64) (by simp only [inK]; omega)
theorem xor_zero64 {a : Nat} (ha : a < 18446744073709551616) : bXor .u64 (a : Int) 0 = (a : Int) := by
 unfold bXor; rw [show IntKind.u64.bits = 64 from rfl]; have h2 : (BitVec.ofInt 64 (a : Int)).toNat = a := by rw [ofInt_toNat 64 (a : Int) (by omega) (by omega), Int.toNat_natCast]
 rw [show BitVec.ofInt 64 0 = 0#64 by decide, BitVec.xor_zero, h2]; exact wrap_in (k := .u64) (by simp only [inK]; omega)
theorem wrap_u64 (n : Int) : IntKind.u64.wrap n = n % 18446744073709551616 := by
 simp [IntKind.wrap, IntKind.signed, IntKind.bits]
theorem zz_writer {d : Int} (h : inK .i64 d) : bXor .u64 (IntKind.u64.wrap (IntKind.u64.wrap d * 2 ^ (min ((1 : Int).toNat) 64))) (IntKind.u64.wrap (d.fdiv (2 ^ (min ((63 : Int).toNat) 64)))) = (zz d : Int) := by
 simp only [inK] at h; rw [show min (1 : Int).toNat 64 = 1 from rfl, show min (63 : Int).toNat 64 = 63 from rfl, wrap_u64, wrap_u64, wrap_u64, Int.fdiv_eq_ediv_of_nonneg _ (by decide)]; unfold zz
 by_cases h0 : 0 ≤ d
 ·rw [if_pos h0, show d / 2 ^ 63 = 0 by omega, Int.zero_emod]; have e : d % 18446744073709551616 * 2 ^ 1 % 18446744073709551616 = (((2 * d).toNat : Nat) : Int) := by omega
  rw [e, xor_zero64 (by omega)]
 ·rw [if_neg h0, show d / 2 ^ 63 = -1 by omega, show (-1 : Int) % 18446744073709551616 = 18446744073709551615 by decide]; have e : d % 18446744073709551616 * 2 ^ 1 % 18446744073709551616 = (((2 * d + 18446744073709551616).toNat : Nat) : Int) := by omega
  rw [e, xor_ones (by omega)]; omega
end Go.Proofs.Ytacmbiohjiogiaa.K
end
section
namespace Go.Proofs.Ytacmbiohjiogiaa.K
open Go.RowKit

/-- A writer takes what fits whole, or nothing. -/
def wE (bits x : List Bool) : Int := if 524288 < bits.length + x.length then 6 else 0
def wB (bits x : List Bool) : List Bool := if 524288 < bits.length + x.length then bits else bits ++ x
/-- What a list has at a place, or 0. -/
def base (xs : List Int) (i : Nat) : Int := xs.getD i 0
def dd (old new : List Int) (i : Nat) : Int := IntKind.i64.wrap (new.getD i 0 - base old i)
theorem dd_in (old new : List Int) (i : Nat) : inK .i64 (dd old new i) := inK_wrap _ _
/-- How many are equal since the last that was not, and the bits of those before. -/
def dRun (old new : List Int) : Nat → Nat
 | 0 => 0
 | k + 1 => if new.getD k 0 = base old k then dRun old new k + 1 else 0
def dBits (old new : List Int) : Nat → List Bool
 | 0 => []
 | k + 1 => if new.getD k 0 = base old k then dBits old new k else dBits old new k ++ natB (dRun old new k) ++ natB (zz (dd old new k))
theorem dRun_le (old new : List Int) : ∀ k, dRun old new k ≤ k
 | 0 => Nat.le_refl _
 | k + 1 => by simp only [dRun]; have := dRun_le old new k; split <;> omega
theorem dBits_len (old new : List Int) : ∀ k, k ≤ 1099511627776 → (dBits old new k).length ≤ 160 * k
 | 0, _ => by simp [dBits]
 | k + 1, hk => by
  have ih := dBits_len old new k (by omega); have h1 := (natB_bd (v := dRun old new k) (by have := dRun_le old new k; omega)).2; have h2 := (natB_bd (v := zz (dd old new k)) (zz_lt (dd_in old new k))).2; simp only [dBits]
  split
  ·omega
  ·simp only [List.length_append]; omega
def dHead (s1 s2 : Int) (n : Nat) : List Bool := bitsOf s1 64 ++ bitsOf s2 64 ++ natB n
def dTail (old new : List Int) (k : Nat) : List Bool := if 0 < dRun old new k then natB (dRun old new k) else []
/-- The whole difference. -/
def dAll (s1 s2 : Int) (old new : List Int) : List Bool := dHead s1 s2 new.length ++ dBits old new new.length ++ dTail old new new.length
theorem dHead_len {s1 s2 : Int} {n : Nat} (hn : n < 18446744073709551616) : (dHead s1 s2 n).length ≤ 208 := by
 have := (natB_bd hn).2; simp only [dHead, List.length_append, bitsOf_len]; omega
theorem dAll_len {s1 s2 : Int} {old new : List Int} (h : new.length ≤ 549755813888) : (dAll s1 s2 old new).length ≤ 288 + 160 * new.length := by
 have h1 := dBits_len old new new.length (by omega); have h2 := dHead_len (s1 := s1) (s2 := s2) (n := new.length) (by omega); have h3 := (natB_bd (v := dRun old new new.length) (by have := dRun_le old new new.length; omega)).2; have h4 : (dTail old new new.length).length ≤ 80 := by unfold dTail; split; exact h3; exact Nat.zero_le _
 unfold dAll; simp only [List.length_append]; omega
/-- The writer's state: all that was to be written, or full. -/
def wOK (full : List Bool) (err : Int) (bits : List Bool) : Prop := bits.length ≤ 524288 ∧ ((err = 0 ∧ bits = full) ∨ (err = 6 ∧ 524288 < full.length))
theorem wOK_step {full bits x : List Bool} {err : Int} (h : wOK full err bits) : wOK (full ++ x) (max err (wE bits x)) (wB bits x) := by
 unfold wOK wE wB at *; rcases h with ⟨h0, ⟨rfl, rfl⟩ | ⟨rfl, h1⟩⟩
 ·by_cases hh : 524288 < bits.length + x.length
  ·rw [if_pos hh, if_pos hh]; exact ⟨h0, .inr ⟨by decide, by rw [List.length_append]; omega⟩⟩
  ·rw [if_neg hh, if_neg hh]; exact ⟨by rw [List.length_append]; omega, .inl ⟨by decide, rfl⟩⟩
 ·by_cases hh : 524288 < bits.length + x.length
  ·rw [if_pos hh, if_pos hh]; exact ⟨h0, .inr ⟨by decide, by rw [List.length_append]; omega⟩⟩
  ·rw [if_neg hh, if_neg hh]; exact ⟨by rw [List.length_append]; omega, .inr ⟨by decide, by rw [List.length_append]; omega⟩⟩
theorem wB_le {bits x : List Bool} (h : bits.length ≤ 524288) : (wB bits x).length ≤ 524288 := by
 unfold wB; split
 ·exact h
 ·rw [List.length_append]; omega
end Go.Proofs.Ytacmbiohjiogiaa.K
end
section
namespace Go.Proofs.Ytacmbiohjiogiaa.K
open Go.RowKit

/-- The bits that lie at a place. -/
def bitsAt (bs : List Int) (N p : Nat) (l : List Bool) : Prop := p + l.length ≤ N ∧ ∀ j, j < l.length → bitAt bs (p + j) = l.getD j false
theorem bitsAt_mid {bs : List Int} {N p : Nat} {a b c : List Bool} (h : bitsAt bs N p (a ++ b ++ c)) : bitsAt bs N (p + a.length) b := by
 obtain ⟨h1, h2⟩ := h; simp only [List.length_append] at h1; refine ⟨by omega, fun j hj => ?_⟩; have := h2 (a.length + j) (by simp only [List.length_append]; omega); rw [List.append_assoc, getD_app_r, getD_app_l hj] at this; rw [Nat.add_assoc]; exact this
theorem natBits_pre (v : Nat) {i : Nat} : ∀ {g : Nat}, i ≤ g → ∃ t, natBits v g = natBits v i ++ t
 | 0, h => ⟨[], by rw [show i = 0 by omega]; rfl⟩
 | g + 1, h => by
  by_cases e : i = g + 1
  ·exact ⟨[], by rw [e, List.append_nil]⟩
  ·obtain ⟨t, ht⟩ := natBits_pre v (show i ≤ g by omega); exact ⟨t ++ (bitsOf (v / 16 ^ g : Nat) 4 ++ [decide (v / 16 ^ (g + 1) ≠ 0)]), by rw [natBits_succ, ht, List.append_assoc]⟩
/-- The five bits of a group. -/
theorem num5 {bs : List Int} {N p w i : Nat} (h : bitsAt bs N p (natB w)) (hi : i < grp w) : (num bs (p + 5 * i) 5 : Nat) = w / 16 ^ i % 16 + (if w / 16 ^ (i + 1) ≠ 0 then 16 else 0) := by
 obtain ⟨t, ht⟩ := natBits_pre w (show i + 1 ≤ grp w from hi); unfold natB at h; rw [ht, natBits_succ] at h; have hm := bitsAt_mid h; rw [natBits_len] at hm
 by_cases hz : w / 16 ^ (i + 1) ≠ 0
 ·rw [if_pos hz]; rw [decide_eq_true hz, ← bits5'] at hm; have := num_of (bs := bs) (p := p + 5 * i) (k := 5) (v := ((w / 16 ^ i % 16 + 16 : Nat) : Int)) (by omega) (fun j hj => by rw [hm.2 j (by rw [bitsOf_len]; exact hj), bitsOf_getD hj])
  exact_mod_cast this
 ·rw [if_neg hz]; rw [decide_eq_false hz, ← bits5] at hm; have := num_of (bs := bs) (p := p + 5 * i) (k := 5) (v := ((w / 16 ^ i % 16 : Nat) : Int)) (by omega) (fun j hj => by rw [hm.2 j (by rw [bitsOf_len]; exact hj), bitsOf_getD hj]); rw [Nat.add_zero]
  exact_mod_cast this
theorem at_len {bs : List Int} {N p w i : Nat} (h : bitsAt bs N p (natB w)) (hi : i < grp w) : p + 5 * i + 5 ≤ N := by
 have := h.1; rw [natB_len] at this; omega
/-- What is read of the groups before place i. -/
def accOK (bs : List Int) (N p i : Nat) (acc : Int) : Prop := ∀ w, w < 18446744073709551616 → bitsAt bs N p (natB w) → i < grp w ∧ acc = (w % 16 ^ i : Nat)
theorem acc_zero (bs : List Int) (N p : Nat) : accOK bs N p 0 0 := fun w _ _ => ⟨(grp_is w).1, by rw [Nat.pow_zero, Nat.mod_one]; rfl⟩
theorem acc_val {w i : Nat} (hw : w < 18446744073709551616) (hi : i ≤ 15) {v5 : Nat} (hv : v5 = w / 16 ^ i % 16 + (if w / 16 ^ (i + 1) ≠ 0 then 16 else 0)) :
  bOr .u64 (w % 16 ^ i : Nat) (IntKind.u64.wrap (bAnd .u64 (v5 : Int) 15 * 2 ^ (min ((4 * (i : Int)).toNat) 64))) = (w % 16 ^ (i + 1) : Nat) := by
 have h5 : v5 < 32 := by rw [hv]; split <;> omega
 have h16 : v5 % 16 = w / 16 ^ i % 16 := by rw [hv]; split <;> omega
 rw [and15 (by omega), h16, show min (4 * (i : Int)).toNat 64 = 4 * i by omega]; have hp : 16 ^ i * 16 ≤ 18446744073709551616 := by
  have := Nat.pow_le_pow_right (show 0 < 16 by omega) (show i + 1 ≤ 16 by omega); rw [Nat.pow_succ] at this; exact Nat.le_trans this (by decide)
 have hd : w / 16 ^ i % 16 < 16 := Nat.mod_lt _ (by omega); have e16 : (2 : Nat) ^ (4 * i) = 16 ^ i := by rw [Nat.pow_mul]
 have hm : w % 16 ^ i < 16 ^ i := Nat.mod_lt _ (Nat.pow_pos (by omega)); have hq : w / 16 ^ i % 16 * 16 ^ i ≤ 15 * 16 ^ i := Nat.mul_le_mul_right _ (by omega); have e1 : ((w / 16 ^ i % 16 : Nat) : Int) * 2 ^ (4 * i) = ((w / 16 ^ i % 16 * 16 ^ i : Nat) : Int) := by rw [← e16]; simp
 rw [e1, wrap_in (k := .u64) (by simp only [inK]; generalize 16 ^ i = z at *; generalize w / z % 16 = q at *; omega)]; rw [bOr_u64 ⟨by omega, by generalize 16 ^ i = z at *; omega⟩ ⟨by omega, by generalize 16 ^ i = z at *; generalize w / z % 16 = q at *; omega⟩, Int.toNat_natCast, Int.toNat_natCast, Nat.mod_pow_succ]; have := Nat.two_pow_add_eq_or_of_lt (i := 4 * i) (b := w % 16 ^ i) (by rw [e16]; exact hm) (w / 16 ^ i % 16); rw [e16] at this; rw [Nat.or_comm, Nat.mul_comm, ← this, Nat.add_comm]
theorem acc_step {bs : List Int} {N p i : Nat} {acc : Int} (h : accOK bs N p i acc) (hi : i ≤ 15) (hN : ¬ N < p + 5 * i + 5) (hc : ¬ gv bs N (p + 5 * i) 5 < 16) :
  accOK bs N p (i + 1) (bOr .u64 acc (IntKind.u64.wrap (bAnd .u64 (gv bs N (p + 5 * i) 5) 15 * 2 ^ (min ((4 * (i : Int)).toNat) 64)))) := by
 intro w hw hb; obtain ⟨h1, h2⟩ := h w hw hb; have h5 := num5 hb h1; unfold gv at hc ⊢; rw [if_neg hN] at hc ⊢; rw [h2, acc_val hw hi h5]; refine ⟨?_, rfl⟩; have hz : w / 16 ^ (i + 1) ≠ 0 := by
  intro hz; rw [if_neg (fun hh => hh hz)] at h5; have : w / 16 ^ i % 16 < 16 := Nat.mod_lt _ (by omega); omega
 by_cases e : i + 1 = grp w
 ·rw [e] at hz; exact absurd (grp_is w).2.1 hz
 ·omega
/-- What a reader of numbers answers, where a number lies. -/
def natRd (bs : List Int) (N p : Nat) (v er : Int) (p' : Nat) : Prop := ∀ w, w < 18446744073709551616 → bitsAt bs N p (natB w) → er = 0 ∧ v = (w : Int) ∧ p' = p + (natB w).length
theorem acc_done {bs : List Int} {N p i : Nat} {acc : Int} (h : accOK bs N p i acc) (hi : i ≤ 15) (hN : ¬ N < p + 5 * i + 5) (hc : gv bs N (p + 5 * i) 5 < 16) :
  natRd bs N p (bOr .u64 acc (IntKind.u64.wrap (bAnd .u64 (gv bs N (p + 5 * i) 5) 15 * 2 ^ (min ((4 * (i : Int)).toNat) 64)))) 0 (p + 5 * i + 5) := by
 intro w hw hb; obtain ⟨h1, h2⟩ := h w hw hb; have h5 := num5 hb h1; unfold gv at hc ⊢; rw [if_neg hN] at hc ⊢; rw [h2, acc_val hw hi h5]; have hz : w / 16 ^ (i + 1) = 0 := by
  by_cases hz : w / 16 ^ (i + 1) = 0
  ·exact hz
  ·rw [if_pos hz] at h5; omega
 have e : grp w = i + 1 := isGrp_unique (grp_is w) ⟨by omega, hz, fun j hj1 hj2 => (grp_is w).2.2 j hj1 (by omega)⟩; refine ⟨rfl, ?_, by rw [natB_len, e]; omega⟩
 congr 1
 have := Nat.div_add_mod w (16 ^ (i + 1)); rw [hz] at this; omega
theorem acc_short {bs : List Int} {N p i : Nat} {acc v er : Int} {p' : Nat} (h : accOK bs N p i acc) (hN : N < p + 5 * i + 5) : natRd bs N p v er p' := by
 intro w hw hb; have := at_len hb (h w hw hb).1; omega
theorem acc_long {bs : List Int} {N p i : Nat} {acc v er : Int} {p' : Nat} (h : accOK bs N p i acc) (hi : i = 16) : natRd bs N p v er p' := by
 intro w hw hb; have h1 := (h w hw hb).1; have h2 := (grp_le hw).2; omega
theorem acc_nil {bs : List Int} {N p i : Nat} {acc v er : Int} {p' : Nat} (h : accOK bs N p i acc) (hN : ¬ N < p + 5 * i + 5) (h0 : gv bs N (p + 5 * i) 5 = 0) (hi : 0 < i) : natRd bs N p v er p' := by
 intro w hw hb; obtain ⟨h1, h2⟩ := h w hw hb; have h5 := num5 hb h1; unfold gv at h0; rw [if_neg hN] at h0
 exfalso
 have hz : w / 16 ^ (i + 1) = 0 := by
  by_cases hz : w / 16 ^ (i + 1) = 0
  ·exact hz
  ·rw [if_pos hz] at h5; omega
 rw [if_neg (fun hh => hh hz)] at h5; have h6 : w / 16 ^ i ≠ 0 := (grp_is w).2.2 i hi h1; have h7 : w / 16 ^ i / 16 = 0 := by rw [Nat.div_div_eq_div_mul, ← Nat.pow_succ]; exact hz
 omega
/-- A signed number, read. -/
theorem unzz {d : Int} (h : inK .i64 d) : IntKind.i64.wrap (bXor .u64 ((zz d : Int).fdiv (2 ^ (min ((1 : Int).toNat) 64))) (IntKind.u64.wrap (-(bAnd .u64 (zz d : Int) 1)))) = d := by
 have hz := zz_lt h; have hd := h; simp only [inK] at hd; rw [bAnd_one rfl ⟨by omega, by omega⟩, show min (1 : Int).toNat 64 = 1 from rfl, Int.fdiv_eq_ediv_of_nonneg _ (by decide), wrap_u64]; unfold zz at hz ⊢
 by_cases h0 : 0 ≤ d
 ·rw [if_pos h0] at hz ⊢; rw [show ((2 * d).toNat : Int) % 2 = 0 by omega, show -(0 : Int) % 18446744073709551616 = 0 by decide, show ((2 * d).toNat : Int) / 2 ^ 1 = ((d.toNat : Nat) : Int) by omega, xor_zero64 (by omega)]; rw [wrap_in (k := .i64) (by simp only [inK]; omega)]; omega
 ·rw [if_neg h0] at hz ⊢; rw [show ((-2 * d - 1).toNat : Int) % 2 = 1 by omega, show -(1 : Int) % 18446744073709551616 = 18446744073709551615 by decide, show ((-2 * d - 1).toNat : Int) / 2 ^ 1 = (((-d - 1).toNat : Nat) : Int) by omega, xor_ones (by omega)]; rw [IntKind.wrap_i64]; omega
end Go.Proofs.Ytacmbiohjiogiaa.K
end
section
namespace Go.Proofs.Ytacmbiohjiogiaa.K
open Go.RowKit

def intRd (bs : List Int) (N p : Nat) (v er : Int) (p' : Nat) : Prop := ∀ d, inK .i64 d → bitsAt bs N p (natB (zz d)) → er = 0 ∧ v = d ∧ p' = p + (natB (zz d)).length
/-- The bits of a list behind the sums. -/
def full (old ys : List Int) : List Bool := natB ys.length ++ dBits old ys ys.length ++ dTail old ys ys.length
/-- A list whose difference lies at a place. -/
def Good (bs : List Int) (N p : Nat) (old ys : List Int) : Prop := ys.length ≤ 65536 ∧ (∀ y ∈ ys, inK .i64 y) ∧ bitsAt bs N p (full old ys)
/-- Between two numbers of the difference. -/
def bodyI (bs : List Int) (N p : Nat) (old : List Int) (cnt : Int) (q : Nat) (zs : List Int) : Prop :=
 ∀ ys, Good bs N p old ys → cnt = ys.length ∧ zs.length ≤ ys.length ∧ dRun old ys zs.length = 0 ∧ q = p + (natB ys.length ++ dBits old ys zs.length).length ∧ zs = ys.take zs.length
/-- Behind the number of those that are equal, of which r are still to come. -/
def bodyK (bs : List Int) (N p : Nat) (old : List Int) (cnt : Int) (q : Nat) (zs : List Int) (r : Nat) : Prop :=
 ∀ ys, Good bs N p old ys → cnt = ys.length ∧ ∃ j, zs.length + r = j ∧ j ≤ ys.length ∧ zs = ys.take zs.length ∧ (∀ i, zs.length ≤ i → i < j → ys.getD i 0 = base old i) ∧
  (j < ys.length → bitsAt bs N q (natB (zz (dd old ys j))) ∧ dRun old ys (j + 1) = 0 ∧ q + (natB (zz (dd old ys j))).length = p + (natB ys.length ++ dBits old ys (j + 1)).length)
theorem run_from {old ys : List Int} {k : Nat} (h0 : dRun old ys k = 0) : ∀ j, k ≤ j → (∀ i, k ≤ i → i < j → ys.getD i 0 = base old i) → dRun old ys j = j - k ∧ dBits old ys j = dBits old ys k
 | 0, hj, _ => by rw [show k = 0 by omega]; exact ⟨rfl, rfl⟩
 | j + 1, hj, hs => by
  by_cases e : k = j + 1
  ·rw [← e]; exact ⟨by omega, rfl⟩
  ·obtain ⟨h1, h2⟩ := run_from h0 j (by omega) (fun i hi1 hi2 => hs i hi1 (by omega)); have hj2 := hs j (by omega) (by omega); simp only [dRun, dBits]; rw [if_pos hj2, if_pos hj2, h1, h2]; exact ⟨by omega, rfl⟩
theorem next_other (old ys : List Int) (n : Nat) : ∀ m k, n = k + m → ∃ j, k ≤ j ∧ j ≤ n ∧ (∀ i, k ≤ i → i < j → ys.getD i 0 = base old i) ∧ (j = n ∨ ¬ ys.getD j 0 = base old j)
 | 0, k, h => ⟨k, Nat.le_refl _, by omega, fun i h1 h2 => by omega, .inl (by omega)⟩
 | m + 1, k, h => by
  by_cases hs : ys.getD k 0 = base old k
  ·obtain ⟨j, h1, h2, h3, h4⟩ := next_other old ys n m (k + 1) (by omega); refine ⟨j, by omega, h2, fun i hi1 hi2 => ?_, h4⟩
   by_cases e : i = k
   ·rw [e]; exact hs
   ·exact h3 i (by omega) hi2
  ·exact ⟨k, Nat.le_refl _, by omega, fun i h1 h2 => by omega, .inr hs⟩
theorem dBits_pre (old ys : List Int) {j : Nat} : ∀ {k : Nat}, j ≤ k → ∃ t, dBits old ys k = dBits old ys j ++ t
 | 0, h => ⟨[], by rw [show j = 0 by omega, List.append_nil]⟩
 | k + 1, h => by
  by_cases e : j = k + 1
  ·exact ⟨[], by rw [e, List.append_nil]⟩
  ·obtain ⟨t, ht⟩ := dBits_pre old ys (show j ≤ k by omega); simp only [dBits]
   split
   ·exact ⟨t, ht⟩
   ·exact ⟨t ++ natB (dRun old ys k) ++ natB (zz (dd old ys k)), by rw [ht]; simp only [List.append_assoc]⟩
theorem body_start {bs : List Int} {N p : Nat} {old : List Int} {v er : Int} {q : Nat} (h : natRd bs N p v er q) : ∀ ys, Good bs N p old ys → er = 0 ∧ v = ys.length ∧ q = p + (natB ys.length).length := by
 intro ys hg; have hb := hg.2.2; unfold full at hb; rw [List.append_assoc] at hb; have := bitsAt_mid (a := []) (by rw [List.nil_append]; exact hb); exact h ys.length (by have := hg.1; omega) (by simpa using this)
theorem body_first {bs : List Int} {N p : Nat} {old : List Int} {v : Int} {q : Nat} (h : natRd bs N p v 0 q) : bodyI bs N p old v q [] := fun ys hg => by
 obtain ⟨_, h2, h3⟩ := body_start h ys hg; exact ⟨h2, Nat.zero_le _, rfl, by rw [h3]; simp [dBits], by simp⟩
theorem body_run {bs : List Int} {N p : Nat} {old : List Int} {cnt : Int} {q : Nat} {zs : List Int} {v er : Int} {q' : Nat} (h : bodyI bs N p old cnt q zs) (hlt : (zs.length : Int) < cnt) (hr : natRd bs N q v er q') :
  ∀ ys, Good bs N p old ys → er = 0 ∧ ∃ j : Nat, v = (j : Int) - zs.length ∧ zs.length ≤ j ∧ j ≤ ys.length ∧ (∀ i, zs.length ≤ i → i < j → ys.getD i 0 = base old i) ∧
   (j < ys.length → bitsAt bs N q' (natB (zz (dd old ys j))) ∧ dRun old ys (j + 1) = 0 ∧ q' + (natB (zz (dd old ys j))).length = p + (natB ys.length ++ dBits old ys (j + 1)).length) := by
 intro ys hg; obtain ⟨h1, h2, h3, h4, h5⟩ := h ys hg; obtain ⟨j, j1, j2, j3, j4⟩ := next_other old ys ys.length (ys.length - zs.length) zs.length (by omega); obtain ⟨r1, r2⟩ := run_from h3 j j1 j3; have hlen : ys.length < 18446744073709551616 := by have := hg.1; omega
 have hb := hg.2.2; unfold full at hb
 by_cases ej : j = ys.length
 ·subst ej; rw [r2] at hb; unfold dTail at hb; rw [r1] at hb
  by_cases hz : 0 < ys.length - zs.length
  ·rw [if_pos hz] at hb; have hm := bitsAt_mid (c := []) (by rw [List.append_nil]; exact hb); rw [← h4] at hm; obtain ⟨e1, e2, e3⟩ := hr _ (by omega) hm; exact ⟨e1, ys.length, by rw [e2]; omega, j1, j2, j3, fun hh => absurd hh (Nat.lt_irrefl _)⟩
  ·omega
 ·have hns := j4.resolve_left ej; obtain ⟨t, ht⟩ := dBits_pre old ys (show j + 1 ≤ ys.length by omega); have hd : dBits old ys (j + 1) = dBits old ys zs.length ++ natB (j - zs.length) ++ natB (zz (dd old ys j)) := by
   simp only [dBits]; rw [if_neg hns, r1, r2]
  have hd0 : dRun old ys (j + 1) = 0 := by simp only [dRun]; rw [if_neg hns]
  rw [ht, hd] at hb; have hb1 : bitsAt bs N p ((natB ys.length ++ dBits old ys zs.length) ++ natB (j - zs.length) ++ (natB (zz (dd old ys j)) ++ t ++ dTail old ys ys.length)) := by simpa only [List.append_assoc] using hb
  have hb2 : bitsAt bs N p ((natB ys.length ++ dBits old ys zs.length ++ natB (j - zs.length)) ++ natB (zz (dd old ys j)) ++ (t ++ dTail old ys ys.length)) := by simpa only [List.append_assoc] using hb
  have hm1 := bitsAt_mid hb1; rw [← h4] at hm1; obtain ⟨e1, e2, e3⟩ := hr _ (by omega) hm1; have hm2 := bitsAt_mid hb2; refine ⟨e1, j, by rw [e2]; omega, j1, j2, j3, fun _ => ⟨?_, hd0, ?_⟩⟩
  ·rw [e3, h4]; rw [List.length_append, ← Nat.add_assoc] at hm2; exact hm2
  ·rw [e3, h4, hd]; simp only [List.length_append]; omega
theorem body_err {bs : List Int} {N p : Nat} {old : List Int} {cnt : Int} {q : Nat} {zs : List Int} {v er : Int} {q' : Nat} (h : bodyI bs N p old cnt q zs) (hlt : (zs.length : Int) < cnt) (hr : natRd bs N q v er q') (he : ¬ er = 0) : ∀ ys, ¬ Good bs N p old ys :=
 fun ys hg => he (body_run h hlt hr ys hg).1
theorem body_big {bs : List Int} {N p : Nat} {old : List Int} {cnt : Int} {q : Nat} {zs : List Int} {v er : Int} {q' : Nat} (h : bodyI bs N p old cnt q zs) (hlt : (zs.length : Int) < cnt) (hr : natRd bs N q v er q') (he : cnt - zs.length < v) : ∀ ys, ¬ Good bs N p old ys :=
 fun ys hg => by
  obtain ⟨_, j, h1, h2, h3, _⟩ := body_run h hlt hr ys hg; have := (h ys hg).1; omega
theorem body_K {bs : List Int} {N p : Nat} {old : List Int} {cnt : Int} {q : Nat} {zs : List Int} {v er : Int} {q' : Nat} (h : bodyI bs N p old cnt q zs) (hlt : (zs.length : Int) < cnt) (hr : natRd bs N q v er q') (hv : 0 ≤ v) : bodyK bs N p old cnt q' zs v.toNat :=
 fun ys hg => by
  obtain ⟨_, j, h1, h2, h3, h4, h5⟩ := body_run h hlt hr ys hg; exact ⟨(h ys hg).1, j, by omega, h3, (h ys hg).2.2.2.2, h4, h5⟩
theorem take_more {zs ys : List Int} (h : zs = ys.take zs.length) (hl : zs.length < ys.length) {z : Int} (hz : ys.getD zs.length 0 = z) : zs ++ [z] = ys.take (zs ++ [z]).length := by
 rw [List.length_append, List.length_singleton, List.take_add_one, ← h, ← hz, List.getD_eq_getElem?_getD, List.getElem?_eq_getElem hl]; rfl
theorem body_more {bs : List Int} {N p : Nat} {old : List Int} {cnt : Int} {q : Nat} {zs : List Int} {r : Nat} (h : bodyK bs N p old cnt q zs (r + 1)) : bodyK bs N p old cnt q (zs ++ [base old zs.length]) r :=
 fun ys hg => by
  obtain ⟨h0, j, h1, h2, h3, h4, h5⟩ := h ys hg; exact ⟨h0, j, by simp; omega, h2, take_more h3 (by omega) (h4 _ (Nat.le_refl _) (by omega)), fun i hi1 hi2 => h4 i (by simp at hi1; omega) hi2, h5⟩
theorem body_done {bs : List Int} {N p : Nat} {old : List Int} {cnt : Int} {q : Nat} {zs : List Int} (h : bodyK bs N p old cnt q zs 0) (he : (zs.length : Int) = cnt) : ∀ ys, Good bs N p old ys → (0 : Int) = 0 ∧ zs = ys :=
 fun ys hg => by
  obtain ⟨h0, j, h1, h2, h3, _⟩ := h ys hg; refine ⟨rfl, ?_⟩; rw [h3, List.take_of_length_le (by omega)]
theorem body_end {bs : List Int} {N p : Nat} {old : List Int} {cnt : Int} {q : Nat} {zs : List Int} (h : bodyI bs N p old cnt q zs) (he : ¬ (zs.length : Int) < cnt) : ∀ ys, Good bs N p old ys → (0 : Int) = 0 ∧ zs = ys :=
 fun ys hg => by
  obtain ⟨h1, h2, _, _, h5⟩ := h ys hg; refine ⟨rfl, ?_⟩; rw [h5, List.take_of_length_le (by omega)]
theorem body_int {bs : List Int} {N p : Nat} {old : List Int} {cnt : Int} {q : Nat} {zs : List Int} {v er : Int} {q' : Nat} (h : bodyK bs N p old cnt q zs 0) (he : ¬ (zs.length : Int) = cnt) (hr : intRd bs N q v er q') : ∀ ys, Good bs N p old ys → er = 0 ∧ v = dd old ys zs.length ∧ zs.length < ys.length ∧ dRun old ys (zs.length + 1) = 0 ∧ q' = p + (natB ys.length ++ dBits old ys (zs.length + 1)).length :=
 fun ys hg => by
  obtain ⟨h0, j, h1, h2, h3, h4, h5⟩ := h ys hg; have hj : j = zs.length := by omega
  subst hj; obtain ⟨b1, b2, b3⟩ := h5 (by omega); obtain ⟨e1, e2, e3⟩ := hr _ (dd_in _ _ _) b1; exact ⟨e1, e2, by omega, b2, by rw [e3]; exact b3⟩
theorem body_interr {bs : List Int} {N p : Nat} {old : List Int} {cnt : Int} {q : Nat} {zs : List Int} {v er : Int} {q' : Nat} (h : bodyK bs N p old cnt q zs 0) (he : ¬ (zs.length : Int) = cnt) (hr : intRd bs N q v er q') (h0 : ¬ er = 0) : ∀ ys, ¬ Good bs N p old ys :=
 fun ys hg => h0 (body_int h he hr ys hg).1
theorem dd_back {y b : Int} (hy : inK .i64 y) : IntKind.i64.wrap (b + IntKind.i64.wrap (y - b)) = y := by
 simp only [inK] at hy; rw [IntKind.wrap_i64, IntKind.wrap_i64]; omega
theorem body_next {bs : List Int} {N p : Nat} {old : List Int} {cnt : Int} {q : Nat} {zs : List Int} {v er : Int} {q' : Nat} (h : bodyK bs N p old cnt q zs 0) (he : ¬ (zs.length : Int) = cnt) (hr : intRd bs N q v er q') : bodyI bs N p old cnt q' (zs ++ [IntKind.i64.wrap (base old zs.length + v)]) :=
 fun ys hg => by
  obtain ⟨e1, e2, e3, e4, e5⟩ := body_int h he hr ys hg; obtain ⟨h0, j, h1, h2, h3, _⟩ := h ys hg; have hy : ys.getD zs.length 0 = IntKind.i64.wrap (base old zs.length + v) := by
   rw [e2]; unfold dd; exact (dd_back (hg.2.1 _ (getD_mem e3))).symm
  refine ⟨h0, by simp; omega, by simpa using e4, by simpa using e5, take_more h3 e3 hy⟩
end Go.Proofs.Ytacmbiohjiogiaa.K
end
section
set_option linter.unusedVariables false
set_option linter.unusedSimpArgs false
set_option maxRecDepth 100000
namespace Go.Proofs.Ytacmbiohjiogiaa.K
open Go.RowKit

theorem bXor_in (k : IntKind) (a b : Int) : inK k (bXor k a b) := by unfold bXor; exact inK_wrap _ _
def shrU (a n : Int) : Int := a.fdiv (2 ^ (min n.toNat IntKind.u64.bits))
/-- What Mix answers. -/
def mixF (a : Int) : Int :=
 let b := IntKind.u64.wrap (bXor .u64 a (shrU a 31) * 7640891576956012809)
 let c := IntKind.u64.wrap (bXor .u64 b (shrU b 27) * 13503953896175478587)
 bXor .u64 c (shrU c 30)
def joinF (h v : Int) : Int := mixF (IntKind.u64.wrap (IntKind.u64.wrap (mixF (IntKind.u64.wrap (h + 5840696475078001361)) * 11170449401992604703) + v))
/-- The sum of a list of words. -/
def sumW (ws : List Int) : Int := ws.foldl joinF (joinF 5840696475078001361 ws.length)
def sumI (xs : List Int) : Int := sumW (xs.map IntKind.u64.wrap)
theorem joinF_in (h v : Int) : inK .u64 (joinF h v) := bXor_in _ _ _
theorem foldl_in : ∀ (ws : List Int) (h : Int), inK .u64 h → inK .u64 (ws.foldl joinF h)
 | [], _, hh => hh
 | w :: ws, h, _ => foldl_in ws (joinF h w) (joinF_in h w)
theorem sumI_bd (xs : List Int) : 0 ≤ sumI xs ∧ sumI xs ≤ 18446744073709551615 := by
 have := foldl_in (xs.map IntKind.u64.wrap) _ (joinF_in 5840696475078001361 (xs.map IntKind.u64.wrap).length); exact this
theorem foldl_step {ws : List Int} {k : Nat} (h0 : Int) (hk : k < ws.length) : joinF ((ws.take k).foldl joinF h0) (ws.getD k 0) = (ws.take (k + 1)).foldl joinF h0 := by
 rw [List.take_add_one, List.foldl_append, List.getD_eq_getElem?_getD, List.getElem?_eq_getElem hk]; rfl

theorem Mix_c {V : Mem} (a : Int) : CallS Try.prog 208 [.int .u64 a].toArray V [] (fun r L' => r = .int .u64 (mixF a) ∧ L' = []) := by
 refine callS Try.func208 rfl rfl (fun w0 => ?_); refine s_seq (s_region ?_); refine o_val rfl rfl rfl (y_assign (v := (.int _ _)) rfl) (o_nil ?_); refine s_seq (s_region ?_); refine o_val rfl rfl rfl (y_move (v := (.int _ _)) rfl) ?_; refine o_val rfl rfl rfl (y_move (v := (.int _ _)) rfl) ?_; refine o_val rfl rfl rfl (y_shr rfl rfl (by omega)) ?_; refine o_val rfl rfl rfl (y_xor rfl rfl) ?_; refine o_val rfl rfl rfl (y_mul' rfl rfl) ?_; refine o_val rfl rfl rfl (y_assign (v := (.int _ _)) rfl) (o_nil ?_); refine s_seq (s_region ?_); refine o_val rfl rfl rfl (y_move (v := (.int _ _)) rfl) ?_; refine o_val rfl rfl rfl (y_move (v := (.int _ _)) rfl) ?_; refine o_val rfl rfl rfl (y_shr rfl rfl (by omega)) ?_; refine o_val rfl rfl rfl (y_xor rfl rfl) ?_; refine o_val rfl rfl rfl (y_mul' rfl rfl) ?_; refine o_val rfl rfl rfl (y_assign (v := (.int _ _)) rfl) (o_nil ?_); refine s_seq (s_region ?_); refine o_val rfl rfl rfl (y_move (v := (.int _ _)) rfl) ?_; refine o_val rfl rfl rfl (y_move (v := (.int _ _)) rfl) ?_; refine o_val rfl rfl rfl (y_shr rfl rfl (by omega)) ?_; refine o_val rfl rfl rfl (y_xor rfl rfl) ?_; refine o_val rfl rfl rfl (y_assign (v := (.int _ _)) rfl) (o_nil ?_); refine s_ret ?_; exact ⟨_, _, res1 rfl rfl, ⟨rfl, rfl⟩, sub_front ⟨_, rfl⟩⟩

theorem Join_c {V : Mem} (h v : Int) : CallS Try.prog 178 [.int .u64 h, .int .u64 v].toArray V [] (fun r L' => r = .int .u64 (joinF h v) ∧ L' = []) := by
 refine callS Try.func178 rfl rfl (fun w0 => ?_); refine s_seq (s_region ?_); refine o_val rfl rfl rfl (y_assign (v := (.int _ _)) rfl) (o_nil ?_); refine s_seq (s_region ?_); refine o_val rfl rfl rfl (y_move (v := (.int _ _)) rfl) ?_; refine o_val rfl rfl rfl (y_add' rfl rfl) ?_; refine o_fn 0 (d := 7) rfl Try.call208 (Mix_c _) rfl ?_; rintro _ _ ⟨rfl, rfl⟩; refine o_val rfl rfl rfl (y_mul' rfl rfl) ?_; refine o_val rfl rfl rfl (y_move (v := (.int _ _)) rfl) ?_; refine o_val rfl rfl rfl (y_add' rfl rfl) ?_; refine o_fn 0 (d := 11) rfl Try.call208 (Mix_c _) rfl ?_; rintro _ _ ⟨rfl, rfl⟩; refine o_val rfl rfl rfl (y_assign (v := (.int _ _)) rfl) (o_nil ?_); refine s_ret ?_; exact ⟨_, _, res1 rfl rfl, ⟨rfl, rfl⟩, sub_front ⟨_, rfl⟩⟩

theorem Words_c {V : Mem} (A : Option Addr) (n c : Nat) (ws : List Int) (h : Cels V [] A (ws.map (.int .u64))) (hn : ws.length = n) (hb : n ≤ 140737488355328) : CallS Try.prog 119 [.slice A n c].toArray V [] (fun r L' => r = .int .u64 (sumW ws) ∧ L' = []) := by
 refine callS Try.func119 rfl rfl (fun w0 => ?_); refine s_seq (s_region ?_); refine o_val rfl rfl rfl (y_assign (v := (.int _ _)) rfl) (o_nil ?_); refine s_seq (s_region ?_); refine o_val rfl rfl rfl (y_move (v := (.slice _ _ _)) rfl) ?_; refine o_val rfl rfl rfl (y_len Try.runUnderlying218 rfl) ?_; refine o_val rfl rfl rfl (y_conv Try.runUnderlying3 Try.runUnderlying86 rfl (by simp only [inK]; omega)) ?_; refine o_fn 0 (d := 9) rfl Try.call178 (Join_c _ _) rfl ?_; rintro _ _ ⟨rfl, rfl⟩; refine o_val rfl rfl rfl (y_assign (v := (.int _ _)) rfl) (o_nil ?_); refine s_seq ?_; refine s_seq (s_region ?_); refine o_val rfl rfl rfl (y_move (v := (.slice _ _ _)) rfl) ?_; refine o_val rfl rfl rfl (y_len Try.runUnderlying218 rfl) ?_; refine o_val rfl rfl rfl (y_move (v := (.int _ _)) rfl) (o_nil ?_); refine s_block ?_; refine s_loop (γ := Nat) (fun g => [(3, .int .u64 ((ws.take g).foldl joinF (joinF 5840696475078001361 n))), (10, .slice A n c), (11, .int .i64 n), (12, .int .i64 g)]) (fun g => []) (fun g => g ≤ n) (fun g => n - g) (0) ?_ ⟨rfl, rfl, rfl, rfl, trivial⟩ (sub_front ⟨_, rfl⟩) ?_
 ·exact Nat.zero_le _
 ·intro g _f hI; refine s_seq (s_region ?_); refine o_val rfl rfl rfl (y_lss rfl rfl) (o_nil ?_); refine s_seq ?_; refine s_if rfl (fun h1 => ?_) (fun h2 => ?_)
  ·refine s_skip ?_; refine s_seq ?_; refine s_block ?_; refine s_seq (s_region ?_); refine o_val rfl rfl rfl (y_index1 Try.runUnderlying218 Try.sizeOf86 (some_int (i := 0) h (by omega)) rfl rfl (by omega)) ?_; refine o_val rfl rfl rfl (y_load Try.isAgg86 rfl (cel_int h.here (by omega))) ?_; refine o_val rfl rfl rfl (y_assign (v := (.int _ _)) rfl) (o_nil ?_); refine s_region ?_; refine o_val rfl rfl rfl (y_move (v := (.int _ _)) rfl) ?_; refine o_val rfl rfl rfl (y_move (v := (.int _ _)) rfl) ?_; refine o_fn 0 (d := 18) rfl Try.call178 (Join_c _ _) rfl ?_; rintro _ _ ⟨rfl, rfl⟩; refine o_val rfl rfl rfl (y_assign (v := (.int _ _)) rfl) (o_nil ?_); refine s_region ?_; refine o_val rfl rfl rfl (y_add rfl rfl (by simp only [inK]; omega)) ?_; refine o_val rfl rfl rfl (y_move (v := (.int _ _)) rfl) (o_nil ?_); exact ⟨g + 1, (by first | omega | (dsimp only; omega)), (show g + 1 ≤ n by omega), ⟨(congrArg (Value.int .u64) (foldl_step _ (by omega))), rfl, rfl, (congrArg (Value.int _) (by omega)), trivial⟩, sub_front ⟨_, rfl⟩⟩
  ·refine s_exit ?_; refine s_seq (s_region ?_); refine o_val rfl rfl rfl (y_move (v := (.int _ _)) rfl) ?_; refine o_val rfl rfl rfl (y_assign (v := (.int _ _)) rfl) (o_nil ?_); refine s_ret ?_; have hin : g = n := by omega
   exact ⟨_, _, res1 rfl rfl, ⟨congrArg (Value.int .u64) (by unfold sumW; rw [hin, ← hn, List.take_length]), rfl⟩, sub_front ⟨_, rfl⟩⟩

theorem map_set_step {xs : List Int} {k : Nat} (hk : k < xs.length) : ((xs.take k).map IntKind.u64.wrap ++ List.replicate (xs.length - k) (0 : Int)).set k (IntKind.u64.wrap (xs.getD k 0)) = (xs.take (k + 1)).map IntKind.u64.wrap ++ List.replicate (xs.length - (k + 1)) (0 : Int) := by
 have e : xs.length - k = xs.length - (k + 1) + 1 := by omega
 rw [e, List.replicate_succ, List.set_append_right _ _ (by simp; omega), List.take_add_one, List.map_append, List.getD_eq_getElem?_getD, List.getElem?_eq_getElem hk]; simp [Nat.min_eq_left (Nat.le_of_lt hk)]

theorem SumInts_c {V : Mem} (A : Option Addr) (n c : Nat) (xs : List Int) (h : Cels V [] A (xs.map (.int .i64))) (hn : xs.length = n) (hb : n ≤ 17592186044416) : CallS Try.prog 42 [.slice A n c].toArray V [] (fun r L' => r = .int .u64 (sumI xs) ∧ L' = []) := by
 refine callS Try.func42 rfl rfl (fun w0 => ?_); refine s_seq (s_region ?_); refine o_val rfl rfl rfl (y_assign (v := (.int _ _)) rfl) (o_nil ?_); refine s_seq (s_region ?_); refine o_val rfl rfl rfl (y_move (v := (.slice _ _ _)) rfl) ?_; refine o_val rfl rfl rfl (y_len Try.runUnderlying22 rfl) ?_; refine o_make (sz := 1) (bytes := 8) (n := n) rfl Try.underlying218 Try.type86 rfl rfl rfl rfl rfl (by omega) (fun A1 E2 ho3 hs4 => ?_); have ho5 : OS A1 n n 86 1 ((List.replicate n (0 : Int)).map (.int .u64)) E2 := os_made_int ho3
 clear ho3
 refine o_val rfl rfl rfl (y_assign (v := (.slice _ _ _)) rfl) (o_nil ?_); refine s_seq ?_; refine s_seq (s_region ?_); refine o_val rfl rfl rfl (y_move (v := (.slice _ _ _)) rfl) ?_; refine o_val rfl rfl rfl (y_len Try.runUnderlying22 rfl) ?_; refine o_val rfl rfl rfl (y_move (v := (.int _ _)) rfl) (o_nil ?_); refine s_block ?_; refine s_loop (γ := Nat × Grp) (fun g => [(3, .slice A1 n n), (9, .slice A n c), (10, .int .i64 n), (11, .int .i64 g.1)]) (fun g => [g.2]) (fun g => g.1 ≤ n ∧ OS A1 n n 86 1 (((xs.take g.1).map IntKind.u64.wrap ++ List.replicate (xs.length - g.1) (0 : Int)).map (.int .u64)) g.2) (fun g => n - g.1) ((0, E2)) ?_ ⟨rfl, rfl, rfl, rfl, trivial⟩ (sub_front ⟨_, rfl⟩) ?_
 ·exact ⟨Nat.zero_le _, by simpa [hn] using ho5⟩
 ·intro g _f hI; obtain ⟨hg, ho⟩ := hI; refine s_seq (s_region ?_); refine o_val rfl rfl rfl (y_lss rfl rfl) (o_nil ?_); refine s_seq ?_; refine s_if rfl (fun h6 => ?_) (fun h7 => ?_)
  ·refine s_skip ?_; refine s_seq ?_; refine s_block ?_; refine s_seq (s_region ?_); refine o_val rfl rfl rfl (y_move (v := (.int _ _)) rfl) ?_; refine o_val rfl rfl rfl (y_index1 Try.runUnderlying22 Try.sizeOf3 (some_int (i := 0) h (by omega)) rfl rfl (by omega)) ?_; refine o_val rfl rfl rfl (y_load Try.isAgg3 rfl (cel_int h.here (by omega))) ?_; refine o_val rfl rfl rfl (y_assign (v := (.int _ _)) rfl) ?_; refine o_val rfl rfl rfl (y_assign (v := (.int _ _)) rfl) (o_nil ?_); refine s_region ?_; refine o_val rfl rfl rfl (y_move (v := (.slice _ _ _)) rfl) ?_; refine o_val rfl rfl rfl (y_move (v := (.int _ _)) rfl) ?_; refine o_val rfl rfl rfl (y_move (v := (.int _ _)) rfl) ?_; refine o_val rfl rfl rfl (y_conv' Try.runUnderlying3 Try.runUnderlying86 rfl) ?_; refine o_val rfl rfl rfl (y_index1 Try.runUnderlying218 Try.sizeOf86 (ho.some_of (by omega)) rfl rfl (by omega)) ?_; refine o_store_os (vs := [(.int _ _)]) 0 rfl ho Try.sizeOf86 rfl rfl rfl (by simp [Value.oneCell']) (by simp) (by simp; omega) (fun E8 ho9 => ?_); have ho10 := os_lay_int ho9 (by simp; omega)
   clear ho9
   refine o_nil ?_; refine s_region ?_; refine o_val rfl rfl rfl (y_add rfl rfl (by simp only [inK]; omega)) ?_; refine o_val rfl rfl rfl (y_move (v := (.int _ _)) rfl) (o_nil ?_); exact ⟨(g.1 + 1, E8), (by first | omega | (dsimp only; omega)), ⟨by dsimp only; omega, by have hs := ho10; rw [show ((g.1 : Nat) : Int).toNat = g.1 from rfl, map_set_step (by omega)] at hs; exact hs⟩, ⟨rfl, rfl, rfl, (congrArg (Value.int _) (by dsimp only; omega)), trivial⟩, sub_front ⟨_, rfl⟩⟩
  ·refine s_exit ?_; refine s_seq (s_region ?_); have hin : g.1 = n := by omega
   rw [hin, ← hn, List.take_length, Nat.sub_self, List.replicate_zero, List.append_nil] at ho; refine o_val rfl rfl rfl (y_move (v := (.slice _ _ _)) rfl) ?_; refine o_fn 0 (d := 23) rfl Try.call119 (Words_c _ _ _ (xs.map IntKind.u64.wrap) (ho.cels (j := 0) rfl).down (by simp [hn]) (by omega)) rfl ?_; rintro _ _ ⟨rfl, rfl⟩; refine o_val rfl rfl rfl (y_assign (v := (.int _ _)) rfl) (o_nil ?_); refine s_ret ?_; exact ⟨_, _, res1 rfl rfl, ⟨rfl, rfl⟩, sub_front ⟨_, rfl⟩⟩

theorem groups_c {V : Mem} (v : Nat) (hv : v < 18446744073709551616) : CallS Try.prog 203 [.int .u64 v].toArray V [] (fun r L' => r = .int .i64 (grp v : Nat) ∧ L' = []) := by
 refine callS Try.func203 rfl rfl (fun w0 => ?_); refine s_seq (s_region ?_); refine o_val rfl rfl rfl (y_assign (v := (.int _ _)) rfl) (o_nil ?_); refine s_seq (s_region ?_); refine o_val rfl rfl rfl (y_assign (v := (.int _ _)) rfl) (o_nil ?_); refine s_seq ?_; refine s_seq (s_region ?_); refine o_val rfl rfl rfl (y_move (v := (.int _ _)) rfl) ?_; refine o_val rfl rfl rfl ((y_shr rfl rfl (by omega)).int (shr4 v)) ?_; refine o_val rfl rfl rfl (y_assign (v := (.int _ _)) rfl) (o_nil ?_); refine s_block ?_; refine s_loop (γ := Nat) (fun g => [(0, .int .u64 ((v / 16 ^ g : Nat) : Int)), (3, .int .i64 g)]) (fun g => []) (fun g => 1 ≤ g ∧ g ≤ 16 ∧ ∀ j, 1 ≤ j → j < g → v / 16 ^ j ≠ 0) (fun g => 17 - g) (1) ?_ ⟨(by rw [Nat.pow_one]; rfl), rfl, trivial⟩ (sub_front ⟨_, rfl⟩) ?_
 ·exact ⟨Nat.le_refl _, by omega, fun j h1 h2 => by omega⟩
 ·intro g _f hI; obtain ⟨h1, h2, h3⟩ := hI; refine s_seq ?_; refine s_seq (s_region ?_); refine o_val rfl rfl rfl (y_move (v := (.int _ _)) rfl) ?_; refine o_val rfl rfl rfl (y_gtr rfl rfl) (o_nil ?_); refine s_if rfl (fun h1 => ?_) (fun h2 => ?_)
  ·have hpos := h1; have hg16 : g < 16 := Nat.lt_of_not_le (fun hh => by rw [div16_zero hv hh] at hpos; omega); refine s_skip ?_; refine s_seq ?_; refine s_block ?_; refine s_region ?_; refine o_val rfl rfl rfl (y_move (v := (.int _ _)) rfl) ?_; refine o_val rfl rfl rfl (y_add rfl rfl (by simp only [inK]; omega)) ?_; refine o_val rfl rfl rfl (y_assign (v := (.int _ _)) rfl) (o_nil ?_); refine s_region ?_; refine o_val rfl rfl rfl (y_move (v := (.int _ _)) rfl) ?_; refine o_val rfl rfl rfl ((y_shr rfl rfl (by omega)).int (shr4 (v / 16 ^ g))) ?_; refine o_val rfl rfl rfl (y_assign (v := (.int _ _)) rfl) (o_nil ?_); exact ⟨g + 1, (by first | omega | (dsimp only; omega)), ⟨by omega, by omega, fun j hj1 hj2 => if e : j = g then by rw [e]; omega else h3 j hj1 (by omega)⟩, ⟨(congrArg (Value.int .u64) (by rw [Nat.pow_succ, ← Nat.div_div_eq_div_mul])), (congrArg (Value.int _) (by omega)), trivial⟩, sub_front ⟨_, rfl⟩⟩
  ·have hzero : v / 16 ^ g = 0 := Nat.eq_zero_of_not_pos (fun hh => h2 (Int.natCast_pos.2 hh)); refine s_exit ?_; refine s_seq (s_region ?_); refine o_val rfl rfl rfl (y_move (v := (.int _ _)) rfl) ?_; refine o_val rfl rfl rfl (y_assign (v := (.int _ _)) rfl) (o_nil ?_); refine s_ret ?_; exact ⟨_, _, res1 rfl rfl, ⟨congrArg (fun k : Nat => Value.int .i64 k) (isGrp_unique ⟨h1, hzero, h3⟩ (grp_is v)), rfl⟩, sub_front ⟨_, rfl⟩⟩

end Go.Proofs.Ytacmbiohjiogiaa.K
end
section
set_option linter.unusedVariables false
set_option linter.unusedSimpArgs false
set_option maxRecDepth 100000
namespace Go.Proofs.Ytacmbiohjiogiaa.K
open Go.RowKit

theorem WNat_c (p : Nat) (A : Option Addr) (m c : Nat) (E : Grp) (bs : List Int) (bits : List Bool) (v : Nat) (hW : Wr bs bits) (hos : OS A m c 5 1 (bs.map (.int .u8)) E) (hv : v < 18446744073709551616) (hfit : bits.length ≤ 524288) (V : Mem) : CallS Try.prog 165 [.pointer (some ⟨p, 0, none⟩), .int .u64 v].toArray V [wgrp p A m c bits.length, E] (fun r L' => r = .int .i64 (wE bits (natB v)) ∧ ∃ A m c E bs', Wr bs' (wB bits (natB v)) ∧ OS A m c 5 1 (bs'.map (.int .u8)) E ∧ L' = [wgrp p A m c ((wB bits (natB v)).length : Nat), E]) := by
 have hg := grp_le hv; have hnl := natB_len v; refine callS Try.func165 rfl rfl (fun w0 => ?_); refine s_seq (s_region ?_); refine o_val rfl rfl rfl (y_assign (v := (.int _ _)) rfl) (o_nil ?_); refine s_seq (s_region ?_); refine o_val rfl rfl rfl (y_move (v := (.int _ _)) rfl) ?_; refine o_fn 0 (d := 9) rfl Try.call203 (groups_c v hv) rfl ?_; rintro _ _ ⟨rfl, rfl⟩; refine o_val rfl rfl rfl (y_assign (v := (.int _ _)) rfl) (o_nil ?_); refine s_seq ?_; refine s_seq (s_region ?_); refine o_val rfl rfl rfl (y_move (v := (.pointer _)) rfl) ?_; refine o_val rfl rfl rfl (y_nilCheck rfl) ?_; refine o_val rfl rfl rfl (y_field0 Try.runUnderlying266 rfl Try.sizeOf3 rfl rfl) ?_; refine o_val rfl rfl rfl (y_load Try.isAgg3 rfl (cel_own 0 rfl rfl)) ?_; refine o_val rfl rfl rfl (y_move (v := (.int _ _)) rfl) ?_; refine o_val rfl rfl rfl (y_mul rfl rfl (by simp only [inK]; omega)) ?_; refine o_val rfl rfl rfl (y_add rfl rfl (by simp only [inK]; omega)) ?_; refine o_val rfl rfl rfl (y_gtr rfl rfl) (o_nil ?_); refine s_if rfl (fun h1 => ?_) (fun h2 => ?_)
 ·have hbig : 524288 < bits.length + (natB v).length := by omega
  refine s_seq (s_region ?_); refine o_val rfl rfl rfl (y_assign (v := (.int _ _)) rfl) (o_nil ?_); refine s_ret ?_; exact ⟨_, [_, _], res1 rfl rfl, ⟨by unfold wE; rw [if_pos hbig]; rfl, _, _, _, _, _, by unfold wB; rw [if_pos hbig]; exact hW, hos, by unfold wB; rw [if_pos hbig]⟩, sub_front ⟨_, rfl⟩⟩
 ·have hok : ¬ 524288 < bits.length + (natB v).length := by omega
  refine s_skip ?_; refine s_seq ?_; refine s_seq (s_region ?_); refine o_val rfl rfl rfl (y_move (v := (.int _ _)) rfl) ?_; refine o_val rfl rfl rfl (y_move (v := (.int _ _)) rfl) (o_nil ?_); refine s_block ?_; refine s_loop (γ := WS) (fun g => [(0, .pointer (some ⟨p, 0, none⟩)), (1, .int .u64 v), (5, .int .i64 (grp v : Nat)), (18, .int .i64 (grp v : Nat)), (19, .int .i64 g.i)]) (fun g => [wgrp p g.A g.n g.c (g.bits.length : Nat), g.E]) (fun g => g.i ≤ grp v ∧ g.bits = bits ++ natBits v g.i ∧ Wr g.bs g.bits ∧ OS g.A g.n g.c 5 1 (g.bs.map (.int .u8)) g.E) (fun g => grp v - g.i) (WS.mk 0 A m c E bs bits) ?_ ⟨rfl, rfl, rfl, rfl, rfl, trivial⟩ (sub_front ⟨_, rfl⟩) ?_
  ·exact ⟨Nat.zero_le _, by rw [natBits_zero, List.append_nil], hW, hos⟩
  ·intro g _f hI; obtain ⟨hi, hbits, hW0, ho0⟩ := hI; refine s_seq (s_region ?_); refine o_val rfl rfl rfl (y_lss rfl rfl) (o_nil ?_); refine s_seq ?_; refine s_if rfl (fun h3 => ?_) (fun h4 => ?_)
   ·refine s_skip ?_; refine s_seq ?_; refine s_block ?_; refine s_seq (s_region ?_); refine o_val rfl rfl rfl (y_move (v := (.int _ _)) rfl) ?_; refine o_val rfl rfl rfl (y_assign (v := (.int _ _)) rfl) (o_nil ?_); refine s_seq (s_region ?_); refine o_val rfl rfl rfl (y_assign (v := (.int _ _)) rfl) (o_nil ?_); refine s_seq ?_; refine s_seq (s_region ?_); refine o_val rfl rfl rfl (y_move (v := (.int _ _)) rfl) ?_; refine o_val rfl rfl rfl (y_add rfl rfl (by simp only [inK]; omega)) ?_; refine o_val rfl rfl rfl (y_move (v := (.int _ _)) rfl) ?_; refine o_val rfl rfl rfl (y_lss rfl rfl) (o_nil ?_); refine s_if rfl (fun h5 => ?_) (fun h6 => ?_)
    ·refine s_region ?_; refine o_val rfl rfl rfl (y_assign (v := (.int _ _)) rfl) (o_nil ?_); refine s_region ?_; refine o_val rfl rfl rfl (y_move (v := (.pointer _)) rfl) ?_; refine o_val rfl rfl rfl (y_move (v := (.int _ _)) rfl) ?_; refine o_val rfl rfl rfl (y_move (v := (.int _ _)) rfl) ?_; refine o_val rfl rfl rfl (y_mul rfl rfl (by simp only [inK]; omega)) ?_; refine o_val rfl rfl rfl (y_shr rfl rfl (by omega)) ?_; refine o_val rfl rfl rfl (y_and rfl rfl) ?_; refine o_val rfl rfl rfl (y_move (v := (.int _ _)) rfl) ?_; refine o_val rfl rfl rfl ((y_or rfl rfl).int (by first | exact nib1 hv (by omega) | exact nib0 hv (by omega))) ?_; refine o_fn 2 (d := 34) rfl Try.call164 (Put_c _ _ _ _ _ _ _ _ 5 hW0 ho0 (by omega) (by omega) (fun _ => by omega) (by rw [hbits, List.length_append, natBits_len]; omega) _) rfl ?_; rintro _ _ ⟨rfl, A7, m8, c9, E10, bs11, hW12, ho13, rfl⟩; refine o_nil ?_; refine s_region ?_; refine o_val rfl rfl rfl (y_add rfl rfl (by simp only [inK]; omega)) ?_; refine o_val rfl rfl rfl (y_move (v := (.int _ _)) rfl) (o_nil ?_); exact ⟨WS.mk (g.i + 1) A7 m8 c9 E10 bs11 _, (by first | omega | (dsimp only; omega)), ⟨by dsimp only; omega, by dsimp only; rw [hbits, List.append_assoc]; first | rw [nat_more (grp_is v) (by omega)] | rw [nat_last (grp_is v) (by omega) (by omega)], hW12, ho13⟩, ⟨rfl, rfl, rfl, rfl, (congrArg (Value.int _) (by dsimp only; omega)), trivial⟩, sub_front ⟨_, rfl⟩⟩
    ·refine s_skip ?_; refine s_region ?_; refine o_val rfl rfl rfl (y_move (v := (.pointer _)) rfl) ?_; refine o_val rfl rfl rfl (y_move (v := (.int _ _)) rfl) ?_; refine o_val rfl rfl rfl (y_move (v := (.int _ _)) rfl) ?_; refine o_val rfl rfl rfl (y_mul rfl rfl (by simp only [inK]; omega)) ?_; refine o_val rfl rfl rfl (y_shr rfl rfl (by omega)) ?_; refine o_val rfl rfl rfl (y_and rfl rfl) ?_; refine o_val rfl rfl rfl (y_move (v := (.int _ _)) rfl) ?_; refine o_val rfl rfl rfl ((y_or rfl rfl).int (by first | exact nib1 hv (by omega) | exact nib0 hv (by omega))) ?_; refine o_fn 2 (d := 34) rfl Try.call164 (Put_c _ _ _ _ _ _ _ _ 5 hW0 ho0 (by omega) (by omega) (fun _ => by omega) (by rw [hbits, List.length_append, natBits_len]; omega) _) rfl ?_; rintro _ _ ⟨rfl, A14, m15, c16, E17, bs18, hW19, ho20, rfl⟩; refine o_nil ?_; refine s_region ?_; refine o_val rfl rfl rfl (y_add rfl rfl (by simp only [inK]; omega)) ?_; refine o_val rfl rfl rfl (y_move (v := (.int _ _)) rfl) (o_nil ?_); exact ⟨WS.mk (g.i + 1) A14 m15 c16 E17 bs18 _, (by first | omega | (dsimp only; omega)), ⟨by dsimp only; omega, by dsimp only; rw [hbits, List.append_assoc]; first | rw [nat_more (grp_is v) (by omega)] | rw [nat_last (grp_is v) (by omega) (by omega)], hW19, ho20⟩, ⟨rfl, rfl, rfl, rfl, (congrArg (Value.int _) (by dsimp only; omega)), trivial⟩, sub_front ⟨_, rfl⟩⟩
   ·refine s_exit ?_; refine s_seq (s_region ?_); refine o_val rfl rfl rfl (y_assign (v := (.int _ _)) rfl) (o_nil ?_); refine s_ret ?_; have hin : g.i = grp v := by omega
    have e1 : wB bits (natB v) = g.bits := by unfold wB; rw [if_neg hok, hbits, hin]; rfl
    exact ⟨_, [_, _], res1 rfl rfl, ⟨by unfold wE; rw [if_neg hok]; rfl, _, _, _, _, _, by rw [e1]; exact hW0, ho0, by rw [e1]⟩, sub_front ⟨_, rfl⟩⟩

theorem WInt_c (p : Nat) (A : Option Addr) (m c : Nat) (E : Grp) (bs : List Int) (bits : List Bool) (d : Int) (hW : Wr bs bits) (hos : OS A m c 5 1 (bs.map (.int .u8)) E) (hd : inK .i64 d) (hfit : bits.length ≤ 524288) (V : Mem) : CallS Try.prog 167 [.pointer (some ⟨p, 0, none⟩), .int .i64 d].toArray V [wgrp p A m c bits.length, E] (fun r L' => r = .int .i64 (wE bits (natB (zz d))) ∧ ∃ A m c E bs', Wr bs' (wB bits (natB (zz d))) ∧ OS A m c 5 1 (bs'.map (.int .u8)) E ∧ L' = [wgrp p A m c ((wB bits (natB (zz d))).length : Nat), E]) := by
 refine callS Try.func167 rfl rfl (fun w0 => ?_); refine s_seq (s_region ?_); refine o_val rfl rfl rfl (y_assign (v := (.int _ _)) rfl) (o_nil ?_); refine s_seq (s_region ?_); refine o_val rfl rfl rfl (y_move (v := (.pointer _)) rfl) ?_; refine o_val rfl rfl rfl (y_move (v := (.int _ _)) rfl) ?_; refine o_val rfl rfl rfl (y_conv' Try.runUnderlying3 Try.runUnderlying86 rfl) ?_; refine o_val rfl rfl rfl (y_shl rfl rfl (by omega)) ?_; refine o_val rfl rfl rfl (y_move (v := (.int _ _)) rfl) ?_; refine o_val rfl rfl rfl (y_shr rfl rfl (by omega)) ?_; refine o_val rfl rfl rfl (y_conv' Try.runUnderlying3 Try.runUnderlying86 rfl) ?_; refine o_val rfl rfl rfl ((y_xor rfl rfl).int (by exact zz_writer hd)) ?_; refine o_fn 2 (d := 13) rfl Try.call165 (WNat_c _ _ _ _ _ _ _ (zz d) hW hos (zz_lt hd) hfit _) rfl ?_; rintro _ _ ⟨rfl, A1, m2, c3, E4, bs5, hW6, ho7, rfl⟩; refine o_val rfl rfl rfl (y_assign (v := (.int _ _)) rfl) (o_nil ?_); refine s_ret ?_; exact ⟨_, [_, _], res1 rfl rfl, ⟨rfl, _, _, _, _, _, hW6, ho7, rfl⟩, sub_front ⟨_, rfl⟩⟩

theorem Base_c {V : Mem} (A : Option Addr) (n c : Nat) (xs : List Int) (h : Cels V [] A (xs.map (.int .i64))) (hn : xs.length = n) (i : Nat) : CallS Try.prog 166 [.slice A n c, .int .i64 i].toArray V [] (fun r L' => r = .int .i64 (base xs i) ∧ L' = []) := by
 refine callS Try.func166 rfl rfl (fun w0 => ?_); refine s_seq (s_region ?_); refine o_val rfl rfl rfl (y_assign (v := (.int _ _)) rfl) (o_nil ?_); refine s_seq ?_; refine s_seq (s_region ?_); refine o_val rfl rfl rfl (y_move (v := (.int _ _)) rfl) ?_; refine o_val rfl rfl rfl (y_move (v := (.slice _ _ _)) rfl) ?_; refine o_val rfl rfl rfl (y_len Try.runUnderlying22 rfl) ?_; refine o_val rfl rfl rfl (y_lss rfl rfl) (o_nil ?_); refine s_if rfl (fun h1 => ?_) (fun h2 => ?_)
 ·refine s_seq (s_region ?_); refine o_val rfl rfl rfl (y_move (v := (.slice _ _ _)) rfl) ?_; refine o_val rfl rfl rfl (y_move (v := (.int _ _)) rfl) ?_; refine o_val rfl rfl rfl (y_index1 Try.runUnderlying22 Try.sizeOf3 (some_int (i := 0) h (by omega)) rfl rfl (by omega)) ?_; refine o_val rfl rfl rfl (y_load Try.isAgg3 rfl (cel_int h.here (by omega))) ?_; refine o_val rfl rfl rfl (y_assign (v := (.int _ _)) rfl) (o_nil ?_); refine s_ret ?_; exact ⟨_, _, res1 rfl rfl, ⟨rfl, rfl⟩, sub_front ⟨_, rfl⟩⟩
 ·refine s_skip ?_; refine s_seq (s_region ?_); refine o_val rfl rfl rfl (y_assign (v := (.int _ _)) rfl) (o_nil ?_); refine s_ret ?_; exact ⟨_, _, res1 rfl rfl, ⟨congrArg (Value.int .i64) (by unfold base; rw [List.getD_eq_getElem?_getD, List.getElem?_eq_none (by omega)]; rfl), rfl⟩, sub_front ⟨_, rfl⟩⟩

end Go.Proofs.Ytacmbiohjiogiaa.K
end
section
set_option linter.unusedVariables false
set_option linter.unusedSimpArgs false
set_option maxRecDepth 100000
namespace Go.Proofs.Ytacmbiohjiogiaa.K
open Go.RowKit

/-- What Ints answers. -/
def inOK (xs ys bs : List Int) (er : Int) : Prop :=
 (er = 0 ∧ xs.length ≤ 65536 ∧ ys.length ≤ 65536 ∧ (dAll (sumI xs) (sumI ys) xs ys).length ≤ 524288 ∧ Wr bs (dAll (sumI xs) (sumI ys) xs ys)) ∨
 (er = 2 ∧ bs = [] ∧ ¬ (xs.length ≤ 65536 ∧ ys.length ≤ 65536 ∧ (dAll (sumI xs) (sumI ys) xs ys).length ≤ 524288))
theorem wOK_head {s1 s2 : Int} {n : Nat} (hn : n < 18446744073709551616) : wOK (dHead s1 s2 n ++ []) 0 (wB ([] ++ bitsOf s1 64 ++ bitsOf s2 64) (natB n)) := by
 have h1 := (natB_bd hn).2; have h2 := dHead_len (s1 := s1) (s2 := s2) hn; have e : wB ([] ++ bitsOf s1 64 ++ bitsOf s2 64) (natB n) = dHead s1 s2 n := by
  unfold wB; rw [if_neg (by simp [bitsOf_len]; omega)]; rfl
 rw [e, List.append_nil]; exact ⟨by omega, .inl ⟨rfl, rfl⟩⟩
theorem wOK_eq {full full' bits : List Bool} {err : Int} (h : wOK full err bits) (e : full = full') : wOK full' err bits := e ▸ h
theorem d_same {old new : List Int} {k : Nat} (h : new.getD k 0 = base old k) : dRun old new (k + 1) = dRun old new k + 1 ∧ dBits old new (k + 1) = dBits old new k := by
 simp only [dRun, dBits]; rw [if_pos h, if_pos h]; exact ⟨rfl, rfl⟩
theorem d_other {old new : List Int} {k : Nat} (h : ¬ new.getD k 0 = base old k) : dRun old new (k + 1) = 0 ∧ dBits old new (k + 1) = dBits old new k ++ natB (dRun old new k) ++ natB (zz (dd old new k)) := by
 simp only [dRun, dBits]; rw [if_neg h, if_neg h]; exact ⟨rfl, rfl⟩

theorem Ints_k0 (w : World) : (Instr.build 266 ([] : List (Nat × Value)).toArray).run Try.prog w = .ok (.agg #[.slice none 0 0, .int .i64 0]) w := by kernel_rfl
theorem Ints_c {V : Mem} (A : Option Addr) (n c : Nat) (xs : List Int) (h : Cels V [] A (xs.map (.int .i64))) (hn : xs.length = n) (B : Option Addr) (m d : Nat) (ys : List Int) (h' : Cels V [] B (ys.map (.int .i64))) (hm : ys.length = m) :
  CallS Try.prog 109 [.slice A n c, .slice B m d].toArray V [] (fun r L' => ∃ R k e bs G er, r = .tuple #[.slice R k e, .int .i64 er] ∧ OS R k e 5 1 (bs.map (.int .u8)) G ∧ L' = [G] ∧ inOK xs ys bs er) := by
 refine callS Try.func109 rfl rfl (fun w0 => ?_); refine s_seq (s_region ?_); refine o_val rfl rfl rfl (y_assign (v := (.slice _ _ _)) rfl) ?_; refine o_val rfl rfl rfl (y_assign (v := (.int _ _)) rfl) (o_nil ?_); refine s_seq ?_; refine s_seq (s_region ?_); refine o_val rfl rfl rfl (y_move (v := (.slice _ _ _)) rfl) ?_; refine o_val rfl rfl rfl (y_len Try.runUnderlying22 rfl) ?_; refine o_split rfl rfl rfl (y_gtr rfl rfl) (fun p1 => ?_) (fun p2 => ?_)
 ·refine o_val rfl rfl rfl (y_move (v := (.bool _)) rfl) ?_; refine o_guard_no rfl rfl rfl rfl rfl ?_; refine o_guard_no rfl rfl rfl rfl rfl ?_; refine o_guard_no rfl rfl rfl rfl rfl ?_; refine o_val rfl rfl rfl (y_pick_t (v := (.bool _)) rfl rfl) (o_nil ?_); refine s_then rfl ?_; refine s_seq (s_region ?_); refine o_val rfl rfl rfl (y_assign (v := (.slice _ _ _)) rfl) ?_; refine o_val rfl rfl rfl (y_assign (v := (.int _ _)) rfl) (o_nil ?_); refine s_ret ?_; exact ⟨_, [[]], res2 rfl rfl rfl, ⟨none, 0, 0, [], [], _, rfl, OS.nil _ _, rfl, .inr ⟨rfl, rfl, fun hh => by omega⟩⟩, sub_none⟩
 ·refine o_val rfl rfl rfl (y_move (v := (.bool _)) rfl) ?_; refine o_guard_yes rfl rfl ?_; refine o_val rfl rfl rfl (y_move (v := (.slice _ _ _)) rfl) ?_; refine o_guard_yes rfl rfl ?_; refine o_val rfl rfl rfl (y_len Try.runUnderlying22 rfl) ?_; refine o_guard_yes rfl rfl ?_; refine o_val rfl rfl rfl (y_gtr rfl rfl) ?_; refine o_val rfl rfl rfl (y_pick_f (v := (.bool _)) rfl rfl) (o_nil ?_); refine s_if rfl (fun h3 => ?_) (fun h4 => ?_)
  ·have hbig := h3; refine s_seq (s_region ?_); refine o_val rfl rfl rfl (y_assign (v := (.slice _ _ _)) rfl) ?_; refine o_val rfl rfl rfl (y_assign (v := (.int _ _)) rfl) (o_nil ?_); refine s_ret ?_; exact ⟨_, [[]], res2 rfl rfl rfl, ⟨none, 0, 0, [], [], _, rfl, OS.nil _ _, rfl, .inr ⟨rfl, rfl, fun hh => by omega⟩⟩, sub_none⟩
  ·have hsm := h4; refine s_skip ?_; refine s_seq (s_region ?_); refine o_val rfl rfl rfl (y_build (vs := []) rfl (Ints_k0)) ?_; refine o_box (v := (.agg #[(.slice _ _ _), (.int _ _)])) rfl rfl rfl (fun b5 => ?_); refine o_val rfl rfl rfl (y_assign (v := (.pointer _)) rfl) (o_nil ?_); refine s_seq (s_region ?_); refine o_newgroup ?_; refine o_val rfl rfl rfl (y_move (v := (.pointer _)) rfl) ?_; refine o_val rfl rfl rfl (y_move (v := (.slice _ _ _)) rfl) ?_; refine o_fn 0 (d := 23) rfl Try.call42 (SumInts_c _ _ _ xs h.here.down hn (by omega)) rfl ?_; rintro _ _ ⟨rfl, rfl⟩; refine o_fn 2 (d := 24) rfl Try.call164 (Put_c _ _ _ _ _ _ _ _ 64 Wr.nil (OS.nil 5 1) (sumI_bd _) (by omega) (fun hh => absurd hh (by decide)) (by decide) _) rfl ?_; rintro _ _ ⟨rfl, A6, m7, c8, E9, bs10, hW11, ho12, rfl⟩; refine o_nil ?_; refine s_seq (s_region ?_); refine o_val rfl rfl rfl (y_move (v := (.pointer _)) rfl) ?_; refine o_val rfl rfl rfl (y_move (v := (.slice _ _ _)) rfl) ?_; refine o_fn 0 (d := 27) rfl Try.call42 (SumInts_c _ _ _ ys h'.here.down hm (by omega)) rfl ?_; rintro _ _ ⟨rfl, rfl⟩; refine o_fn 2 (d := 28) rfl Try.call164 (Put_c _ _ _ _ _ _ _ _ 64 hW11 ho12 (sumI_bd _) (by omega) (fun hh => absurd hh (by decide)) (by simp [bitsOf_len]) _) rfl ?_; rintro _ _ ⟨rfl, A13, m14, c15, E16, bs17, hW18, ho19, rfl⟩; refine o_nil ?_; refine s_seq (s_region ?_); refine o_val rfl rfl rfl (y_move (v := (.pointer _)) rfl) ?_; refine o_val rfl rfl rfl (y_move (v := (.slice _ _ _)) rfl) ?_; refine o_val rfl rfl rfl (y_len Try.runUnderlying22 rfl) ?_; refine o_val rfl rfl rfl (y_conv Try.runUnderlying3 Try.runUnderlying86 rfl (by simp only [inK]; omega)) ?_; refine o_fn 2 (d := 33) rfl Try.call165 (WNat_c _ _ _ _ _ _ _ m hW18 ho19 (by omega) (by simp [bitsOf_len]) _) rfl ?_; rintro _ _ ⟨rfl, A20, m21, c22, E23, bs24, hW25, ho26, rfl⟩; refine o_nil ?_; refine s_seq (s_region ?_); refine o_val rfl rfl rfl (y_assign (v := (.int _ _)) rfl) ?_; refine o_val rfl rfl rfl (y_assign (v := (.int _ _)) rfl) (o_nil ?_); refine s_seq ?_; refine s_seq (s_region ?_); refine o_val rfl rfl rfl (y_move (v := (.slice _ _ _)) rfl) ?_; refine o_val rfl rfl rfl (y_len Try.runUnderlying22 rfl) ?_; refine o_val rfl rfl rfl (y_move (v := (.int _ _)) rfl) (o_nil ?_); refine s_block ?_; refine s_loop (γ := WS × Int) (fun g => [(0, .slice A n c), (6, .pointer (some ⟨b5, 0, none⟩)), (7, .int .i64 (dRun xs ys g.1.i : Nat)), (8, .int .i64 g.2), (34, .slice B m d), (35, .int .i64 m), (36, .int .i64 g.1.i)]) (fun g => [wgrp b5 g.1.A g.1.n g.1.c (g.1.bits.length : Nat), g.1.E]) (fun g => g.1.i ≤ m ∧ Wr g.1.bs g.1.bits ∧ OS g.1.A g.1.n g.1.c 5 1 (g.1.bs.map (.int .u8)) g.1.E ∧ wOK (dHead (sumI xs) (sumI ys) m ++ dBits xs ys g.1.i) g.2 g.1.bits) (fun g => m - g.1.i) ((WS.mk 0 A20 m21 c22 E23 bs24 _, 0)) ?_ ⟨rfl, rfl, rfl, rfl, rfl, rfl, rfl, trivial⟩ (sub_front ⟨_, rfl⟩) ?_
   ·exact ⟨Nat.zero_le _, hW25, ho26, wOK_head (by omega)⟩
   ·intro g _f hI; obtain ⟨hi, hW0, ho0, hok⟩ := hI; refine s_seq (s_region ?_); refine o_val rfl rfl rfl (y_lss rfl rfl) (o_nil ?_); refine s_seq ?_; refine s_if rfl (fun h27 => ?_) (fun h28 => ?_)
    ·refine s_skip ?_; refine s_seq ?_; refine s_block ?_; refine s_seq (s_region ?_); refine o_val rfl rfl rfl (y_move (v := (.int _ _)) rfl) ?_; refine o_val rfl rfl rfl (y_index1 Try.runUnderlying22 Try.sizeOf3 (some_int (i := 0) h' (by omega)) rfl rfl (by omega)) ?_; refine o_val rfl rfl rfl (y_load Try.isAgg3 rfl (cel_int h'.here (by omega))) ?_; refine o_val rfl rfl rfl (y_assign (v := (.int _ _)) rfl) ?_; refine o_val rfl rfl rfl (y_assign (v := (.int _ _)) rfl) (o_nil ?_); refine s_seq ?_; refine s_seq (s_region ?_); refine o_val rfl rfl rfl (y_move (v := (.int _ _)) rfl) ?_; refine o_val rfl rfl rfl (y_move (v := (.slice _ _ _)) rfl) ?_; refine o_val rfl rfl rfl (y_move (v := (.int _ _)) rfl) ?_; refine o_fn 0 (d := 44) rfl Try.call166 (Base_c _ _ _ xs h.here.down hn g.1.i) rfl ?_; rintro _ _ ⟨rfl, rfl⟩; refine o_val rfl rfl rfl (y_eql rfl rfl) (o_nil ?_); refine s_if rfl (fun h29 => ?_) (fun h30 => ?_)
     ·have heq : ys.getD g.1.i 0 = base xs g.1.i := h29; refine s_seq (s_region ?_); refine o_val rfl rfl rfl (y_move (v := (.int _ _)) rfl) ?_; refine o_val rfl rfl rfl (y_add rfl rfl (by have := dRun_le xs ys g.1.i; simp only [inK]; omega)) ?_; refine o_val rfl rfl rfl (y_assign (v := (.int _ _)) rfl) (o_nil ?_); refine s_exit ?_; refine s_region ?_; refine o_val rfl rfl rfl (y_add rfl rfl (by simp only [inK]; omega)) ?_; refine o_val rfl rfl rfl (y_move (v := (.int _ _)) rfl) (o_nil ?_); exact ⟨(WS.mk (g.1.i + 1) g.1.A g.1.n g.1.c g.1.E g.1.bs g.1.bits, g.2), (by first | omega | (dsimp only; omega)), ⟨by dsimp only; omega, hW0, ho0, wOK_eq hok (by dsimp only; rw [(d_same heq).2])⟩, ⟨rfl, rfl, (congrArg (Value.int _) (by dsimp only; rw [(d_same heq).1]; omega)), rfl, rfl, rfl, (congrArg (Value.int _) (by dsimp only; omega)), trivial⟩, sub_front ⟨_, rfl⟩⟩
     ·have heq : ¬ ys.getD g.1.i 0 = base xs g.1.i := h30; refine s_skip ?_; refine s_seq (s_region ?_); refine o_val rfl rfl rfl (y_move (v := (.int _ _)) rfl) ?_; refine o_val rfl rfl rfl (y_move (v := (.pointer _)) rfl) ?_; refine o_val rfl rfl rfl (y_move (v := (.int _ _)) rfl) ?_; refine o_val rfl rfl rfl (y_conv Try.runUnderlying3 Try.runUnderlying86 rfl (by have := dRun_le xs ys g.1.i; simp only [inK]; omega)) ?_; refine o_fn 2 (d := 52) rfl Try.call165 (WNat_c _ _ _ _ _ _ _ (dRun xs ys g.1.i) hW0 ho0 (by have := dRun_le xs ys g.1.i; omega) hok.1 _) rfl ?_; rintro _ _ ⟨rfl, A31, m32, c33, E34, bs35, hW36, ho37, rfl⟩; refine o_val rfl rfl rfl (y_move (v := (.pointer _)) rfl) ?_; refine o_val rfl rfl rfl (y_move (v := (.int _ _)) rfl) ?_; refine o_val rfl rfl rfl (y_move (v := (.slice _ _ _)) rfl) ?_; refine o_val rfl rfl rfl (y_move (v := (.int _ _)) rfl) ?_; refine o_fn 0 (d := 57) rfl Try.call166 (Base_c _ _ _ xs h.here.down hn g.1.i) rfl ?_; rintro _ _ ⟨rfl, rfl⟩; refine o_val rfl rfl rfl (y_sub' rfl rfl) ?_; refine o_fn 2 (d := 59) rfl Try.call167 (WInt_c _ _ _ _ _ _ _ (dd xs ys g.1.i) hW36 ho37 (dd_in _ _ _) (wB_le hok.1) _) rfl ?_; rintro _ _ ⟨rfl, A38, m39, c40, E41, bs42, hW43, ho44, rfl⟩; refine o_val rfl rfl rfl (y_max3 rfl rfl rfl) ?_; refine o_val rfl rfl rfl (y_assign (v := (.int _ _)) rfl) (o_nil ?_); refine s_region ?_; refine o_val rfl rfl rfl (y_assign (v := (.int _ _)) rfl) (o_nil ?_); refine s_region ?_; refine o_val rfl rfl rfl (y_add rfl rfl (by simp only [inK]; omega)) ?_; refine o_val rfl rfl rfl (y_move (v := (.int _ _)) rfl) (o_nil ?_); exact ⟨(WS.mk (g.1.i + 1) A38 m39 c40 E41 bs42 _, _), (by first | omega | (dsimp only; omega)), ⟨by dsimp only; omega, hW43, ho44, wOK_eq (wOK_step (wOK_step hok)) (by dsimp only; rw [(d_other heq).2]; try simp only [List.append_assoc])⟩, ⟨rfl, rfl, (congrArg (Value.int _) (by dsimp only; rw [(d_other heq).1]; rfl)), rfl, rfl, rfl, (congrArg (Value.int _) (by dsimp only; omega)), trivial⟩, sub_front ⟨_, rfl⟩⟩
    ·refine s_exit ?_; refine s_seq ?_; refine s_seq (s_region ?_); have hin : g.1.i = m := by omega
     have hfit := hok.1; refine o_val rfl rfl rfl (y_move (v := (.int _ _)) rfl) ?_; refine o_val rfl rfl rfl (y_gtr rfl rfl) (o_nil ?_); refine s_if rfl (fun h45 => ?_) (fun h46 => ?_)
     ·have hrun : 0 < dRun xs ys g.1.i := by omega
      have htl : dAll (sumI xs) (sumI ys) xs ys = dHead (sumI xs) (sumI ys) m ++ dBits xs ys g.1.i ++ natB (dRun xs ys g.1.i) := by unfold dAll dTail; rw [hm, hin, if_pos (hin ▸ hrun)]
      refine s_region ?_; refine o_val rfl rfl rfl (y_move (v := (.int _ _)) rfl) ?_; refine o_val rfl rfl rfl (y_move (v := (.pointer _)) rfl) ?_; refine o_val rfl rfl rfl (y_move (v := (.int _ _)) rfl) ?_; refine o_val rfl rfl rfl (y_conv Try.runUnderlying3 Try.runUnderlying86 rfl (by have := dRun_le xs ys g.1.i; simp only [inK]; omega)) ?_; refine o_fn 2 (d := 68) rfl Try.call165 (WNat_c _ _ _ _ _ _ _ (dRun xs ys g.1.i) hW0 ho0 (by have := dRun_le xs ys g.1.i; omega) hfit _) rfl ?_; rintro _ _ ⟨rfl, A47, m48, c49, E50, bs51, hW52, ho53, rfl⟩; have hok2 := wOK_step (x := natB (dRun xs ys g.1.i)) hok; refine o_val rfl rfl rfl (y_max rfl rfl) ?_; refine o_val rfl rfl rfl (y_assign (v := (.int _ _)) rfl) (o_nil ?_); refine s_seq ?_; refine s_seq (s_region ?_); refine o_val rfl rfl rfl (y_move (v := (.int _ _)) rfl) ?_; refine o_val rfl rfl rfl (y_neq rfl rfl) (o_nil ?_); refine s_if rfl (fun h54 => ?_) (fun h55 => ?_)
      ·have herr := h54; have hlen : 524288 < (dAll (sumI xs) (sumI ys) xs ys).length := by rw [htl]; exact (hok2.2.resolve_left (fun hh => herr hh.1)).2
       refine s_seq (s_region ?_); refine o_val rfl rfl rfl (y_assign (v := (.slice _ _ _)) rfl) ?_; refine o_val rfl rfl rfl (y_assign (v := (.int _ _)) rfl) (o_nil ?_); refine s_ret ?_; exact ⟨_, [[]], res2 rfl rfl rfl, ⟨none, 0, 0, [], [], _, rfl, OS.nil _ _, rfl, .inr ⟨rfl, rfl, fun hh => by omega⟩⟩, sub_none⟩
      ·have herr := Decidable.not_not.1 h55; have hpair := hok2.2.resolve_right (fun hh => absurd (hh.1.symm.trans herr) (by decide)); have hfin := hpair.2.trans htl.symm; have hlen : (dAll (sumI xs) (sumI ys) xs ys).length ≤ 524288 := by rw [← hfin]; exact hok2.1
       refine s_skip ?_; refine s_seq (s_region ?_); refine o_val rfl rfl rfl (y_move (v := (.pointer _)) rfl) ?_; refine o_fn 2 (d := 73) rfl Try.call168 (Bytes_c _ _ _ _ _ _ _ ho53 (by have h1 := ho53.len; have h2 := hW52.1; have h3 := hok2.1; simp only [List.length_map] at h1; omega) _) rfl ?_; rintro _ _ ⟨RB, re, RG, rfl, hR, rfl⟩; refine o_val rfl rfl rfl (y_assign (v := (.slice _ _ _)) rfl) ?_; refine o_val rfl rfl rfl (y_assign (v := (.int _ _)) rfl) (o_nil ?_); refine s_ret ?_; exact ⟨_, [RG], res2 rfl rfl rfl, ⟨_, _, _, _, _, _, rfl, hR, rfl, .inl ⟨rfl, by omega, by omega, hlen, hfin ▸ hW52⟩⟩, sub_picks [2] rfl⟩
     ·have hrun : ¬ 0 < dRun xs ys g.1.i := by omega
      have htl : dAll (sumI xs) (sumI ys) xs ys = dHead (sumI xs) (sumI ys) m ++ dBits xs ys g.1.i := by unfold dAll dTail; rw [hm, hin, if_neg (hin ▸ hrun), List.append_nil]
      have hok2 := hok; refine s_skip ?_; refine s_seq ?_; refine s_seq (s_region ?_); refine o_val rfl rfl rfl (y_move (v := (.int _ _)) rfl) ?_; refine o_val rfl rfl rfl (y_neq rfl rfl) (o_nil ?_); refine s_if rfl (fun h56 => ?_) (fun h57 => ?_)
      ·have herr := h56; have hlen : 524288 < (dAll (sumI xs) (sumI ys) xs ys).length := by rw [htl]; exact (hok2.2.resolve_left (fun hh => herr hh.1)).2
       refine s_seq (s_region ?_); refine o_val rfl rfl rfl (y_assign (v := (.slice _ _ _)) rfl) ?_; refine o_val rfl rfl rfl (y_assign (v := (.int _ _)) rfl) (o_nil ?_); refine s_ret ?_; exact ⟨_, [[]], res2 rfl rfl rfl, ⟨none, 0, 0, [], [], _, rfl, OS.nil _ _, rfl, .inr ⟨rfl, rfl, fun hh => by omega⟩⟩, sub_none⟩
      ·have herr := Decidable.not_not.1 h57; have hpair := hok2.2.resolve_right (fun hh => absurd (hh.1.symm.trans herr) (by decide)); have hfin := hpair.2.trans htl.symm; have hlen : (dAll (sumI xs) (sumI ys) xs ys).length ≤ 524288 := by rw [← hfin]; exact hok2.1
       refine s_skip ?_; refine s_seq (s_region ?_); refine o_val rfl rfl rfl (y_move (v := (.pointer _)) rfl) ?_; refine o_fn 2 (d := 73) rfl Try.call168 (Bytes_c _ _ _ _ _ _ _ ho0 (by have h1 := ho0.len; have h2 := hW0.1; have h3 := hok2.1; simp only [List.length_map] at h1; omega) _) rfl ?_; rintro _ _ ⟨RB, re, RG, rfl, hR, rfl⟩; refine o_val rfl rfl rfl (y_assign (v := (.slice _ _ _)) rfl) ?_; refine o_val rfl rfl rfl (y_assign (v := (.int _ _)) rfl) (o_nil ?_); refine s_ret ?_; exact ⟨_, [RG], res2 rfl rfl rfl, ⟨_, _, _, _, _, _, rfl, hR, rfl, .inl ⟨rfl, by omega, by omega, hlen, hfin ▸ hW0⟩⟩, sub_picks [2] rfl⟩

end Go.Proofs.Ytacmbiohjiogiaa.K
end
section
set_option linter.unusedVariables false
set_option linter.unusedSimpArgs false
set_option maxRecDepth 100000
namespace Go.Proofs.Ytacmbiohjiogiaa.K
open Go.RowKit

/-- A reader's block. -/
def rgrp (b : Nat) (A : Option Addr) (n c p : Nat) : Grp := [(b, .cells [.slice A n c, .int .i64 p].toArray 310 (0, 0))]
theorem Left_c {V : Mem} (rb : Nat) (A : Option Addr) (n c p : Nat) (bs : List Int) (h : Cels V [] A (bs.map (.int .u8))) (hn : bs.length = n) (hbd : ∀ b ∈ bs, 0 ≤ b ∧ b ≤ 255) (hp : p ≤ 8 * n) (hsz : n ≤ 140737488355328) : CallS Try.prog 204 [.pointer (some ⟨rb, 0, none⟩)].toArray V [rgrp rb A n c p] (fun r L' => r = .int .i64 (8 * (n : Int) - (p : Int)) ∧ L' = [rgrp rb A n c p]) := by
 refine callS Try.func204 rfl rfl (fun w0 => ?_); refine s_seq (s_region ?_); refine o_val rfl rfl rfl (y_assign (v := (.int _ _)) rfl) (o_nil ?_); refine s_seq ?_; refine s_quiet (by kernel_rfl) (by kernel_rfl) ?_; refine q_val rfl rfl rfl (y_move (v := (.pointer _)) rfl) ?_; refine q_val rfl rfl rfl (y_nilCheck rfl) ?_; refine q_val rfl rfl rfl (y_field0 Try.runUnderlying310 rfl Try.sizeOf76 rfl rfl) ?_; refine q_val rfl rfl rfl (y_load Try.isAgg76 rfl (cel_own 0 rfl rfl)) ?_; refine q_val rfl rfl rfl (y_len Try.runUnderlying76 rfl) ?_; refine q_val rfl rfl rfl (y_mul rfl rfl (by simp only [inK]; omega)) ?_; refine q_val rfl rfl rfl (y_move (v := (.pointer _)) rfl) ?_; refine q_val rfl rfl rfl (y_nilCheck rfl) ?_; refine q_val rfl rfl rfl (y_field0 Try.runUnderlying310 rfl Try.sizeOf3 rfl rfl) ?_; refine q_val rfl rfl rfl (y_load Try.isAgg3 rfl (cel_own 0 rfl rfl)) ?_; refine q_val rfl rfl rfl (y_sub rfl rfl (by simp only [inK]; omega)) ?_; refine q_val rfl rfl rfl (y_assign (v := (.int _ _)) rfl) ?_; refine q_nil ?_; refine s_ret ?_; exact ⟨_, _, res1 rfl rfl, ⟨rfl, rfl⟩, sub_front ⟨_, rfl⟩⟩

theorem Get_c {V : Mem} (rb : Nat) (A : Option Addr) (n c p : Nat) (bs : List Int) (h : Cels V [] A (bs.map (.int .u8))) (hn : bs.length = n) (hbd : ∀ b ∈ bs, 0 ≤ b ∧ b ≤ 255) (hp : p ≤ 8 * n) (hsz : n ≤ 140737488355328) (m : Nat) (hm : m ≤ 64) : CallS Try.prog 172 [.pointer (some ⟨rb, 0, none⟩), .int .i64 m].toArray V [rgrp rb A n c p] (fun r L' => r = .tuple #[.int .u64 (gv bs (8 * n) p m), .int .i64 (ge (8 * n) p m)] ∧ L' = [rgrp rb A n c (gp (8 * n) p m)]) := by
 refine callS Try.func172 rfl rfl (fun w0 => ?_); refine s_seq (s_region ?_); refine o_val rfl rfl rfl (y_assign (v := (.int _ _)) rfl) ?_; refine o_val rfl rfl rfl (y_assign (v := (.int _ _)) rfl) (o_nil ?_); refine s_seq ?_; refine s_seq (s_region ?_); refine o_val rfl rfl rfl (y_move (v := (.int _ _)) rfl) ?_; refine o_split rfl rfl rfl (y_lss rfl rfl) (fun p1 => ?_) (fun p2 => ?_)
 ·exfalso; omega
 ·refine o_val rfl rfl rfl (y_move (v := (.bool _)) rfl) ?_; refine o_guard_yes rfl rfl ?_; refine o_val rfl rfl rfl (y_move (v := (.int _ _)) rfl) ?_; refine o_guard_yes rfl rfl ?_; refine o_val rfl rfl rfl (y_gtr rfl rfl) ?_; refine o_val rfl rfl rfl (y_pick_f (v := (.bool _)) rfl rfl) (o_nil ?_); refine s_if rfl (fun h3 => ?_) (fun h4 => ?_)
  ·exfalso; omega
  ·refine s_skip ?_; refine s_seq ?_; refine s_seq (s_region ?_); refine o_val rfl rfl rfl (y_move (v := (.int _ _)) rfl) ?_; refine o_val rfl rfl rfl (y_move (v := (.pointer _)) rfl) ?_; refine o_fn 1 (d := 16) rfl Try.call204 (Left_c _ A n c p bs h.here.down hn hbd hp hsz) rfl ?_; rintro _ _ ⟨rfl, rfl⟩; refine o_val rfl rfl rfl (y_gtr rfl rfl) (o_nil ?_); refine s_if rfl (fun h5 => ?_) (fun h6 => ?_)
   ·have hlt : 8 * n < p + m := by omega
    refine s_seq (s_region ?_); refine o_val rfl rfl rfl (y_assign (v := (.int _ _)) rfl) ?_; refine o_val rfl rfl rfl (y_assign (v := (.int _ _)) rfl) (o_nil ?_); refine s_ret ?_; exact ⟨_, _, res2 rfl rfl rfl, ⟨by unfold gv ge; rw [if_pos hlt, if_pos hlt]; rfl, by unfold gp; rw [if_pos hlt]⟩, sub_front ⟨_, rfl⟩⟩
   ·have hge : ¬ 8 * n < p + m := by omega
    refine s_skip ?_; refine s_seq (s_region ?_); refine o_val rfl rfl rfl (y_assign (v := (.int _ _)) rfl) (o_nil ?_); refine s_seq ?_; refine s_seq (s_region ?_); refine o_val rfl rfl rfl (y_move (v := (.int _ _)) rfl) ?_; refine o_val rfl rfl rfl (y_move (v := (.int _ _)) rfl) (o_nil ?_); refine s_block ?_; refine s_loop (γ := Nat) (fun g => [(0, .pointer (some ⟨rb, 0, none⟩)), (6, .int .u64 (num bs p g : Nat)), (18, .int .i64 m), (19, .int .i64 g)]) (fun g => [rgrp rb A n c (p + g)]) (fun g => g ≤ m) (fun g => m - g) (0) ?_ ⟨rfl, rfl, rfl, rfl, trivial⟩ (sub_front ⟨_, rfl⟩) ?_
    ·exact Nat.zero_le _
    ·intro g _f hI; refine s_seq (s_region ?_); refine o_val rfl rfl rfl (y_lss rfl rfl) (o_nil ?_); refine s_seq ?_; refine s_if rfl (fun h7 => ?_) (fun h8 => ?_)
     ·refine s_skip ?_; refine s_seq ?_; refine s_block ?_; refine s_seq (s_region ?_); refine o_val rfl rfl rfl (y_move (v := (.int _ _)) rfl) ?_; refine o_val rfl rfl rfl (y_assign (v := (.int _ _)) rfl) (o_nil ?_); refine s_seq ?_; refine s_quiet (by kernel_rfl) (by kernel_rfl) ?_; refine q_val rfl rfl rfl (y_move (v := (.int _ _)) rfl) ?_; refine q_val rfl rfl rfl (y_move (v := (.pointer _)) rfl) ?_; refine q_val rfl rfl rfl (y_nilCheck rfl) ?_; refine q_val rfl rfl rfl (y_field0 Try.runUnderlying310 rfl Try.sizeOf76 rfl rfl) ?_; refine q_val rfl rfl rfl (y_load Try.isAgg76 rfl (cel_own 0 rfl rfl)) ?_; refine q_val rfl rfl rfl (y_move (v := (.pointer _)) rfl) ?_; refine q_val rfl rfl rfl (y_nilCheck rfl) ?_; refine q_val rfl rfl rfl (y_field0 Try.runUnderlying310 rfl Try.sizeOf3 rfl rfl) ?_; refine q_val rfl rfl rfl (y_load Try.isAgg3 rfl (cel_own 0 rfl rfl)) ?_; refine q_val rfl rfl rfl (y_quo rfl rfl (by simp only [inK]; omega)) ?_; refine q_val rfl rfl rfl (y_index1 Try.runUnderlying76 Try.sizeOf5 (some_int (i := 0) h (by omega)) rfl rfl (by omega)) ?_; refine q_val rfl rfl rfl (y_load Try.isAgg5 rfl (cel_int h.here (by omega))) ?_; refine q_val rfl rfl rfl (y_move (v := (.pointer _)) rfl) ?_; refine q_val rfl rfl rfl (y_nilCheck rfl) ?_; refine q_val rfl rfl rfl (y_field0 Try.runUnderlying310 rfl Try.sizeOf3 rfl rfl) ?_; refine q_val rfl rfl rfl (y_load Try.isAgg3 rfl (cel_own 0 rfl rfl)) ?_; refine q_val rfl rfl rfl (y_rem rfl rfl (by omega)) ?_; refine q_val rfl rfl rfl (y_shr rfl rfl (by omega)) ?_; refine q_val rfl rfl rfl (y_and rfl rfl) ?_; refine q_val rfl rfl rfl (y_conv Try.runUnderlying5 Try.runUnderlying86 rfl (by exact bit_q_in hbd (p + g))) ?_; refine q_val rfl rfl rfl (y_move (v := (.int _ _)) rfl) ?_; refine q_val rfl rfl rfl (y_shl rfl rfl (by omega)) ?_; refine q_val rfl rfl rfl (y_or rfl rfl) ?_; refine q_val rfl rfl rfl (y_assign (v := (.int _ _)) rfl) ?_; refine q_nil ?_; refine s_region ?_; refine o_val rfl rfl rfl (y_move (v := (.pointer _)) rfl) ?_; refine o_val rfl rfl rfl (y_nilCheck rfl) ?_; refine o_val rfl rfl rfl (y_field0 Try.runUnderlying310 rfl Try.sizeOf3 rfl rfl) ?_; refine o_val rfl rfl rfl (y_load Try.isAgg3 rfl (cel_own 0 rfl rfl)) ?_; refine o_val rfl rfl rfl (y_add rfl rfl (by simp only [inK]; omega)) ?_; refine o_val rfl rfl rfl (y_nilCheck rfl) ?_; refine o_val rfl rfl rfl (y_field0 Try.runUnderlying310 rfl Try.sizeOf3 rfl rfl) ?_; refine o_store (v := (.int _ _)) 0 rfl Try.sizeOf3 rfl rfl rfl rfl (o_nil ?_); refine s_region ?_; refine o_val rfl rfl rfl (y_add rfl rfl (by simp only [inK]; omega)) ?_; refine o_val rfl rfl rfl (y_move (v := (.int _ _)) rfl) (o_nil ?_); exact ⟨g + 1, (by first | omega | (dsimp only; omega)), (show g + 1 ≤ m by omega), ⟨rfl, (congrArg (Value.int .u64) (get_step hbd (by omega))), rfl, (congrArg (Value.int _) (by omega)), trivial⟩, sub_front ⟨_, rfl⟩⟩
     ·refine s_exit ?_; refine s_seq (s_region ?_); refine o_val rfl rfl rfl (y_move (v := (.int _ _)) rfl) ?_; refine o_val rfl rfl rfl (y_assign (v := (.int _ _)) rfl) ?_; refine o_val rfl rfl rfl (y_assign (v := (.int _ _)) rfl) (o_nil ?_); refine s_ret ?_; obtain rfl : g = m := by omega
      exact ⟨_, [_], res2 rfl rfl rfl, ⟨by unfold gv ge; rw [if_neg hge, if_neg hge]; rfl, by unfold gp; rw [if_neg hge]⟩, sub_front ⟨_, rfl⟩⟩

end Go.Proofs.Ytacmbiohjiogiaa.K
end
section
set_option linter.unusedVariables false
set_option linter.unusedSimpArgs false
set_option maxRecDepth 100000
namespace Go.Proofs.Ytacmbiohjiogiaa.K
open Go.RowKit

theorem bOr_bd (a b : Int) : 0 ≤ bOr .u64 a b ∧ bOr .u64 a b ≤ 18446744073709551615 := by
 have : inK .u64 (bOr .u64 a b) := by unfold bOr; exact inK_wrap _ _
 exact this

theorem RNat_c {V : Mem} (rb : Nat) (A : Option Addr) (n c p : Nat) (bs : List Int) (h : Cels V [] A (bs.map (.int .u8))) (hn : bs.length = n) (hbd : ∀ b ∈ bs, 0 ≤ b ∧ b ≤ 255) (hp : p ≤ 8 * n) (hsz : n ≤ 140737488355328) : CallS Try.prog 205 [.pointer (some ⟨rb, 0, none⟩)].toArray V [rgrp rb A n c p] (fun r L' => ∃ v er p', r = .tuple #[.int .u64 v, .int .i64 er] ∧ L' = [rgrp rb A n c p'] ∧ p' ≤ 8 * n ∧ (0 ≤ v ∧ v ≤ 18446744073709551615) ∧ natRd bs (8 * n) p v er p' ∧ (er = 0 ∨ er = 14 ∨ er = 3)) := by
 refine callS Try.func205 rfl rfl (fun w0 => ?_); refine s_seq (s_region ?_); refine o_val rfl rfl rfl (y_assign (v := (.int _ _)) rfl) ?_; refine o_val rfl rfl rfl (y_assign (v := (.int _ _)) rfl) (o_nil ?_); refine s_seq (s_region ?_); refine o_val rfl rfl rfl (y_move (v := (.pointer _)) rfl) ?_; refine o_val rfl rfl rfl (y_nilCheck rfl) ?_; refine o_val rfl rfl rfl (y_field0 Try.runUnderlying310 rfl Try.sizeOf3 rfl rfl) ?_; refine o_val rfl rfl rfl (y_load Try.isAgg3 rfl (cel_own 0 rfl rfl)) ?_; refine o_val rfl rfl rfl (y_assign (v := (.int _ _)) rfl) (o_nil ?_); refine s_seq (s_region ?_); refine o_val rfl rfl rfl (y_assign (v := (.int _ _)) rfl) (o_nil ?_); refine s_seq (s_region ?_); refine o_val rfl rfl rfl (y_assign (v := (.int _ _)) rfl) (o_nil ?_); refine s_block ?_; refine s_loop (γ := Nat × Int) (fun g => [(0, .pointer (some ⟨rb, 0, none⟩)), (4, .int .i64 p), (5, .int .u64 g.2), (6, .int .i64 g.1)]) (fun g => [rgrp rb A n c (p + 5 * g.1)]) (fun g => g.1 ≤ 16 ∧ p + 5 * g.1 ≤ 8 * n ∧ (0 ≤ g.2 ∧ g.2 ≤ 18446744073709551615) ∧ accOK bs (8 * n) p g.1 g.2) (fun g => 17 - g.1) ((0, 0)) ?_ ⟨rfl, rfl, rfl, rfl, trivial⟩ (sub_front ⟨_, rfl⟩) ?_
 ·exact ⟨Nat.zero_le _, hp, by decide, acc_zero _ _ _⟩
 ·intro g _f hI; obtain ⟨hi, hpg, hab, hacc⟩ := hI; refine s_seq ?_; refine s_block ?_; refine s_seq (s_region ?_); refine o_val rfl rfl rfl (y_move (v := (.pointer _)) rfl) ?_; refine o_fn 1 (d := 17) rfl Try.call172 (Get_c _ A n c (p + 5 * g.1) bs h.here.down hn hbd hpg hsz 5 (by omega)) rfl ?_; rintro _ _ ⟨rfl, rfl⟩; refine o_val rfl rfl rfl (y_move (v := (.tuple #[(.int _ _), (.int _ _)])) rfl) ?_; refine o_val rfl rfl rfl (y_extract (v := (.int _ _)) rfl rfl) ?_; refine o_val rfl rfl rfl (y_extract (v := (.int _ _)) rfl rfl) ?_; refine o_val rfl rfl rfl (y_assign (v := (.int _ _)) rfl) ?_; refine o_val rfl rfl rfl (y_assign (v := (.int _ _)) rfl) (o_nil ?_); refine s_seq ?_; refine s_seq (s_region ?_); refine o_val rfl rfl rfl (y_move (v := (.int _ _)) rfl) ?_; refine o_split rfl rfl rfl (y_eql rfl rfl) (fun p1 => ?_) (fun p2 => ?_)
  ·have hge0 := p1; have hge : ¬ 8 * n < p + 5 * g.1 + 5 := by unfold ge at p1; split at p1 <;> first | assumption | exact absurd p1 (by decide)
   have hgp : gp (8 * n) (p + 5 * g.1) 5 = p + 5 * g.1 + 5 := by unfold gp; rw [if_neg hge]
   refine o_val rfl rfl rfl (y_move (v := (.bool _)) rfl) ?_; refine o_guard_yes rfl rfl ?_; refine o_val rfl rfl rfl (y_move (v := (.int _ _)) rfl) ?_; refine o_guard_yes rfl rfl ?_; refine o_split rfl rfl rfl (y_eql rfl rfl) (fun p3 => ?_) (fun p4 => ?_)
   ·have h16 := p3; refine o_guard_yes rfl rfl ?_; refine o_val rfl rfl rfl (y_move (v := (.bool _)) rfl) ?_; refine o_guard_no rfl rfl rfl rfl rfl ?_; refine o_guard_no rfl rfl rfl rfl rfl ?_; refine o_guard_no rfl rfl rfl rfl rfl ?_; refine o_guard_un rfl rfl rfl rfl ?_; refine o_guard_un rfl rfl rfl rfl ?_; refine o_guard_no rfl rfl rfl rfl rfl ?_; refine o_guard_yes rfl rfl ?_; refine o_val rfl rfl rfl (y_pick_t (v := (.bool _)) rfl rfl) ?_; refine o_val rfl rfl rfl (y_pick_t (v := (.bool _)) rfl rfl) (o_nil ?_); refine s_then rfl ?_; refine s_region ?_; refine o_val rfl rfl rfl (y_assign (v := (.int _ _)) rfl) (o_nil ?_); refine s_seq ?_; refine s_seq (s_region ?_); refine o_val rfl rfl rfl (y_move (v := (.int _ _)) rfl) ?_; refine o_val rfl rfl rfl (y_neq rfl rfl) (o_nil ?_); refine s_if rfl (fun h5 => ?_) (fun h6 => ?_)
    ·refine s_seq (s_region ?_); refine o_val rfl rfl rfl (y_move (v := (.pointer _)) rfl) ?_; refine o_val rfl rfl rfl (y_move (v := (.int _ _)) rfl) ?_; refine o_val rfl rfl rfl (y_nilCheck rfl) ?_; refine o_val rfl rfl rfl (y_field0 Try.runUnderlying310 rfl Try.sizeOf3 rfl rfl) ?_; refine o_store (v := (.int _ _)) 0 rfl Try.sizeOf3 rfl rfl rfl rfl (o_nil ?_); refine s_seq (s_region ?_); refine o_val rfl rfl rfl (y_move (v := (.int _ _)) rfl) ?_; refine o_val rfl rfl rfl (y_assign (v := (.int _ _)) rfl) ?_; refine o_val rfl rfl rfl (y_assign (v := (.int _ _)) rfl) (o_nil ?_); refine s_ret ?_; exact ⟨_, [_], res2 rfl rfl rfl, ⟨_, _, p, rfl, rfl, hp, ⟨by decide, by decide⟩, by first | exact acc_short hacc (by assumption) | exact acc_long hacc (by omega) | exact acc_nil hacc hge (by assumption) (by omega), by first | exact .inr (.inr rfl) | exact .inr (.inl (by unfold ge; rw [if_pos hlt]))⟩, sub_front ⟨_, rfl⟩⟩
    ·exact absurd (by decide) h6
   ·have h16 := p4; refine o_guard_yes rfl rfl ?_; refine o_val rfl rfl rfl (y_move (v := (.bool _)) rfl) ?_; refine o_guard_yes rfl rfl ?_; refine o_val rfl rfl rfl (y_move (v := (.int _ _)) rfl) ?_; refine o_guard_yes rfl rfl ?_; refine o_split rfl rfl rfl (y_eql rfl rfl) (fun p7 => ?_) (fun p8 => ?_)
    ·have hz0 := p7; refine o_guard_yes rfl rfl ?_; refine o_val rfl rfl rfl (y_move (v := (.bool _)) rfl) ?_; refine o_guard_yes rfl rfl ?_; refine o_val rfl rfl rfl (y_move (v := (.int _ _)) rfl) ?_; refine o_guard_yes rfl rfl ?_; refine o_split rfl rfl rfl (y_gtr rfl rfl) (fun p9 => ?_) (fun p10 => ?_)
     ·refine o_guard_yes rfl rfl ?_; refine o_val rfl rfl rfl (y_pick_t (v := (.bool _)) rfl rfl) ?_; refine o_guard_yes rfl rfl ?_; refine o_val rfl rfl rfl (y_pick_f (v := (.bool _)) rfl rfl) ?_; refine o_val rfl rfl rfl (y_pick_t (v := (.bool _)) rfl rfl) (o_nil ?_); refine s_then rfl ?_; refine s_region ?_; refine o_val rfl rfl rfl (y_assign (v := (.int _ _)) rfl) (o_nil ?_); refine s_seq ?_; refine s_seq (s_region ?_); refine o_val rfl rfl rfl (y_move (v := (.int _ _)) rfl) ?_; refine o_val rfl rfl rfl (y_neq rfl rfl) (o_nil ?_); refine s_if rfl (fun h11 => ?_) (fun h12 => ?_)
      ·refine s_seq (s_region ?_); refine o_val rfl rfl rfl (y_move (v := (.pointer _)) rfl) ?_; refine o_val rfl rfl rfl (y_move (v := (.int _ _)) rfl) ?_; refine o_val rfl rfl rfl (y_nilCheck rfl) ?_; refine o_val rfl rfl rfl (y_field0 Try.runUnderlying310 rfl Try.sizeOf3 rfl rfl) ?_; refine o_store (v := (.int _ _)) 0 rfl Try.sizeOf3 rfl rfl rfl rfl (o_nil ?_); refine s_seq (s_region ?_); refine o_val rfl rfl rfl (y_move (v := (.int _ _)) rfl) ?_; refine o_val rfl rfl rfl (y_assign (v := (.int _ _)) rfl) ?_; refine o_val rfl rfl rfl (y_assign (v := (.int _ _)) rfl) (o_nil ?_); refine s_ret ?_; exact ⟨_, [_], res2 rfl rfl rfl, ⟨_, _, p, rfl, rfl, hp, ⟨by decide, by decide⟩, by first | exact acc_short hacc (by assumption) | exact acc_long hacc (by omega) | exact acc_nil hacc hge (by assumption) (by omega), by first | exact .inr (.inr rfl) | exact .inr (.inl (by unfold ge; rw [if_pos hlt]))⟩, sub_front ⟨_, rfl⟩⟩
      ·exact absurd (by decide) h12
     ·refine o_guard_yes rfl rfl ?_; refine o_val rfl rfl rfl (y_pick_t (v := (.bool _)) rfl rfl) ?_; refine o_guard_yes rfl rfl ?_; refine o_val rfl rfl rfl (y_pick_f (v := (.bool _)) rfl rfl) ?_; refine o_val rfl rfl rfl (y_pick_t (v := (.bool _)) rfl rfl) (o_nil ?_); refine s_else rfl ?_; refine s_skip ?_; refine s_seq ?_; refine s_seq (s_region ?_); refine o_val rfl rfl rfl (y_move (v := (.int _ _)) rfl) ?_; refine o_val rfl rfl rfl (y_neq rfl rfl) (o_nil ?_); refine s_if rfl (fun h13 => ?_) (fun h14 => ?_)
      ·exact absurd hge0 h13
      ·refine s_skip ?_; refine s_seq (s_region ?_); refine o_val rfl rfl rfl (y_move (v := (.int _ _)) rfl) ?_; refine o_val rfl rfl rfl (y_move (v := (.int _ _)) rfl) ?_; refine o_val rfl rfl rfl (y_and rfl rfl) ?_; refine o_val rfl rfl rfl (y_move (v := (.int _ _)) rfl) ?_; refine o_val rfl rfl rfl (y_mul rfl rfl (by simp only [inK]; omega)) ?_; refine o_val rfl rfl rfl (y_shl rfl rfl (by omega)) ?_; refine o_val rfl rfl rfl (y_or rfl rfl) ?_; refine o_val rfl rfl rfl (y_assign (v := (.int _ _)) rfl) (o_nil ?_); refine s_seq (s_region ?_); refine o_val rfl rfl rfl (y_move (v := (.int _ _)) rfl) ?_; refine o_val rfl rfl rfl (y_lss rfl rfl) (o_nil ?_); refine s_if rfl (fun h15 => ?_) (fun h16 => ?_)
       ·refine s_seq (s_region ?_); refine o_val rfl rfl rfl (y_move (v := (.int _ _)) rfl) ?_; refine o_val rfl rfl rfl (y_assign (v := (.int _ _)) rfl) ?_; refine o_val rfl rfl rfl (y_assign (v := (.int _ _)) rfl) (o_nil ?_); refine s_ret ?_; exact ⟨_, [_], res2 rfl rfl rfl, ⟨_, _, (p + 5 * g.1 + 5), rfl, by rw [hgp], by omega, bOr_bd _ _, acc_done hacc (by omega) hge (by assumption), .inl rfl⟩, sub_front ⟨_, rfl⟩⟩
       ·refine s_skip ?_; refine s_region ?_; refine o_val rfl rfl rfl (y_move (v := (.int _ _)) rfl) ?_; refine o_val rfl rfl rfl (y_add rfl rfl (by simp only [inK]; omega)) ?_; refine o_val rfl rfl rfl (y_assign (v := (.int _ _)) rfl) (o_nil ?_); exact ⟨(g.1 + 1, _), (by first | omega | (dsimp only; omega)), ⟨by dsimp only; omega, by dsimp only; omega, bOr_bd _ _, acc_step hacc (by omega) hge (by assumption)⟩, ⟨rfl, rfl, rfl, (congrArg (Value.int _) (by dsimp only; omega)), trivial⟩, (by rw [hgp]; exact sub_front ⟨_, rfl⟩)⟩
    ·have hz0 := p8; refine o_guard_yes rfl rfl ?_; refine o_val rfl rfl rfl (y_move (v := (.bool _)) rfl) ?_; refine o_guard_no rfl rfl rfl rfl rfl ?_; refine o_guard_no rfl rfl rfl rfl rfl ?_; refine o_guard_yes rfl rfl ?_; refine o_val rfl rfl rfl (y_pick_f (v := (.bool _)) rfl rfl) ?_; refine o_guard_yes rfl rfl ?_; refine o_val rfl rfl rfl (y_pick_f (v := (.bool _)) rfl rfl) ?_; refine o_val rfl rfl rfl (y_pick_t (v := (.bool _)) rfl rfl) (o_nil ?_); refine s_else rfl ?_; refine s_skip ?_; refine s_seq ?_; refine s_seq (s_region ?_); refine o_val rfl rfl rfl (y_move (v := (.int _ _)) rfl) ?_; refine o_val rfl rfl rfl (y_neq rfl rfl) (o_nil ?_); refine s_if rfl (fun h17 => ?_) (fun h18 => ?_)
     ·exact absurd hge0 h17
     ·refine s_skip ?_; refine s_seq (s_region ?_); refine o_val rfl rfl rfl (y_move (v := (.int _ _)) rfl) ?_; refine o_val rfl rfl rfl (y_move (v := (.int _ _)) rfl) ?_; refine o_val rfl rfl rfl (y_and rfl rfl) ?_; refine o_val rfl rfl rfl (y_move (v := (.int _ _)) rfl) ?_; refine o_val rfl rfl rfl (y_mul rfl rfl (by simp only [inK]; omega)) ?_; refine o_val rfl rfl rfl (y_shl rfl rfl (by omega)) ?_; refine o_val rfl rfl rfl (y_or rfl rfl) ?_; refine o_val rfl rfl rfl (y_assign (v := (.int _ _)) rfl) (o_nil ?_); refine s_seq (s_region ?_); refine o_val rfl rfl rfl (y_move (v := (.int _ _)) rfl) ?_; refine o_val rfl rfl rfl (y_lss rfl rfl) (o_nil ?_); refine s_if rfl (fun h19 => ?_) (fun h20 => ?_)
      ·refine s_seq (s_region ?_); refine o_val rfl rfl rfl (y_move (v := (.int _ _)) rfl) ?_; refine o_val rfl rfl rfl (y_assign (v := (.int _ _)) rfl) ?_; refine o_val rfl rfl rfl (y_assign (v := (.int _ _)) rfl) (o_nil ?_); refine s_ret ?_; exact ⟨_, [_], res2 rfl rfl rfl, ⟨_, _, (p + 5 * g.1 + 5), rfl, by rw [hgp], by omega, bOr_bd _ _, acc_done hacc (by omega) hge (by assumption), .inl rfl⟩, sub_front ⟨_, rfl⟩⟩
      ·refine s_skip ?_; refine s_region ?_; refine o_val rfl rfl rfl (y_move (v := (.int _ _)) rfl) ?_; refine o_val rfl rfl rfl (y_add rfl rfl (by simp only [inK]; omega)) ?_; refine o_val rfl rfl rfl (y_assign (v := (.int _ _)) rfl) (o_nil ?_); exact ⟨(g.1 + 1, _), (by first | omega | (dsimp only; omega)), ⟨by dsimp only; omega, by dsimp only; omega, bOr_bd _ _, acc_step hacc (by omega) hge (by assumption)⟩, ⟨rfl, rfl, rfl, (congrArg (Value.int _) (by dsimp only; omega)), trivial⟩, (by rw [hgp]; exact sub_front ⟨_, rfl⟩)⟩
  ·have hne0 := p2; have hlt : 8 * n < p + 5 * g.1 + 5 := by unfold ge at p2; split at p2 <;> first | assumption | exact absurd rfl p2
   refine o_val rfl rfl rfl (y_move (v := (.bool _)) rfl) ?_; refine o_guard_no rfl rfl rfl rfl rfl ?_; refine o_guard_no rfl rfl rfl rfl rfl ?_; refine o_guard_no rfl rfl rfl rfl rfl ?_; refine o_guard_un rfl rfl rfl rfl ?_; refine o_guard_un rfl rfl rfl rfl ?_; refine o_guard_un rfl rfl rfl rfl ?_; refine o_guard_un rfl rfl rfl rfl ?_; refine o_guard_un rfl rfl rfl rfl ?_; refine o_guard_un rfl rfl rfl rfl ?_; refine o_guard_no rfl rfl rfl rfl rfl ?_; refine o_val rfl rfl rfl (y_pick_f (v := (.bool _)) rfl rfl) (o_nil ?_); refine s_else rfl ?_; refine s_skip ?_; refine s_seq ?_; refine s_seq (s_region ?_); refine o_val rfl rfl rfl (y_move (v := (.int _ _)) rfl) ?_; refine o_val rfl rfl rfl (y_neq rfl rfl) (o_nil ?_); refine s_if rfl (fun h21 => ?_) (fun h22 => ?_)
   ·refine s_seq (s_region ?_); refine o_val rfl rfl rfl (y_move (v := (.pointer _)) rfl) ?_; refine o_val rfl rfl rfl (y_move (v := (.int _ _)) rfl) ?_; refine o_val rfl rfl rfl (y_nilCheck rfl) ?_; refine o_val rfl rfl rfl (y_field0 Try.runUnderlying310 rfl Try.sizeOf3 rfl rfl) ?_; refine o_store (v := (.int _ _)) 0 rfl Try.sizeOf3 rfl rfl rfl rfl (o_nil ?_); refine s_seq (s_region ?_); refine o_val rfl rfl rfl (y_move (v := (.int _ _)) rfl) ?_; refine o_val rfl rfl rfl (y_assign (v := (.int _ _)) rfl) ?_; refine o_val rfl rfl rfl (y_assign (v := (.int _ _)) rfl) (o_nil ?_); refine s_ret ?_; exact ⟨_, [_], res2 rfl rfl rfl, ⟨_, _, p, rfl, rfl, hp, ⟨by decide, by decide⟩, by first | exact acc_short hacc (by assumption) | exact acc_long hacc (by omega) | exact acc_nil hacc hge (by assumption) (by omega), by first | exact .inr (.inr rfl) | exact .inr (.inl (by unfold ge; rw [if_pos hlt]))⟩, sub_front ⟨_, rfl⟩⟩
   ·exact absurd hne0 h22

end Go.Proofs.Ytacmbiohjiogiaa.K
end
section
set_option linter.unusedVariables false
set_option linter.unusedSimpArgs false
set_option maxRecDepth 100000
namespace Go.Proofs.Ytacmbiohjiogiaa.K
open Go.RowKit

theorem BEqual_c {V : Mem} (A : Option Addr) (n c : Nat) (bs : List Int) (h : Cels V [] A (bs.map (.int .u8))) (hn : bs.length = n) (hb : ∀ b ∈ bs, 0 ≤ b ∧ b ≤ 255) (B : Option Addr) (m d : Nat) (cs : List Int) (h' : Cels V [] B (cs.map (.int .u8))) (hm : cs.length = m) (hc : ∀ b ∈ cs, 0 ≤ b ∧ b ≤ 255) :
  CallS Try.prog 40 [.slice A n c, .slice B m d].toArray V [] (fun r L' => r = .bool (decide (bs = cs)) ∧ L' = []) := by
 refine callS Try.func40 rfl rfl (fun w0 => ?_); refine s_seq (s_region ?_); refine o_val rfl rfl rfl (y_assign (v := (.bool _)) rfl) (o_nil ?_); refine s_seq (s_region ?_); refine o_val rfl rfl rfl (y_move (v := (.slice _ _ _)) rfl) ?_; refine o_val rfl rfl rfl (y_bytes_str Try.underlying76 Try.underlying5 Try.underlying9 rfl (h.here) (hn)) ?_; refine o_val rfl rfl rfl (y_move (v := (.slice _ _ _)) rfl) ?_; refine o_val rfl rfl rfl (y_bytes_str Try.underlying76 Try.underlying5 Try.underlying9 rfl (h'.here) (hm)) ?_; refine o_val rfl rfl rfl (y_eql_str rfl rfl) ?_; refine o_val rfl rfl rfl (y_assign (v := (.bool _)) rfl) (o_nil ?_); refine s_ret ?_; exact ⟨_, _, res1 rfl rfl, ⟨congrArg Value.bool (by rw [decide_eq_decide]; exact mkB_inj hb hc), rfl⟩, sub_front ⟨_, rfl⟩⟩

end Go.Proofs.Ytacmbiohjiogiaa.K
end

/- Worlds that come in. No condition beyond what each statement names. -/
import Derived.Test.YtacmbiohjiogiaaProg
import Derived.Test.YtacmbiohjiogiaaK11
import Derived.Test.YtacmbiohjiogiaaM1
import Derived.Test.YtacmbiohjiogiaaW1
import Derived.Test.YtacmbiohjiogiaaW2
set_option linter.unusedVariables false
set_option linter.unusedSimpArgs false
set_option maxRecDepth 100000
namespace Go.Proofs.Ytacmbiohjiogiaa.K
open Go.RowKit

theorem one_lenW (a : Int) : ([Value.int .i64 a] : List Value).length = 1 := rfl
def encRfW (r : Int × Int) : List Value := [.int .i64 r.1, .int .i64 r.2]

theorem opens_fd {H : Type} {enc : TypeId × Value → H} {w : World} {base : Nat} {spare : Nat → Bool} {held : Bool} {Cn : TypeId → DataW H → Prop} {b : Nat} (hC : Cnd Try.prog b Cn) : Opens enc Try.prog w base spare held Cn 61 encF (fun f => inK .i64 f.bits ∧ inK .i64 f.low) := by
 intro n cs x h hcn; obtain ⟨hl, hf⟩ := trod_struct_at hC Try.underlying61 h hcn; rw [show Try.prog.cellsOf 61 = 3 from by kernel_rfl] at hl
 match cs, hl with
 | [c0, c1, c2], _ =>
  obtain ⟨n0, y0, t0, k0⟩ := hf 0 _ rfl; obtain ⟨a0, e0, r0⟩ := opens_field (opens_string Try.underlying9) (sz := 1) (cs' := [c0]) (by kernel_rfl) t0 k0 rfl; obtain rfl := (List.cons.inj e0).1; obtain ⟨n1, y1, t1, k1⟩ := hf 1 _ rfl; obtain ⟨a1, e1, r1⟩ := opens_field (opens_int Try.underlying3) (sz := 1) (cs' := [c1]) (by kernel_rfl) t1 k1 rfl; obtain rfl := (List.cons.inj e1).1; obtain ⟨n2, y2, t2, k2⟩ := hf 2 _ rfl; obtain ⟨a2, e2, r2⟩ := opens_field (opens_int Try.underlying3) (sz := 1) (cs' := [c2]) (by kernel_rfl) t2 k2 rfl; obtain rfl := (List.cons.inj e2).1; exact ⟨⟨a0, a1, a2⟩, rfl, r1, r2⟩

theorem opens_kd {H : Type} {enc : TypeId × Value → H} {w : World} {base : Nat} {spare : Nat → Bool} {held : Bool} {Cn : TypeId → DataW H → Prop} {b : Nat} (hC : Cnd Try.prog b Cn) : Opens enc Try.prog w base spare held Cn 58 encK (KOK (memOf w)) := by
 intro n cs x h hcn; obtain ⟨hl, hf⟩ := trod_struct_at hC Try.underlying58 h hcn; rw [show Try.prog.cellsOf 58 = 2 from by kernel_rfl] at hl
 match cs, hl with
 | [c0, c1], _ =>
  obtain ⟨n0, y0, t0, k0⟩ := hf 0 _ rfl; obtain ⟨a0, e0, r0⟩ := opens_field (opens_string Try.underlying9) (sz := 1) (cs' := [c0]) (by kernel_rfl) t0 k0 rfl; obtain rfl := (List.cons.inj e0).1; obtain ⟨n1, y1, t1, k1⟩ := hf 1 _ rfl; obtain ⟨q, e1, r1⟩ := opens_field (opens_slice hC encF_len (by decide) Try.underlying56 (by kernel_rfl) (by_ := 32) (by kernel_rfl) (opens_fd hC)) (sz := 1) (cs' := [c1]) (by kernel_rfl) t1 k1 rfl; obtain rfl := (List.cons.inj e1).1; exact ⟨⟨a0, q.A, q.n, q.c, q.xs⟩, rfl, r1.len, r1.cap, by have := r1.reach; dsimp only; omega, r1.cels⟩

theorem opens_refW {H : Type} {enc : TypeId × Value → H} {w : World} {base : Nat} {spare : Nat → Bool} {held : Bool} {Cn : TypeId → DataW H → Prop} {b : Nat} (hC : Cnd Try.prog b Cn) : Opens enc Try.prog w base spare held Cn 117 encRfW (fun _ => True) := by
 intro n cs x h hcn; obtain ⟨hl, hf⟩ := trod_struct_at hC Try.underlying117 h hcn; rw [show Try.prog.cellsOf 117 = 2 from by kernel_rfl] at hl
 match cs, hl with
 | [c0, c1], _ =>
  obtain ⟨n0, y0, t0, k0⟩ := hf 0 _ rfl; obtain ⟨a0, e0, r0⟩ := opens_field (opens_int Try.underlying3) (sz := 1) (cs' := [c0]) (by kernel_rfl) t0 k0 rfl; obtain rfl := (List.cons.inj e0).1; obtain ⟨n1, y1, t1, k1⟩ := hf 1 _ rfl; obtain ⟨a1, e1, r1⟩ := opens_field (opens_int Try.underlying3) (sz := 1) (cs' := [c1]) (by kernel_rfl) t1 k1 rfl; obtain rfl := (List.cons.inj e1).1; exact ⟨⟨a0, a1⟩, rfl, trivial⟩

theorem opens_cp {H : Type} {enc : TypeId × Value → H} {w : World} {base : Nat} {spare : Nat → Bool} {held : Bool} {Cn : TypeId → DataW H → Prop} {b : Nat} (hC : Cnd Try.prog b Cn) : Opens enc Try.prog w base spare held Cn 155 encC (COK (memOf w)) := by
 intro n cs x h hcn; obtain ⟨hl, hf⟩ := trod_struct_at hC Try.underlying155 h hcn; rw [show Try.prog.cellsOf 155 = 2 from by kernel_rfl] at hl
 match cs, hl with
 | [c0, c1], _ =>
  obtain ⟨n0, y0, t0, k0⟩ := hf 0 _ rfl; obtain ⟨a0, e0, r0⟩ := opens_field (opens_int Try.underlying3) (sz := 1) (cs' := [c0]) (by kernel_rfl) t0 k0 rfl; obtain rfl := (List.cons.inj e0).1; obtain ⟨n1, y1, t1, k1⟩ := hf 1 _ rfl; obtain ⟨q, e1, r1⟩ := opens_field (opens_slice hC one_lenW (by decide) Try.underlying22 (by kernel_rfl) (by_ := 8) (by kernel_rfl) (opens_int Try.underlying3)) (sz := 1) (cs' := [c1]) (by kernel_rfl) t1 k1 rfl; obtain rfl := (List.cons.inj e1).1; exact ⟨⟨a0, q.A, q.n, q.c, q.xs⟩, rfl, r1.len, r1.cap, by have := r1.reach; dsimp only; omega, (flat_one q.xs).symm ▸ r1.cels⟩

theorem opens_it {H : Type} {enc : TypeId × Value → H} {w : World} {base : Nat} {spare : Nat → Bool} {held : Bool} {Cn : TypeId → DataW H → Prop} {b : Nat} (hC : Cnd Try.prog b Cn) : Opens enc Try.prog w base spare held Cn 136 encIt (IOK (memOf w)) := by
 intro n cs x h hcn; obtain ⟨hl, hf⟩ := trod_struct_at hC Try.underlying136 h hcn; rw [show Try.prog.cellsOf 136 = 3 from by kernel_rfl] at hl
 match cs, hl with
 | [c0, c1, c2], _ =>
  obtain ⟨n0, y0, t0, k0⟩ := hf 0 _ rfl; obtain ⟨rf, e0, r0⟩ := opens_field (opens_refW hC) (sz := 2) (cs' := [c0, c1]) (by kernel_rfl) t0 k0 rfl; obtain ⟨rfl, rfl⟩ : c0 = .int .i64 rf.1 ∧ c1 = .int .i64 rf.2 := by simpa [encRfW] using e0
  obtain ⟨n1, y1, t1, k1⟩ := hf 1 _ rfl; obtain ⟨q, e1, r1⟩ := opens_field (opens_slice hC encC_len (by decide) Try.underlying33 (by kernel_rfl) (by_ := 32) (by kernel_rfl) (opens_cp hC)) (sz := 1) (cs' := [c2]) (by kernel_rfl) t1 k1 rfl; obtain rfl := (List.cons.inj e1).1; exact ⟨⟨rf.1, rf.2, q.A, q.n, q.c, q.xs⟩, rfl, r1.len, r1.cap, by have := r1.reach; dsimp only; omega, r1.cels, r1.all⟩

theorem opens_wd {H : Type} {enc : TypeId × Value → H} {w : World} {base : Nat} {spare : Nat → Bool} {held : Bool} {Cn : TypeId → DataW H → Prop} {b : Nat} (hC : Cnd Try.prog b Cn) : Opens enc Try.prog w base spare held Cn 47 encW (WOK (memOf w)) := by
 intro n cs x h hcn; obtain ⟨hl, hf⟩ := trod_struct_at hC Try.underlying47 h hcn; rw [show Try.prog.cellsOf 47 = 3 from by kernel_rfl] at hl
 match cs, hl with
 | [c0, c1, c2], _ =>
  obtain ⟨n0, y0, t0, k0⟩ := hf 0 _ rfl; obtain ⟨qk, e0, r0⟩ := opens_field (opens_slice hC encK_len (by decide) Try.underlying23 (by kernel_rfl) (by_ := 40) (by kernel_rfl) (opens_kd hC)) (sz := 1) (cs' := [c0]) (by kernel_rfl) t0 k0 rfl; obtain rfl := (List.cons.inj e0).1; obtain ⟨n1, y1, t1, k1⟩ := hf 1 _ rfl; obtain ⟨qg, e1, r1⟩ := opens_field (opens_slice hC one_lenW (by decide) Try.underlying22 (by kernel_rfl) (by_ := 8) (by kernel_rfl) (opens_int Try.underlying3)) (sz := 1) (cs' := [c1]) (by kernel_rfl) t1 k1 rfl; obtain rfl := (List.cons.inj e1).1; obtain ⟨n2, y2, t2, k2⟩ := hf 2 _ rfl; obtain ⟨qi, e2, r2⟩ := opens_field (opens_slice hC encIt_len (by decide) Try.underlying45 (by kernel_rfl) (by_ := 40) (by kernel_rfl) (opens_it hC)) (sz := 1) (cs' := [c2]) (by kernel_rfl) t2 k2 rfl; obtain rfl := (List.cons.inj e2).1; exact ⟨⟨qk.A, qk.n, qk.c, qk.xs, qg.A, qg.n, qg.c, qg.xs, qi.A, qi.n, qi.c, qi.xs⟩, rfl, ⟨r0.len, r0.cap, by have := r0.reach; dsimp only; omega, r0.cels, r0.all⟩, ⟨r1.len, r1.cap, by have := r1.reach; dsimp only; omega, (flat_one qg.xs).symm ▸ r1.cels⟩, ⟨r2.len, r2.cap, by have := r2.reach; dsimp only; omega, r2.cels, r2.all⟩⟩

end Go.Proofs.Ytacmbiohjiogiaa.K

/- Replacements that come in. No condition beyond what each statement names. -/
import Derived.Test.YtacmbiohjiogiaaProg
import Derived.Test.YtacmbiohjiogiaaK11
import Derived.Test.YtacmbiohjiogiaaK19
import Derived.Test.YtacmbiohjiogiaaM1
import Derived.Test.YtacmbiohjiogiaaW1
import Derived.Test.YtacmbiohjiogiaaW2
import Derived.Test.YtacmbiohjiogiaaP1
set_option linter.unusedVariables false
set_option linter.unusedSimpArgs false
set_option maxRecDepth 100000
namespace Go.Proofs.Ytacmbiohjiogiaa.K
open Go.RowKit

theorem one_lenI (a : Int) : ([Value.int .i64 a] : List Value).length = 1 := rfl
def encRf (r : Int × Int) : List Value := [.int .i64 r.1, .int .i64 r.2]

theorem opens_ref {H : Type} {enc : TypeId × Value → H} {w : World} {base : Nat} {spare : Nat → Bool} {held : Bool} {Cn : TypeId → DataW H → Prop} {b : Nat} (hC : Cnd Try.prog b Cn) : Opens enc Try.prog w base spare held Cn 145 encRf (fun _ => True) := by
  intro n cs x h hcn
  obtain ⟨hl, hf⟩ := trod_struct_at hC Try.underlying145 h hcn
  rw [show Try.prog.cellsOf 145 = 2 from by kernel_rfl] at hl
  match cs, hl with
  | [c0, c1], _ =>
    obtain ⟨n0, y0, t0, k0⟩ := hf 0 _ rfl
    obtain ⟨a0, e0, r0⟩ := opens_field (opens_int Try.underlying3) (sz := 1) (cs' := [c0]) (by kernel_rfl) t0 k0 rfl
    obtain rfl := (List.cons.inj e0).1
    obtain ⟨n1, y1, t1, k1⟩ := hf 1 _ rfl
    obtain ⟨a1, e1, r1⟩ := opens_field (opens_int Try.underlying3) (sz := 1) (cs' := [c1]) (by kernel_rfl) t1 k1 rfl
    obtain rfl := (List.cons.inj e1).1
    exact ⟨⟨a0, a1⟩, rfl, trivial⟩

/-- A replacement that came in. -/
def OvIn (w : World) (o : OvR) : Prop := OvOK (memOf w) o

theorem opens_ov {H : Type} {enc : TypeId × Value → H} {w : World} {base : Nat} {spare : Nat → Bool} {held : Bool} {Cn : TypeId → DataW H → Prop} {b : Nat} (hC : Cnd Try.prog b Cn) : Opens enc Try.prog w base spare held Cn 147 encOv (OvIn w) := by
  intro n cs x h hcn
  obtain ⟨hl, hf⟩ := trod_struct_at hC Try.underlying147 h hcn
  rw [show Try.prog.cellsOf 147 = 4 from by kernel_rfl] at hl
  match cs, hl with
  | [c0, c1, c2, c3], _ =>
    obtain ⟨n0, y0, t0, k0⟩ := hf 0 _ rfl
    obtain ⟨q, e0, r0⟩ := opens_field (opens_slice hC one_lenI (by decide) Try.underlying22 (by kernel_rfl) (by_ := 8) (by kernel_rfl) (opens_int Try.underlying3)) (sz := 1) (cs' := [c0]) (by kernel_rfl) t0 k0 rfl
    obtain rfl := (List.cons.inj e0).1
    obtain ⟨n1, y1, t1, k1⟩ := hf 1 _ rfl
    obtain ⟨rf, e1, r1⟩ := opens_field (opens_ref hC) (sz := 2) (cs' := [c1, c2]) (by kernel_rfl) t1 k1 rfl
    obtain ⟨rfl, rfl⟩ : c1 = .int .i64 rf.1 ∧ c2 = .int .i64 rf.2 := by simpa [encRf] using e1
    obtain ⟨n2, y2, t2, k2⟩ := hf 2 _ rfl
    obtain ⟨a2, e2, r2⟩ := opens_field (opens_int Try.underlying3) (sz := 1) (cs' := [c3]) (by kernel_rfl) t2 k2 rfl
    obtain rfl := (List.cons.inj e2).1
    exact ⟨⟨q.A, q.n, q.c, q.xs, rf.1, rf.2, a2⟩, rfl, ⟨r0.len, r0.cap, by have := r0.reach; dsimp only; omega, (flat_one q.xs).symm ▸ r0.cels⟩⟩

theorem opens_ovs {H : Type} {enc : TypeId × Value → H} {w : World} {base : Nat} {spare : Nat → Bool} {held : Bool} {Cn : TypeId → DataW H → Prop} {b : Nat} (hC : Cnd Try.prog b Cn) : Opens enc Try.prog w base spare held Cn 39 encS (SOK (memOf w) 48 b encOv (OvIn w)) :=
  opens_slice hC encOv_len (by decide) Try.underlying39 (by kernel_rfl) (by kernel_rfl) (opens_ov hC)
theorem ovs_in {w : World} {A : Option Addr} {n c b : Nat} {xs : List OvR} (h : SOK (memOf w) 48 b encOv (OvIn w) ⟨A, n, c, xs⟩) : OsOK (memOf w) A n c xs := ⟨h.len, h.cap, by have hr : n * 48 ≤ _ := h.reach; omega, h.cels, h.all⟩

end Go.Proofs.Ytacmbiohjiogiaa.K

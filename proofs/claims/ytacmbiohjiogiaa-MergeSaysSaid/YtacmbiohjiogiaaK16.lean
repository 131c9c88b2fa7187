/- Loops and meeting ways that keep slots and groups which do not change. No condition. -/
import Derived.Test.YtacmbiohjiogiaaK15
set_option linter.unusedVariables false
namespace Go.Proofs.Ytacmbiohjiogiaa.K
section
variable {P : Program} {N : Nat} {w0 : World} {V : Mem} {Q : Exit → Frm → List Grp → Prop} {f : Frm} {L : List Grp}
/-- 's_loop' where the slots 'K' and the groups 'GK' stay as they are. -/
theorem s_loopK {c : Code} {γ : Type} (K : List (Nat × Value)) (GK : List Grp) (S : γ → List (Nat × Value)) (G : γ → List Grp) (I : γ → Prop) (m : γ → Nat) (g0 : γ)
  (hS : Has f (S g0 ++ K)) (hG : Sub (G g0 ++ GK) L) (h0 : I g0)
  (round : ∀ g f, I g → wpS P N w0 V c (thenS (fun f' L' => ∃ g', m g' < m g ∧ I g' ∧ Has f' (S g' ++ K) ∧ Sub (G g' ++ GK) L') Q) (pat f (S g ++ K)) (G g ++ GK)) : wpS P N w0 V (.loop c) Q f L :=
 s_loop (fun g => S g ++ K) (fun g => G g ++ GK) I m g0 h0 hS hG round
theorem s_joinK {x y : Code} {γ : Type} (K : List (Nat × Value)) (GK : List Grp) (S : γ → List (Nat × Value)) (G : γ → List Grp) (I : γ → Prop) (hK : Has f K) (js : List Nat) (_hG : picks js L = GK)
  (h : wpS P N w0 V x (thenS (fun f' L' => ∃ g, I g ∧ Has f' (S g ++ K) ∧ Sub (G g ++ GK) L') Q) f L) (hy : ∀ g f, I g → wpS P N w0 V y Q (pat f (S g ++ K)) (G g ++ GK)) : wpS P N w0 V (.seq x y) Q f L :=
 s_join (fun g => S g ++ K) (fun g => G g ++ GK) I h hy
end
end Go.Proofs.Ytacmbiohjiogiaa.K

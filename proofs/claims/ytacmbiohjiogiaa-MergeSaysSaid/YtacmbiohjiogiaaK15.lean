/- More rules: groups laid out anew, three effects of which any may come first, a guard on what was passed over in a region that draws. No condition. -/
import Derived.Test.YtacmbiohjiogiaaK9
import Derived.Test.YtacmbiohjiogiaaK13
set_option linter.unusedVariables false
namespace Go.Proofs.Ytacmbiohjiogiaa.K
open Go.RowKit
theorem d_eff3 {P : Program} {N : Nat} {w0 : World} {V : Mem} {L0 L : List Grp} {ops : Array Oper} {Q : Exit → Frm → List Grp → Prop} {f : Frm} {fuel k k' k'' n m : Nat} {listed : List Bool} {o o' o'' : Oper} (hk : ops[k]? = some o) (hk' : ops[k']? = some o') (hk'' : ops[k'']? = some o'') (hr : Region.ready .any ops listed.toArray = [k, k', k'']) (hs : (L.drop n).take m = L0)
  (h : opsS P N w0 V ops (onlyS fun f' L' => drawS P N w0 V L0 ops Q fuel (listed.set k true) f' L') [o] f L) (h' : opsS P N w0 V ops (onlyS fun f' L' => drawS P N w0 V L0 ops Q fuel (listed.set k' true) f' L') [o'] f L) (h'' : opsS P N w0 V ops (onlyS fun f' L' => drawS P N w0 V L0 ops Q fuel (listed.set k'' true) f' L') [o''] f L) : drawS P N w0 V L0 ops Q (fuel + 1) listed f L :=
 d_effs hr hs fun i hi => by
  rcases List.mem_cons.1 hi with rfl | hi
  ·exact ⟨_, hk, h⟩
  ·rcases List.mem_cons.1 hi with rfl | hi
   ·exact ⟨_, hk', h'⟩
   ·obtain rfl : i = k'' := by simpa using hi
    exact ⟨_, hk'', h''⟩
end Go.Proofs.Ytacmbiohjiogiaa.K

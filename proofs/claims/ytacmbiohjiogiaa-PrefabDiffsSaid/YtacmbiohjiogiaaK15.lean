/- More rules: groups laid out anew, three effects of which any may come first, a guard on what was passed over in a region that draws. No condition. -/
import Derived.Test.YtacmbiohjiogiaaK9
import Derived.Test.YtacmbiohjiogiaaK13
set_option linter.unusedVariables false
namespace Go.Proofs.Ytacmbiohjiogiaa.K
open Go.RowKit
theorem o_norm {P : Program} {N : Nat} {w0 : World} {V : Mem} {L : List Grp} {ops : Array Oper} {Q : Exit → Frm → List Grp → Prop} {f : Frm} {rest : List Oper} (L' : List Grp) (hs : L = L') (h : opsS P N w0 V ops Q rest f L') : opsS P N w0 V ops Q rest f L := hs ▸ h
theorem d_eff3 {P : Program} {N : Nat} {w0 : World} {V : Mem} {L0 L : List Grp} {ops : Array Oper} {Q : Exit → Frm → List Grp → Prop} {f : Frm} {fuel k k' k'' n m : Nat} {listed : List Bool} {o o' o'' : Oper} (hk : ops[k]? = some o) (hk' : ops[k']? = some o') (hk'' : ops[k'']? = some o'') (hr : Region.ready .any ops listed.toArray = [k, k', k'']) (hs : (L.drop n).take m = L0)
    (h : opsS P N w0 V ops (onlyS fun f' L' => drawS P N w0 V L0 ops Q fuel (listed.set k true) f' L') [o] f L) (h' : opsS P N w0 V ops (onlyS fun f' L' => drawS P N w0 V L0 ops Q fuel (listed.set k' true) f' L') [o'] f L) (h'' : opsS P N w0 V ops (onlyS fun f' L' => drawS P N w0 V L0 ops Q fuel (listed.set k'' true) f' L') [o''] f L) : drawS P N w0 V L0 ops Q (fuel + 1) listed f L :=
  d_effs hr hs fun i hi => by
    rcases List.mem_cons.1 hi with rfl | hi
    · exact ⟨_, hk, h⟩
    · rcases List.mem_cons.1 hi with rfl | hi
      · exact ⟨_, hk', h'⟩
      · obtain rfl : i = k'' := by simpa using hi
        exact ⟨_, hk'', h''⟩
theorem d_guard_un {P : Program} {N : Nat} {w0 : World} {V : Mem} {L0 L : List Grp} {ops : Array Oper} {Q : Exit → Frm → List Grp → Prop} {f : Frm} {o : Oper} {d fuel i j : Nat} {b : Bool} {listed : List Bool} (hi : ops[i]? = some o) (hs : Region.noSelect ops = true) (hr : (Region.ready .any ops listed.toArray).contains i = true) (hf : Region.free .any ops listed.toArray i = true) (hg : o.guard = some (j, b)) (hy : yieldF ops f j = none) (hd : o.dst = some d) (hN : Nat.blt d N = true)
    (h : drawS P N w0 V L0 ops Q fuel (listed.set i true) (upd f d undef) L) : drawS P N w0 V L0 ops Q (fuel + 1) listed f L := by
  intro a w ha hw
  have hy' := yieldF_none ha hy
  refine anyC_first (v := undef) hi (Region.noSelect_spec hs) (fun _ _ _ h => h) fuel listed.toArray a w (Region.free_spec hi hf) (by simpa using hr) (.inr ⟨by simp [Region.wanted, hg, hy'], rfl⟩) ?_
  have := h _ w (hd ▸ ha.put hN undef) hw
  simpa using this
end Go.Proofs.Ytacmbiohjiogiaa.K

/- Lists of groups laid into one group: one taken out, and put back. No condition. -/
import Derived.Test.YtacmbiohjiogiaaK18
namespace Go.Proofs.Ytacmbiohjiogiaa.K
open Go.RowKit
/-- What is left of a list of groups when one is taken out. -/
def outG (gs : List Grp) (i : Nat) : Grp := (gs.take i ++ gs.drop (i + 1)).flatten
theorem flat_out (gs : List Grp) (i : Nat) (hi : i < gs.length) : gs.flatten.Perm (gs.getD i [] ++ outG gs i) := by
  have e : gs = gs.take i ++ (gs.getD i [] :: gs.drop (i + 1)) := by
    rw [List.getD_eq_getElem?_getD, List.getElem?_eq_getElem hi, Option.getD_some, List.getElem_cons_drop, List.take_append_drop]
  unfold outG
  conv => lhs; rw [e]
  simp only [List.flatten_append, List.flatten_cons]
  rw [← List.append_assoc, ← List.append_assoc]
  exact List.perm_append_comm.append_right _
theorem out_set {gs : List Grp} {i : Nat} {E : Grp} : outG (gs.set i E) i = outG gs i := by
  unfold outG
  rw [List.take_set_of_le (Nat.le_refl _), List.drop_set_of_lt (Nat.lt_succ_self _)]
theorem flat_put (gs : List Grp) (i : Nat) (hi : i < gs.length) (E : Grp) : (E ++ outG gs i).Perm (gs.set i E).flatten := by
  have h := flat_out (gs.set i E) i (by rw [List.length_set]; exact hi)
  rw [out_set] at h
  rw [show (gs.set i E).getD i [] = E by rw [List.getD_eq_getElem?_getD, List.getElem?_set_self hi]; rfl] at h
  exact h.symm
section
variable {P : Program} {N : Nat} {w0 : World} {V : Mem} {Q : Exit → Frm → List Grp → Prop} {f : Frm} {R : List Grp} {ops : Array Oper} {rest : List Oper}
theorem o_takeG {gs : List Grp} (i : Nat) (hi : i < gs.length) (h : opsS P N w0 V ops Q rest f (gs.getD i [] :: outG gs i :: R)) : opsS P N w0 V ops Q rest f (gs.flatten :: R) :=
  o_sub _ (fun _ hw => hw.perm (by
    have := (flat_out gs i hi).append_right R.flatten
    simpa [List.append_assoc] using this)) h
theorem s_takeG {c : Code} {gs : List Grp} (i : Nat) (hi : i < gs.length) (h : wpS P N w0 V c Q f (gs.getD i [] :: outG gs i :: R)) : wpS P N w0 V c Q f (gs.flatten :: R) :=
  s_sub _ (fun _ hw => hw.perm (by
    have := (flat_out gs i hi).append_right R.flatten
    simpa [List.append_assoc] using this)) h
theorem o_putG {gs : List Grp} (i : Nat) (hi : i < gs.length) {E : Grp} (h : opsS P N w0 V ops Q rest f ((gs.set i E).flatten :: R)) : opsS P N w0 V ops Q rest f (E :: outG gs i :: R) :=
  o_sub _ (fun _ hw => hw.perm (by
    have := (flat_put gs i hi E).append_right R.flatten
    simpa [List.append_assoc] using this)) h
theorem s_fuseF {c : Code} {gs hs : List Grp} (h : wpS P N w0 V c Q f ((gs ++ hs).flatten :: R)) : wpS P N w0 V c Q f (gs.flatten :: hs.flatten :: R) :=
  s_sub _ (fun _ hw => hw.perm (by simp)) h
theorem o_fuseF {gs hs : List Grp} (h : opsS P N w0 V ops Q rest f ((gs ++ hs).flatten :: R)) : opsS P N w0 V ops Q rest f (gs.flatten :: hs.flatten :: R) :=
  o_sub _ (fun _ hw => hw.perm (by simp)) h
theorem s_oneF {c : Code} {E : Grp} (h : wpS P N w0 V c Q f ([E].flatten :: R)) : wpS P N w0 V c Q f (E :: R) :=
  s_sub _ (fun _ hw => hw.perm (by simp)) h
theorem o_oneF {E : Grp} (h : opsS P N w0 V ops Q rest f ([E].flatten :: R)) : opsS P N w0 V ops Q rest f (E :: R) :=
  o_sub _ (fun _ hw => hw.perm (by simp)) h
end
theorem inG_list {gs : List Grp} {i : Nat} (hi : i < gs.length) : MSub (inG (gs.getD i [])) (inG gs.flatten) := fun _ _ hb =>
  List.mem_flatten.2 ⟨_, by rw [List.getD_eq_getElem?_getD, List.getElem?_eq_getElem hi, Option.getD_some]; exact List.getElem_mem hi, hb⟩
/-- What lies here or there. -/
def orM (V W : Mem) : Mem := fun b o => V b o ∨ W b o
theorem orM_left {V W : Mem} : MSub V (orM V W) := fun _ _ h => .inl h
theorem orM_right {V W : Mem} : MSub W (orM V W) := fun _ _ h => .inr h
theorem orM_ext {V : Mem} {L : List Grp} {G : Grp} {j : Nat} (hj : nth L j = some G) : MSub (orM V (inG G)) (ext V L) := fun b o h => h.elim (fun h => .inl h) (fun h => inG_ext hj b o h)
end Go.Proofs.Ytacmbiohjiogiaa.K

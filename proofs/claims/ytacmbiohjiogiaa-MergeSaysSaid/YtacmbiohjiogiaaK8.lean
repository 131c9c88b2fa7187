/- More rules for regions that draw: several effects of which any may come next. No condition. -/
import Derived.Test.YtacmbiohjiogiaaK7
namespace Go.Proofs.Ytacmbiohjiogiaa.K
open Go.RowKit
section
variable {P : Program} {ops : Array Oper} {md : Region.Mode} {C : World → Prop} {Q : Exit → Act → World → Prop}
variable {P : Program} {N : Nat} {w0 : World} {V : Mem} {L0 : List Grp} {Q : Exit → Frm → List Grp → Prop} {f : Frm} {L : List Grp} {ops : Array Oper} {o : Oper} {d : Nat} {v : Value}
theorem d_effs {fuel n m k : Nat} {ks : List Nat} {listed : List Bool} (hr : Region.ready .any ops listed.toArray = k :: ks) (hs : (L.drop n).take m = L0)
  (h : ∀ i ∈ k :: ks, ∃ o, ops[i]? = some o ∧ opsS P N w0 V ops (onlyS fun f' L' => drawS P N w0 V L0 ops Q fuel (listed.set i true) f' L') [o] f L) : drawS P N w0 V L0 ops Q (fuel + 1) listed f L := by
 intro a w ha hw; have hc : SH w0 V w L0 := hw.sublist (sub_flatten (hs ▸ (List.take_sublist _ _).trans (List.drop_sublist _ _))); refine ⟨hc, ?_, ?_⟩
 ·intro h0; rw [hr] at h0; cases h0
 intro i hi; rw [hr] at hi; obtain ⟨o, hk, h0⟩ := h i hi; have h1 := h0 a w ha hw; have key : ∀ (K : Act → World → Prop), (∀ a' w', lift N w0 V (onlyS fun f' L' => drawS P N w0 V L0 ops Q fuel (listed.set i true) f' L') .normal a' w' → K a' w') → wpOp P ops (onN fun a w => lift N w0 V Q .normal a w) i K a w := by
  intro K hK; unfold wpOp; simp only [hk]; unfold wpList at h1
  split at h1
  ·rename_i hwa
   rw [if_pos hwa]; rcases h1 with h1 | ⟨_, a', w', f', L', _, _, hF⟩
   ·refine .inl ?_; unfold Oper.wp at h1 ⊢
    generalize (execOp a.eval o).run P w = r at h1
    cases r with
    | ok nx w' =>
     cases nx <;> simp only [Oper.upon] at h1 ⊢
     case value u => exact hK _ _ h1
     case skip => exact hK _ _ h1
     case defer dd => exact hK _ _ h1
     case enter ff args =>
      refine Calls.mono h1 fun e w'' he => ?_
      cases e with
      | returned u => exact hK _ _ he
      | panicked c => obtain ⟨f', L', _, _, hF⟩ := he; exact hF.elim
      | outgrown => obtain ⟨a', w', f', L', _, _, hF⟩ := he; exact hF.elim
     case row row args => exact Rows.mono h1 fun u w'' he => hK _ _ he
    | halt x w' =>
     cases x <;> simp only [Oper.upon] at h1 ⊢
     case panic u => obtain ⟨f', L', _, _, hF⟩ := h1; exact hF.elim
   ·exact hF.elim
  ·rename_i hwa
   rw [if_neg hwa]; exact hK _ _ h1
 refine key _ ?_; rintro a' w' ⟨f', L', h1, h2, h3⟩; have := h3 a' w' h1 h2
 simpa using this
theorem d_eff2 {fuel k k' n m : Nat} {listed : List Bool} {o o' : Oper} (hk : ops[k]? = some o) (hk' : ops[k']? = some o') (hr : Region.ready .any ops listed.toArray = [k, k']) (hs : (L.drop n).take m = L0)
  (h : opsS P N w0 V ops (onlyS fun f' L' => drawS P N w0 V L0 ops Q fuel (listed.set k true) f' L') [o] f L) (h' : opsS P N w0 V ops (onlyS fun f' L' => drawS P N w0 V L0 ops Q fuel (listed.set k' true) f' L') [o'] f L) : drawS P N w0 V L0 ops Q (fuel + 1) listed f L :=
 d_effs hr hs fun i hi => by
  rcases List.mem_cons.1 hi with rfl | hi
  ·exact ⟨_, hk, h⟩
  ·obtain rfl : i = k' := by simpa using hi
   exact ⟨_, hk', h'⟩
theorem sub_none {L : List Grp} : Sub [[]] L := fun _ _ _ h => h.sublist (by simp)
theorem o_fnv' (n : Nat) {rest : List Oper} {x : Operand} {ty : TypeId} {ps : String} {af : Array Edge} {fid : FuncId} {ts : Array TypeId} {xs : List Operand} {vs cap us : List Value} {post : Value → List Grp → Prop} (hN : Nat.blt d N = true) (hc : ∀ args w, (callFunc fid args).run P w = .ok (.enter fid args) w)
  (hf : evF f x = .func (.func fid) #[] cap.toArray) (hx : xs.map (evF f) = vs) (hu : vs ++ cap = us) (hcon : CallS P fid us.toArray (ext V (L.drop n)) (L.take n) post) (h : ∀ v L1, post v L1 → opsS P N w0 V ops Q rest (upd f d v) (L1 ++ L.drop n)) :
  opsS P N w0 V ops Q (⟨some d, .call { callee := .value x, args := xs.toArray, argTypes := ts }, ty, ps, af, none⟩ :: rest) f L := by
 subst hu; exact o_fnv n hN hc hcon hf hx h
theorem y_func' {ty : TypeId} {ps : String} {af : Array Edge} {g : Option (Nat × Bool)} {fn : Fn} {xs ys : List Operand} {a b : List Value} (ha : xs.map (evF f) = a) (hb : ys.map (evF f) = b) : Yld P f V L ⟨some d, .makeFunc fn xs.toArray ys.toArray, ty, ps, af, g⟩ (.func fn a.toArray b.toArray) :=
 y_func (by rw [List.map_toArray, ha]) (by rw [List.map_toArray, hb])
end
theorem os_eq {A : Option Addr} {n c : Nat} {T : TypeId} {sz : Nat} {E : Grp} {cs ds : List Value} (h : OS A n c T sz cs E) (e : cs = ds) : OS A n c T sz ds E := e ▸ h
end Go.Proofs.Ytacmbiohjiogiaa.K

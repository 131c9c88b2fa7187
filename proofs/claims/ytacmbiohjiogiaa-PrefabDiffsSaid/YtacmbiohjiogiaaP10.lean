/- Walks over the package prefab: differences of what is built. No condition beyond what each statement names. -/
import Derived.Test.YtacmbiohjiogiaaProg
import Derived.Test.YtacmbiohjiogiaaK14
import Derived.Test.YtacmbiohjiogiaaK19
import Derived.Test.YtacmbiohjiogiaaM1
import Derived.Test.YtacmbiohjiogiaaM2
import Derived.Test.YtacmbiohjiogiaaW1
import Derived.Test.YtacmbiohjiogiaaW2
import Derived.Test.YtacmbiohjiogiaaW3
import Derived.Test.YtacmbiohjiogiaaW4
import Derived.Test.YtacmbiohjiogiaaW5
import Derived.Test.YtacmbiohjiogiaaW6
import Derived.Test.YtacmbiohjiogiaaW7
import Derived.Test.YtacmbiohjiogiaaX1
import Derived.Test.YtacmbiohjiogiaaP1
import Derived.Test.YtacmbiohjiogiaaP2
import Derived.Test.YtacmbiohjiogiaaP3
import Derived.Test.YtacmbiohjiogiaaP4
import Derived.Test.YtacmbiohjiogiaaP5
import Derived.Test.YtacmbiohjiogiaaP6
import Derived.Test.YtacmbiohjiogiaaP7
import Derived.Test.YtacmbiohjiogiaaP8
import Derived.Test.YtacmbiohjiogiaaP9
set_option linter.unusedVariables false
set_option linter.unusedSimpArgs false
set_option maxRecDepth 100000
set_option maxHeartbeats 1000000
namespace Go.Proofs.Ytacmbiohjiogiaa.K
open Go.RowKit

def cmpI (a b : Int) : Int := if a < b then -1 else if b < a then 1 else 0
def cmpL : List Int → List Int → Int
  | [], [] => 0
  | [], _ :: _ => -1
  | _ :: _, [] => 1
  | x :: xs, y :: ys => if cmpI x y ≠ 0 then cmpI x y else cmpL xs ys
def orV : List Int → Int
  | [] => 0
  | x :: xs => if x ≠ 0 then x else orV xs
theorem drop_cons {α : Type} {xs : List α} {k : Nat} {d : α} (hk : k < xs.length) : xs.drop k = xs.getD k d :: xs.drop (k + 1) := by
  rw [getD_at hk]; exact (List.getElem_cons_drop hk).symm
/-- The order of replacements. -/
def keyC (x y : OV) : Int := orV [cmpL x.1 y.1, cmpI x.2.1 y.2.1, cmpI x.2.2.1 y.2.2.1]
/-- The first fields that differ, of one component. -/
def diffC (q : List Int) (k : Int) (xs ys : List Int) : Nat → List OV
  | 0 => []
  | f + 1 => diffC q k xs ys f ++ if ys.getD f 0 ≠ xs.getD f 0 then [(q, k, (f : Int), ys.getD f 0)] else []
def diffB (q : List Int) (cs ws : List CV) : Nat → List OV
  | 0 => []
  | j + 1 => diffB q cs ws j ++ diffC q (cs.getD j default).1 (cs.getD j default).2 (ws.getD j default).2 (ws.getD j default).2.length
def diffTo (bs ws : List BV) : Nat → List OV
  | 0 => []
  | i + 1 => diffTo bs ws i ++ diffB (bs.getD i default).1 (bs.getD i default).2 (ws.getD i default).2 (bs.getD i default).2.length
/-- The replacements that lead from one list of entities to another one. -/
def diffV (bs ws : List BV) : List OV := diffTo bs ws bs.length
def shapeB (b : BV) : List Int × List Int := (b.1, b.2.map Prod.fst)
/-- An entity that is wanted. -/
def wantOK (ks : List KR) (V : Mem) (b : BR) : Prop := PthOK V b ∧ CsOK V b.cA b.cn b.cc b.cs ∧ heldP ks b.cs
theorem BsOK.want {ks : List KR} {M V : Mem} {bs : List BR} {gs : List Grp} (h : BsOK ks M bs gs) (hM : MSub M V) (hG : MSub (inG gs.flatten) V) : ∀ b ∈ bs, wantOK ks V b := fun b hb => by
  obtain ⟨j, hj, rfl⟩ := List.mem_iff_getElem.1 hb
  have h1 := h.2 j hj
  rw [getD_at hj] at h1
  obtain ⟨a1, a2, a3, a4, a5, a6⟩ := h1
  exact ⟨a1.sub hM, ⟨a5, a2.2.1, by omega, (a2.mem.ms (inG_list (by have := h.1; omega))).ms hG, fun x hx => (a3 x hx).sub hM⟩, a4⟩
/-- What Diff gives. -/
def diffE (bs ws : List BV) : Except Int (List OV) := if bs.length ≠ ws.length then .error 8 else if 40 < (diffV bs ws).length then .error 2 else .ok (diffV bs ws)
theorem shape_at {bs ws : List BR} (h : ws.map (fun b => shapeB b.d) = bs.map (fun b => shapeB b.d)) (i : Nat) : (bs.getD i default).ps = (ws.getD i default).ps ∧ (bs.getD i default).cs.map CR.kind = (ws.getD i default).cs.map CR.kind := by
  have e : ∀ l : List BR, (l.map (fun b => shapeB b.d)).getD i (shapeB (default : BR).d) = shapeB (l.getD i default).d := fun l => by
    simp only [List.getD_eq_getElem?_getD, List.getElem?_map]
    cases l[i]? <;> rfl
  have h1 := e ws
  rw [h, e bs] at h1
  refine ⟨congrArg Prod.fst h1, ?_⟩
  have h2 := congrArg Prod.snd h1
  simp only [shapeB, BR.d, List.map_map] at h2
  exact h2
theorem kind_at {cs ws : List CR} (h : cs.map CR.kind = ws.map CR.kind) (j : Nat) : (cs.getD j default).kind = (ws.getD j default).kind := by
  have e : ∀ l : List CR, (l.map CR.kind).getD j (default : CR).kind = (l.getD j default).kind := fun l => by
    simp only [List.getD_eq_getElem?_getD, List.getElem?_map]
    cases l[j]? <;> rfl
  rw [← e, h, e]
structure LD10 where
  k : Nat
  ds : List OvR
  A : Option Addr
  c : Nat
  E : Grp
  P : Grp

theorem isNaNI_c {V : Mem} (x : Int) : CallS Try.prog 184 [.int .i64 x].toArray V [] (fun r L' => r = .bool false ∧ L' = []) := by
  refine callS Try.func184 rfl rfl (fun w0 => ?_)
  refine s_seq ?_
  refine s_region ?_
  refine o_val rfl rfl rfl (y_assign (v := (.bool _)) rfl) ?_
  refine o_nil ?_
  refine s_seq ?_
  refine s_region ?_
  refine o_val rfl rfl rfl (y_move (v := (.int _ _)) rfl) ?_
  refine o_val rfl rfl rfl (y_move (v := (.int _ _)) rfl) ?_
  refine o_val rfl rfl rfl (y_neq rfl rfl) ?_
  refine o_val rfl rfl rfl (y_assign (v := (.bool _)) rfl) ?_
  refine o_nil ?_
  refine s_ret ?_
  exact ⟨_, [], res1 rfl rfl, ⟨congrArg Value.bool (by simp), rfl⟩, sub_picks [] rfl⟩

theorem CmpI_c {V : Mem} (x y : Int) : CallS Try.prog 133 [.int .i64 x, .int .i64 y].toArray V [] (fun r L' => r = .int .i64 (cmpI x y) ∧ L' = []) := by
  refine callS Try.func133 rfl rfl (fun w0 => ?_)
  refine s_seq ?_
  refine s_region ?_
  refine o_val rfl rfl rfl (y_assign (v := (.int _ _)) rfl) ?_
  refine o_nil ?_
  refine s_seq ?_
  refine s_region ?_
  refine o_val rfl rfl rfl (y_move (v := (.int _ _)) rfl) ?_
  refine o_fn 0 (d := 8) rfl Try.call184 (isNaNI_c x) rfl ?_
  rintro _ _ ⟨rfl, rfl⟩
  refine o_val rfl rfl rfl (y_assign (v := (.bool _)) rfl) ?_
  refine o_nil ?_
  refine s_seq ?_
  refine s_region ?_
  refine o_val rfl rfl rfl (y_move (v := (.int _ _)) rfl) ?_
  refine o_fn 0 (d := 10) rfl Try.call184 (isNaNI_c y) rfl ?_
  rintro _ _ ⟨rfl, rfl⟩
  refine o_val rfl rfl rfl (y_assign (v := (.bool _)) rfl) ?_
  refine o_nil ?_
  refine s_seq ?_
  refine s_seq ?_
  refine s_region ?_
  refine o_val rfl rfl rfl (y_move (v := (.bool _)) rfl) ?_
  refine o_nil ?_
  refine s_else rfl ?_
  refine s_skip ?_
  refine s_seq ?_
  refine s_seq ?_
  refine s_region ?_
  refine o_val rfl rfl rfl (y_move (v := (.bool _)) rfl) ?_
  refine o_nil ?_
  refine s_else rfl ?_
  refine s_skip ?_
  refine s_seq ?_
  refine s_seq ?_
  refine s_region ?_
  refine o_val rfl rfl rfl (y_move (v := (.int _ _)) rfl) ?_
  refine o_val rfl rfl rfl (y_move (v := (.int _ _)) rfl) ?_
  refine o_val rfl rfl rfl (y_lss rfl rfl) ?_
  refine o_nil ?_
  refine s_forget [(0, (.int _ _)), (1, (.int _ _)), (4, (.int _ _)), (16, (.bool _))] ⟨rfl, rfl, rfl, rfl, trivial⟩ (fun _f => ?_)
  refine s_if rfl (fun h1 => ?_) (fun h2 => ?_)
  · refine s_seq ?_
    refine s_region ?_
    refine o_val rfl rfl rfl (y_assign (v := (.int _ _)) rfl) ?_
    refine o_nil ?_
    refine s_ret ?_
    exact ⟨_, [], res1 rfl rfl, ⟨congrArg (Value.int .i64) (by unfold cmpI; rw [if_pos (by omega)]), rfl⟩, sub_picks [] rfl⟩
  · refine s_skip ?_
    refine s_seq ?_
    refine s_seq ?_
    refine s_region ?_
    refine o_val rfl rfl rfl (y_move (v := (.int _ _)) rfl) ?_
    refine o_val rfl rfl rfl (y_move (v := (.int _ _)) rfl) ?_
    refine o_val rfl rfl rfl (y_gtr rfl rfl) ?_
    refine o_nil ?_
    refine s_if rfl (fun h3 => ?_) (fun h4 => ?_)
    · refine s_seq ?_
      refine s_region ?_
      refine o_val rfl rfl rfl (y_assign (v := (.int _ _)) rfl) ?_
      refine o_nil ?_
      refine s_ret ?_
      exact ⟨_, [], res1 rfl rfl, ⟨congrArg (Value.int .i64) (by unfold cmpI; rw [if_neg (by omega), if_pos (by omega)]), rfl⟩, sub_picks [] rfl⟩
    · refine s_skip ?_
      refine s_seq ?_
      refine s_region ?_
      refine o_val rfl rfl rfl (y_assign (v := (.int _ _)) rfl) ?_
      refine o_nil ?_
      refine s_ret ?_
      exact ⟨_, [], res1 rfl rfl, ⟨congrArg (Value.int .i64) (by unfold cmpI; rw [if_neg (by omega), if_neg (by omega)]), rfl⟩, sub_picks [] rfl⟩

theorem CmpL_c {V : Mem} (A : Option Addr) (n c : Nat) (xs : List Int) (h : Cels V [] A (xs.map (.int .i64))) (hn : xs.length = n) (B : Option Addr) (m d : Nat) (ys : List Int) (h' : Cels V [] B (ys.map (.int .i64))) (hm : ys.length = m) (hb : n ≤ 17592186044416) : CallS Try.prog 69 [.slice A n c, .slice B m d].toArray V [] (fun r L' => r = .int .i64 (cmpL xs ys) ∧ L' = []) := by
  refine callS Try.func69 rfl rfl (fun w0 => ?_)
  refine s_seq ?_
  refine s_region ?_
  refine o_val rfl rfl rfl (y_assign (v := (.int _ _)) rfl) ?_
  refine o_nil ?_
  refine s_seq ?_
  refine s_seq ?_
  refine s_region ?_
  refine o_val rfl rfl rfl (y_move (v := (.slice _ _ _)) rfl) ?_
  refine o_val rfl rfl rfl (y_len Try.runUnderlying22 rfl) ?_
  refine o_val rfl rfl rfl (y_move (v := (.int _ _)) rfl) ?_
  refine o_nil ?_
  refine s_block ?_
  refine s_loopK (γ := Nat) [(0, (.slice _ _ _)), (1, (.slice _ _ _)), (9, (.slice _ _ _)), (10, (.int _ _))] [] (fun g => [(11, .int .i64 g)]) (fun g => []) (fun g => g ≤ n ∧ g ≤ m ∧ cmpL xs ys = cmpL (xs.drop g) (ys.drop g)) (fun g => n - g) (0) ⟨rfl, rfl, rfl, rfl, rfl, trivial⟩ (sub_picks [] rfl) ?_ ?_
  · exact ⟨Nat.zero_le _, Nat.zero_le _, rfl⟩
  intro g _f hI
  obtain ⟨hg, hgm, hl⟩ := hI
  refine s_seq ?_
  refine s_region ?_
  refine o_val rfl rfl rfl (y_lss rfl rfl) ?_
  refine o_nil ?_
  refine s_seq ?_
  refine s_if rfl (fun h1 => ?_) (fun h2 => ?_)
  · refine s_skip ?_
    refine s_seq ?_
    refine s_block ?_
    refine s_seq ?_
    refine s_region ?_
    refine o_val rfl rfl rfl (y_move (v := (.int _ _)) rfl) ?_
    refine o_val rfl rfl rfl (y_index1 Try.runUnderlying22 Try.sizeOf3 (some_int (i := 0) h (by omega)) rfl rfl (by omega)) ?_
    refine o_val rfl rfl rfl (y_load Try.isAgg3 rfl (cel_int h.here (by omega))) ?_
    refine o_val rfl rfl rfl (y_assign (v := (.int _ _)) rfl) ?_
    refine o_val rfl rfl rfl (y_assign (v := (.int _ _)) rfl) ?_
    refine o_nil ?_
    refine s_seq ?_
    refine s_seq ?_
    refine s_region ?_
    refine o_val rfl rfl rfl (y_move (v := (.int _ _)) rfl) ?_
    refine o_val rfl rfl rfl (y_move (v := (.slice _ _ _)) rfl) ?_
    refine o_val rfl rfl rfl (y_len Try.runUnderlying22 rfl) ?_
    refine o_val rfl rfl rfl (y_geq rfl rfl) ?_
    refine o_nil ?_
    refine s_forget [(0, (.slice _ _ _)), (1, (.slice _ _ _)), (5, (.int _ _)), (6, (.int _ _)), (9, (.slice _ _ _)), (10, (.int _ _)), (11, (.int _ _)), (19, (.bool _))] ⟨rfl, rfl, rfl, rfl, rfl, rfl, rfl, rfl, trivial⟩ (fun _f => ?_)
    refine s_if rfl (fun h3 => ?_) (fun h4 => ?_)
    · refine s_seq ?_
      refine s_region ?_
      refine o_val rfl rfl rfl (y_assign (v := (.int _ _)) rfl) ?_
      refine o_nil ?_
      refine s_ret ?_
      have e1 : xs.drop g = xs.getD g 0 :: xs.drop (g + 1) := drop_cons (by omega)
      have e2 : ys.drop g = [] := List.drop_eq_nil_of_le (by omega)
      exact ⟨_, [], res1 rfl rfl, ⟨congrArg (Value.int .i64) (by rw [hl]; rw [e1, e2]; rfl), rfl⟩, sub_picks [] rfl⟩
    · refine s_skip ?_
      refine s_seq ?_
      refine s_region ?_
      refine o_val rfl rfl rfl (y_move (v := (.slice _ _ _)) rfl) ?_
      refine o_val rfl rfl rfl (y_move (v := (.int _ _)) rfl) ?_
      refine o_val rfl rfl rfl (y_index1 Try.runUnderlying22 Try.sizeOf3 (some_int (i := 0) h' (by omega)) rfl rfl (by omega)) ?_
      refine o_val rfl rfl rfl (y_load Try.isAgg3 rfl (cel_int h'.here (by omega))) ?_
      refine o_val rfl rfl rfl (y_assign (v := (.int _ _)) rfl) ?_
      refine o_nil ?_
      refine s_seq ?_
      refine s_region ?_
      refine o_val rfl rfl rfl (y_move (v := (.int _ _)) rfl) ?_
      refine o_val rfl rfl rfl (y_move (v := (.int _ _)) rfl) ?_
      refine o_fn 0 (d := 26) rfl Try.call133 (CmpI_c (xs.getD ((g : Nat) : Int).toNat 0) (ys.getD ((g : Nat) : Int).toNat 0)) rfl ?_
      rintro _ _ ⟨rfl, rfl⟩
      refine o_val rfl rfl rfl (y_assign (v := (.int _ _)) rfl) ?_
      refine o_nil ?_
      refine s_seq ?_
      refine s_region ?_
      refine o_val rfl rfl rfl (y_move (v := (.int _ _)) rfl) ?_
      refine o_val rfl rfl rfl (y_neq rfl rfl) ?_
      refine o_nil ?_
      refine s_if rfl (fun h5 => ?_) (fun h6 => ?_)
      · have hne : cmpI (xs.getD g 0) (ys.getD g 0) ≠ 0 := h5
        refine s_seq ?_
        refine s_region ?_
        refine o_val rfl rfl rfl (y_move (v := (.int _ _)) rfl) ?_
        refine o_val rfl rfl rfl (y_assign (v := (.int _ _)) rfl) ?_
        refine o_nil ?_
        refine s_ret ?_
        have e1 : xs.drop g = xs.getD g 0 :: xs.drop (g + 1) := drop_cons (by omega)
        have e2 : ys.drop g = ys.getD g 0 :: ys.drop (g + 1) := drop_cons (by omega)
        exact ⟨_, [], res1 rfl rfl, ⟨congrArg (Value.int .i64) (by rw [hl]; rw [e1, e2]; simp only [cmpL]; rw [if_pos hne]; rfl), rfl⟩, sub_picks [] rfl⟩
      · have heq : ¬ cmpI (xs.getD g 0) (ys.getD g 0) ≠ 0 := h6
        refine s_skip ?_
        refine s_region ?_
        refine o_val rfl rfl rfl (y_add rfl rfl (by simp only [inK]; omega)) ?_
        refine o_val rfl rfl rfl (y_move (v := (.int _ _)) rfl) ?_
        refine o_nil ?_
        exact ⟨g + 1, (by first | omega | (dsimp only; omega)), ⟨by omega, by omega, by rw [hl, drop_cons (xs := xs) (d := 0) (show g < xs.length by omega), drop_cons (xs := ys) (d := 0) (show g < ys.length by omega)]; simp only [cmpL]; rw [if_neg heq]⟩, ⟨(congrArg (Value.int .i64) (by omega)), rfl, rfl, rfl, rfl, trivial⟩, (sub_picks [] rfl)⟩
  · refine s_exit ?_
    refine s_seq ?_
    refine s_seq ?_
    refine s_region ?_
    refine o_val rfl rfl rfl (y_move (v := (.slice _ _ _)) rfl) ?_
    refine o_val rfl rfl rfl (y_len Try.runUnderlying22 rfl) ?_
    refine o_val rfl rfl rfl (y_move (v := (.slice _ _ _)) rfl) ?_
    refine o_val rfl rfl rfl (y_len Try.runUnderlying22 rfl) ?_
    refine o_val rfl rfl rfl (y_lss rfl rfl) ?_
    refine o_nil ?_
    refine s_if rfl (fun h7 => ?_) (fun h8 => ?_)
    · refine s_seq ?_
      refine s_region ?_
      refine o_val rfl rfl rfl (y_assign (v := (.int _ _)) rfl) ?_
      refine o_nil ?_
      refine s_ret ?_
      have e1 : xs.drop g = [] := List.drop_eq_nil_of_le (by omega)
      have e2 : ys.drop g = ys.getD g 0 :: ys.drop (g + 1) := drop_cons (by omega)
      exact ⟨_, [], res1 rfl rfl, ⟨congrArg (Value.int .i64) (by rw [hl]; rw [e1, e2]; rfl), rfl⟩, sub_picks [] rfl⟩
    · refine s_skip ?_
      refine s_seq ?_
      refine s_region ?_
      refine o_val rfl rfl rfl (y_assign (v := (.int _ _)) rfl) ?_
      refine o_nil ?_
      refine s_ret ?_
      have e1 : xs.drop g = [] := List.drop_eq_nil_of_le (by omega)
      have e2 : ys.drop g = [] := List.drop_eq_nil_of_le (by omega)
      exact ⟨_, [], res1 rfl rfl, ⟨congrArg (Value.int .i64) (by rw [hl]; rw [e1, e2]; rfl), rfl⟩, sub_picks [] rfl⟩

theorem CmpOr_c {V : Mem} (A : Option Addr) (n c : Nat) (xs : List Int) (h : Cels V [] A (xs.map (.int .i64))) (hn : xs.length = n) (hb : n ≤ 1000000) : CallS Try.prog 132 [.slice A n c].toArray V [] (fun r L' => r = .int .i64 (orV xs) ∧ L' = []) := by
  refine callS Try.func132 rfl rfl (fun w0 => ?_)
  refine s_seq ?_
  refine s_region ?_
  refine o_val rfl rfl rfl (y_assign (v := (.int _ _)) rfl) ?_
  refine o_nil ?_
  refine s_seq ?_
  refine s_region ?_
  refine o_val rfl rfl rfl (y_assign (v := (.int _ _)) rfl) ?_
  refine o_nil ?_
  refine s_seq ?_
  refine s_seq ?_
  refine s_region ?_
  refine o_val rfl rfl rfl (y_move (v := (.slice _ _ _)) rfl) ?_
  refine o_val rfl rfl rfl (y_len Try.runUnderlying22 rfl) ?_
  refine o_val rfl rfl rfl (y_move (v := (.int _ _)) rfl) ?_
  refine o_nil ?_
  refine s_block ?_
  refine s_loopK (γ := Nat) [(3, (.int _ _)), (6, (.slice _ _ _)), (7, (.int _ _))] [] (fun g => [(8, .int .i64 g)]) (fun g => []) (fun g => g ≤ n ∧ orV xs = orV (xs.drop g)) (fun g => n - g) (0) ⟨rfl, rfl, rfl, rfl, trivial⟩ (sub_picks [] rfl) ?_ ?_
  · exact ⟨Nat.zero_le _, rfl⟩
  intro g _f hI
  obtain ⟨hg, hl⟩ := hI
  refine s_seq ?_
  refine s_region ?_
  refine o_val rfl rfl rfl (y_lss rfl rfl) ?_
  refine o_nil ?_
  refine s_seq ?_
  refine s_if rfl (fun h1 => ?_) (fun h2 => ?_)
  · refine s_skip ?_
    refine s_seq ?_
    refine s_block ?_
    refine s_seq ?_
    refine s_region ?_
    refine o_val rfl rfl rfl (y_index1 Try.runUnderlying22 Try.sizeOf3 (some_int (i := 0) h (by omega)) rfl rfl (by omega)) ?_
    refine o_val rfl rfl rfl (y_load Try.isAgg3 rfl (cel_int h.here (by omega))) ?_
    refine o_val rfl rfl rfl (y_assign (v := (.int _ _)) rfl) ?_
    refine o_nil ?_
    refine s_seq ?_
    refine s_region ?_
    refine o_val rfl rfl rfl (y_move (v := (.int _ _)) rfl) ?_
    refine o_val rfl rfl rfl (y_move (v := (.int _ _)) rfl) ?_
    refine o_val rfl rfl rfl (y_neq rfl rfl) ?_
    refine o_nil ?_
    refine s_if rfl (fun h3 => ?_) (fun h4 => ?_)
    · have hne : xs.getD g 0 ≠ 0 := h3
      refine s_seq ?_
      refine s_region ?_
      refine o_val rfl rfl rfl (y_move (v := (.int _ _)) rfl) ?_
      refine o_val rfl rfl rfl (y_assign (v := (.int _ _)) rfl) ?_
      refine o_nil ?_
      refine s_ret ?_
      exact ⟨_, [], res1 rfl rfl, ⟨congrArg (Value.int .i64) (by rw [hl, drop_cons (xs := xs) (d := 0) (show g < xs.length by omega)]; simp only [orV]; rw [if_pos hne]; rfl), rfl⟩, sub_picks [] rfl⟩
    · have heq : ¬ xs.getD g 0 ≠ 0 := h4
      refine s_skip ?_
      refine s_region ?_
      refine o_val rfl rfl rfl (y_add rfl rfl (by simp only [inK]; omega)) ?_
      refine o_val rfl rfl rfl (y_move (v := (.int _ _)) rfl) ?_
      refine o_nil ?_
      exact ⟨g + 1, (by first | omega | (dsimp only; omega)), ⟨by omega, by rw [hl, drop_cons (xs := xs) (d := 0) (show g < xs.length by omega)]; simp only [orV]; rw [if_neg heq]⟩, ⟨(congrArg (Value.int .i64) (by omega)), rfl, rfl, rfl, trivial⟩, (sub_picks [] rfl)⟩
  · refine s_exit ?_
    refine s_seq ?_
    refine s_region ?_
    refine o_val rfl rfl rfl (y_move (v := (.int _ _)) rfl) ?_
    refine o_val rfl rfl rfl (y_assign (v := (.int _ _)) rfl) ?_
    refine o_nil ?_
    refine s_ret ?_
    exact ⟨_, [], res1 rfl rfl, ⟨congrArg (Value.int .i64) (by rw [hl, List.drop_eq_nil_of_le (show xs.length ≤ g by omega)]; rfl), rfl⟩, sub_picks [] rfl⟩

theorem Clean1_k0 (v0 : Int) (v1 : Int) (v2 : Int) (w : World) : (Instr.buildSlice 22 3 ([(0, (.int .i64 v0)), (1, (.int .i64 v1)), (2, (.int .i64 v2))] : List (Nat × Value)).toArray).run Try.prog w = .ok (.slice (some ⟨w.heap.size, 0, none⟩) 3 3) { w with heap := w.heap.push (.cells ([.int .i64 v0, .int .i64 v1, .int .i64 v2] : List Value).toArray 3 (0, 0)) } := by kernel_rfl
theorem Clean1_c {V : Mem} (x y : OvR) (hx : OvOK V x) (hy : OvOK V y) : CallS Try.prog 131 [.agg #[.slice x.A x.n x.c, .int .i64 x.kind, .int .i64 x.field, .int .i64 x.val], .agg #[.slice y.A y.n y.c, .int .i64 y.kind, .int .i64 y.field, .int .i64 y.val]].toArray V [] (fun r L' => r = .int .i64 (keyC x.d y.d) ∧ L' = []) := by
  refine callS Try.func131 rfl rfl (fun w0 => ?_)
  refine s_seq ?_
  refine s_region ?_
  refine o_box (v := (.agg #[(.slice _ _ _), (.int _ _), (.int _ _), (.int _ _)])) rfl rfl rfl (fun b1 => ?_)
  refine o_box (v := (.agg #[(.slice _ _ _), (.int _ _), (.int _ _), (.int _ _)])) rfl rfl rfl (fun b2 => ?_)
  refine o_val rfl rfl rfl (y_assign (v := (.int _ _)) rfl) ?_
  refine o_nil ?_
  refine s_seq ?_
  refine s_drawn 0 (by kernel_rfl) ?_
  refine d_val (i := 0) rfl (by kernel_rfl) (by kernel_rfl) (by kernel_rfl) rfl rfl rfl (y_field0 Try.runUnderlying147 rfl Try.sizeOf22 rfl rfl) ?_
  refine d_val (i := 1) rfl (by kernel_rfl) (by kernel_rfl) (by kernel_rfl) rfl rfl rfl (y_load Try.isAgg22 rfl (cel_own 0 rfl rfl)) ?_
  refine d_val (i := 2) rfl (by kernel_rfl) (by kernel_rfl) (by kernel_rfl) rfl rfl rfl (y_field0 Try.runUnderlying147 rfl Try.sizeOf22 rfl rfl) ?_
  refine d_val (i := 3) rfl (by kernel_rfl) (by kernel_rfl) (by kernel_rfl) rfl rfl rfl (y_load Try.isAgg22 rfl (cel_own 1 rfl rfl)) ?_
  refine d_val (i := 5) rfl (by kernel_rfl) (by kernel_rfl) (by kernel_rfl) rfl rfl rfl (y_field0 Try.runUnderlying147 rfl Try.sizeOf145 rfl rfl) ?_
  refine d_val (i := 6) rfl (by kernel_rfl) (by kernel_rfl) (by kernel_rfl) rfl rfl rfl (y_field0 Try.runUnderlying145 rfl Try.sizeOf3 rfl rfl) ?_
  refine d_val (i := 7) rfl (by kernel_rfl) (by kernel_rfl) (by kernel_rfl) rfl rfl rfl (y_load Try.isAgg3 rfl (cel_own 0 rfl rfl)) ?_
  refine d_val (i := 8) rfl (by kernel_rfl) (by kernel_rfl) (by kernel_rfl) rfl rfl rfl (y_field0 Try.runUnderlying147 rfl Try.sizeOf145 rfl rfl) ?_
  refine d_val (i := 9) rfl (by kernel_rfl) (by kernel_rfl) (by kernel_rfl) rfl rfl rfl (y_field0 Try.runUnderlying145 rfl Try.sizeOf3 rfl rfl) ?_
  refine d_val (i := 10) rfl (by kernel_rfl) (by kernel_rfl) (by kernel_rfl) rfl rfl rfl (y_load Try.isAgg3 rfl (cel_own 1 rfl rfl)) ?_
  refine d_val (i := 12) rfl (by kernel_rfl) (by kernel_rfl) (by kernel_rfl) rfl rfl rfl (y_field0 Try.runUnderlying147 rfl Try.sizeOf145 rfl rfl) ?_
  refine d_val (i := 13) rfl (by kernel_rfl) (by kernel_rfl) (by kernel_rfl) rfl rfl rfl (y_field0 Try.runUnderlying145 rfl Try.sizeOf3 rfl rfl) ?_
  refine d_val (i := 14) rfl (by kernel_rfl) (by kernel_rfl) (by kernel_rfl) rfl rfl rfl (y_load Try.isAgg3 rfl (cel_own 0 rfl rfl)) ?_
  refine d_val (i := 15) rfl (by kernel_rfl) (by kernel_rfl) (by kernel_rfl) rfl rfl rfl (y_field0 Try.runUnderlying147 rfl Try.sizeOf145 rfl rfl) ?_
  refine d_val (i := 16) rfl (by kernel_rfl) (by kernel_rfl) (by kernel_rfl) rfl rfl rfl (y_field0 Try.runUnderlying145 rfl Try.sizeOf3 rfl rfl) ?_
  refine d_val (i := 17) rfl (by kernel_rfl) (by kernel_rfl) (by kernel_rfl) rfl rfl rfl (y_load Try.isAgg3 rfl (cel_own 1 rfl rfl)) ?_
  refine d_eff (k := 4) (n := 0) (m := 2) rfl (by kernel_rfl) rfl ?_
  refine o_fn 0 (d := 9) rfl Try.call69 (CmpL_c x.A x.n x.c x.ps hx.2.2.2.here.down hx.1 y.A y.n y.c y.ps hy.2.2.2.here.down hy.1 hx.2.2.1) rfl ?_
  rintro _ _ ⟨rfl, rfl⟩
  refine o_nil ?_
  refine d_eff (k := 11) (n := 0) (m := 2) rfl (by kernel_rfl) rfl ?_
  refine o_fn 0 (d := 16) rfl Try.call133 (CmpI_c x.kind y.kind) rfl ?_
  rintro _ _ ⟨rfl, rfl⟩
  refine o_nil ?_
  refine d_eff (k := 18) (n := 0) (m := 2) rfl (by kernel_rfl) rfl ?_
  refine o_fn 0 (d := 23) rfl Try.call133 (CmpI_c x.field y.field) rfl ?_
  rintro _ _ ⟨rfl, rfl⟩
  refine o_nil ?_
  refine d_eff (k := 19) (n := 0) (m := 2) rfl (by kernel_rfl) rfl ?_
  refine o_lit (vs := [(0, .int _ _), (1, .int _ _), (2, .int _ _)]) rfl rfl (Clean1_k0 _ _ _) (fun b3 => ?_)
  refine o_nil ?_
  refine d_eff (k := 20) (n := 0) (m := 2) rfl (by kernel_rfl) rfl ?_
  refine o_fn 0 (d := 25) rfl Try.call132 (CmpOr_c _ 3 3 [cmpL x.ps y.ps, cmpI x.kind y.kind, cmpI x.field y.field] (cels_own 2 rfl rfl).down rfl (by decide)) rfl ?_
  rintro _ _ ⟨rfl, rfl⟩
  refine o_nil ?_
  refine d_val (i := 21) rfl (by kernel_rfl) (by kernel_rfl) (by kernel_rfl) rfl rfl rfl (y_assign (v := (.int _ _)) rfl) ?_
  refine d_nil (n := 0) (m := 2) (by kernel_rfl) rfl ?_
  refine s_forget [(4, (.int _ _))] ⟨rfl, trivial⟩ (fun _f => ?_)
  refine s_ret ?_
  exact ⟨_, [], res1 rfl rfl, ⟨rfl, rfl⟩, sub_picks [] rfl⟩

theorem DiffK_c {V : Mem} (x y : CR) (hx : COK V x) (hy : COK V y) : CallS Try.prog 130 [.agg #[.int .i64 x.kind, .slice x.A x.n x.c], .agg #[.int .i64 y.kind, .slice y.A y.n y.c]].toArray V [] (fun r L' => r = .bool (decide (x.kind = y.kind)) ∧ L' = []) := by
  refine callS Try.func130 rfl rfl (fun w0 => ?_)
  refine s_seq ?_
  refine s_region ?_
  refine o_box (v := (.agg #[(.int _ _), (.slice _ _ _)])) rfl rfl rfl (fun b1 => ?_)
  refine o_box (v := (.agg #[(.int _ _), (.slice _ _ _)])) rfl rfl rfl (fun b2 => ?_)
  refine o_val rfl rfl rfl (y_assign (v := (.bool _)) rfl) ?_
  refine o_nil ?_
  refine s_seq ?_
  refine s_region ?_
  refine o_val rfl rfl rfl (y_field0 Try.runUnderlying155 rfl Try.sizeOf3 rfl rfl) ?_
  refine o_val rfl rfl rfl (y_load Try.isAgg3 rfl (cel_own 0 rfl rfl)) ?_
  refine o_val rfl rfl rfl (y_field0 Try.runUnderlying155 rfl Try.sizeOf3 rfl rfl) ?_
  refine o_val rfl rfl rfl (y_load Try.isAgg3 rfl (cel_own 1 rfl rfl)) ?_
  refine o_val rfl rfl rfl (y_eql rfl rfl) ?_
  refine o_val rfl rfl rfl (y_assign (v := (.bool _)) rfl) ?_
  refine o_nil ?_
  refine s_ret ?_
  exact ⟨_, [], res1 rfl rfl, ⟨rfl, rfl⟩, sub_picks [] rfl⟩

theorem DiffP_k0 (v0 : Int) (v1 : Int) (w : World) : (Instr.build 145 ([(0, (.int .i64 v0)), (1, (.int .i64 v1))] : List (Nat × Value)).toArray).run Try.prog w = .ok (.agg #[.int .i64 v0, .int .i64 v1]) w := by kernel_rfl
theorem DiffP_k1 (v0A : Option Addr) (v0n : Nat) (v0c : Nat) (v1x0 : Int) (v1x1 : Int) (v2 : Int) (w : World) : (Instr.build 147 ([(0, (.slice v0A v0n v0c)), (1, (.agg #[(.int .i64 v1x0), (.int .i64 v1x1)])), (2, (.int .i64 v2))] : List (Nat × Value)).toArray).run Try.prog w = .ok (.agg #[.slice v0A v0n v0c, .int .i64 v1x0, .int .i64 v1x1, .int .i64 v2]) w := by kernel_rfl
theorem DiffP_k2 (v0x0A : Option Addr) (v0x0n : Nat) (v0x0c : Nat) (v0x1 : Int) (v0x2 : Int) (v0x3 : Int) (w : World) : (Instr.buildSlice 39 1 ([(0, (.agg #[(.slice v0x0A v0x0n v0x0c), (.int .i64 v0x1), (.int .i64 v0x2), (.int .i64 v0x3)]))] : List (Nat × Value)).toArray).run Try.prog w = .ok (.slice (some ⟨w.heap.size, 0, none⟩) 1 1) { w with heap := w.heap.push (.cells ([.slice v0x0A v0x0n v0x0c, .int .i64 v0x1, .int .i64 v0x2, .int .i64 v0x3] : List Value).toArray 147 (0, 0)) } := by kernel_rfl
theorem DiffP_c {V : Mem} (A : Option Addr) (nK cK : Nat) (ks : List KR) (hks : KsOK V A nK cK ks) (hck : ckErr ks = 0) (lA : Option Addr) (ln lc : Nat) (l : List PfR) (hl : LsOK V lA ln lc l) (hok : okTs ks l) (n : Nat) (hn : n < l.length) (z : Int) (hz : z = (n : Int)) (wA : Option Addr) (wn wc : Nat) (ws : List BR) (hw : Cels V [] wA (ws.flatMap encB)) (hwl : ws.length = wn) (hw1 : wn ≤ 1000) (hW : ∀ b ∈ ws, wantOK ks V b) (hsh : ws.length = (rawV ks (l.map PfR.d) n).length → ws.map (fun b => shapeB b.d) = (rawV ks (l.map PfR.d) n).map shapeB) : CallS Try.prog 53 [.slice A nK cK, .slice lA ln lc, .int .i64 z, .slice wA wn wc].toArray V [] (fun r L' => (∃ e : Int, diffE (rawV ks (l.map PfR.d) n) (ws.map BR.d) = .error e ∧ e ≠ 0 ∧ r = .tuple #[.slice none 0 0, .int .i64 e] ∧ L' = []) ∨ (∃ (ds : List OvR) (dA : Option Addr) (dn dC : Nat) (E P : Grp), diffE (rawV ks (l.map PfR.d) n) (ws.map BR.d) = .ok (ds.map OvR.d) ∧ r = .tuple #[.slice dA dn dC, .int .i64 0] ∧ ds.length = dn ∧ OS dA dn dC 147 4 ((ds).flatMap encOv) E ∧ (∀ x ∈ ds, OvOK (inG P) x ∧ x.n ≤ 1000) ∧ L' = [E, P])) := by
  have hl4 := hok.1
  refine callS Try.func53 rfl rfl (fun w0 => ?_)
  refine s_seq ?_
  refine s_region ?_
  refine o_val rfl rfl rfl (y_assign (v := (.slice _ _ _)) rfl) ?_
  refine o_val rfl rfl rfl (y_assign (v := (.int _ _)) rfl) ?_
  refine o_nil ?_
  refine s_seq ?_
  refine s_region ?_
  refine o_val rfl rfl rfl (y_move (v := (.slice _ _ _)) rfl) ?_
  refine o_val rfl rfl rfl (y_move (v := (.slice _ _ _)) rfl) ?_
  refine o_val rfl rfl rfl (y_move (v := (.int _ _)) rfl) ?_
  refine o_fn 0 (d := 24) rfl Try.call19 (Build_c A nK cK ks (hks.sub MSub.ext) hck lA ln lc l (hl.sub MSub.ext) hok n hn z hz none 0 0 [] ⟨rfl, Nat.le_refl _, Nat.zero_le _, Cels.nil, fun y hy => absurd hy List.not_mem_nil⟩) rfl ?_
  rintro _ _ (⟨e, hx, he, rfl, rfl⟩ | ⟨bs', gs', B', bn', C', E', P', hx, rfl, hbn, ho', hb', rfl⟩)
  · exact absurd ((resV_nil ks (l.map PfR.d) n).symm.trans hx) (by simp)
  · have hbd := Except.ok.inj (hx.symm.trans (resV_nil ks (l.map PfR.d) n))
    have hbl : (rawV ks (l.map PfR.d) n).length = bn' := by rw [← hbd, List.length_map]; exact hbn
    have hb15 := rawV_15 (fun i hi => hok.2.1 i (by omega)) (show n ≤ 3 by omega)
    refine o_val rfl rfl rfl (y_move (v := (.tuple #[(.slice _ _ _), (.int _ _)])) rfl) ?_
    refine o_val rfl rfl rfl (y_extract (v := (.slice _ _ _)) rfl rfl) ?_
    refine o_val rfl rfl rfl (y_extract (v := (.int _ _)) rfl rfl) ?_
    refine o_val rfl rfl rfl (y_assign (v := (.slice _ _ _)) rfl) ?_
    refine o_val rfl rfl rfl (y_assign (v := (.int _ _)) rfl) ?_
    refine o_nil ?_
    refine s_forget [(0, (.slice _ _ _)), (3, (.slice _ _ _)), (8, (.slice _ _ _)), (9, (.int _ _)), (10, (.slice _ _ _)), (11, (.int _ _))] ⟨rfl, rfl, rfl, rfl, rfl, rfl, trivial⟩ (fun _f => ?_)
    refine s_seq ?_
    refine s_seq ?_
    refine s_region ?_
    refine o_val rfl rfl rfl (y_move (v := (.int _ _)) rfl) ?_
    refine o_val rfl rfl rfl (y_neq rfl rfl) ?_
    refine o_nil ?_
    refine s_if rfl (fun h1 => ?_) (fun h2 => ?_)
    · exact absurd rfl h1
    · refine s_skip ?_
      refine s_seq ?_
      refine s_seq ?_
      refine s_region ?_
      refine o_val rfl rfl rfl (y_move (v := (.slice _ _ _)) rfl) ?_
      refine o_val rfl rfl rfl (y_len Try.runUnderlying28 rfl) ?_
      refine o_val rfl rfl rfl (y_move (v := (.slice _ _ _)) rfl) ?_
      refine o_val rfl rfl rfl (y_len Try.runUnderlying28 rfl) ?_
      refine o_val rfl rfl rfl (y_neq rfl rfl) ?_
      refine o_nil ?_
      refine s_if rfl (fun h3 => ?_) (fun h4 => ?_)
      · have hne8 := h3
        refine s_seq ?_
        refine s_region ?_
        refine o_val rfl rfl rfl (y_assign (v := (.slice _ _ _)) rfl) ?_
        refine o_val rfl rfl rfl (y_assign (v := (.int _ _)) rfl) ?_
        refine o_nil ?_
        refine s_ret ?_
        exact ⟨_, [], res2 rfl rfl rfl, .inl ⟨8, by unfold diffE; rw [if_pos (by rw [List.length_map]; omega)], by decide, rfl, rfl⟩, sub_picks [] rfl⟩
      · have heq8 := Decidable.not_not.1 h4
        refine s_skip ?_
        refine s_seq ?_
        refine s_region ?_
        refine o_val rfl rfl rfl (y_assign (v := (.slice _ _ _)) rfl) ?_
        refine o_nil ?_
        refine s_seq ?_
        refine s_seq ?_
        refine s_region ?_
        refine o_val rfl rfl rfl (y_move (v := (.slice _ _ _)) rfl) ?_
        refine o_val rfl rfl rfl (y_len Try.runUnderlying28 rfl) ?_
        refine o_val rfl rfl rfl (y_move (v := (.int _ _)) rfl) ?_
        refine o_nil ?_
        refine s_block ?_
        have hshape := hsh (by rw [hbl]; omega)
        rw [← hbd, List.map_map] at hshape
        have hsa := shape_at (bs := bs') (ws := ws) hshape
        refine s_group ?_
        refine s_group ?_
        refine s_loopK (γ := LD10) [(0, (.slice _ _ _)), (3, (.slice _ _ _)), (35, (.slice _ _ _)), (36, (.int _ _))] [_, _, _] (fun g => [(12, .slice g.A g.ds.length g.c), (37, .int .i64 g.k)]) (fun g => [g.E, g.P]) (fun g => (g.k ≤ bn' ∧ g.ds.length ≤ 128 * g.k) ∧ OS g.A g.ds.length g.c 147 4 ((g.ds).flatMap encOv) g.E ∧ (∀ x ∈ g.ds, OvOK (inG g.P) x ∧ x.n ≤ 1000) ∧ g.ds.map OvR.d = diffTo (bs'.map BR.d) (ws.map BR.d) g.k) (fun g => bn' - g.k) (LD10.mk 0 [] none 0 [] []) ⟨rfl, rfl, rfl, rfl, rfl, rfl, trivial⟩ (sub_picks [3, 3, 0, 0, 0] rfl) ?_ ?_
        · exact ⟨⟨Nat.zero_le _, Nat.zero_le _⟩, OS.nil _ _, fun x hx => absurd hx List.not_mem_nil, rfl⟩
        intro g _f hI
        refine s_norm _ (by simp only [pull, picks, setG, List.cons_append, List.nil_append, List.append_nil, List.drop_succ_cons, List.drop_zero]; rfl) ?_
        obtain ⟨⟨hgk, hgl⟩, hdo, hdx, hdd⟩ := hI
        refine s_seq ?_
        refine s_region ?_
        refine o_val rfl rfl rfl (y_lss rfl rfl) ?_
        refine o_nil ?_
        refine s_seq ?_
        refine s_if rfl (fun h5 => ?_) (fun h6 => ?_)
        · refine s_skip ?_
          refine s_seq ?_
          refine s_block ?_
          refine s_seq ?_
          refine s_region ?_
          refine o_val rfl rfl rfl (y_move (v := (.int _ _)) rfl) ?_
          refine o_val rfl rfl rfl (y_indexAddr Try.runUnderlying28 Try.sizeOf35 (ho'.some_of (by omega)) rfl rfl (by omega)) ?_
          refine o_val rfl rfl rfl (y_loads (cs := [_, _]) Try.isAgg35 Try.sizeOf35 rfl (by unfold idx; rw [Option.isSome_map]; exact ho'.some_of (by omega)) rfl (cels_at (sz := 2) encB_len (ho'.cels (j := 2) rfl) (by omega))) ?_
          refine o_alloc rfl Try.zeroValue35 rfl (fun b7 => ?_)
          refine o_val rfl rfl rfl (y_assign (v := (.int _ _)) rfl) ?_
          refine o_stores (vs := [(.slice _ _ _), (.slice _ _ _)]) 5 rfl Try.sizeOf35 rfl rfl rfl (by simp [Value.oneCell']) (by simp) ?_
          refine o_nil ?_
          refine s_seq ?_
          refine s_seq ?_
          refine s_drawn 0 (by kernel_rfl) ?_
          have hbj : BOK ks (inG P') (gs'.getD g.k []) (bs'.getD ((g.k : Nat) : Int).toNat default) := hb'.2 g.k (by omega)
          have hjg : g.k < gs'.length := by have := hb'.1; omega
          have hcm := hbj.2.1.mem.ms (inG_list hjg)
          have hbn2 := hbj.2.2.2.2.1
          have hbx2 := hbj.2.2.2.2.2
          have hwj := hW _ (getD_mem' (show g.k < ws.length by omega) : (ws.getD ((g.k : Nat) : Int).toNat default) ∈ ws)
          have hs1 : (bs'.getD ((g.k : Nat) : Int).toNat default).ps = (ws.getD ((g.k : Nat) : Int).toNat default).ps := (hsa g.k).1
          have hs2 : (bs'.getD ((g.k : Nat) : Int).toNat default).cs.map CR.kind = (ws.getD ((g.k : Nat) : Int).toNat default).cs.map CR.kind := (hsa g.k).2
          have hs3 : (bs'.getD ((g.k : Nat) : Int).toNat default).cs.length = (ws.getD ((g.k : Nat) : Int).toNat default).cs.length := by have := congrArg List.length hs2; rwa [List.length_map, List.length_map] at this
          have hwn := hwj.2.1.1
          have hb16 := held_len hck hbj.2.2.2.1
          refine d_val (i := 0) rfl (by kernel_rfl) (by kernel_rfl) (by kernel_rfl) rfl rfl rfl (y_field0 Try.runUnderlying35 rfl Try.sizeOf22 rfl rfl) ?_
          refine d_val (i := 1) rfl (by kernel_rfl) (by kernel_rfl) (by kernel_rfl) rfl rfl rfl (y_load Try.isAgg22 rfl (cel_own 5 rfl rfl)) ?_
          refine d_val (i := 2) rfl (by kernel_rfl) (by kernel_rfl) (by kernel_rfl) rfl rfl rfl (y_move (v := (.slice _ _ _)) rfl) ?_
          refine d_val (i := 3) rfl (by kernel_rfl) (by kernel_rfl) (by kernel_rfl) rfl rfl rfl (y_move (v := (.int _ _)) rfl) ?_
          refine d_val (i := 4) rfl (by kernel_rfl) (by kernel_rfl) (by kernel_rfl) rfl rfl rfl (y_indexAddr Try.runUnderlying28 Try.sizeOf35 (some_at (sz := 1) encB_len (i := 0) hw (by omega)) rfl rfl (by omega)) ?_
          refine d_val (i := 5) rfl (by kernel_rfl) (by kernel_rfl) (by kernel_rfl) rfl rfl rfl (y_fieldX (F := 0) Try.runUnderlying35 rfl Try.sizeOf22 rfl (some_at (sz := 1) encB_len (i := 0) hw (by omega)) rfl) ?_
          refine d_val (i := 6) rfl (by kernel_rfl) (by kernel_rfl) (by kernel_rfl) rfl rfl rfl (y_load Try.isAgg22 rfl ((cels_at (sz := 2) encB_len hw.here (by omega)).cel' (i := 0) rfl)) ?_
          refine d_eff (k := 7) (n := 0) (m := 6) rfl (by kernel_rfl) rfl ?_
          refine o_fn 0 (d := 49) rfl Try.call21 (EqualI_c (bs'.getD ((g.k : Nat) : Int).toNat default).pA (bs'.getD ((g.k : Nat) : Int).toNat default).pn (bs'.getD ((g.k : Nat) : Int).toNat default).pc (bs'.getD ((g.k : Nat) : Int).toNat default).ps (hbj.1.2.2.2.ms (inG_ext (j := 4) rfl)) hbj.1.1 (ws.getD ((g.k : Nat) : Int).toNat default).pA (ws.getD ((g.k : Nat) : Int).toNat default).pn (ws.getD ((g.k : Nat) : Int).toNat default).pc (ws.getD ((g.k : Nat) : Int).toNat default).ps hwj.1.2.2.2.here.down hwj.1.1 (by have := hbj.1.2.2.1; omega)) rfl ?_
          rintro _ _ ⟨rfl, rfl⟩
          refine o_nil ?_
          refine d_val (i := 8) rfl (by kernel_rfl) (by kernel_rfl) (by kernel_rfl) rfl rfl rfl (y_not rfl) ?_
          refine d_nil (n := 0) (m := 6) (by kernel_rfl) rfl ?_
          refine s_forget [(0, (.slice _ _ _)), (3, (.slice _ _ _)), (12, (.slice _ _ _)), (13, (.int _ _)), (14, (.pointer _)), (35, (.slice _ _ _)), (36, (.int _ _)), (37, (.int _ _)), (50, (.bool _))] ⟨rfl, rfl, rfl, rfl, rfl, rfl, rfl, rfl, rfl, trivial⟩ (fun _f => ?_)
          refine s_if rfl (fun h8 => ?_) (fun h9 => ?_)
          · exact absurd hs1 h8
          · refine s_skip ?_
            refine s_seq ?_
            refine s_seq ?_
            refine s_region ?_
            refine o_val rfl rfl rfl (y_move (v := (.slice _ _ _)) rfl) ?_
            refine o_val rfl rfl rfl (y_move (v := (.slice _ _ _)) rfl) ?_
            refine o_val rfl rfl rfl (y_move (v := (.int _ _)) rfl) ?_
            refine o_val rfl rfl rfl (y_indexAddr Try.runUnderlying28 Try.sizeOf35 (some_at (sz := 1) encB_len (i := 0) hw (by omega)) rfl rfl (by omega)) ?_
            refine o_val rfl rfl rfl (y_fieldX (F := 1) Try.runUnderlying35 rfl Try.sizeOf33 rfl (some_at (sz := 1) encB_len (i := 0) hw (by omega)) rfl) ?_
            refine o_val rfl rfl rfl (y_load Try.isAgg33 rfl ((cels_at (sz := 2) encB_len hw.here (by omega)).cel' (i := 1) rfl)) ?_
            refine o_fn 0 (d := 57) rfl Try.call128 (PComps_c A nK cK ks (hks.sub MSub.ext) (ws.getD ((g.k : Nat) : Int).toNat default).cA (ws.getD ((g.k : Nat) : Int).toNat default).cn (ws.getD ((g.k : Nat) : Int).toNat default).cc (ws.getD ((g.k : Nat) : Int).toNat default).cs (hwj.2.1.sub MSub.ext) hwj.2.2) rfl ?_
            rintro _ _ ⟨rfl, rfl⟩
            refine o_val rfl rfl rfl (y_assign (v := (.int _ _)) rfl) ?_
            refine o_nil ?_
            refine s_seq ?_
            refine s_region ?_
            refine o_val rfl rfl rfl (y_move (v := (.int _ _)) rfl) ?_
            refine o_val rfl rfl rfl (y_neq rfl rfl) ?_
            refine o_nil ?_
            refine s_if rfl (fun h10 => ?_) (fun h11 => ?_)
            · exact absurd rfl h10
            · refine s_skip ?_
              refine s_seq ?_
              refine s_seq ?_
              refine s_drawn 0 (by kernel_rfl) ?_
              refine d_val (i := 0) rfl (by kernel_rfl) (by kernel_rfl) (by kernel_rfl) rfl rfl rfl (y_field0 Try.runUnderlying35 rfl Try.sizeOf33 rfl rfl) ?_
              refine d_val (i := 1) rfl (by kernel_rfl) (by kernel_rfl) (by kernel_rfl) rfl rfl rfl (y_load Try.isAgg33 rfl (cel_own 5 rfl rfl)) ?_
              refine d_val (i := 2) rfl (by kernel_rfl) (by kernel_rfl) (by kernel_rfl) rfl rfl rfl (y_move (v := (.slice _ _ _)) rfl) ?_
              refine d_val (i := 3) rfl (by kernel_rfl) (by kernel_rfl) (by kernel_rfl) rfl rfl rfl (y_move (v := (.int _ _)) rfl) ?_
              refine d_val (i := 4) rfl (by kernel_rfl) (by kernel_rfl) (by kernel_rfl) rfl rfl rfl (y_indexAddr Try.runUnderlying28 Try.sizeOf35 (some_at (sz := 1) encB_len (i := 0) hw (by omega)) rfl rfl (by omega)) ?_
              refine d_val (i := 5) rfl (by kernel_rfl) (by kernel_rfl) (by kernel_rfl) rfl rfl rfl (y_fieldX (F := 1) Try.runUnderlying35 rfl Try.sizeOf33 rfl (some_at (sz := 1) encB_len (i := 0) hw (by omega)) rfl) ?_
              refine d_val (i := 6) rfl (by kernel_rfl) (by kernel_rfl) (by kernel_rfl) rfl rfl rfl (y_load Try.isAgg33 rfl ((cels_at (sz := 2) encB_len hw.here (by omega)).cel' (i := 1) rfl)) ?_
              refine d_eff (k := 7) (n := 0) (m := 6) rfl (by kernel_rfl) rfl ?_
              refine o_fn 0 (d := 68) rfl Try.call129 (EqualFC_c (bs'.getD ((g.k : Nat) : Int).toNat default).cA (bs'.getD ((g.k : Nat) : Int).toNat default).cn (bs'.getD ((g.k : Nat) : Int).toNat default).cc (bs'.getD ((g.k : Nat) : Int).toNat default).cs (hcm.ms (inG_ext (j := 3) rfl)) hbn2 (by omega) (fun z hz => (hbj.2.2.1 z hz).sub (inG_ext (j := 4) rfl)) (ws.getD ((g.k : Nat) : Int).toNat default).cA (ws.getD ((g.k : Nat) : Int).toNat default).cn (ws.getD ((g.k : Nat) : Int).toNat default).cc (ws.getD ((g.k : Nat) : Int).toNat default).cs hwj.2.1.2.2.2.1.here.down hwj.2.1.1 (by have := hwj.2.1.2.2.1; omega) (fun z hz => (hwj.2.1.2.2.2.2 z hz).sub MSub.ext) 130 [] Try.call130 (fun a b => a.kind = b.kind) (fun V' a b ha hb => DiffK_c a b ha hb)) rfl ?_
              rintro _ _ ⟨rfl, rfl⟩
              refine o_nil ?_
              refine d_val (i := 8) rfl (by kernel_rfl) (by kernel_rfl) (by kernel_rfl) rfl rfl rfl (y_not rfl) ?_
              refine d_nil (n := 0) (m := 6) (by kernel_rfl) rfl ?_
              refine s_forget [(0, (.slice _ _ _)), (3, (.slice _ _ _)), (12, (.slice _ _ _)), (13, (.int _ _)), (14, (.pointer _)), (35, (.slice _ _ _)), (36, (.int _ _)), (37, (.int _ _)), (69, (.bool _))] ⟨rfl, rfl, rfl, rfl, rfl, rfl, rfl, rfl, rfl, trivial⟩ (fun _f => ?_)
              refine s_if rfl (fun h12 => ?_) (fun h13 => ?_)
              · exact absurd (all2_map.2 hs2) h12
              · refine s_skip ?_
                refine s_seq ?_
                refine s_region ?_
                refine o_val rfl rfl rfl (y_field0 Try.runUnderlying35 rfl Try.sizeOf33 rfl rfl) ?_
                refine o_val rfl rfl rfl (y_load Try.isAgg33 rfl (cel_own 5 rfl rfl)) ?_
                refine o_val rfl rfl rfl (y_len Try.runUnderlying33 rfl) ?_
                refine o_val rfl rfl rfl (y_move (v := (.int _ _)) rfl) ?_
                refine o_nil ?_
                refine s_block ?_
                refine s_loopK (γ := LD10) [(0, (.slice _ _ _)), (3, (.slice _ _ _)), (13, (.int _ _)), (14, (.pointer _)), (35, (.slice _ _ _)), (36, (.int _ _)), (37, (.int _ _)), (71, (.slice _ _ _)), (72, (.int _ _))] [_, _, _, _] (fun u => [(12, .slice u.A u.ds.length u.c), (73, .int .i64 u.k)]) (fun u => [u.E, u.P]) (fun u => (u.k ≤ (bs'.getD ((g.k : Nat) : Int).toNat default).cn ∧ u.ds.length ≤ 128 * g.k + 8 * u.k) ∧ OS u.A u.ds.length u.c 147 4 ((u.ds).flatMap encOv) u.E ∧ (∀ x ∈ u.ds, OvOK (inG u.P) x ∧ x.n ≤ 1000) ∧ u.ds.map OvR.d = diffTo (bs'.map BR.d) (ws.map BR.d) g.k ++ diffB (bs'.getD ((g.k : Nat) : Int).toNat default).ps ((bs'.getD ((g.k : Nat) : Int).toNat default).cs.map CR.d) ((ws.getD ((g.k : Nat) : Int).toNat default).cs.map CR.d) u.k) (fun u => (bs'.getD ((g.k : Nat) : Int).toNat default).cn - u.k) (LD10.mk 0 g.ds g.A g.c g.E g.P) ⟨rfl, rfl, rfl, rfl, rfl, rfl, rfl, rfl, rfl, rfl, rfl, trivial⟩ (sub_picks [0, 0, 0, 0, 0, 0] rfl) ?_ ?_
                · exact ⟨⟨Nat.zero_le _, by dsimp only; omega⟩, hdo, hdx, by dsimp only [diffB]; rw [List.append_nil]; exact hdd⟩
                intro u _f hJ
                refine s_norm _ (by simp only [pull, picks, setG, List.cons_append, List.nil_append, List.append_nil, List.drop_succ_cons, List.drop_zero]; rfl) ?_
                obtain ⟨⟨huk, hul⟩, huo, hux, hud⟩ := hJ
                refine s_seq ?_
                refine s_region ?_
                refine o_val rfl rfl rfl (y_lss rfl rfl) ?_
                refine o_nil ?_
                refine s_seq ?_
                refine s_if rfl (fun h14 => ?_) (fun h15 => ?_)
                · refine s_skip ?_
                  refine s_seq ?_
                  refine s_block ?_
                  refine s_seq ?_
                  refine s_region ?_
                  refine o_val rfl rfl rfl (y_move (v := (.int _ _)) rfl) ?_
                  refine o_val rfl rfl rfl (y_indexAddr Try.runUnderlying33 Try.sizeOf155 (some_at (sz := 1) encC_len (i := 0) hcm (by omega)) rfl rfl (by omega)) ?_
                  refine o_val rfl rfl rfl (y_loads (cs := [_, _]) Try.isAgg155 Try.sizeOf155 rfl (by unfold idx; rw [Option.isSome_map]; exact some_at (sz := 1) encC_len (i := 0) hcm (by omega)) rfl (cels_at (sz := 2) encC_len ((hcm).ms (inG_ext (j := 3) rfl)).up (by omega))) ?_
                  refine o_alloc rfl Try.zeroValue155 rfl (fun b16 => ?_)
                  refine o_val rfl rfl rfl (y_assign (v := (.int _ _)) rfl) ?_
                  refine o_stores (vs := [(.int _ _), (.slice _ _ _)]) 6 rfl Try.sizeOf155 rfl rfl rfl (by simp [Value.oneCell']) (by simp) ?_
                  refine o_nil ?_
                  refine s_norm [_, _, _, _, _, [(_, .cells [(.slice _ _ _), (.slice _ _ _)].toArray 35 (0, 0))], [(_, .cells [(.int _ _), (.slice _ _ _)].toArray 155 (0, 0))]] rfl ?_
                  refine s_seq ?_
                  refine s_region ?_
                  have hcc := hbj.2.2.1 _ (getD_mem' (show u.k < (bs'.getD ((g.k : Nat) : Int).toNat default).cs.length by omega) : ((bs'.getD ((g.k : Nat) : Int).toNat default).cs.getD ((u.k : Nat) : Int).toNat default) ∈ (bs'.getD ((g.k : Nat) : Int).toNat default).cs)
                  have hvv := hwj.2.1.2.2.2.2 _ (getD_mem' (show u.k < (ws.getD ((g.k : Nat) : Int).toNat default).cs.length by omega) : ((ws.getD ((g.k : Nat) : Int).toNat default).cs.getD ((u.k : Nat) : Int).toNat default) ∈ (ws.getD ((g.k : Nat) : Int).toNat default).cs)
                  have hkk : ((bs'.getD ((g.k : Nat) : Int).toNat default).cs.getD ((u.k : Nat) : Int).toNat default).kind = ((ws.getD ((g.k : Nat) : Int).toNat default).cs.getD ((u.k : Nat) : Int).toNat default).kind := kind_at hs2 u.k
                  have hcd : goodC ks (lastC (bs'.getD ((g.k : Nat) : Int).toNat default).cs u.k) ((bs'.getD ((g.k : Nat) : Int).toNat default).cs.getD ((u.k : Nat) : Int).toNat default) := hbj.2.2.2.1 u.k (by omega)
                  have hvd : goodC ks (lastC (ws.getD ((g.k : Nat) : Int).toNat default).cs u.k) ((ws.getD ((g.k : Nat) : Int).toNat default).cs.getD ((u.k : Nat) : Int).toNat default) := hwj.2.2 u.k (by omega)
                  have hcf := holds_fits hcd.2.2
                  have hvf := holds_fits hvd.2.2
                  rw [← hkk] at hvf
                  have hf8 := (oneErr_zero hcf.1).2.1
                  have hcl := hcf.2.1
                  have hvl := hvf.2.1
                  have hcn := hcc.1
                  have hvn := hvv.1
                  refine o_val rfl rfl rfl (y_move (v := (.slice _ _ _)) rfl) ?_
                  refine o_val rfl rfl rfl (y_move (v := (.int _ _)) rfl) ?_
                  refine o_val rfl rfl rfl (y_indexAddr Try.runUnderlying28 Try.sizeOf35 (some_at (sz := 1) encB_len (i := 0) hw (by omega)) rfl rfl (by omega)) ?_
                  refine o_val rfl rfl rfl (y_fieldX (F := 1) Try.runUnderlying35 rfl Try.sizeOf33 rfl (some_at (sz := 1) encB_len (i := 0) hw (by omega)) rfl) ?_
                  refine o_val rfl rfl rfl (y_load Try.isAgg33 rfl ((cels_at (sz := 2) encB_len hw.here (by omega)).cel' (i := 1) rfl)) ?_
                  refine o_val rfl rfl rfl (y_move (v := (.int _ _)) rfl) ?_
                  refine o_val rfl rfl rfl (y_indexAddr Try.runUnderlying33 Try.sizeOf155 (some_at (sz := 1) encC_len (i := 0) hwj.2.1.2.2.2.1 (by omega)) rfl rfl (by omega)) ?_
                  refine o_val rfl rfl rfl (y_fieldX (F := 1) Try.runUnderlying155 rfl Try.sizeOf22 rfl (some_at (sz := 1) encC_len (i := 0) hwj.2.1.2.2.2.1 (by omega)) rfl) ?_
                  refine o_val rfl rfl rfl (y_load Try.isAgg22 rfl ((cels_at (sz := 2) encC_len hwj.2.1.2.2.2.1.here (by omega)).cel' (i := 1) rfl)) ?_
                  refine o_val rfl rfl rfl (y_len Try.runUnderlying22 rfl) ?_
                  refine o_val rfl rfl rfl (y_move (v := (.int _ _)) rfl) ?_
                  refine o_nil ?_
                  refine s_forget [(0, (.slice _ _ _)), (3, (.slice _ _ _)), (12, (.slice _ _ _)), (13, (.int _ _)), (14, (.pointer _)), (17, (.pointer _)), (35, (.slice _ _ _)), (36, (.int _ _)), (37, (.int _ _)), (71, (.slice _ _ _)), (72, (.int _ _)), (73, (.int _ _)), (86, (.slice _ _ _)), (87, (.int _ _)), (88, (.int _ _))] ⟨rfl, rfl, rfl, rfl, rfl, rfl, rfl, rfl, rfl, rfl, rfl, rfl, rfl, rfl, rfl, trivial⟩ (fun _f => ?_)
                  refine s_block ?_
                  refine s_loopK (γ := LD10) [(0, (.slice _ _ _)), (3, (.slice _ _ _)), (13, (.int _ _)), (14, (.pointer _)), (17, (.pointer _)), (35, (.slice _ _ _)), (36, (.int _ _)), (37, (.int _ _)), (71, (.slice _ _ _)), (72, (.int _ _)), (73, (.int _ _)), (86, (.slice _ _ _)), (87, (.int _ _))] [_, _, _, _, _] (fun q => [(12, .slice q.A q.ds.length q.c), (88, .int .i64 q.k)]) (fun q => [q.E, q.P]) (fun q => (q.k ≤ ((ws.getD ((g.k : Nat) : Int).toNat default).cs.getD ((u.k : Nat) : Int).toNat default).n ∧ q.ds.length ≤ 128 * g.k + 8 * u.k + q.k) ∧ OS q.A q.ds.length q.c 147 4 ((q.ds).flatMap encOv) q.E ∧ (∀ x ∈ q.ds, OvOK (inG q.P) x ∧ x.n ≤ 1000) ∧ q.ds.map OvR.d = (diffTo (bs'.map BR.d) (ws.map BR.d) g.k ++ diffB (bs'.getD ((g.k : Nat) : Int).toNat default).ps ((bs'.getD ((g.k : Nat) : Int).toNat default).cs.map CR.d) ((ws.getD ((g.k : Nat) : Int).toNat default).cs.map CR.d) u.k) ++ diffC (bs'.getD ((g.k : Nat) : Int).toNat default).ps ((bs'.getD ((g.k : Nat) : Int).toNat default).cs.getD ((u.k : Nat) : Int).toNat default).kind ((bs'.getD ((g.k : Nat) : Int).toNat default).cs.getD ((u.k : Nat) : Int).toNat default).vs ((ws.getD ((g.k : Nat) : Int).toNat default).cs.getD ((u.k : Nat) : Int).toNat default).vs q.k) (fun q => ((ws.getD ((g.k : Nat) : Int).toNat default).cs.getD ((u.k : Nat) : Int).toNat default).n - q.k) (LD10.mk 0 u.ds u.A u.c u.E u.P) ⟨rfl, rfl, rfl, rfl, rfl, rfl, rfl, rfl, rfl, rfl, rfl, rfl, rfl, rfl, rfl, trivial⟩ (sub_picks [0, 0, 0, 0, 0, 0, 0] rfl) ?_ ?_
                  · exact ⟨⟨Nat.zero_le _, by dsimp only; omega⟩, huo, hux, by dsimp only [diffC]; rw [List.append_nil]; exact hud⟩
                  intro q _f hQ
                  refine s_norm _ (by simp only [pull, picks, setG, List.cons_append, List.nil_append, List.append_nil, List.drop_succ_cons, List.drop_zero]; rfl) ?_
                  obtain ⟨⟨hqk, hql⟩, hqo, hqx, hqd⟩ := hQ
                  refine s_seq ?_
                  refine s_region ?_
                  refine o_val rfl rfl rfl (y_lss rfl rfl) ?_
                  refine o_nil ?_
                  refine s_seq ?_
                  refine s_if rfl (fun h17 => ?_) (fun h18 => ?_)
                  · refine s_skip ?_
                    refine s_seq ?_
                    refine s_block ?_
                    refine s_seq ?_
                    refine s_region ?_
                    refine o_val rfl rfl rfl (y_move (v := (.int _ _)) rfl) ?_
                    refine o_val rfl rfl rfl (y_index1 Try.runUnderlying22 Try.sizeOf3 (some_int (i := 0) hvv.2.2.2 (by omega)) rfl rfl (by omega)) ?_
                    refine o_val rfl rfl rfl (y_load Try.isAgg3 rfl (cel_int hvv.2.2.2.here (by omega))) ?_
                    refine o_val rfl rfl rfl (y_assign (v := (.int _ _)) rfl) ?_
                    refine o_val rfl rfl rfl (y_assign (v := (.int _ _)) rfl) ?_
                    refine o_nil ?_
                    refine s_seq ?_
                    refine s_region ?_
                    refine o_val rfl rfl rfl (y_move (v := (.int _ _)) rfl) ?_
                    refine o_val rfl rfl rfl (y_field0 Try.runUnderlying155 rfl Try.sizeOf22 rfl rfl) ?_
                    refine o_val rfl rfl rfl (y_load Try.isAgg22 rfl (cel_own 6 rfl rfl)) ?_
                    refine o_val rfl rfl rfl (y_move (v := (.int _ _)) rfl) ?_
                    refine o_val rfl rfl rfl (y_index1 Try.runUnderlying22 Try.sizeOf3 (some_int (i := 0) hcc.2.2.2 (by omega)) rfl rfl (by omega)) ?_
                    refine o_val rfl rfl rfl (y_load Try.isAgg3 rfl (cel_int ((hcc.2.2.2).ms (inG_ext (j := 4) rfl)).up (by omega))) ?_
                    refine o_val rfl rfl rfl (y_neq rfl rfl) ?_
                    refine o_nil ?_
                    refine s_if rfl (fun h19 => ?_) (fun h20 => ?_)
                    · have hne : ((ws.getD ((g.k : Nat) : Int).toNat default).cs.getD ((u.k : Nat) : Int).toNat default).vs.getD q.k 0 ≠ ((bs'.getD ((g.k : Nat) : Int).toNat default).cs.getD ((u.k : Nat) : Int).toNat default).vs.getD q.k 0 := h19
                      refine s_drawn 1 (by kernel_rfl) ?_
                      refine d_val (i := 0) rfl (by kernel_rfl) (by kernel_rfl) (by kernel_rfl) rfl rfl rfl (y_move (v := (.slice _ _ _)) rfl) ?_
                      refine d_val (i := 1) rfl (by kernel_rfl) (by kernel_rfl) (by kernel_rfl) rfl rfl rfl (y_field0 Try.runUnderlying35 rfl Try.sizeOf22 rfl rfl) ?_
                      refine d_val (i := 2) rfl (by kernel_rfl) (by kernel_rfl) (by kernel_rfl) rfl rfl rfl (y_load Try.isAgg22 rfl (cel_own 4 rfl rfl)) ?_
                      refine d_val (i := 4) rfl (by kernel_rfl) (by kernel_rfl) (by kernel_rfl) rfl rfl rfl (y_field0 Try.runUnderlying155 rfl Try.sizeOf3 rfl rfl) ?_
                      refine d_val (i := 5) rfl (by kernel_rfl) (by kernel_rfl) (by kernel_rfl) rfl rfl rfl (y_load Try.isAgg3 rfl (cel_own 5 rfl rfl)) ?_
                      refine d_val (i := 6) rfl (by kernel_rfl) (by kernel_rfl) (by kernel_rfl) rfl rfl rfl (y_move (v := (.int _ _)) rfl) ?_
                      refine d_val (i := 7) rfl (by kernel_rfl) (by kernel_rfl) (by kernel_rfl) rfl rfl rfl (y_build (vs := [(0, .int _ _), (1, .int _ _)]) rfl (DiffP_k0 _ _)) ?_
                      refine d_val (i := 8) rfl (by kernel_rfl) (by kernel_rfl) (by kernel_rfl) rfl rfl rfl (y_move (v := (.int _ _)) rfl) ?_
                      refine d_eff (k := 3) (n := 1) (m := 6) rfl (by kernel_rfl) rfl ?_
                      refine o_fn 0 (d := 103) rfl Try.call93 (CloneI_c (bs'.getD ((g.k : Nat) : Int).toNat default).pA (bs'.getD ((g.k : Nat) : Int).toNat default).pn (bs'.getD ((g.k : Nat) : Int).toNat default).pc (bs'.getD ((g.k : Nat) : Int).toNat default).ps (hbj.1.2.2.2.ms (inG_ext (j := 4) rfl)) hbj.1.1 (by have := hbj.1.2.2.1; omega)) rfl ?_
                      rintro _ _ ⟨vB, ve, vG, rfl, hvo, rfl⟩
                      refine o_nil ?_
                      refine d_val (i := 9) rfl (by kernel_rfl) (by kernel_rfl) (by kernel_rfl) rfl rfl rfl (y_build (vs := [(0, .slice _ _ _), (1, .agg #[.int _ _, .int _ _]), (2, .int _ _)]) rfl (DiffP_k1 _ _ _ _ _ _)) ?_
                      refine d_eff (k := 10) (n := 2) (m := 6) rfl (by kernel_rfl) rfl ?_
                      refine o_lit (vs := [(0, .agg #[.slice _ _ _, .int _ _, .int _ _, .int _ _])]) rfl rfl (DiffP_k2 _ _ _ _ _ _) (fun b21 => ?_)
                      refine o_nil ?_
                      refine d_eff (k := 11) (n := 2) (m := 6) rfl (by kernel_rfl) rfl ?_
                      refine o_append (sz := 4) (bytes := 48) (news := [(.slice _ _ _), (.int _ _), (.int _ _), (.int _ _)]) 1 rfl Try.underlying39 Try.type147 rfl rfl rfl rfl rfl hqo rfl rfl (Src.slice Try.underlying39 (cels_own 8 rfl rfl) rfl (by simp [Value.oneCell']) (by simp)) (by omega) (fun A22 c23 E24 ho25 hn26 => ?_)
                      have ho27 : OS A22 (q.ds.length + 1) c23 147 4 ((q.ds ++ [(OvR.mk vB (bs'.getD ((g.k : Nat) : Int).toNat default).pn ve (bs'.getD ((g.k : Nat) : Int).toNat default).ps ((bs'.getD ((g.k : Nat) : Int).toNat default).cs.getD ((u.k : Nat) : Int).toNat default).kind ((q.k : Nat) : Int) (((ws.getD ((g.k : Nat) : Int).toNat default).cs.getD ((u.k : Nat) : Int).toNat default).vs.getD ((q.k : Nat) : Int).toNat 0))]).flatMap encOv) E24 := os_snoc ho25 rfl
                      clear ho25
                      refine o_nil ?_
                      refine d_val (i := 12) rfl (by kernel_rfl) (by kernel_rfl) (by kernel_rfl) rfl rfl rfl (y_assign (v := (.slice _ _ _)) rfl) ?_
                      refine d_nil (n := 2) (m := 6) (by kernel_rfl) rfl ?_
                      refine s_norm [_, _, _, _, _, _, [(_, .cells [(.slice _ _ _), (.slice _ _ _)].toArray 35 (0, 0))], [(_, .cells [(.int _ _), (.slice _ _ _)].toArray 155 (0, 0))], [(_, .cells [(.slice _ _ _), (.int _ _), (.int _ _), (.int _ _)].toArray 147 (0, 0))]] rfl ?_
                      refine s_forget [(0, (.slice _ _ _)), (3, (.slice _ _ _)), (12, (.slice _ _ _)), (13, (.int _ _)), (14, (.pointer _)), (17, (.pointer _)), (35, (.slice _ _ _)), (36, (.int _ _)), (37, (.int _ _)), (71, (.slice _ _ _)), (72, (.int _ _)), (73, (.int _ _)), (86, (.slice _ _ _)), (87, (.int _ _)), (88, (.int _ _))] ⟨rfl, rfl, rfl, rfl, rfl, rfl, rfl, rfl, rfl, rfl, rfl, rfl, rfl, rfl, rfl, trivial⟩ (fun _f => ?_)
                      refine s_region ?_
                      refine o_pull 2 ?_
                      refine o_pull 1 ?_
                      refine o_fuse ?_
                      refine o_val rfl rfl rfl (y_add rfl rfl (by simp only [inK]; omega)) ?_
                      refine o_val rfl rfl rfl (y_move (v := (.int _ _)) rfl) ?_
                      refine o_nil ?_
                      exact ⟨LD10.mk (q.k + 1) (q.ds ++ [(OvR.mk vB (bs'.getD ((g.k : Nat) : Int).toNat default).pn ve (bs'.getD ((g.k : Nat) : Int).toNat default).ps ((bs'.getD ((g.k : Nat) : Int).toNat default).cs.getD ((u.k : Nat) : Int).toNat default).kind ((q.k : Nat) : Int) (((ws.getD ((g.k : Nat) : Int).toNat default).cs.getD ((u.k : Nat) : Int).toNat default).vs.getD ((q.k : Nat) : Int).toNat 0))]) A22 c23 E24 (vG ++ q.P), (by first | omega | (dsimp only; omega)), ⟨⟨by dsimp only; omega, by simp only [List.length_append, List.length_singleton]; omega⟩, by dsimp only; rw [List.length_append]; exact ho27, all_snoc (fun x hx => ⟨(hqx x hx).1.sub inG_right, (hqx x hx).2⟩) ⟨⟨hbj.1.1, hvo.2.1, by have := hbj.1.2.2.1; dsimp only; omega, hvo.mem.ms inG_left⟩, hbj.1.2.2.1⟩, by dsimp only [diffC]; rw [if_pos hne, List.map_append, hqd, ← List.append_assoc]; rfl⟩, ⟨(by dsimp only; rw [List.length_append]; rfl), (congrArg (Value.int .i64) (by (try dsimp only); omega)), rfl, rfl, rfl, rfl, rfl, rfl, rfl, rfl, rfl, rfl, rfl, rfl, rfl, trivial⟩, (by dsimp only; exact sub_picks [1, 0, 0, 0, 0, 0, 0] rfl)⟩
                    · have heq : ((ws.getD ((g.k : Nat) : Int).toNat default).cs.getD ((u.k : Nat) : Int).toNat default).vs.getD q.k 0 = ((bs'.getD ((g.k : Nat) : Int).toNat default).cs.getD ((u.k : Nat) : Int).toNat default).vs.getD q.k 0 := Decidable.not_not.1 h20
                      refine s_skip ?_
                      refine s_region ?_
                      refine o_val rfl rfl rfl (y_add rfl rfl (by simp only [inK]; omega)) ?_
                      refine o_val rfl rfl rfl (y_move (v := (.int _ _)) rfl) ?_
                      refine o_nil ?_
                      exact ⟨LD10.mk (q.k + 1) q.ds q.A q.c q.E q.P, (by first | omega | (dsimp only; omega)), ⟨⟨by dsimp only; omega, by dsimp only; omega⟩, hqo, hqx, by dsimp only [diffC]; rw [if_neg (fun hh => hh heq), List.append_nil]; exact hqd⟩, ⟨rfl, (congrArg (Value.int .i64) (by (try dsimp only); omega)), rfl, rfl, rfl, rfl, rfl, rfl, rfl, rfl, rfl, rfl, rfl, rfl, rfl, trivial⟩, (sub_picks [0, 0, 0, 0, 0, 0, 0] rfl)⟩
                  · refine s_exit ?_
                    refine s_region ?_
                    refine o_val rfl rfl rfl (y_add rfl rfl (by simp only [inK]; omega)) ?_
                    refine o_val rfl rfl rfl (y_move (v := (.int _ _)) rfl) ?_
                    refine o_nil ?_
                    exact ⟨LD10.mk (u.k + 1) q.ds q.A q.c q.E q.P, (by first | omega | (dsimp only; omega)), ⟨⟨by dsimp only; omega, by dsimp only; omega⟩, hqo, hqx, by have hqk2 : q.k = ((ws.getD ((g.k : Nat) : Int).toNat default).cs.getD ((u.k : Nat) : Int).toNat default).vs.length := (by omega); rw [hqk2] at hqd; dsimp only [diffB]; rw [hqd, cget, cget, List.append_assoc]; rfl⟩, ⟨rfl, (congrArg (Value.int .i64) (by (try dsimp only); omega)), rfl, rfl, rfl, rfl, rfl, rfl, rfl, rfl, rfl, trivial⟩, (sub_picks [0, 0, 0, 0, 0, 0] rfl)⟩
                · refine s_exit ?_
                  refine s_region ?_
                  refine o_val rfl rfl rfl (y_add rfl rfl (by simp only [inK]; omega)) ?_
                  refine o_val rfl rfl rfl (y_move (v := (.int _ _)) rfl) ?_
                  refine o_nil ?_
                  exact ⟨LD10.mk (g.k + 1) u.ds u.A u.c u.E u.P, (by first | omega | (dsimp only; omega)), ⟨⟨by dsimp only; omega, by dsimp only; omega⟩, huo, hux, by have huk2 : u.k = (bs'.getD ((g.k : Nat) : Int).toNat default).cs.length := (by omega); rw [huk2] at hud; dsimp only [diffTo]; rw [hud, bget, bget]; simp only [BR.d, List.length_map]; rfl⟩, ⟨rfl, (congrArg (Value.int .i64) (by (try dsimp only); omega)), rfl, rfl, rfl, rfl, trivial⟩, (sub_picks [0, 0, 0, 0, 0] rfl)⟩
        · refine s_exit ?_
          refine s_seq ?_
          refine s_seq ?_
          refine s_region ?_
          refine o_val rfl rfl rfl (y_move (v := (.slice _ _ _)) rfl) ?_
          refine o_val rfl rfl rfl (y_len Try.runUnderlying39 rfl) ?_
          refine o_val rfl rfl rfl (y_gtr rfl rfl) ?_
          refine o_nil ?_
          refine s_if rfl (fun h28 => ?_) (fun h29 => ?_)
          · refine s_seq ?_
            refine s_region ?_
            refine o_val rfl rfl rfl (y_assign (v := (.slice _ _ _)) rfl) ?_
            refine o_val rfl rfl rfl (y_assign (v := (.int _ _)) rfl) ?_
            refine o_nil ?_
            refine s_ret ?_
            have hgb : g.k = (bs'.map BR.d).length := by rw [List.length_map]; omega
            rw [hgb] at hdd
            have hdv : diffV (rawV ks (l.map PfR.d) n) (ws.map BR.d) = g.ds.map OvR.d := by rw [hdd, hbd]; rfl
            have hdl : (diffV (rawV ks (l.map PfR.d) n) (ws.map BR.d)).length = g.ds.length := by rw [hdv, List.length_map]
            exact ⟨_, [], res2 rfl rfl rfl, .inl ⟨2, by unfold diffE; rw [if_neg (by rw [List.length_map]; omega), if_pos (by omega)], by decide, rfl, rfl⟩, sub_picks [] rfl⟩
          · refine s_skip ?_
            refine s_seq ?_
            refine s_region ?_
            refine o_val rfl rfl rfl (y_move (v := (.slice _ _ _)) rfl) ?_
            refine o_val rfl rfl rfl (y_assign (v := (.slice _ _ _)) rfl) ?_
            refine o_val rfl rfl rfl (y_assign (v := (.int _ _)) rfl) ?_
            refine o_nil ?_
            refine s_ret ?_
            have hgb : g.k = (bs'.map BR.d).length := by rw [List.length_map]; omega
            rw [hgb] at hdd
            have hdv : diffV (rawV ks (l.map PfR.d) n) (ws.map BR.d) = g.ds.map OvR.d := by rw [hdd, hbd]; rfl
            have hdl : (diffV (rawV ks (l.map PfR.d) n) (ws.map BR.d)).length = g.ds.length := by rw [hdv, List.length_map]
            exact ⟨_, [_, _], res2 rfl rfl rfl, .inr ⟨g.ds, _, _, _, _, _, by unfold diffE; rw [if_neg (by rw [List.length_map]; omega), if_neg (by omega), hdv], rfl, rfl, hdo, hdx, rfl⟩, sub_picks [0, 0] rfl⟩

end Go.Proofs.Ytacmbiohjiogiaa.K

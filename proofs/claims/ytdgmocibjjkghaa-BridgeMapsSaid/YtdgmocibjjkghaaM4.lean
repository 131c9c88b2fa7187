/- Walks: the special kinds, the map of kinds, kinds of games. No condition beyond what each statement names. -/
import Derived.Test.YtdgmocibjjkghaaProg
import Derived.Test.YtdgmocibjjkghaaK10
import Derived.Test.YtdgmocibjjkghaaM1
import Derived.Test.YtdgmocibjjkghaaM2
import Derived.Test.YtdgmocibjjkghaaM3
set_option linter.unusedVariables false
set_option linter.unusedSimpArgs false
set_option maxRecDepth 100000
namespace Go.Proofs.Ytdgmocibjjkghaa.K
open Go.RowKit

/-- Where a kind with a name and fields is. -/
def locate (ks : List KR) (nm : ByteArray) (nms : List ByteArray) : Int × Bool :=
  match ks.findIdx? (fun k => decide (k.name = nm)) with
  | none => (-1, true)
  | some j => if names (ks.getD j default).fs = nms then ((j : Int), true) else (-1, false)
theorem locate_spot (ks : List KR) (nm : ByteArray) (nms : List ByteArray) : Spot ks nm nms (locate ks nm nms).1 (locate ks nm nms).2 := by
  unfold locate
  cases h : ks.findIdx? (fun k => decide (k.name = nm)) with
  | none =>
    rw [List.findIdx?_eq_none_iff] at h
    refine .inl ⟨.inl ⟨rfl, fun j hj => ?_⟩, rfl, rfl⟩
    have := h (ks.getD j default) (getD_mem' hj)
    simpa using this
  | some j =>
    rw [List.findIdx?_eq_some_iff_getElem] at h
    obtain ⟨hj, h1, h2⟩ := h
    have g1 : (ks.getD j default).name = nm := by rw [List.getD_eq_getElem?_getD, List.getElem?_eq_getElem hj]; simpa using h1
    have g2 : ∀ i, i < j → (ks.getD i default).name ≠ nm := fun i hi => by
      have := h2 i hi
      rw [List.getD_eq_getElem?_getD, List.getElem?_eq_getElem (by omega)]; simpa using this
    refine .inr ⟨j, hj, .inr ⟨j, rfl, hj, g1, g2⟩, ?_⟩
    dsimp only
    split
    · rename_i e; exact .inl ⟨e, rfl, rfl⟩
    · rename_i e; exact .inr ⟨e, rfl, rfl⟩
theorem Spot.eq {ks : List KR} {nm : ByteArray} {nms : List ByteArray} {r : Int} {o : Bool} (h : Spot ks nm nms r o) : r = (locate ks nm nms).1 ∧ o = (locate ks nm nms).2 := h.unique (locate_spot ks nm nms)
theorem NamedOK.eq {ks : List KR} {nm : ByteArray} {nms : List ByteArray} {r : Int} {o : Bool} (h : NamedOK ks nm nms r o) : o = (locate ks nm nms).2 ∧ (o = true → r = (locate ks nm nms).1) := by
  obtain ⟨h1, h2⟩ := named_spot (locate_spot ks nm nms) h
  exact ⟨h1.symm, fun hh => (h2 (h1.trans hh)).symm⟩
/-- The map of kinds, and its fault. -/
def ofR (ks : List KR) : (Int × Int × Int) × Int :=
  if ckErr ks ≠ 0 then ((0, 0, 0), ckErr ks) else
  if (locate ks (⟨#[112, 108, 97, 99, 101]⟩ : ByteArray) [(⟨#[120]⟩ : ByteArray), (⟨#[121]⟩ : ByteArray), (⟨#[97, 110, 103]⟩ : ByteArray)]).2 = false then ((0, 0, 0), 8) else
  if (locate ks (⟨#[109, 111, 116, 105, 111, 110]⟩ : ByteArray) [(⟨#[118, 120]⟩ : ByteArray), (⟨#[118, 121]⟩ : ByteArray), (⟨#[115, 112, 105, 110]⟩ : ByteArray), (⟨#[99, 97, 108, 109]⟩ : ByteArray)]).2 = false then ((0, 0, 0), 8) else
  if (locate ks (⟨#[115, 104, 97, 112, 101]⟩ : ByteArray) [(⟨#[119]⟩ : ByteArray), (⟨#[104]⟩ : ByteArray), (⟨#[109, 97, 115, 115]⟩ : ByteArray), (⟨#[98, 111, 117, 110, 99, 101]⟩ : ByteArray), (⟨#[114, 117, 98]⟩ : ByteArray)]).2 = false then ((0, 0, 0), 8) else
  (((locate ks (⟨#[112, 108, 97, 99, 101]⟩ : ByteArray) [(⟨#[120]⟩ : ByteArray), (⟨#[121]⟩ : ByteArray), (⟨#[97, 110, 103]⟩ : ByteArray)]).1, (locate ks (⟨#[109, 111, 116, 105, 111, 110]⟩ : ByteArray) [(⟨#[118, 120]⟩ : ByteArray), (⟨#[118, 121]⟩ : ByteArray), (⟨#[115, 112, 105, 110]⟩ : ByteArray), (⟨#[99, 97, 108, 109]⟩ : ByteArray)]).1, (locate ks (⟨#[115, 104, 97, 112, 101]⟩ : ByteArray) [(⟨#[119]⟩ : ByteArray), (⟨#[104]⟩ : ByteArray), (⟨#[109, 97, 115, 115]⟩ : ByteArray), (⟨#[98, 111, 117, 110, 99, 101]⟩ : ByteArray), (⟨#[114, 117, 98]⟩ : ByteArray)]).1), 0)
def agM (m : Int × Int × Int) : Value := .agg #[.int .i64 m.1, .int .i64 m.2.1, .int .i64 m.2.2]
theorem if8 {o : Bool} (h : ¬ (if o then (0 : Int) else 8) ≠ 0) : o = true := by cases o <;> simp_all
theorem if8' {o : Bool} (h : (if o then (0 : Int) else 8) ≠ 0) : o = false := by cases o <;> simp_all

theorem run_eql_map (a0 a1 a2 b0 b1 b2 : Int) (w : World) : (binOp .eql 52 (.agg #[.int .i64 a0, .int .i64 a1, .int .i64 a2]) (.agg #[.int .i64 b0, .int .i64 b1, .int .i64 b2])).run Try.prog w = .ok (.bool (decide (a0 = b0 ∧ a1 = b1 ∧ a2 = b2))) w := by
  simp [go_sem]
  by_cases h0 : a0 = b0 <;> by_cases h1 : a1 = b1 <;> by_cases h2 : a2 = b2 <;> simp [h0, h1, h2]
theorem y_eql_map {f : Frm} {V : Mem} {L : List Grp} {d : Option Tmp} {ty : TypeId} {ps : String} {af : Array Edge} {g : Option (Nat × Bool)} {x y : Operand} {yt : TypeId} {a0 a1 a2 b0 b1 b2 : Int} (hx : evF f x = .agg #[.int .i64 a0, .int .i64 a1, .int .i64 a2]) (hy : evF f y = .agg #[.int .i64 b0, .int .i64 b1, .int .i64 b2]) :
    Yld Try.prog f V L ⟨d, .binOp .eql 52 x y yt, ty, ps, af, g⟩ (.bool (decide (a0 = b0 ∧ a1 = b1 ∧ a2 = b2))) := fun _ w _ => by
  simp only [execOp, hx, hy, Sem.run_bind, eqGuard_agg (P := Try.prog) (t := 52) (by kernel_rfl), Result.andThen_ok, run_eql_map]
  rfl

theorem Special_k0 (v0 : ByteArray) (v1 : ByteArray) (v2 : ByteArray) (w : World) : (Instr.buildSlice 208 3 ([(0, (.string v0)), (1, (.string v1)), (2, (.string v2))] : List (Nat × Value)).toArray).run Try.prog w = .ok (.slice (some ⟨w.heap.size, 0, none⟩) 3 3) { w with heap := w.heap.push (.cells ([.string v0, .string v1, .string v2] : List Value).toArray 9 (0, 0)) } := by kernel_rfl
theorem Special_k1 (v0 : ByteArray) (v1 : ByteArray) (v2 : ByteArray) (v3 : ByteArray) (w : World) : (Instr.buildSlice 208 4 ([(0, (.string v0)), (1, (.string v1)), (2, (.string v2)), (3, (.string v3))] : List (Nat × Value)).toArray).run Try.prog w = .ok (.slice (some ⟨w.heap.size, 0, none⟩) 4 4) { w with heap := w.heap.push (.cells ([.string v0, .string v1, .string v2, .string v3] : List Value).toArray 9 (0, 0)) } := by kernel_rfl
theorem Special_k2 (v0 : ByteArray) (v1 : ByteArray) (v2 : ByteArray) (v3 : ByteArray) (v4 : ByteArray) (w : World) : (Instr.buildSlice 208 5 ([(0, (.string v0)), (1, (.string v1)), (2, (.string v2)), (3, (.string v3)), (4, (.string v4))] : List (Nat × Value)).toArray).run Try.prog w = .ok (.slice (some ⟨w.heap.size, 0, none⟩) 5 5) { w with heap := w.heap.push (.cells ([.string v0, .string v1, .string v2, .string v3, .string v4] : List Value).toArray 9 (0, 0)) } := by kernel_rfl
theorem Special_k3 (v0 : ByteArray) (w : World) : (Instr.buildSlice 208 1 ([(0, (.string v0))] : List (Nat × Value)).toArray).run Try.prog w = .ok (.slice (some ⟨w.heap.size, 0, none⟩) 1 1) { w with heap := w.heap.push (.cells ([.string v0] : List Value).toArray 9 (0, 0)) } := by kernel_rfl
theorem Special_c {V : Mem} (A : Option Addr) (n c : Nat) (ks : List KR) (h : Cels V [] A (ks.flatMap encK)) (hn : ks.length = n) (hc : n ≤ c) (hb : n ≤ 140737488355328) (hK : ∀ k ∈ ks, KOK V k) : CallS Try.prog 72 [.slice A n c].toArray V [] (fun r L' => ∃ k0 k1 k2 k3 k4 o0 o1 o2 o3 o4, r = .tuple #[.agg #[.int .i64 k0, .int .i64 k1, .int .i64 k2, .int .i64 k3, .int .i64 k4], .agg #[.bool o0, .bool o1, .bool o2, .bool o3, .bool o4]] ∧ NamedOK ks (⟨#[112, 108, 97, 99, 101]⟩ : ByteArray) [(⟨#[120]⟩ : ByteArray), (⟨#[121]⟩ : ByteArray), (⟨#[97, 110, 103]⟩ : ByteArray)] k0 o0 ∧ NamedOK ks (⟨#[109, 111, 116, 105, 111, 110]⟩ : ByteArray) [(⟨#[118, 120]⟩ : ByteArray), (⟨#[118, 121]⟩ : ByteArray), (⟨#[115, 112, 105, 110]⟩ : ByteArray), (⟨#[99, 97, 108, 109]⟩ : ByteArray)] k1 o1 ∧ NamedOK ks (⟨#[115, 104, 97, 112, 101]⟩ : ByteArray) [(⟨#[119]⟩ : ByteArray), (⟨#[104]⟩ : ByteArray), (⟨#[109, 97, 115, 115]⟩ : ByteArray), (⟨#[98, 111, 117, 110, 99, 101]⟩ : ByteArray), (⟨#[114, 117, 98]⟩ : ByteArray)] k2 o2 ∧ NamedOK ks (⟨#[105, 110, 112, 117, 116]⟩ : ByteArray) [(⟨#[112, 108, 97, 121, 101, 114]⟩ : ByteArray), (⟨#[107, 101, 121, 115]⟩ : ByteArray), (⟨#[120]⟩ : ByteArray), (⟨#[121]⟩ : ByteArray)] k3 o3 ∧ NamedOK ks (⟨#[109, 105, 110, 100]⟩ : ByteArray) [(⟨#[112, 114, 111, 103]⟩ : ByteArray)] k4 o4 ∧ L' = []) := by
  refine callS Try.func72 rfl rfl (fun w0 => ?_)
  refine s_seq ?_
  refine s_region ?_
  refine o_alloc rfl Try.zeroValue137 rfl (fun b1 => ?_)
  refine o_alloc rfl Try.zeroValue138 rfl (fun b2 => ?_)
  refine o_nil ?_
  refine s_seq ?_
  refine s_region ?_
  refine o_val rfl rfl rfl (y_move (v := (.slice _ _ _)) rfl) ?_
  refine o_lit (vs := [(0, .string _), (1, .string _), (2, .string _)]) rfl rfl (Special_k0 _ _ _) (fun b3 => ?_)
  refine o_fn 0 (d := 7) rfl Try.call111 (Named_c _ _ _ ks h.here.down hn hb (fun k hk => (hK k hk).lift) _ _ _ _ [(⟨#[120]⟩ : ByteArray), (⟨#[121]⟩ : ByteArray), (⟨#[97, 110, 103]⟩ : ByteArray)] (cels_own (cs := ([(⟨#[120]⟩ : ByteArray), (⟨#[121]⟩ : ByteArray), (⟨#[97, 110, 103]⟩ : ByteArray)]).map .string) 2 rfl rfl).down rfl) rfl ?_
  rintro _ _ ⟨k0, o0, rfl, hs0, rfl⟩
  refine o_val rfl rfl rfl (y_move (v := (.tuple #[(.int _ _), (.bool _)])) rfl) ?_
  refine o_val rfl rfl rfl (y_extract (v := (.int _ _)) rfl rfl) ?_
  refine o_val rfl rfl rfl (y_extract (v := (.bool _)) rfl rfl) ?_
  refine o_val rfl rfl rfl (y_index_lit (q := 0) Try.runUnderlying137 Try.sizeOf3 rfl rfl rfl rfl) ?_
  refine o_store (v := (.int _ _)) 0 rfl Try.sizeOf3 rfl rfl rfl rfl ?_
  refine o_val rfl rfl rfl (y_index_lit (q := 0) Try.runUnderlying138 Try.sizeOf4 rfl rfl rfl rfl) ?_
  refine o_store (v := (.bool _)) 1 rfl Try.sizeOf4 rfl rfl rfl rfl ?_
  refine o_nil ?_
  refine s_norm [[(_, .cells [(.int _ _), (.int _ _), (.int _ _), (.int _ _), (.int _ _)].toArray 137 (0, 0))], [(_, .cells [(.bool _), (.bool _), (.bool _), (.bool _), (.bool _)].toArray 138 (0, 0))], [(_, .cells [(.string _), (.string _), (.string _)].toArray 9 (0, 0))]] rfl ?_
  refine s_seq ?_
  refine s_region ?_
  refine o_val rfl rfl rfl (y_move (v := (.slice _ _ _)) rfl) ?_
  refine o_lit (vs := [(0, .string _), (1, .string _), (2, .string _), (3, .string _)]) rfl rfl (Special_k1 _ _ _ _) (fun b4 => ?_)
  refine o_fn 0 (d := 15) rfl Try.call111 (Named_c _ _ _ ks h.here.down hn hb (fun k hk => (hK k hk).lift) _ _ _ _ [(⟨#[118, 120]⟩ : ByteArray), (⟨#[118, 121]⟩ : ByteArray), (⟨#[115, 112, 105, 110]⟩ : ByteArray), (⟨#[99, 97, 108, 109]⟩ : ByteArray)] (cels_own (cs := ([(⟨#[118, 120]⟩ : ByteArray), (⟨#[118, 121]⟩ : ByteArray), (⟨#[115, 112, 105, 110]⟩ : ByteArray), (⟨#[99, 97, 108, 109]⟩ : ByteArray)]).map .string) 3 rfl rfl).down rfl) rfl ?_
  rintro _ _ ⟨k1, o1, rfl, hs1, rfl⟩
  refine o_val rfl rfl rfl (y_move (v := (.tuple #[(.int _ _), (.bool _)])) rfl) ?_
  refine o_val rfl rfl rfl (y_extract (v := (.int _ _)) rfl rfl) ?_
  refine o_val rfl rfl rfl (y_extract (v := (.bool _)) rfl rfl) ?_
  refine o_val rfl rfl rfl (y_index_lit (q := 1) Try.runUnderlying137 Try.sizeOf3 rfl rfl rfl rfl) ?_
  refine o_store (v := (.int _ _)) 0 rfl Try.sizeOf3 rfl rfl rfl rfl ?_
  refine o_val rfl rfl rfl (y_index_lit (q := 1) Try.runUnderlying138 Try.sizeOf4 rfl rfl rfl rfl) ?_
  refine o_store (v := (.bool _)) 1 rfl Try.sizeOf4 rfl rfl rfl rfl ?_
  refine o_nil ?_
  refine s_norm [[(_, .cells [(.int _ _), (.int _ _), (.int _ _), (.int _ _), (.int _ _)].toArray 137 (0, 0))], [(_, .cells [(.bool _), (.bool _), (.bool _), (.bool _), (.bool _)].toArray 138 (0, 0))], [(_, .cells [(.string _), (.string _), (.string _)].toArray 9 (0, 0))], [(_, .cells [(.string _), (.string _), (.string _), (.string _)].toArray 9 (0, 0))]] rfl ?_
  refine s_forget [(0, (.slice _ _ _)), (2, (.pointer _)), (3, (.pointer _))] ⟨rfl, rfl, rfl, trivial⟩ (fun _f => ?_)
  refine s_seq ?_
  refine s_region ?_
  refine o_val rfl rfl rfl (y_move (v := (.slice _ _ _)) rfl) ?_
  refine o_lit (vs := [(0, .string _), (1, .string _), (2, .string _), (3, .string _), (4, .string _)]) rfl rfl (Special_k2 _ _ _ _ _) (fun b5 => ?_)
  refine o_fn 0 (d := 23) rfl Try.call111 (Named_c _ _ _ ks h.here.down hn hb (fun k hk => (hK k hk).lift) _ _ _ _ [(⟨#[119]⟩ : ByteArray), (⟨#[104]⟩ : ByteArray), (⟨#[109, 97, 115, 115]⟩ : ByteArray), (⟨#[98, 111, 117, 110, 99, 101]⟩ : ByteArray), (⟨#[114, 117, 98]⟩ : ByteArray)] (cels_own (cs := ([(⟨#[119]⟩ : ByteArray), (⟨#[104]⟩ : ByteArray), (⟨#[109, 97, 115, 115]⟩ : ByteArray), (⟨#[98, 111, 117, 110, 99, 101]⟩ : ByteArray), (⟨#[114, 117, 98]⟩ : ByteArray)]).map .string) 4 rfl rfl).down rfl) rfl ?_
  rintro _ _ ⟨k2, o2, rfl, hs2, rfl⟩
  refine o_val rfl rfl rfl (y_move (v := (.tuple #[(.int _ _), (.bool _)])) rfl) ?_
  refine o_val rfl rfl rfl (y_extract (v := (.int _ _)) rfl rfl) ?_
  refine o_val rfl rfl rfl (y_extract (v := (.bool _)) rfl rfl) ?_
  refine o_val rfl rfl rfl (y_index_lit (q := 2) Try.runUnderlying137 Try.sizeOf3 rfl rfl rfl rfl) ?_
  refine o_store (v := (.int _ _)) 0 rfl Try.sizeOf3 rfl rfl rfl rfl ?_
  refine o_val rfl rfl rfl (y_index_lit (q := 2) Try.runUnderlying138 Try.sizeOf4 rfl rfl rfl rfl) ?_
  refine o_store (v := (.bool _)) 1 rfl Try.sizeOf4 rfl rfl rfl rfl ?_
  refine o_nil ?_
  refine s_norm [[(_, .cells [(.int _ _), (.int _ _), (.int _ _), (.int _ _), (.int _ _)].toArray 137 (0, 0))], [(_, .cells [(.bool _), (.bool _), (.bool _), (.bool _), (.bool _)].toArray 138 (0, 0))], [(_, .cells [(.string _), (.string _), (.string _)].toArray 9 (0, 0))], [(_, .cells [(.string _), (.string _), (.string _), (.string _)].toArray 9 (0, 0))], [(_, .cells [(.string _), (.string _), (.string _), (.string _), (.string _)].toArray 9 (0, 0))]] rfl ?_
  refine s_seq ?_
  refine s_region ?_
  refine o_val rfl rfl rfl (y_move (v := (.slice _ _ _)) rfl) ?_
  refine o_lit (vs := [(0, .string _), (1, .string _), (2, .string _), (3, .string _)]) rfl rfl (Special_k1 _ _ _ _) (fun b6 => ?_)
  refine o_fn 0 (d := 31) rfl Try.call111 (Named_c _ _ _ ks h.here.down hn hb (fun k hk => (hK k hk).lift) _ _ _ _ [(⟨#[112, 108, 97, 121, 101, 114]⟩ : ByteArray), (⟨#[107, 101, 121, 115]⟩ : ByteArray), (⟨#[120]⟩ : ByteArray), (⟨#[121]⟩ : ByteArray)] (cels_own (cs := ([(⟨#[112, 108, 97, 121, 101, 114]⟩ : ByteArray), (⟨#[107, 101, 121, 115]⟩ : ByteArray), (⟨#[120]⟩ : ByteArray), (⟨#[121]⟩ : ByteArray)]).map .string) 5 rfl rfl).down rfl) rfl ?_
  rintro _ _ ⟨k3, o3, rfl, hs3, rfl⟩
  refine o_val rfl rfl rfl (y_move (v := (.tuple #[(.int _ _), (.bool _)])) rfl) ?_
  refine o_val rfl rfl rfl (y_extract (v := (.int _ _)) rfl rfl) ?_
  refine o_val rfl rfl rfl (y_extract (v := (.bool _)) rfl rfl) ?_
  refine o_val rfl rfl rfl (y_index_lit (q := 3) Try.runUnderlying137 Try.sizeOf3 rfl rfl rfl rfl) ?_
  refine o_store (v := (.int _ _)) 0 rfl Try.sizeOf3 rfl rfl rfl rfl ?_
  refine o_val rfl rfl rfl (y_index_lit (q := 3) Try.runUnderlying138 Try.sizeOf4 rfl rfl rfl rfl) ?_
  refine o_store (v := (.bool _)) 1 rfl Try.sizeOf4 rfl rfl rfl rfl ?_
  refine o_nil ?_
  refine s_norm [[(_, .cells [(.int _ _), (.int _ _), (.int _ _), (.int _ _), (.int _ _)].toArray 137 (0, 0))], [(_, .cells [(.bool _), (.bool _), (.bool _), (.bool _), (.bool _)].toArray 138 (0, 0))], [(_, .cells [(.string _), (.string _), (.string _)].toArray 9 (0, 0))], [(_, .cells [(.string _), (.string _), (.string _), (.string _)].toArray 9 (0, 0))], [(_, .cells [(.string _), (.string _), (.string _), (.string _), (.string _)].toArray 9 (0, 0))], [(_, .cells [(.string _), (.string _), (.string _), (.string _)].toArray 9 (0, 0))]] rfl ?_
  refine s_forget [(0, (.slice _ _ _)), (2, (.pointer _)), (3, (.pointer _))] ⟨rfl, rfl, rfl, trivial⟩ (fun _f => ?_)
  refine s_seq ?_
  refine s_region ?_
  refine o_val rfl rfl rfl (y_move (v := (.slice _ _ _)) rfl) ?_
  refine o_lit (vs := [(0, .string _)]) rfl rfl (Special_k3 _) (fun b7 => ?_)
  refine o_fn 0 (d := 39) rfl Try.call111 (Named_c _ _ _ ks h.here.down hn hb (fun k hk => (hK k hk).lift) _ _ _ _ [(⟨#[112, 114, 111, 103]⟩ : ByteArray)] (cels_own (cs := ([(⟨#[112, 114, 111, 103]⟩ : ByteArray)]).map .string) 6 rfl rfl).down rfl) rfl ?_
  rintro _ _ ⟨k4, o4, rfl, hs4, rfl⟩
  refine o_val rfl rfl rfl (y_move (v := (.tuple #[(.int _ _), (.bool _)])) rfl) ?_
  refine o_val rfl rfl rfl (y_extract (v := (.int _ _)) rfl rfl) ?_
  refine o_val rfl rfl rfl (y_extract (v := (.bool _)) rfl rfl) ?_
  refine o_val rfl rfl rfl (y_index_lit (q := 4) Try.runUnderlying137 Try.sizeOf3 rfl rfl rfl rfl) ?_
  refine o_store (v := (.int _ _)) 0 rfl Try.sizeOf3 rfl rfl rfl rfl ?_
  refine o_val rfl rfl rfl (y_index_lit (q := 4) Try.runUnderlying138 Try.sizeOf4 rfl rfl rfl rfl) ?_
  refine o_store (v := (.bool _)) 1 rfl Try.sizeOf4 rfl rfl rfl rfl ?_
  refine o_nil ?_
  refine s_norm [[(_, .cells [(.int _ _), (.int _ _), (.int _ _), (.int _ _), (.int _ _)].toArray 137 (0, 0))], [(_, .cells [(.bool _), (.bool _), (.bool _), (.bool _), (.bool _)].toArray 138 (0, 0))], [(_, .cells [(.string _), (.string _), (.string _)].toArray 9 (0, 0))], [(_, .cells [(.string _), (.string _), (.string _), (.string _)].toArray 9 (0, 0))], [(_, .cells [(.string _), (.string _), (.string _), (.string _), (.string _)].toArray 9 (0, 0))], [(_, .cells [(.string _), (.string _), (.string _), (.string _)].toArray 9 (0, 0))], [(_, .cells [(.string _)].toArray 9 (0, 0))]] rfl ?_
  refine s_seq ?_
  refine s_drawn 0 (by kernel_rfl) ?_
  refine d_val (i := 0) rfl (by kernel_rfl) (by kernel_rfl) (by kernel_rfl) rfl rfl rfl (y_loads (cs := [_, _, _, _, _]) Try.isAgg137 Try.sizeOf137 rfl rfl rfl (cels_own 0 rfl rfl)) ?_
  refine d_val (i := 1) rfl (by kernel_rfl) (by kernel_rfl) (by kernel_rfl) rfl rfl rfl (y_loads (cs := [_, _, _, _, _]) Try.isAgg138 Try.sizeOf138 rfl rfl rfl (cels_own 1 rfl rfl)) ?_
  refine d_eff (k := 2) (n := 0) (m := 7) rfl (by kernel_rfl) rfl ?_
  refine o_stores (vs := [(.int _ _), (.int _ _), (.int _ _), (.int _ _), (.int _ _)]) 0 rfl Try.sizeOf137 rfl rfl rfl (by simp [Value.oneCell']) (by simp) ?_
  refine o_nil ?_
  refine d_eff (k := 3) (n := 0) (m := 7) rfl (by kernel_rfl) rfl ?_
  refine o_stores (vs := [(.bool _), (.bool _), (.bool _), (.bool _), (.bool _)]) 1 rfl Try.sizeOf138 rfl rfl rfl (by simp [Value.oneCell']) (by simp) ?_
  refine o_nil ?_
  refine d_nil (n := 0) (m := 7) (by kernel_rfl) rfl ?_
  refine s_norm [[(_, .cells [(.int _ _), (.int _ _), (.int _ _), (.int _ _), (.int _ _)].toArray 137 (0, 0))], [(_, .cells [(.bool _), (.bool _), (.bool _), (.bool _), (.bool _)].toArray 138 (0, 0))], [(_, .cells [(.string _), (.string _), (.string _)].toArray 9 (0, 0))], [(_, .cells [(.string _), (.string _), (.string _), (.string _)].toArray 9 (0, 0))], [(_, .cells [(.string _), (.string _), (.string _), (.string _), (.string _)].toArray 9 (0, 0))], [(_, .cells [(.string _), (.string _), (.string _), (.string _)].toArray 9 (0, 0))], [(_, .cells [(.string _)].toArray 9 (0, 0))]] rfl ?_
  refine s_ret ?_
  exact ⟨_, [], resv2 rfl (RV.cells (cs := [.int .i64 k0, .int .i64 k1, .int .i64 k2, .int .i64 k3, .int .i64 k4]) rfl Try.isAgg137 Try.sizeOf137 rfl rfl (cels_own 0 rfl rfl)) (RV.cells (cs := [.bool o0, .bool o1, .bool o2, .bool o3, .bool o4]) rfl Try.isAgg138 Try.sizeOf138 rfl rfl (cels_own 1 rfl rfl)), ⟨k0, k1, k2, k3, k4, o0, o1, o2, o3, o4, rfl, hs0, hs1, hs2, hs3, hs4, rfl⟩, sub_picks [] rfl⟩

theorem Of_k0 (w : World) : (Instr.build 52 ([] : List (Nat × Value)).toArray).run Try.prog w = .ok (.agg #[.int .i64 0, .int .i64 0, .int .i64 0]) w := by kernel_rfl
theorem Of_k1 (v0 : ByteArray) (v1 : ByteArray) (v2 : ByteArray) (w : World) : (Instr.buildSlice 208 3 ([(0, (.string v0)), (1, (.string v1)), (2, (.string v2))] : List (Nat × Value)).toArray).run Try.prog w = .ok (.slice (some ⟨w.heap.size, 0, none⟩) 3 3) { w with heap := w.heap.push (.cells ([.string v0, .string v1, .string v2] : List Value).toArray 9 (0, 0)) } := by kernel_rfl
theorem Of_k2 (v0 : ByteArray) (v1 : ByteArray) (v2 : ByteArray) (v3 : ByteArray) (w : World) : (Instr.buildSlice 208 4 ([(0, (.string v0)), (1, (.string v1)), (2, (.string v2)), (3, (.string v3))] : List (Nat × Value)).toArray).run Try.prog w = .ok (.slice (some ⟨w.heap.size, 0, none⟩) 4 4) { w with heap := w.heap.push (.cells ([.string v0, .string v1, .string v2, .string v3] : List Value).toArray 9 (0, 0)) } := by kernel_rfl
theorem Of_k3 (v0 : ByteArray) (v1 : ByteArray) (v2 : ByteArray) (v3 : ByteArray) (v4 : ByteArray) (w : World) : (Instr.buildSlice 208 5 ([(0, (.string v0)), (1, (.string v1)), (2, (.string v2)), (3, (.string v3)), (4, (.string v4))] : List (Nat × Value)).toArray).run Try.prog w = .ok (.slice (some ⟨w.heap.size, 0, none⟩) 5 5) { w with heap := w.heap.push (.cells ([.string v0, .string v1, .string v2, .string v3, .string v4] : List Value).toArray 9 (0, 0)) } := by kernel_rfl
theorem Of_c {V : Mem} (A : Option Addr) (n c : Nat) (ks : List KR) (h : Cels V [] A (ks.flatMap encK)) (hn : ks.length = n) (hc : n ≤ c) (hb : n ≤ 140737488355328) (hK : ∀ k ∈ ks, KOK V k) : CallS Try.prog 25 [.slice A n c].toArray V [] (fun r L' => r = .tuple #[agM (ofR ks).1, .int .i64 (ofR ks).2] ∧ L' = []) := by
  refine callS Try.func25 rfl rfl (fun w0 => ?_)
  refine s_seq ?_
  refine s_region ?_
  refine o_alloc rfl Try.zeroValue52 rfl (fun b1 => ?_)
  refine o_val rfl rfl rfl (y_assign (v := (.int _ _)) rfl) ?_
  refine o_nil ?_
  refine s_seq ?_
  refine s_seq ?_
  refine s_region ?_
  refine o_val rfl rfl rfl (y_move (v := (.slice _ _ _)) rfl) ?_
  refine o_fn 0 (d := 8) rfl Try.call70 (CheckK_c _ _ _ ks h.here.down hn hc hb (fun k hk => (hK k hk).lift)) rfl ?_
  rintro _ _ ⟨rfl, rfl⟩
  refine o_val rfl rfl rfl (y_assign (v := (.int _ _)) rfl) ?_
  refine o_nil ?_
  refine s_seq ?_
  refine s_region ?_
  refine o_val rfl rfl rfl (y_move (v := (.int _ _)) rfl) ?_
  refine o_val rfl rfl rfl (y_neq rfl rfl) ?_
  refine o_nil ?_
  refine s_if rfl (fun h2 => ?_) (fun h3 => ?_)
  · have c0 := h2
    refine s_seq ?_
    refine s_region ?_
    refine o_val rfl rfl rfl (y_build (vs := []) rfl (Of_k0)) ?_
    refine o_val rfl rfl rfl (y_move (v := (.int _ _)) rfl) ?_
    refine o_stores (vs := [(.int _ _), (.int _ _), (.int _ _)]) 0 rfl Try.sizeOf52 rfl rfl rfl (by simp [Value.oneCell']) (by simp) ?_
    refine o_val rfl rfl rfl (y_assign (v := (.int _ _)) rfl) ?_
    refine o_nil ?_
    refine s_ret ?_
    exact ⟨_, [], resv2 rfl (RV.cells rfl Try.isAgg52 Try.sizeOf52 rfl rfl (cels_own 0 rfl rfl)) (RV.tmp rfl), ⟨by unfold ofR; rw [if_pos (show ckErr ks ≠ 0 from c0)]; rfl, rfl⟩, sub_picks [] rfl⟩
  · have c0 := Decidable.not_not.1 h3
    refine s_skip ?_
    refine s_seq ?_
    refine s_region ?_
    refine o_alloc rfl Try.zeroValue52 rfl (fun b4 => ?_)
    refine o_nil ?_
    refine s_seq ?_
    refine s_region ?_
    refine o_val rfl rfl rfl (y_assign (v := (.int _ _)) rfl) ?_
    refine o_nil ?_
    refine s_seq ?_
    refine s_seq ?_
    refine s_region ?_
    refine o_val rfl rfl rfl (y_move (v := (.slice _ _ _)) rfl) ?_
    refine o_lit (vs := [(0, .string _), (1, .string _), (2, .string _)]) rfl rfl (Of_k1 _ _ _) (fun b5 => ?_)
    refine o_fn 0 (d := 16) rfl Try.call71 (find_c _ _ _ ks h.here.down hn hb (fun k hk => (hK k hk).lift) _ _ _ _ [(⟨#[120]⟩ : ByteArray), (⟨#[121]⟩ : ByteArray), (⟨#[97, 110, 103]⟩ : ByteArray)] (cels_own (cs := ([(⟨#[120]⟩ : ByteArray), (⟨#[121]⟩ : ByteArray), (⟨#[97, 110, 103]⟩ : ByteArray)]).map .string) 2 rfl rfl).down rfl) rfl ?_
    rintro _ _ ⟨k0, o0, rfl, hs0, rfl⟩
    obtain ⟨e0, f0⟩ := hs0.eq
    refine o_val rfl rfl rfl (y_move (v := (.tuple #[(.int _ _), (.int _ _)])) rfl) ?_
    refine o_val rfl rfl rfl (y_extract (v := (.int _ _)) rfl rfl) ?_
    refine o_val rfl rfl rfl (y_extract (v := (.int _ _)) rfl rfl) ?_
    refine o_val rfl rfl rfl (y_field0 Try.runUnderlying52 rfl Try.sizeOf3 rfl rfl) ?_
    refine o_store (v := (.int _ _)) 1 rfl Try.sizeOf3 rfl rfl rfl rfl ?_
    refine o_val rfl rfl rfl (y_assign (v := (.int _ _)) rfl) ?_
    refine o_nil ?_
    refine s_forget [(0, (.slice _ _ _)), (2, (.pointer _)), (3, (.int _ _)), (5, (.pointer _)), (6, (.int _ _))] ⟨rfl, rfl, rfl, rfl, rfl, trivial⟩ (fun _f => ?_)
    refine s_seq ?_
    refine s_region ?_
    refine o_val rfl rfl rfl (y_move (v := (.int _ _)) rfl) ?_
    refine o_val rfl rfl rfl (y_neq rfl rfl) ?_
    refine o_nil ?_
    refine s_if rfl (fun h6 => ?_) (fun h7 => ?_)
    · have q0 := h6
      refine s_seq ?_
      refine s_region ?_
      refine o_val rfl rfl rfl (y_build (vs := []) rfl (Of_k0)) ?_
      refine o_val rfl rfl rfl (y_move (v := (.int _ _)) rfl) ?_
      refine o_stores (vs := [(.int _ _), (.int _ _), (.int _ _)]) 0 rfl Try.sizeOf52 rfl rfl rfl (by simp [Value.oneCell']) (by simp) ?_
      refine o_val rfl rfl rfl (y_assign (v := (.int _ _)) rfl) ?_
      refine o_nil ?_
      refine s_norm [[(_, .cells [(.int _ _), (.int _ _), (.int _ _)].toArray 52 (0, 0))], [(_, .cells [(.int _ _), (.int _ _), (.int _ _)].toArray 52 (0, 0))], [(_, .cells [(.string _), (.string _), (.string _)].toArray 9 (0, 0))]] rfl ?_
      refine s_ret ?_
      exact ⟨_, [], resv2 rfl (RV.cells rfl Try.isAgg52 Try.sizeOf52 rfl rfl (cels_own 0 rfl rfl)) (RV.tmp rfl), ⟨by unfold ofR; rw [if_neg (show ¬ (ckErr ks ≠ 0) from fun hh => hh c0)]; rw [if_pos (show (locate ks (⟨#[112, 108, 97, 99, 101]⟩ : ByteArray) [(⟨#[120]⟩ : ByteArray), (⟨#[121]⟩ : ByteArray), (⟨#[97, 110, 103]⟩ : ByteArray)]).2 = false from by rw [← f0]; exact if8' q0)]; rw [if8' q0]; rfl, rfl⟩, sub_picks [] rfl⟩
    · have q0 := h7
      refine s_skip ?_
      refine s_seq ?_
      refine s_seq ?_
      refine s_region ?_
      refine o_val rfl rfl rfl (y_move (v := (.slice _ _ _)) rfl) ?_
      refine o_lit (vs := [(0, .string _), (1, .string _), (2, .string _), (3, .string _)]) rfl rfl (Of_k2 _ _ _ _) (fun b8 => ?_)
      refine o_fn 0 (d := 27) rfl Try.call71 (find_c _ _ _ ks h.here.down hn hb (fun k hk => (hK k hk).lift) _ _ _ _ [(⟨#[118, 120]⟩ : ByteArray), (⟨#[118, 121]⟩ : ByteArray), (⟨#[115, 112, 105, 110]⟩ : ByteArray), (⟨#[99, 97, 108, 109]⟩ : ByteArray)] (cels_own (cs := ([(⟨#[118, 120]⟩ : ByteArray), (⟨#[118, 121]⟩ : ByteArray), (⟨#[115, 112, 105, 110]⟩ : ByteArray), (⟨#[99, 97, 108, 109]⟩ : ByteArray)]).map .string) 3 rfl rfl).down rfl) rfl ?_
      rintro _ _ ⟨k1, o1, rfl, hs1, rfl⟩
      obtain ⟨e1, f1⟩ := hs1.eq
      refine o_val rfl rfl rfl (y_move (v := (.tuple #[(.int _ _), (.int _ _)])) rfl) ?_
      refine o_val rfl rfl rfl (y_extract (v := (.int _ _)) rfl rfl) ?_
      refine o_val rfl rfl rfl (y_extract (v := (.int _ _)) rfl rfl) ?_
      refine o_val rfl rfl rfl (y_field0 Try.runUnderlying52 rfl Try.sizeOf3 rfl rfl) ?_
      refine o_store (v := (.int _ _)) 1 rfl Try.sizeOf3 rfl rfl rfl rfl ?_
      refine o_val rfl rfl rfl (y_assign (v := (.int _ _)) rfl) ?_
      refine o_nil ?_
      refine s_norm [[(_, .cells [(.int _ _), (.int _ _), (.int _ _)].toArray 52 (0, 0))], [(_, .cells [(.int _ _), (.int _ _), (.int _ _)].toArray 52 (0, 0))], [(_, .cells [(.string _), (.string _), (.string _)].toArray 9 (0, 0))], [(_, .cells [(.string _), (.string _), (.string _), (.string _)].toArray 9 (0, 0))]] rfl ?_
      refine s_seq ?_
      refine s_region ?_
      refine o_val rfl rfl rfl (y_move (v := (.int _ _)) rfl) ?_
      refine o_val rfl rfl rfl (y_neq rfl rfl) ?_
      refine o_nil ?_
      refine s_if rfl (fun h9 => ?_) (fun h10 => ?_)
      · have q1 := h9
        refine s_seq ?_
        refine s_region ?_
        refine o_val rfl rfl rfl (y_build (vs := []) rfl (Of_k0)) ?_
        refine o_val rfl rfl rfl (y_move (v := (.int _ _)) rfl) ?_
        refine o_stores (vs := [(.int _ _), (.int _ _), (.int _ _)]) 0 rfl Try.sizeOf52 rfl rfl rfl (by simp [Value.oneCell']) (by simp) ?_
        refine o_val rfl rfl rfl (y_assign (v := (.int _ _)) rfl) ?_
        refine o_nil ?_
        refine s_ret ?_
        exact ⟨_, [], resv2 rfl (RV.cells rfl Try.isAgg52 Try.sizeOf52 rfl rfl (cels_own 0 rfl rfl)) (RV.tmp rfl), ⟨by unfold ofR; rw [if_neg (show ¬ (ckErr ks ≠ 0) from fun hh => hh c0)]; rw [if_neg (show ¬ (locate ks (⟨#[112, 108, 97, 99, 101]⟩ : ByteArray) [(⟨#[120]⟩ : ByteArray), (⟨#[121]⟩ : ByteArray), (⟨#[97, 110, 103]⟩ : ByteArray)]).2 = false from by rw [← f0, if8 q0]; decide)]; rw [if_pos (show (locate ks (⟨#[109, 111, 116, 105, 111, 110]⟩ : ByteArray) [(⟨#[118, 120]⟩ : ByteArray), (⟨#[118, 121]⟩ : ByteArray), (⟨#[115, 112, 105, 110]⟩ : ByteArray), (⟨#[99, 97, 108, 109]⟩ : ByteArray)]).2 = false from by rw [← f1]; exact if8' q1)]; rw [if8' q1]; rfl, rfl⟩, sub_picks [] rfl⟩
      · have q1 := h10
        refine s_skip ?_
        refine s_seq ?_
        refine s_seq ?_
        refine s_region ?_
        refine o_val rfl rfl rfl (y_move (v := (.slice _ _ _)) rfl) ?_
        refine o_lit (vs := [(0, .string _), (1, .string _), (2, .string _), (3, .string _), (4, .string _)]) rfl rfl (Of_k3 _ _ _ _ _) (fun b11 => ?_)
        refine o_fn 0 (d := 38) rfl Try.call71 (find_c _ _ _ ks h.here.down hn hb (fun k hk => (hK k hk).lift) _ _ _ _ [(⟨#[119]⟩ : ByteArray), (⟨#[104]⟩ : ByteArray), (⟨#[109, 97, 115, 115]⟩ : ByteArray), (⟨#[98, 111, 117, 110, 99, 101]⟩ : ByteArray), (⟨#[114, 117, 98]⟩ : ByteArray)] (cels_own (cs := ([(⟨#[119]⟩ : ByteArray), (⟨#[104]⟩ : ByteArray), (⟨#[109, 97, 115, 115]⟩ : ByteArray), (⟨#[98, 111, 117, 110, 99, 101]⟩ : ByteArray), (⟨#[114, 117, 98]⟩ : ByteArray)]).map .string) 4 rfl rfl).down rfl) rfl ?_
        rintro _ _ ⟨k2, o2, rfl, hs2, rfl⟩
        obtain ⟨e2, f2⟩ := hs2.eq
        refine o_val rfl rfl rfl (y_move (v := (.tuple #[(.int _ _), (.int _ _)])) rfl) ?_
        refine o_val rfl rfl rfl (y_extract (v := (.int _ _)) rfl rfl) ?_
        refine o_val rfl rfl rfl (y_extract (v := (.int _ _)) rfl rfl) ?_
        refine o_val rfl rfl rfl (y_field0 Try.runUnderlying52 rfl Try.sizeOf3 rfl rfl) ?_
        refine o_store (v := (.int _ _)) 1 rfl Try.sizeOf3 rfl rfl rfl rfl ?_
        refine o_val rfl rfl rfl (y_assign (v := (.int _ _)) rfl) ?_
        refine o_nil ?_
        refine s_forget [(2, (.pointer _)), (3, (.int _ _)), (5, (.pointer _)), (6, (.int _ _))] ⟨rfl, rfl, rfl, rfl, trivial⟩ (fun _f => ?_)
        refine s_seq ?_
        refine s_region ?_
        refine o_val rfl rfl rfl (y_move (v := (.int _ _)) rfl) ?_
        refine o_val rfl rfl rfl (y_neq rfl rfl) ?_
        refine o_nil ?_
        refine s_if rfl (fun h12 => ?_) (fun h13 => ?_)
        · have q2 := h12
          refine s_seq ?_
          refine s_region ?_
          refine o_val rfl rfl rfl (y_build (vs := []) rfl (Of_k0)) ?_
          refine o_val rfl rfl rfl (y_move (v := (.int _ _)) rfl) ?_
          refine o_stores (vs := [(.int _ _), (.int _ _), (.int _ _)]) 0 rfl Try.sizeOf52 rfl rfl rfl (by simp [Value.oneCell']) (by simp) ?_
          refine o_val rfl rfl rfl (y_assign (v := (.int _ _)) rfl) ?_
          refine o_nil ?_
          refine s_norm [[(_, .cells [(.int _ _), (.int _ _), (.int _ _)].toArray 52 (0, 0))], [(_, .cells [(.int _ _), (.int _ _), (.int _ _)].toArray 52 (0, 0))], [(_, .cells [(.string _), (.string _), (.string _)].toArray 9 (0, 0))], [(_, .cells [(.string _), (.string _), (.string _), (.string _)].toArray 9 (0, 0))], [(_, .cells [(.string _), (.string _), (.string _), (.string _), (.string _)].toArray 9 (0, 0))]] rfl ?_
          refine s_ret ?_
          exact ⟨_, [], resv2 rfl (RV.cells rfl Try.isAgg52 Try.sizeOf52 rfl rfl (cels_own 0 rfl rfl)) (RV.tmp rfl), ⟨by unfold ofR; rw [if_neg (show ¬ (ckErr ks ≠ 0) from fun hh => hh c0)]; rw [if_neg (show ¬ (locate ks (⟨#[112, 108, 97, 99, 101]⟩ : ByteArray) [(⟨#[120]⟩ : ByteArray), (⟨#[121]⟩ : ByteArray), (⟨#[97, 110, 103]⟩ : ByteArray)]).2 = false from by rw [← f0, if8 q0]; decide)]; rw [if_neg (show ¬ (locate ks (⟨#[109, 111, 116, 105, 111, 110]⟩ : ByteArray) [(⟨#[118, 120]⟩ : ByteArray), (⟨#[118, 121]⟩ : ByteArray), (⟨#[115, 112, 105, 110]⟩ : ByteArray), (⟨#[99, 97, 108, 109]⟩ : ByteArray)]).2 = false from by rw [← f1, if8 q1]; decide)]; rw [if_pos (show (locate ks (⟨#[115, 104, 97, 112, 101]⟩ : ByteArray) [(⟨#[119]⟩ : ByteArray), (⟨#[104]⟩ : ByteArray), (⟨#[109, 97, 115, 115]⟩ : ByteArray), (⟨#[98, 111, 117, 110, 99, 101]⟩ : ByteArray), (⟨#[114, 117, 98]⟩ : ByteArray)]).2 = false from by rw [← f2]; exact if8' q2)]; rw [if8' q2]; rfl, rfl⟩, sub_picks [] rfl⟩
        · have q2 := h13
          refine s_skip ?_
          refine s_seq ?_
          refine s_region ?_
          refine o_val rfl rfl rfl (y_loads (cs := [_, _, _]) Try.isAgg52 Try.sizeOf52 rfl rfl rfl (cels_own 1 rfl rfl)) ?_
          refine o_stores (vs := [(.int _ _), (.int _ _), (.int _ _)]) 0 rfl Try.sizeOf52 rfl rfl rfl (by simp [Value.oneCell']) (by simp) ?_
          refine o_val rfl rfl rfl (y_assign (v := (.int _ _)) rfl) ?_
          refine o_nil ?_
          refine s_norm [[(_, .cells [(.int _ _), (.int _ _), (.int _ _)].toArray 52 (0, 0))], [(_, .cells [(.int _ _), (.int _ _), (.int _ _)].toArray 52 (0, 0))], [(_, .cells [(.string _), (.string _), (.string _)].toArray 9 (0, 0))], [(_, .cells [(.string _), (.string _), (.string _), (.string _)].toArray 9 (0, 0))], [(_, .cells [(.string _), (.string _), (.string _), (.string _), (.string _)].toArray 9 (0, 0))]] rfl ?_
          refine s_ret ?_
          exact ⟨_, [], resv2 rfl (RV.cells rfl Try.isAgg52 Try.sizeOf52 rfl rfl (cels_own 0 rfl rfl)) (RV.tmp rfl), ⟨by unfold ofR; rw [if_neg (show ¬ (ckErr ks ≠ 0) from fun hh => hh c0)]; rw [if_neg (show ¬ (locate ks (⟨#[112, 108, 97, 99, 101]⟩ : ByteArray) [(⟨#[120]⟩ : ByteArray), (⟨#[121]⟩ : ByteArray), (⟨#[97, 110, 103]⟩ : ByteArray)]).2 = false from by rw [← f0, if8 q0]; decide)]; rw [if_neg (show ¬ (locate ks (⟨#[109, 111, 116, 105, 111, 110]⟩ : ByteArray) [(⟨#[118, 120]⟩ : ByteArray), (⟨#[118, 121]⟩ : ByteArray), (⟨#[115, 112, 105, 110]⟩ : ByteArray), (⟨#[99, 97, 108, 109]⟩ : ByteArray)]).2 = false from by rw [← f1, if8 q1]; decide)]; rw [if_neg (show ¬ (locate ks (⟨#[115, 104, 97, 112, 101]⟩ : ByteArray) [(⟨#[119]⟩ : ByteArray), (⟨#[104]⟩ : ByteArray), (⟨#[109, 97, 115, 115]⟩ : ByteArray), (⟨#[98, 111, 117, 110, 99, 101]⟩ : ByteArray), (⟨#[114, 117, 98]⟩ : ByteArray)]).2 = false from by rw [← f2, if8 q2]; decide)]; rw [← e0, ← e1, ← e2]; rfl, rfl⟩, sub_picks [] rfl⟩

theorem mapFault_k0 (w : World) : (Instr.build 52 ([] : List (Nat × Value)).toArray).run Try.prog w = .ok (.agg #[.int .i64 0, .int .i64 0, .int .i64 0]) w := by kernel_rfl
theorem mapFault_k1 (v0 : Int) (v1 : Int) (v2 : Int) (w : World) : (Instr.build 52 ([(0, (.int .i64 v0)), (1, (.int .i64 v1)), (2, (.int .i64 v2))] : List (Nat × Value)).toArray).run Try.prog w = .ok (.agg #[.int .i64 v0, .int .i64 v1, .int .i64 v2]) w := by kernel_rfl
theorem mapFault_c {V : Mem} (A : Option Addr) (n c : Nat) (ks : List KR) (h : Cels V [] A (ks.flatMap encK)) (hn : ks.length = n) (hc : n ≤ c) (hb : n ≤ 140737488355328) (hK : ∀ k ∈ ks, KOK V k) : CallS Try.prog 26 [.slice A n c].toArray V [] (fun r L' => r = .tuple #[agM (ofR ks).1, .int .i64 (ofR ks).2] ∧ L' = []) := by
  refine callS Try.func26 rfl rfl (fun w0 => ?_)
  refine s_seq ?_
  refine s_region ?_
  refine o_alloc rfl Try.zeroValue52 rfl (fun b1 => ?_)
  refine o_val rfl rfl rfl (y_assign (v := (.int _ _)) rfl) ?_
  refine o_nil ?_
  refine s_seq ?_
  refine s_seq ?_
  refine s_region ?_
  refine o_val rfl rfl rfl (y_move (v := (.slice _ _ _)) rfl) ?_
  refine o_fn 0 (d := 8) rfl Try.call70 (CheckK_c _ _ _ ks h.here.down hn hc hb (fun k hk => (hK k hk).lift)) rfl ?_
  rintro _ _ ⟨rfl, rfl⟩
  refine o_val rfl rfl rfl (y_assign (v := (.int _ _)) rfl) ?_
  refine o_nil ?_
  refine s_seq ?_
  refine s_region ?_
  refine o_val rfl rfl rfl (y_move (v := (.int _ _)) rfl) ?_
  refine o_val rfl rfl rfl (y_neq rfl rfl) ?_
  refine o_nil ?_
  refine s_if rfl (fun h2 => ?_) (fun h3 => ?_)
  · have c0 := h2
    refine s_seq ?_
    refine s_region ?_
    refine o_val rfl rfl rfl (y_build (vs := []) rfl (mapFault_k0)) ?_
    refine o_val rfl rfl rfl (y_move (v := (.int _ _)) rfl) ?_
    refine o_stores (vs := [(.int _ _), (.int _ _), (.int _ _)]) 0 rfl Try.sizeOf52 rfl rfl rfl (by simp [Value.oneCell']) (by simp) ?_
    refine o_val rfl rfl rfl (y_assign (v := (.int _ _)) rfl) ?_
    refine o_nil ?_
    refine s_ret ?_
    exact ⟨_, [], resv2 rfl (RV.cells rfl Try.isAgg52 Try.sizeOf52 rfl rfl (cels_own 0 rfl rfl)) (RV.tmp rfl), ⟨by unfold ofR; rw [if_pos (show ckErr ks ≠ 0 from c0)]; rfl, rfl⟩, sub_picks [] rfl⟩
  · have c0 := Decidable.not_not.1 h3
    refine s_skip ?_
    refine s_seq ?_
    refine s_region ?_
    refine o_val rfl rfl rfl (y_move (v := (.slice _ _ _)) rfl) ?_
    refine o_fn 0 (d := 15) rfl Try.call72 (Special_c _ _ _ ks h.here.down hn hc hb (fun k hk => (hK k hk).lift)) rfl ?_
    rintro _ _ ⟨k0, k1, k2, k3, k4, o0, o1, o2, o3, o4, rfl, hs0, hs1, hs2, hs3, hs4, rfl⟩
    refine o_val rfl rfl rfl (y_move (v := (.tuple #[(.agg #[(.int _ _), (.int _ _), (.int _ _), (.int _ _), (.int _ _)]), (.agg #[(.bool _), (.bool _), (.bool _), (.bool _), (.bool _)])])) rfl) ?_
    refine o_val rfl rfl rfl (y_extract (v := (.agg #[(.int _ _), (.int _ _), (.int _ _), (.int _ _), (.int _ _)])) rfl rfl) ?_
    refine o_val rfl rfl rfl (y_extract (v := (.agg #[(.bool _), (.bool _), (.bool _), (.bool _), (.bool _)])) rfl rfl) ?_
    refine o_alloc rfl Try.zeroValue137 rfl (fun b4 => ?_)
    refine o_alloc rfl Try.zeroValue138 rfl (fun b5 => ?_)
    refine o_stores (vs := [(.int _ _), (.int _ _), (.int _ _), (.int _ _), (.int _ _)]) 1 rfl Try.sizeOf137 rfl rfl rfl (by simp [Value.oneCell']) (by simp) ?_
    refine o_stores (vs := [(.bool _), (.bool _), (.bool _), (.bool _), (.bool _)]) 2 rfl Try.sizeOf138 rfl rfl rfl (by simp [Value.oneCell']) (by simp) ?_
    refine o_nil ?_
    refine s_norm [[(_, .cells [(.int _ _), (.int _ _), (.int _ _)].toArray 52 (0, 0))], [(_, .cells [(.int _ _), (.int _ _), (.int _ _), (.int _ _), (.int _ _)].toArray 137 (0, 0))], [(_, .cells [(.bool _), (.bool _), (.bool _), (.bool _), (.bool _)].toArray 138 (0, 0))]] rfl ?_
    refine s_seq ?_
    refine s_seq ?_
    refine s_region ?_
    refine o_val rfl rfl rfl (y_index_lit (q := 0) Try.runUnderlying138 Try.sizeOf4 rfl rfl rfl rfl) ?_
    refine o_splitb rfl rfl rfl (y_load Try.isAgg4 rfl (cel_own 2 rfl rfl)) (fun p6 => ?_) (fun p7 => ?_)
    · refine o_val rfl rfl rfl (y_notb rfl) ?_
      refine o_val rfl rfl rfl (y_move (v := (.bool _)) rfl) ?_
      refine o_guard_yes rfl rfl ?_
      refine o_val rfl rfl rfl (y_index_lit (q := 1) Try.runUnderlying138 Try.sizeOf4 rfl rfl rfl rfl) ?_
      refine o_guard_yes rfl rfl ?_
      refine o_splitb rfl rfl rfl (y_load Try.isAgg4 rfl (cel_own 2 rfl rfl)) (fun p8 => ?_) (fun p9 => ?_)
      · refine o_guard_yes rfl rfl ?_
        refine o_val rfl rfl rfl (y_notb rfl) ?_
        refine o_val rfl rfl rfl (y_pick_f (v := (.bool _)) rfl rfl) ?_
        refine o_val rfl rfl rfl (y_move (v := (.bool _)) rfl) ?_
        refine o_guard_yes rfl rfl ?_
        refine o_val rfl rfl rfl (y_index_lit (q := 2) Try.runUnderlying138 Try.sizeOf4 rfl rfl rfl rfl) ?_
        refine o_guard_yes rfl rfl ?_
        refine o_splitb rfl rfl rfl (y_load Try.isAgg4 rfl (cel_own 2 rfl rfl)) (fun p10 => ?_) (fun p11 => ?_)
        · refine o_guard_yes rfl rfl ?_
          refine o_val rfl rfl rfl (y_notb rfl) ?_
          refine o_val rfl rfl rfl (y_pick_f (v := (.bool _)) rfl rfl) ?_
          refine o_nil ?_
          refine s_forget [(2, (.pointer _)), (3, (.int _ _)), (5, (.pointer _)), (30, (.bool _))] ⟨rfl, rfl, rfl, rfl, trivial⟩ (fun _f => ?_)
          refine s_else rfl ?_
          refine s_skip ?_
          refine s_seq ?_
          refine s_region ?_
          refine o_val rfl rfl rfl (y_index_lit (q := 0) Try.runUnderlying137 Try.sizeOf3 rfl rfl rfl rfl) ?_
          refine o_val rfl rfl rfl (y_load Try.isAgg3 rfl (cel_own 1 rfl rfl)) ?_
          refine o_val rfl rfl rfl (y_index_lit (q := 1) Try.runUnderlying137 Try.sizeOf3 rfl rfl rfl rfl) ?_
          refine o_val rfl rfl rfl (y_load Try.isAgg3 rfl (cel_own 1 rfl rfl)) ?_
          refine o_val rfl rfl rfl (y_index_lit (q := 2) Try.runUnderlying137 Try.sizeOf3 rfl rfl rfl rfl) ?_
          refine o_val rfl rfl rfl (y_load Try.isAgg3 rfl (cel_own 1 rfl rfl)) ?_
          refine o_val rfl rfl rfl (y_build (vs := [(0, .int _ _), (1, .int _ _), (2, .int _ _)]) rfl (mapFault_k1 _ _ _)) ?_
          refine o_stores (vs := [(.int _ _), (.int _ _), (.int _ _)]) 0 rfl Try.sizeOf52 rfl rfl rfl (by simp [Value.oneCell']) (by simp) ?_
          refine o_val rfl rfl rfl (y_assign (v := (.int _ _)) rfl) ?_
          refine o_nil ?_
          refine s_ret ?_
          exact ⟨_, [], resv2 rfl (RV.cells rfl Try.isAgg52 Try.sizeOf52 rfl rfl (cels_own 0 rfl rfl)) (RV.tmp rfl), ⟨by unfold ofR; rw [if_neg (show ¬ (ckErr ks ≠ 0) from fun hh => hh c0)]; rw [if_neg (show ¬ (locate ks (⟨#[112, 108, 97, 99, 101]⟩ : ByteArray) [(⟨#[120]⟩ : ByteArray), (⟨#[121]⟩ : ByteArray), (⟨#[97, 110, 103]⟩ : ByteArray)]).2 = false from by rw [← hs0.eq.1]; cases o0 <;> simp_all)]; rw [if_neg (show ¬ (locate ks (⟨#[109, 111, 116, 105, 111, 110]⟩ : ByteArray) [(⟨#[118, 120]⟩ : ByteArray), (⟨#[118, 121]⟩ : ByteArray), (⟨#[115, 112, 105, 110]⟩ : ByteArray), (⟨#[99, 97, 108, 109]⟩ : ByteArray)]).2 = false from by rw [← hs1.eq.1]; cases o1 <;> simp_all)]; rw [if_neg (show ¬ (locate ks (⟨#[115, 104, 97, 112, 101]⟩ : ByteArray) [(⟨#[119]⟩ : ByteArray), (⟨#[104]⟩ : ByteArray), (⟨#[109, 97, 115, 115]⟩ : ByteArray), (⟨#[98, 111, 117, 110, 99, 101]⟩ : ByteArray), (⟨#[114, 117, 98]⟩ : ByteArray)]).2 = false from by rw [← hs2.eq.1]; cases o2 <;> simp_all)]; rw [← hs0.eq.2 (by cases o0 <;> simp_all), ← hs1.eq.2 (by cases o1 <;> simp_all), ← hs2.eq.2 (by cases o2 <;> simp_all)]; rfl, rfl⟩, sub_picks [] rfl⟩
        · refine o_guard_yes rfl rfl ?_
          refine o_val rfl rfl rfl (y_notb rfl) ?_
          refine o_val rfl rfl rfl (y_pick_f (v := (.bool _)) rfl rfl) ?_
          refine o_nil ?_
          refine s_forget [(2, (.pointer _)), (3, (.int _ _)), (5, (.pointer _)), (30, (.bool _))] ⟨rfl, rfl, rfl, rfl, trivial⟩ (fun _f => ?_)
          refine s_then rfl ?_
          refine s_seq ?_
          refine s_region ?_
          refine o_val rfl rfl rfl (y_build (vs := []) rfl (mapFault_k0)) ?_
          refine o_stores (vs := [(.int _ _), (.int _ _), (.int _ _)]) 0 rfl Try.sizeOf52 rfl rfl rfl (by simp [Value.oneCell']) (by simp) ?_
          refine o_val rfl rfl rfl (y_assign (v := (.int _ _)) rfl) ?_
          refine o_nil ?_
          refine s_ret ?_
          exact ⟨_, [], resv2 rfl (RV.cells rfl Try.isAgg52 Try.sizeOf52 rfl rfl (cels_own 0 rfl rfl)) (RV.tmp rfl), ⟨by unfold ofR; rw [if_neg (show ¬ (ckErr ks ≠ 0) from fun hh => hh c0)]; rw [if_neg (show ¬ (locate ks (⟨#[112, 108, 97, 99, 101]⟩ : ByteArray) [(⟨#[120]⟩ : ByteArray), (⟨#[121]⟩ : ByteArray), (⟨#[97, 110, 103]⟩ : ByteArray)]).2 = false from by rw [← hs0.eq.1]; cases o0 <;> simp_all)]; rw [if_neg (show ¬ (locate ks (⟨#[109, 111, 116, 105, 111, 110]⟩ : ByteArray) [(⟨#[118, 120]⟩ : ByteArray), (⟨#[118, 121]⟩ : ByteArray), (⟨#[115, 112, 105, 110]⟩ : ByteArray), (⟨#[99, 97, 108, 109]⟩ : ByteArray)]).2 = false from by rw [← hs1.eq.1]; cases o1 <;> simp_all)]; rw [if_pos (show (locate ks (⟨#[115, 104, 97, 112, 101]⟩ : ByteArray) [(⟨#[119]⟩ : ByteArray), (⟨#[104]⟩ : ByteArray), (⟨#[109, 97, 115, 115]⟩ : ByteArray), (⟨#[98, 111, 117, 110, 99, 101]⟩ : ByteArray), (⟨#[114, 117, 98]⟩ : ByteArray)]).2 = false from by rw [← hs2.eq.1]; cases o2 <;> simp_all)]; rfl, rfl⟩, sub_picks [] rfl⟩
      · refine o_guard_yes rfl rfl ?_
        refine o_val rfl rfl rfl (y_notb rfl) ?_
        refine o_val rfl rfl rfl (y_pick_f (v := (.bool _)) rfl rfl) ?_
        refine o_val rfl rfl rfl (y_move (v := (.bool _)) rfl) ?_
        refine o_guard_no rfl rfl rfl rfl rfl ?_
        refine o_guard_no rfl rfl rfl rfl rfl ?_
        refine o_guard_no rfl rfl rfl rfl rfl ?_
        refine o_val rfl rfl rfl (y_pick_t (v := (.bool _)) rfl rfl) ?_
        refine o_nil ?_
        refine s_forget [(2, (.pointer _)), (3, (.int _ _)), (5, (.pointer _)), (30, (.bool _))] ⟨rfl, rfl, rfl, rfl, trivial⟩ (fun _f => ?_)
        refine s_then rfl ?_
        refine s_seq ?_
        refine s_region ?_
        refine o_val rfl rfl rfl (y_build (vs := []) rfl (mapFault_k0)) ?_
        refine o_stores (vs := [(.int _ _), (.int _ _), (.int _ _)]) 0 rfl Try.sizeOf52 rfl rfl rfl (by simp [Value.oneCell']) (by simp) ?_
        refine o_val rfl rfl rfl (y_assign (v := (.int _ _)) rfl) ?_
        refine o_nil ?_
        refine s_ret ?_
        exact ⟨_, [], resv2 rfl (RV.cells rfl Try.isAgg52 Try.sizeOf52 rfl rfl (cels_own 0 rfl rfl)) (RV.tmp rfl), ⟨by unfold ofR; rw [if_neg (show ¬ (ckErr ks ≠ 0) from fun hh => hh c0)]; rw [if_neg (show ¬ (locate ks (⟨#[112, 108, 97, 99, 101]⟩ : ByteArray) [(⟨#[120]⟩ : ByteArray), (⟨#[121]⟩ : ByteArray), (⟨#[97, 110, 103]⟩ : ByteArray)]).2 = false from by rw [← hs0.eq.1]; cases o0 <;> simp_all)]; rw [if_pos (show (locate ks (⟨#[109, 111, 116, 105, 111, 110]⟩ : ByteArray) [(⟨#[118, 120]⟩ : ByteArray), (⟨#[118, 121]⟩ : ByteArray), (⟨#[115, 112, 105, 110]⟩ : ByteArray), (⟨#[99, 97, 108, 109]⟩ : ByteArray)]).2 = false from by rw [← hs1.eq.1]; cases o1 <;> simp_all)]; rfl, rfl⟩, sub_picks [] rfl⟩
    · refine o_val rfl rfl rfl (y_notb rfl) ?_
      refine o_val rfl rfl rfl (y_move (v := (.bool _)) rfl) ?_
      refine o_guard_no rfl rfl rfl rfl rfl ?_
      refine o_guard_no rfl rfl rfl rfl rfl ?_
      refine o_guard_no rfl rfl rfl rfl rfl ?_
      refine o_val rfl rfl rfl (y_pick_t (v := (.bool _)) rfl rfl) ?_
      refine o_val rfl rfl rfl (y_move (v := (.bool _)) rfl) ?_
      refine o_guard_no rfl rfl rfl rfl rfl ?_
      refine o_guard_no rfl rfl rfl rfl rfl ?_
      refine o_guard_no rfl rfl rfl rfl rfl ?_
      refine o_val rfl rfl rfl (y_pick_t (v := (.bool _)) rfl rfl) ?_
      refine o_nil ?_
      refine s_forget [(2, (.pointer _)), (3, (.int _ _)), (5, (.pointer _)), (30, (.bool _))] ⟨rfl, rfl, rfl, rfl, trivial⟩ (fun _f => ?_)
      refine s_then rfl ?_
      refine s_seq ?_
      refine s_region ?_
      refine o_val rfl rfl rfl (y_build (vs := []) rfl (mapFault_k0)) ?_
      refine o_stores (vs := [(.int _ _), (.int _ _), (.int _ _)]) 0 rfl Try.sizeOf52 rfl rfl rfl (by simp [Value.oneCell']) (by simp) ?_
      refine o_val rfl rfl rfl (y_assign (v := (.int _ _)) rfl) ?_
      refine o_nil ?_
      refine s_ret ?_
      exact ⟨_, [], resv2 rfl (RV.cells rfl Try.isAgg52 Try.sizeOf52 rfl rfl (cels_own 0 rfl rfl)) (RV.tmp rfl), ⟨by unfold ofR; rw [if_neg (show ¬ (ckErr ks ≠ 0) from fun hh => hh c0)]; rw [if_pos (show (locate ks (⟨#[112, 108, 97, 99, 101]⟩ : ByteArray) [(⟨#[120]⟩ : ByteArray), (⟨#[121]⟩ : ByteArray), (⟨#[97, 110, 103]⟩ : ByteArray)]).2 = false from by rw [← hs0.eq.1]; cases o0 <;> simp_all)]; rfl, rfl⟩, sub_picks [] rfl⟩

end Go.Proofs.Ytdgmocibjjkghaa.K

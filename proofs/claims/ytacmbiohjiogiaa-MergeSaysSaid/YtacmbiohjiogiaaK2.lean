/- What each operation of the walks yields in a symbolic state. No condition. -/
import Derived.Test.YtacmbiohjiogiaaK1
import Derived.IntWalk
import Derived.Laws.StructEq
import Derived.Laws.Cells
import Derived.Laws.Append
import Derived.Laws.AppendOwn
import Derived.Laws.MakeOwn
import Derived.WalkSpells
namespace Go.Proofs.Ytacmbiohjiogiaa.K
open Go.RowKit

def nth {α : Type} : List α → Nat → Option α
 | [], _ => none
 | x :: _, 0 => some x
 | _ :: l, n + 1 => nth l n
theorem nth_eq {α : Type} : ∀ (l : List α) (n : Nat), nth l n = l[n]?
 | [], _ => rfl
 | _ :: _, 0 => rfl
 | _ :: l, n + 1 => by rw [nth, nth_eq l n]; rfl

/-- Of every kind the numbers that it holds. -/
def inK : IntKind → Int → Prop
 | .i8, n => -128 ≤ n ∧ n ≤ 127
 | .i16, n => -32768 ≤ n ∧ n ≤ 32767
 | .i32, n => -2147483648 ≤ n ∧ n ≤ 2147483647
 | .i64, n => -9223372036854775808 ≤ n ∧ n ≤ 9223372036854775807
 | .u8, n => 0 ≤ n ∧ n ≤ 255
 | .u16, n => 0 ≤ n ∧ n ≤ 65535
 | .u32, n => 0 ≤ n ∧ n ≤ 4294967295
 | .u64, n => 0 ≤ n ∧ n ≤ 18446744073709551615
theorem wrap_in {k : IntKind} {n : Int} (h : inK k n) : k.wrap n = n := by
 cases k
 ·exact IntWalk.i8_in n h
 ·exact IntWalk.i16_in n h
 ·exact IntWalk.i32_in n h
 ·exact IntWalk.i64_in n h
 ·exact IntWalk.u8_in n h
 ·exact IntWalk.u16_in n h
 ·exact IntWalk.u32_in n h
 ·exact IntWalk.u64_in n h
section
variable {P : Program} {f : Frm} {V : Mem} {L : List Grp} {d : Option Tmp} {ty : TypeId} {ps : String} {af : Array Edge} {g : Option (Nat × Bool)} {x y c : Operand} {v v' : Value}

theorem Yld.of_eq {o : Oper} (h : Yld P f V L o v) (e : v = v') : Yld P f V L o v' := e ▸ h
theorem Yld.tt {o : Oper} {p : Prop} [Decidable p] (h : Yld P f V L o (.bool (decide p))) (hp : p) : Yld P f V L o (.bool true) := h.of_eq (by rw [decide_eq_true hp])
theorem Yld.ff {o : Oper} {p : Prop} [Decidable p] (h : Yld P f V L o (.bool (decide p))) (hp : ¬ p) : Yld P f V L o (.bool false) := h.of_eq (by rw [decide_eq_false hp])
theorem Yld.int {o : Oper} {k : IntKind} {n n' : Int} (h : Yld P f V L o (.int k n)) (e : n = n') : Yld P f V L o (.int k n') := e ▸ h

theorem y_move (hx : evF f x = v) : Yld P f V L ⟨d, .move x, ty, ps, af, g⟩ v := fun _ w _ => by show Result.ok (Next.value (evF f x)) w = _; rw [hx]
theorem y_assign (hx : evF f x = v) : Yld P f V L ⟨d, .assign x, ty, ps, af, g⟩ v := fun _ w _ => by show Result.ok (Next.value (evF f x)) w = _; rw [hx]
theorem y_pick {b : Bool} (hc : evF f c = .bool b) (hx : evF f x = v) (hy : evF f y = v') : Yld P f V L ⟨d, .pick c x y, ty, ps, af, g⟩ (if b then v else v') := fun _ w _ => by
 simp only [execOp, hc, hx, hy, asBool]
 rfl
theorem y_pick_t (hc : evF f c = .bool true) (hx : evF f x = v) : Yld P f V L ⟨d, .pick c x y, ty, ps, af, g⟩ v := y_pick (v' := evF f y) hc hx rfl
theorem y_pick_f (hc : evF f c = .bool false) (hy : evF f y = v) : Yld P f V L ⟨d, .pick c x y, ty, ps, af, g⟩ v := y_pick (v := evF f x) hc rfl hy
theorem y_nilCheck {a : Addr} (hx : evF f x = .pointer (some a)) : Yld P f V L ⟨d, .nilCheck x, ty, ps, af, g⟩ (.pointer (some a)) := fun _ w _ => by
 simp only [execOp, hx]
 rfl
theorem y_extract {i : Nat} {vs : Array Value} (hx : evF f x = .tuple vs) (hv : vs[i]? = some v) : Yld P f V L ⟨d, .extract x i, ty, ps, af, g⟩ v := fun _ w _ => by
 simp only [execOp, hx, Instr.extract, hv]
 rfl
theorem y_func {fn : Fn} {xs ys : Array Operand} {a b : Array Value} (ha : xs.map (evF f) = a) (hb : ys.map (evF f) = b) : Yld P f V L ⟨d, .makeFunc fn xs ys, ty, ps, af, g⟩ (.func fn a b) := fun _ w _ => by
 simp only [execOp, Instr.makeFunc, ha, hb]
 rfl

/-! ### integers -/
section
variable {k : IntKind} {a b : Int} {xt yt : TypeId}
theorem eqGuard_int (op : BinOp) (t : TypeId) (x y : Operand) (k k' : IntKind) (a b : Int) (w : World) : (eqGuard op t x y (.int k a) (.int k' b)).run P w = .ok () w := by
 unfold eqGuard; split <;> rfl
theorem run_bin {op : BinOp} {r : Value} (hx : evF f x = .int k a) (hy : evF f y = .int k b) (hr : ∀ w, (binOp op xt (.int k a) (.int k b)).run P w = .ok r w) : Yld P f V L ⟨d, .binOp op xt x y yt, ty, ps, af, g⟩ r := fun _ w _ => by
 simp only [execOp, hx, hy, Sem.run_bind, eqGuard_int, Result.andThen_ok, hr]
 rfl
theorem y_add' (hx : evF f x = .int k a) (hy : evF f y = .int k b) : Yld P f V L ⟨d, .binOp .add xt x y yt, ty, ps, af, g⟩ (.int k (k.wrap (a + b))) := run_bin hx hy fun w => by simp [binOp, Op.intArith]
theorem y_sub' (hx : evF f x = .int k a) (hy : evF f y = .int k b) : Yld P f V L ⟨d, .binOp .sub xt x y yt, ty, ps, af, g⟩ (.int k (k.wrap (a - b))) := run_bin hx hy fun w => by simp [binOp, Op.intArith]
theorem y_add (hx : evF f x = .int k a) (hy : evF f y = .int k b) (h : inK k (a + b)) : Yld P f V L ⟨d, .binOp .add xt x y yt, ty, ps, af, g⟩ (.int k (a + b)) := (y_add' hx hy).int (wrap_in h)
theorem y_sub (hx : evF f x = .int k a) (hy : evF f y = .int k b) (h : inK k (a - b)) : Yld P f V L ⟨d, .binOp .sub xt x y yt, ty, ps, af, g⟩ (.int k (a - b)) := (y_sub' hx hy).int (wrap_in h)
theorem y_rem' (hx : evF f x = .int k a) (hy : evF f y = .int k b) (h : b ≠ 0) : Yld P f V L ⟨d, .binOp .rem xt x y yt, ty, ps, af, g⟩ (.int k (a.tmod b)) := run_bin hx hy fun w => by simp [binOp, Op.intDiv, h]
def bAnd (k : IntKind) (a b : Int) : Int := k.wrap (BitVec.ofInt k.bits a &&& BitVec.ofInt k.bits b).toNat
theorem y_and (hx : evF f x = .int k a) (hy : evF f y = .int k b) : Yld P f V L ⟨d, .binOp .and xt x y yt, ty, ps, af, g⟩ (.int k (bAnd k a b)) := run_bin hx hy fun w => by simp [binOp, Op.intBits, bAnd]
theorem y_lss (hx : evF f x = .int k a) (hy : evF f y = .int k b) : Yld P f V L ⟨d, .binOp .lss xt x y yt, ty, ps, af, g⟩ (.bool (decide (a < b))) := run_bin hx hy fun w => by simp [binOp, Op.intCmp]
theorem y_leq (hx : evF f x = .int k a) (hy : evF f y = .int k b) : Yld P f V L ⟨d, .binOp .leq xt x y yt, ty, ps, af, g⟩ (.bool (decide (a ≤ b))) := run_bin hx hy fun w => by simp [binOp, Op.intCmp]
theorem y_gtr (hx : evF f x = .int k a) (hy : evF f y = .int k b) : Yld P f V L ⟨d, .binOp .gtr xt x y yt, ty, ps, af, g⟩ (.bool (decide (b < a))) := run_bin hx hy fun w => by simp [binOp, Op.intCmp]
theorem y_geq (hx : evF f x = .int k a) (hy : evF f y = .int k b) : Yld P f V L ⟨d, .binOp .geq xt x y yt, ty, ps, af, g⟩ (.bool (decide (b ≤ a))) := run_bin hx hy fun w => by simp [binOp, Op.intCmp]
theorem y_eql (hx : evF f x = .int k a) (hy : evF f y = .int k b) : Yld P f V L ⟨d, .binOp .eql xt x y yt, ty, ps, af, g⟩ (.bool (decide (a = b))) := run_bin hx hy fun w => by
 simp only [binOp, Op.intCmp, ne_eq, not_true_eq_false, if_false, Sem.run_pure]; rw [show (a == b) = decide (a = b) from rfl]
theorem y_neq (hx : evF f x = .int k a) (hy : evF f y = .int k b) : Yld P f V L ⟨d, .binOp .neq xt x y yt, ty, ps, af, g⟩ (.bool (decide (a ≠ b))) := run_bin hx hy fun w => by
 simp only [binOp, Op.intCmp, ne_eq, not_true_eq_false, if_false, Sem.run_pure]
 congr 2
 by_cases h : a = b <;> simp [h]
theorem run_shift {op : BinOp} {k' : IntKind} (h0 : op = .shl ∨ op = .shr) {r : Int} (hx : evF f x = .int k a) (hy : evF f y = .int k' b) (hr : ∀ w, (Op.shift op k a k' b).run P w = .ok (.int k r) w) : Yld P f V L ⟨d, .binOp op xt x y yt, ty, ps, af, g⟩ (.int k r) := fun _ w _ => by
 have e : binOp op xt (.int k a) (.int k' b) = Op.shift op k a k' b := by rcases h0 with rfl | rfl <;> rfl
 simp only [execOp, hx, hy, Sem.run_bind, eqGuard_int, Result.andThen_ok, e, hr]
 rfl
theorem y_shl {k' : IntKind} (hx : evF f x = .int k a) (hy : evF f y = .int k' b) (h : 0 ≤ b) : Yld P f V L ⟨d, .binOp .shl xt x y yt, ty, ps, af, g⟩ (.int k (k.wrap (a * 2 ^ (min b.toNat k.bits)))) := run_shift (.inl rfl) hx hy fun w => by
 simp only [Op.shift]; rw [if_neg (by omega)]; rfl
end

/-! ### bools and strings -/
theorem y_not {p : Prop} [Decidable p] {t : TypeId} (hx : evF f x = .bool (decide p)) : Yld P f V L ⟨d, .unOp .not t x, ty, ps, af, g⟩ (.bool (decide (¬ p))) := fun _ w _ => by
 simp only [execOp, hx, Op.unary]
 show Result.ok (Next.value (.bool (!decide p))) w = _
 congr 3; by_cases h : p <;> simp [h]
theorem y_notb {b : Bool} {t : TypeId} (hx : evF f x = .bool b) : Yld P f V L ⟨d, .unOp .not t x, ty, ps, af, g⟩ (.bool (!b)) := fun _ w _ => by
 simp only [execOp, hx, Op.unary]; rfl
section
variable {xt yt : TypeId} {a b : ByteArray}
theorem eqGuard_str (op : BinOp) (t : TypeId) (x y : Operand) (a b : ByteArray) (w : World) : (eqGuard op t x y (.string a) (.string b)).run P w = .ok () w := by
 unfold eqGuard; split <;> rfl
theorem bytes_beq (a b : ByteArray) : (a == b) = decide (a = b) := by
 obtain ⟨a⟩ := a; obtain ⟨b⟩ := b
 show (a == b) = _
 by_cases h : a = b <;> simp [h]
theorem y_eql_str (hx : evF f x = .string a) (hy : evF f y = .string b) : Yld P f V L ⟨d, .binOp .eql xt x y yt, ty, ps, af, g⟩ (.bool (decide (a = b))) := fun _ w _ => by
 simp only [execOp, hx, hy, Sem.run_bind, eqGuard_str, Result.andThen_ok, binOp, Op.stringOp, Sem.run_pure]; rw [← beq_toListBytes, bytes_beq]
theorem y_neq_str (hx : evF f x = .string a) (hy : evF f y = .string b) : Yld P f V L ⟨d, .binOp .neq xt x y yt, ty, ps, af, g⟩ (.bool (decide (a ≠ b))) := fun _ w _ => by
 simp only [execOp, hx, hy, Sem.run_bind, eqGuard_str, Result.andThen_ok, binOp, Op.stringOp, Sem.run_pure]; rw [← beq_toListBytes, bytes_beq]
 congr 3; by_cases h : a = b <;> simp [h]
end
def bt (s : ByteArray) (i : Nat) : Int := (s.data.toList.getD i 0).toNat
theorem y_strIndex {t : TypeId} {k : IntKind} {s : ByteArray} {i : Int} (ht : ∀ w, (underlying t).run P w = .ok .string w) (hx : evF f x = .string s) (hy : evF f y = .int k i) (h : 0 ≤ i ∧ i < s.size) : Yld P f V L ⟨d, .index t x y, ty, ps, af, g⟩ (.int .u8 (bt s i.toNat)) := fun _ w _ => by
 simp only [execOp, hx, hy, Instr.index, Sem.run_bind, asIntOf, Sem.run_pure, Result.andThen_ok, ht]; have hlt : i.toNat < s.size := by omega
 have e : (if 0 ≤ i then s[i.toNat]? else none) = some (s[i.toNat]'hlt) := by rw [if_pos h.1]; simp [hlt]
 rw [e]; simp only [Sem.run_pure, Result.andThen_ok]
 congr 3
 unfold bt; have : s.data.toList.getD i.toNat 0 = s[i.toNat]'hlt := by
  rw [List.getD_eq_getElem?_getD, Array.getElem?_toList, Array.getElem?_eq_getElem (by simpa using hlt)]; rfl
 rw [this]

/-! ### lengths -/
theorem run_builtin {b : Builtin} {xs : List Operand} {ts : Array TypeId} {r : Value} {vs : List Value} (hx : xs.map (evF f) = vs)
  (hr : ∀ w, (builtin b ts ty (xs.toArray.map fun | .const _ => true | _ => false) vs.toArray).run P w = .ok (.value r) w) : Yld P f V L ⟨d, .call { callee := .builtin b, args := xs.toArray, argTypes := ts }, ty, ps, af, g⟩ r := fun _ w _ => by
 have e : xs.toArray.map (evF f) = vs.toArray := by rw [List.map_toArray, hx]
 simp only [execOp, resolve, e, Sem.run_bind, Sem.run_pure, Result.andThen_ok, invoke]; exact hr w
theorem y_len {t : TypeId} {E : TypeId} {A : Option Addr} {n c : Nat} (ht : ∀ w, (underlying t).run P w = .ok (.slice E) w) (hx : evF f x = .slice A n c) : Yld P f V L ⟨d, .call { callee := .builtin .len, args := [x].toArray, argTypes := [t].toArray }, ty, ps, af, g⟩ (.int .i64 n) :=
 run_builtin (vs := [.slice A n c]) (by simp [hx]) fun w => by simp [builtin, Builtin.len_, ht, goInt]
theorem y_len_str {t : TypeId} {s : ByteArray} (ht : ∀ w, (underlying t).run P w = .ok .string w) (hx : evF f x = .string s) : Yld P f V L ⟨d, .call { callee := .builtin .len, args := [x].toArray, argTypes := [t].toArray }, ty, ps, af, g⟩ (.int .i64 s.size) :=
 run_builtin (vs := [.string s]) (by simp [hx]) fun w => by simp [builtin, Builtin.len_, ht, goInt]
theorem y_min {t u : TypeId} {k : IntKind} {a b : Int} (hx : evF f x = .int k a) (hy : evF f y = .int k b) : Yld P f V L ⟨d, .call { callee := .builtin .min, args := [x, y].toArray, argTypes := [t, u].toArray }, ty, ps, af, g⟩ (.int k (min a b)) :=
 run_builtin (vs := [.int k a, .int k b]) (by simp [hx, hy]) fun w => by
  simp only [builtin, Builtin.min_, List.foldlM, Builtin.min2, Sem.run_bind, Sem.run_pure, Result.andThen_ok]
  congr 3; split <;> omega
theorem y_max {t u : TypeId} {k : IntKind} {a b : Int} (hx : evF f x = .int k a) (hy : evF f y = .int k b) : Yld P f V L ⟨d, .call { callee := .builtin .max, args := [x, y].toArray, argTypes := [t, u].toArray }, ty, ps, af, g⟩ (.int k (max a b)) :=
 run_builtin (vs := [.int k a, .int k b]) (by simp [hx, hy]) fun w => by
  simp only [builtin, Builtin.max_, List.foldlM, Builtin.max2, Sem.run_bind, Sem.run_pure, Result.andThen_ok]
  congr 3; split <;> omega
theorem y_max3 {z : Operand} {t u s : TypeId} {k : IntKind} {a b e : Int} (hx : evF f x = .int k a) (hy : evF f y = .int k b) (hz : evF f z = .int k e) : Yld P f V L ⟨d, .call { callee := .builtin .max, args := [x, y, z].toArray, argTypes := [t, u, s].toArray }, ty, ps, af, g⟩ (.int k (max (max a b) e)) :=
 run_builtin (vs := [.int k a, .int k b, .int k e]) (by simp [hx, hy, hz]) fun w => by
  simp only [builtin, Builtin.max_, List.foldlM, Builtin.max2, Sem.run_bind, Sem.run_pure, Result.andThen_ok]
  congr 3; split <;> split <;> omega

/-! ### addresses -/
/-- The k-th cell behind an address that may be none. -/
def idx (A : Option Addr) (k : Nat) : Option Addr := A.map fun a => a.add k
theorem add_plain (b off k : Nat) : (⟨b, off, none⟩ : Addr).add k = ⟨b, off + k, none⟩ := by
 unfold Addr.add; split
 ·subst_vars; rfl
 ·rfl
theorem add_add (a : Addr) (j k : Nat) : (a.add j).add k = a.add (j + k) := by
 unfold Addr.add
 by_cases hj : j = 0
 ·subst hj; simp
 ·by_cases hk : k = 0
  ·subst hk; simp [hj]
  ·simp [hj, hk]; omega
theorem idx_some (b off k : Nat) : idx (some ⟨b, off, none⟩) k = some ⟨b, off + k, none⟩ := by simp [idx, add_plain]
theorem idx_idx (A : Option Addr) (j k : Nat) : idx (idx A j) k = idx A (j + k) := by cases A <;> simp [idx, add_add]
theorem idx_zero (A : Option Addr) : idx A 0 = A := by cases A <;> simp [idx, Addr.add]

theorem y_fieldAddr {s i F : TypeId} {fs : Array Field} {fd : Field} {A : Option Addr} {n : Nat} (hs : ∀ w, (underlying s).run P w = .ok (.struct fs) w) (hf : fs[i]? = some fd) (hz : ∀ w, (sizeOf fd.type).run P w = .ok (n + 1) w) (hF : fd.offset = F)
  (hA : A.isSome = true) (hx : evF f x = .pointer A) : Yld P f V L ⟨d, .fieldAddr s x i, ty, ps, af, g⟩ (.pointer (idx A F)) := fun _ w _ => by
 obtain ⟨a, rfl⟩ := Option.isSome_iff_exists.1 hA; subst hF; simp only [execOp, hx, Instr.fieldAt, Sem.run_bind, hs, Result.andThen_ok, hf, Instr.sureAddr, Sem.run_pure, fieldPlace, hz]; rw [if_neg (by omega)]
 rfl
theorem y_field0 {s i F : TypeId} {fs : Array Field} {fd : Field} {b off n : Nat} (hs : ∀ w, (underlying s).run P w = .ok (.struct fs) w) (hf : fs[i]? = some fd) (hz : ∀ w, (sizeOf fd.type).run P w = .ok (n + 1) w) (hF : fd.offset = F)
  (hx : evF f x = .pointer (some ⟨b, off, none⟩)) : Yld P f V L ⟨d, .fieldAddr s x i, ty, ps, af, g⟩ (.pointer (some ⟨b, off + F, none⟩)) :=
 (y_fieldAddr hs hf hz hF rfl hx).of_eq (by rw [idx_some])
theorem y_indexAddr {t E : TypeId} {k : IntKind} {A : Option Addr} {n c z : Nat} {i : Int} (ht : ∀ w, (underlying t).run P w = .ok (.slice E) w) (hz : ∀ w, (sizeOf E).run P w = .ok z w) (hA : A.isSome = true) (hx : evF f x = .slice A n c) (hy : evF f y = .int k i) (h : 0 ≤ i ∧ i < n) :
  Yld P f V L ⟨d, .indexAddr t x y, ty, ps, af, g⟩ (.pointer (idx A (i.toNat * z))) := fun _ w _ => by
 obtain ⟨a, rfl⟩ := Option.isSome_iff_exists.1 hA; simp only [execOp, hx, hy, Instr.indexAt, Sem.run_bind, asIntOf, Sem.run_pure, Result.andThen_ok, ht]; rw [if_pos h]; simp only [Sem.run_bind, hz, Result.andThen_ok, Sem.run_pure]
 rfl

/-! ### what is read -/
def Cel (V : Mem) (L : List Grp) (A : Option Addr) (v : Value) : Prop :=
 ∃ a arr T fr, A = some a ∧ a.spot = none ∧ ext V L a.block (.cells arr T fr) ∧ arr[a.off]? = some v
def Cels (V : Mem) (L : List Grp) (A : Option Addr) (cs : List Value) : Prop := ∀ i c, cs[i]? = some c → Cel V L (idx A i) c

theorem Cel.cell {w0 w : World} {a : Addr} (h : Cel V L (some a) v) (hw : SH w0 V w L) : w.cell? a = some v := by
 obtain ⟨a', arr, T, fr, e, hs, hb, hc⟩ := h
 cases e
 unfold World.cell?; rw [hw.lt hb]; simp [hs, hc]
theorem Cel.some {A : Option Addr} (h : Cel V L A v) : A.isSome = true := by obtain ⟨a, _, _, _, rfl, _⟩ := h; rfl
theorem nth_mem {G : Grp} {j : Nat} {L : List Grp} (h : nth L j = some G) : ∀ e ∈ G, e ∈ L.flatten := by
 rw [nth_eq] at h; intro e he; exact List.mem_flatten.2 ⟨G, List.mem_of_getElem? h, he⟩
theorem cel_own (j : Nat) {b off : Nat} {l : List Value} {T : TypeId} {fr : Nat × Nat} (h : nth L j = some [(b, .cells l.toArray T fr)]) (hv : nth l off = some v) : Cel V L (some ⟨b, off, none⟩) v :=
 ⟨_, l.toArray, T, fr, rfl, rfl, .inr (nth_mem h _ (by simp)), by rw [nth_eq] at hv; simpa using hv⟩
theorem y_load {t : TypeId} {A : Option Addr} (ht : ∀ w, (isAgg t).run P w = .ok false w) (hx : evF f x = .pointer A) (hc : Cel V L A v) : Yld P f V L ⟨d, .load t x, ty, ps, af, g⟩ v := fun w0 w hw => by
 obtain ⟨a, rfl⟩ := Option.isSome_iff_exists.1 hc.some; simp only [execOp, hx, Instr.loadAt, Instr.sureAddr, loadVar, Sem.run_bind, Sem.run_pure, Result.andThen_ok, ht, Bool.false_eq_true, if_false, run_load, hc.cell hw]
theorem y_loads {t n : TypeId} {A : Option Addr} {cs : List Value} (ht : ∀ w, (isAgg t).run P w = .ok true w) (hz : ∀ w, (sizeOf t).run P w = .ok n w) (hn : cs.length = n) (hA : A.isSome = true) (hx : evF f x = .pointer A) (hc : Cels V L A cs) : Yld P f V L ⟨d, .load t x, ty, ps, af, g⟩ (.agg cs.toArray) := fun w0 w hw => by
 obtain ⟨a, rfl⟩ := Option.isSome_iff_exists.1 hA; have hr := run_loadCells_list (P := P) (w := w) a cs (fun j v hj => (hc j v hj).cell hw); simp only [execOp, hx, Instr.loadAt, Instr.sureAddr, loadVar, Sem.run_bind, Sem.run_pure, Result.andThen_ok, ht, if_true, hz]; rw [← hn, hr]
 rfl
theorem cels_own (j : Nat) {b off : Nat} {l cs : List Value} {T : TypeId} {fr : Nat × Nat} (h : nth L j = some [(b, .cells l.toArray T fr)]) (hv : (l.drop off).take cs.length = cs) : Cels V L (some ⟨b, off, none⟩) cs := by
 intro i c hi; rw [idx_some]; refine cel_own j h ?_; rw [nth_eq]; have hi' := hi; rw [← hv, List.getElem?_take] at hi'
 split at hi'
 ·rw [List.getElem?_drop] at hi'; exact hi'
 ·cases hi'
end

/-! ### memory that changes -/
theorem SH.alloc {w0 w : World} {V : Mem} {L : List Grp} (h : SH w0 V w L) (o : Obj) : SH w0 V { w with heap := w.heap.push o } (L ++ [[(w.heap.size, o)]]) := by
 have hlt : ∀ k o', w.heap[k]? = some o' → k < w.heap.size := fun k o' hk => (Array.getElem?_eq_some_iff.1 hk).1; have hold : ∀ k o', w.heap[k]? = some o' → (w.heap.push o)[k]? = some o' := fun k o' hk => by
  rw [Array.getElem?_push, if_neg (by have := hlt k o' hk; omega)]; exact hk
 refine ⟨h.os, h.tape, h.output, by simp; have := h.size; omega, fun k o' hk => hold k o' (h.imm k o' hk), ?_, ?_, ?_⟩
 ·intro e he; simp only [List.flatten_append, List.mem_append] at he; rcases he with he | he
  ·exact hold _ _ (h.own e he)
  ·simp at he; subst he; simp
 ·simp only [List.flatten_append, List.map_append]; rw [List.nodup_append]; refine ⟨h.nodup, by simp, ?_⟩; intro x hx y hy hxy; subst hxy; simp at hy; obtain ⟨e, he, rfl⟩ := List.mem_map.1 hx; have := hlt _ _ (h.own e he); omega
 ·intro e he o' ho; simp only [List.flatten_append, List.mem_append] at he; rcases he with he | he
  ·exact h.sep e he o' ho
  ·simp at he; subst he; have := hlt _ _ (h.imm _ _ ho); omega
def setG (L : List Grp) (j : Nat) (G : Grp) : List Grp :=
 match L, j with
 | [], _ => []
 | _ :: l, 0 => G :: l
 | x :: l, n + 1 => x :: setG l n G
theorem setG_split : ∀ {L : List Grp} {j : Nat} {G : Grp}, nth L j = some G → ∃ a b, L = a ++ G :: b ∧ ∀ H, setG L j H = a ++ H :: b
 | [], _, _, h => by simp [nth] at h
 | x :: l, 0, G, h => by simp [nth] at h; subst h; exact ⟨[], l, rfl, fun _ => rfl⟩
 | x :: l, n + 1, G, h => by
  obtain ⟨a, b, h1, h2⟩ := setG_split (L := l) (j := n) (G := G) h; exact ⟨x :: a, b, by rw [h1]; rfl, fun H => by show x :: setG l n H = _; rw [h2]; rfl⟩
/-- One block of the call's own is written. -/
theorem SH.put {w0 w w' : World} {V : Mem} {L : List Grp} (h : SH w0 V w L) {j b : Nat} {o o' : Obj} {r : Grp} (hj : nth L j = some ((b, o) :: r)) (ho : w'.os = w.os) (ht : w'.tape = w.tape) (hu : w'.output = w.output) (hsz : w'.heap.size = w.heap.size)
  (hb : w'.heap[b]? = some o') (hk : ∀ k, k ≠ b → w'.heap[k]? = w.heap[k]?) : SH w0 V w' (setG L j ((b, o') :: r)) := by
 obtain ⟨p, q, hL, hs⟩ := setG_split hj; rw [hs]; have hflat : L.flatten = p.flatten ++ ((b, o) :: (r ++ q.flatten)) := by rw [hL]; simp
 have hnd := h.nodup; rw [hflat, List.map_append, List.map_cons, List.nodup_append, List.nodup_cons] at hnd; obtain ⟨n1, ⟨n2, n3⟩, n4⟩ := hnd; have hmem : ∀ e, e ∈ L.flatten ↔ e ∈ p.flatten ∨ e = (b, o) ∨ e ∈ r ++ q.flatten := fun e => by rw [hflat]; simp [List.mem_append]
 have hflat' : (p ++ ((b, o') :: r) :: q).flatten = p.flatten ++ ((b, o') :: (r ++ q.flatten)) := by simp
 refine ⟨ho.trans h.os, ht.trans h.tape, hu.trans h.output, by rw [hsz]; exact h.size, ?_, ?_, ?_, ?_⟩
 ·intro k o1 hk1; rw [hk]
  ·exact h.imm k o1 hk1
  ·rintro rfl; exact h.sep (k, o) ((hmem _).2 (.inr (.inl rfl))) o1 hk1
 ·intro e he; rw [hflat'] at he; simp only [List.mem_append, List.mem_cons] at he; rcases he with he | rfl | he
  ·rw [hk]
   ·exact h.own e ((hmem _).2 (.inl he))
   ·exact fun e1 => n4 e.1 (List.mem_map_of_mem he) b (by simp) e1
  ·exact hb
  ·have he' : e ∈ r ++ q.flatten := List.mem_append.2 he; rw [hk]
   ·exact h.own e ((hmem _).2 (.inr (.inr he')))
   ·intro e1; have hm : e.1 ∈ (r ++ q.flatten).map (fun x : Ent => x.1) := List.mem_map_of_mem he'; rw [e1] at hm; exact n2 hm
 ·rw [hflat', List.map_append, List.map_cons, List.nodup_append, List.nodup_cons]; exact ⟨n1, ⟨n2, n3⟩, n4⟩
 ·intro e he o1 hV; rw [hflat'] at he; simp only [List.mem_append, List.mem_cons] at he; rcases he with he | rfl | he
  ·exact h.sep e ((hmem _).2 (.inl he)) o1 hV
  ·exact h.sep (b, o) ((hmem _).2 (.inr (.inl rfl))) o1 hV
  ·exact h.sep e ((hmem _).2 (.inr (.inr (by simpa using he)))) o1 hV
theorem SH.perm {w0 w : World} {V : Mem} {L L' : List Grp} (h : SH w0 V w L) (hs : L.flatten.Perm L'.flatten) : SH w0 V w L' :=
 ⟨h.os, h.tape, h.output, h.size, h.imm, fun e he => h.own e (hs.mem_iff.2 he), ((hs.map (·.1)).nodup_iff).1 h.nodup, fun e he => h.sep e (hs.mem_iff.2 he)⟩

section
variable {P : Program} {N : Nat} {w0 : World} {V : Mem} {Q : Exit → Frm → List Grp → Prop} {f : Frm} {L : List Grp} {ops : Array Oper} {rest : List Oper}
variable {d : Nat} {ty : TypeId} {ps : String} {af : Array Edge} {x y : Operand} {v : Value}

theorem o_alloc {t : TypeId} {l : List Value} {z : Value} (hN : Nat.blt d N = true) (hz : ∀ w, (zeroValue t).run P w = .ok z w) (hl : z.cells = l.toArray)
  (h : ∀ b, opsS P N w0 V ops Q rest (upd f d (.pointer (some ⟨b, 0, none⟩))) (L ++ [[(b, .cells l.toArray t (0, 0))]])) : opsS P N w0 V ops Q (⟨some d, .alloc t, ty, ps, af, none⟩ :: rest) f L := by
 refine o_effE (d := d) (fun v L' => ∃ b, v = .pointer (some ⟨b, 0, none⟩) ∧ L' = L ++ [[(b, .cells l.toArray t (0, 0))]]) rfl rfl hN (fun w hw => ?_) ?_
 ·refine ⟨.pointer (some ⟨w.heap.size, 0, none⟩), _, _, ?_, hw.alloc (.cells z.cells t), w.heap.size, rfl, by rw [hl]⟩; simp only [execOp, Instr.alloc, Sem.run_bind, hz, Result.andThen_ok, newVar, newRow, run_newObj, Sem.run_pure]
 ·rintro v L' ⟨b, rfl, rfl⟩; exact h b
theorem o_box {t : TypeId} {l : List Value} (hN : Nat.blt d N = true) (hx : evF f x = v) (hl : v.cells = l.toArray)
  (h : ∀ b, opsS P N w0 V ops Q rest (upd f d (.pointer (some ⟨b, 0, none⟩))) (L ++ [[(b, .cells l.toArray t (0, 0))]])) : opsS P N w0 V ops Q (⟨some d, .box t x, ty, ps, af, none⟩ :: rest) f L := by
 refine o_effE (d := d) (fun v L' => ∃ b, v = .pointer (some ⟨b, 0, none⟩) ∧ L' = L ++ [[(b, .cells l.toArray t (0, 0))]]) rfl rfl hN (fun w hw => ?_) ?_
 ·refine ⟨.pointer (some ⟨w.heap.size, 0, none⟩), _, _, ?_, hw.alloc (.cells v.cells t), w.heap.size, rfl, by rw [hl]⟩; simp only [execOp, hx, Instr.box, Sem.run_bind, Result.andThen_ok, newVar, newRow, run_newObj, Sem.run_pure]
 ·rintro v L' ⟨b, rfl, rfl⟩; exact h b

/-- A store of one cell into a block of the call's own, through an address that is written out. -/
theorem o_store {t T : TypeId} {b off : Nat} {l : List Value} {r : Grp} (j : Nat) (hj : nth L j = some ((b, .cells l.toArray T (0, 0)) :: r)) (hz : ∀ w, (sizeOf t).run P w = .ok 1 w) (hx : evF f x = .pointer (some ⟨b, off, none⟩)) (hy : evF f y = v) (hv : v.oneCell' = true) (ho : Nat.blt off l.length = true)
  (h : opsS P N w0 V ops Q rest f (setG L j ((b, .cells (l.set off v).toArray T (0, 0)) :: r))) : opsS P N w0 V ops Q (⟨none, .store t x y, ty, ps, af, none⟩ :: rest) f L := by
 have ho' : off < l.length := by simpa [Nat.blt_eq] using ho
 refine o_skip rfl rfl (fun w hw => ?_) h; have hb : w.heap[b]? = some (.cells l.toArray T (0, 0)) := hw.own (b, .cells l.toArray T (0, 0)) (nth_mem hj _ (by simp)); have hc : v.cells = #[v] := by cases v <;> simp_all [Value.oneCell', Value.cells]
 have hcell : w.cell? ⟨b, off, none⟩ = some l[off] := by rw [cell_of_row w b off _ T (0, 0) hb]; simp [ho']
 have hfr := frozen_of_row w b off _ T hb; refine ⟨w.setCell ⟨b, off, none⟩ v, ?_, hw.put (o' := .cells (l.set off v).toArray T (0, 0)) hj rfl rfl rfl (by simp [World.setCell]) ?_ ?_⟩
 ·simp only [execOp, hx, hy, Instr.storeAt, Instr.sureAddr, storeVar, Sem.run_bind, Sem.run_pure, Result.andThen_ok, hz, hc]; simp only [List.size_toArray, List.length_cons, List.length_nil, Nat.zero_add, ne_eq, not_true_eq_false, if_false, storeCells, Sem.run_bind]; rw [show (⟨b, off, none⟩ : Addr).add 0 = ⟨b, off, none⟩ from rfl, run_store _ _ _ _ _ hv, hcell, hfr]
  rfl
 ·rw [heap_setCell_same w b off _ T v hb]; simp
 ·exact fun k hk => heap_setCell_other w _ k v hk
end
end Go.Proofs.Ytacmbiohjiogiaa.K

/- Walks over the package input: frames of inputs packed into bits. No condition beyond what each statement names. -/
import Derived.Test.YtoigljcmpicgfaaProg
import Derived.Test.YtoigljcmpicgfaaK5
import Derived.Test.YtoigljcmpicgfaaB1
import Derived.Test.YtoigljcmpicgfaaI1
import Derived.Test.YtoigljcmpicgfaaI2
set_option linter.unusedVariables false
set_option linter.unusedSimpArgs false
set_option maxRecDepth 100000
namespace Go.Proofs.Ytoigljcmpicgfaa.K
open Go.RowKit

theorem Bytes_c (p : Nat) (A : Option Addr) (m c : Nat) (E : Grp) (bs : List Int) (k : Int) (hos : OS A m c 5 1 (bs.map (.int .u8)) E) (hb : m ≤ 140737488355328) (V : Mem) :
    CallS Try.prog 71 [.pointer (some ⟨p, 0, none⟩)].toArray V [wgrp p A m c k, E]
      (fun r L' => ∃ B e G, r = .slice B m e ∧ OS B m e 5 1 (bs.map (.int .u8)) G ∧ L' = [wgrp p A m c k, E, G]) := by
  refine callS Try.func71 rfl rfl (fun w0 => ?_)
  refine s_seq ?_
  refine s_region ?_
  refine o_val rfl rfl rfl (y_assign (v := (.slice _ _ _)) rfl) ?_
  refine o_nil ?_
  refine s_seq ?_
  refine s_region ?_
  refine o_val rfl rfl rfl (y_move (v := (.pointer _)) rfl) ?_
  refine o_val rfl rfl rfl (y_nilCheck rfl) ?_
  refine o_val rfl rfl rfl (y_field0 Try.runUnderlying153 rfl Try.sizeOf23 rfl rfl) ?_
  refine o_val rfl rfl rfl (y_load Try.isAgg23 rfl (cel_own 0 rfl rfl)) ?_
  refine o_newgroup ?_
  refine o_append (sz := 1) (bytes := 1) (news := _) 2 rfl Try.underlying23 Try.type5 rfl rfl rfl rfl rfl (OS.nil 5 1) rfl rfl (Src.own (sz := 0) Try.underlying23 (j := 1) rfl hos (one_int _ _)) (by omega) (fun A2 c3 E4 ho5 hn6 => ?_)
  have ho7 : OS A2 m c3 5 1 (bs.map (.int .u8)) E4 := by simpa using ho5
  clear ho5
  refine o_val rfl rfl rfl (y_assign (v := (.slice _ _ _)) rfl) ?_
  refine o_nil ?_
  refine s_ret ?_
  exact ⟨_, _, res1 rfl rfl, ⟨A2, c3, E4, congrArg (fun k => Value.slice A2 k c3) (Nat.zero_add m), ho7, rfl⟩, sub_front ⟨_, rfl⟩⟩

theorem frErr_01 (p : Int) (l : List Inp) : frErr p l = 0 ∨ frErr p l = 1 := by unfold frErr; split <;> simp
theorem frErr_nz {p : Int} {l : List Inp} (h : ¬ frErr p l = 0) : frErr p l = 1 := (frErr_01 p l).resolve_left h
theorem fr2_one {p q : Int} {l l' : List Inp} (h : ¬ (if frErr p l = 0 then frErr q l' else 1) = 0) : (if frErr p l = 0 then frErr q l' else 1) = 1 := by
  split at h
  · rename_i e; rw [if_pos e]; exact frErr_nz h
  · rename_i e; rw [if_neg e]
theorem frErr_z {p : Int} {l : List Inp} (h : frErr p l = 0) : okFr p l := by
  unfold frErr at h
  by_cases h' : okFr p l
  · exact h'
  · rw [if_neg h'] at h; cases h

/-- The bits of one input, relative to the one before. -/
def oneBits (y x : Inp) : List Bool :=
  if x = y then bitsOf 0 1 else bitsOf 1 1 ++ bitsOf (bXor .i64 x.k y.k) 8 ++
    (if x.x = y.x ∧ x.y = y.y then bitsOf 0 1 else bitsOf 1 1 ++ bitsOf (x.x + 128) 8 ++ bitsOf (x.y + 128) 8)
def packTo (b n : List Inp) (k : Nat) : List Bool := (List.range k).flatMap fun j => oneBits (b.getD j default) (n.getD j default)
theorem packTo_zero (b n : List Inp) : packTo b n 0 = [] := rfl
theorem packTo_succ (b n : List Inp) (k : Nat) : packTo b n (k + 1) = packTo b n k ++ oneBits (b.getD k default) (n.getD k default) := by simp [packTo, List.range_succ]
theorem oneBits_len (y x : Inp) : (oneBits y x).length ≤ 26 := by
  unfold oneBits; split
  · simp [bitsOf_len]
  · split <;> simp [bitsOf_len]
theorem packTo_len (b n : List Inp) : ∀ k, (packTo b n k).length ≤ 26 * k
  | 0 => by simp [packTo_zero]
  | k + 1 => by rw [packTo_succ, List.length_append]; have := packTo_len b n k; have := oneBits_len (b.getD k default) (n.getD k default); omega
theorem xor_bd {a b : Int} (ha : 0 ≤ a ∧ a ≤ 255) (hb : 0 ≤ b ∧ b ≤ 255) : 0 ≤ bXor .i64 a b ∧ bXor .i64 a b ≤ 255 := by
  unfold bXor
  have h1 := ofInt_toNat 64 a ha.1 (by omega)
  have h2 := ofInt_toNat 64 b hb.1 (by omega)
  have h3 : a.toNat ^^^ b.toNat < 2 ^ 8 := Nat.xor_lt_two_pow (by omega) (by omega)
  rw [show IntKind.i64.bits = 64 from rfl, BitVec.toNat_xor, h1, h2]
  rw [wrap_in (k := .i64) (by simp only [inK]; omega)]
  omega
theorem ok_k {i : Inp} (h : i.ok) : 0 ≤ i.k ∧ i.k ≤ 255 := ⟨h.1, h.2.1⟩
theorem ok_x {i : Inp} (h : i.ok) : -128 ≤ i.x ∧ i.x ≤ 127 := ⟨h.2.2.1, h.2.2.2.1⟩
theorem ok_y {i : Inp} (h : i.ok) : -128 ≤ i.y ∧ i.y ≤ 127 := ⟨h.2.2.2.2.1, h.2.2.2.2.2⟩
theorem pk_same {b n : List Inp} {k : Nat} (h : (n.getD k default).k = (b.getD k default).k ∧ (n.getD k default).x = (b.getD k default).x ∧ (n.getD k default).y = (b.getD k default).y) : packTo b n k ++ bitsOf 0 1 = packTo b n (k + 1) := by
  have e : n.getD k default = b.getD k default := by
    obtain ⟨h1, h2, h3⟩ := h
    generalize n.getD k default = u at *
    generalize b.getD k default = v at *
    cases u; cases v; simp_all
  rw [packTo_succ]; unfold oneBits; rw [if_pos e]
theorem pk_keys {b n : List Inp} {k : Nat} (h : ¬ ((n.getD k default).k = (b.getD k default).k ∧ (n.getD k default).x = (b.getD k default).x ∧ (n.getD k default).y = (b.getD k default).y)) (h1 : (n.getD k default).x = (b.getD k default).x) (h2 : (n.getD k default).y = (b.getD k default).y) :
    packTo b n k ++ bitsOf 1 1 ++ bitsOf (bXor .i64 (n.getD k default).k (b.getD k default).k) 8 ++ bitsOf 0 1 = packTo b n (k + 1) := by
  rw [packTo_succ]; unfold oneBits
  rw [if_neg (fun e => h (by rw [e]; exact ⟨rfl, rfl, rfl⟩)), if_pos ⟨h1, h2⟩]
  simp [List.append_assoc]
theorem pk_all {b n : List Inp} {k : Nat} (h : ¬ ((n.getD k default).k = (b.getD k default).k ∧ (n.getD k default).x = (b.getD k default).x ∧ (n.getD k default).y = (b.getD k default).y)) (h1 : ¬ ((n.getD k default).x = (b.getD k default).x ∧ (n.getD k default).y = (b.getD k default).y)) :
    packTo b n k ++ bitsOf 1 1 ++ bitsOf (bXor .i64 (n.getD k default).k (b.getD k default).k) 8 ++ bitsOf 1 1 ++ bitsOf ((n.getD k default).x + 128) 8 ++ bitsOf ((n.getD k default).y + 128) 8 = packTo b n (k + 1) := by
  rw [packTo_succ]; unfold oneBits
  rw [if_neg (fun e => h (by rw [e]; exact ⟨rfl, rfl, rfl⟩)), if_neg h1]
  simp [List.append_assoc]

end Go.Proofs.Ytoigljcmpicgfaa.K

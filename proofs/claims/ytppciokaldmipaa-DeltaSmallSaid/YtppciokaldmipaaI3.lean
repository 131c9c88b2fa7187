/- Walks over the package input: frames of inputs packed into bits. No condition beyond what each statement names. -/
import Derived.Test.YtppciokaldmipaaProg
import Derived.Test.YtppciokaldmipaaK5
import Derived.Test.YtppciokaldmipaaB1
import Derived.Test.YtppciokaldmipaaI1
import Derived.Test.YtppciokaldmipaaI2
set_option linter.unusedVariables false
set_option linter.unusedSimpArgs false
set_option maxRecDepth 100000
namespace Go.Proofs.Ytppciokaldmipaa.K
open Go.RowKit

theorem Bytes_c (p : Nat) (A : Option Addr) (m c : Nat) (E : Grp) (bs : List Int) (k : Int) (hos : OS A m c 5 1 (bs.map (.int .u8)) E) (hb : m ≤ 140737488355328) (V : Mem) :
    CallS Try.prog 67 [.pointer (some ⟨p, 0, none⟩)].toArray V [wgrp p A m c k, E]
      (fun r L' => ∃ B e G, r = .slice B m e ∧ OS B m e 5 1 (bs.map (.int .u8)) G ∧ L' = [wgrp p A m c k, E, G]) := by
  refine callS Try.func67 rfl rfl (fun w0 => ?_)
  refine s_seq ?_
  refine s_region ?_
  refine o_val rfl rfl rfl (y_assign (v := (.slice _ _ _)) rfl) ?_
  refine o_nil ?_
  refine s_seq ?_
  refine s_region ?_
  refine o_val rfl rfl rfl (y_move (v := (.pointer _)) rfl) ?_
  refine o_val rfl rfl rfl (y_nilCheck rfl) ?_
  refine o_val rfl rfl rfl (y_field0 Try.runUnderlying105 rfl Try.sizeOf30 rfl rfl) ?_
  refine o_val rfl rfl rfl (y_load Try.isAgg30 rfl (cel_own 0 rfl rfl)) ?_
  refine o_newgroup ?_
  refine o_append (sz := 1) (bytes := 1) (news := _) 2 rfl Try.underlying30 Try.type5 rfl rfl rfl rfl rfl (OS.nil 5 1) rfl rfl (Src.own (sz := 0) Try.underlying30 (j := 1) rfl hos (one_int _ _)) (by omega) (fun A2 c3 E4 ho5 hn6 => ?_)
  have ho7 : OS A2 m c3 5 1 (bs.map (.int .u8)) E4 := by simpa using ho5
  clear ho5
  refine o_val rfl rfl rfl (y_assign (v := (.slice _ _ _)) rfl) ?_
  refine o_nil ?_
  refine s_ret ?_
  exact ⟨_, _, res1 rfl rfl, ⟨A2, c3, E4, congrArg (fun k => Value.slice A2 k c3) (Nat.zero_add m), ho7, rfl⟩, sub_front ⟨_, rfl⟩⟩

theorem frErr_01 (p : Int) (l : List Inp) : frErr p l = 0 ∨ frErr p l = 1 := by unfold frErr; split <;> simp
theorem frErr_nz {p : Int} {l : List Inp} (h : ¬ frErr p l = 0) : frErr p l = 1 := (frErr_01 p l).resolve_left h
theorem fr2_one {p q : Int} {l l' : List Inp} (h : ¬ (if frErr p l = 0 then frErr q l' else 1) = 0) : (if frErr p l = 0 then frErr q l' else 1) = 1 := by
  split at h
  · rename_i e; rw [if_pos e]; exact frErr_nz h
  · rename_i e; rw [if_neg e]
theorem frErr_z {p : Int} {l : List Inp} (h : frErr p l = 0) : okFr p l := by
  unfold frErr at h
  by_cases h' : okFr p l
  · exact h'
  · rw [if_neg h'] at h; cases h

theorem frames_c {V : Mem} (A : Option Addr) (c : Nat) (l : List Inp) (h : Cels V [] A (l.flatMap encI)) (hb : l.length ≤ 140737488355328) (B : Option Addr) (d : Nat) (l' : List Inp) (h' : Cels V [] B (l'.flatMap encI)) (hb' : l'.length ≤ 140737488355328) : CallS Try.prog 65 [.slice A l.length c, .slice B l'.length d].toArray V [] (fun r L' => r = .int .i64 (if frErr l.length l = 0 then frErr l.length l' else 1) ∧ L' = []) := by
  refine callS Try.func65 rfl rfl (fun w0 => ?_)
  refine s_seq ?_
  refine s_region ?_
  refine o_val rfl rfl rfl (y_assign (v := (.int _ _)) rfl) ?_
  refine o_nil ?_
  refine s_seq ?_
  refine s_seq ?_
  refine s_region ?_
  refine o_val rfl rfl rfl (y_move (v := (.slice _ _ _)) rfl) ?_
  refine o_val rfl rfl rfl (y_len Try.runUnderlying22 rfl) ?_
  refine o_val rfl rfl rfl (y_move (v := (.slice _ _ _)) rfl) ?_
  refine o_fn 0 (d := 9) rfl Try.call18 (Frame_c _ _ _ l h.here.down hb) rfl ?_
  rintro _ _ ⟨rfl, rfl⟩
  refine o_val rfl rfl rfl (y_assign (v := (.int _ _)) rfl) ?_
  refine o_nil ?_
  refine s_seq ?_
  refine s_region ?_
  refine o_val rfl rfl rfl (y_move (v := (.int _ _)) rfl) ?_
  refine o_val rfl rfl rfl (y_neq rfl rfl) ?_
  refine o_nil ?_
  refine s_if rfl (fun h1 => ?_) (fun h2 => ?_)
  · refine s_seq ?_
    refine s_region ?_
    refine o_val rfl rfl rfl (y_move (v := (.int _ _)) rfl) ?_
    refine o_val rfl rfl rfl (y_assign (v := (.int _ _)) rfl) ?_
    refine o_nil ?_
    refine s_ret ?_
    exact ⟨_, _, res1 rfl rfl, ⟨congrArg (Value.int .i64) (by rw [if_neg (by assumption)]; exact frErr_nz (by assumption)), rfl⟩, sub_front ⟨_, rfl⟩⟩
  · refine s_skip ?_
    refine s_seq ?_
    refine s_region ?_
    refine o_val rfl rfl rfl (y_move (v := (.slice _ _ _)) rfl) ?_
    refine o_val rfl rfl rfl (y_len Try.runUnderlying22 rfl) ?_
    refine o_val rfl rfl rfl (y_move (v := (.slice _ _ _)) rfl) ?_
    refine o_fn 0 (d := 16) rfl Try.call18 (Frame_c _ _ _ l' h'.here.down hb') rfl ?_
    rintro _ _ ⟨rfl, rfl⟩
    refine o_val rfl rfl rfl (y_assign (v := (.int _ _)) rfl) ?_
    refine o_nil ?_
    refine s_ret ?_
    exact ⟨_, _, res1 rfl rfl, ⟨congrArg (Value.int .i64) (by rw [if_pos (Decidable.not_not.1 (by assumption))]), rfl⟩, sub_front ⟨_, rfl⟩⟩

/-- The bits of one input, relative to the one before. -/
def oneBits (y x : Inp) : List Bool :=
  if x = y then bitsOf 0 1 else bitsOf 1 1 ++ bitsOf (bXor .i64 x.k y.k) 8 ++
    (if x.x = y.x ∧ x.y = y.y then bitsOf 0 1 else bitsOf 1 1 ++ bitsOf (x.x + 128) 8 ++ bitsOf (x.y + 128) 8)
def packTo (b n : List Inp) (k : Nat) : List Bool := (List.range k).flatMap fun j => oneBits (b.getD j default) (n.getD j default)
theorem packTo_zero (b n : List Inp) : packTo b n 0 = [] := rfl
theorem packTo_succ (b n : List Inp) (k : Nat) : packTo b n (k + 1) = packTo b n k ++ oneBits (b.getD k default) (n.getD k default) := by simp [packTo, List.range_succ]
theorem oneBits_len (y x : Inp) : (oneBits y x).length ≤ 26 := by
  unfold oneBits; split
  · simp [bitsOf_len]
  · split <;> simp [bitsOf_len]
theorem packTo_len (b n : List Inp) : ∀ k, (packTo b n k).length ≤ 26 * k
  | 0 => by simp [packTo_zero]
  | k + 1 => by rw [packTo_succ, List.length_append]; have := packTo_len b n k; have := oneBits_len (b.getD k default) (n.getD k default); omega
theorem xor_bd {a b : Int} (ha : 0 ≤ a ∧ a ≤ 255) (hb : 0 ≤ b ∧ b ≤ 255) : 0 ≤ bXor .i64 a b ∧ bXor .i64 a b ≤ 255 := by
  unfold bXor
  have h1 := ofInt_toNat 64 a ha.1 (by omega)
  have h2 := ofInt_toNat 64 b hb.1 (by omega)
  have h3 : a.toNat ^^^ b.toNat < 2 ^ 8 := Nat.xor_lt_two_pow (by omega) (by omega)
  rw [show IntKind.i64.bits = 64 from rfl, BitVec.toNat_xor, h1, h2]
  rw [wrap_in (k := .i64) (by simp only [inK]; omega)]
  omega
theorem ok_k {i : Inp} (h : i.ok) : 0 ≤ i.k ∧ i.k ≤ 255 := ⟨h.1, h.2.1⟩
theorem ok_x {i : Inp} (h : i.ok) : -128 ≤ i.x ∧ i.x ≤ 127 := ⟨h.2.2.1, h.2.2.2.1⟩
theorem ok_y {i : Inp} (h : i.ok) : -128 ≤ i.y ∧ i.y ≤ 127 := ⟨h.2.2.2.2.1, h.2.2.2.2.2⟩
theorem pk_same {b n : List Inp} {k : Nat} (h : (n.getD k default).k = (b.getD k default).k ∧ (n.getD k default).x = (b.getD k default).x ∧ (n.getD k default).y = (b.getD k default).y) : packTo b n k ++ bitsOf 0 1 = packTo b n (k + 1) := by
  have e : n.getD k default = b.getD k default := by
    obtain ⟨h1, h2, h3⟩ := h
    generalize n.getD k default = u at *
    generalize b.getD k default = v at *
    cases u; cases v; simp_all
  rw [packTo_succ]; unfold oneBits; rw [if_pos e]
theorem pk_keys {b n : List Inp} {k : Nat} (h : ¬ ((n.getD k default).k = (b.getD k default).k ∧ (n.getD k default).x = (b.getD k default).x ∧ (n.getD k default).y = (b.getD k default).y)) (h1 : (n.getD k default).x = (b.getD k default).x) (h2 : (n.getD k default).y = (b.getD k default).y) :
    packTo b n k ++ bitsOf 1 1 ++ bitsOf (bXor .i64 (n.getD k default).k (b.getD k default).k) 8 ++ bitsOf 0 1 = packTo b n (k + 1) := by
  rw [packTo_succ]; unfold oneBits
  rw [if_neg (fun e => h (by rw [e]; exact ⟨rfl, rfl, rfl⟩)), if_pos ⟨h1, h2⟩]
  simp [List.append_assoc]
theorem pk_all {b n : List Inp} {k : Nat} (h : ¬ ((n.getD k default).k = (b.getD k default).k ∧ (n.getD k default).x = (b.getD k default).x ∧ (n.getD k default).y = (b.getD k default).y)) (h1 : ¬ ((n.getD k default).x = (b.getD k default).x ∧ (n.getD k default).y = (b.getD k default).y)) :
    packTo b n k ++ bitsOf 1 1 ++ bitsOf (bXor .i64 (n.getD k default).k (b.getD k default).k) 8 ++ bitsOf 1 1 ++ bitsOf ((n.getD k default).x + 128) 8 ++ bitsOf ((n.getD k default).y + 128) 8 = packTo b n (k + 1) := by
  rw [packTo_succ]; unfold oneBits
  rw [if_neg (fun e => h (by rw [e]; exact ⟨rfl, rfl, rfl⟩)), if_neg h1]
  simp [List.append_assoc]
/-- Two inputs compared. -/
theorem run_eql_inp (a b c a' b' c' : Int) (w : World) : (binOp .eql 24 (.agg #[.int .i64 a, .int .i64 b, .int .i64 c]) (.agg #[.int .i64 a', .int .i64 b', .int .i64 c'])).run Try.prog w = .ok (.bool (decide (a = a' ∧ b = b' ∧ c = c'))) w := by
  simp [go_sem]
  by_cases h1 : a = a' <;> by_cases h2 : b = b' <;> by_cases h3 : c = c' <;> simp [h1, h2, h3]
theorem y_eql_inp {f : Frm} {V : Mem} {L : List Grp} {d : Option Tmp} {ty : TypeId} {ps : String} {af : Array Edge} {g : Option (Nat × Bool)} {x y : Operand} {yt : TypeId} {a b c a' b' c' : Int} (hx : evF f x = .agg #[.int .i64 a, .int .i64 b, .int .i64 c]) (hy : evF f y = .agg #[.int .i64 a', .int .i64 b', .int .i64 c']) :
    Yld Try.prog f V L ⟨d, .binOp .eql 24 x y yt, ty, ps, af, g⟩ (.bool (decide (a = a' ∧ b = b' ∧ c = c'))) := fun _ w _ => by
  simp only [execOp, hx, hy, Sem.run_bind, eqGuard_agg (P := Try.prog) (t := 24) (by kernel_rfl), Result.andThen_ok, run_eql_inp]
  rfl

theorem Pack_k0 (w : World) : (Instr.build 105 ([] : List (Nat × Value)).toArray).run Try.prog w = .ok (.agg #[.slice none 0 0, .int .i64 0]) w := by kernel_rfl
theorem Pack_c {V : Mem} (A : Option Addr) (c : Nat) (l : List Inp) (h : Cels V [] A (l.flatMap encI)) (hb : l.length ≤ 140737488355328) (B : Option Addr) (d : Nat) (l' : List Inp) (h' : Cels V [] B (l'.flatMap encI)) (hb' : l'.length ≤ 140737488355328) :
    CallS Try.prog 20 [.slice A l.length c, .slice B l'.length d].toArray V [] (fun r L' =>
      (¬ (okFr l.length l ∧ okFr l.length l') ∧ r = .tuple #[.slice none 0 0, .int .i64 1] ∧ L' = []) ∨
      (okFr l.length l ∧ okFr l.length l' ∧ ∃ R n e bs G, r = .tuple #[.slice R n e, .int .i64 0] ∧ OS R n e 5 1 (bs.map (.int .u8)) G ∧ Wr bs (packTo l l' l'.length) ∧ L' = [G])) := by
  refine callS Try.func20 rfl rfl (fun w0 => ?_)
  refine s_seq ?_
  refine s_region ?_
  refine o_val rfl rfl rfl (y_assign (v := (.slice _ _ _)) rfl) ?_
  refine o_val rfl rfl rfl (y_assign (v := (.int _ _)) rfl) ?_
  refine o_nil ?_
  refine s_seq ?_
  refine s_seq ?_
  refine s_region ?_
  refine o_val rfl rfl rfl (y_move (v := (.slice _ _ _)) rfl) ?_
  refine o_val rfl rfl rfl (y_move (v := (.slice _ _ _)) rfl) ?_
  refine o_fn 0 (d := 13) rfl Try.call65 (frames_c _ _ l h.here.down hb _ _ l' h'.here.down hb') rfl ?_
  rintro _ _ ⟨rfl, rfl⟩
  refine o_val rfl rfl rfl (y_assign (v := (.int _ _)) rfl) ?_
  refine o_nil ?_
  refine s_seq ?_
  refine s_region ?_
  refine o_val rfl rfl rfl (y_move (v := (.int _ _)) rfl) ?_
  refine o_val rfl rfl rfl (y_neq rfl rfl) ?_
  refine o_nil ?_
  refine s_if rfl (fun h1 => ?_) (fun h2 => ?_)
  · have hbad := h1
    refine s_seq ?_
    refine s_region ?_
    refine o_val rfl rfl rfl (y_move (v := (.int _ _)) rfl) ?_
    refine o_val rfl rfl rfl (y_assign (v := (.slice _ _ _)) rfl) ?_
    refine o_val rfl rfl rfl (y_assign (v := (.int _ _)) rfl) ?_
    refine o_nil ?_
    refine s_ret ?_
    exact ⟨_, _, res2 rfl rfl rfl, .inl ⟨fun hh => hbad (by rw [if_pos (frErr_ok hh.1).symm]; exact (frErr_ok hh.2).symm), congrArg (fun k => Value.tuple #[.slice none 0 0, .int .i64 k]) (fr2_one hbad), rfl⟩, sub_front ⟨_, rfl⟩⟩
  · have hfr := Decidable.not_not.1 h2
    have hf1 : okFr l.length l := by by_cases e : frErr l.length l = 0; exact frErr_z e; rw [if_neg e] at hfr; cases hfr
    have hf2 : okFr l.length l' := by rw [if_pos (frErr_ok hf1).symm] at hfr; exact frErr_z hfr
    have hbo := hf1.2.2.2
    have hno := hf2.2.2.2
    have hl8 := hf1.2.1
    have hll := hf2.2.2.1
    clear hfr
    refine s_skip ?_
    refine s_seq ?_
    refine s_region ?_
    refine o_val rfl rfl rfl (y_build (vs := []) rfl (Pack_k0)) ?_
    refine o_box (v := (.agg #[(.slice _ _ _), (.int _ _)])) rfl rfl rfl (fun b3 => ?_)
    refine o_val rfl rfl rfl (y_assign (v := (.pointer _)) rfl) ?_
    refine o_nil ?_
    refine s_seq ?_
    refine s_seq ?_
    refine s_region ?_
    refine o_val rfl rfl rfl (y_move (v := (.slice _ _ _)) rfl) ?_
    refine o_val rfl rfl rfl (y_len Try.runUnderlying22 rfl) ?_
    refine o_val rfl rfl rfl (y_move (v := (.int _ _)) rfl) ?_
    refine o_nil ?_
    refine s_block ?_
    refine s_group ?_
    refine s_loop (γ := WS) (fun g => [(0, .slice A l.length c), (7, .pointer (some ⟨b3, 0, none⟩)), (19, .slice B l'.length d), (20, .int .i64 l'.length), (21, .int .i64 g.i)]) (fun g => [wgrp b3 g.A g.n g.c (g.bits.length : Nat), g.E]) (fun g => g.i ≤ l'.length ∧ g.bits = packTo l l' g.i ∧ Wr g.bs g.bits ∧ OS g.A g.n g.c 5 1 (g.bs.map (.int .u8)) g.E) (fun g => l'.length - g.i) (WS.mk 0 none 0 0 [] [] []) ?_ ⟨rfl, rfl, rfl, rfl, rfl, trivial⟩ (sub_front ⟨_, rfl⟩) ?_
    · exact ⟨Nat.zero_le _, rfl, Wr.nil, OS.nil _ _⟩
    · intro g _f hI
      obtain ⟨hi, hbits, hW0, ho0⟩ := hI
      have hpl := packTo_len l l' g.i
      rw [← hbits] at hpl
      refine s_seq ?_
      refine s_region ?_
      refine o_val rfl rfl rfl (y_lss rfl rfl) ?_
      refine o_nil ?_
      refine s_seq ?_
      refine s_if rfl (fun h4 => ?_) (fun h5 => ?_)
      · refine s_skip ?_
        refine s_seq ?_
        refine s_block ?_
        refine s_seq ?_
        refine s_region ?_
        refine o_val rfl rfl rfl (y_move (v := (.int _ _)) rfl) ?_
        refine o_val rfl rfl rfl (y_indexAddr Try.runUnderlying22 Try.sizeOf24 (some_at (sz := 2) encI_len (i := 0) h' (by omega)) rfl rfl (by omega)) ?_
        refine o_val rfl rfl rfl (y_loads (cs := [_, _, _]) Try.isAgg24 Try.sizeOf24 rfl (by unfold idx; rw [Option.isSome_map]; exact some_at (sz := 2) encI_len (i := 0) h' (by omega)) rfl (cels_at (sz := 3) encI_len h'.here (by omega))) ?_
        refine o_alloc rfl Try.zeroValue24 rfl (fun b6 => ?_)
        refine o_val rfl rfl rfl (y_assign (v := (.int _ _)) rfl) ?_
        refine o_stores (vs := [(.int _ _), (.int _ _), (.int _ _)]) 2 rfl Try.sizeOf24 rfl rfl rfl (by simp [Value.oneCell']) (by simp) ?_
        refine o_nil ?_
        refine s_seq ?_
        refine s_region ?_
        refine o_val rfl rfl rfl (y_move (v := (.slice _ _ _)) rfl) ?_
        refine o_val rfl rfl rfl (y_move (v := (.int _ _)) rfl) ?_
        refine o_val rfl rfl rfl (y_indexAddr Try.runUnderlying22 Try.sizeOf24 (some_at (sz := 2) encI_len (i := 0) h (by omega)) rfl rfl (by omega)) ?_
        refine o_val rfl rfl rfl (y_loads (cs := [_, _, _]) Try.isAgg24 Try.sizeOf24 rfl (by unfold idx; rw [Option.isSome_map]; exact some_at (sz := 2) encI_len (i := 0) h (by omega)) rfl (cels_at (sz := 3) encI_len h.here (by omega))) ?_
        refine o_alloc rfl Try.zeroValue24 rfl (fun b7 => ?_)
        refine o_stores (vs := [(.int _ _), (.int _ _), (.int _ _)]) 3 rfl Try.sizeOf24 rfl rfl rfl (by simp [Value.oneCell']) (by simp) ?_
        refine o_nil ?_
        refine s_seq ?_
        refine s_seq ?_
        refine s_region ?_
        refine o_val rfl rfl rfl (y_loads (cs := [_, _, _]) Try.isAgg24 Try.sizeOf24 rfl rfl rfl (cels_own 2 rfl rfl)) ?_
        refine o_val rfl rfl rfl (y_loads (cs := [_, _, _]) Try.isAgg24 Try.sizeOf24 rfl rfl rfl (cels_own 3 rfl rfl)) ?_
        refine o_val rfl rfl rfl (y_eql_inp rfl rfl) ?_
        refine o_nil ?_
        refine s_if rfl (fun h8 => ?_) (fun h9 => ?_)
        · refine s_seq ?_
          refine s_region ?_
          refine o_val rfl rfl rfl (y_move (v := (.pointer _)) rfl) ?_
          refine o_fn 2 (d := 34) rfl Try.call66 (Put_c _ _ _ _ _ _ _ _ 1 hW0 ho0 (by omega) (by omega) (fun _ => by omega) (by (try simp only [List.length_append, bitsOf_len]); omega) _) rfl ?_
          rintro _ _ ⟨rfl, A10, m11, c12, E13, bs14, hW15, ho16, rfl⟩
          refine o_nil ?_
          refine s_exit ?_
          refine s_region ?_
          refine o_val rfl rfl rfl (y_add rfl rfl (by simp only [inK]; omega)) ?_
          refine o_val rfl rfl rfl (y_move (v := (.int _ _)) rfl) ?_
          refine o_nil ?_
          exact ⟨WS.mk (g.i + 1) A10 m11 c12 E13 bs14 _, (by first | omega | (dsimp only; omega)), ⟨by dsimp only; omega, by dsimp only; rw [hbits]; first | exact (pk_same (by assumption)) | exact (pk_keys (by assumption) (by assumption) (by assumption)) | exact (pk_all (by assumption) (fun hh => by first | exact absurd hh.2 (by assumption) | exact absurd hh.1 (by assumption))), hW15, ho16⟩, ⟨rfl, rfl, rfl, rfl, (congrArg (Value.int _) (by dsimp only; omega)), trivial⟩, sub_front ⟨_, rfl⟩⟩
        · refine s_skip ?_
          refine s_seq ?_
          refine s_region ?_
          refine o_val rfl rfl rfl (y_move (v := (.pointer _)) rfl) ?_
          refine o_fn 2 (d := 36) rfl Try.call66 (Put_c _ _ _ _ _ _ _ _ 1 hW0 ho0 (by omega) (by omega) (fun _ => by omega) (by (try simp only [List.length_append, bitsOf_len]); omega) _) rfl ?_
          rintro _ _ ⟨rfl, A17, m18, c19, E20, bs21, hW22, ho23, rfl⟩
          refine o_nil ?_
          refine s_seq ?_
          refine s_region ?_
          refine o_val rfl rfl rfl (y_move (v := (.pointer _)) rfl) ?_
          refine o_val rfl rfl rfl (y_field0 Try.runUnderlying24 rfl Try.sizeOf3 rfl rfl) ?_
          refine o_val rfl rfl rfl (y_load Try.isAgg3 rfl (cel_own 2 rfl rfl)) ?_
          refine o_val rfl rfl rfl (y_field0 Try.runUnderlying24 rfl Try.sizeOf3 rfl rfl) ?_
          refine o_val rfl rfl rfl (y_load Try.isAgg3 rfl (cel_own 3 rfl rfl)) ?_
          refine o_val rfl rfl rfl (y_xor rfl rfl) ?_
          refine o_val rfl rfl rfl (y_conv Try.runUnderlying3 Try.runUnderlying107 rfl (by have := xor_bd (ok_k (hno _ (getD_in (i := (g.i : Int).toNat) (by omega)))) (ok_k (hbo _ (getD_in (i := (g.i : Int).toNat) (by omega)))); simp only [inK]; omega)) ?_
          refine o_fn 2 (d := 44) rfl Try.call66 (Put_c _ _ _ _ _ _ _ _ 8 hW22 ho23 (by have := xor_bd (ok_k (hno _ (getD_in (i := (g.i : Int).toNat) (by omega)))) (ok_k (hbo _ (getD_in (i := (g.i : Int).toNat) (by omega)))); omega) (by omega) (fun _ => by have := xor_bd (ok_k (hno _ (getD_in (i := (g.i : Int).toNat) (by omega)))) (ok_k (hbo _ (getD_in (i := (g.i : Int).toNat) (by omega)))); omega) (by (try simp only [List.length_append, bitsOf_len]); omega) _) rfl ?_
          rintro _ _ ⟨rfl, A24, m25, c26, E27, bs28, hW29, ho30, rfl⟩
          refine o_nil ?_
          refine s_seq ?_
          refine s_seq ?_
          refine s_region ?_
          refine o_val rfl rfl rfl (y_field0 Try.runUnderlying24 rfl Try.sizeOf3 rfl rfl) ?_
          refine o_val rfl rfl rfl (y_load Try.isAgg3 rfl (cel_own 2 rfl rfl)) ?_
          refine o_val rfl rfl rfl (y_field0 Try.runUnderlying24 rfl Try.sizeOf3 rfl rfl) ?_
          refine o_val rfl rfl rfl (y_load Try.isAgg3 rfl (cel_own 3 rfl rfl)) ?_
          refine o_split rfl rfl rfl (y_eql rfl rfl) (fun p31 => ?_) (fun p32 => ?_)
          · refine o_val rfl rfl rfl (y_move (v := (.bool _)) rfl) ?_
            refine o_guard_yes rfl rfl ?_
            refine o_val rfl rfl rfl (y_field0 Try.runUnderlying24 rfl Try.sizeOf3 rfl rfl) ?_
            refine o_guard_yes rfl rfl ?_
            refine o_val rfl rfl rfl (y_load Try.isAgg3 rfl (cel_own 2 rfl rfl)) ?_
            refine o_guard_yes rfl rfl ?_
            refine o_val rfl rfl rfl (y_field0 Try.runUnderlying24 rfl Try.sizeOf3 rfl rfl) ?_
            refine o_guard_yes rfl rfl ?_
            refine o_val rfl rfl rfl (y_load Try.isAgg3 rfl (cel_own 3 rfl rfl)) ?_
            refine o_guard_yes rfl rfl ?_
            refine o_split rfl rfl rfl (y_eql rfl rfl) (fun p33 => ?_) (fun p34 => ?_)
            · refine o_val rfl rfl rfl (y_pick_t (v := (.bool _)) rfl rfl) ?_
              refine o_nil ?_
              refine s_then rfl ?_
              refine s_seq ?_
              refine s_region ?_
              refine o_val rfl rfl rfl (y_move (v := (.pointer _)) rfl) ?_
              refine o_fn 2 (d := 58) rfl Try.call66 (Put_c _ _ _ _ _ _ _ _ 1 hW29 ho30 (by omega) (by omega) (fun _ => by omega) (by (try simp only [List.length_append, bitsOf_len]); omega) _) rfl ?_
              rintro _ _ ⟨rfl, A35, m36, c37, E38, bs39, hW40, ho41, rfl⟩
              refine o_nil ?_
              refine s_exit ?_
              refine s_region ?_
              refine o_val rfl rfl rfl (y_add rfl rfl (by simp only [inK]; omega)) ?_
              refine o_val rfl rfl rfl (y_move (v := (.int _ _)) rfl) ?_
              refine o_nil ?_
              exact ⟨WS.mk (g.i + 1) A35 m36 c37 E38 bs39 _, (by first | omega | (dsimp only; omega)), ⟨by dsimp only; omega, by dsimp only; rw [hbits]; first | exact (pk_same (by assumption)) | exact (pk_keys (by assumption) (by assumption) (by assumption)) | exact (pk_all (by assumption) (fun hh => by first | exact absurd hh.2 (by assumption) | exact absurd hh.1 (by assumption))), hW40, ho41⟩, ⟨rfl, rfl, rfl, rfl, (congrArg (Value.int _) (by dsimp only; omega)), trivial⟩, sub_front ⟨_, rfl⟩⟩
            · refine o_val rfl rfl rfl (y_pick_t (v := (.bool _)) rfl rfl) ?_
              refine o_nil ?_
              refine s_else rfl ?_
              refine s_skip ?_
              refine s_seq ?_
              refine s_region ?_
              refine o_val rfl rfl rfl (y_move (v := (.pointer _)) rfl) ?_
              refine o_fn 2 (d := 60) rfl Try.call66 (Put_c _ _ _ _ _ _ _ _ 1 hW29 ho30 (by omega) (by omega) (fun _ => by omega) (by (try simp only [List.length_append, bitsOf_len]); omega) _) rfl ?_
              rintro _ _ ⟨rfl, A42, m43, c44, E45, bs46, hW47, ho48, rfl⟩
              refine o_nil ?_
              refine s_seq ?_
              refine s_region ?_
              refine o_val rfl rfl rfl (y_move (v := (.pointer _)) rfl) ?_
              refine o_val rfl rfl rfl (y_field0 Try.runUnderlying24 rfl Try.sizeOf3 rfl rfl) ?_
              refine o_val rfl rfl rfl (y_load Try.isAgg3 rfl (cel_own 2 rfl rfl)) ?_
              refine o_val rfl rfl rfl (y_add rfl rfl (by have := ok_x (hno _ (getD_in (i := (g.i : Int).toNat) (by omega))); simp only [inK]; omega)) ?_
              refine o_val rfl rfl rfl (y_conv Try.runUnderlying3 Try.runUnderlying107 rfl (by have := ok_x (hno _ (getD_in (i := (g.i : Int).toNat) (by omega))); simp only [inK]; omega)) ?_
              refine o_fn 2 (d := 66) rfl Try.call66 (Put_c _ _ _ _ _ _ _ _ 8 hW47 ho48 (by have := ok_x (hno _ (getD_in (i := (g.i : Int).toNat) (by omega))); omega) (by omega) (fun _ => by have := ok_x (hno _ (getD_in (i := (g.i : Int).toNat) (by omega))); omega) (by (try simp only [List.length_append, bitsOf_len]); omega) _) rfl ?_
              rintro _ _ ⟨rfl, A49, m50, c51, E52, bs53, hW54, ho55, rfl⟩
              refine o_nil ?_
              refine s_region ?_
              refine o_val rfl rfl rfl (y_move (v := (.pointer _)) rfl) ?_
              refine o_val rfl rfl rfl (y_field0 Try.runUnderlying24 rfl Try.sizeOf3 rfl rfl) ?_
              refine o_val rfl rfl rfl (y_load Try.isAgg3 rfl (cel_own 2 rfl rfl)) ?_
              refine o_val rfl rfl rfl (y_add rfl rfl (by have := ok_y (hno _ (getD_in (i := (g.i : Int).toNat) (by omega))); simp only [inK]; omega)) ?_
              refine o_val rfl rfl rfl (y_conv Try.runUnderlying3 Try.runUnderlying107 rfl (by have := ok_y (hno _ (getD_in (i := (g.i : Int).toNat) (by omega))); simp only [inK]; omega)) ?_
              refine o_fn 2 (d := 72) rfl Try.call66 (Put_c _ _ _ _ _ _ _ _ 8 hW54 ho55 (by have := ok_y (hno _ (getD_in (i := (g.i : Int).toNat) (by omega))); omega) (by omega) (fun _ => by have := ok_y (hno _ (getD_in (i := (g.i : Int).toNat) (by omega))); omega) (by (try simp only [List.length_append, bitsOf_len]); omega) _) rfl ?_
              rintro _ _ ⟨rfl, A56, m57, c58, E59, bs60, hW61, ho62, rfl⟩
              refine o_nil ?_
              refine s_region ?_
              refine o_val rfl rfl rfl (y_add rfl rfl (by simp only [inK]; omega)) ?_
              refine o_val rfl rfl rfl (y_move (v := (.int _ _)) rfl) ?_
              refine o_nil ?_
              exact ⟨WS.mk (g.i + 1) A56 m57 c58 E59 bs60 _, (by first | omega | (dsimp only; omega)), ⟨by dsimp only; omega, by dsimp only; rw [hbits]; first | exact (pk_same (by assumption)) | exact (pk_keys (by assumption) (by assumption) (by assumption)) | exact (pk_all (by assumption) (fun hh => by first | exact absurd hh.2 (by assumption) | exact absurd hh.1 (by assumption))), hW61, ho62⟩, ⟨rfl, rfl, rfl, rfl, (congrArg (Value.int _) (by dsimp only; omega)), trivial⟩, sub_front ⟨_, rfl⟩⟩
          · refine o_val rfl rfl rfl (y_move (v := (.bool _)) rfl) ?_
            refine o_guard_no rfl rfl rfl rfl rfl ?_
            refine o_guard_no rfl rfl rfl rfl rfl ?_
            refine o_guard_no rfl rfl rfl rfl rfl ?_
            refine o_guard_no rfl rfl rfl rfl rfl ?_
            refine o_guard_no rfl rfl rfl rfl rfl ?_
            refine o_val rfl rfl rfl (y_pick_f (v := (.bool _)) rfl rfl) ?_
            refine o_nil ?_
            refine s_else rfl ?_
            refine s_skip ?_
            refine s_seq ?_
            refine s_region ?_
            refine o_val rfl rfl rfl (y_move (v := (.pointer _)) rfl) ?_
            refine o_fn 2 (d := 60) rfl Try.call66 (Put_c _ _ _ _ _ _ _ _ 1 hW29 ho30 (by omega) (by omega) (fun _ => by omega) (by (try simp only [List.length_append, bitsOf_len]); omega) _) rfl ?_
            rintro _ _ ⟨rfl, A63, m64, c65, E66, bs67, hW68, ho69, rfl⟩
            refine o_nil ?_
            refine s_seq ?_
            refine s_region ?_
            refine o_val rfl rfl rfl (y_move (v := (.pointer _)) rfl) ?_
            refine o_val rfl rfl rfl (y_field0 Try.runUnderlying24 rfl Try.sizeOf3 rfl rfl) ?_
            refine o_val rfl rfl rfl (y_load Try.isAgg3 rfl (cel_own 2 rfl rfl)) ?_
            refine o_val rfl rfl rfl (y_add rfl rfl (by have := ok_x (hno _ (getD_in (i := (g.i : Int).toNat) (by omega))); simp only [inK]; omega)) ?_
            refine o_val rfl rfl rfl (y_conv Try.runUnderlying3 Try.runUnderlying107 rfl (by have := ok_x (hno _ (getD_in (i := (g.i : Int).toNat) (by omega))); simp only [inK]; omega)) ?_
            refine o_fn 2 (d := 66) rfl Try.call66 (Put_c _ _ _ _ _ _ _ _ 8 hW68 ho69 (by have := ok_x (hno _ (getD_in (i := (g.i : Int).toNat) (by omega))); omega) (by omega) (fun _ => by have := ok_x (hno _ (getD_in (i := (g.i : Int).toNat) (by omega))); omega) (by (try simp only [List.length_append, bitsOf_len]); omega) _) rfl ?_
            rintro _ _ ⟨rfl, A70, m71, c72, E73, bs74, hW75, ho76, rfl⟩
            refine o_nil ?_
            refine s_region ?_
            refine o_val rfl rfl rfl (y_move (v := (.pointer _)) rfl) ?_
            refine o_val rfl rfl rfl (y_field0 Try.runUnderlying24 rfl Try.sizeOf3 rfl rfl) ?_
            refine o_val rfl rfl rfl (y_load Try.isAgg3 rfl (cel_own 2 rfl rfl)) ?_
            refine o_val rfl rfl rfl (y_add rfl rfl (by have := ok_y (hno _ (getD_in (i := (g.i : Int).toNat) (by omega))); simp only [inK]; omega)) ?_
            refine o_val rfl rfl rfl (y_conv Try.runUnderlying3 Try.runUnderlying107 rfl (by have := ok_y (hno _ (getD_in (i := (g.i : Int).toNat) (by omega))); simp only [inK]; omega)) ?_
            refine o_fn 2 (d := 72) rfl Try.call66 (Put_c _ _ _ _ _ _ _ _ 8 hW75 ho76 (by have := ok_y (hno _ (getD_in (i := (g.i : Int).toNat) (by omega))); omega) (by omega) (fun _ => by have := ok_y (hno _ (getD_in (i := (g.i : Int).toNat) (by omega))); omega) (by (try simp only [List.length_append, bitsOf_len]); omega) _) rfl ?_
            rintro _ _ ⟨rfl, A77, m78, c79, E80, bs81, hW82, ho83, rfl⟩
            refine o_nil ?_
            refine s_region ?_
            refine o_val rfl rfl rfl (y_add rfl rfl (by simp only [inK]; omega)) ?_
            refine o_val rfl rfl rfl (y_move (v := (.int _ _)) rfl) ?_
            refine o_nil ?_
            exact ⟨WS.mk (g.i + 1) A77 m78 c79 E80 bs81 _, (by first | omega | (dsimp only; omega)), ⟨by dsimp only; omega, by dsimp only; rw [hbits]; first | exact (pk_same (by assumption)) | exact (pk_keys (by assumption) (by assumption) (by assumption)) | exact (pk_all (by assumption) (fun hh => by first | exact absurd hh.2 (by assumption) | exact absurd hh.1 (by assumption))), hW82, ho83⟩, ⟨rfl, rfl, rfl, rfl, (congrArg (Value.int _) (by dsimp only; omega)), trivial⟩, sub_front ⟨_, rfl⟩⟩
      · refine s_exit ?_
        refine s_seq ?_
        refine s_region ?_
        refine o_val rfl rfl rfl (y_move (v := (.pointer _)) rfl) ?_
        refine o_fn 2 (d := 75) rfl Try.call67 (Bytes_c _ _ _ _ _ _ _ ho0 (by have h1 := ho0.len; have h2 := hW0.1; simp at h1; omega) _) rfl ?_
        rintro _ _ ⟨RB, re, RG, rfl, hR, rfl⟩
        refine o_val rfl rfl rfl (y_assign (v := (.slice _ _ _)) rfl) ?_
        refine o_val rfl rfl rfl (y_assign (v := (.int _ _)) rfl) ?_
        refine o_nil ?_
        refine s_ret ?_
        exact ⟨_, _, res2 rfl rfl rfl, .inr ⟨hf1, hf2, _, _, _, _, _, rfl, hR, (by rw [hbits, show g.i = l'.length by omega] at hW0; exact hW0), rfl⟩, sub_picks [2] rfl⟩

end Go.Proofs.Ytppciokaldmipaa.K

/- Walks: a packet of the link opened. No condition beyond what each statement names. -/
import Derived.Test.YtdgmocibjjkghaaProg
import Derived.Test.YtdgmocibjjkghaaK14
import Derived.Test.YtdgmocibjjkghaaB9
import Derived.Test.YtdgmocibjjkghaaN1
import Derived.Test.YtdgmocibjjkghaaN3
import Derived.Test.YtdgmocibjjkghaaN4
import Derived.Test.YtdgmocibjjkghaaL1
import Derived.Test.YtdgmocibjjkghaaL2
import Derived.Test.YtdgmocibjjkghaaL3
set_option linter.unusedVariables false
set_option linter.unusedSimpArgs false
set_option maxRecDepth 100000
namespace Go.Proofs.Ytdgmocibjjkghaa.K
open Go.RowKit

theorem res4 {P : Program} {fn : Func} {V : Mem} {f : Frm} {L : List Grp} {t u s q : Nat} {v v' v'' v3 : Value} (h : fn.results = #[.tmp t, .tmp u, .tmp s, .tmp q]) (hv : f t = v) (hv' : f u = v') (hv'' : f s = v'') (hq : f q = v3) : Res P fn V f L (.tuple #[v, v', v'', v3]) := fun _ a _ _ ha _ => by
  simp [results, h, ha.get, hv, hv', hv'', hq]
/-- A message's bytes lie in a pool. -/
def BlIn (PG : Grp) (f : FL) : Prop := f.bs.length = f.n ∧ f.n ≤ f.c ∧ f.n ≤ 65535 ∧ Cels nowhere [PG] f.A (f.bs.map (.int .u8)) ∧ ∀ b ∈ f.bs, 0 ≤ b ∧ b ≤ 255
theorem BlIn.grow {G PG : Grp} {f : FL} (h : BlIn PG f) : BlIn (G ++ PG) f := ⟨h.1, h.2.1, h.2.2.1, h.2.2.2.1.mono (fun b o hb => by
  rcases hb with hb | hb
  · exact hb.elim
  · exact .inr (by simp only [List.flatten_cons, List.flatten_nil, List.append_nil] at hb ⊢; exact List.mem_append_right _ hb)), h.2.2.2.2⟩
theorem BlIn.grow' {G PG : Grp} {f : FL} (h : BlIn G f) : BlIn (G ++ PG) f := ⟨h.1, h.2.1, h.2.2.1, h.2.2.2.1.mono (fun b o hb => by
  rcases hb with hb | hb
  · exact hb.elim
  · exact .inr (by simp only [List.flatten_cons, List.flatten_nil, List.append_nil] at hb ⊢; exact List.mem_append_left _ hb)), h.2.2.2.2⟩
def fl (B : Option Addr) (n e : Nat) (bs : List Int) : FL := ⟨0, 0, 0, 0, B, n, e, bs⟩
theorem BlIn.new {G PG : Grp} {B : Option Addr} {n e : Nat} {T : TypeId} {bs : List Int} (ho : OS B n e T 1 (bs.map (.int .u8)) G) (hn : n ≤ 65535) (hb : ∀ b ∈ bs, 0 ≤ b ∧ b ≤ 255) : BlIn (G ++ PG) (fl B n e bs) :=
  ⟨by have := ho.len; simpa [fl] using this, ho.2.1, hn, (ho.cels (V := nowhere) (L := [G]) (j := 0) rfl).mono (fun b o hb => by
    rcases hb with hb | hb
    · exact hb.elim
    · exact .inr (by simp only [List.flatten_cons, List.flatten_nil, List.append_nil] at hb ⊢; exact List.mem_append_left _ hb)), hb⟩
theorem BlIn.cels {PG : Grp} {f : FL} (h : BlIn PG f) {V : Mem} {L : List Grp} {j : Nat} (hj : nth L j = some PG) : Cels V L f.A (f.bs.map (.int .u8)) := h.2.2.2.1.mono fun b o hb => by
  rcases hb with hb | hb
  · exact hb.elim
  · exact .inr (nth_mem hj _ (by simpa using hb))
theorem BlIn.at {PG : Grp} {f : FL} (h : BlIn PG f) {V : Mem} {L : List Grp} {j : Nat} (hj : nth L j = some PG) : BB (ext V L) f.A f.n f.c f.bs := ⟨h.1, h.2.1, (h.cels hj).down, h.2.2.2.2⟩
theorem blin_snoc {PG G : Grp} {fs : List FL} {x : FL} (h : ∀ f ∈ fs, BlIn PG f) (hx : BlIn (G ++ PG) x) : ∀ f ∈ fs ++ [x], BlIn (G ++ PG) f := fun f hf => by
  rcases List.mem_append.1 hf with hf | hf
  · exact (h f hf).grow
  · rw [List.mem_singleton.1 hf]; exact hx
/-- The messages of a packet. -/
def msgGo : Nat → List Int → Option (List (List Int) × List Int)
  | 0, r => some ([], r)
  | k + 1, r => if r.length < 2 ∨ (r.length : Int) - 2 < val (r.take 2) then none else (msgGo k (r.drop (2 + val (r.take 2)).toNat)).map fun x => (((r.drop 2).take ((2 + val (r.take 2)).toNat - 2)) :: x.1, x.2)
theorem msgGo_none {k : Nat} {r : List Int} (h : r.length < 2 ∨ (r.length : Int) - 2 < val (r.take 2)) : msgGo (k + 1) r = none := by
  rw [msgGo, if_pos h]
theorem msgGo_step {k : Nat} {r : List Int} (h : ¬ (r.length < 2 ∨ (r.length : Int) - 2 < val (r.take 2))) : msgGo (k + 1) r = (msgGo k (r.drop (2 + val (r.take 2)).toNat)).map fun x => (((r.drop 2).take ((2 + val (r.take 2)).toNat - 2)) :: x.1, x.2) := by
  rw [msgGo, if_neg h]
/-- What a packet holds. -/
structure PR where
  err : Int
  ack : Int
  first : Int
  ms : List (List Int)
def parse (n : Nat) (bs : List Int) : PR :=
  if n < 17 then ⟨14, 0, 0, []⟩
  else if bs.drop ((((((n : Nat) : Int) - 8).toNat : Nat) : Int)).toNat ≠ be 8 (sumB (bs.take (((n : Nat) : Int) - 8).toNat)).toNat then ⟨13, 0, 0, []⟩
  else match msgGo ((bs.take (((n : Nat) : Int) - 8).toNat).getD 8 0).toNat ((bs.take (((n : Nat) : Int) - 8).toNat).drop 9) with
    | none => ⟨3, 0, 0, []⟩
    | some x => if 8 < (bs.take (((n : Nat) : Int) - 8).toNat).getD 8 0 ∨ 0 < x.2.length then ⟨3, 0, 0, []⟩ else ⟨0, val ((bs.take (((n : Nat) : Int) - 8).toNat).take 4), val (((bs.take (((n : Nat) : Int) - 8).toNat).drop 4).take 4), x.1⟩
theorem be_get : ∀ (k n j : Nat), j < k → (be k n).getD j 0 = ((n / 256 ^ (k - 1 - j) % 256 : Nat) : Int)
  | k + 1, n, 0, _ => rfl
  | k + 1, n, j + 1, h => by
    rw [be, List.getD_cons_succ, be_get k n j (by omega), show k - 1 - j = k + 1 - 1 - (j + 1) by omega]
theorem byte_of {s : Int} {j : Nat} (h0 : 0 ≤ s) (hj : j < 8) : IntKind.u8.wrap (s.fdiv (2 ^ (min (56 - 8 * ((j : Nat) : Int)).toNat IntKind.u64.bits))) = (be 8 s.toNat).getD j 0 := by
  obtain ⟨v, rfl⟩ : ∃ v : Nat, s = v := ⟨s.toNat, by omega⟩
  have e := shr_nat v (56 - 8 * j) (by omega)
  rw [show (56 - 8 * ((j : Nat) : Int)).toNat = ((56 - 8 * j : Nat) : Int).toNat by omega, show ((v : Int)).fdiv (2 ^ (min (((56 - 8 * j : Nat) : Int)).toNat IntKind.u64.bits)) = _ from e, wrap_u8, be_get 8 _ j hj, Int.toNat_natCast]
  congr 2
  rw [show 56 - 8 * j = 8 * (8 - 1 - j) by omega, Nat.pow_mul]
theorem be_ext {l : List Int} {s : Int} (hl : l.length = 8) (h : ∀ j, j < 8 → l.getD j 0 = (be 8 s.toNat).getD j 0) : l = be 8 s.toNat := by
  apply List.ext_getElem (by rw [hl, be_len])
  intro j h1 h2
  have := h j (by omega)
  rwa [List.getD_eq_getElem?_getD, List.getElem?_eq_getElem h1, List.getD_eq_getElem?_getD, List.getElem?_eq_getElem h2] at this
/-- The state of the loop over messages. -/
structure PM where
  i : Nat
  A : Option Addr
  n : Nat
  c : Nat
  rest : List Int
  fs : List FL
  M : Option Addr
  mc : Nat
  E : Grp
  PG : Grp

theorem OpenL_k0 (v0A : Option Addr) (v0n : Nat) (v0c : Nat) (w : World) : (Instr.buildSlice 60 1 ([(0, (.slice v0A v0n v0c))] : List (Nat × Value)).toArray).run Try.prog w = .ok (.slice (some ⟨w.heap.size, 0, none⟩) 1 1) { w with heap := w.heap.push (.cells ([.slice v0A v0n v0c] : List Value).toArray 29 (0, 0)) } := by kernel_rfl
theorem OpenL_c {V : Mem} (A : Option Addr) (n c : Nat) (bs : List Int) (h : BB V A n c bs) (hb : n ≤ 140737488355328) : CallS Try.prog 78 [.slice A n c].toArray V [] (fun r L' => ((parse n bs).err ≠ 0 ∧ r = .tuple #[.int .i64 0, .int .i64 0, .slice none 0 0, .int .i64 (parse n bs).err] ∧ L' = []) ∨ ((parse n bs).err = 0 ∧ ∃ (M : Option Addr) (mc : Nat) (fs : List FL) (E PG : Grp), r = .tuple #[.int .i64 (parse n bs).ack, .int .i64 (parse n bs).first, .slice M fs.length mc, .int .i64 0] ∧ (parse n bs).ms = fs.map (·.bs) ∧ OS M fs.length mc 29 1 ((fs).flatMap encB) E ∧ (∀ f ∈ fs, BlIn PG f) ∧ L' = [E, PG])) := by
  have hbl := h.1
  have hbc := h.2.1
  refine callS Try.func78 rfl rfl (fun w0 => ?_)
  refine s_seq ?_
  refine s_region ?_
  refine o_val rfl rfl rfl (y_assign (v := (.int _ _)) rfl) ?_
  refine o_val rfl rfl rfl (y_assign (v := (.int _ _)) rfl) ?_
  refine o_val rfl rfl rfl (y_assign (v := (.slice _ _ _)) rfl) ?_
  refine o_val rfl rfl rfl (y_assign (v := (.int _ _)) rfl) ?_
  refine o_nil ?_
  refine s_seq ?_
  refine s_seq ?_
  refine s_region ?_
  refine o_val rfl rfl rfl (y_move (v := (.slice _ _ _)) rfl) ?_
  refine o_val rfl rfl rfl (y_len Try.runUnderlying29 rfl) ?_
  refine o_val rfl rfl rfl (y_lss rfl rfl) ?_
  refine o_nil ?_
  refine s_if rfl (fun h1 => ?_) (fun h2 => ?_)
  · refine s_seq ?_
    refine s_region ?_
    refine o_val rfl rfl rfl (y_assign (v := (.int _ _)) rfl) ?_
    refine o_val rfl rfl rfl (y_assign (v := (.int _ _)) rfl) ?_
    refine o_val rfl rfl rfl (y_assign (v := (.slice _ _ _)) rfl) ?_
    refine o_val rfl rfl rfl (y_assign (v := (.int _ _)) rfl) ?_
    refine o_nil ?_
    refine s_ret ?_
    have hpe : parse n bs = ⟨14, 0, 0, []⟩ := by unfold parse; rw [if_pos (by omega)]
    exact ⟨_, _, res4 rfl rfl rfl rfl rfl, .inl ⟨hpe ▸ (by decide), (by rw [hpe]; rfl), rfl⟩, sub_picks [] rfl⟩
  · refine s_skip ?_
    refine s_seq ?_
    refine s_region ?_
    refine o_val rfl rfl rfl (y_move (v := (.slice _ _ _)) rfl) ?_
    refine o_val rfl rfl rfl (y_move (v := (.slice _ _ _)) rfl) ?_
    refine o_val rfl rfl rfl (y_len Try.runUnderlying29 rfl) ?_
    refine o_val rfl rfl rfl (y_sub rfl rfl (by simp only [inK]; omega)) ?_
    refine o_val rfl rfl rfl (y_cut_hi Try.runUnderlying29 Try.sizeOf5 rfl rfl (by omega)) ?_
    refine o_val rfl rfl rfl (y_assign (v := (.slice _ _ _)) rfl) ?_
    refine o_nil ?_
    refine s_forget [(0, (.slice _ _ _)), (2, (.int _ _)), (3, (.int _ _)), (4, (.slice _ _ _)), (5, (.int _ _)), (6, (.slice _ _ _))] ⟨rfl, rfl, rfl, rfl, rfl, rfl, trivial⟩ (fun _f => ?_)
    refine s_seq ?_
    refine s_region ?_
    have h0 := h.to (m := (((n : Nat) : Int) - 8).toNat) (by omega)
    have h0l := h0.1
    refine o_val rfl rfl rfl (y_move (v := (.slice _ _ _)) rfl) ?_
    refine o_fn 0 (d := 21) rfl Try.call75 (SumBytes_c _ _ _ _ h0.lift (by omega)) rfl ?_
    rintro _ _ ⟨rfl, rfl⟩
    have hs0 := sumB_in (bs.take (((n : Nat) : Int) - 8).toNat)
    refine o_val rfl rfl rfl (y_assign (v := (.int _ _)) rfl) ?_
    refine o_nil ?_
    refine s_seq ?_
    refine s_seq ?_
    refine s_region ?_
    refine o_val rfl rfl rfl (y_move (v := (.slice _ _ _)) rfl) ?_
    refine o_val rfl rfl rfl (y_move (v := (.slice _ _ _)) rfl) ?_
    refine o_val rfl rfl rfl (y_len Try.runUnderlying29 rfl) ?_
    refine o_val rfl rfl rfl (y_cut_lo Try.runUnderlying29 Try.sizeOf5 rfl rfl (by omega)) ?_
    have ht := h.from (l := (((((n : Nat) : Int) - 8).toNat : Nat) : Int).toNat) (by omega)
    have htl := ht.1
    refine o_val rfl rfl rfl (y_len Try.runUnderlying29 rfl) ?_
    refine o_val rfl rfl rfl (y_move (v := (.int _ _)) rfl) ?_
    refine o_nil ?_
    refine s_block ?_
    refine s_loop (γ := Nat) (fun i => [(0, .slice A n c), (4, .slice none 0 0), (6, .slice A (((n : Nat) : Int) - 8).toNat c), (7, .int .u64 (sumB (bs.take (((n : Nat) : Int) - 8).toNat))), (25, .slice (cutA A c (((((n : Nat) : Int) - 8).toNat : Nat) : Int).toNat 1) (n - (((((n : Nat) : Int) - 8).toNat : Nat) : Int).toNat) (c - (((((n : Nat) : Int) - 8).toNat : Nat) : Int).toNat)), (26, .int .i64 ((n - (((((n : Nat) : Int) - 8).toNat : Nat) : Int).toNat : Nat) : Int)), (27, .int .i64 i)]) (fun i => []) (fun i => i ≤ n - (((((n : Nat) : Int) - 8).toNat : Nat) : Int).toNat ∧ ∀ j, j < i → (bs.drop (((((n : Nat) : Int) - 8).toNat : Nat) : Int).toNat).getD j 0 = (be 8 (sumB (bs.take (((n : Nat) : Int) - 8).toNat)).toNat).getD j 0) (fun i => n - (((((n : Nat) : Int) - 8).toNat : Nat) : Int).toNat - i) (0) ?_ ⟨rfl, rfl, rfl, rfl, rfl, rfl, rfl, trivial⟩ (sub_front ⟨_, rfl⟩) ?_
    · exact ⟨Nat.zero_le _, fun j hj => absurd hj (Nat.not_lt_zero j)⟩
    · intro i _f hJ
      obtain ⟨hi, hall⟩ := hJ
      refine s_seq ?_
      refine s_region ?_
      refine o_val rfl rfl rfl (y_lss rfl rfl) ?_
      refine o_nil ?_
      refine s_seq ?_
      refine s_if rfl (fun h3 => ?_) (fun h4 => ?_)
      · refine s_skip ?_
        refine s_seq ?_
        refine s_block ?_
        refine s_seq ?_
        refine s_region ?_
        refine o_val rfl rfl rfl (y_move (v := (.int _ _)) rfl) ?_
        refine o_val rfl rfl rfl (y_index1 Try.runUnderlying29 Try.sizeOf5 (some_int (i := 0) ht.2.2.1 (by omega)) rfl rfl (by omega)) ?_
        refine o_val rfl rfl rfl (y_load Try.isAgg5 rfl (cel_int ht.2.2.1.here (by omega))) ?_
        refine o_val rfl rfl rfl (y_assign (v := (.int _ _)) rfl) ?_
        refine o_val rfl rfl rfl (y_assign (v := (.int _ _)) rfl) ?_
        refine o_nil ?_
        refine s_seq ?_
        refine s_region ?_
        refine o_val rfl rfl rfl (y_move (v := (.int _ _)) rfl) ?_
        refine o_val rfl rfl rfl (y_move (v := (.int _ _)) rfl) ?_
        refine o_val rfl rfl rfl (y_move (v := (.int _ _)) rfl) ?_
        refine o_val rfl rfl rfl (y_mul rfl rfl (by simp only [inK]; omega)) ?_
        refine o_val rfl rfl rfl (y_sub rfl rfl (by simp only [inK]; omega)) ?_
        refine o_val rfl rfl rfl (y_shr rfl rfl (by omega)) ?_
        refine o_val rfl rfl rfl (y_conv' Try.runUnderlying89 Try.runUnderlying5 rfl) ?_
        refine o_val rfl rfl rfl (y_neq rfl rfl) ?_
        refine o_nil ?_
        refine s_if rfl (fun h5 => ?_) (fun h6 => ?_)
        · have hne := h5
          refine s_seq ?_
          refine s_region ?_
          refine o_val rfl rfl rfl (y_assign (v := (.int _ _)) rfl) ?_
          refine o_val rfl rfl rfl (y_assign (v := (.int _ _)) rfl) ?_
          refine o_val rfl rfl rfl (y_assign (v := (.slice _ _ _)) rfl) ?_
          refine o_val rfl rfl rfl (y_assign (v := (.int _ _)) rfl) ?_
          refine o_nil ?_
          refine s_ret ?_
          have hpe : parse n bs = ⟨13, 0, 0, []⟩ := by
                      unfold parse
                      rw [if_neg (by omega), if_pos (fun he => ?_)]
                      rw [byte_of hs0.1 (by omega), ← he] at hne
                      exact hne rfl
          exact ⟨_, _, res4 rfl rfl rfl rfl rfl, .inl ⟨hpe ▸ (by decide), (by rw [hpe]; rfl), rfl⟩, sub_picks [] rfl⟩
        · have heqb := h6
          refine s_skip ?_
          refine s_region ?_
          refine o_val rfl rfl rfl (y_add rfl rfl (by simp only [inK]; omega)) ?_
          refine o_val rfl rfl rfl (y_move (v := (.int _ _)) rfl) ?_
          refine o_nil ?_
          exact ⟨i + 1, (by first | omega | (dsimp only; omega)), ⟨by omega, fun j hj => if e : j = i then by subst e; exact (Decidable.not_not.1 heqb).trans (byte_of hs0.1 (by omega)) else hall j (by omega)⟩, ⟨rfl, rfl, rfl, rfl, rfl, rfl, (congrArg (Value.int .i64) (by omega)), trivial⟩, sub_front ⟨_, rfl⟩⟩
      · refine s_exit ?_
        refine s_seq ?_
        refine s_drawn 0 (by kernel_rfl) ?_
        have heq : (bs.drop (((((n : Nat) : Int) - 8).toNat : Nat) : Int).toNat) = be 8 (sumB (bs.take (((n : Nat) : Int) - 8).toNat)).toNat := be_ext (by omega) (fun j hj => hall j (by omega))
        refine d_val (i := 0) rfl (by kernel_rfl) (by kernel_rfl) (by kernel_rfl) rfl rfl rfl (y_move (v := (.slice _ _ _)) rfl) ?_
        refine d_val (i := 2) rfl (by kernel_rfl) (by kernel_rfl) (by kernel_rfl) rfl rfl rfl (y_move (v := (.slice _ _ _)) rfl) ?_
        refine d_val (i := 3) rfl (by kernel_rfl) (by kernel_rfl) (by kernel_rfl) rfl rfl rfl (y_cut_lo Try.runUnderlying29 Try.sizeOf5 rfl rfl (by omega)) ?_
        refine d_eff (k := 1) (n := 0) (m := 0) rfl (by kernel_rfl) rfl ?_
        refine o_fn 0 (d := 42) rfl Try.call115 (ValueL_c _ _ _ _ h0.lift (by omega)) rfl ?_
        rintro _ _ ⟨rfl, rfl⟩
        refine o_nil ?_
        refine d_eff (k := 4) (n := 0) (m := 0) rfl (by kernel_rfl) rfl ?_
        refine o_fn 0 (d := 45) rfl Try.call115 (ValueL_c _ _ _ _ (h0.from (l := 4) (by omega)).lift (by omega)) rfl ?_
        rintro _ _ ⟨rfl, rfl⟩
        refine o_nil ?_
        refine d_val (i := 5) rfl (by kernel_rfl) (by kernel_rfl) (by kernel_rfl) rfl rfl rfl (y_assign (v := (.int _ _)) rfl) ?_
        refine d_val (i := 6) rfl (by kernel_rfl) (by kernel_rfl) (by kernel_rfl) rfl rfl rfl (y_assign (v := (.int _ _)) rfl) ?_
        refine d_nil (n := 0) (m := 0) (by kernel_rfl) rfl ?_
        refine s_seq ?_
        refine s_region ?_
        refine o_val rfl rfl rfl (y_move (v := (.slice _ _ _)) rfl) ?_
        refine o_val rfl rfl rfl (y_index1 Try.runUnderlying29 Try.sizeOf5 (some_int (i := 0) h0.2.2.1 (by omega)) rfl rfl (by omega)) ?_
        refine o_val rfl rfl rfl (y_load Try.isAgg5 rfl (cel_int h0.2.2.1.here (by omega))) ?_
        refine o_val rfl rfl rfl (y_conv Try.runUnderlying5 Try.runUnderlying3 rfl (by have := h0.2.2.2 _ (getD_in2 (l := (bs.take (((n : Nat) : Int) - 8).toNat)) (j := ((8 : Int)).toNat) (by omega)); simp only [inK]; omega)) ?_
        refine o_val rfl rfl rfl (y_assign (v := (.int _ _)) rfl) ?_
        refine o_nil ?_
        refine s_forget [(2, (.int _ _)), (3, (.int _ _)), (4, (.slice _ _ _)), (6, (.slice _ _ _)), (10, (.int _ _))] ⟨rfl, rfl, rfl, rfl, rfl, trivial⟩ (fun _f => ?_)
        refine s_seq ?_
        refine s_region ?_
        refine o_val rfl rfl rfl (y_move (v := (.slice _ _ _)) rfl) ?_
        refine o_val rfl rfl rfl (y_cut_lo Try.runUnderlying29 Try.sizeOf5 rfl rfl (by omega)) ?_
        refine o_val rfl rfl rfl (y_assign (v := (.slice _ _ _)) rfl) ?_
        refine o_nil ?_
        refine s_seq ?_
        refine s_seq ?_
        refine s_region ?_
        obtain ⟨mN, hmN⟩ : ∃ k : Nat, (bs.take (((n : Nat) : Int) - 8).toNat).getD ((8 : Int)).toNat 0 = (k : Int) := ⟨((bs.take (((n : Nat) : Int) - 8).toNat).getD ((8 : Int)).toNat 0).toNat, by have := h0.2.2.2 _ (getD_in2 (l := (bs.take (((n : Nat) : Int) - 8).toNat)) (j := ((8 : Int)).toNat) (by omega)); omega⟩
        have hmb : mN ≤ 255 := by have := h0.2.2.2 _ (getD_in2 (l := (bs.take (((n : Nat) : Int) - 8).toNat)) (j := ((8 : Int)).toNat) (by omega)); omega
        have hm8 : (bs.take (((n : Nat) : Int) - 8).toNat).getD 8 0 = (mN : Int) := hmN
        rw [hmN]
        refine o_val rfl rfl rfl (y_move (v := (.int _ _)) rfl) ?_
        refine o_val rfl rfl rfl (y_move (v := (.int _ _)) rfl) ?_
        refine o_nil ?_
        refine s_block ?_
        refine s_group ?_
        refine s_group ?_
        refine s_loop (γ := PM) (fun u => [(2, .int .i64 (val ((bs.take (((n : Nat) : Int) - 8).toNat).take 4))), (3, .int .i64 (val (((bs.take (((n : Nat) : Int) - 8).toNat).drop 4).take 4))), (4, .slice u.M u.fs.length u.mc), (6, .slice u.A u.n u.c), (10, .int .i64 mN), (52, .int .i64 mN), (53, .int .i64 u.i)]) (fun u => [u.E, u.PG]) (fun u => (u.i ≤ mN ∧ u.n ≤ n ∧ u.fs.length = u.i) ∧ BB V u.A u.n u.c u.rest ∧ msgGo mN ((bs.take (((n : Nat) : Int) - 8).toNat).drop 9) = (msgGo (mN - u.i) u.rest).map (fun x => (u.fs.map (·.bs) ++ x.1, x.2)) ∧ OS u.M u.fs.length u.mc 29 1 ((u.fs).flatMap encB) u.E ∧ (∀ f ∈ u.fs, BlIn u.PG f)) (fun u => mN - u.i) (PM.mk 0 _ _ _ ((bs.take (((n : Nat) : Int) - 8).toNat).drop 9) [] none 0 [] []) ?_ ⟨rfl, rfl, rfl, rfl, rfl, rfl, rfl, trivial⟩ (sub_front ⟨_, rfl⟩) ?_
        · exact ⟨⟨Nat.zero_le _, by dsimp only; omega, rfl⟩, h0.from (l := 9) (by omega), by simp, OS.nil _ _, fun f hf => absurd hf List.not_mem_nil⟩
        · intro u _f hJ2
          obtain ⟨⟨hi, hle, hfl⟩, hB, hgo, hou, hin⟩ := hJ2
          have hBl := hB.1
          have hBc := hB.2.1
          refine s_seq ?_
          refine s_region ?_
          refine o_val rfl rfl rfl (y_lss rfl rfl) ?_
          refine o_nil ?_
          refine s_seq ?_
          refine s_if rfl (fun h7 => ?_) (fun h8 => ?_)
          · refine s_skip ?_
            refine s_seq ?_
            refine s_block ?_
            refine s_seq ?_
            refine s_seq ?_
            refine s_quiet (by kernel_rfl) (by kernel_rfl) ?_
            refine q_val rfl rfl rfl (y_move (v := (.slice _ _ _)) rfl) ?_
            refine q_val rfl rfl rfl (y_len Try.runUnderlying29 rfl) ?_
            refine q_split rfl rfl rfl (y_lss rfl rfl) (fun p9 => ?_) (fun p10 => ?_)
            · have hbad : u.rest.length < 2 ∨ (u.rest.length : Int) - 2 < val (u.rest.take 2) := .inl (by omega)
              refine q_val rfl rfl rfl (y_move (v := (.bool _)) rfl) ?_
              refine q_guard_no rfl rfl rfl rfl rfl ?_
              refine q_guard_no rfl rfl rfl rfl rfl ?_
              refine q_guard_no rfl rfl rfl rfl rfl ?_
              refine q_guard_no rfl rfl rfl rfl rfl ?_
              refine q_guard_no rfl rfl rfl rfl rfl ?_
              refine q_guard_no rfl rfl rfl rfl rfl ?_
              refine q_guard_no rfl rfl rfl rfl rfl ?_
              refine q_guard_no rfl rfl rfl rfl rfl ?_
              refine q_guard_no rfl rfl rfl rfl rfl ?_
              refine q_guard_no rfl rfl rfl rfl rfl ?_
              refine q_guard_no rfl rfl rfl rfl rfl ?_
              refine q_guard_no rfl rfl rfl rfl rfl ?_
              refine q_guard_no rfl rfl rfl rfl rfl ?_
              refine q_guard_no rfl rfl rfl rfl rfl ?_
              refine q_val rfl rfl rfl (y_pick_t (v := (.bool _)) rfl rfl) ?_
              refine q_nil ?_
              refine s_then rfl ?_
              refine s_seq ?_
              refine s_region ?_
              refine o_val rfl rfl rfl (y_assign (v := (.int _ _)) rfl) ?_
              refine o_val rfl rfl rfl (y_assign (v := (.int _ _)) rfl) ?_
              refine o_val rfl rfl rfl (y_assign (v := (.slice _ _ _)) rfl) ?_
              refine o_val rfl rfl rfl (y_assign (v := (.int _ _)) rfl) ?_
              refine o_nil ?_
              refine s_ret ?_
              have hpe : parse n bs = ⟨3, 0, 0, []⟩ := by unfold parse; rw [if_neg (by omega), if_neg (fun hh => hh heq), hm8, Int.toNat_natCast, hgo, show mN - u.i = (mN - u.i - 1) + 1 by omega, msgGo_none hbad]; rfl
              exact ⟨_, _, res4 rfl rfl rfl rfl rfl, .inl ⟨hpe ▸ (by decide), (by rw [hpe]; rfl), rfl⟩, sub_picks [] rfl⟩
            · have h2r := p10
              have hy0 := hB.2.2.2 _ (getD_in2 (l := u.rest) (j := ((0 : Int)).toNat) (by omega))
              have hy1 := hB.2.2.2 _ (getD_in2 (l := u.rest) (j := ((1 : Int)).toNat) (by omega))
              have hor := (or2 hy0 hy1).trans (val2 (bs := u.rest) (by omega)).symm
              have hvb := val_bd 2 (u.rest.take 2) (by rw [List.length_take]; omega) (fun b hb => hB.2.2.2 b (List.mem_of_mem_take hb))
              refine q_val rfl rfl rfl (y_move (v := (.bool _)) rfl) ?_
              refine q_guard_yes rfl rfl ?_
              refine q_val rfl rfl rfl (y_move (v := (.slice _ _ _)) rfl) ?_
              refine q_guard_yes rfl rfl ?_
              refine q_val rfl rfl rfl (y_len Try.runUnderlying29 rfl) ?_
              refine q_guard_yes rfl rfl ?_
              refine q_val rfl rfl rfl (y_sub rfl rfl (by simp only [inK]; omega)) ?_
              refine q_guard_yes rfl rfl ?_
              refine q_val rfl rfl rfl (y_move (v := (.slice _ _ _)) rfl) ?_
              refine q_guard_yes rfl rfl ?_
              refine q_val rfl rfl rfl (y_index1 Try.runUnderlying29 Try.sizeOf5 (some_int (i := 0) hB.2.2.1 (by omega)) rfl rfl (by omega)) ?_
              refine q_guard_yes rfl rfl ?_
              refine q_val rfl rfl rfl (y_load Try.isAgg5 rfl (cel_int hB.2.2.1.here (by omega))) ?_
              refine q_guard_yes rfl rfl ?_
              refine q_val rfl rfl rfl (y_conv Try.runUnderlying5 Try.runUnderlying3 rfl (by simp only [inK]; omega)) ?_
              refine q_guard_yes rfl rfl ?_
              refine q_val rfl rfl rfl (y_shl rfl rfl (by omega)) ?_
              refine q_guard_yes rfl rfl ?_
              refine q_val rfl rfl rfl (y_move (v := (.slice _ _ _)) rfl) ?_
              refine q_guard_yes rfl rfl ?_
              refine q_val rfl rfl rfl (y_index1 Try.runUnderlying29 Try.sizeOf5 (some_int (i := 0) hB.2.2.1 (by omega)) rfl rfl (by omega)) ?_
              refine q_guard_yes rfl rfl ?_
              refine q_val rfl rfl rfl (y_load Try.isAgg5 rfl (cel_int hB.2.2.1.here (by omega))) ?_
              refine q_guard_yes rfl rfl ?_
              refine q_val rfl rfl rfl (y_conv Try.runUnderlying5 Try.runUnderlying3 rfl (by simp only [inK]; omega)) ?_
              refine q_guard_yes rfl rfl ?_
              refine q_val rfl rfl rfl ((y_or rfl rfl).int (hor)) ?_
              refine q_guard_yes rfl rfl ?_
              refine q_val rfl rfl rfl (y_lss rfl rfl) ?_
              refine q_val rfl rfl rfl (y_pick_f (v := (.bool _)) rfl rfl) ?_
              refine q_nil ?_
              refine s_if rfl (fun h11 => ?_) (fun h12 => ?_)
              · have hbad : u.rest.length < 2 ∨ (u.rest.length : Int) - 2 < val (u.rest.take 2) := by first | assumption | exact .inr (by omega)
                refine s_seq ?_
                refine s_region ?_
                refine o_val rfl rfl rfl (y_assign (v := (.int _ _)) rfl) ?_
                refine o_val rfl rfl rfl (y_assign (v := (.int _ _)) rfl) ?_
                refine o_val rfl rfl rfl (y_assign (v := (.slice _ _ _)) rfl) ?_
                refine o_val rfl rfl rfl (y_assign (v := (.int _ _)) rfl) ?_
                refine o_nil ?_
                refine s_ret ?_
                have hpe : parse n bs = ⟨3, 0, 0, []⟩ := by unfold parse; rw [if_neg (by omega), if_neg (fun hh => hh heq), hm8, Int.toNat_natCast, hgo, show mN - u.i = (mN - u.i - 1) + 1 by omega, msgGo_none hbad]; rfl
                exact ⟨_, _, res4 rfl rfl rfl rfl rfl, .inl ⟨hpe ▸ (by decide), (by rw [hpe]; rfl), rfl⟩, sub_picks [] rfl⟩
              · have hgood : ¬ (u.rest.length < 2 ∨ (u.rest.length : Int) - 2 < val (u.rest.take 2)) := by omega
                have hM := hB.cut (l := 2) (m := (2 + val (u.rest.take 2)).toNat) (by omega) (by omega)
                refine s_skip ?_
                refine s_seq ?_
                refine s_quiet (by kernel_rfl) (by kernel_rfl) ?_
                refine q_val rfl rfl rfl (y_move (v := (.slice _ _ _)) rfl) ?_
                refine q_val rfl rfl rfl (y_index1 Try.runUnderlying29 Try.sizeOf5 (some_int (i := 0) hB.2.2.1 (by omega)) rfl rfl (by omega)) ?_
                refine q_val rfl rfl rfl (y_load Try.isAgg5 rfl (cel_int hB.2.2.1.here (by omega))) ?_
                refine q_val rfl rfl rfl (y_conv Try.runUnderlying5 Try.runUnderlying3 rfl (by simp only [inK]; omega)) ?_
                refine q_val rfl rfl rfl (y_shl rfl rfl (by omega)) ?_
                refine q_val rfl rfl rfl (y_move (v := (.slice _ _ _)) rfl) ?_
                refine q_val rfl rfl rfl (y_index1 Try.runUnderlying29 Try.sizeOf5 (some_int (i := 0) hB.2.2.1 (by omega)) rfl rfl (by omega)) ?_
                refine q_val rfl rfl rfl (y_load Try.isAgg5 rfl (cel_int hB.2.2.1.here (by omega))) ?_
                refine q_val rfl rfl rfl (y_conv Try.runUnderlying5 Try.runUnderlying3 rfl (by simp only [inK]; omega)) ?_
                refine q_val rfl rfl rfl ((y_or rfl rfl).int (hor)) ?_
                refine q_val rfl rfl rfl (y_assign (v := (.int _ _)) rfl) ?_
                refine q_nil ?_
                refine s_seq ?_
                refine s_region ?_
                refine o_val rfl rfl rfl (y_move (v := (.slice _ _ _)) rfl) ?_
                refine o_val rfl rfl rfl (y_move (v := (.slice _ _ _)) rfl) ?_
                refine o_val rfl rfl rfl (y_move (v := (.int _ _)) rfl) ?_
                refine o_val rfl rfl rfl (y_add rfl rfl (by simp only [inK]; omega)) ?_
                refine o_val rfl rfl rfl (y_cut_lohi Try.runUnderlying29 Try.sizeOf5 rfl rfl rfl (by omega)) ?_
                refine o_fn 0 (d := 89) rfl Try.call68 (BClone_c _ _ _ ((u.rest.drop 2).take ((2 + val (u.rest.take 2)).toNat - 2)) hM.lift.2.2.1 hM.1 (by omega)) rfl ?_
                rintro _ _ ⟨cB, ce, cG, rfl, hco, rfl⟩
                have hall := blin_snoc hin (BlIn.new (PG := u.PG) hco (by omega) hM.2.2.2)
                refine o_pull 2 ?_
                refine o_pull 1 ?_
                refine o_fuse ?_
                refine o_lit (vs := [(0, .slice _ _ _)]) rfl rfl (OpenL_k0 _ _ _) (fun b13 => ?_)
                refine o_append (sz := 1) (bytes := 24) (news := [(.slice _ _ _)]) 1 rfl Try.underlying60 Try.type29 rfl rfl rfl rfl rfl hou rfl rfl (Src.slice Try.underlying60 (cels_own 2 rfl rfl) rfl (by simp [Value.oneCell']) (by simp)) (by omega) (fun A14 c15 E16 ho17 hn18 => ?_)
                have ho19 : OS A14 (u.fs.length + 1) c15 29 1 ((u.fs ++ [fl cB ((2 + val (u.rest.take 2)).toNat - 2) ce ((u.rest.drop 2).take ((2 + val (u.rest.take 2)).toNat - 2))]).flatMap encB) E16 := (os_eq ho17 (by rw [List.flatMap_append]; rfl))
                clear ho17
                refine o_val rfl rfl rfl (y_assign (v := (.slice _ _ _)) rfl) ?_
                refine o_nil ?_
                refine s_norm [_, _, [(_, .cells [(.slice _ _ _)].toArray 29 (0, 0))]] rfl ?_
                refine s_region ?_
                refine o_val rfl rfl rfl (y_move (v := (.slice _ _ _)) rfl) ?_
                refine o_val rfl rfl rfl (y_move (v := (.int _ _)) rfl) ?_
                refine o_val rfl rfl rfl (y_add rfl rfl (by simp only [inK]; omega)) ?_
                refine o_val rfl rfl rfl (y_cut_lo Try.runUnderlying29 Try.sizeOf5 rfl rfl (by omega)) ?_
                refine o_val rfl rfl rfl (y_assign (v := (.slice _ _ _)) rfl) ?_
                refine o_nil ?_
                refine s_region ?_
                refine o_val rfl rfl rfl (y_add rfl rfl (by simp only [inK]; omega)) ?_
                refine o_val rfl rfl rfl (y_move (v := (.int _ _)) rfl) ?_
                refine o_nil ?_
                have hstep := msgGo_step (k := mN - (u.i + 1)) hgood
                exact ⟨PM.mk (u.i + 1) (cutA u.A u.c (2 + val (u.rest.take 2)).toNat 1) (u.n - (2 + val (u.rest.take 2)).toNat) (u.c - (2 + val (u.rest.take 2)).toNat) (u.rest.drop (2 + val (u.rest.take 2)).toNat) (u.fs ++ [fl cB ((2 + val (u.rest.take 2)).toNat - 2) ce ((u.rest.drop 2).take ((2 + val (u.rest.take 2)).toNat - 2))]) A14 c15 E16 (cG ++ u.PG), (by first | omega | (dsimp only; omega)), ⟨⟨by dsimp only; omega, by dsimp only; omega, by dsimp only; rw [List.length_append, hfl]; rfl⟩, hB.from (by omega), (by dsimp only; rw [hgo, show mN - u.i = mN - (u.i + 1) + 1 by omega, hstep]; cases msgGo (mN - (u.i + 1)) (u.rest.drop (2 + val (u.rest.take 2)).toNat) <;> simp [fl]), (by dsimp only; rw [List.length_append]; exact ho19), hall⟩, ⟨rfl, rfl, (congrArg (fun x : Nat => Value.slice A14 x c15) (by dsimp only; rw [List.length_append]; rfl)), rfl, rfl, rfl, (congrArg (Value.int .i64) (by dsimp only; omega)), trivial⟩, (sub_picks [1, 0] rfl)⟩
          · refine s_exit ?_
            refine s_seq ?_
            refine s_seq ?_
            refine s_region ?_
            refine o_val rfl rfl rfl (y_move (v := (.int _ _)) rfl) ?_
            refine o_split rfl rfl rfl (y_gtr rfl rfl) (fun p20 => ?_) (fun p21 => ?_)
            · have hbad : 8 < (mN : Int) ∨ 0 < u.rest.length := by omega
              refine o_val rfl rfl rfl (y_move (v := (.bool _)) rfl) ?_
              refine o_guard_no rfl rfl rfl rfl rfl ?_
              refine o_guard_no rfl rfl rfl rfl rfl ?_
              refine o_guard_no rfl rfl rfl rfl rfl ?_
              refine o_val rfl rfl rfl (y_pick_t (v := (.bool _)) rfl rfl) ?_
              refine o_nil ?_
              refine s_then rfl ?_
              refine s_seq ?_
              refine s_region ?_
              refine o_val rfl rfl rfl (y_assign (v := (.int _ _)) rfl) ?_
              refine o_val rfl rfl rfl (y_assign (v := (.int _ _)) rfl) ?_
              refine o_val rfl rfl rfl (y_assign (v := (.slice _ _ _)) rfl) ?_
              refine o_val rfl rfl rfl (y_assign (v := (.int _ _)) rfl) ?_
              refine o_nil ?_
              refine s_ret ?_
              have hpe : parse n bs = ⟨3, 0, 0, []⟩ := by unfold parse; rw [if_neg (by omega), if_neg (fun hh => hh heq), hm8, Int.toNat_natCast, hgo, show mN - u.i = 0 by omega]; simp only [msgGo, Option.map_some]; rw [if_pos hbad]
              exact ⟨_, _, res4 rfl rfl rfl rfl rfl, .inl ⟨hpe ▸ (by decide), (by rw [hpe]; rfl), rfl⟩, sub_picks [] rfl⟩
            · refine o_val rfl rfl rfl (y_move (v := (.bool _)) rfl) ?_
              refine o_guard_yes rfl rfl ?_
              refine o_val rfl rfl rfl (y_move (v := (.slice _ _ _)) rfl) ?_
              refine o_guard_yes rfl rfl ?_
              refine o_val rfl rfl rfl (y_len Try.runUnderlying29 rfl) ?_
              refine o_guard_yes rfl rfl ?_
              refine o_val rfl rfl rfl (y_gtr rfl rfl) ?_
              refine o_val rfl rfl rfl (y_pick_f (v := (.bool _)) rfl rfl) ?_
              refine o_nil ?_
              refine s_if rfl (fun h22 => ?_) (fun h23 => ?_)
              · have hbad : 8 < (mN : Int) ∨ 0 < u.rest.length := by omega
                refine s_seq ?_
                refine s_region ?_
                refine o_val rfl rfl rfl (y_assign (v := (.int _ _)) rfl) ?_
                refine o_val rfl rfl rfl (y_assign (v := (.int _ _)) rfl) ?_
                refine o_val rfl rfl rfl (y_assign (v := (.slice _ _ _)) rfl) ?_
                refine o_val rfl rfl rfl (y_assign (v := (.int _ _)) rfl) ?_
                refine o_nil ?_
                refine s_ret ?_
                have hpe : parse n bs = ⟨3, 0, 0, []⟩ := by unfold parse; rw [if_neg (by omega), if_neg (fun hh => hh heq), hm8, Int.toNat_natCast, hgo, show mN - u.i = 0 by omega]; simp only [msgGo, Option.map_some]; rw [if_pos hbad]
                exact ⟨_, _, res4 rfl rfl rfl rfl rfl, .inl ⟨hpe ▸ (by decide), (by rw [hpe]; rfl), rfl⟩, sub_picks [] rfl⟩
              · have hbad : ¬ (8 < (mN : Int) ∨ 0 < u.rest.length) := by omega
                refine s_skip ?_
                refine s_seq ?_
                refine s_region ?_
                refine o_val rfl rfl rfl (y_move (v := (.int _ _)) rfl) ?_
                refine o_val rfl rfl rfl (y_move (v := (.int _ _)) rfl) ?_
                refine o_val rfl rfl rfl (y_move (v := (.slice _ _ _)) rfl) ?_
                refine o_val rfl rfl rfl (y_assign (v := (.int _ _)) rfl) ?_
                refine o_val rfl rfl rfl (y_assign (v := (.int _ _)) rfl) ?_
                refine o_val rfl rfl rfl (y_assign (v := (.slice _ _ _)) rfl) ?_
                refine o_val rfl rfl rfl (y_assign (v := (.int _ _)) rfl) ?_
                refine o_nil ?_
                refine s_forget [(2, (.int _ _)), (3, (.int _ _)), (4, (.slice _ _ _)), (5, (.int _ _))] ⟨rfl, rfl, rfl, rfl, trivial⟩ (fun _f => ?_)
                refine s_ret ?_
                have hpe : parse n bs = ⟨0, val ((bs.take (((n : Nat) : Int) - 8).toNat).take 4), val (((bs.take (((n : Nat) : Int) - 8).toNat).drop 4).take 4), u.fs.map (·.bs)⟩ := by unfold parse; rw [if_neg (by omega), if_neg (fun hh => hh heq), hm8, Int.toNat_natCast, hgo, show mN - u.i = 0 by omega]; simp only [msgGo, Option.map_some]; rw [if_neg hbad, List.append_nil]
                exact ⟨_, _, res4 rfl rfl rfl rfl rfl, .inr ⟨by rw [hpe], _, _, u.fs, _, _, (by rw [hpe]; rfl), (by rw [hpe]), hou, hin, rfl⟩, sub_picks [0, 0] rfl⟩

end Go.Proofs.Ytdgmocibjjkghaa.K

/- Walks over the package net: deeds, and packets put on their way. No condition beyond what each statement names. -/
import Derived.Test.YtdgmocibjjkghaaProg
import Derived.Test.YtdgmocibjjkghaaK13
import Derived.Test.YtdgmocibjjkghaaB9
set_option linter.unusedVariables false
set_option linter.unusedSimpArgs false
set_option maxRecDepth 100000
namespace Go.Proofs.Ytdgmocibjjkghaa.K
open Go.RowKit

theorem BClone_k0 (w : World) : (Instr.buildSlice 29 0 ([] : List (Nat × Value)).toArray).run Try.prog w = .ok (.slice (some ⟨w.heap.size, 0, none⟩) 0 0) { w with heap := w.heap.push (.cells ([] : List Value).toArray 5 (0, 0)) } := by kernel_rfl
theorem BClone_c {V : Mem} (A : Option Addr) (n c : Nat) (bb : List Int) (h : Cels V [] A ((bb).map (.int .u8))) (hn : bb.length = n) (hb : n * 1 ≤ 140737488355328) : CallS Try.prog 68 [.slice A n c].toArray V []
    (fun r L' => ∃ B e G, r = .slice B n e ∧ OS B n e 5 1 ((bb).map (.int .u8)) G ∧ L' = [G]) := by
  refine callS Try.func68 rfl rfl (fun w0 => ?_)
  refine s_seq ?_
  refine s_region ?_
  refine o_val rfl rfl rfl (y_assign (v := (.slice _ _ _)) rfl) ?_
  refine o_nil ?_
  refine s_seq ?_
  refine s_seq ?_
  refine s_region ?_
  refine o_val rfl rfl rfl (y_move (v := (.slice _ _ _)) rfl) ?_
  refine o_val rfl rfl rfl (y_eql_nil Try.underlying29 rfl rfl) ?_
  refine o_nil ?_
  refine s_if rfl (fun h1 => ?_) (fun h2 => ?_)
  · subst h1
    have hbb := h.none_nil
    have hb0 : bb = [] := by simpa using hbb
    subst hb0
    obtain rfl : 0 = n := hn
    refine s_seq ?_
    refine s_region ?_
    refine o_val rfl rfl rfl (y_assign (v := (.slice _ _ _)) rfl) ?_
    refine o_nil ?_
    refine s_ret ?_
    exact ⟨_, [[]], res1 rfl rfl, ⟨_, _, [], rfl, OS.nil _ _, rfl⟩, sub_none⟩
  · refine s_skip ?_
    refine s_seq ?_
    refine s_region ?_
    refine o_lit (vs := []) rfl rfl (BClone_k0) (fun b3 => ?_)
    refine o_val rfl rfl rfl (y_move (v := (.slice _ _ _)) rfl) ?_
    refine o_append (sz := 1) (bytes := 1) (news := (bb).map (.int .u8)) 0 rfl Try.underlying29 Try.type5 rfl rfl rfl rfl rfl (OS.lit (sz := 1) (n := 0) rfl (by decide)) rfl rfl (Src.rd (sz := 0) Try.underlying29 h.here (by simp [hn]) (one_int _ _)) (by omega) (fun A4 c5 E6 ho7 hn8 => ?_)
    have ho9 : OS A4 n c5 5 1 ((bb).map (.int .u8)) E6 := by simpa using ho7
    clear ho7
    refine o_val rfl rfl rfl (y_assign (v := (.slice _ _ _)) rfl) ?_
    refine o_nil ?_
    refine s_norm [_] rfl ?_
    refine s_ret ?_
    exact ⟨_, _, res1 rfl rfl, ⟨_, _, _, congrArg (fun k => Value.slice _ k _) (Nat.zero_add _), ho9, rfl⟩, sub_front ⟨_, rfl⟩⟩

/-- A deed. -/
structure DD where
  kind : Int
  packet : Int
  n : Int
instance : Inhabited DD := ⟨⟨0, 0, 0⟩⟩
def encD (d : DD) : List Value := [.int .i64 d.kind, .int .i64 d.packet, .int .i64 d.n]
theorem encD_len (d : DD) : (encD d).length = 3 := rfl
def DD.fit (d : DD) : Prop := inK .i64 d.kind ∧ inK .i64 d.packet ∧ inK .i64 d.n
def DD.ok (d : DD) : Prop := 0 ≤ d.kind ∧ d.kind ≤ 2 ∧ 0 ≤ d.packet ∧ d.packet ≤ 32767 ∧ 0 ≤ d.n ∧ d.n ≤ 50 ∧ (d.kind = 0 → d.n = 0)
instance (d : DD) : Decidable d.ok := by unfold DD.ok; infer_instance
/-- A packet on its way. -/
structure FL where
  due : Int
  num : Int
  src : Int
  dst : Int
  A : Option Addr
  n : Nat
  c : Nat
  bs : List Int
instance : Inhabited FL := ⟨⟨0, 0, 0, 0, none, 0, 0, []⟩⟩
def encFl (f : FL) : List Value := [.int .i64 f.due, .int .i64 f.num, .int .i64 f.src, .int .i64 f.dst, .slice f.A f.n f.c]
theorem encFl_len (f : FL) : (encFl f).length = 5 := rfl
theorem encFl_one (fs : List FL) : ∀ c ∈ fs.flatMap encFl, c.oneCell' = true := by
  intro c hc
  obtain ⟨f, _, hf⟩ := List.mem_flatMap.1 hc
  simp only [encFl, List.mem_cons, List.not_mem_nil, or_false] at hf
  rcases hf with rfl | rfl | rfl | rfl | rfl <;> rfl
theorem encD_one (fs : List DD) : ∀ c ∈ fs.flatMap encD, c.oneCell' = true := by
  intro c hc
  obtain ⟨f, _, hf⟩ := List.mem_flatMap.1 hc
  simp only [encD, List.mem_cons, List.not_mem_nil, or_false] at hf
  rcases hf with rfl | rfl | rfl <;> rfl
/-- The network's own block. -/
def netg (b : Nat) (ends : Int) (dA : Option Addr) (dn dc : Nat) (now sent : Int) (aA : Option Addr) (an ac : Nat) : Grp := [(b, .cells [.int .i64 ends, .slice dA dn dc, .int .i64 now, .int .i64 sent, .slice aA an ac].toArray 130 (0, 0))]
/-- Where a packet goes among those on their way. -/
def InsF (fs : List FL) (x : FL) (gs : List FL) : Prop := ∃ k, k ≤ fs.length ∧ gs = fs.take k ++ x :: fs.drop k ∧ (∀ j, k ≤ j → j < fs.length → x.due < (fs.getD j default).due) ∧ (k = 0 ∨ (fs.getD (k - 1) default).due ≤ x.due)
theorem flat_drop {α : Type} {enc : α → List Value} {sz : Nat} (hsz : ∀ x, (enc x).length = sz) : ∀ (xs : List α) (k : Nat), (xs.flatMap enc).drop (k * sz) = (xs.drop k).flatMap enc
  | xs, 0 => by simp
  | [], k + 1 => by simp
  | x :: xs, k + 1 => by
    rw [List.flatMap_cons, List.drop_succ_cons, ← flat_drop hsz xs k, show (k + 1) * sz = (enc x).length + k * sz by rw [hsz, Nat.add_mul]; omega, List.drop_append]
    simp
theorem flat_take {α : Type} {enc : α → List Value} {sz : Nat} (hsz : ∀ x, (enc x).length = sz) : ∀ (xs : List α) (k : Nat), (xs.flatMap enc).take (k * sz) = (xs.take k).flatMap enc
  | xs, 0 => by simp
  | [], k + 1 => by simp
  | x :: xs, k + 1 => by
    rw [List.flatMap_cons, List.take_succ_cons, List.flatMap_cons, ← flat_take hsz xs k, show (k + 1) * sz = (enc x).length + k * sz by rw [hsz, Nat.add_mul]; omega, List.take_length_add_append]
theorem lay_flat {α : Type} {enc : α → List Value} {sz : Nat} (hsz : ∀ x, (enc x).length = sz) (xs ys : List α) (k : Nat) (hk : k + ys.length ≤ xs.length) : lay (xs.flatMap enc) (k * sz) (ys.flatMap enc) = (xs.take k ++ ys ++ xs.drop (k + ys.length)).flatMap enc := by
  unfold lay
  rw [flat_len hsz ys, ← Nat.add_mul, flat_take hsz, flat_drop hsz]
  simp
/-- The copy that makes room. -/
theorem room_cells (fs : List FL) (z : FL) (k : Nat) (hk : k ≤ fs.length) : lay ((fs ++ [z]).flatMap encFl) ((k + 1) * 5) ((((fs ++ [z]).drop k).flatMap encFl).take ((fs.length - k) * 5)) = ((fs ++ [z]).take (k + 1) ++ fs.drop k).flatMap encFl := by
  rw [flat_take encFl_len]
  have e : ((fs ++ [z]).drop k).take (fs.length - k) = fs.drop k := by
    rw [List.drop_append_of_le_length hk, List.take_append_of_le_length (by simp), List.take_of_length_le (by simp)]
  have e3 : (fs ++ [z]).drop (k + 1 + (fs.drop k).length) = [] := List.drop_of_length_le (by simp only [List.length_drop, List.length_append, List.length_cons, List.length_nil]; omega)
  rw [e, lay_flat encFl_len _ _ _ (by simp only [List.length_drop, List.length_append, List.length_cons, List.length_nil]; omega), e3, List.append_nil]
theorem all_down {an g : Nat} {P : Nat → Prop} (h : ∀ j, g ≤ j → j < an → P j) (h1 : P (((g : Nat) : Int) - 1).toNat) (h0 : 0 < g) : ∀ j, g - 1 ≤ j → j < an → P j := fun j hj hlt => by
  by_cases e : j = g - 1
  · rw [e]; rwa [show (((g : Nat) : Int) - 1).toNat = g - 1 by omega] at h1
  · exact h j (by omega) hlt
theorem le_down {fs : List FL} {g : Nat} {d : Int} (h : ¬ d < (fs.getD (((g : Nat) : Int) - 1).toNat default).due) (h0 : 0 < g) : g = 0 ∨ (fs.getD (g - 1) default).due ≤ d := by
  rw [show (((g : Nat) : Int) - 1).toNat = g - 1 by omega] at h
  exact .inr (by omega)
theorem room_set (fs : List FL) (z x : FL) (k : Nat) (hk : k ≤ fs.length) : ((fs ++ [z]).take (k + 1) ++ fs.drop k).set k x = fs.take k ++ x :: fs.drop k := by
  have h1 : (fs ++ [z]).take (k + 1) = fs.take k ++ [(fs ++ [z])[k]'(by simp; omega)] := by
    rw [List.take_add_one, List.getElem?_eq_getElem (by simp; omega), List.take_append_of_le_length hk]; rfl
  rw [h1, List.append_assoc, List.set_append_right _ _ (by simp; omega)]
  simp [Nat.min_eq_left hk]

theorem cut_at {V : Mem} {L : List Grp} {A : Option Addr} {c k : Nat} {i : Int} {ys : List FL} (h : Cels V L A (ys.flatMap encFl)) (hi : i = k) (hc : k < c) : Cels V L (cutA A c i.toNat 5) ((ys.drop k).flatMap encFl) := by
  subst hi
  unfold cutA
  rw [if_neg (by omega), ← flat_drop encFl_len, Int.toNat_natCast]
  refine h.sub (k * 5) fun i c hi => ?_
  rwa [List.getElem?_drop] at hi
theorem lay_all (l vs : List Value) (h : l.length = vs.length) : lay l 0 vs = vs := by
  unfold lay; rw [← h]; simp

theorem fly_k0 (w : World) : (Instr.build 133 ([] : List (Nat × Value)).toArray).run Try.prog w = .ok (.agg #[.int .i64 0, .int .i64 0, .int .i64 0, .int .i64 0, .slice none 0 0]) w := by kernel_rfl
theorem fly_k1 (v0x0 : Int) (v0x1 : Int) (v0x2 : Int) (v0x3 : Int) (v0x4A : Option Addr) (v0x4n : Nat) (v0x4c : Nat) (w : World) : (Instr.buildSlice 128 1 ([(0, (.agg #[(.int .i64 v0x0), (.int .i64 v0x1), (.int .i64 v0x2), (.int .i64 v0x3), (.slice v0x4A v0x4n v0x4c)]))] : List (Nat × Value)).toArray).run Try.prog w = .ok (.slice (some ⟨w.heap.size, 0, none⟩) 1 1) { w with heap := w.heap.push (.cells ([.int .i64 v0x0, .int .i64 v0x1, .int .i64 v0x2, .int .i64 v0x3, .slice v0x4A v0x4n v0x4c] : List Value).toArray 133 (0, 0)) } := by kernel_rfl
theorem fly_k2 (v0 : Int) (v1 : Int) (v2x0 : Int) (v2x1 : Int) (v2x2A : Option Addr) (v2x2n : Nat) (v2x2c : Nat) (w : World) : (Instr.build 133 ([(0, (.int .i64 v0)), (1, (.int .i64 v1)), (2, (.agg #[(.int .i64 v2x0), (.int .i64 v2x1), (.slice v2x2A v2x2n v2x2c)]))] : List (Nat × Value)).toArray).run Try.prog w = .ok (.agg #[.int .i64 v0, .int .i64 v1, .int .i64 v2x0, .int .i64 v2x1, .slice v2x2A v2x2n v2x2c]) w := by kernel_rfl
theorem fly_c {V : Mem} (b : Nat) (ends : Int) (dA : Option Addr) (dn dc : Nat) (now sent : Int) (aA : Option Addr) (an ac : Nat) (fs : List FL) (AG : Grp) (hos : OS aA an ac 133 5 ((fs).flatMap encFl) AG) (hb : an ≤ 33000000) (x : FL) : CallS Try.prog 67 [.pointer (some ⟨b, 0, none⟩), .int .i64 x.due, .int .i64 x.num, .agg #[.int .i64 x.src, .int .i64 x.dst, .slice x.A x.n x.c]].toArray V [netg b ends dA dn dc now sent aA an ac, AG] (fun r L' => r = .tuple #[] ∧ ∃ A' c' E' gs, InsF fs x gs ∧ OS A' (an + 1) c' 133 5 ((gs).flatMap encFl) E' ∧ L' = [netg b ends dA dn dc now sent A' (an + 1) c', E']) := by
  have hfl : fs.length = an := by have := hos.len; rw [flat_len encFl_len] at this; omega
  refine callS Try.func67 rfl rfl (fun w0 => ?_)
  refine s_seq ?_
  refine s_region ?_
  refine o_box (v := (.agg #[(.int _ _), (.int _ _), (.slice _ _ _)])) rfl rfl rfl (fun b1 => ?_)
  refine o_nil ?_
  refine s_seq ?_
  refine s_region ?_
  refine o_val rfl rfl rfl (y_move (v := (.pointer _)) rfl) ?_
  refine o_val rfl rfl rfl (y_nilCheck rfl) ?_
  refine o_val rfl rfl rfl (y_field0 Try.runUnderlying130 rfl Try.sizeOf128 rfl rfl) ?_
  refine o_val rfl rfl rfl (y_load Try.isAgg128 rfl (cel_own 0 rfl rfl)) ?_
  refine o_val rfl rfl rfl (y_len Try.runUnderlying128 rfl) ?_
  refine o_val rfl rfl rfl (y_assign (v := (.int _ _)) rfl) ?_
  refine o_nil ?_
  refine s_seq ?_
  refine s_block ?_
  refine s_loop (γ := Nat) (fun g => [(0, .pointer (some ⟨b, 0, none⟩)), (1, .int .i64 x.due), (2, .int .i64 x.num), (7, .pointer (some ⟨b1, 0, none⟩)), (8, .int .i64 g)]) (fun g => [netg b ends dA dn dc now sent aA an ac, AG, [(b1, .cells [.int .i64 x.src, .int .i64 x.dst, .slice x.A x.n x.c].toArray 34 (0, 0))]]) (fun g => g ≤ an ∧ ∀ j, g ≤ j → j < an → x.due < (fs.getD j default).due) (fun g => g) (an) ?_ ⟨rfl, rfl, rfl, rfl, rfl, trivial⟩ (sub_front ⟨_, rfl⟩) ?_
  · exact ⟨Nat.le_refl _, fun j h1 h2 => by omega⟩
  · intro g _f hI
    obtain ⟨hg, hall⟩ := hI
    refine s_seq ?_
    refine s_seq ?_
    refine s_region ?_
    refine o_val rfl rfl rfl (y_move (v := (.int _ _)) rfl) ?_
    refine o_split rfl rfl rfl (y_gtr rfl rfl) (fun p2 => ?_) (fun p3 => ?_)
    · have hj0 := p2
      refine o_val rfl rfl rfl (y_move (v := (.bool _)) rfl) ?_
      refine o_guard_yes rfl rfl ?_
      refine o_val rfl rfl rfl (y_move (v := (.pointer _)) rfl) ?_
      refine o_guard_yes rfl rfl ?_
      refine o_val rfl rfl rfl (y_nilCheck rfl) ?_
      refine o_guard_yes rfl rfl ?_
      refine o_val rfl rfl rfl (y_field0 Try.runUnderlying130 rfl Try.sizeOf128 rfl rfl) ?_
      refine o_guard_yes rfl rfl ?_
      refine o_val rfl rfl rfl (y_load Try.isAgg128 rfl (cel_own 0 rfl rfl)) ?_
      refine o_guard_yes rfl rfl ?_
      refine o_val rfl rfl rfl (y_move (v := (.int _ _)) rfl) ?_
      refine o_guard_yes rfl rfl ?_
      refine o_val rfl rfl rfl (y_sub rfl rfl (by simp only [inK]; omega)) ?_
      refine o_guard_yes rfl rfl ?_
      refine o_val rfl rfl rfl (y_indexAddr Try.runUnderlying128 Try.sizeOf133 (hos.some_of (by omega)) rfl rfl (by omega)) ?_
      refine o_guard_yes rfl rfl ?_
      refine o_val rfl rfl rfl (y_fieldX (F := 0) Try.runUnderlying133 rfl Try.sizeOf3 rfl (hos.some_of (by omega)) rfl) ?_
      refine o_guard_yes rfl rfl ?_
      refine o_val rfl rfl rfl (y_load Try.isAgg3 rfl ((cels_at (sz := 5) encFl_len (hos.cels (j := 1) rfl) (by omega)).cel' (i := 0) rfl)) ?_
      refine o_guard_yes rfl rfl ?_
      refine o_val rfl rfl rfl (y_move (v := (.int _ _)) rfl) ?_
      refine o_guard_yes rfl rfl ?_
      refine o_val rfl rfl rfl (y_gtr rfl rfl) ?_
      refine o_val rfl rfl rfl (y_pick_t (v := (.bool _)) rfl rfl) ?_
      refine o_nil ?_
      refine s_if rfl (fun h4 => ?_) (fun h5 => ?_)
      · have hgt := h4
        refine s_skip ?_
        refine s_block ?_
        refine s_region ?_
        refine o_val rfl rfl rfl (y_move (v := (.int _ _)) rfl) ?_
        refine o_val rfl rfl rfl (y_sub rfl rfl (by simp only [inK]; omega)) ?_
        refine o_val rfl rfl rfl (y_assign (v := (.int _ _)) rfl) ?_
        refine o_nil ?_
        exact ⟨g - 1, (by first | omega | (dsimp only; omega)), ⟨by omega, all_down hall hgt (by omega)⟩, ⟨rfl, rfl, rfl, rfl, (congrArg (Value.int .i64) (by omega)), trivial⟩, sub_front ⟨_, rfl⟩⟩
      · have hle := h5
        refine s_exit ?_
        refine s_forget [(0, (.pointer _)), (1, (.int _ _)), (2, (.int _ _)), (7, (.pointer _)), (8, (.int _ _))] ⟨rfl, rfl, rfl, rfl, rfl, trivial⟩ (fun _f => ?_)
        refine s_seq ?_
        refine s_region ?_
        refine o_val rfl rfl rfl (y_move (v := (.pointer _)) rfl) ?_
        refine o_val rfl rfl rfl (y_move (v := (.pointer _)) rfl) ?_
        refine o_val rfl rfl rfl (y_nilCheck rfl) ?_
        refine o_val rfl rfl rfl (y_field0 Try.runUnderlying130 rfl Try.sizeOf128 rfl rfl) ?_
        refine o_val rfl rfl rfl (y_load Try.isAgg128 rfl (cel_own 0 rfl rfl)) ?_
        refine o_val rfl rfl rfl (y_build (vs := []) rfl (fly_k0)) ?_
        refine o_lit (vs := [(0, .agg #[.int _ _, .int _ _, .int _ _, .int _ _, .slice _ _ _])]) rfl rfl (fly_k1 _ _ _ _ _ _ _) (fun b6 => ?_)
        refine o_append (sz := 5) (bytes := 56) (news := [(.int _ _), (.int _ _), (.int _ _), (.int _ _), (.slice _ _ _)]) 1 rfl Try.underlying128 Try.type133 rfl rfl rfl rfl rfl hos rfl rfl (Src.slice Try.underlying128 (cels_own 3 rfl rfl) rfl (by simp [Value.oneCell']) (by simp)) (by omega) (fun A7 c8 E9 ho10 hn11 => ?_)
        have ho12 : OS A7 (an + 1) c8 133 5 ((fs ++ [default]).flatMap encFl) E9 := os_eq ho10 (by rw [List.flatMap_append]; rfl)
        clear ho10
        refine o_val rfl rfl rfl (y_nilCheck rfl) ?_
        refine o_val rfl rfl rfl (y_field0 Try.runUnderlying130 rfl Try.sizeOf128 rfl rfl) ?_
        refine o_store (v := (.slice _ _ _)) 0 rfl Try.sizeOf128 rfl rfl rfl rfl ?_
        refine o_nil ?_
        refine s_norm [[(_, .cells [(.int _ _), (.slice _ _ _), (.int _ _), (.int _ _), (.slice _ _ _)].toArray 130 (0, 0))], _, [(_, .cells [(.int _ _), (.int _ _), (.slice _ _ _)].toArray 34 (0, 0))], [(_, .cells [(.int _ _), (.int _ _), (.int _ _), (.int _ _), (.slice _ _ _)].toArray 133 (0, 0))]] rfl ?_
        refine s_seq ?_
        refine s_tail 13 (by kernel_rfl) (by kernel_rfl) ?_
        refine t_val rfl rfl rfl (y_move (v := (.pointer _)) rfl) ?_
        refine t_val rfl rfl rfl (y_nilCheck rfl) ?_
        refine t_val rfl rfl rfl (y_field0 Try.runUnderlying130 rfl Try.sizeOf128 rfl rfl) ?_
        refine t_val rfl rfl rfl (y_load Try.isAgg128 rfl (cel_own 0 rfl rfl)) ?_
        refine t_val rfl rfl rfl (y_move (v := (.int _ _)) rfl) ?_
        refine t_val rfl rfl rfl (y_add rfl rfl (by simp only [inK]; omega)) ?_
        refine t_val rfl rfl rfl (y_cut_lo Try.runUnderlying128 Try.sizeOf133 rfl rfl (by omega)) ?_
        refine t_val rfl rfl rfl (y_move (v := (.pointer _)) rfl) ?_
        refine t_val rfl rfl rfl (y_nilCheck rfl) ?_
        refine t_val rfl rfl rfl (y_field0 Try.runUnderlying130 rfl Try.sizeOf128 rfl rfl) ?_
        refine t_val rfl rfl rfl (y_load Try.isAgg128 rfl (cel_own 0 rfl rfl)) ?_
        refine t_val rfl rfl rfl (y_move (v := (.int _ _)) rfl) ?_
        refine t_val rfl rfl rfl (y_cut_lo Try.runUnderlying128 Try.sizeOf133 rfl rfl (by omega)) ?_
        refine t_nil ?_
        refine o_copy_os (sz := 5) (ds := ((fs ++ [default]).drop g).flatMap encFl) 1 rfl Try.underlying128 Try.type133 rfl rfl ho12 rfl rfl (cut_at (ho12.cels (j := 1) rfl) (by omega) (by have := ho12.2.1; omega)) (by rw [flat_len encFl_len]; simp only [List.length_drop, List.length_append, List.length_cons, List.length_nil]; omega) (encFl_one _) (by omega) (fun E13 ho14 => ?_)
        have ho15 : OS A7 (an + 1) c8 133 5 (((fs ++ [default]).take (g + 1) ++ fs.drop g).flatMap encFl) E13 := os_eq ho14 (by rw [← room_cells fs default g (by omega), show (((g : Nat) : Int) + 1).toNat = g + 1 by omega, show min (an + 1 - ((g : Nat) : Int).toNat) (an + 1 - (g + 1)) = fs.length - g by omega])
        clear ho14
        refine o_nil ?_
        refine s_norm [[(_, .cells [(.int _ _), (.slice _ _ _), (.int _ _), (.int _ _), (.slice _ _ _)].toArray 130 (0, 0))], _, [(_, .cells [(.int _ _), (.int _ _), (.slice _ _ _)].toArray 34 (0, 0))], [(_, .cells [(.int _ _), (.int _ _), (.int _ _), (.int _ _), (.slice _ _ _)].toArray 133 (0, 0))]] rfl ?_
        refine s_forget [(0, (.pointer _)), (1, (.int _ _)), (2, (.int _ _)), (7, (.pointer _)), (8, (.int _ _))] ⟨rfl, rfl, rfl, rfl, rfl, trivial⟩ (fun _f => ?_)
        refine s_tail 10 (by kernel_rfl) (by kernel_rfl) ?_
        refine t_val rfl rfl rfl (y_move (v := (.pointer _)) rfl) ?_
        refine t_val rfl rfl rfl (y_nilCheck rfl) ?_
        refine t_val rfl rfl rfl (y_field0 Try.runUnderlying130 rfl Try.sizeOf128 rfl rfl) ?_
        refine t_val rfl rfl rfl (y_load Try.isAgg128 rfl (cel_own 0 rfl rfl)) ?_
        refine t_val rfl rfl rfl (y_move (v := (.int _ _)) rfl) ?_
        refine t_val rfl rfl rfl (y_move (v := (.int _ _)) rfl) ?_
        refine t_val rfl rfl rfl (y_move (v := (.int _ _)) rfl) ?_
        refine t_val rfl rfl rfl (y_loads (cs := [_, _, _]) Try.isAgg34 Try.sizeOf34 rfl rfl rfl (cels_own 2 rfl rfl)) ?_
        refine t_val rfl rfl rfl (y_build (vs := [(0, .int _ _), (1, .int _ _), (2, .agg #[.int _ _, .int _ _, .slice _ _ _])]) rfl (fly_k2 _ _ _ _ _ _ _)) ?_
        refine t_val rfl rfl rfl (y_indexAddr Try.runUnderlying128 Try.sizeOf133 (ho15.some_of (by omega)) rfl rfl (by omega)) ?_
        refine t_nil ?_
        refine o_store_os (vs := [(.int _ _), (.int _ _), (.int _ _), (.int _ _), (.slice _ _ _)]) 1 rfl ho15 Try.sizeOf133 rfl rfl rfl (by simp [Value.oneCell']) (by simp) (by rw [flat_len encFl_len]; simp [hfl]; omega) (fun E16 ho17 => ?_)
        have ho18 : OS _ (an + 1) _ 133 5 ((fs.take g ++ x :: fs.drop g).flatMap encFl) E16 := os_eq ho17 (by rw [← room_set fs default x g (by omega)]; exact lay_set (k := 0) (vs := encFl x) encFl_len (by simp; omega) (Nat.le_refl 5) (lay_all _ _ rfl))
        clear ho17
        refine o_nil ?_
        exact ⟨_, _, res0 rfl, ⟨rfl, _, _, _, _, ⟨g, by omega, rfl, fun j h1 h2 => hall j h1 (by omega), (le_down hle (by omega))⟩, ho18, rfl⟩, sub_front ⟨_, rfl⟩⟩
    · have hj0 := p3
      refine o_val rfl rfl rfl (y_move (v := (.bool _)) rfl) ?_
      refine o_guard_no rfl rfl rfl rfl rfl ?_
      refine o_guard_no rfl rfl rfl rfl rfl ?_
      refine o_guard_no rfl rfl rfl rfl rfl ?_
      refine o_guard_no rfl rfl rfl rfl rfl ?_
      refine o_guard_no rfl rfl rfl rfl rfl ?_
      refine o_guard_no rfl rfl rfl rfl rfl ?_
      refine o_guard_no rfl rfl rfl rfl rfl ?_
      refine o_guard_no rfl rfl rfl rfl rfl ?_
      refine o_guard_no rfl rfl rfl rfl rfl ?_
      refine o_guard_no rfl rfl rfl rfl rfl ?_
      refine o_guard_no rfl rfl rfl rfl rfl ?_
      refine o_val rfl rfl rfl (y_pick_f (v := (.bool _)) rfl rfl) ?_
      refine o_nil ?_
      refine s_else rfl ?_
      refine s_exit ?_
      refine s_forget [(0, (.pointer _)), (1, (.int _ _)), (2, (.int _ _)), (7, (.pointer _)), (8, (.int _ _))] ⟨rfl, rfl, rfl, rfl, rfl, trivial⟩ (fun _f => ?_)
      refine s_seq ?_
      refine s_region ?_
      refine o_val rfl rfl rfl (y_move (v := (.pointer _)) rfl) ?_
      refine o_val rfl rfl rfl (y_move (v := (.pointer _)) rfl) ?_
      refine o_val rfl rfl rfl (y_nilCheck rfl) ?_
      refine o_val rfl rfl rfl (y_field0 Try.runUnderlying130 rfl Try.sizeOf128 rfl rfl) ?_
      refine o_val rfl rfl rfl (y_load Try.isAgg128 rfl (cel_own 0 rfl rfl)) ?_
      refine o_val rfl rfl rfl (y_build (vs := []) rfl (fly_k0)) ?_
      refine o_lit (vs := [(0, .agg #[.int _ _, .int _ _, .int _ _, .int _ _, .slice _ _ _])]) rfl rfl (fly_k1 _ _ _ _ _ _ _) (fun b19 => ?_)
      refine o_append (sz := 5) (bytes := 56) (news := [(.int _ _), (.int _ _), (.int _ _), (.int _ _), (.slice _ _ _)]) 1 rfl Try.underlying128 Try.type133 rfl rfl rfl rfl rfl hos rfl rfl (Src.slice Try.underlying128 (cels_own 3 rfl rfl) rfl (by simp [Value.oneCell']) (by simp)) (by omega) (fun A20 c21 E22 ho23 hn24 => ?_)
      have ho25 : OS A20 (an + 1) c21 133 5 ((fs ++ [default]).flatMap encFl) E22 := os_eq ho23 (by rw [List.flatMap_append]; rfl)
      clear ho23
      refine o_val rfl rfl rfl (y_nilCheck rfl) ?_
      refine o_val rfl rfl rfl (y_field0 Try.runUnderlying130 rfl Try.sizeOf128 rfl rfl) ?_
      refine o_store (v := (.slice _ _ _)) 0 rfl Try.sizeOf128 rfl rfl rfl rfl ?_
      refine o_nil ?_
      refine s_norm [[(_, .cells [(.int _ _), (.slice _ _ _), (.int _ _), (.int _ _), (.slice _ _ _)].toArray 130 (0, 0))], _, [(_, .cells [(.int _ _), (.int _ _), (.slice _ _ _)].toArray 34 (0, 0))], [(_, .cells [(.int _ _), (.int _ _), (.int _ _), (.int _ _), (.slice _ _ _)].toArray 133 (0, 0))]] rfl ?_
      refine s_seq ?_
      refine s_tail 13 (by kernel_rfl) (by kernel_rfl) ?_
      refine t_val rfl rfl rfl (y_move (v := (.pointer _)) rfl) ?_
      refine t_val rfl rfl rfl (y_nilCheck rfl) ?_
      refine t_val rfl rfl rfl (y_field0 Try.runUnderlying130 rfl Try.sizeOf128 rfl rfl) ?_
      refine t_val rfl rfl rfl (y_load Try.isAgg128 rfl (cel_own 0 rfl rfl)) ?_
      refine t_val rfl rfl rfl (y_move (v := (.int _ _)) rfl) ?_
      refine t_val rfl rfl rfl (y_add rfl rfl (by simp only [inK]; omega)) ?_
      refine t_val rfl rfl rfl (y_cut_lo Try.runUnderlying128 Try.sizeOf133 rfl rfl (by omega)) ?_
      refine t_val rfl rfl rfl (y_move (v := (.pointer _)) rfl) ?_
      refine t_val rfl rfl rfl (y_nilCheck rfl) ?_
      refine t_val rfl rfl rfl (y_field0 Try.runUnderlying130 rfl Try.sizeOf128 rfl rfl) ?_
      refine t_val rfl rfl rfl (y_load Try.isAgg128 rfl (cel_own 0 rfl rfl)) ?_
      refine t_val rfl rfl rfl (y_move (v := (.int _ _)) rfl) ?_
      refine t_val rfl rfl rfl (y_cut_lo Try.runUnderlying128 Try.sizeOf133 rfl rfl (by omega)) ?_
      refine t_nil ?_
      refine o_copy_os (sz := 5) (ds := ((fs ++ [default]).drop g).flatMap encFl) 1 rfl Try.underlying128 Try.type133 rfl rfl ho25 rfl rfl (cut_at (ho25.cels (j := 1) rfl) (by omega) (by have := ho25.2.1; omega)) (by rw [flat_len encFl_len]; simp only [List.length_drop, List.length_append, List.length_cons, List.length_nil]; omega) (encFl_one _) (by omega) (fun E26 ho27 => ?_)
      have ho28 : OS A20 (an + 1) c21 133 5 (((fs ++ [default]).take (g + 1) ++ fs.drop g).flatMap encFl) E26 := os_eq ho27 (by rw [← room_cells fs default g (by omega), show (((g : Nat) : Int) + 1).toNat = g + 1 by omega, show min (an + 1 - ((g : Nat) : Int).toNat) (an + 1 - (g + 1)) = fs.length - g by omega])
      clear ho27
      refine o_nil ?_
      refine s_norm [[(_, .cells [(.int _ _), (.slice _ _ _), (.int _ _), (.int _ _), (.slice _ _ _)].toArray 130 (0, 0))], _, [(_, .cells [(.int _ _), (.int _ _), (.slice _ _ _)].toArray 34 (0, 0))], [(_, .cells [(.int _ _), (.int _ _), (.int _ _), (.int _ _), (.slice _ _ _)].toArray 133 (0, 0))]] rfl ?_
      refine s_forget [(0, (.pointer _)), (1, (.int _ _)), (2, (.int _ _)), (7, (.pointer _)), (8, (.int _ _))] ⟨rfl, rfl, rfl, rfl, rfl, trivial⟩ (fun _f => ?_)
      refine s_tail 10 (by kernel_rfl) (by kernel_rfl) ?_
      refine t_val rfl rfl rfl (y_move (v := (.pointer _)) rfl) ?_
      refine t_val rfl rfl rfl (y_nilCheck rfl) ?_
      refine t_val rfl rfl rfl (y_field0 Try.runUnderlying130 rfl Try.sizeOf128 rfl rfl) ?_
      refine t_val rfl rfl rfl (y_load Try.isAgg128 rfl (cel_own 0 rfl rfl)) ?_
      refine t_val rfl rfl rfl (y_move (v := (.int _ _)) rfl) ?_
      refine t_val rfl rfl rfl (y_move (v := (.int _ _)) rfl) ?_
      refine t_val rfl rfl rfl (y_move (v := (.int _ _)) rfl) ?_
      refine t_val rfl rfl rfl (y_loads (cs := [_, _, _]) Try.isAgg34 Try.sizeOf34 rfl rfl rfl (cels_own 2 rfl rfl)) ?_
      refine t_val rfl rfl rfl (y_build (vs := [(0, .int _ _), (1, .int _ _), (2, .agg #[.int _ _, .int _ _, .slice _ _ _])]) rfl (fly_k2 _ _ _ _ _ _ _)) ?_
      refine t_val rfl rfl rfl (y_indexAddr Try.runUnderlying128 Try.sizeOf133 (ho28.some_of (by omega)) rfl rfl (by omega)) ?_
      refine t_nil ?_
      refine o_store_os (vs := [(.int _ _), (.int _ _), (.int _ _), (.int _ _), (.slice _ _ _)]) 1 rfl ho28 Try.sizeOf133 rfl rfl rfl (by simp [Value.oneCell']) (by simp) (by rw [flat_len encFl_len]; simp [hfl]; omega) (fun E29 ho30 => ?_)
      have ho31 : OS _ (an + 1) _ 133 5 ((fs.take g ++ x :: fs.drop g).flatMap encFl) E29 := os_eq ho30 (by rw [← room_set fs default x g (by omega)]; exact lay_set (k := 0) (vs := encFl x) encFl_len (by simp; omega) (Nat.le_refl 5) (lay_all _ _ rfl))
      clear ho30
      refine o_nil ?_
      exact ⟨_, _, res0 rfl, ⟨rfl, _, _, _, _, ⟨g, by omega, rfl, fun j h1 h2 => hall j h1 (by omega), (.inl (by omega))⟩, ho31, rfl⟩, sub_front ⟨_, rfl⟩⟩

end Go.Proofs.Ytdgmocibjjkghaa.K

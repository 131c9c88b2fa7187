/- Walks: messages compared; a packet of an end read again; a fact. No condition beyond what each statement names. -/
import Derived.Test.YtdgmocibjjkghaaProg
import Derived.Test.YtdgmocibjjkghaaK14
import Derived.Test.YtdgmocibjjkghaaB9
import Derived.Test.YtdgmocibjjkghaaN1
import Derived.Test.YtdgmocibjjkghaaN3
import Derived.Test.YtdgmocibjjkghaaN4
import Derived.Test.YtdgmocibjjkghaaL1
import Derived.Test.YtdgmocibjjkghaaL2
import Derived.Test.YtdgmocibjjkghaaL3
import Derived.Test.YtdgmocibjjkghaaL4
import Derived.Test.YtdgmocibjjkghaaL5
import Derived.Test.YtdgmocibjjkghaaL6
import Derived.Test.YtdgmocibjjkghaaL7
import Derived.Test.YtdgmocibjjkghaaL8
set_option linter.unusedVariables false
set_option linter.unusedSimpArgs false
set_option maxRecDepth 100000
namespace Go.Proofs.Ytdgmocibjjkghaa.K
open Go.RowKit

theorem val_from (l : List Int) : ∀ a : Int, l.foldl (fun a c => 256 * a + c) a = a * ((256 ^ l.length : Nat) : Int) + val l := by
  induction l with
  | nil => intro a; simp [val]
  | cons x l ih =>
    intro a
    unfold val
    rw [List.foldl_cons, List.foldl_cons, ih, ih, List.length_cons, Nat.pow_succ]
    push_cast
    rw [Int.add_mul, Int.zero_add]
    rw [show 256 * a * 256 ^ l.length = a * (256 ^ l.length * 256) by rw [Int.mul_comm 256 a, Int.mul_assoc, Int.mul_comm 256]]
    omega
theorem val_cons (x : Int) (l : List Int) : val (x :: l) = x * ((256 ^ l.length : Nat) : Int) + val l := by
  have := val_from l (256 * 0 + x)
  unfold val
  rw [List.foldl_cons, this, Int.mul_zero, Int.zero_add]; rfl
theorem val_be : ∀ (k n : Nat), val (be k n) = ((n % 256 ^ k : Nat) : Int)
  | 0, n => by simp [be, val, Nat.mod_one]
  | k + 1, n => by
    rw [be, val_cons, be_len, val_be k n, Nat.mod_pow_succ]
    push_cast
    rw [Int.mul_comm]; omega
theorem take_app {α : Type} {a b : List α} {k : Nat} (h : a.length = k) : (a ++ b).take k = a := by
  subst h; simp
theorem drop_app {α : Type} {a b : List α} {k : Nat} (h : a.length = k) : (a ++ b).drop k = b := by
  subst h; simp
theorem msgGo_flat : ∀ (ms : List (List Int)), (∀ m ∈ ms, m.length ≤ 65535) → msgGo ms.length (ms.flatMap msgB) = some (ms, [])
  | [], _ => rfl
  | m :: ms, h => by
    have hm := h m (by simp)
    have e : (m :: ms).flatMap msgB = be 2 m.length ++ (m ++ ms.flatMap msgB) := by rw [List.flatMap_cons, msgB, List.append_assoc]
    have e2 : ((m :: ms).flatMap msgB).take 2 = be 2 m.length := by rw [e]; exact take_app (be_len _ _)
    have ev : val (((m :: ms).flatMap msgB).take 2) = (m.length : Int) := by rw [e2, val_be, Nat.mod_eq_of_lt (by omega)]
    have el : ((m :: ms).flatMap msgB).length = 2 + (m.length + (ms.flatMap msgB).length) := by rw [e, List.length_append, be_len, List.length_append]
    rw [List.length_cons, msgGo_step (by rw [ev, el]; omega), ev, show (2 + (m.length : Int)).toNat = 2 + m.length by omega, e]
    rw [show (be 2 m.length ++ (m ++ ms.flatMap msgB)).drop (2 + m.length) = ms.flatMap msgB by rw [← List.append_assoc]; exact drop_app (by rw [List.length_append, be_len])]
    rw [show (be 2 m.length ++ (m ++ ms.flatMap msgB)).drop 2 = m ++ ms.flatMap msgB from drop_app (be_len _ _), show 2 + m.length - 2 = m.length by omega, take_app rfl]
    rw [msgGo_flat ms (fun x hx => h x (List.mem_cons_of_mem _ hx))]
    rfl
/-- A packet is read as it was written. -/
theorem parse_pkt {next first : Nat} {ms : List (List Int)} (h1 : ∀ m ∈ ms, m.length ≤ 65535) (hn : next < 4294967296) (hf : first < 4294967296) : parse (pktOf next first ms).length (pktOf next first ms) = ⟨0, next, first, ms.take 8⟩ := by
  have hB : (((( (pktOf next first ms).length : Nat) : Int) - 8).toNat) = (bodyF next first ms).length := by rw [pkt_len, body_len]; omega
  have hT : (pktOf next first ms).take (bodyF next first ms).length = bodyF next first ms := take_app rfl
  have hD : (pktOf next first ms).drop (bodyF next first ms).length = be 8 (sumB (bodyF next first ms)).toNat := drop_app rfl
  have hs : bodyF next first ms = be 4 next ++ (be 4 first ++ (((min ms.length 8 : Nat) : Int) :: (ms.take 8).flatMap msgB)) := by simp [bodyF]
  have h4 : (bodyF next first ms).take 4 = be 4 next := by rw [hs]; exact take_app (be_len _ _)
  have hd4 : (bodyF next first ms).drop 4 = be 4 first ++ (((min ms.length 8 : Nat) : Int) :: (ms.take 8).flatMap msgB) := by rw [hs]; exact drop_app (be_len _ _)
  have h8 : (bodyF next first ms).drop 8 = ((min ms.length 8 : Nat) : Int) :: (ms.take 8).flatMap msgB := by
    rw [show 8 = 4 + 4 from rfl, ← List.drop_drop, hd4]; exact drop_app (be_len _ _)
  have h9 : (bodyF next first ms).drop 9 = (ms.take 8).flatMap msgB := by
    rw [show 9 = 8 + 1 from rfl, ← List.drop_drop, h8]; rfl
  have hg : (bodyF next first ms).getD 8 0 = ((min ms.length 8 : Nat) : Int) := by
    have := congrArg (fun l : List Int => l[0]?) h8
    simp only [List.getElem?_drop, List.getElem?_cons_zero] at this
    rw [List.getD_eq_getElem?_getD, this]; rfl
  have hm := msgGo_flat (ms.take 8) (fun m hm => h1 m (List.mem_of_mem_take hm))
  rw [show (ms.take 8).length = min ms.length 8 by rw [List.length_take]; omega] at hm
  unfold parse
  rw [hB, Int.toNat_natCast, hT, hD, if_neg (by rw [pkt_len]; omega), if_neg (fun hh => hh rfl), hg, Int.toNat_natCast, h9, hm]
  simp only []
  rw [if_neg (by simp only [List.length_nil]; omega), h4, hd4, take_app (be_len _ _), val_be, val_be, Nat.mod_eq_of_lt (by omega), Nat.mod_eq_of_lt (by omega)]
theorem bss_step {ps qs : List FL} {k : Nat} (h : ∀ j, j < k → (ps.getD j default).bs = (qs.getD j default).bs) (hk : (ps.getD ((k : Nat) : Int).toNat default).bs = (qs.getD ((k : Nat) : Int).toNat default).bs) : ∀ j, j < k + 1 → (ps.getD j default).bs = (qs.getD j default).bs := by
  intro j hj
  by_cases e : j = k
  · rw [e]; exact hk
  · exact h j (by omega)
theorem bss_all {ps qs : List FL} (hl : ps.length = qs.length) (h : ∀ j, j < ps.length → (ps.getD j default).bs = (qs.getD j default).bs) : ps.map (·.bs) = qs.map (·.bs) := by
  apply List.ext_getElem (by simpa using hl)
  intro j h1 h2
  have := h j (by simpa using h1)
  simp at h1 h2
  simpa [List.getD_eq_getElem?_getD, h1, h2] using this
theorem bss_not {ps qs : List FL} {k : Nat} (hk : k < ps.length) (hl : ps.length = qs.length) (h : ¬ (ps.getD ((k : Nat) : Int).toNat default).bs = (qs.getD ((k : Nat) : Int).toNat default).bs) : ¬ ps.map (·.bs) = qs.map (·.bs) := fun e => h (by
  have : (ps.map (·.bs))[k]? = (qs.map (·.bs))[k]? := by rw [e]
  rw [List.getElem?_map, List.getElem?_map, List.getElem?_eq_getElem hk, List.getElem?_eq_getElem (by omega)] at this
  simpa [List.getD_eq_getElem?_getD, hk, show k < qs.length by omega] using this)
def FB (V : Mem) (f : FL) : Prop := BB V f.A f.n f.c f.bs

theorem EqualB_c {V : Mem} (A : Option Addr) (n c : Nat) (ps : List FL) (h : Cels V [] A (ps.flatMap encB)) (hn : ps.length = n) (hb : n ≤ 140737488355328) (hp : ∀ f ∈ ps, FB V f) (M : Option Addr) (m e : Nat) (qs : List FL) (h' : Cels V [] M (qs.flatMap encB)) (hm : qs.length = m) (hq : ∀ f ∈ qs, FB V f) : CallS Try.prog 80 [.slice A n c, .slice M m e, .func (.func 23) #[] #[]].toArray V [] (fun r L' => r = .bool (decide (ps.map (·.bs) = qs.map (·.bs))) ∧ L' = []) := by
  refine callS Try.func80 rfl rfl (fun w0 => ?_)
  refine s_seq ?_
  refine s_region ?_
  refine o_val rfl rfl rfl (y_assign (v := (.bool _)) rfl) ?_
  refine o_nil ?_
  refine s_seq ?_
  refine s_seq ?_
  refine s_region ?_
  refine o_val rfl rfl rfl (y_move (v := (.slice _ _ _)) rfl) ?_
  refine o_val rfl rfl rfl (y_len Try.runUnderlying60 rfl) ?_
  refine o_val rfl rfl rfl (y_move (v := (.slice _ _ _)) rfl) ?_
  refine o_val rfl rfl rfl (y_len Try.runUnderlying60 rfl) ?_
  refine o_val rfl rfl rfl (y_neq rfl rfl) ?_
  refine o_nil ?_
  refine s_if rfl (fun h1 => ?_) (fun h2 => ?_)
  · have hlen := h1
    refine s_seq ?_
    refine s_region ?_
    refine o_val rfl rfl rfl (y_assign (v := (.bool _)) rfl) ?_
    refine o_nil ?_
    refine s_ret ?_
    exact ⟨_, [], res1 rfl rfl, ⟨congrArg Value.bool (decide_eq_false (fun e => by have := congrArg List.length e; simp at this; omega)).symm, rfl⟩, sub_picks [] rfl⟩
  · have hlen := h2
    refine s_skip ?_
    refine s_seq ?_
    refine s_seq ?_
    refine s_region ?_
    refine o_val rfl rfl rfl (y_move (v := (.slice _ _ _)) rfl) ?_
    refine o_val rfl rfl rfl (y_len Try.runUnderlying60 rfl) ?_
    refine o_val rfl rfl rfl (y_move (v := (.int _ _)) rfl) ?_
    refine o_nil ?_
    refine s_block ?_
    refine s_loop (γ := Nat) (fun g => [(1, .slice M m e), (2, .func (.func 23) #[] #[]), (15, .slice A n c), (16, .int .i64 n), (17, .int .i64 g)]) (fun g => []) (fun g => g ≤ n ∧ ∀ j, j < g → (ps.getD j default).bs = (qs.getD j default).bs) (fun g => n - g) (0) ?_ ⟨rfl, rfl, rfl, rfl, rfl, trivial⟩ (sub_front ⟨_, rfl⟩) ?_
    · exact ⟨Nat.zero_le _, fun j hj => absurd hj (Nat.not_lt_zero j)⟩
    · intro g _f hI
      obtain ⟨hg, hall⟩ := hI
      refine s_seq ?_
      refine s_region ?_
      refine o_val rfl rfl rfl (y_lss rfl rfl) ?_
      refine o_nil ?_
      refine s_seq ?_
      refine s_if rfl (fun h3 => ?_) (fun h4 => ?_)
      · refine s_skip ?_
        refine s_seq ?_
        refine s_block ?_
        refine s_seq ?_
        refine s_region ?_
        refine o_val rfl rfl rfl (y_move (v := (.int _ _)) rfl) ?_
        refine o_val rfl rfl rfl (y_index1 Try.runUnderlying60 Try.sizeOf29 (some_B h (by omega)) rfl rfl (by omega)) ?_
        refine o_val rfl rfl rfl (y_load Try.isAgg29 rfl (cel_B h.here (by omega))) ?_
        refine o_val rfl rfl rfl (y_assign (v := (.int _ _)) rfl) ?_
        refine o_val rfl rfl rfl (y_assign (v := (.slice _ _ _)) rfl) ?_
        refine o_nil ?_
        refine s_seq ?_
        refine s_region ?_
        refine o_val rfl rfl rfl (y_move (v := (.slice _ _ _)) rfl) ?_
        refine o_val rfl rfl rfl (y_move (v := (.int _ _)) rfl) ?_
        refine o_val rfl rfl rfl (y_index1 Try.runUnderlying60 Try.sizeOf29 (some_B h' (by omega)) rfl rfl (by omega)) ?_
        refine o_val rfl rfl rfl (y_load Try.isAgg29 rfl (cel_B h'.here (by omega))) ?_
        refine o_val rfl rfl rfl (y_assign (v := (.slice _ _ _)) rfl) ?_
        refine o_nil ?_
        refine s_seq ?_
        refine s_region ?_
        have hx : BB V _ _ _ _ := hp _ (getD_memF (ss := ps) (k := g) (by omega))
        have hy : BB V _ _ _ _ := hq _ (getD_memF (ss := qs) (k := g) (by omega))
        refine o_val rfl rfl rfl (y_move (v := (.func _ _ _)) rfl) ?_
        refine o_val rfl rfl rfl (y_move (v := (.slice _ _ _)) rfl) ?_
        refine o_val rfl rfl rfl (y_move (v := (.slice _ _ _)) rfl) ?_
        refine o_fnv' 0 (d := 29) rfl Try.call23 rfl rfl rfl (BEqualL_c _ _ _ (ps.getD ((g : Nat) : Int).toNat default).bs hx.lift.2.2.1 hx.1 hx.2.2.2 _ _ _ (qs.getD ((g : Nat) : Int).toNat default).bs hy.lift.2.2.1 hy.1 hy.2.2.2) ?_
        rintro _ _ ⟨rfl, rfl⟩
        refine o_val rfl rfl rfl (y_not rfl) ?_
        refine o_nil ?_
        refine s_if rfl (fun h5 => ?_) (fun h6 => ?_)
        · have hne := h5
          refine s_seq ?_
          refine s_region ?_
          refine o_val rfl rfl rfl (y_assign (v := (.bool _)) rfl) ?_
          refine o_nil ?_
          refine s_ret ?_
          exact ⟨_, [], res1 rfl rfl, ⟨congrArg Value.bool (decide_eq_false (bss_not (k := g) (by omega) (by omega) hne)).symm, rfl⟩, sub_picks [] rfl⟩
        · have heq := Decidable.not_not.1 h6
          refine s_skip ?_
          refine s_region ?_
          refine o_val rfl rfl rfl (y_add rfl rfl (by simp only [inK]; omega)) ?_
          refine o_val rfl rfl rfl (y_move (v := (.int _ _)) rfl) ?_
          refine o_nil ?_
          exact ⟨g + 1, (by first | omega | (dsimp only; omega)), ⟨by omega, bss_step hall heq⟩, ⟨rfl, rfl, rfl, rfl, (congrArg (Value.int _) (by omega)), trivial⟩, sub_front ⟨_, rfl⟩⟩
      · refine s_exit ?_
        refine s_seq ?_
        refine s_region ?_
        refine o_val rfl rfl rfl (y_assign (v := (.bool _)) rfl) ?_
        refine o_nil ?_
        refine s_ret ?_
        exact ⟨_, [], res1 rfl rfl, ⟨congrArg Value.bool (decide_eq_true (bss_all (by omega) (fun j hj => hall j (by omega)))).symm, rfl⟩, sub_picks [] rfl⟩

theorem Got_c {V : Mem} (b : Nat) (first : Int) (wA : Option Addr) (wn wc : Nat) (next : Int) (gA : Option Addr) (gn gc : Nat) (h : Nat) (sA : Option Addr) (sn sc : Nat) (acked came : Int) (nA : Option Addr) (nn nc : Nat) (gs : List FL) (GG P1 : Grp) (hog : OS gA gn gc 29 1 ((gs).flatMap encB) GG) (hg : ∀ f ∈ gs, BlIn P1 f) (ns : List FL) (NG P2 : Grp) (hon : OS nA nn nc 29 1 ((ns).flatMap encB) NG) (hn : ∀ f ∈ ns, BlIn P2 f) (hb : gn ≤ 1000000) : CallS Try.prog 37 [.pointer (some ⟨b, 0, none⟩), .pointer (some ⟨h, 0, none⟩)].toArray V [endg b first wA wn wc next gA gn gc, GG, P1, halfg h sA sn sc acked came nA nn nc, NG, P2] (fun r L' => r = .bool (decide (gs.map (·.bs) = ns.map (·.bs))) ∧ L' = [endg b first wA wn wc next none 0 0, P1, halfg h sA sn sc acked came none 0 0, P2]) := by
  refine callS Try.func37 rfl rfl (fun w0 => ?_)
  refine s_seq ?_
  refine s_region ?_
  refine o_val rfl rfl rfl (y_assign (v := (.bool _)) rfl) ?_
  refine o_nil ?_
  refine s_seq ?_
  refine s_region ?_
  refine o_val rfl rfl rfl (y_move (v := (.pointer _)) rfl) ?_
  refine o_fn 1 (d := 8) rfl Try.call38 (GotL_c b first wA wn wc next gA gn gc) rfl ?_
  rintro _ _ ⟨rfl, rfl⟩
  refine o_val rfl rfl rfl (y_assign (v := (.slice _ _ _)) rfl) ?_
  refine o_nil ?_
  refine s_seq ?_
  refine s_region ?_
  refine o_val rfl rfl rfl (y_move (v := (.slice _ _ _)) rfl) ?_
  refine o_val rfl rfl rfl (y_move (v := (.pointer _)) rfl) ?_
  refine o_val rfl rfl rfl (y_nilCheck rfl) ?_
  refine o_val rfl rfl rfl (y_field0 Try.runUnderlying62 rfl Try.sizeOf60 rfl rfl) ?_
  refine o_val rfl rfl rfl (y_load Try.isAgg60 rfl (cel_own 3 rfl rfl)) ?_
  refine o_fn 0 (d := 14) rfl Try.call80 (EqualB_c _ _ _ gs (hog.cels (j := 1) rfl).down (osl_len hog) (by omega) (fun f hf => (hg f hf).at (j := 2) rfl) _ _ _ ns (hon.cels (j := 4) rfl).down (osl_len hon) (fun f hf => (hn f hf).at (j := 5) rfl)) rfl ?_
  rintro _ _ ⟨rfl, rfl⟩
  refine o_val rfl rfl rfl (y_assign (v := (.bool _)) rfl) ?_
  refine o_nil ?_
  refine s_seq ?_
  refine s_region ?_
  refine o_val rfl rfl rfl (y_move (v := (.pointer _)) rfl) ?_
  refine o_val rfl rfl rfl (y_nilCheck rfl) ?_
  refine o_val rfl rfl rfl (y_field0 Try.runUnderlying62 rfl Try.sizeOf60 rfl rfl) ?_
  refine o_store (v := (.slice _ _ _)) 3 rfl Try.sizeOf60 rfl rfl rfl rfl ?_
  refine o_nil ?_
  refine s_forget [(4, (.bool _)), (6, (.bool _))] ⟨rfl, rfl, trivial⟩ (fun _f => ?_)
  refine s_seq ?_
  refine s_region ?_
  refine o_val rfl rfl rfl (y_move (v := (.bool _)) rfl) ?_
  refine o_val rfl rfl rfl (y_assign (v := (.bool _)) rfl) ?_
  refine o_nil ?_
  refine s_ret ?_
  exact ⟨_, _, res1 rfl rfl, ⟨rfl, rfl⟩, sub_picks [0, 1, 1, 2] rfl⟩

end Go.Proofs.Ytdgmocibjjkghaa.K

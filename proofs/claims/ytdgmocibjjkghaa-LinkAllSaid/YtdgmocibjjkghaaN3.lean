/- Walks over the package net: a packet sent. No condition beyond what each statement names. -/
import Derived.Test.YtdgmocibjjkghaaProg
import Derived.Test.YtdgmocibjjkghaaK13
import Derived.Test.YtdgmocibjjkghaaB9
import Derived.Test.YtdgmocibjjkghaaN1
import Derived.Test.YtdgmocibjjkghaaN2
set_option linter.unusedVariables false
set_option linter.unusedSimpArgs false
set_option maxRecDepth 100000
namespace Go.Proofs.Ytdgmocibjjkghaa.K
open Go.RowKit

def nowhere : Mem := fun _ _ => False
/-- A packet's bytes lie in a pool. -/
def FlIn (PG : Grp) (f : FL) : Prop := f.bs.length = f.n ∧ f.n ≤ f.c ∧ f.n ≤ 4000 ∧ Cels nowhere [PG] f.A (f.bs.map (.int .u8)) ∧ ∀ b ∈ f.bs, 0 ≤ b ∧ b ≤ 255
theorem FlIn.grow {G PG : Grp} {f : FL} (h : FlIn PG f) : FlIn (G ++ PG) f := ⟨h.1, h.2.1, h.2.2.1, h.2.2.2.1.mono (fun b o hb => by
  rcases hb with hb | hb
  · exact hb.elim
  · exact .inr (by simp only [List.flatten_cons, List.flatten_nil, List.append_nil] at hb ⊢; exact List.mem_append_right _ hb)), h.2.2.2.2⟩
theorem FlIn.new {G PG : Grp} {due num src dst : Int} {B : Option Addr} {n e : Nat} {T : TypeId} {bs : List Int} (ho : OS B n e T 1 (bs.map (.int .u8)) G) (hn : n ≤ 4000) (hb : ∀ b ∈ bs, 0 ≤ b ∧ b ≤ 255) : FlIn (G ++ PG) ⟨due, num, src, dst, B, n, e, bs⟩ :=
  ⟨by simpa using ho.len, ho.2.1, hn, (ho.cels (V := nowhere) (L := [G]) (j := 0) rfl).mono (fun b o hb => by
    rcases hb with hb | hb
    · exact hb.elim
    · exact .inr (by simp only [List.flatten_cons, List.flatten_nil, List.append_nil] at hb ⊢; exact List.mem_append_left _ hb)), hb⟩
theorem FlIn.cels {PG : Grp} {f : FL} (h : FlIn PG f) {V : Mem} {L : List Grp} {j : Nat} (hj : nth L j = some PG) : Cels V L f.A (f.bs.map (.int .u8)) := h.2.2.2.1.mono fun b o hb => by
  rcases hb with hb | hb
  · exact hb.elim
  · exact .inr (nth_mem hj _ (by simpa using hb))
/-- Packets put on their way, one after another. -/
def Puts (fs : List FL) : List FL → List FL → Prop
  | [], gs => gs = fs
  | xs, gs => ∃ hs, (match xs with | [] => gs = fs | x :: r => InsF fs x hs ∧ Puts hs r gs)
theorem Puts.nil (fs : List FL) : Puts fs [] fs := rfl
theorem Puts.cons {fs hs gs : List FL} {x : FL} {r : List FL} (h : InsF fs x hs) (h2 : Puts hs r gs) : Puts fs (x :: r) gs := ⟨hs, h, h2⟩
theorem Puts.snoc : ∀ {xs fs hs gs : List FL} {x : FL}, Puts fs xs hs → InsF hs x gs → Puts fs (xs ++ [x]) gs
  | [], fs, hs, gs, x, h, h2 => by
    have h : hs = fs := h
    subst h
    exact Puts.cons h2 (Puts.nil _)
  | y :: r, fs, hs, gs, x, h, h2 => by
    obtain ⟨us, h1, h3⟩ := h
    exact Puts.cons h1 (Puts.snoc h3 h2)
theorem InsF.len {fs gs : List FL} {x : FL} (h : InsF fs x gs) : gs.length = fs.length + 1 := by
  obtain ⟨k, hk, rfl, _⟩ := h
  simp
  omega
theorem InsF.mem {fs gs : List FL} {x f : FL} (h : InsF fs x gs) : f ∈ gs ↔ f = x ∨ f ∈ fs := by
  obtain ⟨k, hk, rfl, _⟩ := h
  rw [List.mem_append, List.mem_cons]
  conv => rhs; rw [← List.take_append_drop k fs, List.mem_append]
  constructor
  · rintro (h | h | h)
    · exact .inr (.inl h)
    · exact .inl h
    · exact .inr (.inr h)
  · rintro (h | h | h)
    · exact .inr (.inl h)
    · exact .inl h
    · exact .inr (.inr h)
theorem InsF.all {PG G : Grp} {fs gs : List FL} {x : FL} (h : InsF fs x gs) (ha : ∀ f ∈ fs, FlIn PG f) (hx : FlIn (G ++ PG) x) : ∀ f ∈ gs, FlIn (G ++ PG) f := fun f hf => by
  rcases h.mem.1 hf with rfl | hf
  · exact hx
  · exact (ha f hf).grow
/-- What the deeds do to a packet. -/
def delayOf (ds : List DD) (num : Int) : Int := ((ds.filter (fun d => decide (d.packet = num ∧ d.kind = 1))).map (·.n)).sum
def lostOf (ds : List DD) (num : Int) : Bool := ds.any (fun d => decide (d.packet = num ∧ d.kind = 0))
def copiesOf (ds : List DD) (num : Int) : List Int := (ds.filter (fun d => decide (d.packet = num ∧ d.kind = 2))).map (·.n)
def timesOf (ds : List DD) (num step : Int) : List Int := if lostOf ds num then [] else (step + 1 + delayOf ds num) :: (copiesOf ds num).map (step + 1 + delayOf ds num + ·)
theorem take_snoc {α : Type} [Inhabited α] {l : List α} {k : Nat} (hk : k < l.length) : l.take (k + 1) = l.take k ++ [l.getD ((k : Nat) : Int).toNat default] := by
  rw [List.take_add_one, List.getElem?_eq_getElem hk, Int.toNat_natCast, List.getD_eq_getElem?_getD, List.getElem?_eq_getElem hk]; rfl
theorem del_step {ds : List DD} {num : Int} {k : Nat} (hk : k < ds.length) : delayOf (ds.take (k + 1)) num = delayOf (ds.take k) num + (if (ds.getD ((k : Nat) : Int).toNat default).packet = num ∧ (ds.getD ((k : Nat) : Int).toNat default).kind = 1 then (ds.getD ((k : Nat) : Int).toNat default).n else 0) := by
  unfold delayOf
  rw [take_snoc hk, List.filter_append, List.map_append, List.sum_append]
  congr 1
  by_cases h : (ds.getD ((k : Nat) : Int).toNat default).packet = num ∧ (ds.getD ((k : Nat) : Int).toNat default).kind = 1
  · rw [if_pos h]; simp only [List.filter_cons, decide_eq_true h, if_true, List.filter_nil, List.map_cons, List.map_nil, List.sum_cons, List.sum_nil]; omega
  · rw [if_neg h]; simp only [List.filter_cons, decide_eq_false h]; simp
theorem lost_step {ds : List DD} {num : Int} {k : Nat} (hk : k < ds.length) : lostOf (ds.take (k + 1)) num = (lostOf (ds.take k) num || decide ((ds.getD ((k : Nat) : Int).toNat default).packet = num ∧ (ds.getD ((k : Nat) : Int).toNat default).kind = 0)) := by
  unfold lostOf
  rw [take_snoc hk, List.any_append]; simp
theorem cop_step {ds : List DD} {num : Int} {k : Nat} (hk : k < ds.length) : copiesOf (ds.take (k + 1)) num = copiesOf (ds.take k) num ++ (if (ds.getD ((k : Nat) : Int).toNat default).packet = num ∧ (ds.getD ((k : Nat) : Int).toNat default).kind = 2 then [(ds.getD ((k : Nat) : Int).toNat default).n] else []) := by
  unfold copiesOf
  rw [take_snoc hk, List.filter_append, List.map_append]
  congr 1
  by_cases h : (ds.getD ((k : Nat) : Int).toNat default).packet = num ∧ (ds.getD ((k : Nat) : Int).toNat default).kind = 2
  · rw [if_pos h]; simp only [List.filter_cons, decide_eq_true h, if_true, List.filter_nil, List.map_cons, List.map_nil]
  · rw [if_neg h]; simp only [List.filter_cons, decide_eq_false h]; simp
theorem delay_bd {ds : List DD} {num : Int} (h : ∀ d ∈ ds, d.ok) : 0 ≤ delayOf ds num ∧ delayOf ds num ≤ 50 * ds.length := by
  unfold delayOf
  induction ds with
  | nil => simp
  | cons d ds ih =>
    have ih := ih (fun x hx => h x (List.mem_cons_of_mem _ hx))
    have hd := h d (by simp)
    unfold DD.ok at hd
    rw [List.filter_cons]
    split
    · simp only [List.map_cons, List.sum_cons, List.length_cons]; omega
    · simp only [List.length_cons]; omega
theorem cop_len {ds : List DD} {num : Int} : (copiesOf ds num).length ≤ ds.length := by
  unfold copiesOf; rw [List.length_map]; exact List.length_filter_le _ _
theorem cop_bd {ds : List DD} {num : Int} (h : ∀ d ∈ ds, d.ok) : ∀ c ∈ copiesOf ds num, 0 ≤ c ∧ c ≤ 50 := by
  intro c hc
  obtain ⟨d, hd, rfl⟩ := List.mem_map.1 hc
  have := h d (List.mem_filter.1 hd).1
  unfold DD.ok at this
  omega
def sendErr (ends sent src dst : Int) (n : Nat) : Int := if src < 0 ∨ ends ≤ src ∨ dst < 0 ∨ ends ≤ dst ∨ src = dst then 1 else if 4000 < n then 2 else if sent = 32768 then 6 else 0
/-- What a packet on its way is known by. -/
def FL.key (f : FL) : Int × Int × Int × Int × List Int := (f.due, f.num, f.src, f.dst, f.bs)
/-- The state of the loop over deeds. -/
structure SD where
  i : Nat
  A : Option Addr
  n : Nat
  c : Nat
  E : Grp
/-- The state of the loop over copies. -/
structure SC where
  j : Nat
  xs : List FL
  gs : List FL
  A : Option Addr
  c : Nat
  E : Grp
  PG : Grp

theorem take_snocI {l : List Int} {k : Nat} (hk : k < l.length) : l.take (k + 1) = l.take k ++ [l.getD ((k : Nat) : Int).toNat 0] := by
  rw [List.take_add_one, List.getElem?_eq_getElem hk, Int.toNat_natCast, List.getD_eq_getElem?_getD, List.getElem?_eq_getElem hk]; rfl

theorem getD_memD {ds : List DD} {k : Nat} (h : k < ds.length) : ds.getD ((k : Nat) : Int).toNat default ∈ ds := by
  rw [Int.toNat_natCast, List.getD_eq_getElem?_getD, List.getElem?_eq_getElem h]; simp
theorem getD_in2 {l : List Int} {j : Nat} (h : j < l.length) : l.getD j 0 ∈ l := by
  rw [List.getD_eq_getElem?_getD, List.getElem?_eq_getElem h]; simp

theorem SendN_k0 (v0 : Int) (w : World) : (Instr.buildSlice 30 1 ([(0, (.int .i64 v0))] : List (Nat × Value)).toArray).run Try.prog w = .ok (.slice (some ⟨w.heap.size, 0, none⟩) 1 1) { w with heap := w.heap.push (.cells ([.int .i64 v0] : List Value).toArray 3 (0, 0)) } := by kernel_rfl
theorem SendN_k1 (v0 : Int) (v1 : Int) (v2A : Option Addr) (v2n : Nat) (v2c : Nat) (w : World) : (Instr.build 34 ([(0, (.int .i64 v0)), (1, (.int .i64 v1)), (2, (.slice v2A v2n v2c))] : List (Nat × Value)).toArray).run Try.prog w = .ok (.agg #[.int .i64 v0, .int .i64 v1, .slice v2A v2n v2c]) w := by kernel_rfl
theorem SendN_c {V : Mem} (b : Nat) (ends : Int) (dA : Option Addr) (dn dc : Nat) (now sent : Int) (aA : Option Addr) (an ac : Nat) (ds : List DD) (DG : Grp) (hod : OS dA dn dc 36 3 (ds.flatMap encD) DG) (hdn : dn ≤ 1000) (hdk : ∀ d ∈ ds, d.ok) (fs : List FL) (AG : Grp) (hos : OS aA an ac 133 5 ((fs).flatMap encFl) AG) (hb : an ≤ 32000000) (hnow : 0 ≤ now ∧ now ≤ 1000000) (hsent : 0 ≤ sent ∧ sent ≤ 32768) (PG : Grp) (hfs : ∀ f ∈ fs, FlIn PG f) (src dst : Int) (N : Option Addr) (n c : Nat) (bs : List Int) (h : Cels V [] N (bs.map (.int .u8))) (hn : bs.length = n) (hnb : n ≤ 140737488355328) (hbb : ∀ b ∈ bs, 0 ≤ b ∧ b ≤ 255) : CallS Try.prog 14 [.pointer (some ⟨b, 0, none⟩), .int .i64 src, .int .i64 dst, .slice N n c].toArray V [netg b ends dA dn dc now sent aA an ac, DG, AG, PG] (fun r L' => (sendErr ends sent src dst n ≠ 0 ∧ r = .int .i64 (sendErr ends sent src dst n) ∧ L' = [netg b ends dA dn dc now sent aA an ac, DG, AG, PG]) ∨ (sendErr ends sent src dst n = 0 ∧ r = .int .i64 0 ∧ ∃ A' n' c' E' gs xs PG', Puts fs xs gs ∧ xs.map FL.key = (timesOf ds sent now).map (fun t => (t, sent, src, dst, bs)) ∧ OS A' n' c' 133 5 ((gs).flatMap encFl) E' ∧ (∀ f ∈ gs, FlIn PG' f) ∧ L' = [netg b ends dA dn dc now (sent + 1) A' n' c', DG, E', PG'])) := by
  have hfl : fs.length = an := by have := hos.len; rw [flat_len encFl_len] at this; omega
  have hdl0 : ds.length = dn := by have := hod.len; rw [flat_len encD_len] at this; omega
  refine callS Try.func14 rfl rfl (fun w0 => ?_)
  refine s_seq ?_
  refine s_region ?_
  refine o_val rfl rfl rfl (y_assign (v := (.int _ _)) rfl) ?_
  refine o_nil ?_
  refine s_seq ?_
  refine s_seq ?_
  refine s_region ?_
  refine o_val rfl rfl rfl (y_move (v := (.int _ _)) rfl) ?_
  refine o_split rfl rfl rfl (y_lss rfl rfl) (fun p1 => ?_) (fun p2 => ?_)
  · refine o_val rfl rfl rfl (y_move (v := (.bool _)) rfl) ?_
    refine o_guard_no rfl rfl rfl rfl rfl ?_
    refine o_guard_no rfl rfl rfl rfl rfl ?_
    refine o_guard_no rfl rfl rfl rfl rfl ?_
    refine o_guard_no rfl rfl rfl rfl rfl ?_
    refine o_guard_no rfl rfl rfl rfl rfl ?_
    refine o_guard_no rfl rfl rfl rfl rfl ?_
    refine o_val rfl rfl rfl (y_pick_t (v := (.bool _)) rfl rfl) ?_
    refine o_val rfl rfl rfl (y_move (v := (.bool _)) rfl) ?_
    refine o_guard_no rfl rfl rfl rfl rfl ?_
    refine o_guard_no rfl rfl rfl rfl rfl ?_
    refine o_val rfl rfl rfl (y_pick_t (v := (.bool _)) rfl rfl) ?_
    refine o_val rfl rfl rfl (y_move (v := (.bool _)) rfl) ?_
    refine o_guard_no rfl rfl rfl rfl rfl ?_
    refine o_guard_no rfl rfl rfl rfl rfl ?_
    refine o_guard_no rfl rfl rfl rfl rfl ?_
    refine o_guard_no rfl rfl rfl rfl rfl ?_
    refine o_guard_no rfl rfl rfl rfl rfl ?_
    refine o_guard_no rfl rfl rfl rfl rfl ?_
    refine o_val rfl rfl rfl (y_pick_t (v := (.bool _)) rfl rfl) ?_
    refine o_val rfl rfl rfl (y_move (v := (.bool _)) rfl) ?_
    refine o_guard_no rfl rfl rfl rfl rfl ?_
    refine o_guard_no rfl rfl rfl rfl rfl ?_
    refine o_guard_no rfl rfl rfl rfl rfl ?_
    refine o_val rfl rfl rfl (y_pick_t (v := (.bool _)) rfl rfl) ?_
    refine o_nil ?_
    refine s_forget [(0, (.pointer _)), (1, (.int _ _)), (2, (.int _ _)), (3, (.slice _ _ _)), (8, (.int _ _)), (43, (.bool _))] ⟨rfl, rfl, rfl, rfl, rfl, rfl, trivial⟩ (fun _f => ?_)
    refine s_then rfl ?_
    refine s_seq ?_
    refine s_region ?_
    refine o_val rfl rfl rfl (y_assign (v := (.int _ _)) rfl) ?_
    refine o_nil ?_
    refine s_ret ?_
    exact ⟨_, _, res1 rfl rfl, .inl ⟨by unfold sendErr; rw [if_pos (by omega)]; decide, congrArg (Value.int .i64) (by unfold sendErr; rw [if_pos (by omega)]), rfl⟩, sub_front ⟨_, rfl⟩⟩
  · refine o_val rfl rfl rfl (y_move (v := (.bool _)) rfl) ?_
    refine o_guard_yes rfl rfl ?_
    refine o_val rfl rfl rfl (y_move (v := (.int _ _)) rfl) ?_
    refine o_guard_yes rfl rfl ?_
    refine o_val rfl rfl rfl (y_move (v := (.pointer _)) rfl) ?_
    refine o_guard_yes rfl rfl ?_
    refine o_val rfl rfl rfl (y_nilCheck rfl) ?_
    refine o_guard_yes rfl rfl ?_
    refine o_val rfl rfl rfl (y_field0 Try.runUnderlying130 rfl Try.sizeOf3 rfl rfl) ?_
    refine o_guard_yes rfl rfl ?_
    refine o_val rfl rfl rfl (y_load Try.isAgg3 rfl (cel_own 0 rfl rfl)) ?_
    refine o_guard_yes rfl rfl ?_
    refine o_split rfl rfl rfl (y_geq rfl rfl) (fun p3 => ?_) (fun p4 => ?_)
    · refine o_val rfl rfl rfl (y_pick_f (v := (.bool _)) rfl rfl) ?_
      refine o_val rfl rfl rfl (y_move (v := (.bool _)) rfl) ?_
      refine o_guard_no rfl rfl rfl rfl rfl ?_
      refine o_guard_no rfl rfl rfl rfl rfl ?_
      refine o_val rfl rfl rfl (y_pick_t (v := (.bool _)) rfl rfl) ?_
      refine o_val rfl rfl rfl (y_move (v := (.bool _)) rfl) ?_
      refine o_guard_no rfl rfl rfl rfl rfl ?_
      refine o_guard_no rfl rfl rfl rfl rfl ?_
      refine o_guard_no rfl rfl rfl rfl rfl ?_
      refine o_guard_no rfl rfl rfl rfl rfl ?_
      refine o_guard_no rfl rfl rfl rfl rfl ?_
      refine o_guard_no rfl rfl rfl rfl rfl ?_
      refine o_val rfl rfl rfl (y_pick_t (v := (.bool _)) rfl rfl) ?_
      refine o_val rfl rfl rfl (y_move (v := (.bool _)) rfl) ?_
      refine o_guard_no rfl rfl rfl rfl rfl ?_
      refine o_guard_no rfl rfl rfl rfl rfl ?_
      refine o_guard_no rfl rfl rfl rfl rfl ?_
      refine o_val rfl rfl rfl (y_pick_t (v := (.bool _)) rfl rfl) ?_
      refine o_nil ?_
      refine s_forget [(0, (.pointer _)), (1, (.int _ _)), (2, (.int _ _)), (3, (.slice _ _ _)), (8, (.int _ _)), (43, (.bool _))] ⟨rfl, rfl, rfl, rfl, rfl, rfl, trivial⟩ (fun _f => ?_)
      refine s_then rfl ?_
      refine s_seq ?_
      refine s_region ?_
      refine o_val rfl rfl rfl (y_assign (v := (.int _ _)) rfl) ?_
      refine o_nil ?_
      refine s_ret ?_
      exact ⟨_, _, res1 rfl rfl, .inl ⟨by unfold sendErr; rw [if_pos (by omega)]; decide, congrArg (Value.int .i64) (by unfold sendErr; rw [if_pos (by omega)]), rfl⟩, sub_front ⟨_, rfl⟩⟩
    · refine o_val rfl rfl rfl (y_pick_f (v := (.bool _)) rfl rfl) ?_
      refine o_val rfl rfl rfl (y_move (v := (.bool _)) rfl) ?_
      refine o_guard_yes rfl rfl ?_
      refine o_val rfl rfl rfl (y_move (v := (.int _ _)) rfl) ?_
      refine o_guard_yes rfl rfl ?_
      refine o_split rfl rfl rfl (y_lss rfl rfl) (fun p5 => ?_) (fun p6 => ?_)
      · refine o_val rfl rfl rfl (y_pick_f (v := (.bool _)) rfl rfl) ?_
        refine o_val rfl rfl rfl (y_move (v := (.bool _)) rfl) ?_
        refine o_guard_no rfl rfl rfl rfl rfl ?_
        refine o_guard_no rfl rfl rfl rfl rfl ?_
        refine o_guard_no rfl rfl rfl rfl rfl ?_
        refine o_guard_no rfl rfl rfl rfl rfl ?_
        refine o_guard_no rfl rfl rfl rfl rfl ?_
        refine o_guard_no rfl rfl rfl rfl rfl ?_
        refine o_val rfl rfl rfl (y_pick_t (v := (.bool _)) rfl rfl) ?_
        refine o_val rfl rfl rfl (y_move (v := (.bool _)) rfl) ?_
        refine o_guard_no rfl rfl rfl rfl rfl ?_
        refine o_guard_no rfl rfl rfl rfl rfl ?_
        refine o_guard_no rfl rfl rfl rfl rfl ?_
        refine o_val rfl rfl rfl (y_pick_t (v := (.bool _)) rfl rfl) ?_
        refine o_nil ?_
        refine s_forget [(0, (.pointer _)), (1, (.int _ _)), (2, (.int _ _)), (3, (.slice _ _ _)), (8, (.int _ _)), (43, (.bool _))] ⟨rfl, rfl, rfl, rfl, rfl, rfl, trivial⟩ (fun _f => ?_)
        refine s_then rfl ?_
        refine s_seq ?_
        refine s_region ?_
        refine o_val rfl rfl rfl (y_assign (v := (.int _ _)) rfl) ?_
        refine o_nil ?_
        refine s_ret ?_
        exact ⟨_, _, res1 rfl rfl, .inl ⟨by unfold sendErr; rw [if_pos (by omega)]; decide, congrArg (Value.int .i64) (by unfold sendErr; rw [if_pos (by omega)]), rfl⟩, sub_front ⟨_, rfl⟩⟩
      · refine o_val rfl rfl rfl (y_pick_f (v := (.bool _)) rfl rfl) ?_
        refine o_val rfl rfl rfl (y_move (v := (.bool _)) rfl) ?_
        refine o_guard_yes rfl rfl ?_
        refine o_val rfl rfl rfl (y_move (v := (.int _ _)) rfl) ?_
        refine o_guard_yes rfl rfl ?_
        refine o_val rfl rfl rfl (y_move (v := (.pointer _)) rfl) ?_
        refine o_guard_yes rfl rfl ?_
        refine o_val rfl rfl rfl (y_nilCheck rfl) ?_
        refine o_guard_yes rfl rfl ?_
        refine o_val rfl rfl rfl (y_field0 Try.runUnderlying130 rfl Try.sizeOf3 rfl rfl) ?_
        refine o_guard_yes rfl rfl ?_
        refine o_val rfl rfl rfl (y_load Try.isAgg3 rfl (cel_own 0 rfl rfl)) ?_
        refine o_guard_yes rfl rfl ?_
        refine o_split rfl rfl rfl (y_geq rfl rfl) (fun p7 => ?_) (fun p8 => ?_)
        · refine o_val rfl rfl rfl (y_pick_f (v := (.bool _)) rfl rfl) ?_
          refine o_val rfl rfl rfl (y_move (v := (.bool _)) rfl) ?_
          refine o_guard_no rfl rfl rfl rfl rfl ?_
          refine o_guard_no rfl rfl rfl rfl rfl ?_
          refine o_guard_no rfl rfl rfl rfl rfl ?_
          refine o_val rfl rfl rfl (y_pick_t (v := (.bool _)) rfl rfl) ?_
          refine o_nil ?_
          refine s_forget [(0, (.pointer _)), (1, (.int _ _)), (2, (.int _ _)), (3, (.slice _ _ _)), (8, (.int _ _)), (43, (.bool _))] ⟨rfl, rfl, rfl, rfl, rfl, rfl, trivial⟩ (fun _f => ?_)
          refine s_then rfl ?_
          refine s_seq ?_
          refine s_region ?_
          refine o_val rfl rfl rfl (y_assign (v := (.int _ _)) rfl) ?_
          refine o_nil ?_
          refine s_ret ?_
          exact ⟨_, _, res1 rfl rfl, .inl ⟨by unfold sendErr; rw [if_pos (by omega)]; decide, congrArg (Value.int .i64) (by unfold sendErr; rw [if_pos (by omega)]), rfl⟩, sub_front ⟨_, rfl⟩⟩
        · refine o_val rfl rfl rfl (y_pick_f (v := (.bool _)) rfl rfl) ?_
          refine o_val rfl rfl rfl (y_move (v := (.bool _)) rfl) ?_
          refine o_guard_yes rfl rfl ?_
          refine o_val rfl rfl rfl (y_move (v := (.int _ _)) rfl) ?_
          refine o_guard_yes rfl rfl ?_
          refine o_val rfl rfl rfl (y_move (v := (.int _ _)) rfl) ?_
          refine o_guard_yes rfl rfl ?_
          refine o_val rfl rfl rfl (y_eql rfl rfl) ?_
          refine o_val rfl rfl rfl (y_pick_f (v := (.bool _)) rfl rfl) ?_
          refine o_nil ?_
          refine s_forget [(0, (.pointer _)), (1, (.int _ _)), (2, (.int _ _)), (3, (.slice _ _ _)), (8, (.int _ _)), (43, (.bool _))] ⟨rfl, rfl, rfl, rfl, rfl, rfl, trivial⟩ (fun _f => ?_)
          refine s_if rfl (fun h9 => ?_) (fun h10 => ?_)
          · refine s_seq ?_
            refine s_region ?_
            refine o_val rfl rfl rfl (y_assign (v := (.int _ _)) rfl) ?_
            refine o_nil ?_
            refine s_ret ?_
            exact ⟨_, _, res1 rfl rfl, .inl ⟨by unfold sendErr; rw [if_pos (by omega)]; decide, congrArg (Value.int .i64) (by unfold sendErr; rw [if_pos (by omega)]), rfl⟩, sub_front ⟨_, rfl⟩⟩
          · refine s_skip ?_
            refine s_seq ?_
            refine s_seq ?_
            refine s_region ?_
            refine o_val rfl rfl rfl (y_move (v := (.slice _ _ _)) rfl) ?_
            refine o_val rfl rfl rfl (y_len Try.runUnderlying29 rfl) ?_
            refine o_val rfl rfl rfl (y_gtr rfl rfl) ?_
            refine o_nil ?_
            refine s_if rfl (fun h11 => ?_) (fun h12 => ?_)
            · refine s_seq ?_
              refine s_region ?_
              refine o_val rfl rfl rfl (y_assign (v := (.int _ _)) rfl) ?_
              refine o_nil ?_
              refine s_ret ?_
              exact ⟨_, _, res1 rfl rfl, .inl ⟨by unfold sendErr; rw [if_neg (by omega), if_pos (by omega)]; decide, congrArg (Value.int .i64) (by unfold sendErr; rw [if_neg (by omega), if_pos (by omega)]), rfl⟩, sub_front ⟨_, rfl⟩⟩
            · refine s_skip ?_
              refine s_seq ?_
              refine s_seq ?_
              refine s_region ?_
              refine o_val rfl rfl rfl (y_move (v := (.pointer _)) rfl) ?_
              refine o_val rfl rfl rfl (y_nilCheck rfl) ?_
              refine o_val rfl rfl rfl (y_field0 Try.runUnderlying130 rfl Try.sizeOf3 rfl rfl) ?_
              refine o_val rfl rfl rfl (y_load Try.isAgg3 rfl (cel_own 0 rfl rfl)) ?_
              refine o_val rfl rfl rfl (y_eql rfl rfl) ?_
              refine o_nil ?_
              refine s_if rfl (fun h13 => ?_) (fun h14 => ?_)
              · refine s_seq ?_
                refine s_region ?_
                refine o_val rfl rfl rfl (y_assign (v := (.int _ _)) rfl) ?_
                refine o_nil ?_
                refine s_ret ?_
                exact ⟨_, _, res1 rfl rfl, .inl ⟨by unfold sendErr; rw [if_neg (by omega), if_neg (by omega), if_pos (by omega)]; decide, congrArg (Value.int .i64) (by unfold sendErr; rw [if_neg (by omega), if_neg (by omega), if_pos (by omega)]), rfl⟩, sub_front ⟨_, rfl⟩⟩
              · refine s_skip ?_
                refine s_seq ?_
                refine s_region ?_
                refine o_val rfl rfl rfl (y_move (v := (.pointer _)) rfl) ?_
                refine o_val rfl rfl rfl (y_nilCheck rfl) ?_
                refine o_val rfl rfl rfl (y_field0 Try.runUnderlying130 rfl Try.sizeOf3 rfl rfl) ?_
                refine o_val rfl rfl rfl (y_load Try.isAgg3 rfl (cel_own 0 rfl rfl)) ?_
                refine o_val rfl rfl rfl (y_assign (v := (.int _ _)) rfl) ?_
                refine o_nil ?_
                refine s_seq ?_
                refine s_region ?_
                refine o_val rfl rfl rfl (y_move (v := (.pointer _)) rfl) ?_
                refine o_val rfl rfl rfl (y_nilCheck rfl) ?_
                refine o_val rfl rfl rfl (y_field0 Try.runUnderlying130 rfl Try.sizeOf3 rfl rfl) ?_
                refine o_val rfl rfl rfl (y_load Try.isAgg3 rfl (cel_own 0 rfl rfl)) ?_
                refine o_val rfl rfl rfl (y_add rfl rfl (by simp only [inK]; omega)) ?_
                refine o_val rfl rfl rfl (y_nilCheck rfl) ?_
                refine o_val rfl rfl rfl (y_field0 Try.runUnderlying130 rfl Try.sizeOf3 rfl rfl) ?_
                refine o_store (v := (.int _ _)) 0 rfl Try.sizeOf3 rfl rfl rfl rfl ?_
                refine o_nil ?_
                refine s_forget [(0, (.pointer _)), (1, (.int _ _)), (2, (.int _ _)), (3, (.slice _ _ _)), (8, (.int _ _)), (9, (.int _ _))] ⟨rfl, rfl, rfl, rfl, rfl, rfl, trivial⟩ (fun _f => ?_)
                refine s_seq ?_
                refine s_region ?_
                refine o_val rfl rfl rfl (y_move (v := (.pointer _)) rfl) ?_
                refine o_val rfl rfl rfl (y_nilCheck rfl) ?_
                refine o_val rfl rfl rfl (y_field0 Try.runUnderlying130 rfl Try.sizeOf3 rfl rfl) ?_
                refine o_val rfl rfl rfl (y_load Try.isAgg3 rfl (cel_own 0 rfl rfl)) ?_
                refine o_val rfl rfl rfl (y_add rfl rfl (by simp only [inK]; omega)) ?_
                refine o_val rfl rfl rfl (y_assign (v := (.int _ _)) rfl) ?_
                refine o_val rfl rfl rfl (y_assign (v := (.bool _)) rfl) ?_
                refine o_nil ?_
                refine s_seq ?_
                refine s_region ?_
                refine o_val rfl rfl rfl (y_assign (v := (.slice _ _ _)) rfl) ?_
                refine o_nil ?_
                refine s_seq ?_
                refine s_seq ?_
                refine s_region ?_
                refine o_val rfl rfl rfl (y_move (v := (.pointer _)) rfl) ?_
                refine o_val rfl rfl rfl (y_nilCheck rfl) ?_
                refine o_val rfl rfl rfl (y_field0 Try.runUnderlying130 rfl Try.sizeOf22 rfl rfl) ?_
                refine o_val rfl rfl rfl (y_load Try.isAgg22 rfl (cel_own 0 rfl rfl)) ?_
                refine o_val rfl rfl rfl (y_len Try.runUnderlying22 rfl) ?_
                refine o_val rfl rfl rfl (y_move (v := (.int _ _)) rfl) ?_
                refine o_nil ?_
                refine s_forget [(0, (.pointer _)), (1, (.int _ _)), (2, (.int _ _)), (3, (.slice _ _ _)), (8, (.int _ _)), (9, (.int _ _)), (10, (.int _ _)), (11, (.bool _)), (12, (.slice _ _ _)), (71, (.slice _ _ _)), (72, (.int _ _)), (73, (.int _ _))] ⟨rfl, rfl, rfl, rfl, rfl, rfl, rfl, rfl, rfl, rfl, rfl, rfl, trivial⟩ (fun _f => ?_)
                refine s_block ?_
                refine s_group ?_
                refine s_loop (γ := SD) (fun g => [(0, .pointer (some ⟨b, 0, none⟩)), (1, .int .i64 src), (2, .int .i64 dst), (3, .slice N n c), (9, .int .i64 sent), (10, .int .i64 (now + 1 + delayOf (ds.take g.i) sent)), (11, .bool (lostOf (ds.take g.i) sent)), (12, .slice g.A g.n g.c), (71, .slice dA dn dc), (72, .int .i64 dn), (73, .int .i64 g.i)]) (fun g => [netg b ends dA dn dc now (sent + 1) aA an ac, DG, AG, PG, g.E]) (fun g => g.i ≤ dn ∧ OS g.A g.n g.c 3 1 ((copiesOf (ds.take g.i) sent).map (.int .i64)) g.E) (fun g => dn - g.i) (SD.mk 0 none 0 0 []) ?_ ⟨rfl, rfl, rfl, rfl, rfl, (congrArg (Value.int .i64) (by simp [delayOf])), rfl, rfl, rfl, rfl, rfl, trivial⟩ (sub_front ⟨_, rfl⟩) ?_
                · exact ⟨Nat.zero_le _, OS.nil _ _⟩
                · intro g _f hI
                  obtain ⟨hi, hoc⟩ := hI
                  have hcn : (copiesOf (ds.take g.i) sent).length = g.n := by simpa using hoc.len
                  have hcl := cop_len (ds := ds.take g.i) (num := sent)
                  rw [List.length_take] at hcl
                  have hdl := delay_bd (ds := ds.take g.i) (num := sent) (fun d hd => hdk d (List.mem_of_mem_take hd))
                  rw [List.length_take] at hdl
                  have hdst := fun hk => del_step (ds := ds) (num := sent) (k := g.i) hk
                  have hlst := fun hk => lost_step (ds := ds) (num := sent) (k := g.i) hk
                  have hcst := fun hk => cop_step (ds := ds) (num := sent) (k := g.i) hk
                  refine s_seq ?_
                  refine s_region ?_
                  refine o_val rfl rfl rfl (y_lss rfl rfl) ?_
                  refine o_nil ?_
                  refine s_seq ?_
                  refine s_if rfl (fun h15 => ?_) (fun h16 => ?_)
                  · refine s_skip ?_
                    refine s_seq ?_
                    refine s_block ?_
                    refine s_seq ?_
                    refine s_region ?_
                    refine o_val rfl rfl rfl (y_indexAddr Try.runUnderlying22 Try.sizeOf36 (hod.some_of (by omega)) rfl rfl (by omega)) ?_
                    refine o_val rfl rfl rfl (y_loads (cs := [_, _, _]) Try.isAgg36 Try.sizeOf36 rfl (by unfold idx; rw [Option.isSome_map]; exact hod.some_of (by omega)) rfl (cels_at (sz := 3) encD_len (hod.cels (j := 1) rfl) (by omega))) ?_
                    refine o_alloc rfl Try.zeroValue36 rfl (fun b17 => ?_)
                    refine o_stores (vs := [(.int _ _), (.int _ _), (.int _ _)]) 5 rfl Try.sizeOf36 rfl rfl rfl (by simp [Value.oneCell']) (by simp) ?_
                    refine o_nil ?_
                    refine s_norm [[(_, .cells [(.int _ _), (.slice _ _ _), (.int _ _), (.int _ _), (.slice _ _ _)].toArray 130 (0, 0))], _, _, _, _, [(_, .cells [(.int _ _), (.int _ _), (.int _ _)].toArray 36 (0, 0))]] rfl ?_
                    refine s_seq ?_
                    refine s_seq ?_
                    refine s_region ?_
                    refine o_val rfl rfl rfl (y_field0 Try.runUnderlying36 rfl Try.sizeOf3 rfl rfl) ?_
                    refine o_val rfl rfl rfl (y_load Try.isAgg3 rfl (cel_own 5 rfl rfl)) ?_
                    refine o_val rfl rfl rfl (y_move (v := (.int _ _)) rfl) ?_
                    refine o_val rfl rfl rfl (y_neq rfl rfl) ?_
                    refine o_nil ?_
                    refine s_if rfl (fun h18 => ?_) (fun h19 => ?_)
                    · refine s_exit ?_
                      refine s_region ?_
                      refine o_val rfl rfl rfl (y_add rfl rfl (by simp only [inK]; omega)) ?_
                      refine o_val rfl rfl rfl (y_move (v := (.int _ _)) rfl) ?_
                      refine o_nil ?_
                      exact ⟨SD.mk (g.i + 1) g.A g.n g.c g.E, (by first | omega | (dsimp only; omega)), ⟨by dsimp only; omega, (by rw [hcst (by omega)]; first | (rw [if_neg (by omega), List.append_nil]; exact hoc) | (rw [if_pos (by omega)]; exact hoc))⟩, ⟨rfl, rfl, rfl, rfl, rfl, (congrArg (Value.int .i64) (by dsimp only; rw [hdst (by omega)]; first | (rw [if_neg (by omega)]; omega) | (rw [if_pos (by omega)]; omega))), (congrArg Value.bool (by dsimp only; rw [hlst (by omega)]; first | (rw [decide_eq_true (by omega)]; simp) | (rw [decide_eq_false (by omega)]; simp))), rfl, rfl, rfl, (congrArg (Value.int .i64) (by dsimp only; omega)), trivial⟩, sub_front ⟨_, rfl⟩⟩
                    · refine s_skip ?_
                      refine s_seq ?_
                      refine s_region ?_
                      refine o_val rfl rfl rfl (y_field0 Try.runUnderlying36 rfl Try.sizeOf3 rfl rfl) ?_
                      refine o_val rfl rfl rfl (y_load Try.isAgg3 rfl (cel_own 5 rfl rfl)) ?_
                      refine o_nil ?_
                      refine s_block ?_
                      refine s_seq ?_
                      refine s_region ?_
                      refine o_val rfl rfl rfl (y_eql rfl rfl) ?_
                      refine o_val rfl rfl rfl (y_assign (v := (.bool _)) rfl) ?_
                      refine o_nil ?_
                      refine s_if rfl (fun h20 => ?_) (fun h21 => ?_)
                      · refine s_region ?_
                        refine o_val rfl rfl rfl (y_assign (v := (.bool _)) rfl) ?_
                        refine o_nil ?_
                        refine s_region ?_
                        refine o_val rfl rfl rfl (y_add rfl rfl (by simp only [inK]; omega)) ?_
                        refine o_val rfl rfl rfl (y_move (v := (.int _ _)) rfl) ?_
                        refine o_nil ?_
                        exact ⟨SD.mk (g.i + 1) g.A g.n g.c g.E, (by first | omega | (dsimp only; omega)), ⟨by dsimp only; omega, (by rw [hcst (by omega)]; first | (rw [if_neg (by omega), List.append_nil]; exact hoc) | (rw [if_pos (by omega)]; exact hoc))⟩, ⟨rfl, rfl, rfl, rfl, rfl, (congrArg (Value.int .i64) (by dsimp only; rw [hdst (by omega)]; first | (rw [if_neg (by omega)]; omega) | (rw [if_pos (by omega)]; omega))), (congrArg Value.bool (by dsimp only; rw [hlst (by omega)]; first | (rw [decide_eq_true (by omega)]; simp) | (rw [decide_eq_false (by omega)]; simp))), rfl, rfl, rfl, (congrArg (Value.int .i64) (by dsimp only; omega)), trivial⟩, sub_front ⟨_, rfl⟩⟩
                      · refine s_seq ?_
                        refine s_region ?_
                        refine o_val rfl rfl rfl (y_eql rfl rfl) ?_
                        refine o_val rfl rfl rfl (y_assign (v := (.bool _)) rfl) ?_
                        refine o_nil ?_
                        refine s_if rfl (fun h22 => ?_) (fun h23 => ?_)
                        · refine s_region ?_
                          refine o_val rfl rfl rfl (y_move (v := (.int _ _)) rfl) ?_
                          refine o_val rfl rfl rfl (y_field0 Try.runUnderlying36 rfl Try.sizeOf3 rfl rfl) ?_
                          refine o_val rfl rfl rfl (y_load Try.isAgg3 rfl (cel_own 5 rfl rfl)) ?_
                          refine o_val rfl rfl rfl (y_add rfl rfl (by have hok := hdk _ (getD_memD (ds := ds) (k := g.i) (by omega)); unfold DD.ok at hok; simp only [inK]; omega)) ?_
                          refine o_val rfl rfl rfl (y_assign (v := (.int _ _)) rfl) ?_
                          refine o_nil ?_
                          refine s_region ?_
                          refine o_val rfl rfl rfl (y_add rfl rfl (by simp only [inK]; omega)) ?_
                          refine o_val rfl rfl rfl (y_move (v := (.int _ _)) rfl) ?_
                          refine o_nil ?_
                          exact ⟨SD.mk (g.i + 1) g.A g.n g.c g.E, (by first | omega | (dsimp only; omega)), ⟨by dsimp only; omega, (by rw [hcst (by omega)]; first | (rw [if_neg (by omega), List.append_nil]; exact hoc) | (rw [if_pos (by omega)]; exact hoc))⟩, ⟨rfl, rfl, rfl, rfl, rfl, (congrArg (Value.int .i64) (by dsimp only; rw [hdst (by omega)]; first | (rw [if_neg (by omega)]; omega) | (rw [if_pos (by omega)]; omega))), (congrArg Value.bool (by dsimp only; rw [hlst (by omega)]; first | (rw [decide_eq_true (by omega)]; simp) | (rw [decide_eq_false (by omega)]; simp))), rfl, rfl, rfl, (congrArg (Value.int .i64) (by dsimp only; omega)), trivial⟩, sub_front ⟨_, rfl⟩⟩
                        · refine s_seq ?_
                          refine s_region ?_
                          refine o_val rfl rfl rfl (y_eql rfl rfl) ?_
                          refine o_val rfl rfl rfl (y_assign (v := (.bool _)) rfl) ?_
                          refine o_nil ?_
                          refine s_if rfl (fun h24 => ?_) (fun h25 => ?_)
                          · refine s_region ?_
                            refine o_val rfl rfl rfl (y_move (v := (.slice _ _ _)) rfl) ?_
                            refine o_val rfl rfl rfl (y_field0 Try.runUnderlying36 rfl Try.sizeOf3 rfl rfl) ?_
                            refine o_val rfl rfl rfl (y_load Try.isAgg3 rfl (cel_own 5 rfl rfl)) ?_
                            refine o_lit (vs := [(0, .int _ _)]) rfl rfl (SendN_k0 _) (fun b26 => ?_)
                            refine o_append (sz := 1) (bytes := 8) (news := [(.int _ _)]) 4 rfl Try.underlying30 Try.type3 rfl rfl rfl rfl rfl hoc rfl rfl (Src.slice Try.underlying30 (cels_own 6 rfl rfl) rfl (by simp [Value.oneCell']) (by simp)) (by omega) (fun A27 c28 E29 ho30 hn31 => ?_)
                            have ho32 : OS A27 (g.n + 1) c28 3 1 ((copiesOf (ds.take g.i) sent ++ [(ds.getD ((g.i : Nat) : Int).toNat default).n]).map (.int .i64)) E29 := os_app_int (cs := [_]) ho30
                            clear ho30
                            refine o_val rfl rfl rfl (y_assign (v := (.slice _ _ _)) rfl) ?_
                            refine o_nil ?_
                            refine s_norm [[(_, .cells [(.int _ _), (.slice _ _ _), (.int _ _), (.int _ _), (.slice _ _ _)].toArray 130 (0, 0))], _, _, _, _, [(_, .cells [(.int _ _), (.int _ _), (.int _ _)].toArray 36 (0, 0))], [(_, .cells [(.int _ _)].toArray 3 (0, 0))]] rfl ?_
                            refine s_region ?_
                            refine o_val rfl rfl rfl (y_add rfl rfl (by simp only [inK]; omega)) ?_
                            refine o_val rfl rfl rfl (y_move (v := (.int _ _)) rfl) ?_
                            refine o_nil ?_
                            exact ⟨SD.mk (g.i + 1) A27 (g.n + 1) c28 E29, (by first | omega | (dsimp only; omega)), ⟨by dsimp only; omega, (by rw [hcst (by omega)]; first | (rw [if_neg (by omega), List.append_nil]; exact ho32) | (rw [if_pos (by omega)]; exact ho32))⟩, ⟨rfl, rfl, rfl, rfl, rfl, (congrArg (Value.int .i64) (by dsimp only; rw [hdst (by omega)]; first | (rw [if_neg (by omega)]; omega) | (rw [if_pos (by omega)]; omega))), (congrArg Value.bool (by dsimp only; rw [hlst (by omega)]; first | (rw [decide_eq_true (by omega)]; simp) | (rw [decide_eq_false (by omega)]; simp))), rfl, rfl, rfl, (congrArg (Value.int .i64) (by dsimp only; omega)), trivial⟩, sub_front ⟨_, rfl⟩⟩
                          · exfalso; have hok := hdk _ (getD_memD (ds := ds) (k := g.i) (by omega)); unfold DD.ok at hok; omega
                  · refine s_exit ?_
                    refine s_seq ?_
                    refine s_seq ?_
                    refine s_region ?_
                    refine o_val rfl rfl rfl (y_move (v := (.bool _)) rfl) ?_
                    refine o_nil ?_
                    refine s_ifb rfl (fun h33 => ?_) (fun h34 => ?_)
                    · have eds : ds.take g.i = ds := List.take_of_length_le (by omega)
                      rw [eds] at h33
                      have hlost := h33
                      refine s_seq ?_
                      refine s_region ?_
                      refine o_val rfl rfl rfl (y_assign (v := (.int _ _)) rfl) ?_
                      refine o_nil ?_
                      refine s_ret ?_
                      exact ⟨_, _, res1 rfl rfl, .inr ⟨by unfold sendErr; rw [if_neg (by omega), if_neg (by omega), if_neg (by omega)], rfl, _, _, _, _, fs, [], PG, Puts.nil _, by unfold timesOf; rw [if_pos hlost]; rfl, hos, hfs, rfl⟩, sub_picks [0, 0, 0, 0] rfl⟩
                    · have eds : ds.take g.i = ds := List.take_of_length_le (by omega)
                      rw [eds] at h34 hoc hcn hcl hdl ⊢
                      have hlost := h34
                      refine s_skip ?_
                      refine s_seq ?_
                      refine s_region ?_
                      refine o_val rfl rfl rfl (y_move (v := (.pointer _)) rfl) ?_
                      refine o_val rfl rfl rfl (y_move (v := (.int _ _)) rfl) ?_
                      refine o_val rfl rfl rfl (y_move (v := (.int _ _)) rfl) ?_
                      refine o_val rfl rfl rfl (y_move (v := (.int _ _)) rfl) ?_
                      refine o_val rfl rfl rfl (y_move (v := (.int _ _)) rfl) ?_
                      refine o_val rfl rfl rfl (y_move (v := (.slice _ _ _)) rfl) ?_
                      refine o_fn 0 (d := 106) rfl Try.call68 (BClone_c N n c bs h.here.down hn (by omega)) rfl ?_
                      rintro _ _ ⟨cB, ce, cG, rfl, hco, rfl⟩
                      refine o_val rfl rfl rfl (y_build (vs := [(0, .int _ _), (1, .int _ _), (2, .slice _ _ _)]) rfl (SendN_k1 _ _ _ _ _)) ?_
                      refine o_pull 3 ?_
                      refine o_pull 2 ?_
                      refine o_fn 2 (d := 108) rfl Try.call67 (fly_c b ends dA dn dc now (sent + 1) aA an ac fs AG hos (by omega) ⟨(now + 1 + delayOf ds sent), sent, src, dst, cB, n, ce, bs⟩) rfl ?_
                      rintro _ _ ⟨rfl, fA, fc, fE, gs, hins, hof, rfl⟩
                      have hall1 := hins.all hfs (FlIn.new (PG := PG) (due := (now + 1 + delayOf ds sent)) (num := sent) (src := src) (dst := dst) hco (by omega) hbb)
                      refine o_pull 4 ?_
                      refine o_pull 3 ?_
                      refine o_fuse ?_
                      refine o_nil ?_
                      refine s_seq ?_
                      refine s_seq ?_
                      refine s_region ?_
                      refine o_val rfl rfl rfl (y_move (v := (.slice _ _ _)) rfl) ?_
                      refine o_val rfl rfl rfl (y_len Try.runUnderlying30 rfl) ?_
                      refine o_val rfl rfl rfl (y_move (v := (.int _ _)) rfl) ?_
                      refine o_nil ?_
                      refine s_block ?_
                      refine s_sub_picks [1, 2, 1, 0, 0] rfl ?_
                      have hgl := hins.len
                      refine s_loop (γ := SC) (fun u => [(0, .pointer (some ⟨b, 0, none⟩)), (1, .int .i64 src), (2, .int .i64 dst), (3, .slice N n c), (9, .int .i64 sent), (10, .int .i64 (now + 1 + delayOf ds sent)), (109, .slice g.A g.n g.c), (110, .int .i64 g.n), (111, .int .i64 u.j)]) (fun u => [netg b ends dA dn dc now (sent + 1) u.A u.gs.length u.c, DG, u.E, u.PG, g.E]) (fun u => u.j ≤ g.n ∧ Puts fs u.xs u.gs ∧ u.xs.map FL.key = (((now + 1 + delayOf ds sent) :: ((copiesOf ds sent).take u.j).map ((now + 1 + delayOf ds sent) + ·)).map (fun t => (t, sent, src, dst, bs))) ∧ OS u.A u.gs.length u.c 133 5 ((u.gs).flatMap encFl) u.E ∧ (∀ f ∈ u.gs, FlIn u.PG f) ∧ u.gs.length = an + 1 + u.j) (fun u => g.n - u.j) (SC.mk 0 [⟨(now + 1 + delayOf ds sent), sent, src, dst, cB, n, ce, bs⟩] gs fA fc fE (cG ++ PG)) ?_ ⟨rfl, rfl, rfl, rfl, rfl, rfl, rfl, rfl, rfl, trivial⟩ (by dsimp only; rw [hgl, hfl]; exact sub_front ⟨_, rfl⟩) ?_
                      · exact ⟨Nat.zero_le _, Puts.cons hins (Puts.nil _), rfl, (by dsimp only; rw [hgl, hfl]; exact hof), hall1, (by dsimp only; omega)⟩
                      · intro u _f hJ
                        obtain ⟨hj, hput, hkey, hou, hin, hul⟩ := hJ
                        have hcb := cop_bd (num := sent) hdk
                        refine s_seq ?_
                        refine s_region ?_
                        refine o_val rfl rfl rfl (y_lss rfl rfl) ?_
                        refine o_nil ?_
                        refine s_seq ?_
                        refine s_if rfl (fun h35 => ?_) (fun h36 => ?_)
                        · refine s_skip ?_
                          refine s_seq ?_
                          refine s_block ?_
                          refine s_seq ?_
                          refine s_region ?_
                          refine o_val rfl rfl rfl (y_index1 Try.runUnderlying30 Try.sizeOf3 (hoc.some_of (by omega)) rfl rfl (by omega)) ?_
                          refine o_val rfl rfl rfl (y_load Try.isAgg3 rfl (cel_int (hoc.cels (j := 4) rfl) (by omega))) ?_
                          refine o_val rfl rfl rfl (y_assign (v := (.int _ _)) rfl) ?_
                          refine o_nil ?_
                          refine s_region ?_
                          refine o_val rfl rfl rfl (y_move (v := (.pointer _)) rfl) ?_
                          refine o_val rfl rfl rfl (y_move (v := (.int _ _)) rfl) ?_
                          refine o_val rfl rfl rfl (y_move (v := (.int _ _)) rfl) ?_
                          refine o_val rfl rfl rfl (y_add rfl rfl (by have := hcb _ (getD_in2 (l := copiesOf ds sent) (j := ((u.j : Nat) : Int).toNat) (by omega)); simp only [inK]; omega)) ?_
                          refine o_val rfl rfl rfl (y_move (v := (.int _ _)) rfl) ?_
                          refine o_val rfl rfl rfl (y_move (v := (.int _ _)) rfl) ?_
                          refine o_val rfl rfl rfl (y_move (v := (.int _ _)) rfl) ?_
                          refine o_val rfl rfl rfl (y_move (v := (.slice _ _ _)) rfl) ?_
                          refine o_fn 0 (d := 123) rfl Try.call68 (BClone_c N n c bs h.here.down hn (by omega)) rfl ?_
                          rintro _ _ ⟨cB, ce, cG, rfl, hco2, rfl⟩
                          refine o_val rfl rfl rfl (y_build (vs := [(0, .int _ _), (1, .int _ _), (2, .slice _ _ _)]) rfl (SendN_k1 _ _ _ _ _)) ?_
                          refine o_pull 3 ?_
                          refine o_pull 2 ?_
                          refine o_fn 2 (d := 125) rfl Try.call67 (fly_c b ends dA dn dc now (sent + 1) u.A u.gs.length u.c u.gs u.E hou (by omega) ⟨(now + 1 + delayOf ds sent) + ((copiesOf ds sent).getD ((u.j : Nat) : Int).toNat 0), sent, src, dst, cB, n, ce, bs⟩) rfl ?_
                          rintro _ _ ⟨rfl, fA, fc, fE, gs', hins', hof', rfl⟩
                          have hall2 := hins'.all hin (FlIn.new (PG := u.PG) (due := (now + 1 + delayOf ds sent) + ((copiesOf ds sent).getD ((u.j : Nat) : Int).toNat 0)) (num := sent) (src := src) (dst := dst) hco2 (by omega) hbb)
                          refine o_pull 4 ?_
                          refine o_pull 3 ?_
                          refine o_fuse ?_
                          refine o_nil ?_
                          refine s_region ?_
                          refine o_val rfl rfl rfl (y_add rfl rfl (by simp only [inK]; omega)) ?_
                          refine o_val rfl rfl rfl (y_move (v := (.int _ _)) rfl) ?_
                          refine o_nil ?_
                          have hgl' := hins'.len
                          have hts := take_snocI (l := copiesOf ds sent) (k := u.j) (by omega)
                          rw [← hgl'] at hof'
                          exact ⟨SC.mk (u.j + 1) (u.xs ++ [⟨(now + 1 + delayOf ds sent) + ((copiesOf ds sent).getD ((u.j : Nat) : Int).toNat 0), sent, src, dst, cB, n, ce, bs⟩]) gs' fA fc fE (cG ++ u.PG), (by first | omega | (dsimp only; omega)), ⟨by dsimp only; omega, hput.snoc hins', by dsimp only; rw [List.map_append, hkey, hts]; simp only [List.map_append, List.map_cons, List.map_nil, List.cons_append]; rfl, hof', hall2, by dsimp only; omega⟩, ⟨rfl, rfl, rfl, rfl, rfl, rfl, rfl, rfl, (congrArg (Value.int .i64) (by dsimp only; omega)), trivial⟩, (by dsimp only; rw [hgl']; exact sub_picks [1, 2, 1, 0, 0] rfl)⟩
                        · refine s_exit ?_
                          refine s_seq ?_
                          refine s_region ?_
                          refine o_val rfl rfl rfl (y_assign (v := (.int _ _)) rfl) ?_
                          refine o_nil ?_
                          refine s_ret ?_
                          exact ⟨_, _, res1 rfl rfl, .inr ⟨by unfold sendErr; rw [if_neg (by omega), if_neg (by omega), if_neg (by omega)], rfl, _, _, _, _, u.gs, u.xs, u.PG, hput, by unfold timesOf; rw [hkey, if_neg (by simp [hlost]), List.take_of_length_le (by omega)], hou, hin, rfl⟩, sub_picks [0, 0, 0, 0] rfl⟩

end Go.Proofs.Ytdgmocibjjkghaa.K

/- Walks over the package tourkeep4: the fact of the templates; lists of whole numbers joined. No condition beyond what each statement names. -/
import Derived.Test.YtacmbiohjiogiaaProg
import Derived.Test.YtacmbiohjiogiaaK14
import Derived.Test.YtacmbiohjiogiaaK19
import Derived.Test.YtacmbiohjiogiaaM1
import Derived.Test.YtacmbiohjiogiaaM2
import Derived.Test.YtacmbiohjiogiaaW1
import Derived.Test.YtacmbiohjiogiaaW2
import Derived.Test.YtacmbiohjiogiaaW3
import Derived.Test.YtacmbiohjiogiaaW4
import Derived.Test.YtacmbiohjiogiaaW5
import Derived.Test.YtacmbiohjiogiaaW6
import Derived.Test.YtacmbiohjiogiaaW7
import Derived.Test.YtacmbiohjiogiaaX1
import Derived.Test.YtacmbiohjiogiaaXK
import Derived.Test.YtacmbiohjiogiaaP1
import Derived.Test.YtacmbiohjiogiaaP2
import Derived.Test.YtacmbiohjiogiaaP3
import Derived.Test.YtacmbiohjiogiaaP4
import Derived.Test.YtacmbiohjiogiaaP5
import Derived.Test.YtacmbiohjiogiaaP6
set_option linter.unusedVariables false
set_option linter.unusedSimpArgs false
set_option maxRecDepth 100000
set_option maxHeartbeats 1000000
namespace Go.Proofs.Ytacmbiohjiogiaa.K
open Go.RowKit

/-- A list of whole numbers in memory. -/
structure FQ where
  A : Option Addr
  n : Nat
  c : Nat
  bs : List Int
instance : Inhabited FQ := ⟨⟨none, 0, 0, []⟩⟩
theorem getD_memQ {ss : List FQ} {k : Nat} (h : k < ss.length) : ss.getD ((k : Nat) : Int).toNat default ∈ ss := getD_mem' h
structure GQ1 where
  i : Nat
  A : Option Addr
  x : Nat
  c : Nat
  E : Grp
/-- A list in a list of lists. -/
def encQ (f : FQ) : List Value := [.slice f.A f.n f.c]
theorem encQ_len (f : FQ) : (encQ f).length = 1 := rfl
/-- A list's numbers can be read. -/
def QlOK (V : Mem) (k : IntKind) (f : FQ) : Prop := f.bs.length = f.n ∧ f.n ≤ f.c ∧ Cels V [] f.A (f.bs.map (.int k))
theorem QlOK.lift {V : Mem} {R : List Grp} {k : IntKind} {f : FQ} (h : QlOK V k f) : QlOK (ext V R) k f := ⟨h.1, h.2.1, h.2.2.here.down⟩
def catQ (fs : List FQ) : List Int := fs.flatMap (·.bs)
theorem catQ_step {fs : List FQ} {k : Nat} (hk : k < fs.length) : catQ (fs.take (k + 1)) = catQ (fs.take k) ++ (fs.getD ((k : Nat) : Int).toNat default).bs := by
  unfold catQ
  rw [List.take_add_one, List.getElem?_eq_getElem hk, Int.toNat_natCast, List.getD_eq_getElem?_getD, List.getElem?_eq_getElem hk]
  simp only [Option.toList_some, List.flatMap_append, List.flatMap_cons, List.flatMap_nil, List.append_nil, Option.getD_some]
theorem catQ_le (fs : List FQ) (k : Nat) : (catQ (fs.take k)).length ≤ (catQ fs).length := by
  conv => rhs; rw [← List.take_append_drop k fs]
  unfold catQ
  rw [List.flatMap_append, List.length_append]; omega
theorem cel_Q {V : Mem} {L : List Grp} {A : Option Addr} {fs : List FQ} (h : Cels V L A (fs.flatMap encQ)) {i : Nat} (hi : i < fs.length) : Cel V L (idx A i) (.slice (fs.getD i default).A (fs.getD i default).n (fs.getD i default).c) := by
  have h1 := (cels_at (sz := 1) encQ_len h hi).cel' (i := 0) rfl
  simpa using h1
theorem some_Q {V : Mem} {L : List Grp} {A : Option Addr} {fs : List FQ} (h : Cels V L A (fs.flatMap encQ)) (hi : 0 < fs.length) : A.isSome = true := some_at (sz := 0) encQ_len (i := 0) h hi
theorem os_appQ {A : Option Addr} {n c : Nat} {T : TypeId} {k : IntKind} {bs cs : List Int} {E : Grp} {m : Nat} (h : OS A n c T 1 (bs.map (.int k) ++ cs.map (.int k)) E) (hn : n = m) : OS A m c T 1 ((bs ++ cs).map (.int k)) E := by
  subst hn; rwa [List.map_append]

theorem GrowQ_c {V : Mem} (m : Nat) (hb : m ≤ 140737488355328 ∧ m * 8 ≤ 140737488355328) : CallS Try.prog 91 [.slice none 0 0, .int .i64 m].toArray V [] (fun r L' => ∃ A c E, r = .slice A 0 c ∧ OS A 0 c 3 1 [] E ∧ L' = [E]) := by
  refine callS Try.func91 rfl rfl (fun w0 => ?_)
  refine s_seq ?_
  refine s_region ?_
  refine o_val rfl rfl rfl (y_assign (v := (.slice _ _ _)) rfl) ?_
  refine o_nil ?_
  refine s_seq ?_
  refine s_seq ?_
  refine s_region ?_
  refine o_val rfl rfl rfl (y_move (v := (.int _ _)) rfl) ?_
  refine o_val rfl rfl rfl (y_lss rfl rfl) ?_
  refine o_nil ?_
  refine s_if rfl (fun h1 => ?_) (fun h2 => ?_)
  · exfalso; omega
  · refine s_skip ?_
    refine s_seq ?_
    refine s_seq ?_
    refine s_region ?_
    refine o_val rfl rfl rfl (y_move (v := (.int _ _)) rfl) ?_
    refine o_val rfl rfl rfl (y_move (v := (.slice _ _ _)) rfl) ?_
    refine o_val rfl rfl rfl (y_cap Try.runUnderlying22 rfl) ?_
    refine o_val rfl rfl rfl (y_move (v := (.slice _ _ _)) rfl) ?_
    refine o_val rfl rfl rfl (y_len Try.runUnderlying22 rfl) ?_
    refine o_val rfl rfl rfl (y_sub rfl rfl (by simp only [inK]; omega)) ?_
    refine o_val rfl rfl rfl (y_sub rfl rfl (by simp only [inK]; omega)) ?_
    refine o_val rfl rfl rfl (y_assign (v := (.int _ _)) rfl) ?_
    refine o_nil ?_
    refine s_seq ?_
    refine s_region ?_
    refine o_val rfl rfl rfl (y_move (v := (.int _ _)) rfl) ?_
    refine o_val rfl rfl rfl (y_gtr rfl rfl) ?_
    refine o_nil ?_
    refine s_forget [(0, (.slice _ _ _)), (1, (.int _ _)), (4, (.slice _ _ _)), (16, (.bool _))] ⟨rfl, rfl, rfl, rfl, trivial⟩ (fun _f => ?_)
    refine s_if rfl (fun h3 => ?_) (fun h4 => ?_)
    · refine s_region ?_
      refine o_val rfl rfl rfl (y_move (v := (.slice _ _ _)) rfl) ?_
      refine o_val rfl rfl rfl (y_move (v := (.slice _ _ _)) rfl) ?_
      refine o_val rfl rfl rfl (y_cap Try.runUnderlying22 rfl) ?_
      refine o_val rfl rfl rfl (y_cut_hi Try.runUnderlying22 Try.sizeOf3 rfl rfl (by omega)) ?_
      refine o_val rfl rfl rfl (y_move (v := (.int _ _)) rfl) ?_
      refine o_append_zeros (sz := 1) (bytes := 8) (m := m) rfl Try.underlying22 Try.type3 rfl rfl rfl rfl Try.underlying3 rfl rfl (by omega) (by decide) (by omega) (fun A5 c6 E7 ho8 => ?_)
      refine o_val rfl rfl rfl (y_move (v := (.slice _ _ _)) rfl) ?_
      refine o_val rfl rfl rfl (y_len Try.runUnderlying22 rfl) ?_
      refine o_val rfl rfl rfl (y_cut_hi Try.runUnderlying22 Try.sizeOf3 rfl rfl (by omega)) ?_
      refine o_val rfl rfl rfl (y_assign (v := (.slice _ _ _)) rfl) ?_
      refine o_nil ?_
      refine s_seq ?_
      refine s_region ?_
      refine o_val rfl rfl rfl (y_move (v := (.slice _ _ _)) rfl) ?_
      refine o_val rfl rfl rfl (y_assign (v := (.slice _ _ _)) rfl) ?_
      refine o_nil ?_
      refine s_ret ?_
      exact ⟨_, _, res1 rfl rfl, ⟨_, _, _, rfl, ho8.trunc, rfl⟩, sub_front ⟨_, rfl⟩⟩
    · refine s_skip ?_
      refine s_seq ?_
      refine s_region ?_
      refine o_val rfl rfl rfl (y_move (v := (.slice _ _ _)) rfl) ?_
      refine o_val rfl rfl rfl (y_assign (v := (.slice _ _ _)) rfl) ?_
      refine o_nil ?_
      refine s_ret ?_
      exact ⟨_, [[]], res1 rfl rfl, ⟨none, 0, [], rfl, OS.nil _ _, rfl⟩, sub_empty⟩

theorem ConcatQ_c {V : Mem} (A : Option Addr) (n c : Nat) (fs : List FQ) (h : Cels V [] A (fs.flatMap encQ)) (hn : fs.length = n) (hb : n ≤ 140737488355328) (hf : ∀ f ∈ fs, QlOK V .i64 f) (ht : (catQ fs).length ≤ 140737488355328 ∧ (catQ fs).length * 8 ≤ 140737488355328) : CallS Try.prog 22 [.slice A n c].toArray V [] (fun r L' => ∃ (B : Option Addr) (e : Nat) (E : Grp), r = .slice B (catQ fs).length e ∧ OS B (catQ fs).length e 3 1 ((catQ fs).map (.int .i64)) E ∧ L' = [E]) := by
  refine callS Try.func22 rfl rfl (fun w0 => ?_)
  refine s_seq ?_
  refine s_region ?_
  refine o_val rfl rfl rfl (y_assign (v := (.slice _ _ _)) rfl) ?_
  refine o_nil ?_
  refine s_seq ?_
  refine s_region ?_
  refine o_val rfl rfl rfl (y_assign (v := (.int _ _)) rfl) ?_
  refine o_nil ?_
  refine s_seq ?_
  refine s_seq ?_
  refine s_region ?_
  refine o_val rfl rfl rfl (y_move (v := (.slice _ _ _)) rfl) ?_
  refine o_val rfl rfl rfl (y_len Try.runUnderlying178 rfl) ?_
  refine o_val rfl rfl rfl (y_move (v := (.int _ _)) rfl) ?_
  refine o_nil ?_
  refine s_block ?_
  refine s_loop (γ := Nat) (fun g => [(0, .slice A n c), (3, .int .i64 ((catQ (fs.take g)).length : Nat)), (9, .slice A n c), (10, .int .i64 n), (11, .int .i64 g)]) (fun g => []) (fun g => g ≤ n) (fun g => n - g) (0) ?_ ⟨rfl, rfl, rfl, rfl, rfl, trivial⟩ (sub_front ⟨_, rfl⟩) ?_
  · exact Nat.zero_le _
  · intro g _f hI
    have hg := hI
    refine s_seq ?_
    refine s_region ?_
    refine o_val rfl rfl rfl (y_lss rfl rfl) ?_
    refine o_nil ?_
    refine s_seq ?_
    refine s_if rfl (fun h1 => ?_) (fun h2 => ?_)
    · refine s_skip ?_
      refine s_seq ?_
      refine s_block ?_
      refine s_seq ?_
      refine s_region ?_
      refine o_val rfl rfl rfl (y_index1 Try.runUnderlying178 Try.sizeOf22 (some_Q h (by omega)) rfl rfl (by omega)) ?_
      refine o_val rfl rfl rfl (y_load Try.isAgg22 rfl (cel_Q h.here (by omega))) ?_
      refine o_val rfl rfl rfl (y_assign (v := (.slice _ _ _)) rfl) ?_
      refine o_nil ?_
      refine s_seq ?_
      refine s_region ?_
      have hct := catQ_step (fs := fs) (k := g) (by omega)
      have hcl := catQ_le fs (g + 1)
      rw [hct, List.length_append] at hcl
      have hff := hf _ (getD_memQ (ss := fs) (k := g) (by omega))
      have hfl : (fs.getD ((g : Nat) : Int).toNat default).bs.length = (fs.getD ((g : Nat) : Int).toNat default).n := hff.1
      refine o_val rfl rfl rfl (y_move (v := (.int _ _)) rfl) ?_
      refine o_val rfl rfl rfl (y_move (v := (.slice _ _ _)) rfl) ?_
      refine o_val rfl rfl rfl (y_len Try.runUnderlying22 rfl) ?_
      refine o_val rfl rfl rfl (y_add rfl rfl (by simp only [inK]; omega)) ?_
      refine o_val rfl rfl rfl (y_assign (v := (.int _ _)) rfl) ?_
      refine o_nil ?_
      refine s_seq ?_
      refine s_region ?_
      refine o_val rfl rfl rfl (y_move (v := (.int _ _)) rfl) ?_
      refine o_val rfl rfl rfl (y_lss rfl rfl) ?_
      refine o_nil ?_
      refine s_if rfl (fun h3 => ?_) (fun h4 => ?_)
      · exfalso; omega
      · refine s_skip ?_
        refine s_region ?_
        refine o_val rfl rfl rfl (y_add rfl rfl (by simp only [inK]; omega)) ?_
        refine o_val rfl rfl rfl (y_move (v := (.int _ _)) rfl) ?_
        refine o_nil ?_
        exact ⟨g + 1, (by first | omega | (dsimp only; omega)), (by omega), ⟨rfl, (congrArg (Value.int .i64) (by rw [hct, List.length_append]; omega)), rfl, rfl, (congrArg (Value.int .i64) (by omega)), trivial⟩, sub_front ⟨_, rfl⟩⟩
    · refine s_exit ?_
      refine s_seq ?_
      refine s_region ?_
      have hgn : g = n := by omega
      rw [hgn, List.take_of_length_le (by omega)]
      refine o_val rfl rfl rfl (y_move (v := (.int _ _)) rfl) ?_
      refine o_fn 0 (d := 24) rfl Try.call91 (GrowQ_c (catQ fs).length (by omega)) rfl ?_
      rintro _ _ ⟨gA, gc, gE, rfl, hgo, rfl⟩
      refine o_val rfl rfl rfl (y_assign (v := (.slice _ _ _)) rfl) ?_
      refine o_nil ?_
      refine s_seq ?_
      refine s_seq ?_
      refine s_region ?_
      refine o_val rfl rfl rfl (y_move (v := (.slice _ _ _)) rfl) ?_
      refine o_val rfl rfl rfl (y_len Try.runUnderlying178 rfl) ?_
      refine o_val rfl rfl rfl (y_move (v := (.int _ _)) rfl) ?_
      refine o_nil ?_
      refine s_block ?_
      refine s_loop (γ := GQ1) (fun u => [(6, .slice u.A (catQ (fs.take u.i)).length u.c), (25, .slice A n c), (26, .int .i64 n), (27, .int .i64 u.i)]) (fun u => [u.E]) (fun u => u.i ≤ n ∧ OS u.A (catQ (fs.take u.i)).length u.c 3 1 ((catQ (fs.take u.i)).map (.int .i64)) u.E) (fun u => n - u.i) (GQ1.mk 0 gA 0 gc gE) ?_ ⟨rfl, rfl, rfl, rfl, trivial⟩ (sub_front ⟨_, rfl⟩) ?_
      · exact ⟨Nat.zero_le _, hgo⟩
      · intro u _f hJ
        obtain ⟨hu, hou⟩ := hJ
        refine s_seq ?_
        refine s_region ?_
        refine o_val rfl rfl rfl (y_lss rfl rfl) ?_
        refine o_nil ?_
        refine s_seq ?_
        refine s_if rfl (fun h5 => ?_) (fun h6 => ?_)
        · refine s_skip ?_
          refine s_seq ?_
          refine s_block ?_
          refine s_seq ?_
          refine s_region ?_
          refine o_val rfl rfl rfl (y_index1 Try.runUnderlying178 Try.sizeOf22 (some_Q h (by omega)) rfl rfl (by omega)) ?_
          refine o_val rfl rfl rfl (y_load Try.isAgg22 rfl (cel_Q h.here (by omega))) ?_
          refine o_val rfl rfl rfl (y_assign (v := (.slice _ _ _)) rfl) ?_
          refine o_nil ?_
          refine s_region ?_
          have hct := catQ_step (fs := fs) (k := u.i) (by omega)
          have hcl := catQ_le fs (u.i + 1)
          rw [hct, List.length_append] at hcl
          have hff := hf _ (getD_memQ (ss := fs) (k := u.i) (by omega))
          have hfl : (fs.getD ((u.i : Nat) : Int).toNat default).bs.length = (fs.getD ((u.i : Nat) : Int).toNat default).n := hff.1
          refine o_val rfl rfl rfl (y_move (v := (.slice _ _ _)) rfl) ?_
          refine o_val rfl rfl rfl (y_move (v := (.slice _ _ _)) rfl) ?_
          refine o_append (sz := 1) (bytes := 8) (news := ((fs.getD ((u.i : Nat) : Int).toNat default).bs).map (.int .i64)) 0 rfl Try.underlying22 Try.type3 rfl rfl rfl rfl rfl hou rfl rfl (Src.rd (sz := 0) Try.underlying22 hff.2.2.here (by rw [List.length_map]; omega) (one_int _ _)) (by omega) (fun A7 c8 E9 ho10 hn11 => ?_)
          have ho12 : OS A7 (catQ (fs.take (u.i + 1))).length c8 3 1 ((catQ (fs.take (u.i + 1))).map (.int .i64)) E9 := by rw [hct]; exact os_appQ ho10 (by rw [List.length_append]; omega)
          clear ho10
          refine o_val rfl rfl rfl (y_assign (v := (.slice _ _ _)) rfl) ?_
          refine o_nil ?_
          refine s_norm [_] rfl ?_
          refine s_region ?_
          refine o_val rfl rfl rfl (y_add rfl rfl (by simp only [inK]; omega)) ?_
          refine o_val rfl rfl rfl (y_move (v := (.int _ _)) rfl) ?_
          refine o_nil ?_
          exact ⟨GQ1.mk (u.i + 1) A7 0 c8 E9, (by first | omega | (dsimp only; omega)), ⟨by dsimp only; omega, ho12⟩, ⟨(congrArg (fun x : Nat => Value.slice A7 x c8) (by dsimp only; rw [hct, List.length_append, hfl])), rfl, rfl, (congrArg (Value.int .i64) (by dsimp only; omega)), trivial⟩, sub_front ⟨_, rfl⟩⟩
        · refine s_exit ?_
          refine s_seq ?_
          refine s_region ?_
          refine o_val rfl rfl rfl (y_move (v := (.slice _ _ _)) rfl) ?_
          refine o_val rfl rfl rfl (y_assign (v := (.slice _ _ _)) rfl) ?_
          refine o_nil ?_
          refine s_ret ?_
          have hun : u.i = n := by omega
          rw [hun, List.take_of_length_le (by omega)] at hou
          exact ⟨_, _, res1 rfl (by rw [hun, List.take_of_length_le (by omega)]; rfl), ⟨_, _, _, rfl, hou, rfl⟩, sub_front ⟨_, rfl⟩⟩

theorem spot_12 (b : Nat) : holdsV (spotK b) [1, 2] := by
  show holdsV (spotK 0) [1, 2]
  decide
theorem one_okT {ks : List KR} {t : PfR} (hp : t.ps = []) (hc : heldP ks t.cs) : okTs ks [t] := by
  have h := okTs_snoc (ks := ks) (l := []) (t := t) ⟨Nat.zero_le _, fun i hi => absurd hi (Nat.not_lt_zero i), fun i hi => absurd hi (Nat.not_lt_zero i)⟩ (by decide) (by rw [hp]; decide) (by rw [hp]; exact fun y hy => absurd hy List.not_mem_nil) hc
  exact h
theorem held_one {ks : List KR} {c : CR} (h : goodC ks (-1) c) : heldP ks [c] := fun j hj => by
  have : j = 0 := by simpa using hj
  subst this; exact h
theorem one_res {ks : List KR} {t : PfR} (hp : t.ps = []) : resV ks ([t].map PfR.d) 0 (([] : List OvR).map OvR.d) = .ok [([], t.cs.map CR.d)] := by
  unfold resV
  rw [if_neg (by decide), rawV_P]
  show oversV ks (rawTo ks _ 0 t.ps.length) [] = _
  rw [hp]
  show oversV ks (rawTo ks _ 0 0) [] = _
  rw [rawTo_0P]; rfl

theorem builds_k0 (v0 : Int) (v1 : Int) (w : World) : (Instr.buildSlice 22 2 ([(0, (.int .i64 v0)), (1, (.int .i64 v1))] : List (Nat × Value)).toArray).run Try.prog w = .ok (.slice (some ⟨w.heap.size, 0, none⟩) 2 2) { w with heap := w.heap.push (.cells ([.int .i64 v0, .int .i64 v1] : List Value).toArray 3 (0, 0)) } := by kernel_rfl
theorem builds_k1 (v1A : Option Addr) (v1n : Nat) (v1c : Nat) (w : World) : (Instr.build 155 ([(1, (.slice v1A v1n v1c))] : List (Nat × Value)).toArray).run Try.prog w = .ok (.agg #[.int .i64 0, .slice v1A v1n v1c]) w := by kernel_rfl
theorem builds_k2 (v0x0 : Int) (v0x1A : Option Addr) (v0x1n : Nat) (v0x1c : Nat) (w : World) : (Instr.buildSlice 33 1 ([(0, (.agg #[(.int .i64 v0x0), (.slice v0x1A v0x1n v0x1c)]))] : List (Nat × Value)).toArray).run Try.prog w = .ok (.slice (some ⟨w.heap.size, 0, none⟩) 1 1) { w with heap := w.heap.push (.cells ([.int .i64 v0x0, .slice v0x1A v0x1n v0x1c] : List Value).toArray 155 (0, 0)) } := by kernel_rfl
theorem builds_k3 (v0A : Option Addr) (v0n : Nat) (v0c : Nat) (w : World) : (Instr.build 38 ([(0, (.slice v0A v0n v0c))] : List (Nat × Value)).toArray).run Try.prog w = .ok (.agg #[.slice v0A v0n v0c, .slice none 0 0]) w := by kernel_rfl
theorem builds_k4 (v0x0A : Option Addr) (v0x0n : Nat) (v0x0c : Nat) (v0x1A : Option Addr) (v0x1n : Nat) (v0x1c : Nat) (w : World) : (Instr.buildSlice 25 1 ([(0, (.agg #[(.slice v0x0A v0x0n v0x0c), (.slice v0x1A v0x1n v0x1c)]))] : List (Nat × Value)).toArray).run Try.prog w = .ok (.slice (some ⟨w.heap.size, 0, none⟩) 1 1) { w with heap := w.heap.push (.cells ([.slice v0x0A v0x0n v0x0c, .slice v0x1A v0x1n v0x1c] : List Value).toArray 38 (0, 0)) } := by kernel_rfl
theorem builds_c {V : Mem} : CallS Try.prog 20 [].toArray V [] (fun r L' => r = .bool true ∧ L' = []) := by
  refine callS Try.func20 rfl rfl (fun w0 => ?_)
  refine s_seq ?_
  refine s_region ?_
  refine o_val rfl rfl rfl (y_assign (v := (.bool _)) rfl) ?_
  refine o_nil ?_
  refine s_seq ?_
  refine s_region ?_
  refine o_fn 0 (d := 4) rfl Try.call90 (Kinds0_c) rfl ?_
  rintro _ _ ⟨b6, b8, rfl, rfl⟩
  refine o_lit (vs := [(0, .int _ _), (1, .int _ _)]) rfl rfl (builds_k0 _ _) (fun b1 => ?_)
  refine o_val rfl rfl rfl (y_build (vs := [(1, .slice _ _ _)]) rfl (builds_k1 _ _ _)) ?_
  refine o_lit (vs := [(0, .agg #[.int _ _, .slice _ _ _])]) rfl rfl (builds_k2 _ _ _ _) (fun b2 => ?_)
  refine o_val rfl rfl rfl (y_build (vs := [(0, .slice _ _ _)]) rfl (builds_k3 _ _ _)) ?_
  refine o_lit (vs := [(0, .agg #[.slice _ _ _, .slice _ _ _])]) rfl rfl (builds_k4 _ _ _ _ _ _) (fun b3 => ?_)
  refine o_fn 0 (d := 10) rfl Try.call19 (Build_c (some ⟨b8, 0, none⟩) 1 1 [spotK b6] (show KsOK _ (some ⟨b8, 0, none⟩) 1 1 [spotK b6] from ⟨rfl, Nat.le_refl _, (show (1 : Nat) ≤ 3518437208883 from by decide), (cels_lit (b := b8) (T := 58) ([spotK b6].flatMap encK) (j := 1) rfl).down, fun x hx => by obtain rfl := List.mem_singleton.1 hx; exact ⟨rfl, Nat.le_refl _, (show (2 : Nat) ≤ 4398046511104 from by decide), (cels_lit (b := b6) (T := 61) (spotFs.flatMap encF) (j := 0) rfl).down⟩⟩) (spot_ok b6) (some ⟨b3, 0, none⟩) 1 1 [(PfR.mk (some ⟨b2, 0, none⟩) 1 1 [(newC 0 (some ⟨b1, 0, none⟩) 2 2 [1, 2])] none 0 0 [])] (show LsOK _ (some ⟨b3, 0, none⟩) 1 1 [(PfR.mk (some ⟨b2, 0, none⟩) 1 1 [(newC 0 (some ⟨b1, 0, none⟩) 2 2 [1, 2])] none 0 0 [])] from ⟨rfl, Nat.le_refl _, (show (1 : Nat) ≤ 1000 from by decide), (cels_lit (b := b3) (T := 38) ([(PfR.mk (some ⟨b2, 0, none⟩) 1 1 [(newC 0 (some ⟨b1, 0, none⟩) 2 2 [1, 2])] none 0 0 [])].flatMap encPf) (j := 4) rfl).down, fun x hx => by obtain rfl := List.mem_singleton.1 hx; exact ⟨⟨rfl, Nat.le_refl _, (show (1 : Nat) ≤ 4398046511104 from by decide), (cels_lit (b := b2) (T := 155) ([(newC 0 (some ⟨b1, 0, none⟩) 2 2 [1, 2])].flatMap encC) (j := 3) rfl).down, fun y hy => by obtain rfl := List.mem_singleton.1 hy; exact ⟨rfl, Nat.le_refl _, (show (2 : Nat) ≤ 17592186044416 from by decide), (cels_lit (b := b1) (T := 3) [.int .i64 1, .int .i64 2] (j := 2) rfl).down⟩⟩, ⟨rfl, Nat.le_refl _, Nat.zero_le _, Cels.nil, fun y hy => absurd hy List.not_mem_nil⟩⟩⟩) (one_okT (ks := [spotK b6]) (t := (PfR.mk (some ⟨b2, 0, none⟩) 1 1 [(newC 0 (some ⟨b1, 0, none⟩) 2 2 [1, 2])] none 0 0 [])) rfl (held_one ⟨(by decide : (-1 : Int) < 0), (by decide : (0 : Int) < 1), spot_12 b6⟩)) 0 Nat.zero_lt_one 0 rfl none 0 0 [] ⟨rfl, Nat.le_refl _, Nat.zero_le _, Cels.nil, fun y hy => absurd hy List.not_mem_nil⟩) rfl ?_
  rintro _ _ (⟨e, hx, he, rfl, rfl⟩ | ⟨bs', gs', B', bn', C', E', P', hx, rfl, hbn, ho', hb', rfl⟩)
  · exact absurd (hx.symm.trans (one_res rfl)) (by simp)
  · have hbd := Except.ok.inj (hx.symm.trans (one_res rfl))
    have hb1 : bs'.length = 1 := by have := congrArg List.length hbd; simpa using this
    obtain ⟨x1, rfl⟩ : ∃ x, bs' = [x] := List.length_eq_one_iff.1 hb1
    have hn1 : bn' = 1 := by simpa using hbn.symm
    have hxb := hb'.2 0 Nat.zero_lt_one
    have hxc : x1.cn = 1 := by have h1 : x1.cs.length = x1.cn := hxb.2.2.2.2.1; have h2 := congrArg (fun q => q.map (fun z => z.2.length)) hbd; simp [BR.d] at h2; omega
    refine o_val rfl rfl rfl (y_move (v := (.tuple #[(.slice _ _ _), (.int _ _)])) rfl) ?_
    refine o_val rfl rfl rfl (y_extract (v := (.slice _ _ _)) rfl rfl) ?_
    refine o_val rfl rfl rfl (y_extract (v := (.int _ _)) rfl rfl) ?_
    refine o_val rfl rfl rfl (y_assign (v := (.slice _ _ _)) rfl) ?_
    refine o_val rfl rfl rfl (y_assign (v := (.int _ _)) rfl) ?_
    refine o_nil ?_
    refine s_seq ?_
    refine s_region ?_
    refine o_val rfl rfl rfl (y_move (v := (.int _ _)) rfl) ?_
    refine o_split rfl rfl rfl (y_eql rfl rfl) (fun p4 => ?_) (fun p5 => ?_)
    · refine o_val rfl rfl rfl (y_move (v := (.bool _)) rfl) ?_
      refine o_guard_yes rfl rfl ?_
      refine o_val rfl rfl rfl (y_move (v := (.slice _ _ _)) rfl) ?_
      refine o_guard_yes rfl rfl ?_
      refine o_val rfl rfl rfl (y_len Try.runUnderlying28 rfl) ?_
      refine o_guard_yes rfl rfl ?_
      refine o_split rfl rfl rfl (y_eql rfl rfl) (fun p6 => ?_) (fun p7 => ?_)
      · refine o_val rfl rfl rfl (y_pick_t (v := (.bool _)) rfl rfl) ?_
        refine o_val rfl rfl rfl (y_move (v := (.bool _)) rfl) ?_
        refine o_guard_yes rfl rfl ?_
        refine o_val rfl rfl rfl (y_move (v := (.slice _ _ _)) rfl) ?_
        refine o_guard_yes rfl rfl ?_
        refine o_val rfl rfl rfl (y_indexAddr Try.runUnderlying28 Try.sizeOf35 (ho'.some_of (by omega)) rfl rfl (by omega)) ?_
        refine o_guard_yes rfl rfl ?_
        refine o_val rfl rfl rfl (y_fieldX (F := 1) Try.runUnderlying35 rfl Try.sizeOf33 rfl (ho'.some_of (by omega)) rfl) ?_
        refine o_guard_yes rfl rfl ?_
        refine o_val rfl rfl rfl (y_load Try.isAgg33 rfl ((cels_at (sz := 2) encB_len (ho'.cels (j := 0) rfl) (Nat.zero_lt_one)).cel' (i := 1) rfl)) ?_
        refine o_guard_yes rfl rfl ?_
        refine o_val rfl rfl rfl (y_len Try.runUnderlying33 rfl) ?_
        refine o_guard_yes rfl rfl ?_
        refine o_val rfl rfl rfl (y_eql rfl rfl) ?_
        refine o_val rfl rfl rfl (y_pick_t (v := (.bool _)) rfl rfl) ?_
        refine o_val rfl rfl rfl (y_assign (v := (.bool _)) rfl) ?_
        refine o_nil ?_
        refine s_forget [(0, (.bool _))] ⟨rfl, trivial⟩ (fun _f => ?_)
        refine s_ret ?_
        exact ⟨_, [], res1 rfl rfl, ⟨congrArg Value.bool (decide_eq_true (show ((x1.cn : Nat) : Int) = 1 by omega)), rfl⟩, sub_picks [] rfl⟩
      · exact absurd (by omega) p7
    · exact absurd rfl p5

end Go.Proofs.Ytacmbiohjiogiaa.K

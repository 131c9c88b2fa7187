/- Walks over the reference's network, and packets compared. No condition beyond what each statement names. -/
import Derived.Test.YtdgmocibjjkghaaProg
import Derived.Test.YtdgmocibjjkghaaK13
import Derived.Test.YtdgmocibjjkghaaB9
import Derived.Test.YtdgmocibjjkghaaN1
import Derived.Test.YtdgmocibjjkghaaN2
import Derived.Test.YtdgmocibjjkghaaN3
set_option linter.unusedVariables false
set_option linter.unusedSimpArgs false
set_option maxRecDepth 100000
namespace Go.Proofs.Ytdgmocibjjkghaa.K
open Go.RowKit

/-- A packet that was sent, with its step in the place of 'due'. -/
def encSt (f : FL) : List Value := [.int .i64 f.due, .int .i64 f.src, .int .i64 f.dst, .slice f.A f.n f.c]
theorem encSt_len (f : FL) : (encSt f).length = 4 := rfl
def FL.pk (f : FL) : Int × Int × List Int := (f.src, f.dst, f.bs)
/-- A packet's bytes can be read. -/
def FlOK (V : Mem) (f : FL) : Prop := f.bs.length = f.n ∧ f.n ≤ f.c ∧ f.n ≤ 4000 ∧ Cels V [] f.A (f.bs.map (.int .u8)) ∧ ∀ b ∈ f.bs, 0 ≤ b ∧ b ≤ 255
theorem FlOK.lift {V : Mem} {R : List Grp} {f : FL} (h : FlOK V f) : FlOK (ext V R) f := ⟨h.1, h.2.1, h.2.2.1, h.2.2.2.1.here.down, h.2.2.2.2⟩
theorem FlIn.at {PG : Grp} {f : FL} (h : FlIn PG f) {V : Mem} {L : List Grp} {j : Nat} (hj : nth L j = some PG) : FlOK (ext V L) f := ⟨h.1, h.2.1, h.2.2.1, (h.cels hj).down, h.2.2.2.2⟩
def FL.sane (f : FL) : Prop := 0 ≤ f.due ∧ f.due ≤ 1000000

theorem times_k0 (v0 : Int) (w : World) : (Instr.buildSlice 30 1 ([(0, (.int .i64 v0))] : List (Nat × Value)).toArray).run Try.prog w = .ok (.slice (some ⟨w.heap.size, 0, none⟩) 1 1) { w with heap := w.heap.push (.cells ([.int .i64 v0] : List Value).toArray 3 (0, 0)) } := by kernel_rfl
theorem times_c {V : Mem} (N : Option Addr) (n c : Nat) (ds : List DD) (h : Cels V [] N (ds.flatMap encD)) (hn : ds.length = n) (hdn : n ≤ 1000) (hdk : ∀ d ∈ ds, d.ok) (M : Option Addr) (m e : Nat) (ss : List FL) (h' : Cels V [] M (ss.flatMap encSt)) (hm : ss.length = m) (hms : m ≤ 1000000) (hsane : ∀ f ∈ ss, f.sane) (i : Nat) (hi : i < m) : CallS Try.prog 69 [.slice N n c, .slice M m e, .int .i64 i].toArray V [] (fun r L' => ∃ B k q G, r = .slice B k q ∧ OS B k q 3 1 ((timesOf ds i (ss.getD i default).due).map (.int .i64)) G ∧ (timesOf ds i (ss.getD i default).due).length = k ∧ L' = [G]) := by
  have hsn : (ss.getD i default).sane := hsane _ (by rw [List.getD_eq_getElem?_getD, List.getElem?_eq_getElem (by omega)]; simp)
  unfold FL.sane at hsn
  have hii : ss.getD ((i : Nat) : Int).toNat default = ss.getD i default := rfl
  refine callS Try.func69 rfl rfl (fun w0 => ?_)
  refine s_seq ?_
  refine s_region ?_
  refine o_val rfl rfl rfl (y_assign (v := (.slice _ _ _)) rfl) ?_
  refine o_nil ?_
  refine s_seq ?_
  refine s_region ?_
  refine o_val rfl rfl rfl (y_move (v := (.slice _ _ _)) rfl) ?_
  refine o_val rfl rfl rfl (y_move (v := (.int _ _)) rfl) ?_
  refine o_val rfl rfl rfl (y_indexAddr Try.runUnderlying40 Try.sizeOf47 (some_at (sz := 3) encSt_len (i := 0) h' (by omega)) rfl rfl (by omega)) ?_
  refine o_val rfl rfl rfl (y_fieldX (F := 0) Try.runUnderlying47 rfl Try.sizeOf3 rfl (some_at (sz := 3) encSt_len (i := 0) h' (by omega)) rfl) ?_
  refine o_val rfl rfl rfl (y_load Try.isAgg3 rfl ((cels_at (sz := 4) encSt_len h'.here (by omega)).cel' (i := 0) rfl)) ?_
  refine o_val rfl rfl rfl (y_add rfl rfl (by rw [hii]; simp only [inK]; omega)) ?_
  refine o_val rfl rfl rfl (y_assign (v := (.int _ _)) rfl) ?_
  refine o_val rfl rfl rfl (y_assign (v := (.bool _)) rfl) ?_
  refine o_nil ?_
  refine s_seq ?_
  refine s_region ?_
  refine o_val rfl rfl rfl (y_assign (v := (.slice _ _ _)) rfl) ?_
  refine o_nil ?_
  refine s_seq ?_
  refine s_seq ?_
  refine s_region ?_
  refine o_val rfl rfl rfl (y_move (v := (.slice _ _ _)) rfl) ?_
  refine o_val rfl rfl rfl (y_len Try.runUnderlying22 rfl) ?_
  refine o_val rfl rfl rfl (y_move (v := (.int _ _)) rfl) ?_
  refine o_nil ?_
  refine s_forget [(2, (.int _ _)), (6, (.slice _ _ _)), (7, (.int _ _)), (8, (.bool _)), (9, (.slice _ _ _)), (21, (.slice _ _ _)), (22, (.int _ _)), (23, (.int _ _))] ⟨rfl, rfl, rfl, rfl, rfl, rfl, rfl, rfl, trivial⟩ (fun _f => ?_)
  refine s_block ?_
  refine s_group ?_
  refine s_loop (γ := SD) (fun g => [(7, .int .i64 ((ss.getD i default).due + 1 + delayOf (ds.take g.i) i)), (2, .int .i64 i), (8, .bool (lostOf (ds.take g.i) i)), (9, .slice g.A g.n g.c), (21, .slice N n c), (22, .int .i64 n), (23, .int .i64 g.i)]) (fun g => [g.E]) (fun g => g.i ≤ n ∧ OS g.A g.n g.c 3 1 ((copiesOf (ds.take g.i) i).map (.int .i64)) g.E) (fun g => n - g.i) (SD.mk 0 none 0 0 []) ?_ ⟨(congrArg (Value.int .i64) (by simp [delayOf])), rfl, rfl, rfl, rfl, rfl, rfl, trivial⟩ (sub_front ⟨_, rfl⟩) ?_
  · exact ⟨Nat.zero_le _, OS.nil _ _⟩
  · intro g _f hI
    obtain ⟨hi, hoc⟩ := hI
    have hcn : (copiesOf (ds.take g.i) i).length = g.n := by simpa using hoc.len
    have hcl := cop_len (ds := ds.take g.i) (num := (i : Int))
    rw [List.length_take] at hcl
    have hdl := delay_bd (ds := ds.take g.i) (num := (i : Int)) (fun d hd => hdk d (List.mem_of_mem_take hd))
    rw [List.length_take] at hdl
    have hdst := fun hk => del_step (ds := ds) (num := (i : Int)) (k := g.i) hk
    have hlst := fun hk => lost_step (ds := ds) (num := (i : Int)) (k := g.i) hk
    have hcst := fun hk => cop_step (ds := ds) (num := (i : Int)) (k := g.i) hk
    refine s_seq ?_
    refine s_region ?_
    refine o_val rfl rfl rfl (y_lss rfl rfl) ?_
    refine o_nil ?_
    refine s_seq ?_
    refine s_if rfl (fun h1 => ?_) (fun h2 => ?_)
    · refine s_skip ?_
      refine s_seq ?_
      refine s_block ?_
      refine s_seq ?_
      refine s_region ?_
      refine o_val rfl rfl rfl (y_indexAddr Try.runUnderlying22 Try.sizeOf36 (some_at (sz := 2) encD_len (i := 0) h (by omega)) rfl rfl (by omega)) ?_
      refine o_val rfl rfl rfl (y_loads (cs := [_, _, _]) Try.isAgg36 Try.sizeOf36 rfl (by unfold idx; rw [Option.isSome_map]; exact some_at (sz := 2) encD_len (i := 0) h (by omega)) rfl (cels_at (sz := 3) encD_len h.here (by omega))) ?_
      refine o_alloc rfl Try.zeroValue36 rfl (fun b3 => ?_)
      refine o_stores (vs := [(.int _ _), (.int _ _), (.int _ _)]) 1 rfl Try.sizeOf36 rfl rfl rfl (by simp [Value.oneCell']) (by simp) ?_
      refine o_nil ?_
      refine s_block ?_
      refine s_seq ?_
      refine s_region ?_
      refine o_val rfl rfl rfl (y_field0 Try.runUnderlying36 rfl Try.sizeOf3 rfl rfl) ?_
      refine o_val rfl rfl rfl (y_load Try.isAgg3 rfl (cel_own 1 rfl rfl)) ?_
      refine o_val rfl rfl rfl (y_move (v := (.int _ _)) rfl) ?_
      refine o_val rfl rfl rfl (y_neq rfl rfl) ?_
      refine o_val rfl rfl rfl (y_assign (v := (.bool _)) rfl) ?_
      refine o_nil ?_
      refine s_if rfl (fun h4 => ?_) (fun h5 => ?_)
      · refine s_skip ?_
        refine s_region ?_
        refine o_val rfl rfl rfl (y_add rfl rfl (by simp only [inK]; omega)) ?_
        refine o_val rfl rfl rfl (y_move (v := (.int _ _)) rfl) ?_
        refine o_nil ?_
        have hok := hdk _ (getD_memD (ds := ds) (k := g.i) (by omega))
        unfold DD.ok at hok
        exact ⟨SD.mk (g.i + 1) g.A g.n g.c g.E, (by first | omega | (dsimp only; omega)), ⟨by dsimp only; omega, (by rw [hcst (by omega)]; first | (rw [if_neg (by omega), List.append_nil]; exact hoc) | (rw [if_pos (by omega)]; exact hoc))⟩, ⟨(congrArg (Value.int .i64) (by dsimp only; rw [hdst (by omega)]; first | (rw [if_neg (by omega)]; omega) | (rw [if_pos (by omega)]; omega))), rfl, (congrArg Value.bool (by dsimp only; rw [hlst (by omega)]; first | (rw [decide_eq_true (by omega)]; simp) | (rw [decide_eq_false (by omega)]; simp))), rfl, rfl, rfl, (congrArg (Value.int .i64) (by dsimp only; omega)), trivial⟩, sub_front ⟨_, rfl⟩⟩
      · refine s_seq ?_
        refine s_region ?_
        refine o_val rfl rfl rfl (y_field0 Try.runUnderlying36 rfl Try.sizeOf3 rfl rfl) ?_
        refine o_val rfl rfl rfl (y_load Try.isAgg3 rfl (cel_own 1 rfl rfl)) ?_
        refine o_val rfl rfl rfl (y_eql rfl rfl) ?_
        refine o_val rfl rfl rfl (y_assign (v := (.bool _)) rfl) ?_
        refine o_nil ?_
        refine s_if rfl (fun h6 => ?_) (fun h7 => ?_)
        · refine s_region ?_
          refine o_val rfl rfl rfl (y_assign (v := (.bool _)) rfl) ?_
          refine o_nil ?_
          refine s_region ?_
          refine o_val rfl rfl rfl (y_add rfl rfl (by simp only [inK]; omega)) ?_
          refine o_val rfl rfl rfl (y_move (v := (.int _ _)) rfl) ?_
          refine o_nil ?_
          have hok := hdk _ (getD_memD (ds := ds) (k := g.i) (by omega))
          unfold DD.ok at hok
          exact ⟨SD.mk (g.i + 1) g.A g.n g.c g.E, (by first | omega | (dsimp only; omega)), ⟨by dsimp only; omega, (by rw [hcst (by omega)]; first | (rw [if_neg (by omega), List.append_nil]; exact hoc) | (rw [if_pos (by omega)]; exact hoc))⟩, ⟨(congrArg (Value.int .i64) (by dsimp only; rw [hdst (by omega)]; first | (rw [if_neg (by omega)]; omega) | (rw [if_pos (by omega)]; omega))), rfl, (congrArg Value.bool (by dsimp only; rw [hlst (by omega)]; first | (rw [decide_eq_true (by omega)]; simp) | (rw [decide_eq_false (by omega)]; simp))), rfl, rfl, rfl, (congrArg (Value.int .i64) (by dsimp only; omega)), trivial⟩, sub_front ⟨_, rfl⟩⟩
        · refine s_seq ?_
          refine s_region ?_
          refine o_val rfl rfl rfl (y_field0 Try.runUnderlying36 rfl Try.sizeOf3 rfl rfl) ?_
          refine o_val rfl rfl rfl (y_load Try.isAgg3 rfl (cel_own 1 rfl rfl)) ?_
          refine o_val rfl rfl rfl (y_eql rfl rfl) ?_
          refine o_val rfl rfl rfl (y_assign (v := (.bool _)) rfl) ?_
          refine o_nil ?_
          refine s_if rfl (fun h8 => ?_) (fun h9 => ?_)
          · refine s_region ?_
            refine o_val rfl rfl rfl (y_move (v := (.int _ _)) rfl) ?_
            refine o_val rfl rfl rfl (y_field0 Try.runUnderlying36 rfl Try.sizeOf3 rfl rfl) ?_
            refine o_val rfl rfl rfl (y_load Try.isAgg3 rfl (cel_own 1 rfl rfl)) ?_
            refine o_val rfl rfl rfl (y_add rfl rfl (by have hok := hdk _ (getD_memD (ds := ds) (k := g.i) (by omega)); unfold DD.ok at hok; simp only [inK]; omega)) ?_
            refine o_val rfl rfl rfl (y_assign (v := (.int _ _)) rfl) ?_
            refine o_nil ?_
            refine s_region ?_
            refine o_val rfl rfl rfl (y_add rfl rfl (by simp only [inK]; omega)) ?_
            refine o_val rfl rfl rfl (y_move (v := (.int _ _)) rfl) ?_
            refine o_nil ?_
            have hok := hdk _ (getD_memD (ds := ds) (k := g.i) (by omega))
            unfold DD.ok at hok
            exact ⟨SD.mk (g.i + 1) g.A g.n g.c g.E, (by first | omega | (dsimp only; omega)), ⟨by dsimp only; omega, (by rw [hcst (by omega)]; first | (rw [if_neg (by omega), List.append_nil]; exact hoc) | (rw [if_pos (by omega)]; exact hoc))⟩, ⟨(congrArg (Value.int .i64) (by dsimp only; rw [hdst (by omega)]; first | (rw [if_neg (by omega)]; omega) | (rw [if_pos (by omega)]; omega))), rfl, (congrArg Value.bool (by dsimp only; rw [hlst (by omega)]; first | (rw [decide_eq_true (by omega)]; simp) | (rw [decide_eq_false (by omega)]; simp))), rfl, rfl, rfl, (congrArg (Value.int .i64) (by dsimp only; omega)), trivial⟩, sub_front ⟨_, rfl⟩⟩
          · refine s_region ?_
            refine o_val rfl rfl rfl (y_move (v := (.slice _ _ _)) rfl) ?_
            refine o_val rfl rfl rfl (y_field0 Try.runUnderlying36 rfl Try.sizeOf3 rfl rfl) ?_
            refine o_val rfl rfl rfl (y_load Try.isAgg3 rfl (cel_own 1 rfl rfl)) ?_
            refine o_lit (vs := [(0, .int _ _)]) rfl rfl (times_k0 _) (fun b10 => ?_)
            refine o_append (sz := 1) (bytes := 8) (news := [(.int _ _)]) 0 rfl Try.underlying30 Try.type3 rfl rfl rfl rfl rfl hoc rfl rfl (Src.slice Try.underlying30 (cels_own 2 rfl rfl) rfl (by simp [Value.oneCell']) (by simp)) (by omega) (fun A11 c12 E13 ho14 hn15 => ?_)
            have ho16 : OS A11 (g.n + 1) c12 3 1 ((copiesOf (ds.take g.i) i ++ [(ds.getD ((g.i : Nat) : Int).toNat default).n]).map (.int .i64)) E13 := os_app_int (cs := [_]) ho14
            clear ho14
            refine o_val rfl rfl rfl (y_assign (v := (.slice _ _ _)) rfl) ?_
            refine o_nil ?_
            refine s_norm [_, [(_, .cells [(.int _ _), (.int _ _), (.int _ _)].toArray 36 (0, 0))], [(_, .cells [(.int _ _)].toArray 3 (0, 0))]] rfl ?_
            refine s_region ?_
            refine o_val rfl rfl rfl (y_add rfl rfl (by simp only [inK]; omega)) ?_
            refine o_val rfl rfl rfl (y_move (v := (.int _ _)) rfl) ?_
            refine o_nil ?_
            have hok := hdk _ (getD_memD (ds := ds) (k := g.i) (by omega))
            unfold DD.ok at hok
            exact ⟨SD.mk (g.i + 1) A11 (g.n + 1) c12 E13, (by first | omega | (dsimp only; omega)), ⟨by dsimp only; omega, (by rw [hcst (by omega)]; first | (rw [if_neg (by omega), List.append_nil]; exact ho16) | (rw [if_pos (by omega)]; exact ho16))⟩, ⟨(congrArg (Value.int .i64) (by dsimp only; rw [hdst (by omega)]; first | (rw [if_neg (by omega)]; omega) | (rw [if_pos (by omega)]; omega))), rfl, (congrArg Value.bool (by dsimp only; rw [hlst (by omega)]; first | (rw [decide_eq_true (by omega)]; simp) | (rw [decide_eq_false (by omega)]; simp))), rfl, rfl, rfl, (congrArg (Value.int .i64) (by dsimp only; omega)), trivial⟩, sub_front ⟨_, rfl⟩⟩
    · refine s_exit ?_
      refine s_seq ?_
      refine s_seq ?_
      refine s_region ?_
      refine o_val rfl rfl rfl (y_move (v := (.bool _)) rfl) ?_
      refine o_nil ?_
      refine s_ifb rfl (fun h17 => ?_) (fun h18 => ?_)
      · have eds : ds.take g.i = ds := List.take_of_length_le (by omega)
        rw [eds] at h17
        have hlost := h17
        refine s_seq ?_
        refine s_region ?_
        refine o_val rfl rfl rfl (y_assign (v := (.slice _ _ _)) rfl) ?_
        refine o_nil ?_
        refine s_ret ?_
        exact ⟨_, [[]], res1 rfl rfl, ⟨_, _, _, [], rfl, by unfold timesOf; rw [if_pos hlost]; exact OS.nil _ _, by unfold timesOf; rw [if_pos hlost]; rfl, rfl⟩, sub_none⟩
      · have eds : ds.take g.i = ds := List.take_of_length_le (by omega)
        rw [eds] at h18 hoc hcn hcl hdl ⊢
        have hlost := h18
        refine s_skip ?_
        refine s_seq ?_
        refine s_region ?_
        refine o_val rfl rfl rfl (y_move (v := (.int _ _)) rfl) ?_
        refine o_lit (vs := [(0, .int _ _)]) rfl rfl (times_k0 _) (fun b19 => ?_)
        refine o_val rfl rfl rfl (y_assign (v := (.slice _ _ _)) rfl) ?_
        refine o_nil ?_
        refine s_seq ?_
        refine s_seq ?_
        refine s_region ?_
        refine o_val rfl rfl rfl (y_move (v := (.slice _ _ _)) rfl) ?_
        refine o_val rfl rfl rfl (y_len Try.runUnderlying30 rfl) ?_
        refine o_val rfl rfl rfl (y_move (v := (.int _ _)) rfl) ?_
        refine o_nil ?_
        refine s_block ?_
        refine s_loop (γ := SD) (fun u => [(7, .int .i64 ((ss.getD i default).due + 1 + delayOf ds i)), (12, .slice u.A (u.i + 1) u.c), (53, .slice g.A g.n g.c), (54, .int .i64 g.n), (55, .int .i64 u.i)]) (fun u => [g.E, u.E]) (fun u => u.i ≤ g.n ∧ OS u.A (u.i + 1) u.c 3 1 ((((ss.getD i default).due + 1 + delayOf ds i) :: ((copiesOf ds i).take u.i).map ((ss.getD i default).due + 1 + delayOf ds i + ·)).map (.int .i64)) u.E) (fun u => g.n - u.i) (SD.mk 0 (some ⟨b19, 0, none⟩) 0 1 _) ?_ ⟨rfl, rfl, rfl, rfl, rfl, trivial⟩ (sub_picks [0, 0] rfl) ?_
        · exact ⟨Nat.zero_le _, OS.lit (sz := 1) (n := 1) rfl (by decide)⟩
        · intro u _f hJ
          obtain ⟨hj, hou⟩ := hJ
          have hcb := cop_bd (num := (i : Int)) hdk
          refine s_seq ?_
          refine s_region ?_
          refine o_val rfl rfl rfl (y_lss rfl rfl) ?_
          refine o_nil ?_
          refine s_seq ?_
          refine s_if rfl (fun h20 => ?_) (fun h21 => ?_)
          · refine s_skip ?_
            refine s_seq ?_
            refine s_block ?_
            refine s_seq ?_
            refine s_region ?_
            refine o_val rfl rfl rfl (y_index1 Try.runUnderlying30 Try.sizeOf3 (hoc.some_of (by omega)) rfl rfl (by omega)) ?_
            refine o_val rfl rfl rfl (y_load Try.isAgg3 rfl (cel_int (hoc.cels (j := 0) rfl) (by omega))) ?_
            refine o_val rfl rfl rfl (y_assign (v := (.int _ _)) rfl) ?_
            refine o_nil ?_
            refine s_region ?_
            refine o_val rfl rfl rfl (y_move (v := (.slice _ _ _)) rfl) ?_
            refine o_val rfl rfl rfl (y_move (v := (.int _ _)) rfl) ?_
            refine o_val rfl rfl rfl (y_move (v := (.int _ _)) rfl) ?_
            refine o_val rfl rfl rfl (y_add rfl rfl (by have := hcb _ (getD_in2 (l := copiesOf ds i) (j := ((u.i : Nat) : Int).toNat) (by omega)); simp only [inK]; omega)) ?_
            refine o_lit (vs := [(0, .int _ _)]) rfl rfl (times_k0 _) (fun b22 => ?_)
            refine o_append (sz := 1) (bytes := 8) (news := [(.int _ _)]) 1 rfl Try.underlying30 Try.type3 rfl rfl rfl rfl rfl hou rfl rfl (Src.slice Try.underlying30 (cels_own 2 rfl rfl) rfl (by simp [Value.oneCell']) (by simp)) (by omega) (fun A23 c24 E25 ho26 hn27 => ?_)
            have ho28 : OS A23 (u.i + 1 + 1) c24 3 1 ((((ss.getD i default).due + 1 + delayOf ds i) :: ((copiesOf ds i).take u.i).map ((ss.getD i default).due + 1 + delayOf ds i + ·) ++ [(ss.getD i default).due + 1 + delayOf ds i + (copiesOf ds i).getD ((u.i : Nat) : Int).toNat 0]).map (.int .i64)) E25 := os_app_int (cs := [_]) ho26
            clear ho26
            refine o_val rfl rfl rfl (y_assign (v := (.slice _ _ _)) rfl) ?_
            refine o_nil ?_
            refine s_norm [_, _, [(_, .cells [(.int _ _)].toArray 3 (0, 0))]] rfl ?_
            refine s_region ?_
            refine o_val rfl rfl rfl (y_add rfl rfl (by simp only [inK]; omega)) ?_
            refine o_val rfl rfl rfl (y_move (v := (.int _ _)) rfl) ?_
            refine o_nil ?_
            exact ⟨SD.mk (u.i + 1) A23 0 c24 E25, (by first | omega | (dsimp only; omega)), ⟨by dsimp only; omega, os_eq ho28 (by dsimp only; rw [take_snocI (l := copiesOf ds i) (k := u.i) (by omega)]; simp only [List.map_append, List.map_cons, List.map_nil, List.cons_append])⟩, ⟨rfl, rfl, rfl, rfl, (congrArg (Value.int .i64) (by dsimp only; omega)), trivial⟩, sub_front ⟨_, rfl⟩⟩
          · refine s_exit ?_
            refine s_seq ?_
            refine s_region ?_
            refine o_val rfl rfl rfl (y_move (v := (.slice _ _ _)) rfl) ?_
            refine o_val rfl rfl rfl (y_assign (v := (.slice _ _ _)) rfl) ?_
            refine o_nil ?_
            refine s_ret ?_
            exact ⟨_, [_], res1 rfl rfl, ⟨_, _, _, _, rfl, by unfold timesOf; rw [if_neg (by simp [hlost])]; exact (by rw [List.take_of_length_le (by omega)] at hou; exact hou), by unfold timesOf; rw [if_neg (by simp [hlost])]; simp; omega, rfl⟩, sub_picks [1] rfl⟩

/-- All that arrives, of what was sent: the times, and the packets. -/
def emsTo (ds : List DD) (ss : List FL) (k : Nat) : List (Int × Int × Int × List Int) := (List.range k).flatMap fun (i : Nat) => (timesOf ds (i : Int) (ss.getD i default).due).map fun t => (t, (ss.getD i default).pk)
def ems (ds : List DD) (ss : List FL) := emsTo ds ss ss.length
theorem ems_step (ds : List DD) (ss : List FL) (k : Nat) : emsTo ds ss (k + 1) = emsTo ds ss k ++ (timesOf ds k (ss.getD k default).due).map fun t => (t, (ss.getD k default).pk) := by
  unfold emsTo; rw [List.range_succ, List.flatMap_append]; simp
theorem times_len {ds : List DD} {num step : Int} : (timesOf ds num step).length ≤ ds.length + 1 := by
  unfold timesOf
  split
  · simp
  · have := cop_len (ds := ds) (num := num); simp; omega
theorem ems_len (ds : List DD) (ss : List FL) : ∀ k, (emsTo ds ss k).length ≤ k * (ds.length + 1)
  | 0 => by simp [emsTo]
  | k + 1 => by
    rw [ems_step, List.length_append, List.length_map, Nat.add_mul]
    have := ems_len ds ss k; have := times_len (ds := ds) (num := (k : Int)) (step := (ss.getD k default).due); omega
/-- Part of the times of one packet. -/
def emsIn (ds : List DD) (ss : List FL) (k j : Nat) := emsTo ds ss k ++ ((timesOf ds k (ss.getD k default).due).take j).map fun t => (t, (ss.getD k default).pk)
theorem emsIn_zero (ds : List DD) (ss : List FL) (k : Nat) : emsIn ds ss k 0 = emsTo ds ss k := by simp [emsIn]
theorem emsIn_full (ds : List DD) (ss : List FL) (k j : Nat) (h : (timesOf ds k (ss.getD k default).due).length ≤ j) : emsIn ds ss k j = emsTo ds ss (k + 1) := by
  rw [ems_step, emsIn, List.take_of_length_le h]
theorem emsIn_step (ds : List DD) (ss : List FL) (k j : Nat) (h : j < (timesOf ds k (ss.getD k default).due).length) : emsIn ds ss k (j + 1) = emsIn ds ss k j ++ [((timesOf ds k (ss.getD k default).due).getD ((j : Nat) : Int).toNat 0, (ss.getD k default).pk)] := by
  unfold emsIn; rw [take_snocI h, List.map_append, ← List.append_assoc]; rfl
theorem filt_snoc {p : Int × Int × Int × List Int → Bool} {l : List (Int × Int × Int × List Int)} {x : Int × Int × Int × List Int} : (l ++ [x]).filter p = l.filter p ++ (if p x then [x] else []) := by
  rw [List.filter_append]; cases h : p x <;> simp [List.filter_cons, h]
structure AS where
  i : Nat
  ps : List FL
  A : Option Addr
  c : Nat
  E : Grp
  PG : Grp
  j : Nat

theorem flin_snoc {PG G : Grp} {ps : List FL} {x : FL} (h : ∀ f ∈ ps, FlIn PG f) (hx : FlIn (G ++ PG) x) : ∀ f ∈ ps ++ [x], FlIn (G ++ PG) f := by
  intro f hf
  rcases List.mem_append.1 hf with hf | hf
  · exact (h f hf).grow
  · obtain rfl : f = x := by simpa using hf
    exact hx
theorem getD_memF {ss : List FL} {k : Nat} (h : k < ss.length) : ss.getD k default ∈ ss := by
  rw [List.getD_eq_getElem?_getD, List.getElem?_eq_getElem h]; simp

theorem Arrivals_k0 (v0 : Int) (v1 : Int) (v2A : Option Addr) (v2n : Nat) (v2c : Nat) (w : World) : (Instr.build 34 ([(0, (.int .i64 v0)), (1, (.int .i64 v1)), (2, (.slice v2A v2n v2c))] : List (Nat × Value)).toArray).run Try.prog w = .ok (.agg #[.int .i64 v0, .int .i64 v1, .slice v2A v2n v2c]) w := by kernel_rfl
theorem Arrivals_k1 (v0x0 : Int) (v0x1 : Int) (v0x2A : Option Addr) (v0x2n : Nat) (v0x2c : Nat) (w : World) : (Instr.buildSlice 31 1 ([(0, (.agg #[(.int .i64 v0x0), (.int .i64 v0x1), (.slice v0x2A v0x2n v0x2c)]))] : List (Nat × Value)).toArray).run Try.prog w = .ok (.slice (some ⟨w.heap.size, 0, none⟩) 1 1) { w with heap := w.heap.push (.cells ([.int .i64 v0x0, .int .i64 v0x1, .slice v0x2A v0x2n v0x2c] : List Value).toArray 34 (0, 0)) } := by kernel_rfl
theorem Arrivals_c {V : Mem} (N : Option Addr) (n c : Nat) (ds : List DD) (h : Cels V [] N (ds.flatMap encD)) (hn : ds.length = n) (hdn : n ≤ 1000) (hdk : ∀ d ∈ ds, d.ok) (M : Option Addr) (m e : Nat) (ss : List FL) (h' : Cels V [] M (ss.flatMap encSt)) (hm : ss.length = m) (hms : m ≤ 1000000) (hsane : ∀ f ∈ ss, f.sane) (hsf : ∀ f ∈ ss, FlOK V f) (step : Int) : CallS Try.prog 20 [.slice N n c, .slice M m e, .int .i64 step].toArray V [] (fun r L' => ∃ (B : Option Addr) (q : Nat) (G PG : Grp) (ps : List FL), r = .slice B ps.length q ∧ OS B ps.length q 34 3 ((ps).flatMap encPk) G ∧ ps.map FL.pk = ((ems ds ss).filter (fun q : Int × Int × Int × List Int => decide (q.1 = step))).map (·.2) ∧ (∀ f ∈ ps, FlIn PG f) ∧ L' = [G, PG]) := by
  refine callS Try.func20 rfl rfl (fun w0 => ?_)
  refine s_seq ?_
  refine s_region ?_
  refine o_val rfl rfl rfl (y_assign (v := (.slice _ _ _)) rfl) ?_
  refine o_nil ?_
  refine s_seq ?_
  refine s_region ?_
  refine o_val rfl rfl rfl (y_assign (v := (.slice _ _ _)) rfl) ?_
  refine o_nil ?_
  refine s_seq ?_
  refine s_seq ?_
  refine s_region ?_
  refine o_val rfl rfl rfl (y_move (v := (.slice _ _ _)) rfl) ?_
  refine o_val rfl rfl rfl (y_len Try.runUnderlying40 rfl) ?_
  refine o_val rfl rfl rfl (y_move (v := (.int _ _)) rfl) ?_
  refine o_nil ?_
  refine s_block ?_
  refine s_group ?_
  refine s_group ?_
  refine s_loop (γ := AS) (fun g => [(0, .slice N n c), (1, .slice M m e), (2, .int .i64 step), (7, .slice g.A g.ps.length g.c), (12, .slice M m e), (13, .int .i64 m), (14, .int .i64 g.i)]) (fun g => [g.E, g.PG]) (fun g => g.i ≤ m ∧ OS g.A g.ps.length g.c 34 3 ((g.ps).flatMap encPk) g.E ∧ g.ps.map FL.pk = ((emsTo ds ss g.i).filter (fun q : Int × Int × Int × List Int => decide (q.1 = step))).map (·.2) ∧ ∀ f ∈ g.ps, FlIn g.PG f) (fun g => m - g.i) (AS.mk 0 [] none 0 [] [] 0) ?_ ⟨rfl, rfl, rfl, rfl, rfl, rfl, rfl, trivial⟩ (sub_front ⟨_, rfl⟩) ?_
  · exact ⟨Nat.zero_le _, OS.nil _ _, rfl, by simp⟩
  · intro g _f hI
    obtain ⟨hi, hop, hpk, hpin⟩ := hI
    refine s_seq ?_
    refine s_region ?_
    refine o_val rfl rfl rfl (y_lss rfl rfl) ?_
    refine o_nil ?_
    refine s_seq ?_
    refine s_if rfl (fun h1 => ?_) (fun h2 => ?_)
    · refine s_skip ?_
      refine s_seq ?_
      refine s_block ?_
      refine s_seq ?_
      refine s_region ?_
      refine o_val rfl rfl rfl (y_move (v := (.int _ _)) rfl) ?_
      refine o_val rfl rfl rfl (y_indexAddr Try.runUnderlying40 Try.sizeOf47 (some_at (sz := 3) encSt_len (i := 0) h' (by omega)) rfl rfl (by omega)) ?_
      refine o_val rfl rfl rfl (y_loads (cs := [_, _, _, _]) Try.isAgg47 Try.sizeOf47 rfl (by unfold idx; rw [Option.isSome_map]; exact some_at (sz := 3) encSt_len (i := 0) h' (by omega)) rfl (cels_at (sz := 4) encSt_len h'.here (by omega))) ?_
      refine o_alloc rfl Try.zeroValue47 rfl (fun b3 => ?_)
      refine o_val rfl rfl rfl (y_assign (v := (.int _ _)) rfl) ?_
      refine o_stores (vs := [(.int _ _), (.int _ _), (.int _ _), (.slice _ _ _)]) 2 rfl Try.sizeOf47 rfl rfl rfl (by simp [Value.oneCell']) (by simp) ?_
      refine o_nil ?_
      refine s_seq ?_
      refine s_region ?_
      have hsd := hsf _ (getD_memF (ss := ss) (k := g.i) (by omega))
      have hsn4 := hsd.2.2.1
      refine o_val rfl rfl rfl (y_move (v := (.slice _ _ _)) rfl) ?_
      refine o_val rfl rfl rfl (y_move (v := (.slice _ _ _)) rfl) ?_
      refine o_val rfl rfl rfl (y_move (v := (.int _ _)) rfl) ?_
      refine o_fn 0 (d := 22) rfl Try.call69 (times_c N n c ds h.here.down hn hdn hdk M m e ss h'.here.down hm hms hsane g.i (by omega)) rfl ?_
      rintro _ _ ⟨tB, tk, tq, tG, rfl, hto, htl, rfl⟩
      refine o_val rfl rfl rfl (y_len Try.runUnderlying30 rfl) ?_
      refine o_val rfl rfl rfl (y_move (v := (.int _ _)) rfl) ?_
      refine o_nil ?_
      refine s_block ?_
      refine s_loop (γ := AS) (fun u => [(0, .slice N n c), (1, .slice M m e), (2, .int .i64 step), (7, .slice u.A u.ps.length u.c), (9, .pointer (some ⟨b3, 0, none⟩)), (12, .slice M m e), (13, .int .i64 m), (14, .int .i64 g.i), (22, .slice tB tk tq), (23, .int .i64 tk), (24, .int .i64 u.j)]) (fun u => [u.E, u.PG, [(b3, .cells [.int .i64 (ss.getD g.i default).due, .int .i64 (ss.getD g.i default).src, .int .i64 (ss.getD g.i default).dst, .slice (ss.getD g.i default).A (ss.getD g.i default).n (ss.getD g.i default).c].toArray 47 (0, 0))], tG]) (fun u => u.j ≤ tk ∧ OS u.A u.ps.length u.c 34 3 ((u.ps).flatMap encPk) u.E ∧ u.ps.map FL.pk = ((emsIn ds ss g.i u.j).filter (fun q : Int × Int × Int × List Int => decide (q.1 = step))).map (·.2) ∧ (∀ f ∈ u.ps, FlIn u.PG f) ∧ u.ps.length ≤ (emsIn ds ss g.i u.j).length) (fun u => tk - u.j) (AS.mk g.i g.ps g.A g.c g.E g.PG 0) ?_ ⟨rfl, rfl, rfl, rfl, rfl, rfl, rfl, rfl, rfl, rfl, rfl, trivial⟩ (sub_picks [1, 1, 1, 0] rfl) ?_
      · exact ⟨Nat.zero_le _, hop, by dsimp only; rw [emsIn_zero]; exact hpk, hpin, by dsimp only; rw [emsIn_zero, ← List.length_map (f := FL.pk), hpk, List.length_map]; exact List.length_filter_le _ _⟩
      · intro u _f hJ
        obtain ⟨hj, hop2, hpk2, hpin2, hpl⟩ := hJ
        have hst := fun hh => emsIn_step ds ss g.i u.j hh
        have hel := ems_len ds ss g.i
        have hil : (emsIn ds ss g.i u.j).length ≤ (emsTo ds ss g.i).length + u.j := by unfold emsIn; simp; omega
        have hgm : g.i * (ds.length + 1) ≤ 1000000 * 1001 := Nat.mul_le_mul (by omega) (by omega)
        have htl2 := times_len (ds := ds) (num := (g.i : Int)) (step := (ss.getD g.i default).due)
        refine s_seq ?_
        refine s_region ?_
        refine o_val rfl rfl rfl (y_lss rfl rfl) ?_
        refine o_nil ?_
        refine s_seq ?_
        refine s_if rfl (fun h4 => ?_) (fun h5 => ?_)
        · refine s_skip ?_
          refine s_seq ?_
          refine s_block ?_
          refine s_seq ?_
          refine s_region ?_
          refine o_val rfl rfl rfl (y_index1 Try.runUnderlying30 Try.sizeOf3 (hto.some_of (by omega)) rfl rfl (by omega)) ?_
          refine o_val rfl rfl rfl (y_load Try.isAgg3 rfl (cel_int (hto.cels (j := 3) rfl) (by omega))) ?_
          refine o_val rfl rfl rfl (y_assign (v := (.int _ _)) rfl) ?_
          refine o_nil ?_
          refine s_seq ?_
          refine s_region ?_
          refine o_val rfl rfl rfl (y_move (v := (.int _ _)) rfl) ?_
          refine o_val rfl rfl rfl (y_move (v := (.int _ _)) rfl) ?_
          refine o_val rfl rfl rfl (y_eql rfl rfl) ?_
          refine o_nil ?_
          refine s_if rfl (fun h6 => ?_) (fun h7 => ?_)
          · have heq := h6
            refine s_pull 1 ?_
            refine s_pull 1 ?_
            refine s_drawn 2 (by kernel_rfl) ?_
            refine d_val (i := 0) rfl (by kernel_rfl) (by kernel_rfl) (by kernel_rfl) rfl rfl rfl (y_move (v := (.slice _ _ _)) rfl) ?_
            refine d_val (i := 1) rfl (by kernel_rfl) (by kernel_rfl) (by kernel_rfl) rfl rfl rfl (y_field0 Try.runUnderlying47 rfl Try.sizeOf34 rfl rfl) ?_
            refine d_val (i := 2) rfl (by kernel_rfl) (by kernel_rfl) (by kernel_rfl) rfl rfl rfl (y_field0 Try.runUnderlying34 rfl Try.sizeOf3 rfl rfl) ?_
            refine d_val (i := 3) rfl (by kernel_rfl) (by kernel_rfl) (by kernel_rfl) rfl rfl rfl (y_load Try.isAgg3 rfl (cel_own 0 rfl rfl)) ?_
            refine d_val (i := 4) rfl (by kernel_rfl) (by kernel_rfl) (by kernel_rfl) rfl rfl rfl (y_field0 Try.runUnderlying47 rfl Try.sizeOf34 rfl rfl) ?_
            refine d_val (i := 5) rfl (by kernel_rfl) (by kernel_rfl) (by kernel_rfl) rfl rfl rfl (y_field0 Try.runUnderlying34 rfl Try.sizeOf3 rfl rfl) ?_
            refine d_val (i := 6) rfl (by kernel_rfl) (by kernel_rfl) (by kernel_rfl) rfl rfl rfl (y_load Try.isAgg3 rfl (cel_own 0 rfl rfl)) ?_
            refine d_val (i := 7) rfl (by kernel_rfl) (by kernel_rfl) (by kernel_rfl) rfl rfl rfl (y_field0 Try.runUnderlying47 rfl Try.sizeOf34 rfl rfl) ?_
            refine d_val (i := 8) rfl (by kernel_rfl) (by kernel_rfl) (by kernel_rfl) rfl rfl rfl (y_field0 Try.runUnderlying34 rfl Try.sizeOf29 rfl rfl) ?_
            refine d_val (i := 9) rfl (by kernel_rfl) (by kernel_rfl) (by kernel_rfl) rfl rfl rfl (y_load Try.isAgg29 rfl (cel_own 0 rfl rfl)) ?_
            refine d_eff (k := 10) (n := 2) (m := 2) rfl (by kernel_rfl) rfl ?_
            refine o_fn 0 (d := 41) rfl Try.call68 (BClone_c _ (ss.getD g.i default).n _ (ss.getD g.i default).bs hsd.2.2.2.1.here.down hsd.1 (by omega)) rfl ?_
            rintro _ _ ⟨cB, ce, cG, rfl, hco, rfl⟩
            have hpall : ∀ f ∈ u.ps ++ [(⟨0, 0, (ss.getD g.i default).src, (ss.getD g.i default).dst, cB, (ss.getD g.i default).n, ce, (ss.getD g.i default).bs⟩ : FL)], FlIn (cG ++ u.PG) f := flin_snoc hpin2 (FlIn.new hco (by omega) hsd.2.2.2.2)
            refine o_pull 2 ?_
            refine o_pull 1 ?_
            refine o_fuse ?_
            refine o_nil ?_
            refine d_val (i := 11) rfl (by kernel_rfl) (by kernel_rfl) (by kernel_rfl) rfl rfl rfl (y_build (vs := [(0, .int _ _), (1, .int _ _), (2, .slice _ _ _)]) rfl (Arrivals_k0 _ _ _ _ _)) ?_
            refine d_eff (k := 12) (n := 2) (m := 2) rfl (by kernel_rfl) rfl ?_
            refine o_lit (vs := [(0, .agg #[.int _ _, .int _ _, .slice _ _ _])]) rfl rfl (Arrivals_k1 _ _ _ _ _) (fun b8 => ?_)
            refine o_nil ?_
            refine d_eff (k := 13) (n := 2) (m := 2) rfl (by kernel_rfl) rfl ?_
            refine o_append (sz := 3) (bytes := 40) (news := [(.int _ _), (.int _ _), (.slice _ _ _)]) 1 rfl Try.underlying31 Try.type34 rfl rfl rfl rfl rfl hop2 rfl rfl (Src.slice Try.underlying31 (cels_own 4 rfl rfl) rfl (by simp [Value.oneCell']) (by simp)) (by omega) (fun A9 c10 E11 ho12 hn13 => ?_)
            have ho14 : OS A9 (u.ps.length + 1) c10 34 3 ((u.ps ++ [(⟨0, 0, (ss.getD g.i default).src, (ss.getD g.i default).dst, cB, (ss.getD g.i default).n, ce, (ss.getD g.i default).bs⟩ : FL)]).flatMap encPk) E11 := os_eq ho12 (by rw [List.flatMap_append]; rfl)
            clear ho12
            refine o_nil ?_
            refine d_val (i := 14) rfl (by kernel_rfl) (by kernel_rfl) (by kernel_rfl) rfl rfl rfl (y_assign (v := (.slice _ _ _)) rfl) ?_
            refine d_nil (n := 2) (m := 2) (by kernel_rfl) rfl ?_
            refine s_norm [_, _, [(_, .cells [(.int _ _), (.int _ _), (.int _ _), (.slice _ _ _)].toArray 47 (0, 0))], _, [(_, .cells [(.int _ _), (.int _ _), (.slice _ _ _)].toArray 34 (0, 0))]] rfl ?_
            refine s_region ?_
            refine o_val rfl rfl rfl (y_add rfl rfl (by simp only [inK]; omega)) ?_
            refine o_val rfl rfl rfl (y_move (v := (.int _ _)) rfl) ?_
            refine o_nil ?_
            exact ⟨AS.mk u.i (u.ps ++ [⟨0, 0, (ss.getD g.i default).src, (ss.getD g.i default).dst, cB, (ss.getD g.i default).n, ce, (ss.getD g.i default).bs⟩]) A9 c10 E11 (cG ++ u.PG) (u.j + 1), (by first | omega | (dsimp only; omega)), ⟨by dsimp only; omega, by dsimp only; rw [List.length_append]; exact ho14, by dsimp only; rw [hst (by omega), filt_snoc, if_pos (by simp only [decide_eq_true_eq]; exact heq), List.map_append, List.map_append, hpk2]; rfl, hpall, by dsimp only; rw [hst (by omega)]; simp; omega⟩, ⟨rfl, rfl, rfl, (by dsimp only; rw [List.length_append]; rfl), rfl, rfl, rfl, rfl, rfl, rfl, (congrArg (Value.int .i64) (by dsimp only; omega)), trivial⟩, (sub_picks [1, 0, 0, 0] rfl)⟩
          · have hne := h7
            refine s_skip ?_
            refine s_region ?_
            refine o_val rfl rfl rfl (y_add rfl rfl (by simp only [inK]; omega)) ?_
            refine o_val rfl rfl rfl (y_move (v := (.int _ _)) rfl) ?_
            refine o_nil ?_
            exact ⟨AS.mk u.i u.ps u.A u.c u.E u.PG (u.j + 1), (by first | omega | (dsimp only; omega)), ⟨by dsimp only; omega, hop2, by dsimp only; rw [hst (by omega), filt_snoc, if_neg (by simp only [decide_eq_true_eq]; exact hne), List.append_nil]; exact hpk2, hpin2, by dsimp only; rw [hst (by omega)]; simp; omega⟩, ⟨rfl, rfl, rfl, rfl, rfl, rfl, rfl, rfl, rfl, rfl, (congrArg (Value.int .i64) (by dsimp only; omega)), trivial⟩, (sub_picks [0, 0, 0, 0] rfl)⟩
        · refine s_exit ?_
          refine s_region ?_
          refine o_val rfl rfl rfl (y_add rfl rfl (by simp only [inK]; omega)) ?_
          refine o_val rfl rfl rfl (y_move (v := (.int _ _)) rfl) ?_
          refine o_nil ?_
          exact ⟨AS.mk (g.i + 1) u.ps u.A u.c u.E u.PG 0, (by first | omega | (dsimp only; omega)), ⟨by dsimp only; omega, hop2, by dsimp only; rw [hpk2, emsIn_full _ _ _ _ (by omega)], hpin2⟩, ⟨rfl, rfl, rfl, rfl, rfl, rfl, (congrArg (Value.int .i64) (by dsimp only; omega)), trivial⟩, (sub_picks [0, 0] rfl)⟩
    · refine s_exit ?_
      refine s_seq ?_
      refine s_region ?_
      refine o_val rfl rfl rfl (y_move (v := (.slice _ _ _)) rfl) ?_
      refine o_val rfl rfl rfl (y_assign (v := (.slice _ _ _)) rfl) ?_
      refine o_nil ?_
      refine s_ret ?_
      exact ⟨_, _, res1 rfl rfl, ⟨_, _, _, _, g.ps, rfl, hop, by unfold ems; rw [hm, ← show g.i = m by omega]; exact hpk, hpin, rfl⟩, sub_front ⟨_, rfl⟩⟩

theorem Due_c {V : Mem} (N : Option Addr) (n c : Nat) (ds : List DD) (h : Cels V [] N (ds.flatMap encD)) (hn : ds.length = n) (hdn : n ≤ 1000) (hdk : ∀ d ∈ ds, d.ok) (M : Option Addr) (m e : Nat) (ss : List FL) (h' : Cels V [] M (ss.flatMap encSt)) (hm : ss.length = m) (hms : m ≤ 1000000) (hsane : ∀ f ∈ ss, f.sane) (step : Int) : CallS Try.prog 24 [.slice N n c, .slice M m e, .int .i64 step].toArray V [] (fun r L' => r = .int .i64 (((ems ds ss).filter (fun q : Int × Int × Int × List Int => decide (step < q.1))).length : Nat) ∧ L' = []) := by
  refine callS Try.func24 rfl rfl (fun w0 => ?_)
  refine s_seq ?_
  refine s_region ?_
  refine o_val rfl rfl rfl (y_assign (v := (.int _ _)) rfl) ?_
  refine o_nil ?_
  refine s_seq ?_
  refine s_region ?_
  refine o_val rfl rfl rfl (y_assign (v := (.int _ _)) rfl) ?_
  refine o_nil ?_
  refine s_seq ?_
  refine s_seq ?_
  refine s_region ?_
  refine o_val rfl rfl rfl (y_move (v := (.slice _ _ _)) rfl) ?_
  refine o_val rfl rfl rfl (y_len Try.runUnderlying40 rfl) ?_
  refine o_val rfl rfl rfl (y_move (v := (.int _ _)) rfl) ?_
  refine o_nil ?_
  refine s_block ?_
  refine s_loop (γ := AS) (fun g => [(0, .slice N n c), (1, .slice M m e), (2, .int .i64 step), (7, .int .i64 (((emsTo ds ss g.i).filter (fun q : Int × Int × Int × List Int => decide (step < q.1))).length : Nat)), (12, .int .i64 m), (13, .int .i64 g.i)]) (fun g => []) (fun g => g.i ≤ m) (fun g => m - g.i) (AS.mk 0 [] none 0 [] [] 0) ?_ ⟨rfl, rfl, rfl, rfl, rfl, rfl, trivial⟩ (sub_front ⟨_, rfl⟩) ?_
  · exact Nat.zero_le _
  · intro g _f hI
    have hi := hI
    have hel := ems_len ds ss g.i
    have hgm : g.i * (ds.length + 1) ≤ 1000000 * 1001 := Nat.mul_le_mul (by omega) (by omega)
    refine s_seq ?_
    refine s_region ?_
    refine o_val rfl rfl rfl (y_lss rfl rfl) ?_
    refine o_nil ?_
    refine s_seq ?_
    refine s_if rfl (fun h1 => ?_) (fun h2 => ?_)
    · refine s_skip ?_
      refine s_seq ?_
      refine s_block ?_
      refine s_seq ?_
      refine s_region ?_
      refine o_val rfl rfl rfl (y_move (v := (.int _ _)) rfl) ?_
      refine o_val rfl rfl rfl (y_assign (v := (.int _ _)) rfl) ?_
      refine o_nil ?_
      refine s_seq ?_
      refine s_region ?_
      refine o_val rfl rfl rfl (y_move (v := (.slice _ _ _)) rfl) ?_
      refine o_val rfl rfl rfl (y_move (v := (.slice _ _ _)) rfl) ?_
      refine o_val rfl rfl rfl (y_move (v := (.int _ _)) rfl) ?_
      refine o_fn 0 (d := 19) rfl Try.call69 (times_c N n c ds h.here.down hn hdn hdk M m e ss h'.here.down hm hms hsane g.i (by omega)) rfl ?_
      rintro _ _ ⟨tB, tk, tq, tG, rfl, hto, htl, rfl⟩
      refine o_val rfl rfl rfl (y_len Try.runUnderlying30 rfl) ?_
      refine o_val rfl rfl rfl (y_move (v := (.int _ _)) rfl) ?_
      refine o_nil ?_
      refine s_block ?_
      refine s_loop (γ := AS) (fun u => [(0, .slice N n c), (1, .slice M m e), (2, .int .i64 step), (7, .int .i64 (((emsIn ds ss g.i u.j).filter (fun q : Int × Int × Int × List Int => decide (step < q.1))).length : Nat)), (12, .int .i64 m), (13, .int .i64 g.i), (19, .slice tB tk tq), (20, .int .i64 tk), (21, .int .i64 u.j)]) (fun u => [tG]) (fun u => u.j ≤ tk) (fun u => tk - u.j) (AS.mk g.i [] none 0 [] [] 0) ?_ ⟨rfl, rfl, rfl, (congrArg (Value.int .i64) (by dsimp only; rw [emsIn_zero])), rfl, rfl, rfl, rfl, rfl, trivial⟩ (sub_front ⟨_, rfl⟩) ?_
      · exact Nat.zero_le _
      · intro u _f hJ
        have hj := hJ
        have hst := fun hh => emsIn_step ds ss g.i u.j hh
        have hil : (emsIn ds ss g.i u.j).length ≤ (emsTo ds ss g.i).length + u.j := by unfold emsIn; simp; omega
        have hfl := List.length_filter_le (fun q : Int × Int × Int × List Int => decide (step < q.1)) (emsIn ds ss g.i u.j)
        have htl2 := times_len (ds := ds) (num := (g.i : Int)) (step := (ss.getD g.i default).due)
        refine s_seq ?_
        refine s_region ?_
        refine o_val rfl rfl rfl (y_lss rfl rfl) ?_
        refine o_nil ?_
        refine s_seq ?_
        refine s_if rfl (fun h3 => ?_) (fun h4 => ?_)
        · refine s_skip ?_
          refine s_seq ?_
          refine s_block ?_
          refine s_seq ?_
          refine s_region ?_
          refine o_val rfl rfl rfl (y_index1 Try.runUnderlying30 Try.sizeOf3 (hto.some_of (by omega)) rfl rfl (by omega)) ?_
          refine o_val rfl rfl rfl (y_load Try.isAgg3 rfl (cel_int (hto.cels (j := 0) rfl) (by omega))) ?_
          refine o_val rfl rfl rfl (y_assign (v := (.int _ _)) rfl) ?_
          refine o_nil ?_
          refine s_seq ?_
          refine s_region ?_
          refine o_val rfl rfl rfl (y_move (v := (.int _ _)) rfl) ?_
          refine o_val rfl rfl rfl (y_move (v := (.int _ _)) rfl) ?_
          refine o_val rfl rfl rfl (y_gtr rfl rfl) ?_
          refine o_nil ?_
          refine s_if rfl (fun h5 => ?_) (fun h6 => ?_)
          · have hgt := h5
            refine s_region ?_
            refine o_val rfl rfl rfl (y_move (v := (.int _ _)) rfl) ?_
            refine o_val rfl rfl rfl (y_add rfl rfl (by simp only [inK]; omega)) ?_
            refine o_val rfl rfl rfl (y_assign (v := (.int _ _)) rfl) ?_
            refine o_nil ?_
            refine s_region ?_
            refine o_val rfl rfl rfl (y_add rfl rfl (by simp only [inK]; omega)) ?_
            refine o_val rfl rfl rfl (y_move (v := (.int _ _)) rfl) ?_
            refine o_nil ?_
            exact ⟨AS.mk u.i [] none 0 [] [] (u.j + 1), (by first | omega | (dsimp only; omega)), (by dsimp only; omega), ⟨rfl, rfl, rfl, (congrArg (Value.int .i64) (by dsimp only; rw [hst (by omega), filt_snoc, List.length_append]; first | (rw [if_pos (by simp only [decide_eq_true_eq]; exact hgt)]; rfl) | (rw [if_neg (by simp only [decide_eq_true_eq]; exact hgt)]; rfl))), rfl, rfl, rfl, rfl, (congrArg (Value.int .i64) (by dsimp only; omega)), trivial⟩, sub_front ⟨_, rfl⟩⟩
          · have hgt := h6
            refine s_skip ?_
            refine s_region ?_
            refine o_val rfl rfl rfl (y_add rfl rfl (by simp only [inK]; omega)) ?_
            refine o_val rfl rfl rfl (y_move (v := (.int _ _)) rfl) ?_
            refine o_nil ?_
            exact ⟨AS.mk u.i [] none 0 [] [] (u.j + 1), (by first | omega | (dsimp only; omega)), (by dsimp only; omega), ⟨rfl, rfl, rfl, (congrArg (Value.int .i64) (by dsimp only; rw [hst (by omega), filt_snoc, List.length_append]; first | (rw [if_pos (by simp only [decide_eq_true_eq]; exact hgt)]; rfl) | (rw [if_neg (by simp only [decide_eq_true_eq]; exact hgt)]; rfl))), rfl, rfl, rfl, rfl, (congrArg (Value.int .i64) (by dsimp only; omega)), trivial⟩, sub_front ⟨_, rfl⟩⟩
        · refine s_exit ?_
          refine s_region ?_
          refine o_val rfl rfl rfl (y_add rfl rfl (by simp only [inK]; omega)) ?_
          refine o_val rfl rfl rfl (y_move (v := (.int _ _)) rfl) ?_
          refine o_nil ?_
          exact ⟨AS.mk (g.i + 1) [] none 0 [] [] 0, (by first | omega | (dsimp only; omega)), (by dsimp only; omega), ⟨rfl, rfl, rfl, (congrArg (Value.int .i64) (by dsimp only; rw [← emsIn_full _ _ _ u.j (by omega)])), rfl, (congrArg (Value.int .i64) (by dsimp only; omega)), trivial⟩, sub_picks [] rfl⟩
    · refine s_exit ?_
      refine s_seq ?_
      refine s_region ?_
      refine o_val rfl rfl rfl (y_move (v := (.int _ _)) rfl) ?_
      refine o_val rfl rfl rfl (y_assign (v := (.int _ _)) rfl) ?_
      refine o_nil ?_
      refine s_ret ?_
      exact ⟨_, _, res1 rfl rfl, ⟨congrArg (Value.int .i64) (by unfold ems; rw [hm, ← show g.i = m by omega]), rfl⟩, sub_front ⟨_, rfl⟩⟩

end Go.Proofs.Ytdgmocibjjkghaa.K

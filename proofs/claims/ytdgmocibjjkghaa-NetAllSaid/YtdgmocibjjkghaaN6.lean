/- Walk: the law that packets arrive as the reference says. No condition beyond what each statement names. -/
import Derived.Test.YtdgmocibjjkghaaProg
import Derived.Test.YtdgmocibjjkghaaK13
import Derived.Test.YtdgmocibjjkghaaB9
import Derived.Test.YtdgmocibjjkghaaN1
import Derived.Test.YtdgmocibjjkghaaN2
import Derived.Test.YtdgmocibjjkghaaN3
import Derived.Test.YtdgmocibjjkghaaN4
import Derived.Test.YtdgmocibjjkghaaN5
set_option linter.unusedVariables false
set_option linter.unusedSimpArgs false
set_option maxRecDepth 100000
set_option maxHeartbeats 1000000
namespace Go.Proofs.Ytdgmocibjjkghaa.K
open Go.RowKit

theorem errN_zero {ends : Int} {ds : List DD} (h : errN ends ds = 0) : (1 ≤ ends ∧ ends ≤ 8) ∧ ds.length ≤ 1000 ∧ ∀ d ∈ ds, d.ok := by
  unfold errN at h
  split at h
  · cases h
  · split at h
    · cases h
    · split at h
      · exact ⟨by omega, by omega, by assumption⟩
      · cases h
theorem and_low' (x : Int) (k m : Nat) (hm : m = 2 ^ k - 1) (hk : k ≤ 16) : 0 ≤ bAnd .i64 x (m : Nat) ∧ bAnd .i64 x (m : Nat) ≤ (m : Nat) := by
  unfold bAnd
  have hp := Nat.pow_le_pow_right (show 0 < 2 by omega) hk
  have h2 : (BitVec.ofInt 64 (m : Int)).toNat = m := by
    rw [BitVec.toNat_ofInt]
    omega
  have h1 : (BitVec.ofInt IntKind.i64.bits x &&& BitVec.ofInt IntKind.i64.bits (m : Int)).toNat ≤ m := by
    rw [BitVec.toNat_and]
    refine Nat.le_trans Nat.and_le_right ?_
    rw [show IntKind.i64.bits = 64 from rfl, h2]
    exact Nat.le_refl _
  rw [wrap_in (k := .i64) (by simp only [inK]; omega)]
  omega
theorem and15' (x : Int) : 0 ≤ bAnd .i64 x 15 ∧ bAnd .i64 x 15 ≤ 15 := and_low' x 4 15 rfl (by omega)
theorem and4095 (x : Int) : 0 ≤ bAnd .i64 x 4095 ∧ bAnd .i64 x 4095 ≤ 4095 := and_low' x 12 4095 rfl (by omega)
theorem os_made_u8 {A : Option Addr} {n : Nat} {e : TypeId} {E : Grp} (h : OS A n n e 1 (madeCells (Value.int .u8 0).cells (n * 1)).toList E) : OS A n n e 1 ((List.replicate n (0 : Int)).map (.int .u8)) E := by
  rw [show (Value.int .u8 0).cells = #[.int .u8 0] from rfl, made_one] at h
  rwa [List.map_replicate]
/-- The law's state in its loop. -/
structure NL where
  i : Nat
  fs : List FL
  A : Option Addr
  c : Nat
  E : Grp
  PG : Grp
  ss : List FL
  M : Option Addr
  e : Nat
  SE : Grp
  SG : Grp
  step : Int
theorem flin_one {PG G : Grp} {ps : List FL} {x : FL} (h : ∀ f ∈ ps, FlIn PG f) (hx : FlIn (G ++ PG) x) : ∀ f ∈ ps ++ [x], FlIn (G ++ PG) f := flin_snoc h hx
theorem sane_snoc {ss : List FL} {x : FL} (h : ∀ f ∈ ss, f.sane) (hx : x.sane) : ∀ f ∈ ss ++ [x], f.sane := by
  intro f hf
  rcases List.mem_append.1 hf with hf | hf
  · exact h f hf
  · have e : f = x := by simpa using hf
    rw [e]; exact hx
theorem sendErr_small {ends sent src dst : Int} {n : Nat} (h : sendErr ends sent src dst n = 0) : n ≤ 4000 := by
  unfold sendErr at h
  split at h
  · cases h
  · split at h
    · cases h
    · omega
theorem rep_bd (n : Nat) : ∀ b ∈ List.replicate n (0 : Int), 0 ≤ b ∧ b ≤ 255 := fun b hb => by
  have := (List.mem_replicate.1 hb).2; omega

theorem NetSays_k0 (v0 : Int) (v1 : Int) (v2A : Option Addr) (v2n : Nat) (v2c : Nat) (w : World) : (Instr.build 34 ([(0, (.int .i64 v0)), (1, (.int .i64 v1)), (2, (.slice v2A v2n v2c))] : List (Nat × Value)).toArray).run Try.prog w = .ok (.agg #[.int .i64 v0, .int .i64 v1, .slice v2A v2n v2c]) w := by kernel_rfl
theorem NetSays_k1 (v0 : Int) (v1x0 : Int) (v1x1 : Int) (v1x2A : Option Addr) (v1x2n : Nat) (v1x2c : Nat) (w : World) : (Instr.build 47 ([(0, (.int .i64 v0)), (1, (.agg #[(.int .i64 v1x0), (.int .i64 v1x1), (.slice v1x2A v1x2n v1x2c)]))] : List (Nat × Value)).toArray).run Try.prog w = .ok (.agg #[.int .i64 v0, .int .i64 v1x0, .int .i64 v1x1, .slice v1x2A v1x2n v1x2c]) w := by kernel_rfl
theorem NetSays_k2 (v0x0 : Int) (v0x1 : Int) (v0x2 : Int) (v0x3A : Option Addr) (v0x3n : Nat) (v0x3c : Nat) (w : World) : (Instr.buildSlice 40 1 ([(0, (.agg #[(.int .i64 v0x0), (.int .i64 v0x1), (.int .i64 v0x2), (.slice v0x3A v0x3n v0x3c)]))] : List (Nat × Value)).toArray).run Try.prog w = .ok (.slice (some ⟨w.heap.size, 0, none⟩) 1 1) { w with heap := w.heap.push (.cells ([.int .i64 v0x0, .int .i64 v0x1, .int .i64 v0x2, .slice v0x3A v0x3n v0x3c] : List Value).toArray 47 (0, 0)) } := by kernel_rfl
theorem NetSays_c {V : Mem} (ends : Int) (N : Option Addr) (n c : Nat) (ds : List DD) (h : Cels V [] N (ds.flatMap encD)) (hn : ds.length = n) (hb : n ≤ 140737488355328) (M0 : Option Addr) (m0 c0 : Nat) (acts : List Int) (h2 : Cels V [] M0 (acts.map (.int .i64))) (hm0 : acts.length = m0) (hmc : m0 ≤ c0) (hb2 : m0 ≤ 140737488355328) : CallS Try.prog 4 [.int .i64 ends, .slice N n c, .slice M0 m0 c0].toArray V [] (fun r L' => r = .bool true ∧ L' = []) := by
  refine callS Try.func4 rfl rfl (fun w0 => ?_)
  refine s_seq ?_
  refine s_region ?_
  refine o_val rfl rfl rfl (y_assign (v := (.bool _)) rfl) ?_
  refine o_nil ?_
  refine s_seq ?_
  refine s_region ?_
  refine o_val rfl rfl rfl (y_move (v := (.int _ _)) rfl) ?_
  refine o_val rfl rfl rfl (y_move (v := (.slice _ _ _)) rfl) ?_
  refine o_fn 0 (d := 23) rfl Try.call12 (NewN_c ends N n c ds h.here.down hn hb) rfl ?_
  rintro _ _ (⟨hbad, rfl, rfl⟩ | ⟨hgood, nb, dA, dc, DG, rfl, hod, rfl⟩)
  · refine o_val rfl rfl rfl (y_move (v := (.tuple #[(.pointer _), (.int _ _)])) rfl) ?_
    refine o_val rfl rfl rfl (y_extract (v := (.pointer _)) rfl rfl) ?_
    refine o_val rfl rfl rfl (y_extract (v := (.int _ _)) rfl rfl) ?_
    refine o_val rfl rfl rfl (y_assign (v := (.pointer _)) rfl) ?_
    refine o_val rfl rfl rfl (y_assign (v := (.int _ _)) rfl) ?_
    refine o_nil ?_
    refine s_seq ?_
    refine s_seq ?_
    refine s_region ?_
    refine o_val rfl rfl rfl (y_move (v := (.int _ _)) rfl) ?_
    refine o_val rfl rfl rfl (y_move (v := (.slice _ _ _)) rfl) ?_
    refine o_fn 0 (d := 28) rfl Try.call18 (DeedFault_c ends N n c ds h.here.down hn hb) rfl ?_
    rintro _ _ ⟨rfl, rfl⟩
    refine o_val rfl rfl rfl (y_assign (v := (.int _ _)) rfl) ?_
    refine o_nil ?_
    refine s_forget [(0, (.int _ _)), (1, (.slice _ _ _)), (2, (.slice _ _ _)), (6, (.bool _)), (7, (.pointer _)), (8, (.int _ _)), (9, (.int _ _))] ⟨rfl, rfl, rfl, rfl, rfl, rfl, rfl, trivial⟩ (fun _f => ?_)
    refine s_seq ?_
    refine s_region ?_
    refine o_fn 0 (d := 29) rfl Try.call19 (arrivesL_c) rfl ?_
    rintro _ _ ⟨rfl, rfl⟩
    refine o_val rfl rfl rfl (y_notb rfl) ?_
    refine o_val rfl rfl rfl (y_move (v := (.bool _)) rfl) ?_
    refine o_guard_yes rfl rfl ?_
    refine o_val rfl rfl rfl (y_move (v := (.int _ _)) rfl) ?_
    refine o_guard_yes rfl rfl ?_
    refine o_val rfl rfl rfl (y_neq rfl rfl) ?_
    refine o_val rfl rfl rfl (y_pick_f (v := (.bool _)) rfl rfl) ?_
    refine o_nil ?_
    refine s_if rfl (fun h1 => ?_) (fun h2 => ?_)
    · refine s_seq ?_
      refine s_region ?_
      refine o_fn 0 (d := 35) rfl Try.call19 (arrivesL_c) rfl ?_
      rintro _ _ ⟨rfl, rfl⟩
      refine o_val rfl rfl rfl (y_move (v := (.bool _)) rfl) ?_
      refine o_guard_yes rfl rfl ?_
      refine o_val rfl rfl rfl (y_move (v := (.int _ _)) rfl) ?_
      refine o_guard_yes rfl rfl ?_
      refine o_val rfl rfl rfl (y_move (v := (.int _ _)) rfl) ?_
      refine o_guard_yes rfl rfl ?_
      refine o_split rfl rfl rfl (y_eql rfl rfl) (fun p3 => ?_) (fun p4 => ?_)
      · refine o_val rfl rfl rfl (y_pick_t (v := (.bool _)) rfl rfl) ?_
        refine o_val rfl rfl rfl (y_move (v := (.bool _)) rfl) ?_
        refine o_guard_yes rfl rfl ?_
        refine o_val rfl rfl rfl (y_move (v := (.pointer _)) rfl) ?_
        refine o_guard_yes rfl rfl ?_
        refine o_val rfl rfl rfl ((y_eql_ptr_nil (by kernel_rfl) rfl rfl).bt rfl) ?_
        refine o_val rfl rfl rfl (y_pick_t (v := (.bool _)) rfl rfl) ?_
        refine o_val rfl rfl rfl (y_assign (v := (.bool _)) rfl) ?_
        refine o_nil ?_
        refine s_forget [(0, (.int _ _)), (1, (.slice _ _ _)), (2, (.slice _ _ _)), (6, (.bool _)), (7, (.pointer _)), (8, (.int _ _))] ⟨rfl, rfl, rfl, rfl, rfl, rfl, trivial⟩ (fun _f => ?_)
        refine s_ret ?_
        exact ⟨_, [], res1 rfl rfl, ⟨rfl, rfl⟩, sub_picks [] rfl⟩
      · exact absurd rfl p4
    · exact absurd (Decidable.not_not.1 h2) hbad
  · obtain ⟨hends, hdn, hdk⟩ := errN_zero hgood
    refine o_val rfl rfl rfl (y_move (v := (.tuple #[(.pointer _), (.int _ _)])) rfl) ?_
    refine o_val rfl rfl rfl (y_extract (v := (.pointer _)) rfl rfl) ?_
    refine o_val rfl rfl rfl (y_extract (v := (.int _ _)) rfl rfl) ?_
    refine o_val rfl rfl rfl (y_assign (v := (.pointer _)) rfl) ?_
    refine o_val rfl rfl rfl (y_assign (v := (.int _ _)) rfl) ?_
    refine o_nil ?_
    refine s_seq ?_
    refine s_seq ?_
    refine s_region ?_
    refine o_val rfl rfl rfl (y_move (v := (.int _ _)) rfl) ?_
    refine o_val rfl rfl rfl (y_move (v := (.slice _ _ _)) rfl) ?_
    refine o_fn 0 (d := 28) rfl Try.call18 (DeedFault_c ends N n c ds h.here.down hn hb) rfl ?_
    rintro _ _ ⟨rfl, rfl⟩
    refine o_val rfl rfl rfl (y_assign (v := (.int _ _)) rfl) ?_
    refine o_nil ?_
    refine s_forget [(0, (.int _ _)), (1, (.slice _ _ _)), (2, (.slice _ _ _)), (6, (.bool _)), (7, (.pointer _)), (8, (.int _ _)), (9, (.int _ _))] ⟨rfl, rfl, rfl, rfl, rfl, rfl, rfl, trivial⟩ (fun _f => ?_)
    refine s_seq ?_
    refine s_region ?_
    refine o_fn 0 (d := 29) rfl Try.call19 (arrivesL_c) rfl ?_
    rintro _ _ ⟨rfl, rfl⟩
    refine o_val rfl rfl rfl (y_notb rfl) ?_
    refine o_val rfl rfl rfl (y_move (v := (.bool _)) rfl) ?_
    refine o_guard_yes rfl rfl ?_
    refine o_val rfl rfl rfl (y_move (v := (.int _ _)) rfl) ?_
    refine o_guard_yes rfl rfl ?_
    refine o_val rfl rfl rfl (y_neq rfl rfl) ?_
    refine o_val rfl rfl rfl (y_pick_f (v := (.bool _)) rfl rfl) ?_
    refine o_nil ?_
    refine s_if rfl (fun h5 => ?_) (fun h6 => ?_)
    · exact absurd hgood h5
    · refine s_skip ?_
      refine s_seq ?_
      refine s_seq ?_
      refine s_region ?_
      refine o_val rfl rfl rfl (y_move (v := (.int _ _)) rfl) ?_
      refine o_val rfl rfl rfl (y_neq rfl rfl) ?_
      refine o_nil ?_
      refine s_if rfl (fun h7 => ?_) (fun h8 => ?_)
      · exact absurd rfl h7
      · refine s_skip ?_
        refine s_seq ?_
        refine s_region ?_
        refine o_val rfl rfl rfl (y_assign (v := (.slice _ _ _)) rfl) ?_
        refine o_nil ?_
        refine s_seq ?_
        refine s_region ?_
        refine o_val rfl rfl rfl (y_assign (v := (.int _ _)) rfl) ?_
        refine o_nil ?_
        refine s_seq ?_
        refine s_seq ?_
        refine s_region ?_
        refine o_val rfl rfl rfl (y_move (v := (.slice _ _ _)) rfl) ?_
        refine o_val rfl rfl rfl (y_move (v := (.slice _ _ _)) rfl) ?_
        refine o_val rfl rfl rfl (y_len Try.runUnderlying30 rfl) ?_
        refine o_val rfl rfl rfl (y_min rfl rfl) ?_
        refine o_val rfl rfl rfl (y_cut_hi Try.runUnderlying30 Try.sizeOf3 rfl rfl (by omega)) ?_
        refine o_val rfl rfl rfl (y_len Try.runUnderlying30 rfl) ?_
        refine o_val rfl rfl rfl (y_move (v := (.int _ _)) rfl) ?_
        refine o_nil ?_
        refine s_forget [(0, (.int _ _)), (1, (.slice _ _ _)), (6, (.bool _)), (7, (.pointer _)), (10, (.slice _ _ _)), (11, (.int _ _)), (51, (.slice _ _ _)), (52, (.int _ _)), (53, (.int _ _))] ⟨rfl, rfl, rfl, rfl, rfl, rfl, rfl, rfl, rfl, trivial⟩ (fun _f => ?_)
        refine s_block ?_
        refine s_group ?_
        refine s_group ?_
        refine s_group ?_
        refine s_group ?_
        refine s_loop (γ := NL) (fun g => [(0, .int .i64 ends), (1, .slice N n c), (7, .pointer (some ⟨nb, 0, none⟩)), (10, .slice g.M g.ss.length g.e), (11, .int .i64 g.step), (51, .slice M0 (min (m0 : Int) 40).toNat c0), (52, .int .i64 ((min (m0 : Int) 40).toNat : Nat)), (53, .int .i64 g.i)]) (fun g => [netg nb ends dA n dc g.step (g.ss.length : Nat) g.A g.fs.length g.c, DG, g.E, g.PG, g.SE, g.SG]) (fun g => g.i ≤ (min (m0 : Int) 40).toNat ∧ OS g.A g.fs.length g.c 133 5 ((g.fs).flatMap encFl) g.E ∧ (∀ f ∈ g.fs, FlIn g.PG f) ∧ OS g.M g.ss.length g.e 47 4 ((g.ss).flatMap encSt) g.SE ∧ (∀ f ∈ g.ss, FlIn g.SG f) ∧ (∀ f ∈ g.ss, f.sane) ∧ NJ ds g.ss g.fs g.step ∧ (0 ≤ g.step ∧ g.step ≤ g.i) ∧ g.ss.length ≤ g.i ∧ g.fs.length ≤ 1001 * g.i) (fun g => (min (m0 : Int) 40).toNat - g.i) (NL.mk 0 [] none 0 [] [] [] none 0 [] [] 0) ?_ ⟨rfl, rfl, rfl, rfl, rfl, rfl, rfl, rfl, trivial⟩ (sub_front ⟨_, rfl⟩) ?_
        · exact ⟨Nat.zero_le _, OS.nil _ _, by simp, OS.nil _ _, by simp, by simp, NJ.zero _ _, by decide, Nat.le_refl _, Nat.zero_le _⟩
        · intro g _f hI
          obtain ⟨hi, hof, hfin, hos, hsin, hsane, hnj, hstep, hsl, hfl⟩ := hI
          have h15 := and15' (acts.getD ((g.i : Nat) : Int).toNat 0)
          have h15' := and15' ((acts.getD ((g.i : Nat) : Int).toNat 0).fdiv (2 ^ min (4 : Int).toNat IntKind.i64.bits))
          have h40 := and4095 ((acts.getD ((g.i : Nat) : Int).toNat 0).fdiv (2 ^ min (8 : Int).toNat IntKind.i64.bits))
          refine s_seq ?_
          refine s_region ?_
          refine o_val rfl rfl rfl (y_lss rfl rfl) ?_
          refine o_nil ?_
          refine s_seq ?_
          refine s_if rfl (fun h9 => ?_) (fun h10 => ?_)
          · refine s_skip ?_
            refine s_seq ?_
            refine s_block ?_
            refine s_seq ?_
            refine s_region ?_
            refine o_val rfl rfl rfl (y_index1 Try.runUnderlying30 Try.sizeOf3 (some_int (i := 0) h2 (by omega)) rfl rfl (by omega)) ?_
            refine o_val rfl rfl rfl (y_load Try.isAgg3 rfl (cel_int h2.here (by omega))) ?_
            refine o_val rfl rfl rfl (y_assign (v := (.int _ _)) rfl) ?_
            refine o_nil ?_
            refine s_seq ?_
            refine s_seq ?_
            refine s_region ?_
            refine o_val rfl rfl rfl (y_move (v := (.int _ _)) rfl) ?_
            refine o_val rfl rfl rfl (y_lss rfl rfl) ?_
            refine o_nil ?_
            refine s_if rfl (fun h11 => ?_) (fun h12 => ?_)
            · refine s_seq ?_
              refine s_region ?_
              refine o_val rfl rfl rfl (y_move (v := (.int _ _)) rfl) ?_
              refine o_val rfl rfl rfl (y_add rfl rfl (by simp only [inK]; omega)) ?_
              refine o_val rfl rfl rfl (y_assign (v := (.int _ _)) rfl) ?_
              refine o_nil ?_
              refine s_seq ?_
              refine s_region ?_
              refine o_val rfl rfl rfl (y_move (v := (.pointer _)) rfl) ?_
              refine o_pull 2 ?_
              refine o_pull 1 ?_
              refine o_fn 2 (d := 62) rfl Try.call15 (StepN_c nb ends dA n dc g.step (g.ss.length : Nat) g.A g.fs.length g.c g.fs g.E hof (by omega) (by omega)) rfl ?_
              rintro _ _ ⟨k, kA, kc, kE, kB, ke, kG, rfl, hk1, hk2, hk3, hko, hka, rfl⟩
              have hnj2 := hnj.step hk2 hk3
              have hlen2 := hnj2.1.len
              rw [List.length_drop] at hlen2
              refine o_val rfl rfl rfl (y_assign (v := (.slice _ _ _)) rfl) ?_
              refine o_nil ?_
              refine s_seq ?_
              refine s_region ?_
              refine o_val rfl rfl rfl (y_move (v := (.slice _ _ _)) rfl) ?_
              refine o_val rfl rfl rfl (y_move (v := (.slice _ _ _)) rfl) ?_
              refine o_val rfl rfl rfl (y_move (v := (.int _ _)) rfl) ?_
              refine o_fn 0 (d := 66) rfl Try.call20 (Arrivals_c N n c ds h.here.down hn (by omega) hdk g.M g.ss.length g.e g.ss (hos.cels (j := 5) rfl).down rfl (by omega) hsane (fun f hf => (hsin f hf).at (j := 6) rfl) _) rfl ?_
              rintro _ _ ⟨aB, aq, aG, aPG, ps, rfl, hop, hpk, hpin, rfl⟩
              refine o_val rfl rfl rfl (y_assign (v := (.slice _ _ _)) rfl) ?_
              refine o_nil ?_
              refine s_seq ?_
              refine s_region ?_
              refine o_val rfl rfl rfl (y_move (v := (.slice _ _ _)) rfl) ?_
              refine o_val rfl rfl rfl (y_move (v := (.slice _ _ _)) rfl) ?_
              refine o_fn 0 (d := 69) rfl Try.call21 (EqualPk_c kB k ke (g.fs.take k) (hko.cels (j := 4) rfl).down (by rw [List.length_take]; omega) (by omega) (fun f hf => (hfin f (List.mem_of_mem_take hf)).at (j := 6) rfl) aB ps.length aq ps (hop.cels (j := 0) rfl).down rfl (fun f hf => (hpin f hf).at (j := 1) rfl)) rfl ?_
              rintro _ _ ⟨rfl, rfl⟩
              refine o_val rfl rfl rfl (y_not rfl) ?_
              refine o_nil ?_
              refine s_if rfl (fun h13 => ?_) (fun h14 => ?_)
              · exact absurd (hnj2.2.trans hpk.symm) h13
              · refine s_skip ?_
                refine s_seq ?_
                refine s_region ?_
                refine o_val rfl rfl rfl (y_move (v := (.pointer _)) rfl) ?_
                refine o_pull 2 ?_
                refine o_fn 1 (d := 127) rfl Try.call16 (LeftN_c _ _ _ _ _ _ _ _ _ _) rfl ?_
                rintro _ _ ⟨rfl, rfl⟩
                refine o_val rfl rfl rfl (y_move (v := (.slice _ _ _)) rfl) ?_
                refine o_val rfl rfl rfl (y_move (v := (.slice _ _ _)) rfl) ?_
                refine o_val rfl rfl rfl (y_move (v := (.int _ _)) rfl) ?_
                refine o_fn 0 (d := 131) rfl Try.call24 (Due_c N n c ds h.here.down hn (by omega) hdk g.M g.ss.length g.e g.ss (hos.cels (j := 7) rfl).down rfl (by omega) hsane _) rfl ?_
                rintro _ _ ⟨rfl, rfl⟩
                refine o_split rfl rfl rfl (y_neq rfl rfl) (fun p15 => ?_) (fun p16 => ?_)
                · exfalso; omega
                · refine o_val rfl rfl rfl (y_move (v := (.bool _)) rfl) ?_
                  refine o_guard_yes rfl rfl ?_
                  refine o_val rfl rfl rfl (y_move (v := (.pointer _)) rfl) ?_
                  refine o_guard_yes rfl rfl ?_
                  refine o_fn 1 (d := 135) rfl Try.call17 (SentN_c _ _ _ _ _ _ _ _ _ _) rfl ?_
                  rintro _ _ ⟨rfl, rfl⟩
                  refine o_guard_yes rfl rfl ?_
                  refine o_val rfl rfl rfl (y_move (v := (.slice _ _ _)) rfl) ?_
                  refine o_guard_yes rfl rfl ?_
                  refine o_val rfl rfl rfl (y_len Try.runUnderlying40 rfl) ?_
                  refine o_guard_yes rfl rfl ?_
                  refine o_val rfl rfl rfl (y_neq rfl rfl) ?_
                  refine o_val rfl rfl rfl (y_pick_f (v := (.bool _)) rfl rfl) ?_
                  refine o_nil ?_
                  refine s_if rfl (fun h17 => ?_) (fun h18 => ?_)
                  · exfalso; (try simp only [List.length_append, List.length_cons, List.length_nil] at *); omega
                  · refine s_skip ?_
                    refine s_region ?_
                    refine o_val rfl rfl rfl (y_add rfl rfl (by simp only [inK]; omega)) ?_
                    refine o_val rfl rfl rfl (y_move (v := (.int _ _)) rfl) ?_
                    refine o_nil ?_
                    exact ⟨NL.mk (g.i + 1) (g.fs.drop k) kA kc kE g.PG g.ss g.M g.e g.SE g.SG (g.step + 1), (by first | omega | (dsimp only; omega)), ⟨by dsimp only; omega, by dsimp only; rw [List.length_drop]; exact hka, fun f hf => hfin f (List.mem_of_mem_drop hf), hos, hsin, hsane, hnj2.1, by dsimp only; omega, by dsimp only; omega, by dsimp only; rw [List.length_drop]; omega⟩, ⟨rfl, rfl, rfl, rfl, rfl, rfl, rfl, (congrArg (Value.int .i64) (by dsimp only; omega)), trivial⟩, (by dsimp only; rw [List.length_drop]; exact sub_picks [0, 4, 2, 3, 3, 3] rfl)⟩
            · refine s_seq ?_
              refine s_drawn 0 (by kernel_rfl) ?_
              refine d_val (i := 0) rfl (by kernel_rfl) (by kernel_rfl) (by kernel_rfl) rfl rfl rfl (y_move (v := (.int _ _)) rfl) ?_
              refine d_val (i := 1) rfl (by kernel_rfl) (by kernel_rfl) (by kernel_rfl) rfl rfl rfl (y_and rfl rfl) ?_
              refine d_val (i := 2) rfl (by kernel_rfl) (by kernel_rfl) (by kernel_rfl) rfl rfl rfl (y_sub rfl rfl (by simp only [inK]; omega)) ?_
              refine d_val (i := 3) rfl (by kernel_rfl) (by kernel_rfl) (by kernel_rfl) rfl rfl rfl (y_move (v := (.int _ _)) rfl) ?_
              refine d_val (i := 4) rfl (by kernel_rfl) (by kernel_rfl) (by kernel_rfl) rfl rfl rfl (y_shr rfl rfl (by omega)) ?_
              refine d_val (i := 5) rfl (by kernel_rfl) (by kernel_rfl) (by kernel_rfl) rfl rfl rfl (y_and rfl rfl) ?_
              refine d_val (i := 6) rfl (by kernel_rfl) (by kernel_rfl) (by kernel_rfl) rfl rfl rfl (y_sub rfl rfl (by simp only [inK]; omega)) ?_
              refine d_val (i := 7) rfl (by kernel_rfl) (by kernel_rfl) (by kernel_rfl) rfl rfl rfl (y_move (v := (.int _ _)) rfl) ?_
              refine d_val (i := 8) rfl (by kernel_rfl) (by kernel_rfl) (by kernel_rfl) rfl rfl rfl (y_shr rfl rfl (by omega)) ?_
              refine d_val (i := 9) rfl (by kernel_rfl) (by kernel_rfl) (by kernel_rfl) rfl rfl rfl (y_and rfl rfl) ?_
              refine d_val (i := 11) rfl (by kernel_rfl) (by kernel_rfl) (by kernel_rfl) rfl rfl rfl (y_assign (v := (.int _ _)) rfl) ?_
              refine d_val (i := 12) rfl (by kernel_rfl) (by kernel_rfl) (by kernel_rfl) rfl rfl rfl (y_assign (v := (.int _ _)) rfl) ?_
              refine d_eff (k := 10) (n := 0) (m := 6) rfl (by kernel_rfl) rfl ?_
              refine o_make (sz := 1) (bytes := 1) (n := (bAnd .i64 ((acts.getD ((g.i : Nat) : Int).toNat 0).fdiv (2 ^ min (8 : Int).toNat IntKind.i64.bits)) 4095).toNat) rfl Try.underlying29 Try.type5 rfl rfl rfl (congrArg (Value.int .i64) (Int.toNat_of_nonneg h40.1).symm) (congrArg (Value.int .i64) (Int.toNat_of_nonneg h40.1).symm) (by omega) (fun dA' dE ho19 hs20 => ?_)
              have hdt : OS dA' (bAnd .i64 ((acts.getD ((g.i : Nat) : Int).toNat 0).fdiv (2 ^ min (8 : Int).toNat IntKind.i64.bits)) 4095).toNat (bAnd .i64 ((acts.getD ((g.i : Nat) : Int).toNat 0).fdiv (2 ^ min (8 : Int).toNat IntKind.i64.bits)) 4095).toNat 5 1 ((List.replicate (bAnd .i64 ((acts.getD ((g.i : Nat) : Int).toNat 0).fdiv (2 ^ min (8 : Int).toNat IntKind.i64.bits)) 4095).toNat (0 : Int)).map (.int .u8)) dE := os_made_u8 ho19
              clear ho19
              refine o_nil ?_
              refine d_val (i := 13) rfl (by kernel_rfl) (by kernel_rfl) (by kernel_rfl) rfl rfl rfl (y_assign (v := (.slice _ _ _)) rfl) ?_
              refine d_nil (n := 0) (m := 6) (by kernel_rfl) rfl ?_
              refine s_seq ?_
              refine s_region ?_
              refine o_val rfl rfl rfl (y_assign (v := (.int _ _)) rfl) ?_
              refine o_nil ?_
              refine s_join (γ := Int) (fun v => [(0, .int .i64 ends), (1, .slice N n c), (7, .pointer (some ⟨nb, 0, none⟩)), (10, .slice g.M g.ss.length g.e), (11, .int .i64 g.step), (51, .slice M0 (min (m0 : Int) 40).toNat c0), (52, .int .i64 ((min (m0 : Int) 40).toNat : Nat)), (53, .int .i64 g.i), (16, .int .i64 (bAnd .i64 (acts.getD ((g.i : Nat) : Int).toNat 0) 15 - 1)), (17, .int .i64 (bAnd .i64 ((acts.getD ((g.i : Nat) : Int).toNat 0).fdiv (2 ^ min (4 : Int).toNat IntKind.i64.bits)) 15 - 1)), (18, .slice dA' (bAnd .i64 ((acts.getD ((g.i : Nat) : Int).toNat 0).fdiv (2 ^ min (8 : Int).toNat IntKind.i64.bits)) 4095).toNat (bAnd .i64 ((acts.getD ((g.i : Nat) : Int).toNat 0).fdiv (2 ^ min (8 : Int).toNat IntKind.i64.bits)) 4095).toNat), (19, .int .i64 v)]) (fun v => [netg nb ends dA n dc g.step (g.ss.length : Nat) g.A g.fs.length g.c, DG, g.E, g.PG, g.SE, g.SG, dE]) (fun v => v = (sendErr ends (g.ss.length : Nat) (bAnd .i64 (acts.getD ((g.i : Nat) : Int).toNat 0) 15 - 1) (bAnd .i64 ((acts.getD ((g.i : Nat) : Int).toNat 0).fdiv (2 ^ min (4 : Int).toNat IntKind.i64.bits)) 15 - 1) (bAnd .i64 ((acts.getD ((g.i : Nat) : Int).toNat 0).fdiv (2 ^ min (8 : Int).toNat IntKind.i64.bits)) 4095).toNat)) ?_ ?_
              · refine s_block ?_
                refine s_seq ?_
                refine s_region ?_
                refine o_val rfl rfl rfl (y_move (v := (.int _ _)) rfl) ?_
                refine o_split rfl rfl rfl (y_lss rfl rfl) (fun p21 => ?_) (fun p22 => ?_)
                · refine o_val rfl rfl rfl (y_move (v := (.bool _)) rfl) ?_
                  refine o_guard_no rfl rfl rfl rfl rfl ?_
                  refine o_guard_no rfl rfl rfl rfl rfl ?_
                  refine o_guard_no rfl rfl rfl rfl rfl ?_
                  refine o_val rfl rfl rfl (y_pick_t (v := (.bool _)) rfl rfl) ?_
                  refine o_val rfl rfl rfl (y_move (v := (.bool _)) rfl) ?_
                  refine o_guard_no rfl rfl rfl rfl rfl ?_
                  refine o_guard_no rfl rfl rfl rfl rfl ?_
                  refine o_val rfl rfl rfl (y_pick_t (v := (.bool _)) rfl rfl) ?_
                  refine o_val rfl rfl rfl (y_move (v := (.bool _)) rfl) ?_
                  refine o_guard_no rfl rfl rfl rfl rfl ?_
                  refine o_guard_no rfl rfl rfl rfl rfl ?_
                  refine o_guard_no rfl rfl rfl rfl rfl ?_
                  refine o_val rfl rfl rfl (y_pick_t (v := (.bool _)) rfl rfl) ?_
                  refine o_val rfl rfl rfl (y_move (v := (.bool _)) rfl) ?_
                  refine o_guard_no rfl rfl rfl rfl rfl ?_
                  refine o_guard_no rfl rfl rfl rfl rfl ?_
                  refine o_guard_no rfl rfl rfl rfl rfl ?_
                  refine o_val rfl rfl rfl (y_pick_t (v := (.bool _)) rfl rfl) ?_
                  refine o_val rfl rfl rfl (y_assign (v := (.bool _)) rfl) ?_
                  refine o_nil ?_
                  refine s_then rfl ?_
                  refine s_region ?_
                  refine o_val rfl rfl rfl (y_assign (v := (.int _ _)) rfl) ?_
                  refine o_nil ?_
                  exact ⟨1, (by unfold sendErr; first | rw [if_pos (by omega)] | rw [if_neg (by omega), if_pos (by omega)] | rw [if_neg (by omega), if_neg (by omega), if_neg (by omega)]), ⟨rfl, rfl, rfl, rfl, rfl, rfl, rfl, rfl, rfl, rfl, rfl, rfl, trivial⟩, sub_front ⟨_, rfl⟩⟩
                · refine o_val rfl rfl rfl (y_move (v := (.bool _)) rfl) ?_
                  refine o_guard_yes rfl rfl ?_
                  refine o_val rfl rfl rfl (y_move (v := (.int _ _)) rfl) ?_
                  refine o_guard_yes rfl rfl ?_
                  refine o_val rfl rfl rfl (y_move (v := (.int _ _)) rfl) ?_
                  refine o_guard_yes rfl rfl ?_
                  refine o_split rfl rfl rfl (y_geq rfl rfl) (fun p23 => ?_) (fun p24 => ?_)
                  · refine o_val rfl rfl rfl (y_pick_f (v := (.bool _)) rfl rfl) ?_
                    refine o_val rfl rfl rfl (y_move (v := (.bool _)) rfl) ?_
                    refine o_guard_no rfl rfl rfl rfl rfl ?_
                    refine o_guard_no rfl rfl rfl rfl rfl ?_
                    refine o_val rfl rfl rfl (y_pick_t (v := (.bool _)) rfl rfl) ?_
                    refine o_val rfl rfl rfl (y_move (v := (.bool _)) rfl) ?_
                    refine o_guard_no rfl rfl rfl rfl rfl ?_
                    refine o_guard_no rfl rfl rfl rfl rfl ?_
                    refine o_guard_no rfl rfl rfl rfl rfl ?_
                    refine o_val rfl rfl rfl (y_pick_t (v := (.bool _)) rfl rfl) ?_
                    refine o_val rfl rfl rfl (y_move (v := (.bool _)) rfl) ?_
                    refine o_guard_no rfl rfl rfl rfl rfl ?_
                    refine o_guard_no rfl rfl rfl rfl rfl ?_
                    refine o_guard_no rfl rfl rfl rfl rfl ?_
                    refine o_val rfl rfl rfl (y_pick_t (v := (.bool _)) rfl rfl) ?_
                    refine o_val rfl rfl rfl (y_assign (v := (.bool _)) rfl) ?_
                    refine o_nil ?_
                    refine s_then rfl ?_
                    refine s_region ?_
                    refine o_val rfl rfl rfl (y_assign (v := (.int _ _)) rfl) ?_
                    refine o_nil ?_
                    exact ⟨1, (by unfold sendErr; first | rw [if_pos (by omega)] | rw [if_neg (by omega), if_pos (by omega)] | rw [if_neg (by omega), if_neg (by omega), if_neg (by omega)]), ⟨rfl, rfl, rfl, rfl, rfl, rfl, rfl, rfl, rfl, rfl, rfl, rfl, trivial⟩, sub_front ⟨_, rfl⟩⟩
                  · refine o_val rfl rfl rfl (y_pick_f (v := (.bool _)) rfl rfl) ?_
                    refine o_val rfl rfl rfl (y_move (v := (.bool _)) rfl) ?_
                    refine o_guard_yes rfl rfl ?_
                    refine o_val rfl rfl rfl (y_move (v := (.int _ _)) rfl) ?_
                    refine o_guard_yes rfl rfl ?_
                    refine o_split rfl rfl rfl (y_lss rfl rfl) (fun p25 => ?_) (fun p26 => ?_)
                    · refine o_val rfl rfl rfl (y_pick_f (v := (.bool _)) rfl rfl) ?_
                      refine o_val rfl rfl rfl (y_move (v := (.bool _)) rfl) ?_
                      refine o_guard_no rfl rfl rfl rfl rfl ?_
                      refine o_guard_no rfl rfl rfl rfl rfl ?_
                      refine o_guard_no rfl rfl rfl rfl rfl ?_
                      refine o_val rfl rfl rfl (y_pick_t (v := (.bool _)) rfl rfl) ?_
                      refine o_val rfl rfl rfl (y_move (v := (.bool _)) rfl) ?_
                      refine o_guard_no rfl rfl rfl rfl rfl ?_
                      refine o_guard_no rfl rfl rfl rfl rfl ?_
                      refine o_guard_no rfl rfl rfl rfl rfl ?_
                      refine o_val rfl rfl rfl (y_pick_t (v := (.bool _)) rfl rfl) ?_
                      refine o_val rfl rfl rfl (y_assign (v := (.bool _)) rfl) ?_
                      refine o_nil ?_
                      refine s_then rfl ?_
                      refine s_region ?_
                      refine o_val rfl rfl rfl (y_assign (v := (.int _ _)) rfl) ?_
                      refine o_nil ?_
                      exact ⟨1, (by unfold sendErr; first | rw [if_pos (by omega)] | rw [if_neg (by omega), if_pos (by omega)] | rw [if_neg (by omega), if_neg (by omega), if_neg (by omega)]), ⟨rfl, rfl, rfl, rfl, rfl, rfl, rfl, rfl, rfl, rfl, rfl, rfl, trivial⟩, sub_front ⟨_, rfl⟩⟩
                    · refine o_val rfl rfl rfl (y_pick_f (v := (.bool _)) rfl rfl) ?_
                      refine o_val rfl rfl rfl (y_move (v := (.bool _)) rfl) ?_
                      refine o_guard_yes rfl rfl ?_
                      refine o_val rfl rfl rfl (y_move (v := (.int _ _)) rfl) ?_
                      refine o_guard_yes rfl rfl ?_
                      refine o_val rfl rfl rfl (y_move (v := (.int _ _)) rfl) ?_
                      refine o_guard_yes rfl rfl ?_
                      refine o_split rfl rfl rfl (y_geq rfl rfl) (fun p27 => ?_) (fun p28 => ?_)
                      · refine o_val rfl rfl rfl (y_pick_f (v := (.bool _)) rfl rfl) ?_
                        refine o_val rfl rfl rfl (y_move (v := (.bool _)) rfl) ?_
                        refine o_guard_no rfl rfl rfl rfl rfl ?_
                        refine o_guard_no rfl rfl rfl rfl rfl ?_
                        refine o_guard_no rfl rfl rfl rfl rfl ?_
                        refine o_val rfl rfl rfl (y_pick_t (v := (.bool _)) rfl rfl) ?_
                        refine o_val rfl rfl rfl (y_assign (v := (.bool _)) rfl) ?_
                        refine o_nil ?_
                        refine s_then rfl ?_
                        refine s_region ?_
                        refine o_val rfl rfl rfl (y_assign (v := (.int _ _)) rfl) ?_
                        refine o_nil ?_
                        exact ⟨1, (by unfold sendErr; first | rw [if_pos (by omega)] | rw [if_neg (by omega), if_pos (by omega)] | rw [if_neg (by omega), if_neg (by omega), if_neg (by omega)]), ⟨rfl, rfl, rfl, rfl, rfl, rfl, rfl, rfl, rfl, rfl, rfl, rfl, trivial⟩, sub_front ⟨_, rfl⟩⟩
                      · refine o_val rfl rfl rfl (y_pick_f (v := (.bool _)) rfl rfl) ?_
                        refine o_val rfl rfl rfl (y_move (v := (.bool _)) rfl) ?_
                        refine o_guard_yes rfl rfl ?_
                        refine o_val rfl rfl rfl (y_move (v := (.int _ _)) rfl) ?_
                        refine o_guard_yes rfl rfl ?_
                        refine o_val rfl rfl rfl (y_move (v := (.int _ _)) rfl) ?_
                        refine o_guard_yes rfl rfl ?_
                        refine o_val rfl rfl rfl (y_eql rfl rfl) ?_
                        refine o_val rfl rfl rfl (y_pick_f (v := (.bool _)) rfl rfl) ?_
                        refine o_val rfl rfl rfl (y_assign (v := (.bool _)) rfl) ?_
                        refine o_nil ?_
                        refine s_if rfl (fun h29 => ?_) (fun h30 => ?_)
                        · refine s_region ?_
                          refine o_val rfl rfl rfl (y_assign (v := (.int _ _)) rfl) ?_
                          refine o_nil ?_
                          exact ⟨1, (by unfold sendErr; first | rw [if_pos (by omega)] | rw [if_neg (by omega), if_pos (by omega)] | rw [if_neg (by omega), if_neg (by omega), if_neg (by omega)]), ⟨rfl, rfl, rfl, rfl, rfl, rfl, rfl, rfl, rfl, rfl, rfl, rfl, trivial⟩, sub_front ⟨_, rfl⟩⟩
                        · refine s_seq ?_
                          refine s_region ?_
                          refine o_val rfl rfl rfl (y_move (v := (.slice _ _ _)) rfl) ?_
                          refine o_val rfl rfl rfl (y_len Try.runUnderlying29 rfl) ?_
                          refine o_val rfl rfl rfl (y_gtr rfl rfl) ?_
                          refine o_val rfl rfl rfl (y_assign (v := (.bool _)) rfl) ?_
                          refine o_nil ?_
                          refine s_if rfl (fun h31 => ?_) (fun h32 => ?_)
                          · refine s_region ?_
                            refine o_val rfl rfl rfl (y_assign (v := (.int _ _)) rfl) ?_
                            refine o_nil ?_
                            exact ⟨2, (by unfold sendErr; first | rw [if_pos (by omega)] | rw [if_neg (by omega), if_pos (by omega)] | rw [if_neg (by omega), if_neg (by omega), if_neg (by omega)]), ⟨rfl, rfl, rfl, rfl, rfl, rfl, rfl, rfl, rfl, rfl, rfl, rfl, trivial⟩, sub_front ⟨_, rfl⟩⟩
                          · refine s_skip ?_
                            exact ⟨0, (by unfold sendErr; first | rw [if_pos (by omega)] | rw [if_neg (by omega), if_pos (by omega)] | rw [if_neg (by omega), if_neg (by omega), if_neg (by omega)]), ⟨rfl, rfl, rfl, rfl, rfl, rfl, rfl, rfl, rfl, rfl, rfl, rfl, trivial⟩, sub_front ⟨_, rfl⟩⟩
              · intro v _f hv
                refine s_seq ?_
                refine s_seq ?_
                refine s_region ?_
                refine o_val rfl rfl rfl (y_move (v := (.pointer _)) rfl) ?_
                refine o_val rfl rfl rfl (y_move (v := (.int _ _)) rfl) ?_
                refine o_val rfl rfl rfl (y_move (v := (.int _ _)) rfl) ?_
                refine o_val rfl rfl rfl (y_move (v := (.slice _ _ _)) rfl) ?_
                refine o_fn 4 (d := 112) rfl Try.call14 (SendN_c nb ends dA n dc g.step (g.ss.length : Nat) g.A g.fs.length g.c ds DG hod (by omega) hdk g.fs g.E hof (by omega) (by omega) (by omega) g.PG hfin (bAnd .i64 (acts.getD ((g.i : Nat) : Int).toNat 0) 15 - 1) (bAnd .i64 ((acts.getD ((g.i : Nat) : Int).toNat 0).fdiv (2 ^ min (4 : Int).toNat IntKind.i64.bits)) 15 - 1) dA' (bAnd .i64 ((acts.getD ((g.i : Nat) : Int).toNat 0).fdiv (2 ^ min (8 : Int).toNat IntKind.i64.bits)) 4095).toNat (bAnd .i64 ((acts.getD ((g.i : Nat) : Int).toNat 0).fdiv (2 ^ min (8 : Int).toNat IntKind.i64.bits)) 4095).toNat (List.replicate (bAnd .i64 ((acts.getD ((g.i : Nat) : Int).toNat 0).fdiv (2 ^ min (8 : Int).toNat IntKind.i64.bits)) 4095).toNat 0) (hdt.cels (j := 2) rfl).down (by simp) (by omega) (rep_bd _)) rfl ?_
                rintro _ _ (⟨hbad2, rfl, rfl⟩ | ⟨hgood2, rfl, sA, sn, sc, sE, gs, xs, PG', hput, hkey, hos', hin', rfl⟩)
                · have hlen2 := hnj.len
                  refine o_val rfl rfl rfl (y_move (v := (.int _ _)) rfl) ?_
                  refine o_val rfl rfl rfl (y_neq rfl rfl) ?_
                  refine o_nil ?_
                  refine s_if rfl (fun h33 => ?_) (fun h34 => ?_)
                  · exfalso; omega
                  · refine s_skip ?_
                    refine s_seq ?_
                    refine s_region ?_
                    refine o_val rfl rfl rfl (y_move (v := (.int _ _)) rfl) ?_
                    refine o_val rfl rfl rfl (y_eql rfl rfl) ?_
                    refine o_nil ?_
                    refine s_if rfl (fun h35 => ?_) (fun h36 => ?_)
                    · exfalso; omega
                    · refine s_skip ?_
                      refine s_seq ?_
                      refine s_region ?_
                      refine o_val rfl rfl rfl (y_move (v := (.pointer _)) rfl) ?_
                      refine o_fn 1 (d := 127) rfl Try.call16 (LeftN_c _ _ _ _ _ _ _ _ _ _) rfl ?_
                      rintro _ _ ⟨rfl, rfl⟩
                      refine o_val rfl rfl rfl (y_move (v := (.slice _ _ _)) rfl) ?_
                      refine o_val rfl rfl rfl (y_move (v := (.slice _ _ _)) rfl) ?_
                      refine o_val rfl rfl rfl (y_move (v := (.int _ _)) rfl) ?_
                      refine o_fn 0 (d := 131) rfl Try.call24 (Due_c N n c ds h.here.down hn (by omega) hdk g.M g.ss.length g.e g.ss (hos.cels (j := 4) rfl).down rfl (by omega) hsane _) rfl ?_
                      rintro _ _ ⟨rfl, rfl⟩
                      refine o_split rfl rfl rfl (y_neq rfl rfl) (fun p37 => ?_) (fun p38 => ?_)
                      · exfalso; omega
                      · refine o_val rfl rfl rfl (y_move (v := (.bool _)) rfl) ?_
                        refine o_guard_yes rfl rfl ?_
                        refine o_val rfl rfl rfl (y_move (v := (.pointer _)) rfl) ?_
                        refine o_guard_yes rfl rfl ?_
                        refine o_fn 1 (d := 135) rfl Try.call17 (SentN_c _ _ _ _ _ _ _ _ _ _) rfl ?_
                        rintro _ _ ⟨rfl, rfl⟩
                        refine o_guard_yes rfl rfl ?_
                        refine o_val rfl rfl rfl (y_move (v := (.slice _ _ _)) rfl) ?_
                        refine o_guard_yes rfl rfl ?_
                        refine o_val rfl rfl rfl (y_len Try.runUnderlying40 rfl) ?_
                        refine o_guard_yes rfl rfl ?_
                        refine o_val rfl rfl rfl (y_neq rfl rfl) ?_
                        refine o_val rfl rfl rfl (y_pick_f (v := (.bool _)) rfl rfl) ?_
                        refine o_nil ?_
                        refine s_if rfl (fun h39 => ?_) (fun h40 => ?_)
                        · exfalso; (try simp only [List.length_append, List.length_cons, List.length_nil] at *); omega
                        · refine s_skip ?_
                          refine s_region ?_
                          refine o_val rfl rfl rfl (y_add rfl rfl (by simp only [inK]; omega)) ?_
                          refine o_val rfl rfl rfl (y_move (v := (.int _ _)) rfl) ?_
                          refine o_nil ?_
                          exact ⟨NL.mk (g.i + 1) g.fs g.A g.c g.E g.PG g.ss g.M g.e g.SE g.SG g.step, (by first | omega | (dsimp only; omega)), ⟨by dsimp only; omega, hof, hfin, hos, hsin, hsane, hnj, by dsimp only; omega, by dsimp only; omega, by dsimp only; omega⟩, ⟨rfl, rfl, rfl, rfl, rfl, rfl, rfl, (congrArg (Value.int .i64) (by dsimp only; omega)), trivial⟩, (sub_picks [0, 0, 0, 0, 0, 0] rfl)⟩
                · have hln := sendErr_small hgood2
                  have hsn : sn = gs.length := by have := hos'.len; rw [flat_len encFl_len] at this; omega
                  subst hsn
                  have hnj2 := hnj.send hdk (⟨g.step, 0, (bAnd .i64 (acts.getD ((g.i : Nat) : Int).toNat 0) 15 - 1), (bAnd .i64 ((acts.getD ((g.i : Nat) : Int).toNat 0).fdiv (2 ^ min (4 : Int).toNat IntKind.i64.bits)) 15 - 1), dA', (bAnd .i64 ((acts.getD ((g.i : Nat) : Int).toNat 0).fdiv (2 ^ min (8 : Int).toNat IntKind.i64.bits)) 4095).toNat, (bAnd .i64 ((acts.getD ((g.i : Nat) : Int).toNat 0).fdiv (2 ^ min (8 : Int).toNat IntKind.i64.bits)) 4095).toNat, List.replicate (bAnd .i64 ((acts.getD ((g.i : Nat) : Int).toNat 0).fdiv (2 ^ min (8 : Int).toNat IntKind.i64.bits)) 4095).toNat 0⟩ : FL) rfl hput hkey
                  have hlen2 := hnj2.len
                  have hgl : gs.length = g.fs.length + xs.length := by have := (puts_facts (step := g.step) hput (fun x hx => times_late hdk _ (by rw [← key_due hkey]; exact List.mem_map_of_mem hx)) hnj.sorted hnj.late).2.2.2.length_eq; simpa using this
                  have hxl : xs.length ≤ 1001 := by have h1 := congrArg List.length (key_due hkey); have h2 := times_len (ds := ds) (num := (g.ss.length : Int)) (step := g.step); simp at h1; omega
                  refine o_val rfl rfl rfl (y_move (v := (.int _ _)) rfl) ?_
                  refine o_val rfl rfl rfl (y_neq rfl rfl) ?_
                  refine o_nil ?_
                  refine s_if rfl (fun h41 => ?_) (fun h42 => ?_)
                  · exfalso; omega
                  · refine s_skip ?_
                    refine s_seq ?_
                    refine s_region ?_
                    refine o_val rfl rfl rfl (y_move (v := (.int _ _)) rfl) ?_
                    refine o_val rfl rfl rfl (y_eql rfl rfl) ?_
                    refine o_nil ?_
                    refine s_if rfl (fun h43 => ?_) (fun h44 => ?_)
                    · refine s_region ?_
                      refine o_val rfl rfl rfl (y_move (v := (.slice _ _ _)) rfl) ?_
                      refine o_val rfl rfl rfl (y_move (v := (.int _ _)) rfl) ?_
                      refine o_val rfl rfl rfl (y_move (v := (.int _ _)) rfl) ?_
                      refine o_val rfl rfl rfl (y_move (v := (.int _ _)) rfl) ?_
                      refine o_val rfl rfl rfl (y_move (v := (.slice _ _ _)) rfl) ?_
                      refine o_val rfl rfl rfl (y_build (vs := [(0, .int _ _), (1, .int _ _), (2, .slice _ _ _)]) rfl (NetSays_k0 _ _ _ _ _)) ?_
                      refine o_val rfl rfl rfl (y_build (vs := [(0, .int _ _), (1, .agg #[.int _ _, .int _ _, .slice _ _ _])]) rfl (NetSays_k1 _ _ _ _ _ _)) ?_
                      refine o_lit (vs := [(0, .agg #[.int _ _, .int _ _, .int _ _, .slice _ _ _])]) rfl rfl (NetSays_k2 _ _ _ _ _ _) (fun b45 => ?_)
                      refine o_append (sz := 4) (bytes := 48) (news := [(.int _ _), (.int _ _), (.int _ _), (.slice _ _ _)]) 4 rfl Try.underlying40 Try.type47 rfl rfl rfl rfl rfl hos rfl rfl (Src.slice Try.underlying40 (cels_own 7 rfl rfl) rfl (by simp [Value.oneCell']) (by simp)) (by omega) (fun A46 c47 E48 ho49 hn50 => ?_)
                      have ho51 : OS A46 (g.ss.length + 1) c47 47 4 ((g.ss ++ [(⟨g.step, 0, (bAnd .i64 (acts.getD ((g.i : Nat) : Int).toNat 0) 15 - 1), (bAnd .i64 ((acts.getD ((g.i : Nat) : Int).toNat 0).fdiv (2 ^ min (4 : Int).toNat IntKind.i64.bits)) 15 - 1), dA', (bAnd .i64 ((acts.getD ((g.i : Nat) : Int).toNat 0).fdiv (2 ^ min (8 : Int).toNat IntKind.i64.bits)) 4095).toNat, (bAnd .i64 ((acts.getD ((g.i : Nat) : Int).toNat 0).fdiv (2 ^ min (8 : Int).toNat IntKind.i64.bits)) 4095).toNat, List.replicate (bAnd .i64 ((acts.getD ((g.i : Nat) : Int).toNat 0).fdiv (2 ^ min (8 : Int).toNat IntKind.i64.bits)) 4095).toNat 0⟩ : FL)]).flatMap encSt) E48 := os_eq ho49 (by rw [List.flatMap_append]; rfl)
                      clear ho49
                      refine o_val rfl rfl rfl (y_assign (v := (.slice _ _ _)) rfl) ?_
                      have hsin2 : ∀ f ∈ g.ss ++ [(⟨g.step, 0, (bAnd .i64 (acts.getD ((g.i : Nat) : Int).toNat 0) 15 - 1), (bAnd .i64 ((acts.getD ((g.i : Nat) : Int).toNat 0).fdiv (2 ^ min (4 : Int).toNat IntKind.i64.bits)) 15 - 1), dA', (bAnd .i64 ((acts.getD ((g.i : Nat) : Int).toNat 0).fdiv (2 ^ min (8 : Int).toNat IntKind.i64.bits)) 4095).toNat, (bAnd .i64 ((acts.getD ((g.i : Nat) : Int).toNat 0).fdiv (2 ^ min (8 : Int).toNat IntKind.i64.bits)) 4095).toNat, List.replicate (bAnd .i64 ((acts.getD ((g.i : Nat) : Int).toNat 0).fdiv (2 ^ min (8 : Int).toNat IntKind.i64.bits)) 4095).toNat 0⟩ : FL)], FlIn (dE ++ g.SG) f := flin_snoc hsin (FlIn.new hdt (by omega) (rep_bd _))
                      refine o_pull 5 ?_
                      refine o_pull 6 ?_
                      refine o_fuse ?_
                      refine o_nil ?_
                      refine s_norm [_, [(_, .cells [(.int _ _), (.slice _ _ _), (.int _ _), (.int _ _), (.slice _ _ _)].toArray 130 (0, 0))], _, _, _, _, [(_, .cells [(.int _ _), (.int _ _), (.int _ _), (.slice _ _ _)].toArray 47 (0, 0))]] rfl ?_
                      refine s_seq ?_
                      refine s_region ?_
                      refine o_val rfl rfl rfl (y_move (v := (.pointer _)) rfl) ?_
                      refine o_pull 1 ?_
                      refine o_fn 1 (d := 127) rfl Try.call16 (LeftN_c _ _ _ _ _ _ _ _ _ _) rfl ?_
                      rintro _ _ ⟨rfl, rfl⟩
                      refine o_val rfl rfl rfl (y_move (v := (.slice _ _ _)) rfl) ?_
                      refine o_val rfl rfl rfl (y_move (v := (.slice _ _ _)) rfl) ?_
                      refine o_val rfl rfl rfl (y_move (v := (.int _ _)) rfl) ?_
                      refine o_fn 0 (d := 131) rfl Try.call24 (Due_c N n c ds h.here.down hn (by omega) hdk A46 (g.ss.length + 1) c47 (g.ss ++ [(⟨g.step, 0, (bAnd .i64 (acts.getD ((g.i : Nat) : Int).toNat 0) 15 - 1), (bAnd .i64 ((acts.getD ((g.i : Nat) : Int).toNat 0).fdiv (2 ^ min (4 : Int).toNat IntKind.i64.bits)) 15 - 1), dA', (bAnd .i64 ((acts.getD ((g.i : Nat) : Int).toNat 0).fdiv (2 ^ min (8 : Int).toNat IntKind.i64.bits)) 4095).toNat, (bAnd .i64 ((acts.getD ((g.i : Nat) : Int).toNat 0).fdiv (2 ^ min (8 : Int).toNat IntKind.i64.bits)) 4095).toNat, List.replicate (bAnd .i64 ((acts.getD ((g.i : Nat) : Int).toNat 0).fdiv (2 ^ min (8 : Int).toNat IntKind.i64.bits)) 4095).toNat 0⟩ : FL)]) (ho51.cels (j := 5) rfl).down (by simp) (by omega) (sane_snoc hsane (by unfold FL.sane; dsimp only; omega)) _) rfl ?_
                      rintro _ _ ⟨rfl, rfl⟩
                      refine o_split rfl rfl rfl (y_neq rfl rfl) (fun p52 => ?_) (fun p53 => ?_)
                      · exfalso; omega
                      · refine o_val rfl rfl rfl (y_move (v := (.bool _)) rfl) ?_
                        refine o_guard_yes rfl rfl ?_
                        refine o_val rfl rfl rfl (y_move (v := (.pointer _)) rfl) ?_
                        refine o_guard_yes rfl rfl ?_
                        refine o_fn 1 (d := 135) rfl Try.call17 (SentN_c _ _ _ _ _ _ _ _ _ _) rfl ?_
                        rintro _ _ ⟨rfl, rfl⟩
                        refine o_guard_yes rfl rfl ?_
                        refine o_val rfl rfl rfl (y_move (v := (.slice _ _ _)) rfl) ?_
                        refine o_guard_yes rfl rfl ?_
                        refine o_val rfl rfl rfl (y_len Try.runUnderlying40 rfl) ?_
                        refine o_guard_yes rfl rfl ?_
                        refine o_val rfl rfl rfl (y_neq rfl rfl) ?_
                        refine o_val rfl rfl rfl (y_pick_f (v := (.bool _)) rfl rfl) ?_
                        refine o_nil ?_
                        refine s_if rfl (fun h54 => ?_) (fun h55 => ?_)
                        · exfalso; (try simp only [List.length_append, List.length_cons, List.length_nil] at *); omega
                        · refine s_skip ?_
                          refine s_region ?_
                          refine o_val rfl rfl rfl (y_add rfl rfl (by simp only [inK]; omega)) ?_
                          refine o_val rfl rfl rfl (y_move (v := (.int _ _)) rfl) ?_
                          refine o_nil ?_
                          exact ⟨NL.mk (g.i + 1) gs sA sc sE PG' (g.ss ++ [(⟨g.step, 0, (bAnd .i64 (acts.getD ((g.i : Nat) : Int).toNat 0) 15 - 1), (bAnd .i64 ((acts.getD ((g.i : Nat) : Int).toNat 0).fdiv (2 ^ min (4 : Int).toNat IntKind.i64.bits)) 15 - 1), dA', (bAnd .i64 ((acts.getD ((g.i : Nat) : Int).toNat 0).fdiv (2 ^ min (8 : Int).toNat IntKind.i64.bits)) 4095).toNat, (bAnd .i64 ((acts.getD ((g.i : Nat) : Int).toNat 0).fdiv (2 ^ min (8 : Int).toNat IntKind.i64.bits)) 4095).toNat, List.replicate (bAnd .i64 ((acts.getD ((g.i : Nat) : Int).toNat 0).fdiv (2 ^ min (8 : Int).toNat IntKind.i64.bits)) 4095).toNat 0⟩ : FL)]) A46 c47 E48 (dE ++ g.SG) g.step, (by first | omega | (dsimp only; omega)), ⟨by dsimp only; omega, hos', hin', by dsimp only; rw [List.length_append]; exact ho51, hsin2, sane_snoc hsane (by unfold FL.sane; dsimp only; omega), hnj2, by dsimp only; omega, by dsimp only; simp; omega, by dsimp only; omega⟩, ⟨rfl, rfl, rfl, (by dsimp only; rw [List.length_append]; rfl), rfl, rfl, rfl, (congrArg (Value.int .i64) (by dsimp only; omega)), trivial⟩, (by dsimp only; rw [List.length_append]; exact sub_picks [0, 1, 1, 1, 1, 0] rfl)⟩
                    · exfalso; omega
          · refine s_exit ?_
            refine s_seq ?_
            refine s_region ?_
            refine o_val rfl rfl rfl (y_assign (v := (.bool _)) rfl) ?_
            refine o_nil ?_
            refine s_ret ?_
            exact ⟨_, [], res1 rfl rfl, ⟨rfl, rfl⟩, sub_picks [] rfl⟩

end Go.Proofs.Ytdgmocibjjkghaa.K

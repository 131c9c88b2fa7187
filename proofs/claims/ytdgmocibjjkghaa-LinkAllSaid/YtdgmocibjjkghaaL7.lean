/- Walks: packets of the reference. No condition beyond what each statement names. -/
import Derived.Test.YtdgmocibjjkghaaProg
import Derived.Test.YtdgmocibjjkghaaK14
import Derived.Test.YtdgmocibjjkghaaB9
import Derived.Test.YtdgmocibjjkghaaN1
import Derived.Test.YtdgmocibjjkghaaN3
import Derived.Test.YtdgmocibjjkghaaN4
import Derived.Test.YtdgmocibjjkghaaL1
import Derived.Test.YtdgmocibjjkghaaL2
import Derived.Test.YtdgmocibjjkghaaL3
import Derived.Test.YtdgmocibjjkghaaL4
import Derived.Test.YtdgmocibjjkghaaL5
import Derived.Test.YtdgmocibjjkghaaL6
set_option linter.unusedVariables false
set_option linter.unusedSimpArgs false
set_option maxRecDepth 100000
namespace Go.Proofs.Ytdgmocibjjkghaa.K
open Go.RowKit

theorem three {α : Type} {p : α → Prop} {a b c : α} (h1 : p a) (h2 : p b) (h3 : p c) : ∀ f ∈ [a, b, c], p f := by
  intro f hf
  simp only [List.mem_cons, List.not_mem_nil, or_false] at hf
  rcases hf with rfl | rfl | rfl
  · exact h1
  · exact h2
  · exact h3
theorem blok_os {A : Option Addr} {n c : Nat} {T : TypeId} {bs : List Int} {E : Grp} (h : OS A n c T 1 (bs.map (.int .u8)) E) {V : Mem} {L : List Grp} {j : Nat} (hj : nth L j = some E) : BlOK (ext V L) .u8 (fl A n c bs) := ⟨by have := h.len; simpa [fl] using this, h.2.1, (h.cels (j := j) hj).down⟩
theorem blok_in {PG : Grp} {f : FL} (h : BlIn PG f) {V : Mem} {L : List Grp} {j : Nat} (hj : nth L j = some PG) : BlOK (ext V L) .u8 f := ⟨h.1, h.2.1, (h.cels hj).down⟩
theorem cat3 (a b c : FL) : cat [a, b, c] = a.bs ++ b.bs ++ c.bs := by simp [cat]

theorem Big8_c {V : Mem} (x : Int) (hx : 0 ≤ x ∧ x ≤ 18446744073709551615) : CallS Try.prog 77 [.int .u64 x, .int .i64 8].toArray V [] (fun r L' => ∃ (B : Option Addr) (e : Nat) (E : Grp), r = .slice B 8 e ∧ OS B 8 e 5 1 ((be 8 x.toNat).map (.int .u8)) E ∧ L' = [E]) := by
  have h := Big_c (V := V) x.toNat 8 (by omega) (by decide)
  rwa [Int.toNat_of_nonneg hx.1] at h

theorem PacketH_k0 (v0 : Int) (w : World) : (Instr.buildSlice 29 1 ([(0, (.int .u8 v0))] : List (Nat × Value)).toArray).run Try.prog w = .ok (.slice (some ⟨w.heap.size, 0, none⟩) 1 1) { w with heap := w.heap.push (.cells ([.int .u8 v0] : List Value).toArray 5 (0, 0)) } := by kernel_rfl
theorem PacketH_k1 (v0A : Option Addr) (v0n : Nat) (v0c : Nat) (v1A : Option Addr) (v1n : Nat) (v1c : Nat) (v2A : Option Addr) (v2n : Nat) (v2c : Nat) (w : World) : (Instr.buildSlice 60 3 ([(0, (.slice v0A v0n v0c)), (1, (.slice v1A v1n v1c)), (2, (.slice v2A v2n v2c))] : List (Nat × Value)).toArray).run Try.prog w = .ok (.slice (some ⟨w.heap.size, 0, none⟩) 3 3) { w with heap := w.heap.push (.cells ([.slice v0A v0n v0c, .slice v1A v1n v1c, .slice v2A v2n v2c] : List Value).toArray 29 (0, 0)) } := by kernel_rfl
theorem PacketH_c {V : Mem} (b : Nat) (sA : Option Addr) (sn sc : Nat) (acked came : Nat) (nA : Option Addr) (nn nc : Nat) (ss : List FL) (SG PG : Grp) (hos : OS sA sn sc 29 1 ((ss).flatMap encB) SG) (hin : ∀ f ∈ ss, BlIn PG f) (hf : acked ≤ sn ∧ sn ≤ 1000000 ∧ came ≤ 1000000) : CallS Try.prog 32 [.pointer (some ⟨b, 0, none⟩)].toArray V [halfg b sA sn sc acked came nA nn nc, SG, PG] (fun r L' => ∃ (B : Option Addr) (c : Nat) (E : Grp), r = .slice B (pktOf came acked ((ss.drop acked).map (·.bs))).length c ∧ OS B (pktOf came acked ((ss.drop acked).map (·.bs))).length c 5 1 (((pktOf came acked ((ss.drop acked).map (·.bs)))).map (.int .u8)) E ∧ L' = [halfg b sA sn sc acked came nA nn nc, SG, PG, E]) := by
  have hsl := osl_len hos
  have hos2 := os_fromB hos (k := acked) (by omega)
  have hdl : (ss.drop acked).length = sn - acked := by rw [List.length_drop, hsl]
  have hin2 : ∀ f ∈ ss.drop acked, BlIn PG f := fun f hf => hin f (List.mem_of_mem_drop hf)
  refine callS Try.func32 rfl rfl (fun w0 => ?_)
  refine s_seq ?_
  refine s_region ?_
  refine o_val rfl rfl rfl (y_assign (v := (.slice _ _ _)) rfl) ?_
  refine o_nil ?_
  refine s_seq ?_
  refine s_quiet (by kernel_rfl) (by kernel_rfl) ?_
  refine q_val rfl rfl rfl (y_move (v := (.pointer _)) rfl) ?_
  refine q_val rfl rfl rfl (y_nilCheck rfl) ?_
  refine q_val rfl rfl rfl (y_field0 Try.runUnderlying62 rfl Try.sizeOf60 rfl rfl) ?_
  refine q_val rfl rfl rfl (y_load Try.isAgg60 rfl (cel_own 0 rfl rfl)) ?_
  refine q_val rfl rfl rfl (y_move (v := (.pointer _)) rfl) ?_
  refine q_val rfl rfl rfl (y_nilCheck rfl) ?_
  refine q_val rfl rfl rfl (y_field0 Try.runUnderlying62 rfl Try.sizeOf3 rfl rfl) ?_
  refine q_val rfl rfl rfl (y_load Try.isAgg3 rfl (cel_own 0 rfl rfl)) ?_
  refine q_val rfl rfl rfl (y_cut_lo Try.runUnderlying60 Try.sizeOf29 rfl rfl (by omega)) ?_
  refine q_val rfl rfl rfl (y_assign (v := (.slice _ _ _)) rfl) ?_
  refine q_nil ?_
  refine s_seq ?_
  refine s_seq ?_
  refine s_region ?_
  refine o_val rfl rfl rfl (y_move (v := (.slice _ _ _)) rfl) ?_
  refine o_val rfl rfl rfl (y_len Try.runUnderlying60 rfl) ?_
  refine o_val rfl rfl rfl (y_gtr rfl rfl) ?_
  refine o_nil ?_
  refine s_forget [(0, (.pointer _)), (2, (.slice _ _ _)), (3, (.slice _ _ _)), (18, (.bool _))] ⟨rfl, rfl, rfl, rfl, trivial⟩ (fun _f => ?_)
  refine s_if rfl (fun h1 => ?_) (fun h2 => ?_)
  · refine s_region ?_
    refine o_val rfl rfl rfl (y_move (v := (.slice _ _ _)) rfl) ?_
    refine o_val rfl rfl rfl (y_cut_hi Try.runUnderlying60 Try.sizeOf29 rfl rfl (by have := hos2.2.1; omega)) ?_
    refine o_val rfl rfl rfl (y_assign (v := (.slice _ _ _)) rfl) ?_
    refine o_nil ?_
    refine s_seq ?_
    refine s_drawn 0 (by kernel_rfl) ?_
    refine d_val (i := 0) rfl (by kernel_rfl) (by kernel_rfl) (by kernel_rfl) rfl rfl rfl (y_move (v := (.pointer _)) rfl) ?_
    refine d_val (i := 1) rfl (by kernel_rfl) (by kernel_rfl) (by kernel_rfl) rfl rfl rfl (y_nilCheck rfl) ?_
    refine d_val (i := 2) rfl (by kernel_rfl) (by kernel_rfl) (by kernel_rfl) rfl rfl rfl (y_field0 Try.runUnderlying62 rfl Try.sizeOf3 rfl rfl) ?_
    refine d_val (i := 3) rfl (by kernel_rfl) (by kernel_rfl) (by kernel_rfl) rfl rfl rfl (y_load Try.isAgg3 rfl (cel_own 0 rfl rfl)) ?_
    refine d_val (i := 4) rfl (by kernel_rfl) (by kernel_rfl) (by kernel_rfl) rfl rfl rfl (y_conv Try.runUnderlying3 Try.runUnderlying89 rfl (by simp only [inK]; omega)) ?_
    refine d_val (i := 6) rfl (by kernel_rfl) (by kernel_rfl) (by kernel_rfl) rfl rfl rfl (y_move (v := (.pointer _)) rfl) ?_
    refine d_val (i := 7) rfl (by kernel_rfl) (by kernel_rfl) (by kernel_rfl) rfl rfl rfl (y_nilCheck rfl) ?_
    refine d_val (i := 8) rfl (by kernel_rfl) (by kernel_rfl) (by kernel_rfl) rfl rfl rfl (y_field0 Try.runUnderlying62 rfl Try.sizeOf3 rfl rfl) ?_
    refine d_val (i := 9) rfl (by kernel_rfl) (by kernel_rfl) (by kernel_rfl) rfl rfl rfl (y_load Try.isAgg3 rfl (cel_own 0 rfl rfl)) ?_
    refine d_val (i := 10) rfl (by kernel_rfl) (by kernel_rfl) (by kernel_rfl) rfl rfl rfl (y_conv Try.runUnderlying3 Try.runUnderlying89 rfl (by simp only [inK]; omega)) ?_
    refine d_val (i := 12) rfl (by kernel_rfl) (by kernel_rfl) (by kernel_rfl) rfl rfl rfl (y_move (v := (.slice _ _ _)) rfl) ?_
    refine d_val (i := 13) rfl (by kernel_rfl) (by kernel_rfl) (by kernel_rfl) rfl rfl rfl (y_len Try.runUnderlying60 rfl) ?_
    refine d_val (i := 14) rfl (by kernel_rfl) (by kernel_rfl) (by kernel_rfl) rfl rfl rfl (y_conv Try.runUnderlying3 Try.runUnderlying5 rfl (by simp only [inK]; omega)) ?_
    refine d_eff2 (k := 5) (k' := 15) (n := 0) (m := 3) rfl rfl (by kernel_rfl) rfl ?_ ?_
    · refine o_fn 0 (d := 26) rfl Try.call77 (Big_c came 4 (by omega) (by decide)) rfl ?_
      rintro _ _ ⟨b1A, b1e, b1E, rfl, b1o, rfl⟩
      refine o_nil ?_
      refine d_eff2 (k := 11) (k' := 15) (n := 1) (m := 3) rfl rfl (by kernel_rfl) rfl ?_ ?_
      · refine o_fn 0 (d := 32) rfl Try.call77 (Big_c acked 4 (by omega) (by decide)) rfl ?_
        rintro _ _ ⟨b2A, b2e, b2E, rfl, b2o, rfl⟩
        refine o_nil ?_
        refine d_eff (k := 15) (n := 2) (m := 3) rfl (by kernel_rfl) rfl ?_
        refine o_lit (vs := [(0, .int _ _)]) rfl rfl (PacketH_k0 _) (fun b3 => ?_)
        refine o_nil ?_
        refine d_eff (k := 16) (n := 2) (m := 3) rfl (by kernel_rfl) rfl ?_
        refine o_lit (vs := [(0, .slice _ _ _), (1, .slice _ _ _), (2, .slice _ _ _)]) rfl rfl (PacketH_k1 _ _ _ _ _ _ _ _ _) (fun b4 => ?_)
        refine o_nil ?_
        refine d_eff (k := 17) (n := 2) (m := 3) rfl (by kernel_rfl) rfl ?_
        refine o_fn 0 (d := 38) rfl Try.call76 (ConcatB_c _ 3 3 [fl b1A 4 b1e (be 4 came), fl b2A 4 b2e (be 4 acked), fl (some ⟨b3, 0, none⟩) 1 1 [((8 : Nat) : Int)]] (cels_own 6 rfl rfl).down rfl (by decide) (three (blok_os b1o (j := 1) rfl) (blok_os b2o (j := 0) rfl) ⟨rfl, Nat.le_refl _, (cels_own 5 rfl rfl).down⟩) (by rw [cat3]; simp only [fl, List.length_append, be_len, List.length_singleton]; omega)) rfl ?_
        rintro _ _ ⟨cA, cc, cE, rfl, hco, rfl⟩
        have hcat : cat [fl b1A 4 b1e (be 4 came), fl b2A 4 b2e (be 4 acked), fl (some ⟨b3, 0, none⟩) 1 1 [((8 : Nat) : Int)]] = (be 4 came ++ be 4 acked ++ [((min ((ss.drop acked).map (·.bs)).length 8 : Nat) : Int)]) := by
          rw [cat3]
          simp only [fl]
          rw [show ((8 : Nat) : Int) = ((min ((ss.drop acked).map (·.bs)).length 8 : Nat) : Int) by rw [List.length_map, List.length_drop]; omega]
        rw [hcat] at hco ⊢
        refine o_nil ?_
        refine d_val (i := 18) rfl (by kernel_rfl) (by kernel_rfl) (by kernel_rfl) rfl rfl rfl (y_assign (v := (.slice _ _ _)) rfl) ?_
        refine d_nil (n := 3) (m := 3) (by kernel_rfl) rfl ?_
        refine s_forget [(2, (.slice _ _ _)), (3, (.slice _ _ _)), (4, (.slice _ _ _))] ⟨rfl, rfl, rfl, trivial⟩ (fun _f => ?_)
        refine s_seq ?_
        refine s_seq ?_
        refine s_region ?_
        refine o_val rfl rfl rfl (y_move (v := (.slice _ _ _)) rfl) ?_
        refine o_val rfl rfl rfl (y_len Try.runUnderlying60 rfl) ?_
        refine o_val rfl rfl rfl (y_move (v := (.int _ _)) rfl) ?_
        refine o_nil ?_
        refine s_block ?_
        refine s_sub_picks [3, 3, 3, 0] rfl ?_
        refine s_loop (γ := OL) (fun u => [(4, .slice u.A u.bs.length u.c), (39, .slice (cutA sA sc acked 1) 8 (sc - acked)), (40, .int .i64 ((8 : Nat) : Int)), (41, .int .i64 u.i)]) (fun u => [halfg b sA sn sc acked came nA nn nc, SG, PG, u.E]) (fun u => u.i ≤ 8 ∧ u.bs = (be 4 came ++ be 4 acked ++ [((min ((ss.drop acked).map (·.bs)).length 8 : Nat) : Int)]) ++ (((ss.drop acked).map (·.bs)).take u.i).flatMap msgB ∧ OS u.A u.bs.length u.c 5 1 ((u.bs).map (.int .u8)) u.E) (fun u => 8 - u.i) (OL.mk 0 cA cc (be 4 came ++ be 4 acked ++ [((min ((ss.drop acked).map (·.bs)).length 8 : Nat) : Int)]) cE) ?_ ⟨rfl, rfl, rfl, rfl, trivial⟩ (sub_front ⟨_, rfl⟩) ?_
        · exact ⟨Nat.zero_le _, by simp, hco⟩
        · intro u _f hJ
          obtain ⟨hi, hbs, ho⟩ := hJ
          have hbd := flat_bd (bl_bd hin2).1 u.i
          have hul := congrArg List.length hbs
          simp only [List.length_append, be_len, List.length_singleton] at hul
          have hi8 : u.i ≤ 8 := by omega
          have hbd8 : u.i * (65535 + 2) ≤ 8 * (65535 + 2) := Nat.mul_le_mul_right _ hi8
          refine s_seq ?_
          refine s_region ?_
          refine o_val rfl rfl rfl (y_lss rfl rfl) ?_
          refine o_nil ?_
          refine s_seq ?_
          refine s_if rfl (fun h5 => ?_) (fun h6 => ?_)
          · refine s_skip ?_
            refine s_seq ?_
            refine s_block ?_
            refine s_seq ?_
            refine s_region ?_
            refine o_val rfl rfl rfl (y_index1 Try.runUnderlying60 Try.sizeOf29 (hos2.some_of (by omega)) rfl rfl (by omega)) ?_
            refine o_val rfl rfl rfl (y_load Try.isAgg29 rfl (cel_B (hos2.cels (j := 1) rfl) (by omega))) ?_
            refine o_val rfl rfl rfl (y_assign (v := (.slice _ _ _)) rfl) ?_
            refine o_nil ?_
            refine s_region ?_
            have hmm := getD_memF (ss := ss.drop acked) (k := u.i) (by omega)
            have hmn : ((ss.drop acked).getD ((u.i : Nat) : Int).toNat default).bs.length = ((ss.drop acked).getD ((u.i : Nat) : Int).toNat default).n := (hin2 _ hmm).1
            have hm65 : ((ss.drop acked).getD ((u.i : Nat) : Int).toNat default).n ≤ 65535 := (hin2 _ hmm).2.2.1
            refine o_val rfl rfl rfl (y_move (v := (.slice _ _ _)) rfl) ?_
            refine o_val rfl rfl rfl (y_move (v := (.slice _ _ _)) rfl) ?_
            refine o_val rfl rfl rfl (y_len Try.runUnderlying29 rfl) ?_
            refine o_val rfl rfl rfl (y_conv Try.runUnderlying3 Try.runUnderlying89 rfl (by simp only [inK]; omega)) ?_
            refine o_fn 0 (d := 49) rfl Try.call77 (Big_c ((ss.drop acked).getD ((u.i : Nat) : Int).toNat default).n 2 (by omega) (by decide)) rfl ?_
            rintro _ _ ⟨b2A, b2e, b2E, rfl, b2o, rfl⟩
            refine o_val rfl rfl rfl (y_move (v := (.slice _ _ _)) rfl) ?_
            refine o_lit (vs := [(0, .slice _ _ _), (1, .slice _ _ _), (2, .slice _ _ _)]) rfl rfl (PacketH_k1 _ _ _ _ _ _ _ _ _) (fun b7 => ?_)
            refine o_fn 0 (d := 52) rfl Try.call76 (ConcatB_c _ 3 3 [fl u.A u.bs.length u.c u.bs, fl b2A 2 b2e (be 2 ((ss.drop acked).getD ((u.i : Nat) : Int).toNat default).n), ((ss.drop acked).getD ((u.i : Nat) : Int).toNat default)] (cels_own 5 rfl rfl).down rfl (by decide) (three (blok_os ho (j := 4) rfl) (blok_os b2o (j := 0) rfl) (blok_in (hin2 _ hmm) (j := 3) rfl)) (by rw [cat3]; simp only [fl, List.length_append, be_len]; omega)) rfl ?_
            rintro _ _ ⟨cA, cc, cE, rfl, hco, rfl⟩
            have hcat : cat [fl u.A u.bs.length u.c u.bs, fl b2A 2 b2e (be 2 ((ss.drop acked).getD ((u.i : Nat) : Int).toNat default).n), ((ss.drop acked).getD ((u.i : Nat) : Int).toNat default)] = u.bs ++ be 2 ((ss.drop acked).getD ((u.i : Nat) : Int).toNat default).n ++ ((ss.drop acked).getD ((u.i : Nat) : Int).toNat default).bs := by rw [cat3]; simp only [fl]
            rw [hcat] at hco ⊢
            refine o_val rfl rfl rfl (y_assign (v := (.slice _ _ _)) rfl) ?_
            refine o_nil ?_
            refine s_region ?_
            refine o_val rfl rfl rfl (y_add rfl rfl (by simp only [inK]; omega)) ?_
            refine o_val rfl rfl rfl (y_move (v := (.int _ _)) rfl) ?_
            refine o_nil ?_
            have hsn := flat_snoc (ms := ((ss.drop acked).map (·.bs))) (i := u.i) (by rw [List.length_map]; omega)
            rw [map_getD (by omega)] at hsn
            exact ⟨OL.mk (u.i + 1) cA cc (u.bs ++ be 2 ((ss.drop acked).getD ((u.i : Nat) : Int).toNat default).n ++ ((ss.drop acked).getD ((u.i : Nat) : Int).toNat default).bs) cE, (by first | omega | (dsimp only; omega)), ⟨by dsimp only; omega, (by dsimp only; rw [hsn, hbs, hmn]; simp only [List.append_assoc]), hco⟩, ⟨rfl, rfl, rfl, (congrArg (Value.int .i64) (by dsimp only; omega)), trivial⟩, (sub_picks [2, 2, 2, 0] rfl)⟩
          · refine s_exit ?_
            refine s_seq ?_
            refine s_region ?_
            refine o_val rfl rfl rfl (y_move (v := (.slice _ _ _)) rfl) ?_
            refine o_val rfl rfl rfl (y_move (v := (.slice _ _ _)) rfl) ?_
            have hby : ∀ b ∈ u.bs, 0 ≤ b ∧ b ≤ 255 := by
              have hb0 := body_byte (next := came) (first := acked) (bl_bd hin2).2
              unfold bodyF at hb0
              rw [hbs, take_same (l := ((ss.drop acked).map (·.bs))) (i := u.i) (by rw [List.length_map]; omega)]
              exact hb0
            refine o_fn 0 (d := 56) rfl Try.call75 (SumBytes_c u.A u.bs.length u.c u.bs ⟨rfl, ho.2.1, (ho.cels (j := 3) rfl).down, hby⟩ (by omega)) rfl ?_
            rintro _ _ ⟨rfl, rfl⟩
            have hs0 := sumB_in u.bs
            refine o_fn 0 (d := 57) rfl Try.call77 (Big8_c (sumB u.bs) hs0) rfl ?_
            rintro _ _ ⟨b3A, b3e, b3E, rfl, b3o, rfl⟩
            refine o_append (sz := 1) (bytes := 1) (news := _) 4 rfl Try.underlying29 Try.type5 rfl rfl rfl rfl rfl ho rfl rfl (Src.own (sz := 0) Try.underlying29 (j := 0) rfl b3o (one_int _ _)) (by omega) (fun A8 c9 E10 ho11 hn12 => ?_)
            have ho13 : OS A8 (u.bs.length + 8) c9 5 1 ((u.bs ++ be 8 (sumB u.bs).toNat).map (.int .u8)) E10 := (os_app_int ho11)
            clear ho11
            refine o_val rfl rfl rfl (y_assign (v := (.slice _ _ _)) rfl) ?_
            refine o_nil ?_
            refine s_norm [_, [(_, .cells [(.slice _ _ _), (.int _ _), (.int _ _), (.slice _ _ _)].toArray 62 (0, 0))], _, _, _] rfl ?_
            refine s_ret ?_
            have htk : ((ss.drop acked).map (·.bs)).take u.i = ((ss.drop acked).map (·.bs)).take 8 := take_same (by rw [List.length_map]; omega)
            rw [htk] at hbs
            have hub : u.bs = bodyF came acked ((ss.drop acked).map (·.bs)) := hbs
            have hfin : u.bs ++ be 8 (sumB u.bs).toNat = (pktOf came acked ((ss.drop acked).map (·.bs))) := by rw [hub]; rfl
            have hln : u.bs.length + 8 = (pktOf came acked ((ss.drop acked).map (·.bs))).length := by rw [← hfin, List.length_append, be_len]
            have hoz := ho13
            rw [hfin, hln] at hoz
            exact ⟨_, _, res1 rfl (congrArg (fun x : Nat => Value.slice A8 x c9) hln), ⟨_, _, _, rfl, hoz, rfl⟩, sub_picks [1, 1, 1, 1] rfl⟩
      · refine o_lit (vs := [(0, .int _ _)]) rfl rfl (PacketH_k0 _) (fun b14 => ?_)
        refine o_nil ?_
        refine d_eff (k := 11) (n := 1) (m := 3) rfl (by kernel_rfl) rfl ?_
        refine o_fn 0 (d := 32) rfl Try.call77 (Big_c acked 4 (by omega) (by decide)) rfl ?_
        rintro _ _ ⟨b2A, b2e, b2E, rfl, b2o, rfl⟩
        refine o_nil ?_
        refine d_eff (k := 16) (n := 2) (m := 3) rfl (by kernel_rfl) rfl ?_
        refine o_lit (vs := [(0, .slice _ _ _), (1, .slice _ _ _), (2, .slice _ _ _)]) rfl rfl (PacketH_k1 _ _ _ _ _ _ _ _ _) (fun b15 => ?_)
        refine o_nil ?_
        refine d_eff (k := 17) (n := 2) (m := 3) rfl (by kernel_rfl) rfl ?_
        refine o_fn 0 (d := 38) rfl Try.call76 (ConcatB_c _ 3 3 [fl b1A 4 b1e (be 4 came), fl b2A 4 b2e (be 4 acked), fl (some ⟨b14, 0, none⟩) 1 1 [((8 : Nat) : Int)]] (cels_own 6 rfl rfl).down rfl (by decide) (three (blok_os b1o (j := 1) rfl) (blok_os b2o (j := 0) rfl) ⟨rfl, Nat.le_refl _, (cels_own 5 rfl rfl).down⟩) (by rw [cat3]; simp only [fl, List.length_append, be_len, List.length_singleton]; omega)) rfl ?_
        rintro _ _ ⟨cA, cc, cE, rfl, hco, rfl⟩
        have hcat : cat [fl b1A 4 b1e (be 4 came), fl b2A 4 b2e (be 4 acked), fl (some ⟨b14, 0, none⟩) 1 1 [((8 : Nat) : Int)]] = (be 4 came ++ be 4 acked ++ [((min ((ss.drop acked).map (·.bs)).length 8 : Nat) : Int)]) := by
          rw [cat3]
          simp only [fl]
          rw [show ((8 : Nat) : Int) = ((min ((ss.drop acked).map (·.bs)).length 8 : Nat) : Int) by rw [List.length_map, List.length_drop]; omega]
        rw [hcat] at hco ⊢
        refine o_nil ?_
        refine d_val (i := 18) rfl (by kernel_rfl) (by kernel_rfl) (by kernel_rfl) rfl rfl rfl (y_assign (v := (.slice _ _ _)) rfl) ?_
        refine d_nil (n := 3) (m := 3) (by kernel_rfl) rfl ?_
        refine s_forget [(2, (.slice _ _ _)), (3, (.slice _ _ _)), (4, (.slice _ _ _))] ⟨rfl, rfl, rfl, trivial⟩ (fun _f => ?_)
        refine s_seq ?_
        refine s_seq ?_
        refine s_region ?_
        refine o_val rfl rfl rfl (y_move (v := (.slice _ _ _)) rfl) ?_
        refine o_val rfl rfl rfl (y_len Try.runUnderlying60 rfl) ?_
        refine o_val rfl rfl rfl (y_move (v := (.int _ _)) rfl) ?_
        refine o_nil ?_
        refine s_block ?_
        refine s_sub_picks [3, 3, 3, 0] rfl ?_
        refine s_loop (γ := OL) (fun u => [(4, .slice u.A u.bs.length u.c), (39, .slice (cutA sA sc acked 1) 8 (sc - acked)), (40, .int .i64 ((8 : Nat) : Int)), (41, .int .i64 u.i)]) (fun u => [halfg b sA sn sc acked came nA nn nc, SG, PG, u.E]) (fun u => u.i ≤ 8 ∧ u.bs = (be 4 came ++ be 4 acked ++ [((min ((ss.drop acked).map (·.bs)).length 8 : Nat) : Int)]) ++ (((ss.drop acked).map (·.bs)).take u.i).flatMap msgB ∧ OS u.A u.bs.length u.c 5 1 ((u.bs).map (.int .u8)) u.E) (fun u => 8 - u.i) (OL.mk 0 cA cc (be 4 came ++ be 4 acked ++ [((min ((ss.drop acked).map (·.bs)).length 8 : Nat) : Int)]) cE) ?_ ⟨rfl, rfl, rfl, rfl, trivial⟩ (sub_front ⟨_, rfl⟩) ?_
        · exact ⟨Nat.zero_le _, by simp, hco⟩
        · intro u _f hJ
          obtain ⟨hi, hbs, ho⟩ := hJ
          have hbd := flat_bd (bl_bd hin2).1 u.i
          have hul := congrArg List.length hbs
          simp only [List.length_append, be_len, List.length_singleton] at hul
          have hi8 : u.i ≤ 8 := by omega
          have hbd8 : u.i * (65535 + 2) ≤ 8 * (65535 + 2) := Nat.mul_le_mul_right _ hi8
          refine s_seq ?_
          refine s_region ?_
          refine o_val rfl rfl rfl (y_lss rfl rfl) ?_
          refine o_nil ?_
          refine s_seq ?_
          refine s_if rfl (fun h16 => ?_) (fun h17 => ?_)
          · refine s_skip ?_
            refine s_seq ?_
            refine s_block ?_
            refine s_seq ?_
            refine s_region ?_
            refine o_val rfl rfl rfl (y_index1 Try.runUnderlying60 Try.sizeOf29 (hos2.some_of (by omega)) rfl rfl (by omega)) ?_
            refine o_val rfl rfl rfl (y_load Try.isAgg29 rfl (cel_B (hos2.cels (j := 1) rfl) (by omega))) ?_
            refine o_val rfl rfl rfl (y_assign (v := (.slice _ _ _)) rfl) ?_
            refine o_nil ?_
            refine s_region ?_
            have hmm := getD_memF (ss := ss.drop acked) (k := u.i) (by omega)
            have hmn : ((ss.drop acked).getD ((u.i : Nat) : Int).toNat default).bs.length = ((ss.drop acked).getD ((u.i : Nat) : Int).toNat default).n := (hin2 _ hmm).1
            have hm65 : ((ss.drop acked).getD ((u.i : Nat) : Int).toNat default).n ≤ 65535 := (hin2 _ hmm).2.2.1
            refine o_val rfl rfl rfl (y_move (v := (.slice _ _ _)) rfl) ?_
            refine o_val rfl rfl rfl (y_move (v := (.slice _ _ _)) rfl) ?_
            refine o_val rfl rfl rfl (y_len Try.runUnderlying29 rfl) ?_
            refine o_val rfl rfl rfl (y_conv Try.runUnderlying3 Try.runUnderlying89 rfl (by simp only [inK]; omega)) ?_
            refine o_fn 0 (d := 49) rfl Try.call77 (Big_c ((ss.drop acked).getD ((u.i : Nat) : Int).toNat default).n 2 (by omega) (by decide)) rfl ?_
            rintro _ _ ⟨b2A, b2e, b2E, rfl, b2o, rfl⟩
            refine o_val rfl rfl rfl (y_move (v := (.slice _ _ _)) rfl) ?_
            refine o_lit (vs := [(0, .slice _ _ _), (1, .slice _ _ _), (2, .slice _ _ _)]) rfl rfl (PacketH_k1 _ _ _ _ _ _ _ _ _) (fun b18 => ?_)
            refine o_fn 0 (d := 52) rfl Try.call76 (ConcatB_c _ 3 3 [fl u.A u.bs.length u.c u.bs, fl b2A 2 b2e (be 2 ((ss.drop acked).getD ((u.i : Nat) : Int).toNat default).n), ((ss.drop acked).getD ((u.i : Nat) : Int).toNat default)] (cels_own 5 rfl rfl).down rfl (by decide) (three (blok_os ho (j := 4) rfl) (blok_os b2o (j := 0) rfl) (blok_in (hin2 _ hmm) (j := 3) rfl)) (by rw [cat3]; simp only [fl, List.length_append, be_len]; omega)) rfl ?_
            rintro _ _ ⟨cA, cc, cE, rfl, hco, rfl⟩
            have hcat : cat [fl u.A u.bs.length u.c u.bs, fl b2A 2 b2e (be 2 ((ss.drop acked).getD ((u.i : Nat) : Int).toNat default).n), ((ss.drop acked).getD ((u.i : Nat) : Int).toNat default)] = u.bs ++ be 2 ((ss.drop acked).getD ((u.i : Nat) : Int).toNat default).n ++ ((ss.drop acked).getD ((u.i : Nat) : Int).toNat default).bs := by rw [cat3]; simp only [fl]
            rw [hcat] at hco ⊢
            refine o_val rfl rfl rfl (y_assign (v := (.slice _ _ _)) rfl) ?_
            refine o_nil ?_
            refine s_region ?_
            refine o_val rfl rfl rfl (y_add rfl rfl (by simp only [inK]; omega)) ?_
            refine o_val rfl rfl rfl (y_move (v := (.int _ _)) rfl) ?_
            refine o_nil ?_
            have hsn := flat_snoc (ms := ((ss.drop acked).map (·.bs))) (i := u.i) (by rw [List.length_map]; omega)
            rw [map_getD (by omega)] at hsn
            exact ⟨OL.mk (u.i + 1) cA cc (u.bs ++ be 2 ((ss.drop acked).getD ((u.i : Nat) : Int).toNat default).n ++ ((ss.drop acked).getD ((u.i : Nat) : Int).toNat default).bs) cE, (by first | omega | (dsimp only; omega)), ⟨by dsimp only; omega, (by dsimp only; rw [hsn, hbs, hmn]; simp only [List.append_assoc]), hco⟩, ⟨rfl, rfl, rfl, (congrArg (Value.int .i64) (by dsimp only; omega)), trivial⟩, (sub_picks [2, 2, 2, 0] rfl)⟩
          · refine s_exit ?_
            refine s_seq ?_
            refine s_region ?_
            refine o_val rfl rfl rfl (y_move (v := (.slice _ _ _)) rfl) ?_
            refine o_val rfl rfl rfl (y_move (v := (.slice _ _ _)) rfl) ?_
            have hby : ∀ b ∈ u.bs, 0 ≤ b ∧ b ≤ 255 := by
              have hb0 := body_byte (next := came) (first := acked) (bl_bd hin2).2
              unfold bodyF at hb0
              rw [hbs, take_same (l := ((ss.drop acked).map (·.bs))) (i := u.i) (by rw [List.length_map]; omega)]
              exact hb0
            refine o_fn 0 (d := 56) rfl Try.call75 (SumBytes_c u.A u.bs.length u.c u.bs ⟨rfl, ho.2.1, (ho.cels (j := 3) rfl).down, hby⟩ (by omega)) rfl ?_
            rintro _ _ ⟨rfl, rfl⟩
            have hs0 := sumB_in u.bs
            refine o_fn 0 (d := 57) rfl Try.call77 (Big8_c (sumB u.bs) hs0) rfl ?_
            rintro _ _ ⟨b3A, b3e, b3E, rfl, b3o, rfl⟩
            refine o_append (sz := 1) (bytes := 1) (news := _) 4 rfl Try.underlying29 Try.type5 rfl rfl rfl rfl rfl ho rfl rfl (Src.own (sz := 0) Try.underlying29 (j := 0) rfl b3o (one_int _ _)) (by omega) (fun A19 c20 E21 ho22 hn23 => ?_)
            have ho24 : OS A19 (u.bs.length + 8) c20 5 1 ((u.bs ++ be 8 (sumB u.bs).toNat).map (.int .u8)) E21 := (os_app_int ho22)
            clear ho22
            refine o_val rfl rfl rfl (y_assign (v := (.slice _ _ _)) rfl) ?_
            refine o_nil ?_
            refine s_norm [_, [(_, .cells [(.slice _ _ _), (.int _ _), (.int _ _), (.slice _ _ _)].toArray 62 (0, 0))], _, _, _] rfl ?_
            refine s_ret ?_
            have htk : ((ss.drop acked).map (·.bs)).take u.i = ((ss.drop acked).map (·.bs)).take 8 := take_same (by rw [List.length_map]; omega)
            rw [htk] at hbs
            have hub : u.bs = bodyF came acked ((ss.drop acked).map (·.bs)) := hbs
            have hfin : u.bs ++ be 8 (sumB u.bs).toNat = (pktOf came acked ((ss.drop acked).map (·.bs))) := by rw [hub]; rfl
            have hln : u.bs.length + 8 = (pktOf came acked ((ss.drop acked).map (·.bs))).length := by rw [← hfin, List.length_append, be_len]
            have hoz := ho24
            rw [hfin, hln] at hoz
            exact ⟨_, _, res1 rfl (congrArg (fun x : Nat => Value.slice A19 x c20) hln), ⟨_, _, _, rfl, hoz, rfl⟩, sub_picks [1, 1, 1, 1] rfl⟩
    · refine o_lit (vs := [(0, .int _ _)]) rfl rfl (PacketH_k0 _) (fun b25 => ?_)
      refine o_nil ?_
      refine d_eff (k := 5) (n := 0) (m := 3) rfl (by kernel_rfl) rfl ?_
      refine o_fn 0 (d := 26) rfl Try.call77 (Big_c came 4 (by omega) (by decide)) rfl ?_
      rintro _ _ ⟨b1A, b1e, b1E, rfl, b1o, rfl⟩
      refine o_nil ?_
      refine d_eff (k := 11) (n := 1) (m := 3) rfl (by kernel_rfl) rfl ?_
      refine o_fn 0 (d := 32) rfl Try.call77 (Big_c acked 4 (by omega) (by decide)) rfl ?_
      rintro _ _ ⟨b2A, b2e, b2E, rfl, b2o, rfl⟩
      refine o_nil ?_
      refine d_eff (k := 16) (n := 2) (m := 3) rfl (by kernel_rfl) rfl ?_
      refine o_lit (vs := [(0, .slice _ _ _), (1, .slice _ _ _), (2, .slice _ _ _)]) rfl rfl (PacketH_k1 _ _ _ _ _ _ _ _ _) (fun b26 => ?_)
      refine o_nil ?_
      refine d_eff (k := 17) (n := 2) (m := 3) rfl (by kernel_rfl) rfl ?_
      refine o_fn 0 (d := 38) rfl Try.call76 (ConcatB_c _ 3 3 [fl b1A 4 b1e (be 4 came), fl b2A 4 b2e (be 4 acked), fl (some ⟨b25, 0, none⟩) 1 1 [((8 : Nat) : Int)]] (cels_own 6 rfl rfl).down rfl (by decide) (three (blok_os b1o (j := 1) rfl) (blok_os b2o (j := 0) rfl) ⟨rfl, Nat.le_refl _, (cels_own 5 rfl rfl).down⟩) (by rw [cat3]; simp only [fl, List.length_append, be_len, List.length_singleton]; omega)) rfl ?_
      rintro _ _ ⟨cA, cc, cE, rfl, hco, rfl⟩
      have hcat : cat [fl b1A 4 b1e (be 4 came), fl b2A 4 b2e (be 4 acked), fl (some ⟨b25, 0, none⟩) 1 1 [((8 : Nat) : Int)]] = (be 4 came ++ be 4 acked ++ [((min ((ss.drop acked).map (·.bs)).length 8 : Nat) : Int)]) := by
        rw [cat3]
        simp only [fl]
        rw [show ((8 : Nat) : Int) = ((min ((ss.drop acked).map (·.bs)).length 8 : Nat) : Int) by rw [List.length_map, List.length_drop]; omega]
      rw [hcat] at hco ⊢
      refine o_nil ?_
      refine d_val (i := 18) rfl (by kernel_rfl) (by kernel_rfl) (by kernel_rfl) rfl rfl rfl (y_assign (v := (.slice _ _ _)) rfl) ?_
      refine d_nil (n := 3) (m := 3) (by kernel_rfl) rfl ?_
      refine s_forget [(2, (.slice _ _ _)), (3, (.slice _ _ _)), (4, (.slice _ _ _))] ⟨rfl, rfl, rfl, trivial⟩ (fun _f => ?_)
      refine s_seq ?_
      refine s_seq ?_
      refine s_region ?_
      refine o_val rfl rfl rfl (y_move (v := (.slice _ _ _)) rfl) ?_
      refine o_val rfl rfl rfl (y_len Try.runUnderlying60 rfl) ?_
      refine o_val rfl rfl rfl (y_move (v := (.int _ _)) rfl) ?_
      refine o_nil ?_
      refine s_block ?_
      refine s_sub_picks [3, 3, 3, 0] rfl ?_
      refine s_loop (γ := OL) (fun u => [(4, .slice u.A u.bs.length u.c), (39, .slice (cutA sA sc acked 1) 8 (sc - acked)), (40, .int .i64 ((8 : Nat) : Int)), (41, .int .i64 u.i)]) (fun u => [halfg b sA sn sc acked came nA nn nc, SG, PG, u.E]) (fun u => u.i ≤ 8 ∧ u.bs = (be 4 came ++ be 4 acked ++ [((min ((ss.drop acked).map (·.bs)).length 8 : Nat) : Int)]) ++ (((ss.drop acked).map (·.bs)).take u.i).flatMap msgB ∧ OS u.A u.bs.length u.c 5 1 ((u.bs).map (.int .u8)) u.E) (fun u => 8 - u.i) (OL.mk 0 cA cc (be 4 came ++ be 4 acked ++ [((min ((ss.drop acked).map (·.bs)).length 8 : Nat) : Int)]) cE) ?_ ⟨rfl, rfl, rfl, rfl, trivial⟩ (sub_front ⟨_, rfl⟩) ?_
      · exact ⟨Nat.zero_le _, by simp, hco⟩
      · intro u _f hJ
        obtain ⟨hi, hbs, ho⟩ := hJ
        have hbd := flat_bd (bl_bd hin2).1 u.i
        have hul := congrArg List.length hbs
        simp only [List.length_append, be_len, List.length_singleton] at hul
        have hi8 : u.i ≤ 8 := by omega
        have hbd8 : u.i * (65535 + 2) ≤ 8 * (65535 + 2) := Nat.mul_le_mul_right _ hi8
        refine s_seq ?_
        refine s_region ?_
        refine o_val rfl rfl rfl (y_lss rfl rfl) ?_
        refine o_nil ?_
        refine s_seq ?_
        refine s_if rfl (fun h27 => ?_) (fun h28 => ?_)
        · refine s_skip ?_
          refine s_seq ?_
          refine s_block ?_
          refine s_seq ?_
          refine s_region ?_
          refine o_val rfl rfl rfl (y_index1 Try.runUnderlying60 Try.sizeOf29 (hos2.some_of (by omega)) rfl rfl (by omega)) ?_
          refine o_val rfl rfl rfl (y_load Try.isAgg29 rfl (cel_B (hos2.cels (j := 1) rfl) (by omega))) ?_
          refine o_val rfl rfl rfl (y_assign (v := (.slice _ _ _)) rfl) ?_
          refine o_nil ?_
          refine s_region ?_
          have hmm := getD_memF (ss := ss.drop acked) (k := u.i) (by omega)
          have hmn : ((ss.drop acked).getD ((u.i : Nat) : Int).toNat default).bs.length = ((ss.drop acked).getD ((u.i : Nat) : Int).toNat default).n := (hin2 _ hmm).1
          have hm65 : ((ss.drop acked).getD ((u.i : Nat) : Int).toNat default).n ≤ 65535 := (hin2 _ hmm).2.2.1
          refine o_val rfl rfl rfl (y_move (v := (.slice _ _ _)) rfl) ?_
          refine o_val rfl rfl rfl (y_move (v := (.slice _ _ _)) rfl) ?_
          refine o_val rfl rfl rfl (y_len Try.runUnderlying29 rfl) ?_
          refine o_val rfl rfl rfl (y_conv Try.runUnderlying3 Try.runUnderlying89 rfl (by simp only [inK]; omega)) ?_
          refine o_fn 0 (d := 49) rfl Try.call77 (Big_c ((ss.drop acked).getD ((u.i : Nat) : Int).toNat default).n 2 (by omega) (by decide)) rfl ?_
          rintro _ _ ⟨b2A, b2e, b2E, rfl, b2o, rfl⟩
          refine o_val rfl rfl rfl (y_move (v := (.slice _ _ _)) rfl) ?_
          refine o_lit (vs := [(0, .slice _ _ _), (1, .slice _ _ _), (2, .slice _ _ _)]) rfl rfl (PacketH_k1 _ _ _ _ _ _ _ _ _) (fun b29 => ?_)
          refine o_fn 0 (d := 52) rfl Try.call76 (ConcatB_c _ 3 3 [fl u.A u.bs.length u.c u.bs, fl b2A 2 b2e (be 2 ((ss.drop acked).getD ((u.i : Nat) : Int).toNat default).n), ((ss.drop acked).getD ((u.i : Nat) : Int).toNat default)] (cels_own 5 rfl rfl).down rfl (by decide) (three (blok_os ho (j := 4) rfl) (blok_os b2o (j := 0) rfl) (blok_in (hin2 _ hmm) (j := 3) rfl)) (by rw [cat3]; simp only [fl, List.length_append, be_len]; omega)) rfl ?_
          rintro _ _ ⟨cA, cc, cE, rfl, hco, rfl⟩
          have hcat : cat [fl u.A u.bs.length u.c u.bs, fl b2A 2 b2e (be 2 ((ss.drop acked).getD ((u.i : Nat) : Int).toNat default).n), ((ss.drop acked).getD ((u.i : Nat) : Int).toNat default)] = u.bs ++ be 2 ((ss.drop acked).getD ((u.i : Nat) : Int).toNat default).n ++ ((ss.drop acked).getD ((u.i : Nat) : Int).toNat default).bs := by rw [cat3]; simp only [fl]
          rw [hcat] at hco ⊢
          refine o_val rfl rfl rfl (y_assign (v := (.slice _ _ _)) rfl) ?_
          refine o_nil ?_
          refine s_region ?_
          refine o_val rfl rfl rfl (y_add rfl rfl (by simp only [inK]; omega)) ?_
          refine o_val rfl rfl rfl (y_move (v := (.int _ _)) rfl) ?_
          refine o_nil ?_
          have hsn := flat_snoc (ms := ((ss.drop acked).map (·.bs))) (i := u.i) (by rw [List.length_map]; omega)
          rw [map_getD (by omega)] at hsn
          exact ⟨OL.mk (u.i + 1) cA cc (u.bs ++ be 2 ((ss.drop acked).getD ((u.i : Nat) : Int).toNat default).n ++ ((ss.drop acked).getD ((u.i : Nat) : Int).toNat default).bs) cE, (by first | omega | (dsimp only; omega)), ⟨by dsimp only; omega, (by dsimp only; rw [hsn, hbs, hmn]; simp only [List.append_assoc]), hco⟩, ⟨rfl, rfl, rfl, (congrArg (Value.int .i64) (by dsimp only; omega)), trivial⟩, (sub_picks [2, 2, 2, 0] rfl)⟩
        · refine s_exit ?_
          refine s_seq ?_
          refine s_region ?_
          refine o_val rfl rfl rfl (y_move (v := (.slice _ _ _)) rfl) ?_
          refine o_val rfl rfl rfl (y_move (v := (.slice _ _ _)) rfl) ?_
          have hby : ∀ b ∈ u.bs, 0 ≤ b ∧ b ≤ 255 := by
            have hb0 := body_byte (next := came) (first := acked) (bl_bd hin2).2
            unfold bodyF at hb0
            rw [hbs, take_same (l := ((ss.drop acked).map (·.bs))) (i := u.i) (by rw [List.length_map]; omega)]
            exact hb0
          refine o_fn 0 (d := 56) rfl Try.call75 (SumBytes_c u.A u.bs.length u.c u.bs ⟨rfl, ho.2.1, (ho.cels (j := 3) rfl).down, hby⟩ (by omega)) rfl ?_
          rintro _ _ ⟨rfl, rfl⟩
          have hs0 := sumB_in u.bs
          refine o_fn 0 (d := 57) rfl Try.call77 (Big8_c (sumB u.bs) hs0) rfl ?_
          rintro _ _ ⟨b3A, b3e, b3E, rfl, b3o, rfl⟩
          refine o_append (sz := 1) (bytes := 1) (news := _) 4 rfl Try.underlying29 Try.type5 rfl rfl rfl rfl rfl ho rfl rfl (Src.own (sz := 0) Try.underlying29 (j := 0) rfl b3o (one_int _ _)) (by omega) (fun A30 c31 E32 ho33 hn34 => ?_)
          have ho35 : OS A30 (u.bs.length + 8) c31 5 1 ((u.bs ++ be 8 (sumB u.bs).toNat).map (.int .u8)) E32 := (os_app_int ho33)
          clear ho33
          refine o_val rfl rfl rfl (y_assign (v := (.slice _ _ _)) rfl) ?_
          refine o_nil ?_
          refine s_norm [_, [(_, .cells [(.slice _ _ _), (.int _ _), (.int _ _), (.slice _ _ _)].toArray 62 (0, 0))], _, _, _] rfl ?_
          refine s_ret ?_
          have htk : ((ss.drop acked).map (·.bs)).take u.i = ((ss.drop acked).map (·.bs)).take 8 := take_same (by rw [List.length_map]; omega)
          rw [htk] at hbs
          have hub : u.bs = bodyF came acked ((ss.drop acked).map (·.bs)) := hbs
          have hfin : u.bs ++ be 8 (sumB u.bs).toNat = (pktOf came acked ((ss.drop acked).map (·.bs))) := by rw [hub]; rfl
          have hln : u.bs.length + 8 = (pktOf came acked ((ss.drop acked).map (·.bs))).length := by rw [← hfin, List.length_append, be_len]
          have hoz := ho35
          rw [hfin, hln] at hoz
          exact ⟨_, _, res1 rfl (congrArg (fun x : Nat => Value.slice A30 x c31) hln), ⟨_, _, _, rfl, hoz, rfl⟩, sub_picks [1, 1, 1, 1] rfl⟩
  · refine s_skip ?_
    refine s_seq ?_
    refine s_drawn 0 (by kernel_rfl) ?_
    refine d_val (i := 0) rfl (by kernel_rfl) (by kernel_rfl) (by kernel_rfl) rfl rfl rfl (y_move (v := (.pointer _)) rfl) ?_
    refine d_val (i := 1) rfl (by kernel_rfl) (by kernel_rfl) (by kernel_rfl) rfl rfl rfl (y_nilCheck rfl) ?_
    refine d_val (i := 2) rfl (by kernel_rfl) (by kernel_rfl) (by kernel_rfl) rfl rfl rfl (y_field0 Try.runUnderlying62 rfl Try.sizeOf3 rfl rfl) ?_
    refine d_val (i := 3) rfl (by kernel_rfl) (by kernel_rfl) (by kernel_rfl) rfl rfl rfl (y_load Try.isAgg3 rfl (cel_own 0 rfl rfl)) ?_
    refine d_val (i := 4) rfl (by kernel_rfl) (by kernel_rfl) (by kernel_rfl) rfl rfl rfl (y_conv Try.runUnderlying3 Try.runUnderlying89 rfl (by simp only [inK]; omega)) ?_
    refine d_val (i := 6) rfl (by kernel_rfl) (by kernel_rfl) (by kernel_rfl) rfl rfl rfl (y_move (v := (.pointer _)) rfl) ?_
    refine d_val (i := 7) rfl (by kernel_rfl) (by kernel_rfl) (by kernel_rfl) rfl rfl rfl (y_nilCheck rfl) ?_
    refine d_val (i := 8) rfl (by kernel_rfl) (by kernel_rfl) (by kernel_rfl) rfl rfl rfl (y_field0 Try.runUnderlying62 rfl Try.sizeOf3 rfl rfl) ?_
    refine d_val (i := 9) rfl (by kernel_rfl) (by kernel_rfl) (by kernel_rfl) rfl rfl rfl (y_load Try.isAgg3 rfl (cel_own 0 rfl rfl)) ?_
    refine d_val (i := 10) rfl (by kernel_rfl) (by kernel_rfl) (by kernel_rfl) rfl rfl rfl (y_conv Try.runUnderlying3 Try.runUnderlying89 rfl (by simp only [inK]; omega)) ?_
    refine d_val (i := 12) rfl (by kernel_rfl) (by kernel_rfl) (by kernel_rfl) rfl rfl rfl (y_move (v := (.slice _ _ _)) rfl) ?_
    refine d_val (i := 13) rfl (by kernel_rfl) (by kernel_rfl) (by kernel_rfl) rfl rfl rfl (y_len Try.runUnderlying60 rfl) ?_
    refine d_val (i := 14) rfl (by kernel_rfl) (by kernel_rfl) (by kernel_rfl) rfl rfl rfl (y_conv Try.runUnderlying3 Try.runUnderlying5 rfl (by simp only [inK]; omega)) ?_
    refine d_eff2 (k := 5) (k' := 15) (n := 0) (m := 3) rfl rfl (by kernel_rfl) rfl ?_ ?_
    · refine o_fn 0 (d := 26) rfl Try.call77 (Big_c came 4 (by omega) (by decide)) rfl ?_
      rintro _ _ ⟨b1A, b1e, b1E, rfl, b1o, rfl⟩
      refine o_nil ?_
      refine d_eff2 (k := 11) (k' := 15) (n := 1) (m := 3) rfl rfl (by kernel_rfl) rfl ?_ ?_
      · refine o_fn 0 (d := 32) rfl Try.call77 (Big_c acked 4 (by omega) (by decide)) rfl ?_
        rintro _ _ ⟨b2A, b2e, b2E, rfl, b2o, rfl⟩
        refine o_nil ?_
        refine d_eff (k := 15) (n := 2) (m := 3) rfl (by kernel_rfl) rfl ?_
        refine o_lit (vs := [(0, .int _ _)]) rfl rfl (PacketH_k0 _) (fun b36 => ?_)
        refine o_nil ?_
        refine d_eff (k := 16) (n := 2) (m := 3) rfl (by kernel_rfl) rfl ?_
        refine o_lit (vs := [(0, .slice _ _ _), (1, .slice _ _ _), (2, .slice _ _ _)]) rfl rfl (PacketH_k1 _ _ _ _ _ _ _ _ _) (fun b37 => ?_)
        refine o_nil ?_
        refine d_eff (k := 17) (n := 2) (m := 3) rfl (by kernel_rfl) rfl ?_
        refine o_fn 0 (d := 38) rfl Try.call76 (ConcatB_c _ 3 3 [fl b1A 4 b1e (be 4 came), fl b2A 4 b2e (be 4 acked), fl (some ⟨b36, 0, none⟩) 1 1 [(((sn - acked) : Nat) : Int)]] (cels_own 6 rfl rfl).down rfl (by decide) (three (blok_os b1o (j := 1) rfl) (blok_os b2o (j := 0) rfl) ⟨rfl, Nat.le_refl _, (cels_own 5 rfl rfl).down⟩) (by rw [cat3]; simp only [fl, List.length_append, be_len, List.length_singleton]; omega)) rfl ?_
        rintro _ _ ⟨cA, cc, cE, rfl, hco, rfl⟩
        have hcat : cat [fl b1A 4 b1e (be 4 came), fl b2A 4 b2e (be 4 acked), fl (some ⟨b36, 0, none⟩) 1 1 [(((sn - acked) : Nat) : Int)]] = (be 4 came ++ be 4 acked ++ [((min ((ss.drop acked).map (·.bs)).length 8 : Nat) : Int)]) := by
          rw [cat3]
          simp only [fl]
          rw [show (((sn - acked) : Nat) : Int) = ((min ((ss.drop acked).map (·.bs)).length 8 : Nat) : Int) by rw [List.length_map, List.length_drop]; omega]
        rw [hcat] at hco ⊢
        refine o_nil ?_
        refine d_val (i := 18) rfl (by kernel_rfl) (by kernel_rfl) (by kernel_rfl) rfl rfl rfl (y_assign (v := (.slice _ _ _)) rfl) ?_
        refine d_nil (n := 3) (m := 3) (by kernel_rfl) rfl ?_
        refine s_forget [(2, (.slice _ _ _)), (3, (.slice _ _ _)), (4, (.slice _ _ _))] ⟨rfl, rfl, rfl, trivial⟩ (fun _f => ?_)
        refine s_seq ?_
        refine s_seq ?_
        refine s_region ?_
        refine o_val rfl rfl rfl (y_move (v := (.slice _ _ _)) rfl) ?_
        refine o_val rfl rfl rfl (y_len Try.runUnderlying60 rfl) ?_
        refine o_val rfl rfl rfl (y_move (v := (.int _ _)) rfl) ?_
        refine o_nil ?_
        refine s_block ?_
        refine s_sub_picks [3, 3, 3, 0] rfl ?_
        refine s_loop (γ := OL) (fun u => [(4, .slice u.A u.bs.length u.c), (39, .slice (cutA sA sc acked 1) (sn - acked) (sc - acked)), (40, .int .i64 (((sn - acked) : Nat) : Int)), (41, .int .i64 u.i)]) (fun u => [halfg b sA sn sc acked came nA nn nc, SG, PG, u.E]) (fun u => u.i ≤ (sn - acked) ∧ u.bs = (be 4 came ++ be 4 acked ++ [((min ((ss.drop acked).map (·.bs)).length 8 : Nat) : Int)]) ++ (((ss.drop acked).map (·.bs)).take u.i).flatMap msgB ∧ OS u.A u.bs.length u.c 5 1 ((u.bs).map (.int .u8)) u.E) (fun u => (sn - acked) - u.i) (OL.mk 0 cA cc (be 4 came ++ be 4 acked ++ [((min ((ss.drop acked).map (·.bs)).length 8 : Nat) : Int)]) cE) ?_ ⟨rfl, rfl, rfl, rfl, trivial⟩ (sub_front ⟨_, rfl⟩) ?_
        · exact ⟨Nat.zero_le _, by simp, hco⟩
        · intro u _f hJ
          obtain ⟨hi, hbs, ho⟩ := hJ
          have hbd := flat_bd (bl_bd hin2).1 u.i
          have hul := congrArg List.length hbs
          simp only [List.length_append, be_len, List.length_singleton] at hul
          have hi8 : u.i ≤ 8 := by omega
          have hbd8 : u.i * (65535 + 2) ≤ 8 * (65535 + 2) := Nat.mul_le_mul_right _ hi8
          refine s_seq ?_
          refine s_region ?_
          refine o_val rfl rfl rfl (y_lss rfl rfl) ?_
          refine o_nil ?_
          refine s_seq ?_
          refine s_if rfl (fun h38 => ?_) (fun h39 => ?_)
          · refine s_skip ?_
            refine s_seq ?_
            refine s_block ?_
            refine s_seq ?_
            refine s_region ?_
            refine o_val rfl rfl rfl (y_index1 Try.runUnderlying60 Try.sizeOf29 (hos2.some_of (by omega)) rfl rfl (by omega)) ?_
            refine o_val rfl rfl rfl (y_load Try.isAgg29 rfl (cel_B (hos2.cels (j := 1) rfl) (by omega))) ?_
            refine o_val rfl rfl rfl (y_assign (v := (.slice _ _ _)) rfl) ?_
            refine o_nil ?_
            refine s_region ?_
            have hmm := getD_memF (ss := ss.drop acked) (k := u.i) (by omega)
            have hmn : ((ss.drop acked).getD ((u.i : Nat) : Int).toNat default).bs.length = ((ss.drop acked).getD ((u.i : Nat) : Int).toNat default).n := (hin2 _ hmm).1
            have hm65 : ((ss.drop acked).getD ((u.i : Nat) : Int).toNat default).n ≤ 65535 := (hin2 _ hmm).2.2.1
            refine o_val rfl rfl rfl (y_move (v := (.slice _ _ _)) rfl) ?_
            refine o_val rfl rfl rfl (y_move (v := (.slice _ _ _)) rfl) ?_
            refine o_val rfl rfl rfl (y_len Try.runUnderlying29 rfl) ?_
            refine o_val rfl rfl rfl (y_conv Try.runUnderlying3 Try.runUnderlying89 rfl (by simp only [inK]; omega)) ?_
            refine o_fn 0 (d := 49) rfl Try.call77 (Big_c ((ss.drop acked).getD ((u.i : Nat) : Int).toNat default).n 2 (by omega) (by decide)) rfl ?_
            rintro _ _ ⟨b2A, b2e, b2E, rfl, b2o, rfl⟩
            refine o_val rfl rfl rfl (y_move (v := (.slice _ _ _)) rfl) ?_
            refine o_lit (vs := [(0, .slice _ _ _), (1, .slice _ _ _), (2, .slice _ _ _)]) rfl rfl (PacketH_k1 _ _ _ _ _ _ _ _ _) (fun b40 => ?_)
            refine o_fn 0 (d := 52) rfl Try.call76 (ConcatB_c _ 3 3 [fl u.A u.bs.length u.c u.bs, fl b2A 2 b2e (be 2 ((ss.drop acked).getD ((u.i : Nat) : Int).toNat default).n), ((ss.drop acked).getD ((u.i : Nat) : Int).toNat default)] (cels_own 5 rfl rfl).down rfl (by decide) (three (blok_os ho (j := 4) rfl) (blok_os b2o (j := 0) rfl) (blok_in (hin2 _ hmm) (j := 3) rfl)) (by rw [cat3]; simp only [fl, List.length_append, be_len]; omega)) rfl ?_
            rintro _ _ ⟨cA, cc, cE, rfl, hco, rfl⟩
            have hcat : cat [fl u.A u.bs.length u.c u.bs, fl b2A 2 b2e (be 2 ((ss.drop acked).getD ((u.i : Nat) : Int).toNat default).n), ((ss.drop acked).getD ((u.i : Nat) : Int).toNat default)] = u.bs ++ be 2 ((ss.drop acked).getD ((u.i : Nat) : Int).toNat default).n ++ ((ss.drop acked).getD ((u.i : Nat) : Int).toNat default).bs := by rw [cat3]; simp only [fl]
            rw [hcat] at hco ⊢
            refine o_val rfl rfl rfl (y_assign (v := (.slice _ _ _)) rfl) ?_
            refine o_nil ?_
            refine s_region ?_
            refine o_val rfl rfl rfl (y_add rfl rfl (by simp only [inK]; omega)) ?_
            refine o_val rfl rfl rfl (y_move (v := (.int _ _)) rfl) ?_
            refine o_nil ?_
            have hsn := flat_snoc (ms := ((ss.drop acked).map (·.bs))) (i := u.i) (by rw [List.length_map]; omega)
            rw [map_getD (by omega)] at hsn
            exact ⟨OL.mk (u.i + 1) cA cc (u.bs ++ be 2 ((ss.drop acked).getD ((u.i : Nat) : Int).toNat default).n ++ ((ss.drop acked).getD ((u.i : Nat) : Int).toNat default).bs) cE, (by first | omega | (dsimp only; omega)), ⟨by dsimp only; omega, (by dsimp only; rw [hsn, hbs, hmn]; simp only [List.append_assoc]), hco⟩, ⟨rfl, rfl, rfl, (congrArg (Value.int .i64) (by dsimp only; omega)), trivial⟩, (sub_picks [2, 2, 2, 0] rfl)⟩
          · refine s_exit ?_
            refine s_seq ?_
            refine s_region ?_
            refine o_val rfl rfl rfl (y_move (v := (.slice _ _ _)) rfl) ?_
            refine o_val rfl rfl rfl (y_move (v := (.slice _ _ _)) rfl) ?_
            have hby : ∀ b ∈ u.bs, 0 ≤ b ∧ b ≤ 255 := by
              have hb0 := body_byte (next := came) (first := acked) (bl_bd hin2).2
              unfold bodyF at hb0
              rw [hbs, take_same (l := ((ss.drop acked).map (·.bs))) (i := u.i) (by rw [List.length_map]; omega)]
              exact hb0
            refine o_fn 0 (d := 56) rfl Try.call75 (SumBytes_c u.A u.bs.length u.c u.bs ⟨rfl, ho.2.1, (ho.cels (j := 3) rfl).down, hby⟩ (by omega)) rfl ?_
            rintro _ _ ⟨rfl, rfl⟩
            have hs0 := sumB_in u.bs
            refine o_fn 0 (d := 57) rfl Try.call77 (Big8_c (sumB u.bs) hs0) rfl ?_
            rintro _ _ ⟨b3A, b3e, b3E, rfl, b3o, rfl⟩
            refine o_append (sz := 1) (bytes := 1) (news := _) 4 rfl Try.underlying29 Try.type5 rfl rfl rfl rfl rfl ho rfl rfl (Src.own (sz := 0) Try.underlying29 (j := 0) rfl b3o (one_int _ _)) (by omega) (fun A41 c42 E43 ho44 hn45 => ?_)
            have ho46 : OS A41 (u.bs.length + 8) c42 5 1 ((u.bs ++ be 8 (sumB u.bs).toNat).map (.int .u8)) E43 := (os_app_int ho44)
            clear ho44
            refine o_val rfl rfl rfl (y_assign (v := (.slice _ _ _)) rfl) ?_
            refine o_nil ?_
            refine s_norm [_, [(_, .cells [(.slice _ _ _), (.int _ _), (.int _ _), (.slice _ _ _)].toArray 62 (0, 0))], _, _, _] rfl ?_
            refine s_ret ?_
            have htk : ((ss.drop acked).map (·.bs)).take u.i = ((ss.drop acked).map (·.bs)).take 8 := take_same (by rw [List.length_map]; omega)
            rw [htk] at hbs
            have hub : u.bs = bodyF came acked ((ss.drop acked).map (·.bs)) := hbs
            have hfin : u.bs ++ be 8 (sumB u.bs).toNat = (pktOf came acked ((ss.drop acked).map (·.bs))) := by rw [hub]; rfl
            have hln : u.bs.length + 8 = (pktOf came acked ((ss.drop acked).map (·.bs))).length := by rw [← hfin, List.length_append, be_len]
            have hoz := ho46
            rw [hfin, hln] at hoz
            exact ⟨_, _, res1 rfl (congrArg (fun x : Nat => Value.slice A41 x c42) hln), ⟨_, _, _, rfl, hoz, rfl⟩, sub_picks [1, 1, 1, 1] rfl⟩
      · refine o_lit (vs := [(0, .int _ _)]) rfl rfl (PacketH_k0 _) (fun b47 => ?_)
        refine o_nil ?_
        refine d_eff (k := 11) (n := 1) (m := 3) rfl (by kernel_rfl) rfl ?_
        refine o_fn 0 (d := 32) rfl Try.call77 (Big_c acked 4 (by omega) (by decide)) rfl ?_
        rintro _ _ ⟨b2A, b2e, b2E, rfl, b2o, rfl⟩
        refine o_nil ?_
        refine d_eff (k := 16) (n := 2) (m := 3) rfl (by kernel_rfl) rfl ?_
        refine o_lit (vs := [(0, .slice _ _ _), (1, .slice _ _ _), (2, .slice _ _ _)]) rfl rfl (PacketH_k1 _ _ _ _ _ _ _ _ _) (fun b48 => ?_)
        refine o_nil ?_
        refine d_eff (k := 17) (n := 2) (m := 3) rfl (by kernel_rfl) rfl ?_
        refine o_fn 0 (d := 38) rfl Try.call76 (ConcatB_c _ 3 3 [fl b1A 4 b1e (be 4 came), fl b2A 4 b2e (be 4 acked), fl (some ⟨b47, 0, none⟩) 1 1 [(((sn - acked) : Nat) : Int)]] (cels_own 6 rfl rfl).down rfl (by decide) (three (blok_os b1o (j := 1) rfl) (blok_os b2o (j := 0) rfl) ⟨rfl, Nat.le_refl _, (cels_own 5 rfl rfl).down⟩) (by rw [cat3]; simp only [fl, List.length_append, be_len, List.length_singleton]; omega)) rfl ?_
        rintro _ _ ⟨cA, cc, cE, rfl, hco, rfl⟩
        have hcat : cat [fl b1A 4 b1e (be 4 came), fl b2A 4 b2e (be 4 acked), fl (some ⟨b47, 0, none⟩) 1 1 [(((sn - acked) : Nat) : Int)]] = (be 4 came ++ be 4 acked ++ [((min ((ss.drop acked).map (·.bs)).length 8 : Nat) : Int)]) := by
          rw [cat3]
          simp only [fl]
          rw [show (((sn - acked) : Nat) : Int) = ((min ((ss.drop acked).map (·.bs)).length 8 : Nat) : Int) by rw [List.length_map, List.length_drop]; omega]
        rw [hcat] at hco ⊢
        refine o_nil ?_
        refine d_val (i := 18) rfl (by kernel_rfl) (by kernel_rfl) (by kernel_rfl) rfl rfl rfl (y_assign (v := (.slice _ _ _)) rfl) ?_
        refine d_nil (n := 3) (m := 3) (by kernel_rfl) rfl ?_
        refine s_forget [(2, (.slice _ _ _)), (3, (.slice _ _ _)), (4, (.slice _ _ _))] ⟨rfl, rfl, rfl, trivial⟩ (fun _f => ?_)
        refine s_seq ?_
        refine s_seq ?_
        refine s_region ?_
        refine o_val rfl rfl rfl (y_move (v := (.slice _ _ _)) rfl) ?_
        refine o_val rfl rfl rfl (y_len Try.runUnderlying60 rfl) ?_
        refine o_val rfl rfl rfl (y_move (v := (.int _ _)) rfl) ?_
        refine o_nil ?_
        refine s_block ?_
        refine s_sub_picks [3, 3, 3, 0] rfl ?_
        refine s_loop (γ := OL) (fun u => [(4, .slice u.A u.bs.length u.c), (39, .slice (cutA sA sc acked 1) (sn - acked) (sc - acked)), (40, .int .i64 (((sn - acked) : Nat) : Int)), (41, .int .i64 u.i)]) (fun u => [halfg b sA sn sc acked came nA nn nc, SG, PG, u.E]) (fun u => u.i ≤ (sn - acked) ∧ u.bs = (be 4 came ++ be 4 acked ++ [((min ((ss.drop acked).map (·.bs)).length 8 : Nat) : Int)]) ++ (((ss.drop acked).map (·.bs)).take u.i).flatMap msgB ∧ OS u.A u.bs.length u.c 5 1 ((u.bs).map (.int .u8)) u.E) (fun u => (sn - acked) - u.i) (OL.mk 0 cA cc (be 4 came ++ be 4 acked ++ [((min ((ss.drop acked).map (·.bs)).length 8 : Nat) : Int)]) cE) ?_ ⟨rfl, rfl, rfl, rfl, trivial⟩ (sub_front ⟨_, rfl⟩) ?_
        · exact ⟨Nat.zero_le _, by simp, hco⟩
        · intro u _f hJ
          obtain ⟨hi, hbs, ho⟩ := hJ
          have hbd := flat_bd (bl_bd hin2).1 u.i
          have hul := congrArg List.length hbs
          simp only [List.length_append, be_len, List.length_singleton] at hul
          have hi8 : u.i ≤ 8 := by omega
          have hbd8 : u.i * (65535 + 2) ≤ 8 * (65535 + 2) := Nat.mul_le_mul_right _ hi8
          refine s_seq ?_
          refine s_region ?_
          refine o_val rfl rfl rfl (y_lss rfl rfl) ?_
          refine o_nil ?_
          refine s_seq ?_
          refine s_if rfl (fun h49 => ?_) (fun h50 => ?_)
          · refine s_skip ?_
            refine s_seq ?_
            refine s_block ?_
            refine s_seq ?_
            refine s_region ?_
            refine o_val rfl rfl rfl (y_index1 Try.runUnderlying60 Try.sizeOf29 (hos2.some_of (by omega)) rfl rfl (by omega)) ?_
            refine o_val rfl rfl rfl (y_load Try.isAgg29 rfl (cel_B (hos2.cels (j := 1) rfl) (by omega))) ?_
            refine o_val rfl rfl rfl (y_assign (v := (.slice _ _ _)) rfl) ?_
            refine o_nil ?_
            refine s_region ?_
            have hmm := getD_memF (ss := ss.drop acked) (k := u.i) (by omega)
            have hmn : ((ss.drop acked).getD ((u.i : Nat) : Int).toNat default).bs.length = ((ss.drop acked).getD ((u.i : Nat) : Int).toNat default).n := (hin2 _ hmm).1
            have hm65 : ((ss.drop acked).getD ((u.i : Nat) : Int).toNat default).n ≤ 65535 := (hin2 _ hmm).2.2.1
            refine o_val rfl rfl rfl (y_move (v := (.slice _ _ _)) rfl) ?_
            refine o_val rfl rfl rfl (y_move (v := (.slice _ _ _)) rfl) ?_
            refine o_val rfl rfl rfl (y_len Try.runUnderlying29 rfl) ?_
            refine o_val rfl rfl rfl (y_conv Try.runUnderlying3 Try.runUnderlying89 rfl (by simp only [inK]; omega)) ?_
            refine o_fn 0 (d := 49) rfl Try.call77 (Big_c ((ss.drop acked).getD ((u.i : Nat) : Int).toNat default).n 2 (by omega) (by decide)) rfl ?_
            rintro _ _ ⟨b2A, b2e, b2E, rfl, b2o, rfl⟩
            refine o_val rfl rfl rfl (y_move (v := (.slice _ _ _)) rfl) ?_
            refine o_lit (vs := [(0, .slice _ _ _), (1, .slice _ _ _), (2, .slice _ _ _)]) rfl rfl (PacketH_k1 _ _ _ _ _ _ _ _ _) (fun b51 => ?_)
            refine o_fn 0 (d := 52) rfl Try.call76 (ConcatB_c _ 3 3 [fl u.A u.bs.length u.c u.bs, fl b2A 2 b2e (be 2 ((ss.drop acked).getD ((u.i : Nat) : Int).toNat default).n), ((ss.drop acked).getD ((u.i : Nat) : Int).toNat default)] (cels_own 5 rfl rfl).down rfl (by decide) (three (blok_os ho (j := 4) rfl) (blok_os b2o (j := 0) rfl) (blok_in (hin2 _ hmm) (j := 3) rfl)) (by rw [cat3]; simp only [fl, List.length_append, be_len]; omega)) rfl ?_
            rintro _ _ ⟨cA, cc, cE, rfl, hco, rfl⟩
            have hcat : cat [fl u.A u.bs.length u.c u.bs, fl b2A 2 b2e (be 2 ((ss.drop acked).getD ((u.i : Nat) : Int).toNat default).n), ((ss.drop acked).getD ((u.i : Nat) : Int).toNat default)] = u.bs ++ be 2 ((ss.drop acked).getD ((u.i : Nat) : Int).toNat default).n ++ ((ss.drop acked).getD ((u.i : Nat) : Int).toNat default).bs := by rw [cat3]; simp only [fl]
            rw [hcat] at hco ⊢
            refine o_val rfl rfl rfl (y_assign (v := (.slice _ _ _)) rfl) ?_
            refine o_nil ?_
            refine s_region ?_
            refine o_val rfl rfl rfl (y_add rfl rfl (by simp only [inK]; omega)) ?_
            refine o_val rfl rfl rfl (y_move (v := (.int _ _)) rfl) ?_
            refine o_nil ?_
            have hsn := flat_snoc (ms := ((ss.drop acked).map (·.bs))) (i := u.i) (by rw [List.length_map]; omega)
            rw [map_getD (by omega)] at hsn
            exact ⟨OL.mk (u.i + 1) cA cc (u.bs ++ be 2 ((ss.drop acked).getD ((u.i : Nat) : Int).toNat default).n ++ ((ss.drop acked).getD ((u.i : Nat) : Int).toNat default).bs) cE, (by first | omega | (dsimp only; omega)), ⟨by dsimp only; omega, (by dsimp only; rw [hsn, hbs, hmn]; simp only [List.append_assoc]), hco⟩, ⟨rfl, rfl, rfl, (congrArg (Value.int .i64) (by dsimp only; omega)), trivial⟩, (sub_picks [2, 2, 2, 0] rfl)⟩
          · refine s_exit ?_
            refine s_seq ?_
            refine s_region ?_
            refine o_val rfl rfl rfl (y_move (v := (.slice _ _ _)) rfl) ?_
            refine o_val rfl rfl rfl (y_move (v := (.slice _ _ _)) rfl) ?_
            have hby : ∀ b ∈ u.bs, 0 ≤ b ∧ b ≤ 255 := by
              have hb0 := body_byte (next := came) (first := acked) (bl_bd hin2).2
              unfold bodyF at hb0
              rw [hbs, take_same (l := ((ss.drop acked).map (·.bs))) (i := u.i) (by rw [List.length_map]; omega)]
              exact hb0
            refine o_fn 0 (d := 56) rfl Try.call75 (SumBytes_c u.A u.bs.length u.c u.bs ⟨rfl, ho.2.1, (ho.cels (j := 3) rfl).down, hby⟩ (by omega)) rfl ?_
            rintro _ _ ⟨rfl, rfl⟩
            have hs0 := sumB_in u.bs
            refine o_fn 0 (d := 57) rfl Try.call77 (Big8_c (sumB u.bs) hs0) rfl ?_
            rintro _ _ ⟨b3A, b3e, b3E, rfl, b3o, rfl⟩
            refine o_append (sz := 1) (bytes := 1) (news := _) 4 rfl Try.underlying29 Try.type5 rfl rfl rfl rfl rfl ho rfl rfl (Src.own (sz := 0) Try.underlying29 (j := 0) rfl b3o (one_int _ _)) (by omega) (fun A52 c53 E54 ho55 hn56 => ?_)
            have ho57 : OS A52 (u.bs.length + 8) c53 5 1 ((u.bs ++ be 8 (sumB u.bs).toNat).map (.int .u8)) E54 := (os_app_int ho55)
            clear ho55
            refine o_val rfl rfl rfl (y_assign (v := (.slice _ _ _)) rfl) ?_
            refine o_nil ?_
            refine s_norm [_, [(_, .cells [(.slice _ _ _), (.int _ _), (.int _ _), (.slice _ _ _)].toArray 62 (0, 0))], _, _, _] rfl ?_
            refine s_ret ?_
            have htk : ((ss.drop acked).map (·.bs)).take u.i = ((ss.drop acked).map (·.bs)).take 8 := take_same (by rw [List.length_map]; omega)
            rw [htk] at hbs
            have hub : u.bs = bodyF came acked ((ss.drop acked).map (·.bs)) := hbs
            have hfin : u.bs ++ be 8 (sumB u.bs).toNat = (pktOf came acked ((ss.drop acked).map (·.bs))) := by rw [hub]; rfl
            have hln : u.bs.length + 8 = (pktOf came acked ((ss.drop acked).map (·.bs))).length := by rw [← hfin, List.length_append, be_len]
            have hoz := ho57
            rw [hfin, hln] at hoz
            exact ⟨_, _, res1 rfl (congrArg (fun x : Nat => Value.slice A52 x c53) hln), ⟨_, _, _, rfl, hoz, rfl⟩, sub_picks [1, 1, 1, 1] rfl⟩
    · refine o_lit (vs := [(0, .int _ _)]) rfl rfl (PacketH_k0 _) (fun b58 => ?_)
      refine o_nil ?_
      refine d_eff (k := 5) (n := 0) (m := 3) rfl (by kernel_rfl) rfl ?_
      refine o_fn 0 (d := 26) rfl Try.call77 (Big_c came 4 (by omega) (by decide)) rfl ?_
      rintro _ _ ⟨b1A, b1e, b1E, rfl, b1o, rfl⟩
      refine o_nil ?_
      refine d_eff (k := 11) (n := 1) (m := 3) rfl (by kernel_rfl) rfl ?_
      refine o_fn 0 (d := 32) rfl Try.call77 (Big_c acked 4 (by omega) (by decide)) rfl ?_
      rintro _ _ ⟨b2A, b2e, b2E, rfl, b2o, rfl⟩
      refine o_nil ?_
      refine d_eff (k := 16) (n := 2) (m := 3) rfl (by kernel_rfl) rfl ?_
      refine o_lit (vs := [(0, .slice _ _ _), (1, .slice _ _ _), (2, .slice _ _ _)]) rfl rfl (PacketH_k1 _ _ _ _ _ _ _ _ _) (fun b59 => ?_)
      refine o_nil ?_
      refine d_eff (k := 17) (n := 2) (m := 3) rfl (by kernel_rfl) rfl ?_
      refine o_fn 0 (d := 38) rfl Try.call76 (ConcatB_c _ 3 3 [fl b1A 4 b1e (be 4 came), fl b2A 4 b2e (be 4 acked), fl (some ⟨b58, 0, none⟩) 1 1 [(((sn - acked) : Nat) : Int)]] (cels_own 6 rfl rfl).down rfl (by decide) (three (blok_os b1o (j := 1) rfl) (blok_os b2o (j := 0) rfl) ⟨rfl, Nat.le_refl _, (cels_own 5 rfl rfl).down⟩) (by rw [cat3]; simp only [fl, List.length_append, be_len, List.length_singleton]; omega)) rfl ?_
      rintro _ _ ⟨cA, cc, cE, rfl, hco, rfl⟩
      have hcat : cat [fl b1A 4 b1e (be 4 came), fl b2A 4 b2e (be 4 acked), fl (some ⟨b58, 0, none⟩) 1 1 [(((sn - acked) : Nat) : Int)]] = (be 4 came ++ be 4 acked ++ [((min ((ss.drop acked).map (·.bs)).length 8 : Nat) : Int)]) := by
        rw [cat3]
        simp only [fl]
        rw [show (((sn - acked) : Nat) : Int) = ((min ((ss.drop acked).map (·.bs)).length 8 : Nat) : Int) by rw [List.length_map, List.length_drop]; omega]
      rw [hcat] at hco ⊢
      refine o_nil ?_
      refine d_val (i := 18) rfl (by kernel_rfl) (by kernel_rfl) (by kernel_rfl) rfl rfl rfl (y_assign (v := (.slice _ _ _)) rfl) ?_
      refine d_nil (n := 3) (m := 3) (by kernel_rfl) rfl ?_
      refine s_forget [(2, (.slice _ _ _)), (3, (.slice _ _ _)), (4, (.slice _ _ _))] ⟨rfl, rfl, rfl, trivial⟩ (fun _f => ?_)
      refine s_seq ?_
      refine s_seq ?_
      refine s_region ?_
      refine o_val rfl rfl rfl (y_move (v := (.slice _ _ _)) rfl) ?_
      refine o_val rfl rfl rfl (y_len Try.runUnderlying60 rfl) ?_
      refine o_val rfl rfl rfl (y_move (v := (.int _ _)) rfl) ?_
      refine o_nil ?_
      refine s_block ?_
      refine s_sub_picks [3, 3, 3, 0] rfl ?_
      refine s_loop (γ := OL) (fun u => [(4, .slice u.A u.bs.length u.c), (39, .slice (cutA sA sc acked 1) (sn - acked) (sc - acked)), (40, .int .i64 (((sn - acked) : Nat) : Int)), (41, .int .i64 u.i)]) (fun u => [halfg b sA sn sc acked came nA nn nc, SG, PG, u.E]) (fun u => u.i ≤ (sn - acked) ∧ u.bs = (be 4 came ++ be 4 acked ++ [((min ((ss.drop acked).map (·.bs)).length 8 : Nat) : Int)]) ++ (((ss.drop acked).map (·.bs)).take u.i).flatMap msgB ∧ OS u.A u.bs.length u.c 5 1 ((u.bs).map (.int .u8)) u.E) (fun u => (sn - acked) - u.i) (OL.mk 0 cA cc (be 4 came ++ be 4 acked ++ [((min ((ss.drop acked).map (·.bs)).length 8 : Nat) : Int)]) cE) ?_ ⟨rfl, rfl, rfl, rfl, trivial⟩ (sub_front ⟨_, rfl⟩) ?_
      · exact ⟨Nat.zero_le _, by simp, hco⟩
      · intro u _f hJ
        obtain ⟨hi, hbs, ho⟩ := hJ
        have hbd := flat_bd (bl_bd hin2).1 u.i
        have hul := congrArg List.length hbs
        simp only [List.length_append, be_len, List.length_singleton] at hul
        have hi8 : u.i ≤ 8 := by omega
        have hbd8 : u.i * (65535 + 2) ≤ 8 * (65535 + 2) := Nat.mul_le_mul_right _ hi8
        refine s_seq ?_
        refine s_region ?_
        refine o_val rfl rfl rfl (y_lss rfl rfl) ?_
        refine o_nil ?_
        refine s_seq ?_
        refine s_if rfl (fun h60 => ?_) (fun h61 => ?_)
        · refine s_skip ?_
          refine s_seq ?_
          refine s_block ?_
          refine s_seq ?_
          refine s_region ?_
          refine o_val rfl rfl rfl (y_index1 Try.runUnderlying60 Try.sizeOf29 (hos2.some_of (by omega)) rfl rfl (by omega)) ?_
          refine o_val rfl rfl rfl (y_load Try.isAgg29 rfl (cel_B (hos2.cels (j := 1) rfl) (by omega))) ?_
          refine o_val rfl rfl rfl (y_assign (v := (.slice _ _ _)) rfl) ?_
          refine o_nil ?_
          refine s_region ?_
          have hmm := getD_memF (ss := ss.drop acked) (k := u.i) (by omega)
          have hmn : ((ss.drop acked).getD ((u.i : Nat) : Int).toNat default).bs.length = ((ss.drop acked).getD ((u.i : Nat) : Int).toNat default).n := (hin2 _ hmm).1
          have hm65 : ((ss.drop acked).getD ((u.i : Nat) : Int).toNat default).n ≤ 65535 := (hin2 _ hmm).2.2.1
          refine o_val rfl rfl rfl (y_move (v := (.slice _ _ _)) rfl) ?_
          refine o_val rfl rfl rfl (y_move (v := (.slice _ _ _)) rfl) ?_
          refine o_val rfl rfl rfl (y_len Try.runUnderlying29 rfl) ?_
          refine o_val rfl rfl rfl (y_conv Try.runUnderlying3 Try.runUnderlying89 rfl (by simp only [inK]; omega)) ?_
          refine o_fn 0 (d := 49) rfl Try.call77 (Big_c ((ss.drop acked).getD ((u.i : Nat) : Int).toNat default).n 2 (by omega) (by decide)) rfl ?_
          rintro _ _ ⟨b2A, b2e, b2E, rfl, b2o, rfl⟩
          refine o_val rfl rfl rfl (y_move (v := (.slice _ _ _)) rfl) ?_
          refine o_lit (vs := [(0, .slice _ _ _), (1, .slice _ _ _), (2, .slice _ _ _)]) rfl rfl (PacketH_k1 _ _ _ _ _ _ _ _ _) (fun b62 => ?_)
          refine o_fn 0 (d := 52) rfl Try.call76 (ConcatB_c _ 3 3 [fl u.A u.bs.length u.c u.bs, fl b2A 2 b2e (be 2 ((ss.drop acked).getD ((u.i : Nat) : Int).toNat default).n), ((ss.drop acked).getD ((u.i : Nat) : Int).toNat default)] (cels_own 5 rfl rfl).down rfl (by decide) (three (blok_os ho (j := 4) rfl) (blok_os b2o (j := 0) rfl) (blok_in (hin2 _ hmm) (j := 3) rfl)) (by rw [cat3]; simp only [fl, List.length_append, be_len]; omega)) rfl ?_
          rintro _ _ ⟨cA, cc, cE, rfl, hco, rfl⟩
          have hcat : cat [fl u.A u.bs.length u.c u.bs, fl b2A 2 b2e (be 2 ((ss.drop acked).getD ((u.i : Nat) : Int).toNat default).n), ((ss.drop acked).getD ((u.i : Nat) : Int).toNat default)] = u.bs ++ be 2 ((ss.drop acked).getD ((u.i : Nat) : Int).toNat default).n ++ ((ss.drop acked).getD ((u.i : Nat) : Int).toNat default).bs := by rw [cat3]; simp only [fl]
          rw [hcat] at hco ⊢
          refine o_val rfl rfl rfl (y_assign (v := (.slice _ _ _)) rfl) ?_
          refine o_nil ?_
          refine s_region ?_
          refine o_val rfl rfl rfl (y_add rfl rfl (by simp only [inK]; omega)) ?_
          refine o_val rfl rfl rfl (y_move (v := (.int _ _)) rfl) ?_
          refine o_nil ?_
          have hsn := flat_snoc (ms := ((ss.drop acked).map (·.bs))) (i := u.i) (by rw [List.length_map]; omega)
          rw [map_getD (by omega)] at hsn
          exact ⟨OL.mk (u.i + 1) cA cc (u.bs ++ be 2 ((ss.drop acked).getD ((u.i : Nat) : Int).toNat default).n ++ ((ss.drop acked).getD ((u.i : Nat) : Int).toNat default).bs) cE, (by first | omega | (dsimp only; omega)), ⟨by dsimp only; omega, (by dsimp only; rw [hsn, hbs, hmn]; simp only [List.append_assoc]), hco⟩, ⟨rfl, rfl, rfl, (congrArg (Value.int .i64) (by dsimp only; omega)), trivial⟩, (sub_picks [2, 2, 2, 0] rfl)⟩
        · refine s_exit ?_
          refine s_seq ?_
          refine s_region ?_
          refine o_val rfl rfl rfl (y_move (v := (.slice _ _ _)) rfl) ?_
          refine o_val rfl rfl rfl (y_move (v := (.slice _ _ _)) rfl) ?_
          have hby : ∀ b ∈ u.bs, 0 ≤ b ∧ b ≤ 255 := by
            have hb0 := body_byte (next := came) (first := acked) (bl_bd hin2).2
            unfold bodyF at hb0
            rw [hbs, take_same (l := ((ss.drop acked).map (·.bs))) (i := u.i) (by rw [List.length_map]; omega)]
            exact hb0
          refine o_fn 0 (d := 56) rfl Try.call75 (SumBytes_c u.A u.bs.length u.c u.bs ⟨rfl, ho.2.1, (ho.cels (j := 3) rfl).down, hby⟩ (by omega)) rfl ?_
          rintro _ _ ⟨rfl, rfl⟩
          have hs0 := sumB_in u.bs
          refine o_fn 0 (d := 57) rfl Try.call77 (Big8_c (sumB u.bs) hs0) rfl ?_
          rintro _ _ ⟨b3A, b3e, b3E, rfl, b3o, rfl⟩
          refine o_append (sz := 1) (bytes := 1) (news := _) 4 rfl Try.underlying29 Try.type5 rfl rfl rfl rfl rfl ho rfl rfl (Src.own (sz := 0) Try.underlying29 (j := 0) rfl b3o (one_int _ _)) (by omega) (fun A63 c64 E65 ho66 hn67 => ?_)
          have ho68 : OS A63 (u.bs.length + 8) c64 5 1 ((u.bs ++ be 8 (sumB u.bs).toNat).map (.int .u8)) E65 := (os_app_int ho66)
          clear ho66
          refine o_val rfl rfl rfl (y_assign (v := (.slice _ _ _)) rfl) ?_
          refine o_nil ?_
          refine s_norm [_, [(_, .cells [(.slice _ _ _), (.int _ _), (.int _ _), (.slice _ _ _)].toArray 62 (0, 0))], _, _, _] rfl ?_
          refine s_ret ?_
          have htk : ((ss.drop acked).map (·.bs)).take u.i = ((ss.drop acked).map (·.bs)).take 8 := take_same (by rw [List.length_map]; omega)
          rw [htk] at hbs
          have hub : u.bs = bodyF came acked ((ss.drop acked).map (·.bs)) := hbs
          have hfin : u.bs ++ be 8 (sumB u.bs).toNat = (pktOf came acked ((ss.drop acked).map (·.bs))) := by rw [hub]; rfl
          have hln : u.bs.length + 8 = (pktOf came acked ((ss.drop acked).map (·.bs))).length := by rw [← hfin, List.length_append, be_len]
          have hoz := ho68
          rw [hfin, hln] at hoz
          exact ⟨_, _, res1 rfl (congrArg (fun x : Nat => Value.slice A63 x c64) hln), ⟨_, _, _, rfl, hoz, rfl⟩, sub_picks [1, 1, 1, 1] rfl⟩

end Go.Proofs.Ytdgmocibjjkghaa.K

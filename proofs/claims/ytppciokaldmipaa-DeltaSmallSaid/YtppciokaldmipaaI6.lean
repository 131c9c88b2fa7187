/- Walks: the reference's packing of frames, and the law on packing. No condition beyond what each statement names. -/
import Derived.Test.YtppciokaldmipaaProg
import Derived.Test.YtppciokaldmipaaK7
import Derived.Test.YtppciokaldmipaaB1
import Derived.Test.YtppciokaldmipaaI1
import Derived.Test.YtppciokaldmipaaI2
import Derived.Test.YtppciokaldmipaaI3
import Derived.Test.YtppciokaldmipaaI4
import Derived.Test.YtppciokaldmipaaI5
set_option linter.unusedVariables false
set_option linter.unusedSimpArgs false
set_option maxRecDepth 100000
namespace Go.Proofs.Ytppciokaldmipaa.K
open Go.RowKit

theorem os_pk {A : Option Addr} {n c : Nat} {T : TypeId} {E : Grp} {bb cc : List Bool} (h : OS A n c T 1 (bb.map .bool) E) (e : bb = cc) : OS A n c T 1 (cc.map .bool) E := e ▸ h

theorem Packed_c {V : Mem} (A : Option Addr) (c : Nat) (l : List Inp) (h : Cels V [] A (l.flatMap encI)) (hb : l.length ≤ 140737488355328) (B : Option Addr) (d : Nat) (l' : List Inp) (h' : Cels V [] B (l'.flatMap encI)) (hb' : l'.length ≤ 140737488355328) (hf1 : okFr l.length l) (hf2 : okFr l.length l') :
    CallS Try.prog 22 [.slice A l.length c, .slice B l'.length d].toArray V [] (fun r L' => ∃ R n e bs G, r = .slice R n e ∧ OS R n e 5 1 (bs.map (.int .u8)) G ∧ Wr bs (packTo l l' l'.length) ∧ L' = [G]) := by
  have hbo := hf1.2.2.2
  have hno := hf2.2.2.2
  have hl8 := hf1.2.1
  have hll := hf2.2.2.1
  refine callS Try.func22 rfl rfl (fun w0 => ?_)
  refine s_seq ?_
  refine s_region ?_
  refine o_val rfl rfl rfl (y_assign (v := (.slice _ _ _)) rfl) ?_
  refine o_nil ?_
  refine s_seq ?_
  refine s_region ?_
  refine o_val rfl rfl rfl (y_assign (v := (.slice _ _ _)) rfl) ?_
  refine o_nil ?_
  refine s_seq ?_
  refine s_seq ?_
  refine s_region ?_
  refine o_val rfl rfl rfl (y_move (v := (.slice _ _ _)) rfl) ?_
  refine o_val rfl rfl rfl (y_len Try.runUnderlying22 rfl) ?_
  refine o_val rfl rfl rfl (y_move (v := (.int _ _)) rfl) ?_
  refine o_nil ?_
  refine s_block ?_
  refine s_group ?_
  refine s_loop (γ := G1) (fun g => [(0, .slice A l.length c), (5, .slice g.A g.n g.c), (9, .slice B l'.length d), (10, .int .i64 l'.length), (11, .int .i64 g.i)]) (fun g => [g.E]) (fun g => g.i ≤ l'.length ∧ OS g.A g.n g.c 4 1 ((packTo l l' g.i).map .bool) g.E) (fun g => l'.length - g.i) (G1.mk 0 none 0 0 []) ?_ ⟨rfl, rfl, rfl, rfl, rfl, trivial⟩ (sub_front ⟨_, rfl⟩) ?_
  · exact ⟨Nat.zero_le _, OS.nil _ _⟩
  · intro g _f hI
    obtain ⟨hi, ho⟩ := hI
    have hpl := packTo_len l l' g.i
    have hol := ho.len
    simp only [List.length_map] at hol
    refine s_seq ?_
    refine s_region ?_
    refine o_val rfl rfl rfl (y_lss rfl rfl) ?_
    refine o_nil ?_
    refine s_seq ?_
    refine s_if rfl (fun h1 => ?_) (fun h2 => ?_)
    · refine s_skip ?_
      refine s_seq ?_
      refine s_block ?_
      refine s_seq ?_
      refine s_region ?_
      refine o_val rfl rfl rfl (y_move (v := (.int _ _)) rfl) ?_
      refine o_val rfl rfl rfl (y_indexAddr Try.runUnderlying22 Try.sizeOf24 (some_at (sz := 2) encI_len (i := 0) h' (by omega)) rfl rfl (by omega)) ?_
      refine o_val rfl rfl rfl (y_loads (cs := [_, _, _]) Try.isAgg24 Try.sizeOf24 rfl (by unfold idx; rw [Option.isSome_map]; exact some_at (sz := 2) encI_len (i := 0) h' (by omega)) rfl (cels_at (sz := 3) encI_len h'.here (by omega))) ?_
      refine o_alloc rfl Try.zeroValue24 rfl (fun b3 => ?_)
      refine o_val rfl rfl rfl (y_assign (v := (.int _ _)) rfl) ?_
      refine o_stores (vs := [(.int _ _), (.int _ _), (.int _ _)]) 1 rfl Try.sizeOf24 rfl rfl rfl (by simp [Value.oneCell']) (by simp) ?_
      refine o_nil ?_
      refine s_seq ?_
      refine s_region ?_
      refine o_val rfl rfl rfl (y_move (v := (.slice _ _ _)) rfl) ?_
      refine o_val rfl rfl rfl (y_move (v := (.int _ _)) rfl) ?_
      refine o_val rfl rfl rfl (y_indexAddr Try.runUnderlying22 Try.sizeOf24 (some_at (sz := 2) encI_len (i := 0) h (by omega)) rfl rfl (by omega)) ?_
      refine o_val rfl rfl rfl (y_loads (cs := [_, _, _]) Try.isAgg24 Try.sizeOf24 rfl (by unfold idx; rw [Option.isSome_map]; exact some_at (sz := 2) encI_len (i := 0) h (by omega)) rfl (cels_at (sz := 3) encI_len h.here (by omega))) ?_
      refine o_alloc rfl Try.zeroValue24 rfl (fun b4 => ?_)
      refine o_stores (vs := [(.int _ _), (.int _ _), (.int _ _)]) 2 rfl Try.sizeOf24 rfl rfl rfl (by simp [Value.oneCell']) (by simp) ?_
      refine o_nil ?_
      refine s_seq ?_
      refine s_seq ?_
      refine s_region ?_
      refine o_val rfl rfl rfl (y_loads (cs := [_, _, _]) Try.isAgg24 Try.sizeOf24 rfl rfl rfl (cels_own 1 rfl rfl)) ?_
      refine o_val rfl rfl rfl (y_loads (cs := [_, _, _]) Try.isAgg24 Try.sizeOf24 rfl rfl rfl (cels_own 2 rfl rfl)) ?_
      refine o_val rfl rfl rfl (y_eql_inp rfl rfl) ?_
      refine o_nil ?_
      refine s_if rfl (fun h5 => ?_) (fun h6 => ?_)
      · refine s_seq ?_
        refine s_region ?_
        refine o_val rfl rfl rfl (y_move (v := (.slice _ _ _)) rfl) ?_
        refine o_fn 0 (d := 24) rfl Try.call68 (Add_c _ _ _ _ (ho.cels (j := 0) rfl).down (by simpa using ho.len) 0 1 (by omega) (by omega) (by have := ho.len; simp at this; omega)) rfl ?_
        rintro _ _ ⟨B8, e9, G10, rfl, ho7, rfl⟩
        refine o_val rfl rfl rfl (y_assign (v := (.slice _ _ _)) rfl) ?_
        refine o_nil ?_
        refine s_exit ?_
        refine s_region ?_
        refine o_val rfl rfl rfl (y_add rfl rfl (by simp only [inK]; omega)) ?_
        refine o_val rfl rfl rfl (y_move (v := (.int _ _)) rfl) ?_
        refine o_nil ?_
        exact ⟨G1.mk (g.i + 1) B8 _ e9 G10, (by first | omega | (dsimp only; omega)), ⟨by dsimp only; omega, by first | exact os_pk ho7 (pk_same (by assumption)) | exact os_pk ho7 (pk_keys (by assumption) (by assumption) (by assumption)) | exact os_pk ho7 (pk_all (by assumption) (fun hh => by first | exact absurd hh.2 (by assumption) | exact absurd hh.1 (by assumption)))⟩, ⟨rfl, rfl, rfl, rfl, (congrArg (Value.int _) (by dsimp only; omega)), trivial⟩, sub_front ⟨_, rfl⟩⟩
      · refine s_skip ?_
        refine s_seq ?_
        refine s_drawn 0 (by kernel_rfl) ?_
        refine d_val (i := 0) rfl (by kernel_rfl) (by kernel_rfl) (by kernel_rfl) rfl rfl rfl (y_move (v := (.slice _ _ _)) rfl) ?_
        refine d_val (i := 2) rfl (by kernel_rfl) (by kernel_rfl) (by kernel_rfl) rfl rfl rfl (y_field0 Try.runUnderlying24 rfl Try.sizeOf3 rfl rfl) ?_
        refine d_val (i := 3) rfl (by kernel_rfl) (by kernel_rfl) (by kernel_rfl) rfl rfl rfl (y_load Try.isAgg3 rfl (cel_own 1 rfl rfl)) ?_
        refine d_val (i := 4) rfl (by kernel_rfl) (by kernel_rfl) (by kernel_rfl) rfl rfl rfl (y_field0 Try.runUnderlying24 rfl Try.sizeOf3 rfl rfl) ?_
        refine d_val (i := 5) rfl (by kernel_rfl) (by kernel_rfl) (by kernel_rfl) rfl rfl rfl (y_load Try.isAgg3 rfl (cel_own 2 rfl rfl)) ?_
        refine d_val (i := 6) rfl (by kernel_rfl) (by kernel_rfl) (by kernel_rfl) rfl rfl rfl (y_xor rfl rfl) ?_
        refine d_val (i := 7) rfl (by kernel_rfl) (by kernel_rfl) (by kernel_rfl) rfl rfl rfl (y_conv Try.runUnderlying3 Try.runUnderlying107 rfl (by have hx := xor_bd (ok_k (hno _ (getD_in (i := (g.i : Int).toNat) (by omega)))) (ok_k (hbo _ (getD_in (i := (g.i : Int).toNat) (by omega)))); simp only [inK]; omega)) ?_
        refine d_eff (k := 1) (n := 0) (m := 3) rfl (by kernel_rfl) rfl ?_
        refine o_fn 0 (d := 26) rfl Try.call68 (Add_c _ _ _ _ (ho.cels (j := 0) rfl).down (by simpa using ho.len) 1 1 (by omega) (by omega) (by have := ho.len; simp at this; omega)) rfl ?_
        rintro _ _ ⟨B13, e14, G15, rfl, ho12, rfl⟩
        refine o_nil ?_
        refine d_eff (k := 8) (n := 1) (m := 3) rfl (by kernel_rfl) rfl ?_
        refine o_fn 0 (d := 33) rfl Try.call68 (Add_c _ _ _ _ (ho12.cels (j := 0) rfl).down (by simpa using ho12.len) _ 8 (by have hx := xor_bd (ok_k (hno _ (getD_in (i := (g.i : Int).toNat) (by omega)))) (ok_k (hbo _ (getD_in (i := (g.i : Int).toNat) (by omega)))); omega) (by omega) (by have := ho12.len; simp at this; omega)) rfl ?_
        rintro _ _ ⟨B18, e19, G20, rfl, ho17, rfl⟩
        refine o_nil ?_
        refine d_val (i := 9) rfl (by kernel_rfl) (by kernel_rfl) (by kernel_rfl) rfl rfl rfl (y_assign (v := (.slice _ _ _)) rfl) ?_
        refine d_nil (n := 2) (m := 3) (by kernel_rfl) rfl ?_
        refine s_seq ?_
        refine s_region ?_
        refine o_val rfl rfl rfl (y_field0 Try.runUnderlying24 rfl Try.sizeOf3 rfl rfl) ?_
        refine o_val rfl rfl rfl (y_load Try.isAgg3 rfl (cel_own 3 rfl rfl)) ?_
        refine o_val rfl rfl rfl (y_field0 Try.runUnderlying24 rfl Try.sizeOf3 rfl rfl) ?_
        refine o_val rfl rfl rfl (y_load Try.isAgg3 rfl (cel_own 4 rfl rfl)) ?_
        refine o_split rfl rfl rfl (y_eql rfl rfl) (fun p22 => ?_) (fun p23 => ?_)
        · refine o_val rfl rfl rfl (y_move (v := (.bool _)) rfl) ?_
          refine o_guard_yes rfl rfl ?_
          refine o_val rfl rfl rfl (y_field0 Try.runUnderlying24 rfl Try.sizeOf3 rfl rfl) ?_
          refine o_guard_yes rfl rfl ?_
          refine o_val rfl rfl rfl (y_load Try.isAgg3 rfl (cel_own 3 rfl rfl)) ?_
          refine o_guard_yes rfl rfl ?_
          refine o_val rfl rfl rfl (y_field0 Try.runUnderlying24 rfl Try.sizeOf3 rfl rfl) ?_
          refine o_guard_yes rfl rfl ?_
          refine o_val rfl rfl rfl (y_load Try.isAgg3 rfl (cel_own 4 rfl rfl)) ?_
          refine o_guard_yes rfl rfl ?_
          refine o_val rfl rfl rfl (y_eql rfl rfl) ?_
          refine o_val rfl rfl rfl (y_pick_t (v := (.bool _)) rfl rfl) ?_
          refine o_nil ?_
          refine s_if rfl (fun h24 => ?_) (fun h25 => ?_)
          · refine s_region ?_
            refine o_val rfl rfl rfl (y_move (v := (.slice _ _ _)) rfl) ?_
            refine o_fn 0 (d := 47) rfl Try.call68 (Add_c _ _ _ _ (ho17.cels (j := 0) rfl).down (by simpa using ho17.len) 0 1 (by omega) (by omega) (by have := ho17.len; simp at this; omega)) rfl ?_
            rintro _ _ ⟨B27, e28, G29, rfl, ho26, rfl⟩
            refine o_val rfl rfl rfl (y_assign (v := (.slice _ _ _)) rfl) ?_
            refine o_nil ?_
            refine s_region ?_
            refine o_val rfl rfl rfl (y_add rfl rfl (by simp only [inK]; omega)) ?_
            refine o_val rfl rfl rfl (y_move (v := (.int _ _)) rfl) ?_
            refine o_nil ?_
            exact ⟨G1.mk (g.i + 1) B27 _ e28 G29, (by first | omega | (dsimp only; omega)), ⟨by dsimp only; omega, by first | exact os_pk ho26 (pk_same (by assumption)) | exact os_pk ho26 (pk_keys (by assumption) (by assumption) (by assumption)) | exact os_pk ho26 (pk_all (by assumption) (fun hh => by first | exact absurd hh.2 (by assumption) | exact absurd hh.1 (by assumption)))⟩, ⟨rfl, rfl, rfl, rfl, (congrArg (Value.int _) (by dsimp only; omega)), trivial⟩, sub_front ⟨_, rfl⟩⟩
          · refine s_drawn 0 (by kernel_rfl) ?_
            refine d_val (i := 0) rfl (by kernel_rfl) (by kernel_rfl) (by kernel_rfl) rfl rfl rfl (y_move (v := (.slice _ _ _)) rfl) ?_
            refine d_val (i := 2) rfl (by kernel_rfl) (by kernel_rfl) (by kernel_rfl) rfl rfl rfl (y_field0 Try.runUnderlying24 rfl Try.sizeOf3 rfl rfl) ?_
            refine d_val (i := 3) rfl (by kernel_rfl) (by kernel_rfl) (by kernel_rfl) rfl rfl rfl (y_load Try.isAgg3 rfl (cel_own 3 rfl rfl)) ?_
            refine d_val (i := 4) rfl (by kernel_rfl) (by kernel_rfl) (by kernel_rfl) rfl rfl rfl (y_add rfl rfl (by have hx := ok_x (hno _ (getD_in (i := (g.i : Int).toNat) (by omega))); simp only [inK]; omega)) ?_
            refine d_val (i := 5) rfl (by kernel_rfl) (by kernel_rfl) (by kernel_rfl) rfl rfl rfl (y_conv Try.runUnderlying3 Try.runUnderlying107 rfl (by have hx := ok_x (hno _ (getD_in (i := (g.i : Int).toNat) (by omega))); simp only [inK]; omega)) ?_
            refine d_val (i := 7) rfl (by kernel_rfl) (by kernel_rfl) (by kernel_rfl) rfl rfl rfl (y_field0 Try.runUnderlying24 rfl Try.sizeOf3 rfl rfl) ?_
            refine d_val (i := 8) rfl (by kernel_rfl) (by kernel_rfl) (by kernel_rfl) rfl rfl rfl (y_load Try.isAgg3 rfl (cel_own 3 rfl rfl)) ?_
            refine d_val (i := 9) rfl (by kernel_rfl) (by kernel_rfl) (by kernel_rfl) rfl rfl rfl (y_add rfl rfl (by have hx := ok_y (hno _ (getD_in (i := (g.i : Int).toNat) (by omega))); simp only [inK]; omega)) ?_
            refine d_val (i := 10) rfl (by kernel_rfl) (by kernel_rfl) (by kernel_rfl) rfl rfl rfl (y_conv Try.runUnderlying3 Try.runUnderlying107 rfl (by have hx := ok_y (hno _ (getD_in (i := (g.i : Int).toNat) (by omega))); simp only [inK]; omega)) ?_
            refine d_eff (k := 1) (n := 0) (m := 5) rfl (by kernel_rfl) rfl ?_
            refine o_fn 0 (d := 49) rfl Try.call68 (Add_c _ _ _ _ (ho17.cels (j := 0) rfl).down (by simpa using ho17.len) 1 1 (by omega) (by omega) (by have := ho17.len; simp at this; omega)) rfl ?_
            rintro _ _ ⟨B32, e33, G34, rfl, ho31, rfl⟩
            refine o_nil ?_
            refine d_eff (k := 6) (n := 1) (m := 5) rfl (by kernel_rfl) rfl ?_
            refine o_fn 0 (d := 54) rfl Try.call68 (Add_c _ _ _ _ (ho31.cels (j := 0) rfl).down (by simpa using ho31.len) _ 8 (by have hx := ok_x (hno _ (getD_in (i := (g.i : Int).toNat) (by omega))); omega) (by omega) (by have := ho31.len; simp at this; omega)) rfl ?_
            rintro _ _ ⟨B37, e38, G39, rfl, ho36, rfl⟩
            refine o_nil ?_
            refine d_eff (k := 11) (n := 2) (m := 5) rfl (by kernel_rfl) rfl ?_
            refine o_fn 0 (d := 59) rfl Try.call68 (Add_c _ _ _ _ (ho36.cels (j := 0) rfl).down (by simpa using ho36.len) _ 8 (by have hx := ok_y (hno _ (getD_in (i := (g.i : Int).toNat) (by omega))); omega) (by omega) (by have := ho36.len; simp at this; omega)) rfl ?_
            rintro _ _ ⟨B42, e43, G44, rfl, ho41, rfl⟩
            refine o_nil ?_
            refine d_val (i := 12) rfl (by kernel_rfl) (by kernel_rfl) (by kernel_rfl) rfl rfl rfl (y_assign (v := (.slice _ _ _)) rfl) ?_
            refine d_nil (n := 3) (m := 5) (by kernel_rfl) rfl ?_
            refine s_region ?_
            refine o_val rfl rfl rfl (y_add rfl rfl (by simp only [inK]; omega)) ?_
            refine o_val rfl rfl rfl (y_move (v := (.int _ _)) rfl) ?_
            refine o_nil ?_
            exact ⟨G1.mk (g.i + 1) B42 _ e43 G44, (by first | omega | (dsimp only; omega)), ⟨by dsimp only; omega, by first | exact os_pk ho41 (pk_same (by assumption)) | exact os_pk ho41 (pk_keys (by assumption) (by assumption) (by assumption)) | exact os_pk ho41 (pk_all (by assumption) (fun hh => by first | exact absurd hh.2 (by assumption) | exact absurd hh.1 (by assumption)))⟩, ⟨rfl, rfl, rfl, rfl, (congrArg (Value.int _) (by dsimp only; omega)), trivial⟩, sub_front ⟨_, rfl⟩⟩
        · refine o_val rfl rfl rfl (y_move (v := (.bool _)) rfl) ?_
          refine o_guard_no rfl rfl rfl rfl rfl ?_
          refine o_guard_no rfl rfl rfl rfl rfl ?_
          refine o_guard_no rfl rfl rfl rfl rfl ?_
          refine o_guard_no rfl rfl rfl rfl rfl ?_
          refine o_guard_no rfl rfl rfl rfl rfl ?_
          refine o_val rfl rfl rfl (y_pick_f (v := (.bool _)) rfl rfl) ?_
          refine o_nil ?_
          refine s_else rfl ?_
          refine s_drawn 0 (by kernel_rfl) ?_
          refine d_val (i := 0) rfl (by kernel_rfl) (by kernel_rfl) (by kernel_rfl) rfl rfl rfl (y_move (v := (.slice _ _ _)) rfl) ?_
          refine d_val (i := 2) rfl (by kernel_rfl) (by kernel_rfl) (by kernel_rfl) rfl rfl rfl (y_field0 Try.runUnderlying24 rfl Try.sizeOf3 rfl rfl) ?_
          refine d_val (i := 3) rfl (by kernel_rfl) (by kernel_rfl) (by kernel_rfl) rfl rfl rfl (y_load Try.isAgg3 rfl (cel_own 3 rfl rfl)) ?_
          refine d_val (i := 4) rfl (by kernel_rfl) (by kernel_rfl) (by kernel_rfl) rfl rfl rfl (y_add rfl rfl (by have hx := ok_x (hno _ (getD_in (i := (g.i : Int).toNat) (by omega))); simp only [inK]; omega)) ?_
          refine d_val (i := 5) rfl (by kernel_rfl) (by kernel_rfl) (by kernel_rfl) rfl rfl rfl (y_conv Try.runUnderlying3 Try.runUnderlying107 rfl (by have hx := ok_x (hno _ (getD_in (i := (g.i : Int).toNat) (by omega))); simp only [inK]; omega)) ?_
          refine d_val (i := 7) rfl (by kernel_rfl) (by kernel_rfl) (by kernel_rfl) rfl rfl rfl (y_field0 Try.runUnderlying24 rfl Try.sizeOf3 rfl rfl) ?_
          refine d_val (i := 8) rfl (by kernel_rfl) (by kernel_rfl) (by kernel_rfl) rfl rfl rfl (y_load Try.isAgg3 rfl (cel_own 3 rfl rfl)) ?_
          refine d_val (i := 9) rfl (by kernel_rfl) (by kernel_rfl) (by kernel_rfl) rfl rfl rfl (y_add rfl rfl (by have hx := ok_y (hno _ (getD_in (i := (g.i : Int).toNat) (by omega))); simp only [inK]; omega)) ?_
          refine d_val (i := 10) rfl (by kernel_rfl) (by kernel_rfl) (by kernel_rfl) rfl rfl rfl (y_conv Try.runUnderlying3 Try.runUnderlying107 rfl (by have hx := ok_y (hno _ (getD_in (i := (g.i : Int).toNat) (by omega))); simp only [inK]; omega)) ?_
          refine d_eff (k := 1) (n := 0) (m := 5) rfl (by kernel_rfl) rfl ?_
          refine o_fn 0 (d := 49) rfl Try.call68 (Add_c _ _ _ _ (ho17.cels (j := 0) rfl).down (by simpa using ho17.len) 1 1 (by omega) (by omega) (by have := ho17.len; simp at this; omega)) rfl ?_
          rintro _ _ ⟨B47, e48, G49, rfl, ho46, rfl⟩
          refine o_nil ?_
          refine d_eff (k := 6) (n := 1) (m := 5) rfl (by kernel_rfl) rfl ?_
          refine o_fn 0 (d := 54) rfl Try.call68 (Add_c _ _ _ _ (ho46.cels (j := 0) rfl).down (by simpa using ho46.len) _ 8 (by have hx := ok_x (hno _ (getD_in (i := (g.i : Int).toNat) (by omega))); omega) (by omega) (by have := ho46.len; simp at this; omega)) rfl ?_
          rintro _ _ ⟨B52, e53, G54, rfl, ho51, rfl⟩
          refine o_nil ?_
          refine d_eff (k := 11) (n := 2) (m := 5) rfl (by kernel_rfl) rfl ?_
          refine o_fn 0 (d := 59) rfl Try.call68 (Add_c _ _ _ _ (ho51.cels (j := 0) rfl).down (by simpa using ho51.len) _ 8 (by have hx := ok_y (hno _ (getD_in (i := (g.i : Int).toNat) (by omega))); omega) (by omega) (by have := ho51.len; simp at this; omega)) rfl ?_
          rintro _ _ ⟨B57, e58, G59, rfl, ho56, rfl⟩
          refine o_nil ?_
          refine d_val (i := 12) rfl (by kernel_rfl) (by kernel_rfl) (by kernel_rfl) rfl rfl rfl (y_assign (v := (.slice _ _ _)) rfl) ?_
          refine d_nil (n := 3) (m := 5) (by kernel_rfl) rfl ?_
          refine s_region ?_
          refine o_val rfl rfl rfl (y_add rfl rfl (by simp only [inK]; omega)) ?_
          refine o_val rfl rfl rfl (y_move (v := (.int _ _)) rfl) ?_
          refine o_nil ?_
          exact ⟨G1.mk (g.i + 1) B57 _ e58 G59, (by first | omega | (dsimp only; omega)), ⟨by dsimp only; omega, by first | exact os_pk ho56 (pk_same (by assumption)) | exact os_pk ho56 (pk_keys (by assumption) (by assumption) (by assumption)) | exact os_pk ho56 (pk_all (by assumption) (fun hh => by first | exact absurd hh.2 (by assumption) | exact absurd hh.1 (by assumption)))⟩, ⟨rfl, rfl, rfl, rfl, (congrArg (Value.int _) (by dsimp only; omega)), trivial⟩, sub_front ⟨_, rfl⟩⟩
    · refine s_exit ?_
      refine s_seq ?_
      refine s_region ?_
      refine o_val rfl rfl rfl (y_move (v := (.slice _ _ _)) rfl) ?_
      refine o_fn 0 (d := 62) rfl Try.call69 (RBytes_c _ _ _ _ (ho.cels (j := 0) rfl).down (by simpa using ho.len) (by have := ho.len; have := packTo_len l l' g.i; simp at *; omega)) rfl ?_
      rintro _ _ ⟨RB, rn, re, rbs, RG, rfl, hR, hRW, rfl⟩
      refine o_val rfl rfl rfl (y_assign (v := (.slice _ _ _)) rfl) ?_
      refine o_nil ?_
      refine s_ret ?_
      have hin : g.i = l'.length := by omega
      rw [hin] at hRW
      exact ⟨_, _, res1 rfl rfl, ⟨_, _, _, _, _, rfl, hR, hRW, rfl⟩, sub_picks [0] rfl⟩

/-- The number of the fault of two frames, the old one first. -/
def pkErr (l l' : List Inp) : Int := if frErr l.length l = 0 then frErr l.length l' else 1
theorem pk_ok {l l' : List Inp} (h : pkErr l l' = 0) : okFr l.length l ∧ okFr l.length l' := by
  unfold pkErr at h
  by_cases e : frErr l.length l = 0
  · rw [if_pos e] at h; exact ⟨frErr_z e, frErr_z h⟩
  · rw [if_neg e] at h; cases h
theorem pk_first {l l' : List Inp} (h : ¬ frErr l.length l = 0) : pkErr l l' = frErr l.length l := by unfold pkErr; rw [if_neg h, frErr_nz h]
theorem pk_second {l l' : List Inp} (h : frErr l.length l = 0) : pkErr l l' = frErr l.length l' := by unfold pkErr; rw [if_pos h]
theorem Pack_u {V : Mem} (A : Option Addr) (c : Nat) (l : List Inp) (h : Cels V [] A (l.flatMap encI)) (hb : l.length ≤ 140737488355328) (B : Option Addr) (d : Nat) (l' : List Inp) (h' : Cels V [] B (l'.flatMap encI)) (hb' : l'.length ≤ 140737488355328) :
    CallS Try.prog 20 [.slice A l.length c, .slice B l'.length d].toArray V [] (fun r L' => ∃ R n e bs G, r = .tuple #[.slice R n e, .int .i64 (pkErr l l')] ∧ OS R n e 5 1 (bs.map (.int .u8)) G ∧ (pkErr l l' = 0 → Wr bs (packTo l l' l'.length)) ∧ (¬ pkErr l l' = 0 → n = 0) ∧ L' = [G]) := by
  refine (Pack_c A c l h hb B d l' h' hb').upto ?_
  rintro v L' (⟨h1, rfl, rfl⟩ | ⟨h1, h2, R, n, e, bs, G, rfl, h3, h4, rfl⟩)
  · have e1 : pkErr l l' = 1 := by
      unfold pkErr
      by_cases e : frErr l.length l = 0
      · rw [if_pos e]; exact frErr_nz fun h2 => h1 ⟨frErr_z e, frErr_z h2⟩
      · rw [if_neg e]
    exact ⟨_, ⟨none, 0, 0, [], [], by rw [e1], OS.nil _ _, fun h => absurd (e1.symm.trans h) (by decide), fun _ => rfl, rfl⟩, sub_empty⟩
  · have e0 : pkErr l l' = 0 := by unfold pkErr; rw [if_pos (frErr_ok h1).symm]; exact (frErr_ok h2).symm
    exact ⟨_, ⟨R, n, e, bs, G, by rw [e0], h3, fun _ => h4, fun h => absurd e0 h, rfl⟩, fun _ _ _ h => h⟩

theorem InputPacks_c {V : Mem} (A : Option Addr) (c : Nat) (l : List Inp) (h : Cels V [] A (l.flatMap encI)) (hb : l.length ≤ 140737488355328) (hw : ∀ i ∈ l, i.fit) (B : Option Addr) (d : Nat) (l' : List Inp) (h' : Cels V [] B (l'.flatMap encI)) (hb' : l'.length ≤ 140737488355328) (hw' : ∀ i ∈ l', i.fit) : CallS Try.prog 4 [.slice A l.length c, .slice B l'.length d].toArray V [] (fun r L' => r = .bool true ∧ L' = []) := by
  refine callS Try.func4 rfl rfl (fun w0 => ?_)
  refine s_seq ?_
  refine s_region ?_
  refine o_val rfl rfl rfl (y_assign (v := (.bool _)) rfl) ?_
  refine o_nil ?_
  refine s_seq ?_
  refine s_region ?_
  refine o_val rfl rfl rfl (y_move (v := (.slice _ _ _)) rfl) ?_
  refine o_val rfl rfl rfl (y_move (v := (.slice _ _ _)) rfl) ?_
  refine o_fn 0 (d := 11) rfl Try.call20 (Pack_u _ _ l h.here.down hb _ _ l' h'.here.down hb') rfl ?_
  rintro _ _ ⟨R, n, e, bs, G, rfl, hos, hyes, hno, rfl⟩
  refine o_val rfl rfl rfl (y_move (v := (.tuple #[(.slice _ _ _), (.int _ _)])) rfl) ?_
  refine o_val rfl rfl rfl (y_extract (v := (.slice _ _ _)) rfl rfl) ?_
  refine o_val rfl rfl rfl (y_extract (v := (.int _ _)) rfl rfl) ?_
  refine o_val rfl rfl rfl (y_assign (v := (.slice _ _ _)) rfl) ?_
  refine o_val rfl rfl rfl (y_assign (v := (.int _ _)) rfl) ?_
  refine o_nil ?_
  refine s_seq ?_
  refine s_region ?_
  refine o_val rfl rfl rfl (y_move (v := (.slice _ _ _)) rfl) ?_
  refine o_val rfl rfl rfl (y_len Try.runUnderlying22 rfl) ?_
  refine o_val rfl rfl rfl (y_move (v := (.slice _ _ _)) rfl) ?_
  refine o_fn 0 (d := 17) rfl Try.call19 (FrameFault_c _ _ _ l h.here.down hb hw) rfl ?_
  rintro _ _ ⟨rfl, rfl⟩
  refine o_val rfl rfl rfl (y_assign (v := (.int _ _)) rfl) ?_
  refine o_nil ?_
  refine s_seq ?_
  refine s_seq ?_
  refine s_region ?_
  refine o_val rfl rfl rfl (y_move (v := (.int _ _)) rfl) ?_
  refine o_val rfl rfl rfl (y_eql rfl rfl) ?_
  refine o_nil ?_
  refine s_if rfl (fun h1 => ?_) (fun h2 => ?_)
  · have h1 := h1
    refine s_region ?_
    refine o_val rfl rfl rfl (y_move (v := (.slice _ _ _)) rfl) ?_
    refine o_val rfl rfl rfl (y_len Try.runUnderlying22 rfl) ?_
    refine o_val rfl rfl rfl (y_move (v := (.slice _ _ _)) rfl) ?_
    refine o_fn 0 (d := 23) rfl Try.call19 (FrameFault_c _ _ _ l' h'.here.down hb' hw') rfl ?_
    rintro _ _ ⟨rfl, rfl⟩
    refine o_val rfl rfl rfl (y_assign (v := (.int _ _)) rfl) ?_
    refine o_nil ?_
    refine s_seq ?_
    refine s_seq ?_
    refine s_region ?_
    refine o_fn 0 (d := 24) rfl Try.call17 (packed_c _) rfl ?_
    rintro _ _ ⟨rfl, rfl⟩
    refine o_val rfl rfl rfl (y_notb rfl) ?_
    refine o_val rfl rfl rfl (y_move (v := (.bool _)) rfl) ?_
    refine o_guard_yes rfl rfl ?_
    refine o_val rfl rfl rfl (y_move (v := (.int _ _)) rfl) ?_
    refine o_guard_yes rfl rfl ?_
    refine o_val rfl rfl rfl (y_neq rfl rfl) ?_
    refine o_val rfl rfl rfl (y_pick_f (v := (.bool _)) rfl rfl) ?_
    refine o_nil ?_
    refine s_if rfl (fun h3 => ?_) (fun h4 => ?_)
    · have h2 := h3
      refine s_seq ?_
      refine s_region ?_
      refine o_fn 0 (d := 30) rfl Try.call17 (packed_c _) rfl ?_
      rintro _ _ ⟨rfl, rfl⟩
      refine o_val rfl rfl rfl (y_move (v := (.bool _)) rfl) ?_
      refine o_guard_yes rfl rfl ?_
      refine o_val rfl rfl rfl (y_move (v := (.int _ _)) rfl) ?_
      refine o_guard_yes rfl rfl ?_
      refine o_val rfl rfl rfl (y_move (v := (.int _ _)) rfl) ?_
      refine o_guard_yes rfl rfl ?_
      refine o_split rfl rfl rfl (y_eql rfl rfl) (fun p5 => ?_) (fun p6 => ?_)
      · have h3 := p5
        refine o_val rfl rfl rfl (y_pick_t (v := (.bool _)) rfl rfl) ?_
        refine o_val rfl rfl rfl (y_move (v := (.bool _)) rfl) ?_
        refine o_guard_yes rfl rfl ?_
        refine o_val rfl rfl rfl (y_move (v := (.slice _ _ _)) rfl) ?_
        refine o_guard_yes rfl rfl ?_
        refine o_val rfl rfl rfl (y_len Try.runUnderlying30 rfl) ?_
        refine o_guard_yes rfl rfl ?_
        refine o_val rfl rfl rfl (y_eql rfl rfl) ?_
        refine o_val rfl rfl rfl (y_pick_t (v := (.bool _)) rfl rfl) ?_
        refine o_val rfl rfl rfl (y_assign (v := (.bool _)) rfl) ?_
        refine o_nil ?_
        refine s_ret ?_
        exact ⟨_, _, res1 rfl rfl, ⟨congrArg Value.bool (decide_eq_true (congrArg Nat.cast (hno (by rw [h3]; exact h2)))), rfl⟩, sub_front ⟨_, rfl⟩⟩
      · exact absurd (by first | exact pk_first h1 | exact pk_second h1) p6
    · have h2 := Decidable.not_not.1 h4
      refine s_skip ?_
      refine s_seq ?_
      refine s_region ?_
      refine o_val rfl rfl rfl (y_move (v := (.int _ _)) rfl) ?_
      refine o_split rfl rfl rfl (y_eql rfl rfl) (fun p7 => ?_) (fun p8 => ?_)
      · have hz := p7
        refine o_val rfl rfl rfl (y_move (v := (.bool _)) rfl) ?_
        refine o_guard_yes rfl rfl ?_
        refine o_val rfl rfl rfl (y_move (v := (.slice _ _ _)) rfl) ?_
        refine o_guard_yes rfl rfl ?_
        refine o_val rfl rfl rfl (y_move (v := (.slice _ _ _)) rfl) ?_
        refine o_guard_yes rfl rfl ?_
        refine o_val rfl rfl rfl (y_move (v := (.slice _ _ _)) rfl) ?_
        refine o_guard_yes rfl rfl ?_
        refine o_fn 0 (d := 47) rfl Try.call22 (Packed_c _ _ l h.here.down hb _ _ l' h'.here.down hb' (pk_ok hz).1 (pk_ok hz).2) rfl ?_
        rintro _ _ ⟨R2, n2, e2, bs2, G2, rfl, hos2, hW2, rfl⟩
        refine o_guard_yes rfl rfl ?_
        refine o_fn 0 (d := 48) rfl Try.call21 (BEqual_c _ _ _ bs (hos.cels (j := 1) rfl).down (by simpa using hos.len) (hyes hz).2.1 _ _ _ bs2 (hos2.cels (j := 0) rfl).down (by simpa using hos2.len) hW2.2.1) rfl ?_
        rintro _ _ ⟨rfl, rfl⟩
        refine o_val rfl rfl rfl (y_pick_t (v := (.bool _)) rfl rfl) ?_
        refine o_val rfl rfl rfl (y_assign (v := (.bool _)) rfl) ?_
        refine o_nil ?_
        refine s_ret ?_
        exact ⟨_, _, res1 rfl rfl, ⟨congrArg Value.bool (decide_eq_true ((hyes hz).unique hW2)), rfl⟩, sub_front ⟨_, rfl⟩⟩
      · exact absurd (by first | exact (pk_first h1).trans h2 | exact (pk_second h1).trans h2) p8
  · have h1 := h2
    refine s_skip ?_
    refine s_seq ?_
    refine s_seq ?_
    refine s_region ?_
    refine o_fn 0 (d := 24) rfl Try.call17 (packed_c _) rfl ?_
    rintro _ _ ⟨rfl, rfl⟩
    refine o_val rfl rfl rfl (y_notb rfl) ?_
    refine o_val rfl rfl rfl (y_move (v := (.bool _)) rfl) ?_
    refine o_guard_yes rfl rfl ?_
    refine o_val rfl rfl rfl (y_move (v := (.int _ _)) rfl) ?_
    refine o_guard_yes rfl rfl ?_
    refine o_val rfl rfl rfl (y_neq rfl rfl) ?_
    refine o_val rfl rfl rfl (y_pick_f (v := (.bool _)) rfl rfl) ?_
    refine o_nil ?_
    refine s_if rfl (fun h9 => ?_) (fun h10 => ?_)
    · have h2 := h9
      refine s_seq ?_
      refine s_region ?_
      refine o_fn 0 (d := 30) rfl Try.call17 (packed_c _) rfl ?_
      rintro _ _ ⟨rfl, rfl⟩
      refine o_val rfl rfl rfl (y_move (v := (.bool _)) rfl) ?_
      refine o_guard_yes rfl rfl ?_
      refine o_val rfl rfl rfl (y_move (v := (.int _ _)) rfl) ?_
      refine o_guard_yes rfl rfl ?_
      refine o_val rfl rfl rfl (y_move (v := (.int _ _)) rfl) ?_
      refine o_guard_yes rfl rfl ?_
      refine o_split rfl rfl rfl (y_eql rfl rfl) (fun p11 => ?_) (fun p12 => ?_)
      · have h3 := p11
        refine o_val rfl rfl rfl (y_pick_t (v := (.bool _)) rfl rfl) ?_
        refine o_val rfl rfl rfl (y_move (v := (.bool _)) rfl) ?_
        refine o_guard_yes rfl rfl ?_
        refine o_val rfl rfl rfl (y_move (v := (.slice _ _ _)) rfl) ?_
        refine o_guard_yes rfl rfl ?_
        refine o_val rfl rfl rfl (y_len Try.runUnderlying30 rfl) ?_
        refine o_guard_yes rfl rfl ?_
        refine o_val rfl rfl rfl (y_eql rfl rfl) ?_
        refine o_val rfl rfl rfl (y_pick_t (v := (.bool _)) rfl rfl) ?_
        refine o_val rfl rfl rfl (y_assign (v := (.bool _)) rfl) ?_
        refine o_nil ?_
        refine s_ret ?_
        exact ⟨_, _, res1 rfl rfl, ⟨congrArg Value.bool (decide_eq_true (congrArg Nat.cast (hno (by rw [h3]; exact h2)))), rfl⟩, sub_front ⟨_, rfl⟩⟩
      · exact absurd (by first | exact pk_first h1 | exact pk_second h1) p12
    · have h2 := Decidable.not_not.1 h10
      refine s_skip ?_
      refine s_seq ?_
      refine s_region ?_
      refine o_val rfl rfl rfl (y_move (v := (.int _ _)) rfl) ?_
      refine o_split rfl rfl rfl (y_eql rfl rfl) (fun p13 => ?_) (fun p14 => ?_)
      · have hz := p13
        refine o_val rfl rfl rfl (y_move (v := (.bool _)) rfl) ?_
        refine o_guard_yes rfl rfl ?_
        refine o_val rfl rfl rfl (y_move (v := (.slice _ _ _)) rfl) ?_
        refine o_guard_yes rfl rfl ?_
        refine o_val rfl rfl rfl (y_move (v := (.slice _ _ _)) rfl) ?_
        refine o_guard_yes rfl rfl ?_
        refine o_val rfl rfl rfl (y_move (v := (.slice _ _ _)) rfl) ?_
        refine o_guard_yes rfl rfl ?_
        refine o_fn 0 (d := 47) rfl Try.call22 (Packed_c _ _ l h.here.down hb _ _ l' h'.here.down hb' (pk_ok hz).1 (pk_ok hz).2) rfl ?_
        rintro _ _ ⟨R2, n2, e2, bs2, G2, rfl, hos2, hW2, rfl⟩
        refine o_guard_yes rfl rfl ?_
        refine o_fn 0 (d := 48) rfl Try.call21 (BEqual_c _ _ _ bs (hos.cels (j := 1) rfl).down (by simpa using hos.len) (hyes hz).2.1 _ _ _ bs2 (hos2.cels (j := 0) rfl).down (by simpa using hos2.len) hW2.2.1) rfl ?_
        rintro _ _ ⟨rfl, rfl⟩
        refine o_val rfl rfl rfl (y_pick_t (v := (.bool _)) rfl rfl) ?_
        refine o_val rfl rfl rfl (y_assign (v := (.bool _)) rfl) ?_
        refine o_nil ?_
        refine s_ret ?_
        exact ⟨_, _, res1 rfl rfl, ⟨congrArg Value.bool (decide_eq_true ((hyes hz).unique hW2)), rfl⟩, sub_front ⟨_, rfl⟩⟩
      · exact absurd (by first | exact (pk_first h1).trans h2 | exact (pk_second h1).trans h2) p14

end Go.Proofs.Ytppciokaldmipaa.K

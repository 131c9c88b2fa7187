/- Walks: packets of an end. No condition beyond what each statement names. -/
import Derived.Test.YtdgmocibjjkghaaProg
import Derived.Test.YtdgmocibjjkghaaK14
import Derived.Test.YtdgmocibjjkghaaB9
import Derived.Test.YtdgmocibjjkghaaN1
import Derived.Test.YtdgmocibjjkghaaN3
import Derived.Test.YtdgmocibjjkghaaN4
import Derived.Test.YtdgmocibjjkghaaL1
import Derived.Test.YtdgmocibjjkghaaL2
import Derived.Test.YtdgmocibjjkghaaL3
import Derived.Test.YtdgmocibjjkghaaL4
import Derived.Test.YtdgmocibjjkghaaL5
set_option linter.unusedVariables false
set_option linter.unusedSimpArgs false
set_option maxRecDepth 100000
namespace Go.Proofs.Ytdgmocibjjkghaa.K
open Go.RowKit

/-- A half's own block. -/
def halfg (b : Nat) (sA : Option Addr) (sn sc : Nat) (acked came : Int) (nA : Option Addr) (nn nc : Nat) : Grp := [(b, .cells [.slice sA sn sc, .int .i64 acked, .int .i64 came, .slice nA nn nc].toArray 62 (0, 0))]
/-- What a packet says of one message. -/
def msgB (m : List Int) : List Int := be 2 m.length ++ m
/-- A packet ahead of its sum. -/
def bodyF (next first : Nat) (ms : List (List Int)) : List Int := be 4 next ++ be 4 first ++ [((min ms.length 8 : Nat) : Int)] ++ (ms.take 8).flatMap msgB
def pktOf (next first : Nat) (ms : List (List Int)) : List Int := bodyF next first ms ++ be 8 (sumB (bodyF next first ms)).toNat
theorem flat_bd {ms : List (List Int)} {k : Nat} (h : ∀ m ∈ ms, m.length ≤ k) : ∀ i, ((ms.take i).flatMap msgB).length ≤ i * (k + 2) := by
  induction ms with
  | nil => intro i; simp
  | cons m ms ih =>
    intro i
    cases i with
    | zero => simp
    | succ i =>
      have h1 := ih (fun x hx => h x (List.mem_cons_of_mem _ hx)) i
      have h2 := h m (by simp)
      rw [List.take_succ_cons, List.flatMap_cons, List.length_append, msgB, List.length_append, be_len, Nat.succ_mul]
      omega
theorem flat_snoc {ms : List (List Int)} {i : Nat} (h : i < ms.length) : (ms.take (i + 1)).flatMap msgB = (ms.take i).flatMap msgB ++ (be 2 (ms.getD i []).length ++ ms.getD i []) := by
  rw [List.take_add_one, List.getElem?_eq_getElem h, List.flatMap_append, List.getD_eq_getElem?_getD, List.getElem?_eq_getElem h]
  simp [msgB]
theorem body_byte {next first : Nat} {ms : List (List Int)} (h : ∀ m ∈ ms, ∀ b ∈ m, 0 ≤ b ∧ b ≤ 255) : ∀ b ∈ bodyF next first ms, 0 ≤ b ∧ b ≤ 255 := by
  intro b hb
  unfold bodyF at hb
  simp only [List.mem_append, List.mem_singleton, List.mem_flatMap] at hb
  rcases hb with ((hb | hb) | hb) | ⟨m, hm, hb⟩
  · exact be_byte _ _ _ hb
  · exact be_byte _ _ _ hb
  · omega
  · unfold msgB at hb
    rcases List.mem_append.1 hb with hb | hb
    · exact be_byte _ _ _ hb
    · exact h m (List.mem_of_mem_take hm) b hb
theorem pkt_byte {next first : Nat} {ms : List (List Int)} (h : ∀ m ∈ ms, ∀ b ∈ m, 0 ≤ b ∧ b ≤ 255) : ∀ b ∈ pktOf next first ms, 0 ≤ b ∧ b ≤ 255 := by
  intro b hb
  unfold pktOf at hb
  rcases List.mem_append.1 hb with hb | hb
  · exact body_byte h b hb
  · exact be_byte _ _ _ hb
theorem body_len (next first : Nat) (ms : List (List Int)) : (bodyF next first ms).length = 9 + ((ms.take 8).flatMap msgB).length := by
  simp [bodyF, be_len]; omega
theorem pkt_len (next first : Nat) (ms : List (List Int)) : (pktOf next first ms).length = 17 + ((ms.take 8).flatMap msgB).length := by
  rw [pktOf, List.length_append, be_len, body_len]; omega
theorem bl_bd {PG : Grp} {fs : List FL} (h : ∀ f ∈ fs, BlIn PG f) : (∀ m ∈ fs.map (·.bs), m.length ≤ 65535) ∧ ∀ m ∈ fs.map (·.bs), ∀ b ∈ m, 0 ≤ b ∧ b ≤ 255 := by
  constructor
  · intro m hm
    obtain ⟨f, hf, rfl⟩ := List.mem_map.1 hm
    have := h f hf
    rw [this.1]; exact this.2.2.1
  · intro m hm
    obtain ⟨f, hf, rfl⟩ := List.mem_map.1 hm
    exact (h f hf).2.2.2.2
/-- The state of the loop that writes messages. -/
structure OL where
  i : Nat
  A : Option Addr
  c : Nat
  bs : List Int
  E : Grp
structure OM where
  j : Nat
  A : Option Addr
  c : Nat
  bs : List Int
  E : Grp

theorem take_same {α : Type} {l : List α} {i : Nat} (h : i = (min ((l.length : Nat) : Int) 8).toNat) : l.take i = l.take 8 := by
  by_cases h8 : l.length ≤ 8
  · rw [List.take_of_length_le (by omega), List.take_of_length_le h8]
  · rw [show i = 8 by omega]

theorem OutL_k0 (v0 : Int) (w : World) : (Instr.buildSlice 29 1 ([(0, (.int .u8 v0))] : List (Nat × Value)).toArray).run Try.prog w = .ok (.slice (some ⟨w.heap.size, 0, none⟩) 1 1) { w with heap := w.heap.push (.cells ([.int .u8 v0] : List Value).toArray 5 (0, 0)) } := by kernel_rfl
theorem OutL_k1 (v0 : Int) (v1 : Int) (w : World) : (Instr.buildSlice 29 2 ([(0, (.int .u8 v0)), (1, (.int .u8 v1))] : List (Nat × Value)).toArray).run Try.prog w = .ok (.slice (some ⟨w.heap.size, 0, none⟩) 2 2) { w with heap := w.heap.push (.cells ([.int .u8 v0, .int .u8 v1] : List Value).toArray 5 (0, 0)) } := by kernel_rfl
theorem OutL_c {V : Mem} (b : Nat) (first : Nat) (wA : Option Addr) (wn wc : Nat) (next : Nat) (gA : Option Addr) (gn gc : Nat) (ws : List FL) (WG PG : Grp) (how : OS wA wn wc 29 1 ((ws).flatMap encB) WG) (hin : ∀ f ∈ ws, BlIn PG f) (hf : first ≤ 1000000 ∧ next ≤ 1000000) : CallS Try.prog 31 [.pointer (some ⟨b, 0, none⟩)].toArray V [endg b first wA wn wc next gA gn gc, WG, PG] (fun r L' => ∃ (B : Option Addr) (c : Nat) (E : Grp), r = .slice B (pktOf next first (ws.map (·.bs))).length c ∧ OS B (pktOf next first (ws.map (·.bs))).length c 5 1 (((pktOf next first (ws.map (·.bs)))).map (.int .u8)) E ∧ L' = [endg b first wA wn wc next gA gn gc, WG, PG, E]) := by
  have hwl := osl_len how
  refine callS Try.func31 rfl rfl (fun w0 => ?_)
  refine s_seq ?_
  refine s_region ?_
  refine o_val rfl rfl rfl (y_assign (v := (.slice _ _ _)) rfl) ?_
  refine o_nil ?_
  refine s_seq ?_
  refine s_region ?_
  refine o_val rfl rfl rfl (y_move (v := (.pointer _)) rfl) ?_
  refine o_val rfl rfl rfl (y_nilCheck rfl) ?_
  refine o_val rfl rfl rfl (y_field0 Try.runUnderlying143 rfl Try.sizeOf60 rfl rfl) ?_
  refine o_val rfl rfl rfl (y_load Try.isAgg60 rfl (cel_own 0 rfl rfl)) ?_
  refine o_val rfl rfl rfl (y_len Try.runUnderlying60 rfl) ?_
  refine o_val rfl rfl rfl (y_min rfl rfl) ?_
  refine o_val rfl rfl rfl (y_assign (v := (.int _ _)) rfl) ?_
  refine o_nil ?_
  refine s_seq ?_
  refine s_drawn 0 (by kernel_rfl) ?_
  refine d_val (i := 0) rfl (by kernel_rfl) (by kernel_rfl) (by kernel_rfl) rfl rfl rfl (y_move (v := (.pointer _)) rfl) ?_
  refine d_val (i := 1) rfl (by kernel_rfl) (by kernel_rfl) (by kernel_rfl) rfl rfl rfl (y_nilCheck rfl) ?_
  refine d_val (i := 2) rfl (by kernel_rfl) (by kernel_rfl) (by kernel_rfl) rfl rfl rfl (y_field0 Try.runUnderlying143 rfl Try.sizeOf3 rfl rfl) ?_
  refine d_val (i := 3) rfl (by kernel_rfl) (by kernel_rfl) (by kernel_rfl) rfl rfl rfl (y_load Try.isAgg3 rfl (cel_own 0 rfl rfl)) ?_
  refine d_val (i := 5) rfl (by kernel_rfl) (by kernel_rfl) (by kernel_rfl) rfl rfl rfl (y_move (v := (.pointer _)) rfl) ?_
  refine d_val (i := 6) rfl (by kernel_rfl) (by kernel_rfl) (by kernel_rfl) rfl rfl rfl (y_nilCheck rfl) ?_
  refine d_val (i := 7) rfl (by kernel_rfl) (by kernel_rfl) (by kernel_rfl) rfl rfl rfl (y_field0 Try.runUnderlying143 rfl Try.sizeOf3 rfl rfl) ?_
  refine d_val (i := 8) rfl (by kernel_rfl) (by kernel_rfl) (by kernel_rfl) rfl rfl rfl (y_load Try.isAgg3 rfl (cel_own 0 rfl rfl)) ?_
  refine d_eff (k := 4) (n := 0) (m := 3) rfl (by kernel_rfl) rfl ?_
  refine o_newgroup ?_
  refine o_pull 3 ?_
  refine o_fn 1 (d := 19) rfl Try.call74 (NumberL_c none 0 0 [] [] (OS.nil _ _) (by decide) next (by omega)) rfl ?_
  rintro _ _ ⟨nA1, nc1, nE1, rfl, hn1, rfl⟩
  refine o_nil ?_
  refine d_eff (k := 9) (n := 1) (m := 3) rfl (by kernel_rfl) rfl ?_
  refine o_fn 1 (d := 24) rfl Try.call74 (NumberL_c nA1 4 nc1 _ nE1 hn1 (by decide) first (by omega)) rfl ?_
  rintro _ _ ⟨nA2, nc2, nE2, rfl, hn2, rfl⟩
  refine o_nil ?_
  refine d_val (i := 10) rfl (by kernel_rfl) (by kernel_rfl) (by kernel_rfl) rfl rfl rfl (y_assign (v := (.slice _ _ _)) rfl) ?_
  refine d_nil (n := 1) (m := 3) (by kernel_rfl) rfl ?_
  refine s_forget [(0, (.pointer _)), (2, (.slice _ _ _)), (3, (.int _ _)), (4, (.slice _ _ _))] ⟨rfl, rfl, rfl, rfl, trivial⟩ (fun _f => ?_)
  refine s_seq ?_
  refine s_region ?_
  refine o_val rfl rfl rfl (y_move (v := (.slice _ _ _)) rfl) ?_
  refine o_val rfl rfl rfl (y_move (v := (.int _ _)) rfl) ?_
  refine o_val rfl rfl rfl (y_conv Try.runUnderlying3 Try.runUnderlying5 rfl (by simp only [inK]; omega)) ?_
  refine o_lit (vs := [(0, .int _ _)]) rfl rfl (OutL_k0 _) (fun b1 => ?_)
  refine o_append (sz := 1) (bytes := 1) (news := [(.int _ _)]) 0 rfl Try.underlying29 Try.type5 rfl rfl rfl rfl rfl hn2 rfl rfl (Src.slice Try.underlying29 (cels_own 4 rfl rfl) rfl (by simp [Value.oneCell']) (by simp)) (by omega) (fun A2 c3 E4 ho5 hn6 => ?_)
  have ho7 : OS A2 (4 + 4 + 1) c3 5 1 ((be 4 next ++ be 4 first ++ [((min (ws.map (·.bs)).length 8 : Nat) : Int)]).map (.int .u8)) E4 := (by have hh := os_app_int (cs := [_]) ho5; rw [show min (wn : Int) 8 = ((min (ws.map (·.bs)).length 8 : Nat) : Int) by rw [List.length_map]; omega] at hh; exact hh)
  clear ho5
  refine o_val rfl rfl rfl (y_assign (v := (.slice _ _ _)) rfl) ?_
  refine o_nil ?_
  refine s_norm [_, [(_, .cells [(.int _ _), (.slice _ _ _), (.int _ _), (.slice _ _ _)].toArray 143 (0, 0))], _, _, [(_, .cells [(.int _ _)].toArray 5 (0, 0))]] rfl ?_
  refine s_seq ?_
  refine s_seq ?_
  refine s_region ?_
  refine o_val rfl rfl rfl (y_move (v := (.pointer _)) rfl) ?_
  refine o_val rfl rfl rfl (y_nilCheck rfl) ?_
  refine o_val rfl rfl rfl (y_field0 Try.runUnderlying143 rfl Try.sizeOf60 rfl rfl) ?_
  refine o_val rfl rfl rfl (y_load Try.isAgg60 rfl (cel_own 1 rfl rfl)) ?_
  refine o_val rfl rfl rfl (y_move (v := (.int _ _)) rfl) ?_
  refine o_val rfl rfl rfl (y_cut_hi Try.runUnderlying60 Try.sizeOf29 rfl rfl (by have := how.2.1; omega)) ?_
  refine o_val rfl rfl rfl (y_len Try.runUnderlying60 rfl) ?_
  refine o_val rfl rfl rfl (y_move (v := (.int _ _)) rfl) ?_
  refine o_nil ?_
  refine s_block ?_
  refine s_sub_picks [1, 1, 1, 0] rfl ?_
  refine s_loop (γ := OL) (fun u => [(0, .pointer (some ⟨b, 0, none⟩)), (4, .slice u.A u.bs.length u.c), (35, .slice wA (min ((wn : Nat) : Int) 8).toNat wc), (36, .int .i64 ((min ((wn : Nat) : Int) 8).toNat : Nat)), (37, .int .i64 u.i)]) (fun u => [endg b first wA wn wc next gA gn gc, WG, PG, u.E]) (fun u => u.i ≤ (min ((wn : Nat) : Int) 8).toNat ∧ u.bs = (be 4 next ++ be 4 first ++ [((min (ws.map (·.bs)).length 8 : Nat) : Int)]) ++ ((ws.map (·.bs)).take u.i).flatMap msgB ∧ OS u.A u.bs.length u.c 5 1 ((u.bs).map (.int .u8)) u.E) (fun u => (min ((wn : Nat) : Int) 8).toNat - u.i) (OL.mk 0 A2 c3 (be 4 next ++ be 4 first ++ [((min (ws.map (·.bs)).length 8 : Nat) : Int)]) E4) ?_ ⟨rfl, (congrArg (fun x : Nat => Value.slice A2 x c3) (by dsimp only; simp only [List.length_append, be_len, List.length_singleton])), rfl, rfl, rfl, trivial⟩ (sub_front ⟨_, rfl⟩) ?_
  · exact ⟨Nat.zero_le _, by simp, (by dsimp only; simp only [List.length_append, be_len, List.length_singleton]; exact ho7)⟩
  · intro u _f hJ
    obtain ⟨hi, hbs, ho⟩ := hJ
    have hbd := flat_bd (bl_bd hin).1 u.i
    have hul := congrArg List.length hbs
    simp only [List.length_append, be_len, List.length_singleton] at hul
    have hi8 : u.i ≤ 8 := by omega
    have hbd8 : u.i * (65535 + 2) ≤ 8 * (65535 + 2) := Nat.mul_le_mul_right _ hi8
    refine s_seq ?_
    refine s_region ?_
    refine o_val rfl rfl rfl (y_lss rfl rfl) ?_
    refine o_nil ?_
    refine s_seq ?_
    refine s_if rfl (fun h8 => ?_) (fun h9 => ?_)
    · refine s_skip ?_
      refine s_seq ?_
      refine s_block ?_
      refine s_seq ?_
      refine s_region ?_
      refine o_val rfl rfl rfl (y_index1 Try.runUnderlying60 Try.sizeOf29 (how.some_of (by omega)) rfl rfl (by omega)) ?_
      refine o_val rfl rfl rfl (y_load Try.isAgg29 rfl (cel_B (how.cels (j := 1) rfl) (by omega))) ?_
      refine o_val rfl rfl rfl (y_assign (v := (.slice _ _ _)) rfl) ?_
      refine o_nil ?_
      refine s_region ?_
      have hmm := getD_memF (ss := ws) (k := u.i) (by omega)
      have hmn : (ws.getD ((u.i : Nat) : Int).toNat default).bs.length = (ws.getD ((u.i : Nat) : Int).toNat default).n := (hin _ hmm).1
      have hm65 : (ws.getD ((u.i : Nat) : Int).toNat default).n ≤ 65535 := (hin _ hmm).2.2.1
      refine o_val rfl rfl rfl (y_move (v := (.slice _ _ _)) rfl) ?_
      refine o_val rfl rfl rfl (y_move (v := (.slice _ _ _)) rfl) ?_
      refine o_val rfl rfl rfl (y_len Try.runUnderlying29 rfl) ?_
      refine o_val rfl rfl rfl (y_shr rfl rfl (by omega)) ?_
      refine o_val rfl rfl rfl (y_conv' Try.runUnderlying3 Try.runUnderlying5 rfl) ?_
      refine o_val rfl rfl rfl (y_move (v := (.slice _ _ _)) rfl) ?_
      refine o_val rfl rfl rfl (y_len Try.runUnderlying29 rfl) ?_
      refine o_val rfl rfl rfl (y_conv' Try.runUnderlying3 Try.runUnderlying5 rfl) ?_
      refine o_lit (vs := [(0, .int _ _), (1, .int _ _)]) rfl rfl (OutL_k1 _ _) (fun b10 => ?_)
      refine o_append (sz := 1) (bytes := 1) (news := [(.int _ _), (.int _ _)]) 3 rfl Try.underlying29 Try.type5 rfl rfl rfl rfl rfl ho rfl rfl (Src.slice Try.underlying29 (cels_own 4 rfl rfl) rfl (by simp [Value.oneCell']) (by simp)) (by omega) (fun A11 c12 E13 ho14 hn15 => ?_)
      have ho16 : OS A11 (u.bs.length + 2) c12 5 1 ((u.bs ++ be 2 (ws.getD ((u.i : Nat) : Int).toNat default).n).map (.int .u8)) E13 := (by have hh := os_app_int (cs := [_, _]) ho14; rw [be2] at hh; exact hh)
      clear ho14
      refine o_val rfl rfl rfl (y_move (v := (.slice _ _ _)) rfl) ?_
      refine o_append (sz := 1) (bytes := 1) (news := ((ws.getD ((u.i : Nat) : Int).toNat default).bs).map (.int .u8)) 3 rfl Try.underlying29 Try.type5 rfl rfl rfl rfl rfl ho16 rfl rfl (Src.rd (sz := 0) Try.underlying29 ((hin _ hmm).cels (j := 2) rfl) (by rw [List.length_map]; omega) (one_int _ _)) (by omega) (fun A17 c18 E19 ho20 hn21 => ?_)
      have ho22 : OS A17 (u.bs.length + 2 + (ws.getD ((u.i : Nat) : Int).toNat default).n) c18 5 1 ((u.bs ++ be 2 (ws.getD ((u.i : Nat) : Int).toNat default).n ++ (ws.getD ((u.i : Nat) : Int).toNat default).bs).map (.int .u8)) E19 := (os_app_int ho20)
      clear ho20
      refine o_val rfl rfl rfl (y_assign (v := (.slice _ _ _)) rfl) ?_
      refine o_nil ?_
      refine s_norm [[(_, .cells [(.int _ _), (.slice _ _ _), (.int _ _), (.slice _ _ _)].toArray 143 (0, 0))], _, _, _, [(_, .cells [(.int _ _), (.int _ _)].toArray 5 (0, 0))]] rfl ?_
      refine s_region ?_
      refine o_val rfl rfl rfl (y_add rfl rfl (by simp only [inK]; omega)) ?_
      refine o_val rfl rfl rfl (y_move (v := (.int _ _)) rfl) ?_
      refine o_nil ?_
      have hsn := flat_snoc (ms := (ws.map (·.bs))) (i := u.i) (by rw [List.length_map]; omega)
      rw [map_getD (by omega)] at hsn
      exact ⟨OL.mk (u.i + 1) A17 c18 (u.bs ++ be 2 (ws.getD ((u.i : Nat) : Int).toNat default).n ++ (ws.getD ((u.i : Nat) : Int).toNat default).bs) E19, (by first | omega | (dsimp only; omega)), ⟨by dsimp only; omega, (by dsimp only; rw [hsn, hbs, hmn]; simp only [List.append_assoc]), (by dsimp only; simp only [List.length_append, be_len, hmn]; exact ho22)⟩, ⟨rfl, (congrArg (fun x : Nat => Value.slice A17 x c18) (by dsimp only; simp only [List.length_append, be_len, hmn])), rfl, rfl, (congrArg (Value.int .i64) (by dsimp only; omega)), trivial⟩, sub_front ⟨_, rfl⟩⟩
    · refine s_exit ?_
      refine s_seq ?_
      refine s_region ?_
      have hby : ∀ b ∈ u.bs, 0 ≤ b ∧ b ≤ 255 := by
        have hb0 := body_byte (next := next) (first := first) (bl_bd hin).2
        unfold bodyF at hb0
        rw [hbs, take_same (l := (ws.map (·.bs))) (i := u.i) (by rw [List.length_map]; omega)]
        exact hb0
      refine o_val rfl rfl rfl (y_move (v := (.slice _ _ _)) rfl) ?_
      refine o_fn 0 (d := 55) rfl Try.call75 (SumBytes_c u.A u.bs.length u.c u.bs ⟨rfl, ho.2.1, (ho.cels (j := 3) rfl).down, hby⟩ (by omega)) rfl ?_
      rintro _ _ ⟨rfl, rfl⟩
      have hs0 := sumB_in u.bs
      refine o_val rfl rfl rfl (y_assign (v := (.int _ _)) rfl) ?_
      refine o_nil ?_
      refine s_seq ?_
      refine s_seq ?_
      refine s_region ?_
      refine o_val rfl rfl rfl (y_assign (v := (.int _ _)) rfl) ?_
      refine o_nil ?_
      refine s_block ?_
      refine s_loop (γ := OM) (fun v => [(4, .slice v.A v.bs.length v.c), (7, .int .u64 (sumB u.bs)), (8, .int .i64 (56 - 8 * ((v.j : Nat) : Int)))]) (fun v => [endg b first wA wn wc next gA gn gc, WG, PG, v.E]) (fun v => v.j ≤ 8 ∧ v.bs = u.bs ++ (be 8 (sumB u.bs).toNat).take v.j ∧ OS v.A v.bs.length v.c 5 1 ((v.bs).map (.int .u8)) v.E) (fun v => 8 - v.j) (OM.mk 0 u.A u.c u.bs u.E) ?_ ⟨rfl, rfl, rfl, trivial⟩ (sub_front ⟨_, rfl⟩) ?_
      · exact ⟨Nat.zero_le _, by simp, ho⟩
      · intro v _f hJ2
        obtain ⟨hj, hvb, ho2⟩ := hJ2
        have hvl := congrArg List.length hvb
        rw [List.length_append, List.length_take, be_len] at hvl
        refine s_seq ?_
        refine s_seq ?_
        refine s_region ?_
        refine o_val rfl rfl rfl (y_move (v := (.int _ _)) rfl) ?_
        refine o_val rfl rfl rfl (y_geq rfl rfl) ?_
        refine o_nil ?_
        refine s_if rfl (fun h23 => ?_) (fun h24 => ?_)
        · refine s_skip ?_
          refine s_seq ?_
          refine s_block ?_
          refine s_region ?_
          refine o_val rfl rfl rfl (y_move (v := (.slice _ _ _)) rfl) ?_
          refine o_val rfl rfl rfl (y_move (v := (.int _ _)) rfl) ?_
          refine o_val rfl rfl rfl (y_move (v := (.int _ _)) rfl) ?_
          refine o_val rfl rfl rfl (y_shr rfl rfl (by omega)) ?_
          refine o_val rfl rfl rfl (y_conv' Try.runUnderlying89 Try.runUnderlying5 rfl) ?_
          refine o_lit (vs := [(0, .int _ _)]) rfl rfl (OutL_k0 _) (fun b25 => ?_)
          refine o_append (sz := 1) (bytes := 1) (news := [(.int _ _)]) 3 rfl Try.underlying29 Try.type5 rfl rfl rfl rfl rfl ho2 rfl rfl (Src.slice Try.underlying29 (cels_own 4 rfl rfl) rfl (by simp [Value.oneCell']) (by simp)) (by omega) (fun A26 c27 E28 ho29 hn30 => ?_)
          have ho31 : OS A26 (v.bs.length + 1) c27 5 1 ((v.bs ++ [(be 8 (sumB u.bs).toNat).getD v.j 0]).map (.int .u8)) E28 := (by have hh := os_app_int (cs := [_]) ho29; rw [byte_of hs0.1 (by omega)] at hh; exact hh)
          clear ho29
          refine o_val rfl rfl rfl (y_assign (v := (.slice _ _ _)) rfl) ?_
          refine o_nil ?_
          refine s_norm [[(_, .cells [(.int _ _), (.slice _ _ _), (.int _ _), (.slice _ _ _)].toArray 143 (0, 0))], _, _, _, [(_, .cells [(.int _ _)].toArray 5 (0, 0))]] rfl ?_
          refine s_region ?_
          refine o_val rfl rfl rfl (y_move (v := (.int _ _)) rfl) ?_
          refine o_val rfl rfl rfl (y_sub rfl rfl (by simp only [inK]; omega)) ?_
          refine o_val rfl rfl rfl (y_assign (v := (.int _ _)) rfl) ?_
          refine o_nil ?_
          have hts := take_snocI (l := be 8 (sumB u.bs).toNat) (k := v.j) (by rw [be_len]; omega)
          rw [Int.toNat_natCast] at hts
          exact ⟨OM.mk (v.j + 1) A26 c27 (v.bs ++ [(be 8 (sumB u.bs).toNat).getD v.j 0]) E28, (by first | omega | (dsimp only; omega)), ⟨by dsimp only; omega, (by dsimp only; rw [hvb, hts, List.append_assoc]), (by dsimp only; rw [List.length_append]; exact ho31)⟩, ⟨(congrArg (fun x : Nat => Value.slice A26 x c27) (by dsimp only; rw [List.length_append]; rfl)), rfl, (congrArg (Value.int .i64) (by dsimp only; omega)), trivial⟩, sub_front ⟨_, rfl⟩⟩
        · refine s_exit ?_
          refine s_seq ?_
          refine s_region ?_
          refine o_val rfl rfl rfl (y_move (v := (.slice _ _ _)) rfl) ?_
          refine o_val rfl rfl rfl (y_assign (v := (.slice _ _ _)) rfl) ?_
          refine o_nil ?_
          refine s_ret ?_
          have hj8 : v.j = 8 := by omega
          have htk : (ws.map (·.bs)).take u.i = (ws.map (·.bs)).take 8 := take_same (by rw [List.length_map]; omega)
          rw [htk] at hbs
          have hub : u.bs = bodyF next first (ws.map (·.bs)) := hbs
          rw [hj8, List.take_of_length_le (by rw [be_len]; omega), hub] at hvb
          have hvb : v.bs = (pktOf next first (ws.map (·.bs))) := hvb
          rw [hvb] at ho2
          exact ⟨_, _, res1 rfl (by rw [hvb]; rfl), ⟨_, _, _, rfl, ho2, rfl⟩, sub_picks [0, 0, 0, 0] rfl⟩

end Go.Proofs.Ytdgmocibjjkghaa.K

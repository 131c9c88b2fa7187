/- Walks over the package tourmake: kinds. No condition beyond what each statement names. -/
import Derived.Test.YtacmbiohjiogiaaProg
import Derived.Test.YtacmbiohjiogiaaK17
import Derived.Test.YtacmbiohjiogiaaM1
import Derived.Test.YtacmbiohjiogiaaM2
import Derived.Test.YtacmbiohjiogiaaW1
import Derived.Test.YtacmbiohjiogiaaW2
import Derived.Test.YtacmbiohjiogiaaW3
import Derived.Test.YtacmbiohjiogiaaW5
set_option linter.unusedVariables false
set_option linter.unusedSimpArgs false
set_option maxRecDepth 100000
set_option maxHeartbeats 1000000
namespace Go.Proofs.Ytacmbiohjiogiaa.K
open Go.RowKit

def N4 : List ByteArray := [(⟨#[115, 112, 111, 116]⟩ : ByteArray), (⟨#[108, 105, 102, 101]⟩ : ByteArray), (⟨#[116, 101, 97, 109]⟩ : ByteArray), (⟨#[103, 111, 97, 108]⟩ : ByteArray)]
def N3 : List ByteArray := [(⟨#[120]⟩ : ByteArray), (⟨#[121]⟩ : ByteArray), (⟨#[122]⟩ : ByteArray)]
def fieldG (j : Nat) (f : FR) : Prop := f.name = N3.getD j ByteArray.empty ∧ 1 ≤ f.bits ∧ f.bits ≤ 32 ∧ -4294967296 ≤ f.low ∧ f.low ≤ 4294967296
def fieldsG (fs : List FR) : Prop := ∀ j, j < fs.length → fieldG j (fs.getD j default)
def kindG (j : Nat) (k : KR) : Prop := k.name = N4.getD j ByteArray.empty ∧ 1 ≤ k.fs.length ∧ k.fs.length ≤ 3 ∧ fieldsG k.fs
/-- Kinds as the generator makes them. -/
def kindsG (ks : List KR) : Prop := ks.length ≤ 4 ∧ ∀ j, j < ks.length → kindG j (ks.getD j default)
theorem names3 : ∀ j, j < 3 → nameOK (N3.getD j ByteArray.empty) := by decide +kernel
theorem names4 : ∀ j, j < 4 → nameOK (N4.getD j ByteArray.empty) := by decide +kernel
theorem diff3 : ∀ j, j < 3 → ∀ i, i < j → N3.getD i ByteArray.empty ≠ N3.getD j ByteArray.empty := by decide +kernel
theorem diff4 : ∀ j, j < 4 → ∀ i, i < j → N4.getD i ByteArray.empty ≠ N4.getD j ByteArray.empty := by decide +kernel
theorem fieldG_ok {j : Nat} {f : FR} (h : fieldG j f) (hj : j < 3) : fOK f := ⟨h.1 ▸ names3 j hj, h.2⟩
theorem fieldsG_one {fs : List FR} (h : fieldsG fs) (hl : fs.length ≤ 3) : ∀ n, n ≤ fs.length → oneTo fs n = 0
  | 0, _ => rfl
  | n + 1, hn => by
    refine one_next (fieldsG_one h hl n (by omega)) (fun hh => hh (fErr_ok.2 (fieldG_ok (h n (by omega)) (by omega)))) ?_
    rintro ⟨i, hi, e⟩
    rw [(h i (by omega)).1, (h n (by omega)).1] at e
    exact diff3 n (by omega) i hi e
theorem kindG_one {j : Nat} {k : KR} (h : kindG j k) (hj : j < 4) : oneErr k = 0 := by
  unfold oneErr
  rw [if_neg (fun hh => hh (h.1 ▸ names4 j hj)), if_neg (by have := h.2.2.1; omega)]
  exact fieldsG_one h.2.2.2 h.2.2.1 _ (Nat.le_refl _)
theorem kindsG_ch {ks : List KR} (h : kindsG ks) : ∀ n, n ≤ ks.length → chTo ks n = 0
  | 0, _ => rfl
  | n + 1, hn => by
    have hl := h.1
    refine ch_next (kindsG_ch h n (by omega)) (fun hh => hh (kindG_one (h.2 n (by omega)) (by omega))) ?_
    rintro ⟨i, hi, e⟩
    rw [(h.2 i (by omega)).1, (h.2 n (by omega)).1] at e
    exact diff4 n (by omega) i hi e
theorem kindsG_ok {ks : List KR} (h : kindsG ks) : ckErr ks = 0 := by
  unfold ckErr
  rw [if_neg (by have := h.1; omega)]
  exact kindsG_ch h _ (Nat.le_refl _)
theorem getD_snoc {α : Type} {xs : List α} {y d : α} {j : Nat} (hj : j < xs.length + 1) : (xs ++ [y]).getD j d = if j = xs.length then y else xs.getD j d := by
  simp only [List.getD_eq_getElem?_getD, List.getElem?_append]
  by_cases e : j = xs.length
  · subst e; simp
  · rw [if_neg e, if_pos (by omega)]
theorem fieldsG_snoc {fs : List FR} {f : FR} (h : fieldsG fs) (hf : fieldG fs.length f) : fieldsG (fs ++ [f]) := fun j hj => by
  rw [List.length_append, List.length_singleton] at hj
  rw [getD_snoc hj]
  by_cases e : j = fs.length
  · rw [if_pos e, e]; exact hf
  · rw [if_neg e]; exact h j (by omega)
theorem kindsG_snoc {ks : List KR} {k : KR} (h : kindsG ks) (hl : ks.length < 4) (hk : kindG ks.length k) : kindsG (ks ++ [k]) := ⟨by simp; omega, fun j hj => by
  rw [List.length_append, List.length_singleton] at hj
  rw [getD_snoc hj]
  by_cases e : j = ks.length
  · rw [if_pos e, e]; exact hk
  · rw [if_neg e]; exact h.2 j (by omega)⟩
structure LG where
  ks : List KR
  B : Option Addr
  c : Nat
  E : Grp
  P : Grp
  S : Grp
structure LF6 where
  fs : List FR
  A : Option Addr
  c : Nat
  E : Grp
  S : Grp
structure LU6 where
  S : Grp
  k : Int
  b : Nat

theorem GenK_k0 (v0 : ByteArray) (v1 : ByteArray) (v2 : ByteArray) (v3 : ByteArray) (w : World) : (Instr.buildSlice 93 4 ([(0, (.string v0)), (1, (.string v1)), (2, (.string v2)), (3, (.string v3))] : List (Nat × Value)).toArray).run Try.prog w = .ok (.slice (some ⟨w.heap.size, 0, none⟩) 4 4) { w with heap := w.heap.push (.cells ([.string v0, .string v1, .string v2, .string v3] : List Value).toArray 9 (0, 0)) } := by kernel_rfl
theorem GenK_k1 (v0 : ByteArray) (w : World) : (Instr.build 58 ([(0, (.string v0))] : List (Nat × Value)).toArray).run Try.prog w = .ok (.agg #[.string v0, .slice none 0 0]) w := by kernel_rfl
theorem GenK_k2 (v0 : ByteArray) (v1 : ByteArray) (v2 : ByteArray) (w : World) : (Instr.buildSlice 93 3 ([(0, (.string v0)), (1, (.string v1)), (2, (.string v2))] : List (Nat × Value)).toArray).run Try.prog w = .ok (.slice (some ⟨w.heap.size, 0, none⟩) 3 3) { w with heap := w.heap.push (.cells ([.string v0, .string v1, .string v2] : List Value).toArray 9 (0, 0)) } := by kernel_rfl
theorem GenK_k3 (v0 : ByteArray) (v1 : Int) (w : World) : (Instr.build 61 ([(0, (.string v0)), (1, (.int .i64 v1))] : List (Nat × Value)).toArray).run Try.prog w = .ok (.agg #[.string v0, .int .i64 v1, .int .i64 0]) w := by kernel_rfl
theorem GenK_k4 (v0x0 : ByteArray) (v0x1 : Int) (v0x2 : Int) (w : World) : (Instr.buildSlice 56 1 ([(0, (.agg #[(.string v0x0), (.int .i64 v0x1), (.int .i64 v0x2)]))] : List (Nat × Value)).toArray).run Try.prog w = .ok (.slice (some ⟨w.heap.size, 0, none⟩) 1 1) { w with heap := w.heap.push (.cells ([.string v0x0, .int .i64 v0x1, .int .i64 v0x2] : List Value).toArray 61 (0, 0)) } := by kernel_rfl
theorem GenK_k5 (v0x0 : ByteArray) (v0x1A : Option Addr) (v0x1n : Nat) (v0x1c : Nat) (w : World) : (Instr.buildSlice 23 1 ([(0, (.agg #[(.string v0x0), (.slice v0x1A v0x1n v0x1c)]))] : List (Nat × Value)).toArray).run Try.prog w = .ok (.slice (some ⟨w.heap.size, 0, none⟩) 1 1) { w with heap := w.heap.push (.cells ([.string v0x0, .slice v0x1A v0x1n v0x1c] : List Value).toArray 58 (0, 0)) } := by kernel_rfl
theorem GenK_c {V V0 : Mem} {sb : Nat} {G : Grp} (hst : Strm V0 sb G) (hm0 : MSub V0 V) : CallS Try.prog 86 [.pointer (some ⟨sb, 0, none⟩)].toArray V [G] (fun r L' => ∃ (B : Option Addr) (c : Nat) (E P S : Grp) (ks : List KR), r = .slice B ks.length c ∧ OS B ks.length c 58 2 ((ks).flatMap encK) E ∧ (∀ x ∈ ks, KOK (inG P) x) ∧ kindsG ks ∧ 1 ≤ ks.length ∧ Strm V0 sb S ∧ L' = [S, E, P]) := by
  refine callS Try.func86 rfl rfl (fun w0 => ?_)
  refine s_seq ?_
  refine s_region ?_
  refine o_val rfl rfl rfl (y_assign (v := (.slice _ _ _)) rfl) ?_
  refine o_nil ?_
  refine s_seq ?_
  refine s_region ?_
  refine o_val rfl rfl rfl (y_assign (v := (.slice _ _ _)) rfl) ?_
  refine o_nil ?_
  refine s_seq ?_
  refine s_seq ?_
  refine s_region ?_
  refine o_val rfl rfl rfl (y_move (v := (.pointer _)) rfl) ?_
  refine o_fn 1 (d := 9) rfl Try.call87 (NextS_c hst (hm0 := (hm0.trans MSub.ext)) 4 (by omega)) rfl ?_
  rintro _ _ ⟨kn, sG', rfl, hkn0, hkn1, hst, rfl⟩
  refine o_val rfl rfl rfl (y_add rfl rfl (by simp only [inK]; omega)) ?_
  refine o_val rfl rfl rfl (y_move (v := (.int _ _)) rfl) ?_
  refine o_nil ?_
  refine s_block ?_
  refine s_group ?_
  refine s_group ?_
  refine s_loopK (γ := LG) [(0, (.pointer _)), (2, (.slice _ _ _)), (10, (.int _ _))] [] (fun g => [(3, .slice g.B g.ks.length g.c), (11, .int .i64 g.ks.length)]) (fun g => [g.S, g.E, g.P]) (fun g => ((g.ks.length : Nat) : Int) ≤ 1 + kn ∧ OS g.B g.ks.length g.c 58 2 ((g.ks).flatMap encK) g.E ∧ (∀ x ∈ g.ks, KOK (inG g.P) x) ∧ kindsG g.ks ∧ Strm V0 sb g.S) (fun g => (1 + kn - g.ks.length).toNat) (LG.mk [] none 0 [] [] sG') ⟨rfl, rfl, rfl, rfl, rfl, trivial⟩ (sub_picks [0, 0, 0] rfl) ?_ ?_
  · exact ⟨by dsimp only [List.length_nil]; omega, OS.nil _ _, fun x hx => absurd hx List.not_mem_nil, ⟨Nat.zero_le _, fun j hj => absurd hj (Nat.not_lt_zero j)⟩, hst⟩
  intro g _f hI
  refine s_norm _ (by simp only [pull, picks, setG, List.cons_append, List.nil_append, List.append_nil, List.drop_succ_cons, List.drop_zero]; rfl) ?_
  obtain ⟨hgl, hxo, hxk, hxg, hst1⟩ := hI
  refine s_seq ?_
  refine s_region ?_
  refine o_val rfl rfl rfl (y_lss rfl rfl) ?_
  refine o_nil ?_
  refine s_seq ?_
  refine s_if rfl (fun h1 => ?_) (fun h2 => ?_)
  · refine s_skip ?_
    refine s_seq ?_
    refine s_block ?_
    refine s_seq ?_
    refine s_region ?_
    refine o_val rfl rfl rfl (y_move (v := (.int _ _)) rfl) ?_
    refine o_val rfl rfl rfl (y_assign (v := (.int _ _)) rfl) ?_
    refine o_nil ?_
    refine s_seq ?_
    refine s_region ?_
    refine o_lit (vs := [(0, .string _), (1, .string _), (2, .string _), (3, .string _)]) rfl rfl (GenK_k0 _ _ _ _) (fun b3 => ?_)
    refine o_val rfl rfl rfl (y_move (v := (.int _ _)) rfl) ?_
    refine o_val rfl rfl rfl (y_index1 Try.runUnderlying93 Try.sizeOf9 (rfl) rfl rfl (by omega)) ?_
    refine o_val rfl rfl rfl (y_load Try.isAgg9 rfl (cel_str ((OS.lit (T := 9) (sz := 1) (n := 4) (l := (N4).map .string) rfl (by decide)).cels (j := 3) rfl) (by show _ < 4; omega))) ?_
    refine o_val rfl rfl rfl (y_build (vs := [(0, .string _)]) rfl (GenK_k1 _)) ?_
    refine o_alloc rfl Try.zeroValue58 rfl (fun b4 => ?_)
    refine o_stores (vs := [(.string _), (.slice _ _ _)]) 4 rfl Try.sizeOf58 rfl rfl rfl (by simp [Value.oneCell']) (by simp) ?_
    refine o_nil ?_
    refine s_forget [(0, (.pointer _)), (2, (.slice _ _ _)), (3, (.slice _ _ _)), (5, (.pointer _)), (10, (.int _ _)), (11, (.int _ _))] ⟨rfl, rfl, rfl, rfl, rfl, rfl, trivial⟩ (fun _f => ?_)
    refine s_seq ?_
    refine s_seq ?_
    refine s_region ?_
    refine o_val rfl rfl rfl (y_move (v := (.pointer _)) rfl) ?_
    refine o_fn 1 (d := 20) rfl Try.call87 (NextS_c hst1 (hm0 := (hm0.trans MSub.ext)) 3 (by omega)) rfl ?_
    rintro _ _ ⟨fn, sG', rfl, hfn0, hfn1, hst1, rfl⟩
    refine o_val rfl rfl rfl (y_add rfl rfl (by simp only [inK]; omega)) ?_
    refine o_val rfl rfl rfl (y_move (v := (.int _ _)) rfl) ?_
    refine o_nil ?_
    refine s_block ?_
    refine s_group ?_
    refine s_loopK (γ := LF6) [(0, (.pointer _)), (2, (.slice _ _ _)), (3, (.slice _ _ _)), (5, (.pointer _)), (10, (.int _ _)), (11, (.int _ _)), (21, (.int _ _))] [_, _] (fun u => [(22, .int .i64 u.fs.length)]) (fun u => [u.S, [(b4, .cells [.string (N4.getD ((g.ks.length : Nat) : Int).toNat ByteArray.empty), .slice u.A u.fs.length u.c].toArray 58 (0, 0))], u.E]) (fun u => ((u.fs.length : Nat) : Int) ≤ 1 + fn ∧ OS u.A u.fs.length u.c 61 3 ((u.fs).flatMap encF) u.E ∧ fieldsG u.fs ∧ Strm V0 sb u.S) (fun u => (1 + fn - u.fs.length).toNat) (LF6.mk [] none 0 [] sG') ⟨rfl, rfl, rfl, rfl, rfl, rfl, rfl, rfl, trivial⟩ (sub_picks [0, 3, 3, 0, 0] rfl) ?_ ?_
    · exact ⟨by dsimp only [List.length_nil]; omega, OS.nil _ _, fun j hj => absurd hj (Nat.not_lt_zero j), hst1⟩
    intro u _f hJ
    refine s_norm _ (by simp only [pull, picks, setG, List.cons_append, List.nil_append, List.append_nil, List.drop_succ_cons, List.drop_zero]; rfl) ?_
    obtain ⟨hul, hfo, hfg, hst1⟩ := hJ
    refine s_seq ?_
    refine s_region ?_
    refine o_val rfl rfl rfl (y_lss rfl rfl) ?_
    refine o_nil ?_
    refine s_seq ?_
    refine s_if rfl (fun h5 => ?_) (fun h6 => ?_)
    · refine s_skip ?_
      refine s_seq ?_
      refine s_block ?_
      refine s_seq ?_
      refine s_region ?_
      refine o_val rfl rfl rfl (y_move (v := (.int _ _)) rfl) ?_
      refine o_val rfl rfl rfl (y_assign (v := (.int _ _)) rfl) ?_
      refine o_nil ?_
      refine s_joinK (γ := LU6) [(0, (.pointer _)), (2, (.slice _ _ _)), (3, (.slice _ _ _)), (5, (.pointer _)), (10, (.int _ _)), (11, (.int _ _)), (21, (.int _ _)), (22, (.int _ _))] [_, _] (fun v => [(7, .pointer (some ⟨v.b, 0, none⟩))]) (fun v => [v.S, [(v.b, .cells [.string (N3.getD ((u.fs.length : Nat) : Int).toNat ByteArray.empty), .int .i64 (1 + v.k), .int .i64 0].toArray 61 (0, 0))], u.E, [(b4, .cells [.string (N4.getD ((g.ks.length : Nat) : Int).toNat ByteArray.empty), .slice u.A u.fs.length u.c].toArray 58 (0, 0))]]) (fun v => Strm V0 sb v.S ∧ 0 ≤ v.k ∧ v.k < 9) ⟨rfl, rfl, rfl, rfl, rfl, rfl, rfl, rfl, trivial⟩ [3, 3] rfl ?_ ?_
      · refine s_drawn 1 (by kernel_rfl) ?_
        refine d_val (i := 1) rfl (by kernel_rfl) (by kernel_rfl) (by kernel_rfl) rfl rfl rfl (y_move (v := (.int _ _)) rfl) ?_
        refine d_val (i := 4) rfl (by kernel_rfl) (by kernel_rfl) (by kernel_rfl) rfl rfl rfl (y_move (v := (.pointer _)) rfl) ?_
        refine d_eff3 (k := 0) (k' := 5) (k'' := 8) (n := 1) (m := 4) rfl rfl rfl (by kernel_rfl) rfl ?_ ?_ ?_
        · refine o_lit (vs := [(0, .string _), (1, .string _), (2, .string _)]) rfl rfl (GenK_k2 _ _ _) (fun b7 => ?_)
          refine o_nil ?_
          refine d_val (i := 2) rfl (by kernel_rfl) (by kernel_rfl) (by kernel_rfl) rfl rfl rfl (y_index1 Try.runUnderlying93 Try.sizeOf9 (rfl) rfl rfl (by omega)) ?_
          refine d_eff3 (k := 3) (k' := 5) (k'' := 8) (n := 1) (m := 4) rfl rfl rfl (by kernel_rfl) rfl ?_ ?_ ?_
          · refine o_val rfl rfl rfl (y_load Try.isAgg9 rfl (cel_str ((OS.lit (T := 9) (sz := 1) (n := 3) (l := (N3).map .string) rfl (by decide)).cels (j := 5) rfl) (by show _ < 3; omega))) ?_
            refine o_nil ?_
            refine d_eff2 (k := 5) (k' := 8) (n := 1) (m := 4) rfl rfl (by kernel_rfl) rfl ?_ ?_
            · refine o_fn 1 (d := 30) rfl Try.call87 (NextS_c hst1 (hm0 := (hm0.trans MSub.ext)) 9 (by omega)) rfl ?_
              rintro _ _ ⟨bt, sG', rfl, hbt0, hbt1, hst1, rfl⟩
              refine o_nil ?_
              refine d_val (i := 6) rfl (by kernel_rfl) (by kernel_rfl) (by kernel_rfl) rfl rfl rfl (y_add rfl rfl (by simp only [inK]; omega)) ?_
              refine d_val (i := 7) rfl (by kernel_rfl) (by kernel_rfl) (by kernel_rfl) rfl rfl rfl (y_build (vs := [(0, .string _), (1, .int _ _)]) rfl (GenK_k3 _ _)) ?_
              refine d_eff (k := 8) (n := 1) (m := 4) rfl (by kernel_rfl) rfl ?_
              refine o_alloc rfl Try.zeroValue61 rfl (fun b8 => ?_)
              refine o_nil ?_
              refine d_eff (k := 9) (n := 1) (m := 4) rfl (by kernel_rfl) rfl ?_
              refine o_stores (vs := [(.string _), (.int _ _), (.int _ _)]) 6 rfl Try.sizeOf61 rfl rfl rfl (by simp [Value.oneCell']) (by simp) ?_
              refine o_nil ?_
              refine d_nil (n := 1) (m := 4) (by kernel_rfl) rfl ?_
              exact ⟨⟨sG', bt, b8⟩, ⟨hst1, hbt0, hbt1 (by decide)⟩, ⟨rfl, rfl, rfl, rfl, rfl, rfl, rfl, rfl, rfl, trivial⟩, (sub_picks [0, 5, 1, 0, 0, 0] rfl)⟩
            · refine o_alloc rfl Try.zeroValue61 rfl (fun b9 => ?_)
              refine o_nil ?_
              refine d_eff (k := 5) (n := 1) (m := 4) rfl (by kernel_rfl) rfl ?_
              refine o_fn 1 (d := 30) rfl Try.call87 (NextS_c hst1 (hm0 := (hm0.trans MSub.ext)) 9 (by omega)) rfl ?_
              rintro _ _ ⟨bt, sG', rfl, hbt0, hbt1, hst1, rfl⟩
              refine o_nil ?_
              refine d_val (i := 6) rfl (by kernel_rfl) (by kernel_rfl) (by kernel_rfl) rfl rfl rfl (y_add rfl rfl (by simp only [inK]; omega)) ?_
              refine d_val (i := 7) rfl (by kernel_rfl) (by kernel_rfl) (by kernel_rfl) rfl rfl rfl (y_build (vs := [(0, .string _), (1, .int _ _)]) rfl (GenK_k3 _ _)) ?_
              refine d_eff (k := 9) (n := 1) (m := 4) rfl (by kernel_rfl) rfl ?_
              refine o_stores (vs := [(.string _), (.int _ _), (.int _ _)]) 6 rfl Try.sizeOf61 rfl rfl rfl (by simp [Value.oneCell']) (by simp) ?_
              refine o_nil ?_
              refine d_nil (n := 1) (m := 4) (by kernel_rfl) rfl ?_
              exact ⟨⟨sG', bt, b9⟩, ⟨hst1, hbt0, hbt1 (by decide)⟩, ⟨rfl, rfl, rfl, rfl, rfl, rfl, rfl, rfl, rfl, trivial⟩, (sub_picks [0, 5, 1, 0, 0, 0] rfl)⟩
          · refine o_fn 1 (d := 30) rfl Try.call87 (NextS_c hst1 (hm0 := (hm0.trans MSub.ext)) 9 (by omega)) rfl ?_
            rintro _ _ ⟨bt, sG', rfl, hbt0, hbt1, hst1, rfl⟩
            refine o_nil ?_
            refine d_val (i := 6) rfl (by kernel_rfl) (by kernel_rfl) (by kernel_rfl) rfl rfl rfl (y_add rfl rfl (by simp only [inK]; omega)) ?_
            refine d_eff2 (k := 3) (k' := 8) (n := 1) (m := 4) rfl rfl (by kernel_rfl) rfl ?_ ?_
            · refine o_val rfl rfl rfl (y_load Try.isAgg9 rfl (cel_str ((OS.lit (T := 9) (sz := 1) (n := 3) (l := (N3).map .string) rfl (by decide)).cels (j := 5) rfl) (by show _ < 3; omega))) ?_
              refine o_nil ?_
              refine d_val (i := 7) rfl (by kernel_rfl) (by kernel_rfl) (by kernel_rfl) rfl rfl rfl (y_build (vs := [(0, .string _), (1, .int _ _)]) rfl (GenK_k3 _ _)) ?_
              refine d_eff (k := 8) (n := 1) (m := 4) rfl (by kernel_rfl) rfl ?_
              refine o_alloc rfl Try.zeroValue61 rfl (fun b10 => ?_)
              refine o_nil ?_
              refine d_eff (k := 9) (n := 1) (m := 4) rfl (by kernel_rfl) rfl ?_
              refine o_stores (vs := [(.string _), (.int _ _), (.int _ _)]) 6 rfl Try.sizeOf61 rfl rfl rfl (by simp [Value.oneCell']) (by simp) ?_
              refine o_nil ?_
              refine d_nil (n := 1) (m := 4) (by kernel_rfl) rfl ?_
              exact ⟨⟨sG', bt, b10⟩, ⟨hst1, hbt0, hbt1 (by decide)⟩, ⟨rfl, rfl, rfl, rfl, rfl, rfl, rfl, rfl, rfl, trivial⟩, (sub_picks [0, 5, 1, 0, 0, 0] rfl)⟩
            · refine o_alloc rfl Try.zeroValue61 rfl (fun b11 => ?_)
              refine o_nil ?_
              refine d_now (i := 3) [] rfl (by kernel_rfl) (by kernel_rfl) (by kernel_rfl) rfl rfl rfl (y_load Try.isAgg9 rfl (cel_str ((OS.lit (T := 9) (sz := 1) (n := 3) (l := (N3).map .string) rfl (by decide)).cels (j := 5) rfl) (by show _ < 3; omega))) trivial ?_
              refine d_val (i := 7) rfl (by kernel_rfl) (by kernel_rfl) (by kernel_rfl) rfl rfl rfl (y_build (vs := [(0, .string _), (1, .int _ _)]) rfl (GenK_k3 _ _)) ?_
              refine d_eff (k := 9) (n := 1) (m := 4) rfl (by kernel_rfl) rfl ?_
              refine o_stores (vs := [(.string _), (.int _ _), (.int _ _)]) 6 rfl Try.sizeOf61 rfl rfl rfl (by simp [Value.oneCell']) (by simp) ?_
              refine o_nil ?_
              refine d_nil (n := 1) (m := 4) (by kernel_rfl) rfl ?_
              exact ⟨⟨sG', bt, b11⟩, ⟨hst1, hbt0, hbt1 (by decide)⟩, ⟨rfl, rfl, rfl, rfl, rfl, rfl, rfl, rfl, rfl, trivial⟩, (sub_picks [0, 5, 1, 0, 0, 0] rfl)⟩
          · refine o_alloc rfl Try.zeroValue61 rfl (fun b12 => ?_)
            refine o_nil ?_
            refine d_eff2 (k := 3) (k' := 5) (n := 1) (m := 4) rfl rfl (by kernel_rfl) rfl ?_ ?_
            · refine o_val rfl rfl rfl (y_load Try.isAgg9 rfl (cel_str ((OS.lit (T := 9) (sz := 1) (n := 3) (l := (N3).map .string) rfl (by decide)).cels (j := 5) rfl) (by show _ < 3; omega))) ?_
              refine o_nil ?_
              refine d_eff (k := 5) (n := 1) (m := 4) rfl (by kernel_rfl) rfl ?_
              refine o_fn 1 (d := 30) rfl Try.call87 (NextS_c hst1 (hm0 := (hm0.trans MSub.ext)) 9 (by omega)) rfl ?_
              rintro _ _ ⟨bt, sG', rfl, hbt0, hbt1, hst1, rfl⟩
              refine o_nil ?_
              refine d_val (i := 6) rfl (by kernel_rfl) (by kernel_rfl) (by kernel_rfl) rfl rfl rfl (y_add rfl rfl (by simp only [inK]; omega)) ?_
              refine d_val (i := 7) rfl (by kernel_rfl) (by kernel_rfl) (by kernel_rfl) rfl rfl rfl (y_build (vs := [(0, .string _), (1, .int _ _)]) rfl (GenK_k3 _ _)) ?_
              refine d_eff (k := 9) (n := 1) (m := 4) rfl (by kernel_rfl) rfl ?_
              refine o_stores (vs := [(.string _), (.int _ _), (.int _ _)]) 6 rfl Try.sizeOf61 rfl rfl rfl (by simp [Value.oneCell']) (by simp) ?_
              refine o_nil ?_
              refine d_nil (n := 1) (m := 4) (by kernel_rfl) rfl ?_
              exact ⟨⟨sG', bt, b12⟩, ⟨hst1, hbt0, hbt1 (by decide)⟩, ⟨rfl, rfl, rfl, rfl, rfl, rfl, rfl, rfl, rfl, trivial⟩, (sub_picks [0, 5, 1, 0, 0, 0] rfl)⟩
            · refine o_fn 1 (d := 30) rfl Try.call87 (NextS_c hst1 (hm0 := (hm0.trans MSub.ext)) 9 (by omega)) rfl ?_
              rintro _ _ ⟨bt, sG', rfl, hbt0, hbt1, hst1, rfl⟩
              refine o_nil ?_
              refine d_val (i := 6) rfl (by kernel_rfl) (by kernel_rfl) (by kernel_rfl) rfl rfl rfl (y_add rfl rfl (by simp only [inK]; omega)) ?_
              refine d_now (i := 3) [] rfl (by kernel_rfl) (by kernel_rfl) (by kernel_rfl) rfl rfl rfl (y_load Try.isAgg9 rfl (cel_str ((OS.lit (T := 9) (sz := 1) (n := 3) (l := (N3).map .string) rfl (by decide)).cels (j := 5) rfl) (by show _ < 3; omega))) trivial ?_
              refine d_val (i := 7) rfl (by kernel_rfl) (by kernel_rfl) (by kernel_rfl) rfl rfl rfl (y_build (vs := [(0, .string _), (1, .int _ _)]) rfl (GenK_k3 _ _)) ?_
              refine d_eff (k := 9) (n := 1) (m := 4) rfl (by kernel_rfl) rfl ?_
              refine o_stores (vs := [(.string _), (.int _ _), (.int _ _)]) 6 rfl Try.sizeOf61 rfl rfl rfl (by simp [Value.oneCell']) (by simp) ?_
              refine o_nil ?_
              refine d_nil (n := 1) (m := 4) (by kernel_rfl) rfl ?_
              exact ⟨⟨sG', bt, b12⟩, ⟨hst1, hbt0, hbt1 (by decide)⟩, ⟨rfl, rfl, rfl, rfl, rfl, rfl, rfl, rfl, rfl, trivial⟩, (sub_picks [0, 5, 1, 0, 0, 0] rfl)⟩
        · refine o_fn 1 (d := 30) rfl Try.call87 (NextS_c hst1 (hm0 := (hm0.trans MSub.ext)) 9 (by omega)) rfl ?_
          rintro _ _ ⟨bt, sG', rfl, hbt0, hbt1, hst1, rfl⟩
          refine o_nil ?_
          refine d_val (i := 6) rfl (by kernel_rfl) (by kernel_rfl) (by kernel_rfl) rfl rfl rfl (y_add rfl rfl (by simp only [inK]; omega)) ?_
          refine d_eff2 (k := 0) (k' := 8) (n := 1) (m := 4) rfl rfl (by kernel_rfl) rfl ?_ ?_
          · refine o_lit (vs := [(0, .string _), (1, .string _), (2, .string _)]) rfl rfl (GenK_k2 _ _ _) (fun b13 => ?_)
            refine o_nil ?_
            refine d_val (i := 2) rfl (by kernel_rfl) (by kernel_rfl) (by kernel_rfl) rfl rfl rfl (y_index1 Try.runUnderlying93 Try.sizeOf9 (rfl) rfl rfl (by omega)) ?_
            refine d_eff2 (k := 3) (k' := 8) (n := 1) (m := 4) rfl rfl (by kernel_rfl) rfl ?_ ?_
            · refine o_val rfl rfl rfl (y_load Try.isAgg9 rfl (cel_str ((OS.lit (T := 9) (sz := 1) (n := 3) (l := (N3).map .string) rfl (by decide)).cels (j := 5) rfl) (by show _ < 3; omega))) ?_
              refine o_nil ?_
              refine d_val (i := 7) rfl (by kernel_rfl) (by kernel_rfl) (by kernel_rfl) rfl rfl rfl (y_build (vs := [(0, .string _), (1, .int _ _)]) rfl (GenK_k3 _ _)) ?_
              refine d_eff (k := 8) (n := 1) (m := 4) rfl (by kernel_rfl) rfl ?_
              refine o_alloc rfl Try.zeroValue61 rfl (fun b14 => ?_)
              refine o_nil ?_
              refine d_eff (k := 9) (n := 1) (m := 4) rfl (by kernel_rfl) rfl ?_
              refine o_stores (vs := [(.string _), (.int _ _), (.int _ _)]) 6 rfl Try.sizeOf61 rfl rfl rfl (by simp [Value.oneCell']) (by simp) ?_
              refine o_nil ?_
              refine d_nil (n := 1) (m := 4) (by kernel_rfl) rfl ?_
              exact ⟨⟨sG', bt, b14⟩, ⟨hst1, hbt0, hbt1 (by decide)⟩, ⟨rfl, rfl, rfl, rfl, rfl, rfl, rfl, rfl, rfl, trivial⟩, (sub_picks [0, 5, 1, 0, 0, 0] rfl)⟩
            · refine o_alloc rfl Try.zeroValue61 rfl (fun b15 => ?_)
              refine o_nil ?_
              refine d_now (i := 3) [] rfl (by kernel_rfl) (by kernel_rfl) (by kernel_rfl) rfl rfl rfl (y_load Try.isAgg9 rfl (cel_str ((OS.lit (T := 9) (sz := 1) (n := 3) (l := (N3).map .string) rfl (by decide)).cels (j := 5) rfl) (by show _ < 3; omega))) trivial ?_
              refine d_val (i := 7) rfl (by kernel_rfl) (by kernel_rfl) (by kernel_rfl) rfl rfl rfl (y_build (vs := [(0, .string _), (1, .int _ _)]) rfl (GenK_k3 _ _)) ?_
              refine d_eff (k := 9) (n := 1) (m := 4) rfl (by kernel_rfl) rfl ?_
              refine o_stores (vs := [(.string _), (.int _ _), (.int _ _)]) 6 rfl Try.sizeOf61 rfl rfl rfl (by simp [Value.oneCell']) (by simp) ?_
              refine o_nil ?_
              refine d_nil (n := 1) (m := 4) (by kernel_rfl) rfl ?_
              exact ⟨⟨sG', bt, b15⟩, ⟨hst1, hbt0, hbt1 (by decide)⟩, ⟨rfl, rfl, rfl, rfl, rfl, rfl, rfl, rfl, rfl, trivial⟩, (sub_picks [0, 5, 1, 0, 0, 0] rfl)⟩
          · refine o_alloc rfl Try.zeroValue61 rfl (fun b16 => ?_)
            refine o_nil ?_
            refine d_eff (k := 0) (n := 1) (m := 4) rfl (by kernel_rfl) rfl ?_
            refine o_lit (vs := [(0, .string _), (1, .string _), (2, .string _)]) rfl rfl (GenK_k2 _ _ _) (fun b17 => ?_)
            refine o_nil ?_
            refine d_val (i := 2) rfl (by kernel_rfl) (by kernel_rfl) (by kernel_rfl) rfl rfl rfl (y_index1 Try.runUnderlying93 Try.sizeOf9 (rfl) rfl rfl (by omega)) ?_
            refine d_now (i := 3) [] rfl (by kernel_rfl) (by kernel_rfl) (by kernel_rfl) rfl rfl rfl (y_load Try.isAgg9 rfl (cel_str ((OS.lit (T := 9) (sz := 1) (n := 3) (l := (N3).map .string) rfl (by decide)).cels (j := 6) rfl) (by show _ < 3; omega))) trivial ?_
            refine d_val (i := 7) rfl (by kernel_rfl) (by kernel_rfl) (by kernel_rfl) rfl rfl rfl (y_build (vs := [(0, .string _), (1, .int _ _)]) rfl (GenK_k3 _ _)) ?_
            refine d_eff (k := 9) (n := 1) (m := 4) rfl (by kernel_rfl) rfl ?_
            refine o_stores (vs := [(.string _), (.int _ _), (.int _ _)]) 5 rfl Try.sizeOf61 rfl rfl rfl (by simp [Value.oneCell']) (by simp) ?_
            refine o_nil ?_
            refine d_nil (n := 1) (m := 4) (by kernel_rfl) rfl ?_
            exact ⟨⟨sG', bt, b16⟩, ⟨hst1, hbt0, hbt1 (by decide)⟩, ⟨rfl, rfl, rfl, rfl, rfl, rfl, rfl, rfl, rfl, trivial⟩, (sub_picks [0, 4, 1, 0, 0, 0] rfl)⟩
        · refine o_alloc rfl Try.zeroValue61 rfl (fun b18 => ?_)
          refine o_nil ?_
          refine d_eff2 (k := 0) (k' := 5) (n := 1) (m := 4) rfl rfl (by kernel_rfl) rfl ?_ ?_
          · refine o_lit (vs := [(0, .string _), (1, .string _), (2, .string _)]) rfl rfl (GenK_k2 _ _ _) (fun b19 => ?_)
            refine o_nil ?_
            refine d_val (i := 2) rfl (by kernel_rfl) (by kernel_rfl) (by kernel_rfl) rfl rfl rfl (y_index1 Try.runUnderlying93 Try.sizeOf9 (rfl) rfl rfl (by omega)) ?_
            refine d_eff2 (k := 3) (k' := 5) (n := 1) (m := 4) rfl rfl (by kernel_rfl) rfl ?_ ?_
            · refine o_val rfl rfl rfl (y_load Try.isAgg9 rfl (cel_str ((OS.lit (T := 9) (sz := 1) (n := 3) (l := (N3).map .string) rfl (by decide)).cels (j := 6) rfl) (by show _ < 3; omega))) ?_
              refine o_nil ?_
              refine d_eff (k := 5) (n := 1) (m := 4) rfl (by kernel_rfl) rfl ?_
              refine o_fn 1 (d := 30) rfl Try.call87 (NextS_c hst1 (hm0 := (hm0.trans MSub.ext)) 9 (by omega)) rfl ?_
              rintro _ _ ⟨bt, sG', rfl, hbt0, hbt1, hst1, rfl⟩
              refine o_nil ?_
              refine d_val (i := 6) rfl (by kernel_rfl) (by kernel_rfl) (by kernel_rfl) rfl rfl rfl (y_add rfl rfl (by simp only [inK]; omega)) ?_
              refine d_val (i := 7) rfl (by kernel_rfl) (by kernel_rfl) (by kernel_rfl) rfl rfl rfl (y_build (vs := [(0, .string _), (1, .int _ _)]) rfl (GenK_k3 _ _)) ?_
              refine d_eff (k := 9) (n := 1) (m := 4) rfl (by kernel_rfl) rfl ?_
              refine o_stores (vs := [(.string _), (.int _ _), (.int _ _)]) 5 rfl Try.sizeOf61 rfl rfl rfl (by simp [Value.oneCell']) (by simp) ?_
              refine o_nil ?_
              refine d_nil (n := 1) (m := 4) (by kernel_rfl) rfl ?_
              exact ⟨⟨sG', bt, b18⟩, ⟨hst1, hbt0, hbt1 (by decide)⟩, ⟨rfl, rfl, rfl, rfl, rfl, rfl, rfl, rfl, rfl, trivial⟩, (sub_picks [0, 4, 1, 0, 0, 0] rfl)⟩
            · refine o_fn 1 (d := 30) rfl Try.call87 (NextS_c hst1 (hm0 := (hm0.trans MSub.ext)) 9 (by omega)) rfl ?_
              rintro _ _ ⟨bt, sG', rfl, hbt0, hbt1, hst1, rfl⟩
              refine o_nil ?_
              refine d_val (i := 6) rfl (by kernel_rfl) (by kernel_rfl) (by kernel_rfl) rfl rfl rfl (y_add rfl rfl (by simp only [inK]; omega)) ?_
              refine d_now (i := 3) [] rfl (by kernel_rfl) (by kernel_rfl) (by kernel_rfl) rfl rfl rfl (y_load Try.isAgg9 rfl (cel_str ((OS.lit (T := 9) (sz := 1) (n := 3) (l := (N3).map .string) rfl (by decide)).cels (j := 6) rfl) (by show _ < 3; omega))) trivial ?_
              refine d_val (i := 7) rfl (by kernel_rfl) (by kernel_rfl) (by kernel_rfl) rfl rfl rfl (y_build (vs := [(0, .string _), (1, .int _ _)]) rfl (GenK_k3 _ _)) ?_
              refine d_eff (k := 9) (n := 1) (m := 4) rfl (by kernel_rfl) rfl ?_
              refine o_stores (vs := [(.string _), (.int _ _), (.int _ _)]) 5 rfl Try.sizeOf61 rfl rfl rfl (by simp [Value.oneCell']) (by simp) ?_
              refine o_nil ?_
              refine d_nil (n := 1) (m := 4) (by kernel_rfl) rfl ?_
              exact ⟨⟨sG', bt, b18⟩, ⟨hst1, hbt0, hbt1 (by decide)⟩, ⟨rfl, rfl, rfl, rfl, rfl, rfl, rfl, rfl, rfl, trivial⟩, (sub_picks [0, 4, 1, 0, 0, 0] rfl)⟩
          · refine o_fn 1 (d := 30) rfl Try.call87 (NextS_c hst1 (hm0 := (hm0.trans MSub.ext)) 9 (by omega)) rfl ?_
            rintro _ _ ⟨bt, sG', rfl, hbt0, hbt1, hst1, rfl⟩
            refine o_nil ?_
            refine d_val (i := 6) rfl (by kernel_rfl) (by kernel_rfl) (by kernel_rfl) rfl rfl rfl (y_add rfl rfl (by simp only [inK]; omega)) ?_
            refine d_eff (k := 0) (n := 1) (m := 4) rfl (by kernel_rfl) rfl ?_
            refine o_lit (vs := [(0, .string _), (1, .string _), (2, .string _)]) rfl rfl (GenK_k2 _ _ _) (fun b20 => ?_)
            refine o_nil ?_
            refine d_val (i := 2) rfl (by kernel_rfl) (by kernel_rfl) (by kernel_rfl) rfl rfl rfl (y_index1 Try.runUnderlying93 Try.sizeOf9 (rfl) rfl rfl (by omega)) ?_
            refine d_now (i := 3) [] rfl (by kernel_rfl) (by kernel_rfl) (by kernel_rfl) rfl rfl rfl (y_load Try.isAgg9 rfl (cel_str ((OS.lit (T := 9) (sz := 1) (n := 3) (l := (N3).map .string) rfl (by decide)).cels (j := 6) rfl) (by show _ < 3; omega))) trivial ?_
            refine d_val (i := 7) rfl (by kernel_rfl) (by kernel_rfl) (by kernel_rfl) rfl rfl rfl (y_build (vs := [(0, .string _), (1, .int _ _)]) rfl (GenK_k3 _ _)) ?_
            refine d_eff (k := 9) (n := 1) (m := 4) rfl (by kernel_rfl) rfl ?_
            refine o_stores (vs := [(.string _), (.int _ _), (.int _ _)]) 5 rfl Try.sizeOf61 rfl rfl rfl (by simp [Value.oneCell']) (by simp) ?_
            refine o_nil ?_
            refine d_nil (n := 1) (m := 4) (by kernel_rfl) rfl ?_
            exact ⟨⟨sG', bt, b18⟩, ⟨hst1, hbt0, hbt1 (by decide)⟩, ⟨rfl, rfl, rfl, rfl, rfl, rfl, rfl, rfl, rfl, trivial⟩, (sub_picks [0, 4, 1, 0, 0, 0] rfl)⟩
      intro v _f hV
      refine s_norm _ (by simp only [pull, picks, setG, List.cons_append, List.nil_append, List.append_nil, List.drop_succ_cons, List.drop_zero]; rfl) ?_
      obtain ⟨hst1, hk0, hk1⟩ := hV
      refine s_seq ?_
      refine s_region ?_
      refine o_val rfl rfl rfl (y_move (v := (.pointer _)) rfl) ?_
      refine o_fn 1 (d := 34) rfl Try.call87 (NextS_c hst1 (hm0 := (hm0.trans MSub.ext)) 40 (by omega)) rfl ?_
      rintro _ _ ⟨lo, sG', rfl, hlo0, hlo1, hst1, rfl⟩
      refine o_val rfl rfl rfl (y_sub rfl rfl (by simp only [inK]; omega)) ?_
      refine o_val rfl rfl rfl (y_field0 Try.runUnderlying61 rfl Try.sizeOf3 rfl rfl) ?_
      refine o_store (v := (.int _ _)) 1 rfl Try.sizeOf3 rfl rfl rfl rfl ?_
      refine o_nil ?_
      refine s_norm [_, [(_, .cells [(.string _), (.int _ _), (.int _ _)].toArray 61 (0, 0))], _, [(_, .cells [(.string _), (.slice _ _ _)].toArray 58 (0, 0))], _, _] rfl ?_
      refine s_seq ?_
      refine s_seq ?_
      refine s_region ?_
      refine o_val rfl rfl rfl (y_move (v := (.pointer _)) rfl) ?_
      refine o_fn 1 (d := 38) rfl Try.call87 (NextS_c hst1 (hm0 := (hm0.trans MSub.ext)) 8 (by omega)) rfl ?_
      rintro _ _ ⟨e8, sG', rfl, he80, he81, hst1, rfl⟩
      refine o_val rfl rfl rfl (y_eql rfl rfl) ?_
      refine o_nil ?_
      refine s_if rfl (fun h21 => ?_) (fun h22 => ?_)
      · refine s_region ?_
        refine o_val rfl rfl rfl (y_field0 Try.runUnderlying61 rfl Try.sizeOf3 rfl rfl) ?_
        refine o_store (v := (.int _ _)) 1 rfl Try.sizeOf3 rfl rfl rfl rfl ?_
        refine o_val rfl rfl rfl (y_field0 Try.runUnderlying61 rfl Try.sizeOf3 rfl rfl) ?_
        refine o_store (v := (.int _ _)) 1 rfl Try.sizeOf3 rfl rfl rfl rfl ?_
        refine o_nil ?_
        refine s_norm [_, [(_, .cells [(.string _), (.int _ _), (.int _ _)].toArray 61 (0, 0))], _, [(_, .cells [(.string _), (.slice _ _ _)].toArray 58 (0, 0))], _, _] rfl ?_
        refine s_region ?_
        refine o_val rfl rfl rfl (y_field0 Try.runUnderlying58 rfl Try.sizeOf56 rfl rfl) ?_
        refine o_val rfl rfl rfl (y_load Try.isAgg56 rfl (cel_own 3 rfl rfl)) ?_
        refine o_val rfl rfl rfl (y_loads (cs := [_, _, _]) Try.isAgg61 Try.sizeOf61 rfl rfl rfl (cels_own 1 rfl rfl)) ?_
        refine o_lit (vs := [(0, .agg #[.string _, .int _ _, .int _ _])]) rfl rfl (GenK_k4 _ _ _) (fun b23 => ?_)
        refine o_append (sz := 3) (bytes := 32) (news := [(.string _), (.int _ _), (.int _ _)]) 2 rfl Try.underlying56 Try.type61 rfl rfl rfl rfl rfl hfo rfl rfl (Src.slice Try.underlying56 (cels_own 6 rfl rfl) rfl (by simp [Value.oneCell']) (by simp)) (by omega) (fun A24 c25 E26 ho27 hn28 => ?_)
        have ho29 : OS A24 (u.fs.length + 1) c25 61 3 ((u.fs ++ [(FR.mk (N3.getD ((u.fs.length : Nat) : Int).toNat ByteArray.empty) 32 (-2147483648))]).flatMap encF) E26 := os_snoc ho27 rfl
        clear ho27
        refine o_val rfl rfl rfl (y_field0 Try.runUnderlying58 rfl Try.sizeOf56 rfl rfl) ?_
        refine o_store (v := (.slice _ _ _)) 3 rfl Try.sizeOf56 rfl rfl rfl rfl ?_
        refine o_nil ?_
        refine s_norm [_, [(_, .cells [(.string _), (.int _ _), (.int _ _)].toArray 61 (0, 0))], _, [(_, .cells [(.string _), (.slice _ _ _)].toArray 58 (0, 0))], _, _, [(_, .cells [(.string _), (.int _ _), (.int _ _)].toArray 61 (0, 0))]] rfl ?_
        refine s_forget [(0, (.pointer _)), (2, (.slice _ _ _)), (3, (.slice _ _ _)), (5, (.pointer _)), (10, (.int _ _)), (11, (.int _ _)), (21, (.int _ _)), (22, (.int _ _))] ⟨rfl, rfl, rfl, rfl, rfl, rfl, rfl, rfl, trivial⟩ (fun _f => ?_)
        refine s_region ?_
        refine o_val rfl rfl rfl (y_add rfl rfl (by simp only [inK]; omega)) ?_
        refine o_val rfl rfl rfl (y_move (v := (.int _ _)) rfl) ?_
        refine o_nil ?_
        exact ⟨LF6.mk (u.fs ++ [(FR.mk (N3.getD ((u.fs.length : Nat) : Int).toNat ByteArray.empty) 32 (-2147483648))]) A24 c25 E26 sG', (by simp only [List.length_append, List.length_singleton]; omega), ⟨by simp only [List.length_append, List.length_singleton]; omega, by dsimp only; rw [List.length_append]; exact ho29, fieldsG_snoc hfg ⟨rfl, by dsimp only; omega, by dsimp only; omega, by dsimp only; omega, by dsimp only; omega⟩, hst1⟩, ⟨(congrArg (Value.int .i64) (by simp only [List.length_append, List.length_singleton]; omega)), rfl, rfl, rfl, rfl, rfl, rfl, rfl, trivial⟩, (by dsimp only; rw [List.length_append]; exact sub_picks [0, 2, 1, 1, 1] rfl)⟩
      · refine s_skip ?_
        refine s_region ?_
        refine o_val rfl rfl rfl (y_field0 Try.runUnderlying58 rfl Try.sizeOf56 rfl rfl) ?_
        refine o_val rfl rfl rfl (y_load Try.isAgg56 rfl (cel_own 3 rfl rfl)) ?_
        refine o_val rfl rfl rfl (y_loads (cs := [_, _, _]) Try.isAgg61 Try.sizeOf61 rfl rfl rfl (cels_own 1 rfl rfl)) ?_
        refine o_lit (vs := [(0, .agg #[.string _, .int _ _, .int _ _])]) rfl rfl (GenK_k4 _ _ _) (fun b30 => ?_)
        refine o_append (sz := 3) (bytes := 32) (news := [(.string _), (.int _ _), (.int _ _)]) 2 rfl Try.underlying56 Try.type61 rfl rfl rfl rfl rfl hfo rfl rfl (Src.slice Try.underlying56 (cels_own 6 rfl rfl) rfl (by simp [Value.oneCell']) (by simp)) (by omega) (fun A31 c32 E33 ho34 hn35 => ?_)
        have ho36 : OS A31 (u.fs.length + 1) c32 61 3 ((u.fs ++ [(FR.mk (N3.getD ((u.fs.length : Nat) : Int).toNat ByteArray.empty) (1 + v.k) (lo - 30))]).flatMap encF) E33 := os_snoc ho34 rfl
        clear ho34
        refine o_val rfl rfl rfl (y_field0 Try.runUnderlying58 rfl Try.sizeOf56 rfl rfl) ?_
        refine o_store (v := (.slice _ _ _)) 3 rfl Try.sizeOf56 rfl rfl rfl rfl ?_
        refine o_nil ?_
        refine s_norm [_, [(_, .cells [(.string _), (.int _ _), (.int _ _)].toArray 61 (0, 0))], _, [(_, .cells [(.string _), (.slice _ _ _)].toArray 58 (0, 0))], _, _, [(_, .cells [(.string _), (.int _ _), (.int _ _)].toArray 61 (0, 0))]] rfl ?_
        refine s_region ?_
        refine o_val rfl rfl rfl (y_add rfl rfl (by simp only [inK]; omega)) ?_
        refine o_val rfl rfl rfl (y_move (v := (.int _ _)) rfl) ?_
        refine o_nil ?_
        exact ⟨LF6.mk (u.fs ++ [(FR.mk (N3.getD ((u.fs.length : Nat) : Int).toNat ByteArray.empty) (1 + v.k) (lo - 30))]) A31 c32 E33 sG', (by simp only [List.length_append, List.length_singleton]; omega), ⟨by simp only [List.length_append, List.length_singleton]; omega, by dsimp only; rw [List.length_append]; exact ho36, fieldsG_snoc hfg ⟨rfl, by dsimp only; omega, by dsimp only; omega, by dsimp only; omega, by dsimp only; omega⟩, hst1⟩, ⟨(congrArg (Value.int .i64) (by simp only [List.length_append, List.length_singleton]; omega)), rfl, rfl, rfl, rfl, rfl, rfl, rfl, trivial⟩, (by dsimp only; rw [List.length_append]; exact sub_picks [0, 2, 1, 1, 1] rfl)⟩
    · refine s_exit ?_
      refine s_region ?_
      refine o_val rfl rfl rfl (y_move (v := (.slice _ _ _)) rfl) ?_
      refine o_val rfl rfl rfl (y_loads (cs := [_, _]) Try.isAgg58 Try.sizeOf58 rfl rfl rfl (cels_own 1 rfl rfl)) ?_
      refine o_lit (vs := [(0, .agg #[.string _, .slice _ _ _])]) rfl rfl (GenK_k5 _ _ _ _) (fun b37 => ?_)
      refine o_append (sz := 2) (bytes := 40) (news := [(.string _), (.slice _ _ _)]) 3 rfl Try.underlying23 Try.type58 rfl rfl rfl rfl rfl hxo rfl rfl (Src.slice Try.underlying23 (cels_own 5 rfl rfl) rfl (by simp [Value.oneCell']) (by simp)) (by omega) (fun A38 c39 E40 ho41 hn42 => ?_)
      have ho43 : OS A38 (g.ks.length + 1) c39 58 2 ((g.ks ++ [newK (N4.getD ((g.ks.length : Nat) : Int).toNat ByteArray.empty) u.A u.fs.length u.c u.fs]).flatMap encK) E40 := os_snoc ho41 rfl
      clear ho41
      refine o_val rfl rfl rfl (y_assign (v := (.slice _ _ _)) rfl) ?_
      refine o_nil ?_
      refine s_norm [_, [(_, .cells [(.string _), (.slice _ _ _)].toArray 58 (0, 0))], _, _, _, [(_, .cells [(.string _), (.slice _ _ _)].toArray 58 (0, 0))]] rfl ?_
      refine s_region ?_
      refine o_pull 4 ?_
      refine o_pull 3 ?_
      refine o_fuse ?_
      refine o_val rfl rfl rfl (y_add rfl rfl (by simp only [inK]; omega)) ?_
      refine o_val rfl rfl rfl (y_move (v := (.int _ _)) rfl) ?_
      refine o_nil ?_
      exact ⟨LG.mk (g.ks ++ [newK (N4.getD ((g.ks.length : Nat) : Int).toNat ByteArray.empty) u.A u.fs.length u.c u.fs]) A38 c39 E40 (u.E ++ g.P) u.S, (by simp only [List.length_append, List.length_singleton]; omega), ⟨by simp only [List.length_append, List.length_singleton]; omega, by dsimp only; rw [List.length_append]; exact ho43, all_snoc (fun x hx => (hxk x hx).sub inG_right) (kok_new hfo (by omega)), kindsG_snoc hxg (by omega) ⟨rfl, by dsimp only [newK]; omega, by dsimp only [newK]; omega, hfg⟩, hst1⟩, ⟨(by dsimp only; rw [List.length_append]; rfl), (congrArg (Value.int .i64) (by simp only [List.length_append, List.length_singleton]; omega)), rfl, rfl, rfl, trivial⟩, (sub_picks [1, 2, 0] rfl)⟩
  · refine s_exit ?_
    refine s_seq ?_
    refine s_region ?_
    refine o_val rfl rfl rfl (y_move (v := (.slice _ _ _)) rfl) ?_
    refine o_val rfl rfl rfl (y_assign (v := (.slice _ _ _)) rfl) ?_
    refine o_nil ?_
    refine s_ret ?_
    exact ⟨_, [_, _, _], res1 rfl rfl, ⟨_, _, _, _, _, _, rfl, hxo, hxk, hxg, by omega, hst1, rfl⟩, sub_picks [0, 0, 0] rfl⟩

end Go.Proofs.Ytacmbiohjiogiaa.K

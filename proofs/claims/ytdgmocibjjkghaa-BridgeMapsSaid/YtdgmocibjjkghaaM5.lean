/- Walks: kinds of games; the law of the map of kinds. No condition beyond what each statement names. -/
import Derived.Test.YtdgmocibjjkghaaProg
import Derived.Test.YtdgmocibjjkghaaK10
import Derived.Test.YtdgmocibjjkghaaM1
import Derived.Test.YtdgmocibjjkghaaM2
import Derived.Test.YtdgmocibjjkghaaM3
import Derived.Test.YtdgmocibjjkghaaM4
set_option linter.unusedVariables false
set_option linter.unusedSimpArgs false
set_option maxRecDepth 100000
set_option maxHeartbeats 1000000
namespace Go.Proofs.Ytdgmocibjjkghaa.K
open Go.RowKit

def KR.shape (k : KR) : ByteArray × List FR := (k.name, k.fs)
def kd0 : ByteArray × List FR := ((⟨#[115, 112, 111, 116]⟩ : ByteArray), [FR.mk (⟨#[120]⟩ : ByteArray) 8 (-100), FR.mk (⟨#[121]⟩ : ByteArray) 8 (-100)])
def kd1 : ByteArray × List FR := ((⟨#[105, 110, 112, 117, 116]⟩ : ByteArray), [FR.mk (⟨#[112, 108, 97, 121, 101, 114]⟩ : ByteArray) 2 (0), FR.mk (⟨#[107, 101, 121, 115]⟩ : ByteArray) 8 (0), FR.mk (⟨#[120]⟩ : ByteArray) 8 (-128), FR.mk (⟨#[121]⟩ : ByteArray) 8 (-128)])
def kd2 : ByteArray × List FR := ((⟨#[109, 105, 110, 100]⟩ : ByteArray), [FR.mk (⟨#[112, 114, 111, 103]⟩ : ByteArray) 2 (-1)])
def kd3 : ByteArray × List FR := ((⟨#[112, 108, 97, 99, 101]⟩ : ByteArray), [FR.mk (⟨#[120]⟩ : ByteArray) 26 (-33554432), FR.mk (⟨#[121]⟩ : ByteArray) 26 (-33554432), FR.mk (⟨#[97, 110, 103]⟩ : ByteArray) 16 (0)])
def kd4 : ByteArray × List FR := ((⟨#[109, 111, 116, 105, 111, 110]⟩ : ByteArray), [FR.mk (⟨#[118, 120]⟩ : ByteArray) 22 (-2097152), FR.mk (⟨#[118, 121]⟩ : ByteArray) 22 (-2097152), FR.mk (⟨#[115, 112, 105, 110]⟩ : ByteArray) 18 (-131072), FR.mk (⟨#[99, 97, 108, 109]⟩ : ByteArray) 12 (0)])
def kd5 : ByteArray × List FR := ((⟨#[115, 104, 97, 112, 101]⟩ : ByteArray), [FR.mk (⟨#[119]⟩ : ByteArray) 18 (4096), FR.mk (⟨#[104]⟩ : ByteArray) 18 (4096), FR.mk (⟨#[109, 97, 115, 115]⟩ : ByteArray) 20 (0), FR.mk (⟨#[98, 111, 117, 110, 99, 101]⟩ : ByteArray) 17 (0), FR.mk (⟨#[114, 117, 98]⟩ : ByteArray) 17 (0)])
/-- The kinds of a game, by their number. -/
def kindsOf (n : Int) : List (ByteArray × List FR) := kd0 :: ((if bAnd .i64 n 1 = 1 then [kd1] else []) ++ ((if bAnd .i64 n 2 = 2 then [kd2] else []) ++ (if bAnd .i64 n 4 = 4 then [kd3, kd4, kd5] else [])))
theorem KOK.mono {V V' : Mem} {k : KR} (h : KOK V k) (hm : ∀ b o, V b o → V' b o) : KOK V' k := ⟨h.1, h.2.1, h.2.2.1, h.2.2.2.mono fun b o hb => by
  rcases hb with hb | hb
  · exact .inl (hm b o hb)
  · simp at hb⟩
theorem kok_lit {V : Mem} {L : List Grp} {b : Nat} {fs : List FR} {nm : ByteArray} {n : Nat} (hn : fs.length = n) (hb : n ≤ 16) (h : Cels V L (some ⟨b, 0, none⟩) (fs.flatMap encF)) : KOK (ext V [L.flatten]) ⟨nm, some ⟨b, 0, none⟩, n, n, fs⟩ :=
  ⟨hn, Nat.le_refl _, Nat.le_trans hb (by decide), h.flat.down⟩

theorem fieldM_k0 (v0 : ByteArray) (v1 : Int) (v2 : Int) (w : World) : (Instr.build 172 ([(0, (.string v0)), (1, (.int .i64 v1)), (2, (.int .i64 v2))] : List (Nat × Value)).toArray).run Try.prog w = .ok (.agg #[.string v0, .int .i64 v1, .int .i64 v2]) w := by kernel_rfl
theorem fieldM_c {V : Mem} (s : ByteArray) (b l : Int) : CallS Try.prog 112 [.string s, .int .i64 b, .int .i64 l].toArray V [] (fun r L' => r = .agg #[.string s, .int .i64 b, .int .i64 l] ∧ L' = []) := by
  refine callS Try.func112 rfl rfl (fun w0 => ?_)
  refine s_seq ?_
  refine s_region ?_
  refine o_alloc rfl Try.zeroValue172 rfl (fun b1 => ?_)
  refine o_nil ?_
  refine s_seq ?_
  refine s_region ?_
  refine o_val rfl rfl rfl (y_move (v := (.string _)) rfl) ?_
  refine o_val rfl rfl rfl (y_move (v := (.int _ _)) rfl) ?_
  refine o_val rfl rfl rfl (y_move (v := (.int _ _)) rfl) ?_
  refine o_val rfl rfl rfl (y_build (vs := [(0, .string _), (1, .int _ _), (2, .int _ _)]) rfl (fieldM_k0 _ _ _)) ?_
  refine o_stores (vs := [(.string _), (.int _ _), (.int _ _)]) 0 rfl Try.sizeOf172 rfl rfl rfl (by simp [Value.oneCell']) (by simp) ?_
  refine o_nil ?_
  refine s_ret ?_
  exact ⟨_, [], resv1 rfl (RV.cells (cs := [.string s, .int .i64 b, .int .i64 l]) rfl Try.isAgg172 Try.sizeOf172 rfl rfl (cels_own 0 rfl rfl)), ⟨rfl, rfl⟩, sub_picks [] rfl⟩

theorem KindsM_k0 (v0x0 : ByteArray) (v0x1 : Int) (v0x2 : Int) (v1x0 : ByteArray) (v1x1 : Int) (v1x2 : Int) (w : World) : (Instr.buildSlice 168 2 ([(0, (.agg #[(.string v0x0), (.int .i64 v0x1), (.int .i64 v0x2)])), (1, (.agg #[(.string v1x0), (.int .i64 v1x1), (.int .i64 v1x2)]))] : List (Nat × Value)).toArray).run Try.prog w = .ok (.slice (some ⟨w.heap.size, 0, none⟩) 2 2) { w with heap := w.heap.push (.cells ([.string v0x0, .int .i64 v0x1, .int .i64 v0x2, .string v1x0, .int .i64 v1x1, .int .i64 v1x2] : List Value).toArray 172 (0, 0)) } := by kernel_rfl
theorem KindsM_k1 (v0 : ByteArray) (v1A : Option Addr) (v1n : Nat) (v1c : Nat) (w : World) : (Instr.build 170 ([(0, (.string v0)), (1, (.slice v1A v1n v1c))] : List (Nat × Value)).toArray).run Try.prog w = .ok (.agg #[.string v0, .slice v1A v1n v1c]) w := by kernel_rfl
theorem KindsM_k2 (v0x0 : ByteArray) (v0x1A : Option Addr) (v0x1n : Nat) (v0x1c : Nat) (w : World) : (Instr.buildSlice 50 1 ([(0, (.agg #[(.string v0x0), (.slice v0x1A v0x1n v0x1c)]))] : List (Nat × Value)).toArray).run Try.prog w = .ok (.slice (some ⟨w.heap.size, 0, none⟩) 1 1) { w with heap := w.heap.push (.cells ([.string v0x0, .slice v0x1A v0x1n v0x1c] : List Value).toArray 170 (0, 0)) } := by kernel_rfl
theorem KindsM_k3 (v0x0 : ByteArray) (v0x1 : Int) (v0x2 : Int) (v1x0 : ByteArray) (v1x1 : Int) (v1x2 : Int) (v2x0 : ByteArray) (v2x1 : Int) (v2x2 : Int) (v3x0 : ByteArray) (v3x1 : Int) (v3x2 : Int) (w : World) : (Instr.buildSlice 168 4 ([(0, (.agg #[(.string v0x0), (.int .i64 v0x1), (.int .i64 v0x2)])), (1, (.agg #[(.string v1x0), (.int .i64 v1x1), (.int .i64 v1x2)])), (2, (.agg #[(.string v2x0), (.int .i64 v2x1), (.int .i64 v2x2)])), (3, (.agg #[(.string v3x0), (.int .i64 v3x1), (.int .i64 v3x2)]))] : List (Nat × Value)).toArray).run Try.prog w = .ok (.slice (some ⟨w.heap.size, 0, none⟩) 4 4) { w with heap := w.heap.push (.cells ([.string v0x0, .int .i64 v0x1, .int .i64 v0x2, .string v1x0, .int .i64 v1x1, .int .i64 v1x2, .string v2x0, .int .i64 v2x1, .int .i64 v2x2, .string v3x0, .int .i64 v3x1, .int .i64 v3x2] : List Value).toArray 172 (0, 0)) } := by kernel_rfl
theorem KindsM_k4 (v0x0 : ByteArray) (v0x1 : Int) (v0x2 : Int) (w : World) : (Instr.buildSlice 168 1 ([(0, (.agg #[(.string v0x0), (.int .i64 v0x1), (.int .i64 v0x2)]))] : List (Nat × Value)).toArray).run Try.prog w = .ok (.slice (some ⟨w.heap.size, 0, none⟩) 1 1) { w with heap := w.heap.push (.cells ([.string v0x0, .int .i64 v0x1, .int .i64 v0x2] : List Value).toArray 172 (0, 0)) } := by kernel_rfl
theorem KindsM_k5 (v0x0 : ByteArray) (v0x1 : Int) (v0x2 : Int) (v1x0 : ByteArray) (v1x1 : Int) (v1x2 : Int) (v2x0 : ByteArray) (v2x1 : Int) (v2x2 : Int) (w : World) : (Instr.buildSlice 168 3 ([(0, (.agg #[(.string v0x0), (.int .i64 v0x1), (.int .i64 v0x2)])), (1, (.agg #[(.string v1x0), (.int .i64 v1x1), (.int .i64 v1x2)])), (2, (.agg #[(.string v2x0), (.int .i64 v2x1), (.int .i64 v2x2)]))] : List (Nat × Value)).toArray).run Try.prog w = .ok (.slice (some ⟨w.heap.size, 0, none⟩) 3 3) { w with heap := w.heap.push (.cells ([.string v0x0, .int .i64 v0x1, .int .i64 v0x2, .string v1x0, .int .i64 v1x1, .int .i64 v1x2, .string v2x0, .int .i64 v2x1, .int .i64 v2x2] : List Value).toArray 172 (0, 0)) } := by kernel_rfl
theorem KindsM_k6 (v0x0 : ByteArray) (v0x1 : Int) (v0x2 : Int) (v1x0 : ByteArray) (v1x1 : Int) (v1x2 : Int) (v2x0 : ByteArray) (v2x1 : Int) (v2x2 : Int) (v3x0 : ByteArray) (v3x1 : Int) (v3x2 : Int) (v4x0 : ByteArray) (v4x1 : Int) (v4x2 : Int) (w : World) : (Instr.buildSlice 168 5 ([(0, (.agg #[(.string v0x0), (.int .i64 v0x1), (.int .i64 v0x2)])), (1, (.agg #[(.string v1x0), (.int .i64 v1x1), (.int .i64 v1x2)])), (2, (.agg #[(.string v2x0), (.int .i64 v2x1), (.int .i64 v2x2)])), (3, (.agg #[(.string v3x0), (.int .i64 v3x1), (.int .i64 v3x2)])), (4, (.agg #[(.string v4x0), (.int .i64 v4x1), (.int .i64 v4x2)]))] : List (Nat × Value)).toArray).run Try.prog w = .ok (.slice (some ⟨w.heap.size, 0, none⟩) 5 5) { w with heap := w.heap.push (.cells ([.string v0x0, .int .i64 v0x1, .int .i64 v0x2, .string v1x0, .int .i64 v1x1, .int .i64 v1x2, .string v2x0, .int .i64 v2x1, .int .i64 v2x2, .string v3x0, .int .i64 v3x1, .int .i64 v3x2, .string v4x0, .int .i64 v4x1, .int .i64 v4x2] : List Value).toArray 172 (0, 0)) } := by kernel_rfl
theorem KindsM_c {V : Mem} (n : Int) : CallS Try.prog 73 [.int .i64 n].toArray V [] (fun r L' => ∃ (A : Option Addr) (m c : Nat) (ks : List KR) (G : Grp), r = .slice A m c ∧ Cels V [G] A (ks.flatMap encK) ∧ ks.length = m ∧ m ≤ c ∧ (∀ k ∈ ks, KOK (ext V [G]) k) ∧ ks.map KR.shape = kindsOf n ∧ L' = [G]) := by
  refine callS Try.func73 rfl rfl (fun w0 => ?_)
  refine s_seq ?_
  refine s_region ?_
  refine o_val rfl rfl rfl (y_assign (v := (.slice _ _ _)) rfl) ?_
  refine o_nil ?_
  refine s_seq ?_
  refine s_region ?_
  refine o_fn 0 (d := 4) rfl Try.call112 (fieldM_c _ _ _) rfl ?_
  rintro _ _ ⟨rfl, rfl⟩
  refine o_fn 0 (d := 5) rfl Try.call112 (fieldM_c _ _ _) rfl ?_
  rintro _ _ ⟨rfl, rfl⟩
  refine o_lit (vs := [(0, .agg #[.string _, .int _ _, .int _ _]), (1, .agg #[.string _, .int _ _, .int _ _])]) rfl rfl (KindsM_k0 _ _ _ _ _ _) (fun b1 => ?_)
  refine o_val rfl rfl rfl (y_build (vs := [(0, .string _), (1, .slice _ _ _)]) rfl (KindsM_k1 _ _ _ _)) ?_
  refine o_lit (vs := [(0, .agg #[.string _, .slice _ _ _])]) rfl rfl (KindsM_k2 _ _ _ _) (fun b2 => ?_)
  refine o_val rfl rfl rfl (y_assign (v := (.slice _ _ _)) rfl) ?_
  refine o_nil ?_
  refine s_seq ?_
  refine s_seq ?_
  refine s_region ?_
  refine o_val rfl rfl rfl (y_move (v := (.int _ _)) rfl) ?_
  refine o_val rfl rfl rfl (y_and rfl rfl) ?_
  refine o_val rfl rfl rfl (y_eql rfl rfl) ?_
  refine o_nil ?_
  refine s_if rfl (fun h3 => ?_) (fun h4 => ?_)
  · have c1 := h3
    refine s_region ?_
    refine o_val rfl rfl rfl (y_move (v := (.slice _ _ _)) rfl) ?_
    refine o_fn 0 (d := 13) rfl Try.call112 (fieldM_c _ _ _) rfl ?_
    rintro _ _ ⟨rfl, rfl⟩
    refine o_fn 0 (d := 14) rfl Try.call112 (fieldM_c _ _ _) rfl ?_
    rintro _ _ ⟨rfl, rfl⟩
    refine o_fn 0 (d := 15) rfl Try.call112 (fieldM_c _ _ _) rfl ?_
    rintro _ _ ⟨rfl, rfl⟩
    refine o_fn 0 (d := 16) rfl Try.call112 (fieldM_c _ _ _) rfl ?_
    rintro _ _ ⟨rfl, rfl⟩
    refine o_lit (vs := [(0, .agg #[.string _, .int _ _, .int _ _]), (1, .agg #[.string _, .int _ _, .int _ _]), (2, .agg #[.string _, .int _ _, .int _ _]), (3, .agg #[.string _, .int _ _, .int _ _])]) rfl rfl (KindsM_k3 _ _ _ _ _ _ _ _ _ _ _ _) (fun b5 => ?_)
    refine o_val rfl rfl rfl (y_build (vs := [(0, .string _), (1, .slice _ _ _)]) rfl (KindsM_k1 _ _ _ _)) ?_
    refine o_lit (vs := [(0, .agg #[.string _, .slice _ _ _])]) rfl rfl (KindsM_k2 _ _ _ _) (fun b6 => ?_)
    refine o_append (sz := 2) (bytes := 40) (news := [(.string _), (.slice _ _ _)]) 1 rfl Try.underlying50 Try.type170 rfl rfl rfl rfl rfl (OS.lit (sz := 2) (n := 1) rfl (by decide)) rfl rfl (Src.slice Try.underlying50 (cels_own 3 rfl rfl) rfl (by simp [Value.oneCell']) (by simp)) (by decide) (fun A7 c8 E9 ho10 hn11 => ?_)
    refine o_val rfl rfl rfl (y_assign (v := (.slice _ _ _)) rfl) ?_
    refine o_nil ?_
    refine s_norm [[(_, .cells [(.string _), (.int _ _), (.int _ _), (.string _), (.int _ _), (.int _ _)].toArray 172 (0, 0))], _, [(_, .cells [(.string _), (.int _ _), (.int _ _), (.string _), (.int _ _), (.int _ _), (.string _), (.int _ _), (.int _ _), (.string _), (.int _ _), (.int _ _)].toArray 172 (0, 0))], [(_, .cells [(.string _), (.slice _ _ _)].toArray 170 (0, 0))]] rfl ?_
    refine s_forget [(0, (.int _ _)), (2, (.slice _ _ _)), (3, (.slice _ _ _))] ⟨rfl, rfl, rfl, trivial⟩ (fun _f => ?_)
    refine s_seq ?_
    refine s_seq ?_
    refine s_region ?_
    refine o_val rfl rfl rfl (y_move (v := (.int _ _)) rfl) ?_
    refine o_val rfl rfl rfl (y_and rfl rfl) ?_
    refine o_val rfl rfl rfl (y_eql rfl rfl) ?_
    refine o_nil ?_
    refine s_if rfl (fun h12 => ?_) (fun h13 => ?_)
    · have c2 := h12
      refine s_region ?_
      refine o_val rfl rfl rfl (y_move (v := (.slice _ _ _)) rfl) ?_
      refine o_fn 0 (d := 25) rfl Try.call112 (fieldM_c _ _ _) rfl ?_
      rintro _ _ ⟨rfl, rfl⟩
      refine o_lit (vs := [(0, .agg #[.string _, .int _ _, .int _ _])]) rfl rfl (KindsM_k4 _ _ _) (fun b14 => ?_)
      refine o_val rfl rfl rfl (y_build (vs := [(0, .string _), (1, .slice _ _ _)]) rfl (KindsM_k1 _ _ _ _)) ?_
      refine o_lit (vs := [(0, .agg #[.string _, .slice _ _ _])]) rfl rfl (KindsM_k2 _ _ _ _) (fun b15 => ?_)
      refine o_append (sz := 2) (bytes := 40) (news := [(.string _), (.slice _ _ _)]) 1 rfl Try.underlying50 Try.type170 rfl rfl rfl rfl rfl ho10 rfl rfl (Src.slice Try.underlying50 (cels_own 5 rfl rfl) rfl (by simp [Value.oneCell']) (by simp)) (by decide) (fun A16 c17 E18 ho19 hn20 => ?_)
      refine o_val rfl rfl rfl (y_assign (v := (.slice _ _ _)) rfl) ?_
      refine o_nil ?_
      refine s_norm [[(_, .cells [(.string _), (.int _ _), (.int _ _), (.string _), (.int _ _), (.int _ _)].toArray 172 (0, 0))], _, [(_, .cells [(.string _), (.int _ _), (.int _ _), (.string _), (.int _ _), (.int _ _), (.string _), (.int _ _), (.int _ _), (.string _), (.int _ _), (.int _ _)].toArray 172 (0, 0))], [(_, .cells [(.string _), (.slice _ _ _)].toArray 170 (0, 0))], [(_, .cells [(.string _), (.int _ _), (.int _ _)].toArray 172 (0, 0))], [(_, .cells [(.string _), (.slice _ _ _)].toArray 170 (0, 0))]] rfl ?_
      refine s_seq ?_
      refine s_seq ?_
      refine s_region ?_
      refine o_val rfl rfl rfl (y_move (v := (.int _ _)) rfl) ?_
      refine o_val rfl rfl rfl (y_and rfl rfl) ?_
      refine o_val rfl rfl rfl (y_eql rfl rfl) ?_
      refine o_nil ?_
      refine s_forget [(2, (.slice _ _ _)), (3, (.slice _ _ _)), (32, (.bool _))] ⟨rfl, rfl, rfl, trivial⟩ (fun _f => ?_)
      refine s_if rfl (fun h21 => ?_) (fun h22 => ?_)
      · have c3 := h21
        refine s_seq ?_
        refine s_region ?_
        refine o_val rfl rfl rfl (y_move (v := (.slice _ _ _)) rfl) ?_
        refine o_fn 0 (d := 34) rfl Try.call112 (fieldM_c _ _ _) rfl ?_
        rintro _ _ ⟨rfl, rfl⟩
        refine o_fn 0 (d := 35) rfl Try.call112 (fieldM_c _ _ _) rfl ?_
        rintro _ _ ⟨rfl, rfl⟩
        refine o_fn 0 (d := 36) rfl Try.call112 (fieldM_c _ _ _) rfl ?_
        rintro _ _ ⟨rfl, rfl⟩
        refine o_lit (vs := [(0, .agg #[.string _, .int _ _, .int _ _]), (1, .agg #[.string _, .int _ _, .int _ _]), (2, .agg #[.string _, .int _ _, .int _ _])]) rfl rfl (KindsM_k5 _ _ _ _ _ _ _ _ _) (fun b23 => ?_)
        refine o_val rfl rfl rfl (y_build (vs := [(0, .string _), (1, .slice _ _ _)]) rfl (KindsM_k1 _ _ _ _)) ?_
        refine o_lit (vs := [(0, .agg #[.string _, .slice _ _ _])]) rfl rfl (KindsM_k2 _ _ _ _) (fun b24 => ?_)
        refine o_append (sz := 2) (bytes := 40) (news := [(.string _), (.slice _ _ _)]) 1 rfl Try.underlying50 Try.type170 rfl rfl rfl rfl rfl ho19 rfl rfl (Src.slice Try.underlying50 (cels_own 7 rfl rfl) rfl (by simp [Value.oneCell']) (by simp)) (by decide) (fun A25 c26 E27 ho28 hn29 => ?_)
        refine o_val rfl rfl rfl (y_assign (v := (.slice _ _ _)) rfl) ?_
        refine o_nil ?_
        refine s_norm [[(_, .cells [(.string _), (.int _ _), (.int _ _), (.string _), (.int _ _), (.int _ _)].toArray 172 (0, 0))], _, [(_, .cells [(.string _), (.int _ _), (.int _ _), (.string _), (.int _ _), (.int _ _), (.string _), (.int _ _), (.int _ _), (.string _), (.int _ _), (.int _ _)].toArray 172 (0, 0))], [(_, .cells [(.string _), (.slice _ _ _)].toArray 170 (0, 0))], [(_, .cells [(.string _), (.int _ _), (.int _ _)].toArray 172 (0, 0))], [(_, .cells [(.string _), (.slice _ _ _)].toArray 170 (0, 0))], [(_, .cells [(.string _), (.int _ _), (.int _ _), (.string _), (.int _ _), (.int _ _), (.string _), (.int _ _), (.int _ _)].toArray 172 (0, 0))], [(_, .cells [(.string _), (.slice _ _ _)].toArray 170 (0, 0))]] rfl ?_
        refine s_seq ?_
        refine s_region ?_
        refine o_val rfl rfl rfl (y_move (v := (.slice _ _ _)) rfl) ?_
        refine o_fn 0 (d := 42) rfl Try.call112 (fieldM_c _ _ _) rfl ?_
        rintro _ _ ⟨rfl, rfl⟩
        refine o_fn 0 (d := 43) rfl Try.call112 (fieldM_c _ _ _) rfl ?_
        rintro _ _ ⟨rfl, rfl⟩
        refine o_fn 0 (d := 44) rfl Try.call112 (fieldM_c _ _ _) rfl ?_
        rintro _ _ ⟨rfl, rfl⟩
        refine o_fn 0 (d := 45) rfl Try.call112 (fieldM_c _ _ _) rfl ?_
        rintro _ _ ⟨rfl, rfl⟩
        refine o_lit (vs := [(0, .agg #[.string _, .int _ _, .int _ _]), (1, .agg #[.string _, .int _ _, .int _ _]), (2, .agg #[.string _, .int _ _, .int _ _]), (3, .agg #[.string _, .int _ _, .int _ _])]) rfl rfl (KindsM_k3 _ _ _ _ _ _ _ _ _ _ _ _) (fun b30 => ?_)
        refine o_val rfl rfl rfl (y_build (vs := [(0, .string _), (1, .slice _ _ _)]) rfl (KindsM_k1 _ _ _ _)) ?_
        refine o_lit (vs := [(0, .agg #[.string _, .slice _ _ _])]) rfl rfl (KindsM_k2 _ _ _ _) (fun b31 => ?_)
        refine o_append (sz := 2) (bytes := 40) (news := [(.string _), (.slice _ _ _)]) 1 rfl Try.underlying50 Try.type170 rfl rfl rfl rfl rfl ho28 rfl rfl (Src.slice Try.underlying50 (cels_own 9 rfl rfl) rfl (by simp [Value.oneCell']) (by simp)) (by decide) (fun A32 c33 E34 ho35 hn36 => ?_)
        refine o_val rfl rfl rfl (y_assign (v := (.slice _ _ _)) rfl) ?_
        refine o_nil ?_
        refine s_norm [[(_, .cells [(.string _), (.int _ _), (.int _ _), (.string _), (.int _ _), (.int _ _)].toArray 172 (0, 0))], _, [(_, .cells [(.string _), (.int _ _), (.int _ _), (.string _), (.int _ _), (.int _ _), (.string _), (.int _ _), (.int _ _), (.string _), (.int _ _), (.int _ _)].toArray 172 (0, 0))], [(_, .cells [(.string _), (.slice _ _ _)].toArray 170 (0, 0))], [(_, .cells [(.string _), (.int _ _), (.int _ _)].toArray 172 (0, 0))], [(_, .cells [(.string _), (.slice _ _ _)].toArray 170 (0, 0))], [(_, .cells [(.string _), (.int _ _), (.int _ _), (.string _), (.int _ _), (.int _ _), (.string _), (.int _ _), (.int _ _)].toArray 172 (0, 0))], [(_, .cells [(.string _), (.slice _ _ _)].toArray 170 (0, 0))], [(_, .cells [(.string _), (.int _ _), (.int _ _), (.string _), (.int _ _), (.int _ _), (.string _), (.int _ _), (.int _ _), (.string _), (.int _ _), (.int _ _)].toArray 172 (0, 0))], [(_, .cells [(.string _), (.slice _ _ _)].toArray 170 (0, 0))]] rfl ?_
        refine s_forget [(2, (.slice _ _ _)), (3, (.slice _ _ _))] ⟨rfl, rfl, trivial⟩ (fun _f => ?_)
        refine s_region ?_
        refine o_val rfl rfl rfl (y_move (v := (.slice _ _ _)) rfl) ?_
        refine o_fn 0 (d := 51) rfl Try.call112 (fieldM_c _ _ _) rfl ?_
        rintro _ _ ⟨rfl, rfl⟩
        refine o_fn 0 (d := 52) rfl Try.call112 (fieldM_c _ _ _) rfl ?_
        rintro _ _ ⟨rfl, rfl⟩
        refine o_fn 0 (d := 53) rfl Try.call112 (fieldM_c _ _ _) rfl ?_
        rintro _ _ ⟨rfl, rfl⟩
        refine o_fn 0 (d := 54) rfl Try.call112 (fieldM_c _ _ _) rfl ?_
        rintro _ _ ⟨rfl, rfl⟩
        refine o_fn 0 (d := 55) rfl Try.call112 (fieldM_c _ _ _) rfl ?_
        rintro _ _ ⟨rfl, rfl⟩
        refine o_lit (vs := [(0, .agg #[.string _, .int _ _, .int _ _]), (1, .agg #[.string _, .int _ _, .int _ _]), (2, .agg #[.string _, .int _ _, .int _ _]), (3, .agg #[.string _, .int _ _, .int _ _]), (4, .agg #[.string _, .int _ _, .int _ _])]) rfl rfl (KindsM_k6 _ _ _ _ _ _ _ _ _ _ _ _ _ _ _) (fun b37 => ?_)
        refine o_val rfl rfl rfl (y_build (vs := [(0, .string _), (1, .slice _ _ _)]) rfl (KindsM_k1 _ _ _ _)) ?_
        refine o_lit (vs := [(0, .agg #[.string _, .slice _ _ _])]) rfl rfl (KindsM_k2 _ _ _ _) (fun b38 => ?_)
        refine o_append (sz := 2) (bytes := 40) (news := [(.string _), (.slice _ _ _)]) 1 rfl Try.underlying50 Try.type170 rfl rfl rfl rfl rfl ho35 rfl rfl (Src.slice Try.underlying50 (cels_own 11 rfl rfl) rfl (by simp [Value.oneCell']) (by simp)) (by decide) (fun A39 c40 E41 ho42 hn43 => ?_)
        refine o_val rfl rfl rfl (y_assign (v := (.slice _ _ _)) rfl) ?_
        refine o_nil ?_
        refine s_norm [[(_, .cells [(.string _), (.int _ _), (.int _ _), (.string _), (.int _ _), (.int _ _)].toArray 172 (0, 0))], _, [(_, .cells [(.string _), (.int _ _), (.int _ _), (.string _), (.int _ _), (.int _ _), (.string _), (.int _ _), (.int _ _), (.string _), (.int _ _), (.int _ _)].toArray 172 (0, 0))], [(_, .cells [(.string _), (.slice _ _ _)].toArray 170 (0, 0))], [(_, .cells [(.string _), (.int _ _), (.int _ _)].toArray 172 (0, 0))], [(_, .cells [(.string _), (.slice _ _ _)].toArray 170 (0, 0))], [(_, .cells [(.string _), (.int _ _), (.int _ _), (.string _), (.int _ _), (.int _ _), (.string _), (.int _ _), (.int _ _)].toArray 172 (0, 0))], [(_, .cells [(.string _), (.slice _ _ _)].toArray 170 (0, 0))], [(_, .cells [(.string _), (.int _ _), (.int _ _), (.string _), (.int _ _), (.int _ _), (.string _), (.int _ _), (.int _ _), (.string _), (.int _ _), (.int _ _)].toArray 172 (0, 0))], [(_, .cells [(.string _), (.slice _ _ _)].toArray 170 (0, 0))], [(_, .cells [(.string _), (.int _ _), (.int _ _), (.string _), (.int _ _), (.int _ _), (.string _), (.int _ _), (.int _ _), (.string _), (.int _ _), (.int _ _), (.string _), (.int _ _), (.int _ _)].toArray 172 (0, 0))], [(_, .cells [(.string _), (.slice _ _ _)].toArray 170 (0, 0))]] rfl ?_
        refine s_seq ?_
        refine s_region ?_
        refine o_val rfl rfl rfl (y_move (v := (.slice _ _ _)) rfl) ?_
        refine o_val rfl rfl rfl (y_assign (v := (.slice _ _ _)) rfl) ?_
        refine o_nil ?_
        refine s_ret ?_
        exact ⟨_, _, res1 rfl rfl, ⟨_, _, _, [(⟨(⟨#[115, 112, 111, 116]⟩ : ByteArray), some ⟨b1, 0, none⟩, 2, 2, [FR.mk (⟨#[120]⟩ : ByteArray) 8 (-100), FR.mk (⟨#[121]⟩ : ByteArray) 8 (-100)]⟩ : KR), (⟨(⟨#[105, 110, 112, 117, 116]⟩ : ByteArray), some ⟨b5, 0, none⟩, 4, 4, [FR.mk (⟨#[112, 108, 97, 121, 101, 114]⟩ : ByteArray) 2 (0), FR.mk (⟨#[107, 101, 121, 115]⟩ : ByteArray) 8 (0), FR.mk (⟨#[120]⟩ : ByteArray) 8 (-128), FR.mk (⟨#[121]⟩ : ByteArray) 8 (-128)]⟩ : KR), (⟨(⟨#[109, 105, 110, 100]⟩ : ByteArray), some ⟨b14, 0, none⟩, 1, 1, [FR.mk (⟨#[112, 114, 111, 103]⟩ : ByteArray) 2 (-1)]⟩ : KR), (⟨(⟨#[112, 108, 97, 99, 101]⟩ : ByteArray), some ⟨b23, 0, none⟩, 3, 3, [FR.mk (⟨#[120]⟩ : ByteArray) 26 (-33554432), FR.mk (⟨#[121]⟩ : ByteArray) 26 (-33554432), FR.mk (⟨#[97, 110, 103]⟩ : ByteArray) 16 (0)]⟩ : KR), (⟨(⟨#[109, 111, 116, 105, 111, 110]⟩ : ByteArray), some ⟨b30, 0, none⟩, 4, 4, [FR.mk (⟨#[118, 120]⟩ : ByteArray) 22 (-2097152), FR.mk (⟨#[118, 121]⟩ : ByteArray) 22 (-2097152), FR.mk (⟨#[115, 112, 105, 110]⟩ : ByteArray) 18 (-131072), FR.mk (⟨#[99, 97, 108, 109]⟩ : ByteArray) 12 (0)]⟩ : KR), (⟨(⟨#[115, 104, 97, 112, 101]⟩ : ByteArray), some ⟨b37, 0, none⟩, 5, 5, [FR.mk (⟨#[119]⟩ : ByteArray) 18 (4096), FR.mk (⟨#[104]⟩ : ByteArray) 18 (4096), FR.mk (⟨#[109, 97, 115, 115]⟩ : ByteArray) 20 (0), FR.mk (⟨#[98, 111, 117, 110, 99, 101]⟩ : ByteArray) 17 (0), FR.mk (⟨#[114, 117, 98]⟩ : ByteArray) 17 (0)]⟩ : KR)], _, rfl, (show Cels V _ _ (([(⟨(⟨#[115, 112, 111, 116]⟩ : ByteArray), some ⟨b1, 0, none⟩, 2, 2, [FR.mk (⟨#[120]⟩ : ByteArray) 8 (-100), FR.mk (⟨#[121]⟩ : ByteArray) 8 (-100)]⟩ : KR), (⟨(⟨#[105, 110, 112, 117, 116]⟩ : ByteArray), some ⟨b5, 0, none⟩, 4, 4, [FR.mk (⟨#[112, 108, 97, 121, 101, 114]⟩ : ByteArray) 2 (0), FR.mk (⟨#[107, 101, 121, 115]⟩ : ByteArray) 8 (0), FR.mk (⟨#[120]⟩ : ByteArray) 8 (-128), FR.mk (⟨#[121]⟩ : ByteArray) 8 (-128)]⟩ : KR), (⟨(⟨#[109, 105, 110, 100]⟩ : ByteArray), some ⟨b14, 0, none⟩, 1, 1, [FR.mk (⟨#[112, 114, 111, 103]⟩ : ByteArray) 2 (-1)]⟩ : KR), (⟨(⟨#[112, 108, 97, 99, 101]⟩ : ByteArray), some ⟨b23, 0, none⟩, 3, 3, [FR.mk (⟨#[120]⟩ : ByteArray) 26 (-33554432), FR.mk (⟨#[121]⟩ : ByteArray) 26 (-33554432), FR.mk (⟨#[97, 110, 103]⟩ : ByteArray) 16 (0)]⟩ : KR), (⟨(⟨#[109, 111, 116, 105, 111, 110]⟩ : ByteArray), some ⟨b30, 0, none⟩, 4, 4, [FR.mk (⟨#[118, 120]⟩ : ByteArray) 22 (-2097152), FR.mk (⟨#[118, 121]⟩ : ByteArray) 22 (-2097152), FR.mk (⟨#[115, 112, 105, 110]⟩ : ByteArray) 18 (-131072), FR.mk (⟨#[99, 97, 108, 109]⟩ : ByteArray) 12 (0)]⟩ : KR), (⟨(⟨#[115, 104, 97, 112, 101]⟩ : ByteArray), some ⟨b37, 0, none⟩, 5, 5, [FR.mk (⟨#[119]⟩ : ByteArray) 18 (4096), FR.mk (⟨#[104]⟩ : ByteArray) 18 (4096), FR.mk (⟨#[109, 97, 115, 115]⟩ : ByteArray) 20 (0), FR.mk (⟨#[98, 111, 117, 110, 99, 101]⟩ : ByteArray) 17 (0), FR.mk (⟨#[114, 117, 98]⟩ : ByteArray) 17 (0)]⟩ : KR)]).flatMap encK) from ho42.cels (j := 1) rfl).flat, rfl, ho42.2.1, List.forall_mem_cons.2 ⟨kok_lit rfl (by decide) (cels_own (cs := ([FR.mk (⟨#[120]⟩ : ByteArray) 8 (-100), FR.mk (⟨#[121]⟩ : ByteArray) 8 (-100)]).flatMap encF) 0 rfl rfl), List.forall_mem_cons.2 ⟨kok_lit rfl (by decide) (cels_own (cs := ([FR.mk (⟨#[112, 108, 97, 121, 101, 114]⟩ : ByteArray) 2 (0), FR.mk (⟨#[107, 101, 121, 115]⟩ : ByteArray) 8 (0), FR.mk (⟨#[120]⟩ : ByteArray) 8 (-128), FR.mk (⟨#[121]⟩ : ByteArray) 8 (-128)]).flatMap encF) 2 rfl rfl), List.forall_mem_cons.2 ⟨kok_lit rfl (by decide) (cels_own (cs := ([FR.mk (⟨#[112, 114, 111, 103]⟩ : ByteArray) 2 (-1)]).flatMap encF) 4 rfl rfl), List.forall_mem_cons.2 ⟨kok_lit rfl (by decide) (cels_own (cs := ([FR.mk (⟨#[120]⟩ : ByteArray) 26 (-33554432), FR.mk (⟨#[121]⟩ : ByteArray) 26 (-33554432), FR.mk (⟨#[97, 110, 103]⟩ : ByteArray) 16 (0)]).flatMap encF) 6 rfl rfl), List.forall_mem_cons.2 ⟨kok_lit rfl (by decide) (cels_own (cs := ([FR.mk (⟨#[118, 120]⟩ : ByteArray) 22 (-2097152), FR.mk (⟨#[118, 121]⟩ : ByteArray) 22 (-2097152), FR.mk (⟨#[115, 112, 105, 110]⟩ : ByteArray) 18 (-131072), FR.mk (⟨#[99, 97, 108, 109]⟩ : ByteArray) 12 (0)]).flatMap encF) 8 rfl rfl), List.forall_mem_cons.2 ⟨kok_lit rfl (by decide) (cels_own (cs := ([FR.mk (⟨#[119]⟩ : ByteArray) 18 (4096), FR.mk (⟨#[104]⟩ : ByteArray) 18 (4096), FR.mk (⟨#[109, 97, 115, 115]⟩ : ByteArray) 20 (0), FR.mk (⟨#[98, 111, 117, 110, 99, 101]⟩ : ByteArray) 17 (0), FR.mk (⟨#[114, 117, 98]⟩ : ByteArray) 17 (0)]).flatMap encF) 10 rfl rfl), fun _ hh => by cases hh⟩⟩⟩⟩⟩⟩, by unfold kindsOf; rw [if_pos c1, if_pos c2, if_pos c3]; rfl, rfl⟩, sub_flat⟩
      · have c3 := h22
        refine s_skip ?_
        refine s_seq ?_
        refine s_region ?_
        refine o_val rfl rfl rfl (y_move (v := (.slice _ _ _)) rfl) ?_
        refine o_val rfl rfl rfl (y_assign (v := (.slice _ _ _)) rfl) ?_
        refine o_nil ?_
        refine s_ret ?_
        exact ⟨_, _, res1 rfl rfl, ⟨_, _, _, [(⟨(⟨#[115, 112, 111, 116]⟩ : ByteArray), some ⟨b1, 0, none⟩, 2, 2, [FR.mk (⟨#[120]⟩ : ByteArray) 8 (-100), FR.mk (⟨#[121]⟩ : ByteArray) 8 (-100)]⟩ : KR), (⟨(⟨#[105, 110, 112, 117, 116]⟩ : ByteArray), some ⟨b5, 0, none⟩, 4, 4, [FR.mk (⟨#[112, 108, 97, 121, 101, 114]⟩ : ByteArray) 2 (0), FR.mk (⟨#[107, 101, 121, 115]⟩ : ByteArray) 8 (0), FR.mk (⟨#[120]⟩ : ByteArray) 8 (-128), FR.mk (⟨#[121]⟩ : ByteArray) 8 (-128)]⟩ : KR), (⟨(⟨#[109, 105, 110, 100]⟩ : ByteArray), some ⟨b14, 0, none⟩, 1, 1, [FR.mk (⟨#[112, 114, 111, 103]⟩ : ByteArray) 2 (-1)]⟩ : KR)], _, rfl, (show Cels V _ _ (([(⟨(⟨#[115, 112, 111, 116]⟩ : ByteArray), some ⟨b1, 0, none⟩, 2, 2, [FR.mk (⟨#[120]⟩ : ByteArray) 8 (-100), FR.mk (⟨#[121]⟩ : ByteArray) 8 (-100)]⟩ : KR), (⟨(⟨#[105, 110, 112, 117, 116]⟩ : ByteArray), some ⟨b5, 0, none⟩, 4, 4, [FR.mk (⟨#[112, 108, 97, 121, 101, 114]⟩ : ByteArray) 2 (0), FR.mk (⟨#[107, 101, 121, 115]⟩ : ByteArray) 8 (0), FR.mk (⟨#[120]⟩ : ByteArray) 8 (-128), FR.mk (⟨#[121]⟩ : ByteArray) 8 (-128)]⟩ : KR), (⟨(⟨#[109, 105, 110, 100]⟩ : ByteArray), some ⟨b14, 0, none⟩, 1, 1, [FR.mk (⟨#[112, 114, 111, 103]⟩ : ByteArray) 2 (-1)]⟩ : KR)]).flatMap encK) from ho19.cels (j := 1) rfl).flat, rfl, ho19.2.1, List.forall_mem_cons.2 ⟨kok_lit rfl (by decide) (cels_own (cs := ([FR.mk (⟨#[120]⟩ : ByteArray) 8 (-100), FR.mk (⟨#[121]⟩ : ByteArray) 8 (-100)]).flatMap encF) 0 rfl rfl), List.forall_mem_cons.2 ⟨kok_lit rfl (by decide) (cels_own (cs := ([FR.mk (⟨#[112, 108, 97, 121, 101, 114]⟩ : ByteArray) 2 (0), FR.mk (⟨#[107, 101, 121, 115]⟩ : ByteArray) 8 (0), FR.mk (⟨#[120]⟩ : ByteArray) 8 (-128), FR.mk (⟨#[121]⟩ : ByteArray) 8 (-128)]).flatMap encF) 2 rfl rfl), List.forall_mem_cons.2 ⟨kok_lit rfl (by decide) (cels_own (cs := ([FR.mk (⟨#[112, 114, 111, 103]⟩ : ByteArray) 2 (-1)]).flatMap encF) 4 rfl rfl), fun _ hh => by cases hh⟩⟩⟩, by unfold kindsOf; rw [if_pos c1, if_pos c2, if_neg c3]; rfl, rfl⟩, sub_flat⟩
    · have c2 := h13
      refine s_skip ?_
      refine s_seq ?_
      refine s_seq ?_
      refine s_region ?_
      refine o_val rfl rfl rfl (y_move (v := (.int _ _)) rfl) ?_
      refine o_val rfl rfl rfl (y_and rfl rfl) ?_
      refine o_val rfl rfl rfl (y_eql rfl rfl) ?_
      refine o_nil ?_
      refine s_if rfl (fun h44 => ?_) (fun h45 => ?_)
      · have c3 := h44
        refine s_seq ?_
        refine s_region ?_
        refine o_val rfl rfl rfl (y_move (v := (.slice _ _ _)) rfl) ?_
        refine o_fn 0 (d := 34) rfl Try.call112 (fieldM_c _ _ _) rfl ?_
        rintro _ _ ⟨rfl, rfl⟩
        refine o_fn 0 (d := 35) rfl Try.call112 (fieldM_c _ _ _) rfl ?_
        rintro _ _ ⟨rfl, rfl⟩
        refine o_fn 0 (d := 36) rfl Try.call112 (fieldM_c _ _ _) rfl ?_
        rintro _ _ ⟨rfl, rfl⟩
        refine o_lit (vs := [(0, .agg #[.string _, .int _ _, .int _ _]), (1, .agg #[.string _, .int _ _, .int _ _]), (2, .agg #[.string _, .int _ _, .int _ _])]) rfl rfl (KindsM_k5 _ _ _ _ _ _ _ _ _) (fun b46 => ?_)
        refine o_val rfl rfl rfl (y_build (vs := [(0, .string _), (1, .slice _ _ _)]) rfl (KindsM_k1 _ _ _ _)) ?_
        refine o_lit (vs := [(0, .agg #[.string _, .slice _ _ _])]) rfl rfl (KindsM_k2 _ _ _ _) (fun b47 => ?_)
        refine o_append (sz := 2) (bytes := 40) (news := [(.string _), (.slice _ _ _)]) 1 rfl Try.underlying50 Try.type170 rfl rfl rfl rfl rfl ho10 rfl rfl (Src.slice Try.underlying50 (cels_own 5 rfl rfl) rfl (by simp [Value.oneCell']) (by simp)) (by decide) (fun A48 c49 E50 ho51 hn52 => ?_)
        refine o_val rfl rfl rfl (y_assign (v := (.slice _ _ _)) rfl) ?_
        refine o_nil ?_
        refine s_norm [[(_, .cells [(.string _), (.int _ _), (.int _ _), (.string _), (.int _ _), (.int _ _)].toArray 172 (0, 0))], _, [(_, .cells [(.string _), (.int _ _), (.int _ _), (.string _), (.int _ _), (.int _ _), (.string _), (.int _ _), (.int _ _), (.string _), (.int _ _), (.int _ _)].toArray 172 (0, 0))], [(_, .cells [(.string _), (.slice _ _ _)].toArray 170 (0, 0))], [(_, .cells [(.string _), (.int _ _), (.int _ _), (.string _), (.int _ _), (.int _ _), (.string _), (.int _ _), (.int _ _)].toArray 172 (0, 0))], [(_, .cells [(.string _), (.slice _ _ _)].toArray 170 (0, 0))]] rfl ?_
        refine s_forget [(2, (.slice _ _ _)), (3, (.slice _ _ _))] ⟨rfl, rfl, trivial⟩ (fun _f => ?_)
        refine s_seq ?_
        refine s_region ?_
        refine o_val rfl rfl rfl (y_move (v := (.slice _ _ _)) rfl) ?_
        refine o_fn 0 (d := 42) rfl Try.call112 (fieldM_c _ _ _) rfl ?_
        rintro _ _ ⟨rfl, rfl⟩
        refine o_fn 0 (d := 43) rfl Try.call112 (fieldM_c _ _ _) rfl ?_
        rintro _ _ ⟨rfl, rfl⟩
        refine o_fn 0 (d := 44) rfl Try.call112 (fieldM_c _ _ _) rfl ?_
        rintro _ _ ⟨rfl, rfl⟩
        refine o_fn 0 (d := 45) rfl Try.call112 (fieldM_c _ _ _) rfl ?_
        rintro _ _ ⟨rfl, rfl⟩
        refine o_lit (vs := [(0, .agg #[.string _, .int _ _, .int _ _]), (1, .agg #[.string _, .int _ _, .int _ _]), (2, .agg #[.string _, .int _ _, .int _ _]), (3, .agg #[.string _, .int _ _, .int _ _])]) rfl rfl (KindsM_k3 _ _ _ _ _ _ _ _ _ _ _ _) (fun b53 => ?_)
        refine o_val rfl rfl rfl (y_build (vs := [(0, .string _), (1, .slice _ _ _)]) rfl (KindsM_k1 _ _ _ _)) ?_
        refine o_lit (vs := [(0, .agg #[.string _, .slice _ _ _])]) rfl rfl (KindsM_k2 _ _ _ _) (fun b54 => ?_)
        refine o_append (sz := 2) (bytes := 40) (news := [(.string _), (.slice _ _ _)]) 1 rfl Try.underlying50 Try.type170 rfl rfl rfl rfl rfl ho51 rfl rfl (Src.slice Try.underlying50 (cels_own 7 rfl rfl) rfl (by simp [Value.oneCell']) (by simp)) (by decide) (fun A55 c56 E57 ho58 hn59 => ?_)
        refine o_val rfl rfl rfl (y_assign (v := (.slice _ _ _)) rfl) ?_
        refine o_nil ?_
        refine s_norm [[(_, .cells [(.string _), (.int _ _), (.int _ _), (.string _), (.int _ _), (.int _ _)].toArray 172 (0, 0))], _, [(_, .cells [(.string _), (.int _ _), (.int _ _), (.string _), (.int _ _), (.int _ _), (.string _), (.int _ _), (.int _ _), (.string _), (.int _ _), (.int _ _)].toArray 172 (0, 0))], [(_, .cells [(.string _), (.slice _ _ _)].toArray 170 (0, 0))], [(_, .cells [(.string _), (.int _ _), (.int _ _), (.string _), (.int _ _), (.int _ _), (.string _), (.int _ _), (.int _ _)].toArray 172 (0, 0))], [(_, .cells [(.string _), (.slice _ _ _)].toArray 170 (0, 0))], [(_, .cells [(.string _), (.int _ _), (.int _ _), (.string _), (.int _ _), (.int _ _), (.string _), (.int _ _), (.int _ _), (.string _), (.int _ _), (.int _ _)].toArray 172 (0, 0))], [(_, .cells [(.string _), (.slice _ _ _)].toArray 170 (0, 0))]] rfl ?_
        refine s_region ?_
        refine o_val rfl rfl rfl (y_move (v := (.slice _ _ _)) rfl) ?_
        refine o_fn 0 (d := 51) rfl Try.call112 (fieldM_c _ _ _) rfl ?_
        rintro _ _ ⟨rfl, rfl⟩
        refine o_fn 0 (d := 52) rfl Try.call112 (fieldM_c _ _ _) rfl ?_
        rintro _ _ ⟨rfl, rfl⟩
        refine o_fn 0 (d := 53) rfl Try.call112 (fieldM_c _ _ _) rfl ?_
        rintro _ _ ⟨rfl, rfl⟩
        refine o_fn 0 (d := 54) rfl Try.call112 (fieldM_c _ _ _) rfl ?_
        rintro _ _ ⟨rfl, rfl⟩
        refine o_fn 0 (d := 55) rfl Try.call112 (fieldM_c _ _ _) rfl ?_
        rintro _ _ ⟨rfl, rfl⟩
        refine o_lit (vs := [(0, .agg #[.string _, .int _ _, .int _ _]), (1, .agg #[.string _, .int _ _, .int _ _]), (2, .agg #[.string _, .int _ _, .int _ _]), (3, .agg #[.string _, .int _ _, .int _ _]), (4, .agg #[.string _, .int _ _, .int _ _])]) rfl rfl (KindsM_k6 _ _ _ _ _ _ _ _ _ _ _ _ _ _ _) (fun b60 => ?_)
        refine o_val rfl rfl rfl (y_build (vs := [(0, .string _), (1, .slice _ _ _)]) rfl (KindsM_k1 _ _ _ _)) ?_
        refine o_lit (vs := [(0, .agg #[.string _, .slice _ _ _])]) rfl rfl (KindsM_k2 _ _ _ _) (fun b61 => ?_)
        refine o_append (sz := 2) (bytes := 40) (news := [(.string _), (.slice _ _ _)]) 1 rfl Try.underlying50 Try.type170 rfl rfl rfl rfl rfl ho58 rfl rfl (Src.slice Try.underlying50 (cels_own 9 rfl rfl) rfl (by simp [Value.oneCell']) (by simp)) (by decide) (fun A62 c63 E64 ho65 hn66 => ?_)
        refine o_val rfl rfl rfl (y_assign (v := (.slice _ _ _)) rfl) ?_
        refine o_nil ?_
        refine s_norm [[(_, .cells [(.string _), (.int _ _), (.int _ _), (.string _), (.int _ _), (.int _ _)].toArray 172 (0, 0))], _, [(_, .cells [(.string _), (.int _ _), (.int _ _), (.string _), (.int _ _), (.int _ _), (.string _), (.int _ _), (.int _ _), (.string _), (.int _ _), (.int _ _)].toArray 172 (0, 0))], [(_, .cells [(.string _), (.slice _ _ _)].toArray 170 (0, 0))], [(_, .cells [(.string _), (.int _ _), (.int _ _), (.string _), (.int _ _), (.int _ _), (.string _), (.int _ _), (.int _ _)].toArray 172 (0, 0))], [(_, .cells [(.string _), (.slice _ _ _)].toArray 170 (0, 0))], [(_, .cells [(.string _), (.int _ _), (.int _ _), (.string _), (.int _ _), (.int _ _), (.string _), (.int _ _), (.int _ _), (.string _), (.int _ _), (.int _ _)].toArray 172 (0, 0))], [(_, .cells [(.string _), (.slice _ _ _)].toArray 170 (0, 0))], [(_, .cells [(.string _), (.int _ _), (.int _ _), (.string _), (.int _ _), (.int _ _), (.string _), (.int _ _), (.int _ _), (.string _), (.int _ _), (.int _ _), (.string _), (.int _ _), (.int _ _)].toArray 172 (0, 0))], [(_, .cells [(.string _), (.slice _ _ _)].toArray 170 (0, 0))]] rfl ?_
        refine s_forget [(2, (.slice _ _ _)), (3, (.slice _ _ _))] ⟨rfl, rfl, trivial⟩ (fun _f => ?_)
        refine s_seq ?_
        refine s_region ?_
        refine o_val rfl rfl rfl (y_move (v := (.slice _ _ _)) rfl) ?_
        refine o_val rfl rfl rfl (y_assign (v := (.slice _ _ _)) rfl) ?_
        refine o_nil ?_
        refine s_ret ?_
        exact ⟨_, _, res1 rfl rfl, ⟨_, _, _, [(⟨(⟨#[115, 112, 111, 116]⟩ : ByteArray), some ⟨b1, 0, none⟩, 2, 2, [FR.mk (⟨#[120]⟩ : ByteArray) 8 (-100), FR.mk (⟨#[121]⟩ : ByteArray) 8 (-100)]⟩ : KR), (⟨(⟨#[105, 110, 112, 117, 116]⟩ : ByteArray), some ⟨b5, 0, none⟩, 4, 4, [FR.mk (⟨#[112, 108, 97, 121, 101, 114]⟩ : ByteArray) 2 (0), FR.mk (⟨#[107, 101, 121, 115]⟩ : ByteArray) 8 (0), FR.mk (⟨#[120]⟩ : ByteArray) 8 (-128), FR.mk (⟨#[121]⟩ : ByteArray) 8 (-128)]⟩ : KR), (⟨(⟨#[112, 108, 97, 99, 101]⟩ : ByteArray), some ⟨b46, 0, none⟩, 3, 3, [FR.mk (⟨#[120]⟩ : ByteArray) 26 (-33554432), FR.mk (⟨#[121]⟩ : ByteArray) 26 (-33554432), FR.mk (⟨#[97, 110, 103]⟩ : ByteArray) 16 (0)]⟩ : KR), (⟨(⟨#[109, 111, 116, 105, 111, 110]⟩ : ByteArray), some ⟨b53, 0, none⟩, 4, 4, [FR.mk (⟨#[118, 120]⟩ : ByteArray) 22 (-2097152), FR.mk (⟨#[118, 121]⟩ : ByteArray) 22 (-2097152), FR.mk (⟨#[115, 112, 105, 110]⟩ : ByteArray) 18 (-131072), FR.mk (⟨#[99, 97, 108, 109]⟩ : ByteArray) 12 (0)]⟩ : KR), (⟨(⟨#[115, 104, 97, 112, 101]⟩ : ByteArray), some ⟨b60, 0, none⟩, 5, 5, [FR.mk (⟨#[119]⟩ : ByteArray) 18 (4096), FR.mk (⟨#[104]⟩ : ByteArray) 18 (4096), FR.mk (⟨#[109, 97, 115, 115]⟩ : ByteArray) 20 (0), FR.mk (⟨#[98, 111, 117, 110, 99, 101]⟩ : ByteArray) 17 (0), FR.mk (⟨#[114, 117, 98]⟩ : ByteArray) 17 (0)]⟩ : KR)], _, rfl, (show Cels V _ _ (([(⟨(⟨#[115, 112, 111, 116]⟩ : ByteArray), some ⟨b1, 0, none⟩, 2, 2, [FR.mk (⟨#[120]⟩ : ByteArray) 8 (-100), FR.mk (⟨#[121]⟩ : ByteArray) 8 (-100)]⟩ : KR), (⟨(⟨#[105, 110, 112, 117, 116]⟩ : ByteArray), some ⟨b5, 0, none⟩, 4, 4, [FR.mk (⟨#[112, 108, 97, 121, 101, 114]⟩ : ByteArray) 2 (0), FR.mk (⟨#[107, 101, 121, 115]⟩ : ByteArray) 8 (0), FR.mk (⟨#[120]⟩ : ByteArray) 8 (-128), FR.mk (⟨#[121]⟩ : ByteArray) 8 (-128)]⟩ : KR), (⟨(⟨#[112, 108, 97, 99, 101]⟩ : ByteArray), some ⟨b46, 0, none⟩, 3, 3, [FR.mk (⟨#[120]⟩ : ByteArray) 26 (-33554432), FR.mk (⟨#[121]⟩ : ByteArray) 26 (-33554432), FR.mk (⟨#[97, 110, 103]⟩ : ByteArray) 16 (0)]⟩ : KR), (⟨(⟨#[109, 111, 116, 105, 111, 110]⟩ : ByteArray), some ⟨b53, 0, none⟩, 4, 4, [FR.mk (⟨#[118, 120]⟩ : ByteArray) 22 (-2097152), FR.mk (⟨#[118, 121]⟩ : ByteArray) 22 (-2097152), FR.mk (⟨#[115, 112, 105, 110]⟩ : ByteArray) 18 (-131072), FR.mk (⟨#[99, 97, 108, 109]⟩ : ByteArray) 12 (0)]⟩ : KR), (⟨(⟨#[115, 104, 97, 112, 101]⟩ : ByteArray), some ⟨b60, 0, none⟩, 5, 5, [FR.mk (⟨#[119]⟩ : ByteArray) 18 (4096), FR.mk (⟨#[104]⟩ : ByteArray) 18 (4096), FR.mk (⟨#[109, 97, 115, 115]⟩ : ByteArray) 20 (0), FR.mk (⟨#[98, 111, 117, 110, 99, 101]⟩ : ByteArray) 17 (0), FR.mk (⟨#[114, 117, 98]⟩ : ByteArray) 17 (0)]⟩ : KR)]).flatMap encK) from ho65.cels (j := 1) rfl).flat, rfl, ho65.2.1, List.forall_mem_cons.2 ⟨kok_lit rfl (by decide) (cels_own (cs := ([FR.mk (⟨#[120]⟩ : ByteArray) 8 (-100), FR.mk (⟨#[121]⟩ : ByteArray) 8 (-100)]).flatMap encF) 0 rfl rfl), List.forall_mem_cons.2 ⟨kok_lit rfl (by decide) (cels_own (cs := ([FR.mk (⟨#[112, 108, 97, 121, 101, 114]⟩ : ByteArray) 2 (0), FR.mk (⟨#[107, 101, 121, 115]⟩ : ByteArray) 8 (0), FR.mk (⟨#[120]⟩ : ByteArray) 8 (-128), FR.mk (⟨#[121]⟩ : ByteArray) 8 (-128)]).flatMap encF) 2 rfl rfl), List.forall_mem_cons.2 ⟨kok_lit rfl (by decide) (cels_own (cs := ([FR.mk (⟨#[120]⟩ : ByteArray) 26 (-33554432), FR.mk (⟨#[121]⟩ : ByteArray) 26 (-33554432), FR.mk (⟨#[97, 110, 103]⟩ : ByteArray) 16 (0)]).flatMap encF) 4 rfl rfl), List.forall_mem_cons.2 ⟨kok_lit rfl (by decide) (cels_own (cs := ([FR.mk (⟨#[118, 120]⟩ : ByteArray) 22 (-2097152), FR.mk (⟨#[118, 121]⟩ : ByteArray) 22 (-2097152), FR.mk (⟨#[115, 112, 105, 110]⟩ : ByteArray) 18 (-131072), FR.mk (⟨#[99, 97, 108, 109]⟩ : ByteArray) 12 (0)]).flatMap encF) 6 rfl rfl), List.forall_mem_cons.2 ⟨kok_lit rfl (by decide) (cels_own (cs := ([FR.mk (⟨#[119]⟩ : ByteArray) 18 (4096), FR.mk (⟨#[104]⟩ : ByteArray) 18 (4096), FR.mk (⟨#[109, 97, 115, 115]⟩ : ByteArray) 20 (0), FR.mk (⟨#[98, 111, 117, 110, 99, 101]⟩ : ByteArray) 17 (0), FR.mk (⟨#[114, 117, 98]⟩ : ByteArray) 17 (0)]).flatMap encF) 8 rfl rfl), fun _ hh => by cases hh⟩⟩⟩⟩⟩, by unfold kindsOf; rw [if_pos c1, if_neg c2, if_pos c3]; rfl, rfl⟩, sub_flat⟩
      · have c3 := h45
        refine s_skip ?_
        refine s_seq ?_
        refine s_region ?_
        refine o_val rfl rfl rfl (y_move (v := (.slice _ _ _)) rfl) ?_
        refine o_val rfl rfl rfl (y_assign (v := (.slice _ _ _)) rfl) ?_
        refine o_nil ?_
        refine s_ret ?_
        exact ⟨_, _, res1 rfl rfl, ⟨_, _, _, [(⟨(⟨#[115, 112, 111, 116]⟩ : ByteArray), some ⟨b1, 0, none⟩, 2, 2, [FR.mk (⟨#[120]⟩ : ByteArray) 8 (-100), FR.mk (⟨#[121]⟩ : ByteArray) 8 (-100)]⟩ : KR), (⟨(⟨#[105, 110, 112, 117, 116]⟩ : ByteArray), some ⟨b5, 0, none⟩, 4, 4, [FR.mk (⟨#[112, 108, 97, 121, 101, 114]⟩ : ByteArray) 2 (0), FR.mk (⟨#[107, 101, 121, 115]⟩ : ByteArray) 8 (0), FR.mk (⟨#[120]⟩ : ByteArray) 8 (-128), FR.mk (⟨#[121]⟩ : ByteArray) 8 (-128)]⟩ : KR)], _, rfl, (show Cels V _ _ (([(⟨(⟨#[115, 112, 111, 116]⟩ : ByteArray), some ⟨b1, 0, none⟩, 2, 2, [FR.mk (⟨#[120]⟩ : ByteArray) 8 (-100), FR.mk (⟨#[121]⟩ : ByteArray) 8 (-100)]⟩ : KR), (⟨(⟨#[105, 110, 112, 117, 116]⟩ : ByteArray), some ⟨b5, 0, none⟩, 4, 4, [FR.mk (⟨#[112, 108, 97, 121, 101, 114]⟩ : ByteArray) 2 (0), FR.mk (⟨#[107, 101, 121, 115]⟩ : ByteArray) 8 (0), FR.mk (⟨#[120]⟩ : ByteArray) 8 (-128), FR.mk (⟨#[121]⟩ : ByteArray) 8 (-128)]⟩ : KR)]).flatMap encK) from ho10.cels (j := 1) rfl).flat, rfl, ho10.2.1, List.forall_mem_cons.2 ⟨kok_lit rfl (by decide) (cels_own (cs := ([FR.mk (⟨#[120]⟩ : ByteArray) 8 (-100), FR.mk (⟨#[121]⟩ : ByteArray) 8 (-100)]).flatMap encF) 0 rfl rfl), List.forall_mem_cons.2 ⟨kok_lit rfl (by decide) (cels_own (cs := ([FR.mk (⟨#[112, 108, 97, 121, 101, 114]⟩ : ByteArray) 2 (0), FR.mk (⟨#[107, 101, 121, 115]⟩ : ByteArray) 8 (0), FR.mk (⟨#[120]⟩ : ByteArray) 8 (-128), FR.mk (⟨#[121]⟩ : ByteArray) 8 (-128)]).flatMap encF) 2 rfl rfl), fun _ hh => by cases hh⟩⟩, by unfold kindsOf; rw [if_pos c1, if_neg c2, if_neg c3]; rfl, rfl⟩, sub_flat⟩
  · have c1 := h4
    refine s_skip ?_
    refine s_seq ?_
    refine s_seq ?_
    refine s_region ?_
    refine o_val rfl rfl rfl (y_move (v := (.int _ _)) rfl) ?_
    refine o_val rfl rfl rfl (y_and rfl rfl) ?_
    refine o_val rfl rfl rfl (y_eql rfl rfl) ?_
    refine o_nil ?_
    refine s_forget [(0, (.int _ _)), (2, (.slice _ _ _)), (3, (.slice _ _ _)), (23, (.bool _))] ⟨rfl, rfl, rfl, rfl, trivial⟩ (fun _f => ?_)
    refine s_if rfl (fun h67 => ?_) (fun h68 => ?_)
    · have c2 := h67
      refine s_region ?_
      refine o_val rfl rfl rfl (y_move (v := (.slice _ _ _)) rfl) ?_
      refine o_fn 0 (d := 25) rfl Try.call112 (fieldM_c _ _ _) rfl ?_
      rintro _ _ ⟨rfl, rfl⟩
      refine o_lit (vs := [(0, .agg #[.string _, .int _ _, .int _ _])]) rfl rfl (KindsM_k4 _ _ _) (fun b69 => ?_)
      refine o_val rfl rfl rfl (y_build (vs := [(0, .string _), (1, .slice _ _ _)]) rfl (KindsM_k1 _ _ _ _)) ?_
      refine o_lit (vs := [(0, .agg #[.string _, .slice _ _ _])]) rfl rfl (KindsM_k2 _ _ _ _) (fun b70 => ?_)
      refine o_append (sz := 2) (bytes := 40) (news := [(.string _), (.slice _ _ _)]) 1 rfl Try.underlying50 Try.type170 rfl rfl rfl rfl rfl (OS.lit (sz := 2) (n := 1) rfl (by decide)) rfl rfl (Src.slice Try.underlying50 (cels_own 3 rfl rfl) rfl (by simp [Value.oneCell']) (by simp)) (by decide) (fun A71 c72 E73 ho74 hn75 => ?_)
      refine o_val rfl rfl rfl (y_assign (v := (.slice _ _ _)) rfl) ?_
      refine o_nil ?_
      refine s_norm [[(_, .cells [(.string _), (.int _ _), (.int _ _), (.string _), (.int _ _), (.int _ _)].toArray 172 (0, 0))], _, [(_, .cells [(.string _), (.int _ _), (.int _ _)].toArray 172 (0, 0))], [(_, .cells [(.string _), (.slice _ _ _)].toArray 170 (0, 0))]] rfl ?_
      refine s_seq ?_
      refine s_seq ?_
      refine s_region ?_
      refine o_val rfl rfl rfl (y_move (v := (.int _ _)) rfl) ?_
      refine o_val rfl rfl rfl (y_and rfl rfl) ?_
      refine o_val rfl rfl rfl (y_eql rfl rfl) ?_
      refine o_nil ?_
      refine s_if rfl (fun h76 => ?_) (fun h77 => ?_)
      · have c3 := h76
        refine s_seq ?_
        refine s_region ?_
        refine o_val rfl rfl rfl (y_move (v := (.slice _ _ _)) rfl) ?_
        refine o_fn 0 (d := 34) rfl Try.call112 (fieldM_c _ _ _) rfl ?_
        rintro _ _ ⟨rfl, rfl⟩
        refine o_fn 0 (d := 35) rfl Try.call112 (fieldM_c _ _ _) rfl ?_
        rintro _ _ ⟨rfl, rfl⟩
        refine o_fn 0 (d := 36) rfl Try.call112 (fieldM_c _ _ _) rfl ?_
        rintro _ _ ⟨rfl, rfl⟩
        refine o_lit (vs := [(0, .agg #[.string _, .int _ _, .int _ _]), (1, .agg #[.string _, .int _ _, .int _ _]), (2, .agg #[.string _, .int _ _, .int _ _])]) rfl rfl (KindsM_k5 _ _ _ _ _ _ _ _ _) (fun b78 => ?_)
        refine o_val rfl rfl rfl (y_build (vs := [(0, .string _), (1, .slice _ _ _)]) rfl (KindsM_k1 _ _ _ _)) ?_
        refine o_lit (vs := [(0, .agg #[.string _, .slice _ _ _])]) rfl rfl (KindsM_k2 _ _ _ _) (fun b79 => ?_)
        refine o_append (sz := 2) (bytes := 40) (news := [(.string _), (.slice _ _ _)]) 1 rfl Try.underlying50 Try.type170 rfl rfl rfl rfl rfl ho74 rfl rfl (Src.slice Try.underlying50 (cels_own 5 rfl rfl) rfl (by simp [Value.oneCell']) (by simp)) (by decide) (fun A80 c81 E82 ho83 hn84 => ?_)
        refine o_val rfl rfl rfl (y_assign (v := (.slice _ _ _)) rfl) ?_
        refine o_nil ?_
        refine s_norm [[(_, .cells [(.string _), (.int _ _), (.int _ _), (.string _), (.int _ _), (.int _ _)].toArray 172 (0, 0))], _, [(_, .cells [(.string _), (.int _ _), (.int _ _)].toArray 172 (0, 0))], [(_, .cells [(.string _), (.slice _ _ _)].toArray 170 (0, 0))], [(_, .cells [(.string _), (.int _ _), (.int _ _), (.string _), (.int _ _), (.int _ _), (.string _), (.int _ _), (.int _ _)].toArray 172 (0, 0))], [(_, .cells [(.string _), (.slice _ _ _)].toArray 170 (0, 0))]] rfl ?_
        refine s_forget [(2, (.slice _ _ _)), (3, (.slice _ _ _))] ⟨rfl, rfl, trivial⟩ (fun _f => ?_)
        refine s_seq ?_
        refine s_region ?_
        refine o_val rfl rfl rfl (y_move (v := (.slice _ _ _)) rfl) ?_
        refine o_fn 0 (d := 42) rfl Try.call112 (fieldM_c _ _ _) rfl ?_
        rintro _ _ ⟨rfl, rfl⟩
        refine o_fn 0 (d := 43) rfl Try.call112 (fieldM_c _ _ _) rfl ?_
        rintro _ _ ⟨rfl, rfl⟩
        refine o_fn 0 (d := 44) rfl Try.call112 (fieldM_c _ _ _) rfl ?_
        rintro _ _ ⟨rfl, rfl⟩
        refine o_fn 0 (d := 45) rfl Try.call112 (fieldM_c _ _ _) rfl ?_
        rintro _ _ ⟨rfl, rfl⟩
        refine o_lit (vs := [(0, .agg #[.string _, .int _ _, .int _ _]), (1, .agg #[.string _, .int _ _, .int _ _]), (2, .agg #[.string _, .int _ _, .int _ _]), (3, .agg #[.string _, .int _ _, .int _ _])]) rfl rfl (KindsM_k3 _ _ _ _ _ _ _ _ _ _ _ _) (fun b85 => ?_)
        refine o_val rfl rfl rfl (y_build (vs := [(0, .string _), (1, .slice _ _ _)]) rfl (KindsM_k1 _ _ _ _)) ?_
        refine o_lit (vs := [(0, .agg #[.string _, .slice _ _ _])]) rfl rfl (KindsM_k2 _ _ _ _) (fun b86 => ?_)
        refine o_append (sz := 2) (bytes := 40) (news := [(.string _), (.slice _ _ _)]) 1 rfl Try.underlying50 Try.type170 rfl rfl rfl rfl rfl ho83 rfl rfl (Src.slice Try.underlying50 (cels_own 7 rfl rfl) rfl (by simp [Value.oneCell']) (by simp)) (by decide) (fun A87 c88 E89 ho90 hn91 => ?_)
        refine o_val rfl rfl rfl (y_assign (v := (.slice _ _ _)) rfl) ?_
        refine o_nil ?_
        refine s_norm [[(_, .cells [(.string _), (.int _ _), (.int _ _), (.string _), (.int _ _), (.int _ _)].toArray 172 (0, 0))], _, [(_, .cells [(.string _), (.int _ _), (.int _ _)].toArray 172 (0, 0))], [(_, .cells [(.string _), (.slice _ _ _)].toArray 170 (0, 0))], [(_, .cells [(.string _), (.int _ _), (.int _ _), (.string _), (.int _ _), (.int _ _), (.string _), (.int _ _), (.int _ _)].toArray 172 (0, 0))], [(_, .cells [(.string _), (.slice _ _ _)].toArray 170 (0, 0))], [(_, .cells [(.string _), (.int _ _), (.int _ _), (.string _), (.int _ _), (.int _ _), (.string _), (.int _ _), (.int _ _), (.string _), (.int _ _), (.int _ _)].toArray 172 (0, 0))], [(_, .cells [(.string _), (.slice _ _ _)].toArray 170 (0, 0))]] rfl ?_
        refine s_region ?_
        refine o_val rfl rfl rfl (y_move (v := (.slice _ _ _)) rfl) ?_
        refine o_fn 0 (d := 51) rfl Try.call112 (fieldM_c _ _ _) rfl ?_
        rintro _ _ ⟨rfl, rfl⟩
        refine o_fn 0 (d := 52) rfl Try.call112 (fieldM_c _ _ _) rfl ?_
        rintro _ _ ⟨rfl, rfl⟩
        refine o_fn 0 (d := 53) rfl Try.call112 (fieldM_c _ _ _) rfl ?_
        rintro _ _ ⟨rfl, rfl⟩
        refine o_fn 0 (d := 54) rfl Try.call112 (fieldM_c _ _ _) rfl ?_
        rintro _ _ ⟨rfl, rfl⟩
        refine o_fn 0 (d := 55) rfl Try.call112 (fieldM_c _ _ _) rfl ?_
        rintro _ _ ⟨rfl, rfl⟩
        refine o_lit (vs := [(0, .agg #[.string _, .int _ _, .int _ _]), (1, .agg #[.string _, .int _ _, .int _ _]), (2, .agg #[.string _, .int _ _, .int _ _]), (3, .agg #[.string _, .int _ _, .int _ _]), (4, .agg #[.string _, .int _ _, .int _ _])]) rfl rfl (KindsM_k6 _ _ _ _ _ _ _ _ _ _ _ _ _ _ _) (fun b92 => ?_)
        refine o_val rfl rfl rfl (y_build (vs := [(0, .string _), (1, .slice _ _ _)]) rfl (KindsM_k1 _ _ _ _)) ?_
        refine o_lit (vs := [(0, .agg #[.string _, .slice _ _ _])]) rfl rfl (KindsM_k2 _ _ _ _) (fun b93 => ?_)
        refine o_append (sz := 2) (bytes := 40) (news := [(.string _), (.slice _ _ _)]) 1 rfl Try.underlying50 Try.type170 rfl rfl rfl rfl rfl ho90 rfl rfl (Src.slice Try.underlying50 (cels_own 9 rfl rfl) rfl (by simp [Value.oneCell']) (by simp)) (by decide) (fun A94 c95 E96 ho97 hn98 => ?_)
        refine o_val rfl rfl rfl (y_assign (v := (.slice _ _ _)) rfl) ?_
        refine o_nil ?_
        refine s_norm [[(_, .cells [(.string _), (.int _ _), (.int _ _), (.string _), (.int _ _), (.int _ _)].toArray 172 (0, 0))], _, [(_, .cells [(.string _), (.int _ _), (.int _ _)].toArray 172 (0, 0))], [(_, .cells [(.string _), (.slice _ _ _)].toArray 170 (0, 0))], [(_, .cells [(.string _), (.int _ _), (.int _ _), (.string _), (.int _ _), (.int _ _), (.string _), (.int _ _), (.int _ _)].toArray 172 (0, 0))], [(_, .cells [(.string _), (.slice _ _ _)].toArray 170 (0, 0))], [(_, .cells [(.string _), (.int _ _), (.int _ _), (.string _), (.int _ _), (.int _ _), (.string _), (.int _ _), (.int _ _), (.string _), (.int _ _), (.int _ _)].toArray 172 (0, 0))], [(_, .cells [(.string _), (.slice _ _ _)].toArray 170 (0, 0))], [(_, .cells [(.string _), (.int _ _), (.int _ _), (.string _), (.int _ _), (.int _ _), (.string _), (.int _ _), (.int _ _), (.string _), (.int _ _), (.int _ _), (.string _), (.int _ _), (.int _ _)].toArray 172 (0, 0))], [(_, .cells [(.string _), (.slice _ _ _)].toArray 170 (0, 0))]] rfl ?_
        refine s_forget [(2, (.slice _ _ _)), (3, (.slice _ _ _))] ⟨rfl, rfl, trivial⟩ (fun _f => ?_)
        refine s_seq ?_
        refine s_region ?_
        refine o_val rfl rfl rfl (y_move (v := (.slice _ _ _)) rfl) ?_
        refine o_val rfl rfl rfl (y_assign (v := (.slice _ _ _)) rfl) ?_
        refine o_nil ?_
        refine s_ret ?_
        exact ⟨_, _, res1 rfl rfl, ⟨_, _, _, [(⟨(⟨#[115, 112, 111, 116]⟩ : ByteArray), some ⟨b1, 0, none⟩, 2, 2, [FR.mk (⟨#[120]⟩ : ByteArray) 8 (-100), FR.mk (⟨#[121]⟩ : ByteArray) 8 (-100)]⟩ : KR), (⟨(⟨#[109, 105, 110, 100]⟩ : ByteArray), some ⟨b69, 0, none⟩, 1, 1, [FR.mk (⟨#[112, 114, 111, 103]⟩ : ByteArray) 2 (-1)]⟩ : KR), (⟨(⟨#[112, 108, 97, 99, 101]⟩ : ByteArray), some ⟨b78, 0, none⟩, 3, 3, [FR.mk (⟨#[120]⟩ : ByteArray) 26 (-33554432), FR.mk (⟨#[121]⟩ : ByteArray) 26 (-33554432), FR.mk (⟨#[97, 110, 103]⟩ : ByteArray) 16 (0)]⟩ : KR), (⟨(⟨#[109, 111, 116, 105, 111, 110]⟩ : ByteArray), some ⟨b85, 0, none⟩, 4, 4, [FR.mk (⟨#[118, 120]⟩ : ByteArray) 22 (-2097152), FR.mk (⟨#[118, 121]⟩ : ByteArray) 22 (-2097152), FR.mk (⟨#[115, 112, 105, 110]⟩ : ByteArray) 18 (-131072), FR.mk (⟨#[99, 97, 108, 109]⟩ : ByteArray) 12 (0)]⟩ : KR), (⟨(⟨#[115, 104, 97, 112, 101]⟩ : ByteArray), some ⟨b92, 0, none⟩, 5, 5, [FR.mk (⟨#[119]⟩ : ByteArray) 18 (4096), FR.mk (⟨#[104]⟩ : ByteArray) 18 (4096), FR.mk (⟨#[109, 97, 115, 115]⟩ : ByteArray) 20 (0), FR.mk (⟨#[98, 111, 117, 110, 99, 101]⟩ : ByteArray) 17 (0), FR.mk (⟨#[114, 117, 98]⟩ : ByteArray) 17 (0)]⟩ : KR)], _, rfl, (show Cels V _ _ (([(⟨(⟨#[115, 112, 111, 116]⟩ : ByteArray), some ⟨b1, 0, none⟩, 2, 2, [FR.mk (⟨#[120]⟩ : ByteArray) 8 (-100), FR.mk (⟨#[121]⟩ : ByteArray) 8 (-100)]⟩ : KR), (⟨(⟨#[109, 105, 110, 100]⟩ : ByteArray), some ⟨b69, 0, none⟩, 1, 1, [FR.mk (⟨#[112, 114, 111, 103]⟩ : ByteArray) 2 (-1)]⟩ : KR), (⟨(⟨#[112, 108, 97, 99, 101]⟩ : ByteArray), some ⟨b78, 0, none⟩, 3, 3, [FR.mk (⟨#[120]⟩ : ByteArray) 26 (-33554432), FR.mk (⟨#[121]⟩ : ByteArray) 26 (-33554432), FR.mk (⟨#[97, 110, 103]⟩ : ByteArray) 16 (0)]⟩ : KR), (⟨(⟨#[109, 111, 116, 105, 111, 110]⟩ : ByteArray), some ⟨b85, 0, none⟩, 4, 4, [FR.mk (⟨#[118, 120]⟩ : ByteArray) 22 (-2097152), FR.mk (⟨#[118, 121]⟩ : ByteArray) 22 (-2097152), FR.mk (⟨#[115, 112, 105, 110]⟩ : ByteArray) 18 (-131072), FR.mk (⟨#[99, 97, 108, 109]⟩ : ByteArray) 12 (0)]⟩ : KR), (⟨(⟨#[115, 104, 97, 112, 101]⟩ : ByteArray), some ⟨b92, 0, none⟩, 5, 5, [FR.mk (⟨#[119]⟩ : ByteArray) 18 (4096), FR.mk (⟨#[104]⟩ : ByteArray) 18 (4096), FR.mk (⟨#[109, 97, 115, 115]⟩ : ByteArray) 20 (0), FR.mk (⟨#[98, 111, 117, 110, 99, 101]⟩ : ByteArray) 17 (0), FR.mk (⟨#[114, 117, 98]⟩ : ByteArray) 17 (0)]⟩ : KR)]).flatMap encK) from ho97.cels (j := 1) rfl).flat, rfl, ho97.2.1, List.forall_mem_cons.2 ⟨kok_lit rfl (by decide) (cels_own (cs := ([FR.mk (⟨#[120]⟩ : ByteArray) 8 (-100), FR.mk (⟨#[121]⟩ : ByteArray) 8 (-100)]).flatMap encF) 0 rfl rfl), List.forall_mem_cons.2 ⟨kok_lit rfl (by decide) (cels_own (cs := ([FR.mk (⟨#[112, 114, 111, 103]⟩ : ByteArray) 2 (-1)]).flatMap encF) 2 rfl rfl), List.forall_mem_cons.2 ⟨kok_lit rfl (by decide) (cels_own (cs := ([FR.mk (⟨#[120]⟩ : ByteArray) 26 (-33554432), FR.mk (⟨#[121]⟩ : ByteArray) 26 (-33554432), FR.mk (⟨#[97, 110, 103]⟩ : ByteArray) 16 (0)]).flatMap encF) 4 rfl rfl), List.forall_mem_cons.2 ⟨kok_lit rfl (by decide) (cels_own (cs := ([FR.mk (⟨#[118, 120]⟩ : ByteArray) 22 (-2097152), FR.mk (⟨#[118, 121]⟩ : ByteArray) 22 (-2097152), FR.mk (⟨#[115, 112, 105, 110]⟩ : ByteArray) 18 (-131072), FR.mk (⟨#[99, 97, 108, 109]⟩ : ByteArray) 12 (0)]).flatMap encF) 6 rfl rfl), List.forall_mem_cons.2 ⟨kok_lit rfl (by decide) (cels_own (cs := ([FR.mk (⟨#[119]⟩ : ByteArray) 18 (4096), FR.mk (⟨#[104]⟩ : ByteArray) 18 (4096), FR.mk (⟨#[109, 97, 115, 115]⟩ : ByteArray) 20 (0), FR.mk (⟨#[98, 111, 117, 110, 99, 101]⟩ : ByteArray) 17 (0), FR.mk (⟨#[114, 117, 98]⟩ : ByteArray) 17 (0)]).flatMap encF) 8 rfl rfl), fun _ hh => by cases hh⟩⟩⟩⟩⟩, by unfold kindsOf; rw [if_neg c1, if_pos c2, if_pos c3]; rfl, rfl⟩, sub_flat⟩
      · have c3 := h77
        refine s_skip ?_
        refine s_seq ?_
        refine s_region ?_
        refine o_val rfl rfl rfl (y_move (v := (.slice _ _ _)) rfl) ?_
        refine o_val rfl rfl rfl (y_assign (v := (.slice _ _ _)) rfl) ?_
        refine o_nil ?_
        refine s_ret ?_
        exact ⟨_, _, res1 rfl rfl, ⟨_, _, _, [(⟨(⟨#[115, 112, 111, 116]⟩ : ByteArray), some ⟨b1, 0, none⟩, 2, 2, [FR.mk (⟨#[120]⟩ : ByteArray) 8 (-100), FR.mk (⟨#[121]⟩ : ByteArray) 8 (-100)]⟩ : KR), (⟨(⟨#[109, 105, 110, 100]⟩ : ByteArray), some ⟨b69, 0, none⟩, 1, 1, [FR.mk (⟨#[112, 114, 111, 103]⟩ : ByteArray) 2 (-1)]⟩ : KR)], _, rfl, (show Cels V _ _ (([(⟨(⟨#[115, 112, 111, 116]⟩ : ByteArray), some ⟨b1, 0, none⟩, 2, 2, [FR.mk (⟨#[120]⟩ : ByteArray) 8 (-100), FR.mk (⟨#[121]⟩ : ByteArray) 8 (-100)]⟩ : KR), (⟨(⟨#[109, 105, 110, 100]⟩ : ByteArray), some ⟨b69, 0, none⟩, 1, 1, [FR.mk (⟨#[112, 114, 111, 103]⟩ : ByteArray) 2 (-1)]⟩ : KR)]).flatMap encK) from ho74.cels (j := 1) rfl).flat, rfl, ho74.2.1, List.forall_mem_cons.2 ⟨kok_lit rfl (by decide) (cels_own (cs := ([FR.mk (⟨#[120]⟩ : ByteArray) 8 (-100), FR.mk (⟨#[121]⟩ : ByteArray) 8 (-100)]).flatMap encF) 0 rfl rfl), List.forall_mem_cons.2 ⟨kok_lit rfl (by decide) (cels_own (cs := ([FR.mk (⟨#[112, 114, 111, 103]⟩ : ByteArray) 2 (-1)]).flatMap encF) 2 rfl rfl), fun _ hh => by cases hh⟩⟩, by unfold kindsOf; rw [if_neg c1, if_pos c2, if_neg c3]; rfl, rfl⟩, sub_flat⟩
    · have c2 := h68
      refine s_skip ?_
      refine s_seq ?_
      refine s_seq ?_
      refine s_region ?_
      refine o_val rfl rfl rfl (y_move (v := (.int _ _)) rfl) ?_
      refine o_val rfl rfl rfl (y_and rfl rfl) ?_
      refine o_val rfl rfl rfl (y_eql rfl rfl) ?_
      refine o_nil ?_
      refine s_if rfl (fun h99 => ?_) (fun h100 => ?_)
      · have c3 := h99
        refine s_seq ?_
        refine s_region ?_
        refine o_val rfl rfl rfl (y_move (v := (.slice _ _ _)) rfl) ?_
        refine o_fn 0 (d := 34) rfl Try.call112 (fieldM_c _ _ _) rfl ?_
        rintro _ _ ⟨rfl, rfl⟩
        refine o_fn 0 (d := 35) rfl Try.call112 (fieldM_c _ _ _) rfl ?_
        rintro _ _ ⟨rfl, rfl⟩
        refine o_fn 0 (d := 36) rfl Try.call112 (fieldM_c _ _ _) rfl ?_
        rintro _ _ ⟨rfl, rfl⟩
        refine o_lit (vs := [(0, .agg #[.string _, .int _ _, .int _ _]), (1, .agg #[.string _, .int _ _, .int _ _]), (2, .agg #[.string _, .int _ _, .int _ _])]) rfl rfl (KindsM_k5 _ _ _ _ _ _ _ _ _) (fun b101 => ?_)
        refine o_val rfl rfl rfl (y_build (vs := [(0, .string _), (1, .slice _ _ _)]) rfl (KindsM_k1 _ _ _ _)) ?_
        refine o_lit (vs := [(0, .agg #[.string _, .slice _ _ _])]) rfl rfl (KindsM_k2 _ _ _ _) (fun b102 => ?_)
        refine o_append (sz := 2) (bytes := 40) (news := [(.string _), (.slice _ _ _)]) 1 rfl Try.underlying50 Try.type170 rfl rfl rfl rfl rfl (OS.lit (sz := 2) (n := 1) rfl (by decide)) rfl rfl (Src.slice Try.underlying50 (cels_own 3 rfl rfl) rfl (by simp [Value.oneCell']) (by simp)) (by decide) (fun A103 c104 E105 ho106 hn107 => ?_)
        refine o_val rfl rfl rfl (y_assign (v := (.slice _ _ _)) rfl) ?_
        refine o_nil ?_
        refine s_norm [[(_, .cells [(.string _), (.int _ _), (.int _ _), (.string _), (.int _ _), (.int _ _)].toArray 172 (0, 0))], _, [(_, .cells [(.string _), (.int _ _), (.int _ _), (.string _), (.int _ _), (.int _ _), (.string _), (.int _ _), (.int _ _)].toArray 172 (0, 0))], [(_, .cells [(.string _), (.slice _ _ _)].toArray 170 (0, 0))]] rfl ?_
        refine s_seq ?_
        refine s_region ?_
        refine o_val rfl rfl rfl (y_move (v := (.slice _ _ _)) rfl) ?_
        refine o_fn 0 (d := 42) rfl Try.call112 (fieldM_c _ _ _) rfl ?_
        rintro _ _ ⟨rfl, rfl⟩
        refine o_fn 0 (d := 43) rfl Try.call112 (fieldM_c _ _ _) rfl ?_
        rintro _ _ ⟨rfl, rfl⟩
        refine o_fn 0 (d := 44) rfl Try.call112 (fieldM_c _ _ _) rfl ?_
        rintro _ _ ⟨rfl, rfl⟩
        refine o_fn 0 (d := 45) rfl Try.call112 (fieldM_c _ _ _) rfl ?_
        rintro _ _ ⟨rfl, rfl⟩
        refine o_lit (vs := [(0, .agg #[.string _, .int _ _, .int _ _]), (1, .agg #[.string _, .int _ _, .int _ _]), (2, .agg #[.string _, .int _ _, .int _ _]), (3, .agg #[.string _, .int _ _, .int _ _])]) rfl rfl (KindsM_k3 _ _ _ _ _ _ _ _ _ _ _ _) (fun b108 => ?_)
        refine o_val rfl rfl rfl (y_build (vs := [(0, .string _), (1, .slice _ _ _)]) rfl (KindsM_k1 _ _ _ _)) ?_
        refine o_lit (vs := [(0, .agg #[.string _, .slice _ _ _])]) rfl rfl (KindsM_k2 _ _ _ _) (fun b109 => ?_)
        refine o_append (sz := 2) (bytes := 40) (news := [(.string _), (.slice _ _ _)]) 1 rfl Try.underlying50 Try.type170 rfl rfl rfl rfl rfl ho106 rfl rfl (Src.slice Try.underlying50 (cels_own 5 rfl rfl) rfl (by simp [Value.oneCell']) (by simp)) (by decide) (fun A110 c111 E112 ho113 hn114 => ?_)
        refine o_val rfl rfl rfl (y_assign (v := (.slice _ _ _)) rfl) ?_
        refine o_nil ?_
        refine s_norm [[(_, .cells [(.string _), (.int _ _), (.int _ _), (.string _), (.int _ _), (.int _ _)].toArray 172 (0, 0))], _, [(_, .cells [(.string _), (.int _ _), (.int _ _), (.string _), (.int _ _), (.int _ _), (.string _), (.int _ _), (.int _ _)].toArray 172 (0, 0))], [(_, .cells [(.string _), (.slice _ _ _)].toArray 170 (0, 0))], [(_, .cells [(.string _), (.int _ _), (.int _ _), (.string _), (.int _ _), (.int _ _), (.string _), (.int _ _), (.int _ _), (.string _), (.int _ _), (.int _ _)].toArray 172 (0, 0))], [(_, .cells [(.string _), (.slice _ _ _)].toArray 170 (0, 0))]] rfl ?_
        refine s_forget [(2, (.slice _ _ _)), (3, (.slice _ _ _))] ⟨rfl, rfl, trivial⟩ (fun _f => ?_)
        refine s_region ?_
        refine o_val rfl rfl rfl (y_move (v := (.slice _ _ _)) rfl) ?_
        refine o_fn 0 (d := 51) rfl Try.call112 (fieldM_c _ _ _) rfl ?_
        rintro _ _ ⟨rfl, rfl⟩
        refine o_fn 0 (d := 52) rfl Try.call112 (fieldM_c _ _ _) rfl ?_
        rintro _ _ ⟨rfl, rfl⟩
        refine o_fn 0 (d := 53) rfl Try.call112 (fieldM_c _ _ _) rfl ?_
        rintro _ _ ⟨rfl, rfl⟩
        refine o_fn 0 (d := 54) rfl Try.call112 (fieldM_c _ _ _) rfl ?_
        rintro _ _ ⟨rfl, rfl⟩
        refine o_fn 0 (d := 55) rfl Try.call112 (fieldM_c _ _ _) rfl ?_
        rintro _ _ ⟨rfl, rfl⟩
        refine o_lit (vs := [(0, .agg #[.string _, .int _ _, .int _ _]), (1, .agg #[.string _, .int _ _, .int _ _]), (2, .agg #[.string _, .int _ _, .int _ _]), (3, .agg #[.string _, .int _ _, .int _ _]), (4, .agg #[.string _, .int _ _, .int _ _])]) rfl rfl (KindsM_k6 _ _ _ _ _ _ _ _ _ _ _ _ _ _ _) (fun b115 => ?_)
        refine o_val rfl rfl rfl (y_build (vs := [(0, .string _), (1, .slice _ _ _)]) rfl (KindsM_k1 _ _ _ _)) ?_
        refine o_lit (vs := [(0, .agg #[.string _, .slice _ _ _])]) rfl rfl (KindsM_k2 _ _ _ _) (fun b116 => ?_)
        refine o_append (sz := 2) (bytes := 40) (news := [(.string _), (.slice _ _ _)]) 1 rfl Try.underlying50 Try.type170 rfl rfl rfl rfl rfl ho113 rfl rfl (Src.slice Try.underlying50 (cels_own 7 rfl rfl) rfl (by simp [Value.oneCell']) (by simp)) (by decide) (fun A117 c118 E119 ho120 hn121 => ?_)
        refine o_val rfl rfl rfl (y_assign (v := (.slice _ _ _)) rfl) ?_
        refine o_nil ?_
        refine s_norm [[(_, .cells [(.string _), (.int _ _), (.int _ _), (.string _), (.int _ _), (.int _ _)].toArray 172 (0, 0))], _, [(_, .cells [(.string _), (.int _ _), (.int _ _), (.string _), (.int _ _), (.int _ _), (.string _), (.int _ _), (.int _ _)].toArray 172 (0, 0))], [(_, .cells [(.string _), (.slice _ _ _)].toArray 170 (0, 0))], [(_, .cells [(.string _), (.int _ _), (.int _ _), (.string _), (.int _ _), (.int _ _), (.string _), (.int _ _), (.int _ _), (.string _), (.int _ _), (.int _ _)].toArray 172 (0, 0))], [(_, .cells [(.string _), (.slice _ _ _)].toArray 170 (0, 0))], [(_, .cells [(.string _), (.int _ _), (.int _ _), (.string _), (.int _ _), (.int _ _), (.string _), (.int _ _), (.int _ _), (.string _), (.int _ _), (.int _ _), (.string _), (.int _ _), (.int _ _)].toArray 172 (0, 0))], [(_, .cells [(.string _), (.slice _ _ _)].toArray 170 (0, 0))]] rfl ?_
        refine s_seq ?_
        refine s_region ?_
        refine o_val rfl rfl rfl (y_move (v := (.slice _ _ _)) rfl) ?_
        refine o_val rfl rfl rfl (y_assign (v := (.slice _ _ _)) rfl) ?_
        refine o_nil ?_
        refine s_ret ?_
        exact ⟨_, _, res1 rfl rfl, ⟨_, _, _, [(⟨(⟨#[115, 112, 111, 116]⟩ : ByteArray), some ⟨b1, 0, none⟩, 2, 2, [FR.mk (⟨#[120]⟩ : ByteArray) 8 (-100), FR.mk (⟨#[121]⟩ : ByteArray) 8 (-100)]⟩ : KR), (⟨(⟨#[112, 108, 97, 99, 101]⟩ : ByteArray), some ⟨b101, 0, none⟩, 3, 3, [FR.mk (⟨#[120]⟩ : ByteArray) 26 (-33554432), FR.mk (⟨#[121]⟩ : ByteArray) 26 (-33554432), FR.mk (⟨#[97, 110, 103]⟩ : ByteArray) 16 (0)]⟩ : KR), (⟨(⟨#[109, 111, 116, 105, 111, 110]⟩ : ByteArray), some ⟨b108, 0, none⟩, 4, 4, [FR.mk (⟨#[118, 120]⟩ : ByteArray) 22 (-2097152), FR.mk (⟨#[118, 121]⟩ : ByteArray) 22 (-2097152), FR.mk (⟨#[115, 112, 105, 110]⟩ : ByteArray) 18 (-131072), FR.mk (⟨#[99, 97, 108, 109]⟩ : ByteArray) 12 (0)]⟩ : KR), (⟨(⟨#[115, 104, 97, 112, 101]⟩ : ByteArray), some ⟨b115, 0, none⟩, 5, 5, [FR.mk (⟨#[119]⟩ : ByteArray) 18 (4096), FR.mk (⟨#[104]⟩ : ByteArray) 18 (4096), FR.mk (⟨#[109, 97, 115, 115]⟩ : ByteArray) 20 (0), FR.mk (⟨#[98, 111, 117, 110, 99, 101]⟩ : ByteArray) 17 (0), FR.mk (⟨#[114, 117, 98]⟩ : ByteArray) 17 (0)]⟩ : KR)], _, rfl, (show Cels V _ _ (([(⟨(⟨#[115, 112, 111, 116]⟩ : ByteArray), some ⟨b1, 0, none⟩, 2, 2, [FR.mk (⟨#[120]⟩ : ByteArray) 8 (-100), FR.mk (⟨#[121]⟩ : ByteArray) 8 (-100)]⟩ : KR), (⟨(⟨#[112, 108, 97, 99, 101]⟩ : ByteArray), some ⟨b101, 0, none⟩, 3, 3, [FR.mk (⟨#[120]⟩ : ByteArray) 26 (-33554432), FR.mk (⟨#[121]⟩ : ByteArray) 26 (-33554432), FR.mk (⟨#[97, 110, 103]⟩ : ByteArray) 16 (0)]⟩ : KR), (⟨(⟨#[109, 111, 116, 105, 111, 110]⟩ : ByteArray), some ⟨b108, 0, none⟩, 4, 4, [FR.mk (⟨#[118, 120]⟩ : ByteArray) 22 (-2097152), FR.mk (⟨#[118, 121]⟩ : ByteArray) 22 (-2097152), FR.mk (⟨#[115, 112, 105, 110]⟩ : ByteArray) 18 (-131072), FR.mk (⟨#[99, 97, 108, 109]⟩ : ByteArray) 12 (0)]⟩ : KR), (⟨(⟨#[115, 104, 97, 112, 101]⟩ : ByteArray), some ⟨b115, 0, none⟩, 5, 5, [FR.mk (⟨#[119]⟩ : ByteArray) 18 (4096), FR.mk (⟨#[104]⟩ : ByteArray) 18 (4096), FR.mk (⟨#[109, 97, 115, 115]⟩ : ByteArray) 20 (0), FR.mk (⟨#[98, 111, 117, 110, 99, 101]⟩ : ByteArray) 17 (0), FR.mk (⟨#[114, 117, 98]⟩ : ByteArray) 17 (0)]⟩ : KR)]).flatMap encK) from ho120.cels (j := 1) rfl).flat, rfl, ho120.2.1, List.forall_mem_cons.2 ⟨kok_lit rfl (by decide) (cels_own (cs := ([FR.mk (⟨#[120]⟩ : ByteArray) 8 (-100), FR.mk (⟨#[121]⟩ : ByteArray) 8 (-100)]).flatMap encF) 0 rfl rfl), List.forall_mem_cons.2 ⟨kok_lit rfl (by decide) (cels_own (cs := ([FR.mk (⟨#[120]⟩ : ByteArray) 26 (-33554432), FR.mk (⟨#[121]⟩ : ByteArray) 26 (-33554432), FR.mk (⟨#[97, 110, 103]⟩ : ByteArray) 16 (0)]).flatMap encF) 2 rfl rfl), List.forall_mem_cons.2 ⟨kok_lit rfl (by decide) (cels_own (cs := ([FR.mk (⟨#[118, 120]⟩ : ByteArray) 22 (-2097152), FR.mk (⟨#[118, 121]⟩ : ByteArray) 22 (-2097152), FR.mk (⟨#[115, 112, 105, 110]⟩ : ByteArray) 18 (-131072), FR.mk (⟨#[99, 97, 108, 109]⟩ : ByteArray) 12 (0)]).flatMap encF) 4 rfl rfl), List.forall_mem_cons.2 ⟨kok_lit rfl (by decide) (cels_own (cs := ([FR.mk (⟨#[119]⟩ : ByteArray) 18 (4096), FR.mk (⟨#[104]⟩ : ByteArray) 18 (4096), FR.mk (⟨#[109, 97, 115, 115]⟩ : ByteArray) 20 (0), FR.mk (⟨#[98, 111, 117, 110, 99, 101]⟩ : ByteArray) 17 (0), FR.mk (⟨#[114, 117, 98]⟩ : ByteArray) 17 (0)]).flatMap encF) 6 rfl rfl), fun _ hh => by cases hh⟩⟩⟩⟩, by unfold kindsOf; rw [if_neg c1, if_neg c2, if_pos c3]; rfl, rfl⟩, sub_flat⟩
      · have c3 := h100
        refine s_skip ?_
        refine s_seq ?_
        refine s_region ?_
        refine o_val rfl rfl rfl (y_move (v := (.slice _ _ _)) rfl) ?_
        refine o_val rfl rfl rfl (y_assign (v := (.slice _ _ _)) rfl) ?_
        refine o_nil ?_
        refine s_ret ?_
        exact ⟨_, _, res1 rfl rfl, ⟨_, _, _, [(⟨(⟨#[115, 112, 111, 116]⟩ : ByteArray), some ⟨b1, 0, none⟩, 2, 2, [FR.mk (⟨#[120]⟩ : ByteArray) 8 (-100), FR.mk (⟨#[121]⟩ : ByteArray) 8 (-100)]⟩ : KR)], _, rfl, (cels_own (cs := ([(⟨(⟨#[115, 112, 111, 116]⟩ : ByteArray), some ⟨b1, 0, none⟩, 2, 2, [FR.mk (⟨#[120]⟩ : ByteArray) 8 (-100), FR.mk (⟨#[121]⟩ : ByteArray) 8 (-100)]⟩ : KR)]).flatMap encK) 1 rfl rfl).flat, rfl, Nat.le_refl _, List.forall_mem_cons.2 ⟨kok_lit rfl (by decide) (cels_own (cs := ([FR.mk (⟨#[120]⟩ : ByteArray) 8 (-100), FR.mk (⟨#[121]⟩ : ByteArray) 8 (-100)]).flatMap encF) 0 rfl rfl), fun _ hh => by cases hh⟩, by unfold kindsOf; rw [if_neg c1, if_neg c2, if_neg c3]; rfl, rfl⟩, sub_flat⟩

end Go.Proofs.Ytdgmocibjjkghaa.K

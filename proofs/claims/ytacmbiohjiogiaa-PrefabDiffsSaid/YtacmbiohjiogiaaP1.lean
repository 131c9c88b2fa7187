/- Templates: what they say, and how one is built (plain laws). No condition beyond what each statement names. -/
import Derived.Test.YtacmbiohjiogiaaProg
import Derived.Test.YtacmbiohjiogiaaK19
import Derived.Test.YtacmbiohjiogiaaM1
import Derived.Test.YtacmbiohjiogiaaM2
import Derived.Test.YtacmbiohjiogiaaW1
import Derived.Test.YtacmbiohjiogiaaW2
import Derived.Test.YtacmbiohjiogiaaW3
import Derived.Test.YtacmbiohjiogiaaW4
import Derived.Test.YtacmbiohjiogiaaW6
import Derived.Test.YtacmbiohjiogiaaW7
import Derived.Test.YtacmbiohjiogiaaX1
set_option linter.unusedVariables false
set_option linter.unusedSimpArgs false
set_option maxRecDepth 100000
namespace Go.Proofs.Ytacmbiohjiogiaa.K
open Go.RowKit

abbrev CV := Int × List Int
abbrev OV := List Int × Int × Int × Int
abbrev BV := List Int × List CV
abbrev TV := List CV × List (Int × List OV)
/-- A replacement: where its path is, and what it says. -/
structure OvR where
  A : Option Addr
  n : Nat
  c : Nat
  ps : List Int
  kind : Int
  field : Int
  val : Int
instance : Inhabited OvR := ⟨⟨none, 0, 0, [], 0, 0, 0⟩⟩
def encOv (o : OvR) : List Value := [.slice o.A o.n o.c, .int .i64 o.kind, .int .i64 o.field, .int .i64 o.val]
theorem encOv_len (o : OvR) : (encOv o).length = 4 := rfl
def OvR.d (o : OvR) : OV := (o.ps, o.kind, o.field, o.val)
def OvOK (V : Mem) (o : OvR) : Prop := o.ps.length = o.n ∧ o.n ≤ o.c ∧ o.n ≤ 17592186044416 ∧ Cels V [] o.A (o.ps.map (.int .i64))
def OsOK (V : Mem) (A : Option Addr) (n c : Nat) (os : List OvR) : Prop := os.length = n ∧ n ≤ c ∧ n ≤ 4398046511104 ∧ Cels V [] A (os.flatMap encOv) ∧ ∀ x ∈ os, OvOK V x
/-- A part of a template. -/
structure PaR where
  of : Int
  A : Option Addr
  n : Nat
  c : Nat
  os : List OvR
instance : Inhabited PaR := ⟨⟨0, none, 0, 0, []⟩⟩
def encPa (q : PaR) : List Value := [.int .i64 q.of, .slice q.A q.n q.c]
theorem encPa_len (q : PaR) : (encPa q).length = 2 := rfl
def PaR.d (q : PaR) : Int × List OV := (q.of, q.os.map OvR.d)
def PaOK (V : Mem) (q : PaR) : Prop := OsOK V q.A q.n q.c q.os
/-- A template. -/
structure PfR where
  cA : Option Addr
  cn : Nat
  cc : Nat
  cs : List CR
  pA : Option Addr
  pn : Nat
  pc : Nat
  ps : List PaR
instance : Inhabited PfR := ⟨⟨none, 0, 0, [], none, 0, 0, []⟩⟩
def encPf (q : PfR) : List Value := [.slice q.cA q.cn q.cc, .slice q.pA q.pn q.pc]
theorem encPf_len (q : PfR) : (encPf q).length = 2 := rfl
def PfR.d (q : PfR) : TV := (q.cs.map CR.d, q.ps.map PaR.d)
def PsOK (V : Mem) (A : Option Addr) (n c : Nat) (ps : List PaR) : Prop := ps.length = n ∧ n ≤ c ∧ n ≤ 4398046511104 ∧ Cels V [] A (ps.flatMap encPa) ∧ ∀ x ∈ ps, PaOK V x
def PfOK (V : Mem) (q : PfR) : Prop := CsOK V q.cA q.cn q.cc q.cs ∧ PsOK V q.pA q.pn q.pc q.ps
def LsOK (V : Mem) (A : Option Addr) (n c : Nat) (l : List PfR) : Prop := l.length = n ∧ n ≤ c ∧ n ≤ 1000 ∧ Cels V [] A (l.flatMap encPf) ∧ ∀ x ∈ l, PfOK V x
theorem OvOK.sub {V V' : Mem} {o : OvR} (h : OvOK V o) (hm : MSub V V') : OvOK V' o := ⟨h.1, h.2.1, h.2.2.1, h.2.2.2.ms hm⟩
theorem OsOK.sub {V V' : Mem} {A : Option Addr} {n c : Nat} {os : List OvR} (h : OsOK V A n c os) (hm : MSub V V') : OsOK V' A n c os := ⟨h.1, h.2.1, h.2.2.1, h.2.2.2.1.ms hm, fun x hx => (h.2.2.2.2 x hx).sub hm⟩
theorem PaOK.sub {V V' : Mem} {q : PaR} (h : PaOK V q) (hm : MSub V V') : PaOK V' q := OsOK.sub h hm
theorem PsOK.sub {V V' : Mem} {A : Option Addr} {n c : Nat} {ps : List PaR} (h : PsOK V A n c ps) (hm : MSub V V') : PsOK V' A n c ps := ⟨h.1, h.2.1, h.2.2.1, h.2.2.2.1.ms hm, fun x hx => (h.2.2.2.2 x hx).sub hm⟩
theorem PfOK.sub {V V' : Mem} {q : PfR} (h : PfOK V q) (hm : MSub V V') : PfOK V' q := ⟨h.1.sub hm, h.2.sub hm⟩
theorem LsOK.sub {V V' : Mem} {A : Option Addr} {n c : Nat} {l : List PfR} (h : LsOK V A n c l) (hm : MSub V V') : LsOK V' A n c l := ⟨h.1, h.2.1, h.2.2.1, h.2.2.2.1.ms hm, fun x hx => (h.2.2.2.2 x hx).sub hm⟩
/-- An entity that is built. -/
structure BR where
  pA : Option Addr
  pn : Nat
  pc : Nat
  ps : List Int
  cA : Option Addr
  cn : Nat
  cc : Nat
  cs : List CR
instance : Inhabited BR := ⟨⟨none, 0, 0, [], none, 0, 0, []⟩⟩
def encB (b : BR) : List Value := [.slice b.pA b.pn b.pc, .slice b.cA b.cn b.cc]
theorem encB_len (b : BR) : (encB b).length = 2 := rfl
def BR.d (b : BR) : BV := (b.ps, b.cs.map CR.d)
def PthOK (M : Mem) (b : BR) : Prop := b.ps.length = b.pn ∧ b.pn ≤ b.pc ∧ b.pn ≤ 1000 ∧ Cels M [] b.pA (b.ps.map (.int .i64))
theorem PthOK.sub {M M' : Mem} {b : BR} (h : PthOK M b) (hm : MSub M M') : PthOK M' b := ⟨h.1, h.2.1, h.2.2.1, h.2.2.2.ms hm⟩
/-- An entity's path and values lie in 'M', its components in a group of their own. -/
def BOK (ks : List KR) (M : Mem) (E : Grp) (b : BR) : Prop := PthOK M b ∧ OS b.cA b.cn b.cc 155 2 (b.cs.flatMap encC) E ∧ (∀ x ∈ b.cs, COK M x) ∧ heldP ks b.cs ∧ b.cs.length = b.cn ∧ b.cn ≤ 1000
def BsOK (ks : List KR) (M : Mem) (bs : List BR) (gs : List Grp) : Prop := bs.length = gs.length ∧ ∀ j, j < bs.length → BOK ks M (gs.getD j []) (bs.getD j default)
theorem BOK.sub {ks : List KR} {M M' : Mem} {E : Grp} {b : BR} (h : BOK ks M E b) (hm : MSub M M') : BOK ks M' E b := ⟨h.1.sub hm, h.2.1, fun x hx => (h.2.2.1 x hx).sub hm, h.2.2.2⟩
theorem BsOK.sub {ks : List KR} {M M' : Mem} {bs : List BR} {gs : List Grp} (h : BsOK ks M bs gs) (hm : MSub M M') : BsOK ks M' bs gs := ⟨h.1, fun j hj => (h.2 j hj).sub hm⟩
theorem BsOK.snoc {ks : List KR} {M : Mem} {bs : List BR} {gs : List Grp} {b : BR} {E : Grp} (h : BsOK ks M bs gs) (hb : BOK ks M E b) : BsOK ks M (bs ++ [b]) (gs ++ [E]) := ⟨by simp [h.1], fun j hj => by
  have hl := h.1
  rw [List.length_append, List.length_singleton] at hj
  rw [getD_snoc hj, getD_snoc (by omega)]
  by_cases e : j = bs.length
  · rw [if_pos e, if_pos (by omega)]; exact hb
  · rw [if_neg e, if_neg (by omega)]; exact h.2 j (by omega)⟩
theorem BsOK.set {ks : List KR} {M : Mem} {bs : List BR} {gs : List Grp} {b : BR} {E : Grp} {i : Nat} (h : BsOK ks M bs gs) (hi : i < bs.length) (hb : BOK ks M E b) : BsOK ks M (bs.set i b) (gs.set i E) := ⟨by simp [h.1], fun j hj => by
  have hl := h.1
  rw [List.length_set] at hj
  rw [getD_set' hi, getD_set' (by omega)]
  by_cases e : j = i
  · rw [if_pos e, if_pos e]; exact hb
  · rw [if_neg e, if_neg e]; exact h.2 j hj⟩
theorem lastC_geP {ks : List KR} {cs : List CR} (h : heldP ks cs) {j : Nat} (hj : j ≤ cs.length) : -1 ≤ lastC cs j := lastC_ge fun i hi => h i (by omega)
instance (f : FR) (v : Int) : Decidable (fitsV f v) := by unfold fitsV; infer_instance
def fldOf (ks : List KR) (k f : Int) : FR := (ks.getD k.toNat default).fs.getD f.toNat default
def pIdx (bs : List BV) (q : List Int) : Option Nat := bs.findIdx? (fun b => decide (b.1 = q))
def cIdx (cs : List CV) (k : Int) : Option Nat := cs.findIdx? (fun c => decide (c.1 = k))
/-- A component with one value replaced. -/
def putC (cs : List CV) (j : Nat) (f : Int) (v : Int) : List CV := cs.set j ((cs.getD j default).1, (cs.getD j default).2.set f.toNat v)
/-- One value replaced: the fault's number, or the entities after it. -/
def overV (ks : List KR) (bs : List BV) (o : OV) : Except Int (List BV) :=
  match pIdx bs o.1 with
  | none => .error 4
  | some i => match cIdx (bs.getD i default).2 o.2.1 with
    | none => .error 4
    | some j => if o.2.2.1 < 0 ∨ ((((bs.getD i default).2.getD j default).2.length : Nat) : Int) ≤ o.2.2.1 then .error 4
      else if fitsV (fldOf ks o.2.1 o.2.2.1) o.2.2.2 then .ok (bs.set i ((bs.getD i default).1, putC (bs.getD i default).2 j o.2.2.1 o.2.2.2)) else .error 1
def oversV (ks : List KR) : List BV → List OV → Except Int (List BV)
  | bs, [] => .ok bs
  | bs, o :: os => match overV ks bs o with
    | .error e => .error e
    | .ok bs' => oversV ks bs' os
theorem overV_len {ks : List KR} {bs bs' : List BV} {o : OV} (h : overV ks bs o = .ok bs') : bs'.length = bs.length ∧ bs'.map Prod.fst = bs.map Prod.fst := by
  unfold overV at h
  split at h
  · cases h
  · split at h
    · cases h
    · split at h
      · cases h
      · split at h
        · cases h
          refine ⟨List.length_set .., ?_⟩
          rename_i i hi _ _ _ _ _
          apply List.ext_getElem (by simp)
          intro j h1 h2
          simp only [List.getElem_map, List.getElem_set]
          split
          · rename_i e; subst e
            have h3 : i < bs.length := by simpa using h2
            rw [List.getD_eq_getElem?_getD, List.getElem?_eq_getElem h3, Option.getD_some]
          · rfl
        · cases h
theorem oversV_len {ks : List KR} : ∀ {os : List OV} {bs bs' : List BV}, oversV ks bs os = .ok bs' → bs'.length = bs.length ∧ bs'.map Prod.fst = bs.map Prod.fst
  | [], bs, bs', h => by cases h; exact ⟨rfl, rfl⟩
  | o :: os, bs, bs', h => by
    unfold oversV at h
    split at h
    · cases h
    · rename_i b1 h1
      have e1 := overV_len h1
      have e2 := oversV_len h
      exact ⟨e2.1.trans e1.1, e2.2.trans e1.2⟩
theorem oversV_snoc {ks : List KR} {o : OV} : ∀ {os : List OV} {bs bs1 : List BV}, oversV ks bs os = .ok bs1 → oversV ks bs (os ++ [o]) = overV ks bs1 o
  | [], bs, bs1, h => by
    cases h
    simp only [List.nil_append, oversV]
    cases overV ks bs o <;> rfl
  | a :: os, bs, bs1, h => by
    unfold oversV at h
    simp only [List.cons_append, oversV]
    cases hh : overV ks bs a with
    | error e => rw [hh] at h; cases h
    | ok b => rw [hh] at h; exact oversV_snoc h
theorem oversV_err {ks : List KR} {e : Int} : ∀ {os os' : List OV} {bs : List BV}, oversV ks bs os = .error e → oversV ks bs (os ++ os') = .error e
  | [], os', bs, h => by cases h
  | a :: os, os', bs, h => by
    unfold oversV at h
    simp only [List.cons_append, oversV]
    cases hh : overV ks bs a with
    | error e => rw [hh] at h; exact h
    | ok b => rw [hh] at h; exact oversV_err h
theorem overV_neg {ks : List KR} {bs : List BV} {o : OV} {e : Int} (h : overV ks bs o = .error e) : e = 4 ∨ e = 1 := by
  unfold overV at h
  split at h
  · cases h; exact .inl rfl
  · split at h
    · cases h; exact .inl rfl
    · split at h
      · cases h; exact .inl rfl
      · split at h
        · cases h
        · cases h; exact .inr rfl
def okV : Except Int (List BV) → List BV
  | .ok l => l
  | .error _ => []
def preV (i : Int) (b : BV) : BV := (i :: b.1, b.2)
/-- The entities of a template and its first parts; 'r': those of the templates before it. -/
def mkTo (ks : List KR) (r : List (List BV)) (t : TV) : Nat → List BV
  | 0 => [([], t.1)]
  | k + 1 => mkTo ks r t k ++ (okV (oversV ks (r.getD (t.2.getD k default).1.toNat []) (t.2.getD k default).2)).map (preV (k : Nat))
def rawsV (ks : List KR) (ts : List TV) : Nat → List (List BV)
  | 0 => []
  | n + 1 => rawsV ks ts n ++ [mkTo ks (rawsV ks ts n) (ts.getD n default) (ts.getD n default).2.length]
/-- The entities of a template. -/
def rawV (ks : List KR) (ts : List TV) (n : Nat) : List BV := (rawsV ks ts (n + 1)).getD n []
theorem rawsV_len (ks : List KR) (ts : List TV) : ∀ n, (rawsV ks ts n).length = n
  | 0 => rfl
  | n + 1 => by simp [rawsV, rawsV_len ks ts n]
theorem rawsV_get (ks : List KR) (ts : List TV) {j : Nat} : ∀ {n : Nat}, j < n → (rawsV ks ts n).getD j [] = rawV ks ts j
  | n + 1, h => by
    by_cases e : j = n
    · rw [e]; rfl
    · simp only [rawsV]
      rw [getD_snoc (by rw [rawsV_len]; omega), if_neg (by rw [rawsV_len]; omega)]
      exact rawsV_get ks ts (by omega)
def rawTo (ks : List KR) (ts : List TV) (n k : Nat) : List BV := mkTo ks (rawsV ks ts n) (ts.getD n default) k
theorem rawV_eq (ks : List KR) (ts : List TV) (n : Nat) : rawV ks ts n = rawTo ks ts n (ts.getD n default).2.length := by
  unfold rawV rawTo
  simp only [rawsV]
  rw [getD_snoc (by rw [rawsV_len]; omega), if_pos (rawsV_len ks ts n).symm]
/-- What a use of a template gives. -/
def useV (ks : List KR) (ts : List TV) (q : Int × List OV) : Except Int (List BV) := oversV ks (rawV ks ts q.1.toNat) q.2
/-- A template whose parts are templates before it, with replacements that fit. -/
def goodT (ks : List KR) (ts : List TV) (n : Nat) : Prop := (ts.getD n default).2.length ≤ 2 ∧ ∀ k, k < (ts.getD n default).2.length → 0 ≤ ((ts.getD n default).2.getD k default).1 ∧ ((ts.getD n default).2.getD k default).1 < n ∧ ((ts.getD n default).2.getD k default).2.length ≤ 40 ∧ ∃ bs, useV ks ts ((ts.getD n default).2.getD k default) = .ok bs
theorem rawTo_zero (ks : List KR) (ts : List TV) (n : Nat) : rawTo ks ts n 0 = [([], (ts.getD n default).1)] := rfl
theorem rawTo_step {ks : List KR} {ts : List TV} {n k : Nat} {bs : List BV} (h : goodT ks ts n) (hk : k < (ts.getD n default).2.length) (hu : useV ks ts ((ts.getD n default).2.getD k default) = .ok bs) : rawTo ks ts n (k + 1) = rawTo ks ts n k ++ bs.map (preV (k : Nat)) := by
  obtain ⟨h1, h2, _, _⟩ := h.2 k hk
  unfold rawTo
  simp only [mkTo]
  rw [rawsV_get ks ts (by omega)]
  unfold useV at hu
  rw [hu]; rfl
theorem rawTo_len {ks : List KR} {ts : List TV} : ∀ (n : Nat), (∀ i, i ≤ n → goodT ks ts i) → ∀ k, k ≤ (ts.getD n default).2.length → (rawTo ks ts n k).length + 1 ≤ 2 ^ (n + 1) ∧ (rawTo ks ts n k).length + k ≤ 1 + k * 2 ^ n := by
  intro n
  induction n using Nat.strongRecOn with
  | _ n ih =>
    intro hg k hk
    have hk2 := (hg n (Nat.le_refl _)).1
    have main : (rawTo ks ts n k).length + k ≤ 1 + k * 2 ^ n := by
      induction k with
      | zero => simp [rawTo_zero]
      | succ k ihk =>
        have h0 := ihk (by omega)
        obtain ⟨h1, h2, _, bs, hu⟩ := (hg n (Nat.le_refl _)).2 k (by omega)
        rw [rawTo_step (hg n (Nat.le_refl _)) (by omega) hu, List.length_append, List.length_map]
        have hl := (oversV_len hu).1
        have hj : ((ts.getD n default).2.getD k default).1.toNat < n := by omega
        have hb := (ih _ hj (fun i hi => hg i (by omega)) _ (Nat.le_refl _)).1
        rw [← rawV_eq, ← hl] at hb
        have hp : 2 ^ (((ts.getD n default).2.getD k default).1.toNat + 1) ≤ 2 ^ n := Nat.pow_le_pow_right (by decide) (by omega)
        rw [Nat.succ_mul]
        omega
    refine ⟨?_, main⟩
    have hm : k * 2 ^ n ≤ 2 * 2 ^ n := Nat.mul_le_mul_right _ (by omega)
    rw [Nat.pow_succ]
    have : 1 ≤ 2 ^ n := Nat.one_le_two_pow
    rcases k with _ | _ | _ | k
    · simp [rawTo_zero] at main ⊢; omega
    · omega
    · omega
    · omega
theorem rawTo_15 {ks : List KR} {ts : List TV} {n : Nat} (hg : ∀ i, i ≤ n → goodT ks ts i) (hn : n ≤ 3) {k : Nat} (hk : k ≤ (ts.getD n default).2.length) : (rawTo ks ts n k).length ≤ 15 := by
  have h := (rawTo_len n hg k hk).1
  have : 2 ^ (n + 1) ≤ 2 ^ 4 := Nat.pow_le_pow_right (by decide) (by omega)
  omega
theorem rawV_15 {ks : List KR} {ts : List TV} {n : Nat} (hg : ∀ i, i ≤ n → goodT ks ts i) (hn : n ≤ 3) : (rawV ks ts n).length ≤ 15 := by
  rw [rawV_eq]; exact rawTo_15 hg hn (Nat.le_refl _)
/-- Every path is short. -/
theorem raw_path {ks : List KR} {ts : List TV} : ∀ (n : Nat), (∀ i, i ≤ n → goodT ks ts i) → ∀ k, k ≤ (ts.getD n default).2.length → ∀ b ∈ rawTo ks ts n k, b.1.length ≤ n := by
  intro n
  induction n using Nat.strongRecOn with
  | _ n ih =>
    intro hg k hk
    induction k with
    | zero => intro b hb; simp [rawTo_zero] at hb; rw [hb]; simp
    | succ k ihk =>
      intro b hb
      obtain ⟨h1, h2, _, bs, hu⟩ := (hg n (Nat.le_refl _)).2 k (by omega)
      rw [rawTo_step (hg n (Nat.le_refl _)) (by omega) hu, List.mem_append] at hb
      rcases hb with hb | hb
      · exact ihk (by omega) b hb
      · obtain ⟨c, hc, rfl⟩ := List.mem_map.1 hb
        have hj : ((ts.getD n default).2.getD k default).1.toNat < n := by omega
        have hpp := (oversV_len hu).2
        have hc1 : c.1 ∈ (rawV ks ts ((ts.getD n default).2.getD k default).1.toNat).map Prod.fst := hpp ▸ List.mem_map.2 ⟨c, hc, rfl⟩
        obtain ⟨d, hd, hdc⟩ := List.mem_map.1 hc1
        rw [rawV_eq] at hd
        have := ih _ hj (fun i hi => hg i (by omega)) _ (Nat.le_refl _) d hd
        rw [hdc] at this
        simp only [preV, List.length_cons]; omega

end Go.Proofs.Ytacmbiohjiogiaa.K

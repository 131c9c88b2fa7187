/- Slices of the call's own that grow, are written and are cut; slices that are read. No condition. -/
import Derived.Test.YtacmbiohjiogiaaK2
import Derived.Laws.CopyRow
namespace Go.Proofs.Ytacmbiohjiogiaa.K
open Go.RowKit

theorem Cels.mono {V V' : Mem} {L L' : List Grp} {A : Option Addr} {cs : List Value} (h : Cels V L A cs) (hm : ∀ b o, ext V L b o → ext V' L' b o) : Cels V' L' A cs := by
  intro i c hi; obtain ⟨a, arr, T, fr, e, hs, hb, hc⟩ := h i c hi; exact ⟨a, arr, T, fr, e, hs, hm _ _ hb, hc⟩
/-- What is read of the memory at the call is read everywhere. -/
theorem Cels.here {V : Mem} {L : List Grp} {A : Option Addr} {cs : List Value} (h : Cels V [] A cs) : Cels V L A cs :=
  h.mono fun _ _ hb => by rcases hb with hb | hb; exact .inl hb; simp at hb
theorem Cels.down {V : Mem} {R : List Grp} {A : Option Addr} {cs : List Value} (h : Cels V R A cs) : Cels (ext V R) [] A cs :=
  h.mono fun _ _ hb => .inl hb
theorem Cels.up {V : Mem} {R : List Grp} {A : Option Addr} {cs : List Value} (h : Cels (ext V R) [] A cs) : Cels V R A cs :=
  h.mono fun _ _ hb => by rcases hb with hb | hb; exact hb; simp at hb
theorem Cels.nil {V : Mem} {L : List Grp} {A : Option Addr} : Cels V L A [] := fun i c h => by simp at h
theorem Cels.cel {V : Mem} {L : List Grp} {A : Option Addr} {cs : List Value} (h : Cels V L A cs) {i : Nat} {c : Value} (hi : cs[i]? = some c) : Cel V L (idx A i) c := h i c hi
theorem Cels.isSome {V : Mem} {L : List Grp} {A : Option Addr} {cs : List Value} (h : Cels V L A cs) {i : Nat} (hi : i < cs.length) : A.isSome = true := by
  have := (h i cs[i] (by simp [hi])).some
  cases A with
  | none => simp [idx] at this
  | some a => rfl
theorem Cels.sub {V : Mem} {L : List Grp} {A : Option Addr} {cs ds : List Value} (h : Cels V L A cs) (k : Nat) (hd : ∀ i c, ds[i]? = some c → cs[k + i]? = some c) : Cels V L (idx A k) ds := by
  intro i c hi; rw [idx_idx]; exact h _ _ (hd i c hi)
theorem Cels.part {V : Mem} {L : List Grp} {A : Option Addr} {cs : List Value} (h : Cels V L A cs) (k n : Nat) : Cels V L (idx A k) ((cs.drop k).take n) :=
  h.sub k fun i c hi => by
    rw [List.getElem?_take] at hi
    split at hi
    · rwa [List.getElem?_drop] at hi
    · cases hi

/-- A slice of the call's own: at 'A', 'n' long, 'cap' wide, of elements of type 'T' ('sz' cells each), holding 'cs'; its block is the group 'E'. -/
def OS (A : Option Addr) (n cap : Nat) (T : TypeId) (sz : Nat) (cs : List Value) (E : Grp) : Prop :=
  cs.length = n * sz ∧ n ≤ cap ∧ cap ≤ maxLen ∧
  ((A = none ∧ cap = 0 ∧ E = []) ∨
   ∃ r pre sp post, A = some ⟨r, pre.length, none⟩ ∧ E = [(r, .cells (pre ++ cs ++ sp ++ post).toArray T (0, 0))] ∧ cs.length + sp.length = cap * sz)

section
variable {A : Option Addr} {n cap : Nat} {T : TypeId} {sz : Nat} {cs : List Value} {E : Grp}
theorem OS.nil (T : TypeId) (sz : Nat) : OS none 0 0 T sz [] [] := ⟨by simp, Nat.le_refl _, Nat.zero_le _, .inl ⟨rfl, rfl, rfl⟩⟩
theorem OS.len (h : OS A n cap T sz cs E) : cs.length = n * sz := h.1
theorem OS.cels {V : Mem} {L : List Grp} (h : OS A n cap T sz cs E) {j : Nat} (hj : nth L j = some E) : Cels V L A cs := by
  obtain ⟨h1, h2, h3, h4⟩ := h; rcases h4 with ⟨rfl, rfl, rfl⟩ | ⟨r, pre, sp, post, rfl, rfl, hl⟩
  · have : n = 0 := by omega
    subst this; have : cs = [] := List.eq_nil_of_length_eq_zero (by simpa using h1); subst this; exact Cels.nil
  · intro i c hi
    rw [idx_some]; refine cel_own j hj ?_; rw [nth_eq, List.append_assoc, List.append_assoc, List.getElem?_append_right (by omega), Nat.add_sub_cancel_left]; rw [List.getElem?_append_left]
    · exact hi
    · exact (List.getElem?_eq_some_iff.1 hi).1
theorem OS.isSome (h : OS A n cap T sz cs E) (hn : 0 < cap) : A.isSome = true := by
  obtain ⟨h1, h2, h3, h4⟩ := h; rcases h4 with ⟨rfl, h, _⟩ | ⟨r, pre, sp, post, rfl, rfl, hl⟩
  · omega
  · rfl

theorem OS.some_of (h : OS A n cap T sz cs E) (hn : 0 < n) : A.isSome = true := h.isSome (Nat.lt_of_lt_of_le hn h.2.1)
theorem setRow_put {w0 w : World} {V : Mem} {L : List Grp} (hw : SH w0 V w L) {j b : Nat} {l l' : List Value} {T : TypeId} {r : Grp} (hj : nth L j = some ((b, .cells l.toArray T (0, 0)) :: r)) : SH w0 V (w.setRow b l'.toArray) (setG L j ((b, .cells l'.toArray T (0, 0)) :: r)) := by
  have hb : w.heap[b]? = some (.cells l.toArray T (0, 0)) := hw.own (b, .cells l.toArray T (0, 0)) (nth_mem hj _ (by simp)); exact hw.put hj rfl rfl rfl (by simp) (setRow_heap w b _ _ T _ hb) (fun k hk => setRow_other w b k _ hk)
end

section
variable {P : Program} {N : Nat} {w0 : World} {V : Mem} {Q : Exit → Frm → List Grp → Prop} {f : Frm} {L : List Grp} {ops : Array Oper} {rest : List Oper}
variable {ty : TypeId} {ps : String} {af : Array Edge} {x y : Operand} {v : Value}

/-- The cells 'vs' laid over a list from place 'k' on. -/
def lay (l : List Value) (k : Nat) (vs : List Value) : List Value := l.take k ++ vs ++ l.drop (k + vs.length)
theorem lay_length (l : List Value) (k : Nat) (vs : List Value) (h : k + vs.length ≤ l.length) : (lay l k vs).length = l.length := by
  simp [lay]; omega
theorem lay_append (pre cs post : List Value) (k : Nat) (vs : List Value) (h : k + vs.length ≤ cs.length) : lay (pre ++ cs ++ post) (pre.length + k) vs = pre ++ lay cs k vs ++ post := by
  unfold lay; have h1 : (pre ++ cs ++ post).take (pre.length + k) = pre ++ cs.take k := by
    rw [List.append_assoc, List.take_append, List.take_of_length_le (by omega), Nat.add_sub_cancel_left, List.take_append_of_le_length (by omega)]
  have h2 : (pre ++ cs ++ post).drop (pre.length + k + vs.length) = cs.drop (k + vs.length) ++ post := by
    rw [List.append_assoc, Nat.add_assoc, List.drop_append, List.drop_of_length_le (by omega), Nat.add_sub_cancel_left, List.nil_append, List.drop_append_of_le_length (by omega)]
  rw [h1, h2]; simp
theorem lay_one (l : List Value) (k : Nat) (v : Value) (h : k < l.length) : lay l k [v] = l.set k v := by
  rw [List.set_eq_take_append_cons_drop, if_pos h]; simp [lay]

/-- A store of a value of several cells into a block of the call's own. -/
theorem o_stores {t T : TypeId} {b off : Nat} {l vs : List Value} {r : Grp} (j : Nat) (hj : nth L j = some ((b, .cells l.toArray T (0, 0)) :: r)) (hz : ∀ w, (sizeOf t).run P w = .ok vs.length w) (hx : evF f x = .pointer (some ⟨b, off, none⟩)) (hy : evF f y = v) (hv : v.cells = vs.toArray) (h1 : ∀ u ∈ vs, u.oneCell' = true) (ho : off + vs.length ≤ l.length)
    (h : opsS P N w0 V ops Q rest f (setG L j ((b, .cells (lay l off vs).toArray T (0, 0)) :: r))) : opsS P N w0 V ops Q (⟨none, .store t x y, ty, ps, af, none⟩ :: rest) f L := by
  refine o_skip rfl rfl (fun w hw => ?_) h; have hb : w.heap[b]? = some (.cells l.toArray T (0, 0)) := hw.own (b, .cells l.toArray T (0, 0)) (nth_mem hj _ (by simp)); have hst := run_storeCells_at P b off T vs 0 l.toArray w hb (by simpa using ho) h1; refine ⟨_, ?_, setRow_put (l' := lay l off vs) hw hj⟩; simp only [execOp, hx, hy, Instr.storeAt, Instr.sureAddr, storeVar, Sem.run_bind, Sem.run_pure, Result.andThen_ok, hz, hv]; simp only [List.size_toArray, ne_eq, not_true_eq_false, if_false, hst, Result.andThen_ok]; simp [lay]
/-- The same through an index into a slice of the call's own. -/
theorem o_store_os {t T : TypeId} {A : Option Addr} {n cap sz k : Nat} {cs vs : List Value} {E : Grp} (j : Nat) (hj : nth L j = some E) (hos : OS A n cap T sz cs E) (hz : ∀ w, (sizeOf t).run P w = .ok vs.length w) (hx : evF f x = .pointer (idx A k)) (hy : evF f y = v) (hv : v.cells = vs.toArray) (h1 : ∀ u ∈ vs, u.oneCell' = true) (h0 : 0 < vs.length) (hk : k + vs.length ≤ cs.length)
    (h : ∀ E', OS A n cap T sz (lay cs k vs) E' → opsS P N w0 V ops Q rest f (setG L j E')) : opsS P N w0 V ops Q (⟨none, .store t x y, ty, ps, af, none⟩ :: rest) f L := by
  obtain ⟨e1, e2, e3, e4⟩ := hos; rcases e4 with ⟨rfl, rfl, rfl⟩ | ⟨r, pre, sp, post, rfl, rfl, hl⟩
  · exfalso
    have : n = 0 := by omega
    subst this; omega
  · rw [idx_some] at hx
    refine o_stores j hj hz hx hy hv h1 (by simp; omega) ?_; have hla : lay (pre ++ cs ++ sp ++ post) (pre.length + k) vs = pre ++ lay cs k vs ++ sp ++ post := by
      rw [List.append_assoc (pre ++ cs), lay_append _ _ _ _ _ hk]; simp
    rw [hla]; have hlen := lay_length cs k vs hk; exact h _ ⟨by rw [hlen]; exact e1, e2, e3, .inr ⟨r, pre, sp, post, rfl, rfl, by rw [hlen]; exact hl⟩⟩

/-- What is appended: its number of elements, and its cells. -/
structure Src (P : Program) (V : Mem) (L : List Grp) (sz : Nat) (u : TypeId) (x : Value) (m : Nat) (news : List Value) : Prop where
  type : (∃ e, P.underlying u = some (.slice e)) ∨ P.underlying u = some .string
  len : ∀ w, (Builtin.lenOf x).run P w = .ok m w
  cells : ∀ w0 w, SH w0 V w L → (Builtin.firstCells sz m x).run P w = .ok news.toArray w
  one : ∀ c ∈ news, c.oneCell' = true
  size : news.length = m * sz
theorem Src.slice {sz : Nat} {u e : TypeId} {A : Option Addr} {m c : Nat} {news : List Value} (hu : P.underlying u = some (.slice e)) (hc : Cels V L A news) (hl : news.length = m * sz) (h1 : ∀ c ∈ news, c.oneCell' = true) (hA : A = none → m = 0) : Src P V L sz u (.slice A m c) m news := by
  refine ⟨.inl ⟨_, hu⟩, fun w => rfl, fun w0 w hw => ?_, h1, hl⟩
  cases A with
  | none =>
    have := hA rfl; subst this; have : news = [] := List.eq_nil_of_length_eq_zero (by simpa using hl); subst this
    rfl
  | some a =>
    show (loadCells a (m * sz)).run P w = _
    rw [← hl]; exact run_loadCells_list w a news fun j v hj => (hc j v hj).cell hw

theorem run_append_fit {t u ty e : TypeId} {i : TypeInfo} (ht : P.underlying t = some (.slice e)) (hi : P.info? e = some i) (hu : (∃ e, P.underlying u = some (.slice e)) ∨ P.underlying u = some .string)
    {r off n cap m : Nat} {x : Value} {news : List Value} {cur : List Value} {w : World} (hlen : ∀ w, (Builtin.lenOf x).run P w = .ok m w) (hc : (Builtin.firstCells i.size m x).run P w = .ok news.toArray w) (hone : ∀ c ∈ news, c.oneCell' = true)
    (hb : w.heap[r]? = some (.cells cur.toArray e (0, 0))) (hroom : n + m ≤ cap) (hfit : off + n * i.size + news.length ≤ cur.length) :
    (Builtin.append_ [t, u].toArray ty [.slice (some ⟨r, off, none⟩) n cap, x].toArray).run P w = .ok (.slice (some ⟨r, off, none⟩) (n + m) cap) (w.setRow r (lay cur (off + n * i.size) news).toArray) := by
  have hst := run_storeCells_at P r (off + n * i.size) e news 0 cur.toArray w hb (by simpa using hfit) hone; have hadd : (⟨r, off, none⟩ : Addr).add (n * i.size) = ⟨r, off + n * i.size, none⟩ := add_plain _ _ _; rcases hu with ⟨e', hu⟩ | hu <;>
    simp [Builtin.append_, run_underlying ht, run_underlying hu, sizeOf, typeInfo, hi, hlen, hc, hroom, hadd, hst, lay]
theorem run_append_none {t u ty e : TypeId} {i : TypeInfo} (ht : P.underlying t = some (.slice e)) (hi : P.info? e = some i) (hu : (∃ e, P.underlying u = some (.slice e)) ∨ P.underlying u = some .string)
    {x : Value} {w : World} (hlen : ∀ w, (Builtin.lenOf x).run P w = .ok 0 w) (hc : (Builtin.firstCells i.size 0 x).run P w = .ok #[] w) :
    (Builtin.append_ [t, u].toArray ty [.slice none 0 0, x].toArray).run P w = .ok (.slice none 0 0) w := by
  rcases hu with ⟨e', hu⟩ | hu <;>
    simp [Builtin.append_, run_underlying ht, run_underlying hu, sizeOf, typeInfo, hi, hlen, hc]
theorem run_append_more {t u ty e : TypeId} {i : TypeInfo} {z : Value} (ht : P.underlying t = some (.slice e)) (hi : P.info? e = some i) (hz : i.zero = some z) (hu : (∃ e, P.underlying u = some (.slice e)) ∨ P.underlying u = some .string)
    {A : Option Addr} {n cap m : Nat} {x : Value} {cs news : List Value} {w : World} (hlen : ∀ w, (Builtin.lenOf x).run P w = .ok m w) (hc : (Builtin.firstCells i.size m x).run P w.drew = .ok news.toArray w.drew) (ho : (Builtin.firstCells i.size n (.slice A n cap)).run P w.drew = .ok cs.toArray w.drew)
    (hg : cap < n + m) (h63 : n + m ≤ maxLen) (hbytes : (n + m) * i.bytes ≤ 140737488355328) :
    (Builtin.append_ [t, u].toArray ty [.slice A n cap, x].toArray).run P w = .ok (.slice (some ⟨w.heap.size, 0, none⟩) (n + m) (grownCap w (n + m) cap e)) (w.drew.alloc (.cells (cs ++ news ++ (Builtin.zeroCells z.cells (grownCap w (n + m) cap e - (n + m))).toList).toArray e)) := by
  have hsmall : n + m ≤ 9223372036854775807 := by simp only [maxLen] at h63; omega
  have hroom : ¬ (n + m ≤ cap) := by omega
  have h63' : ¬ (9223372036854775807 < ((n : Int) + (m : Int))) := by omega
  have hfits := growslice_fits hg hbytes; have h48' : ¬ (281474976710656 < Builtin.nextslicecap (n + m) cap * i.bytes) := by omega
  rcases hu with ⟨e', hu⟩ | hu <;>
    (simp [Builtin.append_, run_underlying ht, run_underlying hu, sizeOf, typeInfo, zeroValue, hi, hz, hlen, hroom, h63', h48', Question.forced, hc, ho, newRow, grownCap]
     congr 2
     apply Array.ext'
     simp)

theorem run_append_any {t u ty e : TypeId} {i : TypeInfo} {z : Value} (ht : P.underlying t = some (.slice e)) (hi : P.info? e = some i) (hz : i.zero = some z) (hzs : z.cells.size = i.size)
    {A : Option Addr} {n cap : Nat} {cs : List Value} {E : Grp} {j : Nat} (hj : nth L j = some E) (hos : OS A n cap e i.size cs E) {x : Value} {m : Nat} {news : List Value} (hsrc : Src P V L i.size u x m news)
    (h63 : n + m ≤ maxLen) (hbytes : (n + m) * i.bytes ≤ 140737488355328) {w : World} (hw : SH w0 V w L) :
    ∃ A' cap' w' E', (Builtin.append_ [t, u].toArray ty [.slice A n cap, x].toArray).run P w = .ok (.slice A' (n + m) cap') w' ∧ SH w0 V w' (setG L j E') ∧ OS A' (n + m) cap' e i.size (cs ++ news) E' ∧ (A' = none → A = none ∧ m = 0) := by
  obtain ⟨hu, hlen, hcells, hone, hsize⟩ := hsrc; have hcl := hos.1; obtain ⟨p, q, hL, hs⟩ := setG_split hj
  by_cases hroom : n + m ≤ cap
  · rcases hos with ⟨e1, e2, e3, e4⟩
    rcases e4 with ⟨rfl, rfl, rfl⟩ | ⟨r, pre, sp, post, rfl, rfl, hl⟩
    · have hn : n = 0 := by omega
      have hm : m = 0 := by omega
      subst hn hm; have hc0 : cs = [] := List.eq_nil_of_length_eq_zero (by simpa using e1); have hn0 : news = [] := List.eq_nil_of_length_eq_zero (by simpa using hsize); subst hc0 hn0; refine ⟨none, 0, w, [], run_append_none ht hi hu hlen (hcells w0 w hw), ?_, OS.nil _ _, fun _ => ⟨rfl, rfl⟩⟩; rw [hs, ← hL]; exact hw
    · have hb : w.heap[r]? = some (.cells (pre ++ cs ++ sp ++ post).toArray e (0, 0)) := hw.own (r, .cells (pre ++ cs ++ sp ++ post).toArray e (0, 0)) (nth_mem hj _ (by simp))
      have hh : news.length ≤ sp.length := by
        have h1 : cs.length + news.length ≤ cs.length + sp.length := by rw [hl, e1, hsize, ← Nat.add_mul]; exact Nat.mul_le_mul_right _ hroom
        omega
      have hspl : lay (pre ++ cs ++ sp ++ post) (pre.length + n * i.size) news = pre ++ (cs ++ news) ++ sp.drop news.length ++ post := by
        have h1 := lay_append (pre ++ cs) sp post 0 news (by simpa using hh); simp only [List.length_append, Nat.add_zero] at h1; rw [← e1, h1]; simp [lay]
      refine ⟨some ⟨r, pre.length, none⟩, cap, _, _, run_append_fit ht hi hu hlen (hcells w0 w hw) hone hb hroom (by rw [← e1]; simp; omega), setRow_put hw hj, ?_, by simp⟩; rw [hspl]; refine ⟨by rw [List.length_append, e1, hsize, Nat.add_mul], hroom, e3, .inr ⟨r, pre, sp.drop news.length, post, rfl, rfl, ?_⟩⟩; simp; omega
  · have hold : ∀ w1, SH w0 V w1 L → (Builtin.firstCells i.size n (.slice A n cap)).run P w1 = .ok cs.toArray w1 := by
      intro w1 hw1; have hcs := hos.cels (V := V) hj
      cases hA : A with
      | none =>
        subst hA; have hn : n = 0 := by
          rcases hos with ⟨e1, e2, e3, e4⟩; rcases e4 with ⟨_, rfl, _⟩ | ⟨r, pre, sp, post, h, _⟩
          · omega
          · cases h
        subst hn; have : cs = [] := List.eq_nil_of_length_eq_zero (by simpa using hcl); subst this
        rfl
      | some a =>
        subst hA
        show (loadCells a (n * i.size)).run P w1 = _
        rw [← hcl]; exact run_loadCells_list w1 a cs fun j v hj => (hcs j v hj).cell hw1
    have hwd : SH w0 V w.drew L := hw.drawn _; have hge := grownCap_ge w (n + m) cap e; have hcm : grownCap w (n + m) cap e ≤ maxLen := grownCap_le_maxLen w (n + m) cap e h63; refine ⟨_, _, _, [(w.heap.size, .cells (cs ++ news ++ (Builtin.zeroCells z.cells (grownCap w (n + m) cap e - (n + m))).toList).toArray e (0, 0))], run_append_more ht hi hz hu hlen (hcells w0 _ hwd) (hold _ hwd) (by omega) h63 hbytes, ?_, ?_, by simp⟩
    · rw [hs]
      have ha := hwd.alloc (.cells (cs ++ news ++ (Builtin.zeroCells z.cells (grownCap w (n + m) cap e - (n + m))).toList).toArray e (0, 0)); refine (ha.perm (L' := p ++ [(w.heap.size, .cells (cs ++ news ++ (Builtin.zeroCells z.cells (grownCap w (n + m) cap e - (n + m))).toList).toArray e (0, 0))] :: (q ++ [E])) ?_).sublist ?_
      · rw [hL]
        simp only [List.flatten_append, List.flatten_cons, List.flatten_nil, List.append_nil, List.append_assoc]; refine List.Perm.append_left _ ?_; refine (List.perm_append_comm (l₁ := E)).trans ?_; refine (List.Perm.append_right E List.perm_append_comm).trans ?_; rw [List.append_assoc]; exact List.Perm.refl _
      · simp only [List.flatten_append, List.flatten_cons, List.flatten_nil, List.append_nil]
        refine List.Sublist.append_left (List.Sublist.append_left ?_ _) _; exact List.sublist_append_left _ _
    · refine ⟨by rw [List.length_append, hcl, hsize, Nat.add_mul], hge, hcm, .inr ⟨w.heap.size, [], (Builtin.zeroCells z.cells (grownCap w (n + m) cap e - (n + m))).toList, [], rfl, by simp, ?_⟩⟩
      simp only [List.length_append, Array.length_toList, size_zeroCells, hzs, hcl, hsize, ← Nat.add_mul]
      congr 1
      omega

/-- append onto a slice of the call's own. -/
theorem o_append {t u e d : TypeId} {i : TypeInfo} {z : Value} {sz bytes : Nat} (j : Nat) (hN : Nat.blt d N = true) (ht : P.underlying t = some (.slice e)) (hi : P.info? e = some i) (hz : i.zero = some z) (hzs : z.cells.size = sz) (hsz : i.size = sz) (hby : i.bytes = bytes)
    {A : Option Addr} {n cap : Nat} {cs : List Value} {E : Grp} (hj : nth L j = some E) (hos : OS A n cap e sz cs E) (hx : evF f x = .slice A n cap) (hy : evF f y = v) {m : Nat} {news : List Value} (hsrc : Src P V L sz u v m news)
    (hb : n + m ≤ 140737488355328 ∧ (n + m) * bytes ≤ 140737488355328)
    (h : ∀ A' cap' E', OS A' (n + m) cap' e sz (cs ++ news) E' → (A' = none → A = none ∧ m = 0) → opsS P N w0 V ops Q rest (upd f d (.slice A' (n + m) cap')) (setG L j E')) :
    opsS P N w0 V ops Q (⟨some d, .call { callee := .builtin .append, args := [x, y].toArray, argTypes := [t, u].toArray }, ty, ps, af, none⟩ :: rest) f L := by
  subst hsz hby; refine o_effE (d := d) (fun v L' => ∃ A' cap' E', v = .slice A' (n + m) cap' ∧ L' = setG L j E' ∧ OS A' (n + m) cap' e i.size (cs ++ news) E' ∧ (A' = none → A = none ∧ m = 0)) rfl rfl hN (fun w hw => ?_) ?_
  · obtain ⟨A', cap', w', E', h1, h2, h3, h4⟩ := run_append_any (ty := ty) ht hi hz hzs hj hos hsrc (by unfold maxLen; omega) hb.2 hw
    refine ⟨_, w', _, ?_, h2, A', cap', E', rfl, rfl, h3, h4⟩; simp only [execOp, resolve, Sem.run_bind, Sem.run_pure, Result.andThen_ok, invoke, builtin, List.map_toArray, List.map_cons, List.map_nil, hx, hy, h1]
  · rintro v L' ⟨A', cap', E', rfl, rfl, h3, h4⟩
    exact h A' cap' E' h3 h4

/-! ### slices cut -/
def cutA (A : Option Addr) (c l sz : Nat) : Option Addr := if c = l then A else idx A (l * sz)
theorem run_cut {t e : TypeId} {z : Nat} (ht : ∀ w, (underlying t).run P w = .ok (.slice e) w) (hz : ∀ w, (sizeOf e).run P w = .ok z w) {A : Option Addr} {n c l h m : Nat} {lo hi mx : Option Value} (hb : ∀ w, (Instr.sliceBounds true n c lo hi mx).run P w = .ok (l, h, m) w) (w : World) :
    (Instr.sliceAt t (.slice A n c) lo hi mx).run P w = .ok (.slice (if m = l then A else idx A (l * z)) (h - l) (m - l)) w := by
  simp [Instr.sliceAt, ht, Instr.slice, hb, hz, idx]
theorem y_cut {t e d : TypeId} {g : Option (Nat × Bool)} {z : Nat} (ht : ∀ w, (underlying t).run P w = .ok (.slice e) w) (hz : ∀ w, (sizeOf e).run P w = .ok z w) {A : Option Addr} {n c l h m : Nat} {lo hi mx : Option Operand} {vl vh vm : Option Value} (hx : evF f x = .slice A n c) (hl : lo.map (evF f) = vl) (hh : hi.map (evF f) = vh) (hm : mx.map (evF f) = vm)
    (hb : ∀ w, (Instr.sliceBounds true n c vl vh vm).run P w = .ok (l, h, m) w) : Yld P f V L ⟨some d, .slice t x lo hi mx, ty, ps, af, g⟩ (.slice (if m = l then A else idx A (l * z)) (h - l) (m - l)) := fun _ w _ => by
  simp only [execOp, hx, hl, hh, hm, Sem.run_bind, run_cut ht hz hb, Result.andThen_ok, Sem.run_pure]
theorem sliceBound_in {k : IntKind} {i : Int} {y : Nat} {c : BoundsCode} (h : 0 ≤ i ∧ i ≤ y) (w : World) : (Instr.sliceBound (.int k i) y c).run P w = .ok i.toNat w := by
  simp [Instr.sliceBound, asIntOf, h]
theorem y_cut_hi {t e d : TypeId} {g : Option (Nat × Bool)} {k : IntKind} {z : Nat} {h : Int} {A : Option Addr} {n c : Nat} (ht : ∀ w, (underlying t).run P w = .ok (.slice e) w) (hz : ∀ w, (sizeOf e).run P w = .ok z w) (hx : evF f x = .slice A n c) (hy : evF f y = .int k h) (hb : 0 ≤ h ∧ h ≤ c) : Yld P f V L ⟨some d, .slice t x none (some y) none, ty, ps, af, g⟩ (.slice A h.toNat c) :=
  (y_cut (l := 0) (h := h.toNat) (m := c) ht hz hx rfl (vh := some (.int k h)) (by simp [hy]) rfl (fun w => by simp [Instr.sliceBounds, sliceBound_in hb])).of_eq (by simp [idx_zero])
theorem y_cut_lo {t e d : TypeId} {g : Option (Nat × Bool)} {k : IntKind} {z : Nat} {l : Int} {A : Option Addr} {n c : Nat} (ht : ∀ w, (underlying t).run P w = .ok (.slice e) w) (hz : ∀ w, (sizeOf e).run P w = .ok z w) (hx : evF f x = .slice A n c) (hy : evF f y = .int k l) (hb : 0 ≤ l ∧ l ≤ n) : Yld P f V L ⟨some d, .slice t x (some y) none none, ty, ps, af, g⟩ (.slice (cutA A c l.toNat z) (n - l.toNat) (c - l.toNat)) :=
  y_cut (l := l.toNat) (h := n) (m := c) ht hz hx (vl := some (.int k l)) (by simp [hy]) rfl rfl (fun w => by simp [Instr.sliceBounds, sliceBound_in hb])
theorem Cels.cut {A : Option Addr} {cs : List Value} (h : Cels V L A cs) (c l sz k : Nat) (hk : c = l → k = 0) : Cels V L (cutA A c l sz) ((cs.drop (l * sz)).take k) := by
  unfold cutA
  split
  · rename_i e; rw [hk e]; simp; exact Cels.nil
  · exact h.part _ _
end
end Go.Proofs.Ytacmbiohjiogiaa.K

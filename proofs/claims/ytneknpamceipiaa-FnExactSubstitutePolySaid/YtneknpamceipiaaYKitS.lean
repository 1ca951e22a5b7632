/- Walks of the functions on polynomials, numbers and rows, of both sides; no condition. -/
import Derived.Test.YtneknpamceipiaaYKitA
import Derived.Test.YtneknpamceipiaaYPFnExactClassesOfx2
import Derived.BigQuiet
import Derived.Test.YtneknpamceipiaaYAccK
import Derived.Test.YtneknpamceipiaaYKitP
import Derived.StillTailTactics
import Derived.BigRegion
import Derived.Deep.RegionWith
import Derived.Test.YtneknpamceipiaaYPFacts
import Derived.Maps.RangeWalk
import Derived.WideKeyArr
import Derived.WideKeyEntry
/- Residues, without the matrices; no condition. -/
set_option linter.unusedVariables false
set_option linter.unusedSimpArgs false
namespace Go.Proofs.Ytneknpamceipiaa
open Go.RowKit Go.Proofs.YtneknpamceipiaaW.PrintWords
attribute [local go_sem] Later.cell Later.frozen Later.lt Later.lt_add Later.le Later.le_add Later.ne Later.ne' add_at
theorem mul_bd3S {x y : Int} (hx : 0 ≤ x) (hx' : x ≤ 12) (hy : 0 ≤ y) (hy' : y ≤ 12) : 0 ≤ x * y ∧ x * y ≤ 144 := by
  refine ⟨Int.mul_nonneg hx hy, ?_⟩
  have h1 := Int.mul_le_mul (a := x) (b := y) (c := 12) (d := 12) (by omega) (by omega) hy (by omega)
  omega
theorem tmod_fixS {x p : Int} (hp : 2 ≤ p) (hp' : p ≤ 13) : (wrap64 (x.tmod p + p)).tmod p = x % p := by
  have h1 : x.tmod p < p := Int.tmod_lt_of_pos _ (by omega)
  have h2 : -p < x.tmod p := by
    have := Int.tmod_lt_of_pos (-x) (show 0 < p by omega)
    rw [Int.neg_tmod] at this
    omega
  have h3 : wrap64 (x.tmod p + p) = x.tmod p + p := by unfold wrap64; omega
  rw [h3, Int.tmod_eq_emod_of_nonneg (by omega), Int.add_emod_right, Int.tmod_def, Int.sub_mul_emod_self_left]
theorem mod_gS {p x : Int} (hp : 2 ≤ p) (hp' : p ≤ 13) (w : World) : Calls Try.prog 132 #[.int .i64 p, .int .i64 x] w (Gives (.int .i64 (x % p)) w) := by
  refine (PFnExactClassesOf.spec_l01Mod.calls p x (x % p) w ?_).mono fun e w' ⟨h1, h2⟩ => ⟨h1, h2.below⟩
  unfold PFnExactClassesOf.spec_l01Mod.f
  rw [if_neg (by omega)]
  exact congrArg some (tmod_fixS hp hp')
end Go.Proofs.Ytneknpamceipiaa
/- PLAIN LAW of sums of terms: a list of terms that is sorted and has its values between 1 and p - 1 is told by its coefficients; the reference's way to put a value keeps such lists; no condition. -/
set_option linter.unusedVariables false
namespace Go.Proofs.Ytneknpamceipiaa
theorem E3_ext {e f : E3} (ha : (e.a.toNat : Int) = f.a.toNat) (hb : (e.b.toNat : Int) = f.b.toNat) (hc : (e.c.toNat : Int) = f.c.toNat) : e = f := by
  cases e; cases f
  simp only [E3.mk.injEq]
  exact ⟨UInt8.toNat_inj.1 (Int.ofNat_inj.1 ha), UInt8.toNat_inj.1 (Int.ofNat_inj.1 hb), UInt8.toNat_inj.1 (Int.ofNat_inj.1 hc)⟩
theorem cmpE_lt {e f : E3} : cmpE e f < 0 ↔ degE e < degE f ∨ (degE e = degE f ∧ ((f.a.toNat : Int) < e.a.toNat ∨ ((e.a.toNat : Int) = f.a.toNat ∧ (f.b.toNat : Int) < e.b.toNat))) := by
  unfold cmpE
  split
  · omega
  · split <;> omega
theorem cmpE_eq {e f : E3} : cmpE e f = 0 ↔ e = f := by
  constructor
  · intro h
    unfold cmpE at h
    split at h
    · omega
    · split at h
      · omega
      · refine E3_ext (by omega) (by omega) ?_
        unfold degE at *
        omega
  · rintro rfl
    simp [cmpE]
theorem cmpE_trans {a b c : E3} (h : cmpE a b < 0) (k : cmpE b c < 0) : cmpE a c < 0 := by
  rw [cmpE_lt] at *
  omega
theorem cmpE_irrefl (a : E3) : ¬ cmpE a a < 0 := by
  have := (cmpE_eq (e := a) (f := a)).2 rfl
  omega
theorem cmpE_tri (a b : E3) : cmpE a b < 0 ∨ a = b ∨ cmpE b a < 0 := by
  have h := cmpE_eq (e := a) (f := b)
  have h1 := cmpE_lt (e := a) (f := b)
  have h2 := cmpE_lt (e := b) (f := a)
  by_cases g : cmpE a b = 0
  · exact .inr (.inl (h.1 g))
  · have h3 : ¬ (a = b) := fun e => g (h.2 e)
    by_cases g1 : cmpE a b < 0
    · exact .inl g1
    · refine .inr (.inr (h2.2 ?_))
      have g4 : ¬ ((a.a.toNat : Int) = b.a.toNat ∧ (a.b.toNat : Int) = b.b.toNat ∧ (a.c.toNat : Int) = b.c.toNat) := fun ⟨x, y, z⟩ => h3 (E3_ext x y z)
      have g5 := fun x => g1 (h1.2 x)
      unfold degE at *
      omega
/-- Terms in order. -/
def SortT (ts : List T4) : Prop := ts.Pairwise (fun a b => cmpE a.e b.e < 0)
/-- A polynomial's terms. -/
def Canon (p : Int) (ts : List T4) : Prop := SortT ts ∧ ∀ t ∈ ts, 1 ≤ t.v ∧ t.v < p
theorem canon_nil (p : Int) : Canon p [] := ⟨List.Pairwise.nil, fun _ h => by cases h⟩
theorem coef_absent {e : E3} : ∀ {ts : List T4}, (∀ t ∈ ts, t.e ≠ e) → coefL ts e = 0
  | [], _ => rfl
  | t :: ts, h => by
    rw [coefL, if_neg (by simpa using h t (by simp))]
    exact coef_absent fun s hs => h s (by simp [hs])
theorem coef_after {e : E3} {t : T4} {ts : List T4} (h : SortT (t :: ts)) (he : cmpE e t.e < 0 ∨ e = t.e) : coefL ts e = 0 := by
  refine coef_absent fun s hs hse => ?_
  have h1 := (List.pairwise_cons.1 h).1 s hs
  rw [hse] at h1
  rcases he with he | he
  · exact cmpE_irrefl e (cmpE_trans he h1)
  · rw [← he] at h1
    exact cmpE_irrefl _ h1
theorem coef_mem {t : T4} : ∀ {ts : List T4}, SortT ts → t ∈ ts → coefL ts t.e = t.v
  | [], _, h => by cases h
  | s :: ts, hs, h => by
    rcases List.mem_cons.1 h with rfl | h
    · simp [coefL]
    · have h1 := (List.pairwise_cons.1 hs).1 t h
      rw [coefL, if_neg]
      · exact coef_mem (List.pairwise_cons.1 hs).2 h
      · intro e
        have e : s.e = t.e := by simpa using e
        rw [e] at h1
        exact cmpE_irrefl _ h1
theorem canon_tail {p : Int} {t : T4} {ts : List T4} (h : Canon p (t :: ts)) : Canon p ts := ⟨(List.pairwise_cons.1 h.1).2, fun s hs => h.2 s (by simp [hs])⟩
theorem coef_head {t : T4} {ts : List T4} : coefL (t :: ts) t.e = t.v := by simp [coefL]
theorem coef_cons {t : T4} {ts : List T4} {e : E3} (h : t.e ≠ e) : coefL (t :: ts) e = coefL ts e := by simp [coefL, h]
theorem coef_cons_lt {t : T4} {ts : List T4} {e : E3} (hs : SortT (t :: ts)) (h : cmpE e t.e < 0) : coefL (t :: ts) e = 0 := by
  rw [coef_cons (fun x => cmpE_irrefl e (by rw [x] at h; exact h)), coef_after hs (.inl h)]
/-- Two such lists with the same coefficients are one. -/
theorem canon_ext {p : Int} : ∀ {a b : List T4}, Canon p a → Canon p b → (∀ e, coefL a e = coefL b e) → a = b
  | [], [], _, _, _ => rfl
  | [], s :: ys, _, hb, h => by
    have h1 := h s.e
    rw [coef_head] at h1
    have h2 := hb.2 s (by simp)
    have : coefL ([] : List T4) s.e = 0 := rfl
    omega
  | t :: xs, [], ha, _, h => by
    have h1 := h t.e
    rw [coef_head] at h1
    have h2 := ha.2 t (by simp)
    have : coefL ([] : List T4) t.e = 0 := rfl
    omega
  | t :: xs, s :: ys, ha, hb, h => by
    have h1 := ha.2 t (by simp)
    have h2 := hb.2 s (by simp)
    rcases cmpE_tri t.e s.e with g | g | g
    · have := h t.e
      rw [coef_head, coef_cons_lt hb.1 g] at this
      omega
    · have hv := h t.e
      rw [coef_head, g, coef_head] at hv
      have hts : t = s := by cases t; cases s; simp_all
      subst hts
      rw [canon_ext (canon_tail ha) (canon_tail hb) fun e => ?_]
      by_cases he : t.e = e
      · rw [← he, coef_after ha.1 (.inr rfl), coef_after hb.1 (.inr rfl)]
      · have := h e
        rwa [coef_cons he, coef_cons he] at this
    · have := h s.e
      rw [coef_head, coef_cons_lt ha.1 g] at this
      omega
theorem canon_bd {p : Int} (hp : 2 ≤ p) : ∀ {ts : List T4}, Canon p ts → ∀ e, 0 ≤ coefL ts e ∧ coefL ts e < p
  | [], _, e => by simp [coefL]; omega
  | t :: ts, h, e => by
    have h1 := h.2 t (by simp)
    by_cases he : t.e = e
    · rw [← he, coef_head]; omega
    · rw [coef_cons he]
      exact canon_bd hp (canon_tail h) e
/-! ### the reference's way to put a value -/
def putGo (e : E3) (v : Int) : List T4 → Bool → List T4
  | [], done => if done then [] else [⟨e, v⟩]
  | t :: ts, done => (if !done && befE e t.e then [⟨e, v⟩] else []) ++ (if t.e != e then [t] else []) ++ putGo e v ts (done || befE e t.e)
def putT (p : Int) (ts : List T4) (e : E3) (v : Int) : List T4 := putGo e ((v + coefL ts e) % p) ts ((v + coefL ts e) % p == 0)
theorem putGo_done (e : E3) (v : Int) : ∀ ts : List T4, putGo e v ts true = ts.filter (fun t => t.e != e)
  | [] => rfl
  | t :: ts => by
    rw [putGo, Bool.true_or, putGo_done e v ts]
    simp only [Bool.not_true, Bool.false_and, Bool.false_eq_true, if_false, List.nil_append]
    by_cases h : t.e = e <;> simp [h]
theorem filter_sort {e : E3} {ts : List T4} (h : SortT ts) : SortT (ts.filter (fun t => t.e != e)) := List.Pairwise.filter _ h
theorem coef_filter {e f : E3} : ∀ {ts : List T4}, coefL (ts.filter (fun t => t.e != e)) f = if f = e then 0 else coefL ts f
  | [] => by simp [coefL]
  | t :: ts => by
    by_cases h : t.e = e
    · rw [List.filter_cons_of_neg (by simp [h]), coef_filter]
      by_cases g : f = e
      · simp [g]
      · rw [if_neg g, if_neg g, coef_cons (by rw [h]; exact fun x => g x.symm)]
    · rw [List.filter_cons_of_pos (by simp [h])]
      by_cases g : t.e = f
      · rw [← g, coef_head, coef_head, if_neg h]
      · rw [coef_cons g, coef_cons g, coef_filter]
theorem befE_true {e f : E3} : befE e f = true ↔ cmpE e f < 0 := by rw [befE_cmp]; exact decide_eq_true_iff
theorem putGo_mem {e : E3} {v : Int} {x : T4} : ∀ {ts : List T4} {d : Bool}, x ∈ putGo e v ts d → (x = ⟨e, v⟩ ∧ d = false) ∨ x ∈ ts
  | [], d, h => by
    cases d
    · simp [putGo] at h
      exact .inl ⟨h, rfl⟩
    · simp [putGo] at h
  | t :: ts, d, h => by
    rw [putGo] at h
    rcases List.mem_append.1 h with h | h
    · rcases List.mem_append.1 h with h | h
      · split at h
        · rename_i hc
          simp at h
          refine .inl ⟨h, ?_⟩
          cases d
          · rfl
          · simp at hc
        · cases h
      · split at h
        · simp at h
          exact .inr (by simp [h])
        · cases h
    · rcases putGo_mem h with ⟨h1, h2⟩ | h
      · refine .inl ⟨h1, ?_⟩
        cases d
        · rfl
        · simp at h2
      · exact .inr (by simp [h])
theorem putGo_len (e : E3) (v : Int) : ∀ (ts : List T4) (d : Bool), (putGo e v ts d).length ≤ ts.length + 1
  | [], d => by cases d <;> simp [putGo]
  | t :: ts, d => by
    cases d
    · rw [putGo]
      by_cases hb : befE e t.e = true
      · rw [hb]
        have h1 := List.length_filter_le (fun t : T4 => t.e != e) ts
        simp only [Bool.or_true]
        rw [putGo_done]
        by_cases h : t.e = e <;> simp [h] <;> omega
      · have hb : befE e t.e = false := by simpa using hb
        rw [hb]
        have := putGo_len e v ts false
        by_cases h : t.e = e <;> simp [h] <;> omega
    · rw [putGo_done]
      exact Nat.le_trans (List.length_filter_le _ _) (by omega)
theorem putGo_sort {e : E3} {v : Int} : ∀ {ts : List T4}, SortT ts → SortT (putGo e v ts false)
  | [], _ => by simp [putGo, SortT]
  | t :: ts, h => by
    obtain ⟨h1, h2⟩ := List.pairwise_cons.1 h
    rw [putGo]
    rcases cmpE_tri e t.e with g | g | g
    · have hb : befE e t.e = true := befE_true.2 g
      have hne : (t.e != e) = true := by
        simp only [bne_iff_ne, ne_eq]
        intro x
        rw [x] at g
        exact cmpE_irrefl _ g
      rw [hb, hne]
      simp only [Bool.not_false, Bool.true_and, if_true, Bool.or_true, putGo_done, List.cons_append, List.nil_append]
      refine List.pairwise_cons.2 ⟨fun s hs => ?_, List.pairwise_cons.2 ⟨fun s hs => h1 s (List.mem_filter.1 hs).1, filter_sort h2⟩⟩
      rcases List.mem_cons.1 hs with rfl | hs
      · exact g
      · exact cmpE_trans g (h1 s (List.mem_filter.1 hs).1)
    · have hb : befE e t.e = false := by
        rw [← Bool.not_eq_true, befE_true, g]
        exact cmpE_irrefl _
      rw [hb]
      simp only [Bool.and_false, Bool.false_eq_true, if_false, ← g, bne_self_eq_false, List.nil_append, Bool.or_false]
      exact putGo_sort h2
    · have hb : befE e t.e = false := by
        rw [← Bool.not_eq_true, befE_true]
        exact fun x => cmpE_irrefl _ (cmpE_trans x g)
      have hne : (t.e != e) = true := by
        simp only [bne_iff_ne, ne_eq]
        intro x
        rw [x] at g
        exact cmpE_irrefl _ g
      rw [hb, hne]
      simp only [Bool.and_false, Bool.false_eq_true, if_false, if_true, List.nil_append, Bool.or_false, List.cons_append]
      refine List.pairwise_cons.2 ⟨fun s hs => ?_, putGo_sort h2⟩
      rcases putGo_mem hs with ⟨rfl, _⟩ | hs
      · exact g
      · exact h1 s hs
theorem putGo_coef {e f : E3} {v : Int} : ∀ {ts : List T4}, SortT ts → coefL (putGo e v ts false) f = if f = e then v else coefL ts f
  | [], _ => by
    by_cases g : f = e
    · simp [putGo, coefL, g]
    · have : ¬ e = f := fun x => g x.symm
      simp [putGo, coefL, g, this]
  | t :: ts, h => by
    obtain ⟨h1, h2⟩ := List.pairwise_cons.1 h
    rw [putGo]
    rcases cmpE_tri e t.e with g | g | g
    · have hb : befE e t.e = true := befE_true.2 g
      have hne' : ¬ t.e = e := by
        intro x
        rw [x] at g
        exact cmpE_irrefl _ g
      have hne : (t.e != e) = true := by simpa using hne'
      rw [hb, hne]
      simp only [Bool.not_false, Bool.true_and, if_true, Bool.or_true, putGo_done, List.cons_append, List.nil_append]
      by_cases k : f = e
      · rw [if_pos k, k]
        exact coef_head (t := ⟨e, v⟩)
      · rw [if_neg k, coef_cons (t := ⟨e, v⟩) (fun x => k x.symm)]
        by_cases l : t.e = f
        · rw [← l, coef_head, coef_head]
        · rw [coef_cons l, coef_cons l, coef_filter, if_neg k]
    · have hb : befE e t.e = false := by
        rw [← Bool.not_eq_true, befE_true, g]
        exact cmpE_irrefl _
      rw [hb]
      simp only [Bool.and_false, Bool.false_eq_true, if_false, ← g, bne_self_eq_false, List.nil_append, Bool.or_false]
      rw [putGo_coef h2]
      by_cases k : f = e
      · rw [if_pos k, if_pos k]
      · rw [if_neg k, if_neg k, coef_cons (by rw [← g]; exact fun x => k x.symm)]
    · have hb : befE e t.e = false := by
        rw [← Bool.not_eq_true, befE_true]
        exact fun x => cmpE_irrefl _ (cmpE_trans x g)
      have hne' : ¬ t.e = e := by
        intro x
        rw [x] at g
        exact cmpE_irrefl _ g
      have hne : (t.e != e) = true := by simpa using hne'
      rw [hb, hne]
      simp only [Bool.and_false, Bool.false_eq_true, if_false, if_true, List.nil_append, Bool.or_false, List.cons_append]
      by_cases l : t.e = f
      · rw [← l, coef_head, coef_head, if_neg hne']
      · rw [coef_cons l, coef_cons l, putGo_coef h2]
theorem putT_len (p : Int) (ts : List T4) (e : E3) (v : Int) : (putT p ts e v).length ≤ ts.length + 1 := putGo_len _ _ _ _
theorem putT_canon {p : Int} (hp : 2 ≤ p) {ts : List T4} (h : Canon p ts) (e : E3) (v : Int) : Canon p (putT p ts e v) := by
  have hm := Int.emod_nonneg (v + coefL ts e) (show p ≠ 0 by omega)
  have hl := Int.emod_lt_of_pos (v + coefL ts e) (show 0 < p by omega)
  unfold putT
  generalize (v + coefL ts e) % p = x at *
  by_cases hx : x = 0
  · subst hx
    simp only [beq_self_eq_true, putGo_done]
    exact ⟨filter_sort h.1, fun t ht => h.2 t (List.mem_filter.1 ht).1⟩
  · have : (x == 0) = false := by simpa using hx
    rw [this]
    refine ⟨putGo_sort h.1, fun t ht => ?_⟩
    rcases putGo_mem ht with ⟨rfl, _⟩ | ht
    · exact ⟨by show 1 ≤ x; omega, hl⟩
    · exact h.2 t ht
theorem putT_coef {p : Int} {ts : List T4} (h : SortT ts) (e f : E3) (v : Int) : coefL (putT p ts e v) f = if f = e then (v + coefL ts e) % p else coefL ts f := by
  unfold putT
  generalize (v + coefL ts e) % p = x at *
  by_cases hx : x = 0
  · subst hx
    simp only [beq_self_eq_true, putGo_done]
    rw [coef_filter]
  · have : (x == 0) = false := by simpa using hx
    rw [this, putGo_coef h]
/-! ### many values -/
def sumAt (l : List (E3 × Int)) (e : E3) : Int := (l.map fun q => if q.1 = e then q.2 else 0).sum
theorem sumAt_snoc (l : List (E3 × Int)) (q : E3 × Int) (e : E3) : sumAt (l ++ [q]) e = sumAt l e + if q.1 = e then q.2 else 0 := by simp [sumAt]
theorem sumAt_append (l m : List (E3 × Int)) (e : E3) : sumAt (l ++ m) e = sumAt l e + sumAt m e := by simp [sumAt]
theorem sumAt_cons (l : List (E3 × Int)) (q : E3 × Int) (e : E3) : sumAt (q :: l) e = (if q.1 = e then q.2 else 0) + sumAt l e := by simp [sumAt]
def putsT (p : Int) (ts : List T4) (l : List (E3 × Int)) : List T4 := l.foldl (fun acc q => putT p acc q.1 q.2) ts
theorem putsT_snoc (p : Int) (ts : List T4) (l : List (E3 × Int)) (q : E3 × Int) : putsT p ts (l ++ [q]) = putT p (putsT p ts l) q.1 q.2 := by simp [putsT]
theorem putsT_canon {p : Int} (hp : 2 ≤ p) : ∀ (l : List (E3 × Int)) {ts : List T4}, Canon p ts → Canon p (putsT p ts l)
  | [], _, h => h
  | q :: l, ts, h => putsT_canon hp l (putT_canon hp h q.1 q.2)
theorem putsT_len (p : Int) : ∀ (l : List (E3 × Int)) (ts : List T4), (putsT p ts l).length ≤ ts.length + l.length
  | [], _ => Nat.le_refl _
  | q :: l, ts => by
    have h1 := putsT_len p l (putT p ts q.1 q.2)
    have h2 := putT_len p ts q.1 q.2
    show (putsT p (putT p ts q.1 q.2) l).length ≤ _
    rw [List.length_cons]
    omega
theorem putsT_coef {p : Int} (hp : 2 ≤ p) (e : E3) : ∀ (l : List (E3 × Int)) {ts : List T4}, Canon p ts → coefL (putsT p ts l) e = (coefL ts e + sumAt l e) % p
  | [], ts, h => by
    have := canon_bd hp h e
    show coefL ts e = (coefL ts e + 0) % p
    rw [Int.add_zero, Int.emod_eq_of_lt this.1 this.2]
  | q :: l, ts, h => by
    show coefL (putsT p (putT p ts q.1 q.2) l) e = _
    rw [putsT_coef hp e l (putT_canon hp h q.1 q.2), putT_coef h.1, sumAt_cons]
    by_cases g : e = q.1
    · rw [if_pos g, if_pos g.symm, g, Int.emod_add_emod]
      congr 1
      omega
    · rw [if_neg g, if_neg (fun x => g x.symm), Int.zero_add]
/-- The pairs of a list of terms, k times. -/
def pairsT (k : Int) (ts : List T4) : List (E3 × Int) := ts.map fun t => (t.e, k * t.v)
theorem pairs_len (k : Int) (ts : List T4) : (pairsT k ts).length = ts.length := by simp [pairsT]
theorem pairs_step (k : Int) {ts : List T4} {i : Nat} (h : i < ts.length) : pairsT k (ts.take (i + 1)) = pairsT k (ts.take i) ++ [((ts.getD i z4).e, k * (ts.getD i z4).v)] := by
  have e : ts.getD i z4 = ts[i] := by simp [List.getD_eq_getElem?_getD, h]
  rw [List.take_succ_eq_append_getElem h, e, pairsT, List.map_append]
  rfl
theorem sumAt_sort {e : E3} : ∀ {ts : List T4}, SortT ts → sumAt (pairsT 1 ts) e = coefL ts e
  | [], _ => rfl
  | t :: ts, h => by
    show sumAt ((t.e, 1 * t.v) :: pairsT 1 ts) e = _
    rw [sumAt_cons, sumAt_sort (List.pairwise_cons.1 h).2]
    by_cases g : t.e = e
    · rw [if_pos g, ← g, coef_head, coef_after h (.inr rfl)]
      omega
    · rw [if_neg g, coef_cons g]
      omega
end Go.Proofs.Ytneknpamceipiaa
/- PLAIN LAW of products, powers and derivatives of lists of terms; no condition. -/
set_option linter.unusedVariables false
namespace Go.Proofs.Ytneknpamceipiaa
def mulE (e f : E3) : E3 := ⟨e.a + f.a, e.b + f.b, e.c + f.c⟩
def rowP (a : T4) (ys : List T4) : List (E3 × Int) := ys.map fun b => (mulE a.e b.e, a.v * b.v)
def mulP : List T4 → List T4 → List (E3 × Int)
  | [], _ => []
  | a :: xs, ys => rowP a ys ++ mulP xs ys
def mulL (p : Int) (xs ys : List T4) : List T4 := putsT p [] (mulP xs ys)
theorem take_getD {xs : List T4} {i : Nat} (h : i < xs.length) : xs.take (i + 1) = xs.take i ++ [xs.getD i z4] := by
  rw [List.take_succ_eq_append_getElem h]
  simp [List.getD_eq_getElem?_getD, h]
theorem mulP_append : ∀ (xs xs' ys : List T4), mulP (xs ++ xs') ys = mulP xs ys ++ mulP xs' ys
  | [], _, _ => rfl
  | a :: xs, xs', ys => by
    show rowP a ys ++ mulP (xs ++ xs') ys = _
    rw [mulP_append xs xs' ys, ← List.append_assoc]
    rfl
theorem mulP_step {xs ys : List T4} {i : Nat} (h : i < xs.length) : mulP (xs.take (i + 1)) ys = mulP (xs.take i) ys ++ rowP (xs.getD i z4) ys := by
  rw [take_getD h, mulP_append]
  simp [mulP]
theorem rowP_step {a : T4} {ys : List T4} {k : Nat} (h : k < ys.length) : rowP a (ys.take (k + 1)) = rowP a (ys.take k) ++ [(mulE a.e (ys.getD k z4).e, a.v * (ys.getD k z4).v)] := by
  rw [take_getD h]
  simp [rowP]
theorem rowP_len (a : T4) (ys : List T4) : (rowP a ys).length = ys.length := by simp [rowP]
theorem mulP_len : ∀ (xs ys : List T4), (mulP xs ys).length = xs.length * ys.length
  | [], ys => by simp [mulP]
  | a :: xs, ys => by simp [mulP, rowP_len, mulP_len xs ys, Nat.add_mul]; omega
theorem mulP_nil (xs : List T4) : mulP xs [] = [] := by
  induction xs with
  | nil => rfl
  | cons a xs ih => simp [mulP, rowP, ih]
theorem mulL_canon {p : Int} (hp : 2 ≤ p) (xs ys : List T4) : Canon p (mulL p xs ys) := putsT_canon hp _ (canon_nil p)
theorem putT_mem {p : Int} {ts : List T4} {e : E3} {v : Int} {t : T4} (h : t ∈ putT p ts e v) : t.e = e ∨ t ∈ ts := by
  rcases putGo_mem h with ⟨rfl, _⟩ | h
  · exact .inl rfl
  · exact .inr h
theorem putsT_mem {p : Int} {t : T4} : ∀ (l : List (E3 × Int)) {ts : List T4}, t ∈ putsT p ts l → (∃ q ∈ l, t.e = q.1) ∨ t ∈ ts
  | [], _, h => .inr h
  | q :: l, ts, h => by
    rcases putsT_mem l (ts := putT p ts q.1 q.2) h with ⟨r, hr, h⟩ | h
    · exact .inl ⟨r, by simp [hr], h⟩
    · rcases putT_mem h with h | h
      · exact .inl ⟨q, by simp, h⟩
      · exact .inr h
theorem mulP_mem {q : E3 × Int} : ∀ {xs ys : List T4}, q ∈ mulP xs ys → ∃ a ∈ xs, ∃ b ∈ ys, q = (mulE a.e b.e, a.v * b.v)
  | [], _, h => by cases h
  | a :: xs, ys, h => by
    rcases List.mem_append.1 (show q ∈ rowP a ys ++ mulP xs ys from h) with h | h
    · obtain ⟨b, hb, rfl⟩ := List.mem_map.1 h
      exact ⟨a, by simp, b, hb, rfl⟩
    · obtain ⟨a', ha, b, hb, e⟩ := mulP_mem h
      exact ⟨a', by simp [ha], b, hb, e⟩
theorem degE_mul (e f : E3) : degE (mulE e f) ≤ degE e + degE f := by
  show ((e.a + f.a).toNat : Int) + (e.b + f.b).toNat + (e.c + f.c).toNat ≤ ((e.a.toNat : Int) + e.b.toNat + e.c.toNat) + ((f.a.toNat : Int) + f.b.toNat + f.c.toNat)
  have h1 := UInt8.toNat_add e.a f.a
  have h2 := UInt8.toNat_add e.b f.b
  have h3 := UInt8.toNat_add e.c f.c
  omega
theorem degP_mem {ts : List T4} (h : SortT ts) {t : T4} (ht : t ∈ ts) : degE t.e ≤ degP ts := by
  obtain ⟨i, hi, rfl⟩ := List.getElem_of_mem ht
  have hne : ¬ ts.length = 0 := by omega
  unfold degP
  rw [if_neg hne]
  have : ts.getD (ts.length - 1) z4 = ts[ts.length - 1] := by simp [List.getD_eq_getElem?_getD, show ts.length - 1 < ts.length by omega]
  rw [this]
  by_cases hl : i = ts.length - 1
  · subst hl
    exact Int.le_refl _
  · have := List.pairwise_iff_getElem.1 h i (ts.length - 1) hi (by omega) (by omega)
    rw [cmpE_lt] at this
    omega
theorem degP_le {ts : List T4} {n : Int} (hn : -1 ≤ n) (h : ∀ t ∈ ts, degE t.e ≤ n) : degP ts ≤ n := by
  unfold degP
  split
  · exact hn
  · rename_i hne
    have : ts.getD (ts.length - 1) z4 = ts[ts.length - 1] := by simp [List.getD_eq_getElem?_getD, show ts.length - 1 < ts.length by omega]
    rw [this]
    exact h _ (List.getElem_mem _)
theorem degP_pos {ts : List T4} (h : ts ≠ []) : 0 ≤ degP ts := by
  unfold degP
  rw [if_neg (by simpa using h)]
  exact (degE_bd _).1
theorem mulL_deg {p : Int} {xs ys : List T4} (hx : SortT xs) (hy : SortT ys) (n : Int) (hn : -1 ≤ n) (h : xs ≠ [] → ys ≠ [] → degP xs + degP ys ≤ n) : degP (mulL p xs ys) ≤ n := by
  refine degP_le hn fun t ht => ?_
  rcases putsT_mem _ ht with ⟨q, hq, e⟩ | h'
  · obtain ⟨a, ha, b, hb, rfl⟩ := mulP_mem hq
    have h1 := degP_mem hx ha
    have h2 := degP_mem hy hb
    have h3 := degE_mul a.e b.e
    have h4 := h (List.ne_nil_of_mem ha) (List.ne_nil_of_mem hb)
    rw [e]
    show degE (mulE a.e b.e) ≤ n
    omega
  · cases h'
def oneL (p : Int) : List T4 := putT p [] z3 1
def powL (p : Int) (x : List T4) : Nat → List T4
  | 0 => oneL p
  | k + 1 => mulL p (powL p x k) x
theorem oneL_canon {p : Int} (hp : 2 ≤ p) : Canon p (oneL p) := putT_canon hp (canon_nil p) _ _
theorem powL_canon {p : Int} (hp : 2 ≤ p) (x : List T4) : ∀ k, Canon p (powL p x k)
  | 0 => oneL_canon hp
  | k + 1 => mulL_canon hp _ _
theorem oneL_deg (p : Int) : degP (oneL p) ≤ 0 := by
  refine degP_le (by omega) fun t ht => ?_
  rcases putT_mem ht with h | h
  · rw [h]; decide
  · cases h
theorem powL_deg {p : Int} (hp : 2 ≤ p) {x : List T4} (hx : SortT x) : ∀ k : Nat, degP (powL p x k) ≤ k * max (degP x) 0
  | 0 => by
    have := oneL_deg p
    simpa [powL] using this
  | k + 1 => by
    have h1 := powL_deg hp hx k
    refine mulL_deg (powL_canon hp x k).1 hx _ ?_ fun _ h => ?_
    · have : 0 ≤ ((k + 1 : Nat) : Int) * max (degP x) 0 := Int.mul_nonneg (by omega) (by omega)
      omega
    · have h2 := degP_pos h
      rw [Int.natCast_succ, Int.add_mul]
      omega
end Go.Proofs.Ytneknpamceipiaa
/- The walk of the reference's l01Put; no condition. -/
set_option linter.unusedVariables false
set_option linter.unusedSimpArgs false
namespace Go.Proofs.Ytneknpamceipiaa
open Go.RowKit Go.Proofs.YtneknpamceipiaaW.PrintWords
attribute [local go_sem] Later.cell Later.frozen Later.lt Later.lt_add Later.le Later.le_add Later.ne Later.ne' add_at
attribute [local go_sem 2000] run_neE
theorem putGo_step (e : E3) (v : Int) (ts : List T4) (i : Nat) (h : i < ts.length) (d : Bool) : putGo e v (ts.drop i) d = (if !d && befE e (ts.getD i z4).e then [⟨e, v⟩] else []) ++ (if (ts.getD i z4).e != e then [ts.getD i z4] else []) ++ putGo e v (ts.drop (i + 1)) (d || befE e (ts.getD i z4).e) := by
  rw [List.drop_eq_getElem_cons h]
  have : ts[i] = ts.getD i z4 := by simp [List.getD_eq_getElem?_getD, h]
  rw [this, putGo]
set_option maxRecDepth 100000 in
set_option maxHeartbeats 4000000 in
theorem l01Put_c (p d : Int) (A : Option Addr) (c : Nat) (ts : List T4) (e : E3) (v : Int) (w : World) (hC : kT.C w A ts.length ts) (hn : ts.length ≤ 4194304) (hp : 2 ≤ p) (hp' : p ≤ 13) (hv0 : -1000000 ≤ v) (hv1 : v ≤ 1000000)
    (hcb : 0 ≤ coefL ts e ∧ coefL ts e < p) :
    Calls Try.prog 143 #[.agg #[.int .i64 p, .int .i64 d, .slice A ts.length c], .agg #[.int .u8 (e.a.toNat : Int), .int .u8 (e.b.toNat : Int), .int .u8 (e.c.toNat : Int)], .int .i64 v] w (MakesP p d 121 (putT p ts e v) w) := by
  have hn9 : ts.length ≤ 9223372036854775807 := by omega
  have HL := Lib.hid (putT_len p ts e v)
  have hput : putT p ts e v = putGo e ((v + coefL ts e) % p) ts ((v + coefL ts e) % p == 0) := rfl
  have HPUT := Lib.hid hput
  clear hput
  have hmodb := mod_bd (v + coefL ts e) hp
  generalize putT p ts e v = out at *
  have hC1 := Kd.C_alloc (Kd.C_alloc hC (.cells #[.int .i64 p, .int .i64 d, .slice A ts.length c] 45)) (.cells #[.int .u8 (e.a.toNat : Int), .int .u8 (e.b.toNat : Int), .int .u8 (e.c.toNat : Int)] 119)
  go_enter Try.func143, Try.ntmps143
  go_wp2_with (go_at_call 96; (with_reducible refine call_makesP (l01Empty_c _ _ _) ?_); intro x A1 c1 hb1 hl1 hR1 hC1')
  have hx0 : Below ((w.alloc (.cells #[.int .i64 p, .int .i64 d, .slice A ts.length c] 45)).alloc (.cells #[.int .u8 (e.a.toNat : Int), .int .u8 (e.b.toNat : Int), .int .u8 (e.c.toNat : Int)] 119)).heap.size ((w.alloc (.cells #[.int .i64 p, .int .i64 d, .slice A ts.length c] 45)).alloc (.cells #[.int .u8 (e.a.toNat : Int), .int .u8 (e.b.toNat : Int), .int .u8 (e.c.toNat : Int)] 119)) x.W := (below_alloc2 _ (.cells #[.int .i64 0, .int .i64 0, .slice none 0 0] 45)).trans (x.ok.mono (by simp))
  have hsz := x.ok.size
  simp at hsz
  have z0 : x.W.cell? ⟨w.heap.size + 1 + 1, 0, none⟩ = some (.int .i64 0) := x.keep (by first | (simp; done) | (simp [go_sem]; done) | go_simp)
  have z1 : x.W.cell? ⟨w.heap.size + 1 + 1, 1, none⟩ = some (.int .i64 0) := x.keep (by first | (simp; done) | (simp [go_sem]; done) | go_simp)
  have z2 : x.W.cell? ⟨w.heap.size + 1 + 1, 2, none⟩ = some (.slice none 0 0) := x.keep (by first | (simp; done) | (simp [go_sem]; done) | go_simp)
  have z3 : ∀ j, x.W.frozen? ⟨w.heap.size + 1 + 1, j, none⟩ = false := fun j => (x.ok.frozen (p := ⟨w.heap.size + 1 + 1, j, none⟩) (by simp)).trans (by first | (simp; done) | (simp [go_sem]; done) | go_simp)
  have acc0 : AccK kT ((w.alloc (.cells #[.int .i64 p, .int .i64 d, .slice A ts.length c] 45)).alloc (.cells #[.int .u8 (e.a.toNat : Int), .int .u8 (e.b.toNat : Int), .int .u8 (e.c.toNat : Int)] 119)) x.W.heap.size (w.heap.size + 1 + 1) p d 121 (x.W.alloc (.cells #[.int .i64 p, .int .i64 d, .slice A1 ([] : List T4).length c1] 45)) A1 c1 [] :=
    AccK.start hx0 (Kd.R_lower hR1 (by simp)) (by simp) (by simp; omega) z0 z1 z2 z3
  have t0 : ((w.alloc (.cells #[.int .i64 p, .int .i64 d, .slice A ts.length c] 45)).alloc (.cells #[.int .u8 (e.a.toNat : Int), .int .u8 (e.b.toNat : Int), .int .u8 (e.c.toNat : Int)] 119)).cell? ⟨w.heap.size, 0, none⟩ = some (.int .i64 p) := by simp
  have t1 : ((w.alloc (.cells #[.int .i64 p, .int .i64 d, .slice A ts.length c] 45)).alloc (.cells #[.int .u8 (e.a.toNat : Int), .int .u8 (e.b.toNat : Int), .int .u8 (e.c.toNat : Int)] 119)).cell? ⟨w.heap.size, 1, none⟩ = some (.int .i64 d) := by simp
  have t2 : ((w.alloc (.cells #[.int .i64 p, .int .i64 d, .slice A ts.length c] 45)).alloc (.cells #[.int .u8 (e.a.toNat : Int), .int .u8 (e.b.toNat : Int), .int .u8 (e.c.toNat : Int)] 119)).cell? ⟨w.heap.size, 2, none⟩ = some (.slice A ts.length c) := by simp
  have s0 : ((w.alloc (.cells #[.int .i64 p, .int .i64 d, .slice A ts.length c] 45)).alloc (.cells #[.int .u8 (e.a.toNat : Int), .int .u8 (e.b.toNat : Int), .int .u8 (e.c.toNat : Int)] 119)).cell? ⟨w.heap.size + 1, 0, none⟩ = some (.int .u8 (e.a.toNat : Int)) := by simp
  have s1 : ((w.alloc (.cells #[.int .i64 p, .int .i64 d, .slice A ts.length c] 45)).alloc (.cells #[.int .u8 (e.a.toNat : Int), .int .u8 (e.b.toNat : Int), .int .u8 (e.c.toNat : Int)] 119)).cell? ⟨w.heap.size + 1, 1, none⟩ = some (.int .u8 (e.b.toNat : Int)) := by simp
  have s2 : ((w.alloc (.cells #[.int .i64 p, .int .i64 d, .slice A ts.length c] 45)).alloc (.cells #[.int .u8 (e.a.toNat : Int), .int .u8 (e.b.toNat : Int), .int .u8 (e.c.toNat : Int)] 119)).cell? ⟨w.heap.size + 1, 2, none⟩ = some (.int .u8 (e.c.toNat : Int)) := by simp
  have hbw : Below w.heap.size w ((w.alloc (.cells #[.int .i64 p, .int .i64 d, .slice A ts.length c] 45)).alloc (.cells #[.int .u8 (e.a.toNat : Int), .int .u8 (e.b.toNat : Int), .int .u8 (e.c.toNat : Int)] 119)) := (by repeat (first | (with_reducible assumption) | (with_reducible exact Below.refl _ _) | (with_reducible refine Below.drew ?_) | (with_reducible refine pw_below_drewN ?_ _) | ((first | (with_reducible refine Below.alloc ?_ ?_ _) | (with_reducible refine Below.setCell ?_ ?_ _) | (with_reducible refine below_hop (by assumption) ?_ ?_)); rotate_left; (focus (first | omega | (simp; first | done | omega) | (simp [Later.le, Later.le_add, Later.lt, Later.lt_add]; first | done | omega)))) | ((with_reducible refine bel_later _ ?_ ?_); rotate_left; (focus (first | omega | (simp; first | done | omega) | (simp [Later.le, Later.le_add, Later.lt, Later.lt_add]; first | done | omega))))))
  have hz0 : ((w.alloc (.cells #[.int .i64 p, .int .i64 d, .slice A ts.length c] 45)).alloc (.cells #[.int .u8 (e.a.toNat : Int), .int .u8 (e.b.toNat : Int), .int .u8 (e.c.toNat : Int)] 119)).heap.size = w.heap.size + 2 := by simp
  clear hx0 hR1 hC1' hb1 hl1 z0 z1 z2 z3
  generalize (x.W.alloc (.cells #[.int .i64 p, .int .i64 d, .slice A1 ([] : List T4).length c1] 45)) = V at *
  generalize x.W.heap.size = ob at *
  generalize hrb : w.heap.size + 1 + 1 = rb at *
  generalize heb : w.heap.size + 1 = eb at *
  generalize hxb : w.heap.size = xb at *
  generalize ((w.alloc (.cells #[.int .i64 p, .int .i64 d, .slice A ts.length c] 45)).alloc (.cells #[.int .u8 (e.a.toNat : Int), .int .u8 (e.b.toNat : Int), .int .u8 (e.c.toNat : Int)] 119)) = W0 at *
  have u0 := pw_cell_below acc0.bel t0
  have u1 := pw_cell_below acc0.bel t1
  have u2 := pw_cell_below acc0.bel t2
  have y0 := pw_cell_below acc0.bel s0
  have y1 := pw_cell_below acc0.bel s1
  have y2 := pw_cell_below acc0.bel s2
  have hzx := World.block_lt_of_cell? _ _ u0
  have hze := World.block_lt_of_cell? _ _ y0
  have hzr := acc0.lr
  simp only [] at hzx hze
  have hCV := Kd.C_below hC1 acc0.bel
  have hA := fun (x : Later V) => l01At_c p d A c ts e x.W (Kd.C_below hCV x.ok) hn9
  have hM := fun W => mod_gS (p := p) (x := v + coefL ts e) hp hp' W
  have hwr : IntKind.i64.wrap (v + coefL ts e) = v + coefL ts e := i64_small (by omega) (by omega)
  generalize coefL ts e = q at *
  (first | refine wp_region_later2 (by kernel_rfl) (by kernel_rfl) ?_ | refine wp_region_later (by kernel_rfl) (by kernel_rfl) ?_); (repeat (go_big_quiet_step (first | (go_at_call 174; with_reducible exact quiet_later (hA _)) | (go_at_call 132; with_reducible exact quiet_later (hM _))))); refine wpQuiet_nil ?_; intro x2
  have acc1 := acc0.below x2.ok
  clear u0 u1 u2 y0 y1 y2 hzx hze hzr hCV hA hM acc0
  generalize x2.W = V2 at *
  have hu := hmodb
  generalize (v + q) % p = u at *
  clear hmodb
  go_wp2
  go_loopg [8, 9] ts.length (fun k v8 v9 w' => ∃ (i : Nat) (dn : Bool) (xs : List T4) (B : Option Addr) (cb : Nat), i + k = ts.length ∧ v8 = .bool dn ∧ v9 = .int .i64 i ∧ AccK kT W0 ob rb p d 121 w' B cb xs ∧ xs ++ putGo e u (ts.drop i) dn = out)
  case atStart => exact ⟨0, u == 0, [], A1, c1, by omega, rfl, rfl, acc1, HPUT.out.symm⟩
  case round =>
    clear acc1 HPUT
    obtain ⟨i, dn, xs, B, cb, hik, rfl, rfl, acc, hpre⟩ := hrel
    have HIK := Lib.hid hik
    have hpl : xs.length ≤ 4194305 := by
      have h1 := congrArg List.length hpre
      rw [List.length_append] at h1
      have := HL.out
      omega
    have HPL := Lib.hid hpl
    have HPRE := Lib.hid hpre
    clear hik hpre hpl
    have a0 := pw_cell_below acc.bel t0
    have a1 := pw_cell_below acc.bel t1
    have a2 := pw_cell_below acc.bel t2
    have b0 := pw_cell_below acc.bel s0
    have b1 := pw_cell_below acc.bel s1
    have b2 := pw_cell_below acc.bel s2
    have zx := World.block_lt_of_cell? _ _ a0
    have ze := World.block_lt_of_cell? _ _ b0
    simp only [] at zx ze
    by_cases hlt : i < ts.length
    · obtain ⟨bb, oo, hA, q0, q1, q2, q3⟩ := kT_at hC1 i hlt z4
      subst hA
      have q0 := pw_cell_below acc.bel q0
      have q1 := pw_cell_below acc.bel q1
      have q2 := pw_cell_below acc.bel q2
      have q3 := pw_cell_below acc.bel q3
      have zb := World.block_lt_of_cell? _ _ q0
      simp only [] at zb
      have hi0 : (0 : Int) ≤ i := by omega
      have hi1 : (i : Int) < ts.length := by omega
      have hin : ((i : Int)).toNat = i := by omega
      have hst := putGo_step e u ts i hlt dn
      generalize ts.getD i z4 = t at *
      have HST := Lib.hid hst
      clear hst
      have ACC := Lib.hid (acc.alloc (.cells #[.int .u8 (t.e.a.toNat : Int), .int .u8 (t.e.b.toNat : Int), .int .u8 (t.e.c.toNat : Int), .int .i64 t.v] 121))
      have hnw : some wr.heap.size ≠ (Value.slice B xs.length cb).ownBlock := fun h => by have := (Kd.R_bound acc.R).1 _ h.symm; have := this.2.2.1; omega
      have hne : some eb ≠ (Value.slice B xs.length cb).ownBlock := fun h => by have := Kd.R_base acc.R _ h.symm; omega
      have hnx : some xb ≠ (Value.slice B xs.length cb).ownBlock := fun h => by have := Kd.R_base acc.R _ h.symm; omega
      have hxs1 : ∀ m : T4, (xs ++ [m]).length = xs.length + 1 := fun m => by simp
      have hxs2 : ∀ m m' : T4, (xs ++ [m] ++ [m']).length = xs.length + 1 + 1 := fun m m' => by simp
      have zlo := acc.lo
      have zlr := acc.lr
      have n0 : (wr.alloc (.cells #[.int .u8 (t.e.a.toNat : Int), .int .u8 (t.e.b.toNat : Int), .int .u8 (t.e.c.toNat : Int), .int .i64 t.v] 121)).cell? ⟨wr.heap.size, 0, none⟩ = some (.int .u8 (t.e.a.toNat : Int)) := by simp
      have n1 : (wr.alloc (.cells #[.int .u8 (t.e.a.toNat : Int), .int .u8 (t.e.b.toNat : Int), .int .u8 (t.e.c.toNat : Int), .int .i64 t.v] 121)).cell? ⟨wr.heap.size, 1, none⟩ = some (.int .u8 (t.e.b.toNat : Int)) := by simp
      have n2 : (wr.alloc (.cells #[.int .u8 (t.e.a.toNat : Int), .int .u8 (t.e.b.toNat : Int), .int .u8 (t.e.c.toNat : Int), .int .i64 t.v] 121)).cell? ⟨wr.heap.size, 2, none⟩ = some (.int .u8 (t.e.c.toNat : Int)) := by simp
      have n3 : (wr.alloc (.cells #[.int .u8 (t.e.a.toNat : Int), .int .u8 (t.e.b.toNat : Int), .int .u8 (t.e.c.toNat : Int), .int .i64 t.v] 121)).cell? ⟨wr.heap.size, 3, none⟩ = some (.int .i64 t.v) := by simp
      have ca0 := cell_alloc a0 (.cells #[.int .u8 (t.e.a.toNat : Int), .int .u8 (t.e.b.toNat : Int), .int .u8 (t.e.c.toNat : Int), .int .i64 t.v] 121)
      have ca1 := cell_alloc a1 (.cells #[.int .u8 (t.e.a.toNat : Int), .int .u8 (t.e.b.toNat : Int), .int .u8 (t.e.c.toNat : Int), .int .i64 t.v] 121)
      have ca2 := cell_alloc a2 (.cells #[.int .u8 (t.e.a.toNat : Int), .int .u8 (t.e.b.toNat : Int), .int .u8 (t.e.c.toNat : Int), .int .i64 t.v] 121)
      have cb0 := cell_alloc b0 (.cells #[.int .u8 (t.e.a.toNat : Int), .int .u8 (t.e.b.toNat : Int), .int .u8 (t.e.c.toNat : Int), .int .i64 t.v] 121)
      have cb1 := cell_alloc b1 (.cells #[.int .u8 (t.e.a.toNat : Int), .int .u8 (t.e.b.toNat : Int), .int .u8 (t.e.c.toNat : Int), .int .i64 t.v] 121)
      have cb2 := cell_alloc b2 (.cells #[.int .u8 (t.e.a.toNat : Int), .int .u8 (t.e.b.toNat : Int), .int .u8 (t.e.c.toNat : Int), .int .i64 t.v] 121)
      clear acc
      cases hte : (t.e != e) with
      | true =>
        cases hdb : (!dn && befE e t.e) with
        | true =>
          have hdn : dn = false := by cases dn <;> simp_all
          have hbe : befE e t.e = true := by cases dn <;> simp_all
          subst hdn
          go_wp2_with (first | ((go_at_call 95; (first | (with_reducible refine call_later3 (l01Before_c e t.e _) ?_) | (with_reducible refine call_later4 (l01Before_c e t.e _) ?_)); intro x5 hb5); have acc5 := ACC.out.below hb5; have p2 := acc5.o2; have p3 := acc5.o3 2; replace n0 := pw_cell_below hb5 n0; replace n1 := pw_cell_below hb5 n1; replace n2 := pw_cell_below hb5 n2; replace n3 := pw_cell_below hb5 n3; replace cb0 := pw_cell_below hb5 cb0; replace cb1 := pw_cell_below hb5 cb1; replace cb2 := pw_cell_below hb5 cb2; replace ca0 := pw_cell_below hb5 ca0; have zlo := acc5.lo; have ACC5 := Lib.hid acc5; clear acc5) | (((with_reducible refine gate_ (.call { callee := .builtin .append, args := #[.tmp 47, .tmp 51], argTypes := #[43, 43] }) rfl ?_); refine Kd.R_append kT (w0 := x5.W) (W := x5.W) W0.heap.size rfl (.tmp 47) (.tmp 51) 43 121 (.agg #[.int .u8 0, .int .u8 0, .int .u8 0, .int .i64 0]) 16 rfl Try.underlying43 infoT rfl (by decide) (by decide) (.slice B xs.length cb) xs (⟨e, u⟩ : T4) ((⟨e, u⟩ : T4)).cs (fun k => k ≠ ob ∧ k ≠ rb) (fun _ => False) rfl (by first | rfl | (rw [World.size_setCell]; rfl) | (rw [World.size_alloc]; rfl)) rfl (fun _ hk => hk.elim) (fun k hk => ⟨by have := (ACC5).out.lo; omega, by have := (ACC5).out.lr; omega⟩) ACC5.out.R (Below.refl _ _) (ACC5).out.bel.size (by have := HPL.out; simp; omega) ?_); intro v1 w1 hR6 hB6 hg6 hat6; obtain ⟨B6, c6, rfl, hl6, hC6⟩ := Kd.R_reads hR6; clear hat6 hC6; rw [hxs1] at *; have acc6 := ACC5.out.put2 hR6 hB6 hg6 rfl; have hR7 := acc6.R2 (hxs1 _); have zz2 := acc6.own2 (hxs1 _); have ACC6 := Lib.hid acc6; clear acc6; have p2 := far_cell hg6 p2 ACC5.out.own; have p3 := far_frozen hg6 p3 zlo ACC5.out.own; replace n0 := far_cell hg6 n0 hnw; replace n1 := far_cell hg6 n1 hnw; replace n2 := far_cell hg6 n2 hnw; replace n3 := far_cell hg6 n3 hnw; replace cb0 := far_cell hg6 cb0 hne; replace cb1 := far_cell hg6 cb1 hne; replace cb2 := far_cell hg6 cb2 hne) | (((with_reducible refine gate_ (.call { callee := .builtin .append, args := #[.tmp 59, .tmp 61], argTypes := #[43, 43] }) rfl ?_); refine Kd.R_append kT (w0 := (w1.setCell ⟨ob, 2, none⟩ (.slice B6 (xs.length + 1) c6))) (W := (w1.setCell ⟨ob, 2, none⟩ (.slice B6 (xs.length + 1) c6))) W0.heap.size rfl (.tmp 59) (.tmp 61) 43 121 (.agg #[.int .u8 0, .int .u8 0, .int .u8 0, .int .i64 0]) 16 rfl Try.underlying43 infoT rfl (by decide) (by decide) (.slice B6 (xs.length + 1) c6) (xs ++ [⟨e, u⟩]) t (t).cs (fun k => k ≠ ob ∧ k ≠ rb) (fun _ => False) rfl (by first | rfl | (rw [World.size_setCell]; rfl) | (rw [World.size_alloc]; rfl)) rfl (fun _ hk => hk.elim) (fun k hk => ⟨by have := (ACC6).out.lo; omega, by have := (ACC6).out.lr; omega⟩) hR7 (Below.refl _ _) (ACC6).out.bel.size (by have := HPL.out; simp; omega) ?_); intro v8 w8 hR8 hB8 hg8 hat8; obtain ⟨B8, c8, rfl, hl8, hC8⟩ := Kd.R_reads hR8; clear hat8 hC8; rw [hxs2] at *; have p4 := ACC6.out.o22 (hxs1 _); have p5 := ACC6.out.o3 2; replace p4 := far_cell hg8 p4 zz2; replace p5 := far_frozen hg8 p5 ACC6.out.lo zz2))
          go_roundg (ts.length - i - 1)
          case measure => have := HIK.out; omega
          case rel =>
            refine ⟨i + 1, true, xs ++ [⟨e, u⟩] ++ [t], B8, c8, by have := HIK.out; omega, rfl, by go_num, ACC6.out.put2 hR8 hB8 (by rw [hxs1]; exact hg8) (by rw [hxs1]), ?_⟩
            rw [← HPRE.out, HST.out, hdb, hte, hbe]
            simp
        | false =>
          cases dn with
          | true =>
            have p2 := ACC.out.o2
            have p3 := ACC.out.o3 2
            go_wp2_with (((with_reducible refine gate_ (.call { callee := .builtin .append, args := #[.tmp 59, .tmp 61], argTypes := #[43, 43] }) rfl ?_); refine Kd.R_append kT (w0 := (wr.alloc (.cells #[.int .u8 (t.e.a.toNat : Int), .int .u8 (t.e.b.toNat : Int), .int .u8 (t.e.c.toNat : Int), .int .i64 t.v] 121))) (W := (wr.alloc (.cells #[.int .u8 (t.e.a.toNat : Int), .int .u8 (t.e.b.toNat : Int), .int .u8 (t.e.c.toNat : Int), .int .i64 t.v] 121))) W0.heap.size rfl (.tmp 59) (.tmp 61) 43 121 (.agg #[.int .u8 0, .int .u8 0, .int .u8 0, .int .i64 0]) 16 rfl Try.underlying43 infoT rfl (by decide) (by decide) (.slice B xs.length cb) xs t (t).cs (fun k => k ≠ ob ∧ k ≠ rb) (fun _ => False) rfl (by first | rfl | (rw [World.size_setCell]; rfl) | (rw [World.size_alloc]; rfl)) rfl (fun _ hk => hk.elim) (fun k hk => ⟨by have := (ACC).out.lo; omega, by have := (ACC).out.lr; omega⟩) ACC.out.R (Below.refl _ _) (ACC).out.bel.size (by have := HPL.out; simp; omega) ?_); intro v8 w8 hR8 hB8 hg8 hat8; obtain ⟨B8, c8, rfl, hl8, hC8⟩ := Kd.R_reads hR8; clear hat8 hC8; rw [hxs1] at *; have p4 := ACC.out.o2; have p5 := ACC.out.o3 2; replace p4 := far_cell hg8 p4 ACC.out.own; replace p5 := far_frozen hg8 p5 ACC.out.lo ACC.out.own)
            go_roundg (ts.length - i - 1)
            case measure => have := HIK.out; omega
            case rel =>
              refine ⟨i + 1, true, xs ++ [t], B8, c8, by have := HIK.out; omega, rfl, by go_num, ACC.out.put2 hR8 hB8 hg8 rfl, ?_⟩
              rw [← HPRE.out, HST.out, hte]
              simp
          | false =>
            have hbe : befE e t.e = false := by simpa using hdb
            go_wp2_with (first | ((go_at_call 95; (first | (with_reducible refine call_later3 (l01Before_c e t.e _) ?_) | (with_reducible refine call_later4 (l01Before_c e t.e _) ?_)); intro x5 hb5); have acc5 := ACC.out.below hb5; have p2 := acc5.o2; have p3 := acc5.o3 2; replace n0 := pw_cell_below hb5 n0; replace n1 := pw_cell_below hb5 n1; replace n2 := pw_cell_below hb5 n2; replace n3 := pw_cell_below hb5 n3; replace cb0 := pw_cell_below hb5 cb0; replace cb1 := pw_cell_below hb5 cb1; replace cb2 := pw_cell_below hb5 cb2; have zlo := acc5.lo; have ACC5 := Lib.hid acc5; clear acc5) | (((with_reducible refine gate_ (.call { callee := .builtin .append, args := #[.tmp 59, .tmp 61], argTypes := #[43, 43] }) rfl ?_); refine Kd.R_append kT (w0 := x5.W) (W := x5.W) W0.heap.size rfl (.tmp 59) (.tmp 61) 43 121 (.agg #[.int .u8 0, .int .u8 0, .int .u8 0, .int .i64 0]) 16 rfl Try.underlying43 infoT rfl (by decide) (by decide) (.slice B xs.length cb) xs t (t).cs (fun k => k ≠ ob ∧ k ≠ rb) (fun _ => False) rfl (by first | rfl | (rw [World.size_setCell]; rfl) | (rw [World.size_alloc]; rfl)) rfl (fun _ hk => hk.elim) (fun k hk => ⟨by have := (ACC5).out.lo; omega, by have := (ACC5).out.lr; omega⟩) ACC5.out.R (Below.refl _ _) (ACC5).out.bel.size (by have := HPL.out; simp; omega) ?_); intro v8 w8 hR8 hB8 hg8 hat8; obtain ⟨B8, c8, rfl, hl8, hC8⟩ := Kd.R_reads hR8; clear hat8 hC8; rw [hxs1] at *; have p4 := ACC5.out.o2; have p5 := ACC5.out.o3 2; replace p4 := far_cell hg8 p4 ACC5.out.own; replace p5 := far_frozen hg8 p5 ACC5.out.lo ACC5.out.own))
            go_roundg (ts.length - i - 1)
            case measure => have := HIK.out; omega
            case rel =>
              refine ⟨i + 1, false, xs ++ [t], B8, c8, by have := HIK.out; omega, rfl, by go_num, ACC5.out.put2 hR8 hB8 hg8 rfl, ?_⟩
              rw [← HPRE.out, HST.out, hte]
              simp [hbe]
      | false =>
        have hee : t.e = e := by simpa using hte
        have hbe : befE e t.e = false := by
          rw [← Bool.not_eq_true, befE_true, hee]
          exact cmpE_irrefl _
        have HEE := Lib.hid hee
        clear hee
        cases dn with
        | true =>
          go_wp2
          go_roundg (ts.length - i - 1)
          case measure => have := HIK.out; omega
          case rel =>
            refine ⟨i + 1, true, xs, B, cb, by have := HIK.out; omega, rfl, by go_num, ACC.out, ?_⟩
            rw [← HPRE.out, HST.out, hte]
            simp
        | false =>
          go_wp2_with ((go_at_call 95; (first | (with_reducible refine call_later3 (l01Before_c e t.e _) ?_) | (with_reducible refine call_later4 (l01Before_c e t.e _) ?_)); intro x5 hb5); have acc5 := ACC.out.below hb5; have p2 := acc5.o2; have p3 := acc5.o3 2; replace n0 := pw_cell_below hb5 n0; replace n1 := pw_cell_below hb5 n1; replace n2 := pw_cell_below hb5 n2; replace n3 := pw_cell_below hb5 n3; replace cb0 := pw_cell_below hb5 cb0; replace cb1 := pw_cell_below hb5 cb1; replace cb2 := pw_cell_below hb5 cb2; have zlo := acc5.lo; have ACC5 := Lib.hid acc5; clear acc5)
          go_roundg (ts.length - i - 1)
          case measure => have := HIK.out; omega
          case rel =>
            refine ⟨i + 1, false, xs, B, cb, by have := HIK.out; omega, rfl, by go_num, ACC.out.below hb5, ?_⟩
            rw [← HPRE.out, HST.out, hte]
            simp [hbe]
    · have hie : i = ts.length := by have := HIK.out; omega
      subst hie
      have hout := HPRE.out
      rw [List.drop_length] at hout
      have r0 := acc.r0
      have r1 := acc.r1
      have r2 := acc.r2
      have r3 := acc.r3 0
      have r4 := acc.r3 1
      have r5 := acc.r3 2
      have o0 := acc.o0
      have o1 := acc.o1
      have o2 := acc.o2
      have o3 := acc.o3 2
      have zlo := acc.lo
      have zlr := acc.lr
      have hne' := acc.hne
      have hrb' := acc.hrb
      have bel := acc.bel
      have hR := acc.R
      have hxs1 : ∀ m : T4, (xs ++ [m]).length = xs.length + 1 := fun m => by simp
      have hne : some eb ≠ (Value.slice B xs.length cb).ownBlock := fun h => by have := Kd.R_base acc.R _ h.symm; omega
      have ACC := Lib.hid acc
      clear acc
      cases dn with
      | true =>
        have hout : xs = out := by simpa [putGo] using hout
        subst hout
        clear HPRE
        go_wp2
        refine bodyPost_ret (v := .agg #[.int .i64 p, .int .i64 d, .slice B xs.length cb]) (by simp [results, Try.results143, go_sem, r0, r1, r2]) rfl ⟨B, cb, rfl, ?_, ?_⟩
        · exact Kd.R_mono (Kd.R_lower (Kd.R_far (Kd.R_far (Kd.R_far hR (fun k hk => hk.2) _) (fun k hk => hk.2) _) (fun k hk => hk.2) _) (by omega)) (fun _ _ => trivial)
        · rw [hxb]
          exact hbw.trans ((below_set3 bel hrb' _ _ _).mono (by omega))
      | false =>
        have hout : xs ++ [⟨e, u⟩] = out := by simpa [putGo] using hout
        clear HPRE
        go_wp2_with (((with_reducible refine gate_ (.call { callee := .builtin .append, args := #[.tmp 67, .tmp 71], argTypes := #[43, 43] }) rfl ?_); refine Kd.R_append kT (w0 := wr) (W := wr) W0.heap.size rfl (.tmp 67) (.tmp 71) 43 121 (.agg #[.int .u8 0, .int .u8 0, .int .u8 0, .int .i64 0]) 16 rfl Try.underlying43 infoT rfl (by decide) (by decide) (.slice B xs.length cb) xs (⟨e, u⟩ : T4) ((⟨e, u⟩ : T4)).cs (fun k => k ≠ ob ∧ k ≠ rb) (fun _ => False) rfl (by first | rfl | (rw [World.size_setCell]; rfl) | (rw [World.size_alloc]; rfl)) rfl (fun _ hk => hk.elim) (fun k hk => ⟨by have := (ACC).out.lo; omega, by have := (ACC).out.lr; omega⟩) ACC.out.R (Below.refl _ _) (ACC).out.bel.size (by have := HPL.out; simp; omega) ?_); intro v8 w8 hR8 hB8 hg8 hat8; obtain ⟨B8, c8, rfl, hl8, hC8⟩ := Kd.R_reads hR8; clear hat8 hC8; rw [hxs1] at *; have ACC8 := Lib.hid (ACC.out.put2 hR8 hB8 hg8 rfl); replace o2 := far_cell hg8 o2 ACC.out.own; replace o3 := far_frozen hg8 o3 zlo ACC.out.own; replace o0 := far_cell hg8 o0 ACC.out.own; replace o1 := far_cell hg8 o1 ACC.out.own; replace r0 := far_cell hg8 r0 ACC.out.ownr; replace r1 := far_cell hg8 r1 ACC.out.ownr; replace r2 := far_cell hg8 r2 ACC.out.ownr; replace r3 := far_frozen hg8 r3 zlr ACC.out.ownr; replace r4 := far_frozen hg8 r4 zlr ACC.out.ownr; replace r5 := far_frozen hg8 r5 zlr ACC.out.ownr)
        refine bodyPost_ret (v := .agg #[.int .i64 p, .int .i64 d, .slice B8 (xs.length + 1) c8]) (by simp [results, Try.results143, go_sem, r0, r1, r2, hne', hne'.symm]) rfl ⟨B8, c8, by rw [← hout, hxs1], ?_, ?_⟩
        · rw [← hout]
          have hR9 := ACC8.out.R
          exact Kd.R_mono (Kd.R_lower (Kd.R_far (Kd.R_far (Kd.R_far hR9 (fun k hk => hk.2) _) (fun k hk => hk.2) _) (fun k hk => hk.2) _) (by omega)) (fun _ _ => trivial)
        · have bel9 := ACC8.out.bel
          rw [hxb]
          exact hbw.trans ((below_set3 bel9 hrb' _ _ _).mono (by omega))
end Go.Proofs.Ytneknpamceipiaa
/- The walk of the reference's l01Plus; no condition. -/
set_option linter.unusedVariables false
set_option linter.unusedSimpArgs false
namespace Go.Proofs.Ytneknpamceipiaa
open Go.RowKit Go.Proofs.YtneknpamceipiaaW.PrintWords
attribute [local go_sem] Later.cell Later.frozen Later.lt Later.lt_add Later.le Later.le_add Later.ne Later.ne' add_at
theorem getD_mem4 {ts : List T4} {i : Nat} (h : i < ts.length) : ts.getD i z4 ∈ ts := by
  have : ts.getD i z4 = ts[i] := by simp [List.getD_eq_getElem?_getD, h]
  rw [this]
  exact List.getElem_mem h
set_option maxRecDepth 100000 in
set_option maxHeartbeats 4000000 in
theorem l01Plus_c (p d p' d' k : Int) (A A' : Option Addr) (c c' : Nat) (ts us : List T4) (w : World) (hC : kT.C w A ts.length ts) (hD : kT.C w A' us.length us) (hn : ts.length ≤ 2097152) (hm : us.length ≤ 2097152) (hp : 2 ≤ p) (hp' : p ≤ 13)
    (hv : ∀ t ∈ us, -1000000 ≤ k * t.v ∧ k * t.v ≤ 1000000) (hcan : Canon p ts) :
    Calls Try.prog 100 #[.agg #[.int .i64 p, .int .i64 d, .slice A ts.length c], .agg #[.int .i64 p', .int .i64 d', .slice A' us.length c'], .int .i64 k] w (MakesP p d 121 (putsT p ts (pairsT k us)) w) := by
  have HV := Lib.hid hv
  have HCAN := Lib.hid hcan
  have hC1 := Kd.C_alloc (Kd.C_alloc hC (.cells #[.int .i64 p, .int .i64 d, .slice A ts.length c] 45)) (.cells #[.int .i64 p', .int .i64 d', .slice A' us.length c'] 45)
  have hD1 := Kd.C_alloc (Kd.C_alloc hD (.cells #[.int .i64 p, .int .i64 d, .slice A ts.length c] 45)) (.cells #[.int .i64 p', .int .i64 d', .slice A' us.length c'] 45)
  clear hv hcan
  go_enter Try.func100, Try.ntmps100
  go_wp2_with (first | (go_at_call 96; (with_reducible refine call_makesP (l01Empty_c _ _ _) ?_); intro x A1 c1 hb1 hl1 hR1 hC1'; have hsz := x.ok.size; simp at hsz; have zx : w.heap.size < x.W.heap.size := (by omega); have z0 : x.W.cell? ⟨w.heap.size + 1 + 1, 0, none⟩ = some (.int .i64 0) := x.keep (by first | (simp; done) | (simp [go_sem]; done) | go_simp); have z1 : x.W.cell? ⟨w.heap.size + 1 + 1, 1, none⟩ = some (.int .i64 0) := x.keep (by first | (simp; done) | (simp [go_sem]; done) | go_simp); have z2 : x.W.cell? ⟨w.heap.size + 1 + 1, 2, none⟩ = some (.slice none 0 0) := x.keep (by first | (simp; done) | (simp [go_sem]; done) | go_simp); have z3 : ∀ j, x.W.frozen? ⟨w.heap.size + 1 + 1, j, none⟩ = false := (fun j => (x.ok.frozen (p := ⟨w.heap.size + 1 + 1, j, none⟩) (by simp)).trans (by first | (simp; done) | (simp [go_sem]; done) | go_simp)); have hx0 : Below ((w.alloc (.cells #[.int .i64 p, .int .i64 d, .slice A ts.length c] 45)).alloc (.cells #[.int .i64 p', .int .i64 d', .slice A' us.length c'] 45)).heap.size ((w.alloc (.cells #[.int .i64 p, .int .i64 d, .slice A ts.length c] 45)).alloc (.cells #[.int .i64 p', .int .i64 d', .slice A' us.length c'] 45)) x.W := (below_alloc2 _ (.cells #[.int .i64 0, .int .i64 0, .slice none 0 0] 45)).trans (x.ok.mono (by simp)); have ACC0 := Lib.hid (AccK.start (d := kT) (rb := w.heap.size + 1 + 1) (p := p) (n := d) (E := 121) (T := 45) hx0 (Kd.R_lower hR1 (by simp)) (by simp) (by simp; omega) z0 z1 z2 z3); have p2 := ACC0.out.o2; have p3 := ACC0.out.o3 2; clear z0 z1 z2 z3 hx0 hR1 hC1' hb1 hl1) | ((with_reducible refine gate_ (.call { callee := .builtin .append, args := #[.tmp 15, .tmp 17], argTypes := #[43, 43] }) rfl ?_); refine Kd.R_append_rows kT (Rr := kT.K w) (w0 := (x.W.alloc (.cells #[.int .i64 p, .int .i64 d, .slice A1 ([] : List T4).length c1] 45))) (W := (x.W.alloc (.cells #[.int .i64 p, .int .i64 d, .slice A1 ([] : List T4).length c1] 45))) ((w.alloc (.cells #[.int .i64 p, .int .i64 d, .slice A ts.length c] 45)).alloc (.cells #[.int .i64 p', .int .i64 d', .slice A' us.length c'] 45)).heap.size rfl (.tmp 15) (.tmp 17) 43 121 (.agg #[.int .u8 0, .int .u8 0, .int .u8 0, .int .i64 0]) 16 rfl Try.underlying43 infoT rfl (by decide) (by decide) (.slice A1 ([] : List T4).length c1) [] ts A ts.length c (fun k => k ≠ x.W.heap.size ∧ k ≠ w.heap.size + 1 + 1) (fun _ => False) rfl rfl ACC0.out.R (Kd.C_below hC1 ACC0.out.bel) (fun _ _ h => h) (fun _ hk => hk.elim) (fun k hk => ⟨by have := ACC0.out.lo; omega, by have := ACC0.out.lr; omega⟩) (Below.refl _ _) ACC0.out.bel.size (by simp; omega) ?_; intro v1 w1 hR6 hB6 hg6 hat6; rw [List.nil_append] at hR6; obtain ⟨B6, c6, rfl, hl6, hC6⟩ := Kd.R_reads hR6; clear hat6 hC6; have ACC6 := Lib.hid (ACC0.out.put3 hR6 hB6 hg6 rfl); replace p2 := far_cell hg6 p2 ACC0.out.own; replace p3 := far_frozen hg6 p3 ACC0.out.lo ACC0.out.own))
  have acc0 := ACC6.out
  clear ACC6 ACC0 p2 p3 hB6 hg6 hl6 hR6
  have s2 : ((w.alloc (.cells #[.int .i64 p, .int .i64 d, .slice A ts.length c] 45)).alloc (.cells #[.int .i64 p', .int .i64 d', .slice A' us.length c'] 45)).cell? ⟨w.heap.size + 1, 2, none⟩ = some (.slice A' us.length c') := by first | (simp; done) | (simp [go_sem]; done) | go_simp
  have hbw : Below w.heap.size w ((w.alloc (.cells #[.int .i64 p, .int .i64 d, .slice A ts.length c] 45)).alloc (.cells #[.int .i64 p', .int .i64 d', .slice A' us.length c'] 45)) := (by repeat (first | (with_reducible assumption) | (with_reducible exact Below.refl _ _) | (with_reducible refine Below.drew ?_) | (with_reducible refine pw_below_drewN ?_ _) | ((first | (with_reducible refine Below.alloc ?_ ?_ _) | (with_reducible refine Below.setCell ?_ ?_ _) | (with_reducible refine below_hop (by assumption) ?_ ?_)); rotate_left; (focus (first | omega | (simp; first | done | omega) | (simp [Later.le, Later.le_add, Later.lt, Later.lt_add]; first | done | omega)))) | ((with_reducible refine bel_later _ ?_ ?_); rotate_left; (focus (first | omega | (simp; first | done | omega) | (simp [Later.le, Later.le_add, Later.lt, Later.lt_add]; first | done | omega))))))
  have hz0 : ((w.alloc (.cells #[.int .i64 p, .int .i64 d, .slice A ts.length c] 45)).alloc (.cells #[.int .i64 p', .int .i64 d', .slice A' us.length c'] 45)).heap.size = w.heap.size + 2 := by simp
  generalize (w1.setCell ⟨x.W.heap.size, 2, none⟩ (.slice B6 ts.length c6)) = V at *
  generalize x.W.heap.size = ob at *
  generalize hrb : w.heap.size + 1 + 1 = rb at *
  generalize heb : w.heap.size + 1 = eb at *
  generalize hxb : w.heap.size = xb at *
  generalize ((w.alloc (.cells #[.int .i64 p, .int .i64 d, .slice A ts.length c] 45)).alloc (.cells #[.int .i64 p', .int .i64 d', .slice A' us.length c'] 45)) = W0 at *
  go_loopg [8] us.length (fun g v8 w' => ∃ (i : Nat) (B : Option Addr) (cb : Nat), i + g = us.length ∧ v8 = .int .i64 i ∧ AccK kT W0 ob rb p d 121 w' B cb (putsT p ts (pairsT k (us.take i))))
  case atStart => exact ⟨0, B6, c6, by omega, rfl, acc0⟩
  case round =>
    clear acc0
    obtain ⟨i, B, cb, hik, rfl, acc⟩ := hrel
    have HIK := Lib.hid hik
    clear hik
    have a2 := pw_cell_below acc.bel s2
    have ze := World.block_lt_of_cell? _ _ a2
    simp only [] at ze
    by_cases hlt : i < us.length
    · obtain ⟨bb, oo, hA, q0, q1, q2, q3⟩ := kT_at hD1 i hlt z4
      subst hA
      have q0 := pw_cell_below acc.bel q0
      have q1 := pw_cell_below acc.bel q1
      have q2 := pw_cell_below acc.bel q2
      have q3 := pw_cell_below acc.bel q3
      have zb := World.block_lt_of_cell? _ _ q0
      simp only [] at zb
      have hi0 : (0 : Int) ≤ i := by omega
      have hi1 : (i : Int) < us.length := by omega
      have hin : ((i : Int)).toNat = i := by omega
      have hcx : Canon p (putsT p ts (pairsT k (us.take i))) := putsT_canon hp _ HCAN.out
      have hlx : (putsT p ts (pairsT k (us.take i))).length ≤ 4194304 := by
        have h1 := putsT_len p (pairsT k (us.take i)) ts
        rw [pairs_len, List.length_take] at h1
        omega
      have hst := putsT_snoc p ts (pairsT k (us.take i)) ((us.getD i z4).e, k * (us.getD i z4).v)
      rw [← pairs_step k hlt] at hst
      obtain ⟨hv0, hv1⟩ := HV.out _ (getD_mem4 hlt)
      generalize putsT p ts (pairsT k (us.take i)) = xs at *
      generalize us.getD i z4 = t at *
      have HST := Lib.hid hst
      clear hst
      have hwr : IntKind.i64.wrap (k * t.v) = k * t.v := i64_small (by omega) (by omega)
      have hbd := canon_bd hp hcx t.e
      have hput := fun W hC => l01Put_c p d B cb xs t.e (k * t.v) W hC hlx hp hp' hv0 hv1 hbd
      have HPUT := Lib.hid hput
      clear hput hcx hbd hlx
      have acc2 := acc.drew
      have o0 := acc.o0
      have o1 := acc.o1
      have o2 := acc.o2
      have ACC := Lib.hid acc2
      have zlo := acc.lo
      clear acc acc2
      go_wp2
      go_still_tail 15, (by kernel_rfl)
      change wpList _ _ _ _ _ wr.drew
      go_wp2_with (go_at_call 143; (with_reducible refine to_makesP (V := wr.drew) (Below.refl _ _) (HPUT.out _ (Kd.R_reads' ACC.out.R).2.2) ?_); intro w3 B3 c3 hb3 hb3' hl3 hR3; have acc3 := ACC.out.below hb3; have p0 := acc3.o0; have p1 := acc3.o1; have p2 := acc3.o2; have f0 := acc3.o3 0; have f1 := acc3.o3 1; have f2 := acc3.o3 2; clear acc3)
      go_roundg (us.length - i - 1)
      case measure => have := HIK.out; omega
      case rel => exact ⟨i + 1, B3, c3, by have := HIK.out; omega, by go_num, by rw [HST.out]; exact ACC.out.set hb3 hR3⟩
    · have hie : i = us.length := by have := HIK.out; omega
      subst hie
      rw [List.take_length] at acc
      generalize putsT p ts (pairsT k us) = xs at *
      have r0 := acc.r0
      have r1 := acc.r1
      have r2 := acc.r2
      have r3 := acc.r3 0
      have r4 := acc.r3 1
      have r5 := acc.r3 2
      have o0 := acc.o0
      have o1 := acc.o1
      have o2 := acc.o2
      have zlo := acc.lo
      have zlr := acc.lr
      have hne' := acc.hne
      have hrb' := acc.hrb
      have bel := acc.bel
      have hR := acc.R
      clear acc
      go_wp2
      refine bodyPost_ret (v := .agg #[.int .i64 p, .int .i64 d, .slice B xs.length cb]) (by simp [results, Try.results100, go_sem, r0, r1, r2]) rfl ⟨B, cb, rfl, ?_, ?_⟩
      · exact R_set3 hR (fun k hk => hk.2) (by omega) _ _ _
      · rw [hxb]
        exact hbw.trans ((below_set3 bel hrb' _ _ _).mono (by omega))
end Go.Proofs.Ytneknpamceipiaa
/- The walk of the reference's l01Times; no condition. -/
set_option linter.unusedVariables false
set_option linter.unusedSimpArgs false
namespace Go.Proofs.Ytneknpamceipiaa
open Go.RowKit Go.Proofs.YtneknpamceipiaaW.PrintWords
attribute [local go_sem] Later.cell Later.frozen Later.lt Later.lt_add Later.le Later.le_add Later.ne Later.ne' add_at
theorem u8_add (x y : UInt8) : IntKind.u8.wrap ((x.toNat : Int) + y.toNat) = ((x + y).toNat : Int) := by
  have h := UInt8.toNat_add x y
  simp [IntKind.wrap, IntKind.bits, IntKind.signed]
theorem eight_alloc (W : World) (s t : T4) (E : TypeId) : ∃ V : World, ((W.alloc (.cells #[.int .u8 (s.e.a.toNat : Int), .int .u8 (s.e.b.toNat : Int), .int .u8 (s.e.c.toNat : Int), .int .i64 s.v] E)).alloc (.cells #[.int .u8 (t.e.a.toNat : Int), .int .u8 (t.e.b.toNat : Int), .int .u8 (t.e.c.toNat : Int), .int .i64 t.v] E)).drew = V ∧ Below W.heap.size W V ∧
    (V.cell? ⟨W.heap.size, 0, none⟩ = some (.int .u8 (s.e.a.toNat : Int)) ∧ V.cell? ⟨W.heap.size, 1, none⟩ = some (.int .u8 (s.e.b.toNat : Int)) ∧ V.cell? ⟨W.heap.size, 2, none⟩ = some (.int .u8 (s.e.c.toNat : Int)) ∧ V.cell? ⟨W.heap.size, 3, none⟩ = some (.int .i64 s.v)) ∧
    (V.cell? ⟨W.heap.size + 1, 0, none⟩ = some (.int .u8 (t.e.a.toNat : Int)) ∧ V.cell? ⟨W.heap.size + 1, 1, none⟩ = some (.int .u8 (t.e.b.toNat : Int)) ∧ V.cell? ⟨W.heap.size + 1, 2, none⟩ = some (.int .u8 (t.e.c.toNat : Int)) ∧ V.cell? ⟨W.heap.size + 1, 3, none⟩ = some (.int .i64 t.v)) := by
  refine ⟨_, rfl, ((Below.refl _ W).alloc (Nat.le_refl _) _ |>.alloc (by simp) _).drew, ⟨?_, ?_, ?_, ?_⟩, ?_, ?_, ?_, ?_⟩
  all_goals first | (simp; done) | (simp [go_sem]; done) | go_simp
/-- A polynomial and a Bool that a call makes. -/
def MakesPB (p d : Int) (ts : List T4) (b : Bool) (E : Nat) (w : World) (e : Ending) (w' : World) : Prop :=
  ∃ A c, e = .returned (.tuple #[.agg #[.int .i64 p, .int .i64 d, .slice A ts.length c], .bool b]) ∧ kT.R E w' w.heap.size (fun _ => True) (.slice A ts.length c) ts ∧ Below w.heap.size w w'
theorem to_makesPB {p d : Int} {ts : List T4} {b : Bool} {E : Nat} {P : Program} {f : FuncId} {args : Array Value} {V W : World} {R : Ending → World → Prop} (hW : Below V.heap.size V W)
    (h : Calls P f args W (MakesPB p d ts b E W)) (k : ∀ W' A c, Below V.heap.size V W' → Below W.heap.size W W' → ts.length ≤ c → kT.R E W' W.heap.size (fun _ => True) (.slice A ts.length c) ts → R (.returned (.tuple #[.agg #[.int .i64 p, .int .i64 d, .slice A ts.length c], .bool b])) W') : Calls P f args W R :=
  h.mono fun _ w' ⟨A, c, he, hr, hb⟩ => by
    subst he
    exact k w' A c (hW.trans (hb.mono hW.size)) hb (Kd.R_reads' hr).2.1 hr
set_option maxRecDepth 100000 in
set_option maxHeartbeats 4000000 in
theorem l01Times_m (p d p' d' : Int) (A A' : Option Addr) (c c' : Nat) (ts us : List T4) (w : World) (hC : kT.C w A ts.length ts) (hD : kT.C w A' us.length us) (hn : ts.length * us.length ≤ 2097152) (hn1 : ts.length ≤ 2097152) (hm : us.length ≤ 2097152) (hp : 2 ≤ p) (hp' : p ≤ 13)
    (hv : ∀ t ∈ ts, ∀ u ∈ us, -1000000 ≤ t.v * u.v ∧ t.v * u.v ≤ 1000000) (h1 : ts ≠ []) (h2 : us ≠ []) (hdg : degP ts + degP us ≤ 12) :
    Calls Try.prog 99 #[.agg #[.int .i64 p, .int .i64 d, .slice A ts.length c], .agg #[.int .i64 p', .int .i64 d', .slice A' us.length c']] w (MakesPB p d (mulL p ts us) true 121 w) := by
  have HV := Lib.hid hv
  have hC1 := Kd.C_alloc (Kd.C_alloc hC (.cells #[.int .i64 p, .int .i64 d, .slice A ts.length c] 45)) (.cells #[.int .i64 p', .int .i64 d', .slice A' us.length c'] 45)
  have hD1 := Kd.C_alloc (Kd.C_alloc hD (.cells #[.int .i64 p, .int .i64 d, .slice A ts.length c] 45)) (.cells #[.int .i64 p', .int .i64 d', .slice A' us.length c'] 45)
  have hl1 : ts.length ≠ 0 := by simpa using h1
  have hl2 : us.length ≠ 0 := by simpa using h2
  have e1 : ((ts.length : Int) == 0) = false := by simp; omega
  have e2 : ((us.length : Int) == 0) = false := by simp; omega
  have hdb1 := degP_bd ts
  have hdb2 := degP_bd us
  have hdc : ¬ (12 < degP ts + degP us) := by omega
  clear hv h1 h2
  go_enter Try.func99, Try.ntmps99
  go_wp2_with (first | (go_at_call 96; (with_reducible refine call_makesP (l01Empty_c _ _ _) ?_); intro x A1 c1 hb1 hl1 hR1 hC1'; have hsz := x.ok.size; simp at hsz; have zx : w.heap.size < x.W.heap.size := (by omega); have z0 : x.W.cell? ⟨w.heap.size + 1 + 1, 0, none⟩ = some (.int .i64 0) := x.keep (by first | (simp; done) | (simp [go_sem]; done) | go_simp); have z1 : x.W.cell? ⟨w.heap.size + 1 + 1, 1, none⟩ = some (.int .i64 0) := x.keep (by first | (simp; done) | (simp [go_sem]; done) | go_simp); have z2 : x.W.cell? ⟨w.heap.size + 1 + 1, 2, none⟩ = some (.slice none 0 0) := x.keep (by first | (simp; done) | (simp [go_sem]; done) | go_simp); have z3 : ∀ j, x.W.frozen? ⟨w.heap.size + 1 + 1, j, none⟩ = false := (fun j => (x.ok.frozen (p := ⟨w.heap.size + 1 + 1, j, none⟩) (by simp)).trans (by first | (simp; done) | (simp [go_sem]; done) | go_simp)); have hx0 : Below ((w.alloc (.cells #[.int .i64 p, .int .i64 d, .slice A ts.length c] 45)).alloc (.cells #[.int .i64 p', .int .i64 d', .slice A' us.length c'] 45)).heap.size ((w.alloc (.cells #[.int .i64 p, .int .i64 d, .slice A ts.length c] 45)).alloc (.cells #[.int .i64 p', .int .i64 d', .slice A' us.length c'] 45)) x.W := (below_alloc2 _ (.cells #[.int .i64 0, .int .i64 0, .slice none 0 0] 45)).trans (x.ok.mono (by simp)); have ACC0 := Lib.hid (AccK.start (d := kT) (rb := w.heap.size + 1 + 1) (p := p) (n := d) (E := 121) (T := 45) hx0 (Kd.R_lower hR1 (by simp)) (by simp) (by simp; omega) z0 z1 z2 z3); clear z0 z1 z2 z3 hx0 hR1 hC1' hb1 hl1))
  have acc0 := ACC0.out
  clear ACC0
  have s0 : ((w.alloc (.cells #[.int .i64 p, .int .i64 d, .slice A ts.length c] 45)).alloc (.cells #[.int .i64 p', .int .i64 d', .slice A' us.length c'] 45)).cell? ⟨w.heap.size, 2, none⟩ = some (.slice A ts.length c) := by first | (simp; done) | (simp [go_sem]; done) | go_simp
  have s2 : ((w.alloc (.cells #[.int .i64 p, .int .i64 d, .slice A ts.length c] 45)).alloc (.cells #[.int .i64 p', .int .i64 d', .slice A' us.length c'] 45)).cell? ⟨w.heap.size + 1, 2, none⟩ = some (.slice A' us.length c') := by first | (simp; done) | (simp [go_sem]; done) | go_simp
  have s3 : ((w.alloc (.cells #[.int .i64 p, .int .i64 d, .slice A ts.length c] 45)).alloc (.cells #[.int .i64 p', .int .i64 d', .slice A' us.length c'] 45)).cell? ⟨w.heap.size, 0, none⟩ = some (.int .i64 p) := by first | (simp; done) | (simp [go_sem]; done) | go_simp
  have s4 : ((w.alloc (.cells #[.int .i64 p, .int .i64 d, .slice A ts.length c] 45)).alloc (.cells #[.int .i64 p', .int .i64 d', .slice A' us.length c'] 45)).cell? ⟨w.heap.size, 1, none⟩ = some (.int .i64 d) := by first | (simp; done) | (simp [go_sem]; done) | go_simp
  have s5 : ((w.alloc (.cells #[.int .i64 p, .int .i64 d, .slice A ts.length c] 45)).alloc (.cells #[.int .i64 p', .int .i64 d', .slice A' us.length c'] 45)).cell? ⟨w.heap.size + 1, 0, none⟩ = some (.int .i64 p') := by first | (simp; done) | (simp [go_sem]; done) | go_simp
  have s6 : ((w.alloc (.cells #[.int .i64 p, .int .i64 d, .slice A ts.length c] 45)).alloc (.cells #[.int .i64 p', .int .i64 d', .slice A' us.length c'] 45)).cell? ⟨w.heap.size + 1, 1, none⟩ = some (.int .i64 d') := by first | (simp; done) | (simp [go_sem]; done) | go_simp
  have hbw : Below w.heap.size w ((w.alloc (.cells #[.int .i64 p, .int .i64 d, .slice A ts.length c] 45)).alloc (.cells #[.int .i64 p', .int .i64 d', .slice A' us.length c'] 45)) := (by repeat (first | (with_reducible assumption) | (with_reducible exact Below.refl _ _) | (with_reducible refine Below.drew ?_) | (with_reducible refine pw_below_drewN ?_ _) | ((first | (with_reducible refine Below.alloc ?_ ?_ _) | (with_reducible refine Below.setCell ?_ ?_ _) | (with_reducible refine below_hop (by assumption) ?_ ?_)); rotate_left; (focus (first | omega | (simp; first | done | omega) | (simp [Later.le, Later.le_add, Later.lt, Later.lt_add]; first | done | omega)))) | ((with_reducible refine bel_later _ ?_ ?_); rotate_left; (focus (first | omega | (simp; first | done | omega) | (simp [Later.le, Later.le_add, Later.lt, Later.lt_add]; first | done | omega))))))
  have hz0 : ((w.alloc (.cells #[.int .i64 p, .int .i64 d, .slice A ts.length c] 45)).alloc (.cells #[.int .i64 p', .int .i64 d', .slice A' us.length c'] 45)).heap.size = w.heap.size + 2 := by simp
  generalize (x.W.alloc (.cells #[.int .i64 p, .int .i64 d, .slice A1 ([] : List T4).length c1] 45)) = V at *
  generalize x.W.heap.size = ob at *
  generalize hrb : w.heap.size + 1 + 1 = rb at *
  generalize heb : w.heap.size + 1 = eb at *
  generalize hxb : w.heap.size = xb at *
  generalize ((w.alloc (.cells #[.int .i64 p, .int .i64 d, .slice A ts.length c] 45)).alloc (.cells #[.int .i64 p', .int .i64 d', .slice A' us.length c'] 45)) = W0 at *
  have hCV := Kd.C_below hC1 acc0.bel
  have hDV := Kd.C_below hD1 acc0.bel
  have u0 := pw_cell_below acc0.bel s0
  have u2 := pw_cell_below acc0.bel s2
  have u3 := pw_cell_below acc0.bel s3
  have u4 := pw_cell_below acc0.bel s4
  have u5 := pw_cell_below acc0.bel s5
  have u6 := pw_cell_below acc0.bel s6
  have zu0 := World.block_lt_of_cell? _ _ u0
  have zu2 := World.block_lt_of_cell? _ _ u2
  simp only [] at zu0 zu2
  have hA := fun (x : Later V) => l01Degree_c p d A c ts x.W (Kd.C_below hCV x.ok) (by omega)
  have hM := fun (x : Later V) => l01Degree_c p' d' A' c' us x.W (Kd.C_below hDV x.ok) (by omega)
  have hwr : IntKind.i64.wrap (degP ts + degP us) = degP ts + degP us := i64_small (by omega) (by omega)
  generalize degP ts = g1 at *
  generalize degP us = g2 at *
  (first | refine wp_region_later2 (by kernel_rfl) (by kernel_rfl) ?_ | refine wp_region_later (by kernel_rfl) (by kernel_rfl) ?_); (repeat (go_big_quiet_step (first | (go_at_call 97; with_reducible exact quiet_later (hA _)) | (go_at_call 97; with_reducible exact quiet_later (hM _))))); refine wpQuiet_nil ?_; intro x2
  have acc1 := acc0.below x2.ok
  clear hCV hDV hA hM u0 u2 u3 u4 u5 u6 zu0 zu2 acc0
  generalize x2.W = V2 at *
  go_wp2
  go_loopg [7] ts.length (fun g v7 w' => ∃ (i : Nat) (B : Option Addr) (cb : Nat), i + g = ts.length ∧ v7 = .int .i64 i ∧ AccK kT W0 ob rb p d 121 w' B cb (putsT p [] (mulP (ts.take i) us)))
  case atStart => exact ⟨0, A1, c1, by omega, rfl, acc1⟩
  case round =>
    clear acc1
    obtain ⟨i, B0, cb0, hik, rfl, acc⟩ := hrel
    have HIK := Lib.hid hik
    clear hik
    have a0 := pw_cell_below acc.bel s0
    have ze := World.block_lt_of_cell? _ _ a0
    simp only [] at ze
    by_cases hlt : i < ts.length
    · have hi0 : (0 : Int) ≤ i := by omega
      have hi1 : (i : Int) < ts.length := by omega
      have hin : ((i : Int)).toNat = i := by omega
      have ACCI := Lib.hid acc
      clear acc
      go_wp2
      go_loopg [8] us.length (fun g v8 w' => ∃ (j : Nat) (B : Option Addr) (cb : Nat), j + g = us.length ∧ v8 = .int .i64 j ∧ AccK kT W0 ob rb p d 121 w' B cb (putsT p [] (mulP (ts.take i) us ++ rowP (ts.getD i z4) (us.take j))))
      case atStart => exact ⟨0, B0, cb0, by omega, rfl, by rw [List.take_zero]; simpa [rowP] using ACCI.out⟩
      case round =>
        clear ACCI a0 ze
        obtain ⟨j, B, cb, hjk, rfl, acc⟩ := hrel
        have HJK := Lib.hid hjk
        clear hjk
        have a0 := pw_cell_below acc.bel s0
        have a2 := pw_cell_below acc.bel s2
        have ze := World.block_lt_of_cell? _ _ a0
        have ze2 := World.block_lt_of_cell? _ _ a2
        simp only [] at ze ze2
        by_cases hjt : j < us.length
        · obtain ⟨bb, oo, hA, q0, q1, q2, q3⟩ := kT_at hC1 i hlt z4
          obtain ⟨bc, oc, hA', k0, k1, k2, k3⟩ := kT_at hD1 j hjt z4
          subst hA hA'
          have q0 := pw_cell_below acc.bel q0
          have q1 := pw_cell_below acc.bel q1
          have q2 := pw_cell_below acc.bel q2
          have q3 := pw_cell_below acc.bel q3
          have k0 := pw_cell_below acc.bel k0
          have k1 := pw_cell_below acc.bel k1
          have k2 := pw_cell_below acc.bel k2
          have k3 := pw_cell_below acc.bel k3
          have zb := World.block_lt_of_cell? _ _ q0
          have zc := World.block_lt_of_cell? _ _ k0
          simp only [] at zb zc
          have hj0 : (0 : Int) ≤ j := by omega
          have hj1 : (j : Int) < us.length := by omega
          have hjn : ((j : Int)).toNat = j := by omega
          have hst := putsT_snoc p [] (mulP (ts.take i) us ++ rowP (ts.getD i z4) (us.take j)) (mulE (ts.getD i z4).e (us.getD j z4).e, (ts.getD i z4).v * (us.getD j z4).v)
          rw [List.append_assoc, ← rowP_step hjt] at hst
          have hcx : Canon p (putsT p [] (mulP (ts.take i) us ++ rowP (ts.getD i z4) (us.take j))) := putsT_canon hp _ (canon_nil p)
          have hlx : (putsT p [] (mulP (ts.take i) us ++ rowP (ts.getD i z4) (us.take j))).length ≤ 4194304 := by
            have h1 := putsT_len p (mulP (ts.take i) us ++ rowP (ts.getD i z4) (us.take j)) []
            rw [List.length_append, mulP_len, rowP_len, List.length_take, List.length_take, List.length_nil] at h1
            have h3 : min i ts.length * us.length ≤ ts.length * us.length := Nat.mul_le_mul_right _ (Nat.min_le_right _ _)
            omega
          obtain ⟨hv0, hv1⟩ := HV.out _ (getD_mem4 hlt) _ (getD_mem4 hjt)
          have HST := Lib.hid hst
          clear hst
          generalize ts.getD i z4 = s at *
          generalize us.getD j z4 = t at *
          generalize putsT p [] (mulP (ts.take i) us ++ rowP s (us.take j)) = xs at *
          have hwv : IntKind.i64.wrap (s.v * t.v) = s.v * t.v := i64_small (by omega) (by omega)
          have hbd := canon_bd hp hcx (mulE s.e t.e)
          have hput := fun W hC => l01Put_c p d B cb xs (mulE s.e t.e) (s.v * t.v) W hC hlx hp hp' hv0 hv1 hbd
          have HPUT := Lib.hid hput
          have m1 : IntKind.u8.wrap ((s.e.a.toNat : Int) + t.e.a.toNat) = ((mulE s.e t.e).a.toNat : Int) := u8_add _ _
          have m2 : IntKind.u8.wrap ((s.e.b.toNat : Int) + t.e.b.toNat) = ((mulE s.e t.e).b.toNat : Int) := u8_add _ _
          have m3 : IntKind.u8.wrap ((s.e.c.toNat : Int) + t.e.c.toNat) = ((mulE s.e t.e).c.toNat : Int) := u8_add _ _
          generalize hme : mulE s.e t.e = me at *
          clear hput hcx hbd hlx hme
          have ACC := Lib.hid acc
          clear acc
          go_wp2
          go_region
          · obtain ⟨W9, hW9, hb9, ⟨c0, c1', c2, c3⟩, d0, d1, d2, d3⟩ := eight_alloc wr s t 121
            rw [hW9]
            (have acc9 := ACC.out.below hb9; have o0 := acc9.o0; have o1 := acc9.o1; have o2 := acc9.o2; have zlo := acc9.lo; have ACC9 := Lib.hid acc9; clear acc9 a0 a2 q0 q1 q2 q3 k0 k1 k2 k3; go_wp2_with (go_at_call 143; (with_reducible refine to_makesP (V := W9) (Below.refl _ _) (HPUT.out _ (Kd.R_reads' ACC9.out.R).2.2) ?_); intro w3 B3 c3' hb3 hb3' hl3 hR3; have acc3 := ACC9.out.below hb3; have p0 := acc3.o0; have p1 := acc3.o1; have p2 := acc3.o2; have f0 := acc3.o3 0; have f1 := acc3.o3 1; have f2 := acc3.o3 2; clear acc3); go_roundg (us.length - j - 1); (case measure => (have := HJK.out; omega)); (case rel => exact ⟨j + 1, B3, c3', by have := HJK.out; omega, by go_num, by rw [HST.out]; exact ACC9.out.set hb3 hR3⟩))
          · obtain ⟨W9, hW9, hb9, ⟨d0, d1, d2, d3⟩, c0, c1', c2, c3⟩ := eight_alloc wr t s 121
            rw [hW9]
            (have acc9 := ACC.out.below hb9; have o0 := acc9.o0; have o1 := acc9.o1; have o2 := acc9.o2; have zlo := acc9.lo; have ACC9 := Lib.hid acc9; clear acc9 a0 a2 q0 q1 q2 q3 k0 k1 k2 k3; go_wp2_with (go_at_call 143; (with_reducible refine to_makesP (V := W9) (Below.refl _ _) (HPUT.out _ (Kd.R_reads' ACC9.out.R).2.2) ?_); intro w3 B3 c3' hb3 hb3' hl3 hR3; have acc3 := ACC9.out.below hb3; have p0 := acc3.o0; have p1 := acc3.o1; have p2 := acc3.o2; have f0 := acc3.o3 0; have f1 := acc3.o3 1; have f2 := acc3.o3 2; clear acc3); go_roundg (us.length - j - 1); (case measure => (have := HJK.out; omega)); (case rel => exact ⟨j + 1, B3, c3', by have := HJK.out; omega, by go_num, by rw [HST.out]; exact ACC9.out.set hb3 hR3⟩))
        · have hje : j = us.length := by have := HJK.out; omega
          subst hje
          rw [List.take_length] at acc
          have hst := mulP_step (ys := us) hlt
          rw [← hst] at acc
          have ACC := Lib.hid acc
          clear acc
          go_wp2
          go_roundg (ts.length - i - 1)
          case measure => have := HIK.out; omega
          case rel => exact ⟨i + 1, B, cb, by have := HIK.out; omega, by go_num, ACC.out⟩
    · have hie : i = ts.length := by have := HIK.out; omega
      subst hie
      rw [List.take_length] at acc
      have hmul : putsT p [] (mulP ts us) = mulL p ts us := rfl
      rw [hmul] at acc
      generalize mulL p ts us = xs at *
      have r0 := acc.r0
      have r1 := acc.r1
      have r2 := acc.r2
      have r3 := acc.r3 0
      have r4 := acc.r3 1
      have r5 := acc.r3 2
      have o0 := acc.o0
      have o1 := acc.o1
      have o2 := acc.o2
      have zlo := acc.lo
      have zlr := acc.lr
      have hne' := acc.hne
      have hrb' := acc.hrb
      have bel := acc.bel
      have hR := acc.R
      clear acc
      go_wp2
      refine bodyPost_ret (v := .tuple #[.agg #[.int .i64 p, .int .i64 d, .slice B0 xs.length cb0], .bool true]) (by simp [results, Try.results99, go_sem, r0, r1, r2]) rfl ?_
      refine ⟨B0, cb0, rfl, ?_, ?_⟩
      · exact R_set3 hR (fun k hk => hk.2) (by omega) _ _ _
      · rw [hxb]
        exact hbw.trans ((below_set3 bel hrb' _ _ _).mono (by omega))
end Go.Proofs.Ytneknpamceipiaa
/- The walks of the reference's l01Times where there is nothing to multiply or the degree is too great, and of l01One; no condition. -/
set_option linter.unusedVariables false
set_option linter.unusedSimpArgs false
namespace Go.Proofs.Ytneknpamceipiaa
open Go.RowKit Go.Proofs.YtneknpamceipiaaW.PrintWords
attribute [local go_sem] Later.cell Later.frozen Later.lt Later.lt_add Later.le Later.le_add Later.ne Later.ne' add_at
set_option maxRecDepth 100000 in
set_option maxHeartbeats 4000000 in
theorem l01Times_e (p d p' d' : Int) (A A' : Option Addr) (c c' : Nat) (ts us : List T4) (w : World) (hn1 : ts.length ≤ 2097152) (hm : us.length ≤ 2097152) (h : ts = [] ∨ us = []) :
    Calls Try.prog 99 #[.agg #[.int .i64 p, .int .i64 d, .slice A ts.length c], .agg #[.int .i64 p', .int .i64 d', .slice A' us.length c']] w (MakesPB p d [] true 121 w) := by
  have hbw : Below w.heap.size w ((w.alloc (.cells #[.int .i64 p, .int .i64 d, .slice A ts.length c] 45)).alloc (.cells #[.int .i64 p', .int .i64 d', .slice A' us.length c'] 45)) := (by repeat (first | (with_reducible assumption) | (with_reducible exact Below.refl _ _) | (with_reducible refine Below.drew ?_) | (with_reducible refine pw_below_drewN ?_ _) | ((first | (with_reducible refine Below.alloc ?_ ?_ _) | (with_reducible refine Below.setCell ?_ ?_ _) | (with_reducible refine below_hop (by assumption) ?_ ?_)); rotate_left; (focus (first | omega | (simp; first | done | omega) | (simp [Later.le, Later.le_add, Later.lt, Later.lt_add]; first | done | omega)))) | ((with_reducible refine bel_later _ ?_ ?_); rotate_left; (focus (first | omega | (simp; first | done | omega) | (simp [Later.le, Later.le_add, Later.lt, Later.lt_add]; first | done | omega))))))
  by_cases h1 : ts = []
  · have e1 : ((ts.length : Int) == 0) = true := by simp [h1]
    clear h1 h
    go_enter Try.func99, Try.ntmps99
    go_wp2_with (first | (go_at_call 96; (with_reducible refine call_makesP (l01Empty_c _ _ _) ?_); intro x A1 c1 hb1 hl1 hR1 hC1'; have hsz := x.ok.size; simp at hsz; have zx : w.heap.size < x.W.heap.size := (by omega); have z0 : x.W.cell? ⟨w.heap.size + 1 + 1, 0, none⟩ = some (.int .i64 0) := x.keep (by first | (simp; done) | (simp [go_sem]; done) | go_simp); have z1 : x.W.cell? ⟨w.heap.size + 1 + 1, 1, none⟩ = some (.int .i64 0) := x.keep (by first | (simp; done) | (simp [go_sem]; done) | go_simp); have z2 : x.W.cell? ⟨w.heap.size + 1 + 1, 2, none⟩ = some (.slice none 0 0) := x.keep (by first | (simp; done) | (simp [go_sem]; done) | go_simp); have z3 : ∀ j, x.W.frozen? ⟨w.heap.size + 1 + 1, j, none⟩ = false := (fun j => (x.ok.frozen (p := ⟨w.heap.size + 1 + 1, j, none⟩) (by simp)).trans (by first | (simp; done) | (simp [go_sem]; done) | go_simp)); have hx0 : Below ((w.alloc (.cells #[.int .i64 p, .int .i64 d, .slice A ts.length c] 45)).alloc (.cells #[.int .i64 p', .int .i64 d', .slice A' us.length c'] 45)).heap.size ((w.alloc (.cells #[.int .i64 p, .int .i64 d, .slice A ts.length c] 45)).alloc (.cells #[.int .i64 p', .int .i64 d', .slice A' us.length c'] 45)) x.W := (below_alloc2 _ (.cells #[.int .i64 0, .int .i64 0, .slice none 0 0] 45)).trans (x.ok.mono (by simp)); have ACC0 := Lib.hid (AccK.start (d := kT) (rb := w.heap.size + 1 + 1) (p := p) (n := d) (E := 121) (T := 45) hx0 (Kd.R_lower hR1 (by simp)) (by simp) (by simp; omega) z0 z1 z2 z3); have r0 := ACC0.out.r0; have r1 := ACC0.out.r1; have r2 := ACC0.out.r2; have r3 := ACC0.out.r3 0; have r4 := ACC0.out.r3 1; have r5 := ACC0.out.r3 2; have o0 := ACC0.out.o0; have o1 := ACC0.out.o1; have o2 := ACC0.out.o2; have zlr := ACC0.out.lr; have zlo := ACC0.out.lo; have hRx := Kd.R_lower (Kd.R_mono (Kd.R_bound hR1) (ok' := fun k => k ≠ w.heap.size + 1 + 1) (fun k hk => (by have := hk.2.1; simp at this; omega))) (base' := w.heap.size) (by simp; omega); have hbx : Below w.heap.size w x.W := hbw.trans (hx0.mono (by simp; omega)); clear z0 z1 z2 z3 hx0 hR1 hC1' hb1 hl1))
    refine bodyPost_ret (v := .tuple #[.agg #[.int .i64 p, .int .i64 d, .slice A1 0 c1], .bool true]) (by simp [results, Try.results99, go_sem, r0, r1, r2]) rfl ?_
    exact ⟨A1, c1, rfl, Kd.R_alloc (R_set3 hRx (fun k hk => hk) (Nat.le_refl _) _ _ _) _, (below_set3 hbx (by omega) _ _ _).alloc (by simp; omega) _⟩
  · have h2 : us = [] := h.resolve_left h1
    have e1 : ((ts.length : Int) == 0) = false := by
      have : ts.length ≠ 0 := by simpa using h1
      simp
      exact h1
    have e2 : ((us.length : Int) == 0) = true := by simp [h2]
    clear h1 h2 h
    go_enter Try.func99, Try.ntmps99
    go_wp2_with (first | (go_at_call 96; (with_reducible refine call_makesP (l01Empty_c _ _ _) ?_); intro x A1 c1 hb1 hl1 hR1 hC1'; have hsz := x.ok.size; simp at hsz; have zx : w.heap.size < x.W.heap.size := (by omega); have z0 : x.W.cell? ⟨w.heap.size + 1 + 1, 0, none⟩ = some (.int .i64 0) := x.keep (by first | (simp; done) | (simp [go_sem]; done) | go_simp); have z1 : x.W.cell? ⟨w.heap.size + 1 + 1, 1, none⟩ = some (.int .i64 0) := x.keep (by first | (simp; done) | (simp [go_sem]; done) | go_simp); have z2 : x.W.cell? ⟨w.heap.size + 1 + 1, 2, none⟩ = some (.slice none 0 0) := x.keep (by first | (simp; done) | (simp [go_sem]; done) | go_simp); have z3 : ∀ j, x.W.frozen? ⟨w.heap.size + 1 + 1, j, none⟩ = false := (fun j => (x.ok.frozen (p := ⟨w.heap.size + 1 + 1, j, none⟩) (by simp)).trans (by first | (simp; done) | (simp [go_sem]; done) | go_simp)); have hx0 : Below ((w.alloc (.cells #[.int .i64 p, .int .i64 d, .slice A ts.length c] 45)).alloc (.cells #[.int .i64 p', .int .i64 d', .slice A' us.length c'] 45)).heap.size ((w.alloc (.cells #[.int .i64 p, .int .i64 d, .slice A ts.length c] 45)).alloc (.cells #[.int .i64 p', .int .i64 d', .slice A' us.length c'] 45)) x.W := (below_alloc2 _ (.cells #[.int .i64 0, .int .i64 0, .slice none 0 0] 45)).trans (x.ok.mono (by simp)); have ACC0 := Lib.hid (AccK.start (d := kT) (rb := w.heap.size + 1 + 1) (p := p) (n := d) (E := 121) (T := 45) hx0 (Kd.R_lower hR1 (by simp)) (by simp) (by simp; omega) z0 z1 z2 z3); have r0 := ACC0.out.r0; have r1 := ACC0.out.r1; have r2 := ACC0.out.r2; have r3 := ACC0.out.r3 0; have r4 := ACC0.out.r3 1; have r5 := ACC0.out.r3 2; have o0 := ACC0.out.o0; have o1 := ACC0.out.o1; have o2 := ACC0.out.o2; have zlr := ACC0.out.lr; have zlo := ACC0.out.lo; have hRx := Kd.R_lower (Kd.R_mono (Kd.R_bound hR1) (ok' := fun k => k ≠ w.heap.size + 1 + 1) (fun k hk => (by have := hk.2.1; simp at this; omega))) (base' := w.heap.size) (by simp; omega); have hbx : Below w.heap.size w x.W := hbw.trans (hx0.mono (by simp; omega)); clear z0 z1 z2 z3 hx0 hR1 hC1' hb1 hl1))
    refine bodyPost_ret (v := .tuple #[.agg #[.int .i64 p, .int .i64 d, .slice A1 0 c1], .bool true]) (by simp [results, Try.results99, go_sem, r0, r1, r2]) rfl ?_
    exact ⟨A1, c1, rfl, Kd.R_alloc (R_set3 hRx (fun k hk => hk) (Nat.le_refl _) _ _ _) _, (below_set3 hbx (by omega) _ _ _).alloc (by simp; omega) _⟩
set_option maxRecDepth 100000 in
set_option maxHeartbeats 4000000 in
theorem l01Times_n (p d p' d' : Int) (A A' : Option Addr) (c c' : Nat) (ts us : List T4) (w : World) (hC : kT.C w A ts.length ts) (hD : kT.C w A' us.length us) (hn1 : ts.length ≤ 2097152) (hm : us.length ≤ 2097152) (h1 : ts ≠ []) (h2 : us ≠ []) (hdc : 12 < degP ts + degP us) :
    Calls Try.prog 99 #[.agg #[.int .i64 p, .int .i64 d, .slice A ts.length c], .agg #[.int .i64 p', .int .i64 d', .slice A' us.length c']] w (MakesPB p d [] false 121 w) := by
  have hbw : Below w.heap.size w ((w.alloc (.cells #[.int .i64 p, .int .i64 d, .slice A ts.length c] 45)).alloc (.cells #[.int .i64 p', .int .i64 d', .slice A' us.length c'] 45)) := (by repeat (first | (with_reducible assumption) | (with_reducible exact Below.refl _ _) | (with_reducible refine Below.drew ?_) | (with_reducible refine pw_below_drewN ?_ _) | ((first | (with_reducible refine Below.alloc ?_ ?_ _) | (with_reducible refine Below.setCell ?_ ?_ _) | (with_reducible refine below_hop (by assumption) ?_ ?_)); rotate_left; (focus (first | omega | (simp; first | done | omega) | (simp [Later.le, Later.le_add, Later.lt, Later.lt_add]; first | done | omega)))) | ((with_reducible refine bel_later _ ?_ ?_); rotate_left; (focus (first | omega | (simp; first | done | omega) | (simp [Later.le, Later.le_add, Later.lt, Later.lt_add]; first | done | omega))))))
  have hC1 := Kd.C_alloc (Kd.C_alloc hC (.cells #[.int .i64 p, .int .i64 d, .slice A ts.length c] 45)) (.cells #[.int .i64 p', .int .i64 d', .slice A' us.length c'] 45)
  have hD1 := Kd.C_alloc (Kd.C_alloc hD (.cells #[.int .i64 p, .int .i64 d, .slice A ts.length c] 45)) (.cells #[.int .i64 p', .int .i64 d', .slice A' us.length c'] 45)
  have hl1 : ts.length ≠ 0 := by simpa using h1
  have hl2 : us.length ≠ 0 := by simpa using h2
  have e1 : ((ts.length : Int) == 0) = false := by simp; omega
  have e2 : ((us.length : Int) == 0) = false := by simp; omega
  have hdb1 := degP_bd ts
  have hdb2 := degP_bd us
  clear h1 h2
  go_enter Try.func99, Try.ntmps99
  go_wp2_with (first | (go_at_call 96; (with_reducible refine call_makesP (l01Empty_c _ _ _) ?_); intro x A1 c1 hb1 hl1 hR1 hC1'; have hsz := x.ok.size; simp at hsz; have zx : w.heap.size < x.W.heap.size := (by omega); have z0 : x.W.cell? ⟨w.heap.size + 1 + 1, 0, none⟩ = some (.int .i64 0) := x.keep (by first | (simp; done) | (simp [go_sem]; done) | go_simp); have z1 : x.W.cell? ⟨w.heap.size + 1 + 1, 1, none⟩ = some (.int .i64 0) := x.keep (by first | (simp; done) | (simp [go_sem]; done) | go_simp); have z2 : x.W.cell? ⟨w.heap.size + 1 + 1, 2, none⟩ = some (.slice none 0 0) := x.keep (by first | (simp; done) | (simp [go_sem]; done) | go_simp); have z3 : ∀ j, x.W.frozen? ⟨w.heap.size + 1 + 1, j, none⟩ = false := (fun j => (x.ok.frozen (p := ⟨w.heap.size + 1 + 1, j, none⟩) (by simp)).trans (by first | (simp; done) | (simp [go_sem]; done) | go_simp)); have hx0 : Below ((w.alloc (.cells #[.int .i64 p, .int .i64 d, .slice A ts.length c] 45)).alloc (.cells #[.int .i64 p', .int .i64 d', .slice A' us.length c'] 45)).heap.size ((w.alloc (.cells #[.int .i64 p, .int .i64 d, .slice A ts.length c] 45)).alloc (.cells #[.int .i64 p', .int .i64 d', .slice A' us.length c'] 45)) x.W := (below_alloc2 _ (.cells #[.int .i64 0, .int .i64 0, .slice none 0 0] 45)).trans (x.ok.mono (by simp)); have ACC0 := Lib.hid (AccK.start (d := kT) (rb := w.heap.size + 1 + 1) (p := p) (n := d) (E := 121) (T := 45) hx0 (Kd.R_lower hR1 (by simp)) (by simp) (by simp; omega) z0 z1 z2 z3); have r0 := ACC0.out.r0; have r1 := ACC0.out.r1; have r2 := ACC0.out.r2; have r3 := ACC0.out.r3 0; have r4 := ACC0.out.r3 1; have r5 := ACC0.out.r3 2; have o0 := ACC0.out.o0; have o1 := ACC0.out.o1; have o2 := ACC0.out.o2; have zlr := ACC0.out.lr; have zlo := ACC0.out.lo; have hRx := Kd.R_lower (Kd.R_mono (Kd.R_bound hR1) (ok' := fun k => k ≠ w.heap.size + 1 + 1) (fun k hk => (by have := hk.2.1; simp at this; omega))) (base' := w.heap.size) (by simp; omega); have hbx : Below w.heap.size w x.W := hbw.trans (hx0.mono (by simp; omega)); clear z0 z1 z2 z3 hx0 hR1 hC1' hb1 hl1))
  have s0 : ((w.alloc (.cells #[.int .i64 p, .int .i64 d, .slice A ts.length c] 45)).alloc (.cells #[.int .i64 p', .int .i64 d', .slice A' us.length c'] 45)).cell? ⟨w.heap.size, 2, none⟩ = some (.slice A ts.length c) := by first | (simp; done) | (simp [go_sem]; done) | go_simp
  have s2 : ((w.alloc (.cells #[.int .i64 p, .int .i64 d, .slice A ts.length c] 45)).alloc (.cells #[.int .i64 p', .int .i64 d', .slice A' us.length c'] 45)).cell? ⟨w.heap.size + 1, 2, none⟩ = some (.slice A' us.length c') := by first | (simp; done) | (simp [go_sem]; done) | go_simp
  have s3 : ((w.alloc (.cells #[.int .i64 p, .int .i64 d, .slice A ts.length c] 45)).alloc (.cells #[.int .i64 p', .int .i64 d', .slice A' us.length c'] 45)).cell? ⟨w.heap.size, 0, none⟩ = some (.int .i64 p) := by first | (simp; done) | (simp [go_sem]; done) | go_simp
  have s4 : ((w.alloc (.cells #[.int .i64 p, .int .i64 d, .slice A ts.length c] 45)).alloc (.cells #[.int .i64 p', .int .i64 d', .slice A' us.length c'] 45)).cell? ⟨w.heap.size, 1, none⟩ = some (.int .i64 d) := by first | (simp; done) | (simp [go_sem]; done) | go_simp
  have s5 : ((w.alloc (.cells #[.int .i64 p, .int .i64 d, .slice A ts.length c] 45)).alloc (.cells #[.int .i64 p', .int .i64 d', .slice A' us.length c'] 45)).cell? ⟨w.heap.size + 1, 0, none⟩ = some (.int .i64 p') := by first | (simp; done) | (simp [go_sem]; done) | go_simp
  have s6 : ((w.alloc (.cells #[.int .i64 p, .int .i64 d, .slice A ts.length c] 45)).alloc (.cells #[.int .i64 p', .int .i64 d', .slice A' us.length c'] 45)).cell? ⟨w.heap.size + 1, 1, none⟩ = some (.int .i64 d') := by first | (simp; done) | (simp [go_sem]; done) | go_simp
  have hz0 : ((w.alloc (.cells #[.int .i64 p, .int .i64 d, .slice A ts.length c] 45)).alloc (.cells #[.int .i64 p', .int .i64 d', .slice A' us.length c'] 45)).heap.size = w.heap.size + 2 := by simp
  have acc0 := ACC0.out
  clear ACC0 r0 r1 r2 r3 r4 r5 o0 o1 o2 zlr zlo
  generalize (x.W.alloc (.cells #[.int .i64 p, .int .i64 d, .slice A1 ([] : List T4).length c1] 45)) = V at *
  generalize x.W.heap.size = ob at *
  generalize hrb : w.heap.size + 1 + 1 = rb at *
  generalize heb : w.heap.size + 1 = eb at *
  generalize hxb : w.heap.size = xb at *
  generalize ((w.alloc (.cells #[.int .i64 p, .int .i64 d, .slice A ts.length c] 45)).alloc (.cells #[.int .i64 p', .int .i64 d', .slice A' us.length c'] 45)) = W0 at *
  have hCV := Kd.C_below hC1 acc0.bel
  have hDV := Kd.C_below hD1 acc0.bel
  have u0 := pw_cell_below acc0.bel s0
  have u2 := pw_cell_below acc0.bel s2
  have u3 := pw_cell_below acc0.bel s3
  have u4 := pw_cell_below acc0.bel s4
  have u5 := pw_cell_below acc0.bel s5
  have u6 := pw_cell_below acc0.bel s6
  have zu0 := World.block_lt_of_cell? _ _ u0
  have zu2 := World.block_lt_of_cell? _ _ u2
  simp only [] at zu0 zu2
  have hA := fun (x : Later V) => l01Degree_c p d A c ts x.W (Kd.C_below hCV x.ok) (by omega)
  have hM := fun (x : Later V) => l01Degree_c p' d' A' c' us x.W (Kd.C_below hDV x.ok) (by omega)
  have hwr : IntKind.i64.wrap (degP ts + degP us) = degP ts + degP us := i64_small (by omega) (by omega)
  generalize degP ts = g1 at *
  generalize degP us = g2 at *
  (first | refine wp_region_later2 (by kernel_rfl) (by kernel_rfl) ?_ | refine wp_region_later (by kernel_rfl) (by kernel_rfl) ?_); (repeat (go_big_quiet_step (first | (go_at_call 97; with_reducible exact quiet_later (hA _)) | (go_at_call 97; with_reducible exact quiet_later (hM _))))); refine wpQuiet_nil ?_; intro x2
  have acc := acc0.below x2.ok
  clear hCV hDV hA hM u0 u2 u3 u4 u5 u6 zu0 zu2 acc0
  generalize x2.W = V2 at *
  have r0 := acc.r0
  have r1 := acc.r1
  have r2 := acc.r2
  have r3 := acc.r3 0
  have r4 := acc.r3 1
  have r5 := acc.r3 2
  have o0 := acc.o0
  have o1 := acc.o1
  have o2 := acc.o2
  have zlo := acc.lo
  have zlr := acc.lr
  have hne' := acc.hne
  have hrb' := acc.hrb
  have bel := acc.bel
  have hR := acc.R
  clear acc
  go_wp2
  refine bodyPost_ret (v := .tuple #[.agg #[.int .i64 p, .int .i64 d, .slice A1 0 c1], .bool false]) (by simp [results, Try.results99, go_sem, r0, r1, r2]) rfl ?_
  refine ⟨A1, c1, rfl, ?_, ?_⟩
  · exact R_set3 hR (fun k hk => hk.2) (by omega) _ _ _
  · rw [hxb]
    exact hbw.trans ((below_set3 bel hrb' _ _ _).mono (by omega))
theorem l01Put_nil (p d : Int) (A : Option Addr) (c : Nat) (e : E3) (v : Int) (w : World) (hC : kT.C w A 0 []) (hp : 2 ≤ p) (hp' : p ≤ 13) (hv0 : -1000000 ≤ v) (hv1 : v ≤ 1000000) :
    Calls Try.prog 143 #[.agg #[.int .i64 p, .int .i64 d, .slice A 0 c], .agg #[.int .u8 (e.a.toNat : Int), .int .u8 (e.b.toNat : Int), .int .u8 (e.c.toNat : Int)], .int .i64 v] w (MakesP p d 121 (putT p [] e v) w) :=
  l01Put_c p d A c [] e v w hC (by simp) hp hp' hv0 hv1 (canon_bd hp (canon_nil p) e)
set_option maxRecDepth 100000 in
theorem l01One_c (p d : Int) (e : E3) (v : Int) (w : World) (hp : 2 ≤ p) (hp' : p ≤ 13) (hv0 : -1000000 ≤ v) (hv1 : v ≤ 1000000) :
    Calls Try.prog 98 #[.int .i64 p, .int .i64 d, .agg #[.int .u8 (e.a.toNat : Int), .int .u8 (e.b.toNat : Int), .int .u8 (e.c.toNat : Int)], .int .i64 v] w (MakesP p d 121 (putT p [] e v) w) := by
  have b0 : ((w.alloc (.cells #[.int .u8 (e.a.toNat : Int), .int .u8 (e.b.toNat : Int), .int .u8 (e.c.toNat : Int)] 119)).alloc (.cells #[.int .i64 0, .int .i64 0, .slice none 0 0] 45)).cell? ⟨w.heap.size, 0, none⟩ = some (.int .u8 (e.a.toNat : Int)) := by first | (simp; done) | (simp [go_sem]; done) | go_simp
  have b1 : ((w.alloc (.cells #[.int .u8 (e.a.toNat : Int), .int .u8 (e.b.toNat : Int), .int .u8 (e.c.toNat : Int)] 119)).alloc (.cells #[.int .i64 0, .int .i64 0, .slice none 0 0] 45)).cell? ⟨w.heap.size, 1, none⟩ = some (.int .u8 (e.b.toNat : Int)) := by first | (simp; done) | (simp [go_sem]; done) | go_simp
  have b2 : ((w.alloc (.cells #[.int .u8 (e.a.toNat : Int), .int .u8 (e.b.toNat : Int), .int .u8 (e.c.toNat : Int)] 119)).alloc (.cells #[.int .i64 0, .int .i64 0, .slice none 0 0] 45)).cell? ⟨w.heap.size, 2, none⟩ = some (.int .u8 (e.c.toNat : Int)) := by first | (simp; done) | (simp [go_sem]; done) | go_simp
  have r0 : ((w.alloc (.cells #[.int .u8 (e.a.toNat : Int), .int .u8 (e.b.toNat : Int), .int .u8 (e.c.toNat : Int)] 119)).alloc (.cells #[.int .i64 0, .int .i64 0, .slice none 0 0] 45)).cell? ⟨w.heap.size + 1, 0, none⟩ = some (.int .i64 0) := by first | (simp; done) | (simp [go_sem]; done) | go_simp
  have r1 : ((w.alloc (.cells #[.int .u8 (e.a.toNat : Int), .int .u8 (e.b.toNat : Int), .int .u8 (e.c.toNat : Int)] 119)).alloc (.cells #[.int .i64 0, .int .i64 0, .slice none 0 0] 45)).cell? ⟨w.heap.size + 1, 1, none⟩ = some (.int .i64 0) := by first | (simp; done) | (simp [go_sem]; done) | go_simp
  have r2 : ((w.alloc (.cells #[.int .u8 (e.a.toNat : Int), .int .u8 (e.b.toNat : Int), .int .u8 (e.c.toNat : Int)] 119)).alloc (.cells #[.int .i64 0, .int .i64 0, .slice none 0 0] 45)).cell? ⟨w.heap.size + 1, 2, none⟩ = some (.slice none 0 0) := by first | (simp; done) | (simp [go_sem]; done) | go_simp
  have r3 : ∀ j, ((w.alloc (.cells #[.int .u8 (e.a.toNat : Int), .int .u8 (e.b.toNat : Int), .int .u8 (e.c.toNat : Int)] 119)).alloc (.cells #[.int .i64 0, .int .i64 0, .slice none 0 0] 45)).frozen? ⟨w.heap.size + 1, j, none⟩ = false := fun j => by first | (simp; done) | (simp [go_sem]; done) | go_simp
  have hbw : Below w.heap.size w ((w.alloc (.cells #[.int .u8 (e.a.toNat : Int), .int .u8 (e.b.toNat : Int), .int .u8 (e.c.toNat : Int)] 119)).alloc (.cells #[.int .i64 0, .int .i64 0, .slice none 0 0] 45)) := (by repeat (first | (with_reducible assumption) | (with_reducible exact Below.refl _ _) | (with_reducible refine Below.drew ?_) | (with_reducible refine pw_below_drewN ?_ _) | ((first | (with_reducible refine Below.alloc ?_ ?_ _) | (with_reducible refine Below.setCell ?_ ?_ _) | (with_reducible refine below_hop (by assumption) ?_ ?_)); rotate_left; (focus (first | omega | (simp; first | done | omega) | (simp [Later.le, Later.le_add, Later.lt, Later.lt_add]; first | done | omega)))) | ((with_reducible refine bel_later _ ?_ ?_); rotate_left; (focus (first | omega | (simp; first | done | omega) | (simp [Later.le, Later.le_add, Later.lt, Later.lt_add]; first | done | omega))))))
  have hz : ((w.alloc (.cells #[.int .u8 (e.a.toNat : Int), .int .u8 (e.b.toNat : Int), .int .u8 (e.c.toNat : Int)] 119)).alloc (.cells #[.int .i64 0, .int .i64 0, .slice none 0 0] 45)).heap.size = w.heap.size + 2 := by simp
  go_enter Try.func98, Try.ntmps98
  go_wp2
  generalize hrb : w.heap.size + 1 = rb at *
  generalize hxb : w.heap.size = xb at *
  generalize ((w.alloc (.cells #[.int .u8 (e.a.toNat : Int), .int .u8 (e.b.toNat : Int), .int .u8 (e.c.toNat : Int)] 119)).alloc (.cells #[.int .i64 0, .int .i64 0, .slice none 0 0] 45)) = V at *
  have zr : rb < V.heap.size := by omega
  have R3 := Lib.hid r3
  clear r3
  go_region_with (first | (go_at_call 96; (with_reducible refine to_makesP (V := V) (by repeat (first | (with_reducible assumption) | (with_reducible exact Below.refl _ _) | (with_reducible refine Below.drew ?_) | (with_reducible refine pw_below_drewN ?_ _) | ((first | (with_reducible refine Below.alloc ?_ ?_ _) | (with_reducible refine Below.setCell ?_ ?_ _) | (with_reducible refine below_hop (by assumption) ?_ ?_)); rotate_left; (focus (first | omega | (simp; first | done | omega) | (simp [Later.le, Later.le_add, Later.lt, Later.lt_add]; first | done | omega)))) | ((with_reducible refine bel_later _ ?_ ?_); rotate_left; (focus (first | omega | (simp; first | done | omega) | (simp [Later.le, Later.le_add, Later.lt, Later.lt_add]; first | done | omega)))))) (l01Empty_c _ _ _) ?_); intro W1 A1 c1 hx1 hvw1 hl1 hR1; have d0 := pw_cell_below hx1 b0; have d1 := pw_cell_below hx1 b1; have d2 := pw_cell_below hx1 b2; have zz1 := hx1.size; have hC1 : kT.C W1 A1 0 [] := (Kd.R_reads' hR1).2.2) | (go_at_call 143; (with_reducible refine to_makesP (V := V) (by repeat (first | (with_reducible assumption) | (with_reducible exact Below.refl _ _) | (with_reducible refine Below.drew ?_) | (with_reducible refine pw_below_drewN ?_ _) | ((first | (with_reducible refine Below.alloc ?_ ?_ _) | (with_reducible refine Below.setCell ?_ ?_ _) | (with_reducible refine below_hop (by assumption) ?_ ?_)); rotate_left; (focus (first | omega | (simp; first | done | omega) | (simp [Later.le, Later.le_add, Later.lt, Later.lt_add]; first | done | omega)))) | ((with_reducible refine bel_later _ ?_ ?_); rotate_left; (focus (first | omega | (simp; first | done | omega) | (simp [Later.le, Later.le_add, Later.lt, Later.lt_add]; first | done | omega)))))) (l01Put_nil p d A1 c1 e v _ (Kd.C_below hC1 (by repeat (first | (with_reducible assumption) | (with_reducible exact Below.refl _ _) | (with_reducible refine Below.drew ?_) | (with_reducible refine pw_below_drewN ?_ _) | ((first | (with_reducible refine Below.alloc ?_ ?_ _) | (with_reducible refine Below.setCell ?_ ?_ _) | (with_reducible refine below_hop (by assumption) ?_ ?_)); rotate_left; (focus (first | omega | (simp; first | done | omega) | (simp [Later.le, Later.le_add, Later.lt, Later.lt_add]; first | done | omega)))) | ((with_reducible refine bel_later _ ?_ ?_); rotate_left; (focus (first | omega | (simp; first | done | omega) | (simp [Later.le, Later.le_add, Later.lt, Later.lt_add]; first | done | omega))))))) hp hp' hv0 hv1) ?_); intro W2 A2 c2 hx2 hvw2 hl2 hR2; have s0 := pw_cell_below hx2 r0; have s1 := pw_cell_below hx2 r1; have s2 := pw_cell_below hx2 r2; have f0 := (hx2.frozen (p := ⟨rb, 0, none⟩) zr).trans (R3.out 0); have f1 := (hx2.frozen (p := ⟨rb, 1, none⟩) zr).trans (R3.out 1); have f2 := (hx2.frozen (p := ⟨rb, 2, none⟩) zr).trans (R3.out 2)))
  all_goals
    generalize putT p [] e v = xs at *
    go_wp2
    refine bodyPost_ret (v := .agg #[.int .i64 p, .int .i64 d, .slice A2 xs.length c2]) (by simp [results, Try.results98, go_sem, s0, s1, s2]) rfl ⟨A2, c2, rfl, ?_, ?_⟩
    · exact R_set3 (Kd.R_mono (Kd.R_bound hR2) (ok' := fun k => k ≠ rb) (fun k hk => by have := hk.2.1; omega)) (fun k hk => hk) (by omega) _ _ _
    · rw [hxb]
      exact below_set3 (hbw.trans (hx2.mono (by omega))) (by omega) _ _ _
end Go.Proofs.Ytneknpamceipiaa
/- Maps from monomials to numbers: what a look-up, a store and an addition in place leave; no condition. -/
set_option linter.unusedVariables false
set_option linter.unusedSimpArgs false
namespace Go.Proofs.Ytneknpamceipiaa
open Go.RowKit Go.Proofs.YtneknpamceipiaaW.PrintWords
attribute [local go_sem] Later.cell Later.frozen Later.lt Later.lt_add Later.le Later.le_add Later.ne Later.ne' add_at
open Go.Maps Go.WideMaps
theorem keyArr : ArrKey Try.prog 119 5 3 := ⟨Try.underlying119, by kernel_rfl, by kernel_rfl, by kernel_rfl⟩
theorem keyLaw : KeyLaw Try.prog 119 := keyArr.law
theorem keyed : Keyed Try.prog 119 := Keyed.of_law keyLaw
theorem typesPos : ∃ m, (Try.prog.types.size) = m + 1 := ⟨Try.prog.types.size - 1, by
  have : (0 : Nat) < Try.prog.types.size := of_decide_eq_true (by kernel_rfl)
  omega⟩
theorem keyOf_arr3 {P : Program} {k e : TypeId} {q : IntKind} (A : ArrKey P k e 3) (hq : P.underlying e = some (.int q)) (hsz : ∃ m, P.types.size = m + 1) {a b c : Int} (ha : (Lit.int q a).wf = true) (hb : (Lit.int q b).wf = true) (hc : (Lit.int q c).wf = true) :
    ∃ l, keyOf P k (.agg #[.int q a, .int q b, .int q c]) = some l := by
  have h1 := A.keyType hsz
  obtain ⟨m, hm⟩ := hsz
  have h2 : (Value.agg #[.int q a, .int q b, .int q c]).formed P k = true := by simp [Value.formed, A.hu, A.size]
  unfold keyOf
  rw [A.hu]
  simp only [h1, h2, Bool.and_self, if_true, hm]
  unfold Program.keyLits
  rw [A.hu]
  simp [A.size, A.one, Value.cells, List.range_succ, Program.keyLits, hq, ha, hb, hc]
theorem keyE (e : E3) : ∃ l, keyOf Try.prog 119 (.agg #[.int .u8 (e.a.toNat : Int), .int .u8 (e.b.toNat : Int), .int .u8 (e.c.toNat : Int)]) = some l := by
  have ha := e.a.toNat_lt
  have hb := e.b.toNat_lt
  have hc := e.c.toNat_lt
  refine keyOf_arr3 keyArr Try.underlying5 typesPos ?_ ?_ ?_
  all_goals (simp [Lit.wf, IntKind.min, IntKind.max, IntKind.signed, IntKind.bits]; try omega)
/-- The key of a monomial. -/
noncomputable def kl (e : E3) : Lit := Classical.choose (keyE e)
theorem kl_spec (e : E3) : keyOf Try.prog 119 (.agg #[.int .u8 (e.a.toNat : Int), .int .u8 (e.b.toNat : Int), .int .u8 (e.c.toNat : Int)]) = some (kl e) := Classical.choose_spec (keyE e)
theorem kl_inj {e f : E3} (h : kl e = kl f) : e = f := by
  have h1 := kl_spec e
  rw [h] at h1
  have h2 := keyed.inj h1 (kl_spec f)
  simp at h2
  exact E3_ext (by exact_mod_cast h2.1) (by exact_mod_cast h2.2.1) (by exact_mod_cast h2.2.2)
theorem kl_key (e : E3) : WideAt.IsKeyLit (kl e) := keyed.key (kl_spec e)
abbrev UnitD : Type := Unit
/-- Block b of w is a map of at most n entries that at each monomial holds f's number (0 where it holds none). -/
def SumAt (w : World) (b n : Nat) (f : E3 → Int) : Prop :=
  ∃ D : DataW UnitD, w.ownsMap Try.prog 119 (plainElem Try.prog 2) b n D ∧ ∀ e, D.atKey (kl e) (.lit (.int .i64 0)) = .lit (.int .i64 (f e))
def updF (f : E3 → Int) (e : E3) (v : Int) : E3 → Int := fun x => if x = e then v else f x
theorem zero64 (w : World) : (zeroValue 2).run Try.prog w = .ok (.int .i64 0) w := by kernel_rfl
theorem wf64 {n : Int} (h1 : -9223372036854775808 ≤ n) (h2 : n ≤ 9223372036854775807) : (Lit.int .i64 n).wf = true := by
  simp [Lit.wf, IntKind.min, IntKind.max, IntKind.signed, IntKind.bits]
  omega
theorem SumAt.made (w : World) : SumAt (w.alloc (.map #[] 0)) w.heap.size 0 (fun _ => 0) :=
  ⟨.map [], World.ownsMap_made w _ _ _, fun e => Maps.atKey_of_not_has rfl _⟩
theorem SumAt.kept {w w' : World} {b n : Nat} {f : E3 → Int} {row : Option Nat} (h : SumAt w b n f) (hg : w.grownBy w' row) (hne : some b ≠ row) : SumAt w' b n f := by
  obtain ⟨D, h1, h2⟩ := h
  exact ⟨D, h1.kept hg hne, h2⟩
theorem grownBy_of_below {w w' : World} (h : Below w.heap.size w w') : w.grownBy w' none := ⟨h.os, h.tape, h.output, h.size, fun i hi _ => h.block i hi⟩
theorem SumAt.below {w w' : World} {b n : Nat} {f : E3 → Int} (h : SumAt w b n f) (hb : Below w.heap.size w w') : SumAt w' b n f := h.kept (grownBy_of_below hb) (by simp)
theorem SumAt.lt {w : World} {b n : Nat} {f : E3 → Int} (h : SumAt w b n f) : b < w.heap.size := h.choose_spec.1.lt
theorem SumAt.put {w : World} {b n : Nat} {f : E3 → Int} {D : DataW UnitD} {D' : DataW UnitD} (hf : ∀ e, D.atKey (kl e) (.lit (.int .i64 0)) = .lit (.int .i64 (f e))) (e : E3) (v : Int) (hm : Maps.IsMap D) (hD : D' = D.put (kl e) (.lit (.int .i64 v))) :
    ∀ x, D'.atKey (kl x) (.lit (.int .i64 0)) = .lit (.int .i64 (updF f e v x)) := by
  intro x
  subst hD
  unfold updF
  by_cases h : x = e
  · rw [if_pos h, h]
    exact Maps.atKey_put_same hm (kl_key e) _ _
  · rw [if_neg h, Maps.atKey_put_other (fun hk => h (kl_inj hk))]
    exact hf x
theorem entry_full {H : Type} {P : Program} {w : World} {t k e : TypeId} {R : Value → Option (DataW H × List MemPlace)} {b : Nat} {es : Array MapEntry} {clock : Nat} (K : KeyLaw P k) (ht : P.underlying t = some (.map k e)) {z : Value} (hz : ∀ u : World, (zeroValue e).run P u = .ok z u) (hb : w.heap[b]? = some (.map es clock)) (F : Go.WideElems.Fit P k R es clock)
    {key : Value} {kk : Lit} (hkey : keyOf P k key = some kk) :
    ∃ (v0 : Value) (st : Nat) (es1 : Array MapEntry) (clock1 : Nat), (Instr.mapEntry t (.map (some b)) key).run P w = .ok (.tuple #[v0, goInt st]) (Go.ChangeMaps.setBlock w b (.map es1 clock1)) ∧
      (Instr.lookup t (.map (some b)) key false).run P w = .ok v0 w ∧ (∀ w2 : World, w2.heap[b]? = some (.map es1 clock1) → (Instr.lookup t (.map (some b)) key false).run P w2 = .ok v0 w2) ∧
      ∀ (w2 : World) (val : Value), w2.heap[b]? = some (.map es1 clock1) → ∃ es' clock', (Instr.entryStore t (.map (some b)) (goInt st) val).run P w2 = .ok () (Go.ChangeMaps.setBlock w2 b (.map es' clock')) ∧
        (Instr.mapUpdate t (.map (some b)) key val).run P w = .ok () (Go.ChangeMaps.setBlock w b (.map es' clock')) := by
  obtain ⟨b1, b2, b3⟩ := F.stamped
  have stored : ∀ (fs : Array MapEntry) (ck i : Nat) (x : MapEntry) (val : Value) (w2 : World), (fs.toList.map (·.born)).Nodup → fs.toList[i]? = some x → w2.heap[b]? = some (.map fs ck) →
      (Instr.entryStore t (.map (some b)) (goInt x.born) val).run P w2 = .ok () (Go.ChangeMaps.setBlock w2 b (.map (fs.modify i fun y => { y with val := val }) ck)) := by
    intro fs ck i x val w2 hnd hi hw2
    have hfi : fs.findIdx? (fun y => ((y.born : Nat) : Int) == ((x.born : Nat) : Int)) = some i := (Go.WideElems.findIdx_arr _ _).trans (Go.WideElems.findIdx_born hnd hi)
    simp [Instr.entryStore, MapKept.run_getObj_map hw2, asInt, asIntOf, goInt, hfi, MapKept.run_setObj_map _ hw2, Result.andThen, Go.ChangeMaps.setBlock]
  have looked : ∀ (fs : Array MapEntry) (ck : Nat) (x : MapEntry) (w2 : World), x ∈ fs.toList → x.key = key → (∀ y ∈ fs.toList, y.key = key → y.val = x.val) → (∀ y ∈ fs.toList, ∃ l, keyOf P k y.key = some l) → w2.heap[b]? = some (.map fs ck) →
      (Instr.lookup t (.map (some b)) key false).run P w2 = .ok x.val w2 := by
    intro fs ck x w2 hx hxk hu hks hw2
    rcases K.find w2 hkey fs.toList hks with ⟨_, g2⟩ | ⟨i, y, g1, g2, g3⟩
    · exact absurd hxk (g2 x hx)
    · have hv := hu y (List.mem_of_getElem? g2) g3
      simp [Instr.lookup, run_underlying ht, MapKept.run_getObj_map hw2, K.check w2 _ hkey, g1, hv, Result.andThen]
  rcases K.find w hkey es.toList F.keys with ⟨h1, h2⟩ | ⟨j, e0, h1, h2, h3⟩
  · have hin : (⟨key, z, clock⟩ : MapEntry) ∈ (es.push ⟨key, z, clock⟩).toList := by simp
    have hone : ∀ y ∈ (es.push ⟨key, z, clock⟩).toList, y.key = key → y.val = z := fun y hy hk => by
      rw [Array.toList_push, List.mem_append, List.mem_singleton] at hy
      rcases hy with hy | rfl
      · exact absurd hk (h2 y hy)
      · rfl
    have hkeys : ∀ y ∈ (es.push ⟨key, z, clock⟩).toList, ∃ l, keyOf P k y.key = some l := fun y hy => by
      rw [Array.toList_push, List.mem_append, List.mem_singleton] at hy
      rcases hy with hy | rfl
      · exact F.keys y hy
      · exact ⟨kk, hkey⟩
    have hborn : ((es.push ⟨key, z, clock⟩).toList.map (·.born)).Nodup := by
      rw [Array.toList_push, List.map_append, List.nodup_append]
      refine ⟨b2, by simp, fun x hx y hy hxy => ?_⟩
      obtain ⟨u, hu, rfl⟩ := List.mem_map.1 hx
      have h3 := b1 u hu
      have h4 : y = clock := by simpa using hy
      omega
    have hlast : ∀ val, (es.push ⟨key, z, clock⟩).modify es.size (fun y => { y with val := val }) = es.push ⟨key, val, clock⟩ := fun val => by
      refine Array.ext' ?_
      rw [Array.toList_modify, Array.toList_push, Array.toList_push, ← Array.length_toList]
      exact Go.WideElems.modify_last _ _ _
    refine ⟨z, clock, es.push ⟨key, z, clock⟩, clock + 1, ?_, ?_, fun w2 hw2 => looked _ _ _ w2 hin rfl hone hkeys hw2, fun w2 val hw2 => ⟨_, _, stored _ _ es.size ⟨key, z, clock⟩ val w2 hborn (by simp) hw2, ?_⟩⟩
    · simp [Instr.mapEntry, run_underlying ht, MapKept.run_getObj_map hb, K.check w false hkey, h1, hz, MapKept.run_setObj_map _ hb, Result.andThen, Go.ChangeMaps.setBlock]
    · simp [Instr.lookup, run_underlying ht, MapKept.run_getObj_map hb, K.check w _ hkey, h1, hz, Result.andThen]
    · rw [hlast]
      simp [Instr.mapUpdate, run_underlying ht, MapKept.run_getObj_map hb, K.check w false hkey, h1, MapKept.run_setObj_map _ hb, Result.andThen, Go.ChangeMaps.setBlock]
  · have hm0 := List.mem_of_getElem? h2
    have hone : ∀ y ∈ es.toList, y.key = key → y.val = e0.val := fun y hy hk => by
      rw [entry_eq_of_key ((Go.MapKept.stamped_iff es clock).1 ⟨b1, b2, b3⟩).2.2 hy hm0 (hk.trans h3.symm)]
    have hj : es[j]? = some e0 := by rw [← h2]; simp
    have hkeep : es.modify j (fun y => { y with key := key }) = es := by
      refine Array.ext' ?_
      rw [Array.toList_modify, Go.ChangeMaps.modify_eq_set _ _ _ _ h2]
      refine Go.WideElems.set_self _ _ _ ?_
      rw [h2, ← h3]
    have hput : ∀ val, es.modify j (fun y => { y with val := val }) = es.modify j (fun y => { y with key := key, val := val }) := fun val => by
      refine Array.ext' ?_
      rw [Array.toList_modify, Array.toList_modify, Go.ChangeMaps.modify_eq_set _ _ _ _ h2, Go.ChangeMaps.modify_eq_set _ _ _ _ h2, ← h3]
    refine ⟨e0.val, e0.born, es, clock, ?_, looked es clock e0 w hm0 h3 hone F.keys hb, fun w2 hw2 => looked es clock e0 w2 hm0 h3 hone F.keys hw2, fun w2 val hw2 => ⟨_, _, stored es clock j e0 val w2 b2 h2 hw2, ?_⟩⟩
    · simp [Instr.mapEntry, run_underlying ht, MapKept.run_getObj_map hb, K.check w false hkey, h1, hj, h3, K.stays w hkey, hkeep, MapKept.run_setObj_map _ hb, Result.andThen, Go.ChangeMaps.setBlock]
    · rw [hput]
      simp [Instr.mapUpdate, run_underlying ht, MapKept.run_getObj_map hb, K.check w false hkey, h1, hj, h3, K.stays w hkey, MapKept.run_setObj_map _ hb, Result.andThen, Go.ChangeMaps.setBlock]
theorem setBlock_twice (w : World) (b : Nat) (x y : Obj) : Go.ChangeMaps.setBlock (Go.ChangeMaps.setBlock w b x) b y = Go.ChangeMaps.setBlock w b y := by
  simp [Go.ChangeMaps.setBlock]
theorem mapTy : Try.prog.underlying 164 = some (.map 119 2) := Try.underlying164
/-- What 's[e] += v' finds and leaves, in whatever order. -/
theorem SumAt.region {w : World} {b n : Nat} {f : E3 → Int} (h : SumAt w b n f) (hn : n < maxLen) (e : E3) :
    ∃ (st : Nat) (W1 : World), (Instr.lookup 164 (.map (some b)) (.agg #[.int .u8 (e.a.toNat : Int), .int .u8 (e.b.toNat : Int), .int .u8 (e.c.toNat : Int)]) false).run Try.prog w = .ok (.int .i64 (f e)) w ∧ (Instr.mapEntry 164 (.map (some b)) (.agg #[.int .u8 (e.a.toNat : Int), .int .u8 (e.b.toNat : Int), .int .u8 (e.c.toNat : Int)])).run Try.prog w = .ok (.tuple #[.int .i64 (f e), .int .i64 st]) W1 ∧
      (Instr.lookup 164 (.map (some b)) (.agg #[.int .u8 (e.a.toNat : Int), .int .u8 (e.b.toNat : Int), .int .u8 (e.c.toNat : Int)]) false).run Try.prog W1 = .ok (.int .i64 (f e)) W1 ∧ w.grownBy W1 (some b) ∧ W1.heap.size = w.heap.size ∧
      ∀ v, -9223372036854775808 ≤ v → v ≤ 9223372036854775807 → ∃ W2, (Instr.entryStore 164 (.map (some b)) (.int .i64 st) (.int .i64 v)).run Try.prog W1 = .ok () W2 ∧ SumAt W2 b (n + 1) (updF f e v) ∧ w.grownBy W2 (some b) ∧ W2.heap.size = w.heap.size := by
  obtain ⟨D, hown, hf⟩ := h
  obtain ⟨c, hl, hat, _⟩ := hown.lookup_int keyed mapTy Try.underlying2 (zero64 w) (kl_spec e)
  have hc : c = f e := by
    rw [hf e] at hat
    simpa using hat.symm
  subst hc
  have hm := hown.isMap
  obtain ⟨es, clock, hb, F, hs, hD⟩ := id hown
  obtain ⟨v0, st, es1, clock1, h1, h2, h3, h4⟩ := entry_full keyLaw mapTy zero64 hb F (kl_spec e)
  have hv0 : v0 = .int .i64 (f e) := by
    rw [h2] at hl
    simpa using hl
  subst hv0
  have hb1 : (Go.ChangeMaps.setBlock w b (.map es1 clock1)).heap[b]? = some (.map es1 clock1) := Go.ChangeMaps.heap_setBlock_same hb _
  have hg1 : w.grownBy (Go.ChangeMaps.setBlock w b (.map es1 clock1)) (some b) := ⟨rfl, rfl, rfl, by simp [Go.ChangeMaps.setBlock], fun i _ hi => Go.ChangeMaps.heap_setBlock_other hb _ (fun e => hi (by rw [e]))⟩
  refine ⟨st, _, hl, h1, h3 _ hb1, hg1, by simp [Go.ChangeMaps.setBlock], fun v hv0 hv1 => ?_⟩
  obtain ⟨es', clock', k1, k2⟩ := h4 _ (.int .i64 v) hb1
  obtain ⟨w', hr, ho, hg⟩ := hown.update keyed mapTy hn (kl_spec e) (plainElem_int Try.underlying2 (wf64 hv0 hv1))
  rw [k2] at hr
  have hw : Go.ChangeMaps.setBlock w b (.map es' clock') = w' := by simpa using hr
  rw [setBlock_twice, hw] at k1
  exact ⟨w', k1, ⟨_, ho, SumAt.put (w := w) (b := b) (n := n) hf e v hm rfl⟩, hg, by rw [← hw]; simp [Go.ChangeMaps.setBlock]⟩
/-- 's[e] = v'. -/
theorem SumAt.store {w : World} {b n : Nat} {f : E3 → Int} (h : SumAt w b n f) (hn : n < maxLen) (e : E3) :
    (Instr.lookup 164 (.map (some b)) (.agg #[.int .u8 (e.a.toNat : Int), .int .u8 (e.b.toNat : Int), .int .u8 (e.c.toNat : Int)]) false).run Try.prog w = .ok (.int .i64 (f e)) w ∧
      ∀ v, -9223372036854775808 ≤ v → v ≤ 9223372036854775807 → ∃ W2, (Instr.mapUpdate 164 (.map (some b)) (.agg #[.int .u8 (e.a.toNat : Int), .int .u8 (e.b.toNat : Int), .int .u8 (e.c.toNat : Int)]) (.int .i64 v)).run Try.prog w = .ok () W2 ∧ SumAt W2 b (n + 1) (updF f e v) ∧ w.grownBy W2 (some b) := by
  obtain ⟨D, hown, hf⟩ := h
  obtain ⟨c, hl, hat, _⟩ := hown.lookup_int keyed mapTy Try.underlying2 (zero64 w) (kl_spec e)
  have hc : c = f e := by
    rw [hf e] at hat
    simpa using hat.symm
  subst hc
  refine ⟨hl, fun v hv0 hv1 => ?_⟩
  obtain ⟨w', hr, ho, hg⟩ := hown.update keyed mapTy hn (kl_spec e) (plainElem_int Try.underlying2 (wf64 hv0 hv1))
  exact ⟨w', hr, ⟨_, ho, SumAt.put (w := w) (b := b) (n := n) hf e v hown.isMap rfl⟩, hg⟩
end Go.Proofs.Ytneknpamceipiaa

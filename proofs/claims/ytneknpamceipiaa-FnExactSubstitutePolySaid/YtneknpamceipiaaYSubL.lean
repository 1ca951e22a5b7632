/- PLAIN LAW: products of canonical lists of terms are associative, commutative and distribute; powers; substitution of both sides; no condition. -/
import Derived.Test.YtneknpamceipiaaYKitS
set_option linter.unusedVariables false
namespace Go.Proofs.Ytneknpamceipiaa
/-! ### lists of terms as sums over functions of the monomial -/
def itT (xs : List T4) (f : E3 → Int) : Int := (xs.map fun t => t.v * f t.e).sum
def itP (l : List (E3 × Int)) (f : E3 → Int) : Int := (l.map fun q => q.2 * f q.1).sum
theorem itT_nil (f : E3 → Int) : itT [] f = 0 := rfl
theorem itT_cons (t : T4) (xs : List T4) (f : E3 → Int) : itT (t :: xs) f = t.v * f t.e + itT xs f := by simp [itT]
theorem itT_append (xs ys : List T4) (f : E3 → Int) : itT (xs ++ ys) f = itT xs f + itT ys f := by simp [itT]
theorem itP_cons (q : E3 × Int) (l : List (E3 × Int)) (f : E3 → Int) : itP (q :: l) f = q.2 * f q.1 + itP l f := by simp [itP]
theorem itP_append (l m : List (E3 × Int)) (f : E3 → Int) : itP (l ++ m) f = itP l f + itP m f := by simp [itP]
theorem itT_filter (e : E3) (f : E3 → Int) : ∀ {ts : List T4}, SortT ts → itT (ts.filter (fun t => t.e != e)) f = itT ts f - coefL ts e * f e
  | [], _ => by simp [itT, coefL]
  | t :: ts, h => by
    have ih := itT_filter e f (List.pairwise_cons.1 h).2
    by_cases he : t.e = e
    · have h0 : coefL ts e = 0 := coef_after h (.inr he.symm)
      rw [List.filter_cons_of_neg (by simp [he]), ih, h0, itT_cons, ← he, coef_head]
      rw [Int.zero_mul]
      omega
    · rw [List.filter_cons_of_pos (by simp [he]), itT_cons, itT_cons, ih, coef_cons he]
      omega
theorem itT_putGo (e : E3) (v : Int) (f : E3 → Int) : ∀ (ts : List T4) (d : Bool), itT (putGo e v ts d) f = itT (ts.filter (fun t => t.e != e)) f + (if d then 0 else v * f e)
  | [], d => by cases d <;> simp [putGo, itT]
  | t :: ts, d => by
    have ih := itT_putGo e v f ts (d || befE e t.e)
    show itT ((if !d && befE e t.e then [⟨e, v⟩] else []) ++ (if t.e != e then [t] else []) ++ putGo e v ts (d || befE e t.e)) f = _
    rw [itT_append, itT_append, ih]
    have e1 : itT ((t :: ts).filter (fun t => t.e != e)) f = itT (if t.e != e then [t] else []) f + itT (ts.filter (fun t => t.e != e)) f := by
      by_cases he : t.e = e
      · simp [he, itT]
      · simp [he, itT]
    rw [e1]
    cases d <;> cases befE e t.e <;> simp [itT] <;> omega
theorem itT_putT {p : Int} {ts : List T4} (h : SortT ts) (e : E3) (v : Int) (f : E3 → Int) : itT (putT p ts e v) f = itT ts f - coefL ts e * f e + (v + coefL ts e) % p * f e := by
  unfold putT
  rw [itT_putGo, itT_filter e f h]
  cases hz : (v + coefL ts e) % p == 0 with
  | true =>
    have : (v + coefL ts e) % p = 0 := by simpa using hz
    rw [this]
    simp
  | false => simp
theorem emod_eq_of_sub {a b p k : Int} (h : a - b = p * k) : a % p = b % p := by
  have : a = b + p * k := by omega
  rw [this, Int.add_mul_emod_self_left]
theorem itT_putT_mod {p : Int} {ts : List T4} (h : SortT ts) (e : E3) (v : Int) (f : E3 → Int) : itT (putT p ts e v) f % p = (itT ts f + v * f e) % p := by
  rw [itT_putT h]
  have h1 := Int.emod_add_mul_ediv (v + coefL ts e) p
  generalize (v + coefL ts e) / p = k at *
  generalize (v + coefL ts e) % p = m at *
  refine emod_eq_of_sub (k := - (k * f e)) ?_
  have h2 : m = v + coefL ts e - p * k := by omega
  rw [h2]
  simp only [Int.sub_mul, Int.add_mul, Int.mul_neg, Int.mul_assoc]
  omega
theorem itT_putsT {p : Int} (hp : 2 ≤ p) (f : E3 → Int) : ∀ (l : List (E3 × Int)) {ts : List T4}, Canon p ts → itT (putsT p ts l) f % p = (itT ts f + itP l f) % p
  | [], ts, _ => by simp [putsT, itP]
  | q :: l, ts, h => by
    have ih := itT_putsT hp f l (putT_canon hp h q.1 q.2)
    have h1 := itT_putT_mod (p := p) h.1 q.1 q.2 f
    show itT (putsT p (putT p ts q.1 q.2) l) f % p = _
    rw [ih, itP_cons, Int.add_emod, h1, ← Int.add_emod]
    congr 1
    omega
/-! ### the indicator of a monomial -/
def ind (e : E3) (x : E3) : Int := if x = e then 1 else 0
theorem itT_ind {ts : List T4} (e : E3) : SortT ts → itT ts (ind e) = coefL ts e := by
  intro h
  have := sumAt_sort (e := e) h
  rw [← this]
  clear this h
  induction ts with
  | nil => rfl
  | cons t ts ih =>
    rw [itT_cons, ih]
    show _ = sumAt ((t.e, 1 * t.v) :: pairsT 1 ts) e
    rw [sumAt_cons]
    by_cases h : t.e = e
    · simp [ind, h]
    · simp [ind, h]
theorem canon_it {p : Int} (hp : 2 ≤ p) {a b : List T4} (ha : Canon p a) (hb : Canon p b) (h : ∀ f, itT a f % p = itT b f % p) : a = b := by
  refine canon_ext ha hb fun e => ?_
  have h1 := h (ind e)
  rw [itT_ind e ha.1, itT_ind e hb.1] at h1
  have h2 := canon_bd hp ha e
  have h3 := canon_bd hp hb e
  rw [Int.emod_eq_of_lt h2.1 h2.2, Int.emod_eq_of_lt h3.1 h3.2] at h1
  exact h1
theorem itT_congr {p : Int} {f g : E3 → Int} (h : ∀ e, f e % p = g e % p) : ∀ xs : List T4, itT xs f % p = itT xs g % p
  | [] => rfl
  | t :: xs => by
    rw [itT_cons, itT_cons, Int.add_emod, Int.mul_emod, h t.e, ← Int.mul_emod, itT_congr h xs, ← Int.add_emod]
theorem itT_ext {f g : E3 → Int} (h : ∀ e, f e = g e) (xs : List T4) : itT xs f = itT xs g := by
  have : f = g := funext h
  rw [this]
theorem itT_mul (k : Int) (f : E3 → Int) : ∀ xs : List T4, itT xs (fun e => k * f e) = k * itT xs f
  | [] => by simp [itT]
  | t :: xs => by
    rw [itT_cons, itT_cons, itT_mul k f xs, Int.mul_add, Int.mul_left_comm]
theorem itT_add (f g : E3 → Int) : ∀ xs : List T4, itT xs (fun e => f e + g e) = itT xs f + itT xs g
  | [] => by simp [itT]
  | t :: xs => by
    rw [itT_cons, itT_cons, itT_cons, itT_add f g xs, Int.mul_add]
    omega
/-- The sums of two lists may be taken in either order. -/
theorem itT_swap (g : E3 → E3 → Int) (ys : List T4) : ∀ xs : List T4, itT xs (fun a => itT ys (fun b => g a b)) = itT ys (fun b => itT xs (fun a => g a b))
  | [] => by
    have : ∀ b, itT [] (fun a => g a b) = 0 := fun b => rfl
    rw [itT_ext this]
    have e := itT_mul 0 (fun _ => 0) ys
    simp only [Int.zero_mul] at e
    rw [e]
    rfl
  | t :: xs => by
    rw [itT_cons, itT_swap g ys xs, ← itT_mul]
    have : ∀ b, itT (t :: xs) (fun a => g a b) = t.v * g t.e b + itT xs (fun a => g a b) := fun b => itT_cons _ _ _
    rw [itT_ext this, itT_add]
theorem itP_row (a : T4) (f : E3 → Int) : ∀ ys : List T4, itP (rowP a ys) f = a.v * itT ys (fun b => f (mulE a.e b))
  | [] => by simp [rowP, itP, itT]
  | b :: ys => by
    have : rowP a (b :: ys) = (mulE a.e b.e, a.v * b.v) :: rowP a ys := rfl
    rw [this, itP_cons, itP_row a f ys, itT_cons, Int.mul_add, Int.mul_assoc]
theorem itP_mulP (f : E3 → Int) (ys : List T4) : ∀ xs : List T4, itP (mulP xs ys) f = itT xs (fun a => itT ys (fun b => f (mulE a b)))
  | [] => rfl
  | a :: xs => by
    show itP (rowP a ys ++ mulP xs ys) f = _
    rw [itP_append, itP_row, itP_mulP f ys xs, itT_cons]
theorem itT_mulL {p : Int} (hp : 2 ≤ p) (xs ys : List T4) (f : E3 → Int) : itT (mulL p xs ys) f % p = itT xs (fun a => itT ys (fun b => f (mulE a b))) % p := by
  unfold mulL
  rw [itT_putsT hp f _ (canon_nil p), itP_mulP, itT_nil, Int.zero_add]
theorem mulE_assoc (a b c : E3) : mulE (mulE a b) c = mulE a (mulE b c) := by simp [mulE, UInt8.add_assoc]
theorem mulE_comm (a b : E3) : mulE a b = mulE b a := by simp [mulE, UInt8.add_comm]
theorem mulE_zero (a : E3) : mulE z3 a = a := by simp [mulE, z3]
theorem mulL_assoc {p : Int} (hp : 2 ≤ p) (xs ys zs : List T4) : mulL p (mulL p xs ys) zs = mulL p xs (mulL p ys zs) := by
  refine canon_it hp (mulL_canon hp _ _) (mulL_canon hp _ _) fun f => ?_
  rw [itT_mulL hp, itT_mulL hp, itT_mulL hp]
  have h : ∀ a, itT (mulL p ys zs) (fun b => f (mulE a b)) % p = itT ys (fun b => itT zs (fun c => f (mulE a (mulE b c)))) % p := fun a => itT_mulL hp ys zs _
  rw [itT_congr h]
  congr 1
  refine itT_ext (fun a => itT_ext (fun b => itT_ext (fun c => ?_) _) _) _
  rw [mulE_assoc]
theorem mulL_comm {p : Int} (hp : 2 ≤ p) (xs ys : List T4) : mulL p xs ys = mulL p ys xs := by
  refine canon_it hp (mulL_canon hp _ _) (mulL_canon hp _ _) fun f => ?_
  rw [itT_mulL hp, itT_mulL hp, itT_swap]
  congr 1
  refine itT_ext (fun a => itT_ext (fun b => ?_) _) _
  rw [mulE_comm]
theorem itT_one {p : Int} (hp : 2 ≤ p) (v : Int) (e : E3) (f : E3 → Int) : itT (putT p [] e v) f % p = v * f e % p := by
  rw [itT_putT_mod (canon_nil p).1]
  simp [itT]
theorem one_mulL {p : Int} (hp : 2 ≤ p) {ys : List T4} (h : Canon p ys) : mulL p (oneL p) ys = ys := by
  refine canon_it hp (mulL_canon hp _ _) h fun f => ?_
  rw [itT_mulL hp, oneL, itT_one hp]
  simp only [mulE_zero, Int.one_mul]
theorem mulL_one {p : Int} (hp : 2 ≤ p) {ys : List T4} (h : Canon p ys) : mulL p ys (oneL p) = ys := by
  rw [mulL_comm hp, one_mulL hp h]
/-! ### powers -/
/-- a, and y multiplied to it n times. -/
def timL (p : Int) (a y : List T4) : Nat → List T4
  | 0 => a
  | n + 1 => mulL p (timL p a y n) y
theorem timL_canon {p : Int} (hp : 2 ≤ p) {a : List T4} (h : Canon p a) (y : List T4) : ∀ n, Canon p (timL p a y n)
  | 0 => h
  | n + 1 => mulL_canon hp _ _
theorem timL_pow {p : Int} (hp : 2 ≤ p) {a y : List T4} (ha : Canon p a) (hy : Canon p y) : ∀ n, timL p a y n = mulL p a (powL p y n)
  | 0 => (mulL_one hp ha).symm
  | n + 1 => by
    show mulL p (timL p a y n) y = mulL p a (mulL p (powL p y n) y)
    rw [timL_pow hp ha hy n, mulL_assoc hp]
/-! ### substitution -/
/-- One term: its number, and the powers of the list's polynomials, multiplied one by one. -/
def oneTerm (p : Int) (ys : List (List T4)) (t : T4) : Nat → List T4
  | 0 => putT p [] z3 t.v
  | k + 1 => timL p (oneTerm p ys t k) (ys.getD k []) (t.e.at k).toNat
/-- The same with whole powers. -/
def oneTermW (p : Int) (ys : List (List T4)) (t : T4) : Nat → List T4
  | 0 => putT p [] z3 t.v
  | k + 1 => if (t.e.at k).toNat = 0 then oneTermW p ys t k else mulL p (oneTermW p ys t k) (powL p (ys.getD k []) (t.e.at k).toNat)
theorem oneTerm_canon {p : Int} (hp : 2 ≤ p) (ys : List (List T4)) (t : T4) : ∀ k, Canon p (oneTerm p ys t k)
  | 0 => putT_canon hp (canon_nil p) _ _
  | k + 1 => timL_canon hp (oneTerm_canon hp ys t k) _ _
theorem oneTerm_eq {p : Int} (hp : 2 ≤ p) {ys : List (List T4)} (hy : ∀ y ∈ ys, Canon p y) (t : T4) : ∀ k, oneTermW p ys t k = oneTerm p ys t k
  | 0 => rfl
  | k + 1 => by
    have hk : Canon p (ys.getD k []) := by
      rw [List.getD_eq_getElem?_getD]
      cases h : ys[k]? with
      | none => exact canon_nil p
      | some y => exact hy y (List.mem_of_getElem? h)
    show (if (t.e.at k).toNat = 0 then oneTermW p ys t k else mulL p (oneTermW p ys t k) (powL p (ys.getD k []) (t.e.at k).toNat)) = timL p (oneTerm p ys t k) (ys.getD k []) (t.e.at k).toNat
    rw [oneTerm_eq hp hy t k]
    split
    · rename_i h
      rw [h]
      rfl
    · rw [timL_pow hp (oneTerm_canon hp ys t k) hk]
/-- The substitution. -/
def subL (p : Int) (ys : List (List T4)) (xs : List T4) : List T4 := xs.foldl (fun acc t => putsT p acc (pairsT 1 (oneTerm p ys t ys.length))) []
theorem subL_snoc (p : Int) (ys : List (List T4)) (xs : List T4) (t : T4) : subL p ys (xs ++ [t]) = putsT p (subL p ys xs) (pairsT 1 (oneTerm p ys t ys.length)) := by simp [subL]
theorem subL_canon {p : Int} (hp : 2 ≤ p) (ys : List (List T4)) (xs : List T4) : Canon p (subL p ys xs) := by
  have : ∀ (xs : List T4) (acc : List T4), Canon p acc → Canon p (xs.foldl (fun acc t => putsT p acc (pairsT 1 (oneTerm p ys t ys.length))) acc) := by
    intro xs
    induction xs with
    | nil => exact fun acc h => h
    | cons t xs ih => exact fun acc h => ih _ (putsT_canon hp _ h)
  exact this xs [] (canon_nil p)
theorem subL_step (p : Int) (ys : List (List T4)) {xs : List T4} {i : Nat} (h : i < xs.length) : subL p ys (xs.take (i + 1)) = putsT p (subL p ys (xs.take i)) (pairsT 1 (oneTerm p ys (xs.getD i z4) ys.length)) := by
  rw [take_getD h, subL_snoc]
/-! ### degree bounds -/
def bndT (ys : List (List T4)) (t : T4) : Nat → Int
  | 0 => 0
  | k + 1 => bndT ys t k + ((t.e.at k).toNat : Int) * max (degP (ys.getD k [])) 0
theorem bndT_nonneg (ys : List (List T4)) (t : T4) : ∀ k, 0 ≤ bndT ys t k
  | 0 => Int.le_refl 0
  | k + 1 => by
    have h1 := bndT_nonneg ys t k
    have h2 : 0 ≤ ((t.e.at k).toNat : Int) * max (degP (ys.getD k [])) 0 := Int.mul_nonneg (by omega) (by omega)
    show 0 ≤ bndT ys t k + _
    omega
theorem bndT_mono (ys : List (List T4)) (t : T4) (k : Nat) : ∀ m, bndT ys t k ≤ bndT ys t (k + m)
  | 0 => Int.le_refl _
  | m + 1 => by
    have h1 := bndT_mono ys t k m
    have h2 : 0 ≤ ((t.e.at (k + m)).toNat : Int) * max (degP (ys.getD (k + m) [])) 0 := Int.mul_nonneg (by omega) (by omega)
    have e : bndT ys t (k + (m + 1)) = bndT ys t (k + m) + ((t.e.at (k + m)).toNat : Int) * max (degP (ys.getD (k + m) [])) 0 := rfl
    rw [e]
    omega
theorem timL_deg {p : Int} (hp : 2 ≤ p) {a y : List T4} (ha : Canon p a) (hy : SortT y) (m : Int) (hm : 0 ≤ m) (h : degP a ≤ m) : ∀ n : Nat, degP (timL p a y n) ≤ m + n * max (degP y) 0
  | 0 => by simpa [timL] using h
  | n + 1 => by
    have h1 := timL_deg hp ha hy m hm h n
    have h0 : 0 ≤ ((n + 1 : Nat) : Int) * max (degP y) 0 := Int.mul_nonneg (by omega) (by omega)
    refine mulL_deg (timL_canon hp ha y n).1 hy _ (by omega) fun _ h => ?_
    have h2 := degP_pos h
    rw [Int.natCast_succ, Int.add_mul]
    omega
theorem putT_deg0 (p : Int) (v : Int) : degP (putT p [] z3 v) ≤ 0 := by
  refine degP_le (by omega) fun t ht => ?_
  rcases putT_mem ht with h | h
  · rw [h]; decide
  · cases h
theorem oneTerm_deg {p : Int} (hp : 2 ≤ p) {ys : List (List T4)} (hy : ∀ y ∈ ys, Canon p y) (t : T4) : ∀ k, degP (oneTerm p ys t k) ≤ bndT ys t k
  | 0 => putT_deg0 p t.v
  | k + 1 => by
    have hk : Canon p (ys.getD k []) := by
      rw [List.getD_eq_getElem?_getD]
      cases h : ys[k]? with
      | none => exact canon_nil p
      | some y => exact hy y (List.mem_of_getElem? h)
    exact timL_deg hp (oneTerm_canon hp ys t k) hk.1 _ (bndT_nonneg ys t k) (oneTerm_deg hp hy t k) _
end Go.Proofs.Ytneknpamceipiaa

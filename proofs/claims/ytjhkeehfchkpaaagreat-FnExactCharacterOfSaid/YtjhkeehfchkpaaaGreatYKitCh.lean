/- Walks of the functions on polynomials, numbers and rows, of both sides; no condition. -/
import Derived.Test.YtjhkeehfchkpaaaGreatYE4
import Derived.Test.YtjhkeehfchkpaaaGreatYAct4
import Derived.Test.YtjhkeehfchkpaaaGreatYSame1
import Derived.Test.YtjhkeehfchkpaaaGreatYRey1
import Derived.Test.YtjhkeehfchkpaaaGreatYKitK
import Derived.Test.YtjhkeehfchkpaaaGreatYKitE
import Derived.Test.YtjhkeehfchkpaaaGreatYKitI
import Derived.Test.YtjhkeehfchkpaaaGreatYHeldI
import Derived.Test.YtjhkeehfchkpaaaGreatYKitA
/- PLAIN LAW of characters; no condition. -/
set_option linter.unusedVariables false
set_option linter.unusedSimpArgs false
namespace Go.Proofs.YtjhkeehfchkpaaaGreat
open Go.RowKit Go.Proofs.YtjhkeehfchkpaaaGreatW.PrintWords
attribute [local go_sem] Later.cell Later.frozen Later.lt Later.lt_add Later.le Later.le_add Later.ne Later.ne' add_at
theorem likes_atC {p : Int} {n : Nat} {ps : List PV} (h : Likes p n ps) {j : Nat} (hj : j < ps.length) : ∃ xt, ps.getD j zP = ⟨p, n, xt⟩ ∧ Canon p xt ∧ ∀ t ∈ xt, degE t.e ≤ 12 := by
  have hm := getD_memP hj
  have h0 := h.pp _ hm
  have h1 := h.dd _ hm
  refine ⟨(ps.getD j zP).ts, ?_, h.can _ hm, h.deg _ hm⟩
  rw [← h0, ← h1]
theorem kP_ownC {e base n c : Nat} {ok : Nat → Prop} {W : World} {A : Option Addr} {ps : List PV} (h : kP.R e W base ok (.slice A n c) ps) {i : Nat} (hi : i < n) {p d : Int} {xt : List T4} (hx : ps.getD i zP = ⟨p, d, xt⟩) :
    ∃ b o A' c', A = some ⟨b, o, none⟩ ∧ W.cell? ⟨b, o + i * 3, none⟩ = some (.int .i64 p) ∧ W.cell? ⟨b, o + i * 3 + 1, none⟩ = some (.int .i64 d) ∧ W.cell? ⟨b, o + i * 3 + 2, none⟩ = some (.slice A' xt.length c') ∧ kT.R 80 W base ok (.slice A' xt.length c') xt := by
  obtain ⟨hn, hnc, hC⟩ := Kd.R_reads' h
  subst hn
  obtain ⟨g, cap, hv, _⟩ := Kd.R_form h (by omega)
  injection hv with hA _ hc
  subst hA
  obtain ⟨cs, hl, hM, hcell, _⟩ := Kd.R_elem h zP (i : Int) (by omega) (by omega)
  rw [Int.toNat_natCast] at hM
  rw [hx] at hM
  obtain ⟨A', c', rfl, hR⟩ := hM
  have q0 := hcell 0 _ rfl
  have q1 := hcell 1 _ rfl
  have q2 := hcell 2 _ rfl
  rw [Int.toNat_natCast] at q0 q1 q2
  refine ⟨g, 0, A', c', rfl, ?_, ?_, ?_, Kd.R_mono hR fun k hk => hk.1⟩
  · rw [Nat.zero_add]; exact q0
  · rw [Nat.zero_add]; exact q1
  · rw [Nat.zero_add]; exact q2
theorem kP_seeC {n : Nat} {W : World} {A : Option Addr} {ps : List PV} (h : kP.C W A n ps) {i : Nat} (hi : i < n) {p d : Int} {xt : List T4} (hx : ps.getD i zP = ⟨p, d, xt⟩) :
    ∃ b o A' c', A = some ⟨b, o, none⟩ ∧ W.cell? ⟨b, o + i * 3, none⟩ = some (.int .i64 p) ∧ W.cell? ⟨b, o + i * 3 + 1, none⟩ = some (.int .i64 d) ∧ W.cell? ⟨b, o + i * 3 + 2, none⟩ = some (.slice A' xt.length c') ∧ kT.C W A' xt.length xt := by
  have := kP_at h i hi
  rw [hx] at this
  exact this
theorem MakesIC_nil (k : Int) (E : Nat) {w W : World} (h : Below w.heap.size w W) : MakesIC ⟨[], k⟩ E w (.returned (.tuple #[.slice none 0 0, .int .i64 k])) W := ⟨none, 0, rfl, Kd.R_nil _ _ _ _ _, h⟩
theorem call_makesIC {r : IC} {E : Nat} {P : Program} {f : FuncId} {args : Array Value} {w : World} {R : Ending → World → Prop}
    (h : Calls P f args w (MakesIC r E w)) (k : ∀ (x : Later w) A c, Below w.heap.size w x.W → r.xs.length ≤ c → kI.R E x.W w.heap.size (fun _ => True) (.slice A r.xs.length c) r.xs → R (.returned (.tuple #[.slice A r.xs.length c, .int .i64 r.c])) x.W) : Calls P f args w R :=
  h.mono fun _ w' ⟨A, c, he, hr, hb⟩ => by
    subst he
    exact k ⟨w', hb⟩ A c hb (Kd.R_reads' hr).2.1 hr
theorem call_makesIC2 {r : IC} {E : Nat} {P : Program} {f : FuncId} {args : Array Value} {w : World} {y : Later w} {R : Ending → World → Prop}
    (h : Calls P f args y.W (MakesIC r E y.W)) (k : ∀ (x : Later w) A c, Below y.W.heap.size y.W x.W → r.xs.length ≤ c → kI.R E x.W y.W.heap.size (fun _ => True) (.slice A r.xs.length c) r.xs → R (.returned (.tuple #[.slice A r.xs.length c, .int .i64 r.c])) x.W) : Calls P f args y.W R :=
  h.mono fun _ w' ⟨A, c, he, hr, hb⟩ => by
    subst he
    exact k ⟨w', y.ok.trans (hb.mono y.ok.size)⟩ A c hb (Kd.R_reads' hr).2.1 hr
theorem rowCut_same {α : Type} {d : Kd α} {E lo base : Nat} {X : World} {v : Value} {xs : List α} (h : d.R E X base (fun _ => True) v xs) (hb : lo ≤ base) : d.R E X lo (fun k => lo ≤ k ∧ k < X.heap.size) v xs :=
  Kd.R_mono (Kd.R_bound (Kd.R_lower h hb)) (fun _ hk => ⟨hk.2.1, hk.2.2.1⟩)
def sclL (p k : Int) (ts : List T4) : List T4 := putsT p [] (pairsT k ts)
theorem scl_zero {p : Int} (hp : 2 ≤ p) (ts : List T4) : sclL p 0 ts = [] := by
  refine canon_ext (putsT_canon hp _ (canon_nil p)) (canon_nil p) fun e => ?_
  rw [sclL, putsT_coef hp e _ (canon_nil p)]
  have h : ∀ ts : List T4, sumAt (pairsT 0 ts) e = 0 := by
    intro ts
    induction ts with
    | nil => rfl
    | cons t ts ih =>
      show sumAt ((t.e, 0 * t.v) :: pairsT 0 ts) e = 0
      rw [sumAt_cons, ih]
      simp
  rw [h]
  show (0 + 0) % p = 0
  simp
/-- The number by which the first term is multiplied. -/
def chN (p : Int) (ts xt : List T4) : Int := (coefL xt (ts.getD 0 z4).e * invF p (ts.getD 0 z4).v).tmod p
def chOk (p : Int) (ts : List T4) (x : PV) : Bool := x.ts == sclL p (chN p ts x.ts) ts
def chV (p : Int) (ts : List T4) (ps : List PV) : List Int := ps.map fun x => chN p ts x.ts
def chR0 (p : Int) (ts : List T4) (ps : List PV) : IC := if ps.all (chOk p ts) then ⟨chV p ts ps, 0⟩ else ⟨[], 5⟩
theorem chV_len (p : Int) (ts : List T4) (ps : List PV) : (chV p ts ps).length = ps.length := by simp [chV]
theorem chV_take {p : Int} {ts : List T4} {ps : List PV} {j : Nat} {a b : Int} {xt : List T4} (h : j < ps.length) (hx : ps.getD j zP = ⟨a, b, xt⟩) : (chV p ts ps).take (j + 1) = (chV p ts ps).take j ++ [chN p ts xt] := by
  have e : ps.getD j zP = ps[j] := by simp [List.getD_eq_getElem?_getD, h]
  rw [hx] at e
  rw [List.take_succ_eq_append_getElem (by rw [chV_len]; exact h)]
  simp [chV, ← e]
theorem chAll_step {p : Int} {ts : List T4} {ps : List PV} {j : Nat} {a b : Int} {xt : List T4} (h : j < ps.length) (hx : ps.getD j zP = ⟨a, b, xt⟩) (ha : (ps.take j).all (chOk p ts) = true) (hz : (xt == sclL p (chN p ts xt) ts) = true) : (ps.take (j + 1)).all (chOk p ts) = true := by
  have e : ps.getD j zP = ps[j] := by simp [List.getD_eq_getElem?_getD, h]
  rw [List.take_succ_eq_append_getElem h, List.all_append, ha, ← e, hx, Bool.true_and, List.all_cons, List.all_nil, Bool.and_true]
  exact hz
theorem chR_no {p : Int} {ts : List T4} {ps : List PV} {j : Nat} {a b : Int} {xt : List T4} (h : j < ps.length) (hx : ps.getD j zP = ⟨a, b, xt⟩) (hz : (xt == sclL p (chN p ts xt) ts) = false) : chR0 p ts ps = ⟨[], 5⟩ := by
  have hall : ps.all (chOk p ts) = false := by
    rw [List.all_eq_false]
    exact ⟨_, getD_memP h, by rw [hx]; unfold chOk; rw [hz]; decide⟩
  rw [chR0, hall]
  rfl
theorem chR_yes {p : Int} {ts : List T4} {ps : List PV} (h : ps.all (chOk p ts) = true) : chR0 p ts ps = ⟨chV p ts ps, 0⟩ := by rw [chR0, if_pos h]
theorem ch_zero {p : Int} (hp : 2 ≤ p) {ts xt : List T4} (hn : xt ≠ []) (hz : chN p ts xt = 0) : (xt == sclL p (chN p ts xt) ts) = false := by
  rw [hz, scl_zero hp]
  cases xt with
  | nil => exact absurd rfl hn
  | cons a l => rfl
theorem chN_bd {p : Int} (hp : 2 ≤ p) {ts xt : List T4} (hx : Canon p xt) : 0 ≤ chN p ts xt ∧ chN p ts xt < p := by
  have h1 := (canon_bd hp hx (ts.getD 0 z4).e).1
  have h2 := (invF_range (ts.getD 0 z4).v hp).1
  have h3 : 0 ≤ coefL xt (ts.getD 0 z4).e * invF p (ts.getD 0 z4).v := Int.mul_nonneg h1 h2
  unfold chN
  rw [Int.tmod_eq_emod_of_nonneg h3]
  exact ⟨Int.emod_nonneg _ (by omega), Int.emod_lt_of_pos _ (by omega)⟩
theorem scl_canon {p : Int} (hp : 2 ≤ p) (k : Int) (ts : List T4) : Canon p (sclL p k ts) := putsT_canon hp _ (canon_nil p)
theorem scl_len {p : Int} (hp : 2 ≤ p) (k : Int) {ts : List T4} (hd : ∀ t ∈ ts, degE t.e ≤ 12) : (sclL p k ts).length ≤ 1183 :=
  deg_len (scl_canon hp k ts).1 fun u hu => by
    rcases putsT_mem _ hu with ⟨q, hq, e⟩ | h'
    · obtain ⟨c, hc, rfl⟩ := List.mem_map.1 hq
      rw [e]
      exact hd c hc
    · cases h'
end Go.Proofs.YtjhkeehfchkpaaaGreat
/- PLAIN LAW: substitutions one after the other; no condition. -/
set_option linter.unusedVariables false
set_option linter.unusedSimpArgs false
namespace Go.Proofs.YtjhkeehfchkpaaaGreat
open Go.RowKit Go.Proofs.YtjhkeehfchkpaaaGreatW.PrintWords
attribute [local go_sem] Later.cell Later.frozen Later.lt Later.lt_add Later.le Later.le_add Later.ne Later.ne' add_at
theorem mul_emod_r (a b p : Int) : a * b % p = a * (b % p) % p := by
  rw [Int.mul_emod, Int.mul_emod a (b % p), Int.emod_emod_of_dvd _ (Int.dvd_refl p)]
theorem itT_cmem {p : Int} {f g : E3 → Int} : ∀ (xs : List T4), (∀ t ∈ xs, f t.e % p = g t.e % p) → itT xs f % p = itT xs g % p
  | [], _ => rfl
  | t :: xs, h => by
    rw [itT_cons, itT_cons, Int.add_emod, Int.mul_emod, h t (by simp), ← Int.mul_emod, itT_cmem xs (fun u hu => h u (by simp [hu])), ← Int.add_emod]
theorem itP_one (l : List T4) (f : E3 → Int) : itP (pairsT 1 l) f = itT l f := by
  induction l with
  | nil => rfl
  | cons t l ih =>
    show itP ((t.e, 1 * t.v) :: pairsT 1 l) f = _
    rw [itP_cons, ih, itT_cons, Int.one_mul]
/-- A monomial's image. -/
def monL (p : Int) (ys : List (List T4)) (e : E3) (k : Nat) : List T4 := oneTerm p ys ⟨e, 1⟩ k
theorem monL_canon {p : Int} (hp : 2 ≤ p) (ys : List (List T4)) (e : E3) (k : Nat) : Canon p (monL p ys e k) := oneTerm_canon hp ys _ k
theorem monL_succ {p : Int} (hp : 2 ≤ p) {ys : List (List T4)} (hy : ∀ y ∈ ys, Canon p y) (e : E3) (k : Nat) : monL p ys e (k + 1) = mulL p (monL p ys e k) (powL p (ys.getD k []) (e.at k).toNat) :=
  timL_pow hp (monL_canon hp ys e k) (ys_canon hy k) _
theorem one_mon {p : Int} (hp : 2 ≤ p) {ys : List (List T4)} (hy : ∀ y ∈ ys, Canon p y) (t : T4) : ∀ (k : Nat) (f : E3 → Int), itT (oneTerm p ys t k) f % p = t.v * itT (monL p ys t.e k) f % p
  | 0, f => by
    show itT (putT p [] z3 t.v) f % p = t.v * itT (putT p [] z3 1) f % p
    rw [itT_one hp, mul_emod_r t.v (itT _ f), itT_one hp, ← mul_emod_r, Int.one_mul]
  | k + 1, f => by
    rw [monL_succ hp hy]
    show itT (timL p (oneTerm p ys t k) (ys.getD k []) (t.e.at k).toNat) f % p = _
    rw [timL_pow hp (oneTerm_canon hp ys t k) (ys_canon hy k), itT_mulL hp, one_mon hp hy t k, mul_emod_r t.v (itT (mulL p _ _) f), itT_mulL hp, ← mul_emod_r]
/-- A substitution is linear. -/
theorem subL_it {p : Int} (hp : 2 ≤ p) {ys : List (List T4)} (hy : ∀ y ∈ ys, Canon p y) (xs : List T4) (f : E3 → Int) : itT (subL p ys xs) f % p = itT xs (fun e => itT (monL p ys e ys.length) f) % p := by
  have key : ∀ (xs : List T4) (acc : List T4), Canon p acc → itT (xs.foldl (fun acc t => putsT p acc (pairsT 1 (oneTerm p ys t ys.length))) acc) f % p = (itT acc f + itT xs (fun e => itT (monL p ys e ys.length) f)) % p := by
    intro xs
    induction xs with
    | nil => intro acc _; simp [itT]
    | cons t xs ih =>
      intro acc h
      rw [List.foldl_cons, ih _ (putsT_canon hp _ h), Int.add_emod, itT_putsT hp f _ h, itP_one, ← Int.add_emod, itT_cons, ← Int.add_assoc]
      rw [Int.add_emod (itT acc f + itT _ f), Int.add_emod (itT acc f + t.v * _), Int.add_emod (itT acc f) (itT _ f), one_mon hp hy t, ← Int.add_emod (itT acc f)]
  have := key xs [] (canon_nil p)
  rw [itT_nil, Int.zero_add] at this
  exact this
theorem powL_add {p : Int} (hp : 2 ≤ p) {y : List T4} (hy : Canon p y) (m : Nat) : ∀ n, powL p y (m + n) = mulL p (powL p y m) (powL p y n)
  | 0 => (mulL_one hp (powL_canon hp y m)).symm
  | n + 1 => by
    show mulL p (powL p y (m + n)) y = mulL p (powL p y m) (mulL p (powL p y n) y)
    rw [powL_add hp hy m n, mulL_assoc hp]
theorem mul4 {p : Int} (hp : 2 ≤ p) (a b c d : List T4) : mulL p (mulL p a b) (mulL p c d) = mulL p (mulL p a c) (mulL p b d) := by
  rw [mulL_assoc hp a b, ← mulL_assoc hp b c d, mulL_comm hp b c, mulL_assoc hp c b d, ← mulL_assoc hp a c]
theorem at_mul {e1 e2 : E3} {k : Nat} (h : (e1.at k).toNat + (e2.at k).toNat < 256) : ((mulE e1 e2).at k).toNat = (e1.at k).toNat + (e2.at k).toNat := by
  by_cases h0 : k = 0
  · simp only [E3.at, mulE, if_pos h0, UInt8.toNat_add] at h ⊢
    omega
  · by_cases h1 : k = 1
    · simp only [E3.at, mulE, if_neg h0, if_pos h1, UInt8.toNat_add] at h ⊢
      omega
    · simp only [E3.at, mulE, if_neg h0, if_neg h1, UInt8.toNat_add] at h ⊢
      omega
theorem mul_degC {p : Int} {a b : Nat} {xs ys : List T4} (hx : ∀ u ∈ xs, degE u.e ≤ (a : Int)) (hy : ∀ u ∈ ys, degE u.e ≤ (b : Int)) : ∀ u ∈ mulL p xs ys, degE u.e ≤ ((a + b : Nat) : Int) := by
  intro u hu
  rcases putsT_mem _ hu with ⟨q, hq, e⟩ | h'
  · obtain ⟨c, hc, d, hd, rfl⟩ := mulP_mem hq
    have h1 := hx c hc
    have h2 := hy d hd
    have h3 := degE_mul c.e d.e
    rw [e]
    show degE (mulE c.e d.e) ≤ _
    omega
  · cases h'
theorem at_deg (e : E3) (k : Nat) : ((e.at k).toNat : Int) ≤ degE e := by
  unfold E3.at degE
  split
  · omega
  · split <;> omega
theorem at_ok {e1 e2 : E3} (h : degE e1 + degE e2 ≤ 255) (k : Nat) : (e1.at k).toNat + (e2.at k).toNat < 256 := by
  have h1 := at_deg e1 k
  have h2 := at_deg e2 k
  omega
theorem monL_mul {p : Int} (hp : 2 ≤ p) {ys : List (List T4)} (hy : ∀ y ∈ ys, Canon p y) {e1 e2 : E3} (h : degE e1 + degE e2 ≤ 255) : ∀ k, monL p ys (mulE e1 e2) k = mulL p (monL p ys e1 k) (monL p ys e2 k)
  | 0 => (one_mulL hp (oneL_canon hp)).symm
  | k + 1 => by
    rw [monL_succ hp hy, monL_succ hp hy, monL_succ hp hy, monL_mul hp hy h k, at_mul (at_ok h k), powL_add hp (ys_canon hy k), mul4 hp]
/-- A substitution goes with products. -/
theorem subL_mul {p : Int} (hp : 2 ≤ p) {ys : List (List T4)} (hy : ∀ y ∈ ys, Canon p y) {xs zs : List T4} (h : ∀ a ∈ xs, ∀ b ∈ zs, degE a.e + degE b.e ≤ 255) : subL p ys (mulL p xs zs) = mulL p (subL p ys xs) (subL p ys zs) := by
  refine canon_it hp (subL_canon hp _ _) (mulL_canon hp _ _) fun f => ?_
  rw [subL_it hp hy, itT_mulL hp, itT_mulL hp, subL_it hp hy]
  refine itT_cmem xs fun a ha => ?_
  have h1 : itT zs (fun b => itT (monL p ys (mulE a.e b) ys.length) f) % p = itT zs (fun b => itT (monL p ys a.e ys.length) (fun x => itT (monL p ys b ys.length) (fun y => f (mulE x y)))) % p :=
    itT_cmem zs fun b hb => by rw [monL_mul hp hy (h a ha b hb), itT_mulL hp]
  rw [h1, ← itT_swap]
  refine itT_congr (fun x => ?_) _
  exact (subL_it hp hy zs (fun y => f (mulE x y))).symm
theorem monL_one {p : Int} (hp : 2 ≤ p) {ys : List (List T4)} (hy : ∀ y ∈ ys, Canon p y) : ∀ k, monL p ys z3 k = oneL p
  | 0 => rfl
  | k + 1 => by
    rw [monL_succ hp hy, monL_one hp hy k]
    have : (z3.at k).toNat = 0 := by
      unfold E3.at z3
      split
      · rfl
      · split <;> rfl
    rw [this]
    exact one_mulL hp (oneL_canon hp)
theorem subL_one {p : Int} (hp : 2 ≤ p) {ys : List (List T4)} (hy : ∀ y ∈ ys, Canon p y) : subL p ys (oneL p) = oneL p := by
  refine canon_it hp (subL_canon hp _ _) (oneL_canon hp) fun f => ?_
  rw [subL_it hp hy]
  unfold oneL
  rw [itT_one hp, monL_one hp hy, Int.one_mul]
  rfl
theorem pow_mem {p : Int} {z : List T4} (hz : ∀ u ∈ z, degE u.e ≤ 1) : ∀ (n : Nat), ∀ u ∈ powL p z n, degE u.e ≤ (n : Int)
  | 0 => fun u hu => by
    rcases putT_mem hu with h | h
    · rw [h]; decide
    · cases h
  | n + 1 => fun u hu => mul_degC (p := p) (a := n) (b := 1) (pow_mem hz n) (fun v hv => by have := hz v hv; omega) u hu
theorem subL_pow {p : Int} (hp : 2 ≤ p) {ys : List (List T4)} (hy : ∀ y ∈ ys, Canon p y) {z : List T4} (hz : ∀ u ∈ z, degE u.e ≤ 1) : ∀ n : Nat, n ≤ 200 → subL p ys (powL p z n) = powL p (subL p ys z) n
  | 0, _ => subL_one hp hy
  | n + 1, h => by
    show subL p ys (mulL p (powL p z n) z) = mulL p (powL p (subL p ys z) n) (subL p ys z)
    rw [subL_mul hp hy (fun a ha b hb => by have := pow_mem (p := p) hz n a ha; have := hz b hb; omega), subL_pow hp hy hz n (by omega)]
end Go.Proofs.YtjhkeehfchkpaaaGreat
/- PLAIN LAW: the image of a polynomial that is not zero, under a matrix whose determinant is not zero, is not zero; no condition. -/
set_option linter.unusedVariables false
set_option linter.unusedSimpArgs false
namespace Go.Proofs.YtjhkeehfchkpaaaGreat
open Go.RowKit Go.Proofs.YtjhkeehfchkpaaaGreatW.PrintWords
attribute [local go_sem] Later.cell Later.frozen Later.lt Later.lt_add Later.le Later.le_add Later.ne Later.ne' add_at
/-- Linear forms of any numbers. -/
def formG (p : Int) (R : Nat → Nat → Int) (j n : Nat) : List T4 := putsT p [] ((List.range n).map fun i => (unitE i, R i j))
def formsG (p : Int) (R : Nat → Nat → Int) (n : Nat) : List (List T4) := (List.range n).map fun j => formG p R j n
theorem formsG_of (p : Int) (m : M9) (n : Nat) : formsL p m n = formsG p (fun i j => m.num i j) n := rfl
theorem formsG_len (p : Int) (R : Nat → Nat → Int) (n : Nat) : (formsG p R n).length = n := by simp [formsG]
theorem formsG_canon {p : Int} (hp : 2 ≤ p) (R : Nat → Nat → Int) (n : Nat) : ∀ y ∈ formsG p R n, Canon p y := by
  intro y hy
  obtain ⟨j, _, rfl⟩ := List.mem_map.1 hy
  exact putsT_canon hp _ (canon_nil p)
theorem formsG_get (p : Int) (R : Nat → Nat → Int) {n j : Nat} (h : j < n) : (formsG p R n).getD j [] = formG p R j n := by simp [formsG, List.getD_eq_getElem?_getD, h]
theorem formG_mem {p : Int} {R : Nat → Nat → Int} {j n : Nat} : ∀ u ∈ formG p R j n, degE u.e ≤ 1 := by
  intro u hu
  rcases putsT_mem _ hu with ⟨q, hq, e⟩ | h'
  · obtain ⟨i, _, rfl⟩ := List.mem_map.1 hq
    rw [e]
    show degE (unitE i) ≤ 1
    unfold unitE
    split
    · decide
    · split <;> decide
  · cases h'
theorem formsG_mem {p : Int} {R : Nat → Nat → Int} {n : Nat} (k : Nat) : ∀ u ∈ (formsG p R n).getD k [], degE u.e ≤ 1 := by
  by_cases h : k < n
  · rw [formsG_get p R h]
    exact formG_mem
  · intro u hu
    rw [List.getD_eq_getElem?_getD, List.getElem?_eq_none (by rw [formsG_len]; omega)] at hu
    cases hu
theorem itP_range (R : Nat → Int) (f : E3 → Int) : ∀ n, itP ((List.range n).map fun i => (unitE i, R i)) f = sumZ (fun i => R i * f (unitE i)) n
  | 0 => rfl
  | n + 1 => by
    rw [List.range_succ, List.map_append, itP_append, itP_range R f n]
    show _ + itP [(unitE n, R n)] f = sumZ _ n + R n * f (unitE n)
    simp [itP]
theorem formG_it {p : Int} (hp : 2 ≤ p) (R : Nat → Nat → Int) (j n : Nat) (f : E3 → Int) : itT (formG p R j n) f % p = sumZ (fun i => R i j * f (unitE i)) n % p := by
  unfold formG
  rw [itT_putsT hp f _ (canon_nil p), itP_range, itT_nil, Int.zero_add]
def sN (e : E3) : Nat → Nat
  | 0 => 0
  | k + 1 => sN e k + (e.at k).toNat
theorem sN_sum (e : E3) : ∀ k, ((sN e k : Nat) : Int) = sumE e k
  | 0 => rfl
  | k + 1 => by
    show ((sN e k + (e.at k).toNat : Nat) : Int) = sumE e k + _
    rw [Int.natCast_add, sN_sum e k]
theorem mon_mem {p : Int} (hp : 2 ≤ p) {zs : List (List T4)} (hc : ∀ z ∈ zs, Canon p z) (hz : ∀ k, ∀ u ∈ zs.getD k [], degE u.e ≤ 1) (e : E3) : ∀ k : Nat, ∀ u ∈ monL p zs e k, degE u.e ≤ ((sN e k : Nat) : Int)
  | 0 => fun u hu => by
    rcases putT_mem hu with h | h
    · rw [h]
      show degE z3 ≤ 0
      decide
    · cases h
  | k + 1 => fun u hu => by
    rw [monL_succ hp hc] at hu
    exact mul_degC (p := p) (mon_mem hp hc hz e k) (pow_mem (p := p) (hz k) (e.at k).toNat) u hu
theorem map_get {zs : List (List T4)} (S : List T4 → List T4) {k : Nat} (h : k < zs.length) : (zs.map S).getD k [] = S (zs.getD k []) := by simp [List.getD_eq_getElem?_getD, h]
theorem sub_mon {p : Int} (hp : 2 ≤ p) {ys zs : List (List T4)} (hy : ∀ y ∈ ys, Canon p y) (hc : ∀ z ∈ zs, Canon p z) (hz : ∀ k, ∀ u ∈ zs.getD k [], degE u.e ≤ 1) (hcm : ∀ z ∈ zs.map (subL p ys), Canon p z) (e : E3) (he : degE e ≤ 12) : ∀ k, k ≤ zs.length → k ≤ 3 → subL p ys (monL p zs e k) = monL p (zs.map (subL p ys)) e k
  | 0, _, _ => subL_one hp hy
  | k + 1, hk, h3 => by
    have h1 := sN_sum e k
    have h2 := sumE_deg e (show k ≤ 3 by omega)
    have h4 := at_deg e k
    rw [monL_succ hp hc, monL_succ hp hcm, subL_mul hp hy (fun a ha b hb => by
      have := mon_mem hp hc hz e k a ha
      have := pow_mem (p := p) (hz k) (e.at k).toNat b hb
      omega), sub_mon hp hy hc hz hcm e he k (by omega) (by omega), subL_pow hp hy (hz k) _ (by omega), map_get (subL p ys) (by omega)]
/-- One substitution behind another one. -/
theorem sub_sub {p : Int} (hp : 2 ≤ p) {ys zs : List (List T4)} (hy : ∀ y ∈ ys, Canon p y) (hc : ∀ z ∈ zs, Canon p z) (hz : ∀ k, ∀ u ∈ zs.getD k [], degE u.e ≤ 1) (h3 : zs.length ≤ 3) {xs : List T4} (hx : ∀ t ∈ xs, degE t.e ≤ 12) : subL p ys (subL p zs xs) = subL p (zs.map (subL p ys)) xs := by
  have hcm : ∀ z ∈ zs.map (subL p ys), Canon p z := by
    intro z hz
    obtain ⟨a, _, rfl⟩ := List.mem_map.1 hz
    exact subL_canon hp _ _
  refine canon_it hp (subL_canon hp _ _) (subL_canon hp _ _) fun f => ?_
  rw [subL_it hp hy, subL_it hp hc, subL_it hp hcm, List.length_map]
  refine itT_cmem xs fun t ht => ?_
  rw [← sub_mon hp hy hc hz hcm t.e (hx t ht) zs.length (Nat.le_refl _) h3, subL_it hp hy]
/-! ### letters -/
def pwE (j : Nat) : Nat → E3
  | 0 => z3
  | m + 1 => mulE (pwE j m) (unitE j)
def xL (p : Int) (j : Nat) : List T4 := putT p [] (unitE j) 1
theorem xL_pow {p : Int} (hp : 2 ≤ p) (j : Nat) (f : E3 → Int) : ∀ m, itT (powL p (xL p j) m) f % p = f (pwE j m) % p
  | 0 => by
    show itT (putT p [] z3 1) f % p = _
    rw [itT_one hp, Int.one_mul]
    rfl
  | m + 1 => by
    show itT (mulL p (powL p (xL p j) m) (xL p j)) f % p = _
    rw [itT_mulL hp]
    have h1 : itT (powL p (xL p j) m) (fun a => itT (xL p j) (fun b => f (mulE a b))) % p = itT (powL p (xL p j) m) (fun a => f (mulE a (unitE j))) % p := itT_congr (fun a => by rw [xL, itT_one hp, Int.one_mul]) _
    rw [h1]
    have h2 : ∀ g : E3 → Int, itT (powL p (xL p j) m) g % p = g (pwE j m) % p := fun g => xL_pow hp j g m
    exact h2 (fun a => f (mulE a (unitE j)))
def cutE (e : E3) : Nat → E3
  | 0 => z3
  | k + 1 => mulE (cutE e k) (pwE k (e.at k).toNat)
theorem mon_x {p : Int} (hp : 2 ≤ p) {qs : List (List T4)} (hc : ∀ z ∈ qs, Canon p z) (hq : ∀ k, k < qs.length → qs.getD k [] = xL p k) (e : E3) : ∀ k, k ≤ qs.length → ∀ f : E3 → Int, itT (monL p qs e k) f % p = f (cutE e k) % p
  | 0, _, f => by
    show itT (putT p [] z3 1) f % p = _
    rw [itT_one hp, Int.one_mul]
    rfl
  | k + 1, hk, f => by
    rw [monL_succ hp hc, itT_mulL hp, mon_x hp hc hq e k (by omega), hq k (by omega), xL_pow hp]
    rfl
theorem pw_at (j m : Nat) : (pwE j m) = if j = 0 then ⟨UInt8.ofNat m, 0, 0⟩ else if j = 1 then ⟨0, UInt8.ofNat m, 0⟩ else ⟨0, 0, UInt8.ofNat m⟩ := by
  induction m with
  | zero =>
    show z3 = _
    split
    · rfl
    · split <;> rfl
  | succ m ih =>
    show mulE (pwE j m) (unitE j) = _
    rw [ih]
    unfold unitE mulE
    split
    · simp [UInt8.ofNat_add]
    · split <;> simp [UInt8.ofNat_add]
theorem cut_all {e : E3} {n : Nat} (h1 : 1 ≤ n) (h3 : n ≤ 3) (h : ∀ k, n ≤ k → k < 3 → e.at k = 0) : cutE e n = e := by
  obtain ⟨a, b, c⟩ := e
  have ha : UInt8.ofNat a.toNat = a := UInt8.ofNat_toNat
  have hb : UInt8.ofNat b.toNat = b := UInt8.ofNat_toNat
  have hc : UInt8.ofNat c.toNat = c := UInt8.ofNat_toNat
  have hn : n = 1 ∨ n = 2 ∨ n = 3 := by omega
  rcases hn with rfl | rfl | rfl
  · have hb0 : b = 0 := by simpa [E3.at] using h 1 (by omega) (by omega)
    have hc0 : c = 0 := by simpa [E3.at] using h 2 (by omega) (by omega)
    simp [cutE, pw_at, mulE, z3, E3.at, ha, hb0, hc0]
  · have hc0 : c = 0 := by simpa [E3.at] using h 2 (by omega) (by omega)
    simp [cutE, pw_at, mulE, z3, E3.at, ha, hb, hc0]
  · simp [cutE, pw_at, mulE, z3, E3.at, ha, hb, hc]
theorem sub_id {p : Int} (hp : 2 ≤ p) {qs : List (List T4)} (hc : ∀ z ∈ qs, Canon p z) (hq : ∀ k, k < qs.length → qs.getD k [] = xL p k) (h1 : 1 ≤ qs.length) (h3 : qs.length ≤ 3) {xs : List T4} (hx : Canon p xs) (hz : ∀ t ∈ xs, ∀ k, qs.length ≤ k → k < 3 → t.e.at k = 0) : subL p qs xs = xs := by
  refine canon_it hp (subL_canon hp _ _) hx fun f => ?_
  rw [subL_it hp hc]
  refine itT_cmem xs fun t ht => ?_
  rw [mon_x hp hc hq t.e qs.length (Nat.le_refl _), cut_all h1 h3 (hz t ht)]
/-! ### the inverse -/
theorem sumZ_cong {p : Int} {F G : Nat → Int} : ∀ n, (∀ k, k < n → F k % p = G k % p) → sumZ F n % p = sumZ G n % p
  | 0, _ => rfl
  | n + 1, h => by
    show (sumZ F n + F n) % p = (sumZ G n + G n) % p
    rw [Int.add_emod, sumZ_cong n (fun k hk => h k (by omega)), h n (by omega), ← Int.add_emod]
theorem sumZ_scale (c : Int) (F : Nat → Int) : ∀ n, c * sumZ F n = sumZ (fun k => c * F k) n
  | 0 => by simp [sumZ]
  | n + 1 => by
    show c * (sumZ F n + F n) = sumZ _ n + c * F n
    rw [Int.mul_add, sumZ_scale c F n]
theorem sumZ_add (F G : Nat → Int) : ∀ n, sumZ (fun k => F k + G k) n = sumZ F n + sumZ G n
  | 0 => by simp [sumZ]
  | n + 1 => by
    show sumZ _ n + (F n + G n) = (sumZ F n + F n) + (sumZ G n + G n)
    rw [sumZ_add F G n]
    omega
theorem sumZ_swap (F : Nat → Nat → Int) (m : Nat) : ∀ n, sumZ (fun i => sumZ (fun l => F i l) m) n = sumZ (fun l => sumZ (fun i => F i l) n) m
  | 0 => by
    have : ∀ m, sumZ (fun _ : Nat => (0 : Int)) m = 0 := by
      intro m
      induction m with
      | zero => rfl
      | succ m ih => show sumZ _ m + 0 = 0; rw [ih]; rfl
    exact (this m).symm
  | n + 1 => by
    show sumZ (fun i => sumZ (fun l => F i l) m) n + sumZ (fun l => F n l) m = sumZ (fun l => sumZ (fun i => F i l) n + F n l) m
    rw [sumZ_swap F m n, sumZ_add]
theorem sumZ_pick (c : Nat → Int) {j : Nat} : ∀ n, sumZ (fun l => (if l = j then 1 else 0) * c l) n = if j < n then c j else 0
  | 0 => by simp [sumZ]
  | n + 1 => by
    show sumZ _ n + (if n = j then 1 else 0) * c n = _
    rw [sumZ_pick c n]
    by_cases h : j < n
    · rw [if_pos h, if_pos (show j < n + 1 by omega), if_neg (show ¬ n = j by omega)]
      omega
    · by_cases h2 : n = j
      · subst h2
        rw [if_neg (by omega), if_pos rfl, if_pos (show n < n + 1 by omega)]
        omega
      · rw [if_neg h, if_neg h2, if_neg (show ¬ j < n + 1 by omega)]
        omega
theorem unit_at {i k n : Nat} (hi : i < n) (h3 : n ≤ 3) (hk : k < 3) : ((unitE i).at k).toNat = if k = i then 1 else 0 := by
  have a : i = 0 ∨ i = 1 ∨ i = 2 := by omega
  have b : k = 0 ∨ k = 1 ∨ k = 2 := by omega
  clear hi hk
  rcases a with rfl | rfl | rfl <;> rcases b with rfl | rfl | rfl <;> rfl
theorem mon_unit {p : Int} (hp : 2 ≤ p) {ys : List (List T4)} (hy : ∀ y ∈ ys, Canon p y) {i n : Nat} (hi : i < n) (h3 : n ≤ 3) : ∀ k, k ≤ 3 → monL p ys (unitE i) k = if i < k then ys.getD i [] else oneL p
  | 0, _ => rfl
  | k + 1, hk => by
    rw [monL_succ hp hy, mon_unit hp hy hi h3 k (by omega), unit_at hi h3 (by omega)]
    by_cases h : i < k
    · rw [if_pos h, if_neg (by omega), if_pos (by omega)]
      exact mulL_one hp (ys_canon hy i)
    · by_cases h2 : k = i
      · subst h2
        rw [if_neg (by omega), if_pos rfl, if_pos (by omega)]
        show mulL p (oneL p) (mulL p (oneL p) (ys.getD k [])) = _
        rw [one_mulL hp (ys_canon hy k), one_mulL hp (ys_canon hy k)]
      · rw [if_neg h, if_neg h2, if_neg (by omega)]
        exact one_mulL hp (oneL_canon hp)
/-- The forms of two matrices, one behind the other: the letters, if they are inverse. -/
theorem forms_inv {p : Int} (hp : 2 ≤ p) {n : Nat} (h3 : n ≤ 3) {R A : Nat → Nat → Int} (hRA : ∀ l j, l < n → j < n → p ∣ (if l = j then 1 else 0) - sumZ (fun i => R l i * A i j) n) {j : Nat} (hj : j < n) : subL p (formsG p R n) (formG p A j n) = xL p j := by
  have hy := formsG_canon hp R n
  refine canon_it hp (subL_canon hp _ _) (putT_canon hp (canon_nil p) _ _) fun f => ?_
  rw [subL_it hp hy, formG_it hp, formsG_len, xL, itT_one hp, Int.one_mul]
  have h1 : sumZ (fun i => A i j * itT (monL p (formsG p R n) (unitE i) n) f) n % p = sumZ (fun i => A i j * sumZ (fun l => R l i * f (unitE l)) n) n % p := sumZ_cong n fun i hi => by
    rw [mon_unit hp hy hi h3 n h3, if_pos hi, formsG_get p R hi, mul_emod_r, formG_it hp, ← mul_emod_r]
  rw [h1]
  have h2 : (fun i => A i j * sumZ (fun l => R l i * f (unitE l)) n) = fun i => sumZ (fun l => A i j * (R l i * f (unitE l))) n := by
    funext i
    exact sumZ_scale _ _ n
  rw [h2, sumZ_swap]
  have h4 : sumZ (fun l => sumZ (fun i => A i j * (R l i * f (unitE l))) n) n % p = sumZ (fun l => (if l = j then 1 else 0) * f (unitE l)) n % p := sumZ_cong n fun l hl => by
    have e : (fun i => A i j * (R l i * f (unitE l))) = fun i => f (unitE l) * (R l i * A i j) := by
      funext i
      rw [Int.mul_left_comm, ← Int.mul_assoc, Int.mul_comm]
    rw [e, ← sumZ_scale]
    obtain ⟨c, hc⟩ := hRA l j hl hj
    refine (emod_eq_of_sub (k := c * f (unitE l)) ?_).symm
    rw [← Int.mul_assoc, ← hc, Int.sub_mul, Int.mul_comm (sumZ _ n)]
  rw [h4, sumZ_pick, if_pos hj]
/-- The image of a polynomial that is not zero is not zero. -/
theorem led_ne {p : Int} (hpz : primeZ p) {n : Nat} (h1 : 1 ≤ n) (h3 : n ≤ 3) {m : M9} (hm : m.le p) (hd : detZ n m.num % p ≠ 0) {ts : List T4} (hts : Canon p ts) (hdg : ∀ t ∈ ts, degE t.e ≤ 12) (hz : ∀ t ∈ ts, ∀ k, n ≤ k → k < 3 → t.e.at k = 0) (hne : ts ≠ []) : ledL p n m ts ≠ [] := by
  have hp := hpz.two.1
  have hA : ∀ i j, 0 ≤ m.num i j ∧ m.num i j < p := fun i j => num_ok hm i j
  have hl := inv_leads hpz (show n = 1 ∨ n = 2 ∨ n = 3 by omega) hA hd
  have hu := inv_unit hpz hA hl
  intro h0
  apply hne
  have hy := formsG_canon hp (fun i k => ((invRows p n m.num).getD i []).getD (n + k) 0) n
  have hc := formsG_canon hp (fun i j => m.num i j) n
  have hs := sub_sub hp hy hc (fun k => formsG_mem k) (by rw [formsG_len]; exact h3) hdg
  have hq : ∀ k, k < ((formsG p (fun i j => m.num i j) n).map (subL p (formsG p (fun i k => ((invRows p n m.num).getD i []).getD (n + k) 0) n))).length → ((formsG p (fun i j => m.num i j) n).map (subL p (formsG p (fun i k => ((invRows p n m.num).getD i []).getD (n + k) 0) n))).getD k [] = xL p k := fun k hk => by
    rw [List.length_map, formsG_len] at hk
    rw [map_get _ (by rw [formsG_len]; exact hk), formsG_get p _ hk]
    exact forms_inv hp h3 hu hk
  have hcm : ∀ z ∈ (formsG p (fun i j => m.num i j) n).map (subL p (formsG p (fun i k => ((invRows p n m.num).getD i []).getD (n + k) 0) n)), Canon p z := by
    intro z hz
    obtain ⟨a, _, rfl⟩ := List.mem_map.1 hz
    exact subL_canon hp _ _
  have hid := sub_id hp hcm hq (by rw [List.length_map, formsG_len]; exact h1) (by rw [List.length_map, formsG_len]; exact h3) hts (by rw [List.length_map, formsG_len]; exact hz)
  rw [← hid, ← hs, ← formsG_of]
  show subL p _ (ledL p n m ts) = []
  rw [h0]
  rfl
end Go.Proofs.YtjhkeehfchkpaaaGreat
/- CharacterOf of both sides, where no image is zero; no condition. -/
set_option linter.unusedVariables false
set_option linter.unusedSimpArgs false
namespace Go.Proofs.YtjhkeehfchkpaaaGreat
open Go.RowKit Go.Proofs.YtjhkeehfchkpaaaGreatW.PrintWords
attribute [local go_sem] Later.cell Later.frozen Later.lt Later.lt_add Later.le Later.le_add Later.ne Later.ne' add_at
open Go.Proofs.YtjhkeehfchkpaaaGreatW.PrintLast
attribute [local go_sem 2000] run_eqM guardM
set_option maxRecDepth 100000 in
set_option maxHeartbeats 2000000 in
theorem implChar_0 (p : Int) (n : Nat) (A : Option Addr) (c : Nat) (ms : List M9) (B : Option Addr) (e : Nat) (ts : List T4) (w : World) (hC : kM.C w A ms.length ms) (hD : kT.C w B ts.length ts) (hN : ms.length ≤ 48) (hts : Canon p ts) (hd : ∀ t ∈ ts, degE t.e ≤ 12) (hp : 2 ≤ p) (hp' : p ≤ 13) (h1 : 1 ≤ n) (h3 : n ≤ 3) (hne : ts ≠ []) (hnz : ∀ x ∈ imgV p n ms ts, x.ts ≠ [])
    (hK : ∀ W, kM.C W A ms.length ms → kT.C W B ts.length ts → Calls Tryz.prog 54 #[.agg #[.int .i64 p, .int .i64 n, .slice A ms.length c], .agg #[.int .i64 p, .int .i64 n, .slice B ts.length e]] W (Gives (.int .i64 0) W)) :
    Calls Tryz.prog 36 #[.agg #[.int .i64 p, .int .i64 n, .slice A ms.length c], .agg #[.int .i64 p, .int .i64 n, .slice B ts.length e]] w (MakesIC (chR0 p ts (imgV p n ms ts)) 2 w) := by
  have g0 : ((w.alloc (.cells #[.int .i64 p, .int .i64 n, .slice A ms.length c] 34)).alloc (.cells #[.int .i64 p, .int .i64 n, .slice B ts.length e] 38)).cell? ⟨w.heap.size, 0, none⟩ = some (.int .i64 p) := bq5
  have g1 : ((w.alloc (.cells #[.int .i64 p, .int .i64 n, .slice A ms.length c] 34)).alloc (.cells #[.int .i64 p, .int .i64 n, .slice B ts.length e] 38)).cell? ⟨w.heap.size, 1, none⟩ = some (.int .i64 n) := bq5
  have g2 : ((w.alloc (.cells #[.int .i64 p, .int .i64 n, .slice A ms.length c] 34)).alloc (.cells #[.int .i64 p, .int .i64 n, .slice B ts.length e] 38)).cell? ⟨w.heap.size, 2, none⟩ = some (.slice A ms.length c) := bq5
  have f0 : ((w.alloc (.cells #[.int .i64 p, .int .i64 n, .slice A ms.length c] 34)).alloc (.cells #[.int .i64 p, .int .i64 n, .slice B ts.length e] 38)).cell? ⟨w.heap.size + 1, 0, none⟩ = some (.int .i64 p) := bq5
  have f1 : ((w.alloc (.cells #[.int .i64 p, .int .i64 n, .slice A ms.length c] 34)).alloc (.cells #[.int .i64 p, .int .i64 n, .slice B ts.length e] 38)).cell? ⟨w.heap.size + 1, 1, none⟩ = some (.int .i64 n) := bq5
  have f2 : ((w.alloc (.cells #[.int .i64 p, .int .i64 n, .slice A ms.length c] 34)).alloc (.cells #[.int .i64 p, .int .i64 n, .slice B ts.length e] 38)).cell? ⟨w.heap.size + 1, 2, none⟩ = some (.slice B ts.length e) := bq5
  have hF := fun W h5 h6 => images_c p n A c ms B e ts W h5 h6 hN hts hd hp hp' h1 h3
  have HL := Lib.hid (img_likes hp h3 ms hd)
  have htl := deg_len hts.1 hd
  have hsl := fun k => scl_len (p := p) hp k hd
  have hv0 : 1 ≤ (ts.getD 0 z4).v ∧ (ts.getD 0 z4).v < p := by
    have hl0 : 0 < ts.length := List.length_pos_iff.2 hne
    have e : ts.getD 0 z4 = ts[0] := by simp [List.getD_eq_getElem?_getD, hl0]
    rw [e]
    have := hts.2 ts[0] (List.getElem_mem _)
    omega
  have hbv : ∀ t ∈ ts, 0 ≤ t.v ∧ t.v < p := fun t ht => by have := hts.2 t ht; omega
  have hl0 : 0 < ts.length := List.length_pos_iff.2 hne
  have hbW : Below w.heap.size w ((w.alloc (.cells #[.int .i64 p, .int .i64 n, .slice A ms.length c] 34)).alloc (.cells #[.int .i64 p, .int .i64 n, .slice B ts.length e] 38)) := bq2
  have hC3 := Kd.C_below hC hbW
  have hD3 := Kd.C_below hD hbW
  have hZr := fun W => isZero_c p n B ts.length e W (by omega)
  rw [show (ts.length == 0) = false by simpa using hne] at hZr
  have hZe := fun W => zeroPoly_c p n W
  have hInv := fun W => inverse_r (p := p) (x := (ts.getD 0 z4).v) hp hp' (by omega) hv0.2 W
  have hp48 : (imgV p n ms ts).length ≤ 48 := by rw [imgV_len]; exact hN
  have HNZ := Lib.hid hnz
  clear hts hd hnz
  generalize imgV p n ms ts = ps at *
  obtain ⟨r, hr⟩ : ∃ r, chR0 p ts ps = r := ⟨_, rfl⟩
  have HRR := Lib.hid hr
  rw [hr]
  clear hr
  obtain ⟨tb, tz, hB, t0, t1, t2, t3⟩ := kT_at hD3 0 hl0 z4
  simp only [Nat.zero_mul, Nat.add_zero] at t0 t1 t2 t3
  subst hB
  generalize hft : ts.getD 0 z4 = ft at *
  go_enter Tryz.func36, Tryz.ntmps36
  go_wp2_with (first | ((go_at_call 54; (first | (with_reducible refine call_later2 (hK _ hC3 hD3) ?_) | (with_reducible refine call_later (hK _ hC3 hD3) ?_)); intro x1); have hX : Below ((w.alloc (.cells #[.int .i64 p, .int .i64 n, .slice A ms.length c] 34)).alloc (.cells #[.int .i64 p, .int .i64 n, .slice (some ⟨tb, tz, none⟩) ts.length e] 38)).heap.size ((w.alloc (.cells #[.int .i64 p, .int .i64 n, .slice A ms.length c] 34)).alloc (.cells #[.int .i64 p, .int .i64 n, .slice (some ⟨tb, tz, none⟩) ts.length e] 38)) x1.W := bq2; replace g0 := pw_cell_below hX g0; replace g1 := pw_cell_below hX g1; replace g2 := pw_cell_below hX g2; replace f0 := pw_cell_below hX f0; replace f1 := pw_cell_below hX f1; replace f2 := pw_cell_below hX f2; replace t0 := pw_cell_below hX t0; replace t1 := pw_cell_below hX t1; replace t2 := pw_cell_below hX t2; replace t3 := pw_cell_below hX t3; have hb2 : Below w.heap.size w x1.W := bq2; have zz2 : w.heap.size + 1 < x1.W.heap.size := (by have := x1.ok.size; simp at this; omega)) | (go_at_call 79; (with_reducible refine to_gives (V := x1.W) (Below.refl _ _) (hZr _) ?_); intro U hb4 hb4'; replace g0 := pw_cell_below hb4 g0; replace g1 := pw_cell_below hb4 g1; replace g2 := pw_cell_below hb4 g2; replace f0 := pw_cell_below hb4 f0; replace f1 := pw_cell_below hb4 f1; replace f2 := pw_cell_below hb4 f2; replace t0 := pw_cell_below hb4 t0; replace t1 := pw_cell_below hb4 t1; replace t2 := pw_cell_below hb4 t2; replace t3 := pw_cell_below hb4 t3; have hbU : Below w.heap.size w U := hb2.trans (hb4.mono hb2.size); have zz3 : w.heap.size + 1 < U.heap.size := Nat.lt_of_lt_of_le zz2 hb4.size; have n0 : w.heap.size < U.heap.size := (by omega); have n1 : ¬ w.heap.size = U.heap.size := (by omega); have n2 : ¬ w.heap.size + 1 = U.heap.size := (by omega); have n3 : w.heap.size ≠ U.heap.size := n1; have n4 : w.heap.size + 1 ≠ U.heap.size := n2; have m0 : tb < U.heap.size := World.block_lt_of_cell? _ _ t0; have m1 : ¬ tb = U.heap.size := (by omega); have m2 : ¬ w.heap.size = U.heap.size + 1 := (by omega); have m3 : ¬ w.heap.size + 1 = U.heap.size + 1 := (by omega); have m4 : w.heap.size < U.heap.size + 1 := (by omega); have m5 : w.heap.size + 1 < U.heap.size + 1 := (by omega)) | (go_at_call 71; (with_reducible refine Calls.mono (hF _ (Kd.C_below hC bq2) (Kd.C_below hD bq2)) ?_); rintro e' V ⟨v9, rfl, hR8, hb8⟩; obtain ⟨L8, c8, rfl, _, hC8⟩ := Kd.R_reads hR8))
  have hR0 := R_zero2 kI (e := 2) (base := U.heap.size) (fun k => k = U.heap.size ∨ V.heap.size ≤ k) (Or.inl rfl) (heap_alloc_last U (.cells #[] 2)) (Nat.le_refl _)
  replace hR0 := Kd.R_below (Kd.R_alloc hR0 (.cells #[.int .u8 (ft.e.a.toNat : Int), .int .u8 (ft.e.b.toNat : Int), .int .u8 (ft.e.c.toNat : Int), .int .i64 ft.v] 80)) hb8
  have hb12 : Below U.heap.size U ((U.alloc (.cells #[] 2)).alloc (.cells #[.int .u8 (ft.e.a.toNat : Int), .int .u8 (ft.e.b.toNat : Int), .int .u8 (ft.e.c.toNat : Int), .int .i64 ft.v] 80)) := (below_alloc2 U (.cells #[] 2)).trans ((below_alloc2 (U.alloc (.cells #[] 2)) (.cells #[.int .u8 (ft.e.a.toNat : Int), .int .u8 (ft.e.b.toNat : Int), .int .u8 (ft.e.c.toNat : Int), .int .i64 ft.v] 80)).mono (by simp))
  have hbUV := hb12.trans (hb8.mono (by simp; omega))
  have x0 : V.cell? ⟨U.heap.size + 1, 0, none⟩ = some (.int .u8 (ft.e.a.toNat : Int)) := pw_cell_below hb8 bq5
  have x1' : V.cell? ⟨U.heap.size + 1, 1, none⟩ = some (.int .u8 (ft.e.b.toNat : Int)) := pw_cell_below hb8 bq5
  have x2' : V.cell? ⟨U.heap.size + 1, 2, none⟩ = some (.int .u8 (ft.e.c.toNat : Int)) := pw_cell_below hb8 bq5
  have x3 : V.cell? ⟨U.heap.size + 1, 3, none⟩ = some (.int .i64 ft.v) := pw_cell_below hb8 bq5
  have hR9 := Kd.R_lower (Kd.R_mono (Kd.R_bound hR8) (ok' := fun k => U.heap.size + 2 ≤ k ∧ k < V.heap.size) (fun k hk => ⟨by have := hk.2.1; simp at this; omega, hk.2.2.1⟩)) (base' := U.heap.size) (by simp; omega)
  have hzV : U.heap.size + 2 ≤ V.heap.size := by have := hb8.size; simp at this; omega
  have hDU := Kd.C_below hD hbU
  have hwU := hbU.size
  clear hR8 hb8 hC8 hC3 hD3 hF hb12 hb4 hb4' hX hbW g0 g1 g2 t0 t1 t2 t3 hb2 zz2 hZr
  clear x1
  generalize hfb : w.heap.size + 1 = fb at *
  generalize htx : U.heap.size + 1 = tx at *
  go_loopg [29, 7] ps.length (fun g v29 v7 w' => ∃ (j : Nat) (Q : Option Addr) (cq : Nat), j + g = ps.length ∧ v29 = .int .i64 j ∧ v7 = .slice Q j cq ∧ Below U.heap.size U w' ∧ V.heap.size ≤ w'.heap.size ∧ kI.R 2 w' U.heap.size (fun k => k = U.heap.size ∨ V.heap.size ≤ k) (.slice Q j cq) ((chV p ts ps).take j) ∧ kP.R 38 w' U.heap.size (fun k => U.heap.size + 2 ≤ k ∧ k < V.heap.size) (.slice L8 ps.length c8) ps ∧ w'.cell? ⟨tx, 0, none⟩ = some (.int .u8 (ft.e.a.toNat : Int)) ∧ w'.cell? ⟨tx, 1, none⟩ = some (.int .u8 (ft.e.b.toNat : Int)) ∧ w'.cell? ⟨tx, 2, none⟩ = some (.int .u8 (ft.e.c.toNat : Int)) ∧ w'.cell? ⟨tx, 3, none⟩ = some (.int .i64 ft.v) ∧ (ps.take j).all (chOk p ts) = true)
  case atStart => exact ⟨0, some ⟨U.heap.size, 0, none⟩, 0, by omega, rfl, rfl, hbUV, Nat.le_refl _, hR0, hR9, x0, x1', x2', x3, rfl⟩
  case round =>
    clear hR0 hR9 hbUV x0 x1' x2' x3
    obtain ⟨j, Q, cq, hjk, rfl, rfl, hb, hvs, hRq, hRi, x0, x1', x2', x3, hall⟩ := hrel
    have HJK := Lib.hid hjk
    have HALL := Lib.hid hall
    have hbs := hb.size
    clear hjk hall
    by_cases hj : j < ps.length
    · obtain ⟨xt, hx, hxc, hxd⟩ := likes_atC HL.out hj
      have hxn := HNZ.out _ (getD_memP hj)
      rw [hx] at hxn
      obtain ⟨b2, o2, A2, c2, hB, p0, p1, p2, hRx⟩ := kP_ownC hRi hj hx
      subst hB
      have hi0 : (0 : Int) ≤ j := by omega
      have hi1 : (j : Int) < ps.length := by omega
      have hin : ((j : Int)).toNat = j := by omega
      have hxl := deg_len hxc.1 hxd
      have hkb := chN_bd hp (ts := ts) hxc
      have HN0 := Lib.hid (fun h => chR_no (p := p) (ts := ts) hj hx h)
      have HZ0 := Lib.hid (fun h => ch_zero (p := p) hp (ts := ts) hxn h)
      have HST := Lib.hid (fun h => chAll_step (p := p) (ts := ts) hj hx HALL.out h)
      have HTK := Lib.hid (chV_take (p := p) (ts := ts) hj hx)
      have hcb := canon_bd hp hxc ft.e
      have hib := invF_range ft.v hp
      have hpr0 : 0 ≤ coefL xt ft.e * invF p ft.v := Int.mul_nonneg hcb.1 hib.1
      have hpr1 : coefL xt ft.e * invF p ft.v ≤ 13 * 13 := Int.mul_le_mul (by omega) (by omega) hib.1 (by omega)
      have hch : chN p ts xt = (coefL xt ft.e * invF p ft.v).tmod p := by rw [chN, hft]
      have hyl : ((chV p ts ps).take j).length = j := by rw [List.length_take, chV_len]; omega
      have HYL := Lib.hid hyl
      have hCo := fun W h => coefficient_c p n A2 c2 xt ft.e W h (by omega)
      rw [hch] at hkb
      have HCH := Lib.hid hch
      clear hx hxn hch hyl hxc hxd hib hcb
      generalize (chV p ts ps).take j = ys at *
      generalize coefL xt ft.e = cf at *
      generalize invF p ft.v = iv at *
      have hwm := i64_small (n := cf * iv) (by omega) (by omega)
      obtain ⟨kq, hKe⟩ : ∃ kq, (cf * iv).tmod p = kq := ⟨_, rfl⟩
      rw [hKe] at hkb
      have hwk := i64_small (n := kq) (by omega) (by omega)
      have hpz : p ≠ 0 := by omega
      have hpm : p ≠ -1 := by omega
      have HCH2 := Lib.hid (HCH.out.trans hKe)
      obtain ⟨V4, hV4, hb4, y0, y1, y2⟩ := poly_one wr p n (.slice A2 xt.length c2) ⟨rfl, rfl⟩ 38
      have hb5 := hb.trans (hb4.mono hb.size)
      have f0' := pw_cell_below hb5 f0
      have f1' := pw_cell_below hb5 f1
      have f2' := pw_cell_below hb5 f2
      replace x0 := pw_cell_below hb4 x0
      replace x1' := pw_cell_below hb4 x1'
      replace x2' := pw_cell_below hb4 x2'
      replace x3 := pw_cell_below hb4 x3
      have hDx4 := (Kd.R_reads' (Kd.R_below hRx hb4)).2.2
      have hDf4 := Kd.C_below hDU hb5
      have HR := Lib.hid (And.intro (Kd.R_below hRq hb4) (Kd.R_below hRi hb4))
      have hs4 := hb4.size
      have htxs : tx < V4.heap.size := World.block_lt_of_cell? _ _ x0
      have hq5 : wr.heap.size < V4.heap.size := World.block_lt_of_cell? _ _ y0
      have hq6 : fb < V4.heap.size := World.block_lt_of_cell? _ _ f0'
      clear hRq hRi hRx
      go_wp2
      (first | refine wp_region_later2 (by kernel_rfl) (by kernel_rfl) ?_ | refine wp_region_later (by kernel_rfl) (by kernel_rfl) ?_); (repeat (go_big_quiet_step ((first | (go_at_call 80; with_reducible exact quiet_later (hCo _ (Kd.C_below hDx4 (Later.ok _)))) | (go_at_call 67; with_reducible exact quiet_later (hInv _)))))); refine wpQuiet_nil ?_; intro z
      have hz5 := z.ok
      have hb6 := hb5.trans (hz5.mono hb5.size)
      have hs5 := hz5.size
      have y0' := pw_cell_below hz5 y0
      have y1' := pw_cell_below hz5 y1
      have y2' := pw_cell_below hz5 y2
      have f0'' := pw_cell_below hz5 f0'
      have f1'' := pw_cell_below hz5 f1'
      have f2'' := pw_cell_below hz5 f2'
      have hDx5 := Kd.C_below hDx4 hz5
      have hDf5 := Kd.C_below hDf4 hz5
      have x0z := pw_cell_below hz5 x0
      have x1z := pw_cell_below hz5 x1'
      have x2z := pw_cell_below hz5 x2'
      have x3z := pw_cell_below hz5 x3
      have HR5 := Lib.hid (And.intro (Kd.R_below HR.out.1 hz5) (Kd.R_below HR.out.2 hz5))
      generalize z.W = V5 at *
      by_cases hK0 : kq = 0
      · have hr5 : (⟨[], 5⟩ : IC) = r := by rw [← HRR.out, HN0.out (HZ0.out (HCH2.out.trans hK0))]
        subst hr5
        subst hK0
        go_wp2
        refine start_ (n := 15) (S := fun w' => True) (ds := []) #[false, false, false, false, false, false, false, false, false, false, false, false, false, false, false] (by kernel_rfl) rfl rfl trivial (fun hHeld => ?_)
        refine pure_ (i := 0) (N := some 46) (v := ?_) (a' := ?_) #[true, false, false, false, false, false, false, false, false, false, false, false, false, false, false] rfl rfl (by kernel_rfl) (fun _ _ _ h => h) (Or.inl ⟨by rfl, ?_⟩) ?_ ?_
        rotate_left
        · intro w'
          go_simp
          with_reducible rfl
        rotate_left
        · simp only [Act.put, List.setIfInBounds_toArray, List.set_cons_zero, List.set_cons_succ, i64_w, i32_w]
          rfl
        refine pure_ (i := 1) (N := some 47) (v := ?_) (a' := ?_) #[true, true, false, false, false, false, false, false, false, false, false, false, false, false, false] rfl rfl (by kernel_rfl) (fun _ _ _ h => h) (Or.inl ⟨by rfl, ?_⟩) ?_ ?_
        rotate_left
        · intro w'
          go_simp
          with_reducible rfl
        rotate_left
        · simp only [Act.put, List.setIfInBounds_toArray, List.set_cons_zero, List.set_cons_succ, i64_w, i32_w]
          rfl
        refine pure_ (i := 2) (N := some 48) (v := ?_) (a' := ?_) #[true, true, true, false, false, false, false, false, false, false, false, false, false, false, false] rfl rfl (by kernel_rfl) (fun _ _ _ h => h) (Or.inl ⟨by rfl, ?_⟩) ?_ ?_
        rotate_left
        · intro w'
          go_simp
          with_reducible rfl
        rotate_left
        · simp only [Act.put, List.setIfInBounds_toArray, List.set_cons_zero, List.set_cons_succ, i64_w, i32_w]
          rfl
        refine pure_ (i := 3) (N := some 49) (v := undef) (a' := ?_) #[true, true, true, true, false, false, false, false, false, false, false, false, false, false, false] rfl rfl (by kernel_rfl) (fun _ _ _ h => h) (Or.inr ⟨by rfl, rfl⟩) ?_ ?_
        rotate_left
        · simp only [Act.put, List.setIfInBounds_toArray, List.set_cons_zero, List.set_cons_succ, i64_w, i32_w]
          rfl
        refine pure_ (i := 4) (N := some 50) (v := undef) (a' := ?_) #[true, true, true, true, true, false, false, false, false, false, false, false, false, false, false] rfl rfl (by kernel_rfl) (fun _ _ _ h => h) (Or.inr ⟨by rfl, rfl⟩) ?_ ?_
        rotate_left
        · simp only [Act.put, List.setIfInBounds_toArray, List.set_cons_zero, List.set_cons_succ, i64_w, i32_w]
          rfl
        refine pure_ (i := 5) (N := some 51) (v := undef) (a' := ?_) #[true, true, true, true, true, true, false, false, false, false, false, false, false, false, false] rfl rfl (by kernel_rfl) (fun _ _ _ h => h) (Or.inr ⟨by rfl, rfl⟩) ?_ ?_
        rotate_left
        · simp only [Act.put, List.setIfInBounds_toArray, List.set_cons_zero, List.set_cons_succ, i64_w, i32_w]
          rfl
        refine pure_ (i := 6) (N := some 52) (v := undef) (a' := ?_) #[true, true, true, true, true, true, true, false, false, false, false, false, false, false, false] rfl rfl (by kernel_rfl) (fun _ _ _ h => h) (Or.inr ⟨by rfl, rfl⟩) ?_ ?_
        rotate_left
        · simp only [Act.put, List.setIfInBounds_toArray, List.set_cons_zero, List.set_cons_succ, i64_w, i32_w]
          rfl
        refine pure_ (i := 7) (N := some 53) (v := undef) (a' := ?_) #[true, true, true, true, true, true, true, true, false, false, false, false, false, false, false] rfl rfl (by kernel_rfl) (fun _ _ _ h => h) (Or.inr ⟨by rfl, rfl⟩) ?_ ?_
        rotate_left
        · simp only [Act.put, List.setIfInBounds_toArray, List.set_cons_zero, List.set_cons_succ, i64_w, i32_w]
          rfl
        refine pure_ (i := 8) (N := some 54) (v := undef) (a' := ?_) #[true, true, true, true, true, true, true, true, true, false, false, false, false, false, false] rfl rfl (by kernel_rfl) (fun _ _ _ h => h) (Or.inr ⟨by rfl, rfl⟩) ?_ ?_
        rotate_left
        · simp only [Act.put, List.setIfInBounds_toArray, List.set_cons_zero, List.set_cons_succ, i64_w, i32_w]
          rfl
        refine pure_ (i := 9) (N := some 55) (v := undef) (a' := ?_) #[true, true, true, true, true, true, true, true, true, true, false, false, false, false, false] rfl rfl (by kernel_rfl) (fun _ _ _ h => h) (Or.inr ⟨by rfl, rfl⟩) ?_ ?_
        rotate_left
        · simp only [Act.put, List.setIfInBounds_toArray, List.set_cons_zero, List.set_cons_succ, i64_w, i32_w]
          rfl
        refine pure_ (i := 10) (N := some 56) (v := undef) (a' := ?_) #[true, true, true, true, true, true, true, true, true, true, true, false, false, false, false] rfl rfl (by kernel_rfl) (fun _ _ _ h => h) (Or.inr ⟨by rfl, rfl⟩) ?_ ?_
        rotate_left
        · simp only [Act.put, List.setIfInBounds_toArray, List.set_cons_zero, List.set_cons_succ, i64_w, i32_w]
          rfl
        refine pure_ (i := 11) (N := some 57) (v := undef) (a' := ?_) #[true, true, true, true, true, true, true, true, true, true, true, true, false, false, false] rfl rfl (by kernel_rfl) (fun _ _ _ h => h) (Or.inr ⟨by rfl, rfl⟩) ?_ ?_
        rotate_left
        · simp only [Act.put, List.setIfInBounds_toArray, List.set_cons_zero, List.set_cons_succ, i64_w, i32_w]
          rfl
        refine pure_ (i := 12) (N := some 58) (v := undef) (a' := ?_) #[true, true, true, true, true, true, true, true, true, true, true, true, true, false, false] rfl rfl (by kernel_rfl) (fun _ _ _ h => h) (Or.inr ⟨by rfl, rfl⟩) ?_ ?_
        rotate_left
        · simp only [Act.put, List.setIfInBounds_toArray, List.set_cons_zero, List.set_cons_succ, i64_w, i32_w]
          rfl
        refine pure_ (i := 13) (N := some 59) (v := undef) (a' := ?_) #[true, true, true, true, true, true, true, true, true, true, true, true, true, true, false] rfl rfl (by kernel_rfl) (fun _ _ _ h => h) (Or.inr ⟨by rfl, rfl⟩) ?_ ?_
        rotate_left
        · simp only [Act.put, List.setIfInBounds_toArray, List.set_cons_zero, List.set_cons_succ, i64_w, i32_w]
          rfl
        refine pure_ (i := 14) (N := some 60) (v := ?_) (a' := ?_) #[true, true, true, true, true, true, true, true, true, true, true, true, true, true, true] rfl rfl (by kernel_rfl) (fun _ _ _ h => h) (Or.inl ⟨by rfl, ?_⟩) ?_ ?_
        rotate_left
        · intro w'
          go_simp
          with_reducible rfl
        rotate_left
        · simp only [Act.put, List.setIfInBounds_toArray, List.set_cons_zero, List.set_cons_succ, i64_w, i32_w]
          rfl
        refine done_ (by kernel_rfl) ?_
        go_wp2
        refine bodyPost_ret (v := .tuple #[.slice none 0 0, .int .i64 5]) (by simp [results, Tryz.results36, go_sem]) rfl (MakesIC_nil _ _ ?_)
        exact hbU.trans ((hb6.trans (Below.drew (Below.refl _ _) |>.mono hb6.size)).mono hwU)
      · have hK1 : (kq == 0) = false := by simpa using hK0
        have hAdd : ∀ W A5 c5, kT.C W A5 0 [] → kT.C W (some ⟨tb, tz, none⟩) ts.length ts → Calls Tryz.prog 68 #[.agg #[.int .i64 p, .int .i64 n, .slice A5 0 c5], .agg #[.int .i64 p, .int .i64 n, .slice (some ⟨tb, tz, none⟩) ts.length e], .int .i64 kq] W (MakesP p n 80 (sclL p kq ts) W) := fun W A5 c5 h5 h6 => add_c p n p n kq A5 (some ⟨tb, tz, none⟩) c5 e [] ts W h5 h6 (by simp) (by omega) hp hp' (fun u hu => by
          have h7 := hbv u hu
          have h8 : 0 ≤ kq * u.v := Int.mul_nonneg (by omega) h7.1
          have h9 : kq * u.v ≤ 13 * 13 := Int.mul_le_mul (by omega) (by omega) h7.1 (by omega)
          omega) (canon_nil p)
        have hsK := hsl kq
        have hSm := fun W A5 c5 h h' => samePoly_c p n p n A2 A5 c2 c5 xt (sclL p kq ts) W h h' (by omega) (by omega)
        have e1 : ((p == p && (n : Int) == n) && xt == sclL p kq ts) = (xt == sclL p kq ts) := by simp
        rw [e1] at hSm
        clear e1
        have HC9 := HCH2.out
        rw [HC9] at HN0 HST
        have HTK2 := HTK.out
        rw [HC9] at HTK2
        have HTK3 := Lib.hid HTK2
        clear HTK2 HC9
        generalize sclL p kq ts = sk at *
        cases hzz : (xt == sk) with
        | false =>
          rw [hzz] at hSm
          have hr5 : (⟨[], 5⟩ : IC) = r := by rw [← HRR.out, HN0.out hzz]
          subst hr5
          clear hzz
          go_wp2
          refine start_ (n := 15) (S := fun w' => w'.cell? ⟨wr.heap.size, 0, none⟩ = some (.int .i64 p) ∧ w'.cell? ⟨wr.heap.size, 1, none⟩ = some (.int .i64 n) ∧ w'.cell? ⟨wr.heap.size, 2, none⟩ = some (.slice A2 xt.length c2) ∧ w'.cell? ⟨fb, 0, none⟩ = some (.int .i64 p) ∧ w'.cell? ⟨fb, 1, none⟩ = some (.int .i64 n) ∧ w'.cell? ⟨fb, 2, none⟩ = some (.slice (some ⟨tb, tz, none⟩) ts.length e)) (ds := []) #[false, false, false, false, false, false, false, false, false, false, false, false, false, false, false] (by kernel_rfl) rfl rfl ⟨y0', y1', y2', f0'', f1'', f2''⟩ (fun hHeld => ?_)
          refine pure_ (i := 0) (N := some 46) (v := ?_) (a' := ?_) #[true, false, false, false, false, false, false, false, false, false, false, false, false, false, false] rfl rfl (by kernel_rfl) (fun _ _ _ h => h) (Or.inl ⟨by rfl, ?_⟩) ?_ ?_
          rotate_left
          · intro w'
            go_simp
            with_reducible rfl
          rotate_left
          · simp only [Act.put, List.setIfInBounds_toArray, List.set_cons_zero, List.set_cons_succ, i64_w, i32_w]
            rfl
          refine pure_ (i := 1) (N := some 47) (v := ?_) (a' := ?_) #[true, true, false, false, false, false, false, false, false, false, false, false, false, false, false] rfl rfl (by kernel_rfl) (fun _ _ _ h => h) (Or.inl ⟨by rfl, ?_⟩) ?_ ?_
          rotate_left
          · intro w'
            go_simp
            with_reducible rfl
          rotate_left
          · simp only [Act.put, List.setIfInBounds_toArray, List.set_cons_zero, List.set_cons_succ, i64_w, i32_w]
            rfl
          refine pure_ (i := 2) (N := some 48) (v := ?_) (a' := ?_) #[true, true, true, false, false, false, false, false, false, false, false, false, false, false, false] rfl rfl (by kernel_rfl) (fun _ _ _ h => h) (Or.inl ⟨by rfl, ?_⟩) ?_ ?_
          rotate_left
          · intro w'
            go_simp
            with_reducible rfl
          rotate_left
          · simp only [Act.put, List.setIfInBounds_toArray, List.set_cons_zero, List.set_cons_succ, i64_w, i32_w]
            rfl
          refine pure_ (i := 4) (N := some 50) (v := ?_) (a' := ?_) #[true, true, true, false, true, false, false, false, false, false, false, false, false, false, false] rfl rfl (by kernel_rfl) (fun _ _ _ h => h) (Or.inl ⟨by rfl, ?_⟩) ?_ ?_
          rotate_left
          · intro w'
            go_simp
            with_reducible rfl
          rotate_left
          · simp only [Act.put, List.setIfInBounds_toArray, List.set_cons_zero, List.set_cons_succ, i64_w, i32_w]
            rfl
          refine pure_ (i := 6) (N := some 52) (v := ?_) (a' := ?_) #[true, true, true, false, true, false, true, false, false, false, false, false, false, false, false] rfl rfl (by kernel_rfl) (fun _ _ _ h => h) (Or.inl ⟨by rfl, ?_⟩) ?_ ?_
          rotate_left
          · intro w'
            go_simp
            with_reducible rfl
          rotate_left
          · simp only [Act.put, List.setIfInBounds_toArray, List.set_cons_zero, List.set_cons_succ, i64_w, i32_w]
            rfl
          refine pure_ (i := 10) (N := some 56) (v := ?_) (a' := ?_) #[true, true, true, false, true, false, true, false, false, false, true, false, false, false, false] rfl rfl (by kernel_rfl) (fun _ _ _ h => h) (Or.inl ⟨by rfl, ?_⟩) ?_ ?_
          rotate_left
          · intro w'
            go_simp
            with_reducible rfl
          rotate_left
          · simp only [Act.put, List.setIfInBounds_toArray, List.set_cons_zero, List.set_cons_succ, i64_w, i32_w]
            rfl
          refine take_ (i := 3) (N := some 49) (v := ?_) (a' := ?_) #[true, true, true, true, true, false, true, false, false, false, true, false, false, false, false] rfl rfl (by kernel_rfl) (fun _ _ _ h => h) (Or.inl ⟨by rfl, ?_⟩) hHeld ?_ ?_
          rotate_left
          · rintro w' ⟨s0, s1, s2, s3, s4, s5⟩
            go_simp
            with_reducible rfl
          rotate_left
          · simp only [Act.put, List.setIfInBounds_toArray, List.set_cons_zero, List.set_cons_succ, i64_w, i32_w]
            rfl
          refine take_ (i := 5) (N := some 51) (v := ?_) (a' := ?_) #[true, true, true, true, true, true, true, false, false, false, true, false, false, false, false] rfl rfl (by kernel_rfl) (fun _ _ _ h => h) (Or.inl ⟨by rfl, ?_⟩) hHeld ?_ ?_
          rotate_left
          · rintro w' ⟨s0, s1, s2, s3, s4, s5⟩
            go_simp
            with_reducible rfl
          rotate_left
          · simp only [Act.put, List.setIfInBounds_toArray, List.set_cons_zero, List.set_cons_succ, i64_w, i32_w]
            rfl
          refine take_ (i := 7) (N := some 53) (v := ?_) (a' := ?_) #[true, true, true, true, true, true, true, true, false, false, true, false, false, false, false] rfl rfl (by kernel_rfl) (fun _ _ _ h => h) (Or.inl ⟨by rfl, ?_⟩) hHeld ?_ ?_
          rotate_left
          · rintro w' ⟨s0, s1, s2, s3, s4, s5⟩
            go_simp
            with_reducible rfl
          rotate_left
          · simp only [Act.put, List.setIfInBounds_toArray, List.set_cons_zero, List.set_cons_succ, i64_w, i32_w]
            rfl
          refine take_ (i := 9) (N := some 55) (v := ?_) (a' := ?_) #[true, true, true, true, true, true, true, true, false, true, true, false, false, false, false] rfl rfl (by kernel_rfl) (fun _ _ _ h => h) (Or.inl ⟨by rfl, ?_⟩) hHeld ?_ ?_
          rotate_left
          · rintro w' ⟨s0, s1, s2, s3, s4, s5⟩
            go_simp
            with_reducible rfl
          rotate_left
          · simp only [Act.put, List.setIfInBounds_toArray, List.set_cons_zero, List.set_cons_succ, i64_w, i32_w]
            rfl
          refine one_ (i := 8) (N := some 54) #[true, true, true, true, true, true, true, true, true, true, true, false, false, false, false] rfl rfl (by kernel_rfl) (by decide) (fun K hK => ?_)
          refine goes_ Tryz.func69 (by kernel_rfl) rfl #[.int .i64 p, .int .i64 n] (by rfl) rfl rfl (by simp only [List.map_toArray, List.map_cons, List.map_nil]; rfl) ?_
          with_reducible refine (hZe _).mono ?_
          rintro e' xw ⟨B8, c9, rfl, hR8, hb8'⟩
          refine ⟨_, rfl, ?_⟩
          have hqx := below_undrewA hb8'
          refine hK.out _ _ ⟨pw_cell_below hqx y0', pw_cell_below hqx y1', pw_cell_below hqx y2', pw_cell_below hqx f0'', pw_cell_below hqx f1'', pw_cell_below hqx f2''⟩ (fun hHeld => ?_)
          clear hK K
          refine norm_ (a' := ?_) ?_ ?_
          rotate_left
          · show Act.put _ (some 54) _ = _
            simp only [Act.put, List.setIfInBounds_toArray, List.set_cons_zero, List.set_cons_succ, i64_w, i32_w]
            rfl
          refine one_ (i := 11) (N := some 57) #[true, true, true, true, true, true, true, true, true, true, true, true, false, false, false] rfl rfl (by kernel_rfl) (by decide) (fun K hK => ?_)
          refine goes_ Tryz.func68 (by kernel_rfl) rfl #[.agg #[.int .i64 p, .int .i64 n, .slice B8 0 c9], .agg #[.int .i64 p, .int .i64 n, .slice (some ⟨tb, tz, none⟩) ts.length e], .int .i64 kq] (by rfl) rfl rfl (by simp only [List.map_toArray, List.map_cons, List.map_nil]; rfl) ?_
          with_reducible refine (hAdd _ B8 c9 (Kd.R_reads' hR8).2.2 (Kd.C_below hDf5 hqx)).mono ?_
          rintro e' yw ⟨B9, c10, rfl, hR9, hb9'⟩
          refine ⟨_, rfl, ?_⟩
          have hqy := hqx.trans (hb9'.mono hqx.size)
          refine hK.out _ _ ⟨pw_cell_below hqy y0', pw_cell_below hqy y1', pw_cell_below hqy y2', pw_cell_below hqy f0'', pw_cell_below hqy f1'', pw_cell_below hqy f2''⟩ (fun hHeld => ?_)
          clear hK K
          refine norm_ (a' := ?_) ?_ ?_
          rotate_left
          · show Act.put _ (some 57) _ = _
            simp only [Act.put, List.setIfInBounds_toArray, List.set_cons_zero, List.set_cons_succ, i64_w, i32_w]
            rfl
          refine one_ (i := 12) (N := some 58) #[true, true, true, true, true, true, true, true, true, true, true, true, true, false, false] rfl rfl (by kernel_rfl) (by decide) (fun K hK => ?_)
          refine goes_ Tryz.func72 (by kernel_rfl) rfl #[.agg #[.int .i64 p, .int .i64 n, .slice A2 xt.length c2], .agg #[.int .i64 p, .int .i64 n, .slice B9 sk.length c10]] (by rfl) rfl rfl (by simp only [List.map_toArray, List.map_cons, List.map_nil]; rfl) ?_
          with_reducible refine (hSm _ B9 c10 (Kd.C_below hDx5 hqy) (Kd.R_reads' hR9).2.2).mono ?_
          rintro e' zw ⟨rfl, hb10'⟩
          refine ⟨_, rfl, ?_⟩
          have hqz := hqy.trans (hb10'.mono hqy.size)
          refine hK.out _ _ ⟨pw_cell_below hqz y0', pw_cell_below hqz y1', pw_cell_below hqz y2', pw_cell_below hqz f0'', pw_cell_below hqz f1'', pw_cell_below hqz f2''⟩ (fun hHeld => ?_)
          clear hK K
          refine norm_ (a' := ?_) ?_ ?_
          rotate_left
          · show Act.put _ (some 58) _ = _
            simp only [Act.put, List.setIfInBounds_toArray, List.set_cons_zero, List.set_cons_succ, i64_w, i32_w]
            rfl
          refine pure_ (i := 13) (N := some 59) (v := ?_) (a' := ?_) #[true, true, true, true, true, true, true, true, true, true, true, true, true, true, false] rfl rfl (by kernel_rfl) (fun _ _ _ h => h) (Or.inl ⟨by rfl, ?_⟩) ?_ ?_
          rotate_left
          · intro w'
            go_simp
            with_reducible rfl
          rotate_left
          · simp only [Act.put, List.setIfInBounds_toArray, List.set_cons_zero, List.set_cons_succ, i64_w, i32_w]
            rfl
          refine pure_ (i := 14) (N := some 60) (v := ?_) (a' := ?_) #[true, true, true, true, true, true, true, true, true, true, true, true, true, true, true] rfl rfl (by kernel_rfl) (fun _ _ _ h => h) (Or.inl ⟨by rfl, ?_⟩) ?_ ?_
          rotate_left
          · intro w'
            go_simp
            with_reducible rfl
          rotate_left
          · simp only [Act.put, List.setIfInBounds_toArray, List.set_cons_zero, List.set_cons_succ, i64_w, i32_w]
            rfl
          refine done_ (by kernel_rfl) ?_
          go_wp2
          refine bodyPost_ret (v := .tuple #[.slice none 0 0, .int .i64 5]) (by simp [results, Tryz.results36, go_sem]) rfl (MakesIC_nil _ _ ?_)
          exact hbU.trans ((hb6.trans (hqz.mono hb6.size)).mono hwU)
        | true =>
          rw [hzz] at hSm
          have HST2 := Lib.hid (HST.out hzz)
          clear hzz
          go_wp2
          refine start_ (n := 15) (S := fun w' => w'.cell? ⟨wr.heap.size, 0, none⟩ = some (.int .i64 p) ∧ w'.cell? ⟨wr.heap.size, 1, none⟩ = some (.int .i64 n) ∧ w'.cell? ⟨wr.heap.size, 2, none⟩ = some (.slice A2 xt.length c2) ∧ w'.cell? ⟨fb, 0, none⟩ = some (.int .i64 p) ∧ w'.cell? ⟨fb, 1, none⟩ = some (.int .i64 n) ∧ w'.cell? ⟨fb, 2, none⟩ = some (.slice (some ⟨tb, tz, none⟩) ts.length e)) (ds := []) #[false, false, false, false, false, false, false, false, false, false, false, false, false, false, false] (by kernel_rfl) rfl rfl ⟨y0', y1', y2', f0'', f1'', f2''⟩ (fun hHeld => ?_)
          refine pure_ (i := 0) (N := some 46) (v := ?_) (a' := ?_) #[true, false, false, false, false, false, false, false, false, false, false, false, false, false, false] rfl rfl (by kernel_rfl) (fun _ _ _ h => h) (Or.inl ⟨by rfl, ?_⟩) ?_ ?_
          rotate_left
          · intro w'
            go_simp
            with_reducible rfl
          rotate_left
          · simp only [Act.put, List.setIfInBounds_toArray, List.set_cons_zero, List.set_cons_succ, i64_w, i32_w]
            rfl
          refine pure_ (i := 1) (N := some 47) (v := ?_) (a' := ?_) #[true, true, false, false, false, false, false, false, false, false, false, false, false, false, false] rfl rfl (by kernel_rfl) (fun _ _ _ h => h) (Or.inl ⟨by rfl, ?_⟩) ?_ ?_
          rotate_left
          · intro w'
            go_simp
            with_reducible rfl
          rotate_left
          · simp only [Act.put, List.setIfInBounds_toArray, List.set_cons_zero, List.set_cons_succ, i64_w, i32_w]
            rfl
          refine pure_ (i := 2) (N := some 48) (v := ?_) (a' := ?_) #[true, true, true, false, false, false, false, false, false, false, false, false, false, false, false] rfl rfl (by kernel_rfl) (fun _ _ _ h => h) (Or.inl ⟨by rfl, ?_⟩) ?_ ?_
          rotate_left
          · intro w'
            go_simp
            with_reducible rfl
          rotate_left
          · simp only [Act.put, List.setIfInBounds_toArray, List.set_cons_zero, List.set_cons_succ, i64_w, i32_w]
            rfl
          refine pure_ (i := 4) (N := some 50) (v := ?_) (a' := ?_) #[true, true, true, false, true, false, false, false, false, false, false, false, false, false, false] rfl rfl (by kernel_rfl) (fun _ _ _ h => h) (Or.inl ⟨by rfl, ?_⟩) ?_ ?_
          rotate_left
          · intro w'
            go_simp
            with_reducible rfl
          rotate_left
          · simp only [Act.put, List.setIfInBounds_toArray, List.set_cons_zero, List.set_cons_succ, i64_w, i32_w]
            rfl
          refine pure_ (i := 6) (N := some 52) (v := ?_) (a' := ?_) #[true, true, true, false, true, false, true, false, false, false, false, false, false, false, false] rfl rfl (by kernel_rfl) (fun _ _ _ h => h) (Or.inl ⟨by rfl, ?_⟩) ?_ ?_
          rotate_left
          · intro w'
            go_simp
            with_reducible rfl
          rotate_left
          · simp only [Act.put, List.setIfInBounds_toArray, List.set_cons_zero, List.set_cons_succ, i64_w, i32_w]
            rfl
          refine pure_ (i := 10) (N := some 56) (v := ?_) (a' := ?_) #[true, true, true, false, true, false, true, false, false, false, true, false, false, false, false] rfl rfl (by kernel_rfl) (fun _ _ _ h => h) (Or.inl ⟨by rfl, ?_⟩) ?_ ?_
          rotate_left
          · intro w'
            go_simp
            with_reducible rfl
          rotate_left
          · simp only [Act.put, List.setIfInBounds_toArray, List.set_cons_zero, List.set_cons_succ, i64_w, i32_w]
            rfl
          refine take_ (i := 3) (N := some 49) (v := ?_) (a' := ?_) #[true, true, true, true, true, false, true, false, false, false, true, false, false, false, false] rfl rfl (by kernel_rfl) (fun _ _ _ h => h) (Or.inl ⟨by rfl, ?_⟩) hHeld ?_ ?_
          rotate_left
          · rintro w' ⟨s0, s1, s2, s3, s4, s5⟩
            go_simp
            with_reducible rfl
          rotate_left
          · simp only [Act.put, List.setIfInBounds_toArray, List.set_cons_zero, List.set_cons_succ, i64_w, i32_w]
            rfl
          refine take_ (i := 5) (N := some 51) (v := ?_) (a' := ?_) #[true, true, true, true, true, true, true, false, false, false, true, false, false, false, false] rfl rfl (by kernel_rfl) (fun _ _ _ h => h) (Or.inl ⟨by rfl, ?_⟩) hHeld ?_ ?_
          rotate_left
          · rintro w' ⟨s0, s1, s2, s3, s4, s5⟩
            go_simp
            with_reducible rfl
          rotate_left
          · simp only [Act.put, List.setIfInBounds_toArray, List.set_cons_zero, List.set_cons_succ, i64_w, i32_w]
            rfl
          refine take_ (i := 7) (N := some 53) (v := ?_) (a' := ?_) #[true, true, true, true, true, true, true, true, false, false, true, false, false, false, false] rfl rfl (by kernel_rfl) (fun _ _ _ h => h) (Or.inl ⟨by rfl, ?_⟩) hHeld ?_ ?_
          rotate_left
          · rintro w' ⟨s0, s1, s2, s3, s4, s5⟩
            go_simp
            with_reducible rfl
          rotate_left
          · simp only [Act.put, List.setIfInBounds_toArray, List.set_cons_zero, List.set_cons_succ, i64_w, i32_w]
            rfl
          refine take_ (i := 9) (N := some 55) (v := ?_) (a' := ?_) #[true, true, true, true, true, true, true, true, false, true, true, false, false, false, false] rfl rfl (by kernel_rfl) (fun _ _ _ h => h) (Or.inl ⟨by rfl, ?_⟩) hHeld ?_ ?_
          rotate_left
          · rintro w' ⟨s0, s1, s2, s3, s4, s5⟩
            go_simp
            with_reducible rfl
          rotate_left
          · simp only [Act.put, List.setIfInBounds_toArray, List.set_cons_zero, List.set_cons_succ, i64_w, i32_w]
            rfl
          refine one_ (i := 8) (N := some 54) #[true, true, true, true, true, true, true, true, true, true, true, false, false, false, false] rfl rfl (by kernel_rfl) (by decide) (fun K hK => ?_)
          refine goes_ Tryz.func69 (by kernel_rfl) rfl #[.int .i64 p, .int .i64 n] (by rfl) rfl rfl (by simp only [List.map_toArray, List.map_cons, List.map_nil]; rfl) ?_
          with_reducible refine (hZe _).mono ?_
          rintro e' xw ⟨B8, c9, rfl, hR8, hb8'⟩
          refine ⟨_, rfl, ?_⟩
          have hqx := below_undrewA hb8'
          refine hK.out _ _ ⟨pw_cell_below hqx y0', pw_cell_below hqx y1', pw_cell_below hqx y2', pw_cell_below hqx f0'', pw_cell_below hqx f1'', pw_cell_below hqx f2''⟩ (fun hHeld => ?_)
          clear hK K
          refine norm_ (a' := ?_) ?_ ?_
          rotate_left
          · show Act.put _ (some 54) _ = _
            simp only [Act.put, List.setIfInBounds_toArray, List.set_cons_zero, List.set_cons_succ, i64_w, i32_w]
            rfl
          refine one_ (i := 11) (N := some 57) #[true, true, true, true, true, true, true, true, true, true, true, true, false, false, false] rfl rfl (by kernel_rfl) (by decide) (fun K hK => ?_)
          refine goes_ Tryz.func68 (by kernel_rfl) rfl #[.agg #[.int .i64 p, .int .i64 n, .slice B8 0 c9], .agg #[.int .i64 p, .int .i64 n, .slice (some ⟨tb, tz, none⟩) ts.length e], .int .i64 kq] (by rfl) rfl rfl (by simp only [List.map_toArray, List.map_cons, List.map_nil]; rfl) ?_
          with_reducible refine (hAdd _ B8 c9 (Kd.R_reads' hR8).2.2 (Kd.C_below hDf5 hqx)).mono ?_
          rintro e' yw ⟨B9, c10, rfl, hR9, hb9'⟩
          refine ⟨_, rfl, ?_⟩
          have hqy := hqx.trans (hb9'.mono hqx.size)
          refine hK.out _ _ ⟨pw_cell_below hqy y0', pw_cell_below hqy y1', pw_cell_below hqy y2', pw_cell_below hqy f0'', pw_cell_below hqy f1'', pw_cell_below hqy f2''⟩ (fun hHeld => ?_)
          clear hK K
          refine norm_ (a' := ?_) ?_ ?_
          rotate_left
          · show Act.put _ (some 57) _ = _
            simp only [Act.put, List.setIfInBounds_toArray, List.set_cons_zero, List.set_cons_succ, i64_w, i32_w]
            rfl
          refine one_ (i := 12) (N := some 58) #[true, true, true, true, true, true, true, true, true, true, true, true, true, false, false] rfl rfl (by kernel_rfl) (by decide) (fun K hK => ?_)
          refine goes_ Tryz.func72 (by kernel_rfl) rfl #[.agg #[.int .i64 p, .int .i64 n, .slice A2 xt.length c2], .agg #[.int .i64 p, .int .i64 n, .slice B9 sk.length c10]] (by rfl) rfl rfl (by simp only [List.map_toArray, List.map_cons, List.map_nil]; rfl) ?_
          with_reducible refine (hSm _ B9 c10 (Kd.C_below hDx5 hqy) (Kd.R_reads' hR9).2.2).mono ?_
          rintro e' zw ⟨rfl, hb10'⟩
          refine ⟨_, rfl, ?_⟩
          have hqz := hqy.trans (hb10'.mono hqy.size)
          refine hK.out _ _ ⟨pw_cell_below hqz y0', pw_cell_below hqz y1', pw_cell_below hqz y2', pw_cell_below hqz f0'', pw_cell_below hqz f1'', pw_cell_below hqz f2''⟩ (fun hHeld => ?_)
          clear hK K
          refine norm_ (a' := ?_) ?_ ?_
          rotate_left
          · show Act.put _ (some 58) _ = _
            simp only [Act.put, List.setIfInBounds_toArray, List.set_cons_zero, List.set_cons_succ, i64_w, i32_w]
            rfl
          refine pure_ (i := 13) (N := some 59) (v := ?_) (a' := ?_) #[true, true, true, true, true, true, true, true, true, true, true, true, true, true, false] rfl rfl (by kernel_rfl) (fun _ _ _ h => h) (Or.inl ⟨by rfl, ?_⟩) ?_ ?_
          rotate_left
          · intro w'
            go_simp
            with_reducible rfl
          rotate_left
          · simp only [Act.put, List.setIfInBounds_toArray, List.set_cons_zero, List.set_cons_succ, i64_w, i32_w]
            rfl
          refine pure_ (i := 14) (N := some 60) (v := ?_) (a' := ?_) #[true, true, true, true, true, true, true, true, true, true, true, true, true, true, true] rfl rfl (by kernel_rfl) (fun _ _ _ h => h) (Or.inl ⟨by rfl, ?_⟩) ?_ ?_
          rotate_left
          · intro w'
            go_simp
            with_reducible rfl
          rotate_left
          · simp only [Act.put, List.setIfInBounds_toArray, List.set_cons_zero, List.set_cons_succ, i64_w, i32_w]
            rfl
          refine done_ (by kernel_rfl) ?_
          have hsz := hqz.size
          go_wp2_with ((with_reducible refine gate_ (.call { callee := .builtin .append, args := #[.tmp 61, .tmp 63], argTypes := #[47, 47] }) rfl ?_); refine Kd.R_append kI (w0 := U) (W := zw) U.heap.size rfl (.tmp 61) (.tmp 63) 47 2 (.int .i64 0) 8 rfl Tryz.underlying47 infoI rfl (by decide) (by decide) (.slice Q j cq) ys kq [.int .i64 kq] (fun k => k = U.heap.size ∨ V.heap.size ≤ k) (fun _ => False) rfl rfl rfl (fun _ hk => hk.elim) (fun k hk => Or.inr (by have h9 : zw.heap.size ≤ k := hk; omega)) (Kd.R_below HR5.out.1 hqz) (hb6.trans (hqz.mono hb6.size)) (by have := hb6.size; omega) (by have := HYL.out; omega) ?_; intro v1 w1 hR6 hB6 hg6 hat6; obtain ⟨B6, c6, rfl, hl6, hC6⟩ := Kd.R_reads hR6)
          have hs6 := hg6.size
          have hown := HR5.out.1.1
          have hI6 := Kd.R_grown (Kd.R_below HR5.out.2 hqz) hg6 (fun k hk he => by
            have h9 := hown k he.symm
            omega)
          have hcell : ∀ i, w1.cell? ⟨tx, i, none⟩ = V5.cell? ⟨tx, i, none⟩ := fun i => by
            refine (World.cell?_of_block (hg6.block tx (by omega) (fun he => ?_))).trans (World.cell?_of_block (hqz.block tx (by omega)))
            have h9 := hown tx he.symm
            omega
          go_roundg (gk - 1)
          case measure => have := HJK.out; omega
          case rel =>
            have hlen : (ys ++ [kq]).length = j + 1 := by rw [List.length_append, HYL.out]; rfl
            rw [hlen] at hR6
            rw [HYL.out]
            refine ⟨j + 1, B6, c6, ?_, ?_, rfl, hB6, ?_, ?_, hI6, (hcell 0).trans x0z, (hcell 1).trans x1z, (hcell 2).trans x2z, (hcell 3).trans x3z, HST2.out⟩
            · have := HJK.out; omega
            · go_num
            · clear hR6 hI6 hlen; omega
            · rw [HTK3.out]; exact hR6
    · have hje : ps.length = j := by have := HJK.out; omega
      subst hje
      have hall2 := HALL.out
      rw [List.take_length] at hall2
      have hr5 : (⟨chV p ts ps, 0⟩ : IC) = r := by rw [← HRR.out, chR_yes hall2]
      subst hr5
      rw [show (chV p ts ps).take ps.length = chV p ts ps by rw [← chV_len p ts ps, List.take_length]] at hRq
      go_wp2
      refine bodyPost_ret (v := .tuple #[.slice Q ps.length cq, .int .i64 0]) (by simp [results, Tryz.results36, go_sem]) rfl ⟨Q, cq, by rw [chV_len], ?_, ?_⟩
      · rw [chV_len]; exact Kd.R_lower (Kd.R_mono hRq (fun _ _ => trivial)) hwU
      · exact hbU.trans (hb.mono hwU)
set_option maxRecDepth 100000 in
set_option maxHeartbeats 2000000 in
theorem specChar_0 (p : Int) (n : Nat) (A : Option Addr) (c : Nat) (ms : List M9) (B : Option Addr) (e : Nat) (ts : List T4) (w : World) (hC : kM.C w A ms.length ms) (hD : kT.C w B ts.length ts) (hN : ms.length ≤ 48) (hts : Canon p ts) (hd : ∀ t ∈ ts, degE t.e ≤ 12) (hp : 2 ≤ p) (hp' : p ≤ 13) (h1 : 1 ≤ n) (h3 : n ≤ 3) (hne : ts ≠ [])
    (hK : ∀ W, kM.C W A ms.length ms → kT.C W B ts.length ts → Calls Tryz.prog 50 #[.agg #[.int .i64 p, .int .i64 n, .slice A ms.length c], .agg #[.int .i64 p, .int .i64 n, .slice B ts.length e]] W (Gives (.int .i64 0) W)) :
    Calls Tryz.prog 35 #[.agg #[.int .i64 p, .int .i64 n, .slice A ms.length c], .agg #[.int .i64 p, .int .i64 n, .slice B ts.length e]] w (MakesIC (chR0 p ts (imgV p n ms ts)) 2 w) := by
  have g0 : ((w.alloc (.cells #[.int .i64 p, .int .i64 n, .slice A ms.length c] 34)).alloc (.cells #[.int .i64 p, .int .i64 n, .slice B ts.length e] 38)).cell? ⟨w.heap.size, 0, none⟩ = some (.int .i64 p) := bq5
  have g1 : ((w.alloc (.cells #[.int .i64 p, .int .i64 n, .slice A ms.length c] 34)).alloc (.cells #[.int .i64 p, .int .i64 n, .slice B ts.length e] 38)).cell? ⟨w.heap.size, 1, none⟩ = some (.int .i64 n) := bq5
  have g2 : ((w.alloc (.cells #[.int .i64 p, .int .i64 n, .slice A ms.length c] 34)).alloc (.cells #[.int .i64 p, .int .i64 n, .slice B ts.length e] 38)).cell? ⟨w.heap.size, 2, none⟩ = some (.slice A ms.length c) := bq5
  have f0 : ((w.alloc (.cells #[.int .i64 p, .int .i64 n, .slice A ms.length c] 34)).alloc (.cells #[.int .i64 p, .int .i64 n, .slice B ts.length e] 38)).cell? ⟨w.heap.size + 1, 0, none⟩ = some (.int .i64 p) := bq5
  have f1 : ((w.alloc (.cells #[.int .i64 p, .int .i64 n, .slice A ms.length c] 34)).alloc (.cells #[.int .i64 p, .int .i64 n, .slice B ts.length e] 38)).cell? ⟨w.heap.size + 1, 1, none⟩ = some (.int .i64 n) := bq5
  have f2 : ((w.alloc (.cells #[.int .i64 p, .int .i64 n, .slice A ms.length c] 34)).alloc (.cells #[.int .i64 p, .int .i64 n, .slice B ts.length e] 38)).cell? ⟨w.heap.size + 1, 2, none⟩ = some (.slice B ts.length e) := bq5
  have hF := fun W h5 h6 => l03All_c p n A c ms B e ts W h5 h6 hN hts hd hp hp' h1 h3
  have HL := Lib.hid (img_likes hp h3 ms hd)
  have htl := deg_len hts.1 hd
  have hsl := fun k => scl_len (p := p) hp k hd
  have hv0 : 1 ≤ (ts.getD 0 z4).v ∧ (ts.getD 0 z4).v < p := by
    have hl0 : 0 < ts.length := List.length_pos_iff.2 hne
    have e : ts.getD 0 z4 = ts[0] := by simp [List.getD_eq_getElem?_getD, hl0]
    rw [e]
    have := hts.2 ts[0] (List.getElem_mem _)
    omega
  have hbv : ∀ t ∈ ts, 0 ≤ t.v ∧ t.v < p := fun t ht => by have := hts.2 t ht; omega
  have hl0 : 0 < ts.length := List.length_pos_iff.2 hne
  have hbW : Below w.heap.size w ((w.alloc (.cells #[.int .i64 p, .int .i64 n, .slice A ms.length c] 34)).alloc (.cells #[.int .i64 p, .int .i64 n, .slice B ts.length e] 38)) := bq2
  have hC3 := Kd.C_below hC hbW
  have hD3 := Kd.C_below hD hbW
  have hInv := fun W => l01Inverse_r (p := p) (z := (ts.getD 0 z4).v) hp hp' W
  rw [Int.emod_eq_of_lt (by omega) hv0.2] at hInv
  have hp48 : (imgV p n ms ts).length ≤ 48 := by rw [imgV_len]; exact hN
  have hlz : ((ts.length : Int) == 0) = false := by simpa using hne
  clear hts hd
  generalize imgV p n ms ts = ps at *
  obtain ⟨r, hr⟩ : ∃ r, chR0 p ts ps = r := ⟨_, rfl⟩
  have HRR := Lib.hid hr
  rw [hr]
  clear hr
  obtain ⟨tb, tz, hB, t0, t1, t2, t3⟩ := kT_at hD3 0 hl0 z4
  simp only [Nat.zero_mul, Nat.add_zero] at t0 t1 t2 t3
  subst hB
  generalize hft : ts.getD 0 z4 = ft at *
  go_enter Tryz.func35, Tryz.ntmps35
  go_wp2_with (first | ((go_at_call 50; (first | (with_reducible refine call_later2 (hK _ hC3 hD3) ?_) | (with_reducible refine call_later (hK _ hC3 hD3) ?_)); intro x1); have hX : Below ((w.alloc (.cells #[.int .i64 p, .int .i64 n, .slice A ms.length c] 34)).alloc (.cells #[.int .i64 p, .int .i64 n, .slice (some ⟨tb, tz, none⟩) ts.length e] 38)).heap.size ((w.alloc (.cells #[.int .i64 p, .int .i64 n, .slice A ms.length c] 34)).alloc (.cells #[.int .i64 p, .int .i64 n, .slice (some ⟨tb, tz, none⟩) ts.length e] 38)) x1.W := bq2; replace g0 := pw_cell_below hX g0; replace g1 := pw_cell_below hX g1; replace g2 := pw_cell_below hX g2; replace f0 := pw_cell_below hX f0; replace f1 := pw_cell_below hX f1; replace f2 := pw_cell_below hX f2; replace t0 := pw_cell_below hX t0; replace t1 := pw_cell_below hX t1; replace t2 := pw_cell_below hX t2; replace t3 := pw_cell_below hX t3; have hb2 : Below w.heap.size w x1.W := bq2) | (go_at_call 59; (with_reducible refine Calls.mono (hF _ (Kd.C_below hC bq2) (Kd.C_below hD bq2)) ?_); rintro e' V ⟨v9, rfl, hR8, hb8⟩; obtain ⟨L8, c8, rfl, _, hC8⟩ := Kd.R_reads hR8; replace g0 := pw_cell_below hb8 g0; replace g1 := pw_cell_below hb8 g1; replace g2 := pw_cell_below hb8 g2; replace f0 := pw_cell_below hb8 f0; replace f1 := pw_cell_below hb8 f1; replace f2 := pw_cell_below hb8 f2; replace t0 := pw_cell_below hb8 t0; replace t1 := pw_cell_below hb8 t1; replace t2 := pw_cell_below hb8 t2; replace t3 := pw_cell_below hb8 t3; have hbV : Below w.heap.size w V := hb2.trans (hb8.mono hb2.size)))
  have hDV := Kd.C_below hD hbV
  have hwV := hbV.size
  have hR0 := R_zero2 kI (e := 2) (base := V.heap.size) (fun _ => True) trivial (heap_alloc_last V (.cells #[] 2)) (Nat.le_refl _)
  have hbU := below_alloc2 V (.cells #[] 2)
  clear g1 g2 hF hC3 hD3 hX hR8 hb8 hb2
  clear x1
  generalize V.alloc (.cells #[] 2) = V1 at *
  generalize hfb : w.heap.size + 1 = fb at *
  generalize hgb : w.heap.size = gb at *
  go_loopg [9, 8] ps.length (fun g v9 v8 w' => ∃ (j : Nat) (Q : Option Addr) (cq : Nat), j + g = ps.length ∧ v9 = .int .i64 j ∧ v8 = .slice Q j cq ∧ Below V.heap.size V w' ∧ kI.R 2 w' V.heap.size (fun _ => True) (.slice Q j cq) ((chV p ts ps).take j) ∧ (ps.take j).all (chOk p ts) = true)
  case atStart => exact ⟨0, some ⟨V.heap.size, 0, none⟩, 0, by omega, rfl, rfl, hbU, hR0, rfl⟩
  case round =>
    clear hR0 hbU
    obtain ⟨j, Q, cq, hjk, rfl, rfl, hb, hRq, hall⟩ := hrel
    have HJK := Lib.hid hjk
    have HALL := Lib.hid hall
    have hbs := hb.size
    clear hjk hall
    by_cases hj : j < ps.length
    · obtain ⟨xt, hx, hxc, hxd⟩ := likes_atC HL.out hj
      obtain ⟨b2, o2, A2, c2, hB, p0, p1, p2, hDx⟩ := kP_seeC hC8 hj hx
      subst hB
      have p0 := pw_cell_below hb p0
      have p1 := pw_cell_below hb p1
      have p2 := pw_cell_below hb p2
      have hDx := Kd.C_below hDx hb
      have hDf := Kd.C_below hDV hb
      have g0' := pw_cell_below hb g0
      have f0' := pw_cell_below hb f0
      have f1' := pw_cell_below hb f1
      have f2' := pw_cell_below hb f2
      have t0' := pw_cell_below hb t0
      have t1' := pw_cell_below hb t1
      have t2' := pw_cell_below hb t2
      have t3' := pw_cell_below hb t3
      have hi0 : (0 : Int) ≤ j := by omega
      have hi1 : (j : Int) < ps.length := by omega
      have hin : ((j : Int)).toNat = j := by omega
      have hxl := deg_len hxc.1 hxd
      have hkb := chN_bd hp (ts := ts) hxc
      have HN0 := Lib.hid (fun h => chR_no (p := p) (ts := ts) hj hx h)
      have HST := Lib.hid (fun h => chAll_step (p := p) (ts := ts) hj hx HALL.out h)
      have HTK := Lib.hid (chV_take (p := p) (ts := ts) hj hx)
      have hcb := canon_bd hp hxc ft.e
      have hib := invF_range ft.v hp
      have hpr0 : 0 ≤ coefL xt ft.e * invF p ft.v := Int.mul_nonneg hcb.1 hib.1
      have hpr1 : coefL xt ft.e * invF p ft.v ≤ 13 * 13 := Int.mul_le_mul (by omega) (by omega) hib.1 (by omega)
      have hch : chN p ts xt = (coefL xt ft.e * invF p ft.v).tmod p := by rw [chN, hft]
      have hyl : ((chV p ts ps).take j).length = j := by rw [List.length_take, chV_len]; omega
      have HYL := Lib.hid hyl
      have hCo := fun W h => l01At_c p n A2 c2 xt ft.e W h (by omega)
      rw [hch] at hkb
      have HCH := Lib.hid hch
      clear hx hch hyl hxc hxd hib hcb
      generalize (chV p ts ps).take j = ys at *
      generalize coefL xt ft.e = cf at *
      generalize invF p ft.v = iv at *
      have hwm := i64_small (n := cf * iv) (by omega) (by omega)
      obtain ⟨kq, hKe⟩ : ∃ kq, (cf * iv).tmod p = kq := ⟨_, rfl⟩
      rw [hKe] at hkb
      have hwk := i64_small (n := kq) (by omega) (by omega)
      have hpz : p ≠ 0 := by omega
      have hpm : p ≠ -1 := by omega
      have HCH2 := Lib.hid (HCH.out.trans hKe)
      have HR := Lib.hid hRq
      have m0 : b2 < wr.heap.size := World.block_lt_of_cell? _ _ p0
      have m1 : tb < wr.heap.size := World.block_lt_of_cell? _ _ t0'
      have m2 : fb < wr.heap.size := World.block_lt_of_cell? _ _ f0'
      have m3 : gb < wr.heap.size := World.block_lt_of_cell? _ _ g0'
      clear hRq
      go_wp2
      (first | refine wp_region_later2 (by kernel_rfl) (by kernel_rfl) ?_ | refine wp_region_later (by kernel_rfl) (by kernel_rfl) ?_); (repeat (go_big_quiet_step ((first | (go_at_call 76; with_reducible exact quiet_later (hCo _ (Kd.C_below hDx (Later.ok _)))) | (go_at_call 77; with_reducible exact quiet_later (hInv _)))))); refine wpQuiet_nil ?_; intro z
      have hz5 := z.ok
      have hb6 := hb.trans (hz5.mono hb.size)
      have hs5 := hz5.size
      have p0' := pw_cell_below hz5 p0
      have p1' := pw_cell_below hz5 p1
      have p2' := pw_cell_below hz5 p2
      have f0'' := pw_cell_below hz5 f0'
      have f1'' := pw_cell_below hz5 f1'
      have f2'' := pw_cell_below hz5 f2'
      have hDx5 := Kd.C_below hDx hz5
      have hDf5 := Kd.C_below hDf hz5
      have HR5 := Lib.hid (Kd.R_below HR.out hz5)
      generalize z.W = V5 at *
      have hSc : ∀ W, kT.C W (some ⟨tb, tz, none⟩) ts.length ts → Calls Tryz.prog 78 #[.agg #[.int .i64 p, .int .i64 n, .slice (some ⟨tb, tz, none⟩) ts.length e], .int .i64 kq] W (MakesP p n 80 (sclL p kq ts) W) := fun W h => l01Scale_c p n kq (some ⟨tb, tz, none⟩) e ts W h (by omega) hp hp' (fun u hu => by
        have h7 := hbv u hu
        have h8 : 0 ≤ kq * u.v := Int.mul_nonneg (by omega) h7.1
        have h9 : kq * u.v ≤ 13 * 13 := Int.mul_le_mul (by omega) (by omega) h7.1 (by omega)
        omega)
      have hsK := hsl kq
      have hSm := fun W A5 c5 h h' => l01Same_c p n p n A2 A5 c2 c5 xt (sclL p kq ts) W h h' (by omega) (by omega)
      have HC9 := HCH2.out
      rw [HC9] at HN0 HST
      have HTK2 := HTK.out
      rw [HC9] at HTK2
      have HTK3 := Lib.hid HTK2
      clear HTK2 HC9
      generalize sclL p kq ts = sk at *
      cases hzz : (xt == sk) with
      | false =>
        rw [hzz] at hSm
        have hr5 : (⟨[], 5⟩ : IC) = r := by rw [← HRR.out, HN0.out hzz]
        subst hr5
        clear hzz
        go_wp2
        refine start_ (n := 9) (S := fun w' => w'.cell? ⟨b2, o2 + j * 3, none⟩ = some (.int .i64 p) ∧ w'.cell? ⟨b2, o2 + j * 3 + 1, none⟩ = some (.int .i64 n) ∧ w'.cell? ⟨b2, o2 + j * 3 + 2, none⟩ = some (.slice A2 xt.length c2) ∧ w'.cell? ⟨fb, 0, none⟩ = some (.int .i64 p) ∧ w'.cell? ⟨fb, 1, none⟩ = some (.int .i64 n) ∧ w'.cell? ⟨fb, 2, none⟩ = some (.slice (some ⟨tb, tz, none⟩) ts.length e)) (ds := []) #[false, false, false, false, false, false, false, false, false] (by kernel_rfl) rfl rfl ⟨p0', p1', p2', f0'', f1'', f2''⟩ (fun hHeld => ?_)
        refine pure_ (i := 0) (N := some 57) (v := ?_) (a' := ?_) #[true, false, false, false, false, false, false, false, false] rfl rfl (by kernel_rfl) (fun _ _ _ h => h) (Or.inl ⟨by rfl, ?_⟩) ?_ ?_
        rotate_left
        · intro w'
          go_simp
          with_reducible rfl
        rotate_left
        · simp only [Act.put, List.setIfInBounds_toArray, List.set_cons_zero, List.set_cons_succ, i64_w, i32_w]
          rfl
        refine pure_ (i := 1) (N := some 58) (v := ?_) (a' := ?_) #[true, true, false, false, false, false, false, false, false] rfl rfl (by kernel_rfl) (fun _ _ _ h => h) (Or.inl ⟨by rfl, ?_⟩) ?_ ?_
        rotate_left
        · intro w'
          go_simp
          with_reducible rfl
        rotate_left
        · simp only [Act.put, List.setIfInBounds_toArray, List.set_cons_zero, List.set_cons_succ, i64_w, i32_w]
          rfl
        refine pure_ (i := 2) (N := some 59) (v := ?_) (a' := ?_) #[true, true, true, false, false, false, false, false, false] rfl rfl (by kernel_rfl) (fun _ _ _ h => h) (Or.inl ⟨by rfl, ?_⟩) ?_ ?_
        rotate_left
        · intro w'
          go_simp
          with_reducible rfl
        rotate_left
        · simp only [Act.put, List.setIfInBounds_toArray, List.set_cons_zero, List.set_cons_succ, i64_w, i32_w]
          rfl
        refine pure_ (i := 5) (N := some 62) (v := ?_) (a' := ?_) #[true, true, true, false, false, true, false, false, false] rfl rfl (by kernel_rfl) (fun _ _ _ h => h) (Or.inl ⟨by rfl, ?_⟩) ?_ ?_
        rotate_left
        · intro w'
          go_simp
          with_reducible rfl
        rotate_left
        · simp only [Act.put, List.setIfInBounds_toArray, List.set_cons_zero, List.set_cons_succ, i64_w, i32_w]
          rfl
        refine take_ (i := 3) (N := some 60) (v := ?_) (a' := ?_) #[true, true, true, true, false, true, false, false, false] rfl rfl (by kernel_rfl) (fun _ _ _ h => h) (Or.inl ⟨by rfl, ?_⟩) hHeld ?_ ?_
        rotate_left
        · rintro w' ⟨s0, s1, s2, s3, s4, s5⟩
          go_simp
          with_reducible rfl
        rotate_left
        · simp only [Act.put, List.setIfInBounds_toArray, List.set_cons_zero, List.set_cons_succ, i64_w, i32_w]
          rfl
        refine take_ (i := 4) (N := some 61) (v := ?_) (a' := ?_) #[true, true, true, true, true, true, false, false, false] rfl rfl (by kernel_rfl) (fun _ _ _ h => h) (Or.inl ⟨by rfl, ?_⟩) hHeld ?_ ?_
        rotate_left
        · rintro w' ⟨s0, s1, s2, s3, s4, s5⟩
          go_simp
          with_reducible rfl
        rotate_left
        · simp only [Act.put, List.setIfInBounds_toArray, List.set_cons_zero, List.set_cons_succ, i64_w, i32_w]
          rfl
        refine one_ (i := 6) (N := some 63) #[true, true, true, true, true, true, true, false, false] rfl rfl (by kernel_rfl) (by decide) (fun K hK => ?_)
        refine goes_ Tryz.func78 (by kernel_rfl) rfl #[.agg #[.int .i64 p, .int .i64 n, .slice (some ⟨tb, tz, none⟩) ts.length e], .int .i64 kq] (by rfl) rfl rfl (by simp only [List.map_toArray, List.map_cons, List.map_nil]; rfl) ?_
        with_reducible refine (hSc _ (Kd.C_below hDf5 (Below.refl _ _).drew)).mono ?_
        rintro e' xw ⟨B8, c9, rfl, hR8, hb8'⟩
        refine ⟨_, rfl, ?_⟩
        have hqx := below_undrewA hb8'
        refine hK.out _ _ ⟨pw_cell_below hqx p0', pw_cell_below hqx p1', pw_cell_below hqx p2', pw_cell_below hqx f0'', pw_cell_below hqx f1'', pw_cell_below hqx f2''⟩ (fun hHeld => ?_)
        clear hK K
        refine norm_ (a' := ?_) ?_ ?_
        rotate_left
        · show Act.put _ (some 63) _ = _
          simp only [Act.put, List.setIfInBounds_toArray, List.set_cons_zero, List.set_cons_succ, i64_w, i32_w]
          rfl
        refine one_ (i := 7) (N := some 64) #[true, true, true, true, true, true, true, true, false] rfl rfl (by kernel_rfl) (by decide) (fun K hK => ?_)
        refine goes_ Tryz.func70 (by kernel_rfl) rfl #[.agg #[.int .i64 p, .int .i64 n, .slice A2 xt.length c2], .agg #[.int .i64 p, .int .i64 n, .slice B8 sk.length c9]] (by rfl) rfl rfl (by simp only [List.map_toArray, List.map_cons, List.map_nil]; rfl) ?_
        with_reducible refine (hSm _ B8 c9 (Kd.C_below hDx5 hqx) (Kd.R_reads' hR8).2.2).mono ?_
        rintro e' yw ⟨rfl, hb9'⟩
        refine ⟨_, rfl, ?_⟩
        have hqy := hqx.trans (hb9'.mono hqx.size)
        refine hK.out _ _ ⟨pw_cell_below hqy p0', pw_cell_below hqy p1', pw_cell_below hqy p2', pw_cell_below hqy f0'', pw_cell_below hqy f1'', pw_cell_below hqy f2''⟩ (fun hHeld => ?_)
        clear hK K
        refine norm_ (a' := ?_) ?_ ?_
        rotate_left
        · show Act.put _ (some 64) _ = _
          simp only [Act.put, List.setIfInBounds_toArray, List.set_cons_zero, List.set_cons_succ, i64_w, i32_w]
          rfl
        refine pure_ (i := 8) (N := some 65) (v := ?_) (a' := ?_) #[true, true, true, true, true, true, true, true, true] rfl rfl (by kernel_rfl) (fun _ _ _ h => h) (Or.inl ⟨by rfl, ?_⟩) ?_ ?_
        rotate_left
        · intro w'
          go_simp
          with_reducible rfl
        rotate_left
        · simp only [Act.put, List.setIfInBounds_toArray, List.set_cons_zero, List.set_cons_succ, i64_w, i32_w]
          rfl
        refine done_ (by kernel_rfl) ?_
        go_wp2
        refine bodyPost_ret (v := .tuple #[.slice none 0 0, .int .i64 5]) (by simp [results, Tryz.results35, go_sem]) rfl (MakesIC_nil _ _ ?_)
        rw [hgb]
        exact hbV.trans ((hb6.trans (hqy.mono hb6.size)).mono hwV)
      | true =>
        rw [hzz] at hSm
        have HST2 := Lib.hid (HST.out hzz)
        clear hzz
        go_wp2
        refine start_ (n := 9) (S := fun w' => w'.cell? ⟨b2, o2 + j * 3, none⟩ = some (.int .i64 p) ∧ w'.cell? ⟨b2, o2 + j * 3 + 1, none⟩ = some (.int .i64 n) ∧ w'.cell? ⟨b2, o2 + j * 3 + 2, none⟩ = some (.slice A2 xt.length c2) ∧ w'.cell? ⟨fb, 0, none⟩ = some (.int .i64 p) ∧ w'.cell? ⟨fb, 1, none⟩ = some (.int .i64 n) ∧ w'.cell? ⟨fb, 2, none⟩ = some (.slice (some ⟨tb, tz, none⟩) ts.length e)) (ds := []) #[false, false, false, false, false, false, false, false, false] (by kernel_rfl) rfl rfl ⟨p0', p1', p2', f0'', f1'', f2''⟩ (fun hHeld => ?_)
        refine pure_ (i := 0) (N := some 57) (v := ?_) (a' := ?_) #[true, false, false, false, false, false, false, false, false] rfl rfl (by kernel_rfl) (fun _ _ _ h => h) (Or.inl ⟨by rfl, ?_⟩) ?_ ?_
        rotate_left
        · intro w'
          go_simp
          with_reducible rfl
        rotate_left
        · simp only [Act.put, List.setIfInBounds_toArray, List.set_cons_zero, List.set_cons_succ, i64_w, i32_w]
          rfl
        refine pure_ (i := 1) (N := some 58) (v := ?_) (a' := ?_) #[true, true, false, false, false, false, false, false, false] rfl rfl (by kernel_rfl) (fun _ _ _ h => h) (Or.inl ⟨by rfl, ?_⟩) ?_ ?_
        rotate_left
        · intro w'
          go_simp
          with_reducible rfl
        rotate_left
        · simp only [Act.put, List.setIfInBounds_toArray, List.set_cons_zero, List.set_cons_succ, i64_w, i32_w]
          rfl
        refine pure_ (i := 2) (N := some 59) (v := ?_) (a' := ?_) #[true, true, true, false, false, false, false, false, false] rfl rfl (by kernel_rfl) (fun _ _ _ h => h) (Or.inl ⟨by rfl, ?_⟩) ?_ ?_
        rotate_left
        · intro w'
          go_simp
          with_reducible rfl
        rotate_left
        · simp only [Act.put, List.setIfInBounds_toArray, List.set_cons_zero, List.set_cons_succ, i64_w, i32_w]
          rfl
        refine pure_ (i := 5) (N := some 62) (v := ?_) (a' := ?_) #[true, true, true, false, false, true, false, false, false] rfl rfl (by kernel_rfl) (fun _ _ _ h => h) (Or.inl ⟨by rfl, ?_⟩) ?_ ?_
        rotate_left
        · intro w'
          go_simp
          with_reducible rfl
        rotate_left
        · simp only [Act.put, List.setIfInBounds_toArray, List.set_cons_zero, List.set_cons_succ, i64_w, i32_w]
          rfl
        refine take_ (i := 3) (N := some 60) (v := ?_) (a' := ?_) #[true, true, true, true, false, true, false, false, false] rfl rfl (by kernel_rfl) (fun _ _ _ h => h) (Or.inl ⟨by rfl, ?_⟩) hHeld ?_ ?_
        rotate_left
        · rintro w' ⟨s0, s1, s2, s3, s4, s5⟩
          go_simp
          with_reducible rfl
        rotate_left
        · simp only [Act.put, List.setIfInBounds_toArray, List.set_cons_zero, List.set_cons_succ, i64_w, i32_w]
          rfl
        refine take_ (i := 4) (N := some 61) (v := ?_) (a' := ?_) #[true, true, true, true, true, true, false, false, false] rfl rfl (by kernel_rfl) (fun _ _ _ h => h) (Or.inl ⟨by rfl, ?_⟩) hHeld ?_ ?_
        rotate_left
        · rintro w' ⟨s0, s1, s2, s3, s4, s5⟩
          go_simp
          with_reducible rfl
        rotate_left
        · simp only [Act.put, List.setIfInBounds_toArray, List.set_cons_zero, List.set_cons_succ, i64_w, i32_w]
          rfl
        refine one_ (i := 6) (N := some 63) #[true, true, true, true, true, true, true, false, false] rfl rfl (by kernel_rfl) (by decide) (fun K hK => ?_)
        refine goes_ Tryz.func78 (by kernel_rfl) rfl #[.agg #[.int .i64 p, .int .i64 n, .slice (some ⟨tb, tz, none⟩) ts.length e], .int .i64 kq] (by rfl) rfl rfl (by simp only [List.map_toArray, List.map_cons, List.map_nil]; rfl) ?_
        with_reducible refine (hSc _ (Kd.C_below hDf5 (Below.refl _ _).drew)).mono ?_
        rintro e' xw ⟨B8, c9, rfl, hR8, hb8'⟩
        refine ⟨_, rfl, ?_⟩
        have hqx := below_undrewA hb8'
        refine hK.out _ _ ⟨pw_cell_below hqx p0', pw_cell_below hqx p1', pw_cell_below hqx p2', pw_cell_below hqx f0'', pw_cell_below hqx f1'', pw_cell_below hqx f2''⟩ (fun hHeld => ?_)
        clear hK K
        refine norm_ (a' := ?_) ?_ ?_
        rotate_left
        · show Act.put _ (some 63) _ = _
          simp only [Act.put, List.setIfInBounds_toArray, List.set_cons_zero, List.set_cons_succ, i64_w, i32_w]
          rfl
        refine one_ (i := 7) (N := some 64) #[true, true, true, true, true, true, true, true, false] rfl rfl (by kernel_rfl) (by decide) (fun K hK => ?_)
        refine goes_ Tryz.func70 (by kernel_rfl) rfl #[.agg #[.int .i64 p, .int .i64 n, .slice A2 xt.length c2], .agg #[.int .i64 p, .int .i64 n, .slice B8 sk.length c9]] (by rfl) rfl rfl (by simp only [List.map_toArray, List.map_cons, List.map_nil]; rfl) ?_
        with_reducible refine (hSm _ B8 c9 (Kd.C_below hDx5 hqx) (Kd.R_reads' hR8).2.2).mono ?_
        rintro e' yw ⟨rfl, hb9'⟩
        refine ⟨_, rfl, ?_⟩
        have hqy := hqx.trans (hb9'.mono hqx.size)
        refine hK.out _ _ ⟨pw_cell_below hqy p0', pw_cell_below hqy p1', pw_cell_below hqy p2', pw_cell_below hqy f0'', pw_cell_below hqy f1'', pw_cell_below hqy f2''⟩ (fun hHeld => ?_)
        clear hK K
        refine norm_ (a' := ?_) ?_ ?_
        rotate_left
        · show Act.put _ (some 64) _ = _
          simp only [Act.put, List.setIfInBounds_toArray, List.set_cons_zero, List.set_cons_succ, i64_w, i32_w]
          rfl
        refine pure_ (i := 8) (N := some 65) (v := ?_) (a' := ?_) #[true, true, true, true, true, true, true, true, true] rfl rfl (by kernel_rfl) (fun _ _ _ h => h) (Or.inl ⟨by rfl, ?_⟩) ?_ ?_
        rotate_left
        · intro w'
          go_simp
          with_reducible rfl
        rotate_left
        · simp only [Act.put, List.setIfInBounds_toArray, List.set_cons_zero, List.set_cons_succ, i64_w, i32_w]
          rfl
        refine done_ (by kernel_rfl) ?_
        have hsz := hqy.size
        go_wp2_with ((with_reducible refine gate_ (.call { callee := .builtin .append, args := #[.tmp 66, .tmp 68], argTypes := #[47, 47] }) rfl ?_); refine Kd.R_append kI (w0 := V) (W := yw) V.heap.size rfl (.tmp 66) (.tmp 68) 47 2 (.int .i64 0) 8 rfl Tryz.underlying47 infoI rfl (by decide) (by decide) (.slice Q j cq) ys kq [.int .i64 kq] (fun _ => True) (fun _ => False) rfl rfl rfl (fun _ hk => hk.elim) (fun _ _ => trivial) (Kd.R_below HR5.out hqy) (hb6.trans (hqy.mono hb6.size)) (by have := hb6.size; omega) (by have := HYL.out; omega) ?_; intro v1 w1 hR6 hB6 hg6 hat6; obtain ⟨B6, c6, rfl, hl6, hC6⟩ := Kd.R_reads hR6)
        go_roundg (gk - 1)
        case measure => have := HJK.out; omega
        case rel =>
          have hlen : (ys ++ [kq]).length = j + 1 := by rw [List.length_append, HYL.out]; rfl
          rw [hlen] at hR6
          rw [HYL.out]
          refine ⟨j + 1, B6, c6, ?_, ?_, rfl, hB6, ?_, HST2.out⟩
          · have := HJK.out; omega
          · go_num
          · rw [HTK3.out]; exact hR6
    · have hje : ps.length = j := by have := HJK.out; omega
      subst hje
      have hall2 := HALL.out
      rw [List.take_length] at hall2
      have hr5 : (⟨chV p ts ps, 0⟩ : IC) = r := by rw [← HRR.out, chR_yes hall2]
      subst hr5
      rw [show (chV p ts ps).take ps.length = chV p ts ps by rw [← chV_len p ts ps, List.take_length]] at hRq
      go_wp2
      refine bodyPost_ret (v := .tuple #[.slice Q ps.length cq, .int .i64 0]) (by simp [results, Tryz.results35, go_sem]) rfl ⟨Q, cq, by rw [chV_len], ?_, ?_⟩
      · rw [chV_len, hgb]; exact Kd.R_lower hRq hwV
      · rw [hgb]; exact hbV.trans (hb.mono hwV)
end Go.Proofs.YtjhkeehfchkpaaaGreat
/- CharacterOf of both sides; no condition. -/
set_option linter.unusedVariables false
set_option linter.unusedSimpArgs false
namespace Go.Proofs.YtjhkeehfchkpaaaGreat
open Go.RowKit Go.Proofs.YtjhkeehfchkpaaaGreatW.PrintWords
attribute [local go_sem] Later.cell Later.frozen Later.lt Later.lt_add Later.le Later.le_add Later.ne Later.ne' add_at
open Go.Proofs.YtjhkeehfchkpaaaGreatW.PrintLast
attribute [local go_sem 2000] run_eqM guardM
theorem poly_zero {p d : Int} {ts : List T4} (h : polyB p d ts = true) : ∀ t ∈ ts, ∀ k, d.toNat ≤ k → k < 3 → t.e.at k = 0 := by
  intro t ht k hk h3
  unfold polyB at h
  simp only [Bool.and_eq_true, List.all_eq_true] at h
  obtain ⟨⟨_, hd⟩, h⟩ := h
  obtain ⟨i, hi, rfl⟩ := List.getElem_of_mem ht
  have h1 := h i (List.mem_range.2 hi)
  have e : ts.getD i z4 = ts[i] := by simp [List.getD_eq_getElem?_getD, hi]
  unfold okB at h1
  simp only [Bool.and_eq_true, e] at h1
  have hz := h1.2
  have hd := inB_of hd
  unfold zerosB at hz
  simp only [Bool.and_eq_true, Bool.or_eq_true, decide_eq_true_eq, beq_iff_eq] at hz
  unfold E3.at
  by_cases k0 : k = 0
  · omega
  · rw [if_neg k0]
    by_cases k1 : k = 1
    · rw [if_pos k1]
      rcases hz.1 with h | h
      · omega
      · exact h
    · rw [if_neg k1]
      rcases hz.2 with h | h
      · omega
      · exact h
theorem img_ne {p n : Int} {ms : List M9} {q d : Int} {ts : List T4} (h : codeF p n ms q d ts = 0) (hne : ts ≠ []) : ∀ x ∈ imgV p n.toNat ms ts, x.ts ≠ [] := by
  obtain ⟨hg, hb, hq, hd⟩ := codeF_0 h
  have gp := (grpB_iff p n ms).1 hg
  obtain ⟨_, _, h1, h3⟩ := grp_n3 gp
  subst hq
  subst hd
  intro x hx
  obtain ⟨m, hm, rfl⟩ := List.mem_map.1 hx
  obtain ⟨i, hi, rfl⟩ := List.getElem_of_mem hm
  have hmat := gp.mat i hi
  rw [show ms.getD i zM = ms[i] by simp [List.getD_eq_getElem?_getD, hi]] at hmat
  unfold matB at hmat
  simp only [Bool.and_eq_true, decide_eq_true_eq] at hmat
  exact led_ne (primeZ_of gp.hp) (by omega) (by omega) (cellsB_le ((cellsB_iff _ _ _).1 hmat.1.2)) hmat.2 (polyB_canon hb) (polyB_deg hb) (poly_zero hb) hne
def chR (p n : Int) (ms : List M9) (q d : Int) (ts : List T4) : IC := if codeF p n ms q d ts = 0 then (if ts = [] then ⟨[], 5⟩ else chR0 p ts (imgV p n.toNat ms ts)) else ⟨[], codeF p n ms q d ts⟩
theorem chR_0 {p n : Int} {ms : List M9} {q d : Int} {ts : List T4} (h : codeF p n ms q d ts = 0) (hne : ts ≠ []) : chR p n ms q d ts = chR0 p ts (imgV p n.toNat ms ts) := by
  unfold chR
  rw [if_pos h, if_neg hne]
theorem chR_5 {p n : Int} {ms : List M9} {q d : Int} {ts : List T4} (h : codeF p n ms q d ts = 0) (he : ts = []) : chR p n ms q d ts = ⟨[], 5⟩ := by
  unfold chR
  rw [if_pos h, if_pos he]
theorem chR_1 {p n : Int} {ms : List M9} {q d : Int} {ts : List T4} {k : Int} (h : codeF p n ms q d ts = k) (hk : k ≠ 0) : chR p n ms q d ts = ⟨[], k⟩ := by
  unfold chR
  rw [h, if_neg hk]
theorem chR_len (p n : Int) (ms : List M9) (q d : Int) (ts : List T4) : (chR p n ms q d ts).xs.length ≤ 1048576 := by
  by_cases h : codeF p n ms q d ts = 0
  · by_cases he : ts = []
    · rw [chR_5 h he]; simp
    · rw [chR_0 h he]
      have hl := (codeF_nums h).2.2.2.2.2.2.1
      unfold chR0
      split
      · show (chV p ts (imgV p n.toNat ms ts)).length ≤ _
        rw [chV_len, imgV_len]
        omega
      · simp
  · rw [chR_1 rfl h]; simp
set_option maxRecDepth 100000 in
set_option maxHeartbeats 4000000 in
theorem implCharacterOf_c (p n : Int) (A : Option Addr) (c : Nat) (ms : List M9) (q d : Int) (B : Option Addr) (e : Nat) (ts : List T4) (w : World) (hC : kM.C w A ms.length ms) (hD : kT.C w B ts.length ts) (hN : ms.length ≤ 9223372036854775807) (hM : ts.length ≤ 9223372036854775807) :
    Calls Tryz.prog 36 #[.agg #[.int .i64 p, .int .i64 n, .slice A ms.length c], .agg #[.int .i64 q, .int .i64 d, .slice B ts.length e]] w (MakesIC (chR p n ms q d ts) 2 w) := by
  have hK := fun W h h' => actionCode_c p n A c ms q d B e ts W h h' hN hM
  rcases codeF_three p n ms q d ts with h0 | h0 | h0
  · rw [h0] at hK
    by_cases hne : ts = []
    · rw [chR_5 h0 hne]
      subst hne
      clear h0
      have hZr := fun W => isZero_c q d B 0 e W (by omega)
      have hbW : Below w.heap.size w ((w.alloc (.cells #[.int .i64 p, .int .i64 n, .slice A ms.length c] 34)).alloc (.cells #[.int .i64 q, .int .i64 d, .slice B 0 e] 38)) := bq2
      have hC3 := Kd.C_below hC hbW
      have hD3 := Kd.C_below hD hbW
      have f0 : ((w.alloc (.cells #[.int .i64 p, .int .i64 n, .slice A ms.length c] 34)).alloc (.cells #[.int .i64 q, .int .i64 d, .slice B 0 e] 38)).cell? ⟨w.heap.size + 1, 0, none⟩ = some (.int .i64 q) := bq5
      have f1 : ((w.alloc (.cells #[.int .i64 p, .int .i64 n, .slice A ms.length c] 34)).alloc (.cells #[.int .i64 q, .int .i64 d, .slice B 0 e] 38)).cell? ⟨w.heap.size + 1, 1, none⟩ = some (.int .i64 d) := bq5
      have f2 : ((w.alloc (.cells #[.int .i64 p, .int .i64 n, .slice A ms.length c] 34)).alloc (.cells #[.int .i64 q, .int .i64 d, .slice B 0 e] 38)).cell? ⟨w.heap.size + 1, 2, none⟩ = some (.slice B 0 e) := bq5
      go_enter Tryz.func36, Tryz.ntmps36
      go_wp2_with (first | ((go_at_call 54; (first | (with_reducible refine call_later2 (hK _ hC3 hD3) ?_) | (with_reducible refine call_later (hK _ hC3 hD3) ?_)); intro x1); replace f0 := pw_cell_below x1.ok f0; replace f1 := pw_cell_below x1.ok f1; replace f2 := pw_cell_below x1.ok f2) | ((go_at_call 79; (first | (with_reducible refine call_later2 (hZr _) ?_) | (with_reducible refine call_later (hZr _) ?_)); intro x2)))
      refine bodyPost_ret (v := .tuple #[.slice none 0 0, .int .i64 5]) (by simp [results, Tryz.results36, go_sem]) rfl ?_
      exact MakesIC_nil _ _ bq2
    · rw [chR_0 h0 hne]
      have hnz := img_ne h0 hne
      obtain ⟨hq, hdn, hp, hp', h1, h3, hl, hcan, hdg⟩ := codeF_nums h0
      clear h0
      obtain ⟨k, hk⟩ := Int.eq_ofNat_of_zero_le (show 0 ≤ n by omega)
      rw [hk] at hdn
      subst hq
      subst hdn
      subst hk
      exact implChar_0 _ k A c ms B e ts w hC hD hl hcan hdg hp hp' (by omega) (by omega) hne hnz hK
  · rw [chR_1 h0 (by decide)]
    rw [h0] at hK
    clear h0
    have hbW : Below w.heap.size w ((w.alloc (.cells #[.int .i64 p, .int .i64 n, .slice A ms.length c] 34)).alloc (.cells #[.int .i64 q, .int .i64 d, .slice B ts.length e] 38)) := bq2
    have hC3 := Kd.C_below hC hbW
    have hD3 := Kd.C_below hD hbW
    go_enter Tryz.func36, Tryz.ntmps36
    go_wp2_with ((go_at_call 54; (first | (with_reducible refine call_later2 (hK _ hC3 hD3) ?_) | (with_reducible refine call_later (hK _ hC3 hD3) ?_)); intro x1))
    refine bodyPost_ret (v := .tuple #[.slice none 0 0, .int .i64 1]) (by simp [results, Tryz.results36, go_sem]) rfl ?_
    exact MakesIC_nil _ _ bq2
  · rw [chR_1 h0 (by decide)]
    rw [h0] at hK
    clear h0
    have hbW : Below w.heap.size w ((w.alloc (.cells #[.int .i64 p, .int .i64 n, .slice A ms.length c] 34)).alloc (.cells #[.int .i64 q, .int .i64 d, .slice B ts.length e] 38)) := bq2
    have hC3 := Kd.C_below hC hbW
    have hD3 := Kd.C_below hD hbW
    go_enter Tryz.func36, Tryz.ntmps36
    go_wp2_with ((go_at_call 54; (first | (with_reducible refine call_later2 (hK _ hC3 hD3) ?_) | (with_reducible refine call_later (hK _ hC3 hD3) ?_)); intro x1))
    refine bodyPost_ret (v := .tuple #[.slice none 0 0, .int .i64 2]) (by simp [results, Tryz.results36, go_sem]) rfl ?_
    exact MakesIC_nil _ _ bq2
set_option maxRecDepth 100000 in
set_option maxHeartbeats 4000000 in
theorem specCharacterOf_c (p n : Int) (A : Option Addr) (c : Nat) (ms : List M9) (q d : Int) (B : Option Addr) (e : Nat) (ts : List T4) (w : World) (hC : kM.C w A ms.length ms) (hD : kT.C w B ts.length ts) (hN : ms.length ≤ 9223372036854775807) (hM : ts.length ≤ 9223372036854775807) :
    Calls Tryz.prog 35 #[.agg #[.int .i64 p, .int .i64 n, .slice A ms.length c], .agg #[.int .i64 q, .int .i64 d, .slice B ts.length e]] w (MakesIC (chR p n ms q d ts) 2 w) := by
  have hK := fun W h h' => l03Code_c p n A c ms q d B e ts W h h' hN hM
  rcases codeF_three p n ms q d ts with h0 | h0 | h0
  · rw [h0] at hK
    by_cases hne : ts = []
    · rw [chR_5 h0 hne]
      subst hne
      clear h0
      have hbW : Below w.heap.size w ((w.alloc (.cells #[.int .i64 p, .int .i64 n, .slice A ms.length c] 34)).alloc (.cells #[.int .i64 q, .int .i64 d, .slice B 0 e] 38)) := bq2
      have hC3 := Kd.C_below hC hbW
      have hD3 := Kd.C_below hD hbW
      have f0 : ((w.alloc (.cells #[.int .i64 p, .int .i64 n, .slice A ms.length c] 34)).alloc (.cells #[.int .i64 q, .int .i64 d, .slice B 0 e] 38)).cell? ⟨w.heap.size + 1, 0, none⟩ = some (.int .i64 q) := bq5
      have f1 : ((w.alloc (.cells #[.int .i64 p, .int .i64 n, .slice A ms.length c] 34)).alloc (.cells #[.int .i64 q, .int .i64 d, .slice B 0 e] 38)).cell? ⟨w.heap.size + 1, 1, none⟩ = some (.int .i64 d) := bq5
      have f2 : ((w.alloc (.cells #[.int .i64 p, .int .i64 n, .slice A ms.length c] 34)).alloc (.cells #[.int .i64 q, .int .i64 d, .slice B 0 e] 38)).cell? ⟨w.heap.size + 1, 2, none⟩ = some (.slice B 0 e) := bq5
      go_enter Tryz.func35, Tryz.ntmps35
      go_wp2_with (first | ((go_at_call 50; (first | (with_reducible refine call_later2 (hK _ hC3 hD3) ?_) | (with_reducible refine call_later (hK _ hC3 hD3) ?_)); intro x1); replace f0 := pw_cell_below x1.ok f0; replace f1 := pw_cell_below x1.ok f1; replace f2 := pw_cell_below x1.ok f2))
      refine bodyPost_ret (v := .tuple #[.slice none 0 0, .int .i64 5]) (by simp [results, Tryz.results35, go_sem]) rfl ?_
      exact MakesIC_nil _ _ bq2
    · rw [chR_0 h0 hne]
      have hnz := img_ne h0 hne
      obtain ⟨hq, hdn, hp, hp', h1, h3, hl, hcan, hdg⟩ := codeF_nums h0
      clear h0
      obtain ⟨k, hk⟩ := Int.eq_ofNat_of_zero_le (show 0 ≤ n by omega)
      rw [hk] at hdn
      subst hq
      subst hdn
      subst hk
      exact specChar_0 _ k A c ms B e ts w hC hD hl hcan hdg hp hp' (by omega) (by omega) hne hK
  · rw [chR_1 h0 (by decide)]
    rw [h0] at hK
    clear h0
    have hbW : Below w.heap.size w ((w.alloc (.cells #[.int .i64 p, .int .i64 n, .slice A ms.length c] 34)).alloc (.cells #[.int .i64 q, .int .i64 d, .slice B ts.length e] 38)) := bq2
    have hC3 := Kd.C_below hC hbW
    have hD3 := Kd.C_below hD hbW
    go_enter Tryz.func35, Tryz.ntmps35
    go_wp2_with ((go_at_call 50; (first | (with_reducible refine call_later2 (hK _ hC3 hD3) ?_) | (with_reducible refine call_later (hK _ hC3 hD3) ?_)); intro x1))
    refine bodyPost_ret (v := .tuple #[.slice none 0 0, .int .i64 1]) (by simp [results, Tryz.results35, go_sem]) rfl ?_
    exact MakesIC_nil _ _ bq2
  · rw [chR_1 h0 (by decide)]
    rw [h0] at hK
    clear h0
    have hbW : Below w.heap.size w ((w.alloc (.cells #[.int .i64 p, .int .i64 n, .slice A ms.length c] 34)).alloc (.cells #[.int .i64 q, .int .i64 d, .slice B ts.length e] 38)) := bq2
    have hC3 := Kd.C_below hC hbW
    have hD3 := Kd.C_below hD hbW
    go_enter Tryz.func35, Tryz.ntmps35
    go_wp2_with ((go_at_call 50; (first | (with_reducible refine call_later2 (hK _ hC3 hD3) ?_) | (with_reducible refine call_later (hK _ hC3 hD3) ?_)); intro x1))
    refine bodyPost_ret (v := .tuple #[.slice none 0 0, .int .i64 2]) (by simp [results, Tryz.results35, go_sem]) rfl ?_
    exact MakesIC_nil _ _ bq2
end Go.Proofs.YtjhkeehfchkpaaaGreat

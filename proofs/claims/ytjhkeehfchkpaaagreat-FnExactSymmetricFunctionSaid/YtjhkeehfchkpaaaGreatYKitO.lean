/- Walks of the functions on polynomials, numbers and rows, of both sides; no condition. -/
import Derived.Test.YtjhkeehfchkpaaaGreatYE1
import Derived.Test.YtjhkeehfchkpaaaGreatYOrb3
import Derived.Test.YtjhkeehfchkpaaaGreatYAct3
import Derived.Test.YtjhkeehfchkpaaaGreatYLead5
import Derived.Deep.RegionHeld3
import Derived.Test.YtjhkeehfchkpaaaGreatYLawKit2
import Derived.Test.YtjhkeehfchkpaaaGreatYWWords
set_option linter.unusedVariables false
set_option linter.unusedSimpArgs false
namespace Go.Proofs.YtjhkeehfchkpaaaGreatW.PrintWords
open Go.RowKit
section
variable {P : Program} {ops : Array Oper} {rest : List Oper} {o : Oper} {a : Act} {Q : Exit → Act → World → Prop}
end
section
variable {P : Program}
end
section
variable {P : Program} {ops : Array Oper} {rest : List Oper} {o : Oper} {a : Act} {Q : Exit → Act → World → Prop}
end
section
variable {P : Program} {ops : Array Oper} {rest : List Oper} {o : Oper} {a : Act} {Q : Exit → Act → World → Prop}
end
theorem Ev.of {α : Type} {g : Nat → Option α} {r : α} (hg : ∀ k, LeO (g k) (g (k + 1))) {k : Nat} (h : g k = some r) : Ev g r := ⟨k, fun _ hk => at_rounds hg hk h⟩
section
variable {P : Program} {ops : Array Oper} {o : Oper} {a : Act} {Q : Exit → Act → World → Prop} {K : Act → World → Prop}
end
section
variable {α : Type} {enc : α → Value} {d : α}
end
section
variable {α : Type} {P : Program} {ops : Array Oper} {rest : List Oper} {o : Oper} {a : Act} {Q : Exit → Act → World → Prop}
end
section
variable {P : Program}
end
section
variable {α : Type} {R R' : α → List Value → Prop} {e : TypeId} {size : Nat} {w w1 : World} {base : Nat} {v : Value} {ps : List α}
end
section
variable {P : Program} {ops : Array Oper} {rest : List Oper} {o : Oper} {a : Act} {Q : Exit → Act → World → Prop} {α : Type} {R : α → List Value → Prop}
end
section
variable {P : Program} {ops : Array Oper} {o : Oper} {a : Act} {Q : Exit → Act → World → Prop} {K : Act → World → Prop} {α : Type} {R : α → List Value → Prop}
end
section
variable {α : Type} {P : Program}
end
section
variable {P : Program} {ops : Array Oper} {rest : List Oper} {o : Oper} {a : Act} {Q : Exit → Act → World → Prop}
end
namespace Kd
section
variable {α : Type} {d : Kd α} {e : Nat} {w w1 : World} {base : Nat} {ok ok' : Nat → Prop} {v : Value} {xs : List α}
end
section
variable {P : Program} {ops : Array Oper} {rest : List Oper} {o : Oper} {a : Act} {Q : Exit → Act → World → Prop} {α : Type}
end
section
variable {P : Program} {ops : Array Oper} {o : Oper} {a : Act} {Q : Exit → Act → World → Prop} {Kc : Act → World → Prop} {α : Type}
end
end Kd
namespace Kd
section
variable {α : Type} {F : Kd α → Kd α} {sz : Nat} {E : List Nat} {hs : ∀ n, (upto F sz E n).sz = sz} {hE : ∀ n q, q ∈ (upto F sz E n).E → q ∈ E}
end
end Kd
namespace Kd
end Kd
namespace Kd
section
variable {α β : Type} {d : Kd α} {d' : Kd β} {e e' : Nat} {w w1 W : World} {base b b' : Nat} {ok ok' okv oku : Nat → Prop} {v u : Value} {xs : List α} {ys : List β}
end
section
variable {w W : World} {A : Option Addr} {n : Nat}
variable {α : Type} {enc : α → Value} {h1 : ∀ x, (enc x).oneCell' = true} {e base g cap : Nat} {ok : Nat → Prop} {xs : List α}
end
section
variable {P : Program} {ops : Array Oper} {rest : List Oper} {o : Oper} {a : Act} {Q : Exit → Act → World → Prop}
variable {α : Type}
end
end Kd
section
variable {P : Program}
end
section
variable {w w1 : World} {base n size : Nat} {e : TypeId} {v : Value} {xs : List Value}
end
section
variable {P : Program}
end
namespace Kd
section
variable {α : Type} {d : Kd α} {e : Nat} {w w1 W : World} {base : Nat} {ok ok' : Nat → Prop} {v : Value} {xs : List α}
end
section
variable {P : Program} {ops : Array Oper} {rest : List Oper} {o : Oper} {a : Act} {Q' : Exit → Act → World → Prop} {Kc : Act → World → Prop} {α : Type}
end
end Kd
namespace Kd
section
variable {α : Type} {d : Kd α} {e e' : Nat} {w w1 W : World} {base : Nat} {ok : Nat → Prop} {u v : Value} {xs : List α}
end
end Kd
namespace Kd
section
variable {α : Type} {d : Kd α} {e base g n cap : Nat} {ok okp : Nat → Prop} {W : World} {xs : List α}
end
end Kd
namespace Kd
section
variable {α : Type} {F : Kd α → Kd α} {sz : Nat} {E : List Nat} {hs : ∀ n, (upto F sz E n).sz = sz} {hE : ∀ n q, q ∈ (upto F sz E n).E → q ∈ E}
end
end Kd
namespace Kd
section
variable {P : Program} {ops : Array Oper} {rest : List Oper} {o : Oper} {a : Act} {Q : Exit → Act → World → Prop} {α : Type}
end
end Kd
namespace Kd
section
variable {P : Program} {ops : Array Oper} {rest : List Oper} {o : Oper} {a : Act} {Q : Exit → Act → World → Prop} {α : Type}
end
end Kd
namespace Kd
section
variable {α : Type} {k : Kd α} {w : World} {A : Option Addr} {xs : List α} {m c : Nat}
end
end Kd
section
variable {P : Program}
end
namespace Kd
section
variable {α β : Type} {d : Kd α} {d' : Kd β} {e e' base base' n : Nat} {ok ok' : Nat → Prop} {w W w1 W1 : World} {v u : Value} {xs : List α} {ys : List β} {A : Option Addr} {c : Nat}
end
section
variable {α : Type} {enc : α → Value} {h1 : ∀ x, (enc x).oneCell' = true} {w W : World} {A : Option Addr} {n g : Nat} {xs : List α}
end
end Kd
namespace Kd
section
variable {α : Type} {d : Kd α} {e base g : Nat} {ok : Nat → Prop} {w w1 : World} {v : Value} {xs : List α} {o : Obj}
end
end Kd
section
variable {P : Program} {ops : Array Oper} {rest : List Oper} {o : Oper} {a : Act} {Q : Exit → Act → World → Prop}
end
namespace Kd
section
variable {α : Type} {enc : α → Value} {h1 : ∀ x, (enc x).oneCell' = true} {e base g n cap : Nat} {ok : Nat → Prop} {W : World} {xs : List α}
end
end Kd
section
variable {P : Program} {ops : Array Oper} {rest : List Oper} {o : Oper} {a : Act} {Q : Exit → Act → World → Prop}
end
namespace Kd
section
variable {α : Type} {enc : α → Value} {h1 : ∀ x, (enc x).oneCell' = true} {e base g n cap : Nat} {ok : Nat → Prop} {W : World} {xs : List α}
end
end Kd
section
variable {P : Program} {ops : Array Oper} {rest : List Oper} {o : Oper} {a : Act} {Q : Exit → Act → World → Prop} {W : World}
end
section
variable {P : Program} {ops : Array Oper} {o : Oper} {a : Act} {Q : Exit → Act → World → Prop} {Kc : Act → World → Prop}
namespace Kd
variable {α : Type}
end Kd
end
section
variable {P : Program} {tmps : Array Value} {w : World}
end
namespace Kd
section
variable {P : Program} {α : Type}
end
section
variable {P : Program} {ops : Array Oper} {rest : List Oper} {o : Oper} {a : Act} {Q : Exit → Act → World → Prop} {Kc : Act → World → Prop} {α : Type}
end
end Kd
end Go.Proofs.YtjhkeehfchkpaaaGreatW.PrintWords
/- PLAIN LAW of symmetric functions: the table that both sides fill; no condition. -/
set_option linter.unusedVariables false
set_option linter.unusedSimpArgs false
namespace Go.Proofs.YtjhkeehfchkpaaaGreat
open Go.RowKit Go.Proofs.YtjhkeehfchkpaaaGreatW.PrintWords
attribute [local go_sem] Later.cell Later.frozen Later.lt Later.lt_add Later.le Later.le_add Later.ne Later.ne' add_at
/-- Entry j of the table takes up the product of the entry before it and one polynomial. -/
def rowS (p : Int) (n : Nat) (xt : List T4) (t : List PV) (j : Nat) : List PV := t.set j ⟨p, n, putsT p (t.getD j zP).ts (pairsT 1 (mulL p (t.getD (j - 1) zP).ts xt))⟩
def symI (p : Int) (n : Nat) (xt : List T4) : Nat → List PV → List PV
  | 0, t => t
  | j + 1, t => symI p n xt j (rowS p n xt t (j + 1))
def symF (p : Int) (n k : Nat) (ps t : List PV) : List PV := ps.foldl (fun t x => symI p n x.ts k t) t
def sym0 (p : Int) (n k : Nat) : List PV := ⟨p, n, oneL p⟩ :: List.replicate k ⟨p, n, []⟩
def symL (p : Int) (n k : Nat) (ps : List PV) : List T4 := ((symF p n k ps (sym0 p n k)).getD k zP).ts
/-- A table whose entry j has at most j times the degree. -/
structure GoodT (p : Int) (n D k : Nat) (t : List PV) : Prop where
  len : t.length = k + 1
  at_ : ∀ j, j ≤ k → ∃ ts, t.getD j zP = ⟨p, n, ts⟩ ∧ Canon p ts ∧ ∀ u ∈ ts, degE u.e ≤ (j * D : Nat)
theorem symI_step {p : Int} {n : Nat} {xt : List T4} {j : Nat} (h : 1 ≤ j) (t : List PV) : symI p n xt j t = symI p n xt (j - 1) (rowS p n xt t j) := by
  obtain ⟨i, rfl⟩ : ∃ i, j = i + 1 := ⟨j - 1, by omega⟩
  rfl
theorem symF_step {p : Int} {n k : Nat} {ps : List PV} {j : Nat} (h : j < ps.length) (t : List PV) {xt : List T4} {a b : Int} (hx : ps.getD j zP = ⟨a, b, xt⟩) : symF p n k (ps.drop j) t = symF p n k (ps.drop (j + 1)) (symI p n xt k t) := by
  have e : ps.getD j zP = ps[j] := by simp [List.getD_eq_getElem?_getD, h]
  rw [List.drop_eq_getElem_cons h, symF, List.foldl_cons, ← e, hx]
  rfl
theorem good_get {p : Int} {n D k : Nat} {t : List PV} {j : Nat} {x : PV} (hj : j ≤ k) (ht : t.length = k + 1) (i : Nat) : (t.set j x).getD i zP = if i = j then x else t.getD i zP := by
  simp only [List.getD_eq_getElem?_getD, List.getElem?_set]
  by_cases h : j = i
  · subst h
    simp [show j < t.length by omega]
  · simp [h, Ne.symm h]
theorem mul_degD {p : Int} {a b : Nat} {xs ys : List T4} (hx : ∀ u ∈ xs, degE u.e ≤ (a : Int)) (hy : ∀ u ∈ ys, degE u.e ≤ (b : Int)) : ∀ u ∈ mulL p xs ys, degE u.e ≤ ((a + b : Nat) : Int) := by
  intro u hu
  rcases putsT_mem _ hu with ⟨q, hq, e⟩ | h'
  · obtain ⟨c, hc, d, hd, rfl⟩ := mulP_mem hq
    have h1 := hx c hc
    have h2 := hy d hd
    have h3 := degE_mul c.e d.e
    rw [e]
    show degE (mulE c.e d.e) ≤ _
    omega
  · cases h'
theorem puts_degD {p : Int} {a : Nat} {xs ys : List T4} {k : Int} (hx : ∀ u ∈ xs, degE u.e ≤ (a : Int)) (hy : ∀ u ∈ ys, degE u.e ≤ (a : Int)) : ∀ u ∈ putsT p xs (pairsT k ys), degE u.e ≤ (a : Int) := by
  intro u hu
  rcases putsT_mem _ hu with ⟨q, hq, e⟩ | h'
  · obtain ⟨c, hc, rfl⟩ := List.mem_map.1 hq
    rw [e]
    exact hy c hc
  · exact hx u h'
theorem good_row {p : Int} (hp : 2 ≤ p) {n D k : Nat} {t : List PV} (h : GoodT p n D k t) {xt : List T4} (hx : ∀ u ∈ xt, degE u.e ≤ (D : Int)) {j : Nat} (h1 : 1 ≤ j) (hj : j ≤ k) : GoodT p n D k (rowS p n xt t j) := by
  refine ⟨by rw [rowS, List.length_set]; exact h.len, fun i hi => ?_⟩
  rw [rowS, good_get (p := p) (n := n) (D := D) hj h.len]
  by_cases e : i = j
  · subst e
    rw [if_pos rfl]
    obtain ⟨us, hu, huc, hud⟩ := h.at_ i hi
    obtain ⟨vs, hv, hvc, hvd⟩ := h.at_ (i - 1) (by omega)
    rw [hu, hv]
    refine ⟨_, rfl, putsT_canon hp _ huc, ?_⟩
    have hm := mul_degD (p := p) hvd hx
    have e2 : (i - 1) * D + D = i * D := by
      rw [← Nat.succ_mul]
      congr 1
      omega
    rw [e2] at hm
    exact puts_degD hud hm
  · rw [if_neg e]
    exact h.at_ i hi
theorem good_0 {p : Int} (hp : 2 ≤ p) (n D k : Nat) : GoodT p n D k (sym0 p n k) := by
  refine ⟨by simp [sym0], fun j hj => ?_⟩
  cases j with
  | zero =>
    refine ⟨oneL p, rfl, oneL_canon hp, fun u hu => ?_⟩
    rcases putT_mem hu with h | h
    · rw [h]
      show degE z3 ≤ _
      have e : degE z3 = 0 := by decide
      rw [e]
      omega
    · cases h
  | succ j =>
    refine ⟨[], ?_, canon_nil p, fun u hu => by cases hu⟩
    simp [sym0, List.getD_eq_getElem?_getD, List.getElem?_replicate, show j < k by omega]
theorem good_len {p : Int} {n D k : Nat} {t : List PV} (h : GoodT p n D k t) (hD : k * D ≤ 12) {j : Nat} (hj : j ≤ k) : ∃ ts, t.getD j zP = ⟨p, n, ts⟩ ∧ Canon p ts ∧ (∀ u ∈ ts, degE u.e ≤ 12) ∧ (∀ u ∈ ts, degE u.e ≤ (j * D : Nat)) ∧ ts.length ≤ 1183 := by
  obtain ⟨ts, h1, h2, h3⟩ := h.at_ j hj
  have h4 : j * D ≤ 12 := Nat.le_trans (Nat.mul_le_mul_right D hj) hD
  have h5 : ∀ u ∈ ts, degE u.e ≤ 12 := fun u hu => by have := h3 u hu; omega
  exact ⟨ts, h1, h2, h5, h3, deg_len h2.1 h5⟩
theorem no_too {a b : Nat} {xs ys : List T4} (hx : SortT xs) (hy : SortT ys) (h1 : ∀ u ∈ xs, degE u.e ≤ (a : Int)) (h2 : ∀ u ∈ ys, degE u.e ≤ (b : Int)) (hab : a + b ≤ 12) : tooB xs ys = false := by
  have e1 : degP xs ≤ a := degP_le (by omega) h1
  have e2 : degP ys ≤ b := degP_le (by omega) h2
  unfold tooB
  simp
  omega
theorem symI_good {p : Int} (hp : 2 ≤ p) {n D k : Nat} {xt : List T4} (hx : ∀ u ∈ xt, degE u.e ≤ (D : Int)) : ∀ j, j ≤ k → ∀ t, GoodT p n D k t → GoodT p n D k (symI p n xt j t)
  | 0, _, _, h => h
  | j + 1, hj, t, h => symI_good hp hx j (by omega) _ (good_row hp h hx (by omega) hj)
theorem symF_good {p : Int} (hp : 2 ≤ p) {n D k : Nat} : ∀ (ps : List PV), (∀ x ∈ ps, ∀ u ∈ x.ts, degE u.e ≤ (D : Int)) → ∀ t, GoodT p n D k t → GoodT p n D k (symF p n k ps t)
  | [], _, _, h => h
  | x :: ps, hx, t, h => symF_good hp ps (fun y hy => hx y (by simp [hy])) _ (symI_good hp (hx x (by simp)) k (Nat.le_refl k) t h)
end Go.Proofs.YtjhkeehfchkpaaaGreat
/- Symmetric functions of the program: symmetric; no condition. -/
set_option linter.unusedVariables false
set_option linter.unusedSimpArgs false
namespace Go.Proofs.YtjhkeehfchkpaaaGreat
open Go.RowKit Go.Proofs.YtjhkeehfchkpaaaGreatW.PrintWords
attribute [local go_sem] Later.cell Later.frozen Later.lt Later.lt_add Later.le Later.le_add Later.ne Later.ne' add_at
open Go.Proofs.YtjhkeehfchkpaaaGreatW.PrintLast
attribute [local go_sem 2000] run_eqM guardM
theorem rep_set {p : Int} {n k i : Nat} (h : i < k + 1) : (List.replicate i (⟨p, n, []⟩ : PV) ++ List.replicate (k + 1 - i) zP).set i ⟨p, n, []⟩ = List.replicate (i + 1) ⟨p, n, []⟩ ++ List.replicate (k + 1 - (i + 1)) zP := by
  rw [List.set_append_right _ _ (by simp), List.length_replicate, Nat.sub_self, show k + 1 - i = (k + 1 - (i + 1)) + 1 by omega, List.replicate_succ, List.set_cons_zero, List.replicate_succ' (n := i), List.append_assoc]
  rfl
theorem rep_get {p : Int} {n k i : Nat} (h : i < k + 1) : (List.replicate i (⟨p, n, []⟩ : PV) ++ List.replicate (k + 1 - i) zP).getD i zP = ⟨0, 0, []⟩ := by
  rw [List.getD_eq_getElem?_getD, List.getElem?_append_right (by simp), List.length_replicate, Nat.sub_self]
  simp [List.getElem?_replicate, show 0 < k + 1 - i by omega]
  rfl
set_option maxRecDepth 100000 in
set_option maxHeartbeats 8000000 in
theorem symmetric_c (p : Int) (n : Nat) (B : Option Addr) (e : Nat) (ts : List T4) (L : Option Addr) (cl : Nat) (ps : List PV) (m : Nat) (hpl : ps.length = m) (k : Nat) (w : World) (hL : kP.C w L m ps) (hm : m ≤ 48) (hk : k ≤ 48) (hp : 2 ≤ p) (hp' : p ≤ 13) (hps : Likes p n ps) (D : Nat) (hpD : ∀ x ∈ ps, ∀ u ∈ x.ts, degE u.e ≤ (D : Int)) (hkD : k * D ≤ 12) :
    Calls Tryz.prog 86 #[.agg #[.int .i64 p, .int .i64 n, .slice B ts.length e], .slice L m cl, .int .i64 k] w (MakesP p n 80 (symL p n k ps) w) := by
  have HPS := Lib.hid hps
  have HPD := Lib.hid hpD
  have s0 : ((w.alloc (.cells #[.int .i64 p, .int .i64 n, .slice B ts.length e] 38)).alloc (.cells #[.int .i64 0, .int .i64 0, .slice none 0 0] 38)).cell? ⟨w.heap.size, 0, none⟩ = some (.int .i64 p) := bq5
  have s1 : ((w.alloc (.cells #[.int .i64 p, .int .i64 n, .slice B ts.length e] 38)).alloc (.cells #[.int .i64 0, .int .i64 0, .slice none 0 0] 38)).cell? ⟨w.heap.size, 1, none⟩ = some (.int .i64 n) := bq5
  have r0 : ((w.alloc (.cells #[.int .i64 p, .int .i64 n, .slice B ts.length e] 38)).alloc (.cells #[.int .i64 0, .int .i64 0, .slice none 0 0] 38)).cell? ⟨w.heap.size + 1, 0, none⟩ = some (.int .i64 0) := bq5
  have r1 : ((w.alloc (.cells #[.int .i64 p, .int .i64 n, .slice B ts.length e] 38)).alloc (.cells #[.int .i64 0, .int .i64 0, .slice none 0 0] 38)).cell? ⟨w.heap.size + 1, 1, none⟩ = some (.int .i64 0) := bq5
  have r2 : ((w.alloc (.cells #[.int .i64 p, .int .i64 n, .slice B ts.length e] 38)).alloc (.cells #[.int .i64 0, .int .i64 0, .slice none 0 0] 38)).cell? ⟨w.heap.size + 1, 2, none⟩ = some (.slice none 0 0) := bq5
  have r3 : ∀ j, ((w.alloc (.cells #[.int .i64 p, .int .i64 n, .slice B ts.length e] 38)).alloc (.cells #[.int .i64 0, .int .i64 0, .slice none 0 0] 38)).frozen? ⟨w.heap.size + 1, j, none⟩ = false := fun j => bq5
  have hbw : Below w.heap.size w ((w.alloc (.cells #[.int .i64 p, .int .i64 n, .slice B ts.length e] 38)).alloc (.cells #[.int .i64 0, .int .i64 0, .slice none 0 0] 38)) := (below_alloc2 w (.cells #[.int .i64 p, .int .i64 n, .slice B ts.length e] 38)).trans ((below_alloc2 (w.alloc (.cells #[.int .i64 p, .int .i64 n, .slice B ts.length e] 38)) (.cells #[.int .i64 0, .int .i64 0, .slice none 0 0] 38)).mono (by simp))
  have hz2 : ((w.alloc (.cells #[.int .i64 p, .int .i64 n, .slice B ts.length e] 38)).alloc (.cells #[.int .i64 0, .int .i64 0, .slice none 0 0] 38)).heap.size = w.heap.size + 1 + 1 := by simp
  have hL1 := Kd.C_below hL hbw
  have hZ := fun W => zeroPoly_c p n W
  have hO : ∀ W, Calls Tryz.prog 83 #[.int .i64 p, .int .i64 n, .int .i64 1] W (MakesP p n 80 (oneL p) W) := fun W => constant_c p n 1 W hp hp' (by decide) (by decide)
  clear hps hpD hL
  have HG0 := Lib.hid (good_0 (p := p) hp n D k)
  obtain ⟨RES, hRE⟩ : ∃ R, symF p n k (ps.drop 0) (sym0 p n k) = R := ⟨_, rfl⟩
  have HRE := Lib.hid hRE
  have HRES := Lib.hid (show symL p n k ps = (RES.getD k zP).ts by rw [← hRE, List.drop_zero]; rfl)
  generalize symL p n k ps = res at *
  clear hRE
  have hk1 : ((k : Int) + 1).toNat = k + 1 := by omega
  go_enter Tryz.func86, Tryz.ntmps86
  go_wp2_with (refine Kd.R_make kP (w0 := ((w.alloc (.cells #[.int .i64 p, .int .i64 n, .slice B ts.length e] 38)).alloc (.cells #[.int .i64 0, .int .i64 0, .slice none 0 0] 38))) ((w.alloc (.cells #[.int .i64 p, .int .i64 n, .slice B ts.length e] 38)).alloc (.cells #[.int .i64 0, .int .i64 0, .slice none 0 0] 38)).heap.size 38 rfl (N := 14) rfl 52 (.tmp 13) (.tmp 13) rfl ((k : Int) + 1) rfl rfl Tryz.underlying52 _ 40 infoPF rfl (by decide) (by decide) zP (ok := fun _ => True) (okp := fun _ => False) ⟨none, 0, rfl, Kd.R_nil _ _ _ _ _⟩ (fun _ h => h.elim) trivial (by omega) (by omega) (Below.refl _ _) (Nat.le_refl _) ?_; intro v1 w1 HR hb1 _ hob; obtain ⟨g, cap, hv, hg1, hg2, _⟩ := Kd.R_form HR (by simp); rw [List.length_replicate, hk1] at hv; rw [hk1] at HR; subst hv; clear hob)
  generalize ((w.alloc (.cells #[.int .i64 p, .int .i64 n, .slice B ts.length e] 38)).alloc (.cells #[.int .i64 0, .int .i64 0, .slice none 0 0] 38)) = U at *
  replace s0 := pw_cell_below hb1 s0
  replace s1 := pw_cell_below hb1 s1
  generalize hxb : w.heap.size = xb at *
  generalize hrb : xb + 1 = rb at *
  have hsx : xb < U.heap.size := by omega
  have hsr : rb < U.heap.size := by omega
  have hgx : ¬ xb = g := by omega
  have hgr : ¬ rb = g := by omega
  have hxg : xb ≠ g := hgx
  have hgx' : g ≠ xb := fun h => hgx h.symm
  have hw1 := hb1.size
  -- every entry is the zero polynomial of its kind
  go_loopg [17] (k + 1) (fun gk v17 w' => ∃ (i : Nat), i + gk = k + 1 ∧ v17 = .int .i64 i ∧ Below U.heap.size U w' ∧ w1.heap.size ≤ w'.heap.size ∧ w'.cell? ⟨xb, 0, none⟩ = some (.int .i64 p) ∧ w'.cell? ⟨xb, 1, none⟩ = some (.int .i64 n) ∧ kP.R 38 w' U.heap.size (fun _ => True) (.slice (some ⟨g, 0, none⟩) (k + 1) cap) (List.replicate i ⟨p, n, []⟩ ++ List.replicate (k + 1 - i) zP))
  case atStart => exact ⟨0, by omega, rfl, hb1, Nat.le_refl _, s0, s1, by simpa using HR⟩
  case round =>
    clear HR s0 s1
    obtain ⟨i, hik, rfl, hb, hws, s0, s1, hR⟩ := hrel
    have HIK := Lib.hid hik
    clear hik
    by_cases hi : i < k + 1
    · obtain ⟨A0, c0, p0, p1, p2, _⟩ := kP_own0 hR hi (rep_get hi)
      have i0 : wr.frozen? ⟨g, i * 3, none⟩ = false := kP_ice hR hi 0
      have i1 : wr.frozen? ⟨g, i * 3 + 1, none⟩ = false := kP_ice hR hi 1
      have i2 : wr.frozen? ⟨g, i * 3 + 2, none⟩ = false := kP_ice hR hi 2
      have hi0 : (0 : Int) ≤ i := by omega
      have hi1 : (i : Int) < (k : Int) + 1 := by omega
      have hin : ((i : Int)).toNat = i := by omega
      have HS := Lib.hid (rep_set (p := p) (n := n) (k := k) hi)
      have HR := Lib.hid hR
      have hg3 : g < wr.heap.size := by omega
      have hx3 : xb < wr.heap.size := by omega
      clear hR
      generalize List.replicate i (⟨p, n, []⟩ : PV) ++ List.replicate (k + 1 - i) zP = t at *
      go_wp2_with (go_at_call 69; (with_reducible refine to_makesP (V := wr) (Below.refl _ _) (hZ _) ?_); intro w8 B8 c8 hb8 hb8' hl8 hR8; have j0 := (hb8.frozen (p := ⟨g, i * 3, none⟩) hg3).trans i0; have j1 := (hb8.frozen (p := ⟨g, i * 3 + 1, none⟩) hg3).trans i1; have j2 := (hb8.frozen (p := ⟨g, i * 3 + 2, none⟩) hg3).trans i2; have q0 := pw_cell_below hb8 p0; have q1 := pw_cell_below hb8 p1; have q2 := pw_cell_below hb8 p2; replace s0 := pw_cell_below hb8 s0; replace s1 := pw_cell_below hb8 s1)
      have hs8 := hb8.size
      have H := kP_put (okp := fun a => wr.heap.size ≤ a) (Kd.R_below HR.out hb8) hi (p := p) (d := n) (Kd.R_lower (Kd.R_mono (Kd.R_bound hR8) (fun a ha => by have h9 : wr.heap.size ≤ a := ha.2.1; exact h9)) (by omega)) (fun a ha => ⟨trivial, by show a ≠ g; have h9 : wr.heap.size ≤ a := ha; omega⟩)
      have hbV := hb.trans (hb8.mono hb.size)
      have hH := H.2.size
      go_roundg (gk - 1)
      case measure => have := HIK.out; omega
      case rel =>
        refine ⟨i + 1, ?_, ?_, ?_, ?_, ?_, ?_, ?_⟩
        · have := HIK.out; omega
        · go_num
        · clear H hH
          exact bq2
        · exact Nat.le_trans (Nat.le_trans hws hs8) hH
        · exact cell_far2 (cell_far2 (cell_far2 s0 hxg) hxg) hxg
        · exact cell_far2 (cell_far2 (cell_far2 s1 hxg) hxg) hxg
        · rw [← HS.out]; exact H.1
    · have hie : i = k + 1 := by have := HIK.out; omega
      subst hie
      have hR0 : kP.R 38 wr U.heap.size (fun _ => True) (.slice (some ⟨g, 0, none⟩) (k + 1) cap) (List.replicate (k + 1) ⟨p, n, []⟩) := by simpa using hR
      clear hR
      have hx0 : (List.replicate (k + 1) (⟨p, n, []⟩ : PV)).getD 0 zP = ⟨p, n, []⟩ := rfl
      obtain ⟨A0, c0, p0, p1, p2, _⟩ := kP_own0 hR0 (Nat.succ_pos k) hx0
      simp only [Nat.zero_mul] at p0 p1 p2
      have i0 : wr.frozen? ⟨g, 0, none⟩ = false := by have := kP_ice hR0 (Nat.succ_pos k) 0; simpa using this
      have i1 : wr.frozen? ⟨g, 1, none⟩ = false := by have := kP_ice hR0 (Nat.succ_pos k) 1; simpa using this
      have i2 : wr.frozen? ⟨g, 2, none⟩ = false := by have := kP_ice hR0 (Nat.succ_pos k) 2; simpa using this
      have HR := Lib.hid hR0
      have hg3 : g < wr.heap.size := by omega
      have hx3 : xb < wr.heap.size := by omega
      have hk2 : (0 : Int) < (k : Int) + 1 := by omega
      clear hR0 hx0
      go_wp2_with (go_at_call 83; (with_reducible refine to_makesP (V := wr) (Below.refl _ _) (hO _) ?_); intro w8 B8 c8 hb8 hb8' hl8 hR8; have j0 := (hb8.frozen (p := ⟨g, 0, none⟩) hg3).trans i0; have j1 := (hb8.frozen (p := ⟨g, 1, none⟩) hg3).trans i1; have j2 := (hb8.frozen (p := ⟨g, 2, none⟩) hg3).trans i2; have q0 := pw_cell_below hb8 p0; have q1 := pw_cell_below hb8 p1; have q2 := pw_cell_below hb8 p2; replace s0 := pw_cell_below hb8 s0; replace s1 := pw_cell_below hb8 s1)
      have hs8 := hb8.size
      have H := kP_put (okp := fun a => wr.heap.size ≤ a) (Kd.R_below HR.out hb8) (Nat.succ_pos k) (p := p) (d := n) (Kd.R_lower (Kd.R_mono (Kd.R_bound hR8) (fun a ha => by have h9 : wr.heap.size ≤ a := ha.2.1; exact h9)) (by omega)) (fun a ha => ⟨trivial, by show a ≠ g; have h9 : wr.heap.size ≤ a := ha; omega⟩)
      have hbV := hb.trans (hb8.mono hb.size)
      simp only [Nat.zero_mul, Nat.zero_add] at H
      have hH := H.2.size
      have hsz : w1.heap.size ≤ w8.heap.size := by omega
      go_loopg [38] m (fun gk v38 w' => ∃ (j : Nat) (t : List PV), j + gk = m ∧ v38 = .int .i64 j ∧ Below U.heap.size U w' ∧ w1.heap.size ≤ w'.heap.size ∧ kP.R 38 w' U.heap.size (fun _ => True) (.slice (some ⟨g, 0, none⟩) (k + 1) cap) t ∧ GoodT p n D k t ∧ symF p n k (ps.drop j) t = RES)
      case atStart =>
        refine ⟨0, sym0 p n k, by omega, rfl, ?_, Nat.le_trans hsz hH, H.1, HG0.out, HRE.out⟩
        clear H hH
        exact bq2
      case round =>
        clear H hH hb8 hb8' hR8 j0 j1 j2 i0 i1 i2 p0 p1 p2 q0 q1 q2 s0 s1 hbV hb hws hg3 hx3 hs8 hsz
        obtain ⟨j, t, hjk, rfl, hb, hws, hR, hG, hE⟩ := hrel
        have HJK := Lib.hid hjk
        have HG := Lib.hid hG
        have HE := Lib.hid hE
        clear hjk hG hE
        by_cases hj : j < m
        · have hj2 : j < ps.length := by rw [hpl]; exact hj
          obtain ⟨xt, hx, hxc, hxd⟩ := likes_at HPS.out hj2
          have hxD := HPD.out _ (getD_memP hj2)
          rw [hx] at hxD
          obtain ⟨b2, o2, A2, c2, hB, p0, p1, p2, hDxU⟩ := kP_see hL1 hj hx
          subst hB
          have p0 := pw_cell_below hb p0
          have p1 := pw_cell_below hb p1
          have p2 := pw_cell_below hb p2
          have hj0 : (0 : Int) ≤ j := by omega
          have hj1 : (j : Int) < m := by omega
          have hjn : ((j : Int)).toNat = j := by omega
          have hxl := deg_len hxc.1 hxd
          have HE2 := Lib.hid ((symF_step (p := p) (n := n) (k := k) hj2 t hx).symm.trans HE.out)
          have HXC := Lib.hid (And.intro hxc hxD)
          clear hx hxc hxd hxD hj2
          obtain ⟨V4, hV4, hb4, y0, y1, y2⟩ := poly_one wr p n (.slice A2 xt.length c2) ⟨rfl, rfl⟩ 38
          have hR4 := Kd.R_below hR hb4
          have hs4 := hb4.size
          have hb5 := hb.trans (hb4.mono hb.size)
          have hwxq : U.heap.size ≤ wr.heap.size := hb.size
          have hgq : g < wr.heap.size := by omega
          have hsq : wr.heap.size < V4.heap.size := World.block_lt_of_cell? _ _ y0
          clear hR
          go_wp2
          generalize hxq : wr.heap.size = xq at *
          have hqg : xq ≠ g := by omega
          clear hV4 hb4
          go_loopg [11] k (fun gk v11 w'' => ∃ (i : Nat) (t' : List PV), i = gk ∧ v11 = .int .i64 i ∧ i ≤ k ∧ Below U.heap.size U w'' ∧ V4.heap.size ≤ w''.heap.size ∧ w''.cell? ⟨xq, 0, none⟩ = some (.int .i64 p) ∧ w''.cell? ⟨xq, 1, none⟩ = some (.int .i64 n) ∧ w''.cell? ⟨xq, 2, none⟩ = some (.slice A2 xt.length c2) ∧ kP.R 38 w'' U.heap.size (fun _ => True) (.slice (some ⟨g, 0, none⟩) (k + 1) cap) t' ∧ GoodT p n D k t' ∧ symF p n k (ps.drop (j + 1)) (symI p n xt i t') = RES)
          case atStart => exact ⟨k, t, rfl, rfl, Nat.le_refl k, hb5, Nat.le_refl _, y0, y1, y2, hR4, HG.out, HE2.out⟩
          case round =>
            clear hR4 y0 y1 y2 hb5
            obtain ⟨i, t', hik, rfl, hile, hb9, hs9, y0, y1, y2, hR, hG', hE'⟩ := hrel
            have hDx := Kd.C_below hDxU hb9
            have HIK := Lib.hid hik
            have HG' := Lib.hid hG'
            have HE' := Lib.hid hE'
            clear hik hG' hE'
            by_cases hi : 1 ≤ i
            · obtain ⟨us, hu, huc, _, hud, hul⟩ := good_len HG'.out hkD hile
              obtain ⟨vs, hv, hvc, _, hvd, hvl⟩ := good_len HG'.out hkD (show i - 1 ≤ k by omega)
              obtain ⟨A5, c5, q0, q1, q2, hRu⟩ := kP_own0 hR (show i < k + 1 by omega) hu
              obtain ⟨A6, c6, v0, v1, v2, hRv⟩ := kP_own0 hR (show i - 1 < k + 1 by omega) hv
              have i0 : wr.frozen? ⟨g, i * 3, none⟩ = false := kP_ice hR (show i < k + 1 by omega) 0
              have i1 : wr.frozen? ⟨g, i * 3 + 1, none⟩ = false := kP_ice hR (show i < k + 1 by omega) 1
              have i2 : wr.frozen? ⟨g, i * 3 + 2, none⟩ = false := kP_ice hR (show i < k + 1 by omega) 2
              have hCu := (Kd.R_reads' hRu).2.2
              have hCv := (Kd.R_reads' hRv).2.2
              have e2 : (i - 1) * D + D = i * D := by
                rw [← Nat.succ_mul]
                congr 1
                omega
              have hiD : i * D ≤ 12 := Nat.le_trans (Nat.mul_le_mul_right D hile) hkD
              have hmd := mul_degD (p := p) hvd HXC.out.2
              rw [e2] at hmd
              have hml := deg_len (mulL_canon hp vs xt).1 (fun u hu => by have := hmd u hu; omega)
              have hM := fun W h h' => mul_c p n p n A6 A2 c6 c2 vs xt W h h' (Nat.le_trans (Nat.mul_le_mul hvl hxl) (by omega)) (by omega) (by omega) hp hp' (prod_bd hp' hvc HXC.out.1)
              have hA := fun W A7 c7 h h' => add_c p n p n 1 A5 A7 c5 c7 us (mulL p vs xt) W h h' (by omega) (by omega) hp hp' (fun u hu => by have := (mulL_canon hp vs xt).2 u hu; omega) huc
              have HG2 := Lib.hid (good_row hp HG'.out HXC.out.2 hi hile)
              have HE3 := HE'.out
              rw [symI_step hi t'] at HE3
              have hrow : rowS p n xt t' i = t'.set i ⟨p, n, putsT p us (pairsT 1 (mulL p vs xt))⟩ := by rw [rowS, hu, hv]
              rw [hrow] at HE3
              have HG3 := HG2.out
              rw [hrow] at HG3
              have HE4 := Lib.hid (And.intro HG3 HE3)
              have HR := Lib.hid hR
              have hi0 : (0 : Int) ≤ i := by omega
              have hi1 : (i : Int) < (k : Int) + 1 := by omega
              have hin : ((i : Int)).toNat = i := by omega
              have hi2 : (0 : Int) ≤ (i : Int) - 1 := by omega
              have hi3 : (i : Int) - 1 < (k : Int) + 1 := by omega
              have hin2 : ((i : Int) - 1).toNat = i - 1 := by omega
              have hpos : (0 : Int) < i := by omega
              have hi4 : (1 : Int) ≤ i := by omega
              have hw64 : wrap64 ((i : Int) - 1) = (i : Int) - 1 := by unfold wrap64; omega
              have hg3 : g < wr.heap.size := by omega
              have hw3 : U.heap.size ≤ wr.heap.size := hb9.size
              clear hR hRu hRv hu hv huc hud hvc hvd hmd e2 HG2 HE3 HG3 hrow
              generalize putsT p us (pairsT 1 (mulL p vs xt)) = sm at *
              generalize mulL p vs xt = pr at *
              go_wp2
              refine start_ (n := 16) (S := fun w' => w'.cell? ⟨g, i * 3, none⟩ = some (.int .i64 p) ∧ w'.cell? ⟨g, i * 3 + 1, none⟩ = some (.int .i64 n) ∧ w'.cell? ⟨g, i * 3 + 2, none⟩ = some (.slice A5 us.length c5) ∧ w'.cell? ⟨g, (i - 1) * 3, none⟩ = some (.int .i64 p) ∧ w'.cell? ⟨g, (i - 1) * 3 + 1, none⟩ = some (.int .i64 n) ∧ w'.cell? ⟨g, (i - 1) * 3 + 2, none⟩ = some (.slice A6 vs.length c6) ∧ w'.cell? ⟨xq, 0, none⟩ = some (.int .i64 p) ∧ w'.cell? ⟨xq, 1, none⟩ = some (.int .i64 n) ∧ w'.cell? ⟨xq, 2, none⟩ = some (.slice A2 xt.length c2)) (ds := [15]) #[false, false, false, false, false, false, false, false, false, false, false, false, false, false, false, false] (by kernel_rfl) rfl rfl ⟨q0, q1, q2, v0, v1, v2, y0, y1, y2⟩ (fun hHeld => ?_)
              refine pure_ (i := 0) (N := some 47) (v := ?_) (a' := ?_) #[true, false, false, false, false, false, false, false, false, false, false, false, false, false, false, false] rfl rfl (by kernel_rfl) (fun _ _ _ h => h) (Or.inl ⟨by rfl, ?_⟩) ?_ ?_
              rotate_left
              · intro w'
                go_simp
                with_reducible rfl
              rotate_left
              · simp only [Act.put, List.setIfInBounds_toArray, List.set_cons_zero, List.set_cons_succ, i64_w, i32_w]
                rfl
              refine pure_ (i := 1) (N := some 48) (v := ?_) (a' := ?_) #[true, true, false, false, false, false, false, false, false, false, false, false, false, false, false, false] rfl rfl (by kernel_rfl) (fun _ _ _ h => h) (Or.inl ⟨by rfl, ?_⟩) ?_ ?_
              rotate_left
              · intro w'
                go_simp
                with_reducible rfl
              rotate_left
              · simp only [Act.put, List.setIfInBounds_toArray, List.set_cons_zero, List.set_cons_succ, i64_w, i32_w]
                rfl
              refine pure_ (i := 2) (N := some 49) (v := ?_) (a' := ?_) #[true, true, true, false, false, false, false, false, false, false, false, false, false, false, false, false] rfl rfl (by kernel_rfl) (fun _ _ _ h => h) (Or.inl ⟨by rfl, ?_⟩) ?_ ?_
              rotate_left
              · intro w'
                go_simp
                with_reducible rfl
              rotate_left
              · simp only [Act.put, List.setIfInBounds_toArray, List.set_cons_zero, List.set_cons_succ, i64_w, i32_w]
                rfl
              refine pure_ (i := 3) (N := some 50) (v := ?_) (a' := ?_) #[true, true, true, true, false, false, false, false, false, false, false, false, false, false, false, false] rfl rfl (by kernel_rfl) (fun _ _ _ h => h) (Or.inl ⟨by rfl, ?_⟩) ?_ ?_
              rotate_left
              · intro w'
                go_simp
                with_reducible rfl
              rotate_left
              · simp only [Act.put, List.setIfInBounds_toArray, List.set_cons_zero, List.set_cons_succ, i64_w, i32_w]
                rfl
              refine pure_ (i := 4) (N := some 51) (v := ?_) (a' := ?_) #[true, true, true, true, true, false, false, false, false, false, false, false, false, false, false, false] rfl rfl (by kernel_rfl) (fun _ _ _ h => h) (Or.inl ⟨by rfl, ?_⟩) ?_ ?_
              rotate_left
              · intro w'
                go_simp
                with_reducible rfl
              rotate_left
              · simp only [Act.put, List.setIfInBounds_toArray, List.set_cons_zero, List.set_cons_succ, i64_w, i32_w]
                rfl
              refine pure_ (i := 6) (N := some 53) (v := ?_) (a' := ?_) #[true, true, true, true, true, false, true, false, false, false, false, false, false, false, false, false] rfl rfl (by kernel_rfl) (fun _ _ _ h => h) (Or.inl ⟨by rfl, ?_⟩) ?_ ?_
              rotate_left
              · intro w'
                go_simp
                with_reducible rfl
              rotate_left
              · simp only [Act.put, List.setIfInBounds_toArray, List.set_cons_zero, List.set_cons_succ, i64_w, i32_w]
                rfl
              refine pure_ (i := 7) (N := some 54) (v := ?_) (a' := ?_) #[true, true, true, true, true, false, true, true, false, false, false, false, false, false, false, false] rfl rfl (by kernel_rfl) (fun _ _ _ h => h) (Or.inl ⟨by rfl, ?_⟩) ?_ ?_
              rotate_left
              · intro w'
                go_simp
                with_reducible rfl
              rotate_left
              · simp only [Act.put, List.setIfInBounds_toArray, List.set_cons_zero, List.set_cons_succ, i64_w, i32_w]
                rfl
              refine pure_ (i := 8) (N := some 55) (v := ?_) (a' := ?_) #[true, true, true, true, true, false, true, true, true, false, false, false, false, false, false, false] rfl rfl (by kernel_rfl) (fun _ _ _ h => h) (Or.inl ⟨by rfl, ?_⟩) ?_ ?_
              rotate_left
              · intro w'
                go_simp
                with_reducible rfl
              rotate_left
              · simp only [Act.put, List.setIfInBounds_toArray, List.set_cons_zero, List.set_cons_succ, i64_w, i32_w]
                rfl
              refine pure_ (i := 9) (N := some 56) (v := ?_) (a' := ?_) #[true, true, true, true, true, false, true, true, true, true, false, false, false, false, false, false] rfl rfl (by kernel_rfl) (fun _ _ _ h => h) (Or.inl ⟨by rfl, ?_⟩) ?_ ?_
              rotate_left
              · intro w'
                go_simp
                with_reducible rfl
              rotate_left
              · simp only [Act.put, List.setIfInBounds_toArray, List.set_cons_zero, List.set_cons_succ, i64_w, i32_w]
                rfl
              refine take_ (i := 5) (N := some 52) (v := ?_) (a' := ?_) #[true, true, true, true, true, true, true, true, true, true, false, false, false, false, false, false] rfl rfl (by kernel_rfl) (fun _ _ _ h => h) (Or.inl ⟨by rfl, ?_⟩) hHeld ?_ ?_
              rotate_left
              · rintro w' ⟨s0, s1, s2, s3, s4, s5, s6, s7, s8⟩
                go_simp
                with_reducible rfl
              rotate_left
              · simp only [Act.put, List.setIfInBounds_toArray, List.set_cons_zero, List.set_cons_succ, i64_w, i32_w]
                rfl
              refine take_ (i := 10) (N := some 57) (v := ?_) (a' := ?_) #[true, true, true, true, true, true, true, true, true, true, true, false, false, false, false, false] rfl rfl (by kernel_rfl) (fun _ _ _ h => h) (Or.inl ⟨by rfl, ?_⟩) hHeld ?_ ?_
              rotate_left
              · rintro w' ⟨s0, s1, s2, s3, s4, s5, s6, s7, s8⟩
                go_simp
                with_reducible rfl
              rotate_left
              · simp only [Act.put, List.setIfInBounds_toArray, List.set_cons_zero, List.set_cons_succ, i64_w, i32_w]
                rfl
              refine take_ (i := 11) (N := some 58) (v := ?_) (a' := ?_) #[true, true, true, true, true, true, true, true, true, true, true, true, false, false, false, false] rfl rfl (by kernel_rfl) (fun _ _ _ h => h) (Or.inl ⟨by rfl, ?_⟩) hHeld ?_ ?_
              rotate_left
              · rintro w' ⟨s0, s1, s2, s3, s4, s5, s6, s7, s8⟩
                go_simp
                with_reducible rfl
              rotate_left
              · simp only [Act.put, List.setIfInBounds_toArray, List.set_cons_zero, List.set_cons_succ, i64_w, i32_w]
                rfl
              refine one_ (i := 12) (N := some 59) #[true, true, true, true, true, true, true, true, true, true, true, true, true, false, false, false] rfl rfl (by kernel_rfl) (by decide) (fun K hK => ?_)
              refine goes_ Tryz.func84 (by kernel_rfl) rfl #[.agg #[.int .i64 p, .int .i64 n, .slice A6 vs.length c6], .agg #[.int .i64 p, .int .i64 n, .slice A2 xt.length c2]] (by rfl) rfl rfl (by simp only [List.map_toArray, List.map_cons, List.map_nil]; rfl) ?_
              with_reducible refine (hM _ (Kd.C_below hCv (Below.refl _ _).drew) (Kd.C_below hDx (Below.refl _ _).drew)).mono ?_
              rintro e' xw ⟨B8, c8, rfl, hR8, hb8'⟩
              refine ⟨_, rfl, ?_⟩
              have hqx := below_undrewA hb8'
              refine hK.out _ _ ⟨pw_cell_below hqx q0, pw_cell_below hqx q1, pw_cell_below hqx q2, pw_cell_below hqx v0, pw_cell_below hqx v1, pw_cell_below hqx v2, pw_cell_below hqx y0, pw_cell_below hqx y1, pw_cell_below hqx y2⟩ (fun hHeld => ?_)
              clear hK K
              refine norm_ (a' := ?_) ?_ ?_
              rotate_left
              · show Act.put _ (some 59) _ = _
                simp only [Act.put, List.setIfInBounds_toArray, List.set_cons_zero, List.set_cons_succ, i64_w, i32_w]
                rfl
              refine one_ (i := 13) (N := some 60) #[true, true, true, true, true, true, true, true, true, true, true, true, true, true, false, false] rfl rfl (by kernel_rfl) (by decide) (fun K hK => ?_)
              refine goes_ Tryz.func68 (by kernel_rfl) rfl #[.agg #[.int .i64 p, .int .i64 n, .slice A5 us.length c5], .agg #[.int .i64 p, .int .i64 n, .slice B8 pr.length c8], .int .i64 1] (by rfl) rfl rfl (by simp only [List.map_toArray, List.map_cons, List.map_nil]; rfl) ?_
              with_reducible refine (hA _ B8 c8 (Kd.C_below hCu hqx) (Kd.R_reads' hR8).2.2).mono ?_
              rintro e' yw ⟨B9, c9, rfl, hR9, hb9'⟩
              refine ⟨_, rfl, ?_⟩
              have hqy := hqx.trans (hb9'.mono hqx.size)
              have z0 := pw_cell_below hqy q0
              have z1 := pw_cell_below hqy q1
              have z2 := pw_cell_below hqy q2
              have j0 := (hqy.frozen (p := ⟨g, i * 3, none⟩) hg3).trans i0
              have j1 := (hqy.frozen (p := ⟨g, i * 3 + 1, none⟩) hg3).trans i1
              have j2 := (hqy.frozen (p := ⟨g, i * 3 + 2, none⟩) hg3).trans i2
              refine hK.out _ _ ⟨pw_cell_below hqy q0, pw_cell_below hqy q1, pw_cell_below hqy q2, pw_cell_below hqy v0, pw_cell_below hqy v1, pw_cell_below hqy v2, pw_cell_below hqy y0, pw_cell_below hqy y1, pw_cell_below hqy y2⟩ (fun hHeld => ?_)
              clear hK K
              refine norm_ (a' := ?_) ?_ ?_
              rotate_left
              · show Act.put _ (some 60) _ = _
                simp only [Act.put, List.setIfInBounds_toArray, List.set_cons_zero, List.set_cons_succ, i64_w, i32_w]
                rfl
              refine pure_ (i := 14) (N := some 61) (v := ?_) (a' := ?_) #[true, true, true, true, true, true, true, true, true, true, true, true, true, true, true, false] rfl rfl (by kernel_rfl) (fun _ _ _ h => h) (Or.inl ⟨by rfl, ?_⟩) ?_ ?_
              rotate_left
              · intro w'
                go_simp
                with_reducible rfl
              rotate_left
              · simp only [Act.put, List.setIfInBounds_toArray, List.set_cons_zero, List.set_cons_succ, i64_w, i32_w]
                rfl
              refine last_ (i := 15) (N := none) #[true, true, true, true, true, true, true, true, true, true, true, true, true, true, true, true] rfl rfl (by kernel_rfl) (by decide) (fun K hK => ?_)
              refine skip_ (w1 := ?_) (by rfl) rfl ?_ ?_
              rotate_left
              · go_simp
                rfl
              refine hK.out _ _ ?_
              clear hK K
              refine done_ (by kernel_rfl) ?_
              have H := kP_put (okp := fun a => wr.heap.size ≤ a) (Kd.R_below HR.out hqy) (show i < k + 1 by omega) (p := p) (d := n) (Kd.R_lower (Kd.R_mono (Kd.R_bound hR9) (fun a ha => by have h9 : xw.heap.size ≤ a := ha.2.1; have := hqx.size; show wr.heap.size ≤ a; omega)) (by have := hqx.size; show U.heap.size ≤ xw.heap.size; omega)) (fun a ha => ⟨trivial, by show a ≠ g; have h9 : wr.heap.size ≤ a := ha; omega⟩)
              have hsy := hqy.size
              have hH := H.2.size
              have hbY := hb9.trans (hqy.mono hb9.size)
              go_wp2
              go_roundg (i - 1)
              case measure => have := HIK.out; omega
              case rel =>
                refine ⟨i - 1, _, rfl, ?_, ?_, ?_, ?_, ?_, ?_, ?_, H.1, HE4.out.1, HE4.out.2⟩
                · go_num
                · omega
                · clear H hH
                  exact bq2
                · exact Nat.le_trans (Nat.le_trans hs9 hsy) hH
                · exact cell_far2 (cell_far2 (cell_far2 (pw_cell_below hqy y0) hqg) hqg) hqg
                · exact cell_far2 (cell_far2 (cell_far2 (pw_cell_below hqy y1) hqg) hqg) hqg
                · exact cell_far2 (cell_far2 (cell_far2 (pw_cell_below hqy y2) hqg) hqg) hqg
            · have hiz : i = 0 := by omega
              subst hiz
              go_wp2
              go_roundg (m - j - 1)
              case measure => have := HJK.out; omega
              case rel =>
                refine ⟨j + 1, t', ?_, ?_, hb9, by omega, hR, HG'.out, HE'.out⟩
                · have := HJK.out; omega
                · go_num
        · have hje : j = m := by have := HJK.out; omega
          subst hje
          have hEE := HE.out
          rw [List.drop_of_length_le (by omega)] at hEE
          have hEE : t = RES := hEE
          subst hEE
          obtain ⟨us, hu, huc, hud⟩ := HG.out.at_ k (Nat.le_refl k)
          obtain ⟨A5, c5, q0, q1, q2, hRu⟩ := kP_own0 hR (show k < k + 1 by omega) hu
          have hres : us = res := by rw [HRES.out, hu]
          subst hres
          have hk0 : (0 : Int) ≤ k := by omega
          have hk3 : (k : Int) < (k : Int) + 1 := by omega
          have hkn : ((k : Int)).toNat = k := by omega
          have z0 := pw_cell_below hb r0
          have z1 := pw_cell_below hb r1
          have z2 := pw_cell_below hb r2
          have z3 := fun j => (hb.frozen (p := ⟨rb, j, none⟩) hsr).trans (r3 j)
          have hw3 : U.heap.size ≤ wr.heap.size := hb.size
          clear hR hu huc hud
          go_wp2
          refine bodyPost_ret (v := .agg #[.int .i64 p, .int .i64 n, .slice A5 us.length c5]) (by simp [results, Tryz.results86, go_sem, z0, z1, z2, z3]) rfl ⟨A5, c5, rfl, ?_, ?_⟩
          · exact Kd.R_lower (R_set3 (Kd.R_mono (Kd.R_bound hRu) (ok' := fun k => k ≠ rb) (fun k hk => by have h7 : U.heap.size ≤ k := hk.2.1; show k ≠ rb; omega)) (fun k hk => hk) (Nat.le_refl _) _ _ _) (by omega)
          · rw [hxb]
            exact below_set3 (hbw.trans (hb.mono (by omega))) (by omega) _ _ _
end Go.Proofs.YtjhkeehfchkpaaaGreat
/- Symmetric functions of the reference: l03Symmetric; no condition. -/
set_option linter.unusedVariables false
set_option linter.unusedSimpArgs false
namespace Go.Proofs.YtjhkeehfchkpaaaGreat
open Go.RowKit Go.Proofs.YtjhkeehfchkpaaaGreatW.PrintWords
attribute [local go_sem] Later.cell Later.frozen Later.lt Later.lt_add Later.le Later.le_add Later.ne Later.ne' add_at
open Go.Proofs.YtjhkeehfchkpaaaGreatW.PrintLast
attribute [local go_sem] later_drew2 later_drewf2
attribute [local go_sem 2000] run_eqM guardM
theorem R_oneP {p d : Int} {ts : List T4} {A : Option Addr} {c base : Nat} {okp : Nat → Prop} {W : World} (hb : base ≤ W.heap.size) (hR : kT.R 80 W base okp (.slice A ts.length c) ts) : kP.R 38 (W.alloc (.cells #[.int .i64 p, .int .i64 d, .slice A ts.length c] 38)) base (fun _ => True) (.slice (some ⟨W.heap.size, 0, none⟩) 1 1) [⟨p, d, ts⟩] := by
  have h2 := World.ownsRow_lit (base := base) (e := 38) (size := 3) W #[.int .i64 p, .int .i64 d, .slice A ts.length c] 1 hb (by simp [maxLen]) (by simp)
  refine ⟨fun _ _ => trivial, [.int .i64 p, .int .i64 d, .slice A ts.length c], h2, rfl, fun j q hj => ?_⟩
  have hj0 : j = 0 := by
    rcases Nat.eq_zero_or_pos j with h | h
    · exact h
    · rw [List.getElem?_eq_none (show [(⟨p, d, ts⟩ : PV)].length ≤ j from h)] at hj
      cases hj
  subst hj0
  have hp : (⟨p, d, ts⟩ : PV) = q := by simpa using hj
  subst hp
  refine ⟨A, c, rfl, Kd.R_mono (Kd.R_alloc (Kd.R_bound hR) _) fun k hk => ⟨trivial, fun he => ?_⟩⟩
  have h3 : k < W.heap.size := hk.2.2.1
  simp [Value.ownBlock] at he
  omega
theorem rep_snoc (p : Int) (n i : Nat) (ts : List T4) : ((⟨p, n, ts⟩ : PV) :: List.replicate i ⟨p, n, []⟩) ++ [⟨p, n, []⟩] = ⟨p, n, ts⟩ :: List.replicate (i + 1) ⟨p, n, []⟩ := by
  rw [List.replicate_succ' (n := i)]
  rfl
set_option maxRecDepth 100000 in
set_option maxHeartbeats 8000000 in
theorem l03Symmetric_c (p : Int) (n : Nat) (B : Option Addr) (e : Nat) (ts : List T4) (L : Option Addr) (cl : Nat) (ps : List PV) (m : Nat) (hpl : ps.length = m) (k : Nat) (w : World) (hL : kP.C w L m ps) (hm : m ≤ 48) (hk : k ≤ 48) (hp : 2 ≤ p) (hp' : p ≤ 13) (hps : Likes p n ps) (D : Nat) (hpD : ∀ x ∈ ps, ∀ u ∈ x.ts, degE u.e ≤ (D : Int)) (hkD : k * D ≤ 12) :
    Calls Tryz.prog 107 #[.agg #[.int .i64 p, .int .i64 n, .slice B ts.length e], .slice L m cl, .int .i64 k] w (MakesP p n 80 (symL p n k ps) w) := by
  have HPS := Lib.hid hps
  have HPD := Lib.hid hpD
  have s0 : ((w.alloc (.cells #[.int .i64 p, .int .i64 n, .slice B ts.length e] 38)).alloc (.cells #[.int .i64 0, .int .i64 0, .slice none 0 0] 38)).cell? ⟨w.heap.size, 0, none⟩ = some (.int .i64 p) := bq5
  have s1 : ((w.alloc (.cells #[.int .i64 p, .int .i64 n, .slice B ts.length e] 38)).alloc (.cells #[.int .i64 0, .int .i64 0, .slice none 0 0] 38)).cell? ⟨w.heap.size, 1, none⟩ = some (.int .i64 n) := bq5
  have r0 : ((w.alloc (.cells #[.int .i64 p, .int .i64 n, .slice B ts.length e] 38)).alloc (.cells #[.int .i64 0, .int .i64 0, .slice none 0 0] 38)).cell? ⟨w.heap.size + 1, 0, none⟩ = some (.int .i64 0) := bq5
  have r1 : ((w.alloc (.cells #[.int .i64 p, .int .i64 n, .slice B ts.length e] 38)).alloc (.cells #[.int .i64 0, .int .i64 0, .slice none 0 0] 38)).cell? ⟨w.heap.size + 1, 1, none⟩ = some (.int .i64 0) := bq5
  have r2 : ((w.alloc (.cells #[.int .i64 p, .int .i64 n, .slice B ts.length e] 38)).alloc (.cells #[.int .i64 0, .int .i64 0, .slice none 0 0] 38)).cell? ⟨w.heap.size + 1, 2, none⟩ = some (.slice none 0 0) := bq5
  have r3 : ∀ j, ((w.alloc (.cells #[.int .i64 p, .int .i64 n, .slice B ts.length e] 38)).alloc (.cells #[.int .i64 0, .int .i64 0, .slice none 0 0] 38)).frozen? ⟨w.heap.size + 1, j, none⟩ = false := fun j => bq5
  have hbw : Below w.heap.size w ((w.alloc (.cells #[.int .i64 p, .int .i64 n, .slice B ts.length e] 38)).alloc (.cells #[.int .i64 0, .int .i64 0, .slice none 0 0] 38)) := (below_alloc2 w (.cells #[.int .i64 p, .int .i64 n, .slice B ts.length e] 38)).trans ((below_alloc2 (w.alloc (.cells #[.int .i64 p, .int .i64 n, .slice B ts.length e] 38)) (.cells #[.int .i64 0, .int .i64 0, .slice none 0 0] 38)).mono (by simp))
  have hz2 : ((w.alloc (.cells #[.int .i64 p, .int .i64 n, .slice B ts.length e] 38)).alloc (.cells #[.int .i64 0, .int .i64 0, .slice none 0 0] 38)).heap.size = w.heap.size + 1 + 1 := by simp
  have hL1 := Kd.C_below hL hbw
  have hZ := fun W => l01Empty_c p n W
  have hO : ∀ W, Calls Tryz.prog 111 #[.int .i64 p, .int .i64 n, .agg #[.int .u8 0, .int .u8 0, .int .u8 0], .int .i64 1] W (MakesP p n 80 (oneL p) W) := fun W => l01One_c p n z3 1 W hp hp' (by decide) (by decide)
  clear hps hpD hL
  have HG0 := Lib.hid (good_0 (p := p) hp n D k)
  obtain ⟨RES, hRE⟩ : ∃ R, symF p n k (ps.drop 0) (sym0 p n k) = R := ⟨_, rfl⟩
  have HRE := Lib.hid hRE
  have HRES := Lib.hid (show symL p n k ps = (RES.getD k zP).ts by rw [← hRE, List.drop_zero]; rfl)
  generalize symL p n k ps = res at *
  clear hRE
  go_enter Tryz.func107, Tryz.ntmps107
  go_wp2_with (go_at_call 111; (with_reducible refine to_makesP (V := ((w.alloc (.cells #[.int .i64 p, .int .i64 n, .slice B ts.length e] 38)).alloc (.cells #[.int .i64 0, .int .i64 0, .slice none 0 0] 38))) (Below.refl _ _) (hO _) ?_); intro w8 B8 c8 hb8 hb8' hl8 hR8)
  have hw8 := hb8.size
  have HR := R_oneP (p := p) (d := n) (base := ((w.alloc (.cells #[.int .i64 p, .int .i64 n, .slice B ts.length e] 38)).alloc (.cells #[.int .i64 0, .int .i64 0, .slice none 0 0] 38)).heap.size) hw8 hR8
  have hb1 := hb8.trans ((below_alloc2 w8 (.cells #[.int .i64 p, .int .i64 n, .slice B8 (oneL p).length c8] 38)).mono hw8)
  generalize w8.alloc (.cells #[.int .i64 p, .int .i64 n, .slice B8 (oneL p).length c8] 38) = w1 at *
  generalize ((w.alloc (.cells #[.int .i64 p, .int .i64 n, .slice B ts.length e] 38)).alloc (.cells #[.int .i64 0, .int .i64 0, .slice none 0 0] 38)) = U at *
  generalize hxb : w.heap.size = xb at *
  generalize hrb : xb + 1 = rb at *
  have hsx : xb < U.heap.size := by omega
  have hsr : rb < U.heap.size := by omega
  go_loopg [8, 7] k (fun gk v8 v7 w' => ∃ (i : Nat) (Q : Option Addr) (cq : Nat), i + gk = k ∧ v8 = .int .i64 i ∧ v7 = .slice Q (i + 1) cq ∧ Below U.heap.size U w' ∧ kP.R 38 w' U.heap.size (fun _ => True) (.slice Q (i + 1) cq) (⟨p, n, oneL p⟩ :: List.replicate i ⟨p, n, []⟩))
  case atStart => exact ⟨0, _, 1, by omega, rfl, rfl, hb1, HR⟩
  case round =>
    clear HR hb1 hb8 hb8' hR8 hw8
    obtain ⟨i, Q, cq, hik, rfl, rfl, hb, hR⟩ := hrel
    have HIK := Lib.hid hik
    clear hik
    by_cases hi : i < k
    · have hi0 : (0 : Int) ≤ i := by omega
      have hi1 : (i : Int) < k := by omega
      have hown : ∀ a, (Value.slice Q (i + 1) cq).ownBlock = some a → a < wr.heap.size := fun a ha => (Kd.R_lt hR) a ha
      have HR := Lib.hid hR
      have HS := Lib.hid (rep_snoc p n i (oneL p))
      have hbs := hb.size
      have s0' := pw_cell_below hb s0
      have s1' := pw_cell_below hb s1
      have hyl : ((⟨p, n, oneL p⟩ : PV) :: List.replicate i ⟨p, n, []⟩).length = i + 1 := by simp
      have HYL := Lib.hid hyl
      clear hR hyl
      generalize (⟨p, n, oneL p⟩ : PV) :: List.replicate i ⟨p, n, []⟩ = ys at *
      go_wp2_with (first
        | (go_at_call 100; (with_reducible refine to_makesP (V := wr) (Below.refl _ _) (hZ _) ?_); intro w8 B8 c9 hb8 hb8' hl8 hR8; have hs8 := hb8.size)
        | ((with_reducible refine gate_ (.call { callee := .builtin .append, args := #[.tmp 25, .tmp 31], argTypes := #[52, 52] }) rfl ?_); refine Kd.R_append kP (w0 := U) (W := w8) U.heap.size rfl (.tmp 25) (.tmp 31) 52 38 (.agg #[.int .i64 0, .int .i64 0, .slice none 0 0]) 40 rfl Tryz.underlying52 infoPF rfl (by decide) (by decide) (.slice Q (i + 1) cq) ys ⟨p, n, []⟩ [.int .i64 p, .int .i64 n, .slice B8 0 c9] (fun _ => True) (fun a => wr.heap.size ≤ a) rfl rfl ⟨B8, c9, rfl, Kd.R_lower (Kd.R_mono (Kd.R_bound hR8) (fun a ha => by have h9 := ha.2.1; omega)) (by omega)⟩ (fun a ha => ⟨trivial, fun he => by have h9 := hown a he.symm; omega⟩) (fun _ _ => trivial) (Kd.R_below HR.out hb8) (hb.trans (hb8.mono hb.size)) (by omega) (by have := HYL.out; omega) ?_; intro v1 w1' hR6 hB6 hg6 hat6; obtain ⟨B6, c6, rfl, hl6, hC6⟩ := Kd.R_reads hR6))
      go_roundg (gk - 1)
      case measure => have := HIK.out; omega
      case rel =>
        have hlen : (ys ++ [(⟨p, n, []⟩ : PV)]).length = i + 1 + 1 := by rw [List.length_append, HYL.out]; rfl
        rw [hlen] at hR6
        rw [HYL.out]
        refine ⟨i + 1, B6, c6, ?_, ?_, rfl, hB6, ?_⟩
        · have := HIK.out; omega
        · go_num
        · rw [← HS.out]; exact hR6
    · have hie : k = i := by have := HIK.out; omega
      subst hie
      obtain ⟨g, hQ, hg1, hg2⟩ := kP_form hR (Nat.succ_pos k)
      subst hQ
      change kP.R _ _ _ _ _ (sym0 p n k) at hR
      have hwr1 : g < wr.heap.size := hg2
      have HR0 := Lib.hid hR
      have hb0 := hb
      clear hR hb
      go_wp2
      generalize hw1 : wr = w1 at *
      clear hw1 hg2
      go_loopg [9] m (fun gk v38 w' => ∃ (j : Nat) (t : List PV), j + gk = m ∧ v38 = .int .i64 j ∧ Below U.heap.size U w' ∧ w1.heap.size ≤ w'.heap.size ∧ kP.R 38 w' U.heap.size (fun _ => True) (.slice (some ⟨g, 0, none⟩) (k + 1) cq) t ∧ GoodT p n D k t ∧ symF p n k (ps.drop j) t = RES)
      case atStart => exact ⟨0, sym0 p n k, by omega, rfl, hb0, Nat.le_refl _, HR0.out, HG0.out, HRE.out⟩
      case round =>
        clear hb0
        obtain ⟨j, t, hjk, rfl, hb, hws, hR, hG, hE⟩ := hrel
        have HJK := Lib.hid hjk
        have HG := Lib.hid hG
        have HE := Lib.hid hE
        clear hjk hG hE
        by_cases hj : j < m
        · have hj2 : j < ps.length := by rw [hpl]; exact hj
          obtain ⟨xt, hx, hxc, hxd⟩ := likes_at HPS.out hj2
          have hxD := HPD.out _ (getD_memP hj2)
          rw [hx] at hxD
          obtain ⟨b2, o2, A2, c2, hB, p0U, p1U, p2U, hDxU⟩ := kP_see hL1 hj hx
          subst hB
          have hj0 : (0 : Int) ≤ j := by omega
          have hj1 : (j : Int) < m := by omega
          have hjn : ((j : Int)).toNat = j := by omega
          have hxl := deg_len hxc.1 hxd
          have HE2 := Lib.hid ((symF_step (p := p) (n := n) (k := k) hj2 t hx).symm.trans HE.out)
          have HXC := Lib.hid (And.intro hxc hxD)
          clear hx hxc hxd hxD hj2
          have hDx4 := Kd.C_below hDxU hb
          have HR4 := Lib.hid hR
          have hwxq : U.heap.size ≤ wr.heap.size := hb.size
          have hb5 := hb
          clear hR hb
          go_wp2
          generalize hV4 : wr = V4 at *
          clear hV4
          go_loopg [10] k (fun gk v11 w'' => ∃ (i : Nat) (t' : List PV), i = gk ∧ v11 = .int .i64 i ∧ i ≤ k ∧ Below U.heap.size U w'' ∧ V4.heap.size ≤ w''.heap.size ∧ kP.R 38 w'' U.heap.size (fun _ => True) (.slice (some ⟨g, 0, none⟩) (k + 1) cq) t' ∧ GoodT p n D k t' ∧ symF p n k (ps.drop (j + 1)) (symI p n xt i t') = RES)
          case atStart => exact ⟨k, t, rfl, rfl, Nat.le_refl k, hb5, Nat.le_refl _, HR4.out, HG.out, HE2.out⟩
          case round =>
            clear hb5
            obtain ⟨i, t', hik, rfl, hile, hb9, hs9, hR, hG', hE'⟩ := hrel
            have hDx := Kd.C_below hDxU hb9
            have p0 := pw_cell_below hb9 p0U
            have p1 := pw_cell_below hb9 p1U
            have p2 := pw_cell_below hb9 p2U
            have HIK := Lib.hid hik
            have HG' := Lib.hid hG'
            have HE' := Lib.hid hE'
            clear hik hG' hE'
            by_cases hi : 1 ≤ i
            · obtain ⟨us, hu, huc, _, hud, hul⟩ := good_len HG'.out hkD hile
              obtain ⟨vs, hv, hvc, _, hvd, hvl⟩ := good_len HG'.out hkD (show i - 1 ≤ k by omega)
              obtain ⟨A5, c5, q0, q1, q2, hRu⟩ := kP_own0 hR (show i < k + 1 by omega) hu
              obtain ⟨A6, c6, v0, v1, v2, hRv⟩ := kP_own0 hR (show i - 1 < k + 1 by omega) hv
              have i0 : wr.frozen? ⟨g, i * 3, none⟩ = false := kP_ice hR (show i < k + 1 by omega) 0
              have i1 : wr.frozen? ⟨g, i * 3 + 1, none⟩ = false := kP_ice hR (show i < k + 1 by omega) 1
              have i2 : wr.frozen? ⟨g, i * 3 + 2, none⟩ = false := kP_ice hR (show i < k + 1 by omega) 2
              have hCu := (Kd.R_reads' hRu).2.2
              have hCv := (Kd.R_reads' hRv).2.2
              have e2 : (i - 1) * D + D = i * D := by
                rw [← Nat.succ_mul]
                congr 1
                omega
              have hiD : i * D ≤ 12 := Nat.le_trans (Nat.mul_le_mul_right D hile) hkD
              have hmd := mul_degD (p := p) hvd HXC.out.2
              rw [e2] at hmd
              have hml := deg_len (mulL_canon hp vs xt).1 (fun u hu => by have := hmd u hu; omega)
              have hno := no_too hvc.1 HXC.out.1.1 hvd HXC.out.2 (by rw [e2]; exact hiD)
              have hM := fun W h h' => l01Times_c p n p n A6 A2 c6 c2 vs xt W h h' hvl hxl hp hp' hvc HXC.out.1
              rw [hno] at hM
              replace hM : ∀ W, kT.C W A6 vs.length vs → kT.C W A2 xt.length xt → Calls Tryz.prog 112 #[.agg #[.int .i64 p, .int .i64 n, .slice A6 vs.length c6], .agg #[.int .i64 p, .int .i64 n, .slice A2 xt.length c2]] W (MakesPB p n (mulL p vs xt) true 80 W) := hM
              have hA := fun W A7 c7 h h' => l01Plus_c p n p n 1 A5 A7 c5 c7 us (mulL p vs xt) W h h' (by omega) (by omega) hp hp' (fun u hu => by have := (mulL_canon hp vs xt).2 u hu; omega) huc
              have HG2 := Lib.hid (good_row hp HG'.out HXC.out.2 hi hile)
              have HE3 := HE'.out
              rw [symI_step hi t'] at HE3
              have hrow : rowS p n xt t' i = t'.set i ⟨p, n, putsT p us (pairsT 1 (mulL p vs xt))⟩ := by rw [rowS, hu, hv]
              rw [hrow] at HE3
              have HG3 := HG2.out
              rw [hrow] at HG3
              have HE4 := Lib.hid (And.intro HG3 HE3)
              have HR := Lib.hid hR
              have hi0 : (0 : Int) ≤ i := by omega
              have hi1 : (i : Int) < (k : Int) + 1 := by omega
              have hin : ((i : Int)).toNat = i := by omega
              have hi2 : (0 : Int) ≤ (i : Int) - 1 := by omega
              have hi3 : (i : Int) - 1 < (k : Int) + 1 := by omega
              have hin2 : ((i : Int) - 1).toNat = i - 1 := by omega
              have hpos : (0 : Int) < i := by omega
              have hi4 : (1 : Int) ≤ i := by omega
              have hw64 : wrap64 ((i : Int) - 1) = (i : Int) - 1 := by unfold wrap64; omega
              have hg3 : g < wr.heap.size := by omega
              have hw3 : U.heap.size ≤ wr.heap.size := hb9.size
              clear hR hRu hRv hu hv huc hud hvc hvd hmd e2 HG2 HE3 HG3 hrow hno
              generalize putsT p us (pairsT 1 (mulL p vs xt)) = sm at *
              generalize mulL p vs xt = pr at *
              have hgW : g < wr.heap.size := hg3
              have hpn : 0 < i := hi
              have hwi : IntKind.i64.wrap ((i : Int) - 1) = (i : Int) - 1 := i64_small (by omega) (by omega)
              have hbW : b2 < wr.heap.size := World.block_lt_of_cell? _ _ p0
              go_wp2_with fail
              go_cut [11, 12] from 44 to 56 (fun v5 v6 wx => ∃ (ob : Nat) (B : Option Addr) (cb : Nat), v5 = .pointer (some ⟨ob, 0, none⟩) ∧ v6 = .bool true ∧ Below wr.heap.size wr wx ∧ Box3 wx wr.heap.size ob p n B cb pr)
              case first =>
                go_region_held3 (fun w' => w'.cell? ⟨g, (i - 1) * 3, none⟩ = some (.int .i64 p) ∧ w'.cell? ⟨g, (i - 1) * 3 + 1, none⟩ = some (.int .i64 n) ∧ w'.cell? ⟨g, (i - 1) * 3 + 2, none⟩ = some (.slice A6 vs.length c6) ∧ w'.cell? ⟨b2, o2 + j * 3, none⟩ = some (.int .i64 p) ∧ w'.cell? ⟨b2, o2 + j * 3 + 1, none⟩ = some (.int .i64 n) ∧ w'.cell? ⟨b2, o2 + j * 3 + 2, none⟩ = some (.slice A2 xt.length c2)) ((refine ⟨?_, ?_, ?_, ?_, ?_, ?_⟩ <;> ((repeat (refine cell_far2 ?_ (by dsimp only; omega))); (first | assumption | (exact cell_alloc (by assumption) _))))) (first
                  | (go_at_call 112; (first | (with_reducible refine call_makesPB2 (hM _ ?h1 ?h2) ?_) | (with_reducible refine call_makesPB1 (hM _ ?h1 ?h2) ?_)); (case h1 => exact Kd.C_below hCv bq2); (case h2 => exact Kd.C_below hDx bq2); intro x B cb hb hl hR; have hqx : Below wr.heap.size wr x.W := bq2; have zx := hb.size; (try simp at zx); have xv0 := pw_cell_below hqx v0; have xv1 := pw_cell_below hqx v1; have xv2 := pw_cell_below hqx v2; have xp0 := pw_cell_below hqx p0; have xp1 := pw_cell_below hqx p1; have xp2 := pw_cell_below hqx p2))
                all_goals (go_wp2_with fail; go_meet)
                all_goals refine ⟨_, B, cb, rfl, rfl, ?_, ?_⟩
                all_goals first | exact hqx.alloc hqx.size _ | exact below_set3 hqx (Nat.le_refl _) _ _ _ | exact Box3.behind (Nat.le_refl _) hb.size hR | exact Box3.setN (Box3.zero wr) (below_undrewS hb) (by simp) hR
              case rest =>
                obtain ⟨ob, Bo, cbo, rfl, rfl, hbx, hX⟩ := hcut
                generalize wc = V5 at *
                have x0 := hX.o0
                have x1 := hX.o1
                have x2 := hX.o2
                have hXR := (Kd.R_reads' hX.R).2.2
                have q0 := pw_cell_below hbx q0
                have q1 := pw_cell_below hbx q1
                have q2 := pw_cell_below hbx q2
                have i0 := (hbx.frozen (p := ⟨g, i * 3, none⟩) hg3).trans i0
                have i1 := (hbx.frozen (p := ⟨g, i * 3 + 1, none⟩) hg3).trans i1
                have i2 := (hbx.frozen (p := ⟨g, i * 3 + 2, none⟩) hg3).trans i2
                have hg5 : g < V5.heap.size := Nat.lt_of_lt_of_le hg3 hbx.size
                have hCu := Kd.C_below hCu hbx
                go_wp2
                refine start_ (n := 10) (S := fun w' => w'.cell? ⟨g, i * 3, none⟩ = some (.int .i64 p) ∧ w'.cell? ⟨g, i * 3 + 1, none⟩ = some (.int .i64 n) ∧ w'.cell? ⟨g, i * 3 + 2, none⟩ = some (.slice A5 us.length c5) ∧ w'.cell? ⟨ob, 0, none⟩ = some (.int .i64 p) ∧ w'.cell? ⟨ob, 1, none⟩ = some (.int .i64 n) ∧ w'.cell? ⟨ob, 2, none⟩ = some (.slice Bo pr.length cbo)) (ds := [9]) #[false, false, false, false, false, false, false, false, false, false] (by kernel_rfl) rfl rfl ⟨q0, q1, q2, x0, x1, x2⟩ (fun hHeld => ?_)
                refine pure_ (i := 0) (N := some 57) (v := ?_) (a' := ?_) #[true, false, false, false, false, false, false, false, false, false] rfl rfl (by kernel_rfl) (fun _ _ _ h => h) (Or.inl ⟨by rfl, ?_⟩) ?_ ?_
                rotate_left
                · intro w'
                  go_simp
                  with_reducible rfl
                rotate_left
                · simp only [Act.put, List.setIfInBounds_toArray, List.set_cons_zero, List.set_cons_succ, i64_w, i32_w]
                  rfl
                refine pure_ (i := 1) (N := some 58) (v := ?_) (a' := ?_) #[true, true, false, false, false, false, false, false, false, false] rfl rfl (by kernel_rfl) (fun _ _ _ h => h) (Or.inl ⟨by rfl, ?_⟩) ?_ ?_
                rotate_left
                · intro w'
                  go_simp
                  with_reducible rfl
                rotate_left
                · simp only [Act.put, List.setIfInBounds_toArray, List.set_cons_zero, List.set_cons_succ, i64_w, i32_w]
                  rfl
                refine pure_ (i := 2) (N := some 59) (v := ?_) (a' := ?_) #[true, true, true, false, false, false, false, false, false, false] rfl rfl (by kernel_rfl) (fun _ _ _ h => h) (Or.inl ⟨by rfl, ?_⟩) ?_ ?_
                rotate_left
                · intro w'
                  go_simp
                  with_reducible rfl
                rotate_left
                · simp only [Act.put, List.setIfInBounds_toArray, List.set_cons_zero, List.set_cons_succ, i64_w, i32_w]
                  rfl
                refine pure_ (i := 3) (N := some 60) (v := ?_) (a' := ?_) #[true, true, true, true, false, false, false, false, false, false] rfl rfl (by kernel_rfl) (fun _ _ _ h => h) (Or.inl ⟨by rfl, ?_⟩) ?_ ?_
                rotate_left
                · intro w'
                  go_simp
                  with_reducible rfl
                rotate_left
                · simp only [Act.put, List.setIfInBounds_toArray, List.set_cons_zero, List.set_cons_succ, i64_w, i32_w]
                  rfl
                refine pure_ (i := 4) (N := some 61) (v := ?_) (a' := ?_) #[true, true, true, true, true, false, false, false, false, false] rfl rfl (by kernel_rfl) (fun _ _ _ h => h) (Or.inl ⟨by rfl, ?_⟩) ?_ ?_
                rotate_left
                · intro w'
                  go_simp
                  with_reducible rfl
                rotate_left
                · simp only [Act.put, List.setIfInBounds_toArray, List.set_cons_zero, List.set_cons_succ, i64_w, i32_w]
                  rfl
                refine take_ (i := 5) (N := some 62) (v := ?_) (a' := ?_) #[true, true, true, true, true, true, false, false, false, false] rfl rfl (by kernel_rfl) (fun _ _ _ h => h) (Or.inl ⟨by rfl, ?_⟩) hHeld ?_ ?_
                rotate_left
                · rintro w' ⟨s0, s1, s2, s3, s4, s5⟩
                  go_simp
                  with_reducible rfl
                rotate_left
                · simp only [Act.put, List.setIfInBounds_toArray, List.set_cons_zero, List.set_cons_succ, i64_w, i32_w]
                  rfl
                refine take_ (i := 6) (N := some 63) (v := ?_) (a' := ?_) #[true, true, true, true, true, true, true, false, false, false] rfl rfl (by kernel_rfl) (fun _ _ _ h => h) (Or.inl ⟨by rfl, ?_⟩) hHeld ?_ ?_
                rotate_left
                · rintro w' ⟨s0, s1, s2, s3, s4, s5⟩
                  go_simp
                  with_reducible rfl
                rotate_left
                · simp only [Act.put, List.setIfInBounds_toArray, List.set_cons_zero, List.set_cons_succ, i64_w, i32_w]
                  rfl
                refine one_ (i := 7) (N := some 64) #[true, true, true, true, true, true, true, true, false, false] rfl rfl (by kernel_rfl) (by decide) (fun K hK => ?_)
                refine goes_ Tryz.func101 (by kernel_rfl) rfl #[.agg #[.int .i64 p, .int .i64 n, .slice A5 us.length c5], .agg #[.int .i64 p, .int .i64 n, .slice Bo pr.length cbo], .int .i64 1] (by rfl) rfl rfl (by simp only [List.map_toArray, List.map_cons, List.map_nil]; rfl) ?_
                with_reducible refine (hA _ Bo cbo (Kd.C_below hCu (Below.refl _ _).drew) (Kd.C_below hXR (Below.refl _ _).drew)).mono ?_
                rintro e' yw ⟨B9, c9, rfl, hR9, hb9'⟩
                refine ⟨_, rfl, ?_⟩
                have hqy := below_undrewA hb9'
                have z0 := pw_cell_below hqy q0
                have z1 := pw_cell_below hqy q1
                have z2 := pw_cell_below hqy q2
                have j0 := (hqy.frozen (p := ⟨g, i * 3, none⟩) hg5).trans i0
                have j1 := (hqy.frozen (p := ⟨g, i * 3 + 1, none⟩) hg5).trans i1
                have j2 := (hqy.frozen (p := ⟨g, i * 3 + 2, none⟩) hg5).trans i2
                refine hK.out _ _ ⟨pw_cell_below hqy q0, pw_cell_below hqy q1, pw_cell_below hqy q2, pw_cell_below hqy x0, pw_cell_below hqy x1, pw_cell_below hqy x2⟩ (fun hHeld => ?_)
                clear hK K
                refine norm_ (a' := ?_) ?_ ?_
                rotate_left
                · show Act.put _ (some 64) _ = _
                  simp only [Act.put, List.setIfInBounds_toArray, List.set_cons_zero, List.set_cons_succ, i64_w, i32_w]
                  rfl
                refine pure_ (i := 8) (N := some 65) (v := ?_) (a' := ?_) #[true, true, true, true, true, true, true, true, true, false] rfl rfl (by kernel_rfl) (fun _ _ _ h => h) (Or.inl ⟨by rfl, ?_⟩) ?_ ?_
                rotate_left
                · intro w'
                  go_simp
                  with_reducible rfl
                rotate_left
                · simp only [Act.put, List.setIfInBounds_toArray, List.set_cons_zero, List.set_cons_succ, i64_w, i32_w]
                  rfl
                refine last_ (i := 9) (N := none) #[true, true, true, true, true, true, true, true, true, true] rfl rfl (by kernel_rfl) (by decide) (fun K hK => ?_)
                refine skip_ (w1 := ?_) (by rfl) rfl ?_ ?_
                rotate_left
                · go_simp
                  rfl
                refine hK.out _ _ ?_
                clear hK K
                refine done_ (by kernel_rfl) ?_
                have hb57 := hbx.trans (hqy.mono hbx.size)
                have H := kP_put (okp := fun a => wr.heap.size ≤ a) (Kd.R_below HR.out hb57) (show i < k + 1 by omega) (p := p) (d := n) (Kd.R_lower (Kd.R_mono (Kd.R_bound hR9) (fun a ha => by have h9 : V5.heap.size ≤ a := ha.2.1; have := hbx.size; show wr.heap.size ≤ a; omega)) (by have := hbx.size; show U.heap.size ≤ V5.heap.size; omega)) (fun a ha => ⟨trivial, by show a ≠ g; have h9 : wr.heap.size ≤ a := ha; omega⟩)
                have hsy := hb57.size
                have hH := H.2.size
                have hbY := hb9.trans (hb57.mono hb9.size)
                go_wp2
                go_roundg (i - 1)
                case measure => have := HIK.out; omega
                case rel =>
                  refine ⟨i - 1, _, rfl, ?_, ?_, ?_, ?_, H.1, HE4.out.1, HE4.out.2⟩
                  · go_num
                  · omega
                  · clear H hH
                    exact bq2
                  · exact Nat.le_trans (Nat.le_trans hs9 hsy) hH
            · have hiz : i = 0 := by omega
              subst hiz
              go_wp2
              go_roundg (m - j - 1)
              case measure => have := HJK.out; omega
              case rel =>
                refine ⟨j + 1, t', ?_, ?_, hb9, by omega, hR, HG'.out, HE'.out⟩
                · have := HJK.out; omega
                · go_num
        · have hje : j = m := by have := HJK.out; omega
          subst hje
          have hEE := HE.out
          rw [List.drop_of_length_le (by omega)] at hEE
          have hEE : t = RES := hEE
          subst hEE
          obtain ⟨us, hu, huc, hud⟩ := HG.out.at_ k (Nat.le_refl k)
          obtain ⟨A5, c5, q0, q1, q2, hRu⟩ := kP_own0 hR (show k < k + 1 by omega) hu
          have hres : us = res := by rw [HRES.out, hu]
          subst hres
          have hk0 : (0 : Int) ≤ k := by omega
          have hk3 : (k : Int) < (k : Int) + 1 := by omega
          have hkn : ((k : Int)).toNat = k := by omega
          have z0 := pw_cell_below hb r0
          have z1 := pw_cell_below hb r1
          have z2 := pw_cell_below hb r2
          have z3 := fun j => (hb.frozen (p := ⟨rb, j, none⟩) hsr).trans (r3 j)
          have hw3 : U.heap.size ≤ wr.heap.size := hb.size
          clear hR hu huc hud
          go_wp2
          refine bodyPost_ret (v := .agg #[.int .i64 p, .int .i64 n, .slice A5 us.length c5]) (by simp [results, Tryz.results107, go_sem, z0, z1, z2, z3]) rfl ⟨A5, c5, rfl, ?_, ?_⟩
          · exact Kd.R_lower (R_set3 (Kd.R_mono (Kd.R_bound hRu) (ok' := fun k => k ≠ rb) (fun k hk => by have h7 : U.heap.size ≤ k := hk.2.1; show k ≠ rb; omega)) (fun k hk => hk) (Nat.le_refl _) _ _ _) (by omega)
          · rw [hxb]
            exact below_set3 (hbw.trans (hb.mono (by omega))) (by omega) _ _ _
end Go.Proofs.YtjhkeehfchkpaaaGreat
/- OrbitProduct and SymmetricFunction of both sides; no condition. -/
set_option linter.unusedVariables false
set_option linter.unusedSimpArgs false
namespace Go.Proofs.YtjhkeehfchkpaaaGreat
open Go.RowKit Go.Proofs.YtjhkeehfchkpaaaGreatW.PrintWords
attribute [local go_sem] Later.cell Later.frozen Later.lt Later.lt_add Later.le Later.le_add Later.ne Later.ne' add_at
open Go.Proofs.YtjhkeehfchkpaaaGreatW.PrintLast
attribute [local go_sem 2000] run_eqM guardM
theorem w3_cells {w x : World} {p : Int} {n c e : Nat} {A B : Option Addr} {ms : List M9} {ts : List T4} (hX : Below (((w.alloc (.cells #[.int .i64 p, .int .i64 n, .slice A ms.length c] 34)).alloc (.cells #[.int .i64 p, .int .i64 n, .slice B ts.length e] 38)).alloc (.cells #[.int .i64 0, .int .i64 0, .slice none 0 0] 38)).heap.size (((w.alloc (.cells #[.int .i64 p, .int .i64 n, .slice A ms.length c] 34)).alloc (.cells #[.int .i64 p, .int .i64 n, .slice B ts.length e] 38)).alloc (.cells #[.int .i64 0, .int .i64 0, .slice none 0 0] 38)) x) :
    x.cell? ⟨w.heap.size, 0, none⟩ = some (.int .i64 p) ∧ x.cell? ⟨w.heap.size, 1, none⟩ = some (.int .i64 n) ∧ x.cell? ⟨w.heap.size, 2, none⟩ = some (.slice A ms.length c) ∧ x.cell? ⟨w.heap.size + 1, 0, none⟩ = some (.int .i64 p) ∧ x.cell? ⟨w.heap.size + 1, 1, none⟩ = some (.int .i64 n) ∧ x.cell? ⟨w.heap.size + 1, 2, none⟩ = some (.slice B ts.length e) ∧ x.cell? ⟨w.heap.size + 1 + 1, 0, none⟩ = some (.int .i64 0) ∧ x.cell? ⟨w.heap.size + 1 + 1, 1, none⟩ = some (.int .i64 0) ∧ x.cell? ⟨w.heap.size + 1 + 1, 2, none⟩ = some (.slice none 0 0) ∧ ∀ j, x.frozen? ⟨w.heap.size + 1 + 1, j, none⟩ = false := by
  refine ⟨pw_cell_below hX ?_, pw_cell_below hX ?_, pw_cell_below hX ?_, pw_cell_below hX ?_, pw_cell_below hX ?_, pw_cell_below hX ?_, pw_cell_below hX ?_, pw_cell_below hX ?_, pw_cell_below hX ?_, fun j => (hX.frozen (p := ⟨w.heap.size + 1 + 1, j, none⟩) (by show w.heap.size + 1 + 1 < (((w.alloc (.cells #[.int .i64 p, .int .i64 n, .slice A ms.length c] 34)).alloc (.cells #[.int .i64 p, .int .i64 n, .slice B ts.length e] 38)).alloc (.cells #[.int .i64 0, .int .i64 0, .slice none 0 0] 38)).heap.size; simp)).trans ?_⟩
  all_goals exact bq5
def toldR (p : Int) (n k : Nat) (ts : List T4) (ps : List PV) : PC := if 12 < (k : Int) * max (degP ts) 0 then ⟨0, 0, [], 3⟩ else ⟨p, n, symL p n k ps, 0⟩
theorem told_D {p : Int} {n k : Nat} {ts : List T4} {ps : List PV} (hps : Likes p n ps) (hD : ∀ x ∈ ps, degP x.ts ≤ degP ts) (hk : ¬ 12 < (k : Int) * max (degP ts) 0) : (∀ x ∈ ps, ∀ u ∈ x.ts, degE u.e ≤ (((max (degP ts) 0).toNat : Nat) : Int)) ∧ k * (max (degP ts) 0).toNat ≤ 12 := by
  have e : (((max (degP ts) 0).toNat : Nat) : Int) = max (degP ts) 0 := Int.toNat_of_nonneg (by omega)
  refine ⟨fun x hx u hu => ?_, ?_⟩
  · have h1 := degP_mem (hps.can x hx).1 hu
    have h2 := hD x hx
    rw [e]
    omega
  · have : ((k * (max (degP ts) 0).toNat : Nat) : Int) ≤ 12 := by
      rw [Int.natCast_mul, e]
      omega
    omega
set_option maxRecDepth 100000 in
set_option maxHeartbeats 4000000 in
theorem l03Told_c (p : Int) (n : Nat) (B : Option Addr) (e : Nat) (ts : List T4) (L : Option Addr) (cl : Nat) (ps : List PV) (m : Nat) (hpl : ps.length = m) (k : Nat) (w : World) (hF : kT.C w B ts.length ts) (hL : kP.C w L m ps) (hm : m ≤ 48) (hk : k ≤ 48) (hp : 2 ≤ p) (hp' : p ≤ 13) (hps : Likes p n ps) (hts : SortT ts) (hdg : ∀ t ∈ ts, degE t.e ≤ 12) (hD : ∀ x ∈ ps, degP x.ts ≤ degP ts) :
    Calls Tryz.prog 81 #[.agg #[.int .i64 p, .int .i64 n, .slice B ts.length e], .slice L m cl, .int .i64 k] w (MakesPC (toldR p n k ts ps) 80 w) := by
  have htl := deg_len hts hdg
  have hdT : degP ts ≤ 12 := degP_le (by omega) hdg
  have hmx : 0 ≤ max (degP ts) 0 ∧ max (degP ts) 0 ≤ 12 := by omega
  have hkm : 0 ≤ (k : Int) * max (degP ts) 0 ∧ (k : Int) * max (degP ts) 0 ≤ 48 * 12 := ⟨Int.mul_nonneg (by omega) hmx.1, Int.mul_le_mul (by omega) hmx.2 hmx.1 (by omega)⟩
  have hw64 := i64_small (n := (k : Int) * max (degP ts) 0) (by omega) (by omega)
  have hDg := fun W h => l01Degree_c p n B e ts W h (by omega)
  have s0 : ((w.alloc (.cells #[.int .i64 p, .int .i64 n, .slice B ts.length e] 38)).alloc (.cells #[.int .i64 0, .int .i64 0, .slice none 0 0] 38)).cell? ⟨w.heap.size, 0, none⟩ = some (.int .i64 p) := bq5
  have s1 : ((w.alloc (.cells #[.int .i64 p, .int .i64 n, .slice B ts.length e] 38)).alloc (.cells #[.int .i64 0, .int .i64 0, .slice none 0 0] 38)).cell? ⟨w.heap.size, 1, none⟩ = some (.int .i64 n) := bq5
  have s2 : ((w.alloc (.cells #[.int .i64 p, .int .i64 n, .slice B ts.length e] 38)).alloc (.cells #[.int .i64 0, .int .i64 0, .slice none 0 0] 38)).cell? ⟨w.heap.size, 2, none⟩ = some (.slice B ts.length e) := bq5
  have r0 : ((w.alloc (.cells #[.int .i64 p, .int .i64 n, .slice B ts.length e] 38)).alloc (.cells #[.int .i64 0, .int .i64 0, .slice none 0 0] 38)).cell? ⟨w.heap.size + 1, 0, none⟩ = some (.int .i64 0) := bq5
  have r1 : ((w.alloc (.cells #[.int .i64 p, .int .i64 n, .slice B ts.length e] 38)).alloc (.cells #[.int .i64 0, .int .i64 0, .slice none 0 0] 38)).cell? ⟨w.heap.size + 1, 1, none⟩ = some (.int .i64 0) := bq5
  have r2 : ((w.alloc (.cells #[.int .i64 p, .int .i64 n, .slice B ts.length e] 38)).alloc (.cells #[.int .i64 0, .int .i64 0, .slice none 0 0] 38)).cell? ⟨w.heap.size + 1, 2, none⟩ = some (.slice none 0 0) := bq5
  have r3 : ∀ j, ((w.alloc (.cells #[.int .i64 p, .int .i64 n, .slice B ts.length e] 38)).alloc (.cells #[.int .i64 0, .int .i64 0, .slice none 0 0] 38)).frozen? ⟨w.heap.size + 1, j, none⟩ = false := fun j => bq5
  have hbw : Below w.heap.size w ((w.alloc (.cells #[.int .i64 p, .int .i64 n, .slice B ts.length e] 38)).alloc (.cells #[.int .i64 0, .int .i64 0, .slice none 0 0] 38)) := (below_alloc2 w (.cells #[.int .i64 p, .int .i64 n, .slice B ts.length e] 38)).trans ((below_alloc2 (w.alloc (.cells #[.int .i64 p, .int .i64 n, .slice B ts.length e] 38)) (.cells #[.int .i64 0, .int .i64 0, .slice none 0 0] 38)).mono (by simp))
  have hz2 : ((w.alloc (.cells #[.int .i64 p, .int .i64 n, .slice B ts.length e] 38)).alloc (.cells #[.int .i64 0, .int .i64 0, .slice none 0 0] 38)).heap.size = w.heap.size + 1 + 1 := by simp
  have hF1 := Kd.C_below hF hbw
  have hL1 := Kd.C_below hL hbw
  by_cases hx : 12 < (k : Int) * max (degP ts) 0
  · rw [show toldR p n k ts ps = ⟨0, 0, [], 3⟩ by rw [toldR, if_pos hx]]
    clear hts hdg hD hdT hmx
    generalize degP ts = D at *
    go_enter Tryz.func81, Tryz.ntmps81
    go_wp2_with (go_at_call 87; (with_reducible refine to_gives (V := ((w.alloc (.cells #[.int .i64 p, .int .i64 n, .slice B ts.length e] 38)).alloc (.cells #[.int .i64 0, .int .i64 0, .slice none 0 0] 38))) (Below.refl _ _) (hDg _ hF1) ?_); intro w8 hb8 hb8'; have z0 := pw_cell_below hb8 r0; have z1 := pw_cell_below hb8 r1; have z2 := pw_cell_below hb8 r2; have z3 := fun j => (hb8.frozen (p := ⟨w.heap.size + 1, j, none⟩) (by show w.heap.size + 1 < _; omega)).trans (r3 j); have hbw8 : Below w.heap.size w w8 := hbw.trans (hb8.mono hbw.size); have hs8 := hb8.size)
    refine bodyPost_ret (v := .tuple #[.agg #[.int .i64 0, .int .i64 0, .slice none 0 0], .int .i64 3]) (by simp [results, Tryz.results81, go_sem, z0, z1, z2, z3]) rfl ?_
    exact MakesPC_nil _ _ _ _ bq2
  · rw [show toldR p n k ts ps = ⟨p, n, symL p n k ps, 0⟩ by rw [toldR, if_neg hx]]
    have hDD := told_D hps hD hx
    have hS := fun W h => l03Symmetric_c p n B e ts L cl ps m hpl k W h hm hk hp hp' hps _ hDD.1 hDD.2
    clear hts hdg hD hdT hmx hDD hps
    generalize symL p n k ps = sl at *
    generalize degP ts = D at *
    go_enter Tryz.func81, Tryz.ntmps81
    go_wp2_with (first | (go_at_call 87; (with_reducible refine to_gives (V := ((w.alloc (.cells #[.int .i64 p, .int .i64 n, .slice B ts.length e] 38)).alloc (.cells #[.int .i64 0, .int .i64 0, .slice none 0 0] 38))) (Below.refl _ _) (hDg _ hF1) ?_); intro w8 hb8 hb8'; replace s0 := pw_cell_below hb8 s0; replace s1 := pw_cell_below hb8 s1; replace s2 := pw_cell_below hb8 s2; replace r0 := pw_cell_below hb8 r0; replace r1 := pw_cell_below hb8 r1; replace r2 := pw_cell_below hb8 r2; have r4 := fun j => (hb8.frozen (p := ⟨w.heap.size + 1, j, none⟩) (by show w.heap.size + 1 < _; omega)).trans (r3 j); have hbw8 : Below w.heap.size w w8 := hbw.trans (hb8.mono hbw.size); have hs8 := hb8.size; have hL8 := Kd.C_below hL hbw8) | (go_at_call 107; (with_reducible refine to_makesP (V := w8) (Below.refl _ _) (hS _ hL8) ?_); intro w9 B9 c9 hb9 hb9' hl9 hR9; have z0 := pw_cell_below hb9 r0; have z1 := pw_cell_below hb9 r1; have z2 := pw_cell_below hb9 r2; have z3 := fun j => (hb9.frozen (p := ⟨w.heap.size + 1, j, none⟩) (by show w.heap.size + 1 < _; omega)).trans (r4 j)))
    have hs9 := hb9.size
    refine bodyPost_ret (v := .tuple #[.agg #[.int .i64 p, .int .i64 n, .slice B9 sl.length c9], .int .i64 0]) (by simp [results, Tryz.results81, go_sem, z0, z1, z2, z3]) rfl ⟨B9, c9, rfl, ?_, ?_⟩
    · exact Kd.R_lower (R_set3 (Kd.R_mono (Kd.R_bound hR9) (ok' := fun k => k ≠ w.heap.size + 1) (fun k hk => by have h7 : w8.heap.size ≤ k := hk.2.1; show k ≠ w.heap.size + 1; omega)) (fun k hk => hk) (Nat.le_refl _) _ _ _) (by omega)
    · exact below_set3 (hbw8.trans (hb9.mono hbw8.size)) (by omega) _ _ _
theorem told_len {p : Int} (hp : 2 ≤ p) {n k : Nat} {ts : List T4} {ps : List PV} (hps : Likes p n ps) (hD : ∀ x ∈ ps, degP x.ts ≤ degP ts) : (toldR p n k ts ps).ts.length ≤ 1048576 := by
  unfold toldR
  split
  · simp
  · rename_i hx
    have hDD := told_D hps hD hx
    obtain ⟨us, hu, _, _, _, hl⟩ := good_len (symF_good hp ps hDD.1 _ (good_0 hp n _ k)) hDD.2 (Nat.le_refl k)
    show (symL p n k ps).length ≤ _
    rw [symL, hu]
    show us.length ≤ _
    omega
theorem told_pos {p : Int} {n k : Nat} {ts : List T4} {ps : List PV} (h : 12 < (k : Int) * max (degP ts) 0) : toldR p n k ts ps = ⟨0, 0, [], 3⟩ := by rw [toldR, if_pos h]
theorem told_neg {p : Int} {n k : Nat} {ts : List T4} {ps : List PV} (h : ¬ 12 < (k : Int) * max (degP ts) 0) : toldR p n k ts ps = ⟨p, n, symL p n k ps, 0⟩ := by rw [toldR, if_neg h]
end Go.Proofs.YtjhkeehfchkpaaaGreat

/- Walks of the functions on polynomials, numbers and rows, of both sides; no condition. -/
import Derived.Test.YtimjhehagimcaaaYWWords
import Derived.Lib.Hide
import Derived.Test.YtimjhehagimcaaaProg
import Derived.LoopN
import Derived.Deep.LoopGhost
import Derived.Stop.BytesEq
import Derived.Deep.RegionLaw
/- Words of this session for all walks of the seat Ytimjhehagimcaaa: worlds that have grown, kinds of rows without memory inside; no condition. -/
set_option linter.unusedVariables false
namespace Go.Proofs.Ytimjhehagimcaaa
open Go.RowKit Go.Proofs.YtimjhehagimcaaaW.PrintWords
/-! ### worlds that have grown -/
theorem bq1 {P : Prop} (h : P := by repeat (first | (with_reducible assumption) | (with_reducible exact Below.refl _ _) | (with_reducible refine Below.drew ?_) | (with_reducible refine pw_below_drewN ?_ _) | ((first | (with_reducible refine Below.alloc ?_ ?_ _) | (with_reducible refine Below.setCell ?_ ?_ _) | (with_reducible refine below_hop (by assumption) ?_ ?_)); rotate_left; (focus (first | omega | (simp; first | done | omega) | (simp [Later.le, Later.le_add, Later.lt, Later.lt_add]; first | done | omega)))) | ((with_reducible refine bel_later _ ?_ ?_); rotate_left; (focus (first | omega | (simp; first | done | omega) | (simp [Later.le, Later.le_add, Later.lt, Later.lt_add]; first | done | omega)))))) : P := h
theorem bq2 {P : Prop} (h : P := by repeat (first | (with_reducible assumption) | (with_reducible exact Below.refl _ _) | ((with_reducible refine Below.alloc ?_ ?_ _); rotate_left; (focus (first | omega | (simp; done) | (simp; omega)))) | (with_reducible refine Below.drew ?_) | ((with_reducible refine Below.setCell ?_ ?_ _); rotate_left; (focus (first | omega | (simp; done) | (simp; omega)))) | ((with_reducible refine below_hop (by assumption) ?_ ?_); rotate_left; (focus (first | omega | (simp; done) | (simp; omega)))) | ((with_reducible refine bel_later _ ?_ ?_); rotate_left; (focus (first | omega | (simp; done) | (simp; omega)))))) : P := h
theorem bq3 {P : Prop} (h : P := by repeat (first | (with_reducible assumption) | (with_reducible exact Below.refl _ _) | ((first | (with_reducible refine Below.alloc ?_ ?_ _) | (with_reducible refine below_hop (by assumption) ?_ ?_)); rotate_left; (focus (first | omega | (simp; done) | (simp; omega)))) | ((with_reducible refine bel_later _ ?_ ?_); rotate_left; (focus (first | omega | (simp; done) | (simp; omega)))))) : P := h
theorem bq4 {P : Prop} (h : P := by repeat (first | (with_reducible assumption) | (with_reducible exact Below.refl _ _) | (with_reducible refine Below.drew ?_) | ((first | (with_reducible refine Below.alloc ?_ ?_ _) | (with_reducible refine below_hop (by assumption) ?_ ?_)); rotate_left; (focus (first | omega | (simp; done) | (simp; omega)))) | ((with_reducible refine bel_later _ ?_ ?_); rotate_left; (focus (first | omega | (simp; done) | (simp; omega)))))) : P := h
theorem bq5 {P : Prop} (h : P := by first | (simp; done) | (simp [go_sem]; done) | go_simp) : P := h
theorem bq6 {P : Prop} (h : P := by repeat (first | (with_reducible exact Below.refl _ _) | ((with_reducible refine Below.alloc ?_ ?_ _); rotate_left; (focus (first | omega | (simp; done) | (simp; omega)))) | ((with_reducible refine bel_later _ ?_ ?_); rotate_left; (focus (first | omega | (simp; done) | (simp; omega)))) | ((with_reducible refine Below.setCell ?_ ?_ _); rotate_left; (focus (first | omega | (simp; done) | (simp; omega)))))) : P := h
theorem bq7 {P : Prop} (h : P := by repeat (first | (with_reducible assumption) | (with_reducible exact Below.refl _ _) | ((with_reducible refine Below.alloc ?_ ?_ _); rotate_left; (focus (first | omega | (simp; done) | (simp; omega)))) | ((with_reducible refine below_hop (by assumption) ?_ ?_); rotate_left; (focus (first | omega | (simp; done) | (simp; omega)))) | ((with_reducible refine bel_later _ ?_ ?_); rotate_left; (focus (first | omega | (simp; done) | (simp; omega)))))) : P := h
theorem bq8 {P : Prop} (h : P := by repeat (first | (with_reducible exact Below.refl _ _) | (with_reducible refine Below.drew ?_) | (with_reducible refine pw_below_drewN ?_ _) | ((first | (with_reducible refine Below.alloc ?_ ?_ _) | (with_reducible refine bel_later _ ?_ ?_) | (with_reducible refine Below.setCell ?_ ?_ _)); rotate_left; (focus (first | omega | (simp; first | done | omega) | (simp [Later.le, Later.le_add, Later.lt, Later.lt_add]; first | done | omega)))))) : P := h
/-- A world that has grown out of w: nothing of w's heap has turned. -/
structure Later (w : World) where
  W : World
  ok : Below w.heap.size w W
instance Later.some_ (w : World) : Nonempty (Later w) := ⟨⟨w, Below.refl _ _⟩⟩
theorem Later.cell (w : World) (x : Later w) (a : Addr) (h : a.block < w.heap.size) : x.W.cell? a = w.cell? a := x.ok.cell h
theorem Later.frozen (w : World) (x : Later w) (a : Addr) (h : a.block < w.heap.size) : x.W.frozen? a = w.frozen? a := x.ok.frozen h
theorem Later.size (w : World) (x : Later w) : w.heap.size ≤ x.W.heap.size := x.ok.size
theorem Later.lt (w : World) (x : Later w) (n : Nat) (h : n < w.heap.size) : (n < x.W.heap.size) = True := eq_true (Nat.lt_of_lt_of_le h x.ok.size)
theorem Later.lt_add (w : World) (x : Later w) (n k : Nat) (h : n < w.heap.size + k) : (n < x.W.heap.size + k) = True := eq_true (Nat.lt_of_lt_of_le h (Nat.add_le_add_right x.ok.size k))
theorem Later.le (w : World) (x : Later w) (n : Nat) (h : n ≤ w.heap.size) : (n ≤ x.W.heap.size) = True := eq_true (Nat.le_trans h x.ok.size)
theorem Later.le_add (w : World) (x : Later w) (n k : Nat) (h : n ≤ w.heap.size + k) : (n ≤ x.W.heap.size + k) = True := eq_true (Nat.le_trans h (Nat.add_le_add_right x.ok.size k))
theorem Later.ne (w : World) (x : Later w) (n : Nat) (h : n < w.heap.size) : (n = x.W.heap.size) = False := eq_false (by have := x.ok.size; omega)
theorem Later.ne' (w : World) (x : Later w) (n : Nat) (h : n < w.heap.size) : (x.W.heap.size = n) = False := eq_false (by have := x.ok.size; omega)
theorem Later.keep {w : World} (x : Later w) {a : Addr} {v : Value} (h : w.cell? a = some v) : x.W.cell? a = some v := (x.ok.cell (World.block_lt_of_cell? w a h)).trans h
theorem cell_alloc {w : World} {a : Addr} {v : Value} (h : w.cell? a = some v) (O : Obj) : (w.alloc O).cell? a = some v := by
  have hb := World.block_lt_of_cell? w a h
  exact (World.cell?_of_block (w := w) (Below.heap_alloc w O a.block hb)).trans h
/-- What a call that only computes leaves: its value, and a world that has grown. -/
def Gives (v : Value) (w : World) (e : Ending) (w' : World) : Prop := e = .returned v ∧ Below w.heap.size w w'
theorem Gives.mk {v v' : Value} {w w' : World} (h : v = v') (hb : Below w.heap.size w w') : Gives v' w (.returned v) w' := ⟨by rw [h], hb⟩
theorem wp_region_later {P : Program} {id : Nat} {Q : Exit → Act → World → Prop} {a : Act} {w : World} {l : List Oper} (hm : P.follows .mixedOrders = true) (hB : Region.lexB .any l.toArray = true)
    (h : wpQuiet P l.toArray (fun w' => ∃ x : Later w, w' = x.W) (fun a' => ∀ x : Later w, Q .normal a' x.W) l a) : (Code.region id l.toArray true).wp P Q a w := by
  refine wp_region_quiet (C := fun w' => ∃ x : Later w, w' = x.W) hm hB ⟨⟨w.drew, (Below.refl _ _).drew⟩, rfl⟩ ?_
  have h2 : (fun a' => ∀ w', (∃ x : Later w, w' = x.W) → Q .normal a' w') = fun a' => ∀ x : Later w, Q .normal a' x.W := by
    funext a'
    exact propext ⟨fun H x => H _ ⟨x, rfl⟩, fun H w' ⟨x, hx⟩ => hx ▸ H x⟩
  rw [h2]
  simpa using h
/-- The same where the world is one that has grown out of w: it goes on being measured by w. -/
theorem wp_region_later2 {P : Program} {id : Nat} {Q : Exit → Act → World → Prop} {a : Act} {w : World} {y : Later w} {l : List Oper} (hm : P.follows .mixedOrders = true) (hB : Region.lexB .any l.toArray = true)
    (h : wpQuiet P l.toArray (fun w' => ∃ x : Later w, w' = x.W) (fun a' => ∀ x : Later w, Q .normal a' x.W) l a) : (Code.region id l.toArray true).wp P Q a y.W := by
  refine wp_region_quiet (C := fun w' => ∃ x : Later w, w' = x.W) hm hB ⟨⟨y.W.drew, y.ok.drew⟩, rfl⟩ ?_
  have h2 : (fun a' => ∀ w', (∃ x : Later w, w' = x.W) → Q .normal a' w') = fun a' => ∀ x : Later w, Q .normal a' x.W := by
    funext a'
    exact propext ⟨fun H x => H _ ⟨x, rfl⟩, fun H w' ⟨x, hx⟩ => hx ▸ H x⟩
  rw [h2]
  simpa using h
/-- A call inside a region that draws. -/
theorem quiet_later {P : Program} {f : FuncId} {args : Array Value} {w : World} {x : Later w} {v : Value}
    (h : Calls P f args x.W (Gives v x.W)) : Calls P f args x.W fun e w'' => e = .returned v ∧ ∃ y : Later w, w'' = y.W :=
  h.mono fun _ w' ⟨he, hb⟩ => ⟨he, ⟨w', x.ok.trans (hb.mono x.ok.size)⟩, rfl⟩
/-- A call elsewhere. -/
theorem call_later {P : Program} {f : FuncId} {args : Array Value} {w : World} {v : Value} {R : Ending → World → Prop}
    (h : Calls P f args w (Gives v w)) (k : ∀ x : Later w, R (.returned v) x.W) : Calls P f args w R :=
  h.mono fun _ w' ⟨he, hb⟩ => by subst he; exact k ⟨w', hb⟩
/-- The same where the world is one that has grown out of w. -/
theorem call_later2 {P : Program} {f : FuncId} {args : Array Value} {w : World} {y : Later w} {v : Value} {R : Ending → World → Prop}
    (h : Calls P f args y.W (Gives v y.W)) (k : ∀ x : Later w, R (.returned v) x.W) : Calls P f args y.W R :=
  h.mono fun _ w' ⟨he, hb⟩ => by subst he; exact k ⟨w', y.ok.trans (hb.mono y.ok.size)⟩
theorem bel_later {B : Nat} {w0 W : World} (x : Later W) (h : Below B w0 W) (hB : B ≤ W.heap.size) : Below B w0 x.W := h.trans (x.ok.mono hB)
theorem add_at (b o n : Nat) : (⟨b, o, none⟩ : Addr).add n = ⟨b, o + n, none⟩ := by
  unfold Addr.add
  split
  · subst_vars
    rfl
  · rfl
/-! ### kinds without memory inside -/
def flat {α : Type} (sz : Nat) (enc : α → List Value) (hl : ∀ x, (enc x).length = sz) (h1 : ∀ x, ∀ u ∈ enc x, u.oneCell' = true) : Kd α where
  sz := sz
  E := []
  K := fun _ x cs => cs = enc x
  M := fun _ _ _ x cs => cs = enc x
  K_len := fun h => by rw [h]; exact hl _
  K_one := fun h => by rw [h]; exact h1 _
  K_below := fun _ h => h
  K_of_M := fun h => h
  M_mono := fun _ h => h
  M_bound := fun h => h
  M_move := fun _ h => h
  M_lower := fun _ h => h
/-- A monomial. -/
structure E3 where
  a : UInt8
  b : UInt8
  c : UInt8
  deriving DecidableEq
/-- A term. -/
structure T4 where
  e : E3
  v : Int
  deriving DecidableEq
def E3.cs (e : E3) : List Value := [.int .u8 (e.a.toNat : Int), .int .u8 (e.b.toNat : Int), .int .u8 (e.c.toNat : Int)]
def T4.cs (t : T4) : List Value := [.int .u8 (t.e.a.toNat : Int), .int .u8 (t.e.b.toNat : Int), .int .u8 (t.e.c.toNat : Int), .int .i64 t.v]
/-- What a call that makes a row leaves. -/
def Makes {α : Type} (d : Kd α) (E : Nat) (xs : List α) (w : World) (e : Ending) (w' : World) : Prop := ∃ v, e = .returned v ∧ d.R E w' w.heap.size (fun _ => True) v xs ∧ Below w.heap.size w w'
def z4 : T4 := ⟨⟨0, 0, 0⟩, 0⟩
theorem call_makes {α : Type} {d : Kd α} {E : Nat} {xs : List α} {P : Program} {f : FuncId} {args : Array Value} {w : World} {R : Ending → World → Prop}
    (h : Calls P f args w (Makes d E xs w)) (k : ∀ (x : Later w) A c, Below w.heap.size w x.W → xs.length ≤ c → d.R E x.W w.heap.size (fun _ => True) (.slice A xs.length c) xs → d.C x.W A xs.length xs → R (.returned (.slice A xs.length c)) x.W) : Calls P f args w R :=
  h.mono fun _ w' ⟨v, he, hr, hb⟩ => by
    subst he
    obtain ⟨A, c, rfl, hl, hC⟩ := Kd.R_reads hr
    exact k ⟨w', hb⟩ A c hb hl hr hC
theorem call_makes2 {α : Type} {d : Kd α} {E : Nat} {xs : List α} {P : Program} {f : FuncId} {args : Array Value} {w : World} {y : Later w} {R : Ending → World → Prop}
    (h : Calls P f args y.W (Makes d E xs y.W)) (k : ∀ (x : Later w) A c, Below y.W.heap.size y.W x.W → xs.length ≤ c → d.R E x.W y.W.heap.size (fun _ => True) (.slice A xs.length c) xs → d.C x.W A xs.length xs → R (.returned (.slice A xs.length c)) x.W) : Calls P f args y.W R :=
  h.mono fun _ w' ⟨v, he, hr, hb⟩ => by
    subst he
    obtain ⟨A, c, rfl, hl, hC⟩ := Kd.R_reads hr
    exact k ⟨w', y.ok.trans (hb.mono y.ok.size)⟩ A c hb hl hr hC
/-- A call that only computes, in a world that has grown out of w: what has grown since is told besides. -/
theorem call_later3 {P : Program} {f : FuncId} {args : Array Value} {w : World} {y : Later w} {v : Value} {R : Ending → World → Prop}
    (h : Calls P f args y.W (Gives v y.W)) (k : ∀ x : Later w, Below y.W.heap.size y.W x.W → R (.returned v) x.W) : Calls P f args y.W R :=
  h.mono fun _ w' ⟨he, hb⟩ => by subst he; exact k ⟨w', y.ok.trans (hb.mono y.ok.size)⟩ hb
/-- An element of a row that is read: the row's address is plain. -/
theorem C_at {α : Type} {d : Kd α} {w : World} {A : Option Addr} {n : Nat} {xs : List α} (h : d.C w A n xs) (hs : 0 < d.sz) (i : Nat) (hi : i < n) (z : α) :
    ∃ b o c, A = some ⟨b, o, none⟩ ∧ d.K w (xs.getD i z) c ∧ ∀ j u, c[j]? = some u → w.cell? ⟨b, o + i * d.sz + j, none⟩ = some u := by
  obtain ⟨ad, c, hA, _, hK, hc⟩ := Kd.C_get h z i (by omega) (by omega)
  obtain ⟨ad0, c0, hA0, hl0, hK0, hc0⟩ := Kd.C_get h z 0 (by omega) (by omega)
  have e : ad = ad0 := Option.some.inj (hA.symm.trans hA0)
  have h0 : 0 < c0.length := by rw [hl0]; exact hs
  have hsp := World.cell?_spot (hc0 0 _ (List.getElem?_eq_getElem h0))
  rw [← e] at hsp
  obtain ⟨b, o, s⟩ := ad
  have hs' : s = none := by simpa [Addr.add] using hsp
  subst hs'
  rw [Int.toNat_natCast] at hc hK
  simp only [add_at] at hc
  exact ⟨b, o, c, hA, hK, fun j u hu => by rw [Nat.add_assoc]; exact hc j u hu⟩
end Go.Proofs.Ytimjhehagimcaaa
/- The walks of the small functions on numbers, monomials and polynomials; no condition. -/
set_option linter.unusedVariables false
namespace Go.Proofs.Ytimjhehagimcaaa
open Go.RowKit Go.Proofs.YtimjhehagimcaaaW.PrintWords
attribute [local go_sem] Later.cell Later.frozen Later.lt Later.lt_add Later.le Later.le_add Later.ne Later.ne' add_at
def primeB (p : Int) : Bool := p == 2 || p == 3 || p == 5 || p == 7 || p == 11 || p == 13
def inB (n lo hi : Int) : Bool := decide (lo ≤ n) && decide (n ≤ hi)
theorem isPrime_c (p : Int) (w : World) : Calls Try.prog 47 #[.int .i64 p] w (Gives (.bool (primeB p)) w) := by
  by_cases h2 : p = 2
  · subst h2
    go_enter Try.func47, Try.ntmps47
    go_wp2
    go_ret
    exact .mk rfl (Below.refl _ _)
  by_cases h3 : p = 3
  · subst h3
    go_enter Try.func47, Try.ntmps47
    go_wp2
    go_ret
    exact .mk rfl (Below.refl _ _)
  by_cases h5 : p = 5
  · subst h5
    go_enter Try.func47, Try.ntmps47
    go_wp2
    go_ret
    exact .mk rfl (Below.refl _ _)
  by_cases h7 : p = 7
  · subst h7
    go_enter Try.func47, Try.ntmps47
    go_wp2
    go_ret
    exact .mk rfl (Below.refl _ _)
  by_cases h11 : p = 11
  · subst h11
    go_enter Try.func47, Try.ntmps47
    go_wp2
    go_ret
    exact .mk rfl (Below.refl _ _)
  by_cases h13 : p = 13
  · subst h13
    go_enter Try.func47, Try.ntmps47
    go_wp2
    go_ret
    exact .mk rfl (Below.refl _ _)
  go_enter Try.func47, Try.ntmps47
  go_wp2
  go_ret
  exact .mk (by simp [primeB, *]) (Below.refl _ _)
theorem l01Prime_c (p : Int) (w : World) : Calls Try.prog 43 #[.int .i64 p] w (Gives (.bool (primeB p)) w) := by
  by_cases h2 : p = 2
  · subst h2
    go_enter Try.func43, Try.ntmps43
    go_wp2
    go_ret
    exact .mk rfl (Below.refl _ _)
  by_cases h3 : p = 3
  · subst h3
    go_enter Try.func43, Try.ntmps43
    go_wp2
    go_ret
    exact .mk rfl (Below.refl _ _)
  by_cases h5 : p = 5
  · subst h5
    go_enter Try.func43, Try.ntmps43
    go_wp2
    go_ret
    exact .mk rfl (Below.refl _ _)
  by_cases h7 : p = 7
  · subst h7
    go_enter Try.func43, Try.ntmps43
    go_wp2
    go_ret
    exact .mk rfl (Below.refl _ _)
  by_cases h11 : p = 11
  · subst h11
    go_enter Try.func43, Try.ntmps43
    go_wp2
    go_ret
    exact .mk rfl (Below.refl _ _)
  by_cases h13 : p = 13
  · subst h13
    go_enter Try.func43, Try.ntmps43
    go_wp2
    go_ret
    exact .mk rfl (Below.refl _ _)
  go_enter Try.func43, Try.ntmps43
  go_wp2
  go_ret
  exact .mk (by simp [primeB, *]) (Below.refl _ _)
theorem isVars_c (d : Int) (w : World) : Calls Try.prog 65 #[.int .i64 d] w (Gives (.bool (inB d 1 3)) w) := by
  by_cases h : 1 ≤ d
  · have hd : decide (1 ≤ d) = true := decide_eq_true h
    go_enter Try.func65, Try.ntmps65
    go_wp2
    go_ret
    exact .mk (by simp [inB, *]) (Below.refl _ _)
  · have hd : decide (1 ≤ d) = false := decide_eq_false h
    go_enter Try.func65, Try.ntmps65
    go_wp2
    go_ret
    exact .mk (by simp [inB, *]) (Below.refl _ _)
theorem l01In_c (n lo hi : Int) (w : World) : Calls Try.prog 44 #[.int .i64 n, .int .i64 lo, .int .i64 hi] w (Gives (.bool (inB n lo hi)) w) := by
  by_cases h : lo ≤ n
  · have hd : decide (lo ≤ n) = true := decide_eq_true h
    go_enter Try.func44, Try.ntmps44
    go_wp2
    go_ret
    exact .mk (by simp [inB, *]) (Below.refl _ _)
  · have hd : decide (lo ≤ n) = false := decide_eq_false h
    go_enter Try.func44, Try.ntmps44
    go_wp2
    go_ret
    exact .mk (by simp [inB, *]) (Below.refl _ _)
end Go.Proofs.Ytimjhehagimcaaa
/- The walks of the tests on monomials; no condition. -/
set_option linter.unusedVariables false
namespace Go.Proofs.Ytimjhehagimcaaa
open Go.RowKit Go.Proofs.YtimjhehagimcaaaW.PrintWords
attribute [local go_sem] Later.cell Later.frozen Later.lt Later.lt_add Later.le Later.le_add Later.ne Later.ne' add_at
end Go.Proofs.Ytimjhehagimcaaa
/- The walk of IsPoly of the program; no condition. -/
set_option linter.unusedVariables false
set_option linter.unusedSimpArgs false
namespace Go.Proofs.Ytimjhehagimcaaa
open Go.RowKit Go.Proofs.YtimjhehagimcaaaW.PrintWords
attribute [local go_sem] Later.cell Later.frozen Later.lt Later.lt_add Later.le Later.le_add Later.ne Later.ne' add_at
theorem all_not {n i : Nat} {f : Nat → Bool} (hi : i < n) (h : f i = false) : (List.range n).all f = false := by
  rw [List.all_eq_false]
  exact ⟨i, List.mem_range.2 hi, by simp [h]⟩
theorem all_step {i : Nat} {f : Nat → Bool} (h : ∀ j, j < i → f j = true) (h1 : f i = true) : ∀ j, j < i + 1 → f j = true := by
  intro j hj
  rcases Nat.lt_succ_iff_lt_or_eq.1 hj with g | g
  · exact h j g
  · rw [g]
    exact h1
theorem all_yes {n : Nat} {f : Nat → Bool} (h : ∀ j, j < n → f j = true) : (List.range n).all f = true := by
  rw [List.all_eq_true]
  exact fun j hj => h j (List.mem_range.1 hj)
end Go.Proofs.Ytimjhehagimcaaa
/- The walk of the reference's test on polynomials; no condition. -/
set_option linter.unusedVariables false
set_option linter.unusedSimpArgs false
namespace Go.Proofs.Ytimjhehagimcaaa
open Go.RowKit Go.Proofs.YtimjhehagimcaaaW.PrintWords
attribute [local go_sem] Later.cell Later.frozen Later.lt Later.lt_add Later.le Later.le_add Later.ne Later.ne' add_at
theorem prime_bd {p : Int} (h : primeB p = true) : 2 ≤ p ∧ p ≤ 13 := by
  simp [primeB] at h
  omega
end Go.Proofs.Ytimjhehagimcaaa
/- The walks of the laws' own functions on terms and polynomials; no condition. -/
set_option linter.unusedVariables false
set_option linter.unusedSimpArgs false
namespace Go.Proofs.Ytimjhehagimcaaa
open Go.RowKit Go.Proofs.YtimjhehagimcaaaW.PrintWords
attribute [local go_sem] Later.cell Later.frozen Later.lt Later.lt_add Later.le Later.le_add Later.ne Later.ne' add_at
end Go.Proofs.Ytimjhehagimcaaa
/- The walks of the laws' own functions on lists of terms and on polynomials; no condition. -/
set_option linter.unusedVariables false
set_option linter.unusedSimpArgs false
namespace Go.Proofs.Ytimjhehagimcaaa
open Go.RowKit Go.Proofs.YtimjhehagimcaaaW.PrintWords
attribute [local go_sem] Later.cell Later.frozen Later.lt Later.lt_add Later.le Later.le_add Later.ne Later.ne' add_at
end Go.Proofs.Ytimjhehagimcaaa
/- The walks of the laws' own functions on lists of terms and on polynomials; no condition. -/
set_option linter.unusedVariables false
set_option linter.unusedSimpArgs false
namespace Go.Proofs.Ytimjhehagimcaaa
open Go.RowKit Go.Proofs.YtimjhehagimcaaaW.PrintWords
attribute [local go_sem] Later.cell Later.frozen Later.lt Later.lt_add Later.le Later.le_add Later.ne Later.ne' add_at
theorem take_step {α : Type} {i : Nat} (ts : List α) (z : α) (hi : i < ts.length) : (ts.take i ++ List.replicate (ts.length - i) z).set i (ts.getD i z) = ts.take (i + 1) ++ List.replicate (ts.length - (i + 1)) z := by
  have e : ts.length - i = (ts.length - (i + 1)) + 1 := by omega
  rw [List.set_append_right _ _ (by simp; omega), e, List.replicate_succ]
  have h : i - (ts.take i).length = 0 := by simp; omega
  rw [h, List.set_cons_zero, List.take_succ_eq_append_getElem hi, List.append_assoc]
  simp [List.getD_eq_getElem?_getD, hi]
/-- A store below the base of a row of one's own turns nothing of it. -/
theorem R_old {α : Type} {d : Kd α} {e base : Nat} {w : World} {ok : Nat → Prop} {v : Value} {xs : List α} (h : d.R e w base ok v xs) {p : Addr} (hp : p.block < base) (u : Value) : d.R e (w.setCell p u) base ok v xs :=
  Kd.R_mono (Kd.R_far (p := p) (Kd.R_bound h) (fun k hk => by have := hk.2.1; omega) u) (fun _ hk => hk.1)
end Go.Proofs.Ytimjhehagimcaaa
/- The walks of the degree and of DegreeOf, IsHomogeneous; no condition. -/
set_option linter.unusedVariables false
set_option linter.unusedSimpArgs false
namespace Go.Proofs.Ytimjhehagimcaaa
open Go.RowKit Go.Proofs.YtimjhehagimcaaaW.PrintWords
attribute [local go_sem] Later.cell Later.frozen Later.lt Later.lt_add Later.le Later.le_add Later.ne Later.ne' add_at
/-! ### IsHomogeneous -/
end Go.Proofs.Ytimjhehagimcaaa
/- The walks of the functions on lists of numbers; no condition. -/
set_option linter.unusedVariables false
set_option linter.unusedSimpArgs false
namespace Go.Proofs.Ytimjhehagimcaaa
open Go.RowKit Go.Proofs.YtimjhehagimcaaaW.PrintWords
attribute [local go_sem] Later.cell Later.frozen Later.lt Later.lt_add Later.le Later.le_add Later.ne Later.ne' add_at
theorem below_hop {C B : Nat} {w0 V W : World} (h : Below C V W) (h1 : Below B w0 V) (h2 : B ≤ C) : Below B w0 W := h1.trans (h.mono h2)
abbrev kI : Kd Int := Kd.int .i64
theorem infoI : (Try.prog.info? 2).map (fun i => (i.zero, i.size, i.bytes)) = some (some (.int .i64 0), 1, 8) := by kernel_rfl
theorem infoI1 : (Try.prog.info? 2).map (·.size) = some 1 := by kernel_rfl
theorem kI_at {w : World} {A : Option Addr} {n : Nat} {xs : List Int} (h : kI.C w A n xs) (i : Nat) (hi : i < n) :
    ∃ b o, A = some ⟨b, o, none⟩ ∧ w.cell? ⟨b, o + i, none⟩ = some (.int .i64 (xs.getD i 0)) := by
  obtain ⟨b, o, c, hA, hK, hc⟩ := C_at h (by decide) i hi 0
  have hK' : c = [.int .i64 (xs.getD i 0)] := hK
  subst hK'
  refine ⟨b, o, hA, ?_⟩
  have := hc 0 _ rfl
  have e : o + i * kI.sz + 0 = o + i := by show o + i * 1 + 0 = _; omega
  rwa [e] at this
theorem kI_put (w : World) (base : Nat) (ok : Nat → Prop) (t : Int) (cc : List Value) (h : cc.length = kI.sz) : kI.M w base ok t (cc.take 0 ++ [Value.int .i64 t] ++ cc.drop (0 + [Value.int .i64 t].length)) := by
  have h : cc.length = 1 := h
  show _ = [Value.int .i64 t]
  rw [List.drop_of_length_le (by simp [h])]
  simp
set_option maxRecDepth 100000 in
set_option maxHeartbeats 1000000 in
theorem toInt64S_c (A : Option Addr) (c : Nat) (ts : List Int) (w : World) (hC : kI.C w A ts.length ts) (hn : ts.length ≤ 1048576) :
    Calls Try.prog 36 #[.slice A ts.length c] w (Makes kI 2 ts w) := by
  go_enter Try.func36, Try.ntmps36
  go_wp2_with (refine Kd.R_make kI w.heap.size 2 rfl (N := 7) rfl 55 (.tmp 6) (.tmp 6) rfl ts.length rfl rfl (by kernel_rfl) _ 8 infoI rfl (by decide) (by decide) 0 (ok := fun _ => True) (okp := fun _ => False) rfl (fun _ h => h.elim) trivial (by omega) (by omega) (Below.refl _ _) (Nat.le_refl _) ?_; intro v1 w1 HR hb1 _ _)
  rw [Int.toNat_natCast] at HR
  have HB1 := Lib.hid hb1
  clear hb1
  go_loopg [4] ts.length (fun k v w' => ∃ i : Nat, i + k = ts.length ∧ v = .int .i64 i ∧ kI.R 2 w' w.heap.size (fun _ => True) v1 (ts.take i ++ List.replicate (ts.length - i) 0) ∧ Below w.heap.size w w')
  case atStart => exact ⟨0, by omega, rfl, by simpa using HR, HB1.out⟩
  case round =>
    obtain ⟨i, hik, rfl, hR, hb⟩ := hrel
    have HIK := Lib.hid hik
    have HB := Lib.hid hb
    clear hik hb HR
    have hll : (ts.take i ++ List.replicate (ts.length - i) 0).length = ts.length := by have := HIK.out; simp; omega
    have HLL := Lib.hid hll
    clear hll
    by_cases hlt : i < ts.length
    · obtain ⟨b, o, hA, q0⟩ := kI_at hC i hlt
      subst hA
      obtain ⟨g, cap, hv, hg, hgs, cells, hcells⟩ := Kd.R_form hR (by rw [HLL.out]; omega)
      rw [HLL.out] at hv
      subst hv
      have q0' := (HB.out.cell (World.block_lt_of_cell? w _ q0)).trans q0
      clear q0 hcells
      have hi0 : (0 : Int) ≤ i := by omega
      have hi1 : (i : Int) < ts.length := by omega
      have hin : ((i : Int)).toNat = i := by omega
      have hset := take_step ts 0 hlt
      have HSET := Lib.hid hset
      clear hset
      generalize ts.getD i 0 = t at *
      go_wp2_with (((with_reducible refine gate_ (.store 2 (.tmp 20) (.tmp 19)) rfl ?_); obtain ⟨cc, hcl, _, hcc, _⟩ := Kd.R_elem hR 0 (i : Int) hi0 hi1; refine Kd.R_store kI w.heap.size rfl rfl 2 (.tmp 20) (.tmp 19) rfl 2 (i : Int) 0 _ t (.int .i64 t) [.int .i64 t] cc (fun _ => True) (fun _ => False) rfl (by simp [show kI.sz = 1 from rfl]) rfl rfl infoI1 (by intro q hq; rw [List.mem_singleton.1 hq]; rfl) hR hi0 hi1 hcl hcc (Nat.le_refl _) (kI_put _ _ _ t cc hcl) (fun _ h => h.elim) HB.out ?_; intro w2 HR2 HB2 _))
      go_roundg (gk - 1)
      case measure => have := HIK.out; omega
      case rel =>
        refine ⟨i + 1, by have := HIK.out; omega, by go_num, ?_, HB2⟩
        rw [hin, HSET.out] at HR2
        exact HR2
    · go_wp2
      go_ret
      have e : i = ts.length := by have := HIK.out; omega
      subst e
      exact ⟨v1, rfl, by simpa using hR, HB.out⟩
set_option maxRecDepth 100000 in
set_option maxHeartbeats 1000000 in
theorem eqInt64S_c (A B : Option Addr) (c b : Nat) (ts us : List Int) (w : World) (hC : kI.C w A ts.length ts) (hD : kI.C w B us.length us) (hn : ts.length ≤ 1048576) (hm : us.length ≤ 1048576) :
    Calls Try.prog 38 #[.slice A ts.length c, .slice B us.length b] w (Gives (.bool (ts == us)) w) := by
  by_cases hl : ts.length = us.length
  · have HL := Lib.hid hl
    have hq : ((ts.length : Int) != us.length) = false := by simp [hl]
    clear hl
    go_enter Try.func38, Try.ntmps38
    go_wp2
    go_loopg [5] ts.length (fun k v w' => ∃ (i : Nat) (y : Later w), i + k = ts.length ∧ v = .int .i64 i ∧ (∀ j, j < i → ts.getD j 0 = us.getD j 0) ∧ w' = y.W)
    case atStart => exact ⟨0, ⟨w, Below.refl _ _⟩, by omega, rfl, fun j hj => by omega, rfl⟩
    case round =>
      obtain ⟨i, y, hik, rfl, hs, rfl⟩ := hrel
      have HIK := Lib.hid hik
      have HS := Lib.hid hs
      clear hik hs
      by_cases hlt : i < ts.length
      · obtain ⟨b1, o1, hA, p0⟩ := kI_at hC i hlt
        obtain ⟨b2, o2, hB, q0⟩ := kI_at hD i (by have := HL.out; omega)
        subst hA
        subst hB
        have k1 : b1 < w.heap.size := World.block_lt_of_cell? w _ p0
        have k2 : b2 < w.heap.size := World.block_lt_of_cell? w _ q0
        have hi0 : (0 : Int) ≤ i := by omega
        have hi1 : (i : Int) < ts.length := by omega
        have hi2 : (i : Int) < us.length := by have := HL.out; omega
        have hin : ((i : Int)).toNat = i := by omega
        generalize ht : ts.getD i 0 = t at *
        generalize hu : us.getD i 0 = u at *
        have HT := Lib.hid ht
        have HU := Lib.hid hu
        clear ht hu
        cases he : (t != u) with
        | true =>
          go_wp2
          (first | refine wp_region_later2 (by kernel_rfl) (by kernel_rfl) ?_ | refine wp_region_later (by kernel_rfl) (by kernel_rfl) ?_); (repeat (go_big_quiet_step (fail))); refine wpQuiet_nil ?_; intro x
          go_wp2
          go_ret
          refine .mk ?_ bq8
          have hne : (ts == us) = false := by
            rw [beq_eq_false_iff_ne]
            intro hh
            rw [bne_iff_ne] at he
            exact he (by rw [← HT.out, ← HU.out, hh])
          rw [hne]
          rfl
        | false =>
          go_wp2
          (first | refine wp_region_later2 (by kernel_rfl) (by kernel_rfl) ?_ | refine wp_region_later (by kernel_rfl) (by kernel_rfl) ?_); (repeat (go_big_quiet_step (fail))); refine wpQuiet_nil ?_; intro x
          go_wp2
          go_roundg (gk - 1)
          case measure => have := HIK.out; omega
          case rel =>
            refine ⟨i + 1, x, by have := HIK.out; omega, by go_num, fun j hj => ?_, rfl⟩
            rcases Nat.lt_succ_iff_lt_or_eq.1 hj with g | g
            · exact HS.out j g
            · rw [g, HT.out, HU.out]
              simpa using he
      · go_wp2
        go_ret
        refine .mk ?_ bq8
        have heq : ts = us := by
          apply List.ext_getElem HL.out
          intro j h1 h2
          have := HS.out j (by omega)
          simpa [List.getD_eq_getElem?_getD, h1, h2] using this
        rw [heq, beq_self_eq_true]
        rfl
  · have hq : ((ts.length : Int) != us.length) = true := by rw [bne_iff_ne]; omega
    have he : (ts == us) = false := by
      rw [beq_eq_false_iff_ne]
      intro hh
      exact hl (by rw [hh])
    have HE := Lib.hid he
    clear he hl
    go_enter Try.func38, Try.ntmps38
    go_wp2
    go_ret
    exact .mk (by rw [HE.out]; rfl) bq8
def allB (p : Int) (ps : List Int) : Bool := (List.range ps.length).all (fun i => inB (ps.getD i 0) 0 (p - 1))
def pointB (p d : Int) (ps : List Int) : Bool := allB p ps && (ps.length : Int) == d
set_option maxRecDepth 100000 in
theorem field_c (p : Int) (A : Option Addr) (c : Nat) (ts : List Int) (w : World) (hp : 2 ≤ p) (hp' : p ≤ 13) (hC : kI.C w A ts.length ts) (hn : ts.length ≤ 9223372036854775807) :
    Calls Try.prog 88 #[.int .i64 p, .slice A ts.length c] w (Gives (.bool (allB p ts)) w) := by
  go_enter Try.func88, Try.ntmps88
  go_wp2
  go_loopg [9] ts.length (fun k v w' => ∃ (i : Nat), i + k = ts.length ∧ v = .int .i64 i ∧ (∀ j, j < i → inB (ts.getD j 0) 0 (p - 1) = true) ∧ w' = w)
  case atStart => exact ⟨0, by omega, rfl, fun j hj => by omega, rfl⟩
  case round =>
    obtain ⟨i, hik, rfl, hs, rfl⟩ := hrel
    have HIK := Lib.hid hik
    have HS := Lib.hid hs
    clear hik hs
    by_cases hlt : i < ts.length
    · obtain ⟨b1, o1, hA, p0⟩ := kI_at hC i hlt
      subst hA
      have hi0 : (0 : Int) ≤ i := by omega
      have hi1 : (i : Int) < ts.length := by omega
      have hin : ((i : Int)).toNat = i := by omega
      generalize ht : ts.getD i 0 = t at *
      have HT := Lib.hid ht
      clear ht
      by_cases h1 : t < 0
      · have h1' : decide (t < 0) = true := decide_eq_true h1
        go_wp2
        go_ret
        refine .mk ?_ bq8
        rw [allB, all_not hlt (by rw [HT.out]; simp [inB]; omega)]
        rfl
      · have h1' : decide (t < 0) = false := decide_eq_false h1
        by_cases h2 : p ≤ t
        · go_wp2
          go_ret
          refine .mk ?_ bq8
          rw [allB, all_not hlt (by rw [HT.out]; simp [inB]; omega)]
          rfl
        · go_wp2
          go_roundg (gk - 1)
          case measure => have := HIK.out; omega
          case rel => exact ⟨i + 1, by have := HIK.out; omega, by go_num, all_step HS.out (by rw [HT.out]; simp [inB]; omega), rfl⟩
    · go_wp2
      go_ret
      refine .mk ?_ bq8
      rw [allB, all_yes (fun j hj => HS.out j (by omega))]
      rfl
theorem isPoint_c (p d : Int) (A : Option Addr) (c : Nat) (ts : List Int) (w : World) (hp : 2 ≤ p) (hp' : p ≤ 13) (hC : kI.C w A ts.length ts) (hn : ts.length ≤ 9223372036854775807) :
    Calls Try.prog 106 #[.int .i64 p, .int .i64 d, .slice A ts.length c] w (Gives (.bool (pointB p d ts)) w) := by
  cases h : ((ts.length : Int) == d) with
  | false =>
    have hr : pointB p d ts = false := by simp [pointB, h]
    have HR := Lib.hid hr
    clear hr
    go_enter Try.func106, Try.ntmps106
    go_wp2
    go_ret
    exact .mk (by rw [HR.out]; rfl) bq8
  | true =>
    have hr : pointB p d ts = allB p ts := by simp [pointB, h]
    rw [hr]
    clear hr
    go_enter Try.func106, Try.ntmps106
    go_wp2_with ((go_at_call 88; (first | (with_reducible refine call_later2 (field_c _ _ _ _ _ hp hp' hC hn) ?_) | (with_reducible refine call_later (field_c _ _ _ _ _ hp hp' hC hn) ?_)); intro x))
    go_ret
    exact .mk (by simp) bq8
set_option maxRecDepth 100000 in
theorem l01Point_c (p d : Int) (A : Option Addr) (c : Nat) (ts : List Int) (w : World) (hp : 2 ≤ p) (hp' : p ≤ 13) (hC : kI.C w A ts.length ts) (hn : ts.length ≤ 9223372036854775807) :
    Calls Try.prog 45 #[.int .i64 p, .int .i64 d, .slice A ts.length c] w (Gives (.bool (pointB p d ts)) w) := by
  go_enter Try.func45, Try.ntmps45
  go_wp2
  go_loopg [7] ts.length (fun k v w' => ∃ (i : Nat) (y : Later w), i + k = ts.length ∧ v = .int .i64 i ∧ (∀ j, j < i → inB (ts.getD j 0) 0 (p - 1) = true) ∧ w' = y.W)
  case atStart => exact ⟨0, ⟨w, Below.refl _ _⟩, by omega, rfl, fun j hj => by omega, rfl⟩
  case round =>
    obtain ⟨i, y, hik, rfl, hs, rfl⟩ := hrel
    have HIK := Lib.hid hik
    have HS := Lib.hid hs
    clear hik hs
    by_cases hlt : i < ts.length
    · obtain ⟨b1, o1, hA, p0⟩ := kI_at hC i hlt
      subst hA
      have k1 : b1 < w.heap.size := World.block_lt_of_cell? w _ p0
      have hi0 : (0 : Int) ≤ i := by omega
      have hi1 : (i : Int) < ts.length := by omega
      have hin : ((i : Int)).toNat = i := by omega
      generalize ht : ts.getD i 0 = t at *
      have HT := Lib.hid ht
      clear ht
      cases h1 : inB t 0 (p - 1) with
      | false =>
        go_wp2_with ((go_at_call 44; (first | (with_reducible refine call_later2 (l01In_c _ _ _ _) ?_) | (with_reducible refine call_later (l01In_c _ _ _ _) ?_)); intro x))
        go_ret
        refine .mk ?_ bq8
        rw [pointB, allB, all_not hlt (by rw [HT.out]; exact h1)]
        rfl
      | true =>
        go_wp2_with ((go_at_call 44; (first | (with_reducible refine call_later2 (l01In_c _ _ _ _) ?_) | (with_reducible refine call_later (l01In_c _ _ _ _) ?_)); intro x))
        go_roundg (gk - 1)
        case measure => have := HIK.out; omega
        case rel => exact ⟨i + 1, x, by have := HIK.out; omega, by go_num, all_step HS.out (by rw [HT.out]; exact h1), rfl⟩
    · go_wp2
      go_ret
      refine .mk ?_ bq8
      rw [pointB, allB, all_yes (fun j hj => HS.out j (by omega))]
      simp
end Go.Proofs.Ytimjhehagimcaaa
/- The walks of the value at a point; no condition. -/
set_option linter.unusedVariables false
set_option linter.unusedSimpArgs false
namespace Go.Proofs.Ytimjhehagimcaaa
open Go.RowKit Go.Proofs.YtimjhehagimcaaaW.PrintWords
attribute [local go_sem] Later.cell Later.frozen Later.lt Later.lt_add Later.le Later.le_add Later.ne Later.ne' add_at
def E3.at (e : E3) (k : Nat) : UInt8 := if k = 0 then e.a else if k = 1 then e.b else e.c
theorem lt3 {i : Nat} (h : i < 3) : i = 0 ∨ i = 1 ∨ i = 2 := by omega
theorem mod_bd {p : Int} (n : Int) (hp : 2 ≤ p) : 0 ≤ n % p ∧ n % p < p := ⟨Int.emod_nonneg _ (by omega), Int.emod_lt_of_pos _ (by omega)⟩
theorem i64_small {n : Int} (h1 : -9223372036854775808 ≤ n) (h2 : n ≤ 9223372036854775807) : IntKind.i64.wrap n = n := IntWalk.i64_in _ (by omega)
end Go.Proofs.Ytimjhehagimcaaa
/- The walks of ValueAt of both sides; no condition. -/
set_option linter.unusedVariables false
set_option linter.unusedSimpArgs false
namespace Go.Proofs.Ytimjhehagimcaaa
open Go.RowKit Go.Proofs.YtimjhehagimcaaaW.PrintWords
attribute [local go_sem] Later.cell Later.frozen Later.lt Later.lt_add Later.le Later.le_add Later.ne Later.ne' add_at
end Go.Proofs.Ytimjhehagimcaaa
/- The walks of the functions that read a list of exponents, and of coefficients; no condition. -/
set_option linter.unusedVariables false
set_option linter.unusedSimpArgs false
namespace Go.Proofs.Ytimjhehagimcaaa
open Go.RowKit Go.Proofs.YtimjhehagimcaaaW.PrintWords
attribute [local go_sem] Later.cell Later.frozen Later.lt Later.lt_add Later.le Later.le_add Later.ne Later.ne' add_at
def z3 : E3 := ⟨0, 0, 0⟩
end Go.Proofs.Ytimjhehagimcaaa
/- The walks of the reference's list of exponents, and of coefficients of both sides; no condition. -/
set_option linter.unusedVariables false
set_option linter.unusedSimpArgs false
namespace Go.Proofs.Ytimjhehagimcaaa
open Go.RowKit Go.Proofs.YtimjhehagimcaaaW.PrintWords
attribute [local go_sem] Later.cell Later.frozen Later.lt Later.lt_add Later.le Later.le_add Later.ne Later.ne' add_at
/-- What a call that only computes and leaves the world as it was leaves. -/
def Same (v : Value) (w : World) (e : Ending) (w' : World) : Prop := e = .returned v ∧ w' = w
theorem Same.mk {v v' : Value} {w : World} (h : v = v') : Same v' w (.returned v) w := ⟨by rw [h], rfl⟩
theorem call_same {P : Program} {f : FuncId} {args : Array Value} {w : World} {v : Value} {R : Ending → World → Prop}
    (h : Calls P f args w (Same v w)) (k : R (.returned v) w) : Calls P f args w R :=
  h.mono fun _ w' ⟨he, hb⟩ => by subst he; subst hb; exact k
end Go.Proofs.Ytimjhehagimcaaa
/- Equality of monomials, terms and matrices, as the walk meets it; no condition. -/
set_option linter.unusedVariables false
set_option linter.unusedSimpArgs false
namespace Go.Proofs.Ytimjhehagimcaaa
open Go.RowKit Go.Proofs.YtimjhehagimcaaaW.PrintWords
attribute [local go_sem] Later.cell Later.frozen Later.lt Later.lt_add Later.le Later.le_add Later.ne Later.ne' add_at
end Go.Proofs.Ytimjhehagimcaaa
/- The walks of coefficients of both sides; no condition. -/
set_option linter.unusedVariables false
set_option linter.unusedSimpArgs false
namespace Go.Proofs.Ytimjhehagimcaaa
open Go.RowKit Go.Proofs.YtimjhehagimcaaaW.PrintWords
attribute [local go_sem] Later.cell Later.frozen Later.lt Later.lt_add Later.le Later.le_add Later.ne Later.ne' add_at
end Go.Proofs.Ytimjhehagimcaaa
/- The walks of the marks on rows of terms, and of the look at them; no condition. -/
set_option linter.unusedVariables false
set_option linter.unusedSimpArgs false
namespace Go.Proofs.Ytimjhehagimcaaa
open Go.RowKit Go.Proofs.YtimjhehagimcaaaW.PrintWords
attribute [local go_sem] Later.cell Later.frozen Later.lt Later.lt_add Later.le Later.le_add Later.ne Later.ne' add_at
theorem grown_trans {a w w' : World} {row : Option Nat} (h : a.grownBy w row) (k : w.grownBy w' row) : a.grownBy w' row :=
  ⟨k.os.trans h.os, k.tape.trans h.tape, k.output.trans h.output, Nat.le_trans h.size k.size, fun i hi hr => (k.block i (Nat.lt_of_lt_of_le hi h.size) hr).trans (h.block i hi hr)⟩
/-- The byte that a number leaves. -/
def uB (k : Int) : UInt8 := UInt8.ofNat (k % 256).toNat
theorem uB_nat (k : Int) : ((uB k).toNat : Int) = k % 256 := by
  unfold uB
  rw [UInt8.toNat_ofNat']
  have h1 := Int.emod_nonneg k (show (256 : Int) ≠ 0 by omega)
  have h2 := Int.emod_lt_of_pos k (show (0 : Int) < 256 by omega)
  omega
end Go.Proofs.Ytimjhehagimcaaa
/- The walks of parts of polynomials; no condition. -/
set_option linter.unusedVariables false
set_option linter.unusedSimpArgs false
namespace Go.Proofs.Ytimjhehagimcaaa
open Go.RowKit Go.Proofs.YtimjhehagimcaaaW.PrintWords
attribute [local go_sem] Later.cell Later.frozen Later.lt Later.lt_add Later.le Later.le_add Later.ne Later.ne' add_at
theorem R_zero {α : Type} (d : Kd α) {e g base : Nat} {W : World} (hg : W.heap[g]? = some (.cells #[] e (0, 0))) (hb : base ≤ g) : d.R e W base (fun _ => True) (.slice (some ⟨g, 0, none⟩) 0 0) [] :=
  ⟨fun _ _ => trivial, [], ⟨by simp, .inr ⟨g, 0, #[], rfl, hb, hg, Nat.le_refl _, Nat.zero_le _, by simp, by simp⟩⟩, Reps.none _ _⟩
theorem heap_alloc_last (W : World) (O : Obj) : (W.alloc O).heap[W.heap.size]? = some O := by
  show (W.heap.push O)[W.heap.size]? = some O
  simp
theorem far_cell {w w' : World} {row : Option Nat} (hg : w.grownBy w' row) {a : Addr} {v : Value} (h : w.cell? a = some v) (hne : some a.block ≠ row) : w'.cell? a = some v :=
  (World.cell?_of_block (hg.block a.block (World.block_lt_of_cell? _ _ h) hne)).trans h
theorem far_frozen {w w' : World} {row : Option Nat} (hg : w.grownBy w' row) {a : Addr} {b : Bool} (h : w.frozen? a = b) (hlt : a.block < w.heap.size) (hne : some a.block ≠ row) : w'.frozen? a = b :=
  (World.frozen?_of_block (hg.block a.block hlt hne)).trans h
end Go.Proofs.Ytimjhehagimcaaa

/- Walks of the functions on polynomials, numbers and rows, of both sides; no condition. -/
import Derived.Test.YtgidpgfkbgbhmaaWWords
import Derived.Lib.Hide
import Derived.Test.YtgidpgfkbgbhmaaProg
import Derived.LoopN
import Derived.Deep.LoopGhost
import Derived.Stop.BytesEq
import Derived.Deep.RegionLaw
/- Words of this session for all walks of the seat Ytgidpgfkbgbhmaa: worlds that have grown, kinds of rows without memory inside; no condition. -/
set_option linter.unusedVariables false
namespace Go.Proofs.Ytgidpgfkbgbhmaa
open Go.RowKit Go.Proofs.YtgidpgfkbgbhmaaW.PrintWords
/-! ### worlds that have grown -/
/-- A world that has grown out of w: nothing of w's heap has turned. -/
structure Later (w : World) where
  W : World
  ok : Below w.heap.size w W
instance Later.some_ (w : World) : Nonempty (Later w) := ⟨⟨w, Below.refl _ _⟩⟩
theorem Later.cell (w : World) (x : Later w) (a : Addr) (h : a.block < w.heap.size) : x.W.cell? a = w.cell? a := x.ok.cell h
theorem Later.frozen (w : World) (x : Later w) (a : Addr) (h : a.block < w.heap.size) : x.W.frozen? a = w.frozen? a := x.ok.frozen h
theorem Later.size (w : World) (x : Later w) : w.heap.size ≤ x.W.heap.size := x.ok.size
theorem Later.lt (w : World) (x : Later w) (n : Nat) (h : n < w.heap.size) : (n < x.W.heap.size) = True := eq_true (Nat.lt_of_lt_of_le h x.ok.size)
theorem Later.lt_add (w : World) (x : Later w) (n k : Nat) (h : n < w.heap.size + k) : (n < x.W.heap.size + k) = True := eq_true (Nat.lt_of_lt_of_le h (Nat.add_le_add_right x.ok.size k))
theorem Later.le (w : World) (x : Later w) (n : Nat) (h : n ≤ w.heap.size) : (n ≤ x.W.heap.size) = True := eq_true (Nat.le_trans h x.ok.size)
theorem Later.le_add (w : World) (x : Later w) (n k : Nat) (h : n ≤ w.heap.size + k) : (n ≤ x.W.heap.size + k) = True := eq_true (Nat.le_trans h (Nat.add_le_add_right x.ok.size k))
theorem Later.ne (w : World) (x : Later w) (n : Nat) (h : n < w.heap.size) : (n = x.W.heap.size) = False := eq_false (by have := x.ok.size; omega)
theorem Later.ne' (w : World) (x : Later w) (n : Nat) (h : n < w.heap.size) : (x.W.heap.size = n) = False := eq_false (by have := x.ok.size; omega)
theorem Later.keep {w : World} (x : Later w) {a : Addr} {v : Value} (h : w.cell? a = some v) : x.W.cell? a = some v := (x.ok.cell (World.block_lt_of_cell? w a h)).trans h
theorem cell_alloc {w : World} {a : Addr} {v : Value} (h : w.cell? a = some v) (O : Obj) : (w.alloc O).cell? a = some v := by
  have hb := World.block_lt_of_cell? w a h
  exact (World.cell?_of_block (w := w) (Below.heap_alloc w O a.block hb)).trans h
/-- What a call that only computes leaves: its value, and a world that has grown. -/
def Gives (v : Value) (w : World) (e : Ending) (w' : World) : Prop := e = .returned v ∧ Below w.heap.size w w'
theorem Gives.mk {v v' : Value} {w w' : World} (h : v = v') (hb : Below w.heap.size w w') : Gives v' w (.returned v) w' := ⟨by rw [h], hb⟩
theorem wp_region_later {P : Program} {id : Nat} {Q : Exit → Act → World → Prop} {a : Act} {w : World} {l : List Oper} (hm : P.follows .mixedOrders = true) (hB : Region.lexB .any l.toArray = true)
    (h : wpQuiet P l.toArray (fun w' => ∃ x : Later w, w' = x.W) (fun a' => ∀ x : Later w, Q .normal a' x.W) l a) : (Code.region id l.toArray true).wp P Q a w := by
  refine wp_region_quiet (C := fun w' => ∃ x : Later w, w' = x.W) hm hB ⟨⟨w.drew, (Below.refl _ _).drew⟩, rfl⟩ ?_
  have h2 : (fun a' => ∀ w', (∃ x : Later w, w' = x.W) → Q .normal a' w') = fun a' => ∀ x : Later w, Q .normal a' x.W := by
    funext a'
    exact propext ⟨fun H x => H _ ⟨x, rfl⟩, fun H w' ⟨x, hx⟩ => hx ▸ H x⟩
  rw [h2]
  simpa using h
/-- The same where the world is one that has grown out of w: it goes on being measured by w. -/
theorem wp_region_later2 {P : Program} {id : Nat} {Q : Exit → Act → World → Prop} {a : Act} {w : World} {y : Later w} {l : List Oper} (hm : P.follows .mixedOrders = true) (hB : Region.lexB .any l.toArray = true)
    (h : wpQuiet P l.toArray (fun w' => ∃ x : Later w, w' = x.W) (fun a' => ∀ x : Later w, Q .normal a' x.W) l a) : (Code.region id l.toArray true).wp P Q a y.W := by
  refine wp_region_quiet (C := fun w' => ∃ x : Later w, w' = x.W) hm hB ⟨⟨y.W.drew, y.ok.drew⟩, rfl⟩ ?_
  have h2 : (fun a' => ∀ w', (∃ x : Later w, w' = x.W) → Q .normal a' w') = fun a' => ∀ x : Later w, Q .normal a' x.W := by
    funext a'
    exact propext ⟨fun H x => H _ ⟨x, rfl⟩, fun H w' ⟨x, hx⟩ => hx ▸ H x⟩
  rw [h2]
  simpa using h
/-- A call inside a region that draws. -/
theorem quiet_later {P : Program} {f : FuncId} {args : Array Value} {w : World} {x : Later w} {v : Value}
    (h : Calls P f args x.W (Gives v x.W)) : Calls P f args x.W fun e w'' => e = .returned v ∧ ∃ y : Later w, w'' = y.W :=
  h.mono fun _ w' ⟨he, hb⟩ => ⟨he, ⟨w', x.ok.trans (hb.mono x.ok.size)⟩, rfl⟩
/-- A call elsewhere. -/
theorem call_later {P : Program} {f : FuncId} {args : Array Value} {w : World} {v : Value} {R : Ending → World → Prop}
    (h : Calls P f args w (Gives v w)) (k : ∀ x : Later w, R (.returned v) x.W) : Calls P f args w R :=
  h.mono fun _ w' ⟨he, hb⟩ => by subst he; exact k ⟨w', hb⟩
/-- The same where the world is one that has grown out of w. -/
theorem call_later2 {P : Program} {f : FuncId} {args : Array Value} {w : World} {y : Later w} {v : Value} {R : Ending → World → Prop}
    (h : Calls P f args y.W (Gives v y.W)) (k : ∀ x : Later w, R (.returned v) x.W) : Calls P f args y.W R :=
  h.mono fun _ w' ⟨he, hb⟩ => by subst he; exact k ⟨w', y.ok.trans (hb.mono y.ok.size)⟩
theorem bel_later {B : Nat} {w0 W : World} (x : Later W) (h : Below B w0 W) (hB : B ≤ W.heap.size) : Below B w0 x.W := h.trans (x.ok.mono hB)
theorem add_at (b o n : Nat) : (⟨b, o, none⟩ : Addr).add n = ⟨b, o + n, none⟩ := by
  unfold Addr.add
  split
  · subst_vars
    rfl
  · rfl
/-! ### kinds without memory inside -/
def flat {α : Type} (sz : Nat) (enc : α → List Value) (hl : ∀ x, (enc x).length = sz) (h1 : ∀ x, ∀ u ∈ enc x, u.oneCell' = true) : Kd α where
  sz := sz
  E := []
  K := fun _ x cs => cs = enc x
  M := fun _ _ _ x cs => cs = enc x
  K_len := fun h => by rw [h]; exact hl _
  K_one := fun h => by rw [h]; exact h1 _
  K_below := fun _ h => h
  K_of_M := fun h => h
  M_mono := fun _ h => h
  M_bound := fun h => h
  M_move := fun _ h => h
  M_lower := fun _ h => h
/-- A monomial. -/
structure E3 where
  a : UInt8
  b : UInt8
  c : UInt8
  deriving DecidableEq
/-- A term. -/
structure T4 where
  e : E3
  v : Int
  deriving DecidableEq
def E3.cs (e : E3) : List Value := [.int .u8 (e.a.toNat : Int), .int .u8 (e.b.toNat : Int), .int .u8 (e.c.toNat : Int)]
def T4.cs (t : T4) : List Value := [.int .u8 (t.e.a.toNat : Int), .int .u8 (t.e.b.toNat : Int), .int .u8 (t.e.c.toNat : Int), .int .i64 t.v]
/-- What a call that makes a row leaves. -/
def Makes {α : Type} (d : Kd α) (E : Nat) (xs : List α) (w : World) (e : Ending) (w' : World) : Prop := ∃ v, e = .returned v ∧ d.R E w' w.heap.size (fun _ => True) v xs ∧ Below w.heap.size w w'
def z4 : T4 := ⟨⟨0, 0, 0⟩, 0⟩
theorem call_makes {α : Type} {d : Kd α} {E : Nat} {xs : List α} {P : Program} {f : FuncId} {args : Array Value} {w : World} {R : Ending → World → Prop}
    (h : Calls P f args w (Makes d E xs w)) (k : ∀ (x : Later w) A c, Below w.heap.size w x.W → xs.length ≤ c → d.R E x.W w.heap.size (fun _ => True) (.slice A xs.length c) xs → d.C x.W A xs.length xs → R (.returned (.slice A xs.length c)) x.W) : Calls P f args w R :=
  h.mono fun _ w' ⟨v, he, hr, hb⟩ => by
    subst he
    obtain ⟨A, c, rfl, hl, hC⟩ := Kd.R_reads hr
    exact k ⟨w', hb⟩ A c hb hl hr hC
theorem call_makes2 {α : Type} {d : Kd α} {E : Nat} {xs : List α} {P : Program} {f : FuncId} {args : Array Value} {w : World} {y : Later w} {R : Ending → World → Prop}
    (h : Calls P f args y.W (Makes d E xs y.W)) (k : ∀ (x : Later w) A c, Below y.W.heap.size y.W x.W → xs.length ≤ c → d.R E x.W y.W.heap.size (fun _ => True) (.slice A xs.length c) xs → d.C x.W A xs.length xs → R (.returned (.slice A xs.length c)) x.W) : Calls P f args y.W R :=
  h.mono fun _ w' ⟨v, he, hr, hb⟩ => by
    subst he
    obtain ⟨A, c, rfl, hl, hC⟩ := Kd.R_reads hr
    exact k ⟨w', y.ok.trans (hb.mono y.ok.size)⟩ A c hb hl hr hC
/-- A call that only computes, in a world that has grown out of w: what has grown since is told besides. -/
theorem call_later3 {P : Program} {f : FuncId} {args : Array Value} {w : World} {y : Later w} {v : Value} {R : Ending → World → Prop}
    (h : Calls P f args y.W (Gives v y.W)) (k : ∀ x : Later w, Below y.W.heap.size y.W x.W → R (.returned v) x.W) : Calls P f args y.W R :=
  h.mono fun _ w' ⟨he, hb⟩ => by subst he; exact k ⟨w', y.ok.trans (hb.mono y.ok.size)⟩ hb
theorem call_later4 {P : Program} {f : FuncId} {args : Array Value} {w : World} {v : Value} {R : Ending → World → Prop}
    (h : Calls P f args w (Gives v w)) (k : ∀ x : Later w, Below w.heap.size w x.W → R (.returned v) x.W) : Calls P f args w R :=
  h.mono fun _ w' ⟨he, hb⟩ => by subst he; exact k ⟨w', hb⟩ hb
/-- An element of a row that is read: the row's address is plain. -/
theorem C_at {α : Type} {d : Kd α} {w : World} {A : Option Addr} {n : Nat} {xs : List α} (h : d.C w A n xs) (hs : 0 < d.sz) (i : Nat) (hi : i < n) (z : α) :
    ∃ b o c, A = some ⟨b, o, none⟩ ∧ d.K w (xs.getD i z) c ∧ ∀ j u, c[j]? = some u → w.cell? ⟨b, o + i * d.sz + j, none⟩ = some u := by
  obtain ⟨ad, c, hA, _, hK, hc⟩ := Kd.C_get h z i (by omega) (by omega)
  obtain ⟨ad0, c0, hA0, hl0, hK0, hc0⟩ := Kd.C_get h z 0 (by omega) (by omega)
  have e : ad = ad0 := Option.some.inj (hA.symm.trans hA0)
  have h0 : 0 < c0.length := by rw [hl0]; exact hs
  have hsp := World.cell?_spot (hc0 0 _ (List.getElem?_eq_getElem h0))
  rw [← e] at hsp
  obtain ⟨b, o, s⟩ := ad
  have hs' : s = none := by simpa [Addr.add] using hsp
  subst hs'
  rw [Int.toNat_natCast] at hc hK
  simp only [add_at] at hc
  exact ⟨b, o, c, hA, hK, fun j u hu => by rw [Nat.add_assoc]; exact hc j u hu⟩
end Go.Proofs.Ytgidpgfkbgbhmaa
/- The walks of the small functions on numbers, monomials and polynomials; no condition. -/
set_option linter.unusedVariables false
namespace Go.Proofs.Ytgidpgfkbgbhmaa
open Go.RowKit Go.Proofs.YtgidpgfkbgbhmaaW.PrintWords
attribute [local go_sem] Later.cell Later.frozen Later.lt Later.lt_add Later.le Later.le_add Later.ne Later.ne' add_at
def primeB (p : Int) : Bool := p == 2 || p == 3 || p == 5 || p == 7 || p == 11 || p == 13
def inB (n lo hi : Int) : Bool := decide (lo ≤ n) && decide (n ≤ hi)
theorem isPrime_c (p : Int) (w : World) : Calls Try.prog 74 #[.int .i64 p] w (Gives (.bool (primeB p)) w) := by
  by_cases h2 : p = 2
  · subst h2
    go_enter Try.func74, Try.ntmps74
    go_wp2
    go_ret
    exact .mk rfl (Below.refl _ _)
  by_cases h3 : p = 3
  · subst h3
    go_enter Try.func74, Try.ntmps74
    go_wp2
    go_ret
    exact .mk rfl (Below.refl _ _)
  by_cases h5 : p = 5
  · subst h5
    go_enter Try.func74, Try.ntmps74
    go_wp2
    go_ret
    exact .mk rfl (Below.refl _ _)
  by_cases h7 : p = 7
  · subst h7
    go_enter Try.func74, Try.ntmps74
    go_wp2
    go_ret
    exact .mk rfl (Below.refl _ _)
  by_cases h11 : p = 11
  · subst h11
    go_enter Try.func74, Try.ntmps74
    go_wp2
    go_ret
    exact .mk rfl (Below.refl _ _)
  by_cases h13 : p = 13
  · subst h13
    go_enter Try.func74, Try.ntmps74
    go_wp2
    go_ret
    exact .mk rfl (Below.refl _ _)
  go_enter Try.func74, Try.ntmps74
  go_wp2
  go_ret
  exact .mk (by simp [primeB, *]) (Below.refl _ _)
theorem l01Prime_c (p : Int) (w : World) : Calls Try.prog 70 #[.int .i64 p] w (Gives (.bool (primeB p)) w) := by
  by_cases h2 : p = 2
  · subst h2
    go_enter Try.func70, Try.ntmps70
    go_wp2
    go_ret
    exact .mk rfl (Below.refl _ _)
  by_cases h3 : p = 3
  · subst h3
    go_enter Try.func70, Try.ntmps70
    go_wp2
    go_ret
    exact .mk rfl (Below.refl _ _)
  by_cases h5 : p = 5
  · subst h5
    go_enter Try.func70, Try.ntmps70
    go_wp2
    go_ret
    exact .mk rfl (Below.refl _ _)
  by_cases h7 : p = 7
  · subst h7
    go_enter Try.func70, Try.ntmps70
    go_wp2
    go_ret
    exact .mk rfl (Below.refl _ _)
  by_cases h11 : p = 11
  · subst h11
    go_enter Try.func70, Try.ntmps70
    go_wp2
    go_ret
    exact .mk rfl (Below.refl _ _)
  by_cases h13 : p = 13
  · subst h13
    go_enter Try.func70, Try.ntmps70
    go_wp2
    go_ret
    exact .mk rfl (Below.refl _ _)
  go_enter Try.func70, Try.ntmps70
  go_wp2
  go_ret
  exact .mk (by simp [primeB, *]) (Below.refl _ _)
theorem isVars_c (d : Int) (w : World) : Calls Try.prog 129 #[.int .i64 d] w (Gives (.bool (inB d 1 3)) w) := by
  by_cases h : 1 ≤ d
  · have hd : decide (1 ≤ d) = true := decide_eq_true h
    go_enter Try.func129, Try.ntmps129
    go_wp2
    go_ret
    exact .mk (by simp [inB, *]) (Below.refl _ _)
  · have hd : decide (1 ≤ d) = false := decide_eq_false h
    go_enter Try.func129, Try.ntmps129
    go_wp2
    go_ret
    exact .mk (by simp [inB, *]) (Below.refl _ _)
theorem l01In_c (n lo hi : Int) (w : World) : Calls Try.prog 71 #[.int .i64 n, .int .i64 lo, .int .i64 hi] w (Gives (.bool (inB n lo hi)) w) := by
  by_cases h : lo ≤ n
  · have hd : decide (lo ≤ n) = true := decide_eq_true h
    go_enter Try.func71, Try.ntmps71
    go_wp2
    go_ret
    exact .mk (by simp [inB, *]) (Below.refl _ _)
  · have hd : decide (lo ≤ n) = false := decide_eq_false h
    go_enter Try.func71, Try.ntmps71
    go_wp2
    go_ret
    exact .mk (by simp [inB, *]) (Below.refl _ _)
end Go.Proofs.Ytgidpgfkbgbhmaa
/- The walks of the tests on monomials; no condition. -/
set_option linter.unusedVariables false
namespace Go.Proofs.Ytgidpgfkbgbhmaa
open Go.RowKit Go.Proofs.YtgidpgfkbgbhmaaW.PrintWords
attribute [local go_sem] Later.cell Later.frozen Later.lt Later.lt_add Later.le Later.le_add Later.ne Later.ne' add_at
end Go.Proofs.Ytgidpgfkbgbhmaa
/- The walk of IsPoly of the program; no condition. -/
set_option linter.unusedVariables false
set_option linter.unusedSimpArgs false
namespace Go.Proofs.Ytgidpgfkbgbhmaa
open Go.RowKit Go.Proofs.YtgidpgfkbgbhmaaW.PrintWords
attribute [local go_sem] Later.cell Later.frozen Later.lt Later.lt_add Later.le Later.le_add Later.ne Later.ne' add_at
end Go.Proofs.Ytgidpgfkbgbhmaa
/- The walk of the reference's test on polynomials; no condition. -/
set_option linter.unusedVariables false
set_option linter.unusedSimpArgs false
namespace Go.Proofs.Ytgidpgfkbgbhmaa
open Go.RowKit Go.Proofs.YtgidpgfkbgbhmaaW.PrintWords
attribute [local go_sem] Later.cell Later.frozen Later.lt Later.lt_add Later.le Later.le_add Later.ne Later.ne' add_at
end Go.Proofs.Ytgidpgfkbgbhmaa
/- The walks of the laws' own functions on terms and polynomials; no condition. -/
set_option linter.unusedVariables false
set_option linter.unusedSimpArgs false
namespace Go.Proofs.Ytgidpgfkbgbhmaa
open Go.RowKit Go.Proofs.YtgidpgfkbgbhmaaW.PrintWords
attribute [local go_sem] Later.cell Later.frozen Later.lt Later.lt_add Later.le Later.le_add Later.ne Later.ne' add_at
end Go.Proofs.Ytgidpgfkbgbhmaa
/- The walks of the laws' own functions on lists of terms and on polynomials; no condition. -/
set_option linter.unusedVariables false
set_option linter.unusedSimpArgs false
namespace Go.Proofs.Ytgidpgfkbgbhmaa
open Go.RowKit Go.Proofs.YtgidpgfkbgbhmaaW.PrintWords
attribute [local go_sem] Later.cell Later.frozen Later.lt Later.lt_add Later.le Later.le_add Later.ne Later.ne' add_at
end Go.Proofs.Ytgidpgfkbgbhmaa
/- The walks of the laws' own functions on lists of terms and on polynomials; no condition. -/
set_option linter.unusedVariables false
set_option linter.unusedSimpArgs false
namespace Go.Proofs.Ytgidpgfkbgbhmaa
open Go.RowKit Go.Proofs.YtgidpgfkbgbhmaaW.PrintWords
attribute [local go_sem] Later.cell Later.frozen Later.lt Later.lt_add Later.le Later.le_add Later.ne Later.ne' add_at
theorem take_step {α : Type} {i : Nat} (ts : List α) (z : α) (hi : i < ts.length) : (ts.take i ++ List.replicate (ts.length - i) z).set i (ts.getD i z) = ts.take (i + 1) ++ List.replicate (ts.length - (i + 1)) z := by
  have e : ts.length - i = (ts.length - (i + 1)) + 1 := by omega
  rw [List.set_append_right _ _ (by simp; omega), e, List.replicate_succ]
  have h : i - (ts.take i).length = 0 := by simp; omega
  rw [h, List.set_cons_zero, List.take_succ_eq_append_getElem hi, List.append_assoc]
  simp [List.getD_eq_getElem?_getD, hi]
/-- A store below the base of a row of one's own turns nothing of it. -/
theorem R_old {α : Type} {d : Kd α} {e base : Nat} {w : World} {ok : Nat → Prop} {v : Value} {xs : List α} (h : d.R e w base ok v xs) {p : Addr} (hp : p.block < base) (u : Value) : d.R e (w.setCell p u) base ok v xs :=
  Kd.R_mono (Kd.R_far (p := p) (Kd.R_bound h) (fun k hk => by have := hk.2.1; omega) u) (fun _ hk => hk.1)
end Go.Proofs.Ytgidpgfkbgbhmaa
/- The walks of the degree and of DegreeOf, IsHomogeneous; no condition. -/
set_option linter.unusedVariables false
set_option linter.unusedSimpArgs false
namespace Go.Proofs.Ytgidpgfkbgbhmaa
open Go.RowKit Go.Proofs.YtgidpgfkbgbhmaaW.PrintWords
attribute [local go_sem] Later.cell Later.frozen Later.lt Later.lt_add Later.le Later.le_add Later.ne Later.ne' add_at
/-! ### IsHomogeneous -/
end Go.Proofs.Ytgidpgfkbgbhmaa
/- The walks of the functions on lists of numbers; no condition. -/
set_option linter.unusedVariables false
set_option linter.unusedSimpArgs false
namespace Go.Proofs.Ytgidpgfkbgbhmaa
open Go.RowKit Go.Proofs.YtgidpgfkbgbhmaaW.PrintWords
attribute [local go_sem] Later.cell Later.frozen Later.lt Later.lt_add Later.le Later.le_add Later.ne Later.ne' add_at
theorem below_hop {C B : Nat} {w0 V W : World} (h : Below C V W) (h1 : Below B w0 V) (h2 : B ≤ C) : Below B w0 W := h1.trans (h.mono h2)
abbrev kI : Kd Int := Kd.int .i64
theorem infoI : (Try.prog.info? 2).map (fun i => (i.zero, i.size, i.bytes)) = some (some (.int .i64 0), 1, 8) := by kernel_rfl
theorem kI_at {w : World} {A : Option Addr} {n : Nat} {xs : List Int} (h : kI.C w A n xs) (i : Nat) (hi : i < n) :
    ∃ b o, A = some ⟨b, o, none⟩ ∧ w.cell? ⟨b, o + i, none⟩ = some (.int .i64 (xs.getD i 0)) := by
  obtain ⟨b, o, c, hA, hK, hc⟩ := C_at h (by decide) i hi 0
  have hK' : c = [.int .i64 (xs.getD i 0)] := hK
  subst hK'
  refine ⟨b, o, hA, ?_⟩
  have := hc 0 _ rfl
  have e : o + i * kI.sz + 0 = o + i := by show o + i * 1 + 0 = _; omega
  rwa [e] at this
end Go.Proofs.Ytgidpgfkbgbhmaa
/- The walks of the value at a point; no condition. -/
set_option linter.unusedVariables false
set_option linter.unusedSimpArgs false
namespace Go.Proofs.Ytgidpgfkbgbhmaa
open Go.RowKit Go.Proofs.YtgidpgfkbgbhmaaW.PrintWords
attribute [local go_sem] Later.cell Later.frozen Later.lt Later.lt_add Later.le Later.le_add Later.ne Later.ne' add_at
def E3.at (e : E3) (k : Nat) : UInt8 := if k = 0 then e.a else if k = 1 then e.b else e.c
theorem lt3 {i : Nat} (h : i < 3) : i = 0 ∨ i = 1 ∨ i = 2 := by omega
theorem mod_bd {p : Int} (n : Int) (hp : 2 ≤ p) : 0 ≤ n % p ∧ n % p < p := ⟨Int.emod_nonneg _ (by omega), Int.emod_lt_of_pos _ (by omega)⟩
theorem i64_small {n : Int} (h1 : -9223372036854775808 ≤ n) (h2 : n ≤ 9223372036854775807) : IntKind.i64.wrap n = n := IntWalk.i64_in _ (by omega)
end Go.Proofs.Ytgidpgfkbgbhmaa
/- The walks of ValueAt of both sides; no condition. -/
set_option linter.unusedVariables false
set_option linter.unusedSimpArgs false
namespace Go.Proofs.Ytgidpgfkbgbhmaa
open Go.RowKit Go.Proofs.YtgidpgfkbgbhmaaW.PrintWords
attribute [local go_sem] Later.cell Later.frozen Later.lt Later.lt_add Later.le Later.le_add Later.ne Later.ne' add_at
end Go.Proofs.Ytgidpgfkbgbhmaa
/- The walks of the functions that read a list of exponents, and of coefficients; no condition. -/
set_option linter.unusedVariables false
set_option linter.unusedSimpArgs false
namespace Go.Proofs.Ytgidpgfkbgbhmaa
open Go.RowKit Go.Proofs.YtgidpgfkbgbhmaaW.PrintWords
attribute [local go_sem] Later.cell Later.frozen Later.lt Later.lt_add Later.le Later.le_add Later.ne Later.ne' add_at
def z3 : E3 := ⟨0, 0, 0⟩
end Go.Proofs.Ytgidpgfkbgbhmaa
/- The walks of the reference's list of exponents, and of coefficients of both sides; no condition. -/
set_option linter.unusedVariables false
set_option linter.unusedSimpArgs false
namespace Go.Proofs.Ytgidpgfkbgbhmaa
open Go.RowKit Go.Proofs.YtgidpgfkbgbhmaaW.PrintWords
attribute [local go_sem] Later.cell Later.frozen Later.lt Later.lt_add Later.le Later.le_add Later.ne Later.ne' add_at
/-- What a call that only computes and leaves the world as it was leaves. -/
def Same (v : Value) (w : World) (e : Ending) (w' : World) : Prop := e = .returned v ∧ w' = w
theorem Same.mk {v v' : Value} {w : World} (h : v = v') : Same v' w (.returned v) w := ⟨by rw [h], rfl⟩
theorem call_same {P : Program} {f : FuncId} {args : Array Value} {w : World} {v : Value} {R : Ending → World → Prop}
    (h : Calls P f args w (Same v w)) (k : R (.returned v) w) : Calls P f args w R :=
  h.mono fun _ w' ⟨he, hb⟩ => by subst he; subst hb; exact k
end Go.Proofs.Ytgidpgfkbgbhmaa
/- Equality of monomials, terms and matrices, as the walk meets it; no condition. -/
set_option linter.unusedVariables false
set_option linter.unusedSimpArgs false
namespace Go.Proofs.Ytgidpgfkbgbhmaa
open Go.RowKit Go.Proofs.YtgidpgfkbgbhmaaW.PrintWords
attribute [local go_sem] Later.cell Later.frozen Later.lt Later.lt_add Later.le Later.le_add Later.ne Later.ne' add_at
theorem guardE : Try.prog.eqGuardType Try.prog.depth 145 = false := by kernel_rfl
theorem run_eqE (t e : E3) (w : World) : (binOp .eql 145 (.agg #[.int .u8 (t.a.toNat : Int), .int .u8 (t.b.toNat : Int), .int .u8 (t.c.toNat : Int)]) (.agg #[.int .u8 (e.a.toNat : Int), .int .u8 (e.b.toNat : Int), .int .u8 (e.c.toNat : Int)])).run Try.prog w = .ok (.bool (t == e)) w := by
  have h := run_eql_bytes (P := Try.prog) w 145 5 3 Try.underlying145 Try.underlying5 Try.sizeOf5 [t.a, t.b, t.c] [e.a, e.b, e.c] rfl rfl
  have e0 : ([t.a, t.b, t.c] == [e.a, e.b, e.c]) = (t == e) := by
    obtain ⟨a, b, c⟩ := t
    obtain ⟨a', b', c'⟩ := e
    rw [Bool.eq_iff_iff]
    simp
  rw [e0] at h
  exact h
theorem run_neE (t e : E3) (w : World) : (binOp .neq 145 (.agg #[.int .u8 (t.a.toNat : Int), .int .u8 (t.b.toNat : Int), .int .u8 (t.c.toNat : Int)]) (.agg #[.int .u8 (e.a.toNat : Int), .int .u8 (e.b.toNat : Int), .int .u8 (e.c.toNat : Int)])).run Try.prog w = .ok (.bool (t != e)) w := by
  have h := run_equalIn_bytes (P := Try.prog) w 9998 145 5 3 Try.underlying145 Try.underlying5 Try.sizeOf5 [t.a, t.b, t.c] [e.a, e.b, e.c] rfl rfl
  have e0 : ([t.a, t.b, t.c] == [e.a, e.b, e.c]) = (t == e) := by
    obtain ⟨a, b, c⟩ := t
    obtain ⟨a', b', c'⟩ := e
    rw [Bool.eq_iff_iff]
    simp
  rw [e0] at h
  rw [run_neq_struct]
  have h' : (Op.equalIn 10000 145 (.agg #[.int .u8 (t.a.toNat : Int), .int .u8 (t.b.toNat : Int), .int .u8 (t.c.toNat : Int)]) (.agg #[.int .u8 (e.a.toNat : Int), .int .u8 (e.b.toNat : Int), .int .u8 (e.c.toNat : Int)])).run Try.prog w = .ok (t == e) w := h
  rw [h']
  rfl
end Go.Proofs.Ytgidpgfkbgbhmaa
/- The walks of coefficients of both sides; no condition. -/
set_option linter.unusedVariables false
set_option linter.unusedSimpArgs false
namespace Go.Proofs.Ytgidpgfkbgbhmaa
open Go.RowKit Go.Proofs.YtgidpgfkbgbhmaaW.PrintWords
attribute [local go_sem] Later.cell Later.frozen Later.lt Later.lt_add Later.le Later.le_add Later.ne Later.ne' add_at
attribute [local go_sem 2000] run_eqE run_neE guardE
end Go.Proofs.Ytgidpgfkbgbhmaa
/- The walks of the marks on rows of terms, and of the look at them; no condition. -/
set_option linter.unusedVariables false
set_option linter.unusedSimpArgs false
namespace Go.Proofs.Ytgidpgfkbgbhmaa
open Go.RowKit Go.Proofs.YtgidpgfkbgbhmaaW.PrintWords
attribute [local go_sem] Later.cell Later.frozen Later.lt Later.lt_add Later.le Later.le_add Later.ne Later.ne' add_at
/-- The byte that a number leaves. -/
def uB (k : Int) : UInt8 := UInt8.ofNat (k % 256).toNat
theorem uB_nat (k : Int) : ((uB k).toNat : Int) = k % 256 := by
  unfold uB
  rw [UInt8.toNat_ofNat']
  have h1 := Int.emod_nonneg k (show (256 : Int) ≠ 0 by omega)
  have h2 := Int.emod_lt_of_pos k (show (0 : Int) < 256 by omega)
  omega
end Go.Proofs.Ytgidpgfkbgbhmaa
/- The walks of parts of polynomials; no condition. -/
set_option linter.unusedVariables false
set_option linter.unusedSimpArgs false
namespace Go.Proofs.Ytgidpgfkbgbhmaa
open Go.RowKit Go.Proofs.YtgidpgfkbgbhmaaW.PrintWords
attribute [local go_sem] Later.cell Later.frozen Later.lt Later.lt_add Later.le Later.le_add Later.ne Later.ne' add_at
theorem R_zero {α : Type} (d : Kd α) {e g base : Nat} {W : World} (hg : W.heap[g]? = some (.cells #[] e (0, 0))) (hb : base ≤ g) : d.R e W base (fun _ => True) (.slice (some ⟨g, 0, none⟩) 0 0) [] :=
  ⟨fun _ _ => trivial, [], ⟨by simp, .inr ⟨g, 0, #[], rfl, hb, hg, Nat.le_refl _, Nat.zero_le _, by simp, by simp⟩⟩, Reps.none _ _⟩
theorem heap_alloc_last (W : World) (O : Obj) : (W.alloc O).heap[W.heap.size]? = some O := by
  show (W.heap.push O)[W.heap.size]? = some O
  simp
theorem far_cell {w w' : World} {row : Option Nat} (hg : w.grownBy w' row) {a : Addr} {v : Value} (h : w.cell? a = some v) (hne : some a.block ≠ row) : w'.cell? a = some v :=
  (World.cell?_of_block (hg.block a.block (World.block_lt_of_cell? _ _ h) hne)).trans h
theorem far_frozen {w w' : World} {row : Option Nat} (hg : w.grownBy w' row) {a : Addr} {b : Bool} (h : w.frozen? a = b) (hlt : a.block < w.heap.size) (hne : some a.block ≠ row) : w'.frozen? a = b :=
  (World.frozen?_of_block (hg.block a.block hlt hne)).trans h
end Go.Proofs.Ytgidpgfkbgbhmaa

/- Walks of the functions on polynomials, numbers and rows, of both sides; no condition. -/
import Derived.Test.YtneknpamceipiaaYWWords
import Derived.Lib.Hide
import Derived.Test.YtneknpamceipiaaProg
import Derived.LoopN
import Derived.Deep.LoopGhost
import Derived.Stop.BytesEq
import Derived.Deep.RegionLaw
/- Words of this session for all walks of the seat Ytneknpamceipiaa: worlds that have grown, kinds of rows without memory inside; no condition. -/
set_option linter.unusedVariables false
namespace Go.Proofs.Ytneknpamceipiaa
open Go.RowKit Go.Proofs.YtneknpamceipiaaW.PrintWords
/-! ### worlds that have grown -/
/-- A world that has grown out of w: nothing of w's heap has turned. -/
structure Later (w : World) where
  W : World
  ok : Below w.heap.size w W
instance Later.some_ (w : World) : Nonempty (Later w) := ⟨⟨w, Below.refl _ _⟩⟩
theorem Later.cell (w : World) (x : Later w) (a : Addr) (h : a.block < w.heap.size) : x.W.cell? a = w.cell? a := x.ok.cell h
theorem Later.frozen (w : World) (x : Later w) (a : Addr) (h : a.block < w.heap.size) : x.W.frozen? a = w.frozen? a := x.ok.frozen h
theorem Later.size (w : World) (x : Later w) : w.heap.size ≤ x.W.heap.size := x.ok.size
theorem Later.lt (w : World) (x : Later w) (n : Nat) (h : n < w.heap.size) : (n < x.W.heap.size) = True := eq_true (Nat.lt_of_lt_of_le h x.ok.size)
theorem Later.lt_add (w : World) (x : Later w) (n k : Nat) (h : n < w.heap.size + k) : (n < x.W.heap.size + k) = True := eq_true (Nat.lt_of_lt_of_le h (Nat.add_le_add_right x.ok.size k))
theorem Later.le (w : World) (x : Later w) (n : Nat) (h : n ≤ w.heap.size) : (n ≤ x.W.heap.size) = True := eq_true (Nat.le_trans h x.ok.size)
theorem Later.le_add (w : World) (x : Later w) (n k : Nat) (h : n ≤ w.heap.size + k) : (n ≤ x.W.heap.size + k) = True := eq_true (Nat.le_trans h (Nat.add_le_add_right x.ok.size k))
theorem Later.ne (w : World) (x : Later w) (n : Nat) (h : n < w.heap.size) : (n = x.W.heap.size) = False := eq_false (by have := x.ok.size; omega)
theorem Later.ne' (w : World) (x : Later w) (n : Nat) (h : n < w.heap.size) : (x.W.heap.size = n) = False := eq_false (by have := x.ok.size; omega)
theorem Later.keep {w : World} (x : Later w) {a : Addr} {v : Value} (h : w.cell? a = some v) : x.W.cell? a = some v := (x.ok.cell (World.block_lt_of_cell? w a h)).trans h
theorem cell_alloc {w : World} {a : Addr} {v : Value} (h : w.cell? a = some v) (O : Obj) : (w.alloc O).cell? a = some v := by
  have hb := World.block_lt_of_cell? w a h
  exact (World.cell?_of_block (w := w) (Below.heap_alloc w O a.block hb)).trans h
/-- What a call that only computes leaves: its value, and a world that has grown. -/
def Gives (v : Value) (w : World) (e : Ending) (w' : World) : Prop := e = .returned v ∧ Below w.heap.size w w'
theorem Gives.mk {v v' : Value} {w w' : World} (h : v = v') (hb : Below w.heap.size w w') : Gives v' w (.returned v) w' := ⟨by rw [h], hb⟩
theorem wp_region_later {P : Program} {id : Nat} {Q : Exit → Act → World → Prop} {a : Act} {w : World} {l : List Oper} (hm : P.follows .mixedOrders = true) (hB : Region.lexB .any l.toArray = true)
    (h : wpQuiet P l.toArray (fun w' => ∃ x : Later w, w' = x.W) (fun a' => ∀ x : Later w, Q .normal a' x.W) l a) : (Code.region id l.toArray true).wp P Q a w := by
  refine wp_region_quiet (C := fun w' => ∃ x : Later w, w' = x.W) hm hB ⟨⟨w.drew, (Below.refl _ _).drew⟩, rfl⟩ ?_
  have h2 : (fun a' => ∀ w', (∃ x : Later w, w' = x.W) → Q .normal a' w') = fun a' => ∀ x : Later w, Q .normal a' x.W := by
    funext a'
    exact propext ⟨fun H x => H _ ⟨x, rfl⟩, fun H w' ⟨x, hx⟩ => hx ▸ H x⟩
  rw [h2]
  simpa using h
/-- The same where the world is one that has grown out of w: it goes on being measured by w. -/
theorem wp_region_later2 {P : Program} {id : Nat} {Q : Exit → Act → World → Prop} {a : Act} {w : World} {y : Later w} {l : List Oper} (hm : P.follows .mixedOrders = true) (hB : Region.lexB .any l.toArray = true)
    (h : wpQuiet P l.toArray (fun w' => ∃ x : Later w, w' = x.W) (fun a' => ∀ x : Later w, Q .normal a' x.W) l a) : (Code.region id l.toArray true).wp P Q a y.W := by
  refine wp_region_quiet (C := fun w' => ∃ x : Later w, w' = x.W) hm hB ⟨⟨y.W.drew, y.ok.drew⟩, rfl⟩ ?_
  have h2 : (fun a' => ∀ w', (∃ x : Later w, w' = x.W) → Q .normal a' w') = fun a' => ∀ x : Later w, Q .normal a' x.W := by
    funext a'
    exact propext ⟨fun H x => H _ ⟨x, rfl⟩, fun H w' ⟨x, hx⟩ => hx ▸ H x⟩
  rw [h2]
  simpa using h
/-- A call inside a region that draws. -/
theorem quiet_later {P : Program} {f : FuncId} {args : Array Value} {w : World} {x : Later w} {v : Value}
    (h : Calls P f args x.W (Gives v x.W)) : Calls P f args x.W fun e w'' => e = .returned v ∧ ∃ y : Later w, w'' = y.W :=
  h.mono fun _ w' ⟨he, hb⟩ => ⟨he, ⟨w', x.ok.trans (hb.mono x.ok.size)⟩, rfl⟩
/-- A call elsewhere. -/
theorem call_later {P : Program} {f : FuncId} {args : Array Value} {w : World} {v : Value} {R : Ending → World → Prop}
    (h : Calls P f args w (Gives v w)) (k : ∀ x : Later w, R (.returned v) x.W) : Calls P f args w R :=
  h.mono fun _ w' ⟨he, hb⟩ => by subst he; exact k ⟨w', hb⟩
/-- The same where the world is one that has grown out of w. -/
theorem call_later2 {P : Program} {f : FuncId} {args : Array Value} {w : World} {y : Later w} {v : Value} {R : Ending → World → Prop}
    (h : Calls P f args y.W (Gives v y.W)) (k : ∀ x : Later w, R (.returned v) x.W) : Calls P f args y.W R :=
  h.mono fun _ w' ⟨he, hb⟩ => by subst he; exact k ⟨w', y.ok.trans (hb.mono y.ok.size)⟩
theorem bel_later {B : Nat} {w0 W : World} (x : Later W) (h : Below B w0 W) (hB : B ≤ W.heap.size) : Below B w0 x.W := h.trans (x.ok.mono hB)
theorem add_at (b o n : Nat) : (⟨b, o, none⟩ : Addr).add n = ⟨b, o + n, none⟩ := by
  unfold Addr.add
  split
  · subst_vars
    rfl
  · rfl
/-! ### kinds without memory inside -/
def flat {α : Type} (sz : Nat) (enc : α → List Value) (hl : ∀ x, (enc x).length = sz) (h1 : ∀ x, ∀ u ∈ enc x, u.oneCell' = true) : Kd α where
  sz := sz
  E := []
  K := fun _ x cs => cs = enc x
  M := fun _ _ _ x cs => cs = enc x
  K_len := fun h => by rw [h]; exact hl _
  K_one := fun h => by rw [h]; exact h1 _
  K_below := fun _ h => h
  K_of_M := fun h => h
  M_mono := fun _ h => h
  M_bound := fun h => h
  M_move := fun _ h => h
  M_lower := fun _ h => h
/-- A monomial. -/
structure E3 where
  a : UInt8
  b : UInt8
  c : UInt8
  deriving DecidableEq
/-- A term. -/
structure T4 where
  e : E3
  v : Int
  deriving DecidableEq
def E3.cs (e : E3) : List Value := [.int .u8 (e.a.toNat : Int), .int .u8 (e.b.toNat : Int), .int .u8 (e.c.toNat : Int)]
def T4.cs (t : T4) : List Value := [.int .u8 (t.e.a.toNat : Int), .int .u8 (t.e.b.toNat : Int), .int .u8 (t.e.c.toNat : Int), .int .i64 t.v]
def kT : Kd T4 := flat 4 T4.cs (fun _ => rfl) (fun x u hu => by simp [T4.cs] at hu; rcases hu with rfl | rfl | rfl | rfl <;> rfl)
/-- What a call that makes a row leaves. -/
def Makes {α : Type} (d : Kd α) (E : Nat) (xs : List α) (w : World) (e : Ending) (w' : World) : Prop := ∃ v, e = .returned v ∧ d.R E w' w.heap.size (fun _ => True) v xs ∧ Below w.heap.size w w'
/-- What a call that makes a polynomial leaves. -/
def MakesP (p d : Int) (E : Nat) (xs : List T4) (w : World) (e : Ending) (w' : World) : Prop :=
  ∃ A c, e = .returned (.agg #[.int .i64 p, .int .i64 d, .slice A xs.length c]) ∧ kT.R E w' w.heap.size (fun _ => True) (.slice A xs.length c) xs ∧ Below w.heap.size w w'
def z4 : T4 := ⟨⟨0, 0, 0⟩, 0⟩
theorem call_makes {α : Type} {d : Kd α} {E : Nat} {xs : List α} {P : Program} {f : FuncId} {args : Array Value} {w : World} {R : Ending → World → Prop}
    (h : Calls P f args w (Makes d E xs w)) (k : ∀ (x : Later w) A c, Below w.heap.size w x.W → xs.length ≤ c → d.R E x.W w.heap.size (fun _ => True) (.slice A xs.length c) xs → d.C x.W A xs.length xs → R (.returned (.slice A xs.length c)) x.W) : Calls P f args w R :=
  h.mono fun _ w' ⟨v, he, hr, hb⟩ => by
    subst he
    obtain ⟨A, c, rfl, hl, hC⟩ := Kd.R_reads hr
    exact k ⟨w', hb⟩ A c hb hl hr hC
theorem call_makesP {p d : Int} {E : Nat} {xs : List T4} {P : Program} {f : FuncId} {args : Array Value} {w : World} {R : Ending → World → Prop}
    (h : Calls P f args w (MakesP p d E xs w)) (k : ∀ (x : Later w) A c, Below w.heap.size w x.W → xs.length ≤ c → kT.R E x.W w.heap.size (fun _ => True) (.slice A xs.length c) xs → kT.C x.W A xs.length xs → R (.returned (.agg #[.int .i64 p, .int .i64 d, .slice A xs.length c])) x.W) : Calls P f args w R :=
  h.mono fun _ w' ⟨A, c, he, hr, hb⟩ => by
    subst he
    obtain ⟨_, hl, hC⟩ := Kd.R_reads' hr
    exact k ⟨w', hb⟩ A c hb hl hr hC
/-- A call that only computes, in a world that has grown out of w: what has grown since is told besides. -/
theorem call_later3 {P : Program} {f : FuncId} {args : Array Value} {w : World} {y : Later w} {v : Value} {R : Ending → World → Prop}
    (h : Calls P f args y.W (Gives v y.W)) (k : ∀ x : Later w, Below y.W.heap.size y.W x.W → R (.returned v) x.W) : Calls P f args y.W R :=
  h.mono fun _ w' ⟨he, hb⟩ => by subst he; exact k ⟨w', y.ok.trans (hb.mono y.ok.size)⟩ hb
theorem call_later4 {P : Program} {f : FuncId} {args : Array Value} {w : World} {v : Value} {R : Ending → World → Prop}
    (h : Calls P f args w (Gives v w)) (k : ∀ x : Later w, Below w.heap.size w x.W → R (.returned v) x.W) : Calls P f args w R :=
  h.mono fun _ w' ⟨he, hb⟩ => by subst he; exact k ⟨w', hb⟩ hb
/-- An element of a row that is read: the row's address is plain. -/
theorem C_at {α : Type} {d : Kd α} {w : World} {A : Option Addr} {n : Nat} {xs : List α} (h : d.C w A n xs) (hs : 0 < d.sz) (i : Nat) (hi : i < n) (z : α) :
    ∃ b o c, A = some ⟨b, o, none⟩ ∧ d.K w (xs.getD i z) c ∧ ∀ j u, c[j]? = some u → w.cell? ⟨b, o + i * d.sz + j, none⟩ = some u := by
  obtain ⟨ad, c, hA, _, hK, hc⟩ := Kd.C_get h z i (by omega) (by omega)
  obtain ⟨ad0, c0, hA0, hl0, hK0, hc0⟩ := Kd.C_get h z 0 (by omega) (by omega)
  have e : ad = ad0 := Option.some.inj (hA.symm.trans hA0)
  have h0 : 0 < c0.length := by rw [hl0]; exact hs
  have hsp := World.cell?_spot (hc0 0 _ (List.getElem?_eq_getElem h0))
  rw [← e] at hsp
  obtain ⟨b, o, s⟩ := ad
  have hs' : s = none := by simpa [Addr.add] using hsp
  subst hs'
  rw [Int.toNat_natCast] at hc hK
  simp only [add_at] at hc
  exact ⟨b, o, c, hA, hK, fun j u hu => by rw [Nat.add_assoc]; exact hc j u hu⟩
/-- An element of a row of terms. -/
theorem kT_at {w : World} {A : Option Addr} {n : Nat} {ts : List T4} (h : kT.C w A n ts) (i : Nat) (hi : i < n) (z : T4) :
    ∃ b o, A = some ⟨b, o, none⟩ ∧ w.cell? ⟨b, o + i * 4, none⟩ = some (.int .u8 ((ts.getD i z).e.a.toNat : Int)) ∧ w.cell? ⟨b, o + i * 4 + 1, none⟩ = some (.int .u8 ((ts.getD i z).e.b.toNat : Int)) ∧
      w.cell? ⟨b, o + i * 4 + 2, none⟩ = some (.int .u8 ((ts.getD i z).e.c.toNat : Int)) ∧ w.cell? ⟨b, o + i * 4 + 3, none⟩ = some (.int .i64 (ts.getD i z).v) := by
  obtain ⟨b, o, c, hA, hK, hc⟩ := C_at h (by decide) i hi z
  have hK' : c = T4.cs (ts.getD i z) := hK
  subst hK'
  exact ⟨b, o, hA, hc 0 _ rfl, hc 1 _ rfl, hc 2 _ rfl, hc 3 _ rfl⟩
end Go.Proofs.Ytneknpamceipiaa
/- The walks of the small functions on numbers, monomials and polynomials; no condition. -/
set_option linter.unusedVariables false
namespace Go.Proofs.Ytneknpamceipiaa
open Go.RowKit Go.Proofs.YtneknpamceipiaaW.PrintWords
attribute [local go_sem] Later.cell Later.frozen Later.lt Later.lt_add Later.le Later.le_add Later.ne Later.ne' add_at
def primeB (p : Int) : Bool := p == 2 || p == 3 || p == 5 || p == 7 || p == 11 || p == 13
def inB (n lo hi : Int) : Bool := decide (lo ≤ n) && decide (n ≤ hi)
theorem isPrime_c (p : Int) (w : World) : Calls Try.prog 45 #[.int .i64 p] w (Gives (.bool (primeB p)) w) := by
  by_cases h2 : p = 2
  · subst h2
    go_enter Try.func45, Try.ntmps45
    go_wp2
    go_ret
    exact .mk rfl (Below.refl _ _)
  by_cases h3 : p = 3
  · subst h3
    go_enter Try.func45, Try.ntmps45
    go_wp2
    go_ret
    exact .mk rfl (Below.refl _ _)
  by_cases h5 : p = 5
  · subst h5
    go_enter Try.func45, Try.ntmps45
    go_wp2
    go_ret
    exact .mk rfl (Below.refl _ _)
  by_cases h7 : p = 7
  · subst h7
    go_enter Try.func45, Try.ntmps45
    go_wp2
    go_ret
    exact .mk rfl (Below.refl _ _)
  by_cases h11 : p = 11
  · subst h11
    go_enter Try.func45, Try.ntmps45
    go_wp2
    go_ret
    exact .mk rfl (Below.refl _ _)
  by_cases h13 : p = 13
  · subst h13
    go_enter Try.func45, Try.ntmps45
    go_wp2
    go_ret
    exact .mk rfl (Below.refl _ _)
  go_enter Try.func45, Try.ntmps45
  go_wp2
  go_ret
  exact .mk (by simp [primeB, *]) (Below.refl _ _)
theorem l01Prime_c (p : Int) (w : World) : Calls Try.prog 41 #[.int .i64 p] w (Gives (.bool (primeB p)) w) := by
  by_cases h2 : p = 2
  · subst h2
    go_enter Try.func41, Try.ntmps41
    go_wp2
    go_ret
    exact .mk rfl (Below.refl _ _)
  by_cases h3 : p = 3
  · subst h3
    go_enter Try.func41, Try.ntmps41
    go_wp2
    go_ret
    exact .mk rfl (Below.refl _ _)
  by_cases h5 : p = 5
  · subst h5
    go_enter Try.func41, Try.ntmps41
    go_wp2
    go_ret
    exact .mk rfl (Below.refl _ _)
  by_cases h7 : p = 7
  · subst h7
    go_enter Try.func41, Try.ntmps41
    go_wp2
    go_ret
    exact .mk rfl (Below.refl _ _)
  by_cases h11 : p = 11
  · subst h11
    go_enter Try.func41, Try.ntmps41
    go_wp2
    go_ret
    exact .mk rfl (Below.refl _ _)
  by_cases h13 : p = 13
  · subst h13
    go_enter Try.func41, Try.ntmps41
    go_wp2
    go_ret
    exact .mk rfl (Below.refl _ _)
  go_enter Try.func41, Try.ntmps41
  go_wp2
  go_ret
  exact .mk (by simp [primeB, *]) (Below.refl _ _)
theorem isVars_c (d : Int) (w : World) : Calls Try.prog 102 #[.int .i64 d] w (Gives (.bool (inB d 1 3)) w) := by
  by_cases h : 1 ≤ d
  · have hd : decide (1 ≤ d) = true := decide_eq_true h
    go_enter Try.func102, Try.ntmps102
    go_wp2
    go_ret
    exact .mk (by simp [inB, *]) (Below.refl _ _)
  · have hd : decide (1 ≤ d) = false := decide_eq_false h
    go_enter Try.func102, Try.ntmps102
    go_wp2
    go_ret
    exact .mk (by simp [inB, *]) (Below.refl _ _)
theorem l01In_c (n lo hi : Int) (w : World) : Calls Try.prog 42 #[.int .i64 n, .int .i64 lo, .int .i64 hi] w (Gives (.bool (inB n lo hi)) w) := by
  by_cases h : lo ≤ n
  · have hd : decide (lo ≤ n) = true := decide_eq_true h
    go_enter Try.func42, Try.ntmps42
    go_wp2
    go_ret
    exact .mk (by simp [inB, *]) (Below.refl _ _)
  · have hd : decide (lo ≤ n) = false := decide_eq_false h
    go_enter Try.func42, Try.ntmps42
    go_wp2
    go_ret
    exact .mk (by simp [inB, *]) (Below.refl _ _)
def degE (e : E3) : Int := (e.a.toNat : Int) + e.b.toNat + e.c.toNat
theorem degE_bd (e : E3) : 0 ≤ degE e ∧ degE e < 768 := by
  have ha := e.a.toNat_lt
  have hb := e.b.toNat_lt
  have hc := e.c.toNat_lt
  unfold degE
  omega
def cmpE (e f : E3) : Int := if degE e - degE f ≠ 0 then degE e - degE f else if (e.a.toNat : Int) ≠ f.a.toNat then (f.a.toNat : Int) - e.a.toNat else (f.b.toNat : Int) - e.b.toNat
def befE (e f : E3) : Bool := if degE e ≠ degE f then decide (degE e < degE f) else if (e.a.toNat : Int) ≠ f.a.toNat then decide ((f.a.toNat : Int) < e.a.toNat) else decide ((f.b.toNat : Int) < e.b.toNat)
theorem degree_c (e : E3) (w : World) :
    Calls Try.prog 103 #[.agg #[.int .u8 (e.a.toNat : Int), .int .u8 (e.b.toNat : Int), .int .u8 (e.c.toNat : Int)]] w (Gives (.int .i64 (degE e)) w) := by
  have ha := e.a.toNat_lt
  have hb := e.b.toNat_lt
  have hc := e.c.toNat_lt
  go_enter Try.func103, Try.ntmps103
  go_wp2
  go_ret
  exact .mk rfl ((Below.refl _ _).alloc (Nat.le_refl _) _)
theorem l01Sum_c (e : E3) (w : World) :
    Calls Try.prog 142 #[.agg #[.int .u8 (e.a.toNat : Int), .int .u8 (e.b.toNat : Int), .int .u8 (e.c.toNat : Int)]] w (Gives (.int .i64 (degE e)) w) := by
  have ha := e.a.toNat_lt
  have hb := e.b.toNat_lt
  have hc := e.c.toNat_lt
  go_enter Try.func142, Try.ntmps142
  go_wp2
  go_ret
  exact .mk rfl ((Below.refl _ _).alloc (Nat.le_refl _) _)
set_option maxRecDepth 100000 in
theorem compareExps_c (e f : E3) (w : World) :
    Calls Try.prog 104 #[.agg #[.int .u8 (e.a.toNat : Int), .int .u8 (e.b.toNat : Int), .int .u8 (e.c.toNat : Int)], .agg #[.int .u8 (f.a.toNat : Int), .int .u8 (f.b.toNat : Int), .int .u8 (f.c.toNat : Int)]] w (Gives (.int .i64 (cmpE e f)) w) := by
  have ha := e.a.toNat_lt
  have hb := e.b.toNat_lt
  have ha' := f.a.toNat_lt
  have hb' := f.b.toNat_lt
  obtain ⟨d1, d2⟩ := degE_bd e
  obtain ⟨d3, d4⟩ := degE_bd f
  go_enter Try.func104, Try.ntmps104
  go_wp2
  (first | refine wp_region_later2 (by kernel_rfl) (by kernel_rfl) ?_ | refine wp_region_later (by kernel_rfl) (by kernel_rfl) ?_); (repeat (go_big_quiet_step ((go_at_call 103; with_reducible exact quiet_later (degree_c _ _))))); refine wpQuiet_nil ?_; intro x
  go_wp2
  all_goals go_ret
  all_goals refine .mk ?_ (bel_later x (((Below.refl _ _).alloc (Nat.le_refl _) _).alloc (by simp) _) (by simp; omega))
  all_goals simp_all [cmpE]
set_option maxRecDepth 100000 in
theorem l01Before_c (e f : E3) (w : World) :
    Calls Try.prog 95 #[.agg #[.int .u8 (e.a.toNat : Int), .int .u8 (e.b.toNat : Int), .int .u8 (e.c.toNat : Int)], .agg #[.int .u8 (f.a.toNat : Int), .int .u8 (f.b.toNat : Int), .int .u8 (f.c.toNat : Int)]] w (Gives (.bool (befE e f)) w) := by
  have ha := e.a.toNat_lt
  have hb := e.b.toNat_lt
  have ha' := f.a.toNat_lt
  have hb' := f.b.toNat_lt
  obtain ⟨d1, d2⟩ := degE_bd e
  obtain ⟨d3, d4⟩ := degE_bd f
  go_enter Try.func95, Try.ntmps95
  go_wp2
  (first | refine wp_region_later2 (by kernel_rfl) (by kernel_rfl) ?_ | refine wp_region_later (by kernel_rfl) (by kernel_rfl) ?_); (repeat (go_big_quiet_step ((go_at_call 142; with_reducible exact quiet_later (l01Sum_c _ _))))); refine wpQuiet_nil ?_; intro x
  go_wp2
  · (first | refine wp_region_later2 (by kernel_rfl) (by kernel_rfl) ?_ | refine wp_region_later (by kernel_rfl) (by kernel_rfl) ?_); (repeat (go_big_quiet_step ((go_at_call 142; with_reducible exact quiet_later (l01Sum_c _ _))))); refine wpQuiet_nil ?_; intro y
    go_wp2
    go_ret
    refine .mk ?_ (bel_later y (((Below.refl _ _).alloc (Nat.le_refl _) _).alloc (by simp) _) (by simp; omega))
    simp_all [befE]
  all_goals go_ret
  all_goals refine .mk ?_ (bel_later x (((Below.refl _ _).alloc (Nat.le_refl _) _).alloc (by simp) _) (by simp; omega))
  all_goals simp_all [befE]
end Go.Proofs.Ytneknpamceipiaa
/- The walks of the tests on monomials; no condition. -/
set_option linter.unusedVariables false
namespace Go.Proofs.Ytneknpamceipiaa
open Go.RowKit Go.Proofs.YtneknpamceipiaaW.PrintWords
attribute [local go_sem] Later.cell Later.frozen Later.lt Later.lt_add Later.le Later.le_add Later.ne Later.ne' add_at
def zerosB (d : Int) (e : E3) : Bool := (decide (2 ≤ d) || e.b == 0) && (decide (3 ≤ d) || e.c == 0)
def expsB (d : Int) (e : E3) : Bool := zerosB d e && decide (degE e ≤ 12)
theorem u8_zero (x : UInt8) : ((x.toNat : Int) != 0) = !(x == 0) := by
  rw [Bool.eq_iff_iff]
  simp [bne_iff_ne, ← UInt8.toNat_inj]
set_option maxRecDepth 100000 in
theorem l01Exps_c (d : Int) (e : E3) (h1 : 1 ≤ d) (h3 : d ≤ 3) (w : World) :
    Calls Try.prog 94 #[.int .i64 d, .agg #[.int .u8 (e.a.toNat : Int), .int .u8 (e.b.toNat : Int), .int .u8 (e.c.toNat : Int)]] w (Gives (.bool (expsB d e)) w) := by
  have ha := e.a.toNat_lt
  have hb := e.b.toNat_lt
  have hc := e.c.toNat_lt
  obtain ⟨d1, d2⟩ := degE_bd e
  have hd : d = 1 ∨ d = 2 ∨ d = 3 := by omega
  have ub := u8_zero e.b
  have uc := u8_zero e.c
  rcases hd with rfl | rfl | rfl
  all_goals
    go_enter Try.func94, Try.ntmps94
    go_wp2
    refine wp_loop_rounds 3 ?_
    rw [rounds_succ]
    go_wp2_with ((go_at_call 142; (first | (with_reducible refine call_later2 (l01Sum_c _ _) ?_) | (with_reducible refine call_later (l01Sum_c _ _) ?_)); intro x))
    all_goals try (rw [rounds_succ]; go_wp2_with ((go_at_call 142; (first | (with_reducible refine call_later2 (l01Sum_c _ _) ?_) | (with_reducible refine call_later (l01Sum_c _ _) ?_)); intro x)))
    all_goals try (rw [rounds_succ]; go_wp2_with ((go_at_call 142; (first | (with_reducible refine call_later2 (l01Sum_c _ _) ?_) | (with_reducible refine call_later (l01Sum_c _ _) ?_)); intro x)))
    all_goals go_ret
    all_goals first | refine .mk ?_ ((Below.refl _ _).alloc (Nat.le_refl _) _) | refine .mk ?_ (bel_later x ((Below.refl _ _).alloc (Nat.le_refl _) _) (by simp))
    all_goals simp_all [expsB, zerosB]
end Go.Proofs.Ytneknpamceipiaa
/- The walk of IsPoly of the program; no condition. -/
set_option linter.unusedVariables false
set_option linter.unusedSimpArgs false
namespace Go.Proofs.Ytneknpamceipiaa
open Go.RowKit Go.Proofs.YtneknpamceipiaaW.PrintWords
attribute [local go_sem] Later.cell Later.frozen Later.lt Later.lt_add Later.le Later.le_add Later.ne Later.ne' add_at
/-- Term i of a list of terms is fit, behind term i - 1. -/
def okB (p d : Int) (ts : List T4) (i : Nat) : Bool :=
  decide (degE (ts.getD i z4).e ≤ 12) && decide (1 ≤ (ts.getD i z4).v) && decide ((ts.getD i z4).v < p) && (i == 0 || decide (cmpE (ts.getD (i - 1) z4).e (ts.getD i z4).e < 0)) && zerosB d (ts.getD i z4).e
def polyB (p d : Int) (ts : List T4) : Bool := primeB p && inB d 1 3 && (List.range ts.length).all (okB p d ts)
theorem cmpE_bd (e f : E3) : -768 < cmpE e f ∧ cmpE e f < 768 := by
  have a1 := e.a.toNat_lt
  have b1 := e.b.toNat_lt
  have a2 := f.a.toNat_lt
  have b2 := f.b.toNat_lt
  have d1 := degE_bd e
  have d2 := degE_bd f
  unfold cmpE
  split
  · omega
  · split <;> omega
theorem all_not {n i : Nat} {f : Nat → Bool} (hi : i < n) (h : f i = false) : (List.range n).all f = false := by
  rw [List.all_eq_false]
  exact ⟨i, List.mem_range.2 hi, by simp [h]⟩
theorem all_step {i : Nat} {f : Nat → Bool} (h : ∀ j, j < i → f j = true) (h1 : f i = true) : ∀ j, j < i + 1 → f j = true := by
  intro j hj
  rcases Nat.lt_succ_iff_lt_or_eq.1 hj with g | g
  · exact h j g
  · rw [g]
    exact h1
theorem all_yes {n : Nat} {f : Nat → Bool} (h : ∀ j, j < n → f j = true) : (List.range n).all f = true := by
  rw [List.all_eq_true]
  exact fun j hj => h j (List.mem_range.1 hj)
theorem zeros_b {e : E3} (h : ((e.b.toNat : Int) != 0) = true) : zerosB 1 e = false := by
  rw [u8_zero] at h
  simp [zerosB] at h ⊢
  exact fun g => absurd g h
theorem zeros_c1 {e : E3} (h : ((e.c.toNat : Int) != 0) = true) : zerosB 1 e = false := by
  rw [u8_zero] at h
  simp [zerosB] at h ⊢
  exact fun _ => h
theorem zeros_c2 {e : E3} (h : ((e.c.toNat : Int) != 0) = true) : zerosB 2 e = false := by
  rw [u8_zero] at h
  simp [zerosB] at h ⊢
  exact h
theorem zeros_y1 {e : E3} (h : ((e.b.toNat : Int) != 0) = false) (g : ((e.c.toNat : Int) != 0) = false) : zerosB 1 e = true := by
  rw [u8_zero] at h g
  simp [zerosB] at h g ⊢
  exact ⟨h, g⟩
theorem zeros_y2 {e : E3} (g : ((e.c.toNat : Int) != 0) = false) : zerosB 2 e = true := by
  rw [u8_zero] at g
  simp [zerosB] at g ⊢
  exact g
theorem zeros_y3 (e : E3) : zerosB 3 e = true := by simp [zerosB]
set_option maxRecDepth 100000 in
set_option maxHeartbeats 1000000 in
theorem IsPoly_c (p d : Int) (A : Option Addr) (c : Nat) (ts : List T4) (w : World) (hC : kT.C w A ts.length ts) (hn : ts.length ≤ 9223372036854775807) :
    Calls Try.prog 59 #[.agg #[.int .i64 p, .int .i64 d, .slice A ts.length c]] w (Gives (.bool (polyB p d ts)) w) := by
  cases hp : primeB p with
  | false =>
    have hr : polyB p d ts = false := by simp [polyB, hp]
    have HR := Lib.hid hr
    clear hr
    go_enter Try.func59, Try.ntmps59
    go_wp2_with ((go_at_call 45; (first | (with_reducible refine call_later2 (isPrime_c _ _) ?_) | (with_reducible refine call_later (isPrime_c _ _) ?_)); intro x))
    go_ret
    exact .mk (by rw [HR.out]; rfl) (bel_later x ((Below.refl _ _).alloc (Nat.le_refl _) _) (by simp))
  | true =>
    cases hv : inB d 1 3 with
    | false =>
      have hr : polyB p d ts = false := by simp [polyB, hp, hv]
      have HR := Lib.hid hr
      clear hr
      go_enter Try.func59, Try.ntmps59
      go_wp2_with (first | (go_at_call 45; (first | (with_reducible refine call_later2 (isPrime_c _ _) ?_) | (with_reducible refine call_later (isPrime_c _ _) ?_)); intro x) | (go_at_call 102; (first | (with_reducible refine call_later2 (isVars_c _ _) ?_) | (with_reducible refine call_later (isVars_c _ _) ?_)); intro x2))
      go_ret
      exact .mk (by rw [HR.out]; rfl) (bel_later x2 ((Below.refl _ _).alloc (Nat.le_refl _) _) (by simp))
    | true =>
      have hr : polyB p d ts = (List.range ts.length).all (okB p d ts) := by simp [polyB, hp, hv]
      have HR := Lib.hid hr
      clear hr
      have hd : d = 1 ∨ d = 2 ∨ d = 3 := by simp [inB] at hv; omega
      go_enter Try.func59, Try.ntmps59
      go_wp2_with (first | (go_at_call 45; (first | (with_reducible refine call_later2 (isPrime_c _ _) ?_) | (with_reducible refine call_later (isPrime_c _ _) ?_)); intro x) | (go_at_call 102; (first | (with_reducible refine call_later2 (isVars_c _ _) ?_) | (with_reducible refine call_later (isVars_c _ _) ?_)); intro x2))
      go_loopg [19] ts.length (fun k v w' => ∃ (i : Nat) (y : Later (w.alloc (.cells #[.int .i64 p, .int .i64 d, .slice A ts.length c] 45))), i + k = ts.length ∧ v = .int .i64 i ∧ (∀ j, j < i → okB p d ts j = true) ∧ w' = y.W)
      case atStart => exact ⟨0, x2, by omega, rfl, fun j hj => by omega, rfl⟩
      case round =>
        obtain ⟨i, y, hik, rfl, hok, rfl⟩ := hrel
        have HOK := Lib.hid hok
        have HIK := Lib.hid hik
        clear hok hik
        by_cases hlt : i < ts.length
        · obtain ⟨b, o, hA, q0, q1, q2, q3⟩ := kT_at hC i hlt z4
          have r := fun h : 0 < i => kT_at hC (i - 1) (by omega) z4
          subst hA
          have hb : b < w.heap.size := World.block_lt_of_cell? w _ q0
          have hi0 : (0 : Int) ≤ i := by omega
          have hi1 : (i : Int) < ts.length := by omega
          have hin : ((i : Int)).toNat = i := by omega
          have hok1 : okB p d ts i = (decide (degE (ts.getD i z4).e ≤ 12) && decide (1 ≤ (ts.getD i z4).v) && decide ((ts.getD i z4).v < p) && (i == 0 || decide (cmpE (ts.getD (i - 1) z4).e (ts.getD i z4).e < 0)) && zerosB d (ts.getD i z4).e) := rfl
          generalize ts.getD i z4 = t at *
          generalize ts.getD (i - 1) z4 = s at *
          have HOK1 := Lib.hid hok1
          clear hok1
          obtain ⟨d1, d2⟩ := degE_bd t.e
          obtain ⟨d3, d4⟩ := cmpE_bd s.e t.e
          have u1 := t.e.b.toNat_lt
          have u2 := t.e.c.toNat_lt
          have hy : w.heap.size < y.W.heap.size := by have := y.ok.size; simp at this; omega
          have g0 : y.W.cell? ⟨w.heap.size, 0, none⟩ = some (.int .i64 p) := by rw [y.ok.cell (by simp)]; simp
          have g1 : y.W.cell? ⟨w.heap.size, 1, none⟩ = some (.int .i64 d) := by rw [y.ok.cell (by simp)]; simp
          have g2 : y.W.cell? ⟨w.heap.size, 2, none⟩ = some (.slice (some ⟨b, o, none⟩) ts.length c) := by rw [y.ok.cell (by simp)]; simp
          by_cases c1 : 12 < degE t.e
          · have b1 : decide (12 < degE t.e) = true := decide_eq_true c1
            go_wp2; (first | refine wp_region_later2 (by kernel_rfl) (by kernel_rfl) ?_ | refine wp_region_later (by kernel_rfl) (by kernel_rfl) ?_); (repeat (go_big_quiet_step (first | (go_at_call 103; with_reducible exact quiet_later (degree_c _ _)) | (go_at_call 104; with_reducible exact quiet_later (compareExps_c _ _ _))))); refine wpQuiet_nil ?_; intro x6; go_wp2
            go_ret; exact .mk (by rw [HR.out, all_not hlt (by rw [HOK1.out]; simp; omega)]; rfl) (bel_later x6 ((bel_later y ((Below.refl _ _).alloc (Nat.le_refl _) _) (by simp)).alloc (by omega) _) (by simp; omega))
          have b1 : decide (12 < degE t.e) = false := decide_eq_false c1
          by_cases c2 : t.v < 1
          · have b2 : decide (t.v < 1) = true := decide_eq_true c2
            go_wp2; (first | refine wp_region_later2 (by kernel_rfl) (by kernel_rfl) ?_ | refine wp_region_later (by kernel_rfl) (by kernel_rfl) ?_); (repeat (go_big_quiet_step (first | (go_at_call 103; with_reducible exact quiet_later (degree_c _ _)) | (go_at_call 104; with_reducible exact quiet_later (compareExps_c _ _ _))))); refine wpQuiet_nil ?_; intro x6; go_wp2
            go_ret; exact .mk (by rw [HR.out, all_not hlt (by rw [HOK1.out]; simp; omega)]; rfl) (bel_later x6 ((bel_later y ((Below.refl _ _).alloc (Nat.le_refl _) _) (by simp)).alloc (by omega) _) (by simp; omega))
          have b2 : decide (t.v < 1) = false := decide_eq_false c2
          by_cases c3 : p ≤ t.v
          · have b3 : decide (p ≤ t.v) = true := decide_eq_true c3
            go_wp2; (first | refine wp_region_later2 (by kernel_rfl) (by kernel_rfl) ?_ | refine wp_region_later (by kernel_rfl) (by kernel_rfl) ?_); (repeat (go_big_quiet_step (first | (go_at_call 103; with_reducible exact quiet_later (degree_c _ _)) | (go_at_call 104; with_reducible exact quiet_later (compareExps_c _ _ _))))); refine wpQuiet_nil ?_; intro x6; go_wp2
            go_ret; exact .mk (by rw [HR.out, all_not hlt (by rw [HOK1.out]; simp; omega)]; rfl) (bel_later x6 ((bel_later y ((Below.refl _ _).alloc (Nat.le_refl _) _) (by simp)).alloc (by omega) _) (by simp; omega))
          have b3 : decide (p ≤ t.v) = false := decide_eq_false c3
          by_cases c4 : 0 < i
          · obtain ⟨b', o', hA', r0, r1, r2, r3⟩ := r c4
            injection hA' with hA'
            injection hA' with e1 e2
            subst e1
            subst e2
            have s0 := y.keep (cell_alloc r0 _)
            have s1 := y.keep (cell_alloc r1 _)
            have s2 := y.keep (cell_alloc r2 _)
            have hby : b < y.W.heap.size := by omega
            have b4 : decide ((0 : Int) < (i : Int)) = true := decide_eq_true (by omega)
            have hi2 : (0 : Int) ≤ (i : Int) - 1 := by omega
            have hi3 : (i : Int) - 1 < ts.length := by omega
            have hin2 : ((i : Int) - 1).toNat = i - 1 := by omega
            by_cases c5 : 0 ≤ cmpE s.e t.e
            · have b5 : decide (0 ≤ cmpE s.e t.e) = true := decide_eq_true c5
              go_wp2; (first | refine wp_region_later2 (by kernel_rfl) (by kernel_rfl) ?_ | refine wp_region_later (by kernel_rfl) (by kernel_rfl) ?_); (repeat (go_big_quiet_step (first | (go_at_call 103; with_reducible exact quiet_later (degree_c _ _)) | (go_at_call 104; with_reducible exact quiet_later (compareExps_c _ _ _))))); refine wpQuiet_nil ?_; intro x6; go_wp2
              go_ret; exact .mk (by rw [HR.out, all_not hlt (by rw [HOK1.out]; simp; omega)]; rfl) (bel_later x6 ((bel_later y ((Below.refl _ _).alloc (Nat.le_refl _) _) (by simp)).alloc (by omega) _) (by simp; omega))
            · have b5 : decide (0 ≤ cmpE s.e t.e) = false := decide_eq_false c5
              go_wp2; (first | refine wp_region_later2 (by kernel_rfl) (by kernel_rfl) ?_ | refine wp_region_later (by kernel_rfl) (by kernel_rfl) ?_); (repeat (go_big_quiet_step (first | (go_at_call 103; with_reducible exact quiet_later (degree_c _ _)) | (go_at_call 104; with_reducible exact quiet_later (compareExps_c _ _ _))))); refine wpQuiet_nil ?_; intro x6; go_wp2
              rcases hd with rfl | rfl | rfl <;> (refine wp_loop_rounds 3 ?_; rw [rounds_succ]; go_wp2) <;> (try (rw [rounds_succ]; go_wp2)) <;> (try (rw [rounds_succ]; go_wp2)); all_goals first | (go_ret; exact .mk (by rw [HR.out, all_not hlt (by rw [HOK1.out, show zerosB _ t.e = false by first | exact zeros_b (by assumption) | exact zeros_c1 (by assumption) | exact zeros_c2 (by assumption), Bool.and_false])]; rfl) (bel_later x6 ((bel_later y ((Below.refl _ _).alloc (Nat.le_refl _) _) (by simp)).alloc (by omega) _) (by simp; omega))) | (go_roundg (gk - 1); (case measure => (have := HIK.out; omega)); (case rel => exact ⟨i + 1, ⟨x6.W, (y.ok.alloc (by simp; omega) _).trans (x6.ok.mono (by simp; omega))⟩, by have := HIK.out; omega, by go_num, all_step HOK.out (by rw [HOK1.out, show zerosB _ t.e = true by first | exact zeros_y3 _ | exact zeros_y2 (by assumption) | exact zeros_y1 (by assumption) (by assumption)]; simp; omega), rfl⟩))
          · have b4 : decide ((0 : Int) < (i : Int)) = false := decide_eq_false (by omega)
            go_wp2; (first | refine wp_region_later2 (by kernel_rfl) (by kernel_rfl) ?_ | refine wp_region_later (by kernel_rfl) (by kernel_rfl) ?_); (repeat (go_big_quiet_step (first | (go_at_call 103; with_reducible exact quiet_later (degree_c _ _)) | (go_at_call 104; with_reducible exact quiet_later (compareExps_c _ _ _))))); refine wpQuiet_nil ?_; intro x6; go_wp2
            rcases hd with rfl | rfl | rfl <;> (refine wp_loop_rounds 3 ?_; rw [rounds_succ]; go_wp2) <;> (try (rw [rounds_succ]; go_wp2)) <;> (try (rw [rounds_succ]; go_wp2)); all_goals first | (go_ret; exact .mk (by rw [HR.out, all_not hlt (by rw [HOK1.out, show zerosB _ t.e = false by first | exact zeros_b (by assumption) | exact zeros_c1 (by assumption) | exact zeros_c2 (by assumption), Bool.and_false])]; rfl) (bel_later x6 ((bel_later y ((Below.refl _ _).alloc (Nat.le_refl _) _) (by simp)).alloc (by omega) _) (by simp; omega))) | (go_roundg (gk - 1); (case measure => (have := HIK.out; omega)); (case rel => exact ⟨i + 1, ⟨x6.W, (y.ok.alloc (by simp; omega) _).trans (x6.ok.mono (by simp; omega))⟩, by have := HIK.out; omega, by go_num, all_step HOK.out (by rw [HOK1.out, show zerosB _ t.e = true by first | exact zeros_y3 _ | exact zeros_y2 (by assumption) | exact zeros_y1 (by assumption) (by assumption)]; simp; omega), rfl⟩))
        · go_wp2
          go_ret
          refine .mk ?_ (bel_later y ((Below.refl _ _).alloc (Nat.le_refl _) _) (by simp))
          rw [HR.out, all_yes (fun j hj => HOK.out j (by omega))]
          rfl
end Go.Proofs.Ytneknpamceipiaa
/- The walk of the reference's test on polynomials; no condition. -/
set_option linter.unusedVariables false
set_option linter.unusedSimpArgs false
namespace Go.Proofs.Ytneknpamceipiaa
open Go.RowKit Go.Proofs.YtneknpamceipiaaW.PrintWords
attribute [local go_sem] Later.cell Later.frozen Later.lt Later.lt_add Later.le Later.le_add Later.ne Later.ne' add_at
theorem prime_bd {p : Int} (h : primeB p = true) : 2 ≤ p ∧ p ≤ 13 := by
  simp [primeB] at h
  omega
theorem befE_cmp (e f : E3) : befE e f = decide (cmpE e f < 0) := by
  unfold befE cmpE
  by_cases h : degE e = degE f
  · have h' : degE e - degE f = 0 := by omega
    simp only [ne_eq, h, h', not_true, if_false, Int.sub_self]
    by_cases g : (e.a.toNat : Int) = f.a.toNat
    · simp only [g, not_true, if_false]
      congr 1
      rw [eq_iff_iff]
      omega
    · simp only [g, not_false_iff, if_true]
      congr 1
      rw [eq_iff_iff]
      omega
  · have h' : ¬ degE e - degE f = 0 := by omega
    simp only [ne_eq, h, h', not_false_iff, if_true]
    congr 1
    rw [eq_iff_iff]
    omega
theorem okB_spec (p d : Int) (ts : List T4) (i : Nat) : okB p d ts i = (expsB d (ts.getD i z4).e && inB (ts.getD i z4).v 1 (p - 1) && (i == 0 || befE (ts.getD (i - 1) z4).e (ts.getD i z4).e)) := by
  unfold okB expsB inB
  rw [befE_cmp]
  have : decide ((ts.getD i z4).v < p) = decide ((ts.getD i z4).v ≤ p - 1) := by
    congr 1
    rw [eq_iff_iff]
    omega
  rw [this]
  generalize zerosB d (ts.getD i z4).e = a
  generalize decide (degE (ts.getD i z4).e ≤ 12) = b
  generalize decide (1 ≤ (ts.getD i z4).v) = c
  generalize decide ((ts.getD i z4).v ≤ p - 1) = e
  generalize (i == 0 || decide (cmpE (ts.getD (i - 1) z4).e (ts.getD i z4).e < 0)) = f
  cases a <;> cases b <;> cases c <;> cases e <;> cases f <;> rfl
set_option maxRecDepth 100000 in
set_option maxHeartbeats 1000000 in
theorem l01Is_c (p d : Int) (A : Option Addr) (c : Nat) (ts : List T4) (w : World) (hC : kT.C w A ts.length ts) (hn : ts.length ≤ 9223372036854775807) :
    Calls Try.prog 56 #[.agg #[.int .i64 p, .int .i64 d, .slice A ts.length c]] w (Gives (.bool (polyB p d ts)) w) := by
  cases hp : primeB p with
  | false =>
    have hr : polyB p d ts = false := by simp [polyB, hp]
    have HR := Lib.hid hr
    clear hr
    go_enter Try.func56, Try.ntmps56
    go_wp2_with ((go_at_call 41; (first | (with_reducible refine call_later2 (l01Prime_c _ _) ?_) | (with_reducible refine call_later (l01Prime_c _ _) ?_)); intro x))
    go_ret
    exact .mk (by rw [HR.out]; rfl) (bel_later x ((Below.refl _ _).alloc (Nat.le_refl _) _) (by simp))
  | true =>
    cases hv : inB d 1 3 with
    | false =>
      have hr : polyB p d ts = false := by simp [polyB, hp, hv]
      have HR := Lib.hid hr
      clear hr
      go_enter Try.func56, Try.ntmps56
      go_wp2_with (first | (go_at_call 41; (first | (with_reducible refine call_later2 (l01Prime_c _ _) ?_) | (with_reducible refine call_later (l01Prime_c _ _) ?_)); intro x) | (go_at_call 42; (first | (with_reducible refine call_later2 (l01In_c _ _ _ _) ?_) | (with_reducible refine call_later (l01In_c _ _ _ _) ?_)); intro x2))
      go_ret
      exact .mk (by rw [HR.out]; rfl) (bel_later x2 ((Below.refl _ _).alloc (Nat.le_refl _) _) (by simp))
    | true =>
      have hr : polyB p d ts = (List.range ts.length).all (okB p d ts) := by simp [polyB, hp, hv]
      have HR := Lib.hid hr
      clear hr
      obtain ⟨hd1, hd3⟩ : 1 ≤ d ∧ d ≤ 3 := by simpa [inB] using hv
      obtain ⟨hp2, hp13⟩ := prime_bd hp
      go_enter Try.func56, Try.ntmps56
      go_wp2_with (first | (go_at_call 41; (first | (with_reducible refine call_later2 (l01Prime_c _ _) ?_) | (with_reducible refine call_later (l01Prime_c _ _) ?_)); intro x) | (go_at_call 42; (first | (with_reducible refine call_later2 (l01In_c _ _ _ _) ?_) | (with_reducible refine call_later (l01In_c _ _ _ _) ?_)); intro x2))
      go_loopg [3] ts.length (fun k v w' => ∃ (i : Nat) (y : Later (w.alloc (.cells #[.int .i64 p, .int .i64 d, .slice A ts.length c] 45))), i + k = ts.length ∧ v = .int .i64 i ∧ (∀ j, j < i → okB p d ts j = true) ∧ w' = y.W)
      case atStart => exact ⟨0, x2, by omega, rfl, fun j hj => by omega, rfl⟩
      case round =>
        obtain ⟨i, y, hik, rfl, hok, rfl⟩ := hrel
        have HOK := Lib.hid hok
        have HIK := Lib.hid hik
        clear hok hik
        have hy : w.heap.size < y.W.heap.size := by have := y.ok.size; simp at this; omega
        have g0 : y.W.cell? ⟨w.heap.size, 0, none⟩ = some (.int .i64 p) := by rw [y.ok.cell (by simp)]; simp
        have g1 : y.W.cell? ⟨w.heap.size, 1, none⟩ = some (.int .i64 d) := by rw [y.ok.cell (by simp)]; simp
        have g2 : y.W.cell? ⟨w.heap.size, 2, none⟩ = some (.slice A ts.length c) := by rw [y.ok.cell (by simp)]; simp
        by_cases hlt : i < ts.length
        · obtain ⟨b, o, hA, q0, q1, q2, q3⟩ := kT_at hC i hlt z4
          have r := fun h : 0 < i => kT_at hC (i - 1) (by omega) z4
          subst hA
          have hb : b < w.heap.size := World.block_lt_of_cell? w _ q0
          have hi0 : (0 : Int) ≤ i := by omega
          have hi1 : (i : Int) < ts.length := by omega
          have hin : ((i : Int)).toNat = i := by omega
          have hok1 := okB_spec p d ts i
          generalize ts.getD i z4 = t at *
          generalize ts.getD (i - 1) z4 = s at *
          have HOK1 := Lib.hid hok1
          clear hok1
          cases c1 : expsB d t.e with
          | false =>
            go_wp2; (first | refine wp_region_later2 (by kernel_rfl) (by kernel_rfl) ?_ | refine wp_region_later (by kernel_rfl) (by kernel_rfl) ?_); (repeat (go_big_quiet_step (first | (go_at_call 94; with_reducible exact quiet_later (l01Exps_c d t.e hd1 hd3 _)) | (go_at_call 42; with_reducible exact quiet_later (l01In_c _ _ _ _)) | (go_at_call 95; with_reducible exact quiet_later (l01Before_c _ _ _))))); refine wpQuiet_nil ?_; intro x6; go_wp2
            go_ret; exact .mk (by rw [HR.out, all_not hlt (by rw [HOK1.out]; simp [c1]; try omega)]; rfl) (bel_later x6 ((bel_later y ((Below.refl _ _).alloc (Nat.le_refl _) _) (by simp)).alloc (by omega) _) (by simp; omega))
          | true =>
          cases c2 : inB t.v 1 (p - 1) with
          | false =>
            go_wp2; (first | refine wp_region_later2 (by kernel_rfl) (by kernel_rfl) ?_ | refine wp_region_later (by kernel_rfl) (by kernel_rfl) ?_); (repeat (go_big_quiet_step (first | (go_at_call 94; with_reducible exact quiet_later (l01Exps_c d t.e hd1 hd3 _)) | (go_at_call 42; with_reducible exact quiet_later (l01In_c _ _ _ _)) | (go_at_call 95; with_reducible exact quiet_later (l01Before_c _ _ _))))); refine wpQuiet_nil ?_; intro x6; go_wp2
            go_ret
            exact .mk (by rw [HR.out, all_not hlt (by rw [HOK1.out, c2]; simp)]; rfl) (bel_later x6 ((bel_later y ((Below.refl _ _).alloc (Nat.le_refl _) _) (by simp)).alloc (by omega) _) (by simp; omega))
          | true =>
          by_cases c4 : 0 < i
          · obtain ⟨b', o', hA', r0, r1, r2, r3⟩ := r c4
            injection hA' with hA'
            injection hA' with e1 e2
            subst e1
            subst e2
            have s0 := y.keep (cell_alloc r0 _)
            have s1 := y.keep (cell_alloc r1 _)
            have s2 := y.keep (cell_alloc r2 _)
            have hby : b < y.W.heap.size := by omega
            have b4 : decide ((0 : Int) < (i : Int)) = true := decide_eq_true (by omega)
            have hi2 : (0 : Int) ≤ (i : Int) - 1 := by omega
            have hi3 : (i : Int) - 1 < ts.length := by omega
            have hin2 : ((i : Int) - 1).toNat = i - 1 := by omega
            cases c5 : befE s.e t.e with
            | false =>
              go_wp2; (first | refine wp_region_later2 (by kernel_rfl) (by kernel_rfl) ?_ | refine wp_region_later (by kernel_rfl) (by kernel_rfl) ?_); (repeat (go_big_quiet_step (first | (go_at_call 94; with_reducible exact quiet_later (l01Exps_c d t.e hd1 hd3 _)) | (go_at_call 42; with_reducible exact quiet_later (l01In_c _ _ _ _)) | (go_at_call 95; with_reducible exact quiet_later (l01Before_c _ _ _))))); refine wpQuiet_nil ?_; intro x6; go_wp2
              go_ret
              exact .mk (by rw [HR.out, all_not hlt (by rw [HOK1.out, c5]; simp; omega)]; rfl) (bel_later x6 ((bel_later y ((Below.refl _ _).alloc (Nat.le_refl _) _) (by simp)).alloc (by omega) _) (by simp; omega))
            | true =>
              go_wp2; (first | refine wp_region_later2 (by kernel_rfl) (by kernel_rfl) ?_ | refine wp_region_later (by kernel_rfl) (by kernel_rfl) ?_); (repeat (go_big_quiet_step (first | (go_at_call 94; with_reducible exact quiet_later (l01Exps_c d t.e hd1 hd3 _)) | (go_at_call 42; with_reducible exact quiet_later (l01In_c _ _ _ _)) | (go_at_call 95; with_reducible exact quiet_later (l01Before_c _ _ _))))); refine wpQuiet_nil ?_; intro x6; go_wp2
              go_roundg (gk - 1)
              case measure => have := HIK.out; omega
              case rel => exact ⟨i + 1, ⟨x6.W, (y.ok.alloc (by simp; omega) _).trans (x6.ok.mono (by simp; omega))⟩, by have := HIK.out; omega, by go_num, all_step HOK.out (by rw [HOK1.out, c1, c2, c5]; simp), rfl⟩
          · have b4 : decide ((0 : Int) < (i : Int)) = false := decide_eq_false (by omega)
            go_wp2; (first | refine wp_region_later2 (by kernel_rfl) (by kernel_rfl) ?_ | refine wp_region_later (by kernel_rfl) (by kernel_rfl) ?_); (repeat (go_big_quiet_step (first | (go_at_call 94; with_reducible exact quiet_later (l01Exps_c d t.e hd1 hd3 _)) | (go_at_call 42; with_reducible exact quiet_later (l01In_c _ _ _ _)) | (go_at_call 95; with_reducible exact quiet_later (l01Before_c _ _ _))))); refine wpQuiet_nil ?_; intro x6; go_wp2
            go_roundg (gk - 1)
            case measure => have := HIK.out; omega
            case rel => exact ⟨i + 1, ⟨x6.W, (y.ok.alloc (by simp; omega) _).trans (x6.ok.mono (by simp; omega))⟩, by have := HIK.out; omega, by go_num, all_step HOK.out (by rw [HOK1.out, c1, c2]; simp; omega), rfl⟩
        · go_wp2
          go_ret
          refine .mk ?_ (bel_later y ((Below.refl _ _).alloc (Nat.le_refl _) _) (by simp))
          rw [HR.out, all_yes (fun j hj => HOK.out j (by omega))]
          rfl
end Go.Proofs.Ytneknpamceipiaa
/- The walks of the laws' own functions on terms and polynomials; no condition. -/
set_option linter.unusedVariables false
set_option linter.unusedSimpArgs false
namespace Go.Proofs.Ytneknpamceipiaa
open Go.RowKit Go.Proofs.YtneknpamceipiaaW.PrintWords
attribute [local go_sem] Later.cell Later.frozen Later.lt Later.lt_add Later.le Later.le_add Later.ne Later.ne' add_at
set_option maxRecDepth 100000 in
theorem toExps_c (e : E3) (w : World) : Calls Try.prog 144 #[.agg #[.int .u8 (e.a.toNat : Int), .int .u8 (e.b.toNat : Int), .int .u8 (e.c.toNat : Int)]] w (Gives (.agg #[.int .u8 (e.a.toNat : Int), .int .u8 (e.b.toNat : Int), .int .u8 (e.c.toNat : Int)]) w) := by
  go_enter Try.func144, Try.ntmps144
  go_wp2
  refine wp_loop_rounds 4 ?_
  rw [rounds_succ]
  go_wp2
  rw [rounds_succ]
  go_wp2
  rw [rounds_succ]
  go_wp2
  rw [rounds_succ]
  go_wp2
  exact bodyPost_ret (v := .agg #[.int .u8 (e.a.toNat : Int), .int .u8 (e.b.toNat : Int), .int .u8 (e.c.toNat : Int)]) (by simp [results, Try.results144, go_sem]) rfl (.mk rfl (by repeat (first | (with_reducible exact Below.refl _ _) | ((with_reducible refine Below.alloc ?_ ?_ _); rotate_left; (focus (first | omega | (simp; done) | (simp; omega)))) | ((with_reducible refine bel_later _ ?_ ?_); rotate_left; (focus (first | omega | (simp; done) | (simp; omega)))) | ((with_reducible refine Below.setCell ?_ ?_ _); rotate_left; (focus (first | omega | (simp; done) | (simp; omega)))))))
set_option maxRecDepth 100000 in
theorem toTerm_c (t : T4) (w : World) : Calls Try.prog 101 #[.agg #[.int .u8 (t.e.a.toNat : Int), .int .u8 (t.e.b.toNat : Int), .int .u8 (t.e.c.toNat : Int), .int .i64 t.v]] w (Gives (.agg #[.int .u8 (t.e.a.toNat : Int), .int .u8 (t.e.b.toNat : Int), .int .u8 (t.e.c.toNat : Int), .int .i64 t.v]) w) := by
  go_enter Try.func101, Try.ntmps101
  go_wp2_with ((go_at_call 144; (first | (with_reducible refine call_later2 (toExps_c _ _) ?_) | (with_reducible refine call_later (toExps_c _ _) ?_)); intro x))
  exact bodyPost_ret (v := .agg #[.int .u8 (t.e.a.toNat : Int), .int .u8 (t.e.b.toNat : Int), .int .u8 (t.e.c.toNat : Int), .int .i64 t.v]) (by simp [results, Try.results101, go_sem]) rfl (.mk rfl (by repeat (first | (with_reducible exact Below.refl _ _) | ((with_reducible refine Below.alloc ?_ ?_ _); rotate_left; (focus (first | omega | (simp; done) | (simp; omega)))) | ((with_reducible refine bel_later _ ?_ ?_); rotate_left; (focus (first | omega | (simp; done) | (simp; omega)))) | ((with_reducible refine Below.setCell ?_ ?_ _); rotate_left; (focus (first | omega | (simp; done) | (simp; omega)))))))
theorem eqE_of (e f : E3) : (e == f) = ((e.a.toNat : Int) == f.a.toNat && (e.b.toNat : Int) == f.b.toNat && (e.c.toNat : Int) == f.c.toNat) := by
  obtain ⟨a, b, c⟩ := e
  obtain ⟨a', b', c'⟩ := f
  rw [Bool.eq_iff_iff]
  simp [← UInt8.toNat_inj]
  omega
set_option maxRecDepth 100000 in
theorem eqExps_c (e f : E3) (w : World) : Calls Try.prog 147 #[.agg #[.int .u8 (e.a.toNat : Int), .int .u8 (e.b.toNat : Int), .int .u8 (e.c.toNat : Int)], .agg #[.int .u8 (f.a.toNat : Int), .int .u8 (f.b.toNat : Int), .int .u8 (f.c.toNat : Int)]] w (Gives (.bool (e == f)) w) := by
  have HE := Lib.hid (eqE_of e f)
  go_enter Try.func147, Try.ntmps147
  go_wp2
  refine wp_loop_rounds 4 ?_
  rw [rounds_succ]
  go_wp2
  (first | refine wp_region_later2 (by kernel_rfl) (by kernel_rfl) ?_ | refine wp_region_later (by kernel_rfl) (by kernel_rfl) ?_); (repeat (go_big_quiet_step (fail))); refine wpQuiet_nil ?_; intro x1
  go_wp2
  all_goals try (rw [rounds_succ]; go_wp2)
  all_goals try ((first | refine wp_region_later2 (by kernel_rfl) (by kernel_rfl) ?_ | refine wp_region_later (by kernel_rfl) (by kernel_rfl) ?_); (repeat (go_big_quiet_step (fail))); refine wpQuiet_nil ?_; intro x2; go_wp2)
  all_goals try (rw [rounds_succ]; go_wp2)
  all_goals try ((first | refine wp_region_later2 (by kernel_rfl) (by kernel_rfl) ?_ | refine wp_region_later (by kernel_rfl) (by kernel_rfl) ?_); (repeat (go_big_quiet_step (fail))); refine wpQuiet_nil ?_; intro x3; go_wp2)
  all_goals try (rw [rounds_succ]; go_wp2)
  all_goals go_ret
  all_goals refine .mk ?_ (by repeat (first | (with_reducible exact Below.refl _ _) | ((with_reducible refine Below.alloc ?_ ?_ _); rotate_left; (focus (first | omega | (simp; done) | (simp; omega)))) | ((with_reducible refine bel_later _ ?_ ?_); rotate_left; (focus (first | omega | (simp; done) | (simp; omega)))) | ((with_reducible refine Below.setCell ?_ ?_ _); rotate_left; (focus (first | omega | (simp; done) | (simp; omega))))))
  all_goals (rw [HE.out]; simp_all)
end Go.Proofs.Ytneknpamceipiaa
/- The walks of the laws' own functions on lists of terms and on polynomials; no condition. -/
set_option linter.unusedVariables false
set_option linter.unusedSimpArgs false
namespace Go.Proofs.Ytneknpamceipiaa
open Go.RowKit Go.Proofs.YtneknpamceipiaaW.PrintWords
attribute [local go_sem] Later.cell Later.frozen Later.lt Later.lt_add Later.le Later.le_add Later.ne Later.ne' add_at
set_option maxRecDepth 100000 in
theorem eqTerm_c (t s : T4) (w : World) : Calls Try.prog 110 #[.agg #[.int .u8 (t.e.a.toNat : Int), .int .u8 (t.e.b.toNat : Int), .int .u8 (t.e.c.toNat : Int), .int .i64 t.v], .agg #[.int .u8 (s.e.a.toNat : Int), .int .u8 (s.e.b.toNat : Int), .int .u8 (s.e.c.toNat : Int), .int .i64 s.v]] w (Gives (.bool (t == s)) w) := by
  have h : (t == s) = (t.e == s.e && t.v == s.v) := by
    obtain ⟨e, v⟩ := t
    obtain ⟨e', v'⟩ := s
    rw [Bool.eq_iff_iff]
    simp
  have HE := Lib.hid h
  clear h
  cases h1 : (t.e == s.e) with
  | false =>
    go_enter Try.func110, Try.ntmps110
    go_wp2_with ((go_at_call 147; (first | (with_reducible refine call_later2 (eqExps_c _ _ _) ?_) | (with_reducible refine call_later (eqExps_c _ _ _) ?_)); intro x))
    go_ret
    exact .mk (by rw [HE.out, h1]; rfl) (by repeat (first | (with_reducible exact Below.refl _ _) | ((with_reducible refine Below.alloc ?_ ?_ _); rotate_left; (focus (first | omega | (simp; done) | (simp; omega)))) | ((with_reducible refine bel_later _ ?_ ?_); rotate_left; (focus (first | omega | (simp; done) | (simp; omega)))) | ((with_reducible refine Below.setCell ?_ ?_ _); rotate_left; (focus (first | omega | (simp; done) | (simp; omega))))))
  | true =>
    cases h2 : (t.v == s.v) with
    | false =>
      have h3 : (t.v != s.v) = true := by simp [bne, h2]
      go_enter Try.func110, Try.ntmps110
      go_wp2_with ((go_at_call 147; (first | (with_reducible refine call_later2 (eqExps_c _ _ _) ?_) | (with_reducible refine call_later (eqExps_c _ _ _) ?_)); intro x))
      go_ret
      exact .mk (by rw [HE.out, h1, h2]; rfl) (by repeat (first | (with_reducible exact Below.refl _ _) | ((with_reducible refine Below.alloc ?_ ?_ _); rotate_left; (focus (first | omega | (simp; done) | (simp; omega)))) | ((with_reducible refine bel_later _ ?_ ?_); rotate_left; (focus (first | omega | (simp; done) | (simp; omega)))) | ((with_reducible refine Below.setCell ?_ ?_ _); rotate_left; (focus (first | omega | (simp; done) | (simp; omega))))))
    | true =>
      have h3 : (t.v != s.v) = false := by simp [bne, h2]
      go_enter Try.func110, Try.ntmps110
      go_wp2_with ((go_at_call 147; (first | (with_reducible refine call_later2 (eqExps_c _ _ _) ?_) | (with_reducible refine call_later (eqExps_c _ _ _) ?_)); intro x))
      go_ret
      exact .mk (by rw [HE.out, h1, h2]; rfl) (by repeat (first | (with_reducible exact Below.refl _ _) | ((with_reducible refine Below.alloc ?_ ?_ _); rotate_left; (focus (first | omega | (simp; done) | (simp; omega)))) | ((with_reducible refine bel_later _ ?_ ?_); rotate_left; (focus (first | omega | (simp; done) | (simp; omega)))) | ((with_reducible refine Below.setCell ?_ ?_ _); rotate_left; (focus (first | omega | (simp; done) | (simp; omega))))))
theorem szTermS_c (A : Option Addr) (n c : Nat) (left : Int) (hl : 0 ≤ left) (hl2 : left ≤ 1048576) (hn : n ≤ 9223372036854775807) (w : World) :
    Calls Try.prog 55 #[.slice A n c, .int .i64 left] w (Gives (.int .i64 (if left < n then -1 else left - n)) w) := by
  by_cases h : left < n
  · have h1 : left - n < 0 := by omega
    rw [if_pos h]
    go_enter Try.func55, Try.ntmps55
    go_wp2
    go_ret
    exact .mk rfl (by repeat (first | (with_reducible exact Below.refl _ _) | ((with_reducible refine Below.alloc ?_ ?_ _); rotate_left; (focus (first | omega | (simp; done) | (simp; omega)))) | ((with_reducible refine bel_later _ ?_ ?_); rotate_left; (focus (first | omega | (simp; done) | (simp; omega)))) | ((with_reducible refine Below.setCell ?_ ?_ _); rotate_left; (focus (first | omega | (simp; done) | (simp; omega))))))
  · have h1 : ¬ left - n < 0 := by omega
    rw [if_neg h]
    go_enter Try.func55, Try.ntmps55
    go_wp2
    go_ret
    exact .mk rfl (by repeat (first | (with_reducible exact Below.refl _ _) | ((with_reducible refine Below.alloc ?_ ?_ _); rotate_left; (focus (first | omega | (simp; done) | (simp; omega)))) | ((with_reducible refine bel_later _ ?_ ?_); rotate_left; (focus (first | omega | (simp; done) | (simp; omega)))) | ((with_reducible refine Below.setCell ?_ ?_ _); rotate_left; (focus (first | omega | (simp; done) | (simp; omega))))))
theorem szPoly_c (p d : Int) (A : Option Addr) (n c : Nat) (left : Int) (hl : 0 ≤ left) (hl2 : left ≤ 1048576) (hn : n ≤ 9223372036854775807) (w : World) :
    Calls Try.prog 20 #[.agg #[.int .i64 p, .int .i64 d, .slice A n c], .int .i64 left] w (Gives (.int .i64 (if left < n then -1 else left - n)) w) := by
  by_cases h : left < n
  · have h1 : left - n < 0 := by omega
    have H := szTermS_c A n c left hl hl2 hn
    rw [if_pos h] at H ⊢
    have HH := Lib.hid H
    clear H
    go_enter Try.func20, Try.ntmps20
    go_wp2_with ((go_at_call 55; (first | (with_reducible refine call_later2 (HH.out _) ?_) | (with_reducible refine call_later (HH.out _) ?_)); intro x))
    go_ret
    exact .mk rfl (by repeat (first | (with_reducible exact Below.refl _ _) | ((with_reducible refine Below.alloc ?_ ?_ _); rotate_left; (focus (first | omega | (simp; done) | (simp; omega)))) | ((with_reducible refine bel_later _ ?_ ?_); rotate_left; (focus (first | omega | (simp; done) | (simp; omega)))) | ((with_reducible refine Below.setCell ?_ ?_ _); rotate_left; (focus (first | omega | (simp; done) | (simp; omega))))))
  · have h1 : ¬ left - n < 0 := by omega
    have H := szTermS_c A n c left hl hl2 hn
    rw [if_neg h] at H ⊢
    have HH := Lib.hid H
    clear H
    go_enter Try.func20, Try.ntmps20
    go_wp2_with ((go_at_call 55; (first | (with_reducible refine call_later2 (HH.out _) ?_) | (with_reducible refine call_later (HH.out _) ?_)); intro x))
    go_ret
    exact .mk rfl (by repeat (first | (with_reducible exact Below.refl _ _) | ((with_reducible refine Below.alloc ?_ ?_ _); rotate_left; (focus (first | omega | (simp; done) | (simp; omega)))) | ((with_reducible refine bel_later _ ?_ ?_); rotate_left; (focus (first | omega | (simp; done) | (simp; omega)))) | ((with_reducible refine Below.setCell ?_ ?_ _); rotate_left; (focus (first | omega | (simp; done) | (simp; omega))))))
end Go.Proofs.Ytneknpamceipiaa
/- The walks of the laws' own functions on lists of terms and on polynomials; no condition. -/
set_option linter.unusedVariables false
set_option linter.unusedSimpArgs false
namespace Go.Proofs.Ytneknpamceipiaa
open Go.RowKit Go.Proofs.YtneknpamceipiaaW.PrintWords
attribute [local go_sem] Later.cell Later.frozen Later.lt Later.lt_add Later.le Later.le_add Later.ne Later.ne' add_at
theorem infoT : (Try.prog.info? 121).map (fun i => (i.zero, i.size, i.bytes)) = some (some (.agg #[.int .u8 0, .int .u8 0, .int .u8 0, .int .i64 0]), 4, 16) := by kernel_rfl
theorem infoT1 : (Try.prog.info? 121).map (·.size) = some 4 := by kernel_rfl
theorem T4_one (t : T4) : ∀ q ∈ t.cs, q.oneCell' = true := kT.K_one (w := default) (show kT.K default t t.cs from rfl)
theorem kT_put (w : World) (base : Nat) (ok : Nat → Prop) (t : T4) (cc : List Value) (h : cc.length = 4) : kT.M w base ok t (cc.take 0 ++ t.cs ++ cc.drop (0 + t.cs.length)) := by
  show _ = t.cs
  have : t.cs.length = 4 := rfl
  rw [this, List.drop_of_length_le (by omega)]
  simp
theorem take_step {α : Type} {i : Nat} (ts : List α) (z : α) (hi : i < ts.length) : (ts.take i ++ List.replicate (ts.length - i) z).set i (ts.getD i z) = ts.take (i + 1) ++ List.replicate (ts.length - (i + 1)) z := by
  have e : ts.length - i = (ts.length - (i + 1)) + 1 := by omega
  rw [List.set_append_right _ _ (by simp; omega), e, List.replicate_succ]
  have h : i - (ts.take i).length = 0 := by simp; omega
  rw [h, List.set_cons_zero, List.take_succ_eq_append_getElem hi, List.append_assoc]
  simp [List.getD_eq_getElem?_getD, hi]
set_option maxRecDepth 100000 in
set_option maxHeartbeats 1000000 in
theorem toTermS_c (A : Option Addr) (c : Nat) (ts : List T4) (w : World) (hC : kT.C w A ts.length ts) (hn : ts.length ≤ 1048576) :
    Calls Try.prog 58 #[.slice A ts.length c] w (Makes kT 121 ts w) := by
  go_enter Try.func58, Try.ntmps58
  go_wp2_with (refine Kd.R_make kT w.heap.size 121 rfl (N := 7) rfl 43 (.tmp 6) (.tmp 6) rfl ts.length rfl rfl (by kernel_rfl) _ 16 infoT rfl (by decide) (by decide) z4 (ok := fun _ => True) (okp := fun _ => False) rfl (fun _ h => h.elim) trivial (by omega) (by omega) (Below.refl _ _) (Nat.le_refl _) ?_; intro v1 w1 HR hb1 _ _)
  rw [Int.toNat_natCast] at HR
  have HB1 := Lib.hid hb1
  clear hb1
  go_loopg [4] ts.length (fun k v w' => ∃ i : Nat, i + k = ts.length ∧ v = .int .i64 i ∧ kT.R 121 w' w.heap.size (fun _ => True) v1 (ts.take i ++ List.replicate (ts.length - i) z4) ∧ Below w.heap.size w w')
  case atStart => exact ⟨0, by omega, rfl, by simpa using HR, HB1.out⟩
  case round =>
    obtain ⟨i, hik, rfl, hR, hb⟩ := hrel
    have HIK := Lib.hid hik
    have HB := Lib.hid hb
    clear hik hb HR
    have hll : (ts.take i ++ List.replicate (ts.length - i) z4).length = ts.length := by have := HIK.out; simp; omega
    have HLL := Lib.hid hll
    clear hll
    by_cases hlt : i < ts.length
    · obtain ⟨b, o, hA, q0, q1, q2, q3⟩ := kT_at hC i hlt z4
      subst hA
      obtain ⟨g, cap, hv, hg, hgs, cells, hcells⟩ := Kd.R_form hR (by rw [HLL.out]; omega)
      rw [HLL.out] at hv
      subst hv
      have q0' := (HB.out.cell (World.block_lt_of_cell? w _ q0)).trans q0
      have q1' := (HB.out.cell (World.block_lt_of_cell? w _ q1)).trans q1
      have q2' := (HB.out.cell (World.block_lt_of_cell? w _ q2)).trans q2
      have q3' := (HB.out.cell (World.block_lt_of_cell? w _ q3)).trans q3
      clear q0 q1 q2 q3 hcells
      have hi0 : (0 : Int) ≤ i := by omega
      have hi1 : (i : Int) < ts.length := by omega
      have hin : ((i : Int)).toNat = i := by omega
      have hset := take_step ts z4 hlt
      have HSET := Lib.hid hset
      clear hset
      generalize ts.getD i z4 = t at *
      go_wp2_with (first | (go_at_call 101; (first | (with_reducible refine call_later2 (toTerm_c t _) ?_) | (with_reducible refine call_later (toTerm_c t _) ?_)); intro x) | ((with_reducible refine gate_ (.store 121 (.tmp 21) (.tmp 20)) rfl ?_); have HR1 := Kd.R_below hR x.ok; obtain ⟨cc, hcl, _, hcc, _⟩ := Kd.R_elem HR1 z4 (i : Int) hi0 hi1; refine Kd.R_store kT w.heap.size rfl rfl 121 (.tmp 21) (.tmp 20) rfl 121 (i : Int) 0 _ t (.agg #[.int .u8 (t.e.a.toNat : Int), .int .u8 (t.e.b.toNat : Int), .int .u8 (t.e.c.toNat : Int), .int .i64 t.v]) t.cs cc (fun _ => True) (fun _ => False) rfl (by simp; rfl) rfl rfl infoT1 (T4_one t) HR1 hi0 hi1 hcl hcc (Nat.le_refl _) (kT_put _ _ _ t cc hcl) (fun _ h => h.elim) (bel_later x HB.out (by omega)) ?_; intro w2 HR2 HB2 _))
      go_roundg (gk - 1)
      case measure => have := HIK.out; omega
      case rel =>
        refine ⟨i + 1, by have := HIK.out; omega, by go_num, ?_, HB2⟩
        rw [hin, HSET.out] at HR2
        exact HR2
    · go_wp2
      go_ret
      have e : i = ts.length := by have := HIK.out; omega
      subst e
      exact ⟨v1, rfl, by simpa using hR, HB.out⟩
/-- A store below the base of a row of one's own turns nothing of it. -/
theorem R_old {α : Type} {d : Kd α} {e base : Nat} {w : World} {ok : Nat → Prop} {v : Value} {xs : List α} (h : d.R e w base ok v xs) {p : Addr} (hp : p.block < base) (u : Value) : d.R e (w.setCell p u) base ok v xs :=
  Kd.R_mono (Kd.R_far (p := p) (Kd.R_bound h) (fun k hk => by have := hk.2.1; omega) u) (fun _ hk => hk.1)
set_option maxRecDepth 100000 in
theorem toPoly_c (p d : Int) (A : Option Addr) (c : Nat) (ts : List T4) (w : World) (hC : kT.C w A ts.length ts) (hn : ts.length ≤ 1048576) :
    Calls Try.prog 23 #[.agg #[.int .i64 p, .int .i64 d, .slice A ts.length c]] w (MakesP p d 121 ts w) := by
  go_enter Try.func23, Try.ntmps23
  go_wp2_with (go_at_call 58; (with_reducible refine call_makes (toTermS_c _ _ _ _ ?hcc hn) ?_); (case hcc => repeat (first | exact hC | refine Kd.C_alloc ?_ _)); intro x A' c' _ hlc hR hC')
  have hR4 := Kd.R_lower (base' := w.heap.size) (R_old (R_old (R_old (R_old hR (p := ⟨w.heap.size + 1 + 1, 2, none⟩) (by simp) (.slice A' ts.length c')) (p := ⟨w.heap.size + 1, 0, none⟩) (by simp) (.int .i64 p)) (p := ⟨w.heap.size + 1, 1, none⟩) (by simp) (.int .i64 d)) (p := ⟨w.heap.size + 1, 2, none⟩) (by simp) (.slice A' ts.length c')) (by simp; omega)
  exact bodyPost_ret (v := .agg #[.int .i64 p, .int .i64 d, .slice A' ts.length c']) (by simp [results, Try.results23, go_sem]) rfl ⟨A', c', rfl, hR4, (by repeat (first | (with_reducible exact Below.refl _ _) | ((with_reducible refine Below.alloc ?_ ?_ _); rotate_left; (focus (first | omega | (simp; done) | (simp; omega)))) | ((with_reducible refine bel_later _ ?_ ?_); rotate_left; (focus (first | omega | (simp; done) | (simp; omega)))) | ((with_reducible refine Below.setCell ?_ ?_ _); rotate_left; (focus (first | omega | (simp; done) | (simp; omega))))))⟩
set_option maxRecDepth 100000 in
set_option maxHeartbeats 1000000 in
theorem eqTermS_c (A B : Option Addr) (c b : Nat) (ts us : List T4) (w : World) (hC : kT.C w A ts.length ts) (hD : kT.C w B us.length us) (hn : ts.length ≤ 1048576) (hm : us.length ≤ 1048576) :
    Calls Try.prog 64 #[.slice A ts.length c, .slice B us.length b] w (Gives (.bool (ts == us)) w) := by
  by_cases hl : ts.length = us.length
  · have HL := Lib.hid hl
    have hq : ((ts.length : Int) != us.length) = false := by simp [hl]
    clear hl
    go_enter Try.func64, Try.ntmps64
    go_wp2
    go_loopg [5] ts.length (fun k v w' => ∃ (i : Nat) (y : Later w), i + k = ts.length ∧ v = .int .i64 i ∧ (∀ j, j < i → ts.getD j z4 = us.getD j z4) ∧ w' = y.W)
    case atStart => exact ⟨0, ⟨w, Below.refl _ _⟩, by omega, rfl, fun j hj => by omega, rfl⟩
    case round =>
      obtain ⟨i, y, hik, rfl, hs, rfl⟩ := hrel
      have HIK := Lib.hid hik
      have HS := Lib.hid hs
      clear hik hs
      by_cases hlt : i < ts.length
      · obtain ⟨b1, o1, hA, p0, p1, p2, p3⟩ := kT_at hC i hlt z4
        obtain ⟨b2, o2, hB, q0, q1, q2, q3⟩ := kT_at hD i (by have := HL.out; omega) z4
        subst hA
        subst hB
        have k1 : b1 < w.heap.size := World.block_lt_of_cell? w _ p0
        have k2 : b2 < w.heap.size := World.block_lt_of_cell? w _ q0
        have hi0 : (0 : Int) ≤ i := by omega
        have hi1 : (i : Int) < ts.length := by omega
        have hi2 : (i : Int) < us.length := by have := HL.out; omega
        have hin : ((i : Int)).toNat = i := by omega
        generalize ht : ts.getD i z4 = t at *
        generalize hu : us.getD i z4 = u at *
        have HT := Lib.hid ht
        have HU := Lib.hid hu
        clear ht hu
        cases he : (t == u) with
        | false =>
          go_wp2
          (first | refine wp_region_later2 (by kernel_rfl) (by kernel_rfl) ?_ | refine wp_region_later (by kernel_rfl) (by kernel_rfl) ?_); (repeat (go_big_quiet_step ((go_at_call 110; with_reducible exact quiet_later (eqTerm_c _ _ _))))); refine wpQuiet_nil ?_; intro x
          go_wp2
          go_ret
          refine .mk ?_ (by repeat (first | (with_reducible exact Below.refl _ _) | ((with_reducible refine Below.alloc ?_ ?_ _); rotate_left; (focus (first | omega | (simp; done) | (simp; omega)))) | ((with_reducible refine bel_later _ ?_ ?_); rotate_left; (focus (first | omega | (simp; done) | (simp; omega)))) | ((with_reducible refine Below.setCell ?_ ?_ _); rotate_left; (focus (first | omega | (simp; done) | (simp; omega))))))
          have hne : (ts == us) = false := by
            rw [beq_eq_false_iff_ne]
            intro hh
            rw [beq_eq_false_iff_ne] at he
            exact he (by rw [← HT.out, ← HU.out, hh])
          rw [hne]
          rfl
        | true =>
          go_wp2
          (first | refine wp_region_later2 (by kernel_rfl) (by kernel_rfl) ?_ | refine wp_region_later (by kernel_rfl) (by kernel_rfl) ?_); (repeat (go_big_quiet_step ((go_at_call 110; with_reducible exact quiet_later (eqTerm_c _ _ _))))); refine wpQuiet_nil ?_; intro x
          go_wp2
          go_roundg (gk - 1)
          case measure => have := HIK.out; omega
          case rel =>
            refine ⟨i + 1, x, by have := HIK.out; omega, by go_num, fun j hj => ?_, rfl⟩
            rcases Nat.lt_succ_iff_lt_or_eq.1 hj with g | g
            · exact HS.out j g
            · rw [g, HT.out, HU.out]
              exact eq_of_beq he
      · go_wp2
        go_ret
        refine .mk ?_ (by repeat (first | (with_reducible exact Below.refl _ _) | ((with_reducible refine Below.alloc ?_ ?_ _); rotate_left; (focus (first | omega | (simp; done) | (simp; omega)))) | ((with_reducible refine bel_later _ ?_ ?_); rotate_left; (focus (first | omega | (simp; done) | (simp; omega)))) | ((with_reducible refine Below.setCell ?_ ?_ _); rotate_left; (focus (first | omega | (simp; done) | (simp; omega))))))
        have heq : ts = us := by
          apply List.ext_getElem HL.out
          intro j h1 h2
          have := HS.out j (by omega)
          simpa [List.getD_eq_getElem?_getD, h1, h2] using this
        rw [heq, beq_self_eq_true]
        rfl
  · have hq : ((ts.length : Int) != us.length) = true := by rw [bne_iff_ne]; omega
    have he : (ts == us) = false := by
      rw [beq_eq_false_iff_ne]
      intro hh
      exact hl (by rw [hh])
    have HE := Lib.hid he
    clear he hl
    go_enter Try.func64, Try.ntmps64
    go_wp2
    go_ret
    exact .mk (by rw [HE.out]; rfl) (by repeat (first | (with_reducible exact Below.refl _ _) | ((with_reducible refine Below.alloc ?_ ?_ _); rotate_left; (focus (first | omega | (simp; done) | (simp; omega)))) | ((with_reducible refine bel_later _ ?_ ?_); rotate_left; (focus (first | omega | (simp; done) | (simp; omega)))) | ((with_reducible refine Below.setCell ?_ ?_ _); rotate_left; (focus (first | omega | (simp; done) | (simp; omega))))))
theorem eqPoly_c (p d p' d' : Int) (A B : Option Addr) (c b : Nat) (ts us : List T4) (w : World) (hC : kT.C w A ts.length ts) (hD : kT.C w B us.length us) (hn : ts.length ≤ 1048576) (hm : us.length ≤ 1048576) :
    Calls Try.prog 26 #[.agg #[.int .i64 p, .int .i64 d, .slice A ts.length c], .agg #[.int .i64 p', .int .i64 d', .slice B us.length b]] w (Gives (.bool (p == p' && d == d' && ts == us)) w) := by
  cases h1 : (p == p') with
  | false =>
    have g1 : (p != p') = true := by simp [bne, h1]
    go_enter Try.func26, Try.ntmps26
    go_wp2
    go_ret
    exact .mk rfl (by repeat (first | (with_reducible exact Below.refl _ _) | ((with_reducible refine Below.alloc ?_ ?_ _); rotate_left; (focus (first | omega | (simp; done) | (simp; omega)))) | ((with_reducible refine bel_later _ ?_ ?_); rotate_left; (focus (first | omega | (simp; done) | (simp; omega)))) | ((with_reducible refine Below.setCell ?_ ?_ _); rotate_left; (focus (first | omega | (simp; done) | (simp; omega))))))
  | true =>
  have g1 : (p != p') = false := by simp [bne, h1]
  cases h2 : (d == d') with
  | false =>
    have g2 : (d != d') = true := by simp [bne, h2]
    go_enter Try.func26, Try.ntmps26
    go_wp2
    go_ret
    exact .mk rfl (by repeat (first | (with_reducible exact Below.refl _ _) | ((with_reducible refine Below.alloc ?_ ?_ _); rotate_left; (focus (first | omega | (simp; done) | (simp; omega)))) | ((with_reducible refine bel_later _ ?_ ?_); rotate_left; (focus (first | omega | (simp; done) | (simp; omega)))) | ((with_reducible refine Below.setCell ?_ ?_ _); rotate_left; (focus (first | omega | (simp; done) | (simp; omega))))))
  | true =>
  have g2 : (d != d') = false := by simp [bne, h2]
  have hC1 := Kd.C_alloc (Kd.C_alloc hC (.cells #[.int .i64 p, .int .i64 d, .slice A ts.length c] 45)) (.cells #[.int .i64 p', .int .i64 d', .slice B us.length b] 45)
  have hD1 := Kd.C_alloc (Kd.C_alloc hD (.cells #[.int .i64 p, .int .i64 d, .slice A ts.length c] 45)) (.cells #[.int .i64 p', .int .i64 d', .slice B us.length b] 45)
  cases h3 : (ts == us) with
  | false =>
    have H := eqTermS_c A B c b ts us _ hC1 hD1 hn hm
    rw [h3] at H
    have HH := Lib.hid H
    clear H
    go_enter Try.func26, Try.ntmps26
    go_wp2_with ((go_at_call 64; (first | (with_reducible refine call_later2 (HH.out) ?_) | (with_reducible refine call_later (HH.out) ?_)); intro x))
    go_ret
    exact .mk rfl (by repeat (first | (with_reducible exact Below.refl _ _) | ((with_reducible refine Below.alloc ?_ ?_ _); rotate_left; (focus (first | omega | (simp; done) | (simp; omega)))) | ((with_reducible refine bel_later _ ?_ ?_); rotate_left; (focus (first | omega | (simp; done) | (simp; omega)))) | ((with_reducible refine Below.setCell ?_ ?_ _); rotate_left; (focus (first | omega | (simp; done) | (simp; omega))))))
  | true =>
    have H := eqTermS_c A B c b ts us _ hC1 hD1 hn hm
    rw [h3] at H
    have HH := Lib.hid H
    clear H
    go_enter Try.func26, Try.ntmps26
    go_wp2_with ((go_at_call 64; (first | (with_reducible refine call_later2 (HH.out) ?_) | (with_reducible refine call_later (HH.out) ?_)); intro x))
    go_ret
    exact .mk rfl (by repeat (first | (with_reducible exact Below.refl _ _) | ((with_reducible refine Below.alloc ?_ ?_ _); rotate_left; (focus (first | omega | (simp; done) | (simp; omega)))) | ((with_reducible refine bel_later _ ?_ ?_); rotate_left; (focus (first | omega | (simp; done) | (simp; omega)))) | ((with_reducible refine Below.setCell ?_ ?_ _); rotate_left; (focus (first | omega | (simp; done) | (simp; omega))))))
end Go.Proofs.Ytneknpamceipiaa
/- The walks of the degree and of DegreeOf, IsHomogeneous; no condition. -/
set_option linter.unusedVariables false
set_option linter.unusedSimpArgs false
namespace Go.Proofs.Ytneknpamceipiaa
open Go.RowKit Go.Proofs.YtneknpamceipiaaW.PrintWords
attribute [local go_sem] Later.cell Later.frozen Later.lt Later.lt_add Later.le Later.le_add Later.ne Later.ne' add_at
def degP (ts : List T4) : Int := if ts.length = 0 then -1 else degE (ts.getD (ts.length - 1) z4).e
set_option maxRecDepth 100000 in
theorem degreeP_c (p d : Int) (A : Option Addr) (c : Nat) (ts : List T4) (w : World) (hC : kT.C w A ts.length ts) (hn : ts.length ≤ 9223372036854775807) :
    Calls Try.prog 105 #[.agg #[.int .i64 p, .int .i64 d, .slice A ts.length c]] w (Gives (.int .i64 (degP ts)) w) := by
  by_cases h : ts.length = 0
  · have h0 : ((ts.length : Int) == 0) = true := by simpa using h
    have hr : degP ts = -1 := by simp [degP, h]
    rw [hr]
    clear h hr
    go_enter Try.func105, Try.ntmps105
    go_wp2
    go_ret
    exact .mk rfl (by repeat (first | (with_reducible exact Below.refl _ _) | (with_reducible refine Below.drew ?_) | (with_reducible refine pw_below_drewN ?_ _) | ((first | (with_reducible refine Below.alloc ?_ ?_ _) | (with_reducible refine bel_later _ ?_ ?_) | (with_reducible refine Below.setCell ?_ ?_ _)); rotate_left; (focus (first | omega | (simp; first | done | omega) | (simp [Later.le, Later.le_add, Later.lt, Later.lt_add]; first | done | omega))))))
  · have h0 : ((ts.length : Int) == 0) = false := by simpa using h
    obtain ⟨b, o, hA, q0, q1, q2, q3⟩ := kT_at hC (ts.length - 1) (by omega) z4
    have hr : degP ts = degE (ts.getD (ts.length - 1) z4).e := by simp [degP, h]
    rw [hr]
    subst hA
    have hb : b < w.heap.size := World.block_lt_of_cell? w _ q0
    have hi0 : (0 : Int) ≤ (ts.length : Int) - 1 := by omega
    have hi1 : (ts.length : Int) - 1 < ts.length := by omega
    have hin : ((ts.length : Int) - 1).toNat = ts.length - 1 := by omega
    generalize ts.getD (ts.length - 1) z4 = t at *
    clear h hr
    go_enter Try.func105, Try.ntmps105
    go_wp2_with ((go_at_call 103; (first | (with_reducible refine call_later2 (degree_c _ _) ?_) | (with_reducible refine call_later (degree_c _ _) ?_)); intro x))
    go_ret
    exact .mk rfl (by repeat (first | (with_reducible exact Below.refl _ _) | (with_reducible refine Below.drew ?_) | (with_reducible refine pw_below_drewN ?_ _) | ((first | (with_reducible refine Below.alloc ?_ ?_ _) | (with_reducible refine bel_later _ ?_ ?_) | (with_reducible refine Below.setCell ?_ ?_ _)); rotate_left; (focus (first | omega | (simp; first | done | omega) | (simp [Later.le, Later.le_add, Later.lt, Later.lt_add]; first | done | omega))))))
set_option maxRecDepth 100000 in
theorem l01Degree_c (p d : Int) (A : Option Addr) (c : Nat) (ts : List T4) (w : World) (hC : kT.C w A ts.length ts) (hn : ts.length ≤ 9223372036854775807) :
    Calls Try.prog 97 #[.agg #[.int .i64 p, .int .i64 d, .slice A ts.length c]] w (Gives (.int .i64 (degP ts)) w) := by
  by_cases h : ts.length = 0
  · have h0 : ((ts.length : Int) == 0) = true := by simpa using h
    have hr : degP ts = -1 := by simp [degP, h]
    rw [hr]
    clear h hr
    go_enter Try.func97, Try.ntmps97
    go_wp2
    go_ret
    exact .mk rfl (by repeat (first | (with_reducible exact Below.refl _ _) | (with_reducible refine Below.drew ?_) | (with_reducible refine pw_below_drewN ?_ _) | ((first | (with_reducible refine Below.alloc ?_ ?_ _) | (with_reducible refine bel_later _ ?_ ?_) | (with_reducible refine Below.setCell ?_ ?_ _)); rotate_left; (focus (first | omega | (simp; first | done | omega) | (simp [Later.le, Later.le_add, Later.lt, Later.lt_add]; first | done | omega))))))
  · have h0 : ((ts.length : Int) == 0) = false := by simpa using h
    obtain ⟨b, o, hA, q0, q1, q2, q3⟩ := kT_at hC (ts.length - 1) (by omega) z4
    have hr : degP ts = degE (ts.getD (ts.length - 1) z4).e := by simp [degP, h]
    rw [hr]
    subst hA
    have hb : b < w.heap.size := World.block_lt_of_cell? w _ q0
    have hi0 : (0 : Int) ≤ (ts.length : Int) - 1 := by omega
    have hi1 : (ts.length : Int) - 1 < ts.length := by omega
    have hin : ((ts.length : Int) - 1).toNat = ts.length - 1 := by omega
    generalize ts.getD (ts.length - 1) z4 = t at *
    clear h hr
    go_enter Try.func97, Try.ntmps97
    go_wp2_with ((go_at_call 142; (first | (with_reducible refine call_later2 (l01Sum_c _ _) ?_) | (with_reducible refine call_later (l01Sum_c _ _) ?_)); intro x))
    go_ret
    exact .mk rfl (by repeat (first | (with_reducible exact Below.refl _ _) | (with_reducible refine Below.drew ?_) | (with_reducible refine pw_below_drewN ?_ _) | ((first | (with_reducible refine Below.alloc ?_ ?_ _) | (with_reducible refine bel_later _ ?_ ?_) | (with_reducible refine Below.setCell ?_ ?_ _)); rotate_left; (focus (first | omega | (simp; first | done | omega) | (simp [Later.le, Later.le_add, Later.lt, Later.lt_add]; first | done | omega))))))
/-! ### IsHomogeneous -/
theorem degP_bd (ts : List T4) : -1 ≤ degP ts ∧ degP ts < 768 := by
  unfold degP
  split
  · omega
  · have := degE_bd (ts.getD (ts.length - 1) z4).e
    omega
end Go.Proofs.Ytneknpamceipiaa
/- The walks of the functions on lists of numbers; no condition. -/
set_option linter.unusedVariables false
set_option linter.unusedSimpArgs false
namespace Go.Proofs.Ytneknpamceipiaa
open Go.RowKit Go.Proofs.YtneknpamceipiaaW.PrintWords
attribute [local go_sem] Later.cell Later.frozen Later.lt Later.lt_add Later.le Later.le_add Later.ne Later.ne' add_at
theorem below_hop {C B : Nat} {w0 V W : World} (h : Below C V W) (h1 : Below B w0 V) (h2 : B ≤ C) : Below B w0 W := h1.trans (h.mono h2)
theorem infoI1 : (Try.prog.info? 2).map (·.size) = some 1 := by kernel_rfl
end Go.Proofs.Ytneknpamceipiaa
/- The walks of the value at a point; no condition. -/
set_option linter.unusedVariables false
set_option linter.unusedSimpArgs false
namespace Go.Proofs.Ytneknpamceipiaa
open Go.RowKit Go.Proofs.YtneknpamceipiaaW.PrintWords
attribute [local go_sem] Later.cell Later.frozen Later.lt Later.lt_add Later.le Later.le_add Later.ne Later.ne' add_at
def E3.at (e : E3) (k : Nat) : UInt8 := if k = 0 then e.a else if k = 1 then e.b else e.c
theorem lt3 {i : Nat} (h : i < 3) : i = 0 ∨ i = 1 ∨ i = 2 := by omega
theorem mod_bd {p : Int} (n : Int) (hp : 2 ≤ p) : 0 ≤ n % p ∧ n % p < p := ⟨Int.emod_nonneg _ (by omega), Int.emod_lt_of_pos _ (by omega)⟩
theorem i64_small {n : Int} (h1 : -9223372036854775808 ≤ n) (h2 : n ≤ 9223372036854775807) : IntKind.i64.wrap n = n := IntWalk.i64_in _ (by omega)
end Go.Proofs.Ytneknpamceipiaa
/- The walks of ValueAt of both sides; no condition. -/
set_option linter.unusedVariables false
set_option linter.unusedSimpArgs false
namespace Go.Proofs.Ytneknpamceipiaa
open Go.RowKit Go.Proofs.YtneknpamceipiaaW.PrintWords
attribute [local go_sem] Later.cell Later.frozen Later.lt Later.lt_add Later.le Later.le_add Later.ne Later.ne' add_at
end Go.Proofs.Ytneknpamceipiaa
/- The walks of the functions that read a list of exponents, and of coefficients; no condition. -/
set_option linter.unusedVariables false
set_option linter.unusedSimpArgs false
namespace Go.Proofs.Ytneknpamceipiaa
open Go.RowKit Go.Proofs.YtneknpamceipiaaW.PrintWords
attribute [local go_sem] Later.cell Later.frozen Later.lt Later.lt_add Later.le Later.le_add Later.ne Later.ne' add_at
def z3 : E3 := ⟨0, 0, 0⟩
end Go.Proofs.Ytneknpamceipiaa
/- The walks of the reference's list of exponents, and of coefficients of both sides; no condition. -/
set_option linter.unusedVariables false
set_option linter.unusedSimpArgs false
namespace Go.Proofs.Ytneknpamceipiaa
open Go.RowKit Go.Proofs.YtneknpamceipiaaW.PrintWords
attribute [local go_sem] Later.cell Later.frozen Later.lt Later.lt_add Later.le Later.le_add Later.ne Later.ne' add_at
/-- What a call that only computes and leaves the world as it was leaves. -/
def Same (v : Value) (w : World) (e : Ending) (w' : World) : Prop := e = .returned v ∧ w' = w
theorem Same.mk {v v' : Value} {w : World} (h : v = v') : Same v' w (.returned v) w := ⟨by rw [h], rfl⟩
theorem call_same {P : Program} {f : FuncId} {args : Array Value} {w : World} {v : Value} {R : Ending → World → Prop}
    (h : Calls P f args w (Same v w)) (k : R (.returned v) w) : Calls P f args w R :=
  h.mono fun _ w' ⟨he, hb⟩ => by subst he; subst hb; exact k
/-- The coefficient of a monomial. -/
def coefL : List T4 → E3 → Int
  | [], _ => 0
  | t :: r, e => if t.e = e then t.v else coefL r e
theorem coefL_hit (e : E3) : ∀ (ts : List T4) (i : Nat), i < ts.length → (∀ j, j < i → (ts.getD j z4).e ≠ e) → (ts.getD i z4).e = e → coefL ts e = (ts.getD i z4).v
  | [], i, h, _, _ => by simp at h
  | t :: r, 0, _, _, h => by
    have h : t.e = e := h
    rw [coefL, if_pos h]
    rfl
  | t :: r, i + 1, hi, h, he => by
    have h0 : t.e ≠ e := h 0 (by omega)
    rw [coefL, if_neg h0]
    exact coefL_hit e r i (by simpa using hi) (fun j hj => h (j + 1) (by omega)) he
theorem coefL_miss (e : E3) : ∀ (ts : List T4), (∀ j, j < ts.length → (ts.getD j z4).e ≠ e) → coefL ts e = 0
  | [], _ => rfl
  | t :: r, h => by
    have h0 : t.e ≠ e := h 0 (by simp)
    rw [coefL, if_neg h0]
    exact coefL_miss e r (fun j hj => h (j + 1) (by simpa using hj))
theorem ne_step {ts : List T4} {e : E3} {i : Nat} (h : ∀ j, j < i → (ts.getD j z4).e ≠ e) (h1 : (ts.getD i z4).e ≠ e) : ∀ j, j < i + 1 → (ts.getD j z4).e ≠ e := by
  intro j hj
  rcases Nat.lt_succ_iff_lt_or_eq.1 hj with g | g
  · exact h j g
  · rw [g]
    exact h1
end Go.Proofs.Ytneknpamceipiaa
/- Equality of monomials, terms and matrices, as the walk meets it; no condition. -/
set_option linter.unusedVariables false
set_option linter.unusedSimpArgs false
namespace Go.Proofs.Ytneknpamceipiaa
open Go.RowKit Go.Proofs.YtneknpamceipiaaW.PrintWords
attribute [local go_sem] Later.cell Later.frozen Later.lt Later.lt_add Later.le Later.le_add Later.ne Later.ne' add_at
theorem guardE : Try.prog.eqGuardType Try.prog.depth 119 = false := by kernel_rfl
theorem run_eqE (t e : E3) (w : World) : (binOp .eql 119 (.agg #[.int .u8 (t.a.toNat : Int), .int .u8 (t.b.toNat : Int), .int .u8 (t.c.toNat : Int)]) (.agg #[.int .u8 (e.a.toNat : Int), .int .u8 (e.b.toNat : Int), .int .u8 (e.c.toNat : Int)])).run Try.prog w = .ok (.bool (t == e)) w := by
  have h := run_eql_bytes (P := Try.prog) w 119 5 3 Try.underlying119 Try.underlying5 Try.sizeOf5 [t.a, t.b, t.c] [e.a, e.b, e.c] rfl rfl
  have e0 : ([t.a, t.b, t.c] == [e.a, e.b, e.c]) = (t == e) := by
    obtain ⟨a, b, c⟩ := t
    obtain ⟨a', b', c'⟩ := e
    rw [Bool.eq_iff_iff]
    simp
  rw [e0] at h
  exact h
theorem run_neE (t e : E3) (w : World) : (binOp .neq 119 (.agg #[.int .u8 (t.a.toNat : Int), .int .u8 (t.b.toNat : Int), .int .u8 (t.c.toNat : Int)]) (.agg #[.int .u8 (e.a.toNat : Int), .int .u8 (e.b.toNat : Int), .int .u8 (e.c.toNat : Int)])).run Try.prog w = .ok (.bool (t != e)) w := by
  have h := run_equalIn_bytes (P := Try.prog) w 9998 119 5 3 Try.underlying119 Try.underlying5 Try.sizeOf5 [t.a, t.b, t.c] [e.a, e.b, e.c] rfl rfl
  have e0 : ([t.a, t.b, t.c] == [e.a, e.b, e.c]) = (t == e) := by
    obtain ⟨a, b, c⟩ := t
    obtain ⟨a', b', c'⟩ := e
    rw [Bool.eq_iff_iff]
    simp
  rw [e0] at h
  rw [run_neq_struct]
  have h' : (Op.equalIn 10000 119 (.agg #[.int .u8 (t.a.toNat : Int), .int .u8 (t.b.toNat : Int), .int .u8 (t.c.toNat : Int)]) (.agg #[.int .u8 (e.a.toNat : Int), .int .u8 (e.b.toNat : Int), .int .u8 (e.c.toNat : Int)])).run Try.prog w = .ok (t == e) w := h
  rw [h']
  rfl
end Go.Proofs.Ytneknpamceipiaa
/- The walks of coefficients of both sides; no condition. -/
set_option linter.unusedVariables false
set_option linter.unusedSimpArgs false
namespace Go.Proofs.Ytneknpamceipiaa
open Go.RowKit Go.Proofs.YtneknpamceipiaaW.PrintWords
attribute [local go_sem] Later.cell Later.frozen Later.lt Later.lt_add Later.le Later.le_add Later.ne Later.ne' add_at
attribute [local go_sem 2000] run_eqE run_neE guardE
set_option maxRecDepth 100000 in
theorem l01At_c (p d : Int) (A : Option Addr) (c : Nat) (ts : List T4) (e : E3) (w : World) (hC : kT.C w A ts.length ts) (hn : ts.length ≤ 9223372036854775807) :
    Calls Try.prog 174 #[.agg #[.int .i64 p, .int .i64 d, .slice A ts.length c], .agg #[.int .u8 (e.a.toNat : Int), .int .u8 (e.b.toNat : Int), .int .u8 (e.c.toNat : Int)]] w (Gives (.int .i64 (coefL ts e)) w) := by
  go_enter Try.func174, Try.ntmps174
  go_wp2
  go_loopg [5] ts.length (fun k v w' => ∃ (i : Nat) (y : Later ((w.alloc (.cells #[.int .i64 p, .int .i64 d, .slice A ts.length c] 45)).alloc (.cells #[.int .u8 (e.a.toNat : Int), .int .u8 (e.b.toNat : Int), .int .u8 (e.c.toNat : Int)] 119))), i + k = ts.length ∧ v = .int .i64 i ∧ (∀ j, j < i → (ts.getD j z4).e ≠ e) ∧ w' = y.W)
  case atStart => exact ⟨0, ⟨_, Below.refl _ _⟩, by omega, rfl, fun j hj => by omega, rfl⟩
  case round =>
    obtain ⟨i, y, hik, rfl, hs, rfl⟩ := hrel
    have HIK := Lib.hid hik
    have HS := Lib.hid hs
    clear hik hs
    have e0 : y.W.cell? ⟨w.heap.size + 1, 0, none⟩ = some (.int .u8 (e.a.toNat : Int)) := y.keep (by simp)
    have e1 : y.W.cell? ⟨w.heap.size + 1, 1, none⟩ = some (.int .u8 (e.b.toNat : Int)) := y.keep (by simp)
    have e2 : y.W.cell? ⟨w.heap.size + 1, 2, none⟩ = some (.int .u8 (e.c.toNat : Int)) := y.keep (by simp)
    have g2 : y.W.cell? ⟨w.heap.size, 2, none⟩ = some (.slice A ts.length c) := y.keep (by simp)
    have hz := World.block_lt_of_cell? _ _ e0
    by_cases hlt : i < ts.length
    · obtain ⟨b, o, hA, q0, q1, q2, q3⟩ := kT_at hC i hlt z4
      subst hA
      have hb := World.block_lt_of_cell? _ _ q0
      have q0 := cell_alloc (cell_alloc q0 (.cells #[.int .i64 p, .int .i64 d, .slice (some ⟨b, o, none⟩) ts.length c] 45)) (.cells #[.int .u8 (e.a.toNat : Int), .int .u8 (e.b.toNat : Int), .int .u8 (e.c.toNat : Int)] 119)
      have q1 := cell_alloc (cell_alloc q1 (.cells #[.int .i64 p, .int .i64 d, .slice (some ⟨b, o, none⟩) ts.length c] 45)) (.cells #[.int .u8 (e.a.toNat : Int), .int .u8 (e.b.toNat : Int), .int .u8 (e.c.toNat : Int)] 119)
      have q2 := cell_alloc (cell_alloc q2 (.cells #[.int .i64 p, .int .i64 d, .slice (some ⟨b, o, none⟩) ts.length c] 45)) (.cells #[.int .u8 (e.a.toNat : Int), .int .u8 (e.b.toNat : Int), .int .u8 (e.c.toNat : Int)] 119)
      have q3 := cell_alloc (cell_alloc q3 (.cells #[.int .i64 p, .int .i64 d, .slice (some ⟨b, o, none⟩) ts.length c] 45)) (.cells #[.int .u8 (e.a.toNat : Int), .int .u8 (e.b.toNat : Int), .int .u8 (e.c.toNat : Int)] 119)
      generalize hV : ((w.alloc (.cells #[.int .i64 p, .int .i64 d, .slice (some ⟨b, o, none⟩) ts.length c] 45)).alloc (.cells #[.int .u8 (e.a.toNat : Int), .int .u8 (e.b.toNat : Int), .int .u8 (e.c.toNat : Int)] 119)) = V at *
      have v0 : V.cell? ⟨w.heap.size + 1, 0, none⟩ = some (.int .u8 (e.a.toNat : Int)) := by rw [← hV]; simp
      have v1 : V.cell? ⟨w.heap.size + 1, 1, none⟩ = some (.int .u8 (e.b.toNat : Int)) := by rw [← hV]; simp
      have v2 : V.cell? ⟨w.heap.size + 1, 2, none⟩ = some (.int .u8 (e.c.toNat : Int)) := by rw [← hV]; simp
      have v3 : V.cell? ⟨w.heap.size, 2, none⟩ = some (.slice (some ⟨b, o, none⟩) ts.length c) := by rw [← hV]; simp
      have v4 : w.heap.size + 1 < V.heap.size := World.block_lt_of_cell? _ _ v0
      have v5 : w.heap.size < V.heap.size := World.block_lt_of_cell? _ _ v3
      have v6 : b < V.heap.size := World.block_lt_of_cell? _ _ q0
      have hVb : Below w.heap.size w V := by rw [← hV]; exact (by repeat (first | (with_reducible assumption) | (with_reducible exact Below.refl _ _) | (with_reducible refine Below.drew ?_) | (with_reducible refine pw_below_drewN ?_ _) | ((first | (with_reducible refine Below.alloc ?_ ?_ _) | (with_reducible refine Below.setCell ?_ ?_ _) | (with_reducible refine below_hop (by assumption) ?_ ?_)); rotate_left; (focus (first | omega | (simp; first | done | omega) | (simp [Later.le, Later.le_add, Later.lt, Later.lt_add]; first | done | omega)))) | ((with_reducible refine bel_later _ ?_ ?_); rotate_left; (focus (first | omega | (simp; first | done | omega) | (simp [Later.le, Later.le_add, Later.lt, Later.lt_add]; first | done | omega))))))
      clear hV
      have hi0 : (0 : Int) ≤ i := by omega
      have hi1 : (i : Int) < ts.length := by omega
      have hin : ((i : Int)).toNat = i := by omega
      generalize ht : ts.getD i z4 = t at *
      have HT := Lib.hid ht
      clear ht
      cases he : (t.e == e) with
      | true =>
        have he' : t.e = e := eq_of_beq he
        have hr : coefL ts e = t.v := by
          rw [← HT.out]
          exact coefL_hit e ts i hlt HS.out (by rw [HT.out]; exact he')
        rw [hr]
        go_wp2
        (first | refine wp_region_later2 (by kernel_rfl) (by kernel_rfl) ?_ | refine wp_region_later (by kernel_rfl) (by kernel_rfl) ?_); (repeat (go_big_quiet_step (fail))); refine wpQuiet_nil ?_; intro x
        go_wp2
        go_ret
        exact .mk rfl (by repeat (first | (with_reducible assumption) | (with_reducible exact Below.refl _ _) | (with_reducible refine Below.drew ?_) | (with_reducible refine pw_below_drewN ?_ _) | ((first | (with_reducible refine Below.alloc ?_ ?_ _) | (with_reducible refine Below.setCell ?_ ?_ _) | (with_reducible refine below_hop (by assumption) ?_ ?_)); rotate_left; (focus (first | omega | (simp; first | done | omega) | (simp [Later.le, Later.le_add, Later.lt, Later.lt_add]; first | done | omega)))) | ((with_reducible refine bel_later _ ?_ ?_); rotate_left; (focus (first | omega | (simp; first | done | omega) | (simp [Later.le, Later.le_add, Later.lt, Later.lt_add]; first | done | omega))))))
      | false =>
        have he' : t.e ≠ e := by simpa using he
        have HE := Lib.hid he'
        clear he'
        go_wp2
        (first | refine wp_region_later2 (by kernel_rfl) (by kernel_rfl) ?_ | refine wp_region_later (by kernel_rfl) (by kernel_rfl) ?_); (repeat (go_big_quiet_step (fail))); refine wpQuiet_nil ?_; intro x
        go_wp2
        go_roundg (gk - 1)
        case measure => have := HIK.out; omega
        case rel => exact ⟨i + 1, x, by have := HIK.out; omega, by go_num, ne_step HS.out (by rw [HT.out]; exact HE.out), rfl⟩
    · have hr : coefL ts e = 0 := coefL_miss e ts (fun j hj => HS.out j (by have := HIK.out; omega))
      rw [hr]
      go_wp2
      go_ret
      exact .mk rfl (by repeat (first | (with_reducible assumption) | (with_reducible exact Below.refl _ _) | (with_reducible refine Below.drew ?_) | (with_reducible refine pw_below_drewN ?_ _) | ((first | (with_reducible refine Below.alloc ?_ ?_ _) | (with_reducible refine Below.setCell ?_ ?_ _) | (with_reducible refine below_hop (by assumption) ?_ ?_)); rotate_left; (focus (first | omega | (simp; first | done | omega) | (simp [Later.le, Later.le_add, Later.lt, Later.lt_add]; first | done | omega)))) | ((with_reducible refine bel_later _ ?_ ?_); rotate_left; (focus (first | omega | (simp; first | done | omega) | (simp [Later.le, Later.le_add, Later.lt, Later.lt_add]; first | done | omega))))))
end Go.Proofs.Ytneknpamceipiaa
/- The walks of the marks on rows of terms, and of the look at them; no condition. -/
set_option linter.unusedVariables false
set_option linter.unusedSimpArgs false
namespace Go.Proofs.Ytneknpamceipiaa
open Go.RowKit Go.Proofs.YtneknpamceipiaaW.PrintWords
attribute [local go_sem] Later.cell Later.frozen Later.lt Later.lt_add Later.le Later.le_add Later.ne Later.ne' add_at
theorem infoU1 : (Try.prog.info? 5).map (·.size) = some 1 := by kernel_rfl
theorem grown_trans {a w w' : World} {row : Option Nat} (h : a.grownBy w row) (k : w.grownBy w' row) : a.grownBy w' row :=
  ⟨k.os.trans h.os, k.tape.trans h.tape, k.output.trans h.output, Nat.le_trans h.size k.size, fun i hi hr => (k.block i (Nat.lt_of_lt_of_le hi h.size) hr).trans (h.block i hi hr)⟩
/-- The byte that a number leaves. -/
def uB (k : Int) : UInt8 := UInt8.ofNat (k % 256).toNat
theorem uB_nat (k : Int) : ((uB k).toNat : Int) = k % 256 := by
  unfold uB
  rw [UInt8.toNat_ofNat']
  have h1 := Int.emod_nonneg k (show (256 : Int) ≠ 0 by omega)
  have h2 := Int.emod_lt_of_pos k (show (0 : Int) < 256 by omega)
  omega
def markT (k : Int) : T4 := ⟨⟨uB k, uB (k + 1), uB (k + 2)⟩, k + 3⟩
def marksL (k : Int) (n : Nat) : List T4 := (List.range n).map (fun i : Nat => markT (k + 4 * i))
theorem marksL_len (k : Int) (n : Nat) : (marksL k n).length = n := by simp [marksL]
theorem marksL_get (k : Int) (n i : Nat) (h : i < n) (z : T4) : (marksL k n).getD i z = markT (k + 4 * i) := by
  simp [marksL, List.getD_eq_getElem?_getD, h]
theorem marks_step (k : Int) (ts : List T4) (i : Nat) (hi : i < ts.length) (t : T4) (ht : t = markT (k + 4 * i)) : (marksL k i ++ ts.drop i).set i t = marksL k (i + 1) ++ ts.drop (i + 1) := by
  rw [List.set_append_right _ _ (by rw [marksL_len]; omega), marksL_len, Nat.sub_self, List.drop_eq_getElem_cons hi, List.set_cons_zero, marksL, marksL, List.range_succ, List.map_append, List.append_assoc, ht]
  rfl
theorem getD_set {α : Type} (l : List α) (i : Nat) (x z : α) (h : i < l.length) : (l.set i x).getD i z = x := by simp [List.getD_eq_getElem?_getD, h]
theorem M_eq {w : World} {base : Nat} {ok : Nat → Prop} {t : T4} {cs : List Value} (h : kT.M w base ok t cs) : cs = t.cs := h
/-- One cell of a term is written. -/
theorem term_set {w0 W : World} {P : Program} {ops : Array Oper} {rest : List Oper} {o : Oper} {a : Act} {Q : Exit → Act → World → Prop} {base e : Nat} (hN : o.dst = none) (hgd : o.guard = none) (ty : TypeId) (p x : Operand) (ho : o.op = .store ty p x)
    {g n cap o' : Nat} (i : Nat) (j : Nat) (xs : List T4) (t t' : T4) (u : Value) (ok : Nat → Prop)
    (haddr : a.eval p = .pointer (some ⟨g, o', none⟩)) (hoff : o' = i * 4 + j) (hx : a.eval x = u) (hu : u.cells.toList = [u]) (ht : (P.info? ty).map (·.size) = some 1) (h1 : u.oneCell' = true)
    (HO : kT.R e W base ok (.slice (some ⟨g, 0, none⟩) n cap) xs) (hi : i < n) (hget : xs.getD i z4 = t) (hj : j < 4) (hM : t'.cs = t.cs.take j ++ [u] ++ t.cs.drop (j + 1)) (HB : Below base w0 W)
    (h : ∀ w1, kT.R e w1 base ok (.slice (some ⟨g, 0, none⟩) n cap) (xs.set i t') → Below base w0 w1 → W.grownBy w1 (some g) → wpList P ops Q rest a w1) : wpList P ops Q (o :: rest) a W := by
  obtain ⟨cc, hcl, hMM, hcc, _⟩ := Kd.R_elem HO z4 (i : Int) (by omega) (by omega)
  rw [Int.toNat_natCast, hget] at hMM
  have hce : cc = t.cs := M_eq hMM
  subst hce
  refine Kd.R_store kT base hN hgd ty p x ho e (i : Int) j xs t' u [u] t.cs ok (fun _ => False) haddr (by rw [Int.toNat_natCast]; exact hoff) hx hu ht (by intro q hq; rw [List.mem_singleton.1 hq]; exact h1) HO (by omega) (by omega) hcl hcc (by show j + 1 ≤ 4; omega) hM.symm (fun _ hf => hf.elim) HB ?_
  intro w1 hR hB hg
  rw [Int.toNat_natCast] at hR
  exact h w1 hR hB hg
set_option maxRecDepth 100000 in
set_option maxHeartbeats 1000000 in
theorem markTermS_c (A : Option Addr) (c : Nat) (ts : List T4) (k : Int) (w : World) (base : Nat) (ok : Nat → Prop) (hR : kT.R 121 w base ok (.slice A ts.length c) ts) (hn : ts.length ≤ 1048576) (hk : 0 ≤ k) (hk' : k ≤ 1099511627776) :
    Calls Try.prog 65 #[.slice A ts.length c, .int .i64 k] w (fun e w' => e = .returned (.int .i64 (k + 4 * ts.length)) ∧ kT.R 121 w' base ok (.slice A ts.length c) (marksL k ts.length) ∧ w.grownBy w' (Value.slice A ts.length c).ownBlock) := by
  go_enter Try.func65, Try.ntmps65
  go_wp2
  go_loopg [5, 1] ts.length (fun g v kk w' => ∃ i : Nat, i + g = ts.length ∧ v = .int .i64 i ∧ kk = .int .i64 (k + 4 * i) ∧ kT.R 121 w' base ok (.slice A ts.length c) (marksL k i ++ ts.drop i) ∧ w.grownBy w' (Value.slice A ts.length c).ownBlock)
  case atStart => exact ⟨0, by omega, rfl, by simp, by simpa [marksL] using hR, World.grownBy.refl _ _⟩
  case round =>
    obtain ⟨i, hik, rfl, rfl, hR1, hg⟩ := hrel
    have HIK := Lib.hid hik
    have HG := Lib.hid hg
    clear hik hg hR
    by_cases hlt : i < ts.length
    · obtain ⟨g, cap, hv, hg0, hg1, cells, hcells⟩ := Kd.R_form hR1 (by simp [marksL_len]; omega)
      injection hv with hv1 hv2 hv3
      subst hv1
      subst hv3
      clear hcells hv2
      have hlx : i < (marksL k i ++ ts.drop i).length := by simp [marksL_len]; omega
      have hset := fun t ht => marks_step k ts i hlt t ht
      have HSET := Lib.hid hset
      clear hset
      generalize hxs : marksL k i ++ ts.drop i = xs at *
      have HXS := Lib.hid hxs
      clear hxs
      generalize ht : xs.getD i z4 = t at *
      have hi0 : (0 : Int) ≤ i := by omega
      have hi1 : (i : Int) < ts.length := by omega
      have hin : ((i : Int)).toNat = i := by omega
      have HB0 : Below base wr wr := Below.refl _ _
      go_wp2
      refine wp_loop_rounds 4 ?_
      rw [rounds_succ]
      go_wp2_with (((with_reducible refine gate_ (.store 5 (.tmp 24) (.tmp 21)) rfl ?_); refine term_set rfl rfl 5 (.tmp 24) (.tmp 21) rfl i 0 _ (t) (⟨⟨uB (k + 4 * i), t.e.b, t.e.c⟩, t.v⟩) (.int .u8 ((k + 4 * i) % 256)) _ rfl (by omega) rfl rfl infoU1 rfl hR1 (by omega) (by first | assumption | exact getD_set _ _ _ _ (by simpa using hlx)) (by omega) (by simp only [T4.cs, uB_nat]; rfl) HB0 ?_; intro w2 hR2 HB1 hg2))
      rw [rounds_succ]
      go_wp2_with (((with_reducible refine gate_ (.store 5 (.tmp 24) (.tmp 21)) rfl ?_); refine term_set rfl rfl 5 (.tmp 24) (.tmp 21) rfl i 1 _ (⟨⟨uB (k + 4 * i), t.e.b, t.e.c⟩, t.v⟩) (⟨⟨uB (k + 4 * i), uB (k + 4 * i + 1), t.e.c⟩, t.v⟩) (.int .u8 ((k + 4 * i + 1) % 256)) _ rfl (by omega) rfl rfl infoU1 rfl hR2 (by omega) (by first | assumption | exact getD_set _ _ _ _ (by simpa using hlx)) (by omega) (by simp only [T4.cs, uB_nat]; rfl) HB1 ?_; intro w2 hR3 HB2 hg3))
      rw [rounds_succ]
      go_wp2_with (((with_reducible refine gate_ (.store 5 (.tmp 24) (.tmp 21)) rfl ?_); refine term_set rfl rfl 5 (.tmp 24) (.tmp 21) rfl i 2 _ (⟨⟨uB (k + 4 * i), uB (k + 4 * i + 1), t.e.c⟩, t.v⟩) (⟨⟨uB (k + 4 * i), uB (k + 4 * i + 1), uB (k + 4 * i + 1 + 1)⟩, t.v⟩) (.int .u8 ((k + 4 * i + 1 + 1) % 256)) _ rfl (by omega) rfl rfl infoU1 rfl hR3 (by omega) (by first | assumption | exact getD_set _ _ _ _ (by simpa using hlx)) (by omega) (by simp only [T4.cs, uB_nat]; rfl) HB2 ?_; intro w2 hR4 HB3 hg4))
      rw [rounds_succ]
      go_wp2_with (((with_reducible refine gate_ (.store 2 (.tmp 31) (.tmp 29)) rfl ?_); refine term_set rfl rfl 2 (.tmp 31) (.tmp 29) rfl i 3 _ (⟨⟨uB (k + 4 * i), uB (k + 4 * i + 1), uB (k + 4 * i + 1 + 1)⟩, t.v⟩) (⟨⟨uB (k + 4 * i), uB (k + 4 * i + 1), uB (k + 4 * i + 1 + 1)⟩, k + 4 * i + 1 + 1 + 1⟩) (.int .i64 (k + 4 * i + 1 + 1 + 1)) _ rfl (by omega) rfl rfl infoI1 rfl hR4 (by omega) (by first | assumption | exact getD_set _ _ _ _ (by simpa using hlx)) (by omega) (by simp only [T4.cs, uB_nat]; rfl) HB3 ?_; intro w2 hR5 HB4 hg5))
      go_roundg (ts.length - i - 1)
      case measure => have := HIK.out; omega
      case rel =>
        refine ⟨i + 1, by have := HIK.out; omega, by go_num, by go_num, ?_, grown_trans (grown_trans (grown_trans (grown_trans HG.out hg2) hg3) hg4) hg5⟩
        rw [List.set_set, List.set_set, List.set_set, HSET.out _ (by rw [markT, show k + 4 * (i : Int) + 2 = k + 4 * i + 1 + 1 by omega, show k + 4 * (i : Int) + 3 = k + 4 * i + 1 + 1 + 1 by omega])] at hR5
        exact hR5
    · go_wp2
      go_ret
      have e : i = ts.length := by have := HIK.out; omega
      subst e
      exact ⟨rfl, by simpa using hR1, HG.out⟩
set_option maxRecDepth 100000 in
set_option maxHeartbeats 1000000 in
theorem heldTermS_c (A : Option Addr) (c : Nat) (n : Nat) (k : Int) (w : World) (hC : kT.C w A n (marksL k n)) (hn : n ≤ 1048576) (hk : 0 ≤ k) (hk' : k ≤ 1099511627776) :
    Calls Try.prog 66 #[.slice A n c, .int .i64 k] w (Same (.int .i64 (k + 4 * n)) w) := by
  go_enter Try.func66, Try.ntmps66
  go_wp2
  go_loopg [5, 1] n (fun g v kk w' => ∃ i : Nat, i + g = n ∧ v = .int .i64 i ∧ kk = .int .i64 (k + 4 * i) ∧ w' = w)
  case atStart => exact ⟨0, by omega, rfl, by simp, rfl⟩
  case round =>
    obtain ⟨i, hik, rfl, rfl, rfl⟩ := hrel
    have HIK := Lib.hid hik
    clear hik
    by_cases hlt : i < n
    · obtain ⟨b, o, hA, q0, q1, q2, q3⟩ := kT_at hC i hlt z4
      rw [marksL_get k n i hlt] at q0 q1 q2 q3
      simp only [markT, uB_nat] at q0 q1 q2 q3
      subst hA
      have hi0 : (0 : Int) ≤ i := by omega
      have hi1 : (i : Int) < n := by omega
      have hin : ((i : Int)).toNat = i := by omega
      have e2 : k + 4 * (i : Int) + 2 = k + 4 * i + 1 + 1 := by omega
      have e3 : k + 4 * (i : Int) + 3 = k + 4 * i + 1 + 1 + 1 := by omega
      rw [e2] at q2
      rw [e3] at q3
      clear e2 e3
      go_wp2
      refine wp_loop_rounds 4 ?_
      rw [rounds_succ]
      go_wp2
      rw [rounds_succ]
      go_wp2
      rw [rounds_succ]
      go_wp2
      rw [rounds_succ]
      go_wp2
      go_roundg (n - i - 1)
      case measure => have := HIK.out; omega
      case rel => exact ⟨i + 1, by have := HIK.out; omega, by go_num, by go_num, rfl⟩
    · go_wp2
      go_ret
      have e : i = n := by have := HIK.out; omega
      subst e
      exact .mk rfl
theorem markPoly_c (p d : Int) (A : Option Addr) (c : Nat) (ts : List T4) (k : Int) (w : World) (base : Nat) (ok : Nat → Prop) (hR : kT.R 121 w base ok (.slice A ts.length c) ts) (hn : ts.length ≤ 1048576) (hk : 0 ≤ k) (hk' : k ≤ 1099511627776) :
    Calls Try.prog 28 #[.agg #[.int .i64 p, .int .i64 d, .slice A ts.length c], .int .i64 k] w (fun e w' => e = .returned (.int .i64 (k + 4 * ts.length)) ∧ kT.R 121 w' base ok (.slice A ts.length c) (marksL k ts.length) ∧ w.grownBy w' (Value.slice A ts.length c).ownBlock) := by
  have H := markTermS_c A c ts k _ base ok (Kd.R_below hR (Below.alloc (Below.refl _ _) (Nat.le_refl _) (.cells #[.int .i64 p, .int .i64 d, .slice A ts.length c] 45))) hn hk hk'
  go_enter Try.func28, Try.ntmps28
  go_wp2_with (go_at_call 65; refine H.mono ?_; intro e w' h; obtain ⟨rfl, hR', hg⟩ := h)
  go_ret
  exact ⟨rfl, hR', grown_trans (World.grownBy_alloc _ _ _) hg⟩
theorem heldPoly_c (p d : Int) (A : Option Addr) (c : Nat) (n : Nat) (k : Int) (w : World) (hC : kT.C w A n (marksL k n)) (hn : n ≤ 1048576) (hk : 0 ≤ k) (hk' : k ≤ 1099511627776) :
    Calls Try.prog 30 #[.agg #[.int .i64 p, .int .i64 d, .slice A n c], .int .i64 k] w (Gives (.int .i64 (k + 4 * n)) w) := by
  have hC' := Kd.C_alloc hC (.cells #[.int .i64 p, .int .i64 d, .slice A n c] 45)
  go_enter Try.func30, Try.ntmps30
  go_wp2_with (go_at_call 66; (with_reducible refine call_same (heldTermS_c _ _ _ _ _ hC' hn hk hk') ?_))
  go_ret
  exact .mk rfl (by repeat (first | (with_reducible assumption) | (with_reducible exact Below.refl _ _) | (with_reducible refine Below.drew ?_) | (with_reducible refine pw_below_drewN ?_ _) | ((first | (with_reducible refine Below.alloc ?_ ?_ _) | (with_reducible refine Below.setCell ?_ ?_ _) | (with_reducible refine below_hop (by assumption) ?_ ?_)); rotate_left; (focus (first | omega | (simp; first | done | omega) | (simp [Later.le, Later.le_add, Later.lt, Later.lt_add]; first | done | omega)))) | ((with_reducible refine bel_later _ ?_ ?_); rotate_left; (focus (first | omega | (simp; first | done | omega) | (simp [Later.le, Later.le_add, Later.lt, Later.lt_add]; first | done | omega))))))
end Go.Proofs.Ytneknpamceipiaa
/- The walks of parts of polynomials; no condition. -/
set_option linter.unusedVariables false
set_option linter.unusedSimpArgs false
namespace Go.Proofs.Ytneknpamceipiaa
open Go.RowKit Go.Proofs.YtneknpamceipiaaW.PrintWords
attribute [local go_sem] Later.cell Later.frozen Later.lt Later.lt_add Later.le Later.le_add Later.ne Later.ne' add_at
theorem MakesP_nil (p d : Int) (E : Nat) (w w' : World) (h : Below w.heap.size w w') (c : Nat) : MakesP p d E [] w (.returned (.agg #[.int .i64 p, .int .i64 d, .slice none 0 0])) w' :=
  ⟨none, 0, rfl, Kd.R_nil _ _ _ _ _, h⟩
theorem R_zero {α : Type} (d : Kd α) {e g base : Nat} {W : World} (hg : W.heap[g]? = some (.cells #[] e (0, 0))) (hb : base ≤ g) : d.R e W base (fun _ => True) (.slice (some ⟨g, 0, none⟩) 0 0) [] :=
  ⟨fun _ _ => trivial, [], ⟨by simp, .inr ⟨g, 0, #[], rfl, hb, hg, Nat.le_refl _, Nat.zero_le _, by simp, by simp⟩⟩, Reps.none _ _⟩
theorem heap_alloc_last (W : World) (O : Obj) : (W.alloc O).heap[W.heap.size]? = some O := by
  show (W.heap.push O)[W.heap.size]? = some O
  simp
theorem l01Empty_c (p d : Int) (w : World) : Calls Try.prog 96 #[.int .i64 p, .int .i64 d] w (MakesP p d 121 [] w) := by
  go_enter Try.func96, Try.ntmps96
  go_wp2
  have hR := R_zero kT (heap_alloc_last (w.alloc (.cells #[.int .i64 p, .int .i64 d, .slice (some ⟨w.heap.size + 1, 0, none⟩) 0 0] 45)) (.cells #[] 121)) (base := w.heap.size) (by simp)
  rw [show (w.alloc (.cells #[.int .i64 p, .int .i64 d, .slice (some ⟨w.heap.size + 1, 0, none⟩) 0 0] 45)).heap.size = w.heap.size + 1 by simp] at hR
  exact bodyPost_ret (v := .agg #[.int .i64 p, .int .i64 d, .slice (some ⟨w.heap.size + 1, 0, none⟩) 0 0]) (by simp [results, Try.results96, go_sem]) rfl ⟨_, _, rfl, hR, (by repeat (first | (with_reducible assumption) | (with_reducible exact Below.refl _ _) | (with_reducible refine Below.drew ?_) | (with_reducible refine pw_below_drewN ?_ _) | ((first | (with_reducible refine Below.alloc ?_ ?_ _) | (with_reducible refine Below.setCell ?_ ?_ _) | (with_reducible refine below_hop (by assumption) ?_ ?_)); rotate_left; (focus (first | omega | (simp; first | done | omega) | (simp [Later.le, Later.le_add, Later.lt, Later.lt_add]; first | done | omega)))) | ((with_reducible refine bel_later _ ?_ ?_); rotate_left; (focus (first | omega | (simp; first | done | omega) | (simp [Later.le, Later.le_add, Later.lt, Later.lt_add]; first | done | omega))))))⟩
theorem zeroPoly_c (p d : Int) (w : World) : Calls Try.prog 106 #[.int .i64 p, .int .i64 d] w (MakesP p d 121 [] w) := by
  go_enter Try.func106, Try.ntmps106
  go_wp2
  exact bodyPost_ret (v := .agg #[.int .i64 p, .int .i64 d, .slice none 0 0]) (by simp [results, Try.results106, go_sem]) rfl (MakesP_nil p d _ _ _ (by repeat (first | (with_reducible assumption) | (with_reducible exact Below.refl _ _) | (with_reducible refine Below.drew ?_) | (with_reducible refine pw_below_drewN ?_ _) | ((first | (with_reducible refine Below.alloc ?_ ?_ _) | (with_reducible refine Below.setCell ?_ ?_ _) | (with_reducible refine below_hop (by assumption) ?_ ?_)); rotate_left; (focus (first | omega | (simp; first | done | omega) | (simp [Later.le, Later.le_add, Later.lt, Later.lt_add]; first | done | omega)))) | ((with_reducible refine bel_later _ ?_ ?_); rotate_left; (focus (first | omega | (simp; first | done | omega) | (simp [Later.le, Later.le_add, Later.lt, Later.lt_add]; first | done | omega)))))) 0)
theorem far_cell {w w' : World} {row : Option Nat} (hg : w.grownBy w' row) {a : Addr} {v : Value} (h : w.cell? a = some v) (hne : some a.block ≠ row) : w'.cell? a = some v :=
  (World.cell?_of_block (hg.block a.block (World.block_lt_of_cell? _ _ h) hne)).trans h
theorem far_frozen {w w' : World} {row : Option Nat} (hg : w.grownBy w' row) {a : Addr} {b : Bool} (h : w.frozen? a = b) (hlt : a.block < w.heap.size) (hne : some a.block ≠ row) : w'.frozen? a = b :=
  (World.frozen?_of_block (hg.block a.block hlt hne)).trans h
end Go.Proofs.Ytneknpamceipiaa

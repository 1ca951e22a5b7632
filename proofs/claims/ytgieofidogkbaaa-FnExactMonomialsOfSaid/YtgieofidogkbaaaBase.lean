/- Words of this session for all walks of the seat Ytgieofidogkbaaa: worlds that have grown, kinds of rows without memory inside; no condition. -/
import Derived.Test.YtgieofidogkbaaaWWords
import Derived.Lib.Hide
set_option linter.unusedVariables false
namespace Go.Proofs.Ytgieofidogkbaaa
open Go.RowKit Go.Proofs.YtgieofidogkbaaaW.PrintWords

/-! ### worlds that have grown -/
/-- A world that has grown out of w: nothing of w's heap has turned. -/
structure Later (w : World) where
  W : World
  ok : Below w.heap.size w W
instance Later.some_ (w : World) : Nonempty (Later w) := ⟨⟨w, Below.refl _ _⟩⟩
theorem Later.cell (w : World) (x : Later w) (a : Addr) (h : a.block < w.heap.size) : x.W.cell? a = w.cell? a := x.ok.cell h
theorem Later.frozen (w : World) (x : Later w) (a : Addr) (h : a.block < w.heap.size) : x.W.frozen? a = w.frozen? a := x.ok.frozen h
theorem Later.size (w : World) (x : Later w) : w.heap.size ≤ x.W.heap.size := x.ok.size
theorem Later.lt (w : World) (x : Later w) (n : Nat) (h : n < w.heap.size) : (n < x.W.heap.size) = True := eq_true (Nat.lt_of_lt_of_le h x.ok.size)
theorem Later.lt_add (w : World) (x : Later w) (n k : Nat) (h : n < w.heap.size + k) : (n < x.W.heap.size + k) = True := eq_true (Nat.lt_of_lt_of_le h (Nat.add_le_add_right x.ok.size k))
theorem Later.le (w : World) (x : Later w) (n : Nat) (h : n ≤ w.heap.size) : (n ≤ x.W.heap.size) = True := eq_true (Nat.le_trans h x.ok.size)
theorem Later.le_add (w : World) (x : Later w) (n k : Nat) (h : n ≤ w.heap.size + k) : (n ≤ x.W.heap.size + k) = True := eq_true (Nat.le_trans h (Nat.add_le_add_right x.ok.size k))
theorem Later.ne (w : World) (x : Later w) (n : Nat) (h : n < w.heap.size) : (n = x.W.heap.size) = False := eq_false (by have := x.ok.size; omega)
theorem Later.ne' (w : World) (x : Later w) (n : Nat) (h : n < w.heap.size) : (x.W.heap.size = n) = False := eq_false (by have := x.ok.size; omega)

theorem Later.keep {w : World} (x : Later w) {a : Addr} {v : Value} (h : w.cell? a = some v) : x.W.cell? a = some v := (x.ok.cell (World.block_lt_of_cell? w a h)).trans h
theorem cell_alloc {w : World} {a : Addr} {v : Value} (h : w.cell? a = some v) (O : Obj) : (w.alloc O).cell? a = some v := by
  have hb := World.block_lt_of_cell? w a h
  exact (World.cell?_of_block (w := w) (Below.heap_alloc w O a.block hb)).trans h

/-- What a call that only computes leaves: its value, and a world that has grown. -/
def Gives (v : Value) (w : World) (e : Ending) (w' : World) : Prop := e = .returned v ∧ Below w.heap.size w w'
theorem Gives.mk {v v' : Value} {w w' : World} (h : v = v') (hb : Below w.heap.size w w') : Gives v' w (.returned v) w' := ⟨by rw [h], hb⟩

theorem wp_region_later {P : Program} {id : Nat} {Q : Exit → Act → World → Prop} {a : Act} {w : World} {l : List Oper} (hm : P.follows .mixedOrders = true) (hB : Region.lexB .any l.toArray = true)
    (h : wpQuiet P l.toArray (fun w' => ∃ x : Later w, w' = x.W) (fun a' => ∀ x : Later w, Q .normal a' x.W) l a) : (Code.region id l.toArray true).wp P Q a w := by
  refine wp_region_quiet (C := fun w' => ∃ x : Later w, w' = x.W) hm hB ⟨⟨w.drew, (Below.refl _ _).drew⟩, rfl⟩ ?_
  have h2 : (fun a' => ∀ w', (∃ x : Later w, w' = x.W) → Q .normal a' w') = fun a' => ∀ x : Later w, Q .normal a' x.W := by
    funext a'
    exact propext ⟨fun H x => H _ ⟨x, rfl⟩, fun H w' ⟨x, hx⟩ => hx ▸ H x⟩
  rw [h2]
  simpa using h
/-- The same where the world is one that has grown out of w: it goes on being measured by w. -/
theorem wp_region_later2 {P : Program} {id : Nat} {Q : Exit → Act → World → Prop} {a : Act} {w : World} {y : Later w} {l : List Oper} (hm : P.follows .mixedOrders = true) (hB : Region.lexB .any l.toArray = true)
    (h : wpQuiet P l.toArray (fun w' => ∃ x : Later w, w' = x.W) (fun a' => ∀ x : Later w, Q .normal a' x.W) l a) : (Code.region id l.toArray true).wp P Q a y.W := by
  refine wp_region_quiet (C := fun w' => ∃ x : Later w, w' = x.W) hm hB ⟨⟨y.W.drew, y.ok.drew⟩, rfl⟩ ?_
  have h2 : (fun a' => ∀ w', (∃ x : Later w, w' = x.W) → Q .normal a' w') = fun a' => ∀ x : Later w, Q .normal a' x.W := by
    funext a'
    exact propext ⟨fun H x => H _ ⟨x, rfl⟩, fun H w' ⟨x, hx⟩ => hx ▸ H x⟩
  rw [h2]
  simpa using h
/-- A call inside a region that draws. -/
theorem quiet_later {P : Program} {f : FuncId} {args : Array Value} {w : World} {x : Later w} {v : Value}
    (h : Calls P f args x.W (Gives v x.W)) : Calls P f args x.W fun e w'' => e = .returned v ∧ ∃ y : Later w, w'' = y.W :=
  h.mono fun _ w' ⟨he, hb⟩ => ⟨he, ⟨w', x.ok.trans (hb.mono x.ok.size)⟩, rfl⟩
/-- A call elsewhere. -/
theorem call_later {P : Program} {f : FuncId} {args : Array Value} {w : World} {v : Value} {R : Ending → World → Prop}
    (h : Calls P f args w (Gives v w)) (k : ∀ x : Later w, R (.returned v) x.W) : Calls P f args w R :=
  h.mono fun _ w' ⟨he, hb⟩ => by subst he; exact k ⟨w', hb⟩

/-- The same where the world is one that has grown out of w. -/
theorem call_later2 {P : Program} {f : FuncId} {args : Array Value} {w : World} {y : Later w} {v : Value} {R : Ending → World → Prop}
    (h : Calls P f args y.W (Gives v y.W)) (k : ∀ x : Later w, R (.returned v) x.W) : Calls P f args y.W R :=
  h.mono fun _ w' ⟨he, hb⟩ => by subst he; exact k ⟨w', y.ok.trans (hb.mono y.ok.size)⟩

theorem bel_later {B : Nat} {w0 W : World} (x : Later W) (h : Below B w0 W) (hB : B ≤ W.heap.size) : Below B w0 x.W := h.trans (x.ok.mono hB)

theorem add_at (b o n : Nat) : (⟨b, o, none⟩ : Addr).add n = ⟨b, o + n, none⟩ := by
  unfold Addr.add
  split
  · subst_vars
    rfl
  · rfl

/-! ### kinds without memory inside -/
def flat {α : Type} (sz : Nat) (enc : α → List Value) (hl : ∀ x, (enc x).length = sz) (h1 : ∀ x, ∀ u ∈ enc x, u.oneCell' = true) : Kd α where
  sz := sz
  E := []
  K := fun _ x cs => cs = enc x
  M := fun _ _ _ x cs => cs = enc x
  K_len := fun h => by rw [h]; exact hl _
  K_one := fun h => by rw [h]; exact h1 _
  K_below := fun _ h => h
  K_of_M := fun h => h
  M_mono := fun _ h => h
  M_bound := fun h => h
  M_move := fun _ h => h
  M_lower := fun _ h => h

/-- A monomial. -/
structure E3 where
  a : UInt8
  b : UInt8
  c : UInt8
  deriving DecidableEq
/-- A term. -/
structure T4 where
  e : E3
  v : Int
  deriving DecidableEq
def E3.cs (e : E3) : List Value := [.int .u8 (e.a.toNat : Int), .int .u8 (e.b.toNat : Int), .int .u8 (e.c.toNat : Int)]
def T4.cs (t : T4) : List Value := [.int .u8 (t.e.a.toNat : Int), .int .u8 (t.e.b.toNat : Int), .int .u8 (t.e.c.toNat : Int), .int .i64 t.v]
def kE : Kd E3 := flat 3 E3.cs (fun _ => rfl) (fun x u hu => by simp [E3.cs] at hu; rcases hu with rfl | rfl | rfl <;> rfl)
def kT : Kd T4 := flat 4 T4.cs (fun _ => rfl) (fun x u hu => by simp [T4.cs] at hu; rcases hu with rfl | rfl | rfl | rfl <;> rfl)

/-- What a call that makes a row leaves. -/
def Makes {α : Type} (d : Kd α) (E : Nat) (xs : List α) (w : World) (e : Ending) (w' : World) : Prop := ∃ v, e = .returned v ∧ d.R E w' w.heap.size (fun _ => True) v xs ∧ Below w.heap.size w w'
/-- What a call that makes a polynomial leaves. -/
def MakesP (p d : Int) (E : Nat) (xs : List T4) (w : World) (e : Ending) (w' : World) : Prop :=
  ∃ A c, e = .returned (.agg #[.int .i64 p, .int .i64 d, .slice A xs.length c]) ∧ kT.R E w' w.heap.size (fun _ => True) (.slice A xs.length c) xs ∧ Below w.heap.size w w'
def z4 : T4 := ⟨⟨0, 0, 0⟩, 0⟩
theorem call_makes {α : Type} {d : Kd α} {E : Nat} {xs : List α} {P : Program} {f : FuncId} {args : Array Value} {w : World} {R : Ending → World → Prop}
    (h : Calls P f args w (Makes d E xs w)) (k : ∀ (x : Later w) A c, Below w.heap.size w x.W → xs.length ≤ c → d.R E x.W w.heap.size (fun _ => True) (.slice A xs.length c) xs → d.C x.W A xs.length xs → R (.returned (.slice A xs.length c)) x.W) : Calls P f args w R :=
  h.mono fun _ w' ⟨v, he, hr, hb⟩ => by
    subst he
    obtain ⟨A, c, rfl, hl, hC⟩ := Kd.R_reads hr
    exact k ⟨w', hb⟩ A c hb hl hr hC
theorem call_makesP {p d : Int} {E : Nat} {xs : List T4} {P : Program} {f : FuncId} {args : Array Value} {w : World} {R : Ending → World → Prop}
    (h : Calls P f args w (MakesP p d E xs w)) (k : ∀ (x : Later w) A c, Below w.heap.size w x.W → xs.length ≤ c → kT.R E x.W w.heap.size (fun _ => True) (.slice A xs.length c) xs → kT.C x.W A xs.length xs → R (.returned (.agg #[.int .i64 p, .int .i64 d, .slice A xs.length c])) x.W) : Calls P f args w R :=
  h.mono fun _ w' ⟨A, c, he, hr, hb⟩ => by
    subst he
    obtain ⟨_, hl, hC⟩ := Kd.R_reads' hr
    exact k ⟨w', hb⟩ A c hb hl hr hC

theorem call_makes2 {α : Type} {d : Kd α} {E : Nat} {xs : List α} {P : Program} {f : FuncId} {args : Array Value} {w : World} {y : Later w} {R : Ending → World → Prop}
    (h : Calls P f args y.W (Makes d E xs y.W)) (k : ∀ (x : Later w) A c, Below y.W.heap.size y.W x.W → xs.length ≤ c → d.R E x.W y.W.heap.size (fun _ => True) (.slice A xs.length c) xs → d.C x.W A xs.length xs → R (.returned (.slice A xs.length c)) x.W) : Calls P f args y.W R :=
  h.mono fun _ w' ⟨v, he, hr, hb⟩ => by
    subst he
    obtain ⟨A, c, rfl, hl, hC⟩ := Kd.R_reads hr
    exact k ⟨w', y.ok.trans (hb.mono y.ok.size)⟩ A c hb hl hr hC
theorem call_makesP2 {p d : Int} {E : Nat} {xs : List T4} {P : Program} {f : FuncId} {args : Array Value} {w : World} {y : Later w} {R : Ending → World → Prop}
    (h : Calls P f args y.W (MakesP p d E xs y.W)) (k : ∀ (x : Later w) A c, Below y.W.heap.size y.W x.W → xs.length ≤ c → kT.R E x.W y.W.heap.size (fun _ => True) (.slice A xs.length c) xs → kT.C x.W A xs.length xs → R (.returned (.agg #[.int .i64 p, .int .i64 d, .slice A xs.length c])) x.W) : Calls P f args y.W R :=
  h.mono fun _ w' ⟨A, c, he, hr, hb⟩ => by
    subst he
    obtain ⟨_, hl, hC⟩ := Kd.R_reads' hr
    exact k ⟨w', y.ok.trans (hb.mono y.ok.size)⟩ A c hb hl hr hC
/-- A call that only computes, in a world that has grown out of w: what has grown since is told besides. -/
theorem call_later3 {P : Program} {f : FuncId} {args : Array Value} {w : World} {y : Later w} {v : Value} {R : Ending → World → Prop}
    (h : Calls P f args y.W (Gives v y.W)) (k : ∀ x : Later w, Below y.W.heap.size y.W x.W → R (.returned v) x.W) : Calls P f args y.W R :=
  h.mono fun _ w' ⟨he, hb⟩ => by subst he; exact k ⟨w', y.ok.trans (hb.mono y.ok.size)⟩ hb
theorem call_later4 {P : Program} {f : FuncId} {args : Array Value} {w : World} {v : Value} {R : Ending → World → Prop}
    (h : Calls P f args w (Gives v w)) (k : ∀ x : Later w, Below w.heap.size w x.W → R (.returned v) x.W) : Calls P f args w R :=
  h.mono fun _ w' ⟨he, hb⟩ => by subst he; exact k ⟨w', hb⟩ hb

/-- An element of a row that is read: the row's address is plain. -/
theorem C_at {α : Type} {d : Kd α} {w : World} {A : Option Addr} {n : Nat} {xs : List α} (h : d.C w A n xs) (hs : 0 < d.sz) (i : Nat) (hi : i < n) (z : α) :
    ∃ b o c, A = some ⟨b, o, none⟩ ∧ d.K w (xs.getD i z) c ∧ ∀ j u, c[j]? = some u → w.cell? ⟨b, o + i * d.sz + j, none⟩ = some u := by
  obtain ⟨ad, c, hA, _, hK, hc⟩ := Kd.C_get h z i (by omega) (by omega)
  obtain ⟨ad0, c0, hA0, hl0, hK0, hc0⟩ := Kd.C_get h z 0 (by omega) (by omega)
  have e : ad = ad0 := Option.some.inj (hA.symm.trans hA0)
  have h0 : 0 < c0.length := by rw [hl0]; exact hs
  have hsp := World.cell?_spot (hc0 0 _ (List.getElem?_eq_getElem h0))
  rw [← e] at hsp
  obtain ⟨b, o, s⟩ := ad
  have hs' : s = none := by simpa [Addr.add] using hsp
  subst hs'
  rw [Int.toNat_natCast] at hc hK
  simp only [add_at] at hc
  exact ⟨b, o, c, hA, hK, fun j u hu => by rw [Nat.add_assoc]; exact hc j u hu⟩
/-- An element of a row of terms. -/
theorem kT_at {w : World} {A : Option Addr} {n : Nat} {ts : List T4} (h : kT.C w A n ts) (i : Nat) (hi : i < n) (z : T4) :
    ∃ b o, A = some ⟨b, o, none⟩ ∧ w.cell? ⟨b, o + i * 4, none⟩ = some (.int .u8 ((ts.getD i z).e.a.toNat : Int)) ∧ w.cell? ⟨b, o + i * 4 + 1, none⟩ = some (.int .u8 ((ts.getD i z).e.b.toNat : Int)) ∧
      w.cell? ⟨b, o + i * 4 + 2, none⟩ = some (.int .u8 ((ts.getD i z).e.c.toNat : Int)) ∧ w.cell? ⟨b, o + i * 4 + 3, none⟩ = some (.int .i64 (ts.getD i z).v) := by
  obtain ⟨b, o, c, hA, hK, hc⟩ := C_at h (by decide) i hi z
  have hK' : c = T4.cs (ts.getD i z) := hK
  subst hK'
  exact ⟨b, o, hA, hc 0 _ rfl, hc 1 _ rfl, hc 2 _ rfl, hc 3 _ rfl⟩

end Go.Proofs.Ytgieofidogkbaaa

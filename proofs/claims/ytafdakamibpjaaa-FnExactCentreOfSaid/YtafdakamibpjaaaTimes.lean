/- The walks of the products of matrices; no condition. -/
import Derived.Test.YtafdakamibpjaaaUnit
import Derived.Test.YtafdakamibpjaaaDet
import Derived.Test.YtafdakamibpjaaaKitA
set_option linter.unusedVariables false
set_option linter.unusedSimpArgs false
namespace Go.Proofs.Ytafdakamibpjaaa
open Go.RowKit Go.Proofs.YtafdakamibpjaaaW.PrintWords
attribute [local go_sem] Later.cell Later.frozen Later.lt Later.lt_add Later.le Later.le_add Later.ne Later.ne' add_at

def M9.row (m : M9) (i : Nat) : E3 := if i = 0 then m.r0 else if i = 1 then m.r1 else m.r2
def M9.at (m : M9) (i j : Nat) : UInt8 := (m.row i).at j
def mkM (f : Nat → Nat → UInt8) : M9 := ⟨⟨f 0 0, f 0 1, f 0 2⟩, ⟨f 1 0, f 1 1, f 1 2⟩, ⟨f 2 0, f 2 1, f 2 2⟩⟩
/-- The first k products of row i and column j. -/
def sumT (g h : M9) (i j : Nat) : Nat → Int
  | 0 => 0
  | k + 1 => sumT g h i j k + ((g.at i k).toNat : Int) * ((h.at k j).toNat : Int)
def timesM (p : Int) (n : Nat) (g h : M9) : M9 := mkM (fun i j => if i < n ∧ j < n then uB (sumT g h i j n % p) else 0)
theorem at_le {m : M9} {p : Int} (h : m.le p) (i j : Nat) : ((m.at i j).toNat : Int) < p := by
  obtain ⟨⟨h1, h2, h3⟩, ⟨h4, h5, h6⟩, h7, h8, h9⟩ := h
  unfold M9.at M9.row E3.at
  by_cases i0 : i = 0 <;> by_cases i1 : i = 1 <;> by_cases j0 : j = 0 <;> by_cases j1 : j = 1 <;> simp [*]
theorem sumT_bd {g h : M9} {p : Int} (hp : p ≤ 13) (hg : g.le p) (hh : h.le p) (i j : Nat) : ∀ k, k ≤ 3 → 0 ≤ sumT g h i j k ∧ sumT g h i j k ≤ 144 * k
  | 0, _ => by simp [sumT]
  | k + 1, hk => by
    have h1 := sumT_bd hp hg hh i j k (by omega)
    have a1 := at_le hg i k
    have a2 := at_le hh k j
    have h2 := mul_bd3 (x := ((g.at i k).toNat : Int)) (y := ((h.at k j).toNat : Int)) (by omega) (by omega) (by omega) (by omega)
    rw [sumT]
    omega
theorem box_at (w : World) (m : M9) (t : TypeId) (i j : Nat) (hi : i < 3) (hj : j < 3) : (w.alloc (.cells #[.int .u8 (m.r0.a.toNat : Int), .int .u8 (m.r0.b.toNat : Int), .int .u8 (m.r0.c.toNat : Int), .int .u8 (m.r1.a.toNat : Int), .int .u8 (m.r1.b.toNat : Int), .int .u8 (m.r1.c.toNat : Int), .int .u8 (m.r2.a.toNat : Int), .int .u8 (m.r2.b.toNat : Int), .int .u8 (m.r2.c.toNat : Int)] t)).cell? ⟨w.heap.size, i * 3 + j, none⟩ = some (.int .u8 ((m.at i j).toNat : Int)) := by
  rcases lt3 hi with rfl | rfl | rfl <;> rcases lt3 hj with rfl | rfl | rfl <;> simp [M9.at, M9.row, E3.at]
end Go.Proofs.Ytafdakamibpjaaa

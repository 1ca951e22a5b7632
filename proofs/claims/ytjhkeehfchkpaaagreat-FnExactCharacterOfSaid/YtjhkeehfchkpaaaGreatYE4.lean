/- What later laws need beside the texts of the earlier ones; no condition. -/
import Derived.Test.YtjhkeehfchkpaaaGreatYWWords
import Derived.Test.YtjhkeehfchkpaaaGreatYKitA
set_option linter.unusedVariables false
set_option linter.unusedSimpArgs false

namespace Go.Proofs.YtjhkeehfchkpaaaGreat
open Go.RowKit Go.Proofs.YtjhkeehfchkpaaaGreatW.PrintWords
end Go.Proofs.YtjhkeehfchkpaaaGreat
namespace Go.Proofs.YtjhkeehfchkpaaaGreat
open Go.RowKit Go.Proofs.YtjhkeehfchkpaaaGreatW.PrintWords
attribute [local go_sem] Later.cell Later.frozen Later.lt Later.lt_add Later.le Later.le_add Later.ne Later.ne' add_at
end Go.Proofs.YtjhkeehfchkpaaaGreat
namespace Go.Proofs.YtjhkeehfchkpaaaGreat
open Go.RowKit Go.Proofs.YtjhkeehfchkpaaaGreatW.PrintWords
attribute [local go_sem] Later.cell Later.frozen Later.lt Later.lt_add Later.le Later.le_add Later.ne Later.ne' add_at
end Go.Proofs.YtjhkeehfchkpaaaGreat
namespace Go.Proofs.YtjhkeehfchkpaaaGreat
open Go.RowKit Go.Proofs.YtjhkeehfchkpaaaGreatW.PrintWords
attribute [local go_sem] Later.cell Later.frozen Later.lt Later.lt_add Later.le Later.le_add Later.ne Later.ne' add_at
end Go.Proofs.YtjhkeehfchkpaaaGreat
namespace Go.Proofs.YtjhkeehfchkpaaaGreat
open Go.RowKit Go.Proofs.YtjhkeehfchkpaaaGreatW.PrintWords
attribute [local go_sem] Later.cell Later.frozen Later.lt Later.lt_add Later.le Later.le_add Later.ne Later.ne' add_at
end Go.Proofs.YtjhkeehfchkpaaaGreat
namespace Go.Proofs.YtjhkeehfchkpaaaGreat
open Go.RowKit Go.Proofs.YtjhkeehfchkpaaaGreatW.PrintWords
attribute [local go_sem] Later.cell Later.frozen Later.lt Later.lt_add Later.le Later.le_add Later.ne Later.ne' add_at
end Go.Proofs.YtjhkeehfchkpaaaGreat
namespace Go.Proofs.YtjhkeehfchkpaaaGreat
open Go.RowKit Go.Proofs.YtjhkeehfchkpaaaGreatW.PrintWords
attribute [local go_sem] Later.cell Later.frozen Later.lt Later.lt_add Later.le Later.le_add Later.ne Later.ne' add_at
end Go.Proofs.YtjhkeehfchkpaaaGreat
namespace Go.Proofs.YtjhkeehfchkpaaaGreat
open Go.RowKit Go.Proofs.YtjhkeehfchkpaaaGreatW.PrintWords
attribute [local go_sem] Later.cell Later.frozen Later.lt Later.lt_add Later.le Later.le_add Later.ne Later.ne' add_at
end Go.Proofs.YtjhkeehfchkpaaaGreat
namespace Go.Proofs.YtjhkeehfchkpaaaGreat
open Go.RowKit Go.Proofs.YtjhkeehfchkpaaaGreatW.PrintWords
attribute [local go_sem] Later.cell Later.frozen Later.lt Later.lt_add Later.le Later.le_add Later.ne Later.ne' add_at
theorem isZero_c (p d : Int) (A : Option Addr) (n c : Nat) (w : World) (hn : n ≤ 9223372036854775807) :
    Calls Tryz.prog 79 #[.agg #[.int .i64 p, .int .i64 d, .slice A n c]] w (Gives (.bool (n == 0)) w) := by
  by_cases h : n = 0
  · subst h
    go_enter Tryz.func79, Tryz.ntmps79
    go_wp2
    go_ret
    exact .mk rfl bq8
  · have h0 : ((n : Int) == 0) = false := by simpa using h
    have h1 : (n == 0) = false := by simpa using h
    have HH := Lib.hid h1
    clear h h1
    go_enter Tryz.func79, Tryz.ntmps79
    go_wp2
    go_ret
    exact .mk (by rw [HH.out]; rfl) bq8
end Go.Proofs.YtjhkeehfchkpaaaGreat
namespace Go.Proofs.YtjhkeehfchkpaaaGreat
open Go.RowKit Go.Proofs.YtjhkeehfchkpaaaGreatW.PrintWords
attribute [local go_sem] Later.cell Later.frozen Later.lt Later.lt_add Later.le Later.le_add Later.ne Later.ne' add_at
end Go.Proofs.YtjhkeehfchkpaaaGreat
namespace Go.Proofs.YtjhkeehfchkpaaaGreat
open Go.RowKit Go.Proofs.YtjhkeehfchkpaaaGreatW.PrintWords
attribute [local go_sem] Later.cell Later.frozen Later.lt Later.lt_add Later.le Later.le_add Later.ne Later.ne' add_at
end Go.Proofs.YtjhkeehfchkpaaaGreat
namespace Go.Proofs.YtjhkeehfchkpaaaGreat
open Go.RowKit Go.Proofs.YtjhkeehfchkpaaaGreatW.PrintWords
attribute [local go_sem] Later.cell Later.frozen Later.lt Later.lt_add Later.le Later.le_add Later.ne Later.ne' add_at
end Go.Proofs.YtjhkeehfchkpaaaGreat
namespace Go.Proofs.YtjhkeehfchkpaaaGreat
open Go.RowKit Go.Proofs.YtjhkeehfchkpaaaGreatW.PrintWords
attribute [local go_sem] Later.cell Later.frozen Later.lt Later.lt_add Later.le Later.le_add Later.ne Later.ne' add_at
end Go.Proofs.YtjhkeehfchkpaaaGreat
namespace Go.Proofs.YtjhkeehfchkpaaaGreat
open Go.RowKit Go.Proofs.YtjhkeehfchkpaaaGreatW.PrintWords
attribute [local go_sem] Later.cell Later.frozen Later.lt Later.lt_add Later.le Later.le_add Later.ne Later.ne' add_at
end Go.Proofs.YtjhkeehfchkpaaaGreat
namespace Go.Proofs.YtjhkeehfchkpaaaGreat
open Go.RowKit Go.Proofs.YtjhkeehfchkpaaaGreatW.PrintWords
attribute [local go_sem] Later.cell Later.frozen Later.lt Later.lt_add Later.le Later.le_add Later.ne Later.ne' add_at
end Go.Proofs.YtjhkeehfchkpaaaGreat
namespace Go.Proofs.YtjhkeehfchkpaaaGreat
open Go.RowKit Go.Proofs.YtjhkeehfchkpaaaGreatW.PrintWords
attribute [local go_sem] Later.cell Later.frozen Later.lt Later.lt_add Later.le Later.le_add Later.ne Later.ne' add_at
attribute [local go_sem 2000] run_eqE run_neE guardE
set_option maxRecDepth 100000 in
theorem coefficient_c (p d : Int) (A : Option Addr) (c : Nat) (ts : List T4) (e : E3) (w : World) (hC : kT.C w A ts.length ts) (hn : ts.length ≤ 9223372036854775807) :
    Calls Tryz.prog 80 #[.agg #[.int .i64 p, .int .i64 d, .slice A ts.length c], .agg #[.int .u8 (e.a.toNat : Int), .int .u8 (e.b.toNat : Int), .int .u8 (e.c.toNat : Int)]] w (Gives (.int .i64 (coefL ts e)) w) := by
  go_enter Tryz.func80, Tryz.ntmps80
  go_wp2
  go_loopg [10] ts.length (fun k v w' => ∃ (i : Nat) (y : Later ((w.alloc (.cells #[.int .i64 p, .int .i64 d, .slice A ts.length c] 38)).alloc (.cells #[.int .u8 (e.a.toNat : Int), .int .u8 (e.b.toNat : Int), .int .u8 (e.c.toNat : Int)] 78))), i + k = ts.length ∧ v = .int .i64 i ∧ (∀ j, j < i → (ts.getD j z4).e ≠ e) ∧ w' = y.W)
  case atStart => exact ⟨0, ⟨_, Below.refl _ _⟩, by omega, rfl, fun j hj => by omega, rfl⟩
  case round =>
    obtain ⟨i, y, hik, rfl, hs, rfl⟩ := hrel
    have HIK := Lib.hid hik
    have HS := Lib.hid hs
    clear hik hs
    have e0 : y.W.cell? ⟨w.heap.size + 1, 0, none⟩ = some (.int .u8 (e.a.toNat : Int)) := y.keep (by simp)
    have e1 : y.W.cell? ⟨w.heap.size + 1, 1, none⟩ = some (.int .u8 (e.b.toNat : Int)) := y.keep (by simp)
    have e2 : y.W.cell? ⟨w.heap.size + 1, 2, none⟩ = some (.int .u8 (e.c.toNat : Int)) := y.keep (by simp)
    have hz := World.block_lt_of_cell? _ _ e0
    by_cases hlt : i < ts.length
    · obtain ⟨b, o, hA, q0, q1, q2, q3⟩ := kT_at hC i hlt z4
      subst hA
      have q0 := y.keep (cell_alloc (cell_alloc q0 _) _)
      have q1 := y.keep (cell_alloc (cell_alloc q1 _) _)
      have q2 := y.keep (cell_alloc (cell_alloc q2 _) _)
      have q3 := y.keep (cell_alloc (cell_alloc q3 _) _)
      have hi0 : (0 : Int) ≤ i := by omega
      have hi1 : (i : Int) < ts.length := by omega
      have hin : ((i : Int)).toNat = i := by omega
      generalize ht : ts.getD i z4 = t at *
      have HT := Lib.hid ht
      clear ht
      cases he : (t.e == e) with
      | true =>
        have he' : t.e = e := eq_of_beq he
        have hr : coefL ts e = t.v := by
          rw [← HT.out]
          exact coefL_hit e ts i hlt HS.out (by rw [HT.out]; exact he')
        rw [hr]
        go_wp2
        go_ret
        exact .mk rfl bq1
      | false =>
        have he' : t.e ≠ e := by simpa using he
        have HE := Lib.hid he'
        clear he'
        go_wp2
        go_roundg (gk - 1)
        case measure => have := HIK.out; omega
        case rel =>
          refine ⟨i + 1, ⟨y.W.alloc (.cells #[.int .u8 (t.e.a.toNat : Int), .int .u8 (t.e.b.toNat : Int), .int .u8 (t.e.c.toNat : Int), .int .i64 t.v] 80), ?hb⟩, by have := HIK.out; omega, by go_num, ne_step HS.out (by rw [HT.out]; exact HE.out), rfl⟩
          case hb => exact bq1
    · have hr : coefL ts e = 0 := coefL_miss e ts (fun j hj => HS.out j (by have := HIK.out; omega))
      rw [hr]
      go_wp2
      go_ret
      exact .mk rfl bq1
end Go.Proofs.YtjhkeehfchkpaaaGreat
namespace Go.Proofs.YtjhkeehfchkpaaaGreat
open Go.RowKit Go.Proofs.YtjhkeehfchkpaaaGreatW.PrintWords
attribute [local go_sem] Later.cell Later.frozen Later.lt Later.lt_add Later.le Later.le_add Later.ne Later.ne' add_at
end Go.Proofs.YtjhkeehfchkpaaaGreat
namespace Go.Proofs.YtjhkeehfchkpaaaGreat
open Go.RowKit Go.Proofs.YtjhkeehfchkpaaaGreatW.PrintWords
attribute [local go_sem] Later.cell Later.frozen Later.lt Later.lt_add Later.le Later.le_add Later.ne Later.ne' add_at
end Go.Proofs.YtjhkeehfchkpaaaGreat


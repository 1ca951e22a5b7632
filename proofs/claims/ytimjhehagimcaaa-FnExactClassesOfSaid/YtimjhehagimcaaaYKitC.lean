/- Walks of the functions on polynomials, numbers and rows, of both sides; no condition. -/
import Derived.Test.YtimjhehagimcaaaYKitG
import Derived.Deep.RegionLaw
import Derived.Test.YtimjhehagimcaaaYKitP
/- The walks of the program's CentreOf; no condition. -/
set_option linter.unusedVariables false
set_option linter.unusedSimpArgs false
namespace Go.Proofs.Ytimjhehagimcaaa
open Go.RowKit Go.Proofs.YtimjhehagimcaaaW.PrintWords
attribute [local go_sem] Later.cell Later.frozen Later.lt Later.lt_add Later.le Later.le_add Later.ne Later.ne' add_at
attribute [local go_sem 2000] run_eqM guardM
theorem run_neM (a b : M9) (w : World) : (binOp .neq 41 (.agg #[.int .u8 (a.r0.a.toNat : Int), .int .u8 (a.r0.b.toNat : Int), .int .u8 (a.r0.c.toNat : Int), .int .u8 (a.r1.a.toNat : Int), .int .u8 (a.r1.b.toNat : Int), .int .u8 (a.r1.c.toNat : Int), .int .u8 (a.r2.a.toNat : Int), .int .u8 (a.r2.b.toNat : Int), .int .u8 (a.r2.c.toNat : Int)]) (.agg #[.int .u8 (b.r0.a.toNat : Int), .int .u8 (b.r0.b.toNat : Int), .int .u8 (b.r0.c.toNat : Int), .int .u8 (b.r1.a.toNat : Int), .int .u8 (b.r1.b.toNat : Int), .int .u8 (b.r1.c.toNat : Int), .int .u8 (b.r2.a.toNat : Int), .int .u8 (b.r2.b.toNat : Int), .int .u8 (b.r2.c.toNat : Int)])).run Try.prog w = .ok (.bool (a != b)) w := by
  rw [run_neq_struct, eqMat]
  rfl
attribute [local go_sem 2000] run_neM
end Go.Proofs.Ytimjhehagimcaaa
/- The walks of the program's CentreOf, second half; no condition. -/
set_option linter.unusedVariables false
set_option linter.unusedSimpArgs false
namespace Go.Proofs.Ytimjhehagimcaaa
open Go.RowKit Go.Proofs.YtimjhehagimcaaaW.PrintWords
attribute [local go_sem] Later.cell Later.frozen Later.lt Later.lt_add Later.le Later.le_add Later.ne Later.ne' add_at
/-- A group in the making: its box ob, the result's box rb, both of the call's own. -/
structure Acc (w0 : World) (ob rb : Nat) (p n : Int) (E : TypeId) (W : World) (B : Option Addr) (cb : Nat) (xs : List M9) : Prop where
  bel : Below w0.heap.size w0 W
  hrb : w0.heap.size ≤ rb
  hob : w0.heap.size ≤ ob
  o0 : W.cell? ⟨ob, 0, none⟩ = some (.int .i64 p)
  o1 : W.cell? ⟨ob, 1, none⟩ = some (.int .i64 n)
  o2 : W.cell? ⟨ob, 2, none⟩ = some (.slice B xs.length cb)
  o3 : W.frozen? ⟨ob, 2, none⟩ = false
  R : kM.R E W w0.heap.size (fun k => k ≠ ob ∧ k ≠ rb) (.slice B xs.length cb) xs
  r0 : W.cell? ⟨rb, 0, none⟩ = some (.int .i64 0)
  r1 : W.cell? ⟨rb, 1, none⟩ = some (.int .i64 0)
  r2 : W.cell? ⟨rb, 2, none⟩ = some (.slice none 0 0)
  r3 : W.frozen? ⟨rb, 0, none⟩ = false
  r4 : W.frozen? ⟨rb, 1, none⟩ = false
  r5 : W.frozen? ⟨rb, 2, none⟩ = false
  hne : ob ≠ rb
section
variable {w0 W W' : World} {ob rb : Nat} {p n : Int} {E : TypeId} {B : Option Addr} {cb : Nat} {xs : List M9}
theorem Acc.lo (h : Acc w0 ob rb p n E W B cb xs) : ob < W.heap.size := World.block_lt_of_cell? _ _ h.o0
theorem Acc.lr (h : Acc w0 ob rb p n E W B cb xs) : rb < W.heap.size := World.block_lt_of_cell? _ _ h.r0
theorem Acc.below (h : Acc w0 ob rb p n E W B cb xs) (hb : Below W.heap.size W W') : Acc w0 ob rb p n E W' B cb xs :=
  ⟨h.bel.trans (hb.mono h.bel.size), h.hrb, h.hob, pw_cell_below hb h.o0, pw_cell_below hb h.o1, pw_cell_below hb h.o2, (hb.frozen h.lo).trans h.o3, Kd.R_below h.R hb, pw_cell_below hb h.r0, pw_cell_below hb h.r1, pw_cell_below hb h.r2, (hb.frozen h.lr).trans h.r3, (hb.frozen h.lr).trans h.r4, (hb.frozen h.lr).trans h.r5, h.hne⟩
theorem Acc.own (h : Acc w0 ob rb p n E W B cb xs) : some ob ≠ (Value.slice B xs.length cb).ownBlock := fun e => (h.R.1 ob e.symm).1 rfl
theorem Acc.ownr (h : Acc w0 ob rb p n E W B cb xs) : some rb ≠ (Value.slice B xs.length cb).ownBlock := fun e => (h.R.1 rb e.symm).2 rfl
theorem Acc.drew (h : Acc w0 ob rb p n E W B cb xs) : Acc w0 ob rb p n E W.drew B cb xs := h.below (Below.refl _ _).drew
theorem cell_far {w : World} {a b : Addr} {v u : Value} (h : w.cell? a = some v) (hne : a.block ≠ b.block) : (w.setCell b u).cell? a = some v := by
  rw [World.cell?_setCell_other _ _ _ _ (fun e => hne (by rw [e]))]
  exact h
/-- One more element, appended and stored. -/
theorem Acc.put {m : M9} {w1 : World} {B6 : Option Addr} {c6 : Nat} (h : Acc w0 ob rb p n E W B cb xs) (hR : kM.R E w1 w0.heap.size (fun k => k ≠ ob ∧ k ≠ rb) (.slice B6 (xs.length + 1) c6) (xs ++ [m])) (hB : Below w0.heap.size W w1) (hg : W.grownBy w1 (Value.slice B xs.length cb).ownBlock) :
    Acc w0 ob rb p n E (w1.setCell ⟨ob, 2, none⟩ (.slice B6 (xs.length + 1) c6)) B6 c6 (xs ++ [m]) := by
  have e : (xs ++ [m]).length = xs.length + 1 := by simp
  have o2 := far_cell hg h.o2 h.own
  have hlo := h.lo
  have hlr := h.lr
  have hne := h.hne
  refine ⟨h.bel.trans (hB.setCell h.hob _), h.hrb, h.hob, ?_, ?_, ?_, ?_, ?_, ?_, ?_, ?_, ?_, ?_, ?_, hne⟩
  · exact (World.cell?_setCell_other _ _ _ _ (by simp)).trans (far_cell hg h.o0 h.own)
  · exact (World.cell?_setCell_other _ _ _ _ (by simp)).trans (far_cell hg h.o1 h.own)
  · rw [e]
    simpa using World.cell?_setCell_same _ _ _ o2
  · have := far_frozen hg h.o3 hlo h.own
    simp [this]
  · rw [e]
    exact Kd.R_far hR (fun k hk => hk.1) _
  · exact cell_far (far_cell hg h.r0 h.ownr) (fun e => hne e.symm)
  · exact cell_far (far_cell hg h.r1 h.ownr) (fun e => hne e.symm)
  · exact cell_far (far_cell hg h.r2 h.ownr) (fun e => hne e.symm)
  · have := far_frozen hg h.r3 hlr h.ownr
    simp [this]
  · have := far_frozen hg h.r4 hlr h.ownr
    simp [this]
  · have := far_frozen hg h.r5 hlr h.ownr
    simp [this]
end
end Go.Proofs.Ytimjhehagimcaaa
/- The walk of the reference's CentreOf; no condition. -/
set_option linter.unusedVariables false
set_option linter.unusedSimpArgs false
namespace Go.Proofs.Ytimjhehagimcaaa
open Go.RowKit Go.Proofs.YtimjhehagimcaaaW.PrintWords
attribute [local go_sem] Later.cell Later.frozen Later.lt Later.lt_add Later.le Later.le_add Later.ne Later.ne' add_at
attribute [local go_sem 2000] run_eqM guardM
theorem R_zero2 {α : Type} (d : Kd α) {e g base : Nat} {W : World} (ok : Nat → Prop) (hok : ok g) (hg : W.heap[g]? = some (.cells #[] e (0, 0))) (hb : base ≤ g) : d.R e W base ok (.slice (some ⟨g, 0, none⟩) 0 0) [] :=
  ⟨fun k hk => by
    have : g = k := by simpa [Value.ownBlock] using hk
    rw [← this]
    exact hok, [], ⟨by simp, .inr ⟨g, 0, #[], rfl, hb, hg, Nat.le_refl _, Nat.zero_le _, by simp, by simp⟩⟩, Reps.none _ _⟩
end Go.Proofs.Ytimjhehagimcaaa
/- Laws for the laws of functions that make groups; no condition. -/
set_option linter.unusedVariables false
set_option linter.unusedSimpArgs false
namespace Go.Proofs.Ytimjhehagimcaaa
open Go.RowKit Go.Proofs.YtimjhehagimcaaaW.PrintWords
attribute [local go_sem] Later.cell Later.frozen Later.lt Later.lt_add Later.le Later.le_add Later.ne Later.ne' add_at
theorem to_makesG {p d : Int} {E : Nat} {xs : List M9} {P : Program} {f : FuncId} {args : Array Value} {V W : World} {R : Ending → World → Prop} (hW : Below V.heap.size V W)
    (h : Calls P f args W (MakesG p d E xs W)) (k : ∀ W' A c, Below V.heap.size V W' → Below W.heap.size W W' → xs.length ≤ c → kM.R E W' W.heap.size (fun _ => True) (.slice A xs.length c) xs → R (.returned (.agg #[.int .i64 p, .int .i64 d, .slice A xs.length c])) W') : Calls P f args W R :=
  h.mono fun _ w' ⟨A, c, he, hr, hb⟩ => by
    subst he
    exact k w' A c (hW.trans (hb.mono hW.size)) hb (Kd.R_reads' hr).2.1 hr
set_option maxRecDepth 100000 in
theorem markMatrixS_c (A : Option Addr) (l c : Nat) (k : Int) (w : World) (hl : l ≤ 1048576) : Calls Try.prog 55 #[.slice A l c, .int .i64 k] w (Gives (.int .i64 k) w) := by
  go_enter Try.func55, Try.ntmps55
  go_wp2
  go_loopg [5] l (fun g v w' => ∃ i : Nat, i + g = l ∧ v = .int .i64 i ∧ w' = w)
  case atStart => exact ⟨0, by omega, rfl, rfl⟩
  case round =>
    obtain ⟨i, hik, rfl, rfl⟩ := hrel
    by_cases hlt : i < l
    · have hi1 : (i : Int) < l := by omega
      go_wp2
      go_roundg (gk - 1)
      case measure => omega
      case rel => exact ⟨i + 1, by omega, by go_num, rfl⟩
    · have hi1 : ¬ (i : Int) < l := by omega
      go_wp2
      exact bodyPost_ret (v := .int .i64 k) (by simp [results, Try.results55, go_sem]) rfl (.mk rfl bq1)
set_option maxRecDepth 100000 in
theorem markGroup_c (p n : Int) (A : Option Addr) (l c : Nat) (k : Int) (w : World) (hl : l ≤ 1048576) : Calls Try.prog 18 #[.agg #[.int .i64 p, .int .i64 n, .slice A l c], .int .i64 k] w (Gives (.int .i64 k) w) := by
  go_enter Try.func18, Try.ntmps18
  go_wp2_with ((go_at_call 55; (first | (with_reducible refine call_later2 (markMatrixS_c _ _ _ _ _ hl) ?_) | (with_reducible refine call_later (markMatrixS_c _ _ _ _ _ hl) ?_)); intro x))
  exact bodyPost_ret (v := .int .i64 k) (by simp [results, Try.results18, go_sem]) rfl (.mk rfl bq1)
end Go.Proofs.Ytimjhehagimcaaa

/- Values of three fields in the making: the box of the value, the box of the result, and the row that grows; no condition. -/
import Derived.Test.YtimjhehagimcaaaYKitP
set_option linter.unusedVariables false
set_option linter.unusedSimpArgs false
namespace Go.Proofs.Ytimjhehagimcaaa
open Go.RowKit Go.Proofs.YtimjhehagimcaaaW.PrintWords
attribute [local go_sem] Later.cell Later.frozen Later.lt Later.lt_add Later.le Later.le_add Later.ne Later.ne' add_at
/-- Three fields in the making: their box ob, the result's box rb, both of the call's own. -/
structure AccK {α : Type} (d : Kd α) (w0 : World) (ob rb : Nat) (p n : Int) (E : TypeId) (W : World) (B : Option Addr) (cb : Nat) (xs : List α) : Prop where
  bel : Below w0.heap.size w0 W
  hrb : w0.heap.size ≤ rb
  hob : w0.heap.size ≤ ob
  o0 : W.cell? ⟨ob, 0, none⟩ = some (.int .i64 p)
  o1 : W.cell? ⟨ob, 1, none⟩ = some (.int .i64 n)
  o2 : W.cell? ⟨ob, 2, none⟩ = some (.slice B xs.length cb)
  o3 : ∀ j, W.frozen? ⟨ob, j, none⟩ = false
  R : d.R E W w0.heap.size (fun k => k ≠ ob ∧ k ≠ rb) (.slice B xs.length cb) xs
  r0 : W.cell? ⟨rb, 0, none⟩ = some (.int .i64 0)
  r1 : W.cell? ⟨rb, 1, none⟩ = some (.int .i64 0)
  r2 : W.cell? ⟨rb, 2, none⟩ = some (.slice none 0 0)
  r3 : ∀ j, W.frozen? ⟨rb, j, none⟩ = false
  hne : ob ≠ rb
section
variable {α : Type} {d : Kd α} {w0 W W' : World} {ob rb : Nat} {p n : Int} {E : TypeId} {B : Option Addr} {cb : Nat} {xs : List α}
theorem AccK.lo (h : AccK d w0 ob rb p n E W B cb xs) : ob < W.heap.size := World.block_lt_of_cell? _ _ h.o0
theorem AccK.lr (h : AccK d w0 ob rb p n E W B cb xs) : rb < W.heap.size := World.block_lt_of_cell? _ _ h.r0
theorem AccK.below (h : AccK d w0 ob rb p n E W B cb xs) (hb : Below W.heap.size W W') : AccK d w0 ob rb p n E W' B cb xs :=
  ⟨h.bel.trans (hb.mono h.bel.size), h.hrb, h.hob, pw_cell_below hb h.o0, pw_cell_below hb h.o1, pw_cell_below hb h.o2, fun j => (hb.frozen (p := ⟨ob, j, none⟩) h.lo).trans (h.o3 j), Kd.R_below h.R hb, pw_cell_below hb h.r0, pw_cell_below hb h.r1, pw_cell_below hb h.r2, fun j => (hb.frozen (p := ⟨rb, j, none⟩) h.lr).trans (h.r3 j), h.hne⟩
theorem AccK.own (h : AccK d w0 ob rb p n E W B cb xs) : some ob ≠ (Value.slice B xs.length cb).ownBlock := fun e => (h.R.1 ob e.symm).1 rfl
theorem AccK.ownr (h : AccK d w0 ob rb p n E W B cb xs) : some rb ≠ (Value.slice B xs.length cb).ownBlock := fun e => (h.R.1 rb e.symm).2 rfl
theorem AccK.drew (h : AccK d w0 ob rb p n E W B cb xs) : AccK d w0 ob rb p n E W.drew B cb xs := h.below (Below.refl _ _).drew
theorem AccK.alloc (h : AccK d w0 ob rb p n E W B cb xs) (O : Obj) : AccK d w0 ob rb p n E (W.alloc O) B cb xs := h.below (below_alloc (Below.refl _ _) O)
theorem cell_far2 {w : World} {a b : Addr} {v u : Value} (h : w.cell? a = some v) (hne : a.block ≠ b.block) : (w.setCell b u).cell? a = some v := by
  rw [World.cell?_setCell_other _ _ _ _ (fun e => hne (by rw [e]))]
  exact h
/-- One more element, appended and stored. -/
theorem AccK.put {m : α} {w1 : World} {B6 : Option Addr} {c6 : Nat} (h : AccK d w0 ob rb p n E W B cb xs) (hR : d.R E w1 w0.heap.size (fun k => k ≠ ob ∧ k ≠ rb) (.slice B6 (xs.length + 1) c6) (xs ++ [m])) (hB : Below w0.heap.size W w1) (hg : W.grownBy w1 (Value.slice B xs.length cb).ownBlock) :
    AccK d w0 ob rb p n E (w1.setCell ⟨ob, 2, none⟩ (.slice B6 (xs.length + 1) c6)) B6 c6 (xs ++ [m]) := by
  have e : (xs ++ [m]).length = xs.length + 1 := by simp
  have o2 := far_cell hg h.o2 h.own
  have hlo := h.lo
  have hlr := h.lr
  have hne := h.hne
  refine ⟨h.bel.trans (hB.setCell h.hob _), h.hrb, h.hob, ?_, ?_, ?_, ?_, ?_, ?_, ?_, ?_, ?_, hne⟩
  · exact (World.cell?_setCell_other _ _ _ _ (by simp)).trans (far_cell hg h.o0 h.own)
  · exact (World.cell?_setCell_other _ _ _ _ (by simp)).trans (far_cell hg h.o1 h.own)
  · rw [e]
    simpa using World.cell?_setCell_same _ _ _ o2
  · intro j
    have := far_frozen hg (h.o3 j) hlo h.own
    simp [this]
  · rw [e]
    exact Kd.R_far hR (fun k hk => hk.1) _
  · exact cell_far2 (far_cell hg h.r0 h.ownr) (fun e => hne e.symm)
  · exact cell_far2 (far_cell hg h.r1 h.ownr) (fun e => hne e.symm)
  · exact cell_far2 (far_cell hg h.r2 h.ownr) (fun e => hne e.symm)
  · intro j
    have := far_frozen hg (h.r3 j) hlr h.ownr
    simp [this]
theorem AccK.own2 {k : Nat} (h : AccK d w0 ob rb p n E W B cb xs) (hk : xs.length = k) : some ob ≠ (Value.slice B k cb).ownBlock := by
  subst hk
  exact h.own
theorem below_set3 {B rb : Nat} {v W : World} (h : Below B v W) (hb : B ≤ rb) (x y z : Value) : Below B v (((W.setCell ⟨rb, 0, none⟩ x).setCell ⟨rb, 1, none⟩ y).setCell ⟨rb, 2, none⟩ z) :=
  ((h.setCell (p := ⟨rb, 0, none⟩) hb _).setCell (p := ⟨rb, 1, none⟩) hb _).setCell (p := ⟨rb, 2, none⟩) hb _
/-- Another value, made by a call, is stored whole. -/
theorem AccK.set {w1 : World} {B' : Option Addr} {c' : Nat} {ys : List α} (h : AccK d w0 ob rb p n E W B cb xs) (hb : Below W.heap.size W w1) (hR : d.R E w1 W.heap.size (fun _ => True) (.slice B' ys.length c') ys) :
    AccK d w0 ob rb p n E (((w1.setCell ⟨ob, 0, none⟩ (.int .i64 p)).setCell ⟨ob, 1, none⟩ (.int .i64 n)).setCell ⟨ob, 2, none⟩ (.slice B' ys.length c')) B' c' ys := by
  have h1 := h.below hb
  have hlo := h.lo
  have hlr := h.lr
  have hne := h.hne
  have hs := h.bel.size
  have hR2 := Kd.R_mono (Kd.R_bound hR) (ok' := fun k => W.heap.size ≤ k) (fun k hk => hk.2.1)
  have hz1 : ∀ (a : Addr) (v u : Value), a.block ≠ ob → w1.cell? a = some v → (((w1.setCell ⟨ob, 0, none⟩ (.int .i64 p)).setCell ⟨ob, 1, none⟩ (.int .i64 n)).setCell ⟨ob, 2, none⟩ (.slice B' ys.length c')).cell? a = some v := fun a v u ha hv => cell_far2 (cell_far2 (cell_far2 hv ha) ha) ha
  refine ⟨below_set3 h1.bel h1.hob _ _ _, h.hrb, h.hob, ?_, ?_, ?_, fun j => by simp [h1.o3], ?_, hz1 _ _ (.int .i64 0) (fun e => hne e.symm) h1.r0, hz1 _ _ (.int .i64 0) (fun e => hne e.symm) h1.r1, hz1 _ _ (.int .i64 0) (fun e => hne e.symm) h1.r2, fun j => by simp [h1.r3], hne⟩
  · have e0 := World.cell?_setCell_same w1 ⟨ob, 0, none⟩ (.int .i64 p) h1.o0
    rw [World.cell?_setCell_other _ _ _ _ (by simp), World.cell?_setCell_other _ _ _ _ (by simp)]
    exact e0
  · have e1 := World.cell?_setCell_same (w1.setCell ⟨ob, 0, none⟩ (.int .i64 p)) ⟨ob, 1, none⟩ (.int .i64 n) ((World.cell?_setCell_other _ _ _ _ (by simp)).trans h1.o1)
    rw [World.cell?_setCell_other _ _ _ _ (by simp)]
    exact e1
  · exact World.cell?_setCell_same ((w1.setCell ⟨ob, 0, none⟩ (.int .i64 p)).setCell ⟨ob, 1, none⟩ (.int .i64 n)) ⟨ob, 2, none⟩ _ ((World.cell?_setCell_other _ _ _ _ (by simp)).trans ((World.cell?_setCell_other _ _ _ _ (by simp)).trans h1.o2))
  · refine Kd.R_mono (Kd.R_lower (Kd.R_far (Kd.R_far (Kd.R_far hR2 (p := ⟨ob, 0, none⟩) (fun k hk => by show k ≠ ob; omega) _) (p := ⟨ob, 1, none⟩) (fun k hk => by show k ≠ ob; omega) _) (p := ⟨ob, 2, none⟩) (fun k hk => by show k ≠ ob; omega) _) hs) (fun k hk => ⟨by omega, by omega⟩)
theorem below_alloc2 (W : World) (O : Obj) : Below W.heap.size W (W.alloc O) := (Below.refl _ _).alloc (Nat.le_refl _) O
end
end Go.Proofs.Ytimjhehagimcaaa

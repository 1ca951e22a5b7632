/- The heap of a substitution: rows of powers that grow in place, a polynomial in a box; no condition. -/
import Derived.Test.YtneknpamceipiaaYSub1
import Derived.Test.YtneknpamceipiaaYWApart
set_option linter.unusedVariables false
set_option linter.unusedSimpArgs false
namespace Go.Proofs.Ytneknpamceipiaa
open Go.RowKit Go.Proofs.YtneknpamceipiaaW.PrintWords
attribute [local go_sem] Later.cell Later.frozen Later.lt Later.lt_add Later.le Later.le_add Later.ne Later.ne' add_at
abbrev kQ : Kd (List PV) := Kd.slice 45 kP
theorem infoQ : (Try.prog.info? 49).map (fun i => (i.zero, i.size, i.bytes)) = some (some (.slice none 0 0), 1, 24) := by kernel_rfl
theorem infoPV : (Try.prog.info? 45).map (fun i => (i.zero, i.size, i.bytes)) = some (some (.agg #[.int .i64 0, .int .i64 0, .slice none 0 0]), 3, 40) := by kernel_rfl
/-- Blocks that are told stay. -/
structure Keeps (bad : Nat → Prop) (w W : World) : Prop where
  os : W.os = w.os
  tape : W.tape = w.tape
  output : W.output = w.output
  size : w.heap.size ≤ W.heap.size
  block : ∀ k, k < w.heap.size → bad k → W.heap[k]? = w.heap[k]?
section
variable {bad bad' : Nat → Prop} {w W W' : World}
theorem Keeps.refl (bad : Nat → Prop) (w : World) : Keeps bad w w := ⟨rfl, rfl, rfl, Nat.le_refl _, fun _ _ _ => rfl⟩
theorem Keeps.mono (h : Keeps bad w W) (hb : ∀ k, bad' k → bad k) : Keeps bad' w W := ⟨h.os, h.tape, h.output, h.size, fun k hk h' => h.block k hk (hb k h')⟩
theorem Keeps.trans (h : Keeps bad w W) (k : Keeps bad W W') : Keeps bad w W' := ⟨k.os.trans h.os, k.tape.trans h.tape, k.output.trans h.output, Nat.le_trans h.size k.size, fun i hi hb => (k.block i (Nat.lt_of_lt_of_le hi h.size) hb).trans (h.block i hi hb)⟩
theorem Keeps.below (hb : Below w.heap.size w W) : Keeps bad w W := ⟨hb.os, hb.tape, hb.output, hb.size, fun k hk _ => hb.block k hk⟩
theorem Keeps.setCell (h : Keeps bad w W) {p : Addr} (hp : ¬ bad p.block) (u : Value) : Keeps bad w (W.setCell p u) := h.trans ⟨rfl, rfl, rfl, by simp, fun k _ hb => Below.heap_setCell W p u k (fun e => hp (e ▸ hb))⟩
theorem Keeps.grown (h : Keeps bad w W) {row : Option Nat} (hg : W.grownBy W' row) (hr : ∀ k, row = some k → ¬ bad k) : Keeps bad w W' := h.trans ⟨hg.os, hg.tape, hg.output, hg.size, fun k hk hb => hg.block k hk (fun e => hr k e.symm hb)⟩
theorem Keeps.cell (h : Keeps bad w W) {a : Addr} {v : Value} (hc : w.cell? a = some v) (ha : bad a.block) : W.cell? a = some v := (World.cell?_of_block (w := w) (h.block _ (World.block_lt_of_cell? _ _ hc) ha)).trans hc
theorem Keeps.frozen (h : Keeps bad w W) {a : Addr} (hlt : a.block < w.heap.size) (ha : bad a.block) : W.frozen? a = w.frozen? a := World.frozen?_of_block (w := w) (h.block _ hlt ha)
theorem Keeps.toBelow {B : Nat} (h : Keeps bad w W) (hB : B ≤ w.heap.size) (hb : ∀ k, k < B → bad k) : Below B w W := ⟨h.os, h.tape, h.output, h.size, fun k hk => h.block k (Nat.lt_of_lt_of_le hk hB) (hb k hk)⟩
theorem tightT {E base : Nat} {ok : Nat → Prop} {v : Value} {xs : List T4} (h : kT.R E W base ok v xs) : kT.R E W base (fun k => some k = v.ownBlock ∧ ok k) v xs := by
  obtain ⟨h0, inner, ho, hr⟩ := h
  exact ⟨fun k hk => ⟨hk.symm, h0 k hk⟩, inner, ho, hr.imp_ (fun _ _ hp => hp)⟩
theorem R_keeps {E base : Nat} {ok : Nat → Prop} {v : Value} {xs : List T4} (h : kT.R E W base ok v xs) (hk : Keeps bad W W') (h3 : ∀ k, some k = v.ownBlock → bad k) : kT.R E W' base ok v xs :=
  Kd.R_mono (Kd.R_step (tightT h) (fun k hk' hlt => hk.block k hlt (h3 k hk'.1))) (fun _ hk => hk.2)
theorem AccK.keeps {w0 : World} {ob rb : Nat} {p n : Int} {E : TypeId} {B : Option Addr} {cb : Nat} {xs : List T4} (h : AccK kT w0 ob rb p n E W B cb xs) (hk : Keeps bad W W') (h0 : ∀ k, k < w0.heap.size → bad k) (h1 : bad ob) (h2 : bad rb) (h3 : ∀ k, some k = (Value.slice B xs.length cb).ownBlock → bad k) : AccK kT w0 ob rb p n E W' B cb xs :=
  ⟨h.bel.trans (hk.toBelow h.bel.size h0), h.hrb, h.hob, hk.cell h.o0 h1, hk.cell h.o1 h1, hk.cell h.o2 h1, fun j => (hk.frozen (a := ⟨ob, j, none⟩) h.lo h1).trans (h.o3 j), R_keeps h.R hk h3, hk.cell h.r0 h2, hk.cell h.r1 h2, hk.cell h.r2 h2, fun j => (hk.frozen (a := ⟨rb, j, none⟩) h.lr h2).trans (h.r3 j), h.hne⟩
/-- The value in the box, with other numbers. -/
theorem AccK.setN {w0 w1 : World} {ob rb : Nat} {p n p' n' : Int} {E : TypeId} {B B' : Option Addr} {cb c' : Nat} {xs ys : List T4} (h : AccK kT w0 ob rb p n E W B cb xs) (hb : Below W.heap.size W w1) (hR : kT.R E w1 W.heap.size (fun _ => True) (.slice B' ys.length c') ys) :
    AccK kT w0 ob rb p' n' E (((w1.setCell ⟨ob, 0, none⟩ (.int .i64 p')).setCell ⟨ob, 1, none⟩ (.int .i64 n')).setCell ⟨ob, 2, none⟩ (.slice B' ys.length c')) B' c' ys := by
  have h1 := h.below hb
  have hlo := h.lo
  have hlr := h.lr
  have hne := h.hne
  have hs := h.bel.size
  have hR2 := Kd.R_mono (Kd.R_bound hR) (ok' := fun k => W.heap.size ≤ k) (fun k hk => hk.2.1)
  have hz1 : ∀ (a : Addr) (v : Value), a.block ≠ ob → w1.cell? a = some v → (((w1.setCell ⟨ob, 0, none⟩ (.int .i64 p')).setCell ⟨ob, 1, none⟩ (.int .i64 n')).setCell ⟨ob, 2, none⟩ (.slice B' ys.length c')).cell? a = some v := fun a v ha hv => cell_far2 (cell_far2 (cell_far2 hv ha) ha) ha
  refine ⟨below_set3 h1.bel h1.hob _ _ _, h.hrb, h.hob, ?_, ?_, ?_, fun j => by simp [h1.o3], ?_, hz1 _ _ (fun e => hne e.symm) h1.r0, hz1 _ _ (fun e => hne e.symm) h1.r1, hz1 _ _ (fun e => hne e.symm) h1.r2, fun j => by simp [h1.r3], hne⟩
  · have e0 := World.cell?_setCell_same w1 ⟨ob, 0, none⟩ (.int .i64 p') h1.o0
    rw [World.cell?_setCell_other _ _ _ _ (by simp), World.cell?_setCell_other _ _ _ _ (by simp)]
    exact e0
  · have e1 := World.cell?_setCell_same (w1.setCell ⟨ob, 0, none⟩ (.int .i64 p')) ⟨ob, 1, none⟩ (.int .i64 n') ((World.cell?_setCell_other _ _ _ _ (by simp)).trans h1.o1)
    rw [World.cell?_setCell_other _ _ _ _ (by simp)]
    exact e1
  · exact World.cell?_setCell_same ((w1.setCell ⟨ob, 0, none⟩ (.int .i64 p')).setCell ⟨ob, 1, none⟩ (.int .i64 n')) ⟨ob, 2, none⟩ _ ((World.cell?_setCell_other _ _ _ _ (by simp)).trans ((World.cell?_setCell_other _ _ _ _ (by simp)).trans h1.o2))
  · refine Kd.R_mono (Kd.R_lower (Kd.R_far (Kd.R_far (Kd.R_far hR2 (p := ⟨ob, 0, none⟩) (fun k hk => by show k ≠ ob; omega) _) (p := ⟨ob, 1, none⟩) (fun k hk => by show k ≠ ob; omega) _) (p := ⟨ob, 2, none⟩) (fun k hk => by show k ≠ ob; omega) _) hs) (fun k hk => ⟨by omega, by omega⟩)
/-- An empty box, just made. -/
theorem AccK.zero {w0 : World} {rb : Nat} {E T : TypeId} (hb : Below w0.heap.size w0 W) (hrb : w0.heap.size ≤ rb) (r0 : W.cell? ⟨rb, 0, none⟩ = some (.int .i64 0)) (r1 : W.cell? ⟨rb, 1, none⟩ = some (.int .i64 0)) (r2 : W.cell? ⟨rb, 2, none⟩ = some (.slice none 0 0)) (r3 : ∀ j, W.frozen? ⟨rb, j, none⟩ = false) :
    AccK kT w0 W.heap.size rb 0 0 E (W.alloc (.cells #[.int .i64 0, .int .i64 0, .slice none 0 0] T)) none 0 [] := by
  have hlr : rb < W.heap.size := World.block_lt_of_cell? _ _ r0
  exact ⟨hb.alloc hb.size _, hrb, hb.size, by simp, by simp, by simp, fun j => by simp, Kd.R_nil _ _ _ _ _, cell_alloc r0 _, cell_alloc r1 _, cell_alloc r2 _, fun j => ((below_alloc2 W _).frozen (p := ⟨rb, j, none⟩) hlr).trans (r3 j), by omega⟩
/-- The box behind the call that made its value. -/
theorem AccK.behind {w0 : World} {rb : Nat} {p n : Int} {E T : TypeId} {B : Option Addr} {cb base : Nat} {xs : List T4} (hb : Below w0.heap.size w0 W) (hrb : w0.heap.size ≤ rb) (hbase : w0.heap.size ≤ base) (hlt : rb < base) (hR : kT.R E W base (fun _ => True) (.slice B xs.length cb) xs) (r0 : W.cell? ⟨rb, 0, none⟩ = some (.int .i64 0)) (r1 : W.cell? ⟨rb, 1, none⟩ = some (.int .i64 0)) (r2 : W.cell? ⟨rb, 2, none⟩ = some (.slice none 0 0)) (r3 : ∀ j, W.frozen? ⟨rb, j, none⟩ = false) :
    AccK kT w0 W.heap.size rb p n E (W.alloc (.cells #[.int .i64 p, .int .i64 n, .slice B xs.length cb] T)) B cb xs := by
  have hlr : rb < W.heap.size := World.block_lt_of_cell? _ _ r0
  have hR2 := Kd.R_mono (Kd.R_bound hR) (ok' := fun k => k ≠ W.heap.size ∧ k ≠ rb) (fun k hk => ⟨by have := hk.2.2.1; omega, by have := hk.2.1; omega⟩)
  exact ⟨hb.alloc hb.size _, hrb, hb.size, by simp, by simp, by simp, fun j => by simp, Kd.R_alloc (Kd.R_lower hR2 hbase) _, cell_alloc r0 _, cell_alloc r1 _, cell_alloc r2 _, fun j => ((below_alloc2 W _).frozen (p := ⟨rb, j, none⟩) hlr).trans (r3 j), by omega⟩
/-- A polynomial in a box of its own. -/
structure Box3 (W : World) (base nb : Nat) (p n : Int) (B : Option Addr) (cb : Nat) (xs : List T4) : Prop where
  hnb : base ≤ nb
  o0 : W.cell? ⟨nb, 0, none⟩ = some (.int .i64 p)
  o1 : W.cell? ⟨nb, 1, none⟩ = some (.int .i64 n)
  o2 : W.cell? ⟨nb, 2, none⟩ = some (.slice B xs.length cb)
  o3 : ∀ j, W.frozen? ⟨nb, j, none⟩ = false
  R : kT.R 121 W base (fun k => k ≠ nb) (.slice B xs.length cb) xs
section
variable {base nb : Nat} {p n : Int} {B : Option Addr} {cb : Nat} {xs : List T4}
theorem Box3.lo (h : Box3 W base nb p n B cb xs) : nb < W.heap.size := World.block_lt_of_cell? _ _ h.o0
theorem Box3.own (h : Box3 W base nb p n B cb xs) : ∀ k, some k = (Value.slice B xs.length cb).ownBlock → base ≤ k ∧ k < W.heap.size ∧ k ≠ nb := fun k hk => by
  have h1 := (Kd.R_bound h.R).1 k hk.symm
  exact ⟨h1.2.1, h1.2.2.1, h1.1⟩
theorem Box3.keeps (h : Box3 W base nb p n B cb xs) (hk : Keeps bad W W') (h1 : bad nb) (h3 : ∀ k, some k = (Value.slice B xs.length cb).ownBlock → bad k) : Box3 W' base nb p n B cb xs :=
  ⟨h.hnb, hk.cell h.o0 h1, hk.cell h.o1 h1, hk.cell h.o2 h1, fun j => (hk.frozen (a := ⟨nb, j, none⟩) h.lo h1).trans (h.o3 j), R_keeps h.R hk h3⟩
theorem Box3.below (h : Box3 W base nb p n B cb xs) (hb : Below W.heap.size W W') : Box3 W' base nb p n B cb xs := h.keeps (bad := fun _ => True) (Keeps.below hb) trivial (fun _ _ => trivial)
theorem Box3.behind {T : TypeId} {b2 : Nat} (hb : base ≤ b2) (hb2 : b2 ≤ W.heap.size) (hR : kT.R 121 W b2 (fun _ => True) (.slice B xs.length cb) xs) : Box3 (W.alloc (.cells #[.int .i64 p, .int .i64 n, .slice B xs.length cb] T)) base W.heap.size p n B cb xs :=
  ⟨by omega, by simp, by simp, by simp, fun j => by simp, Kd.R_alloc (Kd.R_lower (Kd.R_mono (Kd.R_bound hR) (fun k hk => by have := hk.2.2.1; omega)) hb) _⟩
theorem Box3.zero {T : TypeId} (W : World) : Box3 (W.alloc (.cells #[.int .i64 0, .int .i64 0, .slice none 0 0] T)) W.heap.size W.heap.size 0 0 none 0 [] := ⟨Nat.le_refl _, by simp, by simp, by simp, fun j => by simp, Kd.R_nil _ _ _ _ _⟩
theorem Box3.setN {w1 : World} {p' n' : Int} {B' : Option Addr} {c' : Nat} {ys : List T4} (h : Box3 W base nb p n B cb xs) (hb : Below W.heap.size W w1) (hbase : base ≤ W.heap.size) (hR : kT.R 121 w1 W.heap.size (fun _ => True) (.slice B' ys.length c') ys) :
    Box3 (((w1.setCell ⟨nb, 0, none⟩ (.int .i64 p')).setCell ⟨nb, 1, none⟩ (.int .i64 n')).setCell ⟨nb, 2, none⟩ (.slice B' ys.length c')) base nb p' n' B' c' ys := by
  have h1 := h.below hb
  have hlo := h.lo
  have hR2 := Kd.R_mono (Kd.R_bound hR) (ok' := fun k => W.heap.size ≤ k) (fun k hk => hk.2.1)
  refine ⟨h.hnb, ?_, ?_, ?_, fun j => by simp [h1.o3], ?_⟩
  · have e0 := World.cell?_setCell_same w1 ⟨nb, 0, none⟩ (.int .i64 p') h1.o0
    rw [World.cell?_setCell_other _ _ _ _ (by simp), World.cell?_setCell_other _ _ _ _ (by simp)]
    exact e0
  · have e1 := World.cell?_setCell_same (w1.setCell ⟨nb, 0, none⟩ (.int .i64 p')) ⟨nb, 1, none⟩ (.int .i64 n') ((World.cell?_setCell_other _ _ _ _ (by simp)).trans h1.o1)
    rw [World.cell?_setCell_other _ _ _ _ (by simp)]
    exact e1
  · exact World.cell?_setCell_same ((w1.setCell ⟨nb, 0, none⟩ (.int .i64 p')).setCell ⟨nb, 1, none⟩ (.int .i64 n')) ⟨nb, 2, none⟩ _ ((World.cell?_setCell_other _ _ _ _ (by simp)).trans ((World.cell?_setCell_other _ _ _ _ (by simp)).trans h1.o2))
  · exact Kd.R_mono (Kd.R_lower (Kd.R_far (Kd.R_far (Kd.R_far hR2 (p := ⟨nb, 0, none⟩) (fun k hk => by show k ≠ nb; omega) _) (p := ⟨nb, 1, none⟩) (fun k hk => by show k ≠ nb; omega) _) (p := ⟨nb, 2, none⟩) (fun k hk => by show k ≠ nb; omega) _) hbase) (fun k hk => by omega)
end
/-- Rows of polynomials of the call's own, none of them another's, none of a told block. -/
structure Pows (W : World) (base : Nat) (bad : Nat → Prop) (g m c : Nat) (pss : List (List PV)) : Prop where
  S : Kd.S kQ 49 W base (fun k => ¬ bad k) (.slice (some ⟨g, 0, none⟩) m c) pss
  lt : ∀ k, bad k → k < W.heap.size
section
variable {base g m c : Nat} {pss : List (List PV)}
theorem Pows.below (h : Pows W base bad g m c pss) (hb : Below W.heap.size W W') : Pows W' base bad g m c pss := ⟨Kd.S_below h.S hb, fun k hk => Nat.lt_of_lt_of_le (h.lt k hk) hb.size⟩
theorem Pows.set (h : Pows W base bad g m c pss) {p : Addr} (hp : bad p.block) (u : Value) : Pows (W.setCell p u) base bad g m c pss := ⟨Kd.S_far h.S (fun k hk e => hk (e ▸ hp)) u, fun k hk => by simpa using h.lt k hk⟩
theorem Pows.to (h : Pows W base bad g m c pss) (hb : Below W.heap.size W W') (hn : ∀ k, bad' k → bad k ∨ W.heap.size ≤ k) (hl : ∀ k, bad' k → k < W'.heap.size) : Pows W' base bad' g m c pss :=
  ⟨Kd.S_mono (Kd.S_old h.S hb) (fun k hk hb' => (hn k hb').elim hk.1 (fun h2 => by have := hk.2; omega)), hl⟩
theorem Pows.len (h : Pows W base bad g m c pss) : pss.length = m := (Kd.S_reads' h.S).1.symm
theorem Pows.good (h : Pows W base bad g m c pss) : ¬ bad g := (Kd.S_R h.S).1 g (by simp [Value.ownBlock])
theorem Pows.lend (h : Pows W base bad g m c pss) (i : Nat) (hi : i < m) : ∃ (oki : Nat → Prop) (v : Value), kP.R 45 W base oki v (pss.getD i []) ∧ W.cell? ⟨g, i, none⟩ = some v ∧ W.frozen? ⟨g, i, none⟩ = false ∧ (∀ k, oki k → ¬ bad k ∧ k ≠ g) ∧ Kd.H kQ 49 W base (fun k => ¬ bad k) (.slice (some ⟨g, 0, none⟩) m c) pss i oki [v] := by
  obtain ⟨oki, cs, hcl, hM, hcc, hfr, hoki, hH⟩ := Kd.S_elem h.S [] (i : Int) (by omega) (by omega)
  obtain ⟨v, rfl, hR⟩ := hM
  have e : ((i : Int)).toNat * kQ.sz + 0 = i := by
    show ((i : Int)).toNat * 1 + 0 = i
    omega
  have h1 := hcc 0 v rfl
  have h2 := hfr 0
  rw [e] at h1 h2
  rw [Int.toNat_natCast] at hR
  exact ⟨oki, v, hR, h1, h2, hoki, hH⟩
/-- Row i has grown, its header is stored. -/
theorem Pows.put (h : Pows W base bad g m c pss) {i : Nat} (hi : i < m) {oki : Nat → Prop} {v v1 : Value} {W1 w1 : World} {ps : List PV} (hR0 : kP.R 45 W base oki v (pss.getD i [])) (hoki : ∀ k, oki k → ¬ bad k ∧ k ≠ g) (hH : Kd.H kQ 49 W base (fun k => ¬ bad k) (.slice (some ⟨g, 0, none⟩) m c) pss i oki [v])
    (hb : Below W.heap.size W W1) (hg : W1.grownBy w1 v.ownBlock) (hR : kP.R 45 w1 base (fun k => oki k ∨ ¬ bad k ∧ W.heap.size ≤ k) v1 ps) :
    Pows (w1.setCell ⟨g, i, none⟩ v1) base bad g m c (pss.set i ps) ∧ Keeps bad W (w1.setCell ⟨g, i, none⟩ v1) := by
  have hvo : ∀ k, v.ownBlock = some k → oki k := hR0.1
  have hH1 := Kd.H_grown (Kd.H_below (Kd.H_widen hH) hb) hg (fun k hk => Or.inl (hvo k hk))
  have hH2 := Kd.H_mono hH1 (ok' := fun k => ¬ bad k ∧ ¬ (fun _ : Nat => False) k) (fun _ hk => ⟨hk, fun h => h⟩)
  obtain ⟨hs, _⟩ := Kd.S_seg hH2 (by omega) (by omega) (seg := [v1]) (j := 0) (x' := ps) (okp := fun k => oki k ∨ ¬ bad k ∧ W.heap.size ≤ k) (by show 0 + 1 ≤ 1; omega) ⟨v1, rfl, hR⟩ (fun _ hk => .inl hk) (fun _ hk => hk.elim)
  have e : ((i : Int)).toNat * kQ.sz + 0 = i := by
    show ((i : Int)).toNat * 1 + 0 = i
    omega
  rw [e, Int.toNat_natCast] at hs
  have hkk : Keeps bad W (w1.setCell ⟨g, i, none⟩ v1) := ((Keeps.below hb).grown hg (fun k hk => (hoki k (hvo k hk)).1)).setCell h.good _
  exact ⟨⟨hs, fun k hk => Nat.lt_of_lt_of_le (h.lt k hk) hkk.size⟩, hkk⟩
end
/-- One polynomial as a row. -/
theorem lit_P {base : Nat} {p n : Int} {ok : Nat → Prop} {B : Option Addr} {cb : Nat} {xs : List T4} (hb : base ≤ W.heap.size) (hR : kT.R 121 W base ok (.slice B xs.length cb) xs) :
    kP.R 45 (W.alloc (.cells #[.int .i64 p, .int .i64 n, .slice B xs.length cb] 45)) base (fun k => (ok k ∧ base ≤ k ∧ k < W.heap.size) ∨ k = W.heap.size) (.slice (some ⟨W.heap.size, 0, none⟩) 1 1) [⟨p, n, xs⟩] := by
  refine ⟨fun k hk => .inr (by simpa [Value.ownBlock] using hk.symm), [.int .i64 p, .int .i64 n, .slice B xs.length cb], ⟨by simp [kP], .inr ⟨W.heap.size, 1, _, rfl, hb, heap_alloc_last _ _, Nat.le_refl _, by decide, by simp [kP], by simp [kP]⟩⟩, by simp [kP], fun j q hj => ?_⟩
  match j, hj with
  | 0, hj =>
    obtain rfl : (⟨p, n, xs⟩ : PV) = q := by simpa using hj
    refine ⟨B, cb, rfl, Kd.R_alloc (Kd.R_mono (Kd.R_bound hR) fun k hk => ⟨.inl ⟨hk.1, hk.2.1, hk.2.2.1⟩, fun e => ?_⟩) _⟩
    have h1 := hk.2.2.1
    have h2 : W.heap.size = k := by simpa [Value.ownBlock] using e.symm
    omega
  | j + 1, hj => simp at hj
end
/-- What stays: elder blocks, boxes, and the rows of values. -/
def badK (base : Nat) (ks : List Nat) (vs : List Value) (k : Nat) : Prop := k < base ∨ k ∈ ks ∨ ∃ v ∈ vs, some k = v.ownBlock
def goodP (p D : Int) (ys : List (List T4)) (pss : List (List PV)) : Prop := ∀ j, j < pss.length → ∃ n, 1 ≤ n ∧ pss.getD j [] = powsR p D (ys.getD j []) n
theorem goodP_set {p D : Int} {ys : List (List T4)} {pss : List (List PV)} (h : goodP p D ys pss) {i n : Nat} (hn : 1 ≤ n) : goodP p D ys (pss.set i (powsR p D (ys.getD i []) n)) := by
  intro j hj
  rw [List.length_set] at hj
  by_cases e : i = j
  · subst e
    exact ⟨n, hn, by simp [List.getD_eq_getElem?_getD, List.getElem?_set_self hj]⟩
  · obtain ⟨k, hk, h2⟩ := h j hj
    exact ⟨k, hk, by rw [List.getD_eq_getElem?_getD, List.getElem?_set_ne e, ← List.getD_eq_getElem?_getD, h2]⟩
theorem set_getD {pss : List (List PV)} {i : Nat} (hi : i < pss.length) (ps : List PV) : (pss.set i ps).getD i [] = ps := by simp [List.getD_eq_getElem?_getD, List.getElem?_set_self hi]
end Go.Proofs.Ytneknpamceipiaa

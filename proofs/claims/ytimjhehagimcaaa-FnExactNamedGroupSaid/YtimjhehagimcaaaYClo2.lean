/- The walk of the reference's closure of matrices, whole (l02Of); no condition. -/
import Derived.Test.YtimjhehagimcaaaYE1
import Derived.Test.YtimjhehagimcaaaYClo1
import Derived.Test.YtimjhehagimcaaaYLawKit2
import Derived.Deep.RegionHeld3
set_option linter.unusedVariables false
set_option linter.unusedSimpArgs false
namespace Go.Proofs.Ytimjhehagimcaaa
open Go.RowKit Go.Proofs.YtimjhehagimcaaaW.PrintWords
attribute [local go_sem] Later.cell Later.frozen Later.lt Later.lt_add Later.le Later.le_add Later.ne Later.ne' add_at
attribute [local go_sem 2000] run_eqM guardM
attribute [local go_sem] later_drew2 later_drewf2
/-- A group that a call makes, and whether it has made one. -/
def MakesGB (p d : Int) (xs : List M9) (b : Bool) (E : Nat) (w : World) (e : Ending) (w' : World) : Prop :=
  ∃ A c, e = .returned (.tuple #[.agg #[.int .i64 p, .int .i64 d, .slice A xs.length c], .bool b]) ∧ kM.R E w' w.heap.size (fun _ => True) (.slice A xs.length c) xs ∧ Below w.heap.size w w'
theorem call_makesGB2 {p d : Int} {ts : List M9} {b : Bool} {E : Nat} {P : Program} {f : FuncId} {args : Array Value} {w : World} {y : Later w} {R : Ending → World → Prop}
    (h : Calls P f args y.W (MakesGB p d ts b E y.W)) (k : ∀ (x : Later w) A c, Below y.W.heap.size y.W x.W → ts.length ≤ c → kM.R E x.W y.W.heap.size (fun _ => True) (.slice A ts.length c) ts → R (.returned (.tuple #[.agg #[.int .i64 p, .int .i64 d, .slice A ts.length c], .bool b])) x.W) : Calls P f args y.W R :=
  h.mono fun _ w' ⟨A, c, he, hr, hb⟩ => by
    subst he
    exact k ⟨w', y.ok.trans (hb.mono y.ok.size)⟩ A c hb (Kd.R_reads' hr).2.1 hr
def gP (p n : Int) (gs : List M9) : Int := if (genO p n gs).isSome then p else 0
def gN (p n : Int) (gs : List M9) : Int := if (genO p n gs).isSome then n else 0
def gL (p n : Int) (gs : List M9) : List M9 := match genO p n gs with | some l => sortM l | none => []
theorem gen_some {p n : Int} {gs l : List M9} (h : genO p n gs = some l) : gP p n gs = p ∧ gN p n gs = n ∧ gL p n gs = sortM l ∧ (genO p n gs).isSome = true := by
  unfold gP gN gL
  rw [h]
  exact ⟨rfl, rfl, rfl, rfl⟩
theorem gen_none {p n : Int} {gs : List M9} (h : genO p n gs = none) : gP p n gs = 0 ∧ gN p n gs = 0 ∧ gL p n gs = [] ∧ (genO p n gs).isSome = false := by
  unfold gP gN gL
  rw [h]
  exact ⟨rfl, rfl, rfl, rfl⟩
/-- A row in the making beside the result's box. -/
structure RowB (w0 : World) (rb : Nat) (W : World) (B : Option Addr) (cb : Nat) (xs : List M9) : Prop where
  bel : Below w0.heap.size w0 W
  hrb : w0.heap.size ≤ rb
  R : kM.R 41 W w0.heap.size (fun k => k ≠ rb) (.slice B xs.length cb) xs
  r0 : W.cell? ⟨rb, 0, none⟩ = some (.int .i64 0)
  r1 : W.cell? ⟨rb, 1, none⟩ = some (.int .i64 0)
  r2 : W.cell? ⟨rb, 2, none⟩ = some (.slice none 0 0)
  r3 : ∀ j, W.frozen? ⟨rb, j, none⟩ = false
section
variable {w0 W W' : World} {rb : Nat} {B : Option Addr} {cb : Nat} {xs : List M9}
theorem RowB.lr (h : RowB w0 rb W B cb xs) : rb < W.heap.size := World.block_lt_of_cell? _ _ h.r0
theorem RowB.below (h : RowB w0 rb W B cb xs) (hb : Below W.heap.size W W') : RowB w0 rb W' B cb xs :=
  ⟨h.bel.trans (hb.mono h.bel.size), h.hrb, Kd.R_below h.R hb, pw_cell_below hb h.r0, pw_cell_below hb h.r1, pw_cell_below hb h.r2, fun j => (hb.frozen (p := ⟨rb, j, none⟩) h.lr).trans (h.r3 j)⟩
theorem RowB.ownr (h : RowB w0 rb W B cb xs) : some rb ≠ (Value.slice B xs.length cb).ownBlock := fun e => h.R.1 rb e.symm rfl
theorem RowB.grow {w1 : World} {B6 : Option Addr} {c6 : Nat} {ys : List M9} (h : RowB w0 rb W B cb xs) (hR : kM.R 41 w1 w0.heap.size (fun k => k ≠ rb) (.slice B6 ys.length c6) ys) (hB : Below w0.heap.size w0 w1) (hg : W.grownBy w1 (Value.slice B xs.length cb).ownBlock) : RowB w0 rb w1 B6 c6 ys :=
  ⟨hB, h.hrb, hR, far_cell hg h.r0 h.ownr, far_cell hg h.r1 h.ownr, far_cell hg h.r2 h.ownr, fun j => far_frozen hg (h.r3 j) h.lr h.ownr⟩
end
theorem addM_le {p : Int} {n : Nat} {a g : M9} {all : List M9} (hp : 2 ≤ p) (hp' : p ≤ 13) (h : ∀ x ∈ all, x.le p) : ∀ x ∈ addM all (timesM p n a g), x.le p := fun x hx => by
  rcases addM_cases hx with hx | rfl
  · exact h x hx
  · exact timesM_le hp hp'
theorem unitM_le {p n : Int} (hp : 2 ≤ p) : (unitM n).le p := by
  unfold unitM M9.le
  refine ⟨⟨?_, ?_, ?_⟩, ⟨?_, ?_, ?_⟩, ⟨?_, ?_, ?_⟩⟩
  all_goals (simp only []; (repeat' split) <;> (show (_ : Int) < p) <;> simp <;> omega)
theorem drop_getD {gs : List M9} {j : Nat} (h : j < gs.length) : gs.drop j = gs.getD j zM :: gs.drop (j + 1) := by
  rw [List.drop_eq_getElem_cons h]
  simp [List.getD_eq_getElem?_getD, h]
set_option maxRecDepth 100000 in
set_option maxHeartbeats 4000000 in
theorem l02Of_c (p n : Int) (A : Option Addr) (c : Nat) (gs : List M9) (w : World) (hC : kM.C w A gs.length gs) (hN : gs.length ≤ 1048576) (hp : 2 ≤ p) (hp' : p ≤ 13) (hn1 : 1 ≤ n) (hn3 : n ≤ 3) (hm : ∀ i, i < gs.length → matB p n (gs.getD i zM) = true) :
    Calls Try.prog 94 #[.int .i64 p, .int .i64 n, .slice A gs.length c] w (MakesGB (gP p n gs) (gN p n gs) (gL p n gs) (genO p n gs).isSome 41 w) := by
  have HM := Lib.hid hm
  clear hm
  have hU := fun W => l02Unit_c n W hn1 hn3
  have hUle := unitM_le (p := p) (n := n) hp
  have hgen : cloO p n.toNat gs 49 0 [unitM n] = genO p n gs := rfl
  generalize unitM n = u at *
  have HGEN := Lib.hid hgen
  clear hgen
  go_enter Try.func94, Try.ntmps94
  go_wp2_with ((go_at_call 60; (first | (with_reducible refine call_later2 (hU _) ?_) | (with_reducible refine call_later (hU _) ?_)); intro x))
  have hx := x.ok.size
  simp at hx
  have hR0 := R_oneM u x.W (w.heap.size + 1) (by omega)
  have rb0 : RowB w w.heap.size (x.W.alloc (.cells #[.int .u8 (u.r0.a.toNat : Int), .int .u8 (u.r0.b.toNat : Int), .int .u8 (u.r0.c.toNat : Int), .int .u8 (u.r1.a.toNat : Int), .int .u8 (u.r1.b.toNat : Int), .int .u8 (u.r1.c.toNat : Int), .int .u8 (u.r2.a.toNat : Int), .int .u8 (u.r2.b.toNat : Int), .int .u8 (u.r2.c.toNat : Int)] 41)) (some ⟨x.W.heap.size, 0, none⟩) 1 [u] :=
    ⟨bq2, Nat.le_refl _, Kd.R_lower (Kd.R_mono (Kd.R_bound hR0) (fun k hk => by have := hk.2.1; omega)) (by omega), cell_alloc (x.keep (by simp)) _, cell_alloc (x.keep (by simp)) _, cell_alloc (x.keep (by simp)) _,
      fun j => ((below_alloc (Below.refl x.W.heap.size x.W) (.cells #[.int .u8 (u.r0.a.toNat : Int), .int .u8 (u.r0.b.toNat : Int), .int .u8 (u.r0.c.toNat : Int), .int .u8 (u.r1.a.toNat : Int), .int .u8 (u.r1.b.toNat : Int), .int .u8 (u.r1.c.toNat : Int), .int .u8 (u.r2.a.toNat : Int), .int .u8 (u.r2.b.toNat : Int), .int .u8 (u.r2.c.toNat : Int)] 41)).frozen (p := ⟨w.heap.size, j, none⟩) (by show w.heap.size < _; omega)).trans ((x.ok.frozen (p := ⟨w.heap.size, j, none⟩) (by simp)).trans bq5)⟩
  clear hR0
  generalize x.W.alloc (.cells #[.int .u8 (u.r0.a.toNat : Int), .int .u8 (u.r0.b.toNat : Int), .int .u8 (u.r0.c.toNat : Int), .int .u8 (u.r1.a.toNat : Int), .int .u8 (u.r1.b.toNat : Int), .int .u8 (u.r1.c.toNat : Int), .int .u8 (u.r2.a.toNat : Int), .int .u8 (u.r2.b.toNat : Int), .int .u8 (u.r2.c.toNat : Int)] 41) = V at *
  generalize x.W.heap.size = xb at *
  go_loopg [9, 8] 49 (fun k v s w' => ∃ (i : Nat) (B : Option Addr) (cb : Nat) (all : List M9), i + k = 49 ∧ v = .int .i64 i ∧ s = .slice B all.length cb ∧ RowB w w.heap.size w' B cb all ∧ all.length ≤ 48 ∧ (∀ x ∈ all, x.le p) ∧ cloO p n.toNat gs k i all = genO p n gs)
  case atStart => exact ⟨0, _, 1, [u], by omega, rfl, rfl, rb0, by simp, fun y hy => by rw [List.mem_singleton.1 hy]; exact hUle, HGEN.out⟩
  case round =>
    clear rb0 HGEN
    obtain ⟨i, B, cb, all, hik, rfl, rfl, rb, hal, hle, hclo⟩ := hrel
    have HIK := Lib.hid hik
    have HLE := Lib.hid hle
    clear hik hle
    by_cases hlt : i < all.length
    · obtain ⟨f, rfl⟩ : ∃ f, gk = f + 1 := ⟨gk - 1, by have := HIK.out; omega⟩
      have hclo2 : (innO p n.toNat (all.getD i zM) all gs).bind (fun all' => cloO p n.toNat gs f (i + 1) all') = genO p n gs := by
        rw [← hclo]
        show _ = if i < all.length then _ else _
        rw [if_pos hlt]
      have HCLO := Lib.hid hclo2
      clear hclo hclo2
      have hi0 : (0 : Int) ≤ i := by omega
      have hi1 : (i : Int) < all.length := by omega
      have hin : ((i : Int)).toNat = i := by omega
      have hib : (i : Int) ≤ 1000 := by have := HIK.out; omega
      have ha := HLE.out _ (getD_mem zM hlt)
      generalize hga : all.getD i zM = a at *
      have HGA := Lib.hid hga
      clear hga
      go_wp2
      go_loopg [10, 8] gs.length (fun k v s w'' => ∃ (j : Nat) (B : Option Addr) (cb : Nat) (al : List M9), j + k = gs.length ∧ v = .int .i64 j ∧ s = .slice B al.length cb ∧ RowB w w.heap.size w'' B cb al ∧ al.length ≤ 48 ∧ i < al.length ∧ al.getD i zM = a ∧ (∀ x ∈ al, x.le p) ∧ innO p n.toNat a al (gs.drop j) = innO p n.toNat a all gs)
      case atStart => exact ⟨0, B, cb, all, by omega, rfl, rfl, rb, hal, hlt, HGA.out, HLE.out, by simp⟩
      case round =>
        clear rb hal HLE HGA hlt hi1
        obtain ⟨j, B, cb, al, hjk, rfl, rfl, rb, hal, hlt, hga, hle, hinn⟩ := hrel
        have HJK := Lib.hid hjk
        have HLE := Lib.hid hle
        have HGA := Lib.hid hga
        have HAL := Lib.hid hal
        have HLT := Lib.hid hlt
        clear hjk hle hal
        by_cases hj : j < gs.length
        · rw [drop_getD hj] at hinn
          have hinn2 : (if 48 < (addM al (timesM p n.toNat a (gs.getD j zM))).length then none else innO p n.toNat a (addM al (timesM p n.toNat a (gs.getD j zM))) (gs.drop (j + 1))) = innO p n.toNat a all gs := hinn
          clear hinn
          have hCa := (Kd.R_reads' rb.R).2.2
          obtain ⟨b, o, hB, q0, q1, q2, q3, q4, q5, q6, q7, q8⟩ := kM_at hCa i hlt
          obtain ⟨b4, o4, hA, s0, s1, s2, s3, s4, s5, s6, s7, s8⟩ := kM_at (Kd.C_below hC rb.bel) j hj
          subst hB
          subst hA
          have zb := World.block_lt_of_cell? _ _ q0
          have zb4 := World.block_lt_of_cell? _ _ s0
          have hmg := HM.out j hj
          rw [hga] at q0 q1 q2 q3 q4 q5 q6 q7 q8
          generalize gs.getD j zM = g at *
          have hT := fun W => l02Times_h ha hmg W
          have HTL := Lib.hid (addM_le (n := n.toNat) (a := a) (g := g) hp hp' HLE.out)
          generalize timesM p n.toNat a g = t at *
          have hj0 : (0 : Int) ≤ j := by omega
          have hj1 : (j : Int) < gs.length := by omega
          have hjn : ((j : Int)).toNat = j := by omega
          have hi1 : (i : Int) < al.length := by omega
          have RBH := Lib.hid rb
          have zr := rb.lr
          have HINN := Lib.hid hinn2
          clear rb hinn2 hmg hga
          simp only [] at zb zb4
          go_wp2
          go_cut [11] from 27 to 37 (fun v1 wx => ∃ (bx : Nat), v1 = .pointer (some ⟨bx, 0, none⟩) ∧ Below wr.heap.size wr wx ∧ wx.cell? ⟨bx, 0, none⟩ = some (.int .u8 (t.r0.a.toNat : Int)) ∧ wx.cell? ⟨bx, 1, none⟩ = some (.int .u8 (t.r0.b.toNat : Int)) ∧ wx.cell? ⟨bx, 2, none⟩ = some (.int .u8 (t.r0.c.toNat : Int)) ∧ wx.cell? ⟨bx, 3, none⟩ = some (.int .u8 (t.r1.a.toNat : Int)) ∧ wx.cell? ⟨bx, 4, none⟩ = some (.int .u8 (t.r1.b.toNat : Int)) ∧ wx.cell? ⟨bx, 5, none⟩ = some (.int .u8 (t.r1.c.toNat : Int)) ∧ wx.cell? ⟨bx, 6, none⟩ = some (.int .u8 (t.r2.a.toNat : Int)) ∧ wx.cell? ⟨bx, 7, none⟩ = some (.int .u8 (t.r2.b.toNat : Int)) ∧ wx.cell? ⟨bx, 8, none⟩ = some (.int .u8 (t.r2.c.toNat : Int)))
          case first =>
            go_region_held3 (fun w' => w'.cell? ⟨b, o + i * 9, none⟩ = some (.int .u8 (a.r0.a.toNat : Int)) ∧ w'.cell? ⟨b, o + i * 9 + 1, none⟩ = some (.int .u8 (a.r0.b.toNat : Int)) ∧ w'.cell? ⟨b, o + i * 9 + 2, none⟩ = some (.int .u8 (a.r0.c.toNat : Int)) ∧ w'.cell? ⟨b, o + i * 9 + 3, none⟩ = some (.int .u8 (a.r1.a.toNat : Int)) ∧ w'.cell? ⟨b, o + i * 9 + 4, none⟩ = some (.int .u8 (a.r1.b.toNat : Int)) ∧ w'.cell? ⟨b, o + i * 9 + 5, none⟩ = some (.int .u8 (a.r1.c.toNat : Int)) ∧ w'.cell? ⟨b, o + i * 9 + 6, none⟩ = some (.int .u8 (a.r2.a.toNat : Int)) ∧ w'.cell? ⟨b, o + i * 9 + 7, none⟩ = some (.int .u8 (a.r2.b.toNat : Int)) ∧ w'.cell? ⟨b, o + i * 9 + 8, none⟩ = some (.int .u8 (a.r2.c.toNat : Int)) ∧ w'.cell? ⟨b4, o4 + j * 9, none⟩ = some (.int .u8 (g.r0.a.toNat : Int)) ∧ w'.cell? ⟨b4, o4 + j * 9 + 1, none⟩ = some (.int .u8 (g.r0.b.toNat : Int)) ∧ w'.cell? ⟨b4, o4 + j * 9 + 2, none⟩ = some (.int .u8 (g.r0.c.toNat : Int)) ∧ w'.cell? ⟨b4, o4 + j * 9 + 3, none⟩ = some (.int .u8 (g.r1.a.toNat : Int)) ∧ w'.cell? ⟨b4, o4 + j * 9 + 4, none⟩ = some (.int .u8 (g.r1.b.toNat : Int)) ∧ w'.cell? ⟨b4, o4 + j * 9 + 5, none⟩ = some (.int .u8 (g.r1.c.toNat : Int)) ∧ w'.cell? ⟨b4, o4 + j * 9 + 6, none⟩ = some (.int .u8 (g.r2.a.toNat : Int)) ∧ w'.cell? ⟨b4, o4 + j * 9 + 7, none⟩ = some (.int .u8 (g.r2.b.toNat : Int)) ∧ w'.cell? ⟨b4, o4 + j * 9 + 8, none⟩ = some (.int .u8 (g.r2.c.toNat : Int))) ((refine ⟨?_, ?_, ?_, ?_, ?_, ?_, ?_, ?_, ?_, ?_, ?_, ?_, ?_, ?_, ?_, ?_, ?_, ?_⟩ <;> ((repeat (refine cell_far2 ?_ (by dsimp only; omega))); (first | assumption | (exact cell_alloc (by assumption) _))))) (first | (go_at_call 64; (first | (with_reducible refine call_later3 (hT _) ?_) | (with_reducible refine call_later4 (hT _) ?_)); intro xx hbx; have hqx : Below wr.heap.size wr xx.W := bq2; have zz := hbx.size; (try simp at zz); have kx0 := pw_cell_below hqx q0; have kx1 := pw_cell_below hqx q1; have kx2 := pw_cell_below hqx q2; have kx3 := pw_cell_below hqx q3; have kx4 := pw_cell_below hqx q4; have kx5 := pw_cell_below hqx q5; have kx6 := pw_cell_below hqx q6; have kx7 := pw_cell_below hqx q7; have kx8 := pw_cell_below hqx q8; have lx0 := pw_cell_below hqx s0; have lx1 := pw_cell_below hqx s1; have lx2 := pw_cell_below hqx s2; have lx3 := pw_cell_below hqx s3; have lx4 := pw_cell_below hqx s4; have lx5 := pw_cell_below hqx s5; have lx6 := pw_cell_below hqx s6; have lx7 := pw_cell_below hqx s7; have lx8 := pw_cell_below hqx s8))
            all_goals (go_wp2_with fail; go_meet)
            all_goals refine ⟨_, rfl, ?_, ?_, ?_, ?_, ?_, ?_, ?_, ?_, ?_, ?_⟩
            all_goals first | (simp; done) | (simp [go_sem]; done) | (go_simp; done) | (exact bq2)
          case rest =>
            obtain ⟨bx, rfl, hbw, n0, n1, n2, n3, n4, n5, n6, n7, n8⟩ := hcut
            clear q0 q1 q2 q3 q4 q5 q6 q7 q8 s0 s1 s2 s3 s4 s5 s6 s7 s8
            have RB2 := Lib.hid (RBH.out.below hbw)
            have zbx := World.block_lt_of_cell? _ _ n0
            have zr2 := RB2.out.lr
            have zw2 := RB2.out.bel.size
            simp only [] at zbx
            have hF := fun W hC => l02Find_c (w := W) (A := some ⟨b, o, none⟩) (c := cb) t hC (show al.length ≤ 1048576 by have := HAL.out; omega)
            have hCa2 := (Kd.R_reads' RB2.out.R).2.2
            have hal := HAL.out
            by_cases ht : t ∈ al
            · have hix : ¬ idxM al t < 0 := fun h => (idxM_neg al t).1 h ht
              have e : innO p n.toNat a al (gs.drop (j + 1)) = innO p n.toNat a all gs := by
                have := HINN.out
                rw [addM_in ht, if_neg (by omega)] at this
                exact this
              have E := Lib.hid e
              clear e ht
              have h48 : ¬ (48 : Int) < al.length := by omega
              generalize idxM al t = ix at *
              go_wp2_with ((go_at_call 112; (first | (with_reducible refine call_later2 (hF _ hCa2) ?_) | (with_reducible refine call_later (hF _ hCa2) ?_)); intro x3))
              go_roundg (gk - 1)
              case measure => have := HJK.out; omega
              case rel => exact ⟨j + 1, _, cb, al, by have := HJK.out; omega, by go_num, rfl, RB2.out.below (show Below wc.heap.size wc x3.W from bq2), hal, HLT.out, HGA.out, HLE.out, E.out⟩
            · have hix : idxM al t < 0 := (idxM_neg al t).2 ht
              have hadd := addM_out ht
              have e := HINN.out
              rw [hadd] at e
              have E := Lib.hid e
              have HTL2 := HTL.out
              rw [hadd] at HTL2
              have HTL3 := Lib.hid HTL2
              have hll : (al ++ [t]).length = al.length + 1 := by simp
              clear e hadd HTL HTL2 ht
              generalize idxM al t = ix at *
              have hap : ∀ (y : Later wc), True := fun _ => trivial
              by_cases h48 : (48 : Int) < al.length + 1
              · have hgn : genO p n gs = none := by
                  have h1 := E.out
                  rw [hll, if_pos (by omega)] at h1
                  rw [← HCLO.out, ← h1]
                  rfl
                obtain ⟨e1, e2, e3, e4⟩ := gen_none hgn
                have EE := Lib.hid (And.intro e1 (And.intro e2 (And.intro e3 e4)))
                clear hgn e1 e2 e3 e4
                go_wp2_with (first | ((go_at_call 112; (first | (with_reducible refine call_later2 (hF _ hCa2) ?_) | (with_reducible refine call_later (hF _ hCa2) ?_)); intro x3); have m0 := x3.keep n0; have m1 := x3.keep n1; have m2 := x3.keep n2; have m3 := x3.keep n3; have m4 := x3.keep n4; have m5 := x3.keep n5; have m6 := x3.keep n6; have m7 := x3.keep n7; have m8 := x3.keep n8; have RB3 := RB2.out.below x3.ok; have zw3 := RB3.bel.size) | ((with_reducible refine gate_ (.call { callee := .builtin .append, args := #[.tmp 42, .tmp 44], argTypes := #[29, 29] }) rfl ?_); refine Kd.R_append kM (w0 := w) (W := x3.W) w.heap.size rfl (.tmp 42) (.tmp 44) 29 41 (.agg #[.int .u8 0, .int .u8 0, .int .u8 0, .int .u8 0, .int .u8 0, .int .u8 0, .int .u8 0, .int .u8 0, .int .u8 0]) 9 rfl Try.underlying29 infoM rfl (by decide) (by decide) (.slice (some ⟨b, o, none⟩) al.length cb) al t t.cs (fun k => k ≠ w.heap.size) (fun _ => False) rfl rfl rfl (fun _ hk => hk.elim) (fun k hk => by have := RB3.lr; omega) RB3.R RB3.bel zw3 (by omega) ?_; intro v1 w1 hR6 hB6 hg6 hat6; obtain ⟨B6, c6, rfl, hl6, hC6⟩ := Kd.R_reads hR6; have RB6 := RB3.grow hR6 hB6 hg6; have b0 := RB6.r0; have b1 := RB6.r1; have b2 := RB6.r2; have b3 := RB6.r3; have zb6 := RB6.lr))
                rw [EE.out.1, EE.out.2.1, EE.out.2.2.1, EE.out.2.2.2]
                refine bodyPost_ret (v := .tuple #[.agg #[.int .i64 0, .int .i64 0, .slice none 0 0], .bool false]) (by simp [results, Try.results94, go_sem, b0, b1, b2]) rfl ?_
                exact ⟨none, 0, rfl, Kd.R_nil _ _ _ _ _, bq2⟩
              · have h48b : al.length + 1 ≤ 48 := by omega
                go_wp2_with (first | ((go_at_call 112; (first | (with_reducible refine call_later2 (hF _ hCa2) ?_) | (with_reducible refine call_later (hF _ hCa2) ?_)); intro x3); have m0 := x3.keep n0; have m1 := x3.keep n1; have m2 := x3.keep n2; have m3 := x3.keep n3; have m4 := x3.keep n4; have m5 := x3.keep n5; have m6 := x3.keep n6; have m7 := x3.keep n7; have m8 := x3.keep n8; have RB3 := RB2.out.below x3.ok; have zw3 := RB3.bel.size) | ((with_reducible refine gate_ (.call { callee := .builtin .append, args := #[.tmp 42, .tmp 44], argTypes := #[29, 29] }) rfl ?_); refine Kd.R_append kM (w0 := w) (W := x3.W) w.heap.size rfl (.tmp 42) (.tmp 44) 29 41 (.agg #[.int .u8 0, .int .u8 0, .int .u8 0, .int .u8 0, .int .u8 0, .int .u8 0, .int .u8 0, .int .u8 0, .int .u8 0]) 9 rfl Try.underlying29 infoM rfl (by decide) (by decide) (.slice (some ⟨b, o, none⟩) al.length cb) al t t.cs (fun k => k ≠ w.heap.size) (fun _ => False) rfl rfl rfl (fun _ hk => hk.elim) (fun k hk => by have := RB3.lr; omega) RB3.R RB3.bel zw3 (by omega) ?_; intro v1 w1 hR6 hB6 hg6 hat6; obtain ⟨B6, c6, rfl, hl6, hC6⟩ := Kd.R_reads hR6; have RB6 := RB3.grow hR6 hB6 hg6))
                go_roundg (gk - 1)
                case measure => have := HJK.out; omega
                case rel =>
                  have e := E.out
                  rw [hll, if_neg (by omega)] at e
                  exact ⟨j + 1, B6, c6, al ++ [t], by have := HJK.out; omega, by go_num, by first | rfl | simp, RB6, by omega, by have := HLT.out; omega, by rw [List.getD_eq_getElem?_getD, List.getElem?_append_left HLT.out, ← List.getD_eq_getElem?_getD]; exact HGA.out, HTL3.out, e⟩
        · have hje : j = gs.length := by have := HJK.out; omega
          subst hje
          rw [List.drop_length] at hinn
          have e := HCLO.out
          rw [← hinn] at e
          have e : cloO p n.toNat gs f (i + 1) al = genO p n gs := e
          have E := Lib.hid e
          clear e hinn
          go_wp2
          go_roundg f
          case measure => exact Nat.lt_succ_self f
          case rel => exact ⟨i + 1, B, cb, al, by have := HIK.out; omega, by go_num, rfl, rb, HAL.out, HLE.out, E.out⟩
    · have hgs : genO p n gs = some all := by
        rw [← hclo]
        cases gk with
        | zero => rfl
        | succ f =>
          show (if i < all.length then _ else _) = _
          rw [if_neg hlt]
      obtain ⟨e1, e2, e3, e4⟩ := gen_some hgs
      have EE := Lib.hid (And.intro e1 (And.intro e2 (And.intro e3 e4)))
      clear hgs e1 e2 e3 e4 hclo
      have hS := fun W hC => l02Sorted_c p n B cb all W hC (by omega)
      have hCa := (Kd.R_reads' rb.R).2.2
      have hi1 : ¬ (i : Int) < all.length := by omega
      have zr := rb.lr
      have zw := rb.bel.size
      have RBH := Lib.hid rb
      clear rb
      go_wp2_with (go_at_call 123; (with_reducible refine call_makesG (hS _ hCa) ?_); intro x2 A2 c2 hb2 hl2 hR2 hC2; have RB2 := RBH.out.below hb2; have b0 := RB2.r0; have b1 := RB2.r1; have b2 := RB2.r2; have b3 := RB2.r3; have zr2 := RB2.lr; have zw2 := RB2.bel.size)
      rw [EE.out.1, EE.out.2.1, EE.out.2.2.1, EE.out.2.2.2]
      refine bodyPost_ret (v := .tuple #[.agg #[.int .i64 p, .int .i64 n, .slice A2 (sortM all).length c2], .bool true]) (by simp [results, Try.results94, go_sem, b0, b1, b2]) rfl ?_
      refine ⟨A2, c2, rfl, ?_, ((RB2.bel.setCell (by show w.heap.size ≤ w.heap.size; omega) _).setCell (by show w.heap.size ≤ w.heap.size; omega) _).setCell (by show w.heap.size ≤ w.heap.size; omega) _⟩
      exact Kd.R_lower (R_old (R_old (R_old hR2 (p := ⟨w.heap.size, 0, none⟩) zr _) (p := ⟨w.heap.size, 1, none⟩) zr _) (p := ⟨w.heap.size, 2, none⟩) zr _) (by omega)
end Go.Proofs.Ytimjhehagimcaaa

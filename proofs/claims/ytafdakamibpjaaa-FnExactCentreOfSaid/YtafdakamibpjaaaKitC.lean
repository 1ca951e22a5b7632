/- Walks of the functions on polynomials, numbers and rows, of both sides; no condition. -/
import Derived.Test.YtafdakamibpjaaaKitG
import Derived.Deep.RegionLaw
import Derived.Test.YtafdakamibpjaaaPart3
import Derived.Test.YtafdakamibpjaaaLawKit
/- The walks of the program's CentreOf; no condition. -/
set_option linter.unusedVariables false
set_option linter.unusedSimpArgs false
namespace Go.Proofs.Ytafdakamibpjaaa
open Go.RowKit Go.Proofs.YtafdakamibpjaaaW.PrintWords
attribute [local go_sem] Later.cell Later.frozen Later.lt Later.lt_add Later.le Later.le_add Later.ne Later.ne' add_at
attribute [local go_sem 2000] run_eqM guardM

theorem run_neM (a b : M9) (w : World) : (binOp .neq 25 (.agg #[.int .u8 (a.r0.a.toNat : Int), .int .u8 (a.r0.b.toNat : Int), .int .u8 (a.r0.c.toNat : Int), .int .u8 (a.r1.a.toNat : Int), .int .u8 (a.r1.b.toNat : Int), .int .u8 (a.r1.c.toNat : Int), .int .u8 (a.r2.a.toNat : Int), .int .u8 (a.r2.b.toNat : Int), .int .u8 (a.r2.c.toNat : Int)]) (.agg #[.int .u8 (b.r0.a.toNat : Int), .int .u8 (b.r0.b.toNat : Int), .int .u8 (b.r0.c.toNat : Int), .int .u8 (b.r1.a.toNat : Int), .int .u8 (b.r1.b.toNat : Int), .int .u8 (b.r1.c.toNat : Int), .int .u8 (b.r2.a.toNat : Int), .int .u8 (b.r2.b.toNat : Int), .int .u8 (b.r2.c.toNat : Int)])).run Try.prog w = .ok (.bool (a != b)) w := by
  rw [run_neq_struct, eqMat]
  rfl
attribute [local go_sem 2000] run_neM
/-- A matrix that goes with all others. -/
def cenB (p n : Int) (ms : List M9) (a : M9) : Bool := (List.range ms.length).all fun i => timesM p n.toNat a (ms.getD i zM) == timesM p n.toNat (ms.getD i zM) a
theorem cen_no {p n : Int} {ms : List M9} {a : M9} {i : Nat} (hi : i < ms.length) (h : (timesM p n.toNat a (ms.getD i zM) == timesM p n.toNat (ms.getD i zM) a) = false) : cenB p n ms a = false := by
  rw [← Bool.not_eq_true, cenB, List.all_eq_true]
  intro hc
  have := hc i (List.mem_range.2 hi)
  rw [h] at this
  cases this
theorem cen_yes {p n : Int} {ms : List M9} {a : M9} (h : ∀ i, i < ms.length → (timesM p n.toNat a (ms.getD i zM) == timesM p n.toNat (ms.getD i zM) a) = true) : cenB p n ms a = true := by
  rw [cenB, List.all_eq_true]
  intro i hi
  exact h i (List.mem_range.1 hi)

set_option maxRecDepth 100000 in
set_option maxHeartbeats 2000000 in
theorem central_c {p n : Int} {A : Option Addr} {c gb : Nat} {ms : List M9} {w : World} (a : M9) (hC : kM.C w A ms.length ms) (hN : ms.length ≤ 48) (v0 : w.cell? ⟨gb, 0, none⟩ = some (.int .i64 p)) (v1 : w.cell? ⟨gb, 1, none⟩ = some (.int .i64 n)) (v2 : w.cell? ⟨gb, 2, none⟩ = some (.slice A ms.length c))
    (hm : ∀ i, i < ms.length → matB p n (ms.getD i zM) = true) (ha : matB p n a = true) :
    Calls Try.prog 85 #[.agg #[.int .u8 (a.r0.a.toNat : Int), .int .u8 (a.r0.b.toNat : Int), .int .u8 (a.r0.c.toNat : Int), .int .u8 (a.r1.a.toNat : Int), .int .u8 (a.r1.b.toNat : Int), .int .u8 (a.r1.c.toNat : Int), .int .u8 (a.r2.a.toNat : Int), .int .u8 (a.r2.b.toNat : Int), .int .u8 (a.r2.c.toNat : Int)], .pointer (some ⟨gb, 0, none⟩)] w (Gives (.bool (cenB p n ms a)) w) := by
  have HM := Lib.hid hm
  have hzg := World.block_lt_of_cell? _ _ v0
  simp only [] at hzg
  clear hm
  go_enter Try.func85, Try.ntmps85
  go_wp2
  have v0 := cell_alloc v0 (.cells #[.int .u8 (a.r0.a.toNat : Int), .int .u8 (a.r0.b.toNat : Int), .int .u8 (a.r0.c.toNat : Int), .int .u8 (a.r1.a.toNat : Int), .int .u8 (a.r1.b.toNat : Int), .int .u8 (a.r1.c.toNat : Int), .int .u8 (a.r2.a.toNat : Int), .int .u8 (a.r2.b.toNat : Int), .int .u8 (a.r2.c.toNat : Int)] 25)
  have v1 := cell_alloc v1 (.cells #[.int .u8 (a.r0.a.toNat : Int), .int .u8 (a.r0.b.toNat : Int), .int .u8 (a.r0.c.toNat : Int), .int .u8 (a.r1.a.toNat : Int), .int .u8 (a.r1.b.toNat : Int), .int .u8 (a.r1.c.toNat : Int), .int .u8 (a.r2.a.toNat : Int), .int .u8 (a.r2.b.toNat : Int), .int .u8 (a.r2.c.toNat : Int)] 25)
  have v2 := cell_alloc v2 (.cells #[.int .u8 (a.r0.a.toNat : Int), .int .u8 (a.r0.b.toNat : Int), .int .u8 (a.r0.c.toNat : Int), .int .u8 (a.r1.a.toNat : Int), .int .u8 (a.r1.b.toNat : Int), .int .u8 (a.r1.c.toNat : Int), .int .u8 (a.r2.a.toNat : Int), .int .u8 (a.r2.b.toNat : Int), .int .u8 (a.r2.c.toNat : Int)] 25)
  have hC1 := Kd.C_alloc hC (.cells #[.int .u8 (a.r0.a.toNat : Int), .int .u8 (a.r0.b.toNat : Int), .int .u8 (a.r0.c.toNat : Int), .int .u8 (a.r1.a.toNat : Int), .int .u8 (a.r1.b.toNat : Int), .int .u8 (a.r1.c.toNat : Int), .int .u8 (a.r2.a.toNat : Int), .int .u8 (a.r2.b.toNat : Int), .int .u8 (a.r2.c.toNat : Int)] 25)
  obtain ⟨n0, n1, n2, n3, n4, n5, n6, n7, n8, _⟩ := nine_alloc w a 25
  have hbV : Below w.heap.size w (w.alloc (.cells #[.int .u8 (a.r0.a.toNat : Int), .int .u8 (a.r0.b.toNat : Int), .int .u8 (a.r0.c.toNat : Int), .int .u8 (a.r1.a.toNat : Int), .int .u8 (a.r1.b.toNat : Int), .int .u8 (a.r1.c.toNat : Int), .int .u8 (a.r2.a.toNat : Int), .int .u8 (a.r2.b.toNat : Int), .int .u8 (a.r2.c.toNat : Int)] 25)) := (by repeat (first | (with_reducible assumption) | (with_reducible exact Below.refl _ _) | ((with_reducible refine Below.alloc ?_ ?_ _); rotate_left; (focus (first | omega | (simp; done) | (simp; omega) | (simp [Later.le, Later.le_add, Later.lt, Later.lt_add]; done) | (simp [Later.le, Later.le_add, Later.lt, Later.lt_add]; omega)))) | (with_reducible refine Below.drew ?_) | (with_reducible refine pw_below_drewN ?_ _) | ((with_reducible refine Below.setCell ?_ ?_ _); rotate_left; (focus (first | omega | (simp; done) | (simp; omega) | (simp [Later.le, Later.le_add, Later.lt, Later.lt_add]; done) | (simp [Later.le, Later.le_add, Later.lt, Later.lt_add]; omega)))) | ((with_reducible refine below_hop (by assumption) ?_ ?_); rotate_left; (focus (first | omega | (simp; done) | (simp; omega) | (simp [Later.le, Later.le_add, Later.lt, Later.lt_add]; done) | (simp [Later.le, Later.le_add, Later.lt, Later.lt_add]; omega)))) | ((with_reducible refine bel_later _ ?_ ?_); rotate_left; (focus (first | omega | (simp; done) | (simp; omega) | (simp [Later.le, Later.le_add, Later.lt, Later.lt_add]; done) | (simp [Later.le, Later.le_add, Later.lt, Later.lt_add]; omega))))))
  generalize w.alloc (.cells #[.int .u8 (a.r0.a.toNat : Int), .int .u8 (a.r0.b.toNat : Int), .int .u8 (a.r0.c.toNat : Int), .int .u8 (a.r1.a.toNat : Int), .int .u8 (a.r1.b.toNat : Int), .int .u8 (a.r1.c.toNat : Int), .int .u8 (a.r2.a.toNat : Int), .int .u8 (a.r2.b.toNat : Int), .int .u8 (a.r2.c.toNat : Int)] 25) = V at *
  generalize hbx : w.heap.size = bx at *
  have hz0 := World.block_lt_of_cell? _ _ v0
  have hz1 := World.block_lt_of_cell? _ _ n0
  simp only [] at hz0 hz1
  go_loopg [9] ms.length (fun k v w' => ∃ (i : Nat) (y : Later V), i + k = ms.length ∧ v = .int .i64 i ∧ w' = y.W ∧ ∀ j, j < i → (timesM p n.toNat a (ms.getD j zM) == timesM p n.toNat (ms.getD j zM) a) = true)
  case atStart => exact ⟨0, ⟨V, Below.refl _ _⟩, by omega, rfl, rfl, fun i' h => by omega⟩
  case round =>
    obtain ⟨i, y, hik, rfl, rfl, hok⟩ := hrel
    have HIK := Lib.hid hik
    have HOK := Lib.hid hok
    clear hik hok
    by_cases hi : i < ms.length
    · obtain ⟨b, o, hA, q0, q1, q2, q3, q4, q5, q6, q7, q8⟩ := kM_at hC1 i hi
      subst hA
      have hb := World.block_lt_of_cell? _ _ q0
      have hi0 : (0 : Int) ≤ i := by omega
      have hi1 : (i : Int) < ms.length := by omega
      have hin : ((i : Int)).toNat = i := by omega
      have hmi := HM.out i hi
      have hT1 := fun W => times_g ha hmi W
      have hT2 := fun W => times_g hmi ha W
      generalize hm1 : ms.getD i zM = m at *
      have H1 := Lib.hid hm1
      clear hm1
      generalize ht1 : timesM p n.toNat a m = t1 at *
      generalize ht2 : timesM p n.toNat m a = t2 at *
      have HT1 := Lib.hid ht1
      have HT2 := Lib.hid ht2
      clear ht1 ht2
      go_wp2
      have p0 := cell_alloc (y.keep v0) (.cells #[.int .u8 (m.r0.a.toNat : Int), .int .u8 (m.r0.b.toNat : Int), .int .u8 (m.r0.c.toNat : Int), .int .u8 (m.r1.a.toNat : Int), .int .u8 (m.r1.b.toNat : Int), .int .u8 (m.r1.c.toNat : Int), .int .u8 (m.r2.a.toNat : Int), .int .u8 (m.r2.b.toNat : Int), .int .u8 (m.r2.c.toNat : Int)] 25)
      have p1 := cell_alloc (y.keep v1) (.cells #[.int .u8 (m.r0.a.toNat : Int), .int .u8 (m.r0.b.toNat : Int), .int .u8 (m.r0.c.toNat : Int), .int .u8 (m.r1.a.toNat : Int), .int .u8 (m.r1.b.toNat : Int), .int .u8 (m.r1.c.toNat : Int), .int .u8 (m.r2.a.toNat : Int), .int .u8 (m.r2.b.toNat : Int), .int .u8 (m.r2.c.toNat : Int)] 25)
      have p2 := cell_alloc (y.keep v2) (.cells #[.int .u8 (m.r0.a.toNat : Int), .int .u8 (m.r0.b.toNat : Int), .int .u8 (m.r0.c.toNat : Int), .int .u8 (m.r1.a.toNat : Int), .int .u8 (m.r1.b.toNat : Int), .int .u8 (m.r1.c.toNat : Int), .int .u8 (m.r2.a.toNat : Int), .int .u8 (m.r2.b.toNat : Int), .int .u8 (m.r2.c.toNat : Int)] 25)
      have t0 := cell_alloc (y.keep n0) (.cells #[.int .u8 (m.r0.a.toNat : Int), .int .u8 (m.r0.b.toNat : Int), .int .u8 (m.r0.c.toNat : Int), .int .u8 (m.r1.a.toNat : Int), .int .u8 (m.r1.b.toNat : Int), .int .u8 (m.r1.c.toNat : Int), .int .u8 (m.r2.a.toNat : Int), .int .u8 (m.r2.b.toNat : Int), .int .u8 (m.r2.c.toNat : Int)] 25)
      have t1' := cell_alloc (y.keep n1) (.cells #[.int .u8 (m.r0.a.toNat : Int), .int .u8 (m.r0.b.toNat : Int), .int .u8 (m.r0.c.toNat : Int), .int .u8 (m.r1.a.toNat : Int), .int .u8 (m.r1.b.toNat : Int), .int .u8 (m.r1.c.toNat : Int), .int .u8 (m.r2.a.toNat : Int), .int .u8 (m.r2.b.toNat : Int), .int .u8 (m.r2.c.toNat : Int)] 25)
      have t2' := cell_alloc (y.keep n2) (.cells #[.int .u8 (m.r0.a.toNat : Int), .int .u8 (m.r0.b.toNat : Int), .int .u8 (m.r0.c.toNat : Int), .int .u8 (m.r1.a.toNat : Int), .int .u8 (m.r1.b.toNat : Int), .int .u8 (m.r1.c.toNat : Int), .int .u8 (m.r2.a.toNat : Int), .int .u8 (m.r2.b.toNat : Int), .int .u8 (m.r2.c.toNat : Int)] 25)
      have t3 := cell_alloc (y.keep n3) (.cells #[.int .u8 (m.r0.a.toNat : Int), .int .u8 (m.r0.b.toNat : Int), .int .u8 (m.r0.c.toNat : Int), .int .u8 (m.r1.a.toNat : Int), .int .u8 (m.r1.b.toNat : Int), .int .u8 (m.r1.c.toNat : Int), .int .u8 (m.r2.a.toNat : Int), .int .u8 (m.r2.b.toNat : Int), .int .u8 (m.r2.c.toNat : Int)] 25)
      have t4 := cell_alloc (y.keep n4) (.cells #[.int .u8 (m.r0.a.toNat : Int), .int .u8 (m.r0.b.toNat : Int), .int .u8 (m.r0.c.toNat : Int), .int .u8 (m.r1.a.toNat : Int), .int .u8 (m.r1.b.toNat : Int), .int .u8 (m.r1.c.toNat : Int), .int .u8 (m.r2.a.toNat : Int), .int .u8 (m.r2.b.toNat : Int), .int .u8 (m.r2.c.toNat : Int)] 25)
      have t5 := cell_alloc (y.keep n5) (.cells #[.int .u8 (m.r0.a.toNat : Int), .int .u8 (m.r0.b.toNat : Int), .int .u8 (m.r0.c.toNat : Int), .int .u8 (m.r1.a.toNat : Int), .int .u8 (m.r1.b.toNat : Int), .int .u8 (m.r1.c.toNat : Int), .int .u8 (m.r2.a.toNat : Int), .int .u8 (m.r2.b.toNat : Int), .int .u8 (m.r2.c.toNat : Int)] 25)
      have t6 := cell_alloc (y.keep n6) (.cells #[.int .u8 (m.r0.a.toNat : Int), .int .u8 (m.r0.b.toNat : Int), .int .u8 (m.r0.c.toNat : Int), .int .u8 (m.r1.a.toNat : Int), .int .u8 (m.r1.b.toNat : Int), .int .u8 (m.r1.c.toNat : Int), .int .u8 (m.r2.a.toNat : Int), .int .u8 (m.r2.b.toNat : Int), .int .u8 (m.r2.c.toNat : Int)] 25)
      have t7 := cell_alloc (y.keep n7) (.cells #[.int .u8 (m.r0.a.toNat : Int), .int .u8 (m.r0.b.toNat : Int), .int .u8 (m.r0.c.toNat : Int), .int .u8 (m.r1.a.toNat : Int), .int .u8 (m.r1.b.toNat : Int), .int .u8 (m.r1.c.toNat : Int), .int .u8 (m.r2.a.toNat : Int), .int .u8 (m.r2.b.toNat : Int), .int .u8 (m.r2.c.toNat : Int)] 25)
      have t8 := cell_alloc (y.keep n8) (.cells #[.int .u8 (m.r0.a.toNat : Int), .int .u8 (m.r0.b.toNat : Int), .int .u8 (m.r0.c.toNat : Int), .int .u8 (m.r1.a.toNat : Int), .int .u8 (m.r1.b.toNat : Int), .int .u8 (m.r1.c.toNat : Int), .int .u8 (m.r2.a.toNat : Int), .int .u8 (m.r2.b.toNat : Int), .int .u8 (m.r2.c.toNat : Int)] 25)
      obtain ⟨u0, u1, u2, u3, u4, u5, u6, u7, u8, _⟩ := nine_alloc y.W m 25
      have hb2 : Below V.heap.size V (y.W.alloc (.cells #[.int .u8 (m.r0.a.toNat : Int), .int .u8 (m.r0.b.toNat : Int), .int .u8 (m.r0.c.toNat : Int), .int .u8 (m.r1.a.toNat : Int), .int .u8 (m.r1.b.toNat : Int), .int .u8 (m.r1.c.toNat : Int), .int .u8 (m.r2.a.toNat : Int), .int .u8 (m.r2.b.toNat : Int), .int .u8 (m.r2.c.toNat : Int)] 25)) := y.ok.alloc y.ok.size _
      have hz2 := World.block_lt_of_cell? _ _ p0
      have hz3 := World.block_lt_of_cell? _ _ t0
      have hz4 := World.block_lt_of_cell? _ _ u0
      generalize y.W.alloc (.cells #[.int .u8 (m.r0.a.toNat : Int), .int .u8 (m.r0.b.toNat : Int), .int .u8 (m.r0.c.toNat : Int), .int .u8 (m.r1.a.toNat : Int), .int .u8 (m.r1.b.toNat : Int), .int .u8 (m.r1.c.toNat : Int), .int .u8 (m.r2.a.toNat : Int), .int .u8 (m.r2.b.toNat : Int), .int .u8 (m.r2.c.toNat : Int)] 25) = V2 at *
      generalize y.W.heap.size = by2 at *
      simp only [] at hz2 hz3 hz4
      by_cases he : t1 = t2
      · have hne : (t1 != t2) = false := by simp [he]
        have HE := Lib.hid he
        clear he
        go_wp2
        (first | refine wp_region_later2 (by kernel_rfl) (by kernel_rfl) ?_ | refine wp_region_later (by kernel_rfl) (by kernel_rfl) ?_); (repeat (go_big_quiet_step (first | (go_at_call 73; with_reducible exact quiet_later (hT1 _)) | (go_at_call 73; with_reducible exact quiet_later (hT2 _))))); refine wpQuiet_nil ?_; intro x6
        go_wp2
        go_roundg (gk - 1)
        case measure => have := HIK.out; omega
        case rel =>
          refine ⟨i + 1, ⟨x6.W, hb2.trans (x6.ok.mono hb2.size)⟩, by have := HIK.out; omega, by go_num, rfl, fun j hj => ?_⟩
          by_cases h : j = i
          · rw [h, H1.out, HT1.out, HT2.out, HE.out]
            exact beq_self_eq_true _
          · exact HOK.out j (by omega)
      · have hne : (t1 != t2) = true := by simpa using he
        have hno := cen_no (p := p) (n := n) (a := a) hi (by rw [H1.out, HT1.out, HT2.out]; simpa using he)
        have HNO := Lib.hid hno
        clear he hno
        go_wp2
        (first | refine wp_region_later2 (by kernel_rfl) (by kernel_rfl) ?_ | refine wp_region_later (by kernel_rfl) (by kernel_rfl) ?_); (repeat (go_big_quiet_step (first | (go_at_call 73; with_reducible exact quiet_later (hT1 _)) | (go_at_call 73; with_reducible exact quiet_later (hT2 _))))); refine wpQuiet_nil ?_; intro x6
        go_wp2
        have hbw : Below bx w x6.W := hbV.trans ((hb2.trans (x6.ok.mono hb2.size)).mono (by omega))
        rw [HNO.out]
        exact bodyPost_ret (v := .bool false) (by simp [results, Try.results85, go_sem]) rfl (.mk rfl (hbx ▸ hbw))
    · have hyes : cenB p n ms a = true := cen_yes (fun j hj => HOK.out j (by have := HIK.out; omega))
      have hbw : Below bx w y.W := hbV.trans (y.ok.mono (by omega))
      try rw [hyes]
      go_wp2
      try rw [hyes]
      exact bodyPost_ret (v := .bool true) (by simp [results, Try.results85, go_sem]) rfl (.mk rfl (hbx ▸ hbw))
end Go.Proofs.Ytafdakamibpjaaa

/- The walks of the program's CentreOf, second half; no condition. -/
set_option linter.unusedVariables false
set_option linter.unusedSimpArgs false
namespace Go.Proofs.Ytafdakamibpjaaa
open Go.RowKit Go.Proofs.YtafdakamibpjaaaW.PrintWords
attribute [local go_sem] Later.cell Later.frozen Later.lt Later.lt_add Later.le Later.le_add Later.ne Later.ne' add_at

/-- A group in the making: its box ob, the result's box rb, both of the call's own. -/
structure Acc (w0 : World) (ob rb : Nat) (p n : Int) (E : TypeId) (W : World) (B : Option Addr) (cb : Nat) (xs : List M9) : Prop where
  bel : Below w0.heap.size w0 W
  hrb : w0.heap.size ≤ rb
  hob : w0.heap.size ≤ ob
  o0 : W.cell? ⟨ob, 0, none⟩ = some (.int .i64 p)
  o1 : W.cell? ⟨ob, 1, none⟩ = some (.int .i64 n)
  o2 : W.cell? ⟨ob, 2, none⟩ = some (.slice B xs.length cb)
  o3 : W.frozen? ⟨ob, 2, none⟩ = false
  R : kM.R E W w0.heap.size (fun k => k ≠ ob ∧ k ≠ rb) (.slice B xs.length cb) xs
  r0 : W.cell? ⟨rb, 0, none⟩ = some (.int .i64 0)
  r1 : W.cell? ⟨rb, 1, none⟩ = some (.int .i64 0)
  r2 : W.cell? ⟨rb, 2, none⟩ = some (.slice none 0 0)
  r3 : W.frozen? ⟨rb, 0, none⟩ = false
  r4 : W.frozen? ⟨rb, 1, none⟩ = false
  r5 : W.frozen? ⟨rb, 2, none⟩ = false
  hne : ob ≠ rb
section
variable {w0 W W' : World} {ob rb : Nat} {p n : Int} {E : TypeId} {B : Option Addr} {cb : Nat} {xs : List M9}
theorem Acc.lo (h : Acc w0 ob rb p n E W B cb xs) : ob < W.heap.size := World.block_lt_of_cell? _ _ h.o0
theorem Acc.lr (h : Acc w0 ob rb p n E W B cb xs) : rb < W.heap.size := World.block_lt_of_cell? _ _ h.r0
theorem Acc.below (h : Acc w0 ob rb p n E W B cb xs) (hb : Below W.heap.size W W') : Acc w0 ob rb p n E W' B cb xs :=
  ⟨h.bel.trans (hb.mono h.bel.size), h.hrb, h.hob, pw_cell_below hb h.o0, pw_cell_below hb h.o1, pw_cell_below hb h.o2, (hb.frozen h.lo).trans h.o3, Kd.R_below h.R hb, pw_cell_below hb h.r0, pw_cell_below hb h.r1, pw_cell_below hb h.r2, (hb.frozen h.lr).trans h.r3, (hb.frozen h.lr).trans h.r4, (hb.frozen h.lr).trans h.r5, h.hne⟩
theorem Acc.own (h : Acc w0 ob rb p n E W B cb xs) : some ob ≠ (Value.slice B xs.length cb).ownBlock := fun e => (h.R.1 ob e.symm).1 rfl
theorem Acc.ownr (h : Acc w0 ob rb p n E W B cb xs) : some rb ≠ (Value.slice B xs.length cb).ownBlock := fun e => (h.R.1 rb e.symm).2 rfl
theorem Acc.drew (h : Acc w0 ob rb p n E W B cb xs) : Acc w0 ob rb p n E W.drew B cb xs := h.below (Below.refl _ _).drew
theorem cell_far {w : World} {a b : Addr} {v u : Value} (h : w.cell? a = some v) (hne : a.block ≠ b.block) : (w.setCell b u).cell? a = some v := by
  rw [World.cell?_setCell_other _ _ _ _ (fun e => hne (by rw [e]))]
  exact h
/-- One more element, appended and stored. -/
theorem Acc.put {m : M9} {w1 : World} {B6 : Option Addr} {c6 : Nat} (h : Acc w0 ob rb p n E W B cb xs) (hR : kM.R E w1 w0.heap.size (fun k => k ≠ ob ∧ k ≠ rb) (.slice B6 (xs.length + 1) c6) (xs ++ [m])) (hB : Below w0.heap.size W w1) (hg : W.grownBy w1 (Value.slice B xs.length cb).ownBlock) :
    Acc w0 ob rb p n E (w1.setCell ⟨ob, 2, none⟩ (.slice B6 (xs.length + 1) c6)) B6 c6 (xs ++ [m]) := by
  have e : (xs ++ [m]).length = xs.length + 1 := by simp
  have o2 := far_cell hg h.o2 h.own
  have hlo := h.lo
  have hlr := h.lr
  have hne := h.hne
  refine ⟨h.bel.trans (hB.setCell h.hob _), h.hrb, h.hob, ?_, ?_, ?_, ?_, ?_, ?_, ?_, ?_, ?_, ?_, ?_, hne⟩
  · exact (World.cell?_setCell_other _ _ _ _ (by simp)).trans (far_cell hg h.o0 h.own)
  · exact (World.cell?_setCell_other _ _ _ _ (by simp)).trans (far_cell hg h.o1 h.own)
  · rw [e]
    simpa using World.cell?_setCell_same _ _ _ o2
  · have := far_frozen hg h.o3 hlo h.own
    simp [this]
  · rw [e]
    exact Kd.R_far hR (fun k hk => hk.1) _
  · exact cell_far (far_cell hg h.r0 h.ownr) (fun e => hne e.symm)
  · exact cell_far (far_cell hg h.r1 h.ownr) (fun e => hne e.symm)
  · exact cell_far (far_cell hg h.r2 h.ownr) (fun e => hne e.symm)
  · have := far_frozen hg h.r3 hlr h.ownr
    simp [this]
  · have := far_frozen hg h.r4 hlr h.ownr
    simp [this]
  · have := far_frozen hg h.r5 hlr h.ownr
    simp [this]
end
theorem filt_step (q : M9 → Bool) (ms : List M9) (i : Nat) (hi : i < ms.length) : (ms.take (i + 1)).filter q = if q (ms.getD i zM) then (ms.take i).filter q ++ [ms.getD i zM] else (ms.take i).filter q := by
  rw [List.take_succ_eq_append_getElem hi, List.filter_append]
  have : ms.getD i zM = ms[i] := by simp [List.getD_eq_getElem?_getD, hi]
  rw [this]
  cases h : q ms[i] <;> simp [h]

set_option maxRecDepth 100000 in
set_option maxHeartbeats 4000000 in
/-- those, with whatever closure tells for each matrix whether q holds of it. -/
theorem those_c {p n : Int} {A : Option Addr} {c : Nat} {ms : List M9} {w : World} (gb : Nat) (q : M9 → Bool) (hC : kM.C w A ms.length ms) (hN : ms.length ≤ 48)
    (hcl : ∀ (x : Later w) i, i < ms.length → Calls Try.prog 85 #[.agg #[.int .u8 ((ms.getD i zM).r0.a.toNat : Int), .int .u8 ((ms.getD i zM).r0.b.toNat : Int), .int .u8 ((ms.getD i zM).r0.c.toNat : Int), .int .u8 ((ms.getD i zM).r1.a.toNat : Int), .int .u8 ((ms.getD i zM).r1.b.toNat : Int), .int .u8 ((ms.getD i zM).r1.c.toNat : Int), .int .u8 ((ms.getD i zM).r2.a.toNat : Int), .int .u8 ((ms.getD i zM).r2.b.toNat : Int), .int .u8 ((ms.getD i zM).r2.c.toNat : Int)], .pointer (some ⟨gb, 0, none⟩)] x.W (Gives (.bool (q (ms.getD i zM))) x.W)) :
    Calls Try.prog 84 #[.agg #[.int .i64 p, .int .i64 n, .slice A ms.length c], .func (.func 85) #[] #[.pointer (some ⟨gb, 0, none⟩)]] w (MakesG p n 25 (ms.filter q) w) := by
  have HCL := Lib.hid hcl
  clear hcl
  go_enter Try.func84, Try.ntmps84
  go_wp2
  have hC1 := Kd.C_alloc (Kd.C_alloc (Kd.C_alloc hC (.cells #[.int .i64 p, .int .i64 n, .slice A ms.length c] 41)) (.cells #[.int .i64 0, .int .i64 0, .slice none 0 0] 41)) (.cells #[.int .i64 p, .int .i64 n, .slice none 0 0] 41)
  have hbV : Below w.heap.size w (((w.alloc (.cells #[.int .i64 p, .int .i64 n, .slice A ms.length c] 41)).alloc (.cells #[.int .i64 0, .int .i64 0, .slice none 0 0] 41)).alloc (.cells #[.int .i64 p, .int .i64 n, .slice none 0 0] 41)) := (by repeat (first | (with_reducible assumption) | (with_reducible exact Below.refl _ _) | ((with_reducible refine Below.alloc ?_ ?_ _); rotate_left; (focus (first | omega | (simp; done) | (simp; omega) | (simp [Later.le, Later.le_add, Later.lt, Later.lt_add]; done) | (simp [Later.le, Later.le_add, Later.lt, Later.lt_add]; omega)))) | (with_reducible refine Below.drew ?_) | (with_reducible refine pw_below_drewN ?_ _) | ((with_reducible refine Below.setCell ?_ ?_ _); rotate_left; (focus (first | omega | (simp; done) | (simp; omega) | (simp [Later.le, Later.le_add, Later.lt, Later.lt_add]; done) | (simp [Later.le, Later.le_add, Later.lt, Later.lt_add]; omega)))) | ((with_reducible refine below_hop (by assumption) ?_ ?_); rotate_left; (focus (first | omega | (simp; done) | (simp; omega) | (simp [Later.le, Later.le_add, Later.lt, Later.lt_add]; done) | (simp [Later.le, Later.le_add, Later.lt, Later.lt_add]; omega)))) | ((with_reducible refine bel_later _ ?_ ?_); rotate_left; (focus (first | omega | (simp; done) | (simp; omega) | (simp [Later.le, Later.le_add, Later.lt, Later.lt_add]; done) | (simp [Later.le, Later.le_add, Later.lt, Later.lt_add]; omega))))))
  have o0 : (((w.alloc (.cells #[.int .i64 p, .int .i64 n, .slice A ms.length c] 41)).alloc (.cells #[.int .i64 0, .int .i64 0, .slice none 0 0] 41)).alloc (.cells #[.int .i64 p, .int .i64 n, .slice none 0 0] 41)).cell? ⟨w.heap.size + 1 + 1, 0, none⟩ = some (.int .i64 p) := by first | (simp; done) | (simp [go_sem]; done) | go_simp
  have o1 : (((w.alloc (.cells #[.int .i64 p, .int .i64 n, .slice A ms.length c] 41)).alloc (.cells #[.int .i64 0, .int .i64 0, .slice none 0 0] 41)).alloc (.cells #[.int .i64 p, .int .i64 n, .slice none 0 0] 41)).cell? ⟨w.heap.size + 1 + 1, 1, none⟩ = some (.int .i64 n) := by first | (simp; done) | (simp [go_sem]; done) | go_simp
  have o2 : (((w.alloc (.cells #[.int .i64 p, .int .i64 n, .slice A ms.length c] 41)).alloc (.cells #[.int .i64 0, .int .i64 0, .slice none 0 0] 41)).alloc (.cells #[.int .i64 p, .int .i64 n, .slice none 0 0] 41)).cell? ⟨w.heap.size + 1 + 1, 2, none⟩ = some (.slice none 0 0) := by first | (simp; done) | (simp [go_sem]; done) | go_simp
  have r0 : (((w.alloc (.cells #[.int .i64 p, .int .i64 n, .slice A ms.length c] 41)).alloc (.cells #[.int .i64 0, .int .i64 0, .slice none 0 0] 41)).alloc (.cells #[.int .i64 p, .int .i64 n, .slice none 0 0] 41)).cell? ⟨w.heap.size + 1, 0, none⟩ = some (.int .i64 0) := by first | (simp; done) | (simp [go_sem]; done) | go_simp
  have r1 : (((w.alloc (.cells #[.int .i64 p, .int .i64 n, .slice A ms.length c] 41)).alloc (.cells #[.int .i64 0, .int .i64 0, .slice none 0 0] 41)).alloc (.cells #[.int .i64 p, .int .i64 n, .slice none 0 0] 41)).cell? ⟨w.heap.size + 1, 1, none⟩ = some (.int .i64 0) := by first | (simp; done) | (simp [go_sem]; done) | go_simp
  have r2 : (((w.alloc (.cells #[.int .i64 p, .int .i64 n, .slice A ms.length c] 41)).alloc (.cells #[.int .i64 0, .int .i64 0, .slice none 0 0] 41)).alloc (.cells #[.int .i64 p, .int .i64 n, .slice none 0 0] 41)).cell? ⟨w.heap.size + 1, 2, none⟩ = some (.slice none 0 0) := by first | (simp; done) | (simp [go_sem]; done) | go_simp
  have g2 : (((w.alloc (.cells #[.int .i64 p, .int .i64 n, .slice A ms.length c] 41)).alloc (.cells #[.int .i64 0, .int .i64 0, .slice none 0 0] 41)).alloc (.cells #[.int .i64 p, .int .i64 n, .slice none 0 0] 41)).cell? ⟨w.heap.size, 2, none⟩ = some (.slice A ms.length c) := by first | (simp; done) | (simp [go_sem]; done) | go_simp
  have o3 : (((w.alloc (.cells #[.int .i64 p, .int .i64 n, .slice A ms.length c] 41)).alloc (.cells #[.int .i64 0, .int .i64 0, .slice none 0 0] 41)).alloc (.cells #[.int .i64 p, .int .i64 n, .slice none 0 0] 41)).frozen? ⟨w.heap.size + 1 + 1, 2, none⟩ = false := by first | (simp; done) | (simp [go_sem]; done) | go_simp
  have r3 : (((w.alloc (.cells #[.int .i64 p, .int .i64 n, .slice A ms.length c] 41)).alloc (.cells #[.int .i64 0, .int .i64 0, .slice none 0 0] 41)).alloc (.cells #[.int .i64 p, .int .i64 n, .slice none 0 0] 41)).frozen? ⟨w.heap.size + 1, 0, none⟩ = false := by first | (simp; done) | (simp [go_sem]; done) | go_simp
  have r4 : (((w.alloc (.cells #[.int .i64 p, .int .i64 n, .slice A ms.length c] 41)).alloc (.cells #[.int .i64 0, .int .i64 0, .slice none 0 0] 41)).alloc (.cells #[.int .i64 p, .int .i64 n, .slice none 0 0] 41)).frozen? ⟨w.heap.size + 1, 1, none⟩ = false := by first | (simp; done) | (simp [go_sem]; done) | go_simp
  have r5 : (((w.alloc (.cells #[.int .i64 p, .int .i64 n, .slice A ms.length c] 41)).alloc (.cells #[.int .i64 0, .int .i64 0, .slice none 0 0] 41)).alloc (.cells #[.int .i64 p, .int .i64 n, .slice none 0 0] 41)).frozen? ⟨w.heap.size + 1, 2, none⟩ = false := by first | (simp; done) | (simp [go_sem]; done) | go_simp
  have hzV : (((w.alloc (.cells #[.int .i64 p, .int .i64 n, .slice A ms.length c] 41)).alloc (.cells #[.int .i64 0, .int .i64 0, .slice none 0 0] 41)).alloc (.cells #[.int .i64 p, .int .i64 n, .slice none 0 0] 41)).heap.size = w.heap.size + 3 := by simp
  have acc0 : Acc w (w.heap.size + 1 + 1) (w.heap.size + 1) p n 25 (((w.alloc (.cells #[.int .i64 p, .int .i64 n, .slice A ms.length c] 41)).alloc (.cells #[.int .i64 0, .int .i64 0, .slice none 0 0] 41)).alloc (.cells #[.int .i64 p, .int .i64 n, .slice none 0 0] 41)) none 0 [] := ⟨hbV, by omega, by omega, o0, o1, o2, o3, Kd.R_nil _ _ _ _ _, r0, r1, r2, r3, r4, r5, by omega⟩
  clear o0 o1 o2 o3 r0 r1 r2 r3 r4 r5 hzV g2 hC1 hbV
  generalize (((w.alloc (.cells #[.int .i64 p, .int .i64 n, .slice A ms.length c] 41)).alloc (.cells #[.int .i64 0, .int .i64 0, .slice none 0 0] 41)).alloc (.cells #[.int .i64 p, .int .i64 n, .slice none 0 0] 41)) = V at *
  generalize w.heap.size + 1 + 1 = ob at *
  generalize w.heap.size + 1 = rb at *
  go_loopg [16] ms.length (fun k v w' => ∃ (i : Nat) (B : Option Addr) (cb : Nat), i + k = ms.length ∧ v = .int .i64 i ∧ Acc w ob rb p n 25 w' B cb ((ms.take i).filter q))
  case atStart => exact ⟨0, none, 0, by omega, rfl, acc0⟩
  case round =>
    clear acc0
    obtain ⟨i, B, cb, hik, rfl, acc⟩ := hrel
    have HIK := Lib.hid hik
    clear hik
    by_cases hlt : i < ms.length
    · obtain ⟨b, o, hA, q0, q1, q2, q3, q4, q5, q6, q7, q8⟩ := kM_at hC i hlt
      subst hA
      have q0 := pw_cell_below acc.bel q0
      have q1 := pw_cell_below acc.bel q1
      have q2 := pw_cell_below acc.bel q2
      have q3 := pw_cell_below acc.bel q3
      have q4 := pw_cell_below acc.bel q4
      have q5 := pw_cell_below acc.bel q5
      have q6 := pw_cell_below acc.bel q6
      have q7 := pw_cell_below acc.bel q7
      have q8 := pw_cell_below acc.bel q8
      have hi0 : (0 : Int) ≤ i := by omega
      have hi1 : (i : Int) < ms.length := by omega
      have hin : ((i : Int)).toNat = i := by omega
      have hps := filt_step q ms i hlt
      have hpl : ((ms.take i).filter q).length ≤ 48 := Nat.le_trans (List.length_filter_le _ _) (Nat.le_trans (List.length_take_le' _ _) hN)
      have hcl := fun x => HCL.out x i hlt
      generalize ms.getD i zM = m at *
      generalize (ms.take i).filter q = xs at *
      have HPS := Lib.hid hps
      clear hps
      have acc2 := acc.below (below_alloc (Below.refl _ wr) (.cells #[.int .u8 (m.r0.a.toNat : Int), .int .u8 (m.r0.b.toNat : Int), .int .u8 (m.r0.c.toNat : Int), .int .u8 (m.r1.a.toNat : Int), .int .u8 (m.r1.b.toNat : Int), .int .u8 (m.r1.c.toNat : Int), .int .u8 (m.r2.a.toNat : Int), .int .u8 (m.r2.b.toNat : Int), .int .u8 (m.r2.c.toNat : Int)] 25))
      obtain ⟨n0, n1, n2, n3, n4, n5, n6, n7, n8, _⟩ := nine_alloc wr m 25
      have ACC := Lib.hid acc2
      clear acc acc2
      go_wp2_with fail
      generalize wr.alloc (.cells #[.int .u8 (m.r0.a.toNat : Int), .int .u8 (m.r0.b.toNat : Int), .int .u8 (m.r0.c.toNat : Int), .int .u8 (m.r1.a.toNat : Int), .int .u8 (m.r1.b.toNat : Int), .int .u8 (m.r1.c.toNat : Int), .int .u8 (m.r2.a.toNat : Int), .int .u8 (m.r2.b.toNat : Int), .int .u8 (m.r2.c.toNat : Int)] 25) = V2 at *
      generalize wr.heap.size = bx at *
      have hcl2 := hcl ⟨V2, ACC.out.bel⟩
      clear hcl
      cases hq : q m with
      | false =>
        rw [hq] at hcl2
        go_wp2_with (go_at_call 85; (with_reducible refine call_later4 hcl2 ?_); intro x5 hb5)
        go_roundg (ms.length - i - 1)
        case measure => have := HIK.out; omega
        case rel =>
          have e := HPS.out
          rw [hq] at e
          simp only [Bool.false_eq_true, if_false] at e
          exact ⟨i + 1, B, cb, by have := HIK.out; omega, by go_num, by rw [e]; exact ACC.out.below hb5⟩
      | true =>
        rw [hq] at hcl2
        go_wp2_with (first | (go_at_call 85; (with_reducible refine call_later4 hcl2 ?_); intro x5 hb5; have acc5 := ACC.out.below hb5; have p2 := acc5.o2; have p3 := acc5.o3; replace n0 := pw_cell_below hb5 n0; replace n1 := pw_cell_below hb5 n1; replace n2 := pw_cell_below hb5 n2; replace n3 := pw_cell_below hb5 n3; replace n4 := pw_cell_below hb5 n4; replace n5 := pw_cell_below hb5 n5; replace n6 := pw_cell_below hb5 n6; replace n7 := pw_cell_below hb5 n7; replace n8 := pw_cell_below hb5 n8; have zlo := acc5.lo; have zb := World.block_lt_of_cell? _ _ n0; have zw := acc5.bel.size; have ACC5 := Lib.hid acc5; clear acc5) | ((with_reducible refine gate_ (.call { callee := .builtin .append, args := #[.tmp 24, .tmp 26], argTypes := #[39, 39] }) rfl ?_); refine Kd.R_append kM (w0 := x5.W) (W := x5.W) w.heap.size rfl (.tmp 24) (.tmp 26) 39 25 (.agg #[.int .u8 0, .int .u8 0, .int .u8 0, .int .u8 0, .int .u8 0, .int .u8 0, .int .u8 0, .int .u8 0, .int .u8 0]) 9 rfl Try.underlying39 infoM rfl (by decide) (by decide) (.slice B xs.length cb) xs m m.cs (fun k => k ≠ ob ∧ k ≠ rb) (fun _ => False) rfl rfl rfl (fun _ hk => hk.elim) (fun k hk => ⟨by have := ACC5.out.lo; omega, by have := ACC5.out.lr; omega⟩) ACC5.out.R (Below.refl _ _) zw (by omega) ?_; intro v1 w1 hR6 hB6 hg6 hat6; obtain ⟨B6, c6, rfl, hl6, hC6⟩ := Kd.R_reads hR6; have p2 := far_cell hg6 p2 ACC5.out.own; have p3 := far_frozen hg6 p3 ACC5.out.lo ACC5.out.own))
        go_roundg (ms.length - i - 1)
        case measure => have := HIK.out; omega
        case rel =>
          have e := HPS.out
          rw [hq] at e
          simp only [if_true] at e
          rw [List.length_append] at hR6
          exact ⟨i + 1, B6, c6, by have := HIK.out; omega, by go_num, by rw [e]; exact ACC5.out.put hR6 hB6 hg6⟩
    · have hie : i = ms.length := by have := HIK.out; omega
      subst hie
      rw [List.take_length] at acc
      obtain ⟨bel, hrb, hob, o0, o1, o2, o3, hR, r0, r1, r2, r3, r4, r5, hne⟩ := acc
      have zlo := World.block_lt_of_cell? _ _ o0
      have zlr := World.block_lt_of_cell? _ _ r0
      simp only [] at zlo zlr
      go_wp2
      refine bodyPost_ret (v := .agg #[.int .i64 p, .int .i64 n, .slice B (ms.filter q).length cb]) (by simp [results, Try.results84, go_sem, r0, r1, r2]) rfl ⟨B, cb, rfl, ?_, ((bel.setCell hrb _).setCell hrb _).setCell hrb _⟩
      exact Kd.R_mono (Kd.R_far (Kd.R_far (Kd.R_far hR (fun k hk => hk.2) _) (fun k hk => hk.2) _) (fun k hk => hk.2) _) (fun _ _ => trivial)

/-- A group and a code that a call makes. -/
structure GC where
  p : Int
  d : Int
  ts : List M9
  c : Int
def MakesGC (r : GC) (E : Nat) (w : World) (e : Ending) (w' : World) : Prop :=
  ∃ A c, e = .returned (.tuple #[.agg #[.int .i64 r.p, .int .i64 r.d, .slice A r.ts.length c], .int .i64 r.c]) ∧ kM.R E w' w.heap.size (fun _ => True) (.slice A r.ts.length c) r.ts ∧ Below w.heap.size w w'
theorem MakesGC_nil (c : Int) (E : Nat) (w w' : World) (h : Below w.heap.size w w') : MakesGC ⟨0, 0, [], c⟩ E w (.returned (.tuple #[.agg #[.int .i64 0, .int .i64 0, .slice none 0 0], .int .i64 c])) w' :=
  ⟨none, 0, rfl, Kd.R_nil _ _ _ _ _, h⟩
def cenR (p n : Int) (ms : List M9) : GC := if grpB p n ms = true then ⟨p, n, ms.filter (cenB p n ms), 0⟩ else ⟨0, 0, [], 1⟩
theorem getD_filter {ms : List M9} {i : Nat} {P : M9 → Prop} (h : ∀ m, m ∈ ms → P m) (hi : i < ms.length) : P (ms.getD i zM) := h _ (getD_mem zM hi)

set_option maxRecDepth 100000 in
set_option maxHeartbeats 2000000 in
theorem implCentreOf_c (p n : Int) (A : Option Addr) (c : Nat) (ms : List M9) (w : World) (hC : kM.C w A ms.length ms) (hN : ms.length ≤ 9223372036854775807) :
    Calls Try.prog 35 #[.agg #[.int .i64 p, .int .i64 n, .slice A ms.length c]] w (MakesGC (cenR p n ms) 25 w) := by
  have hC1 := Kd.C_alloc (Kd.C_alloc hC (.cells #[.int .i64 p, .int .i64 n, .slice A ms.length c] 41)) (.cells #[.int .i64 0, .int .i64 0, .slice none 0 0] 41)
  have hG := implIsGroup_c p n A c ms _ hC1 hN
  cases hg : grpB p n ms with
  | false =>
    have e : cenR p n ms = ⟨0, 0, [], 1⟩ := by rw [cenR, hg]; rfl
    rw [e]
    rw [hg] at hG
    clear e hg
    go_enter Try.func35, Try.ntmps35
    go_wp2_with ((go_at_call 30; (first | (with_reducible refine call_later2 (hG) ?_) | (with_reducible refine call_later (hG) ?_)); intro x))
    have zz : w.heap.size + 1 < x.W.heap.size := by have := x.ok.size; simp at this; omega
    refine bodyPost_ret (v := .tuple #[.agg #[.int .i64 0, .int .i64 0, .slice none 0 0], .int .i64 1]) (by simp [results, Try.results35, go_sem]) rfl ?_
    exact MakesGC_nil _ _ _ _ (by repeat (first | (with_reducible assumption) | (with_reducible exact Below.refl _ _) | ((with_reducible refine Below.alloc ?_ ?_ _); rotate_left; (focus (first | omega | (simp; done) | (simp; omega) | (simp [Later.le, Later.le_add, Later.lt, Later.lt_add]; done) | (simp [Later.le, Later.le_add, Later.lt, Later.lt_add]; omega)))) | (with_reducible refine Below.drew ?_) | (with_reducible refine pw_below_drewN ?_ _) | ((with_reducible refine Below.setCell ?_ ?_ _); rotate_left; (focus (first | omega | (simp; done) | (simp; omega) | (simp [Later.le, Later.le_add, Later.lt, Later.lt_add]; done) | (simp [Later.le, Later.le_add, Later.lt, Later.lt_add]; omega)))) | ((with_reducible refine below_hop (by assumption) ?_ ?_); rotate_left; (focus (first | omega | (simp; done) | (simp; omega) | (simp [Later.le, Later.le_add, Later.lt, Later.lt_add]; done) | (simp [Later.le, Later.le_add, Later.lt, Later.lt_add]; omega)))) | ((with_reducible refine bel_later _ ?_ ?_); rotate_left; (focus (first | omega | (simp; done) | (simp; omega) | (simp [Later.le, Later.le_add, Later.lt, Later.lt_add]; done) | (simp [Later.le, Later.le_add, Later.lt, Later.lt_add]; omega))))))
  | true =>
    have e : cenR p n ms = ⟨p, n, ms.filter (cenB p n ms), 0⟩ := by rw [cenR, hg]; rfl
    rw [e]
    rw [hg] at hG
    have gp := (grpB_iff p n ms).1 hg
    clear e hg
    have hl2 := gp.l2
    have hmat := Lib.hid gp.mat
    clear gp
    go_enter Try.func35, Try.ntmps35
    go_wp2_with (first | ((go_at_call 30; (first | (with_reducible refine call_later2 (hG) ?_) | (with_reducible refine call_later (hG) ?_)); intro x); have hCx := Kd.C_below hC1 x.ok; have hcl := (fun (x' : Later x.W) i (hi : i < ms.length) => central_c (gb := w.heap.size) (c := c) (ms.getD i zM) (Kd.C_below hCx x'.ok) hl2 (x'.keep (x.keep (by simp))) (x'.keep (x.keep (by simp))) (x'.keep (x.keep (by simp))) hmat.out (hmat.out i hi))) | (go_at_call 84; (with_reducible refine call_makesG2 (those_c w.heap.size (cenB p n ms) hCx hl2 hcl) ?_); intro x2 A2 c2 hb2 hl2 hR2 hC2))
    have zz : w.heap.size + 1 < x.W.heap.size := by have := x.ok.size; simp at this; omega
    have zz2 := hb2.size
    refine bodyPost_ret (v := .tuple #[.agg #[.int .i64 p, .int .i64 n, .slice A2 (ms.filter (cenB p n ms)).length c2], .int .i64 0]) (by simp [results, Try.results35, go_sem]) rfl ?_
    refine ⟨_, _, rfl, ?_, (by repeat (first | (with_reducible assumption) | (with_reducible exact Below.refl _ _) | ((with_reducible refine Below.alloc ?_ ?_ _); rotate_left; (focus (first | omega | (simp; done) | (simp; omega) | (simp [Later.le, Later.le_add, Later.lt, Later.lt_add]; done) | (simp [Later.le, Later.le_add, Later.lt, Later.lt_add]; omega)))) | (with_reducible refine Below.drew ?_) | (with_reducible refine pw_below_drewN ?_ _) | ((with_reducible refine Below.setCell ?_ ?_ _); rotate_left; (focus (first | omega | (simp; done) | (simp; omega) | (simp [Later.le, Later.le_add, Later.lt, Later.lt_add]; done) | (simp [Later.le, Later.le_add, Later.lt, Later.lt_add]; omega)))) | ((with_reducible refine below_hop (by assumption) ?_ ?_); rotate_left; (focus (first | omega | (simp; done) | (simp; omega) | (simp [Later.le, Later.le_add, Later.lt, Later.lt_add]; done) | (simp [Later.le, Later.le_add, Later.lt, Later.lt_add]; omega)))) | ((with_reducible refine bel_later _ ?_ ?_); rotate_left; (focus (first | omega | (simp; done) | (simp; omega) | (simp [Later.le, Later.le_add, Later.lt, Later.lt_add]; done) | (simp [Later.le, Later.le_add, Later.lt, Later.lt_add]; omega))))))⟩
    exact Kd.R_lower (R_old (R_old (R_old hR2 (p := ⟨w.heap.size + 1, 0, none⟩) zz _) (p := ⟨w.heap.size + 1, 1, none⟩) zz _) (p := ⟨w.heap.size + 1, 2, none⟩) zz _) (by omega)
end Go.Proofs.Ytafdakamibpjaaa

/- The walk of the reference's CentreOf; no condition. -/
set_option linter.unusedVariables false
set_option linter.unusedSimpArgs false
namespace Go.Proofs.Ytafdakamibpjaaa
open Go.RowKit Go.Proofs.YtafdakamibpjaaaW.PrintWords
attribute [local go_sem] Later.cell Later.frozen Later.lt Later.lt_add Later.le Later.le_add Later.ne Later.ne' add_at
attribute [local go_sem 2000] run_eqM guardM

def cenU (p n : Int) (ms : List M9) (a : M9) (k : Nat) : Bool := (List.range k).all fun i => timesM p n.toNat a (ms.getD i zM) == timesM p n.toNat (ms.getD i zM) a
theorem cenU_step (p n : Int) (ms : List M9) (a : M9) (k : Nat) : cenU p n ms a (k + 1) = (cenU p n ms a k && (timesM p n.toNat a (ms.getD k zM) == timesM p n.toNat (ms.getD k zM) a)) := by
  simp [cenU, List.range_succ]
theorem cenU_no {p n : Int} {ms : List M9} {a : M9} {k : Nat} (hk : k ≤ ms.length) (h : cenU p n ms a k = false) : cenB p n ms a = false := by
  rw [← Bool.not_eq_true, cenB, List.all_eq_true]
  intro hc
  rw [← Bool.not_eq_true, cenU, List.all_eq_true] at h
  exact h fun i hi => hc i (List.mem_range.2 (by have := List.mem_range.1 hi; omega))

theorem R_zero2 {α : Type} (d : Kd α) {e g base : Nat} {W : World} (ok : Nat → Prop) (hok : ok g) (hg : W.heap[g]? = some (.cells #[] e (0, 0))) (hb : base ≤ g) : d.R e W base ok (.slice (some ⟨g, 0, none⟩) 0 0) [] :=
  ⟨fun k hk => by
    have : g = k := by simpa [Value.ownBlock] using hk
    rw [← this]
    exact hok, [], ⟨by simp, .inr ⟨g, 0, #[], rfl, hb, hg, Nat.le_refl _, Nat.zero_le _, by simp, by simp⟩⟩, Reps.none _ _⟩
set_option maxRecDepth 100000 in
set_option maxHeartbeats 4000000 in
theorem specCentreOf_c (p n : Int) (A : Option Addr) (c : Nat) (ms : List M9) (w : World) (hC : kM.C w A ms.length ms) (hN : ms.length ≤ 9223372036854775807) :
    Calls Try.prog 34 #[.agg #[.int .i64 p, .int .i64 n, .slice A ms.length c]] w (MakesGC (cenR p n ms) 25 w) := by
  have hC1 := Kd.C_alloc (Kd.C_alloc hC (.cells #[.int .i64 p, .int .i64 n, .slice A ms.length c] 41)) (.cells #[.int .i64 0, .int .i64 0, .slice none 0 0] 41)
  have hG := l02Is_c p n A c ms _ hC1 hN
  cases hg : grpB p n ms with
  | false =>
    have e : cenR p n ms = ⟨0, 0, [], 1⟩ := by rw [cenR, hg]; rfl
    rw [e]
    rw [hg] at hG
    clear e hg
    go_enter Try.func34, Try.ntmps34
    go_wp2_with ((go_at_call 78; (first | (with_reducible refine call_later2 (hG) ?_) | (with_reducible refine call_later (hG) ?_)); intro x))
    have zz : w.heap.size + 1 < x.W.heap.size := by have := x.ok.size; simp at this; omega
    refine bodyPost_ret (v := .tuple #[.agg #[.int .i64 0, .int .i64 0, .slice none 0 0], .int .i64 1]) (by simp [results, Try.results34, go_sem]) rfl ?_
    exact MakesGC_nil _ _ _ _ (by repeat (first | (with_reducible assumption) | (with_reducible exact Below.refl _ _) | ((with_reducible refine Below.alloc ?_ ?_ _); rotate_left; (focus (first | omega | (simp; done) | (simp; omega) | (simp [Later.le, Later.le_add, Later.lt, Later.lt_add]; done) | (simp [Later.le, Later.le_add, Later.lt, Later.lt_add]; omega)))) | (with_reducible refine Below.drew ?_) | (with_reducible refine pw_below_drewN ?_ _) | ((with_reducible refine Below.setCell ?_ ?_ _); rotate_left; (focus (first | omega | (simp; done) | (simp; omega) | (simp [Later.le, Later.le_add, Later.lt, Later.lt_add]; done) | (simp [Later.le, Later.le_add, Later.lt, Later.lt_add]; omega)))) | ((with_reducible refine below_hop (by assumption) ?_ ?_); rotate_left; (focus (first | omega | (simp; done) | (simp; omega) | (simp [Later.le, Later.le_add, Later.lt, Later.lt_add]; done) | (simp [Later.le, Later.le_add, Later.lt, Later.lt_add]; omega)))) | ((with_reducible refine bel_later _ ?_ ?_); rotate_left; (focus (first | omega | (simp; done) | (simp; omega) | (simp [Later.le, Later.le_add, Later.lt, Later.lt_add]; done) | (simp [Later.le, Later.le_add, Later.lt, Later.lt_add]; omega))))))
  | true =>
    have e : cenR p n ms = ⟨p, n, ms.filter (cenB p n ms), 0⟩ := by rw [cenR, hg]; rfl
    rw [e]
    rw [hg] at hG
    have gp := (grpB_iff p n ms).1 hg
    clear e hg
    have hl2 := gp.l2
    have HMAT := Lib.hid gp.mat
    clear gp
    have s0 : ((w.alloc (.cells #[.int .i64 p, .int .i64 n, .slice A ms.length c] 41)).alloc (.cells #[.int .i64 0, .int .i64 0, .slice none 0 0] 41)).cell? ⟨w.heap.size, 0, none⟩ = some (.int .i64 p) := by simp
    have s1 : ((w.alloc (.cells #[.int .i64 p, .int .i64 n, .slice A ms.length c] 41)).alloc (.cells #[.int .i64 0, .int .i64 0, .slice none 0 0] 41)).cell? ⟨w.heap.size, 1, none⟩ = some (.int .i64 n) := by simp
    go_enter Try.func34, Try.ntmps34
    go_wp2_with ((go_at_call 78; (first | (with_reducible refine call_later2 (hG) ?_) | (with_reducible refine call_later (hG) ?_)); intro x))
    have zz : w.heap.size + 1 < x.W.heap.size := by have := x.ok.size; simp at this; omega
    (first | refine wp_region_later2 (by kernel_rfl) (by kernel_rfl) ?_ | refine wp_region_later (by kernel_rfl) (by kernel_rfl) ?_); (repeat (go_big_quiet_step (fail))); refine wpQuiet_nil ?_; intro x2
    go_wp2
    have hw0 : Below (w.alloc (.cells #[.int .i64 p, .int .i64 n, .slice A ms.length c] 41)).heap.size (w.alloc (.cells #[.int .i64 p, .int .i64 n, .slice A ms.length c] 41)) x2.W := (below_alloc (Below.refl _ _) (.cells #[.int .i64 0, .int .i64 0, .slice none 0 0] 41)).trans (x2.ok.mono (by simp))
    have hz0 : (w.alloc (.cells #[.int .i64 p, .int .i64 n, .slice A ms.length c] 41)).heap.size = w.heap.size + 1 := by simp
    have hbw : Below w.heap.size w (w.alloc (.cells #[.int .i64 p, .int .i64 n, .slice A ms.length c] 41)) := below_alloc (Below.refl _ _) _
    have t0 : (w.alloc (.cells #[.int .i64 p, .int .i64 n, .slice A ms.length c] 41)).cell? ⟨w.heap.size, 0, none⟩ = some (.int .i64 p) := by simp
    have t1 : (w.alloc (.cells #[.int .i64 p, .int .i64 n, .slice A ms.length c] 41)).cell? ⟨w.heap.size, 1, none⟩ = some (.int .i64 n) := by simp
    have t2 : (w.alloc (.cells #[.int .i64 p, .int .i64 n, .slice A ms.length c] 41)).cell? ⟨w.heap.size, 2, none⟩ = some (.slice A ms.length c) := by simp
    have hC0 := Kd.C_alloc hC (.cells #[.int .i64 p, .int .i64 n, .slice A ms.length c] 41)
    have hzx := hw0.size
    have hx2 := x2.ok.size
    simp at hx2
    have k0 := cell_alloc (cell_alloc (x2.keep (a := ⟨w.heap.size + 1, 0, none⟩) (v := .int .i64 0) (by first | (simp; done) | (simp [go_sem]; done) | go_simp)) (.cells #[] 25)) (.cells #[.int .i64 p, .int .i64 n, .slice (some ⟨x2.W.heap.size, 0, none⟩) 0 0] 41)
    have k1 := cell_alloc (cell_alloc (x2.keep (a := ⟨w.heap.size + 1, 1, none⟩) (v := .int .i64 0) (by first | (simp; done) | (simp [go_sem]; done) | go_simp)) (.cells #[] 25)) (.cells #[.int .i64 p, .int .i64 n, .slice (some ⟨x2.W.heap.size, 0, none⟩) 0 0] 41)
    have k2 := cell_alloc (cell_alloc (x2.keep (a := ⟨w.heap.size + 1, 2, none⟩) (v := .slice none 0 0) (by first | (simp; done) | (simp [go_sem]; done) | go_simp)) (.cells #[] 25)) (.cells #[.int .i64 p, .int .i64 n, .slice (some ⟨x2.W.heap.size, 0, none⟩) 0 0] 41)
    have k3 : ∀ j, ((x2.W.alloc (.cells #[] 25)).alloc (.cells #[.int .i64 p, .int .i64 n, .slice (some ⟨x2.W.heap.size, 0, none⟩) 0 0] 41)).frozen? ⟨w.heap.size + 1, j, none⟩ = false := fun j =>
      (((below_alloc (below_alloc (Below.refl x2.W.heap.size x2.W) (.cells #[] 25)) (.cells #[.int .i64 p, .int .i64 n, .slice (some ⟨x2.W.heap.size, 0, none⟩) 0 0] 41)).frozen (p := ⟨w.heap.size + 1, j, none⟩) (by show w.heap.size + 1 < _; omega)).trans ((x2.ok.frozen (p := ⟨w.heap.size + 1, j, none⟩) (by simp)).trans (by first | (simp; done) | (simp [go_sem]; done) | go_simp)))
    have hrow : ((x2.W.alloc (.cells #[] 25)).alloc (.cells #[.int .i64 p, .int .i64 n, .slice (some ⟨x2.W.heap.size, 0, none⟩) 0 0] 41)).heap[x2.W.heap.size]? = some (.cells #[] 25) := by
      rw [Below.heap_alloc _ _ _ (by simp)]
      exact heap_alloc_last _ _
    have acc0 : Acc (w.alloc (.cells #[.int .i64 p, .int .i64 n, .slice A ms.length c] 41)) (x2.W.heap.size + 1) (w.heap.size + 1) p n 25 ((x2.W.alloc (.cells #[] 25)).alloc (.cells #[.int .i64 p, .int .i64 n, .slice (some ⟨x2.W.heap.size, 0, none⟩) 0 0] 41)) (some ⟨x2.W.heap.size, 0, none⟩) 0 [] :=
      ⟨below_alloc (below_alloc hw0 _) _, by omega, by omega, by simp, by simp, by simp, by simp, R_zero2 kM _ ⟨by omega, by omega⟩ hrow hzx, k0, k1, k2, k3 0, k3 1, k3 2, by omega⟩
    clear k0 k1 k2 k3 hrow hw0 hzx hx2 s0 s1 zz
    generalize ((x2.W.alloc (.cells #[] 25)).alloc (.cells #[.int .i64 p, .int .i64 n, .slice (some ⟨x2.W.heap.size, 0, none⟩) 0 0] 41)) = V at *
    generalize x2.W.heap.size + 1 = ob at *
    generalize hrb : w.heap.size + 1 = rb at *
    generalize w.alloc (.cells #[.int .i64 p, .int .i64 n, .slice A ms.length c] 41) = W0 at *
    go_loopg [7] ms.length (fun k v w' => ∃ (i : Nat) (B : Option Addr) (cb : Nat), i + k = ms.length ∧ v = .int .i64 i ∧ Acc W0 ob rb p n 25 w' B cb ((ms.take i).filter (cenB p n ms)))
    case atStart => exact ⟨0, _, 0, by omega, rfl, acc0⟩
    case round =>
      clear acc0
      obtain ⟨i, B, cb, hik, rfl, acc⟩ := hrel
      have HIK := Lib.hid hik
      clear hik
      have u0 := pw_cell_below acc.bel t0
      have u1 := pw_cell_below acc.bel t1
      have u2 := pw_cell_below acc.bel t2
      have zu := World.block_lt_of_cell? _ _ u0
      simp only [] at zu
      by_cases hlt : i < ms.length
      · have hCr := Kd.C_below hC0 acc.bel
        obtain ⟨b, o, hA, q0, q1, q2, q3, q4, q5, q6, q7, q8⟩ := kM_at hCr i hlt
        subst hA
        have hb := World.block_lt_of_cell? _ _ q0
        simp only [] at hb
        have hi0 : (0 : Int) ≤ i := by omega
        have hi1 : (i : Int) < ms.length := by omega
        have hin : ((i : Int)).toNat = i := by omega
        have hps := filt_step (cenB p n ms) ms i hlt
        have hpl : ((ms.take i).filter (cenB p n ms)).length ≤ 48 := Nat.le_trans (List.length_filter_le _ _) (Nat.le_trans (List.length_take_le' _ _) hl2)
        have hmi := HMAT.out i hlt
        generalize ms.getD i zM = m at *
        generalize (ms.take i).filter (cenB p n ms) = xs at *
        have HPS := Lib.hid hps
        have ACC := Lib.hid acc
        clear hps acc
        go_wp2
        go_loopg [8, 9] ms.length (fun gk2 v8 v9 w'' => ∃ (k : Nat) (y : Later wr), k + gk2 = ms.length ∧ v8 = .bool (cenU p n ms m k) ∧ v9 = .int .i64 k ∧ w'' = y.W)
        case atStart => exact ⟨0, ⟨wr, Below.refl _ _⟩, by omega, rfl, rfl, rfl⟩
        case round =>
          obtain ⟨k, y, hjk, rfl, rfl, rfl⟩ := hrel
          have HJK := Lib.hid hjk
          clear hjk
          by_cases hk : k < ms.length
          · have hk0 : (0 : Int) ≤ k := by omega
            have hk1 : (k : Int) < ms.length := by omega
            have hkn : ((k : Int)).toNat = k := by omega
            cases hu : cenU p n ms m k with
            | false =>
              have hq : cenB p n ms m = false := cenU_no (by omega) hu
              go_wp2
              go_roundg (ms.length - i - 1)
              case measure => have := HIK.out; omega
              case rel =>
                have e := HPS.out
                rw [hq] at e
                simp only [Bool.false_eq_true, if_false] at e
                exact ⟨i + 1, B, cb, by have := HIK.out; omega, by go_num, by rw [e]; exact ACC.out.below y.ok⟩
            | true =>
              obtain ⟨b', o', hA', r0, r1, r2, r3, r4, r5, r6, r7, r8⟩ := kM_at hCr k hk
              injection hA' with hA'
              injection hA' with e1 e2
              subst e1
              subst e2
              have hmk := HMAT.out k hk
              have hst := cenU_step p n ms m k
              rw [hu] at hst
              generalize ms.getD k zM = m' at *
              have hT1 := fun W => l02Times_g hmi hmk W
              have hT2 := fun W => l02Times_g hmk hmi W
              generalize timesM p n.toNat m m' = tm1 at *
              generalize timesM p n.toNat m' m = tm2 at *
              have HST := Lib.hid hst
              clear hst
              go_wp2
              (first | refine wp_region_later2 (by kernel_rfl) (by kernel_rfl) ?_ | refine wp_region_later (by kernel_rfl) (by kernel_rfl) ?_); (repeat (go_big_quiet_step (first | (go_at_call 72; with_reducible exact quiet_later (hT1 _)) | (go_at_call 72; with_reducible exact quiet_later (hT2 _))))); refine wpQuiet_nil ?_; intro x6
              go_wp2
              go_roundg (gk - 1)
              case measure => have := HJK.out; omega
              case rel =>
                exact ⟨k + 1, x6, by have := HJK.out; omega, by rw [HST.out]; rfl, by go_num, rfl⟩
          · have hke : k = ms.length := by have := HJK.out; omega
            have hcu : cenU p n ms m ms.length = cenB p n ms m := rfl
            subst hke
            rw [hcu]
            cases hq : cenB p n ms m with
            | false =>
              go_wp2
              go_roundg (ms.length - i - 1)
              case measure => have := HIK.out; omega
              case rel =>
                have e := HPS.out
                rw [hq] at e
                simp only [Bool.false_eq_true, if_false] at e
                exact ⟨i + 1, B, cb, by have := HIK.out; omega, by go_num, by rw [e]; exact ACC.out.below y.ok⟩
            | true =>
              have acc5 := ACC.out.below y.ok
              have g2 := y.keep u2
              replace q0 := y.keep q0
              replace q1 := y.keep q1
              replace q2 := y.keep q2
              replace q3 := y.keep q3
              replace q4 := y.keep q4
              replace q5 := y.keep q5
              replace q6 := y.keep q6
              replace q7 := y.keep q7
              replace q8 := y.keep q8
              have zb5 := World.block_lt_of_cell? _ _ q0
              have zg5 := World.block_lt_of_cell? _ _ g2
              simp only [] at zb5 zg5
              go_wp2
              generalize y.W = W5 at *
              have o2 := acc5.o2
              have o3 := acc5.o3
              have zob := acc5.lo
              have zrb := acc5.lr
              have zbase := acc5.bel.size
              have hne5 := acc5.own
              have hnr5 := acc5.ownr
              have hnw5 : some w.heap.size ≠ (Value.slice B xs.length cb).ownBlock := fun h => by have := Kd.R_base acc5.R _ h.symm; omega
              have ACC5 := Lib.hid acc5
              clear acc5
              go_region_law (refine Kd.R_append_step kM (w0 := W5.drew) (W := W5.drew) W0.heap.size (by rfl) (.tmp 68) (.tmp 74) 39 25 (.agg #[.int .u8 0, .int .u8 0, .int .u8 0, .int .u8 0, .int .u8 0, .int .u8 0, .int .u8 0, .int .u8 0, .int .u8 0]) 9 rfl Try.underlying39 infoM rfl (by decide) (by decide) (.slice B xs.length cb) xs m m.cs (fun k => k ≠ ob ∧ k ≠ rb) (fun _ => False) rfl rfl rfl (fun _ hk => hk.elim) (fun k hk => by simp at hk; exact ⟨by omega, by omega⟩) ACC5.out.drew.R (Below.refl _ _) (by simp; omega) (by omega) ?_; intro v1 w1 hR6 hB6 hg6 hat6; obtain ⟨B6, c6, rfl, hl6, hC6⟩ := Kd.R_reads hR6; have o2 := far_cell hg6 (show W5.drew.cell? ⟨ob, 2, none⟩ = _ from o2) hne5; have o3 := far_frozen hg6 (show W5.drew.frozen? ⟨ob, 2, none⟩ = _ from o3) zob hne5)
              all_goals
                go_wp2
                go_roundg (ms.length - i - 1)
                case measure => have := HIK.out; omega
                case rel =>
                  have e := HPS.out
                  rw [hq] at e
                  simp only [if_true] at e
                  rw [List.length_append] at hR6
                  exact ⟨i + 1, B6, c6, by have := HIK.out; omega, by go_num, by rw [e]; exact ACC5.out.drew.put hR6 hB6 hg6⟩
      · have hie : i = ms.length := by have := HIK.out; omega
        subst hie
        rw [List.take_length] at acc
        obtain ⟨bel, hrb', hob, o0, o1, o2, o3, hR, r0, r1, r2, r3, r4, r5, hne⟩ := acc
        have zlo := World.block_lt_of_cell? _ _ o0
        have zlr := World.block_lt_of_cell? _ _ r0
        simp only [] at zlo zlr
        go_wp2
        refine bodyPost_ret (v := .tuple #[.agg #[.int .i64 p, .int .i64 n, .slice B (ms.filter (cenB p n ms)).length cb], .int .i64 0]) (by simp [results, Try.results34, go_sem, r0, r1, r2]) rfl ?_
        refine ⟨B, cb, rfl, ?_, (((hbw.trans (bel.mono hbw.size)).setCell (by show w.heap.size ≤ rb; omega) _).setCell (by show w.heap.size ≤ rb; omega) _).setCell (by show w.heap.size ≤ rb; omega) _⟩
        exact Kd.R_mono (Kd.R_lower (Kd.R_far (Kd.R_far (Kd.R_far hR (fun k hk => hk.2) _) (fun k hk => hk.2) _) (fun k hk => hk.2) _) hbw.size) (fun _ _ => trivial)
end Go.Proofs.Ytafdakamibpjaaa

/- Laws for the laws of functions that make groups; no condition. -/
set_option linter.unusedVariables false
set_option linter.unusedSimpArgs false
namespace Go.Proofs.Ytafdakamibpjaaa
open Go.RowKit Go.Proofs.YtafdakamibpjaaaW.PrintWords
attribute [local go_sem] Later.cell Later.frozen Later.lt Later.lt_add Later.le Later.le_add Later.ne Later.ne' add_at

theorem to_makesG {p d : Int} {E : Nat} {xs : List M9} {P : Program} {f : FuncId} {args : Array Value} {V W : World} {R : Ending → World → Prop} (hW : Below V.heap.size V W)
    (h : Calls P f args W (MakesG p d E xs W)) (k : ∀ W' A c, Below V.heap.size V W' → Below W.heap.size W W' → xs.length ≤ c → kM.R E W' W.heap.size (fun _ => True) (.slice A xs.length c) xs → R (.returned (.agg #[.int .i64 p, .int .i64 d, .slice A xs.length c])) W') : Calls P f args W R :=
  h.mono fun _ w' ⟨A, c, he, hr, hb⟩ => by
    subst he
    exact k w' A c (hW.trans (hb.mono hW.size)) hb (Kd.R_reads' hr).2.1 hr
theorem to_makesGC {r : GC} {E : Nat} {P : Program} {f : FuncId} {args : Array Value} {V W : World} {R : Ending → World → Prop} (hW : Below V.heap.size V W)
    (h : Calls P f args W (MakesGC r E W)) (k : ∀ W' A c, Below V.heap.size V W' → Below W.heap.size W W' → r.ts.length ≤ c → kM.R E W' W.heap.size (fun _ => True) (.slice A r.ts.length c) r.ts → R (.returned (.tuple #[.agg #[.int .i64 r.p, .int .i64 r.d, .slice A r.ts.length c], .int .i64 r.c])) W') : Calls P f args W R :=
  h.mono fun _ w' ⟨A, c, he, hr, hb⟩ => by
    subst he
    exact k w' A c (hW.trans (hb.mono hW.size)) hb (Kd.R_reads' hr).2.1 hr
theorem cenR_len (p n : Int) (ms : List M9) : (cenR p n ms).ts.length ≤ 1048576 := by
  unfold cenR
  split
  · rename_i h
    have := ((grpB_iff p n ms).1 h).l2
    exact Nat.le_trans (List.length_filter_le _ _) (by omega)
  · simp

set_option maxRecDepth 100000 in
theorem markMatrixS_c (A : Option Addr) (l c : Nat) (k : Int) (w : World) (hl : l ≤ 1048576) : Calls Try.prog 86 #[.slice A l c, .int .i64 k] w (Gives (.int .i64 k) w) := by
  go_enter Try.func86, Try.ntmps86
  go_wp2
  go_loopg [5] l (fun g v w' => ∃ i : Nat, i + g = l ∧ v = .int .i64 i ∧ w' = w)
  case atStart => exact ⟨0, by omega, rfl, rfl⟩
  case round =>
    obtain ⟨i, hik, rfl, rfl⟩ := hrel
    by_cases hlt : i < l
    · have hi1 : (i : Int) < l := by omega
      go_wp2
      go_roundg (gk - 1)
      case measure => omega
      case rel => exact ⟨i + 1, by omega, by go_num, rfl⟩
    · have hi1 : ¬ (i : Int) < l := by omega
      go_wp2
      exact bodyPost_ret (v := .int .i64 k) (by simp [results, Try.results86, go_sem]) rfl (.mk rfl (by repeat (first | (with_reducible assumption) | (with_reducible exact Below.refl _ _) | ((with_reducible refine Below.alloc ?_ ?_ _); rotate_left; (focus (first | omega | (simp; done) | (simp; omega) | (simp [Later.le, Later.le_add, Later.lt, Later.lt_add]; done) | (simp [Later.le, Later.le_add, Later.lt, Later.lt_add]; omega)))) | (with_reducible refine Below.drew ?_) | (with_reducible refine pw_below_drewN ?_ _) | ((with_reducible refine Below.setCell ?_ ?_ _); rotate_left; (focus (first | omega | (simp; done) | (simp; omega) | (simp [Later.le, Later.le_add, Later.lt, Later.lt_add]; done) | (simp [Later.le, Later.le_add, Later.lt, Later.lt_add]; omega)))) | ((with_reducible refine below_hop (by assumption) ?_ ?_); rotate_left; (focus (first | omega | (simp; done) | (simp; omega) | (simp [Later.le, Later.le_add, Later.lt, Later.lt_add]; done) | (simp [Later.le, Later.le_add, Later.lt, Later.lt_add]; omega)))) | ((with_reducible refine bel_later _ ?_ ?_); rotate_left; (focus (first | omega | (simp; done) | (simp; omega) | (simp [Later.le, Later.le_add, Later.lt, Later.lt_add]; done) | (simp [Later.le, Later.le_add, Later.lt, Later.lt_add]; omega)))))))
set_option maxRecDepth 100000 in
theorem heldMatrixS_c (A : Option Addr) (l c : Nat) (k : Int) (w : World) (hl : l ≤ 1048576) : Calls Try.prog 87 #[.slice A l c, .int .i64 k] w (Gives (.int .i64 k) w) := by
  go_enter Try.func87, Try.ntmps87
  go_wp2
  go_loopg [5] l (fun g v w' => ∃ i : Nat, i + g = l ∧ v = .int .i64 i ∧ w' = w)
  case atStart => exact ⟨0, by omega, rfl, rfl⟩
  case round =>
    obtain ⟨i, hik, rfl, rfl⟩ := hrel
    by_cases hlt : i < l
    · have hi1 : (i : Int) < l := by omega
      go_wp2
      go_roundg (gk - 1)
      case measure => omega
      case rel => exact ⟨i + 1, by omega, by go_num, rfl⟩
    · have hi1 : ¬ (i : Int) < l := by omega
      go_wp2
      exact bodyPost_ret (v := .int .i64 k) (by simp [results, Try.results87, go_sem]) rfl (.mk rfl (by repeat (first | (with_reducible assumption) | (with_reducible exact Below.refl _ _) | ((with_reducible refine Below.alloc ?_ ?_ _); rotate_left; (focus (first | omega | (simp; done) | (simp; omega) | (simp [Later.le, Later.le_add, Later.lt, Later.lt_add]; done) | (simp [Later.le, Later.le_add, Later.lt, Later.lt_add]; omega)))) | (with_reducible refine Below.drew ?_) | (with_reducible refine pw_below_drewN ?_ _) | ((with_reducible refine Below.setCell ?_ ?_ _); rotate_left; (focus (first | omega | (simp; done) | (simp; omega) | (simp [Later.le, Later.le_add, Later.lt, Later.lt_add]; done) | (simp [Later.le, Later.le_add, Later.lt, Later.lt_add]; omega)))) | ((with_reducible refine below_hop (by assumption) ?_ ?_); rotate_left; (focus (first | omega | (simp; done) | (simp; omega) | (simp [Later.le, Later.le_add, Later.lt, Later.lt_add]; done) | (simp [Later.le, Later.le_add, Later.lt, Later.lt_add]; omega)))) | ((with_reducible refine bel_later _ ?_ ?_); rotate_left; (focus (first | omega | (simp; done) | (simp; omega) | (simp [Later.le, Later.le_add, Later.lt, Later.lt_add]; done) | (simp [Later.le, Later.le_add, Later.lt, Later.lt_add]; omega)))))))
set_option maxRecDepth 100000 in
theorem markGroup_c (p n : Int) (A : Option Addr) (l c : Nat) (k : Int) (w : World) (hl : l ≤ 1048576) : Calls Try.prog 36 #[.agg #[.int .i64 p, .int .i64 n, .slice A l c], .int .i64 k] w (Gives (.int .i64 k) w) := by
  go_enter Try.func36, Try.ntmps36
  go_wp2_with ((go_at_call 86; (first | (with_reducible refine call_later2 (markMatrixS_c _ _ _ _ _ hl) ?_) | (with_reducible refine call_later (markMatrixS_c _ _ _ _ _ hl) ?_)); intro x))
  exact bodyPost_ret (v := .int .i64 k) (by simp [results, Try.results36, go_sem]) rfl (.mk rfl (by repeat (first | (with_reducible assumption) | (with_reducible exact Below.refl _ _) | ((with_reducible refine Below.alloc ?_ ?_ _); rotate_left; (focus (first | omega | (simp; done) | (simp; omega) | (simp [Later.le, Later.le_add, Later.lt, Later.lt_add]; done) | (simp [Later.le, Later.le_add, Later.lt, Later.lt_add]; omega)))) | (with_reducible refine Below.drew ?_) | (with_reducible refine pw_below_drewN ?_ _) | ((with_reducible refine Below.setCell ?_ ?_ _); rotate_left; (focus (first | omega | (simp; done) | (simp; omega) | (simp [Later.le, Later.le_add, Later.lt, Later.lt_add]; done) | (simp [Later.le, Later.le_add, Later.lt, Later.lt_add]; omega)))) | ((with_reducible refine below_hop (by assumption) ?_ ?_); rotate_left; (focus (first | omega | (simp; done) | (simp; omega) | (simp [Later.le, Later.le_add, Later.lt, Later.lt_add]; done) | (simp [Later.le, Later.le_add, Later.lt, Later.lt_add]; omega)))) | ((with_reducible refine bel_later _ ?_ ?_); rotate_left; (focus (first | omega | (simp; done) | (simp; omega) | (simp [Later.le, Later.le_add, Later.lt, Later.lt_add]; done) | (simp [Later.le, Later.le_add, Later.lt, Later.lt_add]; omega)))))))
set_option maxRecDepth 100000 in
theorem heldGroup_c (p n : Int) (A : Option Addr) (l c : Nat) (k : Int) (w : World) (hl : l ≤ 1048576) (h0 : 0 ≤ k) (h1 : k ≤ 1048576) : Calls Try.prog 37 #[.agg #[.int .i64 p, .int .i64 n, .slice A l c], .int .i64 k] w (Gives (.int .i64 k) w) := by
  have hk : ¬ k < 0 := by omega
  go_enter Try.func37, Try.ntmps37
  go_wp2_with ((go_at_call 87; (first | (with_reducible refine call_later2 (heldMatrixS_c _ _ _ _ _ hl) ?_) | (with_reducible refine call_later (heldMatrixS_c _ _ _ _ _ hl) ?_)); intro x))
  exact bodyPost_ret (v := .int .i64 k) (by simp [results, Try.results37, go_sem]) rfl (.mk rfl (by repeat (first | (with_reducible assumption) | (with_reducible exact Below.refl _ _) | ((with_reducible refine Below.alloc ?_ ?_ _); rotate_left; (focus (first | omega | (simp; done) | (simp; omega) | (simp [Later.le, Later.le_add, Later.lt, Later.lt_add]; done) | (simp [Later.le, Later.le_add, Later.lt, Later.lt_add]; omega)))) | (with_reducible refine Below.drew ?_) | (with_reducible refine pw_below_drewN ?_ _) | ((with_reducible refine Below.setCell ?_ ?_ _); rotate_left; (focus (first | omega | (simp; done) | (simp; omega) | (simp [Later.le, Later.le_add, Later.lt, Later.lt_add]; done) | (simp [Later.le, Later.le_add, Later.lt, Later.lt_add]; omega)))) | ((with_reducible refine below_hop (by assumption) ?_ ?_); rotate_left; (focus (first | omega | (simp; done) | (simp; omega) | (simp [Later.le, Later.le_add, Later.lt, Later.lt_add]; done) | (simp [Later.le, Later.le_add, Later.lt, Later.lt_add]; omega)))) | ((with_reducible refine bel_later _ ?_ ?_); rotate_left; (focus (first | omega | (simp; done) | (simp; omega) | (simp [Later.le, Later.le_add, Later.lt, Later.lt_add]; done) | (simp [Later.le, Later.le_add, Later.lt, Later.lt_add]; omega)))))))
end Go.Proofs.Ytafdakamibpjaaa

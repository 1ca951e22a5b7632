/- The walks of the reference's IsMatrix; no condition. -/
import Derived.Test.YtafdakamibpjaaaIsMat
set_option linter.unusedVariables false
set_option linter.unusedSimpArgs false
namespace Go.Proofs.Ytafdakamibpjaaa
open Go.RowKit Go.Proofs.YtafdakamibpjaaaW.PrintWords
attribute [local go_sem] Later.cell Later.frozen Later.lt Later.lt_add Later.le Later.le_add Later.ne Later.ne' add_at

/-- A matrix and whether there is one, that a call makes. -/
theorem call_inv2 {P : Program} {f : FuncId} {args : Array Value} {w : World} {y : Later w} {b : Bool} {Q : M9 → Prop} {R : Ending → World → Prop}
    (h : Calls P f args y.W (fun e w' => ∃ m : M9, e = .returned (.tuple #[.agg #[.int .u8 (m.r0.a.toNat : Int), .int .u8 (m.r0.b.toNat : Int), .int .u8 (m.r0.c.toNat : Int), .int .u8 (m.r1.a.toNat : Int), .int .u8 (m.r1.b.toNat : Int), .int .u8 (m.r1.c.toNat : Int), .int .u8 (m.r2.a.toNat : Int), .int .u8 (m.r2.b.toNat : Int), .int .u8 (m.r2.c.toNat : Int)], .bool b]) ∧ Q m ∧ Below y.W.heap.size y.W w')) (k : ∀ (x : Later w) (m : M9), Q m → R (.returned (.tuple #[.agg #[.int .u8 (m.r0.a.toNat : Int), .int .u8 (m.r0.b.toNat : Int), .int .u8 (m.r0.c.toNat : Int), .int .u8 (m.r1.a.toNat : Int), .int .u8 (m.r1.b.toNat : Int), .int .u8 (m.r1.c.toNat : Int), .int .u8 (m.r2.a.toNat : Int), .int .u8 (m.r2.b.toNat : Int), .int .u8 (m.r2.c.toNat : Int)], .bool b])) x.W) : Calls P f args y.W R :=
  h.mono fun _ w' ⟨m, he, hq, hb⟩ => by subst he; exact k ⟨w', y.ok.trans (hb.mono y.ok.size)⟩ m hq

set_option maxRecDepth 100000 in
set_option maxHeartbeats 4000000 in
theorem l02Matrix_c (p n : Int) (m : M9) (w : World) : Calls Try.prog 65 #[.int .i64 p, .int .i64 n, .agg #[.int .u8 (m.r0.a.toNat : Int), .int .u8 (m.r0.b.toNat : Int), .int .u8 (m.r0.c.toNat : Int), .int .u8 (m.r1.a.toNat : Int), .int .u8 (m.r1.b.toNat : Int), .int .u8 (m.r1.c.toNat : Int), .int .u8 (m.r2.a.toNat : Int), .int .u8 (m.r2.b.toNat : Int), .int .u8 (m.r2.c.toNat : Int)]] w (Gives (.bool (matB p n m)) w) := by
  cases hp : primeB p with
  | false =>
    rw [matB_1 hp]
    go_enter Try.func65, Try.ntmps65
    go_wp2_with ((go_at_call 91; (first | (with_reducible refine call_later2 (hp ▸ l01Prime_c p _) ?_) | (with_reducible refine call_later (hp ▸ l01Prime_c p _) ?_)); intro x))
    exact bodyPost_ret (v := .bool false) (by simp [results, Try.results65, go_sem]) rfl (.mk rfl (by repeat (first | (with_reducible assumption) | (with_reducible exact Below.refl _ _) | ((with_reducible refine Below.alloc ?_ ?_ _); rotate_left; (focus (first | omega | (simp; done) | (simp; omega) | (simp [Later.le, Later.le_add, Later.lt, Later.lt_add]; done) | (simp [Later.le, Later.le_add, Later.lt, Later.lt_add]; omega)))) | (with_reducible refine Below.drew ?_) | (with_reducible refine pw_below_drewN ?_ _) | ((with_reducible refine Below.setCell ?_ ?_ _); rotate_left; (focus (first | omega | (simp; done) | (simp; omega) | (simp [Later.le, Later.le_add, Later.lt, Later.lt_add]; done) | (simp [Later.le, Later.le_add, Later.lt, Later.lt_add]; omega)))) | ((with_reducible refine below_hop (by assumption) ?_ ?_); rotate_left; (focus (first | omega | (simp; done) | (simp; omega) | (simp [Later.le, Later.le_add, Later.lt, Later.lt_add]; done) | (simp [Later.le, Later.le_add, Later.lt, Later.lt_add]; omega)))) | ((with_reducible refine bel_later _ ?_ ?_); rotate_left; (focus (first | omega | (simp; done) | (simp; omega) | (simp [Later.le, Later.le_add, Later.lt, Later.lt_add]; done) | (simp [Later.le, Later.le_add, Later.lt, Later.lt_add]; omega)))))))
  | true =>
    cases hn : inB n 1 3 with
    | false =>
      rw [matB_2 hn]
      go_enter Try.func65, Try.ntmps65
      go_wp2_with (first | (go_at_call 91; (first | (with_reducible refine call_later2 (hp ▸ l01Prime_c p _) ?_) | (with_reducible refine call_later (hp ▸ l01Prime_c p _) ?_)); intro x) | (go_at_call 92; (first | (with_reducible refine call_later2 (hn ▸ l01In_c n 1 3 _) ?_) | (with_reducible refine call_later (hn ▸ l01In_c n 1 3 _) ?_)); intro x2))
      exact bodyPost_ret (v := .bool false) (by simp [results, Try.results65, go_sem]) rfl (.mk rfl (by repeat (first | (with_reducible assumption) | (with_reducible exact Below.refl _ _) | ((with_reducible refine Below.alloc ?_ ?_ _); rotate_left; (focus (first | omega | (simp; done) | (simp; omega) | (simp [Later.le, Later.le_add, Later.lt, Later.lt_add]; done) | (simp [Later.le, Later.le_add, Later.lt, Later.lt_add]; omega)))) | (with_reducible refine Below.drew ?_) | (with_reducible refine pw_below_drewN ?_ _) | ((with_reducible refine Below.setCell ?_ ?_ _); rotate_left; (focus (first | omega | (simp; done) | (simp; omega) | (simp [Later.le, Later.le_add, Later.lt, Later.lt_add]; done) | (simp [Later.le, Later.le_add, Later.lt, Later.lt_add]; omega)))) | ((with_reducible refine below_hop (by assumption) ?_ ?_); rotate_left; (focus (first | omega | (simp; done) | (simp; omega) | (simp [Later.le, Later.le_add, Later.lt, Later.lt_add]; done) | (simp [Later.le, Later.le_add, Later.lt, Later.lt_add]; omega)))) | ((with_reducible refine bel_later _ ?_ ?_); rotate_left; (focus (first | omega | (simp; done) | (simp; omega) | (simp [Later.le, Later.le_add, Later.lt, Later.lt_add]; done) | (simp [Later.le, Later.le_add, Later.lt, Later.lt_add]; omega)))))))
    | true =>
      have hpz := primeZ_of hp
      obtain ⟨hp2, hp13⟩ := hpz.two
      obtain ⟨hn1, hn3⟩ := inB_of hn
      go_enter Try.func65, Try.ntmps65
      have hb0 : Below w.heap.size w (w.alloc (.cells #[.int .u8 (m.r0.a.toNat : Int), .int .u8 (m.r0.b.toNat : Int), .int .u8 (m.r0.c.toNat : Int), .int .u8 (m.r1.a.toNat : Int), .int .u8 (m.r1.b.toNat : Int), .int .u8 (m.r1.c.toNat : Int), .int .u8 (m.r2.a.toNat : Int), .int .u8 (m.r2.b.toNat : Int), .int .u8 (m.r2.c.toNat : Int)] 25)) := (by repeat (first | (with_reducible assumption) | (with_reducible exact Below.refl _ _) | ((with_reducible refine Below.alloc ?_ ?_ _); rotate_left; (focus (first | omega | (simp; done) | (simp; omega) | (simp [Later.le, Later.le_add, Later.lt, Later.lt_add]; done) | (simp [Later.le, Later.le_add, Later.lt, Later.lt_add]; omega)))) | (with_reducible refine Below.drew ?_) | (with_reducible refine pw_below_drewN ?_ _) | ((with_reducible refine Below.setCell ?_ ?_ _); rotate_left; (focus (first | omega | (simp; done) | (simp; omega) | (simp [Later.le, Later.le_add, Later.lt, Later.lt_add]; done) | (simp [Later.le, Later.le_add, Later.lt, Later.lt_add]; omega)))) | ((with_reducible refine below_hop (by assumption) ?_ ?_); rotate_left; (focus (first | omega | (simp; done) | (simp; omega) | (simp [Later.le, Later.le_add, Later.lt, Later.lt_add]; done) | (simp [Later.le, Later.le_add, Later.lt, Later.lt_add]; omega)))) | ((with_reducible refine bel_later _ ?_ ?_); rotate_left; (focus (first | omega | (simp; done) | (simp; omega) | (simp [Later.le, Later.le_add, Later.lt, Later.lt_add]; done) | (simp [Later.le, Later.le_add, Later.lt, Later.lt_add]; omega))))))
      have c1 : ∀ i j, i < 3 → j < 3 → (w.alloc (.cells #[.int .u8 (m.r0.a.toNat : Int), .int .u8 (m.r0.b.toNat : Int), .int .u8 (m.r0.c.toNat : Int), .int .u8 (m.r1.a.toNat : Int), .int .u8 (m.r1.b.toNat : Int), .int .u8 (m.r1.c.toNat : Int), .int .u8 (m.r2.a.toNat : Int), .int .u8 (m.r2.b.toNat : Int), .int .u8 (m.r2.c.toNat : Int)] 25)).cell? ⟨w.heap.size, i * 3 + j, none⟩ = some (.int .u8 (m.num i j)) := fun i j hi hj => box_at w m _ i j hi hj
      go_wp2_with (first | (go_at_call 91; (first | (with_reducible refine call_later2 (hp ▸ l01Prime_c p _) ?_) | (with_reducible refine call_later (hp ▸ l01Prime_c p _) ?_)); intro x) | (go_at_call 92; (first | (with_reducible refine call_later2 (hn ▸ l01In_c n 1 3 _) ?_) | (with_reducible refine call_later (hn ▸ l01In_c n 1 3 _) ?_)); intro x2))
      generalize w.alloc (.cells #[.int .u8 (m.r0.a.toNat : Int), .int .u8 (m.r0.b.toNat : Int), .int .u8 (m.r0.c.toNat : Int), .int .u8 (m.r1.a.toNat : Int), .int .u8 (m.r1.b.toNat : Int), .int .u8 (m.r1.c.toNat : Int), .int .u8 (m.r2.a.toNat : Int), .int .u8 (m.r2.b.toNat : Int), .int .u8 (m.r2.c.toNat : Int)] 25) = W0 at *
      have C1 := Lib.hid c1
      have HB0 := Lib.hid hb0
      clear c1 hb0
      go_loopg [7] 3 (fun k v w' => ∃ (i : Nat) (y : Later W0), i + k = 3 ∧ v = .int .i64 i ∧ w' = y.W ∧ ∀ i', i' < i → ∀ j, j < 3 → cellB p n m i' j = true)
      case atStart => exact ⟨0, x2, by omega, rfl, rfl, fun i' h => by omega⟩
      case round =>
        obtain ⟨i, y, hik, rfl, rfl, hok⟩ := hrel
        have HIK := Lib.hid hik
        have HOK := Lib.hid hok
        clear hik hok
        by_cases hi : i < 3
        · have hi1 : (i : Int) < 3 := by omega
          have hin : ((i : Int)).toNat = i := by omega
          go_wp2
          go_loopg [8] 3 (fun k v w' => ∃ (j : Nat) (y2 : Later W0), j + k = 3 ∧ v = .int .i64 j ∧ w' = y2.W ∧ ∀ j', j' < j → cellB p n m i j' = true)
          case atStart => exact ⟨0, y, by omega, rfl, rfl, fun j' h => by omega⟩
          case round =>
            obtain ⟨j, y2, hjk, rfl, rfl, hok2⟩ := hrel
            have HJK := Lib.hid hjk
            have HOK2 := Lib.hid hok2
            clear hjk hok2
            by_cases hj : j < 3
            · have hj1 : (j : Int) < 3 := by omega
              have hjn : ((j : Int)).toNat = j := by omega
              have q := y2.keep (C1.out i j hi hj)
              have hxb := num_bd m i j
              have hbw := HB0.out
              have hbs := hbw.size
              by_cases h1 : p ≤ m.num i j
              · have HB := Lib.hid (matB_3 hi hj (cellB_false1 (n := n) h1))
                generalize m.num i j = x at *
                go_wp2
                rw [HB.out]
                exact bodyPost_ret (v := .bool false) (by simp [results, Try.results65, go_sem]) rfl (.mk rfl (by repeat (first | (with_reducible assumption) | (with_reducible exact Below.refl _ _) | ((with_reducible refine Below.alloc ?_ ?_ _); rotate_left; (focus (first | omega | (simp; done) | (simp; omega) | (simp [Later.le, Later.le_add, Later.lt, Later.lt_add]; done) | (simp [Later.le, Later.le_add, Later.lt, Later.lt_add]; omega)))) | (with_reducible refine Below.drew ?_) | (with_reducible refine pw_below_drewN ?_ _) | ((with_reducible refine Below.setCell ?_ ?_ _); rotate_left; (focus (first | omega | (simp; done) | (simp; omega) | (simp [Later.le, Later.le_add, Later.lt, Later.lt_add]; done) | (simp [Later.le, Later.le_add, Later.lt, Later.lt_add]; omega)))) | ((with_reducible refine below_hop (by assumption) ?_ ?_); rotate_left; (focus (first | omega | (simp; done) | (simp; omega) | (simp [Later.le, Later.le_add, Later.lt, Later.lt_add]; done) | (simp [Later.le, Later.le_add, Later.lt, Later.lt_add]; omega)))) | ((with_reducible refine bel_later _ ?_ ?_); rotate_left; (focus (first | omega | (simp; done) | (simp; omega) | (simp [Later.le, Later.le_add, Later.lt, Later.lt_add]; done) | (simp [Later.le, Later.le_add, Later.lt, Later.lt_add]; omega)))))))
              · by_cases h4 : m.num i j = 0
                · have HT := Lib.hid (cellB_true1 (n := n) h1 h4)
                  rw [h4] at q h1
                  by_cases h2 : (n : Int) ≤ i
                  · go_wp2
                    go_roundg (gk - 1)
                    case measure => have := HJK.out; omega
                    case rel =>
                      refine ⟨j + 1, y2, by have := HJK.out; omega, by go_num, rfl, fun j' hj' => ?_⟩
                      by_cases h : j' = j
                      · rw [h]; exact HT.out
                      · exact HOK2.out j' (by omega)
                  · by_cases h3 : (n : Int) ≤ j
                    · go_wp2
                      go_roundg (gk - 1)
                      case measure => have := HJK.out; omega
                      case rel =>
                        refine ⟨j + 1, y2, by have := HJK.out; omega, by go_num, rfl, fun j' hj' => ?_⟩
                        by_cases h : j' = j
                        · rw [h]; exact HT.out
                        · exact HOK2.out j' (by omega)
                    · go_wp2
                      go_roundg (gk - 1)
                      case measure => have := HJK.out; omega
                      case rel =>
                        refine ⟨j + 1, y2, by have := HJK.out; omega, by go_num, rfl, fun j' hj' => ?_⟩
                        by_cases h : j' = j
                        · rw [h]; exact HT.out
                        · exact HOK2.out j' (by omega)
                · by_cases h2 : (n : Int) ≤ i
                  · have HB := Lib.hid (matB_3 hi hj (cellB_false2 (p := p) (.inl h2) h4))
                    generalize m.num i j = x at *
                    go_wp2
                    rw [HB.out]
                    exact bodyPost_ret (v := .bool false) (by simp [results, Try.results65, go_sem]) rfl (.mk rfl (by repeat (first | (with_reducible assumption) | (with_reducible exact Below.refl _ _) | ((with_reducible refine Below.alloc ?_ ?_ _); rotate_left; (focus (first | omega | (simp; done) | (simp; omega) | (simp [Later.le, Later.le_add, Later.lt, Later.lt_add]; done) | (simp [Later.le, Later.le_add, Later.lt, Later.lt_add]; omega)))) | (with_reducible refine Below.drew ?_) | (with_reducible refine pw_below_drewN ?_ _) | ((with_reducible refine Below.setCell ?_ ?_ _); rotate_left; (focus (first | omega | (simp; done) | (simp; omega) | (simp [Later.le, Later.le_add, Later.lt, Later.lt_add]; done) | (simp [Later.le, Later.le_add, Later.lt, Later.lt_add]; omega)))) | ((with_reducible refine below_hop (by assumption) ?_ ?_); rotate_left; (focus (first | omega | (simp; done) | (simp; omega) | (simp [Later.le, Later.le_add, Later.lt, Later.lt_add]; done) | (simp [Later.le, Later.le_add, Later.lt, Later.lt_add]; omega)))) | ((with_reducible refine bel_later _ ?_ ?_); rotate_left; (focus (first | omega | (simp; done) | (simp; omega) | (simp [Later.le, Later.le_add, Later.lt, Later.lt_add]; done) | (simp [Later.le, Later.le_add, Later.lt, Later.lt_add]; omega)))))))
                  · by_cases h3 : (n : Int) ≤ j
                    · have HB := Lib.hid (matB_3 hi hj (cellB_false2 (p := p) (.inr h3) h4))
                      generalize m.num i j = x at *
                      go_wp2
                      rw [HB.out]
                      exact bodyPost_ret (v := .bool false) (by simp [results, Try.results65, go_sem]) rfl (.mk rfl (by repeat (first | (with_reducible assumption) | (with_reducible exact Below.refl _ _) | ((with_reducible refine Below.alloc ?_ ?_ _); rotate_left; (focus (first | omega | (simp; done) | (simp; omega) | (simp [Later.le, Later.le_add, Later.lt, Later.lt_add]; done) | (simp [Later.le, Later.le_add, Later.lt, Later.lt_add]; omega)))) | (with_reducible refine Below.drew ?_) | (with_reducible refine pw_below_drewN ?_ _) | ((with_reducible refine Below.setCell ?_ ?_ _); rotate_left; (focus (first | omega | (simp; done) | (simp; omega) | (simp [Later.le, Later.le_add, Later.lt, Later.lt_add]; done) | (simp [Later.le, Later.le_add, Later.lt, Later.lt_add]; omega)))) | ((with_reducible refine below_hop (by assumption) ?_ ?_); rotate_left; (focus (first | omega | (simp; done) | (simp; omega) | (simp [Later.le, Later.le_add, Later.lt, Later.lt_add]; done) | (simp [Later.le, Later.le_add, Later.lt, Later.lt_add]; omega)))) | ((with_reducible refine bel_later _ ?_ ?_); rotate_left; (focus (first | omega | (simp; done) | (simp; omega) | (simp [Later.le, Later.le_add, Later.lt, Later.lt_add]; done) | (simp [Later.le, Later.le_add, Later.lt, Later.lt_add]; omega)))))))
                    · have HT := Lib.hid (cellB_true2 h1 h2 h3)
                      generalize m.num i j = x at *
                      go_wp2
                      go_roundg (gk - 1)
                      case measure => have := HJK.out; omega
                      case rel =>
                        refine ⟨j + 1, y2, by have := HJK.out; omega, by go_num, rfl, fun j' hj' => ?_⟩
                        by_cases h : j' = j
                        · rw [h]; exact HT.out
                        · exact HOK2.out j' (by omega)

            · have hje : j = 3 := by have := HJK.out; omega
              subst hje
              go_wp2
              go_roundg (2 - i)
              case measure => have := HIK.out; omega
              case rel =>
                refine ⟨i + 1, y2, by have := HIK.out; omega, by go_num, rfl, fun i' hi' => ?_⟩
                by_cases h : i' = i
                · rw [h]; exact HOK2.out
                · exact HOK.out i' (by omega)
        · have hie : i = 3 := by have := HIK.out; omega
          subst hie
          have hcs := cellsB_of HOK.out
          have hle := cellsB_le HOK.out
          obtain ⟨nn, rfl⟩ := Int.eq_ofNat_of_zero_le (show 0 ≤ n by omega)
          have hr := matB_4 hp hn hcs
          have hdc := fun W => l02Inverse_c p nn m W hpz (by omega) (by omega) hle
          generalize detZ nn m.num % p = dd at *
          have HR := Lib.hid hr
          clear hr hcs hle
          have q0 : y.W.cell? ⟨w.heap.size, 0, none⟩ = some (.int .u8 (m.r0.a.toNat : Int)) := y.keep (C1.out 0 0 (by omega) (by omega))
          have q1 : y.W.cell? ⟨w.heap.size, 1, none⟩ = some (.int .u8 (m.r0.b.toNat : Int)) := y.keep (C1.out 0 1 (by omega) (by omega))
          have q2 : y.W.cell? ⟨w.heap.size, 2, none⟩ = some (.int .u8 (m.r0.c.toNat : Int)) := y.keep (C1.out 0 2 (by omega) (by omega))
          have q3 : y.W.cell? ⟨w.heap.size, 3, none⟩ = some (.int .u8 (m.r1.a.toNat : Int)) := y.keep (C1.out 1 0 (by omega) (by omega))
          have q4 : y.W.cell? ⟨w.heap.size, 4, none⟩ = some (.int .u8 (m.r1.b.toNat : Int)) := y.keep (C1.out 1 1 (by omega) (by omega))
          have q5 : y.W.cell? ⟨w.heap.size, 5, none⟩ = some (.int .u8 (m.r1.c.toNat : Int)) := y.keep (C1.out 1 2 (by omega) (by omega))
          have q6 : y.W.cell? ⟨w.heap.size, 6, none⟩ = some (.int .u8 (m.r2.a.toNat : Int)) := y.keep (C1.out 2 0 (by omega) (by omega))
          have q7 : y.W.cell? ⟨w.heap.size, 7, none⟩ = some (.int .u8 (m.r2.b.toNat : Int)) := y.keep (C1.out 2 1 (by omega) (by omega))
          have q8 : y.W.cell? ⟨w.heap.size, 8, none⟩ = some (.int .u8 (m.r2.c.toNat : Int)) := y.keep (C1.out 2 2 (by omega) (by omega))
          have hbw := HB0.out
          have hbs := hbw.size
          have hzy : w.heap.size < y.W.heap.size := World.block_lt_of_cell? _ _ q0
          go_wp2_with ((go_at_call 88; (with_reducible refine call_inv2 (hdc _) ?_); intro x9 mi _; have hx9 := x9.ok.size))
          refine bodyPost_ret (v := .bool (decide (dd ≠ 0))) (by simp [results, Try.results65, go_sem]) rfl (.mk ?_ (by repeat (first | (with_reducible assumption) | (with_reducible exact Below.refl _ _) | ((with_reducible refine Below.alloc ?_ ?_ _); rotate_left; (focus (first | omega | (simp; done) | (simp; omega) | (simp [Later.le, Later.le_add, Later.lt, Later.lt_add]; done) | (simp [Later.le, Later.le_add, Later.lt, Later.lt_add]; omega)))) | (with_reducible refine Below.drew ?_) | (with_reducible refine pw_below_drewN ?_ _) | ((with_reducible refine Below.setCell ?_ ?_ _); rotate_left; (focus (first | omega | (simp; done) | (simp; omega) | (simp [Later.le, Later.le_add, Later.lt, Later.lt_add]; done) | (simp [Later.le, Later.le_add, Later.lt, Later.lt_add]; omega)))) | ((with_reducible refine below_hop (by assumption) ?_ ?_); rotate_left; (focus (first | omega | (simp; done) | (simp; omega) | (simp [Later.le, Later.le_add, Later.lt, Later.lt_add]; done) | (simp [Later.le, Later.le_add, Later.lt, Later.lt_add]; omega)))) | ((with_reducible refine bel_later _ ?_ ?_); rotate_left; (focus (first | omega | (simp; done) | (simp; omega) | (simp [Later.le, Later.le_add, Later.lt, Later.lt_add]; done) | (simp [Later.le, Later.le_add, Later.lt, Later.lt_add]; omega)))))))
          rw [HR.out]

set_option maxRecDepth 100000 in
theorem specIsMatrix_c (p n : Int) (m : M9) (w : World) : Calls Try.prog 17 #[.int .i64 p, .int .i64 n, .agg #[.int .u8 (m.r0.a.toNat : Int), .int .u8 (m.r0.b.toNat : Int), .int .u8 (m.r0.c.toNat : Int), .int .u8 (m.r1.a.toNat : Int), .int .u8 (m.r1.b.toNat : Int), .int .u8 (m.r1.c.toNat : Int), .int .u8 (m.r2.a.toNat : Int), .int .u8 (m.r2.b.toNat : Int), .int .u8 (m.r2.c.toNat : Int)]] w (Gives (.bool (matB p n m)) w) := by
  go_enter Try.func17, Try.ntmps17
  go_wp2_with ((go_at_call 65; (first | (with_reducible refine call_later2 (l02Matrix_c p n m _) ?_) | (with_reducible refine call_later (l02Matrix_c p n m _) ?_)); intro x))
  exact bodyPost_ret (v := .bool (matB p n m)) (by simp [results, Try.results17, go_sem]) rfl (.mk rfl (by repeat (first | (with_reducible assumption) | (with_reducible exact Below.refl _ _) | ((with_reducible refine Below.alloc ?_ ?_ _); rotate_left; (focus (first | omega | (simp; done) | (simp; omega) | (simp [Later.le, Later.le_add, Later.lt, Later.lt_add]; done) | (simp [Later.le, Later.le_add, Later.lt, Later.lt_add]; omega)))) | (with_reducible refine Below.drew ?_) | (with_reducible refine pw_below_drewN ?_ _) | ((with_reducible refine Below.setCell ?_ ?_ _); rotate_left; (focus (first | omega | (simp; done) | (simp; omega) | (simp [Later.le, Later.le_add, Later.lt, Later.lt_add]; done) | (simp [Later.le, Later.le_add, Later.lt, Later.lt_add]; omega)))) | ((with_reducible refine below_hop (by assumption) ?_ ?_); rotate_left; (focus (first | omega | (simp; done) | (simp; omega) | (simp [Later.le, Later.le_add, Later.lt, Later.lt_add]; done) | (simp [Later.le, Later.le_add, Later.lt, Later.lt_add]; omega)))) | ((with_reducible refine bel_later _ ?_ ?_); rotate_left; (focus (first | omega | (simp; done) | (simp; omega) | (simp [Later.le, Later.le_add, Later.lt, Later.lt_add]; done) | (simp [Later.le, Later.le_add, Later.lt, Later.lt_add]; omega)))))))
end Go.Proofs.Ytafdakamibpjaaa

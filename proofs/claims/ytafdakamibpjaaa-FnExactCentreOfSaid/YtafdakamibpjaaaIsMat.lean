/- The walks of IsMatrix of both sides; no condition. -/
import Derived.Test.YtafdakamibpjaaaInv
set_option linter.unusedVariables false
set_option linter.unusedSimpArgs false
namespace Go.Proofs.Ytafdakamibpjaaa
open Go.RowKit Go.Proofs.YtafdakamibpjaaaW.PrintWords
attribute [local go_sem] Later.cell Later.frozen Later.lt Later.lt_add Later.le Later.le_add Later.ne Later.ne' add_at


theorem primeZ_of {p : Int} (h : primeB p = true) : primeZ p := by
  simp [primeB] at h
  unfold primeZ
  omega
theorem inB_of {n : Int} (h : inB n 1 3 = true) : 1 ≤ n ∧ n ≤ 3 := by
  simp [inB] at h
  exact h
def cellB (p n : Int) (m : M9) (i j : Nat) : Bool := decide (m.num i j < p) && ((decide ((i : Int) < n) && decide ((j : Int) < n)) || m.num i j == 0)
def cellsB (p n : Int) (m : M9) : Bool := (List.range 3).all fun i => (List.range 3).all fun j => cellB p n m i j
theorem cellsB_iff (p n : Int) (m : M9) : cellsB p n m = true ↔ ∀ i, i < 3 → ∀ j, j < 3 → cellB p n m i j = true := by
  simp [cellsB, List.all_eq_true]
/-- What IsMatrix answers. -/
def matB (p n : Int) (m : M9) : Bool := primeB p && inB n 1 3 && cellsB p n m && decide (detZ n.toNat m.num % p ≠ 0)
theorem matB_1 {p n : Int} {m : M9} (h : primeB p = false) : matB p n m = false := by simp [matB, h]
theorem matB_2 {p n : Int} {m : M9} (h : inB n 1 3 = false) : matB p n m = false := by simp [matB, h]
theorem matB_3 {p n : Int} {m : M9} {i j : Nat} (hi : i < 3) (hj : j < 3) (h : cellB p n m i j = false) : matB p n m = false := by
  have : cellsB p n m = false := by
    rw [← Bool.not_eq_true, cellsB_iff]
    intro hc
    have := hc i hi j hj
    rw [h] at this
    exact absurd this (by decide)
  simp [matB, this]
theorem cellsB_of {p n : Int} {m : M9} (h : ∀ i, i < 3 → ∀ j, j < 3 → cellB p n m i j = true) : cellsB p n m = true := (cellsB_iff p n m).2 h
theorem cellsB_le {p n : Int} {m : M9} (h : ∀ i, i < 3 → ∀ j, j < 3 → cellB p n m i j = true) : m.le p := by
  have g : ∀ i, i < 3 → ∀ j, j < 3 → ((m.at i j).toNat : Int) < p := fun i hi j hj => by
    have := h i hi j hj
    unfold cellB at this
    rw [Bool.and_eq_true] at this
    exact of_decide_eq_true this.1
  exact ⟨⟨g 0 (by omega) 0 (by omega), g 0 (by omega) 1 (by omega), g 0 (by omega) 2 (by omega)⟩, ⟨g 1 (by omega) 0 (by omega), g 1 (by omega) 1 (by omega), g 1 (by omega) 2 (by omega)⟩, ⟨g 2 (by omega) 0 (by omega), g 2 (by omega) 1 (by omega), g 2 (by omega) 2 (by omega)⟩⟩
theorem det_same {n : Nat} (hn : n = 1 ∨ n = 2 ∨ n = 3) (m : M9) : detI (n : Int) m = detZ n m.num := by
  rcases hn with rfl | rfl | rfl <;> rfl
theorem matB_4 {p : Int} {n : Nat} {m : M9} (hp : primeB p = true) (hn : inB (n : Int) 1 3 = true) (h : cellsB p n m = true) : matB p n m = decide (detZ n m.num % p ≠ 0) := by
  simp [matB, hp, hn, h]
theorem num_bd (m : M9) (i j : Nat) : 0 ≤ m.num i j ∧ m.num i j ≤ 255 := by
  unfold M9.num
  have := (m.at i j).toNat_lt
  omega
theorem cellB_false1 {p n : Int} {m : M9} {i j : Nat} (h : p ≤ m.num i j) : cellB p n m i j = false := by
  unfold cellB
  rw [decide_eq_false (by omega)]
  rfl
theorem cellB_false2 {p n : Int} {m : M9} {i j : Nat} (h : n ≤ i ∨ n ≤ j) (h2 : m.num i j ≠ 0) : cellB p n m i j = false := by
  unfold cellB
  rcases h with h | h
  · rw [decide_eq_false (p := (i : Int) < n) (by omega), beq_eq_false_iff_ne.2 h2]; simp
  · rw [decide_eq_false (p := (j : Int) < n) (by omega), beq_eq_false_iff_ne.2 h2]; simp
theorem cellB_true1 {p n : Int} {m : M9} {i j : Nat} (h : ¬ p ≤ m.num i j) (h2 : m.num i j = 0) : cellB p n m i j = true := by
  unfold cellB
  rw [decide_eq_true (by omega), h2]
  simp
theorem cellB_true2 {p n : Int} {m : M9} {i j : Nat} (h : ¬ p ≤ m.num i j) (h1 : ¬ n ≤ i) (h2 : ¬ n ≤ j) : cellB p n m i j = true := by
  unfold cellB
  rw [decide_eq_true (by omega), decide_eq_true (p := (i : Int) < n) (by omega), decide_eq_true (p := (j : Int) < n) (by omega)]
  simp

set_option maxRecDepth 100000 in
set_option maxHeartbeats 4000000 in
theorem implIsMatrix_c (p n : Int) (m : M9) (w : World) : Calls Try.prog 19 #[.int .i64 p, .int .i64 n, .agg #[.int .u8 (m.r0.a.toNat : Int), .int .u8 (m.r0.b.toNat : Int), .int .u8 (m.r0.c.toNat : Int), .int .u8 (m.r1.a.toNat : Int), .int .u8 (m.r1.b.toNat : Int), .int .u8 (m.r1.c.toNat : Int), .int .u8 (m.r2.a.toNat : Int), .int .u8 (m.r2.b.toNat : Int), .int .u8 (m.r2.c.toNat : Int)]] w (Gives (.bool (matB p n m)) w) := by
  cases hp : primeB p with
  | false =>
    rw [matB_1 hp]
    go_enter Try.func19, Try.ntmps19
    go_wp2_with ((go_at_call 67; (first | (with_reducible refine call_later2 (hp ▸ isPrime_c p _) ?_) | (with_reducible refine call_later (hp ▸ isPrime_c p _) ?_)); intro x))
    exact bodyPost_ret (v := .bool false) (by simp [results, Try.results19, go_sem]) rfl (.mk rfl (by repeat (first | (with_reducible assumption) | (with_reducible exact Below.refl _ _) | ((with_reducible refine Below.alloc ?_ ?_ _); rotate_left; (focus (first | omega | (simp; done) | (simp; omega) | (simp [Later.le, Later.le_add, Later.lt, Later.lt_add]; done) | (simp [Later.le, Later.le_add, Later.lt, Later.lt_add]; omega)))) | (with_reducible refine Below.drew ?_) | (with_reducible refine pw_below_drewN ?_ _) | ((with_reducible refine Below.setCell ?_ ?_ _); rotate_left; (focus (first | omega | (simp; done) | (simp; omega) | (simp [Later.le, Later.le_add, Later.lt, Later.lt_add]; done) | (simp [Later.le, Later.le_add, Later.lt, Later.lt_add]; omega)))) | ((with_reducible refine below_hop (by assumption) ?_ ?_); rotate_left; (focus (first | omega | (simp; done) | (simp; omega) | (simp [Later.le, Later.le_add, Later.lt, Later.lt_add]; done) | (simp [Later.le, Later.le_add, Later.lt, Later.lt_add]; omega)))) | ((with_reducible refine bel_later _ ?_ ?_); rotate_left; (focus (first | omega | (simp; done) | (simp; omega) | (simp [Later.le, Later.le_add, Later.lt, Later.lt_add]; done) | (simp [Later.le, Later.le_add, Later.lt, Later.lt_add]; omega)))))))
  | true =>
    cases hn : inB n 1 3 with
    | false =>
      rw [matB_2 hn]
      go_enter Try.func19, Try.ntmps19
      go_wp2_with (first | (go_at_call 67; (first | (with_reducible refine call_later2 (hp ▸ isPrime_c p _) ?_) | (with_reducible refine call_later (hp ▸ isPrime_c p _) ?_)); intro x) | (go_at_call 68; (first | (with_reducible refine call_later2 (hn ▸ isVars_c n _) ?_) | (with_reducible refine call_later (hn ▸ isVars_c n _) ?_)); intro x2))
      exact bodyPost_ret (v := .bool false) (by simp [results, Try.results19, go_sem]) rfl (.mk rfl (by repeat (first | (with_reducible assumption) | (with_reducible exact Below.refl _ _) | ((with_reducible refine Below.alloc ?_ ?_ _); rotate_left; (focus (first | omega | (simp; done) | (simp; omega) | (simp [Later.le, Later.le_add, Later.lt, Later.lt_add]; done) | (simp [Later.le, Later.le_add, Later.lt, Later.lt_add]; omega)))) | (with_reducible refine Below.drew ?_) | (with_reducible refine pw_below_drewN ?_ _) | ((with_reducible refine Below.setCell ?_ ?_ _); rotate_left; (focus (first | omega | (simp; done) | (simp; omega) | (simp [Later.le, Later.le_add, Later.lt, Later.lt_add]; done) | (simp [Later.le, Later.le_add, Later.lt, Later.lt_add]; omega)))) | ((with_reducible refine below_hop (by assumption) ?_ ?_); rotate_left; (focus (first | omega | (simp; done) | (simp; omega) | (simp [Later.le, Later.le_add, Later.lt, Later.lt_add]; done) | (simp [Later.le, Later.le_add, Later.lt, Later.lt_add]; omega)))) | ((with_reducible refine bel_later _ ?_ ?_); rotate_left; (focus (first | omega | (simp; done) | (simp; omega) | (simp [Later.le, Later.le_add, Later.lt, Later.lt_add]; done) | (simp [Later.le, Later.le_add, Later.lt, Later.lt_add]; omega)))))))
    | true =>
      have hpz := primeZ_of hp
      obtain ⟨hp2, hp13⟩ := hpz.two
      obtain ⟨hn1, hn3⟩ := inB_of hn
      go_enter Try.func19, Try.ntmps19
      have hb0 : Below w.heap.size w (w.alloc (.cells #[.int .u8 (m.r0.a.toNat : Int), .int .u8 (m.r0.b.toNat : Int), .int .u8 (m.r0.c.toNat : Int), .int .u8 (m.r1.a.toNat : Int), .int .u8 (m.r1.b.toNat : Int), .int .u8 (m.r1.c.toNat : Int), .int .u8 (m.r2.a.toNat : Int), .int .u8 (m.r2.b.toNat : Int), .int .u8 (m.r2.c.toNat : Int)] 25)) := (by repeat (first | (with_reducible assumption) | (with_reducible exact Below.refl _ _) | ((with_reducible refine Below.alloc ?_ ?_ _); rotate_left; (focus (first | omega | (simp; done) | (simp; omega) | (simp [Later.le, Later.le_add, Later.lt, Later.lt_add]; done) | (simp [Later.le, Later.le_add, Later.lt, Later.lt_add]; omega)))) | (with_reducible refine Below.drew ?_) | (with_reducible refine pw_below_drewN ?_ _) | ((with_reducible refine Below.setCell ?_ ?_ _); rotate_left; (focus (first | omega | (simp; done) | (simp; omega) | (simp [Later.le, Later.le_add, Later.lt, Later.lt_add]; done) | (simp [Later.le, Later.le_add, Later.lt, Later.lt_add]; omega)))) | ((with_reducible refine below_hop (by assumption) ?_ ?_); rotate_left; (focus (first | omega | (simp; done) | (simp; omega) | (simp [Later.le, Later.le_add, Later.lt, Later.lt_add]; done) | (simp [Later.le, Later.le_add, Later.lt, Later.lt_add]; omega)))) | ((with_reducible refine bel_later _ ?_ ?_); rotate_left; (focus (first | omega | (simp; done) | (simp; omega) | (simp [Later.le, Later.le_add, Later.lt, Later.lt_add]; done) | (simp [Later.le, Later.le_add, Later.lt, Later.lt_add]; omega))))))
      have c1 : ∀ i j, i < 3 → j < 3 → (w.alloc (.cells #[.int .u8 (m.r0.a.toNat : Int), .int .u8 (m.r0.b.toNat : Int), .int .u8 (m.r0.c.toNat : Int), .int .u8 (m.r1.a.toNat : Int), .int .u8 (m.r1.b.toNat : Int), .int .u8 (m.r1.c.toNat : Int), .int .u8 (m.r2.a.toNat : Int), .int .u8 (m.r2.b.toNat : Int), .int .u8 (m.r2.c.toNat : Int)] 25)).cell? ⟨w.heap.size, i * 3 + j, none⟩ = some (.int .u8 (m.num i j)) := fun i j hi hj => box_at w m _ i j hi hj
      go_wp2_with (first | (go_at_call 67; (first | (with_reducible refine call_later2 (hp ▸ isPrime_c p _) ?_) | (with_reducible refine call_later (hp ▸ isPrime_c p _) ?_)); intro x) | (go_at_call 68; (first | (with_reducible refine call_later2 (hn ▸ isVars_c n _) ?_) | (with_reducible refine call_later (hn ▸ isVars_c n _) ?_)); intro x2))
      generalize w.alloc (.cells #[.int .u8 (m.r0.a.toNat : Int), .int .u8 (m.r0.b.toNat : Int), .int .u8 (m.r0.c.toNat : Int), .int .u8 (m.r1.a.toNat : Int), .int .u8 (m.r1.b.toNat : Int), .int .u8 (m.r1.c.toNat : Int), .int .u8 (m.r2.a.toNat : Int), .int .u8 (m.r2.b.toNat : Int), .int .u8 (m.r2.c.toNat : Int)] 25) = W0 at *
      have C1 := Lib.hid c1
      have HB0 := Lib.hid hb0
      clear c1 hb0
      go_loopg [17] 3 (fun k v w' => ∃ (i : Nat) (y : Later W0), i + k = 3 ∧ v = .int .i64 i ∧ w' = y.W ∧ ∀ i', i' < i → ∀ j, j < 3 → cellB p n m i' j = true)
      case atStart => exact ⟨0, x2, by omega, rfl, rfl, fun i' h => by omega⟩
      case round =>
        obtain ⟨i, y, hik, rfl, rfl, hok⟩ := hrel
        have HIK := Lib.hid hik
        have HOK := Lib.hid hok
        clear hik hok
        by_cases hi : i < 3
        · have hi1 : (i : Int) < 3 := by omega
          have hin : ((i : Int)).toNat = i := by omega
          go_wp2
          go_loopg [20] 3 (fun k v w' => ∃ (j : Nat) (y2 : Later W0), j + k = 3 ∧ v = .int .i64 j ∧ w' = y2.W ∧ ∀ j', j' < j → cellB p n m i j' = true)
          case atStart => exact ⟨0, y, by omega, rfl, rfl, fun j' h => by omega⟩
          case round =>
            obtain ⟨j, y2, hjk, rfl, rfl, hok2⟩ := hrel
            have HJK := Lib.hid hjk
            have HOK2 := Lib.hid hok2
            clear hjk hok2
            by_cases hj : j < 3
            · have hj1 : (j : Int) < 3 := by omega
              have hjn : ((j : Int)).toNat = j := by omega
              have q := y2.keep (C1.out i j hi hj)
              have hxb := num_bd m i j
              have hbw := HB0.out
              have hbs := hbw.size
              by_cases h1 : p ≤ m.num i j
              · have HB := Lib.hid (matB_3 hi hj (cellB_false1 (n := n) h1))
                generalize m.num i j = x at *
                go_wp2
                rw [HB.out]
                exact bodyPost_ret (v := .bool false) (by simp [results, Try.results19, go_sem]) rfl (.mk rfl (by repeat (first | (with_reducible assumption) | (with_reducible exact Below.refl _ _) | ((with_reducible refine Below.alloc ?_ ?_ _); rotate_left; (focus (first | omega | (simp; done) | (simp; omega) | (simp [Later.le, Later.le_add, Later.lt, Later.lt_add]; done) | (simp [Later.le, Later.le_add, Later.lt, Later.lt_add]; omega)))) | (with_reducible refine Below.drew ?_) | (with_reducible refine pw_below_drewN ?_ _) | ((with_reducible refine Below.setCell ?_ ?_ _); rotate_left; (focus (first | omega | (simp; done) | (simp; omega) | (simp [Later.le, Later.le_add, Later.lt, Later.lt_add]; done) | (simp [Later.le, Later.le_add, Later.lt, Later.lt_add]; omega)))) | ((with_reducible refine below_hop (by assumption) ?_ ?_); rotate_left; (focus (first | omega | (simp; done) | (simp; omega) | (simp [Later.le, Later.le_add, Later.lt, Later.lt_add]; done) | (simp [Later.le, Later.le_add, Later.lt, Later.lt_add]; omega)))) | ((with_reducible refine bel_later _ ?_ ?_); rotate_left; (focus (first | omega | (simp; done) | (simp; omega) | (simp [Later.le, Later.le_add, Later.lt, Later.lt_add]; done) | (simp [Later.le, Later.le_add, Later.lt, Later.lt_add]; omega)))))))
              · by_cases h4 : m.num i j = 0
                · have HT := Lib.hid (cellB_true1 (n := n) h1 h4)
                  rw [h4] at q h1
                  by_cases h2 : (n : Int) ≤ i
                  · go_wp2
                    go_roundg (gk - 1)
                    case measure => have := HJK.out; omega
                    case rel =>
                      refine ⟨j + 1, y2, by have := HJK.out; omega, by go_num, rfl, fun j' hj' => ?_⟩
                      by_cases h : j' = j
                      · rw [h]; exact HT.out
                      · exact HOK2.out j' (by omega)
                  · by_cases h3 : (n : Int) ≤ j
                    · go_wp2
                      go_roundg (gk - 1)
                      case measure => have := HJK.out; omega
                      case rel =>
                        refine ⟨j + 1, y2, by have := HJK.out; omega, by go_num, rfl, fun j' hj' => ?_⟩
                        by_cases h : j' = j
                        · rw [h]; exact HT.out
                        · exact HOK2.out j' (by omega)
                    · go_wp2
                      go_roundg (gk - 1)
                      case measure => have := HJK.out; omega
                      case rel =>
                        refine ⟨j + 1, y2, by have := HJK.out; omega, by go_num, rfl, fun j' hj' => ?_⟩
                        by_cases h : j' = j
                        · rw [h]; exact HT.out
                        · exact HOK2.out j' (by omega)
                · by_cases h2 : (n : Int) ≤ i
                  · have HB := Lib.hid (matB_3 hi hj (cellB_false2 (p := p) (.inl h2) h4))
                    generalize m.num i j = x at *
                    go_wp2
                    rw [HB.out]
                    exact bodyPost_ret (v := .bool false) (by simp [results, Try.results19, go_sem]) rfl (.mk rfl (by repeat (first | (with_reducible assumption) | (with_reducible exact Below.refl _ _) | ((with_reducible refine Below.alloc ?_ ?_ _); rotate_left; (focus (first | omega | (simp; done) | (simp; omega) | (simp [Later.le, Later.le_add, Later.lt, Later.lt_add]; done) | (simp [Later.le, Later.le_add, Later.lt, Later.lt_add]; omega)))) | (with_reducible refine Below.drew ?_) | (with_reducible refine pw_below_drewN ?_ _) | ((with_reducible refine Below.setCell ?_ ?_ _); rotate_left; (focus (first | omega | (simp; done) | (simp; omega) | (simp [Later.le, Later.le_add, Later.lt, Later.lt_add]; done) | (simp [Later.le, Later.le_add, Later.lt, Later.lt_add]; omega)))) | ((with_reducible refine below_hop (by assumption) ?_ ?_); rotate_left; (focus (first | omega | (simp; done) | (simp; omega) | (simp [Later.le, Later.le_add, Later.lt, Later.lt_add]; done) | (simp [Later.le, Later.le_add, Later.lt, Later.lt_add]; omega)))) | ((with_reducible refine bel_later _ ?_ ?_); rotate_left; (focus (first | omega | (simp; done) | (simp; omega) | (simp [Later.le, Later.le_add, Later.lt, Later.lt_add]; done) | (simp [Later.le, Later.le_add, Later.lt, Later.lt_add]; omega)))))))
                  · by_cases h3 : (n : Int) ≤ j
                    · have HB := Lib.hid (matB_3 hi hj (cellB_false2 (p := p) (.inr h3) h4))
                      generalize m.num i j = x at *
                      go_wp2
                      rw [HB.out]
                      exact bodyPost_ret (v := .bool false) (by simp [results, Try.results19, go_sem]) rfl (.mk rfl (by repeat (first | (with_reducible assumption) | (with_reducible exact Below.refl _ _) | ((with_reducible refine Below.alloc ?_ ?_ _); rotate_left; (focus (first | omega | (simp; done) | (simp; omega) | (simp [Later.le, Later.le_add, Later.lt, Later.lt_add]; done) | (simp [Later.le, Later.le_add, Later.lt, Later.lt_add]; omega)))) | (with_reducible refine Below.drew ?_) | (with_reducible refine pw_below_drewN ?_ _) | ((with_reducible refine Below.setCell ?_ ?_ _); rotate_left; (focus (first | omega | (simp; done) | (simp; omega) | (simp [Later.le, Later.le_add, Later.lt, Later.lt_add]; done) | (simp [Later.le, Later.le_add, Later.lt, Later.lt_add]; omega)))) | ((with_reducible refine below_hop (by assumption) ?_ ?_); rotate_left; (focus (first | omega | (simp; done) | (simp; omega) | (simp [Later.le, Later.le_add, Later.lt, Later.lt_add]; done) | (simp [Later.le, Later.le_add, Later.lt, Later.lt_add]; omega)))) | ((with_reducible refine bel_later _ ?_ ?_); rotate_left; (focus (first | omega | (simp; done) | (simp; omega) | (simp [Later.le, Later.le_add, Later.lt, Later.lt_add]; done) | (simp [Later.le, Later.le_add, Later.lt, Later.lt_add]; omega)))))))
                    · have HT := Lib.hid (cellB_true2 h1 h2 h3)
                      generalize m.num i j = x at *
                      go_wp2
                      go_roundg (gk - 1)
                      case measure => have := HJK.out; omega
                      case rel =>
                        refine ⟨j + 1, y2, by have := HJK.out; omega, by go_num, rfl, fun j' hj' => ?_⟩
                        by_cases h : j' = j
                        · rw [h]; exact HT.out
                        · exact HOK2.out j' (by omega)

            · have hje : j = 3 := by have := HJK.out; omega
              subst hje
              go_wp2
              go_roundg (2 - i)
              case measure => have := HIK.out; omega
              case rel =>
                refine ⟨i + 1, y2, by have := HIK.out; omega, by go_num, rfl, fun i' hi' => ?_⟩
                by_cases h : i' = i
                · rw [h]; exact HOK2.out
                · exact HOK.out i' (by omega)
        · have hie : i = 3 := by have := HIK.out; omega
          subst hie
          have hcs := cellsB_of HOK.out
          have hle := cellsB_le HOK.out
          obtain ⟨nn, rfl⟩ := Int.eq_ofNat_of_zero_le (show 0 ≤ n by omega)
          have hr := matB_4 hp hn hcs
          have hdi := det_same (n := nn) (by omega) m
          have hdc := fun W => determinant_c p nn m W hp2 hp13 hn1 hn3 hle
          simp only [hdi] at hdc
          generalize detZ nn m.num % p = dd at *
          have HR := Lib.hid hr
          clear hr hcs hle hdi
          have q0 : y.W.cell? ⟨w.heap.size, 0, none⟩ = some (.int .u8 (m.r0.a.toNat : Int)) := y.keep (C1.out 0 0 (by omega) (by omega))
          have q1 : y.W.cell? ⟨w.heap.size, 1, none⟩ = some (.int .u8 (m.r0.b.toNat : Int)) := y.keep (C1.out 0 1 (by omega) (by omega))
          have q2 : y.W.cell? ⟨w.heap.size, 2, none⟩ = some (.int .u8 (m.r0.c.toNat : Int)) := y.keep (C1.out 0 2 (by omega) (by omega))
          have q3 : y.W.cell? ⟨w.heap.size, 3, none⟩ = some (.int .u8 (m.r1.a.toNat : Int)) := y.keep (C1.out 1 0 (by omega) (by omega))
          have q4 : y.W.cell? ⟨w.heap.size, 4, none⟩ = some (.int .u8 (m.r1.b.toNat : Int)) := y.keep (C1.out 1 1 (by omega) (by omega))
          have q5 : y.W.cell? ⟨w.heap.size, 5, none⟩ = some (.int .u8 (m.r1.c.toNat : Int)) := y.keep (C1.out 1 2 (by omega) (by omega))
          have q6 : y.W.cell? ⟨w.heap.size, 6, none⟩ = some (.int .u8 (m.r2.a.toNat : Int)) := y.keep (C1.out 2 0 (by omega) (by omega))
          have q7 : y.W.cell? ⟨w.heap.size, 7, none⟩ = some (.int .u8 (m.r2.b.toNat : Int)) := y.keep (C1.out 2 1 (by omega) (by omega))
          have q8 : y.W.cell? ⟨w.heap.size, 8, none⟩ = some (.int .u8 (m.r2.c.toNat : Int)) := y.keep (C1.out 2 2 (by omega) (by omega))
          have hbw := HB0.out
          have hbs := hbw.size
          have hzy : w.heap.size < y.W.heap.size := World.block_lt_of_cell? _ _ q0
          go_wp2_with ((go_at_call 69; (first | (with_reducible refine call_later2 (hdc _) ?_) | (with_reducible refine call_later (hdc _) ?_)); intro x9))
          refine bodyPost_ret (v := .bool (dd != 0)) (by simp [results, Try.results19, go_sem]) rfl (.mk ?_ (by repeat (first | (with_reducible assumption) | (with_reducible exact Below.refl _ _) | ((with_reducible refine Below.alloc ?_ ?_ _); rotate_left; (focus (first | omega | (simp; done) | (simp; omega) | (simp [Later.le, Later.le_add, Later.lt, Later.lt_add]; done) | (simp [Later.le, Later.le_add, Later.lt, Later.lt_add]; omega)))) | (with_reducible refine Below.drew ?_) | (with_reducible refine pw_below_drewN ?_ _) | ((with_reducible refine Below.setCell ?_ ?_ _); rotate_left; (focus (first | omega | (simp; done) | (simp; omega) | (simp [Later.le, Later.le_add, Later.lt, Later.lt_add]; done) | (simp [Later.le, Later.le_add, Later.lt, Later.lt_add]; omega)))) | ((with_reducible refine below_hop (by assumption) ?_ ?_); rotate_left; (focus (first | omega | (simp; done) | (simp; omega) | (simp [Later.le, Later.le_add, Later.lt, Later.lt_add]; done) | (simp [Later.le, Later.le_add, Later.lt, Later.lt_add]; omega)))) | ((with_reducible refine bel_later _ ?_ ?_); rotate_left; (focus (first | omega | (simp; done) | (simp; omega) | (simp [Later.le, Later.le_add, Later.lt, Later.lt_add]; done) | (simp [Later.le, Later.le_add, Later.lt, Later.lt_add]; omega)))))))
          rw [HR.out]
          simp [bne, BEq.beq]
end Go.Proofs.Ytafdakamibpjaaa

/- The walks of the value at a point; no condition. -/
import Derived.Test.YtgieofidogkbaaaInts
import Derived.Test.YtgieofidogkbaaaDeg
set_option linter.unusedVariables false
set_option linter.unusedSimpArgs false
namespace Go.Proofs.Ytgieofidogkbaaa
open Go.RowKit Go.Proofs.YtgieofidogkbaaaW.PrintWords
attribute [local go_sem] Later.cell Later.frozen Later.lt Later.lt_add Later.le Later.le_add Later.ne Later.ne' add_at

def E3.at (e : E3) (k : Nat) : UInt8 := if k = 0 then e.a else if k = 1 then e.b else e.c
theorem lt3 {i : Nat} (h : i < 3) : i = 0 ∨ i = 1 ∨ i = 2 := by omega
/-- n times the k-th power of a. -/
def powV (p a : Int) : Nat → Int → Int
  | 0, n => n
  | k + 1, n => powV p a k (n * a % p)
/-- A term's value with the first k letters put in. -/
def tv (p : Int) (ps : List Int) (e : E3) (n : Int) : Nat → Int
  | 0 => n
  | k + 1 => powV p (ps.getD k 0) (e.at k).toNat (tv p ps e n k)
def sumV (p : Int) (ps : List Int) (ts : List T4) : Nat → Int
  | 0 => 0
  | i + 1 => wrap64 (sumV p ps ts i + tv p ps (ts.getD i z4).e (ts.getD i z4).v ps.length)
theorem mul_bd {p a n : Int} (hp : 2 ≤ p) (hp' : p ≤ 13) (ha : 0 ≤ a) (ha' : a < p) (hn : 0 ≤ n) (hn' : n < p) : 0 ≤ n * a ∧ n * a ≤ 169 := by
  refine ⟨Int.mul_nonneg hn ha, ?_⟩
  have h1 := Int.mul_le_mul (a := n) (b := a) (c := 13) (d := 13) (by omega) (by omega) ha (by omega)
  omega
theorem mod_bd {p : Int} (n : Int) (hp : 2 ≤ p) : 0 ≤ n % p ∧ n % p < p := ⟨Int.emod_nonneg _ (by omega), Int.emod_lt_of_pos _ (by omega)⟩
theorem powV_bd {p a : Int} (hp : 2 ≤ p) (ha : 0 ≤ a) : ∀ (k : Nat) (n : Int), 0 ≤ n → n < p → 0 ≤ powV p a k n ∧ powV p a k n < p
  | 0, _, h1, h2 => ⟨h1, h2⟩
  | k + 1, n, h1, h2 => by
    have := mod_bd (n * a) hp
    exact powV_bd hp ha k _ this.1 this.2
theorem name_world {P : Program} {c : Code} {Q : Exit → Act → World → Prop} {a : Act} {W : World} (h : ∀ W', W' = W → Code.wp P c Q a W') : Code.wp P c Q a W := h W rfl
theorem i64_small {n : Int} (h1 : -9223372036854775808 ≤ n) (h2 : n ≤ 9223372036854775807) : IntKind.i64.wrap n = n := IntWalk.i64_in _ (by omega)

set_option maxRecDepth 100000 in
set_option maxHeartbeats 1000000 in
theorem valueAt_c (p d : Int) (A B : Option Addr) (c c2 : Nat) (ts : List T4) (ps : List Int) (w : World) (hC : kT.C w A ts.length ts) (hD : kI.C w B ps.length ps) (hn : ts.length ≤ 9223372036854775807)
    (hp : 2 ≤ p) (hp' : p ≤ 13) (hv : ∀ j, j < ts.length → 0 ≤ (ts.getD j z4).v ∧ (ts.getD j z4).v < p) (hq : ∀ j, j < ps.length → 0 ≤ ps.getD j 0 ∧ ps.getD j 0 < p) (hl : ps.length ≤ 3) :
    Calls Try.prog 156 #[.agg #[.int .i64 p, .int .i64 d, .slice A ts.length c], .slice B ps.length c2] w (Gives (.int .i64 ((sumV p ps ts ts.length).tmod p)) w) := by
  have HV := Lib.hid hv
  have HQ := Lib.hid hq
  clear hv hq
  go_enter Try.func156, Try.ntmps156
  go_wp2
  go_loopg [14, 5] ts.length (fun k v s w' => ∃ (i : Nat) (y : Later (w.alloc (.cells #[.int .i64 p, .int .i64 d, .slice A ts.length c] 41))), i + k = ts.length ∧ v = .int .i64 i ∧ s = .int .i64 (sumV p ps ts i) ∧ w' = y.W)
  case atStart => exact ⟨0, ⟨_, Below.refl _ _⟩, by omega, rfl, rfl, rfl⟩
  case round =>
    obtain ⟨i, y, hik, rfl, rfl, rfl⟩ := hrel
    have HIK := Lib.hid hik
    clear hik
    have g0 : y.W.cell? ⟨w.heap.size, 0, none⟩ = some (.int .i64 p) := y.keep (by simp)
    by_cases hlt : i < ts.length
    · obtain ⟨b, o, hA, q0, q1, q2, q3⟩ := kT_at hC i hlt z4
      subst hA
      have q0 := y.keep (cell_alloc q0 _)
      have q1 := y.keep (cell_alloc q1 _)
      have q2 := y.keep (cell_alloc q2 _)
      have q3 := y.keep (cell_alloc q3 _)
      have hi0 : (0 : Int) ≤ i := by omega
      have hi1 : (i : Int) < ts.length := by omega
      have hin : ((i : Int)).toNat = i := by omega
      have hvi := HV.out i hlt
      generalize ht : ts.getD i z4 = t at *
      have HT := Lib.hid ht
      clear ht
      go_wp2
      refine name_world ?_
      intro W2 hW2
      have hb2 : Below w.heap.size w W2 := by rw [hW2]; exact (by repeat (first | (with_reducible exact Below.refl _ _) | ((with_reducible refine Below.alloc ?_ ?_ _); rotate_left; (focus (first | omega | (simp; done) | (simp; omega) | (simp [Later.le, Later.le_add, Later.lt, Later.lt_add]; done) | (simp [Later.le, Later.le_add, Later.lt, Later.lt_add]; omega)))) | ((with_reducible refine bel_later _ ?_ ?_); rotate_left; (focus (first | omega | (simp; done) | (simp; omega) | (simp [Later.le, Later.le_add, Later.lt, Later.lt_add]; done) | (simp [Later.le, Later.le_add, Later.lt, Later.lt_add]; omega)))) | (with_reducible refine Below.drew ?_) | (with_reducible refine pw_below_drewN ?_ _) | ((with_reducible refine Below.setCell ?_ ?_ _); rotate_left; (focus (first | omega | (simp; done) | (simp; omega) | (simp [Later.le, Later.le_add, Later.lt, Later.lt_add]; done) | (simp [Later.le, Later.le_add, Later.lt, Later.lt_add]; omega))))))
      have c0 : ∀ k, k < 3 → W2.cell? ⟨y.W.heap.size, k, none⟩ = some (.int .u8 ((t.e.at k).toNat : Int)) := by
        intro k hk
        rw [hW2]
        rcases lt3 hk with rfl | rfl | rfl <;> simp [E3.at]
      have hy2 : Below y.W.heap.size y.W W2 := by rw [hW2]; exact (by repeat (first | (with_reducible exact Below.refl _ _) | ((with_reducible refine Below.alloc ?_ ?_ _); rotate_left; (focus (first | omega | (simp; done) | (simp; omega) | (simp [Later.le, Later.le_add, Later.lt, Later.lt_add]; done) | (simp [Later.le, Later.le_add, Later.lt, Later.lt_add]; omega)))) | ((with_reducible refine bel_later _ ?_ ?_); rotate_left; (focus (first | omega | (simp; done) | (simp; omega) | (simp [Later.le, Later.le_add, Later.lt, Later.lt_add]; done) | (simp [Later.le, Later.le_add, Later.lt, Later.lt_add]; omega)))) | (with_reducible refine Below.drew ?_) | (with_reducible refine pw_below_drewN ?_ _) | ((with_reducible refine Below.setCell ?_ ?_ _); rotate_left; (focus (first | omega | (simp; done) | (simp; omega) | (simp [Later.le, Later.le_add, Later.lt, Later.lt_add]; done) | (simp [Later.le, Later.le_add, Later.lt, Later.lt_add]; omega))))))
      have g0' : W2.cell? ⟨w.heap.size, 0, none⟩ = some (.int .i64 p) := (hy2.cell (World.block_lt_of_cell? _ _ g0)).trans g0
      have hlt2 : y.W.heap.size < W2.heap.size := by rw [hW2]; simp
      have hD2 := Kd.C_below hD hb2
      clear hW2
      go_loopg [22, 8] ps.length (fun g v n w' => ∃ k : Nat, k + g = ps.length ∧ v = .int .i64 k ∧ n = .int .i64 (tv p ps t.e t.v k) ∧ 0 ≤ tv p ps t.e t.v k ∧ tv p ps t.e t.v k < p ∧ w' = W2)
      case atStart => exact ⟨0, by omega, rfl, rfl, hvi.1, hvi.2, rfl⟩
      case round =>
        obtain ⟨k, hkk, rfl, rfl, hn0, hn1, rfl⟩ := hrel
        have HKK := Lib.hid hkk
        clear hkk
        by_cases hk : k < ps.length
        · obtain ⟨b2, o2, hB, p0⟩ := kI_at hD2 k hk
          subst hB
          have c1 := c0 k (by omega)
          have hk0 : (0 : Int) ≤ k := by omega
          have hk1 : (k : Int) < ps.length := by omega
          have hk3 : (k : Int) < 3 := by omega
          have hkn : ((k : Int)).toNat = k := by omega
          have hq := HQ.out k hk
          have htv : tv p ps t.e t.v (k + 1) = powV p (ps.getD k 0) (t.e.at k).toNat (tv p ps t.e t.v k) := rfl
          have HTV := Lib.hid htv
          clear htv
          generalize ps.getD k 0 = a at *
          generalize ht0 : tv p ps t.e t.v k = n0 at *
          have hm := (t.e.at k).toNat_lt
          generalize (t.e.at k).toNat = m at *
          go_wp2
          go_loopg [31, 8] m (fun g v n w' => ∃ (j : Nat) (cur : Int), j + g = m ∧ v = .int .u8 j ∧ n = .int .i64 cur ∧ 0 ≤ cur ∧ cur < p ∧ powV p a g cur = powV p a m n0 ∧ w' = wr)
          case atStart => exact ⟨0, n0, by omega, rfl, rfl, hn0, hn1, rfl, rfl⟩
          case round =>
            obtain ⟨j, cur, hj, rfl, rfl, hc0, hc1, hpw, rfl⟩ := hrel
            by_cases hjm : j < m
            · obtain ⟨gk', rfl⟩ : ∃ x, gk = x + 1 := ⟨gk - 1, by omega⟩
              have hmul := mul_bd hp hp' hq.1 hq.2 hc0 hc1
              have hw := i64_small (n := cur * a) (by omega) (by omega)
              have htm := mod_bd (cur * a) hp
              have HJ := Lib.hid hj
              have HPW := Lib.hid hpw
              clear hj hpw
              have hpz : p ≠ 0 := by omega
              have hjm' : (j : Int) < m := by omega
              go_wp2
              go_roundg gk'
              case measure => omega
              case rel => exact ⟨j + 1, cur * a % p, by have := HJ.out; omega, by go_num, by first | rfl | simp [hw], htm.1, htm.2, HPW.out, rfl⟩
            · have hjm' : ¬ (j : Int) < m := by omega
              have hg : gk = 0 := by omega
              subst hg
              have hpw' : cur = powV p a m n0 := hpw
              have HPW := Lib.hid hpw'
              clear hpw hpw'
              go_wp2
              go_roundg (ps.length - k - 1)
              case measure => have := HKK.out; omega
              case rel => exact ⟨k + 1, by have := HKK.out; omega, by go_num, by rw [HTV.out, ← HPW.out], by rw [HTV.out, ← HPW.out]; exact hc0, by rw [HTV.out, ← HPW.out]; exact hc1, rfl⟩
        · have hke : k = ps.length := by have := HKK.out; omega
          subst hke
          go_wp2
          go_roundg (ts.length - i - 1)
          case measure => have := HIK.out; omega
          case rel => exact ⟨i + 1, ⟨wr, y.ok.trans (hy2.mono y.ok.size)⟩, by have := HIK.out; omega, by go_num, by rw [sumV, HT.out], rfl⟩
    · have hie : i = ts.length := by have := HIK.out; omega
      subst hie
      have hpz : p ≠ 0 := by omega
      go_wp2
      go_ret
      exact .mk rfl (by repeat (first | (with_reducible exact Below.refl _ _) | ((with_reducible refine Below.alloc ?_ ?_ _); rotate_left; (focus (first | omega | (simp; done) | (simp; omega) | (simp [Later.le, Later.le_add, Later.lt, Later.lt_add]; done) | (simp [Later.le, Later.le_add, Later.lt, Later.lt_add]; omega)))) | ((with_reducible refine bel_later _ ?_ ?_); rotate_left; (focus (first | omega | (simp; done) | (simp; omega) | (simp [Later.le, Later.le_add, Later.lt, Later.lt_add]; done) | (simp [Later.le, Later.le_add, Later.lt, Later.lt_add]; omega)))) | (with_reducible refine Below.drew ?_) | (with_reducible refine pw_below_drewN ?_ _) | ((with_reducible refine Below.setCell ?_ ?_ _); rotate_left; (focus (first | omega | (simp; done) | (simp; omega) | (simp [Later.le, Later.le_add, Later.lt, Later.lt_add]; done) | (simp [Later.le, Later.le_add, Later.lt, Later.lt_add]; omega))))))

set_option maxRecDepth 100000 in
set_option maxHeartbeats 1000000 in
theorem l01Value_c (p d : Int) (A B : Option Addr) (c c2 : Nat) (ts : List T4) (ps : List Int) (w : World) (hC : kT.C w A ts.length ts) (hD : kI.C w B ps.length ps) (hn : ts.length ≤ 9223372036854775807)
    (hp : 2 ≤ p) (hp' : p ≤ 13) (hv : ∀ j, j < ts.length → 0 ≤ (ts.getD j z4).v ∧ (ts.getD j z4).v < p) (hq : ∀ j, j < ps.length → 0 ≤ ps.getD j 0 ∧ ps.getD j 0 < p) (hl : ps.length ≤ 3) :
    Calls Try.prog 154 #[.agg #[.int .i64 p, .int .i64 d, .slice A ts.length c], .slice B ps.length c2] w (Gives (.int .i64 ((sumV p ps ts ts.length).tmod p)) w) := by
  have HV := Lib.hid hv
  have HQ := Lib.hid hq
  clear hv hq
  go_enter Try.func154, Try.ntmps154
  go_wp2
  go_loopg [6, 5] ts.length (fun k v s w' => ∃ (i : Nat) (y : Later (w.alloc (.cells #[.int .i64 p, .int .i64 d, .slice A ts.length c] 41))), i + k = ts.length ∧ v = .int .i64 i ∧ s = .int .i64 (sumV p ps ts i) ∧ w' = y.W)
  case atStart => exact ⟨0, ⟨_, Below.refl _ _⟩, by omega, rfl, rfl, rfl⟩
  case round =>
    obtain ⟨i, y, hik, rfl, rfl, rfl⟩ := hrel
    have HIK := Lib.hid hik
    clear hik
    have g0 : y.W.cell? ⟨w.heap.size, 0, none⟩ = some (.int .i64 p) := y.keep (by simp)
    have g2 : y.W.cell? ⟨w.heap.size, 2, none⟩ = some (.slice A ts.length c) := y.keep (by simp)
    by_cases hlt : i < ts.length
    · obtain ⟨b, o, hA, q0, q1, q2, q3⟩ := kT_at hC i hlt z4
      subst hA
      have q0 := y.keep (cell_alloc q0 _)
      have q1 := y.keep (cell_alloc q1 _)
      have q2 := y.keep (cell_alloc q2 _)
      have q3 := y.keep (cell_alloc q3 _)
      have hi0 : (0 : Int) ≤ i := by omega
      have hi1 : (i : Int) < ts.length := by omega
      have hin : ((i : Int)).toNat = i := by omega
      have hvi := HV.out i hlt
      generalize ht : ts.getD i z4 = t at *
      have HT := Lib.hid ht
      clear ht
      have hD1 := Kd.C_alloc hD (.cells #[.int .i64 p, .int .i64 d, .slice (some ⟨b, o, none⟩) ts.length c] 41)
      have c0 : ∀ k, k < 3 → y.W.cell? ⟨b, o + i * 4 + k, none⟩ = some (.int .u8 ((t.e.at k).toNat : Int)) := by
        intro k hk
        rcases lt3 hk with rfl | rfl | rfl
        · exact q0
        · exact q1
        · exact q2
      have C0 := Lib.hid c0
      clear c0
      go_wp2
      go_loopg [8, 7] ps.length (fun g v n w' => ∃ (k : Nat) (y2 : Later y.W), k + g = ps.length ∧ v = .int .i64 k ∧ n = .int .i64 (tv p ps t.e t.v k) ∧ 0 ≤ tv p ps t.e t.v k ∧ tv p ps t.e t.v k < p ∧ w' = y2.W)
      case atStart => exact ⟨0, ⟨y.W, Below.refl _ _⟩, by omega, rfl, rfl, hvi.1, hvi.2, rfl⟩
      case round =>
        obtain ⟨k, y2, hkk, rfl, rfl, hn0, hn1, rfl⟩ := hrel
        have HKK := Lib.hid hkk
        clear hkk
        by_cases hk : k < ps.length
        · obtain ⟨b2, o2, hB, p0⟩ := kI_at hD1 k hk
          subst hB
          have p1 := y.keep p0
          have hb1 : b2 < y.W.heap.size := World.block_lt_of_cell? _ _ p1
          have hb0 : w.heap.size < y.W.heap.size := World.block_lt_of_cell? _ _ g0
          have p0 := y2.keep p1
          have c1 := y2.keep (C0.out k (by omega))
          have gy0 := g0
          have g0 := y2.keep g0
          have g2 := y2.keep g2
          have hk0 : (0 : Int) ≤ k := by omega
          have hk1 : (k : Int) < ps.length := by omega
          have hk3 : (k : Int) < 3 := by omega
          have hkn : ((k : Int)).toNat = k := by omega
          have hq := HQ.out k hk
          have htv : tv p ps t.e t.v (k + 1) = powV p (ps.getD k 0) (t.e.at k).toNat (tv p ps t.e t.v k) := rfl
          have HTV := Lib.hid htv
          clear htv
          generalize ps.getD k 0 = a at *
          generalize ht0 : tv p ps t.e t.v k = n0 at *
          have hm := (t.e.at k).toNat_lt
          generalize (t.e.at k).toNat = m at *
          go_wp2
          go_loopg [9, 7] m (fun g v n w' => ∃ (y3 : Later y.W) (cur : Int), g ≤ m ∧ v = .int .u8 g ∧ n = .int .i64 cur ∧ 0 ≤ cur ∧ cur < p ∧ powV p a g cur = powV p a m n0 ∧ w' = y3.W)
          case atStart => exact ⟨y2, n0, by omega, rfl, rfl, hn0, hn1, rfl, rfl⟩
          case round =>
            obtain ⟨y3, cur, hj, rfl, rfl, hc0, hc1, hpw, rfl⟩ := hrel
            by_cases hjm : 0 < gk
            · obtain ⟨gk', rfl⟩ : ∃ x, gk = x + 1 := ⟨gk - 1, by omega⟩
              have hmul := mul_bd hp hp' hq.1 hq.2 hc0 hc1
              have hw := i64_small (n := cur * a) (by omega) (by omega)
              have htm := mod_bd (cur * a) hp
              have hte : (cur * a).tmod p = cur * a % p := Int.tmod_eq_emod_of_nonneg hmul.1
              have HPW := Lib.hid hpw
              have p0 := y3.keep p1
              have g0 := y3.keep gy0
              clear hpw
              have hpz : p ≠ 0 := by omega
              have hjm' : (0 : Int) < ((gk' + 1 : Nat) : Int) := by omega
              go_wp2
              (first | refine wp_region_later2 (by kernel_rfl) (by kernel_rfl) ?_ | refine wp_region_later (by kernel_rfl) (by kernel_rfl) ?_); (repeat (go_big_quiet_step (fail))); refine wpQuiet_nil ?_; intro x
              go_wp2
              go_roundg gk'
              case measure => omega
              case rel => exact ⟨x, cur * a % p, by omega, by go_num, by first | rfl | simp [hw, hte], htm.1, htm.2, HPW.out, rfl⟩
            · have hg : gk = 0 := by omega
              subst hg
              have hpw' : cur = powV p a m n0 := hpw
              have HPW := Lib.hid hpw'
              clear hpw hpw'
              go_wp2
              go_roundg (ps.length - k - 1)
              case measure => have := HKK.out; omega
              case rel => exact ⟨k + 1, y3, by have := HKK.out; omega, by go_num, by rw [HTV.out, ← HPW.out], by rw [HTV.out, ← HPW.out]; exact hc0, by rw [HTV.out, ← HPW.out]; exact hc1, rfl⟩
        · have hke : k = ps.length := by have := HKK.out; omega
          subst hke
          go_wp2
          go_roundg (ts.length - i - 1)
          case measure => have := HIK.out; omega
          case rel => exact ⟨i + 1, ⟨y2.W, y.ok.trans (y2.ok.mono y.ok.size)⟩, by have := HIK.out; omega, by go_num, by rw [sumV, HT.out], rfl⟩
    · have hie : i = ts.length := by have := HIK.out; omega
      subst hie
      have hpz : p ≠ 0 := by omega
      go_wp2
      go_ret
      exact .mk rfl (by repeat (first | (with_reducible exact Below.refl _ _) | ((with_reducible refine Below.alloc ?_ ?_ _); rotate_left; (focus (first | omega | (simp; done) | (simp; omega) | (simp [Later.le, Later.le_add, Later.lt, Later.lt_add]; done) | (simp [Later.le, Later.le_add, Later.lt, Later.lt_add]; omega)))) | ((with_reducible refine bel_later _ ?_ ?_); rotate_left; (focus (first | omega | (simp; done) | (simp; omega) | (simp [Later.le, Later.le_add, Later.lt, Later.lt_add]; done) | (simp [Later.le, Later.le_add, Later.lt, Later.lt_add]; omega)))) | (with_reducible refine Below.drew ?_) | (with_reducible refine pw_below_drewN ?_ _) | ((with_reducible refine Below.setCell ?_ ?_ _); rotate_left; (focus (first | omega | (simp; done) | (simp; omega) | (simp [Later.le, Later.le_add, Later.lt, Later.lt_add]; done) | (simp [Later.le, Later.le_add, Later.lt, Later.lt_add]; omega))))))
end Go.Proofs.Ytgieofidogkbaaa

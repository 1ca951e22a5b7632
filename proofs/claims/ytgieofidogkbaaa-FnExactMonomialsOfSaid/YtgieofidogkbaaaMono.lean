/- The walk of the program's list of monomials; no condition. -/
import Derived.Test.YtgieofidogkbaaaLawKit
set_option linter.unusedVariables false
set_option linter.unusedSimpArgs false
namespace Go.Proofs.Ytgieofidogkbaaa
open Go.RowKit Go.Proofs.YtgieofidogkbaaaW.PrintWords
attribute [local go_sem] Later.cell Later.frozen Later.lt Later.lt_add Later.le Later.le_add Later.ne Later.ne' add_at

theorem infoE : (Try.prog.info? 121).map (fun i => (i.zero, i.size, i.bytes)) = some (some (.agg #[.int .u8 0, .int .u8 0, .int .u8 0]), 3, 3) := by kernel_rfl
def okM (d b c : Int) : Bool := !((decide (d < 2) && decide (0 < b)) || (decide (d < 3) && decide (0 < c)))
def monE (a b c : Int) : E3 := ⟨uB a, uB b, uB c⟩
/-- The monomials of degree n with a first exponent a whose second one is less than g. -/
def restK (d n a : Int) : Nat → List E3
  | 0 => []
  | g + 1 => (if okM d g (n - a - g) then [monE a g (n - a - g)] else []) ++ restK d n a g
/-- The monomials of degree n whose first exponent is less than h. -/
def restM (d : Int) (n : Nat) : Nat → List E3
  | 0 => []
  | h + 1 => restK d n h (n - h + 1) ++ restM d n h
theorem restK_len (d n a : Int) : ∀ g, (restK d n a g).length ≤ g
  | 0 => by simp [restK]
  | g + 1 => by
    have := restK_len d n a g
    rw [restK]
    split <;> simp <;> omega
theorem restM_len (d : Int) (n : Nat) : ∀ h, (restM d n h).length ≤ (n + 1) * h
  | 0 => by simp [restM]
  | h + 1 => by
    have h1 := restM_len d n h
    have h2 := restK_len d n h (n - h + 1)
    rw [restM, List.length_append, Nat.mul_succ]
    omega
theorem mono_len {d : Int} {n : Nat} (hn : n ≤ 12) {xs ys : List E3} (h : xs ++ ys = restM d n (n + 1)) : xs.length ≤ 200 := by
  have h1 := restM_len d n (n + 1)
  have h2 : xs.length + ys.length = (restM d n (n + 1)).length := by rw [← h, List.length_append]
  have h3 : (n + 1) * (n + 1) ≤ 13 * 13 := Nat.mul_le_mul (by omega) (by omega)
  omega
theorem kE_M (w : World) (base : Nat) (a b c : Int) (ha : 0 ≤ a) (ha' : a ≤ 12) (hb : 0 ≤ b) (hb' : b ≤ 12) (hc : 0 ≤ c) (hc' : c ≤ 12) : kE.M w base (fun _ => False) (monE a b c) [.int .u8 a, .int .u8 b, .int .u8 c] := by
  show _ = E3.cs _
  simp only [E3.cs, monE, uB_nat]
  rw [Int.emod_eq_of_lt ha (by omega), Int.emod_eq_of_lt hb (by omega), Int.emod_eq_of_lt hc (by omega)]


set_option maxRecDepth 100000 in
set_option maxHeartbeats 1000000 in
theorem monomials_c (d : Int) (N : Nat) (hd1 : 1 ≤ d) (hd3 : d ≤ 3) (hN : N ≤ 12) (w : World) :
    Calls Try.prog 128 #[.int .i64 d, .int .i64 N] w (Makes kE 121 (restM d N (N + 1)) w) := by
  go_enter Try.func128, Try.ntmps128
  go_wp2
  have hR0 := R_zero kE (heap_alloc_last w (.cells #[] 121)) (Nat.le_refl _)
  go_loopg [6, 5] (N + 1) (fun h v s w' => ∃ (B : Option Addr) (cb : Nat) (xs : List E3), h ≤ N + 1 ∧ v = .int .i64 ((h : Int) - 1) ∧ s = .slice B xs.length cb ∧ xs ++ restM d N h = restM d N (N + 1) ∧ kE.R 121 w' w.heap.size (fun _ => True) (.slice B xs.length cb) xs ∧ Below w.heap.size w w')
  case atStart => exact ⟨_, 0, [], Nat.le_refl _, by simp, rfl, by simp, hR0, (by repeat (first | (with_reducible assumption) | (with_reducible exact Below.refl _ _) | ((with_reducible refine Below.alloc ?_ ?_ _); rotate_left; (focus (first | omega | (simp; done) | (simp; omega) | (simp [Later.le, Later.le_add, Later.lt, Later.lt_add]; done) | (simp [Later.le, Later.le_add, Later.lt, Later.lt_add]; omega)))) | (with_reducible refine Below.drew ?_) | (with_reducible refine pw_below_drewN ?_ _) | ((with_reducible refine Below.setCell ?_ ?_ _); rotate_left; (focus (first | omega | (simp; done) | (simp; omega) | (simp [Later.le, Later.le_add, Later.lt, Later.lt_add]; done) | (simp [Later.le, Later.le_add, Later.lt, Later.lt_add]; omega)))) | ((with_reducible refine below_hop (by assumption) ?_ ?_); rotate_left; (focus (first | omega | (simp; done) | (simp; omega) | (simp [Later.le, Later.le_add, Later.lt, Later.lt_add]; done) | (simp [Later.le, Later.le_add, Later.lt, Later.lt_add]; omega)))) | ((with_reducible refine bel_later _ ?_ ?_); rotate_left; (focus (first | omega | (simp; done) | (simp; omega) | (simp [Later.le, Later.le_add, Later.lt, Later.lt_add]; done) | (simp [Later.le, Later.le_add, Later.lt, Later.lt_add]; omega))))))⟩
  case round =>
    obtain ⟨B, cb, xs, hh, rfl, rfl, hxs, hR, hb⟩ := hrel
    cases gk with
    | zero =>
      have hxs' : xs = restM d N (N + 1) := by simpa [restM] using hxs
      have HX := Lib.hid hxs'
      clear hxs hxs'
      go_wp2
      go_ret
      exact ⟨_, rfl, HX.out ▸ hR, hb⟩
    | succ h =>
      have hge : (0 : Int) ≤ ((h + 1 : Nat) : Int) - 1 := by omega
      have e1 : ((h + 1 : Nat) : Int) - 1 = h := by omega
      rw [e1] at *
      have HX := Lib.hid hxs
      have HR0 := Lib.hid hR
      have HB0 := Lib.hid hb
      clear hxs hR hb e1
      have hge : (0 : Int) ≤ (h : Int) := by omega
      go_wp2
      generalize ha : (h : Int) = a at *
      go_loopg [7, 5] (N - h + 1) (fun g v s w' => ∃ (B : Option Addr) (cb : Nat) (xs : List E3), g ≤ N - h + 1 ∧ v = .int .i64 ((g : Int) - 1) ∧ s = .slice B xs.length cb ∧ xs ++ (restK d N a g ++ restM d N h) = restM d N (N + 1) ∧ kE.R 121 w' w.heap.size (fun _ => True) (.slice B xs.length cb) xs ∧ Below w.heap.size w w')
      case atStart => exact ⟨B, cb, xs, Nat.le_refl _, by go_num, rfl, by rw [← ha]; exact HX.out, HR0.out, HB0.out⟩
      case round =>
        obtain ⟨B, cb, xs, hg, rfl, rfl, hxs, hR, hb⟩ := hrel
        cases gk with
        | zero =>
          have hxs' : xs ++ restM d N h = restM d N (N + 1) := by simpa [restK] using hxs
          have HX := Lib.hid hxs'
          clear hxs hxs'
          go_wp2
          go_roundg h
          case measure => omega
          case rel => exact ⟨B, cb, xs, by omega, by rw [← ha], rfl, HX.out, hR, hb⟩
        | succ g' =>
          have e1 : ((g' + 1 : Nat) : Int) - 1 = g' := by omega
          rw [e1] at *
          clear e1
          have HX := Lib.hid hxs
          have HR := Lib.hid hR
          have HB := Lib.hid hb
          have hpl := mono_len hN hxs
          clear hxs hR hb
          have hsk : okM d g' (N - a - (g' : Nat)) = false → xs ++ (restK d N a g' ++ restM d N h) = restM d N (N + 1) := fun e => by
            have := HX.out
            rw [restK, e] at this
            simpa using this
          have hap : okM d g' (N - a - (g' : Nat)) = true → (xs ++ [monE a g' (N - a - (g' : Nat))]) ++ (restK d N a g' ++ restM d N h) = restM d N (N + 1) := fun e => by
            have := HX.out
            rw [restK, e] at this
            simpa using this
          generalize hbn : ((g' : Nat) : Int) = b at *
          obtain ⟨c, hcn⟩ : ∃ c : Int, (N : Int) - a - b = c := ⟨_, rfl⟩
          rw [hcn] at hsk hap
          have hge2 : 0 ≤ b := by omega
          have hcc : 0 ≤ c := by omega
          have hb12 : b ≤ 12 := by omega
          have hc12 : c ≤ 12 := by omega
          have HSK := Lib.hid hsk
          have HAP := Lib.hid hap
          clear hsk hap
          by_cases h2 : d < 2 <;> by_cases h3 : d < 3 <;> by_cases hb0 : 0 < b <;> by_cases hc0 : 0 < c
          all_goals first | (exfalso; omega) | skip
          all_goals ((first | have t2 := decide_eq_true h2 | have t2 := decide_eq_false h2); (first | have t3 := decide_eq_true h3 | have t3 := decide_eq_false h3); (first | have tb := decide_eq_true hb0 | have tb := decide_eq_false hb0); (first | have tc := decide_eq_true hc0 | have tc := decide_eq_false hc0))
          all_goals go_wp2_with (((with_reducible refine gate_ (.call { callee := .builtin .append, args := #[.tmp 41, .tmp 49], argTypes := #[22, 22] }) rfl ?_); refine Kd.R_append kE (w0 := w) w.heap.size rfl (.tmp 41) (.tmp 49) 22 121 (.agg #[.int .u8 0, .int .u8 0, .int .u8 0]) 3 rfl Try.underlying22 infoE rfl (by decide) (by decide) (.slice B xs.length cb) xs (monE a b c) [.int .u8 a, .int .u8 b, .int .u8 c] (fun _ => True) (fun _ => False) rfl rfl (kE_M _ _ _ _ _ (by omega) (by omega) (by omega) (by omega) (by omega) (by omega)) (fun _ hk => hk.elim) (fun _ _ => trivial) HR.out HB.out HB.out.size (by omega) ?_; intro v1 w1 hR6 hB6 hg6 hat6; obtain ⟨B6, c6, rfl, hl6, hC6⟩ := Kd.R_reads hR6))
          all_goals go_roundg g'
          all_goals first | omega | (refine ⟨B, cb, xs, by omega, by (rw [← hbn] <;> go_num), rfl, HSK.out (by simp [okM, *]), HR.out, HB.out⟩) | (refine ⟨B6, c6, _, by omega, by (rw [← hbn] <;> go_num), by simp, HAP.out (by simp [okM, *]), hR6, hB6⟩)
end Go.Proofs.Ytgieofidogkbaaa

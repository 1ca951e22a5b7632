/- The walk of the reference's list of monomials; no condition. -/
import Derived.Test.YtgieofidogkbaaaMono
set_option linter.unusedVariables false
set_option linter.unusedSimpArgs false
namespace Go.Proofs.Ytgieofidogkbaaa
open Go.RowKit Go.Proofs.YtgieofidogkbaaaW.PrintWords
attribute [local go_sem] Later.cell Later.frozen Later.lt Later.lt_add Later.le Later.le_add Later.ne Later.ne' add_at

theorem uB_in {k : Int} (h0 : 0 ≤ k) (h1 : k ≤ 12) : ((uB k).toNat : Int) = k := by
  rw [uB_nat]
  exact Int.emod_eq_of_lt h0 (by omega)
theorem uB_zero {k : Int} (h0 : 0 ≤ k) (h1 : k ≤ 12) : (uB k == 0) = decide (k = 0) := by
  have h := uB_in h0 h1
  rw [Bool.eq_iff_iff]
  simp [← UInt8.toNat_inj]
  omega
theorem exps_okM {d : Int} (hd1 : 1 ≤ d) (hd3 : d ≤ 3) (a b c : Int) (ha : 0 ≤ a) (hb : 0 ≤ b) (hc : 0 ≤ c) (hs : a + b + c ≤ 12) : okM d b c = expsB d (monE a b c) := by
  have h1 : degE (monE a b c) ≤ 12 := by
    unfold degE monE
    simp only [uB_in ha (show a ≤ 12 by omega), uB_in hb (show b ≤ 12 by omega), uB_in hc (show c ≤ 12 by omega)]
    omega
  rw [expsB, zerosB, decide_eq_true h1, Bool.and_true]
  simp only [monE, uB_zero hb (show b ≤ 12 by omega), uB_zero hc (show c ≤ 12 by omega), okM]
  rw [Bool.eq_iff_iff]
  simp
  omega
theorem l01Exps_b (d a b c : Int) (hd1 : 1 ≤ d) (hd3 : d ≤ 3) (ha : 0 ≤ a) (hb : 0 ≤ b) (hc : 0 ≤ c) (hs : a + b + c ≤ 12) (w : World) {v : Bool} (h : expsB d (monE a b c) = v) :
    Calls Try.prog 218 #[.int .i64 d, .agg #[.int .u8 a, .int .u8 b, .int .u8 c]] w (Gives (.bool v) w) := by
  have := l01Exps_c d (monE a b c) hd1 hd3 w
  rw [h] at this
  simp only [monE, uB_in ha (show a ≤ 12 by omega), uB_in hb (show b ≤ 12 by omega), uB_in hc (show c ≤ 12 by omega)] at this
  exact this

set_option maxRecDepth 100000 in
set_option maxHeartbeats 1000000 in
theorem l01Monomials_c (d : Int) (N : Nat) (hd1 : 1 ≤ d) (hd3 : d ≤ 3) (hN : N ≤ 12) (w : World) :
    Calls Try.prog 125 #[.int .i64 d, .int .i64 N] w (Makes kE 121 (restM d N (N + 1)) w) := by
  go_enter Try.func125, Try.ntmps125
  go_wp2
  have hR0 := R_zero kE (heap_alloc_last w (.cells #[] 121)) (Nat.le_refl _)
  go_loopg [6, 5] (N + 1) (fun h v s w' => ∃ (B : Option Addr) (cb : Nat) (xs : List E3), h ≤ N + 1 ∧ v = .int .i64 ((h : Int) - 1) ∧ s = .slice B xs.length cb ∧ xs ++ restM d N h = restM d N (N + 1) ∧ kE.R 121 w' w.heap.size (fun _ => True) (.slice B xs.length cb) xs ∧ Below w.heap.size w w')
  case atStart => exact ⟨_, 0, [], Nat.le_refl _, by simp, rfl, by simp, hR0, (by repeat (first | (with_reducible assumption) | (with_reducible exact Below.refl _ _) | ((with_reducible refine Below.alloc ?_ ?_ _); rotate_left; (focus (first | omega | (simp; done) | (simp; omega) | (simp [Later.le, Later.le_add, Later.lt, Later.lt_add]; done) | (simp [Later.le, Later.le_add, Later.lt, Later.lt_add]; omega)))) | (with_reducible refine Below.drew ?_) | (with_reducible refine pw_below_drewN ?_ _) | ((with_reducible refine Below.setCell ?_ ?_ _); rotate_left; (focus (first | omega | (simp; done) | (simp; omega) | (simp [Later.le, Later.le_add, Later.lt, Later.lt_add]; done) | (simp [Later.le, Later.le_add, Later.lt, Later.lt_add]; omega)))) | ((with_reducible refine below_hop (by assumption) ?_ ?_); rotate_left; (focus (first | omega | (simp; done) | (simp; omega) | (simp [Later.le, Later.le_add, Later.lt, Later.lt_add]; done) | (simp [Later.le, Later.le_add, Later.lt, Later.lt_add]; omega)))) | ((with_reducible refine bel_later _ ?_ ?_); rotate_left; (focus (first | omega | (simp; done) | (simp; omega) | (simp [Later.le, Later.le_add, Later.lt, Later.lt_add]; done) | (simp [Later.le, Later.le_add, Later.lt, Later.lt_add]; omega))))))⟩
  case round =>
    obtain ⟨B, cb, xs, hh, rfl, rfl, hxs, hR, hb⟩ := hrel
    cases gk with
    | zero =>
      have hxs' : xs = restM d N (N + 1) := by simpa [restM] using hxs
      have HX := Lib.hid hxs'
      clear hxs hxs'
      go_wp2
      go_ret
      exact ⟨_, rfl, HX.out ▸ hR, hb⟩
    | succ h =>
      have hge : (0 : Int) ≤ ((h + 1 : Nat) : Int) - 1 := by omega
      have e1 : ((h + 1 : Nat) : Int) - 1 = h := by omega
      rw [e1] at *
      have HX := Lib.hid hxs
      have HR0 := Lib.hid hR
      have HB0 := Lib.hid hb
      clear hxs hR hb e1
      have hge : (0 : Int) ≤ (h : Int) := by omega
      go_wp2
      generalize ha : (h : Int) = a at *
      go_loopg [7, 5] (N - h + 1) (fun g v s w' => ∃ (B : Option Addr) (cb : Nat) (xs : List E3), g ≤ N - h + 1 ∧ v = .int .i64 ((g : Int) - 1) ∧ s = .slice B xs.length cb ∧ xs ++ (restK d N a g ++ restM d N h) = restM d N (N + 1) ∧ kE.R 121 w' w.heap.size (fun _ => True) (.slice B xs.length cb) xs ∧ Below w.heap.size w w')
      case atStart => exact ⟨B, cb, xs, Nat.le_refl _, by go_num, rfl, by rw [← ha]; exact HX.out, HR0.out, HB0.out⟩
      case round =>
        obtain ⟨B, cb, xs, hg, rfl, rfl, hxs, hR, hb⟩ := hrel
        cases gk with
        | zero =>
          have hxs' : xs ++ restM d N h = restM d N (N + 1) := by simpa [restK] using hxs
          have HX := Lib.hid hxs'
          clear hxs hxs'
          go_wp2
          go_roundg h
          case measure => omega
          case rel => exact ⟨B, cb, xs, by omega, by rw [← ha], rfl, HX.out, hR, hb⟩
        | succ g' =>
          have e1 : ((g' + 1 : Nat) : Int) - 1 = g' := by omega
          rw [e1] at *
          clear e1
          have HX := Lib.hid hxs
          have HR := Lib.hid hR
          have HB := Lib.hid hb
          have hpl := mono_len hN hxs
          clear hxs hR hb
          have hsk : okM d g' (N - a - (g' : Nat)) = false → xs ++ (restK d N a g' ++ restM d N h) = restM d N (N + 1) := fun e => by
            have := HX.out
            rw [restK, e] at this
            simpa using this
          have hap : okM d g' (N - a - (g' : Nat)) = true → (xs ++ [monE a g' (N - a - (g' : Nat))]) ++ (restK d N a g' ++ restM d N h) = restM d N (N + 1) := fun e => by
            have := HX.out
            rw [restK, e] at this
            simpa using this
          generalize hbn : ((g' : Nat) : Int) = b at *
          obtain ⟨c, hcn⟩ : ∃ c : Int, (N : Int) - a - b = c := ⟨_, rfl⟩
          rw [hcn] at hsk hap
          have hge2 : 0 ≤ b := by omega
          have hcc : 0 ≤ c := by omega
          have hb12 : b ≤ 12 := by omega
          have hc12 : c ≤ 12 := by omega
          have hsum : a + b + c ≤ 12 := by omega
          have HSK := Lib.hid hsk
          have HAP := Lib.hid hap
          clear hsk hap
          have hz := HB.out.size
          have hst := HB.out
          cases hk : okM d b c with
          | false =>
            have he : expsB d (monE a b c) = false := by rw [← exps_okM hd1 hd3 a b c hge hge2 hcc hsum]; exact hk
            have HE := Lib.hid he
            clear he
            go_wp2_with ((go_at_call 218; (first | (with_reducible refine call_later3 (l01Exps_b _ _ _ _ hd1 hd3 hge hge2 hcc hsum _ HE.out) ?_) | (with_reducible refine call_later4 (l01Exps_b _ _ _ _ hd1 hd3 hge hge2 hcc hsum _ HE.out) ?_)); intro x5 hb5))
            go_roundg g'
            case measure => omega
            case rel => exact ⟨B, cb, xs, by omega, by (rw [← hbn] <;> go_num), rfl, HSK.out hk, Kd.R_below (Kd.R_alloc HR.out _) hb5, (by repeat (first | (with_reducible assumption) | (with_reducible exact Below.refl _ _) | ((with_reducible refine Below.alloc ?_ ?_ _); rotate_left; (focus (first | omega | (simp; done) | (simp; omega) | (simp [Later.le, Later.le_add, Later.lt, Later.lt_add]; done) | (simp [Later.le, Later.le_add, Later.lt, Later.lt_add]; omega)))) | (with_reducible refine Below.drew ?_) | (with_reducible refine pw_below_drewN ?_ _) | ((with_reducible refine Below.setCell ?_ ?_ _); rotate_left; (focus (first | omega | (simp; done) | (simp; omega) | (simp [Later.le, Later.le_add, Later.lt, Later.lt_add]; done) | (simp [Later.le, Later.le_add, Later.lt, Later.lt_add]; omega)))) | ((with_reducible refine below_hop (by assumption) ?_ ?_); rotate_left; (focus (first | omega | (simp; done) | (simp; omega) | (simp [Later.le, Later.le_add, Later.lt, Later.lt_add]; done) | (simp [Later.le, Later.le_add, Later.lt, Later.lt_add]; omega)))) | ((with_reducible refine bel_later _ ?_ ?_); rotate_left; (focus (first | omega | (simp; done) | (simp; omega) | (simp [Later.le, Later.le_add, Later.lt, Later.lt_add]; done) | (simp [Later.le, Later.le_add, Later.lt, Later.lt_add]; omega))))))⟩
          | true =>
            have he : expsB d (monE a b c) = true := by rw [← exps_okM hd1 hd3 a b c hge hge2 hcc hsum]; exact hk
            have HE := Lib.hid he
            clear he
            go_wp2_with (first | ((go_at_call 218; (first | (with_reducible refine call_later3 (l01Exps_b _ _ _ _ hd1 hd3 hge hge2 hcc hsum _ HE.out) ?_) | (with_reducible refine call_later4 (l01Exps_b _ _ _ _ hd1 hd3 hge hge2 hcc hsum _ HE.out) ?_)); intro x5 hb5); have y0 := pw_cell_below hb5 (a := ⟨wr.heap.size, 0, none⟩) (v := .int .u8 a) (by simp); have y1 := pw_cell_below hb5 (a := ⟨wr.heap.size, 1, none⟩) (v := .int .u8 b) (by simp); have y2 := pw_cell_below hb5 (a := ⟨wr.heap.size, 2, none⟩) (v := .int .u8 c) (by simp); have HR := Lib.hid (Kd.R_below (Kd.R_alloc HR.out _) hb5); have hz5 : w.heap.size ≤ x5.W.heap.size := (by have := hb5.size; simp at this; omega)) | ((with_reducible refine gate_ (.call { callee := .builtin .append, args := #[.tmp 36, .tmp 38], argTypes := #[22, 22] }) rfl ?_); refine Kd.R_append kE (w0 := w) w.heap.size rfl (.tmp 36) (.tmp 38) 22 121 (.agg #[.int .u8 0, .int .u8 0, .int .u8 0]) 3 rfl Try.underlying22 infoE rfl (by decide) (by decide) (.slice B xs.length cb) xs (monE a b c) [.int .u8 a, .int .u8 b, .int .u8 c] (fun _ => True) (fun _ => False) rfl rfl (kE_M _ _ _ _ _ (by omega) (by omega) (by omega) (by omega) (by omega) (by omega)) (fun _ hk => hk.elim) (fun _ _ => trivial) HR.out (by repeat (first | (with_reducible assumption) | (with_reducible exact Below.refl _ _) | ((with_reducible refine Below.alloc ?_ ?_ _); rotate_left; (focus (first | omega | (simp; done) | (simp; omega) | (simp [Later.le, Later.le_add, Later.lt, Later.lt_add]; done) | (simp [Later.le, Later.le_add, Later.lt, Later.lt_add]; omega)))) | (with_reducible refine Below.drew ?_) | (with_reducible refine pw_below_drewN ?_ _) | ((with_reducible refine Below.setCell ?_ ?_ _); rotate_left; (focus (first | omega | (simp; done) | (simp; omega) | (simp [Later.le, Later.le_add, Later.lt, Later.lt_add]; done) | (simp [Later.le, Later.le_add, Later.lt, Later.lt_add]; omega)))) | ((with_reducible refine below_hop (by assumption) ?_ ?_); rotate_left; (focus (first | omega | (simp; done) | (simp; omega) | (simp [Later.le, Later.le_add, Later.lt, Later.lt_add]; done) | (simp [Later.le, Later.le_add, Later.lt, Later.lt_add]; omega)))) | ((with_reducible refine bel_later _ ?_ ?_); rotate_left; (focus (first | omega | (simp; done) | (simp; omega) | (simp [Later.le, Later.le_add, Later.lt, Later.lt_add]; done) | (simp [Later.le, Later.le_add, Later.lt, Later.lt_add]; omega)))))) (by omega) (by omega) ?_; intro v1 w1 hR6 hB6 hg6 hat6; obtain ⟨B6, c6, rfl, hl6, hC6⟩ := Kd.R_reads hR6))
            go_roundg g'
            case measure => omega
            case rel => exact ⟨B6, c6, _, by omega, by (rw [← hbn] <;> go_num), by simp, HAP.out hk, hR6, hB6⟩
end Go.Proofs.Ytgieofidogkbaaa

/- The walks of MonomialsOf of both sides, and of the laws' own functions on lists of monomials; no condition. -/
import Derived.Test.YtgieofidogkbaaaMono2
import Derived.Test.YtgieofidogkbaaaPart3
set_option linter.unusedVariables false
set_option linter.unusedSimpArgs false
namespace Go.Proofs.Ytgieofidogkbaaa
open Go.RowKit Go.Proofs.YtgieofidogkbaaaW.PrintWords
attribute [local go_sem] Later.cell Later.frozen Later.lt Later.lt_add Later.le Later.le_add Later.ne Later.ne' add_at

/-- A row and a code that a call makes. -/
def MakesLC {α : Type} (d : Kd α) (E : Nat) (xs : List α) (c : Int) (w : World) (e : Ending) (w' : World) : Prop :=
  ∃ A cap, e = .returned (.tuple #[.slice A xs.length cap, .int .i64 c]) ∧ d.R E w' w.heap.size (fun _ => True) (.slice A xs.length cap) xs ∧ Below w.heap.size w w'
theorem to_makesLC {α : Type} {d : Kd α} {E : Nat} {xs : List α} {c : Int} {P : Program} {f : FuncId} {args : Array Value} {V W : World} {R : Ending → World → Prop} (hW : Below V.heap.size V W)
    (h : Calls P f args W (MakesLC d E xs c W)) (k : ∀ W' A cap, Below V.heap.size V W' → Below W.heap.size W W' → xs.length ≤ cap → d.R E W' W.heap.size (fun _ => True) (.slice A xs.length cap) xs → R (.returned (.tuple #[.slice A xs.length cap, .int .i64 c])) W') : Calls P f args W R :=
  h.mono fun _ w' ⟨A, cap, he, hr, hb⟩ => by
    subst he
    exact k w' A cap (hW.trans (hb.mono hW.size)) hb (Kd.R_reads' hr).2.1 hr
def monR (d n : Int) : List E3 × Int := if inB d 1 3 then (if inB n 0 12 then (restM d n.toNat (n.toNat + 1), 0) else ([], 2)) else ([], 2)
theorem inB_nat {n : Int} (h : inB n 0 12 = true) : ∃ N : Nat, N ≤ 12 ∧ n = N := by
  obtain ⟨h1, h2⟩ := inB_t h
  exact ⟨n.toNat, by omega, by omega⟩

theorem isDegree_b (n : Int) (w : World) : Calls Try.prog 127 #[.int .i64 n] w (Same (.bool (inB n 0 12)) w) := isDegree_s n w
theorem eqExps_same (e : E3) (w : World) : Calls Try.prog 129 #[.agg #[.int .u8 (e.a.toNat : Int), .int .u8 (e.b.toNat : Int), .int .u8 (e.c.toNat : Int)], .agg #[.int .u8 (e.a.toNat : Int), .int .u8 (e.b.toNat : Int), .int .u8 (e.c.toNat : Int)]] w (Gives (.bool true) w) := by
  have h := eqExps_c e e w
  rwa [beq_self_eq_true] at h

theorem implMonomialsOf_c (d n : Int) (w : World) : Calls Try.prog 34 #[.int .i64 d, .int .i64 n] w (MakesLC kE 121 (monR d n).1 (monR d n).2 w) := by
  cases h1 : inB d 1 3 with
  | false =>
    have hr : monR d n = ([], 2) := by simp [monR, h1]
    rw [hr]
    go_enter Try.func34, Try.ntmps34
    go_wp2_with (first | (go_at_call 126; (first | (with_reducible refine call_later2 (isVars_c _ _) ?_) | (with_reducible refine call_later (isVars_c _ _) ?_)); intro x) | (go_at_call 127; (with_reducible refine call_same (isDegree_b n _) ?_)))
    go_ret2
    exact ⟨none, 0, rfl, Kd.R_nil _ _ _ _ _, (by repeat (first | (with_reducible assumption) | (with_reducible exact Below.refl _ _) | ((with_reducible refine Below.alloc ?_ ?_ _); rotate_left; (focus (first | omega | (simp; done) | (simp; omega) | (simp [Later.le, Later.le_add, Later.lt, Later.lt_add]; done) | (simp [Later.le, Later.le_add, Later.lt, Later.lt_add]; omega)))) | (with_reducible refine Below.drew ?_) | (with_reducible refine pw_below_drewN ?_ _) | ((with_reducible refine Below.setCell ?_ ?_ _); rotate_left; (focus (first | omega | (simp; done) | (simp; omega) | (simp [Later.le, Later.le_add, Later.lt, Later.lt_add]; done) | (simp [Later.le, Later.le_add, Later.lt, Later.lt_add]; omega)))) | ((with_reducible refine below_hop (by assumption) ?_ ?_); rotate_left; (focus (first | omega | (simp; done) | (simp; omega) | (simp [Later.le, Later.le_add, Later.lt, Later.lt_add]; done) | (simp [Later.le, Later.le_add, Later.lt, Later.lt_add]; omega)))) | ((with_reducible refine bel_later _ ?_ ?_); rotate_left; (focus (first | omega | (simp; done) | (simp; omega) | (simp [Later.le, Later.le_add, Later.lt, Later.lt_add]; done) | (simp [Later.le, Later.le_add, Later.lt, Later.lt_add]; omega))))))⟩
  | true =>
    cases h2 : inB n 0 12 with
    | false =>
      have hr : monR d n = ([], 2) := by simp [monR, h1, h2]
      rw [hr]
      go_enter Try.func34, Try.ntmps34
      go_wp2_with (first | (go_at_call 126; (first | (with_reducible refine call_later2 (isVars_c _ _) ?_) | (with_reducible refine call_later (isVars_c _ _) ?_)); intro x) | (go_at_call 127; (with_reducible refine call_same (isDegree_b n _) ?_)))
      go_ret2
      exact ⟨none, 0, rfl, Kd.R_nil _ _ _ _ _, (by repeat (first | (with_reducible assumption) | (with_reducible exact Below.refl _ _) | ((with_reducible refine Below.alloc ?_ ?_ _); rotate_left; (focus (first | omega | (simp; done) | (simp; omega) | (simp [Later.le, Later.le_add, Later.lt, Later.lt_add]; done) | (simp [Later.le, Later.le_add, Later.lt, Later.lt_add]; omega)))) | (with_reducible refine Below.drew ?_) | (with_reducible refine pw_below_drewN ?_ _) | ((with_reducible refine Below.setCell ?_ ?_ _); rotate_left; (focus (first | omega | (simp; done) | (simp; omega) | (simp [Later.le, Later.le_add, Later.lt, Later.lt_add]; done) | (simp [Later.le, Later.le_add, Later.lt, Later.lt_add]; omega)))) | ((with_reducible refine below_hop (by assumption) ?_ ?_); rotate_left; (focus (first | omega | (simp; done) | (simp; omega) | (simp [Later.le, Later.le_add, Later.lt, Later.lt_add]; done) | (simp [Later.le, Later.le_add, Later.lt, Later.lt_add]; omega)))) | ((with_reducible refine bel_later _ ?_ ?_); rotate_left; (focus (first | omega | (simp; done) | (simp; omega) | (simp [Later.le, Later.le_add, Later.lt, Later.lt_add]; done) | (simp [Later.le, Later.le_add, Later.lt, Later.lt_add]; omega))))))⟩
    | true =>
      obtain ⟨N, hN, rfl⟩ := inB_nat h2
      have hr : monR d N = (restM d N (N + 1), 0) := by simp [monR, h1, h2]
      rw [hr]
      obtain ⟨hd1, hd3⟩ : 1 ≤ d ∧ d ≤ 3 := by simpa [inB] using h1
      go_enter Try.func34, Try.ntmps34
      go_wp2_with (first | (go_at_call 126; (first | (with_reducible refine call_later2 (isVars_c _ _) ?_) | (with_reducible refine call_later (isVars_c _ _) ?_)); intro x) | (go_at_call 127; (with_reducible refine call_same (isDegree_b _ _) ?_)) | (go_at_call 128; (with_reducible refine call_makes2 (monomials_c _ _ hd1 hd3 hN _) ?_); intro x2 A2 c2 hb2 hl2 hR2 hC2))
      go_ret2
      exact ⟨_, _, rfl, Kd.R_lower hR2 x.ok.size, (by repeat (first | (with_reducible assumption) | (with_reducible exact Below.refl _ _) | ((with_reducible refine Below.alloc ?_ ?_ _); rotate_left; (focus (first | omega | (simp; done) | (simp; omega) | (simp [Later.le, Later.le_add, Later.lt, Later.lt_add]; done) | (simp [Later.le, Later.le_add, Later.lt, Later.lt_add]; omega)))) | (with_reducible refine Below.drew ?_) | (with_reducible refine pw_below_drewN ?_ _) | ((with_reducible refine Below.setCell ?_ ?_ _); rotate_left; (focus (first | omega | (simp; done) | (simp; omega) | (simp [Later.le, Later.le_add, Later.lt, Later.lt_add]; done) | (simp [Later.le, Later.le_add, Later.lt, Later.lt_add]; omega)))) | ((with_reducible refine below_hop (by assumption) ?_ ?_); rotate_left; (focus (first | omega | (simp; done) | (simp; omega) | (simp [Later.le, Later.le_add, Later.lt, Later.lt_add]; done) | (simp [Later.le, Later.le_add, Later.lt, Later.lt_add]; omega)))) | ((with_reducible refine bel_later _ ?_ ?_); rotate_left; (focus (first | omega | (simp; done) | (simp; omega) | (simp [Later.le, Later.le_add, Later.lt, Later.lt_add]; done) | (simp [Later.le, Later.le_add, Later.lt, Later.lt_add]; omega))))))⟩

theorem specMonomialsOf_c (d n : Int) (w : World) : Calls Try.prog 33 #[.int .i64 d, .int .i64 n] w (MakesLC kE 121 (monR d n).1 (monR d n).2 w) := by
  cases h1 : inB d 1 3 with
  | false =>
    have hr : monR d n = ([], 2) := by simp [monR, h1]
    rw [hr]
    go_enter Try.func33, Try.ntmps33
    go_wp2_with ((go_at_call 124; (with_reducible refine call_same (l01In_s _ _ _ _) ?_)))
    go_ret2
    exact ⟨none, 0, rfl, Kd.R_nil _ _ _ _ _, (by repeat (first | (with_reducible assumption) | (with_reducible exact Below.refl _ _) | ((with_reducible refine Below.alloc ?_ ?_ _); rotate_left; (focus (first | omega | (simp; done) | (simp; omega) | (simp [Later.le, Later.le_add, Later.lt, Later.lt_add]; done) | (simp [Later.le, Later.le_add, Later.lt, Later.lt_add]; omega)))) | (with_reducible refine Below.drew ?_) | (with_reducible refine pw_below_drewN ?_ _) | ((with_reducible refine Below.setCell ?_ ?_ _); rotate_left; (focus (first | omega | (simp; done) | (simp; omega) | (simp [Later.le, Later.le_add, Later.lt, Later.lt_add]; done) | (simp [Later.le, Later.le_add, Later.lt, Later.lt_add]; omega)))) | ((with_reducible refine below_hop (by assumption) ?_ ?_); rotate_left; (focus (first | omega | (simp; done) | (simp; omega) | (simp [Later.le, Later.le_add, Later.lt, Later.lt_add]; done) | (simp [Later.le, Later.le_add, Later.lt, Later.lt_add]; omega)))) | ((with_reducible refine bel_later _ ?_ ?_); rotate_left; (focus (first | omega | (simp; done) | (simp; omega) | (simp [Later.le, Later.le_add, Later.lt, Later.lt_add]; done) | (simp [Later.le, Later.le_add, Later.lt, Later.lt_add]; omega))))))⟩
  | true =>
    cases h2 : inB n 0 12 with
    | false =>
      have hr : monR d n = ([], 2) := by simp [monR, h1, h2]
      rw [hr]
      go_enter Try.func33, Try.ntmps33
      go_wp2_with ((go_at_call 124; (with_reducible refine call_same (l01In_s _ _ _ _) ?_)))
      go_ret2
      exact ⟨none, 0, rfl, Kd.R_nil _ _ _ _ _, (by repeat (first | (with_reducible assumption) | (with_reducible exact Below.refl _ _) | ((with_reducible refine Below.alloc ?_ ?_ _); rotate_left; (focus (first | omega | (simp; done) | (simp; omega) | (simp [Later.le, Later.le_add, Later.lt, Later.lt_add]; done) | (simp [Later.le, Later.le_add, Later.lt, Later.lt_add]; omega)))) | (with_reducible refine Below.drew ?_) | (with_reducible refine pw_below_drewN ?_ _) | ((with_reducible refine Below.setCell ?_ ?_ _); rotate_left; (focus (first | omega | (simp; done) | (simp; omega) | (simp [Later.le, Later.le_add, Later.lt, Later.lt_add]; done) | (simp [Later.le, Later.le_add, Later.lt, Later.lt_add]; omega)))) | ((with_reducible refine below_hop (by assumption) ?_ ?_); rotate_left; (focus (first | omega | (simp; done) | (simp; omega) | (simp [Later.le, Later.le_add, Later.lt, Later.lt_add]; done) | (simp [Later.le, Later.le_add, Later.lt, Later.lt_add]; omega)))) | ((with_reducible refine bel_later _ ?_ ?_); rotate_left; (focus (first | omega | (simp; done) | (simp; omega) | (simp [Later.le, Later.le_add, Later.lt, Later.lt_add]; done) | (simp [Later.le, Later.le_add, Later.lt, Later.lt_add]; omega))))))⟩
    | true =>
      obtain ⟨N, hN, rfl⟩ := inB_nat h2
      have hr : monR d N = (restM d N (N + 1), 0) := by simp [monR, h1, h2]
      rw [hr]
      obtain ⟨hd1, hd3⟩ : 1 ≤ d ∧ d ≤ 3 := by simpa [inB] using h1
      go_enter Try.func33, Try.ntmps33
      go_wp2_with (first | (go_at_call 124; (with_reducible refine call_same (l01In_s _ _ _ _) ?_)) | (go_at_call 125; (with_reducible refine call_makes (l01Monomials_c _ _ hd1 hd3 hN _) ?_); intro x2 A2 c2 hb2 hl2 hR2 hC2))
      go_ret2
      exact ⟨_, _, rfl, hR2, (by repeat (first | (with_reducible assumption) | (with_reducible exact Below.refl _ _) | ((with_reducible refine Below.alloc ?_ ?_ _); rotate_left; (focus (first | omega | (simp; done) | (simp; omega) | (simp [Later.le, Later.le_add, Later.lt, Later.lt_add]; done) | (simp [Later.le, Later.le_add, Later.lt, Later.lt_add]; omega)))) | (with_reducible refine Below.drew ?_) | (with_reducible refine pw_below_drewN ?_ _) | ((with_reducible refine Below.setCell ?_ ?_ _); rotate_left; (focus (first | omega | (simp; done) | (simp; omega) | (simp [Later.le, Later.le_add, Later.lt, Later.lt_add]; done) | (simp [Later.le, Later.le_add, Later.lt, Later.lt_add]; omega)))) | ((with_reducible refine below_hop (by assumption) ?_ ?_); rotate_left; (focus (first | omega | (simp; done) | (simp; omega) | (simp [Later.le, Later.le_add, Later.lt, Later.lt_add]; done) | (simp [Later.le, Later.le_add, Later.lt, Later.lt_add]; omega)))) | ((with_reducible refine bel_later _ ?_ ?_); rotate_left; (focus (first | omega | (simp; done) | (simp; omega) | (simp [Later.le, Later.le_add, Later.lt, Later.lt_add]; done) | (simp [Later.le, Later.le_add, Later.lt, Later.lt_add]; omega))))))⟩
theorem monR_len (d n : Int) : (monR d n).1.length ≤ 200 := by
  unfold monR
  split
  · split
    · rename_i h
      obtain ⟨N, hN, rfl⟩ := inB_nat h
      exact mono_len (d := d) (n := N) hN (ys := []) (by simp)
    · simp
  · simp

theorem kE_at {w : World} {A : Option Addr} {n : Nat} {xs : List E3} (h : kE.C w A n xs) (i : Nat) (hi : i < n) :
    ∃ b o, A = some ⟨b, o, none⟩ ∧ w.cell? ⟨b, o + i * 3, none⟩ = some (.int .u8 ((xs.getD i z3).a.toNat : Int)) ∧ w.cell? ⟨b, o + i * 3 + 1, none⟩ = some (.int .u8 ((xs.getD i z3).b.toNat : Int)) ∧ w.cell? ⟨b, o + i * 3 + 2, none⟩ = some (.int .u8 ((xs.getD i z3).c.toNat : Int)) := by
  obtain ⟨b, o, c, hA, hK, hc⟩ := C_at h (by decide) i hi z3
  have hK' : c = E3.cs (xs.getD i z3) := hK
  subst hK'
  exact ⟨b, o, hA, hc 0 _ rfl, hc 1 _ rfl, hc 2 _ rfl⟩

set_option maxRecDepth 100000 in
set_option maxHeartbeats 1000000 in
theorem eqExpsS_same (A B : Option Addr) (c b : Nat) (ts : List E3) (w : World) (hC : kE.C w A ts.length ts) (hD : kE.C w B ts.length ts) (hn : ts.length ≤ 1048576) :
    Calls Try.prog 35 #[.slice A ts.length c, .slice B ts.length b] w (Gives (.bool true) w) := by
  go_enter Try.func35, Try.ntmps35
  go_wp2
  go_loopg [5] ts.length (fun k v w' => ∃ (i : Nat) (y : Later w), i + k = ts.length ∧ v = .int .i64 i ∧ w' = y.W)
  case atStart => exact ⟨0, ⟨w, Below.refl _ _⟩, by omega, rfl, rfl⟩
  case round =>
    obtain ⟨i, y, hik, rfl, rfl⟩ := hrel
    have HIK := Lib.hid hik
    clear hik
    by_cases hlt : i < ts.length
    · obtain ⟨b1, o1, hA, p0, p1, p2⟩ := kE_at hC i hlt
      obtain ⟨b2, o2, hB, q0, q1, q2⟩ := kE_at hD i hlt
      subst hA
      subst hB
      have k1 : b1 < w.heap.size := World.block_lt_of_cell? w _ p0
      have k2 : b2 < w.heap.size := World.block_lt_of_cell? w _ q0
      have hi0 : (0 : Int) ≤ i := by omega
      have hi1 : (i : Int) < ts.length := by omega
      have hin : ((i : Int)).toNat = i := by omega
      generalize ts.getD i z3 = t at *
      have he : (t == t) = true := beq_self_eq_true t
      go_wp2
      (first | refine wp_region_later2 (by kernel_rfl) (by kernel_rfl) ?_ | refine wp_region_later (by kernel_rfl) (by kernel_rfl) ?_); (repeat (go_big_quiet_step ((go_at_call 129; with_reducible exact quiet_later (eqExps_same _ _))))); refine wpQuiet_nil ?_; intro x
      go_wp2
      go_roundg (gk - 1)
      case measure => have := HIK.out; omega
      case rel => exact ⟨i + 1, x, by have := HIK.out; omega, by go_num, rfl⟩
    · go_wp2
      go_ret
      exact .mk rfl (by repeat (first | (with_reducible assumption) | (with_reducible exact Below.refl _ _) | ((with_reducible refine Below.alloc ?_ ?_ _); rotate_left; (focus (first | omega | (simp; done) | (simp; omega) | (simp [Later.le, Later.le_add, Later.lt, Later.lt_add]; done) | (simp [Later.le, Later.le_add, Later.lt, Later.lt_add]; omega)))) | (with_reducible refine Below.drew ?_) | (with_reducible refine pw_below_drewN ?_ _) | ((with_reducible refine Below.setCell ?_ ?_ _); rotate_left; (focus (first | omega | (simp; done) | (simp; omega) | (simp [Later.le, Later.le_add, Later.lt, Later.lt_add]; done) | (simp [Later.le, Later.le_add, Later.lt, Later.lt_add]; omega)))) | ((with_reducible refine below_hop (by assumption) ?_ ?_); rotate_left; (focus (first | omega | (simp; done) | (simp; omega) | (simp [Later.le, Later.le_add, Later.lt, Later.lt_add]; done) | (simp [Later.le, Later.le_add, Later.lt, Later.lt_add]; omega)))) | ((with_reducible refine bel_later _ ?_ ?_); rotate_left; (focus (first | omega | (simp; done) | (simp; omega) | (simp [Later.le, Later.le_add, Later.lt, Later.lt_add]; done) | (simp [Later.le, Later.le_add, Later.lt, Later.lt_add]; omega))))))
end Go.Proofs.Ytgieofidogkbaaa

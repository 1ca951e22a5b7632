/- The walks of the small functions on numbers, monomials and polynomials; no condition. -/
import Derived.Test.YtgieofidogkbaaaProg
import Derived.Test.YtgieofidogkbaaaBase
set_option linter.unusedVariables false
namespace Go.Proofs.Ytgieofidogkbaaa
open Go.RowKit Go.Proofs.YtgieofidogkbaaaW.PrintWords
attribute [local go_sem] Later.cell Later.frozen Later.lt Later.lt_add Later.le Later.le_add Later.ne Later.ne' add_at

def primeB (p : Int) : Bool := p == 2 || p == 3 || p == 5 || p == 7 || p == 11 || p == 13
def inB (n lo hi : Int) : Bool := decide (lo ≤ n) && decide (n ≤ hi)

theorem isPrime_c (p : Int) (w : World) : Calls Try.prog 132 #[.int .i64 p] w (Gives (.bool (primeB p)) w) := by
  by_cases h2 : p = 2
  · subst h2
    go_enter Try.func132, Try.ntmps132
    go_wp2
    go_ret
    exact .mk rfl (Below.refl _ _)
  by_cases h3 : p = 3
  · subst h3
    go_enter Try.func132, Try.ntmps132
    go_wp2
    go_ret
    exact .mk rfl (Below.refl _ _)
  by_cases h5 : p = 5
  · subst h5
    go_enter Try.func132, Try.ntmps132
    go_wp2
    go_ret
    exact .mk rfl (Below.refl _ _)
  by_cases h7 : p = 7
  · subst h7
    go_enter Try.func132, Try.ntmps132
    go_wp2
    go_ret
    exact .mk rfl (Below.refl _ _)
  by_cases h11 : p = 11
  · subst h11
    go_enter Try.func132, Try.ntmps132
    go_wp2
    go_ret
    exact .mk rfl (Below.refl _ _)
  by_cases h13 : p = 13
  · subst h13
    go_enter Try.func132, Try.ntmps132
    go_wp2
    go_ret
    exact .mk rfl (Below.refl _ _)
  go_enter Try.func132, Try.ntmps132
  go_wp2
  go_ret
  exact .mk (by simp [primeB, *]) (Below.refl _ _)

theorem l01Prime_c (p : Int) (w : World) : Calls Try.prog 177 #[.int .i64 p] w (Gives (.bool (primeB p)) w) := by
  by_cases h2 : p = 2
  · subst h2
    go_enter Try.func177, Try.ntmps177
    go_wp2
    go_ret
    exact .mk rfl (Below.refl _ _)
  by_cases h3 : p = 3
  · subst h3
    go_enter Try.func177, Try.ntmps177
    go_wp2
    go_ret
    exact .mk rfl (Below.refl _ _)
  by_cases h5 : p = 5
  · subst h5
    go_enter Try.func177, Try.ntmps177
    go_wp2
    go_ret
    exact .mk rfl (Below.refl _ _)
  by_cases h7 : p = 7
  · subst h7
    go_enter Try.func177, Try.ntmps177
    go_wp2
    go_ret
    exact .mk rfl (Below.refl _ _)
  by_cases h11 : p = 11
  · subst h11
    go_enter Try.func177, Try.ntmps177
    go_wp2
    go_ret
    exact .mk rfl (Below.refl _ _)
  by_cases h13 : p = 13
  · subst h13
    go_enter Try.func177, Try.ntmps177
    go_wp2
    go_ret
    exact .mk rfl (Below.refl _ _)
  go_enter Try.func177, Try.ntmps177
  go_wp2
  go_ret
  exact .mk (by simp [primeB, *]) (Below.refl _ _)

theorem isVars_c (d : Int) (w : World) : Calls Try.prog 126 #[.int .i64 d] w (Gives (.bool (inB d 1 3)) w) := by
  by_cases h : 1 ≤ d
  · have hd : decide (1 ≤ d) = true := decide_eq_true h
    go_enter Try.func126, Try.ntmps126
    go_wp2
    go_ret
    exact .mk (by simp [inB, *]) (Below.refl _ _)
  · have hd : decide (1 ≤ d) = false := decide_eq_false h
    go_enter Try.func126, Try.ntmps126
    go_wp2
    go_ret
    exact .mk (by simp [inB, *]) (Below.refl _ _)

theorem l01In_c (n lo hi : Int) (w : World) : Calls Try.prog 124 #[.int .i64 n, .int .i64 lo, .int .i64 hi] w (Gives (.bool (inB n lo hi)) w) := by
  by_cases h : lo ≤ n
  · have hd : decide (lo ≤ n) = true := decide_eq_true h
    go_enter Try.func124, Try.ntmps124
    go_wp2
    go_ret
    exact .mk (by simp [inB, *]) (Below.refl _ _)
  · have hd : decide (lo ≤ n) = false := decide_eq_false h
    go_enter Try.func124, Try.ntmps124
    go_wp2
    go_ret
    exact .mk (by simp [inB, *]) (Below.refl _ _)

def degE (e : E3) : Int := (e.a.toNat : Int) + e.b.toNat + e.c.toNat
theorem degE_bd (e : E3) : 0 ≤ degE e ∧ degE e < 768 := by
  have ha := e.a.toNat_lt
  have hb := e.b.toNat_lt
  have hc := e.c.toNat_lt
  unfold degE
  omega
def cmpE (e f : E3) : Int := if degE e - degE f ≠ 0 then degE e - degE f else if (e.a.toNat : Int) ≠ f.a.toNat then (f.a.toNat : Int) - e.a.toNat else (f.b.toNat : Int) - e.b.toNat
def befE (e f : E3) : Bool := if degE e ≠ degE f then decide (degE e < degE f) else if (e.a.toNat : Int) ≠ f.a.toNat then decide ((f.a.toNat : Int) < e.a.toNat) else decide ((f.b.toNat : Int) < e.b.toNat)

theorem degree_c (e : E3) (w : World) :
    Calls Try.prog 137 #[.agg #[.int .u8 (e.a.toNat : Int), .int .u8 (e.b.toNat : Int), .int .u8 (e.c.toNat : Int)]] w (Gives (.int .i64 (degE e)) w) := by
  have ha := e.a.toNat_lt
  have hb := e.b.toNat_lt
  have hc := e.c.toNat_lt
  go_enter Try.func137, Try.ntmps137
  go_wp2
  go_ret
  exact .mk rfl ((Below.refl _ _).alloc (Nat.le_refl _) _)

theorem l01Sum_c (e : E3) (w : World) :
    Calls Try.prog 223 #[.agg #[.int .u8 (e.a.toNat : Int), .int .u8 (e.b.toNat : Int), .int .u8 (e.c.toNat : Int)]] w (Gives (.int .i64 (degE e)) w) := by
  have ha := e.a.toNat_lt
  have hb := e.b.toNat_lt
  have hc := e.c.toNat_lt
  go_enter Try.func223, Try.ntmps223
  go_wp2
  go_ret
  exact .mk rfl ((Below.refl _ _).alloc (Nat.le_refl _) _)

set_option maxRecDepth 100000 in
theorem compareExps_c (e f : E3) (w : World) :
    Calls Try.prog 138 #[.agg #[.int .u8 (e.a.toNat : Int), .int .u8 (e.b.toNat : Int), .int .u8 (e.c.toNat : Int)], .agg #[.int .u8 (f.a.toNat : Int), .int .u8 (f.b.toNat : Int), .int .u8 (f.c.toNat : Int)]] w (Gives (.int .i64 (cmpE e f)) w) := by
  have ha := e.a.toNat_lt
  have hb := e.b.toNat_lt
  have ha' := f.a.toNat_lt
  have hb' := f.b.toNat_lt
  obtain ⟨d1, d2⟩ := degE_bd e
  obtain ⟨d3, d4⟩ := degE_bd f
  go_enter Try.func138, Try.ntmps138
  go_wp2
  (first | refine wp_region_later2 (by kernel_rfl) (by kernel_rfl) ?_ | refine wp_region_later (by kernel_rfl) (by kernel_rfl) ?_); (repeat (go_big_quiet_step ((go_at_call 137; with_reducible exact quiet_later (degree_c _ _))))); refine wpQuiet_nil ?_; intro x
  go_wp2
  all_goals go_ret
  all_goals refine .mk ?_ (bel_later x (((Below.refl _ _).alloc (Nat.le_refl _) _).alloc (by simp) _) (by simp; omega))
  all_goals simp_all [cmpE]

set_option maxRecDepth 100000 in
theorem l01Before_c (e f : E3) (w : World) :
    Calls Try.prog 220 #[.agg #[.int .u8 (e.a.toNat : Int), .int .u8 (e.b.toNat : Int), .int .u8 (e.c.toNat : Int)], .agg #[.int .u8 (f.a.toNat : Int), .int .u8 (f.b.toNat : Int), .int .u8 (f.c.toNat : Int)]] w (Gives (.bool (befE e f)) w) := by
  have ha := e.a.toNat_lt
  have hb := e.b.toNat_lt
  have ha' := f.a.toNat_lt
  have hb' := f.b.toNat_lt
  obtain ⟨d1, d2⟩ := degE_bd e
  obtain ⟨d3, d4⟩ := degE_bd f
  go_enter Try.func220, Try.ntmps220
  go_wp2
  (first | refine wp_region_later2 (by kernel_rfl) (by kernel_rfl) ?_ | refine wp_region_later (by kernel_rfl) (by kernel_rfl) ?_); (repeat (go_big_quiet_step ((go_at_call 223; with_reducible exact quiet_later (l01Sum_c _ _))))); refine wpQuiet_nil ?_; intro x
  go_wp2
  · (first | refine wp_region_later2 (by kernel_rfl) (by kernel_rfl) ?_ | refine wp_region_later (by kernel_rfl) (by kernel_rfl) ?_); (repeat (go_big_quiet_step ((go_at_call 223; with_reducible exact quiet_later (l01Sum_c _ _))))); refine wpQuiet_nil ?_; intro y
    go_wp2
    go_ret
    refine .mk ?_ (bel_later y (((Below.refl _ _).alloc (Nat.le_refl _) _).alloc (by simp) _) (by simp; omega))
    simp_all [befE]
  all_goals go_ret
  all_goals refine .mk ?_ (bel_later x (((Below.refl _ _).alloc (Nat.le_refl _) _).alloc (by simp) _) (by simp; omega))
  all_goals simp_all [befE]
end Go.Proofs.Ytgieofidogkbaaa

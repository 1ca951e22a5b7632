/- The walks of the marks on rows of monomials, and of the look at them; no condition. -/
import Derived.Test.YtgieofidogkbaaaMono3
set_option linter.unusedVariables false
set_option linter.unusedSimpArgs false
namespace Go.Proofs.Ytgieofidogkbaaa
open Go.RowKit Go.Proofs.YtgieofidogkbaaaW.PrintWords
attribute [local go_sem] Later.cell Later.frozen Later.lt Later.lt_add Later.le Later.le_add Later.ne Later.ne' add_at

def markE (k : Int) : E3 := ⟨uB k, uB (k + 1), uB (k + 2)⟩
def marksE (k : Int) (n : Nat) : List E3 := (List.range n).map (fun i : Nat => markE (k + 3 * i))
theorem marksE_len (k : Int) (n : Nat) : (marksE k n).length = n := by simp [marksE]
theorem marksE_get (k : Int) (n i : Nat) (h : i < n) (z : E3) : (marksE k n).getD i z = markE (k + 3 * i) := by
  simp [marksE, List.getD_eq_getElem?_getD, h]
theorem marksE_step (k : Int) (ts : List E3) (i : Nat) (hi : i < ts.length) (t : E3) (ht : t = markE (k + 3 * i)) : (marksE k i ++ ts.drop i).set i t = marksE k (i + 1) ++ ts.drop (i + 1) := by
  rw [List.set_append_right _ _ (by rw [marksE_len]; omega), marksE_len, Nat.sub_self, List.drop_eq_getElem_cons hi, List.set_cons_zero, marksE, marksE, List.range_succ, List.map_append, List.append_assoc, ht]
  rfl
theorem ME_eq {w : World} {base : Nat} {ok : Nat → Prop} {t : E3} {cs : List Value} (h : kE.M w base ok t cs) : cs = t.cs := h

/-- One cell of a monomial is written. -/
theorem exps_set {w0 W : World} {P : Program} {ops : Array Oper} {rest : List Oper} {o : Oper} {a : Act} {Q : Exit → Act → World → Prop} {base e : Nat} (hN : o.dst = none) (hgd : o.guard = none) (ty : TypeId) (p x : Operand) (ho : o.op = .store ty p x)
    {g n cap o' : Nat} (i : Nat) (j : Nat) (xs : List E3) (t t' : E3) (u : Value) (ok : Nat → Prop)
    (haddr : a.eval p = .pointer (some ⟨g, o', none⟩)) (hoff : o' = i * 3 + j) (hx : a.eval x = u) (hu : u.cells.toList = [u]) (ht : (P.info? ty).map (·.size) = some 1) (h1 : u.oneCell' = true)
    (HO : kE.R e W base ok (.slice (some ⟨g, 0, none⟩) n cap) xs) (hi : i < n) (hget : xs.getD i z3 = t) (hj : j < 3) (hM : t'.cs = t.cs.take j ++ [u] ++ t.cs.drop (j + 1)) (HB : Below base w0 W)
    (h : ∀ w1, kE.R e w1 base ok (.slice (some ⟨g, 0, none⟩) n cap) (xs.set i t') → Below base w0 w1 → W.grownBy w1 (some g) → wpList P ops Q rest a w1) : wpList P ops Q (o :: rest) a W := by
  obtain ⟨cc, hcl, hMM, hcc, _⟩ := Kd.R_elem HO z3 (i : Int) (by omega) (by omega)
  rw [Int.toNat_natCast, hget] at hMM
  have hce : cc = t.cs := ME_eq hMM
  subst hce
  refine Kd.R_store kE base hN hgd ty p x ho e (i : Int) j xs t' u [u] t.cs ok (fun _ => False) haddr (by rw [Int.toNat_natCast]; exact hoff) hx hu ht (by intro q hq; rw [List.mem_singleton.1 hq]; exact h1) HO (by omega) (by omega) hcl hcc (by show j + 1 ≤ 3; omega) hM.symm (fun _ hf => hf.elim) HB ?_
  intro w1 hR hB hg
  rw [Int.toNat_natCast] at hR
  exact h w1 hR hB hg


set_option maxRecDepth 100000 in
set_option maxHeartbeats 1000000 in
theorem markExpsS_c (A : Option Addr) (c : Nat) (ts : List E3) (k : Int) (w : World) (base : Nat) (ok : Nat → Prop) (hR : kE.R 121 w base ok (.slice A ts.length c) ts) (hn : ts.length ≤ 1048576) (hk : 0 ≤ k) (hk' : k ≤ 1099511627776) :
    Calls Try.prog 36 #[.slice A ts.length c, .int .i64 k] w (fun e w' => e = .returned (.int .i64 (k + 3 * ts.length)) ∧ kE.R 121 w' base ok (.slice A ts.length c) (marksE k ts.length) ∧ w.grownBy w' (Value.slice A ts.length c).ownBlock) := by
  go_enter Try.func36, Try.ntmps36
  go_wp2
  go_loopg [5, 1] ts.length (fun g v kk w' => ∃ i : Nat, i + g = ts.length ∧ v = .int .i64 i ∧ kk = .int .i64 (k + 3 * i) ∧ kE.R 121 w' base ok (.slice A ts.length c) (marksE k i ++ ts.drop i) ∧ w.grownBy w' (Value.slice A ts.length c).ownBlock)
  case atStart => exact ⟨0, by omega, rfl, by simp, by simpa [marksE] using hR, World.grownBy.refl _ _⟩
  case round =>
    obtain ⟨i, hik, rfl, rfl, hR1, hg⟩ := hrel
    have HIK := Lib.hid hik
    have HG := Lib.hid hg
    clear hik hg hR
    by_cases hlt : i < ts.length
    · obtain ⟨g, cap, hv, hg0, hg1, cells, hcells⟩ := Kd.R_form hR1 (by simp [marksE_len]; omega)
      injection hv with hv1 hv2 hv3
      subst hv1
      subst hv3
      clear hcells hv2
      have hlx : i < (marksE k i ++ ts.drop i).length := by simp [marksE_len]; omega
      have hset := fun t ht => marksE_step k ts i hlt t ht
      have HSET := Lib.hid hset
      clear hset
      generalize hxs : marksE k i ++ ts.drop i = xs at *
      have HXS := Lib.hid hxs
      clear hxs
      generalize ht : xs.getD i z3 = t at *
      have hi0 : (0 : Int) ≤ i := by omega
      have hi1 : (i : Int) < ts.length := by omega
      have hin : ((i : Int)).toNat = i := by omega
      have HB0 : Below base wr wr := Below.refl _ _
      go_wp2
      refine wp_loop_rounds 4 ?_
      rw [rounds_succ]
      go_wp2_with (((with_reducible refine gate_ (.store 5 (.tmp 23) (.tmp 21)) rfl ?_); refine exps_set rfl rfl 5 (.tmp 23) (.tmp 21) rfl i 0 _ (t) (⟨uB (k + 3 * i), t.b, t.c⟩) (.int .u8 ((k + 3 * i) % 256)) _ rfl (by omega) rfl rfl infoU1 rfl hR1 (by omega) (by first | assumption | exact getD_set _ _ _ _ (by simpa using hlx)) (by omega) (by simp only [E3.cs, uB_nat]; rfl) HB0 ?_; intro w2 hR2 HB1 hg2))
      rw [rounds_succ]
      go_wp2_with (((with_reducible refine gate_ (.store 5 (.tmp 23) (.tmp 21)) rfl ?_); refine exps_set rfl rfl 5 (.tmp 23) (.tmp 21) rfl i 1 _ (⟨uB (k + 3 * i), t.b, t.c⟩) (⟨uB (k + 3 * i), uB (k + 3 * i + 1), t.c⟩) (.int .u8 ((k + 3 * i + 1) % 256)) _ rfl (by omega) rfl rfl infoU1 rfl hR2 (by omega) (by first | assumption | exact getD_set _ _ _ _ (by simpa using hlx)) (by omega) (by simp only [E3.cs, uB_nat]; rfl) HB1 ?_; intro w2 hR3 HB2 hg3))
      rw [rounds_succ]
      go_wp2_with (((with_reducible refine gate_ (.store 5 (.tmp 23) (.tmp 21)) rfl ?_); refine exps_set rfl rfl 5 (.tmp 23) (.tmp 21) rfl i 2 _ (⟨uB (k + 3 * i), uB (k + 3 * i + 1), t.c⟩) (⟨uB (k + 3 * i), uB (k + 3 * i + 1), uB (k + 3 * i + 1 + 1)⟩) (.int .u8 ((k + 3 * i + 1 + 1) % 256)) _ rfl (by omega) rfl rfl infoU1 rfl hR3 (by omega) (by first | assumption | exact getD_set _ _ _ _ (by simpa using hlx)) (by omega) (by simp only [E3.cs, uB_nat]; rfl) HB2 ?_; intro w2 hR4 HB3 hg4))
      rw [rounds_succ]
      go_wp2
      go_roundg (ts.length - i - 1)
      case measure => have := HIK.out; omega
      case rel =>
        refine ⟨i + 1, by have := HIK.out; omega, by go_num, by go_num, ?_, grown_trans (grown_trans (grown_trans HG.out hg2) hg3) hg4⟩
        rw [List.set_set, List.set_set, HSET.out _ (by rw [markE, show k + 3 * (i : Int) + 2 = k + 3 * i + 1 + 1 by omega])] at hR4
        exact hR4
    · go_wp2
      go_ret
      have e : i = ts.length := by have := HIK.out; omega
      subst e
      exact ⟨rfl, by simpa using hR1, HG.out⟩

set_option maxRecDepth 100000 in
set_option maxHeartbeats 1000000 in
theorem heldExpsS_c (A : Option Addr) (c : Nat) (n : Nat) (k : Int) (w : World) (hC : kE.C w A n (marksE k n)) (hn : n ≤ 1048576) (hk : 0 ≤ k) (hk' : k ≤ 1099511627776) :
    Calls Try.prog 37 #[.slice A n c, .int .i64 k] w (Same (.int .i64 (k + 3 * n)) w) := by
  go_enter Try.func37, Try.ntmps37
  go_wp2
  go_loopg [5, 1] n (fun g v kk w' => ∃ i : Nat, i + g = n ∧ v = .int .i64 i ∧ kk = .int .i64 (k + 3 * i) ∧ w' = w)
  case atStart => exact ⟨0, by omega, rfl, by simp, rfl⟩
  case round =>
    obtain ⟨i, hik, rfl, rfl, rfl⟩ := hrel
    have HIK := Lib.hid hik
    clear hik
    by_cases hlt : i < n
    · obtain ⟨b, o, hA, q0, q1, q2⟩ := kE_at hC i hlt
      rw [marksE_get k n i hlt] at q0 q1 q2
      simp only [markE, uB_nat] at q0 q1 q2
      subst hA
      have hi0 : (0 : Int) ≤ i := by omega
      have hi1 : (i : Int) < n := by omega
      have hin : ((i : Int)).toNat = i := by omega
      have e2 : k + 3 * (i : Int) + 2 = k + 3 * i + 1 + 1 := by omega
      rw [e2] at q2
      clear e2
      go_wp2
      refine wp_loop_rounds 4 ?_
      rw [rounds_succ]
      go_wp2
      rw [rounds_succ]
      go_wp2
      rw [rounds_succ]
      go_wp2
      rw [rounds_succ]
      go_wp2
      go_roundg (n - i - 1)
      case measure => have := HIK.out; omega
      case rel => exact ⟨i + 1, by have := HIK.out; omega, by go_num, by go_num, rfl⟩
    · go_wp2
      go_ret
      have e : i = n := by have := HIK.out; omega
      subst e
      exact .mk rfl
theorem marksE_read {E lo : Nat} {W : World} {A : Option Addr} {n c : Nat} {ok : Nat → Prop} {k : Int} (h : kE.R E W lo ok (.slice A n c) (marksE k n)) : kE.C W A n (marksE k n) := by
  have := (Kd.R_reads' h).2.2
  rwa [marksE_len] at this
end Go.Proofs.Ytgieofidogkbaaa

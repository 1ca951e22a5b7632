/- The walks of the marks on rows of terms, and of the look at them; no condition. -/
import Derived.Test.YtgieofidogkbaaaCoef3
set_option linter.unusedVariables false
set_option linter.unusedSimpArgs false
namespace Go.Proofs.Ytgieofidogkbaaa
open Go.RowKit Go.Proofs.YtgieofidogkbaaaW.PrintWords
attribute [local go_sem] Later.cell Later.frozen Later.lt Later.lt_add Later.le Later.le_add Later.ne Later.ne' add_at

theorem infoU1 : (Try.prog.info? 5).map (·.size) = some 1 := by kernel_rfl
theorem grown_trans {a w w' : World} {row : Option Nat} (h : a.grownBy w row) (k : w.grownBy w' row) : a.grownBy w' row :=
  ⟨k.os.trans h.os, k.tape.trans h.tape, k.output.trans h.output, Nat.le_trans h.size k.size, fun i hi hr => (k.block i (Nat.lt_of_lt_of_le hi h.size) hr).trans (h.block i hi hr)⟩
/-- The byte that a number leaves. -/
def uB (k : Int) : UInt8 := UInt8.ofNat (k % 256).toNat
theorem uB_nat (k : Int) : ((uB k).toNat : Int) = k % 256 := by
  unfold uB
  rw [UInt8.toNat_ofNat']
  have h1 := Int.emod_nonneg k (show (256 : Int) ≠ 0 by omega)
  have h2 := Int.emod_lt_of_pos k (show (0 : Int) < 256 by omega)
  omega
def markT (k : Int) : T4 := ⟨⟨uB k, uB (k + 1), uB (k + 2)⟩, k + 3⟩
def marksL (k : Int) (n : Nat) : List T4 := (List.range n).map (fun i : Nat => markT (k + 4 * i))
theorem marksL_len (k : Int) (n : Nat) : (marksL k n).length = n := by simp [marksL]
theorem marksL_get (k : Int) (n i : Nat) (h : i < n) (z : T4) : (marksL k n).getD i z = markT (k + 4 * i) := by
  simp [marksL, List.getD_eq_getElem?_getD, h]
theorem marks_step (k : Int) (ts : List T4) (i : Nat) (hi : i < ts.length) (t : T4) (ht : t = markT (k + 4 * i)) : (marksL k i ++ ts.drop i).set i t = marksL k (i + 1) ++ ts.drop (i + 1) := by
  rw [List.set_append_right _ _ (by rw [marksL_len]; omega), marksL_len, Nat.sub_self, List.drop_eq_getElem_cons hi, List.set_cons_zero, marksL, marksL, List.range_succ, List.map_append, List.append_assoc, ht]
  rfl
theorem set_set' {α : Type} (l : List α) (i : Nat) (x y : α) : (l.set i x).set i y = l.set i y := by simp
theorem getD_set {α : Type} (l : List α) (i : Nat) (x z : α) (h : i < l.length) : (l.set i x).getD i z = x := by simp [List.getD_eq_getElem?_getD, h]
theorem M_eq {w : World} {base : Nat} {ok : Nat → Prop} {t : T4} {cs : List Value} (h : kT.M w base ok t cs) : cs = t.cs := h

/-- One cell of a term is written. -/
theorem term_set {w0 W : World} {P : Program} {ops : Array Oper} {rest : List Oper} {o : Oper} {a : Act} {Q : Exit → Act → World → Prop} {base e : Nat} (hN : o.dst = none) (hgd : o.guard = none) (ty : TypeId) (p x : Operand) (ho : o.op = .store ty p x)
    {g n cap o' : Nat} (i : Nat) (j : Nat) (xs : List T4) (t t' : T4) (u : Value) (ok : Nat → Prop)
    (haddr : a.eval p = .pointer (some ⟨g, o', none⟩)) (hoff : o' = i * 4 + j) (hx : a.eval x = u) (hu : u.cells.toList = [u]) (ht : (P.info? ty).map (·.size) = some 1) (h1 : u.oneCell' = true)
    (HO : kT.R e W base ok (.slice (some ⟨g, 0, none⟩) n cap) xs) (hi : i < n) (hget : xs.getD i z4 = t) (hj : j < 4) (hM : t'.cs = t.cs.take j ++ [u] ++ t.cs.drop (j + 1)) (HB : Below base w0 W)
    (h : ∀ w1, kT.R e w1 base ok (.slice (some ⟨g, 0, none⟩) n cap) (xs.set i t') → Below base w0 w1 → W.grownBy w1 (some g) → wpList P ops Q rest a w1) : wpList P ops Q (o :: rest) a W := by
  obtain ⟨cc, hcl, hMM, hcc, _⟩ := Kd.R_elem HO z4 (i : Int) (by omega) (by omega)
  rw [Int.toNat_natCast, hget] at hMM
  have hce : cc = t.cs := M_eq hMM
  subst hce
  refine Kd.R_store kT base hN hgd ty p x ho e (i : Int) j xs t' u [u] t.cs ok (fun _ => False) haddr (by rw [Int.toNat_natCast]; exact hoff) hx hu ht (by intro q hq; rw [List.mem_singleton.1 hq]; exact h1) HO (by omega) (by omega) hcl hcc (by show j + 1 ≤ 4; omega) hM.symm (fun _ hf => hf.elim) HB ?_
  intro w1 hR hB hg
  rw [Int.toNat_natCast] at hR
  exact h w1 hR hB hg


set_option maxRecDepth 100000 in
set_option maxHeartbeats 1000000 in
theorem markTermS_c (A : Option Addr) (c : Nat) (ts : List T4) (k : Int) (w : World) (base : Nat) (ok : Nat → Prop) (hR : kT.R 127 w base ok (.slice A ts.length c) ts) (hn : ts.length ≤ 1048576) (hk : 0 ≤ k) (hk' : k ≤ 1099511627776) :
    Calls Try.prog 151 #[.slice A ts.length c, .int .i64 k] w (fun e w' => e = .returned (.int .i64 (k + 4 * ts.length)) ∧ kT.R 127 w' base ok (.slice A ts.length c) (marksL k ts.length) ∧ w.grownBy w' (Value.slice A ts.length c).ownBlock) := by
  go_enter Try.func151, Try.ntmps151
  go_wp2
  go_loopg [5, 1] ts.length (fun g v kk w' => ∃ i : Nat, i + g = ts.length ∧ v = .int .i64 i ∧ kk = .int .i64 (k + 4 * i) ∧ kT.R 127 w' base ok (.slice A ts.length c) (marksL k i ++ ts.drop i) ∧ w.grownBy w' (Value.slice A ts.length c).ownBlock)
  case atStart => exact ⟨0, by omega, rfl, by simp, by simpa [marksL] using hR, World.grownBy.refl _ _⟩
  case round =>
    obtain ⟨i, hik, rfl, rfl, hR1, hg⟩ := hrel
    have HIK := Lib.hid hik
    have HG := Lib.hid hg
    clear hik hg hR
    by_cases hlt : i < ts.length
    · obtain ⟨g, cap, hv, hg0, hg1, cells, hcells⟩ := Kd.R_form hR1 (by simp [marksL_len]; omega)
      injection hv with hv1 hv2 hv3
      subst hv1
      subst hv3
      clear hcells hv2
      have hlx : i < (marksL k i ++ ts.drop i).length := by simp [marksL_len]; omega
      have hset := fun t ht => marks_step k ts i hlt t ht
      have HSET := Lib.hid hset
      clear hset
      generalize hxs : marksL k i ++ ts.drop i = xs at *
      have HXS := Lib.hid hxs
      clear hxs
      generalize ht : xs.getD i z4 = t at *
      have hi0 : (0 : Int) ≤ i := by omega
      have hi1 : (i : Int) < ts.length := by omega
      have hin : ((i : Int)).toNat = i := by omega
      have HB0 : Below base wr wr := Below.refl _ _
      go_wp2
      refine wp_loop_rounds 4 ?_
      rw [rounds_succ]
      go_wp2_with (((with_reducible refine gate_ (.store 5 (.tmp 24) (.tmp 21)) rfl ?_); refine term_set rfl rfl 5 (.tmp 24) (.tmp 21) rfl i 0 _ (t) (⟨⟨uB (k + 4 * i), t.e.b, t.e.c⟩, t.v⟩) (.int .u8 ((k + 4 * i) % 256)) _ rfl (by omega) rfl rfl infoU1 rfl hR1 (by omega) (by first | assumption | exact getD_set _ _ _ _ (by simpa using hlx)) (by omega) (by simp only [T4.cs, uB_nat]; rfl) HB0 ?_; intro w2 hR2 HB1 hg2))
      rw [rounds_succ]
      go_wp2_with (((with_reducible refine gate_ (.store 5 (.tmp 24) (.tmp 21)) rfl ?_); refine term_set rfl rfl 5 (.tmp 24) (.tmp 21) rfl i 1 _ (⟨⟨uB (k + 4 * i), t.e.b, t.e.c⟩, t.v⟩) (⟨⟨uB (k + 4 * i), uB (k + 4 * i + 1), t.e.c⟩, t.v⟩) (.int .u8 ((k + 4 * i + 1) % 256)) _ rfl (by omega) rfl rfl infoU1 rfl hR2 (by omega) (by first | assumption | exact getD_set _ _ _ _ (by simpa using hlx)) (by omega) (by simp only [T4.cs, uB_nat]; rfl) HB1 ?_; intro w2 hR3 HB2 hg3))
      rw [rounds_succ]
      go_wp2_with (((with_reducible refine gate_ (.store 5 (.tmp 24) (.tmp 21)) rfl ?_); refine term_set rfl rfl 5 (.tmp 24) (.tmp 21) rfl i 2 _ (⟨⟨uB (k + 4 * i), uB (k + 4 * i + 1), t.e.c⟩, t.v⟩) (⟨⟨uB (k + 4 * i), uB (k + 4 * i + 1), uB (k + 4 * i + 1 + 1)⟩, t.v⟩) (.int .u8 ((k + 4 * i + 1 + 1) % 256)) _ rfl (by omega) rfl rfl infoU1 rfl hR3 (by omega) (by first | assumption | exact getD_set _ _ _ _ (by simpa using hlx)) (by omega) (by simp only [T4.cs, uB_nat]; rfl) HB2 ?_; intro w2 hR4 HB3 hg4))
      rw [rounds_succ]
      go_wp2_with (((with_reducible refine gate_ (.store 2 (.tmp 31) (.tmp 29)) rfl ?_); refine term_set rfl rfl 2 (.tmp 31) (.tmp 29) rfl i 3 _ (⟨⟨uB (k + 4 * i), uB (k + 4 * i + 1), uB (k + 4 * i + 1 + 1)⟩, t.v⟩) (⟨⟨uB (k + 4 * i), uB (k + 4 * i + 1), uB (k + 4 * i + 1 + 1)⟩, k + 4 * i + 1 + 1 + 1⟩) (.int .i64 (k + 4 * i + 1 + 1 + 1)) _ rfl (by omega) rfl rfl infoI1 rfl hR4 (by omega) (by first | assumption | exact getD_set _ _ _ _ (by simpa using hlx)) (by omega) (by simp only [T4.cs, uB_nat]; rfl) HB3 ?_; intro w2 hR5 HB4 hg5))
      go_roundg (ts.length - i - 1)
      case measure => have := HIK.out; omega
      case rel =>
        refine ⟨i + 1, by have := HIK.out; omega, by go_num, by go_num, ?_, grown_trans (grown_trans (grown_trans (grown_trans HG.out hg2) hg3) hg4) hg5⟩
        rw [List.set_set, List.set_set, List.set_set, HSET.out _ (by rw [markT, show k + 4 * (i : Int) + 2 = k + 4 * i + 1 + 1 by omega, show k + 4 * (i : Int) + 3 = k + 4 * i + 1 + 1 + 1 by omega])] at hR5
        exact hR5
    · go_wp2
      go_ret
      have e : i = ts.length := by have := HIK.out; omega
      subst e
      exact ⟨rfl, by simpa using hR1, HG.out⟩

theorem neg_one_lt : True := trivial
set_option maxRecDepth 100000 in
set_option maxHeartbeats 1000000 in
theorem heldTermS_c (A : Option Addr) (c : Nat) (n : Nat) (k : Int) (w : World) (hC : kT.C w A n (marksL k n)) (hn : n ≤ 1048576) (hk : 0 ≤ k) (hk' : k ≤ 1099511627776) :
    Calls Try.prog 152 #[.slice A n c, .int .i64 k] w (Same (.int .i64 (k + 4 * n)) w) := by
  go_enter Try.func152, Try.ntmps152
  go_wp2
  go_loopg [5, 1] n (fun g v kk w' => ∃ i : Nat, i + g = n ∧ v = .int .i64 i ∧ kk = .int .i64 (k + 4 * i) ∧ w' = w)
  case atStart => exact ⟨0, by omega, rfl, by simp, rfl⟩
  case round =>
    obtain ⟨i, hik, rfl, rfl, rfl⟩ := hrel
    have HIK := Lib.hid hik
    clear hik
    by_cases hlt : i < n
    · obtain ⟨b, o, hA, q0, q1, q2, q3⟩ := kT_at hC i hlt z4
      rw [marksL_get k n i hlt] at q0 q1 q2 q3
      simp only [markT, uB_nat] at q0 q1 q2 q3
      subst hA
      have hi0 : (0 : Int) ≤ i := by omega
      have hi1 : (i : Int) < n := by omega
      have hin : ((i : Int)).toNat = i := by omega
      have e2 : k + 4 * (i : Int) + 2 = k + 4 * i + 1 + 1 := by omega
      have e3 : k + 4 * (i : Int) + 3 = k + 4 * i + 1 + 1 + 1 := by omega
      rw [e2] at q2
      rw [e3] at q3
      clear e2 e3
      go_wp2
      refine wp_loop_rounds 4 ?_
      rw [rounds_succ]
      go_wp2
      rw [rounds_succ]
      go_wp2
      rw [rounds_succ]
      go_wp2
      rw [rounds_succ]
      go_wp2
      go_roundg (n - i - 1)
      case measure => have := HIK.out; omega
      case rel => exact ⟨i + 1, by have := HIK.out; omega, by go_num, by go_num, rfl⟩
    · go_wp2
      go_ret
      have e : i = n := by have := HIK.out; omega
      subst e
      exact .mk rfl

theorem markPoly_c (p d : Int) (A : Option Addr) (c : Nat) (ts : List T4) (k : Int) (w : World) (base : Nat) (ok : Nat → Prop) (hR : kT.R 127 w base ok (.slice A ts.length c) ts) (hn : ts.length ≤ 1048576) (hk : 0 ≤ k) (hk' : k ≤ 1099511627776) :
    Calls Try.prog 57 #[.agg #[.int .i64 p, .int .i64 d, .slice A ts.length c], .int .i64 k] w (fun e w' => e = .returned (.int .i64 (k + 4 * ts.length)) ∧ kT.R 127 w' base ok (.slice A ts.length c) (marksL k ts.length) ∧ w.grownBy w' (Value.slice A ts.length c).ownBlock) := by
  have H := markTermS_c A c ts k _ base ok (Kd.R_below hR (Below.alloc (Below.refl _ _) (Nat.le_refl _) (.cells #[.int .i64 p, .int .i64 d, .slice A ts.length c] 41))) hn hk hk'
  go_enter Try.func57, Try.ntmps57
  go_wp2_with (go_at_call 151; refine H.mono ?_; intro e w' h; obtain ⟨rfl, hR', hg⟩ := h)
  go_ret
  exact ⟨rfl, hR', grown_trans (World.grownBy_alloc _ _ _) hg⟩

theorem heldPoly_c (p d : Int) (A : Option Addr) (c : Nat) (n : Nat) (k : Int) (w : World) (hC : kT.C w A n (marksL k n)) (hn : n ≤ 1048576) (hk : 0 ≤ k) (hk' : k ≤ 1099511627776) :
    Calls Try.prog 58 #[.agg #[.int .i64 p, .int .i64 d, .slice A n c], .int .i64 k] w (Gives (.int .i64 (k + 4 * n)) w) := by
  have hC' := Kd.C_alloc hC (.cells #[.int .i64 p, .int .i64 d, .slice A n c] 41)
  go_enter Try.func58, Try.ntmps58
  go_wp2_with (go_at_call 152; (with_reducible refine call_same (heldTermS_c _ _ _ _ _ hC' hn hk hk') ?_))
  go_ret
  exact .mk rfl (by repeat (first | (with_reducible assumption) | (with_reducible exact Below.refl _ _) | ((with_reducible refine Below.alloc ?_ ?_ _); rotate_left; (focus (first | omega | (simp; done) | (simp; omega) | (simp [Later.le, Later.le_add, Later.lt, Later.lt_add]; done) | (simp [Later.le, Later.le_add, Later.lt, Later.lt_add]; omega)))) | (with_reducible refine Below.drew ?_) | (with_reducible refine pw_below_drewN ?_ _) | ((with_reducible refine Below.setCell ?_ ?_ _); rotate_left; (focus (first | omega | (simp; done) | (simp; omega) | (simp [Later.le, Later.le_add, Later.lt, Later.lt_add]; done) | (simp [Later.le, Later.le_add, Later.lt, Later.lt_add]; omega)))) | ((with_reducible refine below_hop (by assumption) ?_ ?_); rotate_left; (focus (first | omega | (simp; done) | (simp; omega) | (simp [Later.le, Later.le_add, Later.lt, Later.lt_add]; done) | (simp [Later.le, Later.le_add, Later.lt, Later.lt_add]; omega)))) | ((with_reducible refine bel_later _ ?_ ?_); rotate_left; (focus (first | omega | (simp; done) | (simp; omega) | (simp [Later.le, Later.le_add, Later.lt, Later.lt_add]; done) | (simp [Later.le, Later.le_add, Later.lt, Later.lt_add]; omega))))))
end Go.Proofs.Ytgieofidogkbaaa

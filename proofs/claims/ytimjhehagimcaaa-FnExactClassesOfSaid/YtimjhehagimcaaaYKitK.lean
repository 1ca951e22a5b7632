/- Walks of the functions on polynomials, numbers and rows, of both sides; no condition. -/
import Derived.Test.YtimjhehagimcaaaYKitP
import Derived.Test.YtimjhehagimcaaaYKitC
import Derived.Test.YtimjhehagimcaaaYLawKit2
/- Marks on lists of numbers; no condition. -/
set_option linter.unusedVariables false
set_option linter.unusedSimpArgs false
namespace Go.Proofs.Ytimjhehagimcaaa
open Go.RowKit Go.Proofs.YtimjhehagimcaaaW.PrintWords
attribute [local go_sem] Later.cell Later.frozen Later.lt Later.lt_add Later.le Later.le_add Later.ne Later.ne' add_at
theorem grownBy_setCellI (W : World) (a : Addr) (v : Value) : W.grownBy (W.setCell a v) (some a.block) := ⟨rfl, rfl, rfl, by simp, fun i _ hi => Below.heap_setCell W a v i (fun e => hi (by rw [e]))⟩
def marksI (k : Int) (n : Nat) : List Int := (List.range n).map (fun i : Nat => k + i)
theorem marksI_len (k : Int) (n : Nat) : (marksI k n).length = n := by simp [marksI]
theorem marksI_step (k : Int) (xs : List Int) (i : Nat) (hi : i < xs.length) : (marksI k i ++ xs.drop i).set i (k + i) = marksI k (i + 1) ++ xs.drop (i + 1) := by
  rw [List.set_append_right _ _ (by rw [marksI_len]; omega), marksI_len, Nat.sub_self, List.drop_eq_getElem_cons hi, List.set_cons_zero, marksI, marksI, List.range_succ, List.map_append, List.append_assoc]
  rfl
theorem kI_cellM {W : World} {e base g n cap : Nat} {ok : Nat → Prop} {xs : List Int} (h : kI.R e W base ok (.slice (some ⟨g, 0, none⟩) n cap) xs) (i : Nat) (hi : i < n) : W.cell? ⟨g, i, none⟩ = some (.int .i64 (xs.getD i 0)) ∧ W.frozen? ⟨g, i, none⟩ = false :=
  Kd.R_celln 0 h (i : Int) (by omega) (by omega)
theorem kI_setM {W : World} {e base g n cap : Nat} {ok : Nat → Prop} {xs : List Int} (h : kI.R e W base ok (.slice (some ⟨g, 0, none⟩) n cap) xs) (i : Nat) (x : Int) : kI.R e (W.setCell ⟨g, i, none⟩ (.int .i64 x)) base ok (.slice (some ⟨g, 0, none⟩) n cap) (xs.set i x) :=
  Kd.R_putn h (i : Int) x
set_option maxRecDepth 100000 in
theorem markInt64S_c (A : Option Addr) (c : Nat) (xs : List Int) (k : Int) (w : World) (base : Nat) (ok : Nat → Prop) (hR : kI.R 2 w base ok (.slice A xs.length c) xs) (hn : xs.length ≤ 1048576) (hk : 0 ≤ k) (hk' : k ≤ 1099511627776) :
    Calls Try.prog 39 #[.slice A xs.length c, .int .i64 k] w (fun e w' => e = .returned (.int .i64 (k + xs.length)) ∧ kI.R 2 w' base ok (.slice A xs.length c) (marksI k xs.length) ∧ w.grownBy w' (Value.slice A xs.length c).ownBlock) := by
  go_enter Try.func39, Try.ntmps39
  go_wp2
  go_loopg [5, 1] xs.length (fun g v kk w' => ∃ i : Nat, i + g = xs.length ∧ v = .int .i64 i ∧ kk = .int .i64 (k + i) ∧ kI.R 2 w' base ok (.slice A xs.length c) (marksI k i ++ xs.drop i) ∧ w.grownBy w' (Value.slice A xs.length c).ownBlock)
  case atStart => exact ⟨0, by omega, rfl, by simp, by simpa [marksI] using hR, World.grownBy.refl _ _⟩
  case round =>
    obtain ⟨i, hik, rfl, rfl, hR1, hg⟩ := hrel
    have HIK := Lib.hid hik
    have HG := Lib.hid hg
    clear hik hg hR
    by_cases hlt : i < xs.length
    · obtain ⟨g, cap, hv, hg0, hg1, cells, hcells⟩ := Kd.R_form hR1 (by simp [marksI_len]; omega)
      injection hv with hv1 hv2 hv3
      subst hv1
      subst hv3
      clear hcells hv2
      have HS := Lib.hid (marksI_step k xs i hlt)
      obtain ⟨q0, q1⟩ := kI_cellM hR1 i hlt
      have hi0 : (0 : Int) ≤ i := by omega
      have hi1 : (i : Int) < xs.length := by omega
      have hin : ((i : Int)).toNat = i := by omega
      have HR2 := Lib.hid (kI_setM hR1 i (k + i))
      have HG2 := Lib.hid (grownBy_setCellI wr ⟨g, i, none⟩ (.int .i64 (k + i)))
      generalize marksI k i ++ xs.drop i = ys at *
      clear hR1
      go_wp2
      go_roundg (xs.length - i - 1)
      case measure => have := HIK.out; omega
      case rel => exact ⟨i + 1, by have := HIK.out; omega, by go_num, by go_num, by rw [← HS.out]; exact HR2.out, grown_trans HG.out HG2.out⟩
    · go_wp2
      go_ret
      have e : i = xs.length := by have := HIK.out; omega
      subst e
      exact ⟨rfl, by simpa using hR1, HG.out⟩
theorem to_makesI {xs : List Int} {E : Nat} {P : Program} {f : FuncId} {args : Array Value} {V W : World} {R : Ending → World → Prop} (hW : Below V.heap.size V W)
    (h : Calls P f args W (Makes kI E xs W)) (k : ∀ W' A c, Below V.heap.size V W' → Below W.heap.size W W' → xs.length ≤ c → kI.R E W' W.heap.size (fun _ => True) (.slice A xs.length c) xs → R (.returned (.slice A xs.length c)) W') : Calls P f args W R :=
  h.mono fun _ w' ⟨v, he, hr, hb⟩ => by
    subst he
    obtain ⟨A, c, rfl, hl, _⟩ := Kd.R_reads hr
    exact k w' A c (hW.trans (hb.mono hW.size)) hb hl hr
end Go.Proofs.Ytimjhehagimcaaa
/- More for the laws of functions on groups: what calls leave, and lists of numbers and of matrices; no condition. -/
set_option linter.unusedVariables false
set_option linter.unusedSimpArgs false
namespace Go.Proofs.Ytimjhehagimcaaa
open Go.RowKit Go.Proofs.YtimjhehagimcaaaW.PrintWords
attribute [local go_sem] Later.cell Later.frozen Later.lt Later.lt_add Later.le Later.le_add Later.ne Later.ne' add_at
theorem eqI_same (A B : Option Addr) (c b : Nat) (xs : List Int) (w : World) (hC : kI.C w A xs.length xs) (hD : kI.C w B xs.length xs) (hn : xs.length ≤ 1048576) : Calls Try.prog 38 #[.slice A xs.length c, .slice B xs.length b] w (Gives (.bool true) w) := by
  have h := eqInt64S_c A B c b xs xs w hC hD hn hn
  rwa [show (xs == xs) = true from by simp] at h
end Go.Proofs.Ytimjhehagimcaaa

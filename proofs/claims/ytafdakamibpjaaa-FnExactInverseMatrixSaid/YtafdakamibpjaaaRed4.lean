/- The walk of the program's reduce; no condition. -/
import Derived.Test.YtafdakamibpjaaaKitR
import Derived.Test.YtafdakamibpjaaaSort1
set_option linter.unusedVariables false
set_option linter.unusedSimpArgs false
namespace Go.Proofs.Ytafdakamibpjaaa
open Go.RowKit Go.Proofs.YtafdakamibpjaaaW.PrintWords
attribute [local go_sem] Later.cell Later.frozen Later.lt Later.lt_add Later.le Later.le_add Later.ne Later.ne' add_at

theorem call_made {P : Program} {f : FuncId} {args : Array Value} {W : World} {base : Nat} {Rr : Value → World → Prop} {R : Ending → World → Prop}
    (h : Calls P f args W (fun e w' => ∃ v, e = .returned v ∧ Rr v w' ∧ Below base W w')) (k : ∀ w' v, Rr v w' → Below base W w' → R (.returned v) w') : Calls P f args W R :=
  h.mono fun _ w' ⟨v, he, hr, hb⟩ => by subst he; exact k w' v hr hb
theorem take_fold_step {p : Int} {rows : List (List Int)} {i : Nat} (hi : i < rows.length) : (rows.take (i + 1)).foldl (takeL p) [] = takeL p ((rows.take i).foldl (takeL p) []) (rows.getD i []) := by
  rw [List.take_succ_eq_append_getElem hi, List.foldl_append, List.getD_eq_getElem?_getD, List.getElem?_eq_getElem hi]
  rfl
set_option maxRecDepth 100000 in
set_option maxHeartbeats 2000000 in
theorem reduce_c {p : Int} {L : Nat} (hp : primeZ p) (hL : L ≤ 100000) {rows : List (List Int)} (hn : rows.length ≤ 100000) (hr : ∀ r ∈ rows, RowOk p L r) {A : Option Addr} {n c : Nat} {w : World} (hC : kL.C w A n rows) :
    Calls Try.prog 96 #[.int .i64 p, .slice A n c] w (Makes kL 75 (echL p rows) w) := by
  obtain rfl := Kd.C_len hC
  have hR0 := R_zero kL (heap_alloc_last w (.cells #[] 75)) (base := w.heap.size) (by simp)
  have hB0 : Below w.heap.size w (w.alloc (.cells #[] 75)) := (by repeat (first | (with_reducible assumption) | (with_reducible exact Below.refl _ _) | ((with_reducible refine Below.alloc ?_ ?_ _); rotate_left; (focus (first | omega | (simp; done) | (simp; omega) | (simp [Later.le, Later.le_add, Later.lt, Later.lt_add]; done) | (simp [Later.le, Later.le_add, Later.lt, Later.lt_add]; omega)))) | (with_reducible refine Below.drew ?_) | (with_reducible refine pw_below_drewN ?_ _) | ((with_reducible refine Below.setCell ?_ ?_ _); rotate_left; (focus (first | omega | (simp; done) | (simp; omega) | (simp [Later.le, Later.le_add, Later.lt, Later.lt_add]; done) | (simp [Later.le, Later.le_add, Later.lt, Later.lt_add]; omega)))) | ((with_reducible refine below_hop (by assumption) ?_ ?_); rotate_left; (focus (first | omega | (simp; done) | (simp; omega) | (simp [Later.le, Later.le_add, Later.lt, Later.lt_add]; done) | (simp [Later.le, Later.le_add, Later.lt, Later.lt_add]; omega)))) | ((with_reducible refine bel_later _ ?_ ?_); rotate_left; (focus (first | omega | (simp; done) | (simp; omega) | (simp [Later.le, Later.le_add, Later.lt, Later.lt_add]; done) | (simp [Later.le, Later.le_add, Later.lt, Later.lt_add]; omega))))))
  go_enter Try.func96, Try.ntmps96
  go_wp2
  go_loopg [11, 5] rows.length (fun k vi vo w' => ∃ (i : Nat) (y : Later w), i + k = rows.length ∧ vi = .int .i64 i ∧ w' = y.W ∧ kL.R 75 y.W w.heap.size (fun _ => True) vo ((rows.take i).foldl (takeL p) []))
  case atStart => exact ⟨0, ⟨_, hB0⟩, by omega, rfl, rfl, hR0⟩
  case round =>
    clear hR0 hB0
    obtain ⟨i, y, hik, rfl, rfl, hR⟩ := hrel
    have HIK := Lib.hid hik
    clear hik
    obtain ⟨hred, holen⟩ := echL_take hp hr i
    have hperm := take_fold hp hr i
    by_cases hi : i < rows.length
    · obtain ⟨b, o, Br, cr, hA, q0, hcr, hCr⟩ := kL_at hC i hi
      subst hA
      have q0 := y.keep q0
      have hCy := Kd.C_below hCr y.ok
      have hrow : RowOk p L (rows.getD i []) := hr _ (getD_mem _ hi)
      have HST := Lib.hid (take_fold_step (p := p) hi)
      obtain ⟨Ao, co, hvo⟩ := Kd.R_slice hR
      subst hvo
      have hol : ((rows.take i).foldl (takeL p) []).length ≤ 100000 := by rw [hperm.length_eq]; omega
      have hled : ∀ r ∈ (rows.take i).foldl (takeL p) [], Led p L r := fun r hr => hred.led r (hperm.mem_iff.1 hr)
      have hi0 : (0 : Int) ≤ i := by omega
      have hi1 : (i : Int) < rows.length := by omega
      have hin : ((i : Int)).toNat = i := by omega
      have htk := take_i (d := cr) hp hL hol hled hrow y.ok.size hR hCy
      clear hperm
      generalize rows.getD i [] = row at *
      generalize (rows.take i).foldl (takeL p) [] = out at *
      go_wp2_with ((go_at_call 134; (with_reducible refine call_made htk ?_); intro w6 v6 hR6 hB6))
      go_roundg (gk - 1)
      case measure => have := HIK.out; omega
      case rel =>
        refine ⟨i + 1, ⟨w6, y.ok.trans hB6⟩, by have := HIK.out; omega, by go_num, rfl, ?_⟩
        rw [HST.out]
        exact hR6
    · have hie : i = rows.length := by have := HIK.out; omega
      subst hie
      rw [List.take_length] at hR hred hperm holen
      obtain ⟨Ao, co, hvo⟩ := Kd.R_slice hR
      subst hvo
      have hledo : ∀ r ∈ rows.foldl (takeL p) [], r.length ≤ 1000000 := fun r hr => by
        rw [(hred.led r (hperm.mem_iff.1 hr)).ok.len]
        omega
      have hol : (rows.foldl (takeL p) []).length ≤ 1000000 := by rw [hperm.length_eq]; omega
      by_cases h0 : 0 < (rows.foldl (takeL p) []).length
      · obtain ⟨g, cap, hv, hgb, hgs, _⟩ := Kd.R_form hR h0
        injection hv with hv1 hv3 hv2
        subst hv1
        subst hv2
        have hsort := sort_rows hR hledo hol
        have HRD := Lib.hid hred
        have HPM := Lib.hid hperm
        clear hred hperm hledo
        generalize rows.foldl (takeL p) [] = out at *
        go_wp2_with ((go_at_call 135; refine hsort.mono ?_; rintro e w7 ⟨rfl, out', hp1, hs1, hR7, hB7⟩))
        have heq := sorted_eq (hp1.trans HPM.out) HRD.out hs1
        refine bodyPost_ret (v := .slice (some ⟨g, 0, none⟩) out.length co) (by simp [results, Try.results96, go_sem]) rfl ⟨_, rfl, ?_, y.ok.trans hB7⟩
        rw [← heq]
        exact hR7
      · have hnil : rows.foldl (takeL p) [] = [] := List.eq_nil_of_length_eq_zero (by omega)
        have he : echL p rows = [] := by
          rw [hnil] at hperm
          exact hperm.nil_eq.symm
        rw [hnil] at hR ⊢
        have hsort := fun fv W => Try.slices_SortFunc_none (α := Int) Ao co fv W
        clear hperm hred hledo hol h0
        go_wp2_with ((go_at_call 135; refine (hsort _ _).mono ?_; rintro e w7 ⟨rfl, rfl⟩))
        refine bodyPost_ret (v := .slice Ao 0 co) (by simp [results, Try.results96, go_sem]) rfl ⟨_, rfl, ?_, y.ok⟩
        rw [he]
        exact hR
end Go.Proofs.Ytafdakamibpjaaa

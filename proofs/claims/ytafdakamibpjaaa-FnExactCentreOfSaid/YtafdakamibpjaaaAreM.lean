/- The walk of areMatrices; no condition. -/
import Derived.Test.YtafdakamibpjaaaIsMat2
set_option linter.unusedVariables false
set_option linter.unusedSimpArgs false
namespace Go.Proofs.Ytafdakamibpjaaa
open Go.RowKit Go.Proofs.YtafdakamibpjaaaW.PrintWords
attribute [local go_sem] Later.cell Later.frozen Later.lt Later.lt_add Later.le Later.le_add Later.ne Later.ne' add_at

def zM : M9 := ⟨⟨0, 0, 0⟩, ⟨0, 0, 0⟩, ⟨0, 0, 0⟩⟩
theorem kM_at {w : World} {A : Option Addr} {n : Nat} {ms : List M9} (h : kM.C w A n ms) (i : Nat) (hi : i < n) :
    ∃ b o, A = some ⟨b, o, none⟩ ∧ w.cell? ⟨b, o + i * 9, none⟩ = some (.int .u8 ((ms.getD i zM).r0.a.toNat : Int)) ∧ w.cell? ⟨b, o + i * 9 + 1, none⟩ = some (.int .u8 ((ms.getD i zM).r0.b.toNat : Int)) ∧ w.cell? ⟨b, o + i * 9 + 2, none⟩ = some (.int .u8 ((ms.getD i zM).r0.c.toNat : Int)) ∧
      w.cell? ⟨b, o + i * 9 + 3, none⟩ = some (.int .u8 ((ms.getD i zM).r1.a.toNat : Int)) ∧ w.cell? ⟨b, o + i * 9 + 4, none⟩ = some (.int .u8 ((ms.getD i zM).r1.b.toNat : Int)) ∧ w.cell? ⟨b, o + i * 9 + 5, none⟩ = some (.int .u8 ((ms.getD i zM).r1.c.toNat : Int)) ∧
      w.cell? ⟨b, o + i * 9 + 6, none⟩ = some (.int .u8 ((ms.getD i zM).r2.a.toNat : Int)) ∧ w.cell? ⟨b, o + i * 9 + 7, none⟩ = some (.int .u8 ((ms.getD i zM).r2.b.toNat : Int)) ∧ w.cell? ⟨b, o + i * 9 + 8, none⟩ = some (.int .u8 ((ms.getD i zM).r2.c.toNat : Int)) := by
  obtain ⟨b, o, c, hA, hK, hc⟩ := C_at h (by decide) i hi zM
  have hK' : c = M9.cs (ms.getD i zM) := hK
  subst hK'
  exact ⟨b, o, hA, hc 0 _ rfl, hc 1 _ rfl, hc 2 _ rfl, hc 3 _ rfl, hc 4 _ rfl, hc 5 _ rfl, hc 6 _ rfl, hc 7 _ rfl, hc 8 _ rfl⟩
def areB (p n : Int) (ms : List M9) : Bool := ms.all (matB p n) && primeB p && inB n 1 3
theorem areB_no {p n : Int} {ms : List M9} {i : Nat} (hi : i < ms.length) (h : matB p n (ms.getD i zM) = false) : areB p n ms = false := by
  have : ms.all (matB p n) = false := by
    rw [← Bool.not_eq_true, List.all_eq_true]
    intro hc
    have := hc _ (getD_mem zM hi)
    rw [h] at this
    exact absurd this (by decide)
  simp [areB, this]
theorem areB_yes {p n : Int} {ms : List M9} (h : ∀ i, i < ms.length → matB p n (ms.getD i zM) = true) : areB p n ms = (primeB p && inB n 1 3) := by
  have : ms.all (matB p n) = true := by
    rw [List.all_eq_true]
    intro x hx
    obtain ⟨i, hi, rfl⟩ := List.getElem_of_mem hx
    have := h i hi
    rwa [List.getD_eq_getElem?_getD, List.getElem?_eq_getElem hi] at this
  simp [areB, this]

set_option maxRecDepth 100000 in
set_option maxHeartbeats 1000000 in
theorem areMatrices_c (p n : Int) (A : Option Addr) (c : Nat) (ms : List M9) (w : World) (hC : kM.C w A ms.length ms) (hn : ms.length ≤ 9223372036854775807) :
    Calls Try.prog 71 #[.int .i64 p, .int .i64 n, .slice A ms.length c] w (Gives (.bool (areB p n ms)) w) := by
  go_enter Try.func71, Try.ntmps71
  go_wp2
  go_loopg [11] ms.length (fun k v w' => ∃ (i : Nat) (y : Later w), i + k = ms.length ∧ v = .int .i64 i ∧ w' = y.W ∧ ∀ j, j < i → matB p n (ms.getD j zM) = true)
  case atStart => exact ⟨0, ⟨w, Below.refl _ _⟩, by omega, rfl, rfl, fun j hj => by omega⟩
  case round =>
    obtain ⟨i, y, hik, rfl, rfl, hs⟩ := hrel
    have HIK := Lib.hid hik
    have HS := Lib.hid hs
    clear hik hs
    by_cases hlt : i < ms.length
    · obtain ⟨b, o, hA, q0, q1, q2, q3, q4, q5, q6, q7, q8⟩ := kM_at hC i hlt
      subst hA
      have q0 := y.keep q0
      have q1 := y.keep q1
      have q2 := y.keep q2
      have q3 := y.keep q3
      have q4 := y.keep q4
      have q5 := y.keep q5
      have q6 := y.keep q6
      have q7 := y.keep q7
      have q8 := y.keep q8
      have hi0 : (0 : Int) ≤ i := by omega
      have hi1 : (i : Int) < ms.length := by omega
      have hin : ((i : Int)).toNat = i := by omega
      generalize hm : ms.getD i zM = m at *
      have HM := Lib.hid hm
      clear hm
      cases hb : matB p n m with
      | false =>
        go_wp2_with ((go_at_call 19; (first | (with_reducible refine call_later2 (hb ▸ implIsMatrix_c p n m _) ?_) | (with_reducible refine call_later (hb ▸ implIsMatrix_c p n m _) ?_)); intro x2))
        have e := areB_no (p := p) (n := n) hlt (by rw [HM.out]; exact hb)
        rw [e]
        have hx2 := x2.ok
        have hxs := x2.ok.size
        exact bodyPost_ret (v := .bool false) (by simp [results, Try.results71, go_sem]) rfl (.mk rfl (by repeat (first | (with_reducible assumption) | (with_reducible exact Below.refl _ _) | ((with_reducible refine Below.alloc ?_ ?_ _); rotate_left; (focus (first | omega | (simp; done) | (simp; omega) | (simp [Later.le, Later.le_add, Later.lt, Later.lt_add]; done) | (simp [Later.le, Later.le_add, Later.lt, Later.lt_add]; omega)))) | (with_reducible refine Below.drew ?_) | (with_reducible refine pw_below_drewN ?_ _) | ((with_reducible refine Below.setCell ?_ ?_ _); rotate_left; (focus (first | omega | (simp; done) | (simp; omega) | (simp [Later.le, Later.le_add, Later.lt, Later.lt_add]; done) | (simp [Later.le, Later.le_add, Later.lt, Later.lt_add]; omega)))) | ((with_reducible refine below_hop (by assumption) ?_ ?_); rotate_left; (focus (first | omega | (simp; done) | (simp; omega) | (simp [Later.le, Later.le_add, Later.lt, Later.lt_add]; done) | (simp [Later.le, Later.le_add, Later.lt, Later.lt_add]; omega)))) | ((with_reducible refine bel_later _ ?_ ?_); rotate_left; (focus (first | omega | (simp; done) | (simp; omega) | (simp [Later.le, Later.le_add, Later.lt, Later.lt_add]; done) | (simp [Later.le, Later.le_add, Later.lt, Later.lt_add]; omega)))))))
      | true =>
        go_wp2_with ((go_at_call 19; (first | (with_reducible refine call_later2 (hb ▸ implIsMatrix_c p n m _) ?_) | (with_reducible refine call_later (hb ▸ implIsMatrix_c p n m _) ?_)); intro x2))
        go_roundg (gk - 1)
        case measure => have := HIK.out; omega
        case rel =>
          refine ⟨i + 1, ⟨x2.W, (by repeat (first | (with_reducible assumption) | (with_reducible exact Below.refl _ _) | ((with_reducible refine Below.alloc ?_ ?_ _); rotate_left; (focus (first | omega | (simp; done) | (simp; omega) | (simp [Later.le, Later.le_add, Later.lt, Later.lt_add]; done) | (simp [Later.le, Later.le_add, Later.lt, Later.lt_add]; omega)))) | (with_reducible refine Below.drew ?_) | (with_reducible refine pw_below_drewN ?_ _) | ((with_reducible refine Below.setCell ?_ ?_ _); rotate_left; (focus (first | omega | (simp; done) | (simp; omega) | (simp [Later.le, Later.le_add, Later.lt, Later.lt_add]; done) | (simp [Later.le, Later.le_add, Later.lt, Later.lt_add]; omega)))) | ((with_reducible refine below_hop (by assumption) ?_ ?_); rotate_left; (focus (first | omega | (simp; done) | (simp; omega) | (simp [Later.le, Later.le_add, Later.lt, Later.lt_add]; done) | (simp [Later.le, Later.le_add, Later.lt, Later.lt_add]; omega)))) | ((with_reducible refine bel_later _ ?_ ?_); rotate_left; (focus (first | omega | (simp; done) | (simp; omega) | (simp [Later.le, Later.le_add, Later.lt, Later.lt_add]; done) | (simp [Later.le, Later.le_add, Later.lt, Later.lt_add]; omega))))))⟩, by have := HIK.out; omega, by go_num, rfl, fun j hj => ?_⟩
          by_cases h : j = i
          · rw [h, HM.out]; exact hb
          · exact HS.out j (by omega)
    · have hie : i = ms.length := by have := HIK.out; omega
      have e : areB p n ms = (primeB p && inB n 1 3) := areB_yes fun j hj => HS.out j (by omega)
      subst hie
      cases hp : primeB p with
      | false =>
        have e' : areB p n ms = false := by rw [e, hp]; rfl
        go_wp2_with ((go_at_call 67; (first | (with_reducible refine call_later2 (hp ▸ isPrime_c p _) ?_) | (with_reducible refine call_later (hp ▸ isPrime_c p _) ?_)); intro x2))
        rw [e']
        exact bodyPost_ret (v := .bool false) (by simp [results, Try.results71, go_sem]) rfl (.mk rfl (by repeat (first | (with_reducible assumption) | (with_reducible exact Below.refl _ _) | ((with_reducible refine Below.alloc ?_ ?_ _); rotate_left; (focus (first | omega | (simp; done) | (simp; omega) | (simp [Later.le, Later.le_add, Later.lt, Later.lt_add]; done) | (simp [Later.le, Later.le_add, Later.lt, Later.lt_add]; omega)))) | (with_reducible refine Below.drew ?_) | (with_reducible refine pw_below_drewN ?_ _) | ((with_reducible refine Below.setCell ?_ ?_ _); rotate_left; (focus (first | omega | (simp; done) | (simp; omega) | (simp [Later.le, Later.le_add, Later.lt, Later.lt_add]; done) | (simp [Later.le, Later.le_add, Later.lt, Later.lt_add]; omega)))) | ((with_reducible refine below_hop (by assumption) ?_ ?_); rotate_left; (focus (first | omega | (simp; done) | (simp; omega) | (simp [Later.le, Later.le_add, Later.lt, Later.lt_add]; done) | (simp [Later.le, Later.le_add, Later.lt, Later.lt_add]; omega)))) | ((with_reducible refine bel_later _ ?_ ?_); rotate_left; (focus (first | omega | (simp; done) | (simp; omega) | (simp [Later.le, Later.le_add, Later.lt, Later.lt_add]; done) | (simp [Later.le, Later.le_add, Later.lt, Later.lt_add]; omega)))))))
      | true =>
        have e' : areB p n ms = inB n 1 3 := by rw [e, hp]; rfl
        go_wp2_with (first | (go_at_call 67; (first | (with_reducible refine call_later2 (hp ▸ isPrime_c p _) ?_) | (with_reducible refine call_later (hp ▸ isPrime_c p _) ?_)); intro x2) | (go_at_call 68; (first | (with_reducible refine call_later2 (isVars_c n _) ?_) | (with_reducible refine call_later (isVars_c n _) ?_)); intro x3))
        rw [e']
        exact bodyPost_ret (v := .bool (inB n 1 3)) (by simp [results, Try.results71, go_sem]) rfl (.mk rfl (by repeat (first | (with_reducible assumption) | (with_reducible exact Below.refl _ _) | ((with_reducible refine Below.alloc ?_ ?_ _); rotate_left; (focus (first | omega | (simp; done) | (simp; omega) | (simp [Later.le, Later.le_add, Later.lt, Later.lt_add]; done) | (simp [Later.le, Later.le_add, Later.lt, Later.lt_add]; omega)))) | (with_reducible refine Below.drew ?_) | (with_reducible refine pw_below_drewN ?_ _) | ((with_reducible refine Below.setCell ?_ ?_ _); rotate_left; (focus (first | omega | (simp; done) | (simp; omega) | (simp [Later.le, Later.le_add, Later.lt, Later.lt_add]; done) | (simp [Later.le, Later.le_add, Later.lt, Later.lt_add]; omega)))) | ((with_reducible refine below_hop (by assumption) ?_ ?_); rotate_left; (focus (first | omega | (simp; done) | (simp; omega) | (simp [Later.le, Later.le_add, Later.lt, Later.lt_add]; done) | (simp [Later.le, Later.le_add, Later.lt, Later.lt_add]; omega)))) | ((with_reducible refine bel_later _ ?_ ?_); rotate_left; (focus (first | omega | (simp; done) | (simp; omega) | (simp [Later.le, Later.le_add, Later.lt, Later.lt_add]; done) | (simp [Later.le, Later.le_add, Later.lt, Later.lt_add]; omega)))))))
end Go.Proofs.Ytafdakamibpjaaa

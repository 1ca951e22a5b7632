/- Walks of the functions on polynomials, numbers and rows, of both sides; no condition. -/
import Derived.Test.YtimjhehagimcaaaYKitE
import Derived.Test.YtimjhehagimcaaaYKitA
import Derived.Lib.SliceRun
/- The walks of the program's functions on rows modulo p; no condition. -/
set_option linter.unusedVariables false
set_option linter.unusedSimpArgs false
namespace Go.Proofs.Ytimjhehagimcaaa
open Go.RowKit Go.Proofs.YtimjhehagimcaaaW.PrintWords
attribute [local go_sem] Later.cell Later.frozen Later.lt Later.lt_add Later.le Later.le_add Later.ne Later.ne' add_at
set_option maxRecDepth 100000 in
theorem lead1_c (x : Int) (w : World) : Calls Try.prog 122 #[.int .i64 x] w (Same (.bool (x != 0)) w) := by
  go_enter Try.func122, Try.ntmps122
  go_wp2
  exact bodyPost_ret (v := .bool (x != 0)) (by simp [results, Try.results122, go_sem]) rfl (.mk rfl)
set_option maxRecDepth 100000 in
set_option maxHeartbeats 1000000 in
theorem indexFunc_c {w : World} {A : Option Addr} {n c : Nat} {r : List Int} (hC : kI.C w A n r) (hn : n ≤ 1000000) : Calls Try.prog 121 #[.slice A n c, .func (.func 122) #[] #[]] w (Gives (.int .i64 (leadI r)) w) := by
  go_enter Try.func121, Try.ntmps121
  go_wp2
  go_loopg [8] n (fun k v w' => ∃ (i : Nat) (y : Later w), i + k = n ∧ v = .int .i64 i ∧ w' = y.W ∧ ∀ j, j < i → r.getD j 0 = 0)
  case atStart => exact ⟨0, ⟨w, Below.refl _ _⟩, by omega, rfl, rfl, fun j hj => by omega⟩
  case round =>
    obtain ⟨i, y, hik, rfl, rfl, hs⟩ := hrel
    have HIK := Lib.hid hik
    have HS := Lib.hid hs
    clear hik hs
    by_cases hlt : i < n
    · obtain ⟨b, o, hA, q0⟩ := kI_at hC i hlt
      subst hA
      have q0 := y.keep q0
      have hi0 : (0 : Int) ≤ i := by omega
      have hi1 : (i : Int) < n := by omega
      have hin : ((i : Int)).toNat = i := by omega
      have hlen := Lib.hid (Kd.C_len hC)
      by_cases hx : r.getD i 0 = 0
      · rw [hx] at q0
        have hlc := lead1_c 0
        have HX := Lib.hid hx
        clear hx
        go_wp2_with (go_at_call 122; (with_reducible refine call_same (hlc _) ?_))
        go_roundg (gk - 1)
        case measure => have := HIK.out; omega
        case rel =>
          refine ⟨i + 1, y, by have := HIK.out; omega, by go_num, rfl, fun j hj => ?_⟩
          by_cases h : j = i
          · rw [h]; exact HX.out
          · exact HS.out j (by omega)
      · have hl : leadI r = (i : Int) := by
          have := leadN_eq hx HS.out
          unfold leadI
          rw [this, if_pos (by rw [hlen.out]; exact hlt)]
        have hlc := lead1_c (r.getD i 0)
        have hne : (r.getD i 0 != 0) = true := by simpa using hx
        rw [hne] at hlc
        generalize r.getD i 0 = x at *
        go_wp2_with (go_at_call 122; (with_reducible refine call_same (hlc _) ?_))
        try rw [hl]
        exact bodyPost_ret (v := .int .i64 i) (by simp [results, Try.results121, go_sem]) rfl (.mk rfl bq1)
    · have hie : i = n := by have := HIK.out; omega
      subst hie
      have hl : leadI r = -1 := by
        have hlen := Kd.C_len hC
        unfold leadI
        rw [if_neg]
        intro hc
        exact leadN_ne hc (HS.out _ (by omega))
      go_wp2
      try rw [hl]
      exact bodyPost_ret (v := .int .i64 (-1)) (by simp [results, Try.results121, go_sem]) rfl (.mk rfl bq1)
theorem lead_i {w : World} {A : Option Addr} {n c : Nat} {r : List Int} (v : Int) (hC : kI.C w A n r) (hn : n ≤ 1000000) (hv : leadI r = v) : Calls Try.prog 92 #[.slice A n c] w (Gives (.int .i64 v) w) := by
  subst hv
  have hi := fun (x : Later w) => indexFunc_c (c := c) (Kd.C_below hC x.ok) hn
  go_enter Try.func92, Try.ntmps92
  go_wp2_with (go_at_call 121; (with_reducible refine call_later (indexFunc_c hC hn) ?_); intro x)
  exact bodyPost_ret (v := .int .i64 (leadI r)) (by simp [results, Try.results92, go_sem]) rfl (.mk rfl bq1)
set_option maxRecDepth 100000 in
theorem inverse_i {p x : Int} (hp : primeZ p) (hx : 0 < x) (hx' : x < p) (w : World) : Calls Try.prog 119 #[.int .i64 x, .int .i64 p] w (Gives (.int .i64 (invZ p x)) w) := by
  obtain ⟨hp2, hp13⟩ := hp.two
  have hir := invZ_range hp hx hx'
  have hio := Lib.hid (invZ_ok hp hx hx')
  go_enter Try.func119, Try.ntmps119
  go_wp2
  go_loopg [5] p.toNat (fun k v w' => ∃ (j : Int) (y : Later w), j + k = p + 1 ∧ v = .int .i64 j ∧ w' = y.W ∧ 1 ≤ j ∧ j ≤ invZ p x)
  case atStart => exact ⟨1, ⟨w, Below.refl _ _⟩, by omega, rfl, rfl, by omega, hir.1⟩
  case round =>
    obtain ⟨j, y, hjk, rfl, rfl, hj1, hj2⟩ := hrel
    have HJK := Lib.hid hjk
    clear hjk
    have hjp : j < p := by omega
    have hb := mul_bd3 (x := x) (y := j) (by omega) (by omega) (by omega) (by omega)
    have hpz : p ≠ 0 := by omega
    have hxm := Int.mul_comm x j
    by_cases hj : j * x % p = 1
    · have HE := Lib.hid (inv_unique hp hx hx' (by omega) (by omega) (by omega) (by omega) hj hio.out)
      rw [← Int.mul_comm x j] at hj
      clear hxm
      go_wp2
      rw [← HE.out]
      exact bodyPost_ret (v := .int .i64 j) (by simp [results, Try.results119, go_sem]) rfl (.mk rfl bq1)
    · have hne : j ≠ invZ p x := fun hh => hj (by rw [hh]; exact hio.out)
      rw [← Int.mul_comm x j] at hj
      clear hxm
      go_wp2
      go_roundg (gk - 1)
      case measure => have := HJK.out; omega
      case rel => exact ⟨j + 1, y, by have := HJK.out; omega, by go_num, rfl, by omega, by omega⟩
end Go.Proofs.Ytimjhehagimcaaa
/- The walk of the program's less: what is left of a row; no condition. -/
set_option linter.unusedVariables false
set_option linter.unusedSimpArgs false
namespace Go.Proofs.Ytimjhehagimcaaa
open Go.RowKit Go.Proofs.YtimjhehagimcaaaW.PrintWords
attribute [local go_sem] Later.cell Later.frozen Later.lt Later.lt_add Later.le Later.le_add Later.ne Later.ne' add_at
theorem C_none {w : World} {n : Nat} {r : List Int} (h : kI.C w none n r) : r = [] := by
  have hl := Kd.C_len h
  by_cases h0 : 0 < n
  · obtain ⟨ad, hA, _⟩ := h.2.2 h0
    cases hA
  · exact List.eq_nil_of_length_eq_zero (by omega)
theorem eqNilS (a : Option Addr) (n c : Nat) (w : World) : (binOp .eql 55 (.slice a n c) (.slice none 0 0)).run Try.prog w = .ok (.bool a.isNone) w := Lib.run_eql_slice_nil w _ _ a n c 0 0 Try.underlying55
attribute [local go_sem 2000] eqNilS
set_option maxRecDepth 100000 in
set_option maxHeartbeats 1000000 in
theorem clone_c {w : World} {A : Option Addr} {n c : Nat} {r : List Int} (hC : kI.C w A n r) (hn : n ≤ 1000000) : Calls Try.prog 144 #[.slice A n c] w (Makes kI 2 r w) := by
  cases A with
  | none =>
    obtain rfl := C_none hC
    go_enter Try.func144, Try.ntmps144
    go_wp2
    exact bodyPost_ret (v := .slice none 0 0) (by simp [results, Try.results144, go_sem]) rfl ⟨_, rfl, Kd.R_nil _ _ _ _ _, bq1⟩
  | some ad =>
    have hR0 := R_zero kI (heap_alloc_last w (.cells #[] 2)) (base := w.heap.size) (by simp)
    have hB0 : Below w.heap.size w (w.alloc (.cells #[] 2)) := bq1
    have hC0 := Kd.C_alloc hC (.cells #[] 2)
    have HL := Lib.hid (Kd.C_len hC)
    go_enter Try.func144, Try.ntmps144
    go_wp2_with ((with_reducible refine gate_builtin (b := .append) (xs := #[.tmp 5, .tmp 6]) rfl ?_); at_builtin; refine Kd.R_append_rows kI (w0 := w) w.heap.size rfl (.tmp 5) (.tmp 6) 55 2 (.int .i64 0) 8 rfl Try.underlying55 infoI rfl (by decide) (by decide) (.slice (some ⟨w.heap.size, 0, none⟩) 0 0) [] r _ _ _ (fun _ => True) (fun _ => False) rfl rfl hR0 hC0 (fun _ _ h => h) (fun _ h => h.elim) (fun _ _ => trivial) hB0 (by simp) (by simp; omega) ?_; intro v5 w5 ho hb hg hat)
    exact bodyPost_ret (v := v5) (by simp [results, Try.results144, go_sem]) rfl ⟨_, rfl, by simpa using ho, hb⟩
theorem less_num {p q x a : Int} (hp : 2 ≤ p) (hp' : p ≤ 13) (hx : 0 ≤ x) (hx' : x < p) (hq : 0 ≤ q) (hq' : q < p) (ha : 0 ≤ a) (ha' : a < p) : 0 ≤ (p - q) * a ∧ (p - q) * a ≤ 169 ∧ (x + (p - q) * a).tmod p = (x - q * a) % p := by
  have h1 := Int.mul_le_mul (a := p - q) (b := a) (c := 13) (d := 13) (by omega) (by omega) ha (by omega)
  have h2 := Int.mul_nonneg (show 0 ≤ p - q by omega) ha
  refine ⟨h2, by omega, ?_⟩
  rw [Int.tmod_eq_emod_of_nonneg (by omega), Int.sub_mul, show x + (p * a - q * a) = x - q * a + p * a by omega, Int.add_mul_emod_self_left]
theorem mixl_get {p q : Int} {cur r : List Int} (j : Nat) (hj : j < cur.length) : ((lessL p cur r q).take j ++ cur.drop j).getD j 0 = cur.getD j 0 := by
  have hl : ((lessL p cur r q).take j).length = j := by simp [lessL_length]; omega
  rw [List.getD_eq_getElem?_getD, List.getD_eq_getElem?_getD, List.getElem?_append_right (by rw [hl]; exact Nat.le_refl _), hl, Nat.sub_self]
  simp
theorem mixl_set {p q : Int} {L : Nat} {cur r : List Int} (hc : cur.length = L) (hr : r.length = L) (j : Nat) (hj : j < cur.length) : ((lessL p cur r q).take j ++ cur.drop j).set j ((cur.getD j 0 - q * r.getD j 0) % p) = (lessL p cur r q).take (j + 1) ++ cur.drop (j + 1) := by
  have hl : ((lessL p cur r q).take j).length = j := by simp [lessL_length]; omega
  have hl2 : j < (lessL p cur r q).length := by rw [lessL_length]; exact hj
  rw [List.set_append_right _ _ (by rw [hl]; exact Nat.le_refl _), List.take_succ_eq_append_getElem hl2, List.drop_eq_getElem_cons hj, hl, Nat.sub_self, List.set_cons_zero]
  have := lessL_get (p := p) hc hr q j
  rw [List.getD_eq_getElem?_getD, List.getElem?_eq_getElem hl2] at this
  rw [← this, Option.getD_some, List.append_assoc]
  rfl
theorem restL_take {p : Int} {list : List (List Int)} {row : List Int} {j : Nat} (hj : j < list.length) : restL p (list.take (j + 1)) row = restStep p (restL p (list.take j) row) (list.getD j []) := by
  rw [restL, List.take_succ_eq_append_getElem hj, List.foldl_append, List.getD_eq_getElem?_getD, List.getElem?_eq_getElem hj]
  rfl
set_option maxRecDepth 100000 in
set_option maxHeartbeats 2000000 in
theorem less_i {p : Int} {L : Nat} (hp : 2 ≤ p) (hp' : p ≤ 13) (hL : L ≤ 100000) {list : List (List Int)} (hn : list.length ≤ 100000) (hl : ∀ r ∈ list, Led p L r) {row : List Int} (hr : RowOk p L row) {A B : Option Addr} {n m c d : Nat} {w : World} (hC : kL.C w A n list) (hD : kI.C w B m row) :
    Calls Try.prog 118 #[.int .i64 p, .slice A n c, .slice B m d] w (Makes kI 2 (restL p list row) w) := by
  obtain rfl := Kd.C_len hC
  obtain rfl := Kd.C_len hD
  have hcl := clone_c (c := d) hD (by rw [hr.len]; omega)
  go_enter Try.func118, Try.ntmps118
  go_wp2_with ((go_at_call 144; (with_reducible refine call_makes hcl ?_); intro x1 A1 c1 hb1 hl1 hR1 hC1))
  go_loopg [16] list.length (fun k v w' => ∃ (j : Nat) (y : Later w), j + k = list.length ∧ v = .int .i64 j ∧ w' = y.W ∧ kI.R 2 y.W w.heap.size (fun _ => True) (.slice A1 row.length c1) (restL p (list.take j) row))
  case atStart => exact ⟨0, x1, by omega, rfl, rfl, hR1⟩
  case round =>
    clear hR1 hC1 hb1 hcl
    obtain ⟨j, y, hjk, rfl, rfl, hR⟩ := hrel
    have HJK := Lib.hid hjk
    clear hjk
    by_cases hj : j < list.length
    · obtain ⟨b, o, Br, cr, hA, q0, hcr, hCr⟩ := kL_at hC j hj
      subst hA
      have hrl := hl _ (getD_mem [] hj)
      have HST := Lib.hid (restL_take (p := p) (row := row) hj)
      have hcur := restL_ok (L := L) (p := p) (by omega) (list.take j) row hr (fun r hr => (hl r (List.mem_of_mem_take hr)).ok)
      have q0 := y.keep q0
      have hCy := Kd.C_below hCr y.ok
      generalize list.getD j [] = r at *
      generalize restL p (list.take j) row = cur at *
      have hlr : leadI r = (leadN r : Int) := by unfold leadI; rw [if_pos (by rw [hrl.ok.len]; exact hrl.lt)]
      have hj0 : (0 : Int) ≤ j := by omega
      have hj1 : (j : Int) < list.length := by omega
      have hjn : ((j : Int)).toNat = j := by omega
      have hln : leadN r < row.length := by rw [hr.len]; exact hrl.lt
      obtain ⟨g, cap, hv, hgb, hgs, _⟩ := Kd.R_form hR (by rw [hcur.len, ← hr.len]; omega)
      injection hv with hv1 hv3 hv2
      subst hv1
      subst hv2
      clear hv3
      obtain ⟨e0, e1⟩ := kI_cell hR (leadN r) hln
      have hq := hcur.nums (leadN r)
      have HQ := Lib.hid (rfl : cur.getD (leadN r) 0 = cur.getD (leadN r) 0)
      have hrn : r.length ≤ 1000000 := by rw [hrl.ok.len]; omega
      have hld := lead_i (c := cr) (leadN r : Int) hCy hrn hlr
      have HSS : Hid (restStep p cur r = if cur.getD (leadN r) 0 = 0 then cur else lessL p cur r (cur.getD (leadN r) 0)) := Lib.hid rfl
      have hl0 : (0 : Int) ≤ (leadN r : Int) := by omega
      have hl1 : (leadN r : Int) < row.length := by omega
      have hl2 : ((leadN r : Int)).toNat = leadN r := by omega
      clear HQ hlr
      generalize leadN r = lr at *
      by_cases hz : cur.getD lr 0 = 0
      · rw [hz] at e0
        have HZ := Lib.hid hz
        clear hz hq
        go_wp2_with ((go_at_call 92; (with_reducible refine call_later3 hld ?_); intro x2 hb2; have e0 := pw_cell_below hb2 e0))
        go_roundg (gk - 1)
        case measure => have := HJK.out; omega
        case rel =>
          refine ⟨j + 1, x2, by have := HJK.out; omega, by go_num, rfl, ?_⟩
          rw [HST.out, HSS.out, if_pos HZ.out]
          exact Kd.R_below hR hb2
      · have HZ := Lib.hid hz
        have hne : (cur.getD lr 0 != 0) = true := by simpa using hz
        have HST2 : Hid (restL p (list.take (j + 1)) row = lessL p cur r (cur.getD lr 0)) := Lib.hid (by rw [HST.out, HSS.out, if_neg hz])
        clear HST HSS HZ
        generalize cur.getD lr 0 = q at *
        go_wp2_with ((go_at_call 92; (with_reducible refine call_later3 hld ?_); intro x2 hb2; have e0 := pw_cell_below hb2 e0))
        have hR2 := Kd.R_below hR hb2
        clear hld hR e0 e1 hb2 q0
        have HRL := Lib.hid (show r.length = row.length by rw [hrl.ok.len, hr.len])
        have HCL := Lib.hid (show cur.length = row.length by rw [hcur.len, hr.len])
        go_loopg [29] r.length (fun k v w' => ∃ (t : Nat) (z : Later w), t + k = r.length ∧ v = .int .i64 t ∧ w' = z.W ∧ kI.R 2 z.W w.heap.size (fun _ => True) (.slice (some ⟨g, 0, none⟩) row.length c1) ((lessL p cur r q).take t ++ cur.drop t))
        case atStart => exact ⟨0, x2, by omega, rfl, rfl, by simpa using hR2⟩
        case round =>
          clear hR2
          obtain ⟨t, z, htk, rfl, rfl, hRz⟩ := hrel
          have HTK := Lib.hid htk
          clear htk
          by_cases ht : t < r.length
          · have htr : t < row.length := by rw [← HRL.out]; exact ht
            obtain ⟨f0, f1⟩ := kI_cell hRz t htr
            rw [mixl_get t (by rw [HCL.out]; exact htr)] at f0
            obtain ⟨b3, o3, hB, s0⟩ := kI_at hCr t ht
            subst hB
            have s0 := z.keep s0
            have HM := Lib.hid (mixl_set (p := p) (q := q) (hcur.len) (hrl.ok.len) t (by rw [HCL.out]; exact htr))
            have hx := hcur.nums t
            have ha := hrl.ok.nums t
            obtain ⟨m1, m2, m3⟩ := less_num hp hp' hx.1 hx.2 hq.1 hq.2 ha.1 ha.2
            generalize cur.getD t 0 = xx at *
            generalize r.getD t 0 = aa at *
            have HM3 := Lib.hid m3
            clear m3
            have HPR := Lib.hid (rfl : (p - q) * aa = (p - q) * aa)
            have hrt : (t : Int) < r.length := by omega
            have hrt2 : (t : Int) < row.length := by omega
            have ht0 : (0 : Int) ≤ t := by omega
            have htn : ((t : Int)).toNat = t := by omega
            have hpz : p ≠ 0 := by omega
            have w1 := i64_small (n := p - q) (by omega) (by omega)
            have w2 := i64_small (n := (p - q) * aa) (by omega) (by omega)
            have w3 := i64_small (n := xx + (p - q) * aa) (by omega) (by omega)
            go_wp2
            go_roundg (gk - 1)
            case measure => have := HTK.out; omega
            case rel =>
              refine ⟨t + 1, ⟨z.W.setCell ⟨g, t, none⟩ (.int .i64 ((xx - q * aa) % p)), z.ok.setCell (show w.heap.size ≤ g from hgb) _⟩, by have := HTK.out; omega, by go_num, ?_, ?_⟩
              · rw [← HM3.out]
                first | rfl | (simp [w1, w2, w3]; done) | simp [Int.tmod_eq_emod_of_nonneg (show 0 ≤ xx + (p - q) * aa by omega)]
              · rw [← HM.out]
                exact kI_set hRz t _
          · have hte : t = r.length := by have := HTK.out; omega
            subst hte
            have e : (lessL p cur r q).take r.length ++ cur.drop r.length = lessL p cur r q := by
              have h1 := HRL.out
              have h2 := HCL.out
              rw [List.drop_of_length_le (by omega), List.append_nil, List.take_of_length_le (by rw [lessL_length]; omega)]
            rw [e] at hRz
            go_wp2
            go_roundg (list.length - j - 1)
            case measure => have := HJK.out; omega
            case rel =>
              refine ⟨j + 1, z, by have := HJK.out; omega, by go_num, rfl, ?_⟩
              rw [HST2.out]
              exact hRz
    · have hje : j = list.length := by have := HJK.out; omega
      subst hje
      rw [List.take_length] at hR
      go_wp2
      exact bodyPost_ret (v := .slice A1 row.length c1) (by simp [results, Try.results118, go_sem]) rfl ⟨_, rfl, hR, y.ok⟩
end Go.Proofs.Ytimjhehagimcaaa
/- The walk of the program's take: a row is put to the reduced rows; no condition. -/
set_option linter.unusedVariables false
set_option linter.unusedSimpArgs false
namespace Go.Proofs.Ytimjhehagimcaaa
open Go.RowKit Go.Proofs.YtimjhehagimcaaaW.PrintWords
attribute [local go_sem] Later.cell Later.frozen Later.lt Later.lt_add Later.le Later.le_add Later.ne Later.ne' add_at
/-- What take answers. -/
def takeL (p : Int) (out : List (List Int)) (row : List Int) : List (List Int) :=
  if leadN (restL p out row) < (restL p out row).length then out.map (cutRow p (ownL p (restL p out row))) ++ [ownL p (restL p out row)] else out
theorem cut_rest {p : Int} {L : Nat} {own r : List Int} (ho : RowOk p L own) (hr : RowOk p L r) : restL p [own] r = cutRow p own r := by
  show restStep p r own = _
  unfold restStep cutRow
  split
  · rename_i h
    rw [h]
    refine List.ext_getElem (by rw [lessL_length]) fun i h1 h2 => ?_
    have := lessL_get (p := p) hr.len ho.len 0 i
    rw [List.getD_eq_getElem?_getD, List.getElem?_eq_getElem h2, Int.zero_mul, Int.sub_zero, hr.fix, List.getD_eq_getElem?_getD, List.getElem?_eq_getElem h1] at this
    exact this.symm
  · rfl
theorem kL_one (W : World) {A : Option Addr} {n c : Nat} {xs : List Int} (h : kI.C W A n xs) (hc : n ≤ c) (t : TypeId) (i : Nat) (hi : i = W.heap.size) : kL.C (W.alloc (.cells #[.slice A n c] t)) (some ⟨i, 0, none⟩) 1 [xs] := by
  subst hi
  obtain rfl := Kd.C_len h
  refine ⟨rfl, by simp, fun _ => ⟨_, rfl, fun j p hp => ?_⟩⟩
  match j, hp with
  | 0, hp =>
    obtain rfl : xs = p := by simpa using hp
    refine ⟨[.slice A xs.length c], rfl, ⟨A, c, rfl, hc, Kd.C_alloc h _⟩, fun k u hu => ?_⟩
    simp only [add_at]
    rw [blk_cell (heap_alloc_last W _)]
    have hk : k < 1 := (List.getElem?_eq_some_iff.1 hu).1
    obtain rfl : k = 0 := by omega
    exact hu
  | j + 1, hp => simp at hp
theorem mixm_get {f : List Int → List Int} {out : List (List Int)} {j : Nat} (hj : j < out.length) : ((out.take j).map f ++ out.drop j).getD j [] = out.getD j [] := by
  have hl : ((out.take j).map f).length = j := by simp; omega
  rw [List.getD_eq_getElem?_getD, List.getD_eq_getElem?_getD, List.getElem?_append_right (by rw [hl]; exact Nat.le_refl _), hl, Nat.sub_self]
  simp
theorem mixm_set {f : List Int → List Int} {out : List (List Int)} {j : Nat} (hj : j < out.length) : ((out.take j).map f ++ out.drop j).set j (f (out.getD j [])) = (out.take (j + 1)).map f ++ out.drop (j + 1) := by
  have hl : ((out.take j).map f).length = j := by simp; omega
  rw [List.set_append_right _ _ (by rw [hl]; exact Nat.le_refl _), List.take_succ_eq_append_getElem hj, List.drop_eq_getElem_cons hj, hl, Nat.sub_self, List.set_cons_zero, List.getD_eq_getElem?_getD, List.getElem?_eq_getElem hj, List.map_append, List.append_assoc]
  rfl
end Go.Proofs.Ytimjhehagimcaaa
/- The program's reduced rows are the reference's: a plain law with no program in sight; no condition. -/
set_option linter.unusedVariables false
namespace Go.Proofs.Ytimjhehagimcaaa
theorem perm_sum {α : Type} {l1 l2 : List α} (h : l1.Perm l2) (f : α → Int) : (l1.map f).sum = (l2.map f).sum := by
  induction h with
  | nil => rfl
  | cons x _ ih => simp [ih]
  | swap x y l => simp; omega
  | trans _ _ h1 h2 => rw [h1, h2]
theorem emod_sub_left (a b p : Int) : (a % p - b) % p = (a - b) % p := by
  rw [Int.sub_emod, Int.emod_emod_of_dvd _ (Int.dvd_refl p), ← Int.sub_emod]
theorem restL_closed {p : Int} {L : Nat} (hp : 2 ≤ p) : ∀ (l : List (List Int)) (cur : List Int), RowOk p L cur → (∀ r ∈ l, Led p L r) → l.Pairwise Apart0 → ∀ i, (restL p l cur).getD i 0 = (cur.getD i 0 - (l.map fun r => cur.getD (leadN r) 0 * r.getD i 0).sum) % p
  | [], cur, hc, _, _, i => by simp only [List.map_nil, List.sum_nil, Int.sub_zero]; rw [hc.fix]; rfl
  | s :: l, cur, hc, hl, hpw, i => by
    have hs := hl s (by simp)
    rw [List.pairwise_cons] at hpw
    have ih := restL_closed hp l (restStep p cur s) (restStep_ok (by omega) hc hs.ok) (fun x hx => hl x (List.mem_cons_of_mem _ hx)) hpw.2 i
    have h2 : restL p (s :: l) cur = restL p l (restStep p cur s) := rfl
    have h3 : (l.map fun r => (restStep p cur s).getD (leadN r) 0 * r.getD i 0) = l.map fun r => cur.getD (leadN r) 0 * r.getD i 0 := List.map_congr_left fun r hr => by
      rw [restStep_get hc hs.ok, (hpw.1 r hr).1, Int.mul_zero, Int.sub_zero, hc.fix]
    rw [h2, ih, h3, restStep_get hc hs.ok, emod_sub_left, List.map_cons, List.sum_cons]
    congr 1
    omega
theorem rows_eq {p : Int} {L : Nat} {a b : List Int} (ha : RowOk p L a) (hb : RowOk p L b) (h : ∀ i, a.getD i 0 = b.getD i 0) : a = b := by
  refine List.ext_getElem (by rw [ha.len, hb.len]) fun i h1 h2 => ?_
  have := h i
  rwa [List.getD_eq_getElem?_getD, List.getD_eq_getElem?_getD, List.getElem?_eq_getElem h1, List.getElem?_eq_getElem h2] at this
theorem apart_symm {a b : List Int} (h : Apart0 a b) : Apart0 b a := ⟨h.2, h.1⟩
theorem restL_perm {p : Int} {L : Nat} (hp : 2 ≤ p) {l1 l2 : List (List Int)} (h : l1.Perm l2) (h2 : Red p L l2) {cur : List Int} (hc : RowOk p L cur) : restL p l1 cur = restL p l2 cur := by
  have hl1 : ∀ r ∈ l1, Led p L r := fun r hr => h2.led r (h.mem_iff.1 hr)
  have hp1 : l1.Pairwise Apart0 := (List.Perm.pairwise_iff (fun h => apart_symm h) h).2 h2.apart
  refine rows_eq (restL_ok (L := L) (by omega) l1 cur hc fun r hr => (hl1 r hr).ok) (restL_ok (L := L) (by omega) l2 cur hc fun r hr => (h2.led r hr).ok) fun i => ?_
  rw [restL_closed hp l1 cur hc hl1 hp1, restL_closed hp l2 cur hc h2.led h2.apart, perm_sum h]
theorem takeL_perm {p : Int} {L : Nat} (hp : 2 ≤ p) {l1 l2 : List (List Int)} (h : l1.Perm l2) (h2 : Red p L l2) {row : List Int} (hr : RowOk p L row) : (takeL p l1 row).Perm (echStep p l2 row) := by
  unfold takeL echStep
  dsimp only
  rw [restL_perm hp h h2 hr]
  split
  · rw [putL_eq]
    have e : (l2.takeWhile (fun r => !decide (leadN (ownL p (restL p l2 row)) < leadN r))).map (cutRow p (ownL p (restL p l2 row))) ++ (l2.dropWhile (fun r => !decide (leadN (ownL p (restL p l2 row)) < leadN r))).map (cutRow p (ownL p (restL p l2 row))) = l2.map (cutRow p (ownL p (restL p l2 row))) := by
      rw [← List.map_append, List.takeWhile_append_dropWhile]
    refine List.Perm.trans ?_ List.perm_middle.symm
    rw [e]
    exact (List.perm_append_comm (l₁ := _) (l₂ := [ownL p (restL p l2 row)])).trans ((h.map _).cons _)
  · exact h
theorem take_fold {p : Int} {L : Nat} (hp : primeZ p) {rows : List (List Int)} (hr : ∀ r ∈ rows, RowOk p L r) : ∀ i, ((rows.take i).foldl (takeL p) []).Perm (echL p (rows.take i))
  | 0 => by simp [echL]
  | i + 1 => by
    by_cases hi : i < rows.length
    · have ih := take_fold hp hr i
      have hp2 := hp.two
      have e : (rows.take (i + 1)).foldl (takeL p) [] = takeL p ((rows.take i).foldl (takeL p) []) rows[i] := by
        rw [List.take_succ_eq_append_getElem hi, List.foldl_append]
        rfl
      have e2 := echL_step (p := p) hi
      rw [List.getD_eq_getElem?_getD, List.getElem?_eq_getElem hi] at e2
      rw [e, e2]
      exact takeL_perm (by omega) ih (echL_take hp hr i).1 (hr _ (List.getElem_mem hi))
    · rw [List.take_of_length_le (by omega)]
      have := take_fold hp hr i
      rwa [List.take_of_length_le (by omega)] at this
theorem leadI_of {p : Int} {L : Nat} {r : List Int} (h : Led p L r) : leadI r = (leadN r : Int) := by
  unfold leadI
  rw [if_pos (by rw [h.ok.len]; exact h.lt)]
/-- A list with the same rows, in the order of the leads, is the list. -/
theorem sorted_eq {p : Int} {L : Nat} {l1 l2 : List (List Int)} (h : l1.Perm l2) (h2 : Red p L l2) (hs : ∀ i j, i < j → j < l1.length → leadI (l1.getD i []) ≤ leadI (l1.getD j [])) : l1 = l2 := by
  have hne : l1.Pairwise fun a b => leadN a ≠ leadN b := (List.Perm.pairwise_iff (R := fun a b : List Int => leadN a ≠ leadN b) (fun h => h.symm) h).2 (h2.up.imp fun ⟨h, _⟩ => by omega)
  have hl1 : ∀ r ∈ l1, Led p L r := fun r hr => h2.led r (h.mem_iff.1 hr)
  have hlt : l1.Pairwise fun a b => leadN a < leadN b := by
    rw [List.pairwise_iff_getElem] at hne ⊢
    intro i j hi hj hij
    have h3 := hs i j hij hj
    have h4 := hne i j hi hj hij
    rw [List.getD_eq_getElem?_getD, List.getElem?_eq_getElem hi, List.getD_eq_getElem?_getD, List.getElem?_eq_getElem hj] at h3
    simp only [Option.getD_some] at h3
    rw [leadI_of (hl1 _ (List.getElem_mem hi)), leadI_of (hl1 _ (List.getElem_mem hj))] at h3
    omega
  exact List.Perm.eq_of_pairwise (le := fun a b => leadN a < leadN b) (fun a b _ _ h1 h2 => by omega) hlt (h2.up.imp fun ⟨h, _⟩ => h) h
end Go.Proofs.Ytimjhehagimcaaa

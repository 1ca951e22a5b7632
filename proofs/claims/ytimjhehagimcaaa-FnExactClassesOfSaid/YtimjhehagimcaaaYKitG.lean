/- Walks of the functions on polynomials, numbers and rows, of both sides; no condition. -/
import Derived.Test.YtimjhehagimcaaaYKitI
import Derived.Test.YtimjhehagimcaaaYKitM
import Derived.Lib.BytesEntry
import Derived.Lib.Bytealg
import Derived.Laws.Externs
/- The walks of the laws' own functions on lists of matrices and on groups; no condition. -/
set_option linter.unusedVariables false
set_option linter.unusedSimpArgs false
namespace Go.Proofs.Ytimjhehagimcaaa
open Go.RowKit Go.Proofs.YtimjhehagimcaaaW.PrintWords
attribute [local go_sem] Later.cell Later.frozen Later.lt Later.lt_add Later.le Later.le_add Later.ne Later.ne' add_at
theorem infoM : (Try.prog.info? 41).map (fun i => (i.zero, i.size, i.bytes)) = some (some (.agg #[.int .u8 0, .int .u8 0, .int .u8 0, .int .u8 0, .int .u8 0, .int .u8 0, .int .u8 0, .int .u8 0, .int .u8 0]), 9, 9) := by kernel_rfl
theorem infoM1 : (Try.prog.info? 41).map (·.size) = some 9 := by kernel_rfl
theorem M9_one (t : M9) : ∀ q ∈ t.cs, q.oneCell' = true := kM.K_one (w := default) (show kM.K default t t.cs from rfl)
theorem kM_put (w : World) (base : Nat) (ok : Nat → Prop) (t : M9) (cc : List Value) (h : cc.length = 9) : kM.M w base ok t (cc.take 0 ++ t.cs ++ cc.drop (0 + t.cs.length)) := by
  show _ = t.cs
  have : t.cs.length = 9 := rfl
  rw [this, List.drop_of_length_le (by omega)]
  simp
/-- What a call that makes a group leaves. -/
def MakesG (p d : Int) (E : Nat) (xs : List M9) (w : World) (e : Ending) (w' : World) : Prop :=
  ∃ A c, e = .returned (.agg #[.int .i64 p, .int .i64 d, .slice A xs.length c]) ∧ kM.R E w' w.heap.size (fun _ => True) (.slice A xs.length c) xs ∧ Below w.heap.size w w'
theorem szMatrixS_c (A : Option Addr) (n c : Nat) (left : Int) (hl : 0 ≤ left) (hl2 : left ≤ 1048576) (hn : n ≤ 9223372036854775807) (w : World) :
    Calls Try.prog 72 #[.slice A n c, .int .i64 left] w (Gives (.int .i64 (if left < n then -1 else left - n)) w) := by
  by_cases h : left < n
  · have h1 : left - n < 0 := by omega
    rw [if_pos h]
    go_enter Try.func72, Try.ntmps72
    go_wp2
    go_ret
    exact .mk rfl bq8
  · have h1 : ¬ left - n < 0 := by omega
    rw [if_neg h]
    go_enter Try.func72, Try.ntmps72
    go_wp2
    go_ret
    exact .mk rfl bq8
theorem szGroup_c (p d : Int) (A : Option Addr) (n c : Nat) (left : Int) (hl : 0 ≤ left) (hl2 : left ≤ 1048576) (hn : n ≤ 9223372036854775807) (w : World) :
    Calls Try.prog 33 #[.agg #[.int .i64 p, .int .i64 d, .slice A n c], .int .i64 left] w (Gives (.int .i64 (if left < n then -1 else left - n)) w) := by
  by_cases h : left < n
  · have h1 : left - n < 0 := by omega
    have H := szMatrixS_c A n c left hl hl2 hn
    rw [if_pos h] at H ⊢
    have HH := Lib.hid H
    clear H
    go_enter Try.func33, Try.ntmps33
    go_wp2_with ((go_at_call 72; (first | (with_reducible refine call_later2 (HH.out _) ?_) | (with_reducible refine call_later (HH.out _) ?_)); intro x))
    go_ret
    exact .mk rfl bq8
  · have h1 : ¬ left - n < 0 := by omega
    have H := szMatrixS_c A n c left hl hl2 hn
    rw [if_neg h] at H ⊢
    have HH := Lib.hid H
    clear H
    go_enter Try.func33, Try.ntmps33
    go_wp2_with ((go_at_call 72; (first | (with_reducible refine call_later2 (HH.out _) ?_) | (with_reducible refine call_later (HH.out _) ?_)); intro x))
    go_ret
    exact .mk rfl bq8
set_option maxRecDepth 100000 in
set_option maxHeartbeats 1000000 in
theorem toMatrixS_c (A : Option Addr) (c : Nat) (ts : List M9) (w : World) (hC : kM.C w A ts.length ts) (hn : ts.length ≤ 1048576) :
    Calls Try.prog 75 #[.slice A ts.length c] w (Makes kM 41 ts w) := by
  go_enter Try.func75, Try.ntmps75
  go_wp2_with (refine Kd.R_make kM w.heap.size 41 rfl (N := 7) rfl 29 (.tmp 6) (.tmp 6) rfl ts.length rfl rfl (by kernel_rfl) _ 9 infoM rfl (by decide) (by decide) zM (ok := fun _ => True) (okp := fun _ => False) rfl (fun _ h => h.elim) trivial (by omega) (by omega) (Below.refl _ _) (Nat.le_refl _) ?_; intro v1 w1 HR hb1 _ _)
  rw [Int.toNat_natCast] at HR
  have HB1 := Lib.hid hb1
  clear hb1
  go_loopg [4] ts.length (fun k v w' => ∃ i : Nat, i + k = ts.length ∧ v = .int .i64 i ∧ kM.R 41 w' w.heap.size (fun _ => True) v1 (ts.take i ++ List.replicate (ts.length - i) zM) ∧ Below w.heap.size w w')
  case atStart => exact ⟨0, by omega, rfl, by simpa using HR, HB1.out⟩
  case round =>
    obtain ⟨i, hik, rfl, hR, hb⟩ := hrel
    have HIK := Lib.hid hik
    have HB := Lib.hid hb
    clear hik hb HR
    have hll : (ts.take i ++ List.replicate (ts.length - i) zM).length = ts.length := by have := HIK.out; simp; omega
    have HLL := Lib.hid hll
    clear hll
    by_cases hlt : i < ts.length
    · obtain ⟨b, o, hA, q0, q1, q2, q3, q4, q5, q6, q7, q8⟩ := kM_at hC i hlt
      subst hA
      obtain ⟨g, cap, hv, hg, hgs, cells, hcells⟩ := Kd.R_form hR (by rw [HLL.out]; omega)
      rw [HLL.out] at hv
      subst hv
      have q0' := (HB.out.cell (World.block_lt_of_cell? w _ q0)).trans q0
      have q1' := (HB.out.cell (World.block_lt_of_cell? w _ q1)).trans q1
      have q2' := (HB.out.cell (World.block_lt_of_cell? w _ q2)).trans q2
      have q3' := (HB.out.cell (World.block_lt_of_cell? w _ q3)).trans q3
      have q4' := (HB.out.cell (World.block_lt_of_cell? w _ q4)).trans q4
      have q5' := (HB.out.cell (World.block_lt_of_cell? w _ q5)).trans q5
      have q6' := (HB.out.cell (World.block_lt_of_cell? w _ q6)).trans q6
      have q7' := (HB.out.cell (World.block_lt_of_cell? w _ q7)).trans q7
      have q8' := (HB.out.cell (World.block_lt_of_cell? w _ q8)).trans q8
      clear q0 q1 q2 q3 q4 q5 q6 q7 q8 hcells
      have hi0 : (0 : Int) ≤ i := by omega
      have hi1 : (i : Int) < ts.length := by omega
      have hin : ((i : Int)).toNat = i := by omega
      have hset := take_step ts zM hlt
      have HSET := Lib.hid hset
      clear hset
      generalize ts.getD i zM = t at *
      go_wp2_with (first | (go_at_call 105; (first | (with_reducible refine call_later2 (toMatrix_c t _) ?_) | (with_reducible refine call_later (toMatrix_c t _) ?_)); intro x) | ((with_reducible refine gate_ (.store 41 (.tmp 21) (.tmp 20)) rfl ?_); have HR1 := Kd.R_below hR x.ok; obtain ⟨cc, hcl, _, hcc, _⟩ := Kd.R_elem HR1 zM (i : Int) hi0 hi1; refine Kd.R_store kM w.heap.size rfl rfl 41 (.tmp 21) (.tmp 20) rfl 41 (i : Int) 0 _ t (.agg #[.int .u8 (t.r0.a.toNat : Int), .int .u8 (t.r0.b.toNat : Int), .int .u8 (t.r0.c.toNat : Int), .int .u8 (t.r1.a.toNat : Int), .int .u8 (t.r1.b.toNat : Int), .int .u8 (t.r1.c.toNat : Int), .int .u8 (t.r2.a.toNat : Int), .int .u8 (t.r2.b.toNat : Int), .int .u8 (t.r2.c.toNat : Int)]) t.cs cc (fun _ => True) (fun _ => False) rfl (by simp; rfl) rfl rfl infoM1 (M9_one t) HR1 hi0 hi1 hcl hcc (Nat.le_refl _) (kM_put _ _ _ t cc hcl) (fun _ h => h.elim) (bel_later x HB.out (by omega)) ?_; intro w2 HR2 HB2 _))
      go_roundg (gk - 1)
      case measure => have := HIK.out; omega
      case rel =>
        refine ⟨i + 1, by have := HIK.out; omega, by go_num, ?_, HB2⟩
        rw [hin, HSET.out] at HR2
        exact HR2
    · go_wp2
      go_ret
      have e : i = ts.length := by have := HIK.out; omega
      subst e
      exact ⟨v1, rfl, by simpa using hR, HB.out⟩
set_option maxRecDepth 100000 in
theorem toGroup_c (p d : Int) (A : Option Addr) (c : Nat) (ts : List M9) (w : World) (hC : kM.C w A ts.length ts) (hn : ts.length ≤ 1048576) :
    Calls Try.prog 35 #[.agg #[.int .i64 p, .int .i64 d, .slice A ts.length c]] w (MakesG p d 41 ts w) := by
  go_enter Try.func35, Try.ntmps35
  go_wp2_with (go_at_call 75; (with_reducible refine call_makes (toMatrixS_c _ _ _ _ ?hcc hn) ?_); (case hcc => repeat (first | exact hC | refine Kd.C_alloc ?_ _)); intro x A' c' _ hlc hR hC')
  have hR4 := Kd.R_lower (base' := w.heap.size) (R_old (R_old (R_old (R_old hR (p := ⟨w.heap.size + 1 + 1, 2, none⟩) (by simp) (.slice A' ts.length c')) (p := ⟨w.heap.size + 1, 0, none⟩) (by simp) (.int .i64 p)) (p := ⟨w.heap.size + 1, 1, none⟩) (by simp) (.int .i64 d)) (p := ⟨w.heap.size + 1, 2, none⟩) (by simp) (.slice A' ts.length c')) (by simp; omega)
  exact bodyPost_ret (v := .agg #[.int .i64 p, .int .i64 d, .slice A' ts.length c']) (by simp [results, Try.results35, go_sem]) rfl ⟨A', c', rfl, hR4, bq8⟩
set_option maxRecDepth 100000 in
set_option maxHeartbeats 1000000 in
theorem eqMatrixS_same (A B : Option Addr) (c b : Nat) (ts : List M9) (w : World) (hC : kM.C w A ts.length ts) (hD : kM.C w B ts.length ts) (hn : ts.length ≤ 1048576) :
    Calls Try.prog 54 #[.slice A ts.length c, .slice B ts.length b] w (Gives (.bool true) w) := by
  have hq : ((ts.length : Int) != ts.length) = false := by simp
  go_enter Try.func54, Try.ntmps54
  go_wp2
  go_loopg [5] ts.length (fun k v w' => ∃ (i : Nat) (y : Later w), i + k = ts.length ∧ v = .int .i64 i ∧ w' = y.W)
  case atStart => exact ⟨0, ⟨w, Below.refl _ _⟩, by omega, rfl, rfl⟩
  case round =>
    obtain ⟨i, y, hik, rfl, rfl⟩ := hrel
    have HIK := Lib.hid hik
    clear hik
    by_cases hlt : i < ts.length
    · obtain ⟨b1, o1, hA, p0, p1, p2, p3, p4, p5, p6, p7, p8⟩ := kM_at hC i hlt
      obtain ⟨b2, o2, hB, q0, q1, q2, q3, q4, q5, q6, q7, q8⟩ := kM_at hD i hlt
      subst hA
      subst hB
      have k1 : b1 < w.heap.size := World.block_lt_of_cell? w _ p0
      have k2 : b2 < w.heap.size := World.block_lt_of_cell? w _ q0
      have hi0 : (0 : Int) ≤ i := by omega
      have hi1 : (i : Int) < ts.length := by omega
      have hin : ((i : Int)).toNat = i := by omega
      generalize ts.getD i zM = t at *
      go_wp2
      (first | refine wp_region_later2 (by kernel_rfl) (by kernel_rfl) ?_ | refine wp_region_later (by kernel_rfl) (by kernel_rfl) ?_); (repeat (go_big_quiet_step ((go_at_call 96; with_reducible exact quiet_later (eqMatrix_same _ _))))); refine wpQuiet_nil ?_; intro x
      go_wp2
      go_roundg (gk - 1)
      case measure => have := HIK.out; omega
      case rel => exact ⟨i + 1, x, by have := HIK.out; omega, by go_num, rfl⟩
    · go_wp2
      exact bodyPost_ret (v := .bool true) (by simp [results, Try.results54, go_sem]) rfl (.mk rfl bq1)
theorem eqGroup_same (p d : Int) (A B : Option Addr) (c b : Nat) (ts : List M9) (w : World) (hC : kM.C w A ts.length ts) (hD : kM.C w B ts.length ts) (hn : ts.length ≤ 1048576) :
    Calls Try.prog 17 #[.agg #[.int .i64 p, .int .i64 d, .slice A ts.length c], .agg #[.int .i64 p, .int .i64 d, .slice B ts.length b]] w (Gives (.bool true) w) := by
  have g1 : (p != p) = false := by simp
  have g2 : (d != d) = false := by simp
  have hC1 := Kd.C_alloc (Kd.C_alloc hC (.cells #[.int .i64 p, .int .i64 d, .slice A ts.length c] 31)) (.cells #[.int .i64 p, .int .i64 d, .slice B ts.length b] 31)
  have hD1 := Kd.C_alloc (Kd.C_alloc hD (.cells #[.int .i64 p, .int .i64 d, .slice A ts.length c] 31)) (.cells #[.int .i64 p, .int .i64 d, .slice B ts.length b] 31)
  have HH := Lib.hid (eqMatrixS_same A B c b ts _ hC1 hD1 hn)
  go_enter Try.func17, Try.ntmps17
  go_wp2_with ((go_at_call 54; (first | (with_reducible refine call_later2 (HH.out) ?_) | (with_reducible refine call_later (HH.out) ?_)); intro x))
  go_ret
  exact .mk rfl bq8
end Go.Proofs.Ytimjhehagimcaaa
/- The walks of the search in lists of matrices, of both sides; no condition. -/
set_option linter.unusedVariables false
set_option linter.unusedSimpArgs false
namespace Go.Proofs.Ytimjhehagimcaaa
open Go.RowKit Go.Proofs.YtimjhehagimcaaaW.PrintWords
attribute [local go_sem] Later.cell Later.frozen Later.lt Later.lt_add Later.le Later.le_add Later.ne Later.ne' add_at
attribute [local go_sem 2000] run_eqM guardM
/-- The first place of a matrix in a list, or -1. -/
def idxM (ms : List M9) (g : M9) : Int := if g ∈ ms then (ms.idxOf g : Int) else -1
theorem idxOf_hit (g : M9) : ∀ (ms : List M9) (i : Nat), i < ms.length → (∀ j, j < i → ms.getD j zM ≠ g) → ms.getD i zM = g → ms.idxOf g = i
  | [], i, h, _, _ => absurd h (by simp)
  | m :: ms, 0, _, _, h => by
    have : m = g := by simpa using h
    simp [this]
  | m :: ms, i + 1, hi, hs, h => by
    have h0 : m ≠ g := by simpa using hs 0 (by omega)
    have := idxOf_hit g ms i (by simpa using hi) (fun j hj => by simpa using hs (j + 1) (by omega)) (by simpa using h)
    have h1 : (m == g) = false := by simpa using h0
    rw [List.idxOf_cons, h1, this]
    rfl
theorem idxM_hit {ms : List M9} {g : M9} {i : Nat} (hi : i < ms.length) (hs : ∀ j, j < i → ms.getD j zM ≠ g) (h : ms.getD i zM = g) : idxM ms g = i := by
  have hm : g ∈ ms := by rw [← h]; exact getD_mem zM hi
  rw [idxM, if_pos hm, idxOf_hit g ms i hi hs h]
theorem idxM_miss {ms : List M9} {g : M9} (hs : ∀ j, j < ms.length → ms.getD j zM ≠ g) : idxM ms g = -1 := by
  rw [idxM, if_neg]
  intro hm
  obtain ⟨i, hi, he⟩ := List.getElem_of_mem hm
  exact hs i hi (by simpa [List.getD_eq_getElem?_getD, hi] using he)
theorem idxM_le (ms : List M9) (g : M9) (hn : ms.length ≤ 1048576) : -1 ≤ idxM ms g ∧ idxM ms g ≤ 1048576 := by
  unfold idxM
  split
  · rename_i h
    have := List.idxOf_lt_length_iff.2 h
    omega
  · omega
set_option maxRecDepth 100000 in
set_option maxHeartbeats 1000000 in
theorem l02Find_c {w : World} {A : Option Addr} {c : Nat} {ms : List M9} (g : M9) (hC : kM.C w A ms.length ms) (hn : ms.length ≤ 1048576) :
    Calls Try.prog 112 #[.slice A ms.length c, .agg #[.int .u8 (g.r0.a.toNat : Int), .int .u8 (g.r0.b.toNat : Int), .int .u8 (g.r0.c.toNat : Int), .int .u8 (g.r1.a.toNat : Int), .int .u8 (g.r1.b.toNat : Int), .int .u8 (g.r1.c.toNat : Int), .int .u8 (g.r2.a.toNat : Int), .int .u8 (g.r2.b.toNat : Int), .int .u8 (g.r2.c.toNat : Int)]] w (Gives (.int .i64 (idxM ms g)) w) := by
  go_enter Try.func112, Try.ntmps112
  go_wp2
  have hC1 := Kd.C_alloc hC (.cells #[.int .u8 (g.r0.a.toNat : Int), .int .u8 (g.r0.b.toNat : Int), .int .u8 (g.r0.c.toNat : Int), .int .u8 (g.r1.a.toNat : Int), .int .u8 (g.r1.b.toNat : Int), .int .u8 (g.r1.c.toNat : Int), .int .u8 (g.r2.a.toNat : Int), .int .u8 (g.r2.b.toNat : Int), .int .u8 (g.r2.c.toNat : Int)] 41)
  obtain ⟨e0, e1, e2, e3, e4, e5, e6, e7, e8, _⟩ := nine_alloc w g 41
  have hbV : Below w.heap.size w (w.alloc (.cells #[.int .u8 (g.r0.a.toNat : Int), .int .u8 (g.r0.b.toNat : Int), .int .u8 (g.r0.c.toNat : Int), .int .u8 (g.r1.a.toNat : Int), .int .u8 (g.r1.b.toNat : Int), .int .u8 (g.r1.c.toNat : Int), .int .u8 (g.r2.a.toNat : Int), .int .u8 (g.r2.b.toNat : Int), .int .u8 (g.r2.c.toNat : Int)] 41)) := bq1
  generalize w.alloc (.cells #[.int .u8 (g.r0.a.toNat : Int), .int .u8 (g.r0.b.toNat : Int), .int .u8 (g.r0.c.toNat : Int), .int .u8 (g.r1.a.toNat : Int), .int .u8 (g.r1.b.toNat : Int), .int .u8 (g.r1.c.toNat : Int), .int .u8 (g.r2.a.toNat : Int), .int .u8 (g.r2.b.toNat : Int), .int .u8 (g.r2.c.toNat : Int)] 41) = V at *
  have hzV := World.block_lt_of_cell? _ _ e0
  go_loopg [5] ms.length (fun k v w' => ∃ (i : Nat) (y : Later V), i + k = ms.length ∧ v = .int .i64 i ∧ w' = y.W ∧ ∀ j, j < i → ms.getD j zM ≠ g)
  case atStart => exact ⟨0, ⟨V, Below.refl _ _⟩, by omega, rfl, rfl, fun j hj => by omega⟩
  case round =>
    obtain ⟨i, y, hik, rfl, rfl, hs⟩ := hrel
    have HIK := Lib.hid hik
    have HS := Lib.hid hs
    clear hik hs
    by_cases hlt : i < ms.length
    · obtain ⟨b, o, hA, q0, q1, q2, q3, q4, q5, q6, q7, q8⟩ := kM_at hC1 i hlt
      subst hA
      have hb := World.block_lt_of_cell? _ _ q0
      have hi0 : (0 : Int) ≤ i := by omega
      have hi1 : (i : Int) < ms.length := by omega
      have hin : ((i : Int)).toNat = i := by omega
      generalize ht : ms.getD i zM = t at *
      have HT := Lib.hid ht
      clear ht
      cases he : (t == g) with
      | true =>
        have hr : idxM ms g = i := idxM_hit hlt HS.out (by rw [HT.out]; exact eq_of_beq he)
        rw [hr]
        go_wp2
        (first | refine wp_region_later2 (by kernel_rfl) (by kernel_rfl) ?_ | refine wp_region_later (by kernel_rfl) (by kernel_rfl) ?_); (repeat (go_big_quiet_step (fail))); refine wpQuiet_nil ?_; intro x
        go_wp2
        exact bodyPost_ret (v := .int .i64 i) (by simp [results, Try.results112, go_sem]) rfl (.mk rfl bq1)
      | false =>
        have HE := Lib.hid (show t ≠ g by simpa using he)
        go_wp2
        (first | refine wp_region_later2 (by kernel_rfl) (by kernel_rfl) ?_ | refine wp_region_later (by kernel_rfl) (by kernel_rfl) ?_); (repeat (go_big_quiet_step (fail))); refine wpQuiet_nil ?_; intro x
        go_wp2
        go_roundg (gk - 1)
        case measure => have := HIK.out; omega
        case rel =>
          refine ⟨i + 1, x, by have := HIK.out; omega, by go_num, rfl, fun j hj => ?_⟩
          by_cases h : j = i
          · rw [h, HT.out]; exact HE.out
          · exact HS.out j (by omega)
    · have hr : idxM ms g = -1 := idxM_miss (fun j hj => HS.out j (by have := HIK.out; omega))
      rw [hr]
      go_wp2
      exact bodyPost_ret (v := .int .i64 (-1)) (by simp [results, Try.results112, go_sem]) rfl (.mk rfl bq1)
set_option maxRecDepth 100000 in
set_option maxHeartbeats 1000000 in
theorem indexM_c {w : World} {A : Option Addr} {c : Nat} {ms : List M9} (g : M9) (hC : kM.C w A ms.length ms) (hn : ms.length ≤ 1048576) :
    Calls Try.prog 81 #[.slice A ms.length c, .agg #[.int .u8 (g.r0.a.toNat : Int), .int .u8 (g.r0.b.toNat : Int), .int .u8 (g.r0.c.toNat : Int), .int .u8 (g.r1.a.toNat : Int), .int .u8 (g.r1.b.toNat : Int), .int .u8 (g.r1.c.toNat : Int), .int .u8 (g.r2.a.toNat : Int), .int .u8 (g.r2.b.toNat : Int), .int .u8 (g.r2.c.toNat : Int)]] w (Gives (.int .i64 (idxM ms g)) w) := by
  go_enter Try.func81, Try.ntmps81
  go_wp2
  have hC1 := Kd.C_alloc hC (.cells #[.int .u8 (g.r0.a.toNat : Int), .int .u8 (g.r0.b.toNat : Int), .int .u8 (g.r0.c.toNat : Int), .int .u8 (g.r1.a.toNat : Int), .int .u8 (g.r1.b.toNat : Int), .int .u8 (g.r1.c.toNat : Int), .int .u8 (g.r2.a.toNat : Int), .int .u8 (g.r2.b.toNat : Int), .int .u8 (g.r2.c.toNat : Int)] 41)
  obtain ⟨e0, e1, e2, e3, e4, e5, e6, e7, e8, _⟩ := nine_alloc w g 41
  have hbV : Below w.heap.size w (w.alloc (.cells #[.int .u8 (g.r0.a.toNat : Int), .int .u8 (g.r0.b.toNat : Int), .int .u8 (g.r0.c.toNat : Int), .int .u8 (g.r1.a.toNat : Int), .int .u8 (g.r1.b.toNat : Int), .int .u8 (g.r1.c.toNat : Int), .int .u8 (g.r2.a.toNat : Int), .int .u8 (g.r2.b.toNat : Int), .int .u8 (g.r2.c.toNat : Int)] 41)) := bq1
  generalize w.alloc (.cells #[.int .u8 (g.r0.a.toNat : Int), .int .u8 (g.r0.b.toNat : Int), .int .u8 (g.r0.c.toNat : Int), .int .u8 (g.r1.a.toNat : Int), .int .u8 (g.r1.b.toNat : Int), .int .u8 (g.r1.c.toNat : Int), .int .u8 (g.r2.a.toNat : Int), .int .u8 (g.r2.b.toNat : Int), .int .u8 (g.r2.c.toNat : Int)] 41) = V at *
  have hzV := World.block_lt_of_cell? _ _ e0
  go_loopg [8] ms.length (fun k v w' => ∃ (i : Nat) (y : Later V), i + k = ms.length ∧ v = .int .i64 i ∧ w' = y.W ∧ ∀ j, j < i → ms.getD j zM ≠ g)
  case atStart => exact ⟨0, ⟨V, Below.refl _ _⟩, by omega, rfl, rfl, fun j hj => by omega⟩
  case round =>
    obtain ⟨i, y, hik, rfl, rfl, hs⟩ := hrel
    have HIK := Lib.hid hik
    have HS := Lib.hid hs
    clear hik hs
    by_cases hlt : i < ms.length
    · obtain ⟨b, o, hA, q0, q1, q2, q3, q4, q5, q6, q7, q8⟩ := kM_at hC1 i hlt
      subst hA
      have hb := World.block_lt_of_cell? _ _ q0
      have hi0 : (0 : Int) ≤ i := by omega
      have hi1 : (i : Int) < ms.length := by omega
      have hin : ((i : Int)).toNat = i := by omega
      generalize ht : ms.getD i zM = t at *
      have HT := Lib.hid ht
      clear ht
      cases he : (g == t) with
      | true =>
        have hr : idxM ms g = i := idxM_hit hlt HS.out (by rw [HT.out]; exact (eq_of_beq he).symm)
        rw [hr]
        go_wp2
        (first | refine wp_region_later2 (by kernel_rfl) (by kernel_rfl) ?_ | refine wp_region_later (by kernel_rfl) (by kernel_rfl) ?_); (repeat (go_big_quiet_step (fail))); refine wpQuiet_nil ?_; intro x
        go_wp2
        exact bodyPost_ret (v := .int .i64 i) (by simp [results, Try.results81, go_sem]) rfl (.mk rfl bq1)
      | false =>
        have HE := Lib.hid (show g ≠ t by simpa using he)
        go_wp2
        (first | refine wp_region_later2 (by kernel_rfl) (by kernel_rfl) ?_ | refine wp_region_later (by kernel_rfl) (by kernel_rfl) ?_); (repeat (go_big_quiet_step (fail))); refine wpQuiet_nil ?_; intro x
        go_wp2
        go_roundg (gk - 1)
        case measure => have := HIK.out; omega
        case rel =>
          refine ⟨i + 1, x, by have := HIK.out; omega, by go_num, rfl, fun j hj => ?_⟩
          by_cases h : j = i
          · rw [h, HT.out]; exact HE.out.symm
          · exact HS.out j (by omega)
    · have hr : idxM ms g = -1 := idxM_miss (fun j hj => HS.out j (by have := HIK.out; omega))
      rw [hr]
      go_wp2
      exact bodyPost_ret (v := .int .i64 (-1)) (by simp [results, Try.results81, go_sem]) rfl (.mk rfl bq1)
set_option maxRecDepth 100000 in
theorem containsM_c {w : World} {A : Option Addr} {c : Nat} {ms : List M9} (g : M9) (hC : kM.C w A ms.length ms) (hn : ms.length ≤ 1048576) :
    Calls Try.prog 132 #[.slice A ms.length c, .agg #[.int .u8 (g.r0.a.toNat : Int), .int .u8 (g.r0.b.toNat : Int), .int .u8 (g.r0.c.toNat : Int), .int .u8 (g.r1.a.toNat : Int), .int .u8 (g.r1.b.toNat : Int), .int .u8 (g.r1.c.toNat : Int), .int .u8 (g.r2.a.toNat : Int), .int .u8 (g.r2.b.toNat : Int), .int .u8 (g.r2.c.toNat : Int)]] w (Gives (.bool (decide (0 ≤ idxM ms g))) w) := by
  have hC1 := Kd.C_alloc hC (.cells #[.int .u8 (g.r0.a.toNat : Int), .int .u8 (g.r0.b.toNat : Int), .int .u8 (g.r0.c.toNat : Int), .int .u8 (g.r1.a.toNat : Int), .int .u8 (g.r1.b.toNat : Int), .int .u8 (g.r1.c.toNat : Int), .int .u8 (g.r2.a.toNat : Int), .int .u8 (g.r2.b.toNat : Int), .int .u8 (g.r2.c.toNat : Int)] 41)
  have hb := idxM_le ms g hn
  have hx := fun c => indexM_c (c := c) g hC1 hn
  generalize idxM ms g = v at *
  go_enter Try.func132, Try.ntmps132
  go_wp2_with ((go_at_call 81; (first | (with_reducible refine call_later2 (hx _) ?_) | (with_reducible refine call_later (hx _) ?_)); intro x))
  exact bodyPost_ret (v := .bool (decide (0 ≤ v))) (by simp [results, Try.results132, go_sem]) rfl (.mk rfl bq1)
set_option maxRecDepth 100000 in
theorem has_c {w : World} {A : Option Addr} {c : Nat} {ms : List M9} (p n : Int) (g : M9) (hC : kM.C w A ms.length ms) (hn : ms.length ≤ 1048576) :
    Calls Try.prog 114 #[.agg #[.int .i64 p, .int .i64 n, .slice A ms.length c], .agg #[.int .u8 (g.r0.a.toNat : Int), .int .u8 (g.r0.b.toNat : Int), .int .u8 (g.r0.c.toNat : Int), .int .u8 (g.r1.a.toNat : Int), .int .u8 (g.r1.b.toNat : Int), .int .u8 (g.r1.c.toNat : Int), .int .u8 (g.r2.a.toNat : Int), .int .u8 (g.r2.b.toNat : Int), .int .u8 (g.r2.c.toNat : Int)]] w (Gives (.bool (decide (0 ≤ idxM ms g))) w) := by
  have hC1 := Kd.C_alloc (Kd.C_alloc hC (.cells #[.int .i64 p, .int .i64 n, .slice A ms.length c] 31)) (.cells #[.int .u8 (g.r0.a.toNat : Int), .int .u8 (g.r0.b.toNat : Int), .int .u8 (g.r0.c.toNat : Int), .int .u8 (g.r1.a.toNat : Int), .int .u8 (g.r1.b.toNat : Int), .int .u8 (g.r1.c.toNat : Int), .int .u8 (g.r2.a.toNat : Int), .int .u8 (g.r2.b.toNat : Int), .int .u8 (g.r2.c.toNat : Int)] 41)
  have hx := fun c => containsM_c (c := c) g hC1 hn
  generalize decide (0 ≤ idxM ms g) = v at *
  go_enter Try.func114, Try.ntmps114
  go_wp2_with ((go_at_call 132; (first | (with_reducible refine call_later2 (hx _) ?_) | (with_reducible refine call_later (hx _) ?_)); intro x))
  exact bodyPost_ret (v := .bool v) (by simp [results, Try.results114, go_sem]) rfl (.mk rfl bq1)
end Go.Proofs.Ytimjhehagimcaaa
/- The walks of the comparison of matrices, of both sides; no condition. -/
set_option linter.unusedVariables false
set_option linter.unusedSimpArgs false
namespace Go.Proofs.Ytimjhehagimcaaa
open Go.RowKit Go.Proofs.YtimjhehagimcaaaW.PrintWords
attribute [local go_sem] Later.cell Later.frozen Later.lt Later.lt_add Later.le Later.le_add Later.ne Later.ne' add_at
def cmp3 (x y : E3) : Int := Lib.compareBytes [x.a, x.b, x.c] [y.a, y.b, y.c]
/-- The comparison of two matrices. -/
def cmpM (g h : M9) : Int := if cmp3 g.r0 h.r0 = 0 then (if cmp3 g.r1 h.r1 = 0 then cmp3 g.r2 h.r2 else cmp3 g.r1 h.r1) else cmp3 g.r0 h.r0
def befM (g h : M9) : Bool := decide (cmpM g h < 0)
theorem u8_lt (a b : UInt8) : (a < b) ↔ ((a.toNat : Int) < b.toNat) := by
  rw [UInt8.lt_iff_toNat_lt]
  omega
theorem cmp3_eq (x y : E3) : cmp3 x y = if (x.a.toNat : Int) < y.a.toNat then -1 else if (y.a.toNat : Int) < x.a.toNat then 1 else if (x.b.toNat : Int) < y.b.toNat then -1 else if (y.b.toNat : Int) < x.b.toNat then 1 else if (x.c.toNat : Int) < y.c.toNat then -1 else if (y.c.toNat : Int) < x.c.toNat then 1 else 0 := by
  simp only [cmp3, Lib.compareBytes, u8_lt]
theorem cmp3_range (x y : E3) : -1 ≤ cmp3 x y ∧ cmp3 x y ≤ 1 := by
  rw [cmp3_eq]
  repeat' split
  all_goals omega
theorem at0 (x : E3) : x.at 0 = x.a := rfl
theorem at1 (x : E3) : x.at 1 = x.b := rfl
theorem at2 (x : E3) : x.at 2 = x.c := rfl
theorem cmp3_at {x y : E3} {j : Nat} (hj : j < 3) (hb : ∀ j', j' < j → ((x.at j').toNat : Int) = (y.at j').toNat) (hne : ((x.at j).toNat : Int) ≠ (y.at j).toNat) : cmp3 x y ≠ 0 ∧ (cmp3 x y < 0 ↔ ((x.at j).toNat : Int) < (y.at j).toNat) := by
  have b0 := hb 0
  have b1 := hb 1
  clear hb
  rw [cmp3_eq]
  rcases lt3 hj with rfl | rfl | rfl <;> simp only [at0, at1, at2] at b0 b1 hne ⊢
  all_goals repeat' split
  all_goals omega
theorem cmp3_zero {x y : E3} (hb : ∀ j', j' < 3 → ((x.at j').toNat : Int) = (y.at j').toNat) : cmp3 x y = 0 := by
  have b0 := hb 0 (by omega)
  have b1 := hb 1 (by omega)
  have b2 := hb 2 (by omega)
  simp only [at0, at1, at2] at b0 b1 b2
  rw [cmp3_eq, b0, b1, b2]
  simp
theorem befM_at {g h : M9} {i j : Nat} (hi : i < 3) (hj : j < 3) (ha : ∀ i' j', i' < i → j' < 3 → g.num i' j' = h.num i' j') (hb : ∀ j', j' < j → g.num i j' = h.num i j') (hne : g.num i j ≠ h.num i j) :
    befM g h = decide (g.num i j < h.num i j) := by
  have hr : ∀ i', i' < i → cmp3 (g.row i') (h.row i') = 0 := fun i' hi' => cmp3_zero fun j' hj' => ha i' j' hi' hj'
  obtain ⟨h1, h2⟩ := cmp3_at (x := g.row i) (y := h.row i) hj hb hne
  unfold befM cmpM
  rw [decide_eq_decide]
  rcases lt3 hi with rfl | rfl | rfl
  · rw [if_neg (show ¬ cmp3 g.r0 h.r0 = 0 from h1)]
    exact h2
  · rw [if_pos (show cmp3 g.r0 h.r0 = 0 from hr 0 (by omega)), if_neg (show ¬ cmp3 g.r1 h.r1 = 0 from h1)]
    exact h2
  · rw [if_pos (show cmp3 g.r0 h.r0 = 0 from hr 0 (by omega)), if_pos (show cmp3 g.r1 h.r1 = 0 from hr 1 (by omega))]
    exact h2
theorem befM_same {g h : M9} (ha : ∀ i' j', i' < 3 → j' < 3 → g.num i' j' = h.num i' j') : befM g h = false := by
  have a00 := ha 0 0 (by omega) (by omega)
  have a01 := ha 0 1 (by omega) (by omega)
  have a02 := ha 0 2 (by omega) (by omega)
  have a10 := ha 1 0 (by omega) (by omega)
  have a11 := ha 1 1 (by omega) (by omega)
  have a12 := ha 1 2 (by omega) (by omega)
  have a20 := ha 2 0 (by omega) (by omega)
  have a21 := ha 2 1 (by omega) (by omega)
  have a22 := ha 2 2 (by omega) (by omega)
  simp [M9.num, M9.at, M9.row, E3.at] at a00 a01 a02 a10 a11 a12 a20 a21 a22
  unfold befM cmpM
  simp only [cmp3_eq, a00, a01, a02, a10, a11, a12, a20, a21, a22]
  simp
/-! ### bytes.Compare -/
theorem loadE3 {w : World} {b o : Nat} {x : E3} (h0 : w.cell? ⟨b, o, none⟩ = some (.int .u8 (x.a.toNat : Int))) (h1 : w.cell? ⟨b, o + 1, none⟩ = some (.int .u8 (x.b.toNat : Int))) (h2 : w.cell? ⟨b, o + 2, none⟩ = some (.int .u8 (x.c.toNat : Int))) (c : Nat) :
    (Extern.Bytes.bytesOf (.slice (some ⟨b, o, none⟩) 3 c)).run Try.prog w = .ok ⟨#[x.a, x.b, x.c]⟩ w := by
  have hl := Lib.run_loadBytesX (P := Try.prog) w [(x.a.toNat : Int), x.b.toNat, x.c.toNat] ⟨b, o, none⟩ .empty (fun j y hj => by
    rw [add_at]
    match j, hj with
    | 0, hj => simp at hj; rw [← hj]; exact h0
    | 1, hj => simp at hj; rw [← hj]; exact h1
    | 2, hj => simp at hj; rw [← hj]; exact h2
    | j + 3, hj => simp at hj)
  have e : (⟨ByteArray.empty.data ++ (Lib.bytesOf [(x.a.toNat : Int), x.b.toNat, x.c.toNat]).toArray⟩ : ByteArray) = ⟨#[x.a, x.b, x.c]⟩ := by
    apply ByteArray.ext
    simp [Lib.bytesOf]
  rw [e] at hl
  simpa [Extern.Bytes.bytesOf] using hl
theorem run_cmp3 {w : World} {b o b' o' : Nat} {x y : E3} (h0 : w.cell? ⟨b, o, none⟩ = some (.int .u8 (x.a.toNat : Int))) (h1 : w.cell? ⟨b, o + 1, none⟩ = some (.int .u8 (x.b.toNat : Int))) (h2 : w.cell? ⟨b, o + 2, none⟩ = some (.int .u8 (x.c.toNat : Int)))
    (k0 : w.cell? ⟨b', o', none⟩ = some (.int .u8 (y.a.toNat : Int))) (k1 : w.cell? ⟨b', o' + 1, none⟩ = some (.int .u8 (y.b.toNat : Int))) (k2 : w.cell? ⟨b', o' + 2, none⟩ = some (.int .u8 (y.c.toNat : Int))) (c c' : Nat) :
    (Extern.BytealgCompare.compare #[.slice (some ⟨b, o, none⟩) 3 c, .slice (some ⟨b', o', none⟩) 3 c']).run Try.prog w = .ok (.int .i64 (cmp3 x y)) w := by
  change Sem.run Try.prog (do pure (goInt (Extern.BytealgCompare.cmp (← Extern.Bytes.bytesOf (.slice (some ⟨b, o, none⟩) 3 c)) (← Extern.Bytes.bytesOf (.slice (some ⟨b', o', none⟩) 3 c'))))) w = _
  simp only [Sem.run_bind, Sem.run_pure, loadE3 h0 h1 h2, loadE3 k0 k1 k2, Result.andThen]
  rw [Lib.cmp_eq]
  rfl
set_option maxRecDepth 100000 in
set_option maxHeartbeats 1000000 in
theorem bytesCompare_c {w : World} {b o b' o' : Nat} {x y : E3} (c c' : Nat) (h0 : w.cell? ⟨b, o, none⟩ = some (.int .u8 (x.a.toNat : Int))) (h1 : w.cell? ⟨b, o + 1, none⟩ = some (.int .u8 (x.b.toNat : Int))) (h2 : w.cell? ⟨b, o + 2, none⟩ = some (.int .u8 (x.c.toNat : Int)))
    (k0 : w.cell? ⟨b', o', none⟩ = some (.int .u8 (y.a.toNat : Int))) (k1 : w.cell? ⟨b', o' + 1, none⟩ = some (.int .u8 (y.b.toNat : Int))) (k2 : w.cell? ⟨b', o' + 2, none⟩ = some (.int .u8 (y.c.toNat : Int))) :
    Calls Try.prog 131 #[.slice (some ⟨b, o, none⟩) 3 c, .slice (some ⟨b', o', none⟩) 3 c'] w (Gives (.int .i64 (cmp3 x y)) w) := by
  have hr := run_cmp3 h0 h1 h2 k0 k1 k2 c c'
  generalize cmp3 x y = v at *
  go_enter Try.func131, Try.ntmps131
  go_wp2
  rw [run_callFunc_extern Try.func155 (by kernel_rfl) (by kernel_rfl) (by kernel_rfl) (e := Extern.BytealgCompare.compare) (by kernel_rfl), hr]
  simp only [Result.andThen]
  rw [Oper.upon_value]
  go_wp2
  exact bodyPost_ret (v := .int .i64 v) (by simp [results, Try.results131, go_sem]) rfl (.mk rfl bq1)
/-! ### compareMatrices -/
set_option maxRecDepth 100000 in
set_option maxHeartbeats 2000000 in
theorem compareMatrices_c (g h : M9) (w : World) : Calls Try.prog 113 #[.agg #[.int .u8 (g.r0.a.toNat : Int), .int .u8 (g.r0.b.toNat : Int), .int .u8 (g.r0.c.toNat : Int), .int .u8 (g.r1.a.toNat : Int), .int .u8 (g.r1.b.toNat : Int), .int .u8 (g.r1.c.toNat : Int), .int .u8 (g.r2.a.toNat : Int), .int .u8 (g.r2.b.toNat : Int), .int .u8 (g.r2.c.toNat : Int)], .agg #[.int .u8 (h.r0.a.toNat : Int), .int .u8 (h.r0.b.toNat : Int), .int .u8 (h.r0.c.toNat : Int), .int .u8 (h.r1.a.toNat : Int), .int .u8 (h.r1.b.toNat : Int), .int .u8 (h.r1.c.toNat : Int), .int .u8 (h.r2.a.toNat : Int), .int .u8 (h.r2.b.toNat : Int), .int .u8 (h.r2.c.toNat : Int)]] w (Gives (.int .i64 (cmpM g h)) w) := by
  have h0 := cmp3_range g.r0 h.r0
  have h1 := cmp3_range g.r1 h.r1
  have h2 := cmp3_range g.r2 h.r2
  go_enter Try.func113, Try.ntmps113
  go_wp2
  have Ng : Nine ((w.alloc (.cells #[.int .u8 (g.r0.a.toNat : Int), .int .u8 (g.r0.b.toNat : Int), .int .u8 (g.r0.c.toNat : Int), .int .u8 (g.r1.a.toNat : Int), .int .u8 (g.r1.b.toNat : Int), .int .u8 (g.r1.c.toNat : Int), .int .u8 (g.r2.a.toNat : Int), .int .u8 (g.r2.b.toNat : Int), .int .u8 (g.r2.c.toNat : Int)] 41)).alloc (.cells #[.int .u8 (h.r0.a.toNat : Int), .int .u8 (h.r0.b.toNat : Int), .int .u8 (h.r0.c.toNat : Int), .int .u8 (h.r1.a.toNat : Int), .int .u8 (h.r1.b.toNat : Int), .int .u8 (h.r1.c.toNat : Int), .int .u8 (h.r2.a.toNat : Int), .int .u8 (h.r2.b.toNat : Int), .int .u8 (h.r2.c.toNat : Int)] 41)) w.heap.size g := (nine_alloc w g 41).keep (below_alloc (Below.refl _ _) _)
  have Nh : Nine ((w.alloc (.cells #[.int .u8 (g.r0.a.toNat : Int), .int .u8 (g.r0.b.toNat : Int), .int .u8 (g.r0.c.toNat : Int), .int .u8 (g.r1.a.toNat : Int), .int .u8 (g.r1.b.toNat : Int), .int .u8 (g.r1.c.toNat : Int), .int .u8 (g.r2.a.toNat : Int), .int .u8 (g.r2.b.toNat : Int), .int .u8 (g.r2.c.toNat : Int)] 41)).alloc (.cells #[.int .u8 (h.r0.a.toNat : Int), .int .u8 (h.r0.b.toNat : Int), .int .u8 (h.r0.c.toNat : Int), .int .u8 (h.r1.a.toNat : Int), .int .u8 (h.r1.b.toNat : Int), .int .u8 (h.r1.c.toNat : Int), .int .u8 (h.r2.a.toNat : Int), .int .u8 (h.r2.b.toNat : Int), .int .u8 (h.r2.c.toNat : Int)] 41)) (w.heap.size + 1) h := by
    have := nine_alloc (w.alloc (.cells #[.int .u8 (g.r0.a.toNat : Int), .int .u8 (g.r0.b.toNat : Int), .int .u8 (g.r0.c.toNat : Int), .int .u8 (g.r1.a.toNat : Int), .int .u8 (g.r1.b.toNat : Int), .int .u8 (g.r1.c.toNat : Int), .int .u8 (g.r2.a.toNat : Int), .int .u8 (g.r2.b.toNat : Int), .int .u8 (g.r2.c.toNat : Int)] 41)) h 41
    simpa using this
  have hbV : Below w.heap.size w ((w.alloc (.cells #[.int .u8 (g.r0.a.toNat : Int), .int .u8 (g.r0.b.toNat : Int), .int .u8 (g.r0.c.toNat : Int), .int .u8 (g.r1.a.toNat : Int), .int .u8 (g.r1.b.toNat : Int), .int .u8 (g.r1.c.toNat : Int), .int .u8 (g.r2.a.toNat : Int), .int .u8 (g.r2.b.toNat : Int), .int .u8 (g.r2.c.toNat : Int)] 41)).alloc (.cells #[.int .u8 (h.r0.a.toNat : Int), .int .u8 (h.r0.b.toNat : Int), .int .u8 (h.r0.c.toNat : Int), .int .u8 (h.r1.a.toNat : Int), .int .u8 (h.r1.b.toNat : Int), .int .u8 (h.r1.c.toNat : Int), .int .u8 (h.r2.a.toNat : Int), .int .u8 (h.r2.b.toNat : Int), .int .u8 (h.r2.c.toNat : Int)] 41)) := bq1
  generalize ((w.alloc (.cells #[.int .u8 (g.r0.a.toNat : Int), .int .u8 (g.r0.b.toNat : Int), .int .u8 (g.r0.c.toNat : Int), .int .u8 (g.r1.a.toNat : Int), .int .u8 (g.r1.b.toNat : Int), .int .u8 (g.r1.c.toNat : Int), .int .u8 (g.r2.a.toNat : Int), .int .u8 (g.r2.b.toNat : Int), .int .u8 (g.r2.c.toNat : Int)] 41)).alloc (.cells #[.int .u8 (h.r0.a.toNat : Int), .int .u8 (h.r0.b.toNat : Int), .int .u8 (h.r0.c.toNat : Int), .int .u8 (h.r1.a.toNat : Int), .int .u8 (h.r1.b.toNat : Int), .int .u8 (h.r1.c.toNat : Int), .int .u8 (h.r2.a.toNat : Int), .int .u8 (h.r2.b.toNat : Int), .int .u8 (h.r2.c.toNat : Int)] 41)) = V at *
  have hz := Nh.lt
  have hcmp : ∀ (x : Later V), x = x := fun _ => rfl
  have hc0 : ∀ (x : Later V) c c', Calls Try.prog 131 #[.slice (some ⟨w.heap.size, 0, none⟩) 3 c, .slice (some ⟨w.heap.size + 1, 0, none⟩) 3 c'] x.W (Gives (.int .i64 (cmp3 g.r0 h.r0)) x.W) := fun x c c' => by
    obtain ⟨n0, n1, n2, n3, n4, n5, n6, n7, n8, nf⟩ := Ng.keep x.ok
    obtain ⟨k0, k1, k2, k3, k4, k5, k6, k7, k8, kf⟩ := Nh.keep x.ok
    exact bytesCompare_c c c' n0 n1 n2 k0 k1 k2
  have hc1 : ∀ (x : Later V) c c', Calls Try.prog 131 #[.slice (some ⟨w.heap.size, 3, none⟩) 3 c, .slice (some ⟨w.heap.size + 1, 3, none⟩) 3 c'] x.W (Gives (.int .i64 (cmp3 g.r1 h.r1)) x.W) := fun x c c' => by
    obtain ⟨n0, n1, n2, n3, n4, n5, n6, n7, n8, nf⟩ := Ng.keep x.ok
    obtain ⟨k0, k1, k2, k3, k4, k5, k6, k7, k8, kf⟩ := Nh.keep x.ok
    exact bytesCompare_c c c' n3 n4 n5 k3 k4 k5
  have hc2 : ∀ (x : Later V) c c', Calls Try.prog 131 #[.slice (some ⟨w.heap.size, 6, none⟩) 3 c, .slice (some ⟨w.heap.size + 1, 6, none⟩) 3 c'] x.W (Gives (.int .i64 (cmp3 g.r2 h.r2)) x.W) := fun x c c' => by
    obtain ⟨n0, n1, n2, n3, n4, n5, n6, n7, n8, nf⟩ := Ng.keep x.ok
    obtain ⟨k0, k1, k2, k3, k4, k5, k6, k7, k8, kf⟩ := Nh.keep x.ok
    exact bytesCompare_c c c' n6 n7 n8 k6 k7 k8
  have he : cmpM g h = if cmp3 g.r0 h.r0 = 0 then (if cmp3 g.r1 h.r1 = 0 then cmp3 g.r2 h.r2 else cmp3 g.r1 h.r1) else cmp3 g.r0 h.r0 := rfl
  generalize cmp3 g.r0 h.r0 = v0 at *
  generalize cmp3 g.r1 h.r1 = v1 at *
  generalize cmp3 g.r2 h.r2 = v2 at *
  generalize cmpM g h = r at *
  clear Ng Nh hcmp
  refine wp_loop_rounds 4 ?_
  rw [rounds_succ]
  go_wp2
  (first | refine wp_region_later2 (by kernel_rfl) (by kernel_rfl) ?_ | refine wp_region_later (by kernel_rfl) (by kernel_rfl) ?_); (repeat (go_big_quiet_step ((go_at_call 131; with_reducible exact quiet_later (hc0 _ _ _))))); refine wpQuiet_nil ?_; intro x1
  by_cases z0 : v0 = 0
  · rw [if_pos z0] at he
    subst z0
    go_wp2
    rw [rounds_succ]
    go_wp2
    (first | refine wp_region_later2 (by kernel_rfl) (by kernel_rfl) ?_ | refine wp_region_later (by kernel_rfl) (by kernel_rfl) ?_); (repeat (go_big_quiet_step ((go_at_call 131; with_reducible exact quiet_later (hc1 _ _ _))))); refine wpQuiet_nil ?_; intro x2
    by_cases z1 : v1 = 0
    · rw [if_pos z1] at he
      subst z1
      go_wp2
      rw [rounds_succ]
      go_wp2
      (first | refine wp_region_later2 (by kernel_rfl) (by kernel_rfl) ?_ | refine wp_region_later (by kernel_rfl) (by kernel_rfl) ?_); (repeat (go_big_quiet_step ((go_at_call 131; with_reducible exact quiet_later (hc2 _ _ _))))); refine wpQuiet_nil ?_; intro x3
      subst he
      by_cases z2 : r = 0
      · subst z2
        go_wp2
        rw [rounds_succ]
        go_wp2
        exact bodyPost_ret (v := .int .i64 0) (by simp [results, Try.results113, go_sem]) rfl (.mk rfl bq1)
      · go_wp2
        exact bodyPost_ret (v := .int .i64 r) (by simp [results, Try.results113, go_sem]) rfl (.mk rfl bq1)
    · rw [if_neg z1] at he
      subst he
      go_wp2
      exact bodyPost_ret (v := .int .i64 r) (by simp [results, Try.results113, go_sem]) rfl (.mk rfl bq1)
  · rw [if_neg z0] at he
    subst he
    go_wp2
    exact bodyPost_ret (v := .int .i64 r) (by simp [results, Try.results113, go_sem]) rfl (.mk rfl bq1)
/-! ### l02Before -/
set_option maxRecDepth 100000 in
set_option maxHeartbeats 2000000 in
theorem l02Before_c (g h : M9) (w : World) : Calls Try.prog 111 #[.agg #[.int .u8 (g.r0.a.toNat : Int), .int .u8 (g.r0.b.toNat : Int), .int .u8 (g.r0.c.toNat : Int), .int .u8 (g.r1.a.toNat : Int), .int .u8 (g.r1.b.toNat : Int), .int .u8 (g.r1.c.toNat : Int), .int .u8 (g.r2.a.toNat : Int), .int .u8 (g.r2.b.toNat : Int), .int .u8 (g.r2.c.toNat : Int)], .agg #[.int .u8 (h.r0.a.toNat : Int), .int .u8 (h.r0.b.toNat : Int), .int .u8 (h.r0.c.toNat : Int), .int .u8 (h.r1.a.toNat : Int), .int .u8 (h.r1.b.toNat : Int), .int .u8 (h.r1.c.toNat : Int), .int .u8 (h.r2.a.toNat : Int), .int .u8 (h.r2.b.toNat : Int), .int .u8 (h.r2.c.toNat : Int)]] w (Gives (.bool (befM g h)) w) := by
  go_enter Try.func111, Try.ntmps111
  go_wp2
  have c1 : ∀ i j, i < 3 → j < 3 → ((w.alloc (.cells #[.int .u8 (g.r0.a.toNat : Int), .int .u8 (g.r0.b.toNat : Int), .int .u8 (g.r0.c.toNat : Int), .int .u8 (g.r1.a.toNat : Int), .int .u8 (g.r1.b.toNat : Int), .int .u8 (g.r1.c.toNat : Int), .int .u8 (g.r2.a.toNat : Int), .int .u8 (g.r2.b.toNat : Int), .int .u8 (g.r2.c.toNat : Int)] 41)).alloc (.cells #[.int .u8 (h.r0.a.toNat : Int), .int .u8 (h.r0.b.toNat : Int), .int .u8 (h.r0.c.toNat : Int), .int .u8 (h.r1.a.toNat : Int), .int .u8 (h.r1.b.toNat : Int), .int .u8 (h.r1.c.toNat : Int), .int .u8 (h.r2.a.toNat : Int), .int .u8 (h.r2.b.toNat : Int), .int .u8 (h.r2.c.toNat : Int)] 41)).cell? ⟨w.heap.size, i * 3 + j, none⟩ = some (.int .u8 (g.num i j)) := fun i j hi hj => cell_alloc (box_at w g _ i j hi hj) _
  have c2 : ∀ i j, i < 3 → j < 3 → ((w.alloc (.cells #[.int .u8 (g.r0.a.toNat : Int), .int .u8 (g.r0.b.toNat : Int), .int .u8 (g.r0.c.toNat : Int), .int .u8 (g.r1.a.toNat : Int), .int .u8 (g.r1.b.toNat : Int), .int .u8 (g.r1.c.toNat : Int), .int .u8 (g.r2.a.toNat : Int), .int .u8 (g.r2.b.toNat : Int), .int .u8 (g.r2.c.toNat : Int)] 41)).alloc (.cells #[.int .u8 (h.r0.a.toNat : Int), .int .u8 (h.r0.b.toNat : Int), .int .u8 (h.r0.c.toNat : Int), .int .u8 (h.r1.a.toNat : Int), .int .u8 (h.r1.b.toNat : Int), .int .u8 (h.r1.c.toNat : Int), .int .u8 (h.r2.a.toNat : Int), .int .u8 (h.r2.b.toNat : Int), .int .u8 (h.r2.c.toNat : Int)] 41)).cell? ⟨w.heap.size + 1, i * 3 + j, none⟩ = some (.int .u8 (h.num i j)) := fun i j hi hj => by
    have := box_at (w.alloc (.cells #[.int .u8 (g.r0.a.toNat : Int), .int .u8 (g.r0.b.toNat : Int), .int .u8 (g.r0.c.toNat : Int), .int .u8 (g.r1.a.toNat : Int), .int .u8 (g.r1.b.toNat : Int), .int .u8 (g.r1.c.toNat : Int), .int .u8 (g.r2.a.toNat : Int), .int .u8 (g.r2.b.toNat : Int), .int .u8 (g.r2.c.toNat : Int)] 41)) h 41 i j hi hj
    have hs : (w.alloc (.cells #[.int .u8 (g.r0.a.toNat : Int), .int .u8 (g.r0.b.toNat : Int), .int .u8 (g.r0.c.toNat : Int), .int .u8 (g.r1.a.toNat : Int), .int .u8 (g.r1.b.toNat : Int), .int .u8 (g.r1.c.toNat : Int), .int .u8 (g.r2.a.toNat : Int), .int .u8 (g.r2.b.toNat : Int), .int .u8 (g.r2.c.toNat : Int)] 41)).heap.size = w.heap.size + 1 := by simp
    rw [hs] at this
    exact this
  have hbV : Below w.heap.size w ((w.alloc (.cells #[.int .u8 (g.r0.a.toNat : Int), .int .u8 (g.r0.b.toNat : Int), .int .u8 (g.r0.c.toNat : Int), .int .u8 (g.r1.a.toNat : Int), .int .u8 (g.r1.b.toNat : Int), .int .u8 (g.r1.c.toNat : Int), .int .u8 (g.r2.a.toNat : Int), .int .u8 (g.r2.b.toNat : Int), .int .u8 (g.r2.c.toNat : Int)] 41)).alloc (.cells #[.int .u8 (h.r0.a.toNat : Int), .int .u8 (h.r0.b.toNat : Int), .int .u8 (h.r0.c.toNat : Int), .int .u8 (h.r1.a.toNat : Int), .int .u8 (h.r1.b.toNat : Int), .int .u8 (h.r1.c.toNat : Int), .int .u8 (h.r2.a.toNat : Int), .int .u8 (h.r2.b.toNat : Int), .int .u8 (h.r2.c.toNat : Int)] 41)) := bq1
  generalize ((w.alloc (.cells #[.int .u8 (g.r0.a.toNat : Int), .int .u8 (g.r0.b.toNat : Int), .int .u8 (g.r0.c.toNat : Int), .int .u8 (g.r1.a.toNat : Int), .int .u8 (g.r1.b.toNat : Int), .int .u8 (g.r1.c.toNat : Int), .int .u8 (g.r2.a.toNat : Int), .int .u8 (g.r2.b.toNat : Int), .int .u8 (g.r2.c.toNat : Int)] 41)).alloc (.cells #[.int .u8 (h.r0.a.toNat : Int), .int .u8 (h.r0.b.toNat : Int), .int .u8 (h.r0.c.toNat : Int), .int .u8 (h.r1.a.toNat : Int), .int .u8 (h.r1.b.toNat : Int), .int .u8 (h.r1.c.toNat : Int), .int .u8 (h.r2.a.toNat : Int), .int .u8 (h.r2.b.toNat : Int), .int .u8 (h.r2.c.toNat : Int)] 41)) = V at *
  have hz := World.block_lt_of_cell? _ _ (c2 0 0 (by omega) (by omega))
  have hz0 := World.block_lt_of_cell? _ _ (c1 0 0 (by omega) (by omega))
  simp only [] at hz hz0
  have C1 := Lib.hid c1
  have C2 := Lib.hid c2
  clear c1 c2
  go_loopg [5] 3 (fun k v w' => ∃ (i : Nat) (y : Later V), i + k = 3 ∧ v = .int .i64 i ∧ w' = y.W ∧ ∀ i', i' < i → ∀ j, j < 3 → g.num i' j = h.num i' j)
  case atStart => exact ⟨0, ⟨V, Below.refl _ _⟩, by omega, rfl, rfl, fun i' h => by omega⟩
  case round =>
    obtain ⟨i, y, hik, rfl, rfl, hok⟩ := hrel
    have HIK := Lib.hid hik
    have HOK := Lib.hid hok
    clear hik hok
    by_cases hi : i < 3
    · have hi1 : (i : Int) < 3 := by omega
      have hin : ((i : Int)).toNat = i := by omega
      go_wp2
      go_loopg [6] 3 (fun k v w' => ∃ (j : Nat) (y2 : Later V), j + k = 3 ∧ v = .int .i64 j ∧ w' = y2.W ∧ ∀ j', j' < j → g.num i j' = h.num i j')
      case atStart => exact ⟨0, y, by omega, rfl, rfl, fun j' h => by omega⟩
      case round =>
        obtain ⟨j, y2, hjk, rfl, rfl, hok2⟩ := hrel
        have HJK := Lib.hid hjk
        have HOK2 := Lib.hid hok2
        clear hjk hok2
        by_cases hj : j < 3
        · have hj1 : (j : Int) < 3 := by omega
          have hjn : ((j : Int)).toNat = j := by omega
          have q := C1.out i j hi hj
          have q' := C2.out i j hi hj
          have hxb := num_bd g i j
          have hxb' := num_bd h i j
          by_cases hne : g.num i j = h.num i j
          · have HNE := Lib.hid hne
            rw [← hne] at q'
            clear hxb'
            clear hne
            generalize hv : g.num i j = v at *
            have HV := Lib.hid hv
            clear hv
            go_wp2
            (first | refine wp_region_later2 (by kernel_rfl) (by kernel_rfl) ?_ | refine wp_region_later (by kernel_rfl) (by kernel_rfl) ?_); (repeat (go_big_quiet_step (fail))); refine wpQuiet_nil ?_; intro x
            go_wp2
            go_roundg (gk - 1)
            case measure => have := HJK.out; omega
            case rel =>
              refine ⟨j + 1, x, by have := HJK.out; omega, by go_num, rfl, fun j' hj' => ?_⟩
              by_cases hjj : j' = j
              · rw [hjj, HV.out]; exact HNE.out
              · exact HOK2.out j' (by omega)
          · have hr := befM_at hi hj (fun i' j' a b => HOK.out i' a j' b) HOK2.out hne
            have hnb : (g.num i j != h.num i j) = true := by simpa using hne
            rw [hr]
            clear hr
            generalize g.num i j = v at *
            generalize h.num i j = v' at *
            go_wp2
            (first | refine wp_region_later2 (by kernel_rfl) (by kernel_rfl) ?_ | refine wp_region_later (by kernel_rfl) (by kernel_rfl) ?_); (repeat (go_big_quiet_step (fail))); refine wpQuiet_nil ?_; intro x
            go_wp2
            (first | refine wp_region_later2 (by kernel_rfl) (by kernel_rfl) ?_ | refine wp_region_later (by kernel_rfl) (by kernel_rfl) ?_); (repeat (go_big_quiet_step (fail))); refine wpQuiet_nil ?_; intro x2
            go_wp2
            exact bodyPost_ret (v := .bool (decide (v < v'))) (by simp [results, Try.results111, go_sem]) rfl (.mk rfl bq1)
        · have hje : j = 3 := by have := HJK.out; omega
          subst hje
          go_wp2
          go_roundg (2 - i)
          case measure => have := HIK.out; omega
          case rel =>
            refine ⟨i + 1, y2, by have := HIK.out; omega, by go_num, rfl, fun i' hi' => ?_⟩
            by_cases h : i' = i
            · rw [h]; exact HOK2.out
            · exact HOK.out i' (by omega)
    · have hie : i = 3 := by have := HIK.out; omega
      subst hie
      have hr := befM_same (fun i' j' a b => HOK.out i' a j' b)
      try rw [hr]
      go_wp2
      try rw [hr]
      exact bodyPost_ret (v := .bool false) (by simp [results, Try.results111, go_sem]) rfl (.mk rfl bq1)
end Go.Proofs.Ytimjhehagimcaaa
/- The walk of the reference's l02Is; no condition. -/
set_option linter.unusedVariables false
set_option linter.unusedSimpArgs false
namespace Go.Proofs.Ytimjhehagimcaaa
open Go.RowKit Go.Proofs.YtimjhehagimcaaaW.PrintWords
attribute [local go_sem] Later.cell Later.frozen Later.lt Later.lt_add Later.le Later.le_add Later.ne Later.ne' add_at
attribute [local go_sem 2000] run_eqM guardM
/-- A group. -/
structure GrpP (p n : Int) (ms : List M9) : Prop where
  hp : primeB p = true
  hn : inB n 1 3 = true
  l1 : 1 ≤ ms.length
  l2 : ms.length ≤ 48
  mat : ∀ i, i < ms.length → matB p n (ms.getD i zM) = true
  ord : ∀ i, 0 < i → i < ms.length → befM (ms.getD (i - 1) zM) (ms.getD i zM) = true
  cl : ∀ i, i < ms.length → ∀ k, k < ms.length → 0 ≤ idxM ms (timesM p n.toNat (ms.getD i zM) (ms.getD k zM))
  un : 0 ≤ idxM ms (unitM n)
def grpB (p n : Int) (ms : List M9) : Bool :=
  primeB p && (inB n 1 3 && (decide (1 ≤ ms.length) && (decide (ms.length ≤ 48) && ((List.range ms.length).all (fun i => matB p n (ms.getD i zM)) && ((List.range ms.length).all (fun i => decide (0 < i → befM (ms.getD (i - 1) zM) (ms.getD i zM) = true)) &&
    ((List.range ms.length).all (fun i => (List.range ms.length).all fun k => decide (0 ≤ idxM ms (timesM p n.toNat (ms.getD i zM) (ms.getD k zM)))) && decide (0 ≤ idxM ms (unitM n))))))))
theorem grpB_iff (p n : Int) (ms : List M9) : grpB p n ms = true ↔ GrpP p n ms := by
  unfold grpB
  simp only [Bool.and_eq_true, decide_eq_true_eq, List.all_eq_true, List.mem_range]
  constructor
  · rintro ⟨h1, h2, h3, h4, h5, h6, h7, h8⟩
    exact ⟨h1, h2, h3, h4, h5, fun i hi hl => h6 i hl hi, h7, h8⟩
  · rintro ⟨h1, h2, h3, h4, h5, h6, h7, h8⟩
    exact ⟨h1, h2, h3, h4, h5, fun i hl hi => h6 i hi hl, h7, h8⟩
theorem grp_no {p n : Int} {ms : List M9} (h : ¬ GrpP p n ms) : grpB p n ms = false := by
  rw [← Bool.not_eq_true, grpB_iff]
  exact h
theorem grp_yes {p n : Int} {ms : List M9} (h : GrpP p n ms) : grpB p n ms = true := (grpB_iff p n ms).2 h
set_option maxRecDepth 100000 in
set_option maxHeartbeats 4000000 in
theorem l02Is_c (p n : Int) (A : Option Addr) (c : Nat) (ms : List M9) (w : World) (hC : kM.C w A ms.length ms) (hN : ms.length ≤ 9223372036854775807) :
    Calls Try.prog 78 #[.agg #[.int .i64 p, .int .i64 n, .slice A ms.length c]] w (Gives (.bool (grpB p n ms)) w) := by
  cases hp : primeB p with
  | false =>
    have hno : ¬ GrpP p n ms := fun h => by rw [h.hp] at hp; cases hp
    have hG := fun W => hp ▸ l01Prime_c p W
    clear hp
    go_enter Try.func78, Try.ntmps78
    go_wp2_with ((go_at_call 43; (first | (with_reducible refine call_later2 (hG _) ?_) | (with_reducible refine call_later (hG _) ?_)); intro x))
    (rw [grp_no (p := p) (n := n) (ms := ms) hno]; exact bodyPost_ret (v := .bool false) (by simp [results, Try.results78, go_sem]) rfl (.mk rfl bq1))
  | true =>
  have hG := fun W => hp ▸ l01Prime_c p W
  cases hn : inB n 1 3 with
  | false =>
    have hno : ¬ GrpP p n ms := fun h => by rw [h.hn] at hn; cases hn
    have hI := fun W => hn ▸ l01In_c n 1 3 W
    clear hp hn
    go_enter Try.func78, Try.ntmps78
    go_wp2_with (first | (go_at_call 43; (first | (with_reducible refine call_later2 (hG _) ?_) | (with_reducible refine call_later (hG _) ?_)); intro x) | (go_at_call 44; (first | (with_reducible refine call_later2 (hI _) ?_) | (with_reducible refine call_later (hI _) ?_)); intro x2))
    (rw [grp_no (p := p) (n := n) (ms := ms) hno]; exact bodyPost_ret (v := .bool false) (by simp [results, Try.results78, go_sem]) rfl (.mk rfl bq1))
  | true =>
  have hI := fun W => hn ▸ l01In_c n 1 3 W
  obtain ⟨hn1, hn3⟩ := inB_of hn
  by_cases hl1 : (ms.length : Int) < 1
  · have hno : ¬ GrpP p n ms := fun h => by have := h.l1; omega
    clear hp hn
    go_enter Try.func78, Try.ntmps78
    go_wp2_with (first | (go_at_call 43; (first | (with_reducible refine call_later2 (hG _) ?_) | (with_reducible refine call_later (hG _) ?_)); intro x) | (go_at_call 44; (first | (with_reducible refine call_later2 (hI _) ?_) | (with_reducible refine call_later (hI _) ?_)); intro x2))
    (rw [grp_no (p := p) (n := n) (ms := ms) hno]; exact bodyPost_ret (v := .bool false) (by simp [results, Try.results78, go_sem]) rfl (.mk rfl bq1))
  by_cases hl2 : (48 : Int) < ms.length
  · have hno : ¬ GrpP p n ms := fun h => by have := h.l2; omega
    clear hp hn
    go_enter Try.func78, Try.ntmps78
    go_wp2_with (first | (go_at_call 43; (first | (with_reducible refine call_later2 (hG _) ?_) | (with_reducible refine call_later (hG _) ?_)); intro x) | (go_at_call 44; (first | (with_reducible refine call_later2 (hI _) ?_) | (with_reducible refine call_later (hI _) ?_)); intro x2))
    (rw [grp_no (p := p) (n := n) (ms := ms) hno]; exact bodyPost_ret (v := .bool false) (by simp [results, Try.results78, go_sem]) rfl (.mk rfl bq1))
  have HP := Lib.hid hp
  have HN := Lib.hid hn
  clear hp hn
  go_enter Try.func78, Try.ntmps78
  go_wp2_with (first | (go_at_call 43; (first | (with_reducible refine call_later2 (hG _) ?_) | (with_reducible refine call_later (hG _) ?_)); intro x) | (go_at_call 44; (first | (with_reducible refine call_later2 (hI _) ?_) | (with_reducible refine call_later (hI _) ?_)); intro x2))
  have hC1 := Kd.C_alloc hC (.cells #[.int .i64 p, .int .i64 n, .slice A ms.length c] 31)
  have v0 : (w.alloc (.cells #[.int .i64 p, .int .i64 n, .slice A ms.length c] 31)).cell? ⟨w.heap.size, 0, none⟩ = some (.int .i64 p) := by simp
  have v1 : (w.alloc (.cells #[.int .i64 p, .int .i64 n, .slice A ms.length c] 31)).cell? ⟨w.heap.size, 1, none⟩ = some (.int .i64 n) := by simp
  have v2 : (w.alloc (.cells #[.int .i64 p, .int .i64 n, .slice A ms.length c] 31)).cell? ⟨w.heap.size, 2, none⟩ = some (.slice A ms.length c) := by simp
  have hbV : Below w.heap.size w (w.alloc (.cells #[.int .i64 p, .int .i64 n, .slice A ms.length c] 31)) := bq1
  clear hG hI
  generalize w.alloc (.cells #[.int .i64 p, .int .i64 n, .slice A ms.length c] 31) = V at *
  have hz := World.block_lt_of_cell? _ _ v0
  simp only [] at hz
  have hFx := fun (x : Later V) g => l02Find_c (c := c) g (Kd.C_below hC1 x.ok) (by omega)
  go_loopg [3] ms.length (fun k v w' => ∃ (i : Nat) (y : Later V), i + k = ms.length ∧ v = .int .i64 i ∧ w' = y.W ∧ (∀ j, j < i → matB p n (ms.getD j zM) = true) ∧ ∀ j, 0 < j → j < i → befM (ms.getD (j - 1) zM) (ms.getD j zM) = true)
  case atStart => exact ⟨0, x2, by omega, rfl, rfl, fun i' h => by omega, fun j h1 h2 => by omega⟩
  case round =>
    obtain ⟨i, y, hik, rfl, rfl, hok, hor⟩ := hrel
    have HIK := Lib.hid hik
    have HOK := Lib.hid hok
    have HOR := Lib.hid hor
    clear hik hok hor
    by_cases hi : i < ms.length
    · obtain ⟨b, o, hA, q0, q1, q2, q3, q4, q5, q6, q7, q8⟩ := kM_at hC1 i hi
      have r := fun h : 0 < i => kM_at hC1 (i - 1) (by omega)
      subst hA
      have hb := World.block_lt_of_cell? _ _ q0
      have hi0 : (0 : Int) ≤ i := by omega
      have hi1 : (i : Int) < ms.length := by omega
      have hin : ((i : Int)).toNat = i := by omega
      cases hm : matB p n (ms.getD i zM) with
      | false =>
        have hno : ¬ GrpP p n ms := fun h => by rw [h.mat i hi] at hm; cases hm
        have hM := fun W => hm ▸ l02Matrix_c p n (ms.getD i zM) W
        clear hm r
        generalize ms.getD i zM = m at *
        go_wp2
        (first | refine wp_region_later2 (by kernel_rfl) (by kernel_rfl) ?_ | refine wp_region_later (by kernel_rfl) (by kernel_rfl) ?_); (repeat (go_big_quiet_step ((go_at_call 59; with_reducible exact quiet_later (hM _))))); refine wpQuiet_nil ?_; intro x6
        go_wp2
        (rw [grp_no (p := p) (n := n) (ms := ms) hno]; exact bodyPost_ret (v := .bool false) (by simp [results, Try.results78, go_sem]) rfl (.mk rfl bq1))
      | true =>
        have hM := fun W => hm ▸ l02Matrix_c p n (ms.getD i zM) W
        have HM := Lib.hid hm
        clear hm
        by_cases c4 : 0 < i
        · obtain ⟨b', o', hA', r0, r1, r2, r3, r4, r5, r6, r7, r8⟩ := r c4
          injection hA' with hA'
          injection hA' with e1 e2
          subst e1
          subst e2
          have b4 : decide ((0 : Int) < (i : Int)) = true := decide_eq_true (by omega)
          have hi2 : (0 : Int) ≤ (i : Int) - 1 := by omega
          have hi3 : (i : Int) - 1 < ms.length := by omega
          have hin2 : ((i : Int) - 1).toNat = i - 1 := by omega
          clear r
          cases c5 : befM (ms.getD (i - 1) zM) (ms.getD i zM) with
          | false =>
            have hno : ¬ GrpP p n ms := fun h => by rw [h.ord i c4 hi] at c5; cases c5
            have hB := fun W => c5 ▸ l02Before_c (ms.getD (i - 1) zM) (ms.getD i zM) W
            clear c5 HM
            generalize ms.getD i zM = m at *
            generalize ms.getD (i - 1) zM = m' at *
            go_wp2
            (first | refine wp_region_later2 (by kernel_rfl) (by kernel_rfl) ?_ | refine wp_region_later (by kernel_rfl) (by kernel_rfl) ?_); (repeat (go_big_quiet_step (first | (go_at_call 59; with_reducible exact quiet_later (hM _)) | (go_at_call 111; with_reducible exact quiet_later (hB _))))); refine wpQuiet_nil ?_; intro x6
            go_wp2
            (rw [grp_no (p := p) (n := n) (ms := ms) hno]; exact bodyPost_ret (v := .bool false) (by simp [results, Try.results78, go_sem]) rfl (.mk rfl bq1))
          | true =>
            have hB := fun W => c5 ▸ l02Before_c (ms.getD (i - 1) zM) (ms.getD i zM) W
            have HB := Lib.hid c5
            clear c5
            generalize hm1 : ms.getD i zM = m at *
            generalize hm2 : ms.getD (i - 1) zM = m' at *
            have H1 := Lib.hid hm1
            have H2 := Lib.hid hm2
            clear hm1 hm2
            go_wp2
            (first | refine wp_region_later2 (by kernel_rfl) (by kernel_rfl) ?_ | refine wp_region_later (by kernel_rfl) (by kernel_rfl) ?_); (repeat (go_big_quiet_step (first | (go_at_call 59; with_reducible exact quiet_later (hM _)) | (go_at_call 111; with_reducible exact quiet_later (hB _))))); refine wpQuiet_nil ?_; intro x6
            go_wp2
            go_roundg (gk - 1)
            case measure => have := HIK.out; omega
            case rel =>
              refine ⟨i + 1, x6, by have := HIK.out; omega, by go_num, rfl, fun j hj => ?_, fun j h0 hj => ?_⟩
              · by_cases h : j = i
                · rw [h, H1.out]; exact HM.out
                · exact HOK.out j (by omega)
              · by_cases h : j = i
                · rw [h, H1.out, H2.out]; exact HB.out
                · exact HOR.out j h0 (by omega)
        · have b4 : decide ((0 : Int) < (i : Int)) = false := decide_eq_false (by omega)
          clear r
          generalize hm1 : ms.getD i zM = m at *
          have H1 := Lib.hid hm1
          clear hm1
          go_wp2
          (first | refine wp_region_later2 (by kernel_rfl) (by kernel_rfl) ?_ | refine wp_region_later (by kernel_rfl) (by kernel_rfl) ?_); (repeat (go_big_quiet_step ((go_at_call 59; with_reducible exact quiet_later (hM _))))); refine wpQuiet_nil ?_; intro x6
          go_wp2
          go_roundg (gk - 1)
          case measure => have := HIK.out; omega
          case rel =>
            refine ⟨i + 1, x6, by have := HIK.out; omega, by go_num, rfl, fun j hj => ?_, fun j h0 hj => ?_⟩
            · by_cases h : j = i
              · rw [h, H1.out]; exact HM.out
              · exact HOK.out j (by omega)
            · exact HOR.out j h0 (by omega)
    · have hmat : ∀ j, j < ms.length → matB p n (ms.getD j zM) = true := fun j hj => HOK.out j (by have := HIK.out; omega)
      have hord : ∀ j, 0 < j → j < ms.length → befM (ms.getD (j - 1) zM) (ms.getD j zM) = true := fun j h0 hj => HOR.out j h0 (by have := HIK.out; omega)
      have HMAT := Lib.hid hmat
      have HORD := Lib.hid hord
      clear hmat hord HOK HOR
      go_wp2
      go_loopg [4] ms.length (fun k v w' => ∃ (i : Nat) (y : Later V), i + k = ms.length ∧ v = .int .i64 i ∧ w' = y.W ∧ ∀ j, j < i → ∀ k, k < ms.length → 0 ≤ idxM ms (timesM p n.toNat (ms.getD j zM) (ms.getD k zM)))
      case atStart => exact ⟨0, y, by omega, rfl, rfl, fun i' h => by omega⟩
      case round =>
        clear HIK
        obtain ⟨i, y, hik, rfl, rfl, hok⟩ := hrel
        have HIK := Lib.hid hik
        have HOK := Lib.hid hok
        clear hik hok
        by_cases hi : i < ms.length
        · obtain ⟨b, o, hA, q0, q1, q2, q3, q4, q5, q6, q7, q8⟩ := kM_at hC1 i hi
          subst hA
          have hb := World.block_lt_of_cell? _ _ q0
          have hi0 : (0 : Int) ≤ i := by omega
          have hi1 : (i : Int) < ms.length := by omega
          have hin : ((i : Int)).toNat = i := by omega
          have hmi := HMAT.out i hi
          generalize hm1 : ms.getD i zM = m at *
          have H1 := Lib.hid hm1
          clear hm1
          go_wp2
          go_loopg [5] ms.length (fun k v w' => ∃ (j : Nat) (y2 : Later V), j + k = ms.length ∧ v = .int .i64 j ∧ w' = y2.W ∧ ∀ k, k < j → 0 ≤ idxM ms (timesM p n.toNat m (ms.getD k zM)))
          case atStart => exact ⟨0, y, by omega, rfl, rfl, fun i' h => by omega⟩
          case round =>
            obtain ⟨j, y2, hjk, rfl, rfl, hok2⟩ := hrel
            have HJK := Lib.hid hjk
            have HOK2 := Lib.hid hok2
            clear hjk hok2
            by_cases hj : j < ms.length
            · obtain ⟨b', o', hA', r0, r1, r2, r3, r4, r5, r6, r7, r8⟩ := kM_at hC1 j hj
              injection hA' with hA'
              injection hA' with e1 e2
              subst e1
              subst e2
              have hj0 : (0 : Int) ≤ j := by omega
              have hj1 : (j : Int) < ms.length := by omega
              have hjn : ((j : Int)).toNat = j := by omega
              have hmj := HMAT.out j hj
              generalize hm2 : ms.getD j zM = m' at *
              have H2 := Lib.hid hm2
              clear hm2
              have hT := fun W => l02Times_g hmi hmj W
              have hF := fun (x : Later V) => hFx x (timesM p n.toNat m m')
              generalize hv : timesM p n.toNat m m' = tm at *
              have HV := Lib.hid hv
              clear hv
              generalize hv : idxM ms tm = v at *
              have HV2 := Lib.hid hv
              clear hv
              by_cases hneg : v < 0
              · have hno : ¬ GrpP p n ms := fun h => by
                  have := h.cl i hi j hj
                  rw [H1.out, H2.out, HV.out, HV2.out] at this
                  omega
                go_wp2
                (first | refine wp_region_later2 (by kernel_rfl) (by kernel_rfl) ?_ | refine wp_region_later (by kernel_rfl) (by kernel_rfl) ?_); (repeat (go_big_quiet_step (first | (go_at_call 64; with_reducible exact quiet_later (hT _)) | (go_at_call 112; with_reducible exact quiet_later (hF _))))); refine wpQuiet_nil ?_; intro x6
                go_wp2
                (rw [grp_no (p := p) (n := n) (ms := ms) hno]; exact bodyPost_ret (v := .bool false) (by simp [results, Try.results78, go_sem]) rfl (.mk rfl bq1))
              · go_wp2
                (first | refine wp_region_later2 (by kernel_rfl) (by kernel_rfl) ?_ | refine wp_region_later (by kernel_rfl) (by kernel_rfl) ?_); (repeat (go_big_quiet_step (first | (go_at_call 64; with_reducible exact quiet_later (hT _)) | (go_at_call 112; with_reducible exact quiet_later (hF _))))); refine wpQuiet_nil ?_; intro x6
                go_wp2
                go_roundg (gk - 1)
                case measure => have := HJK.out; omega
                case rel =>
                  refine ⟨j + 1, x6, by have := HJK.out; omega, by go_num, rfl, fun k hk => ?_⟩
                  by_cases h : k = j
                  · rw [h, H2.out, HV.out, HV2.out]; omega
                  · exact HOK2.out k (by omega)
            · have hje : j = ms.length := by have := HJK.out; omega
              subst hje
              go_wp2
              go_roundg (ms.length - 1 - i)
              case measure => have := HIK.out; omega
              case rel =>
                refine ⟨i + 1, y2, by have := HIK.out; omega, by go_num, rfl, fun i' hi' => ?_⟩
                by_cases h : i' = i
                · rw [h, H1.out]; exact HOK2.out
                · exact HOK.out i' (by omega)
        · have hU := fun W => l02Unit_c n W hn1 hn3
          have hF := fun (x : Later V) => hFx x (unitM n)
          have hcl : ∀ i, i < ms.length → ∀ k, k < ms.length → 0 ≤ idxM ms (timesM p n.toNat (ms.getD i zM) (ms.getD k zM)) := fun j hj => HOK.out j (by have := HIK.out; omega)
          have HCL := Lib.hid hcl
          clear hcl
          generalize hv : unitM n = u at *
          have HV := Lib.hid hv
          clear hv
          generalize hv : idxM ms u = v at *
          have HV2 := Lib.hid hv
          clear hv
          by_cases hneg : 0 ≤ v
          · have hyes : GrpP p n ms := ⟨HP.out, HN.out, by omega, by omega, HMAT.out, HORD.out, HCL.out, by rw [HV.out, HV2.out]; exact hneg⟩
            go_wp2
            (first | refine wp_region_later2 (by kernel_rfl) (by kernel_rfl) ?_ | refine wp_region_later (by kernel_rfl) (by kernel_rfl) ?_); (repeat (go_big_quiet_step (first | (go_at_call 60; with_reducible exact quiet_later (hU _)) | (go_at_call 112; with_reducible exact quiet_later (hF _))))); refine wpQuiet_nil ?_; intro x6
            go_wp2
            rw [grp_yes hyes]
            exact bodyPost_ret (v := .bool true) (by simp [results, Try.results78, go_sem]) rfl (.mk rfl bq1)
          · have hno : ¬ GrpP p n ms := fun h => by
              have := h.un
              rw [HV.out, HV2.out] at this
              omega
            go_wp2
            (first | refine wp_region_later2 (by kernel_rfl) (by kernel_rfl) ?_ | refine wp_region_later (by kernel_rfl) (by kernel_rfl) ?_); (repeat (go_big_quiet_step (first | (go_at_call 60; with_reducible exact quiet_later (hU _)) | (go_at_call 112; with_reducible exact quiet_later (hF _))))); refine wpQuiet_nil ?_; intro x6
            go_wp2
            rw [grp_no hno]
            exact bodyPost_ret (v := .bool (decide (0 ≤ v))) (by simp [results, Try.results78, go_sem]) rfl (.mk (by rw [decide_eq_false (by omega)]) bq1)
end Go.Proofs.Ytimjhehagimcaaa
/- The walk of the program's IsGroup; no condition. -/
set_option linter.unusedVariables false
set_option linter.unusedSimpArgs false
namespace Go.Proofs.Ytimjhehagimcaaa
open Go.RowKit Go.Proofs.YtimjhehagimcaaaW.PrintWords
attribute [local go_sem] Later.cell Later.frozen Later.lt Later.lt_add Later.le Later.le_add Later.ne Later.ne' add_at
attribute [local go_sem 2000] run_eqM guardM
theorem areB_iff (p n : Int) (ms : List M9) (h1 : 1 ≤ ms.length) : areB p n ms = true ↔ ∀ i, i < ms.length → matB p n (ms.getD i zM) = true := by
  constructor
  · intro h i hi
    simp only [areB, Bool.and_eq_true, List.all_eq_true] at h
    exact h.1.1 _ (getD_mem zM hi)
  · intro h
    rw [areB_yes h]
    obtain ⟨a, b, _⟩ := matB_of (h 0 (by omega))
    rw [a, b]
    rfl
set_option maxRecDepth 100000 in
set_option maxHeartbeats 4000000 in
theorem implIsGroup_c (p n : Int) (A : Option Addr) (c : Nat) (ms : List M9) (w : World) (hC : kM.C w A ms.length ms) (hN : ms.length ≤ 9223372036854775807) :
    Calls Try.prog 80 #[.agg #[.int .i64 p, .int .i64 n, .slice A ms.length c]] w (Gives (.bool (grpB p n ms)) w) := by
  by_cases hl1 : (ms.length : Int) < 1
  · have hno : ¬ GrpP p n ms := fun h => by have := h.l1; omega
    go_enter Try.func80, Try.ntmps80
    go_wp2
    (rw [grp_no (p := p) (n := n) (ms := ms) hno]; exact bodyPost_ret (v := .bool false) (by simp [results, Try.results80, go_sem]) rfl (.mk rfl bq1))
  by_cases hl2 : (48 : Int) < ms.length
  · have hno : ¬ GrpP p n ms := fun h => by have := h.l2; omega
    go_enter Try.func80, Try.ntmps80
    go_wp2
    (rw [grp_no (p := p) (n := n) (ms := ms) hno]; exact bodyPost_ret (v := .bool false) (by simp [results, Try.results80, go_sem]) rfl (.mk rfl bq1))
  have hC1 := Kd.C_alloc hC (.cells #[.int .i64 p, .int .i64 n, .slice A ms.length c] 31)
  have hA := areMatrices_c p n A c ms _ hC1 hN
  cases ha : areB p n ms with
  | false =>
    have hno : ¬ GrpP p n ms := fun h => by
      have := (areB_iff p n ms h.l1).2 h.mat
      rw [ha] at this
      cases this
    rw [ha] at hA
    go_enter Try.func80, Try.ntmps80
    go_wp2_with ((go_at_call 62; (first | (with_reducible refine call_later2 (hA) ?_) | (with_reducible refine call_later (hA) ?_)); intro x))
    (rw [grp_no (p := p) (n := n) (ms := ms) hno]; exact bodyPost_ret (v := .bool false) (by simp [results, Try.results80, go_sem]) rfl (.mk rfl bq1))
  | true =>
  have hmat := (areB_iff p n ms (by omega)).1 ha
  obtain ⟨hp, hn, _⟩ := matB_of (hmat 0 (by omega))
  obtain ⟨hn1, hn3⟩ := inB_of hn
  have HP := Lib.hid hp
  have HN := Lib.hid hn
  have HMAT := Lib.hid hmat
  rw [ha] at hA
  clear hp hn hmat ha
  go_enter Try.func80, Try.ntmps80
  go_wp2_with ((go_at_call 62; (first | (with_reducible refine call_later2 (hA) ?_) | (with_reducible refine call_later (hA) ?_)); intro x2))
  have v0 : (w.alloc (.cells #[.int .i64 p, .int .i64 n, .slice A ms.length c] 31)).cell? ⟨w.heap.size, 0, none⟩ = some (.int .i64 p) := by simp
  have v1 : (w.alloc (.cells #[.int .i64 p, .int .i64 n, .slice A ms.length c] 31)).cell? ⟨w.heap.size, 1, none⟩ = some (.int .i64 n) := by simp
  have v2 : (w.alloc (.cells #[.int .i64 p, .int .i64 n, .slice A ms.length c] 31)).cell? ⟨w.heap.size, 2, none⟩ = some (.slice A ms.length c) := by simp
  have hbV : Below w.heap.size w (w.alloc (.cells #[.int .i64 p, .int .i64 n, .slice A ms.length c] 31)) := bq1
  clear hA
  generalize w.alloc (.cells #[.int .i64 p, .int .i64 n, .slice A ms.length c] 31) = V at *
  have hz := World.block_lt_of_cell? _ _ v0
  simp only [] at hz
  have hlen : ms.length ≤ 1048576 := by omega
  have hFx := fun g (W : World) (h : kM.C W A ms.length ms) => has_c (c := c) p n g h hlen
  go_loopg [30] ms.length (fun k v w' => ∃ (i : Nat) (y : Later V), i + k = ms.length ∧ v = .int .i64 i ∧ w' = y.W ∧ (∀ j, 0 < j → j < i → befM (ms.getD (j - 1) zM) (ms.getD j zM) = true) ∧ ∀ j, j < i → ∀ k, k < ms.length → 0 ≤ idxM ms (timesM p n.toNat (ms.getD j zM) (ms.getD k zM)))
  case atStart => exact ⟨0, x2, by omega, rfl, rfl, fun j h1 h2 => by omega, fun i' h => by omega⟩
  case round =>
    obtain ⟨i, y, hik, rfl, rfl, hor, hok⟩ := hrel
    have HIK := Lib.hid hik
    have HOK := Lib.hid hok
    have HOR := Lib.hid hor
    clear hik hok hor
    by_cases hi : i < ms.length
    · obtain ⟨b, o, hA, q0, q1, q2, q3, q4, q5, q6, q7, q8⟩ := kM_at hC1 i hi
      have r := fun h : 0 < i => kM_at hC1 (i - 1) (by omega)
      subst hA
      have hb := World.block_lt_of_cell? _ _ q0
      have hi0 : (0 : Int) ≤ i := by omega
      have hi1 : (i : Int) < ms.length := by omega
      have hin : ((i : Int)).toNat = i := by omega
      have hmi := HMAT.out i hi
      have hB := fun W => compareMatrices_c (ms.getD (i - 1) zM) (ms.getD i zM) W
      have hBB : befM (ms.getD (i - 1) zM) (ms.getD i zM) = decide (cmpM (ms.getD (i - 1) zM) (ms.getD i zM) < 0) := rfl
      have HBB := Lib.hid hBB
      clear hBB
      generalize hm1 : ms.getD i zM = m at *
      have H1 := Lib.hid hm1
      clear hm1
      generalize hm1 : ms.getD (i - 1) zM = m1 at *
      have H0 := Lib.hid hm1
      clear hm1
      go_wp2
      have p0 := cell_alloc (y.keep v0) (.cells #[.int .u8 (m.r0.a.toNat : Int), .int .u8 (m.r0.b.toNat : Int), .int .u8 (m.r0.c.toNat : Int), .int .u8 (m.r1.a.toNat : Int), .int .u8 (m.r1.b.toNat : Int), .int .u8 (m.r1.c.toNat : Int), .int .u8 (m.r2.a.toNat : Int), .int .u8 (m.r2.b.toNat : Int), .int .u8 (m.r2.c.toNat : Int)] 41)
      have p1 := cell_alloc (y.keep v1) (.cells #[.int .u8 (m.r0.a.toNat : Int), .int .u8 (m.r0.b.toNat : Int), .int .u8 (m.r0.c.toNat : Int), .int .u8 (m.r1.a.toNat : Int), .int .u8 (m.r1.b.toNat : Int), .int .u8 (m.r1.c.toNat : Int), .int .u8 (m.r2.a.toNat : Int), .int .u8 (m.r2.b.toNat : Int), .int .u8 (m.r2.c.toNat : Int)] 41)
      have p2 := cell_alloc (y.keep v2) (.cells #[.int .u8 (m.r0.a.toNat : Int), .int .u8 (m.r0.b.toNat : Int), .int .u8 (m.r0.c.toNat : Int), .int .u8 (m.r1.a.toNat : Int), .int .u8 (m.r1.b.toNat : Int), .int .u8 (m.r1.c.toNat : Int), .int .u8 (m.r2.a.toNat : Int), .int .u8 (m.r2.b.toNat : Int), .int .u8 (m.r2.c.toNat : Int)] 41)
      obtain ⟨n0, n1, n2, n3, n4, n5, n6, n7, n8, _⟩ := nine_alloc y.W m 41
      have hb2 : Below V.heap.size V (y.W.alloc (.cells #[.int .u8 (m.r0.a.toNat : Int), .int .u8 (m.r0.b.toNat : Int), .int .u8 (m.r0.c.toNat : Int), .int .u8 (m.r1.a.toNat : Int), .int .u8 (m.r1.b.toNat : Int), .int .u8 (m.r1.c.toNat : Int), .int .u8 (m.r2.a.toNat : Int), .int .u8 (m.r2.b.toNat : Int), .int .u8 (m.r2.c.toNat : Int)] 41)) := y.ok.alloc y.ok.size _
      have hC2 := Kd.C_below hC1 hb2
      have r := fun h : 0 < i => kM_at hC2 (i - 1) (by omega)
      have hz0 := World.block_lt_of_cell? _ _ p0
      have hz1 := World.block_lt_of_cell? _ _ n0
      generalize y.W.alloc (.cells #[.int .u8 (m.r0.a.toNat : Int), .int .u8 (m.r0.b.toNat : Int), .int .u8 (m.r0.c.toNat : Int), .int .u8 (m.r1.a.toNat : Int), .int .u8 (m.r1.b.toNat : Int), .int .u8 (m.r1.c.toNat : Int), .int .u8 (m.r2.a.toNat : Int), .int .u8 (m.r2.b.toNat : Int), .int .u8 (m.r2.c.toNat : Int)] 41) = V2 at *
      generalize y.W.heap.size = by2 at *
      simp only [] at hz0 hz1 hb
      have hzb : b < V2.heap.size := Nat.lt_of_lt_of_le hb hb2.size
      by_cases c4 : 0 < i
      · obtain ⟨b', o', hA', r0, r1, r2, r3, r4, r5, r6, r7, r8⟩ := r c4
        injection hA' with hA'
        injection hA' with e1 e2
        subst e1
        subst e2
        have hz3 := World.block_lt_of_cell? _ _ r0
        have b4 : decide ((0 : Int) < (i : Int)) = true := decide_eq_true (by omega)
        have hi2 : (0 : Int) ≤ (i : Int) - 1 := by omega
        have hi3 : (i : Int) - 1 < ms.length := by omega
        have hin2 : ((i : Int) - 1).toNat = i - 1 := by omega
        clear r
        rw [H0.out] at r0 r1 r2 r3 r4 r5 r6 r7 r8
        have hBB := HBB.out
        clear HBB
        generalize cmpM m1 m = cv at *
        by_cases hcv : cv < 0
        · rw [decide_eq_true hcv] at hBB
          have HB := Lib.hid hBB
          clear hBB
          go_wp2
          (first | refine wp_region_later2 (by kernel_rfl) (by kernel_rfl) ?_ | refine wp_region_later (by kernel_rfl) (by kernel_rfl) ?_); (repeat (go_big_quiet_step ((go_at_call 113; with_reducible exact quiet_later (hB _))))); refine wpQuiet_nil ?_; intro x6
          clear r0 r1 r2 r3 r4 r5 r6 r7 r8 hB
          go_wp2
          go_loopg [51] ms.length (fun k v w' => ∃ (j : Nat) (y2 : Later V2), j + k = ms.length ∧ v = .int .i64 j ∧ w' = y2.W ∧ ∀ k, k < j → 0 ≤ idxM ms (timesM p n.toNat m (ms.getD k zM)))
          case atStart => exact ⟨0, x6, by omega, rfl, rfl, fun i' h => by omega⟩
          case round =>
            obtain ⟨j, y2, hjk, rfl, rfl, hok2⟩ := hrel
            have HJK := Lib.hid hjk
            have HOK2 := Lib.hid hok2
            clear hjk hok2
            by_cases hj : j < ms.length
            · obtain ⟨b', o', hA', r0, r1, r2, r3, r4, r5, r6, r7, r8⟩ := kM_at hC2 j hj
              injection hA' with hA'
              injection hA' with e1 e2
              subst e1
              subst e2
              have hj0 : (0 : Int) ≤ j := by omega
              have hj1 : (j : Int) < ms.length := by omega
              have hjn : ((j : Int)).toNat = j := by omega
              have hmj := HMAT.out j hj
              generalize hm2 : ms.getD j zM = m' at *
              have H2 := Lib.hid hm2
              clear hm2
              have hT := fun W => times_g hmi hmj W
              have hFV := hFx (timesM p n.toNat m m')
              generalize hv : timesM p n.toNat m m' = tm at *
              have HV := Lib.hid hv
              clear hv
              generalize hv : idxM ms tm = v at *
              have HV2 := Lib.hid hv
              clear hv
              go_wp2
              have s0 := cell_alloc (y2.keep p0) (.cells #[.int .u8 (m'.r0.a.toNat : Int), .int .u8 (m'.r0.b.toNat : Int), .int .u8 (m'.r0.c.toNat : Int), .int .u8 (m'.r1.a.toNat : Int), .int .u8 (m'.r1.b.toNat : Int), .int .u8 (m'.r1.c.toNat : Int), .int .u8 (m'.r2.a.toNat : Int), .int .u8 (m'.r2.b.toNat : Int), .int .u8 (m'.r2.c.toNat : Int)] 41)
              have s1 := cell_alloc (y2.keep p1) (.cells #[.int .u8 (m'.r0.a.toNat : Int), .int .u8 (m'.r0.b.toNat : Int), .int .u8 (m'.r0.c.toNat : Int), .int .u8 (m'.r1.a.toNat : Int), .int .u8 (m'.r1.b.toNat : Int), .int .u8 (m'.r1.c.toNat : Int), .int .u8 (m'.r2.a.toNat : Int), .int .u8 (m'.r2.b.toNat : Int), .int .u8 (m'.r2.c.toNat : Int)] 41)
              have s2 := cell_alloc (y2.keep p2) (.cells #[.int .u8 (m'.r0.a.toNat : Int), .int .u8 (m'.r0.b.toNat : Int), .int .u8 (m'.r0.c.toNat : Int), .int .u8 (m'.r1.a.toNat : Int), .int .u8 (m'.r1.b.toNat : Int), .int .u8 (m'.r1.c.toNat : Int), .int .u8 (m'.r2.a.toNat : Int), .int .u8 (m'.r2.b.toNat : Int), .int .u8 (m'.r2.c.toNat : Int)] 41)
              have t0 := cell_alloc (y2.keep n0) (.cells #[.int .u8 (m'.r0.a.toNat : Int), .int .u8 (m'.r0.b.toNat : Int), .int .u8 (m'.r0.c.toNat : Int), .int .u8 (m'.r1.a.toNat : Int), .int .u8 (m'.r1.b.toNat : Int), .int .u8 (m'.r1.c.toNat : Int), .int .u8 (m'.r2.a.toNat : Int), .int .u8 (m'.r2.b.toNat : Int), .int .u8 (m'.r2.c.toNat : Int)] 41)
              have t1 := cell_alloc (y2.keep n1) (.cells #[.int .u8 (m'.r0.a.toNat : Int), .int .u8 (m'.r0.b.toNat : Int), .int .u8 (m'.r0.c.toNat : Int), .int .u8 (m'.r1.a.toNat : Int), .int .u8 (m'.r1.b.toNat : Int), .int .u8 (m'.r1.c.toNat : Int), .int .u8 (m'.r2.a.toNat : Int), .int .u8 (m'.r2.b.toNat : Int), .int .u8 (m'.r2.c.toNat : Int)] 41)
              have t2 := cell_alloc (y2.keep n2) (.cells #[.int .u8 (m'.r0.a.toNat : Int), .int .u8 (m'.r0.b.toNat : Int), .int .u8 (m'.r0.c.toNat : Int), .int .u8 (m'.r1.a.toNat : Int), .int .u8 (m'.r1.b.toNat : Int), .int .u8 (m'.r1.c.toNat : Int), .int .u8 (m'.r2.a.toNat : Int), .int .u8 (m'.r2.b.toNat : Int), .int .u8 (m'.r2.c.toNat : Int)] 41)
              have t3 := cell_alloc (y2.keep n3) (.cells #[.int .u8 (m'.r0.a.toNat : Int), .int .u8 (m'.r0.b.toNat : Int), .int .u8 (m'.r0.c.toNat : Int), .int .u8 (m'.r1.a.toNat : Int), .int .u8 (m'.r1.b.toNat : Int), .int .u8 (m'.r1.c.toNat : Int), .int .u8 (m'.r2.a.toNat : Int), .int .u8 (m'.r2.b.toNat : Int), .int .u8 (m'.r2.c.toNat : Int)] 41)
              have t4 := cell_alloc (y2.keep n4) (.cells #[.int .u8 (m'.r0.a.toNat : Int), .int .u8 (m'.r0.b.toNat : Int), .int .u8 (m'.r0.c.toNat : Int), .int .u8 (m'.r1.a.toNat : Int), .int .u8 (m'.r1.b.toNat : Int), .int .u8 (m'.r1.c.toNat : Int), .int .u8 (m'.r2.a.toNat : Int), .int .u8 (m'.r2.b.toNat : Int), .int .u8 (m'.r2.c.toNat : Int)] 41)
              have t5 := cell_alloc (y2.keep n5) (.cells #[.int .u8 (m'.r0.a.toNat : Int), .int .u8 (m'.r0.b.toNat : Int), .int .u8 (m'.r0.c.toNat : Int), .int .u8 (m'.r1.a.toNat : Int), .int .u8 (m'.r1.b.toNat : Int), .int .u8 (m'.r1.c.toNat : Int), .int .u8 (m'.r2.a.toNat : Int), .int .u8 (m'.r2.b.toNat : Int), .int .u8 (m'.r2.c.toNat : Int)] 41)
              have t6 := cell_alloc (y2.keep n6) (.cells #[.int .u8 (m'.r0.a.toNat : Int), .int .u8 (m'.r0.b.toNat : Int), .int .u8 (m'.r0.c.toNat : Int), .int .u8 (m'.r1.a.toNat : Int), .int .u8 (m'.r1.b.toNat : Int), .int .u8 (m'.r1.c.toNat : Int), .int .u8 (m'.r2.a.toNat : Int), .int .u8 (m'.r2.b.toNat : Int), .int .u8 (m'.r2.c.toNat : Int)] 41)
              have t7 := cell_alloc (y2.keep n7) (.cells #[.int .u8 (m'.r0.a.toNat : Int), .int .u8 (m'.r0.b.toNat : Int), .int .u8 (m'.r0.c.toNat : Int), .int .u8 (m'.r1.a.toNat : Int), .int .u8 (m'.r1.b.toNat : Int), .int .u8 (m'.r1.c.toNat : Int), .int .u8 (m'.r2.a.toNat : Int), .int .u8 (m'.r2.b.toNat : Int), .int .u8 (m'.r2.c.toNat : Int)] 41)
              have t8 := cell_alloc (y2.keep n8) (.cells #[.int .u8 (m'.r0.a.toNat : Int), .int .u8 (m'.r0.b.toNat : Int), .int .u8 (m'.r0.c.toNat : Int), .int .u8 (m'.r1.a.toNat : Int), .int .u8 (m'.r1.b.toNat : Int), .int .u8 (m'.r1.c.toNat : Int), .int .u8 (m'.r2.a.toNat : Int), .int .u8 (m'.r2.b.toNat : Int), .int .u8 (m'.r2.c.toNat : Int)] 41)
              obtain ⟨u0, u1, u2, u3, u4, u5, u6, u7, u8, _⟩ := nine_alloc y2.W m' 41
              have hb3 : Below V2.heap.size V2 (y2.W.alloc (.cells #[.int .u8 (m'.r0.a.toNat : Int), .int .u8 (m'.r0.b.toNat : Int), .int .u8 (m'.r0.c.toNat : Int), .int .u8 (m'.r1.a.toNat : Int), .int .u8 (m'.r1.b.toNat : Int), .int .u8 (m'.r1.c.toNat : Int), .int .u8 (m'.r2.a.toNat : Int), .int .u8 (m'.r2.b.toNat : Int), .int .u8 (m'.r2.c.toNat : Int)] 41)) := y2.ok.alloc y2.ok.size _
              have hC3 := Kd.C_below hC2 hb3
              have hF := fun (x : Later (y2.W.alloc (.cells #[.int .u8 (m'.r0.a.toNat : Int), .int .u8 (m'.r0.b.toNat : Int), .int .u8 (m'.r0.c.toNat : Int), .int .u8 (m'.r1.a.toNat : Int), .int .u8 (m'.r1.b.toNat : Int), .int .u8 (m'.r1.c.toNat : Int), .int .u8 (m'.r2.a.toNat : Int), .int .u8 (m'.r2.b.toNat : Int), .int .u8 (m'.r2.c.toNat : Int)] 41))) => hFV _ (Kd.C_below hC3 x.ok)
              have hz0 := World.block_lt_of_cell? _ _ s0
              have hz1 := World.block_lt_of_cell? _ _ t0
              have hz2 := World.block_lt_of_cell? _ _ u0
              generalize y2.W.alloc (.cells #[.int .u8 (m'.r0.a.toNat : Int), .int .u8 (m'.r0.b.toNat : Int), .int .u8 (m'.r0.c.toNat : Int), .int .u8 (m'.r1.a.toNat : Int), .int .u8 (m'.r1.b.toNat : Int), .int .u8 (m'.r1.c.toNat : Int), .int .u8 (m'.r2.a.toNat : Int), .int .u8 (m'.r2.b.toNat : Int), .int .u8 (m'.r2.c.toNat : Int)] 41) = V3 at *
              generalize y2.W.heap.size = by3 at *
              simp only [] at hz0 hz1 hz2
              clear hFV hC3
              by_cases hneg : v < 0
              · have hno : ¬ GrpP p n ms := fun h => by
                  have := h.cl i hi j hj
                  rw [H1.out, H2.out, HV.out, HV2.out] at this
                  omega
                have hnd : decide (0 ≤ v) = false := decide_eq_false (by omega)
                rw [hnd] at hF
                go_wp2
                (first | refine wp_region_later2 (by kernel_rfl) (by kernel_rfl) ?_ | refine wp_region_later (by kernel_rfl) (by kernel_rfl) ?_); (repeat (go_big_quiet_step (first | (go_at_call 63; with_reducible exact quiet_later (hT _)) | (go_at_call 114; with_reducible exact quiet_later (hF _))))); refine wpQuiet_nil ?_; intro x7
                go_wp2
                have hbw : Below w.heap.size w x7.W := hbV.trans ((hb2.trans ((hb3.mono hb2.size).trans (x7.ok.mono (Nat.le_trans hb2.size hb3.size)))).mono hbV.size)
                rw [grp_no (p := p) (n := n) (ms := ms) hno]
                exact bodyPost_ret (v := .bool false) (by simp [results, Try.results80, go_sem]) rfl (.mk rfl hbw)
              · have hnd : decide (0 ≤ v) = true := decide_eq_true (by omega)
                rw [hnd] at hF
                go_wp2
                (first | refine wp_region_later2 (by kernel_rfl) (by kernel_rfl) ?_ | refine wp_region_later (by kernel_rfl) (by kernel_rfl) ?_); (repeat (go_big_quiet_step (first | (go_at_call 63; with_reducible exact quiet_later (hT _)) | (go_at_call 114; with_reducible exact quiet_later (hF _))))); refine wpQuiet_nil ?_; intro x7
                go_wp2
                go_roundg (gk - 1)
                case measure => have := HJK.out; omega
                case rel =>
                  refine ⟨j + 1, ⟨x7.W, hb3.trans (x7.ok.mono hb3.size)⟩, by have := HJK.out; omega, by go_num, rfl, fun k hk => ?_⟩
                  by_cases h : k = j
                  · rw [h, H2.out, HV.out, HV2.out]; omega
                  · exact HOK2.out k (by omega)
            · have hje : j = ms.length := by have := HJK.out; omega
              subst hje
              go_wp2
              go_roundg (ms.length - 1 - i)
              case measure => have := HIK.out; omega
              case rel =>
                refine ⟨i + 1, ⟨y2.W, hb2.trans (y2.ok.mono hb2.size)⟩, by have := HIK.out; omega, by go_num, rfl, ?_, fun i' hi' => ?_⟩
                · exact fun j h0 hj => by
                      by_cases h : j = i
                      · rw [h, H1.out, H0.out]; exact HB.out
                      · exact HOR.out j h0 (by omega)
                · by_cases h : i' = i
                  · rw [h, H1.out]; exact HOK2.out
                  · exact HOK.out i' (by omega)
        · rw [decide_eq_false hcv] at hBB
          have hno : ¬ GrpP p n ms := fun h => by
            have := h.ord i c4 hi
            rw [H1.out, H0.out, hBB] at this
            cases this
          clear hBB
          go_wp2
          (first | refine wp_region_later2 (by kernel_rfl) (by kernel_rfl) ?_ | refine wp_region_later (by kernel_rfl) (by kernel_rfl) ?_); (repeat (go_big_quiet_step ((go_at_call 113; with_reducible exact quiet_later (hB _))))); refine wpQuiet_nil ?_; intro x6
          go_wp2
          have hbw : Below w.heap.size w x6.W := hbV.trans ((hb2.trans (x6.ok.mono hb2.size)).mono hbV.size)
          rw [grp_no (p := p) (n := n) (ms := ms) hno]
          exact bodyPost_ret (v := .bool false) (by simp [results, Try.results80, go_sem]) rfl (.mk rfl hbw)
      · have b4 : decide ((0 : Int) < (i : Int)) = false := decide_eq_false (by omega)
        clear r hB HBB
        go_wp2
        (first | refine wp_region_later2 (by kernel_rfl) (by kernel_rfl) ?_ | refine wp_region_later (by kernel_rfl) (by kernel_rfl) ?_); (repeat (go_big_quiet_step (fail))); refine wpQuiet_nil ?_; intro x6
        go_wp2
        go_loopg [51] ms.length (fun k v w' => ∃ (j : Nat) (y2 : Later V2), j + k = ms.length ∧ v = .int .i64 j ∧ w' = y2.W ∧ ∀ k, k < j → 0 ≤ idxM ms (timesM p n.toNat m (ms.getD k zM)))
        case atStart => exact ⟨0, x6, by omega, rfl, rfl, fun i' h => by omega⟩
        case round =>
          obtain ⟨j, y2, hjk, rfl, rfl, hok2⟩ := hrel
          have HJK := Lib.hid hjk
          have HOK2 := Lib.hid hok2
          clear hjk hok2
          by_cases hj : j < ms.length
          · obtain ⟨b', o', hA', r0, r1, r2, r3, r4, r5, r6, r7, r8⟩ := kM_at hC2 j hj
            injection hA' with hA'
            injection hA' with e1 e2
            subst e1
            subst e2
            have hj0 : (0 : Int) ≤ j := by omega
            have hj1 : (j : Int) < ms.length := by omega
            have hjn : ((j : Int)).toNat = j := by omega
            have hmj := HMAT.out j hj
            generalize hm2 : ms.getD j zM = m' at *
            have H2 := Lib.hid hm2
            clear hm2
            have hT := fun W => times_g hmi hmj W
            have hFV := hFx (timesM p n.toNat m m')
            generalize hv : timesM p n.toNat m m' = tm at *
            have HV := Lib.hid hv
            clear hv
            generalize hv : idxM ms tm = v at *
            have HV2 := Lib.hid hv
            clear hv
            go_wp2
            have s0 := cell_alloc (y2.keep p0) (.cells #[.int .u8 (m'.r0.a.toNat : Int), .int .u8 (m'.r0.b.toNat : Int), .int .u8 (m'.r0.c.toNat : Int), .int .u8 (m'.r1.a.toNat : Int), .int .u8 (m'.r1.b.toNat : Int), .int .u8 (m'.r1.c.toNat : Int), .int .u8 (m'.r2.a.toNat : Int), .int .u8 (m'.r2.b.toNat : Int), .int .u8 (m'.r2.c.toNat : Int)] 41)
            have s1 := cell_alloc (y2.keep p1) (.cells #[.int .u8 (m'.r0.a.toNat : Int), .int .u8 (m'.r0.b.toNat : Int), .int .u8 (m'.r0.c.toNat : Int), .int .u8 (m'.r1.a.toNat : Int), .int .u8 (m'.r1.b.toNat : Int), .int .u8 (m'.r1.c.toNat : Int), .int .u8 (m'.r2.a.toNat : Int), .int .u8 (m'.r2.b.toNat : Int), .int .u8 (m'.r2.c.toNat : Int)] 41)
            have s2 := cell_alloc (y2.keep p2) (.cells #[.int .u8 (m'.r0.a.toNat : Int), .int .u8 (m'.r0.b.toNat : Int), .int .u8 (m'.r0.c.toNat : Int), .int .u8 (m'.r1.a.toNat : Int), .int .u8 (m'.r1.b.toNat : Int), .int .u8 (m'.r1.c.toNat : Int), .int .u8 (m'.r2.a.toNat : Int), .int .u8 (m'.r2.b.toNat : Int), .int .u8 (m'.r2.c.toNat : Int)] 41)
            have t0 := cell_alloc (y2.keep n0) (.cells #[.int .u8 (m'.r0.a.toNat : Int), .int .u8 (m'.r0.b.toNat : Int), .int .u8 (m'.r0.c.toNat : Int), .int .u8 (m'.r1.a.toNat : Int), .int .u8 (m'.r1.b.toNat : Int), .int .u8 (m'.r1.c.toNat : Int), .int .u8 (m'.r2.a.toNat : Int), .int .u8 (m'.r2.b.toNat : Int), .int .u8 (m'.r2.c.toNat : Int)] 41)
            have t1 := cell_alloc (y2.keep n1) (.cells #[.int .u8 (m'.r0.a.toNat : Int), .int .u8 (m'.r0.b.toNat : Int), .int .u8 (m'.r0.c.toNat : Int), .int .u8 (m'.r1.a.toNat : Int), .int .u8 (m'.r1.b.toNat : Int), .int .u8 (m'.r1.c.toNat : Int), .int .u8 (m'.r2.a.toNat : Int), .int .u8 (m'.r2.b.toNat : Int), .int .u8 (m'.r2.c.toNat : Int)] 41)
            have t2 := cell_alloc (y2.keep n2) (.cells #[.int .u8 (m'.r0.a.toNat : Int), .int .u8 (m'.r0.b.toNat : Int), .int .u8 (m'.r0.c.toNat : Int), .int .u8 (m'.r1.a.toNat : Int), .int .u8 (m'.r1.b.toNat : Int), .int .u8 (m'.r1.c.toNat : Int), .int .u8 (m'.r2.a.toNat : Int), .int .u8 (m'.r2.b.toNat : Int), .int .u8 (m'.r2.c.toNat : Int)] 41)
            have t3 := cell_alloc (y2.keep n3) (.cells #[.int .u8 (m'.r0.a.toNat : Int), .int .u8 (m'.r0.b.toNat : Int), .int .u8 (m'.r0.c.toNat : Int), .int .u8 (m'.r1.a.toNat : Int), .int .u8 (m'.r1.b.toNat : Int), .int .u8 (m'.r1.c.toNat : Int), .int .u8 (m'.r2.a.toNat : Int), .int .u8 (m'.r2.b.toNat : Int), .int .u8 (m'.r2.c.toNat : Int)] 41)
            have t4 := cell_alloc (y2.keep n4) (.cells #[.int .u8 (m'.r0.a.toNat : Int), .int .u8 (m'.r0.b.toNat : Int), .int .u8 (m'.r0.c.toNat : Int), .int .u8 (m'.r1.a.toNat : Int), .int .u8 (m'.r1.b.toNat : Int), .int .u8 (m'.r1.c.toNat : Int), .int .u8 (m'.r2.a.toNat : Int), .int .u8 (m'.r2.b.toNat : Int), .int .u8 (m'.r2.c.toNat : Int)] 41)
            have t5 := cell_alloc (y2.keep n5) (.cells #[.int .u8 (m'.r0.a.toNat : Int), .int .u8 (m'.r0.b.toNat : Int), .int .u8 (m'.r0.c.toNat : Int), .int .u8 (m'.r1.a.toNat : Int), .int .u8 (m'.r1.b.toNat : Int), .int .u8 (m'.r1.c.toNat : Int), .int .u8 (m'.r2.a.toNat : Int), .int .u8 (m'.r2.b.toNat : Int), .int .u8 (m'.r2.c.toNat : Int)] 41)
            have t6 := cell_alloc (y2.keep n6) (.cells #[.int .u8 (m'.r0.a.toNat : Int), .int .u8 (m'.r0.b.toNat : Int), .int .u8 (m'.r0.c.toNat : Int), .int .u8 (m'.r1.a.toNat : Int), .int .u8 (m'.r1.b.toNat : Int), .int .u8 (m'.r1.c.toNat : Int), .int .u8 (m'.r2.a.toNat : Int), .int .u8 (m'.r2.b.toNat : Int), .int .u8 (m'.r2.c.toNat : Int)] 41)
            have t7 := cell_alloc (y2.keep n7) (.cells #[.int .u8 (m'.r0.a.toNat : Int), .int .u8 (m'.r0.b.toNat : Int), .int .u8 (m'.r0.c.toNat : Int), .int .u8 (m'.r1.a.toNat : Int), .int .u8 (m'.r1.b.toNat : Int), .int .u8 (m'.r1.c.toNat : Int), .int .u8 (m'.r2.a.toNat : Int), .int .u8 (m'.r2.b.toNat : Int), .int .u8 (m'.r2.c.toNat : Int)] 41)
            have t8 := cell_alloc (y2.keep n8) (.cells #[.int .u8 (m'.r0.a.toNat : Int), .int .u8 (m'.r0.b.toNat : Int), .int .u8 (m'.r0.c.toNat : Int), .int .u8 (m'.r1.a.toNat : Int), .int .u8 (m'.r1.b.toNat : Int), .int .u8 (m'.r1.c.toNat : Int), .int .u8 (m'.r2.a.toNat : Int), .int .u8 (m'.r2.b.toNat : Int), .int .u8 (m'.r2.c.toNat : Int)] 41)
            obtain ⟨u0, u1, u2, u3, u4, u5, u6, u7, u8, _⟩ := nine_alloc y2.W m' 41
            have hb3 : Below V2.heap.size V2 (y2.W.alloc (.cells #[.int .u8 (m'.r0.a.toNat : Int), .int .u8 (m'.r0.b.toNat : Int), .int .u8 (m'.r0.c.toNat : Int), .int .u8 (m'.r1.a.toNat : Int), .int .u8 (m'.r1.b.toNat : Int), .int .u8 (m'.r1.c.toNat : Int), .int .u8 (m'.r2.a.toNat : Int), .int .u8 (m'.r2.b.toNat : Int), .int .u8 (m'.r2.c.toNat : Int)] 41)) := y2.ok.alloc y2.ok.size _
            have hC3 := Kd.C_below hC2 hb3
            have hF := fun (x : Later (y2.W.alloc (.cells #[.int .u8 (m'.r0.a.toNat : Int), .int .u8 (m'.r0.b.toNat : Int), .int .u8 (m'.r0.c.toNat : Int), .int .u8 (m'.r1.a.toNat : Int), .int .u8 (m'.r1.b.toNat : Int), .int .u8 (m'.r1.c.toNat : Int), .int .u8 (m'.r2.a.toNat : Int), .int .u8 (m'.r2.b.toNat : Int), .int .u8 (m'.r2.c.toNat : Int)] 41))) => hFV _ (Kd.C_below hC3 x.ok)
            have hz0 := World.block_lt_of_cell? _ _ s0
            have hz1 := World.block_lt_of_cell? _ _ t0
            have hz2 := World.block_lt_of_cell? _ _ u0
            generalize y2.W.alloc (.cells #[.int .u8 (m'.r0.a.toNat : Int), .int .u8 (m'.r0.b.toNat : Int), .int .u8 (m'.r0.c.toNat : Int), .int .u8 (m'.r1.a.toNat : Int), .int .u8 (m'.r1.b.toNat : Int), .int .u8 (m'.r1.c.toNat : Int), .int .u8 (m'.r2.a.toNat : Int), .int .u8 (m'.r2.b.toNat : Int), .int .u8 (m'.r2.c.toNat : Int)] 41) = V3 at *
            generalize y2.W.heap.size = by3 at *
            simp only [] at hz0 hz1 hz2
            clear hFV hC3
            by_cases hneg : v < 0
            · have hno : ¬ GrpP p n ms := fun h => by
                have := h.cl i hi j hj
                rw [H1.out, H2.out, HV.out, HV2.out] at this
                omega
              have hnd : decide (0 ≤ v) = false := decide_eq_false (by omega)
              rw [hnd] at hF
              go_wp2
              (first | refine wp_region_later2 (by kernel_rfl) (by kernel_rfl) ?_ | refine wp_region_later (by kernel_rfl) (by kernel_rfl) ?_); (repeat (go_big_quiet_step (first | (go_at_call 63; with_reducible exact quiet_later (hT _)) | (go_at_call 114; with_reducible exact quiet_later (hF _))))); refine wpQuiet_nil ?_; intro x7
              go_wp2
              have hbw : Below w.heap.size w x7.W := hbV.trans ((hb2.trans ((hb3.mono hb2.size).trans (x7.ok.mono (Nat.le_trans hb2.size hb3.size)))).mono hbV.size)
              rw [grp_no (p := p) (n := n) (ms := ms) hno]
              exact bodyPost_ret (v := .bool false) (by simp [results, Try.results80, go_sem]) rfl (.mk rfl hbw)
            · have hnd : decide (0 ≤ v) = true := decide_eq_true (by omega)
              rw [hnd] at hF
              go_wp2
              (first | refine wp_region_later2 (by kernel_rfl) (by kernel_rfl) ?_ | refine wp_region_later (by kernel_rfl) (by kernel_rfl) ?_); (repeat (go_big_quiet_step (first | (go_at_call 63; with_reducible exact quiet_later (hT _)) | (go_at_call 114; with_reducible exact quiet_later (hF _))))); refine wpQuiet_nil ?_; intro x7
              go_wp2
              go_roundg (gk - 1)
              case measure => have := HJK.out; omega
              case rel =>
                refine ⟨j + 1, ⟨x7.W, hb3.trans (x7.ok.mono hb3.size)⟩, by have := HJK.out; omega, by go_num, rfl, fun k hk => ?_⟩
                by_cases h : k = j
                · rw [h, H2.out, HV.out, HV2.out]; omega
                · exact HOK2.out k (by omega)
          · have hje : j = ms.length := by have := HJK.out; omega
            subst hje
            go_wp2
            go_roundg (ms.length - 1 - i)
            case measure => have := HIK.out; omega
            case rel =>
              refine ⟨i + 1, ⟨y2.W, hb2.trans (y2.ok.mono hb2.size)⟩, by have := HIK.out; omega, by go_num, rfl, ?_, fun i' hi' => ?_⟩
              · exact fun j h0 hj => HOR.out j h0 (by omega)
              · by_cases h : i' = i
                · rw [h, H1.out]; exact HOK2.out
                · exact HOK.out i' (by omega)
    · have hord : ∀ j, 0 < j → j < ms.length → befM (ms.getD (j - 1) zM) (ms.getD j zM) = true := fun j h0 hj => HOR.out j h0 (by have := HIK.out; omega)
      have HORD := Lib.hid hord
      clear hord
      have hU := fun W => unit_c n W hn1 hn3
      have hF := fun (x : Later V) => hFx (unitM n) _ (Kd.C_below hC1 x.ok)
      have hcl : ∀ i, i < ms.length → ∀ k, k < ms.length → 0 ≤ idxM ms (timesM p n.toNat (ms.getD i zM) (ms.getD k zM)) := fun j hj => HOK.out j (by have := HIK.out; omega)
      have HCL := Lib.hid hcl
      clear hcl hFx
      generalize hv : unitM n = u at *
      have HV := Lib.hid hv
      clear hv
      generalize hv : idxM ms u = v at *
      have HV2 := Lib.hid hv
      clear hv
      by_cases hneg : 0 ≤ v
      · have hyes : GrpP p n ms := ⟨HP.out, HN.out, by omega, by omega, HMAT.out, HORD.out, HCL.out, by rw [HV.out, HV2.out]; exact hneg⟩
        have hnd : decide (0 ≤ v) = true := decide_eq_true hneg
        rw [hnd] at hF
        go_wp2
        (first | refine wp_region_later2 (by kernel_rfl) (by kernel_rfl) ?_ | refine wp_region_later (by kernel_rfl) (by kernel_rfl) ?_); (repeat (go_big_quiet_step (first | (go_at_call 70; with_reducible exact quiet_later (hU _)) | (go_at_call 114; with_reducible exact quiet_later (hF _))))); refine wpQuiet_nil ?_; intro x6
        go_wp2
        rw [grp_yes hyes]
        exact bodyPost_ret (v := .bool true) (by simp [results, Try.results80, go_sem]) rfl (.mk rfl bq1)
      · have hno : ¬ GrpP p n ms := fun h => by
          have := h.un
          rw [HV.out, HV2.out] at this
          omega
        have hnd : decide (0 ≤ v) = false := decide_eq_false hneg
        rw [hnd] at hF
        go_wp2
        (first | refine wp_region_later2 (by kernel_rfl) (by kernel_rfl) ?_ | refine wp_region_later (by kernel_rfl) (by kernel_rfl) ?_); (repeat (go_big_quiet_step (first | (go_at_call 70; with_reducible exact quiet_later (hU _)) | (go_at_call 114; with_reducible exact quiet_later (hF _))))); refine wpQuiet_nil ?_; intro x6
        go_wp2
        (rw [grp_no (p := p) (n := n) (ms := ms) hno]; exact bodyPost_ret (v := .bool false) (by simp [results, Try.results80, go_sem]) rfl (.mk rfl bq1))
end Go.Proofs.Ytimjhehagimcaaa
/- The walks of IsGroup and IsModular of both sides; no condition. -/
set_option linter.unusedVariables false
set_option linter.unusedSimpArgs false
namespace Go.Proofs.Ytimjhehagimcaaa
open Go.RowKit Go.Proofs.YtimjhehagimcaaaW.PrintWords
attribute [local go_sem] Later.cell Later.frozen Later.lt Later.lt_add Later.le Later.le_add Later.ne Later.ne' add_at
end Go.Proofs.Ytimjhehagimcaaa

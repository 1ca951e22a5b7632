/- The reference's named groups; no condition. -/
import Derived.Test.YtimjhehagimcaaaYE1
import Derived.Test.YtimjhehagimcaaaYNamX
import Derived.Test.YtimjhehagimcaaaYNamY
import Derived.Test.YtimjhehagimcaaaYKitE
import Derived.Deep.CutRange
set_option linter.unusedVariables false
set_option linter.unusedSimpArgs false
namespace Go.Proofs.Ytimjhehagimcaaa
open Go.RowKit Go.Proofs.YtimjhehagimcaaaW.PrintWords
attribute [local go_sem] Later.cell Later.frozen Later.lt Later.lt_add Later.le Later.le_add Later.ne Later.ne' add_at
attribute [local go_sem 2000] run_eqM guardM
theorem kL_mk {W : World} {g : Nat} {raw : List (List Int)} (hn : raw.length ≤ 3) (h : ∀ j, j < raw.length → ∃ b c, W.cell? ⟨g, j, none⟩ = some (.slice (some ⟨b, 0, none⟩) (raw.getD j []).length c) ∧ (raw.getD j []).length ≤ c ∧ (raw.getD j []).length ≤ 9 ∧ ∀ t, t < (raw.getD j []).length → W.cell? ⟨b, t, none⟩ = some (.int .i64 ((raw.getD j []).getD t 0))) : kL.C W (some ⟨g, 0, none⟩) raw.length raw := by
  refine ⟨rfl, by omega, fun _ => ⟨_, rfl, fun j p hj => ?_⟩⟩
  have hjl : j < raw.length := (List.getElem?_eq_some_iff.1 hj).1
  have hp : raw.getD j [] = p := by rw [List.getD_eq_getElem?_getD, hj]; rfl
  obtain ⟨b, c, h1, h2, h2', h3⟩ := h j hjl
  rw [hp] at h1 h2 h3 h2'
  have hI : kI.C W (some ⟨b, 0, none⟩) p.length p := by
    refine ⟨rfl, by omega, fun _ => ⟨_, rfl, fun t x ht => ?_⟩⟩
    have htl : t < p.length := (List.getElem?_eq_some_iff.1 ht).1
    have hx : p.getD t 0 = x := by rw [List.getD_eq_getElem?_getD, ht]; rfl
    refine ⟨[.int .i64 x], rfl, rfl, fun i u hu => ?_⟩
    have hi : i = 0 := by have := (List.getElem?_eq_some_iff.1 hu).1; simp at this; omega
    subst hi
    have e : (Addr.mk b 0 none).add (t * kI.sz + 0) = ⟨b, t, none⟩ := by rw [add_plain]; show Addr.mk b (t * 1 + 0) none = _; rw [Nat.mul_one, Nat.add_zero]
    rw [e, h3 t htl, hx]
    simpa using hu
  refine ⟨[.slice (some ⟨b, 0, none⟩) p.length c], rfl, ⟨some ⟨b, 0, none⟩, c, rfl, h2, hI⟩, fun i u hu => ?_⟩
  have hi : i = 0 := by have := (List.getElem?_eq_some_iff.1 hu).1; simp at this; omega
  subst hi
  have e : (Addr.mk g 0 none).add (j * kL.sz + 0) = ⟨g, j, none⟩ := by rw [add_plain]; show Addr.mk g (j * 1 + 0) none = _; rw [Nat.mul_one, Nat.add_zero]
  rw [e, h1]
  simpa using hu
def pointR : List (List Int) := []
def signR : List (List Int) := [[(-1)]]
def minusR : List (List Int) := [[(-1), 0, 0, (-1)]]
def swapR : List (List Int) := [[0, 1, 1, 0]]
def signsR : List (List Int) := [[(-1), 0, 0, 1], [1, 0, 0, (-1)]]
def squareR : List (List Int) := [[0, 1, 1, 0], [(-1), 0, 0, 1]]
def triangleR : List (List Int) := [[0, 1, 1, 0], [0, (-1), 1, (-1)]]
def turnR : List (List Int) := [[0, 1, 0, 0, 0, 1, 1, 0, 0]]
def symmetricR : List (List Int) := [[0, 1, 0, 0, 0, 1, 1, 0, 0], [0, 1, 0, 1, 0, 0, 0, 0, 1]]
def cubeR : List (List Int) := [[0, 1, 0, 0, 0, 1, 1, 0, 0], [0, 1, 0, 1, 0, 0, 0, 0, 1], [(-1), 0, 0, 0, 1, 0, 0, 0, 1]]
def nmS (s : ByteArray) : Option (Nat × List (List Int)) :=
  if s.toList == [112, 111, 105, 110, 116] then some (1, pointR) else
  if s.toList == [115, 105, 103, 110] then some (1, signR) else
  if s.toList == [109, 105, 110, 117, 115] then some (2, minusR) else
  if s.toList == [115, 119, 97, 112] then some (2, swapR) else
  if s.toList == [115, 105, 103, 110, 115] then some (2, signsR) else
  if s.toList == [115, 113, 117, 97, 114, 101] then some (2, squareR) else
  if s.toList == [116, 114, 105, 97, 110, 103, 108, 101] then some (2, triangleR) else
  if s.toList == [116, 117, 114, 110] then some (3, turnR) else
  if s.toList == [115, 121, 109, 109, 101, 116, 114, 105, 99] then some (3, symmetricR) else
  if s.toList == [99, 117, 98, 101] then some (3, cubeR) else
  none
theorem nmS_ok {s : ByteArray} {n : Nat} {raw : List (List Int)} (h : nmS s = some (n, raw)) : 1 ≤ n ∧ n ≤ 3 ∧ raw.length ≤ 3 ∧ (∀ r ∈ raw, r.length = n * n) ∧ ∃ gs, namG s = some ((n : Int), gs) ∧ (gs = raw.map (wideZ n) ∨ (raw = [] ∧ gs = [unZ n])) := by
  unfold nmS at h
  unfold namG
  split at h
  · rename_i epoint
    injection h with h
    injection h with h1 h2
    subst h1 h2
    exact ⟨by decide, by decide, by decide, by decide, pointG, by simp only [epoint, Bool.false_eq_true, if_false, if_true]; rfl, .inr ⟨rfl, by kernel_rfl⟩⟩
  rename_i epoint
  split at h
  · rename_i esign
    injection h with h
    injection h with h1 h2
    subst h1 h2
    exact ⟨by decide, by decide, by decide, by decide, signG, by simp only [epoint, esign, Bool.false_eq_true, if_false, if_true]; rfl, .inl (by kernel_rfl)⟩
  rename_i esign
  split at h
  · rename_i eminus
    injection h with h
    injection h with h1 h2
    subst h1 h2
    exact ⟨by decide, by decide, by decide, by decide, minusG, by simp only [epoint, esign, eminus, Bool.false_eq_true, if_false, if_true]; rfl, .inl (by kernel_rfl)⟩
  rename_i eminus
  split at h
  · rename_i eswap
    injection h with h
    injection h with h1 h2
    subst h1 h2
    exact ⟨by decide, by decide, by decide, by decide, swapG, by simp only [epoint, esign, eminus, eswap, Bool.false_eq_true, if_false, if_true]; rfl, .inl (by kernel_rfl)⟩
  rename_i eswap
  split at h
  · rename_i esigns
    injection h with h
    injection h with h1 h2
    subst h1 h2
    exact ⟨by decide, by decide, by decide, by decide, signsG, by simp only [epoint, esign, eminus, eswap, esigns, Bool.false_eq_true, if_false, if_true]; rfl, .inl (by kernel_rfl)⟩
  rename_i esigns
  split at h
  · rename_i esquare
    injection h with h
    injection h with h1 h2
    subst h1 h2
    exact ⟨by decide, by decide, by decide, by decide, squareG, by simp only [epoint, esign, eminus, eswap, esigns, esquare, Bool.false_eq_true, if_false, if_true]; rfl, .inl (by kernel_rfl)⟩
  rename_i esquare
  split at h
  · rename_i etriangle
    injection h with h
    injection h with h1 h2
    subst h1 h2
    exact ⟨by decide, by decide, by decide, by decide, triangleG, by simp only [epoint, esign, eminus, eswap, esigns, esquare, etriangle, Bool.false_eq_true, if_false, if_true]; rfl, .inl (by kernel_rfl)⟩
  rename_i etriangle
  split at h
  · rename_i eturn
    injection h with h
    injection h with h1 h2
    subst h1 h2
    exact ⟨by decide, by decide, by decide, by decide, turnG, by simp only [epoint, esign, eminus, eswap, esigns, esquare, etriangle, eturn, Bool.false_eq_true, if_false, if_true]; rfl, .inl (by kernel_rfl)⟩
  rename_i eturn
  split at h
  · rename_i esymmetric
    injection h with h
    injection h with h1 h2
    subst h1 h2
    exact ⟨by decide, by decide, by decide, by decide, symmetricG, by simp only [epoint, esign, eminus, eswap, esigns, esquare, etriangle, eturn, esymmetric, Bool.false_eq_true, if_false, if_true]; rfl, .inl (by kernel_rfl)⟩
  rename_i esymmetric
  split at h
  · rename_i ecube
    injection h with h
    injection h with h1 h2
    subst h1 h2
    exact ⟨by decide, by decide, by decide, by decide, cubeG, by simp only [epoint, esign, eminus, eswap, esigns, esquare, etriangle, eturn, esymmetric, ecube, Bool.false_eq_true, if_false, if_true]; rfl, .inl (by kernel_rfl)⟩
  rename_i ecube
  cases h
theorem nmS_none {s : ByteArray} (h : nmS s = none) : namG s = none := by
  unfold nmS at h
  unfold namG
  split at h
  · cases h
  rename_i epoint
  split at h
  · cases h
  rename_i esign
  split at h
  · cases h
  rename_i eminus
  split at h
  · cases h
  rename_i eswap
  split at h
  · cases h
  rename_i esigns
  split at h
  · cases h
  rename_i esquare
  split at h
  · cases h
  rename_i etriangle
  split at h
  · cases h
  rename_i eturn
  split at h
  · cases h
  rename_i esymmetric
  split at h
  · cases h
  rename_i ecube
  simp only [epoint, esign, eminus, eswap, esigns, esquare, etriangle, eturn, esymmetric, ecube, Bool.false_eq_true, if_false]
/-- The matrices of the reference's table. -/
def rawM (p : Int) (n : Nat) (raw : List (List Int)) : List M9 := raw.map fun r => nmL p (wideZ n r)
theorem raw_gen {p : Int} {n : Nat} {raw gs : List (List Int)} {s : ByteArray} (h1 : primeB p = true) (hn1 : 1 ≤ n) (hn3 : n ≤ 3) (hgs : namG s = some ((n : Int), gs)) (hgr : gs = raw.map (wideZ n) ∨ (raw = [] ∧ gs = [unZ n])) :
    (∀ i, i < (rawM p n raw).length → matB p n ((rawM p n raw).getD i zM) = true) ∧ ∃ l, genO p n (rawM p n raw) = some l := by
  obtain ⟨_, _, _, _, L, hok⟩ := namG_ok hgs
  obtain ⟨hm, l, hl⟩ := ok_gen h1 (by simp [inB]; omega) hok
  rcases hgr with e | ⟨e1, e2⟩
  · have e3 : gs.map (nmL p) = rawM p n raw := by rw [e, List.map_map]; rfl
    rw [e3] at hm hl
    exact ⟨hm, l, hl⟩
  · subst e1
    exact ⟨fun i hi => by simp [rawM] at hi, [unitM n], rfl⟩
theorem rawM_take {p : Int} {n : Nat} {raw : List (List Int)} {j : Nat} (h : j < raw.length) : (rawM p n raw).take (j + 1) = (rawM p n raw).take j ++ [nmL p (wideZ n (raw.getD j []))] := by
  rw [List.take_succ_eq_append_getElem (by rw [rawM, List.length_map]; exact h)]
  simp [rawM, List.getD_eq_getElem?_getD, h]
set_option maxRecDepth 100000 in
set_option maxHeartbeats 4000000 in
theorem l02Named_0 (s : ByteArray) (p : Int) (w : World) (h : nmS s = none) : Calls Try.prog 51 #[.string s, .int .i64 p] w (MakesGB 0 0 [] false 41 w) := by
  unfold nmS at h
  split at h
  · cases h
  rename_i epoint
  replace epoint := Bool.not_eq_true _ ▸ epoint
  split at h
  · cases h
  rename_i esign
  replace esign := Bool.not_eq_true _ ▸ esign
  split at h
  · cases h
  rename_i eminus
  replace eminus := Bool.not_eq_true _ ▸ eminus
  split at h
  · cases h
  rename_i eswap
  replace eswap := Bool.not_eq_true _ ▸ eswap
  split at h
  · cases h
  rename_i esigns
  replace esigns := Bool.not_eq_true _ ▸ esigns
  split at h
  · cases h
  rename_i esquare
  replace esquare := Bool.not_eq_true _ ▸ esquare
  split at h
  · cases h
  rename_i etriangle
  replace etriangle := Bool.not_eq_true _ ▸ etriangle
  split at h
  · cases h
  rename_i eturn
  replace eturn := Bool.not_eq_true _ ▸ eturn
  split at h
  · cases h
  rename_i esymmetric
  replace esymmetric := Bool.not_eq_true _ ▸ esymmetric
  split at h
  · cases h
  rename_i ecube
  replace ecube := Bool.not_eq_true _ ▸ ecube
  go_enter Try.func51, Try.ntmps51
  go_wp2
  refine bodyPost_ret (v := .tuple #[.agg #[.int .i64 0, .int .i64 0, .slice none 0 0], .bool false]) (by simp [results, Try.results51, go_sem]) rfl ?_
  exact ⟨none, 0, rfl, Kd.R_nil _ _ _ _ _, bq1⟩
set_option maxRecDepth 100000 in
set_option maxHeartbeats 8000000 in
theorem l02Named_1 (s : ByteArray) (p : Int) (w : World) {n : Nat} {raw : List (List Int)} (h : nmS s = some (n, raw)) (h1 : primeB p = true) : Calls Try.prog 51 #[.string s, .int .i64 p] w (MakesGB p n (gL p n (rawM p n raw)) true 41 w) := by
  have H := Lib.hid h
  obtain ⟨hn1, hn3, hrl, hrn, gs, hgs, hgr⟩ := nmS_ok h
  clear h
  obtain ⟨hp, hp'⟩ := prime_bd h1
  obtain ⟨hm, l, hgen⟩ := raw_gen h1 hn1 hn3 hgs hgr
  obtain ⟨k1, k2, k3, k4⟩ := gen_some hgen
  have HR1 := Lib.hid hrn
  have HO := Lib.hid (fun W A c hC => l02Of_c p n A c (rawM p n raw) W hC (by rw [rawM, List.length_map]; omega) hp hp' (by omega) (by omega) hm)
  rw [k1, k2, k3, k4] at HO
  rw [k3]
  clear hrn hgs hgr hm hgen k1 k2 k3 k4
  generalize sortM l = sl at *
  go_enter Try.func51, Try.ntmps51
  go_upto_block 0 with fail
  go_cut [6, 7] from 15 to 59 (fun v6 v7 wx => ∃ (A : Option Addr) (c : Nat), v6 = .int .i64 n ∧ v7 = .slice A raw.length c ∧ kL.C wx A raw.length raw ∧ raw.length ≤ c ∧ Below (w.alloc (.cells #[.int .i64 0, .int .i64 0, .slice none 0 0] 31)).heap.size (w.alloc (.cells #[.int .i64 0, .int .i64 0, .slice none 0 0] 31)) wx)
  case first =>
    have h := H.out
    clear H HR1 HO hrl hn1 hn3
    unfold nmS at h
    split at h
    · rename_i epoint
      injection h with h
      injection h with h1 h2
      subst h1 h2
      go_wp2_with fail
      go_meet
      exact ⟨_, _, rfl, rfl, ⟨rfl, by decide, fun h => absurd h (by decide)⟩, by decide, bq1⟩
    rename_i epoint
    replace epoint := Bool.not_eq_true _ ▸ epoint
    split at h
    · rename_i esign
      injection h with h
      injection h with h1 h2
      subst h1 h2
      go_wp2_with fail
      go_meet
      refine ⟨some ⟨w.heap.size + 1 + 1 + 1, 0, none⟩, 1, rfl, rfl, kL_mk (by decide) (fun j hj => ?_), by decide, bq1⟩
      have hj : j < 1 := hj
      rcases (show j = 0 by omega) with rfl
      · refine ⟨w.heap.size + 1 + 1, 1, (show World.cell? _ _ = some (Value.slice (some ⟨w.heap.size + 1 + 1, 0, none⟩) 1 1) from bq5), by decide, by decide, fun t ht => ?_⟩
        have ht : t < 1 := ht
        rcases (show t = 0 by omega) with rfl
        · exact (show World.cell? _ _ = some (Value.int .i64 (-1)) from bq5)
    rename_i esign
    replace esign := Bool.not_eq_true _ ▸ esign
    split at h
    · rename_i eminus
      injection h with h
      injection h with h1 h2
      subst h1 h2
      go_wp2_with fail
      go_meet
      refine ⟨some ⟨w.heap.size + 1 + 1 + 1, 0, none⟩, 1, rfl, rfl, kL_mk (by decide) (fun j hj => ?_), by decide, bq1⟩
      have hj : j < 1 := hj
      rcases (show j = 0 by omega) with rfl
      · refine ⟨w.heap.size + 1 + 1, 4, (show World.cell? _ _ = some (Value.slice (some ⟨w.heap.size + 1 + 1, 0, none⟩) 4 4) from bq5), by decide, by decide, fun t ht => ?_⟩
        have ht : t < 4 := ht
        rcases (show t = 0 ∨ t = 1 ∨ t = 2 ∨ t = 3 by omega) with rfl | rfl | rfl | rfl
        · exact (show World.cell? _ _ = some (Value.int .i64 (-1)) from bq5)
        · exact (show World.cell? _ _ = some (Value.int .i64 0) from bq5)
        · exact (show World.cell? _ _ = some (Value.int .i64 0) from bq5)
        · exact (show World.cell? _ _ = some (Value.int .i64 (-1)) from bq5)
    rename_i eminus
    replace eminus := Bool.not_eq_true _ ▸ eminus
    split at h
    · rename_i eswap
      injection h with h
      injection h with h1 h2
      subst h1 h2
      go_wp2_with fail
      go_meet
      refine ⟨some ⟨w.heap.size + 1 + 1 + 1, 0, none⟩, 1, rfl, rfl, kL_mk (by decide) (fun j hj => ?_), by decide, bq1⟩
      have hj : j < 1 := hj
      rcases (show j = 0 by omega) with rfl
      · refine ⟨w.heap.size + 1 + 1, 4, (show World.cell? _ _ = some (Value.slice (some ⟨w.heap.size + 1 + 1, 0, none⟩) 4 4) from bq5), by decide, by decide, fun t ht => ?_⟩
        have ht : t < 4 := ht
        rcases (show t = 0 ∨ t = 1 ∨ t = 2 ∨ t = 3 by omega) with rfl | rfl | rfl | rfl
        · exact (show World.cell? _ _ = some (Value.int .i64 0) from bq5)
        · exact (show World.cell? _ _ = some (Value.int .i64 1) from bq5)
        · exact (show World.cell? _ _ = some (Value.int .i64 1) from bq5)
        · exact (show World.cell? _ _ = some (Value.int .i64 0) from bq5)
    rename_i eswap
    replace eswap := Bool.not_eq_true _ ▸ eswap
    split at h
    · rename_i esigns
      injection h with h
      injection h with h1 h2
      subst h1 h2
      go_wp2_with fail
      go_meet
      refine ⟨some ⟨w.heap.size + 1 + 1 + 1 + 1, 0, none⟩, 2, rfl, rfl, kL_mk (by decide) (fun j hj => ?_), by decide, bq1⟩
      have hj : j < 2 := hj
      rcases (show j = 0 ∨ j = 1 by omega) with rfl | rfl
      · refine ⟨w.heap.size + 1 + 1, 4, (show World.cell? _ _ = some (Value.slice (some ⟨w.heap.size + 1 + 1, 0, none⟩) 4 4) from bq5), by decide, by decide, fun t ht => ?_⟩
        have ht : t < 4 := ht
        rcases (show t = 0 ∨ t = 1 ∨ t = 2 ∨ t = 3 by omega) with rfl | rfl | rfl | rfl
        · exact (show World.cell? _ _ = some (Value.int .i64 (-1)) from bq5)
        · exact (show World.cell? _ _ = some (Value.int .i64 0) from bq5)
        · exact (show World.cell? _ _ = some (Value.int .i64 0) from bq5)
        · exact (show World.cell? _ _ = some (Value.int .i64 1) from bq5)
      · refine ⟨w.heap.size + 1 + 1 + 1, 4, (show World.cell? _ _ = some (Value.slice (some ⟨w.heap.size + 1 + 1 + 1, 0, none⟩) 4 4) from bq5), by decide, by decide, fun t ht => ?_⟩
        have ht : t < 4 := ht
        rcases (show t = 0 ∨ t = 1 ∨ t = 2 ∨ t = 3 by omega) with rfl | rfl | rfl | rfl
        · exact (show World.cell? _ _ = some (Value.int .i64 1) from bq5)
        · exact (show World.cell? _ _ = some (Value.int .i64 0) from bq5)
        · exact (show World.cell? _ _ = some (Value.int .i64 0) from bq5)
        · exact (show World.cell? _ _ = some (Value.int .i64 (-1)) from bq5)
    rename_i esigns
    replace esigns := Bool.not_eq_true _ ▸ esigns
    split at h
    · rename_i esquare
      injection h with h
      injection h with h1 h2
      subst h1 h2
      go_wp2_with fail
      go_meet
      refine ⟨some ⟨w.heap.size + 1 + 1 + 1 + 1, 0, none⟩, 2, rfl, rfl, kL_mk (by decide) (fun j hj => ?_), by decide, bq1⟩
      have hj : j < 2 := hj
      rcases (show j = 0 ∨ j = 1 by omega) with rfl | rfl
      · refine ⟨w.heap.size + 1 + 1, 4, (show World.cell? _ _ = some (Value.slice (some ⟨w.heap.size + 1 + 1, 0, none⟩) 4 4) from bq5), by decide, by decide, fun t ht => ?_⟩
        have ht : t < 4 := ht
        rcases (show t = 0 ∨ t = 1 ∨ t = 2 ∨ t = 3 by omega) with rfl | rfl | rfl | rfl
        · exact (show World.cell? _ _ = some (Value.int .i64 0) from bq5)
        · exact (show World.cell? _ _ = some (Value.int .i64 1) from bq5)
        · exact (show World.cell? _ _ = some (Value.int .i64 1) from bq5)
        · exact (show World.cell? _ _ = some (Value.int .i64 0) from bq5)
      · refine ⟨w.heap.size + 1 + 1 + 1, 4, (show World.cell? _ _ = some (Value.slice (some ⟨w.heap.size + 1 + 1 + 1, 0, none⟩) 4 4) from bq5), by decide, by decide, fun t ht => ?_⟩
        have ht : t < 4 := ht
        rcases (show t = 0 ∨ t = 1 ∨ t = 2 ∨ t = 3 by omega) with rfl | rfl | rfl | rfl
        · exact (show World.cell? _ _ = some (Value.int .i64 (-1)) from bq5)
        · exact (show World.cell? _ _ = some (Value.int .i64 0) from bq5)
        · exact (show World.cell? _ _ = some (Value.int .i64 0) from bq5)
        · exact (show World.cell? _ _ = some (Value.int .i64 1) from bq5)
    rename_i esquare
    replace esquare := Bool.not_eq_true _ ▸ esquare
    split at h
    · rename_i etriangle
      injection h with h
      injection h with h1 h2
      subst h1 h2
      go_wp2_with fail
      go_meet
      refine ⟨some ⟨w.heap.size + 1 + 1 + 1 + 1, 0, none⟩, 2, rfl, rfl, kL_mk (by decide) (fun j hj => ?_), by decide, bq1⟩
      have hj : j < 2 := hj
      rcases (show j = 0 ∨ j = 1 by omega) with rfl | rfl
      · refine ⟨w.heap.size + 1 + 1, 4, (show World.cell? _ _ = some (Value.slice (some ⟨w.heap.size + 1 + 1, 0, none⟩) 4 4) from bq5), by decide, by decide, fun t ht => ?_⟩
        have ht : t < 4 := ht
        rcases (show t = 0 ∨ t = 1 ∨ t = 2 ∨ t = 3 by omega) with rfl | rfl | rfl | rfl
        · exact (show World.cell? _ _ = some (Value.int .i64 0) from bq5)
        · exact (show World.cell? _ _ = some (Value.int .i64 1) from bq5)
        · exact (show World.cell? _ _ = some (Value.int .i64 1) from bq5)
        · exact (show World.cell? _ _ = some (Value.int .i64 0) from bq5)
      · refine ⟨w.heap.size + 1 + 1 + 1, 4, (show World.cell? _ _ = some (Value.slice (some ⟨w.heap.size + 1 + 1 + 1, 0, none⟩) 4 4) from bq5), by decide, by decide, fun t ht => ?_⟩
        have ht : t < 4 := ht
        rcases (show t = 0 ∨ t = 1 ∨ t = 2 ∨ t = 3 by omega) with rfl | rfl | rfl | rfl
        · exact (show World.cell? _ _ = some (Value.int .i64 0) from bq5)
        · exact (show World.cell? _ _ = some (Value.int .i64 (-1)) from bq5)
        · exact (show World.cell? _ _ = some (Value.int .i64 1) from bq5)
        · exact (show World.cell? _ _ = some (Value.int .i64 (-1)) from bq5)
    rename_i etriangle
    replace etriangle := Bool.not_eq_true _ ▸ etriangle
    split at h
    · rename_i eturn
      injection h with h
      injection h with h1 h2
      subst h1 h2
      have esymm : (s.toList == [115, 121, 109, 109, 101, 116, 114, 105, 99]) = false := by rw [eq_of_beq eturn]; rfl
      go_wp2_with fail
      go_meet
      refine ⟨some ⟨w.heap.size + 1 + 1 + 1 + 1 + 1, 0, none⟩, 3, rfl, rfl, kL_mk (by decide) (fun j hj => ?_), by decide, bq1⟩
      have hj : j < 1 := hj
      rcases (show j = 0 by omega) with rfl
      · refine ⟨w.heap.size + 1 + 1, 9, (show World.cell? _ _ = some (Value.slice (some ⟨w.heap.size + 1 + 1, 0, none⟩) 9 9) from bq5), by decide, by decide, fun t ht => ?_⟩
        have ht : t < 9 := ht
        rcases (show t = 0 ∨ t = 1 ∨ t = 2 ∨ t = 3 ∨ t = 4 ∨ t = 5 ∨ t = 6 ∨ t = 7 ∨ t = 8 by omega) with rfl | rfl | rfl | rfl | rfl | rfl | rfl | rfl | rfl
        · exact (show World.cell? _ _ = some (Value.int .i64 0) from bq5)
        · exact (show World.cell? _ _ = some (Value.int .i64 1) from bq5)
        · exact (show World.cell? _ _ = some (Value.int .i64 0) from bq5)
        · exact (show World.cell? _ _ = some (Value.int .i64 0) from bq5)
        · exact (show World.cell? _ _ = some (Value.int .i64 0) from bq5)
        · exact (show World.cell? _ _ = some (Value.int .i64 1) from bq5)
        · exact (show World.cell? _ _ = some (Value.int .i64 1) from bq5)
        · exact (show World.cell? _ _ = some (Value.int .i64 0) from bq5)
        · exact (show World.cell? _ _ = some (Value.int .i64 0) from bq5)
    rename_i eturn
    replace eturn := Bool.not_eq_true _ ▸ eturn
    split at h
    · rename_i esymmetric
      injection h with h
      injection h with h1 h2
      subst h1 h2
      go_wp2_with fail
      go_meet
      refine ⟨some ⟨w.heap.size + 1 + 1 + 1 + 1 + 1, 0, none⟩, 3, rfl, rfl, kL_mk (by decide) (fun j hj => ?_), by decide, bq1⟩
      have hj : j < 2 := hj
      rcases (show j = 0 ∨ j = 1 by omega) with rfl | rfl
      · refine ⟨w.heap.size + 1 + 1, 9, (show World.cell? _ _ = some (Value.slice (some ⟨w.heap.size + 1 + 1, 0, none⟩) 9 9) from bq5), by decide, by decide, fun t ht => ?_⟩
        have ht : t < 9 := ht
        rcases (show t = 0 ∨ t = 1 ∨ t = 2 ∨ t = 3 ∨ t = 4 ∨ t = 5 ∨ t = 6 ∨ t = 7 ∨ t = 8 by omega) with rfl | rfl | rfl | rfl | rfl | rfl | rfl | rfl | rfl
        · exact (show World.cell? _ _ = some (Value.int .i64 0) from bq5)
        · exact (show World.cell? _ _ = some (Value.int .i64 1) from bq5)
        · exact (show World.cell? _ _ = some (Value.int .i64 0) from bq5)
        · exact (show World.cell? _ _ = some (Value.int .i64 0) from bq5)
        · exact (show World.cell? _ _ = some (Value.int .i64 0) from bq5)
        · exact (show World.cell? _ _ = some (Value.int .i64 1) from bq5)
        · exact (show World.cell? _ _ = some (Value.int .i64 1) from bq5)
        · exact (show World.cell? _ _ = some (Value.int .i64 0) from bq5)
        · exact (show World.cell? _ _ = some (Value.int .i64 0) from bq5)
      · refine ⟨w.heap.size + 1 + 1 + 1, 9, (show World.cell? _ _ = some (Value.slice (some ⟨w.heap.size + 1 + 1 + 1, 0, none⟩) 9 9) from bq5), by decide, by decide, fun t ht => ?_⟩
        have ht : t < 9 := ht
        rcases (show t = 0 ∨ t = 1 ∨ t = 2 ∨ t = 3 ∨ t = 4 ∨ t = 5 ∨ t = 6 ∨ t = 7 ∨ t = 8 by omega) with rfl | rfl | rfl | rfl | rfl | rfl | rfl | rfl | rfl
        · exact (show World.cell? _ _ = some (Value.int .i64 0) from bq5)
        · exact (show World.cell? _ _ = some (Value.int .i64 1) from bq5)
        · exact (show World.cell? _ _ = some (Value.int .i64 0) from bq5)
        · exact (show World.cell? _ _ = some (Value.int .i64 1) from bq5)
        · exact (show World.cell? _ _ = some (Value.int .i64 0) from bq5)
        · exact (show World.cell? _ _ = some (Value.int .i64 0) from bq5)
        · exact (show World.cell? _ _ = some (Value.int .i64 0) from bq5)
        · exact (show World.cell? _ _ = some (Value.int .i64 0) from bq5)
        · exact (show World.cell? _ _ = some (Value.int .i64 1) from bq5)
    rename_i esymmetric
    replace esymmetric := Bool.not_eq_true _ ▸ esymmetric
    split at h
    · rename_i ecube
      injection h with h
      injection h with h1 h2
      subst h1 h2
      go_wp2_with fail
      go_meet
      refine ⟨some ⟨w.heap.size + 1 + 1 + 1 + 1 + 1, 0, none⟩, 3, rfl, rfl, kL_mk (by decide) (fun j hj => ?_), by decide, bq1⟩
      have hj : j < 3 := hj
      rcases (show j = 0 ∨ j = 1 ∨ j = 2 by omega) with rfl | rfl | rfl
      · refine ⟨w.heap.size + 1 + 1, 9, (show World.cell? _ _ = some (Value.slice (some ⟨w.heap.size + 1 + 1, 0, none⟩) 9 9) from bq5), by decide, by decide, fun t ht => ?_⟩
        have ht : t < 9 := ht
        rcases (show t = 0 ∨ t = 1 ∨ t = 2 ∨ t = 3 ∨ t = 4 ∨ t = 5 ∨ t = 6 ∨ t = 7 ∨ t = 8 by omega) with rfl | rfl | rfl | rfl | rfl | rfl | rfl | rfl | rfl
        · exact (show World.cell? _ _ = some (Value.int .i64 0) from bq5)
        · exact (show World.cell? _ _ = some (Value.int .i64 1) from bq5)
        · exact (show World.cell? _ _ = some (Value.int .i64 0) from bq5)
        · exact (show World.cell? _ _ = some (Value.int .i64 0) from bq5)
        · exact (show World.cell? _ _ = some (Value.int .i64 0) from bq5)
        · exact (show World.cell? _ _ = some (Value.int .i64 1) from bq5)
        · exact (show World.cell? _ _ = some (Value.int .i64 1) from bq5)
        · exact (show World.cell? _ _ = some (Value.int .i64 0) from bq5)
        · exact (show World.cell? _ _ = some (Value.int .i64 0) from bq5)
      · refine ⟨w.heap.size + 1 + 1 + 1, 9, (show World.cell? _ _ = some (Value.slice (some ⟨w.heap.size + 1 + 1 + 1, 0, none⟩) 9 9) from bq5), by decide, by decide, fun t ht => ?_⟩
        have ht : t < 9 := ht
        rcases (show t = 0 ∨ t = 1 ∨ t = 2 ∨ t = 3 ∨ t = 4 ∨ t = 5 ∨ t = 6 ∨ t = 7 ∨ t = 8 by omega) with rfl | rfl | rfl | rfl | rfl | rfl | rfl | rfl | rfl
        · exact (show World.cell? _ _ = some (Value.int .i64 0) from bq5)
        · exact (show World.cell? _ _ = some (Value.int .i64 1) from bq5)
        · exact (show World.cell? _ _ = some (Value.int .i64 0) from bq5)
        · exact (show World.cell? _ _ = some (Value.int .i64 1) from bq5)
        · exact (show World.cell? _ _ = some (Value.int .i64 0) from bq5)
        · exact (show World.cell? _ _ = some (Value.int .i64 0) from bq5)
        · exact (show World.cell? _ _ = some (Value.int .i64 0) from bq5)
        · exact (show World.cell? _ _ = some (Value.int .i64 0) from bq5)
        · exact (show World.cell? _ _ = some (Value.int .i64 1) from bq5)
      · refine ⟨w.heap.size + 1 + 1 + 1 + 1, 9, (show World.cell? _ _ = some (Value.slice (some ⟨w.heap.size + 1 + 1 + 1 + 1, 0, none⟩) 9 9) from bq5), by decide, by decide, fun t ht => ?_⟩
        have ht : t < 9 := ht
        rcases (show t = 0 ∨ t = 1 ∨ t = 2 ∨ t = 3 ∨ t = 4 ∨ t = 5 ∨ t = 6 ∨ t = 7 ∨ t = 8 by omega) with rfl | rfl | rfl | rfl | rfl | rfl | rfl | rfl | rfl
        · exact (show World.cell? _ _ = some (Value.int .i64 (-1)) from bq5)
        · exact (show World.cell? _ _ = some (Value.int .i64 0) from bq5)
        · exact (show World.cell? _ _ = some (Value.int .i64 0) from bq5)
        · exact (show World.cell? _ _ = some (Value.int .i64 0) from bq5)
        · exact (show World.cell? _ _ = some (Value.int .i64 1) from bq5)
        · exact (show World.cell? _ _ = some (Value.int .i64 0) from bq5)
        · exact (show World.cell? _ _ = some (Value.int .i64 0) from bq5)
        · exact (show World.cell? _ _ = some (Value.int .i64 0) from bq5)
        · exact (show World.cell? _ _ = some (Value.int .i64 1) from bq5)
    rename_i ecube
    replace ecube := Bool.not_eq_true _ ▸ ecube
    cases h
  case rest =>
    obtain ⟨A, c, rfl, rfl, hC, hrc, hb⟩ := hcut
    obtain ⟨y, rfl⟩ : ∃ y : Later (w.alloc (.cells #[.int .i64 0, .int .i64 0, .slice none 0 0] 31)), wc = y.W := ⟨⟨wc, hb⟩, rfl⟩
    have zz : w.heap.size < y.W.heap.size := by have := y.ok.size; simp at this; omega
    have hb0 : Below w.heap.size w y.W := bq1
    have hR0 := R_zero kM (e := 41) (heap_alloc_last y.W (.cells #[] 41)) (Nat.le_refl _)
    have hb23 := below_alloc2 y.W (.cells #[] 41)
    clear H hb
    go_wp2_with fail
    go_loopg [9, 8] raw.length (fun k v9 v8 w' => ∃ (j : Nat) (P : Option Addr) (cP : Nat), j + k = raw.length ∧ v9 = .int .i64 j ∧ v8 = .slice P j cP ∧ Below y.W.heap.size y.W w' ∧ kM.R 41 w' y.W.heap.size (fun _ => True) (.slice P j cP) ((rawM p n raw).take j))
    case atStart => exact ⟨0, some ⟨y.W.heap.size, 0, none⟩, 0, by omega, rfl, rfl, hb23, hR0⟩
    case round =>
      clear hR0 hb23
      obtain ⟨j, P, cP, hjk, rfl, rfl, hbw, hR⟩ := hrel
      have HJK := Lib.hid hjk
      clear hjk
      by_cases hj : j < raw.length
      · obtain ⟨b, o, Br, cr, hA, q0, hcr, hCr⟩ := kL_at hC j hj
        subst hA
        have hrj := HR1.out _ (getD_mem [] hj)
        have q0 := pw_cell_below hbw q0
        have hCr := Kd.C_below hCr hbw
        have hT := Lib.hid (rawM_take (p := p) (n := n) hj)
        have hL := fun W h => l02Rows_c p n Br cr (raw.getD j []) W h hrj hp hp' hn1 hn3
        have hxt : ((rawM p n raw).take j).length = j := by rw [List.length_take, rawM, List.length_map]; omega
        generalize raw.getD j [] = r at *
        generalize nmL p (wideZ n r) = m at *
        generalize (rawM p n raw).take j = ls at *
        have HXT := Lib.hid hxt
        have hjs : j ≤ 3 := by omega
        have hj0 : (0 : Int) ≤ j := by omega
        have hj1 : (j : Int) < raw.length := by omega
        have hjn : ((j : Int)).toNat = j := by omega
        have HRR := Lib.hid (And.intro hR hbw)
        have hgs8 := hbw.size
        clear hxt hR hbw hrj
        go_wp2_with (first
          | (go_at_call 93; (with_reducible refine to_gives (V := wr) (Below.refl _ _) (hL _ hCr) ?_); intro w8 hb8 hb8'; have hR8 := Kd.R_below HRR.out.1 hb8; have hs8 := hb8.size)
          | ((with_reducible refine gate_ (.call { callee := .builtin .append, args := #[.tmp 67, .tmp 75], argTypes := #[29, 29] }) rfl ?_); refine Kd.R_append kM (w0 := w8) (W := w8) y.W.heap.size rfl (.tmp 67) (.tmp 75) 29 41 (.agg #[.int .u8 0, .int .u8 0, .int .u8 0, .int .u8 0, .int .u8 0, .int .u8 0, .int .u8 0, .int .u8 0, .int .u8 0]) 9 rfl Try.underlying29 infoM rfl (by decide) (by decide) (.slice P j cP) ls m m.cs (fun _ => True) (fun _ => False) rfl rfl rfl (fun _ hk => hk.elim) (fun _ _ => trivial) hR8 (Below.refl _ _) (by omega) (by have := HXT.out; omega) ?_; intro v1 w1 hR1 hB1 hg1 _))
        go_roundg (gk - 1)
        case measure => have := HJK.out; omega
        case rel =>
          have hlen : (ls ++ [m]).length = j + 1 := by rw [List.length_append, HXT.out]; rfl
          obtain ⟨P1, c1, hv1⟩ := Kd.R_slice hR1
          rw [hlen] at hv1
          subst hv1
          exact ⟨j + 1, P1, c1, by have := HJK.out; omega, by go_num, rfl, (HRR.out.2.trans (hb8.mono hgs8)).trans hB1, by rw [hT.out]; exact hR1⟩
      · have hje : j = raw.length := by have := HJK.out; omega
        subst hje
        have hle : (rawM p n raw).take raw.length = rawM p n raw := List.take_of_length_le (by rw [rawM, List.length_map]; exact Nat.le_refl _)
        rw [hle] at hR
        have hll : (rawM p n raw).length = raw.length := by rw [rawM, List.length_map]
        have hC2 := (Kd.R_reads' hR).2.2
        have HG2 := Lib.hid (HO.out wr P cP hC2)
        have hb1 : Below (w.alloc (.cells #[.int .i64 0, .int .i64 0, .slice none 0 0] 31)).heap.size (w.alloc (.cells #[.int .i64 0, .int .i64 0, .slice none 0 0] 31)) wr := y.ok.trans (hbw.mono y.ok.size)
        clear hR hle HO hC hC2
        generalize rawM p n raw = ms at *
        rw [hll] at HG2
        clear hll hbw zz hb0
        obtain ⟨z, rfl⟩ : ∃ z : Later (w.alloc (.cells #[.int .i64 0, .int .i64 0, .slice none 0 0] 31)), wr = z.W := ⟨⟨wr, hb1⟩, rfl⟩
        have hzz : w.heap.size < z.W.heap.size := by have := z.ok.size; simp at this; omega
        go_wp2_with (go_at_call 94; (with_reducible refine call_makesGB2 HG2.out ?_); intro x8 A8 c8 hb8 hl8 hR8)
        have zz : w.heap.size < x8.W.heap.size := by have := x8.ok.size; simp at this; omega
        refine bodyPost_ret (v := .tuple #[.agg #[.int .i64 p, .int .i64 n, .slice A8 sl.length c8], .bool true]) (by simp [results, Try.results51, go_sem]) rfl ?_
        refine ⟨_, _, rfl, ?_, bq1⟩
        have hzlt : w.heap.size < z.W.heap.size := hzz
        exact Kd.R_lower (Kd.R_alloc (R_old (R_old (R_old hR8 (p := ⟨w.heap.size, 0, none⟩) hzlt _) (p := ⟨w.heap.size, 1, none⟩) hzlt _) (p := ⟨w.heap.size, 2, none⟩) hzlt _) _) (by omega)
theorem gen_unit {p : Int} (h1 : primeB p = true) : genO p (1 : Nat) [nmL p (unZ 1)] = some [unitM (1 : Nat)] := by
  obtain ⟨hp, hp'⟩ := prime_bd h1
  have e : nmL p (unZ 1) = unitM (1 : Nat) := (unit_nm hp hp' (n := 1) (by decide)).symm
  have hm : matB p (1 : Nat) (unitM (1 : Nat)) = true := unit_mat h1 (by decide)
  have hu : timesM p 1 (unitM (1 : Nat)) (unitM (1 : Nat)) = unitM (1 : Nat) := unit_times (n := 1) hm
  have hu : timesM p ((1 : Nat) : Int).toNat (unitM (1 : Nat)) (unitM (1 : Nat)) = unitM (1 : Nat) := hu
  rw [e]
  have hi : innO p ((1 : Nat) : Int).toNat (unitM (1 : Nat)) [unitM (1 : Nat)] [unitM (1 : Nat)] = some [unitM (1 : Nat)] := by
    show (if 48 < (addM [unitM (1 : Nat)] (timesM p ((1 : Nat) : Int).toNat (unitM (1 : Nat)) (unitM (1 : Nat)))).length then none else some (addM [unitM (1 : Nat)] (timesM p ((1 : Nat) : Int).toNat (unitM (1 : Nat)) (unitM (1 : Nat))))) = _
    rw [hu, addM_in (by simp), if_neg (by decide)]
  show (innO p ((1 : Nat) : Int).toNat (unitM (1 : Nat)) [unitM (1 : Nat)] [unitM (1 : Nat)]).bind (fun all' => cloO p ((1 : Nat) : Int).toNat [unitM (1 : Nat)] 48 1 all') = _
  rw [hi]
  rfl
theorem ngR_some {p : Int} {s : ByteArray} {n : Nat} {raw : List (List Int)} (h1 : primeB p = true) (h : nmS s = some (n, raw)) : ngR s p = ⟨p, n, gL p n (rawM p n raw), 0⟩ := by
  obtain ⟨hn1, hn3, hrl, hrn, gs, hgs, hgr⟩ := nmS_ok h
  obtain ⟨hm, l, hgen⟩ := raw_gen h1 hn1 hn3 hgs hgr
  obtain ⟨_, _, _, _, L, hok⟩ := namG_ok hgs
  obtain ⟨hm', l', hl'⟩ := ok_gen h1 (by simp [inB]; omega) hok
  have ha : areB p n (gs.map (nmL p)) = true := by
    by_cases h0 : 1 ≤ (gs.map (nmL p)).length
    · exact (areB_iff p n _ h0).2 hm'
    · have e0 : gs.map (nmL p) = [] := List.eq_nil_of_length_eq_zero (by omega)
      rw [e0]
      have h2 : inB (n : Int) 1 3 = true := by simp [inB]; omega
      simp [areB, h1, h2]
  have e : ngR s p = grpR p n (gs.map (nmL p)) := by unfold ngR; rw [h1, hgs]; rfl
  rw [e, grpR_0 ha hl', (gen_some hgen).2.2.1]
  rcases hgr with e | ⟨e1, e2⟩
  · have e3 : gs.map (nmL p) = rawM p n raw := by rw [e, List.map_map]; rfl
    rw [e3] at hl'
    rw [hl'] at hgen
    injection hgen with hgen
    rw [hgen]
  · subst e1 e2
    have hn : n = 1 := by
      have := h
      unfold nmS at this
      repeat (split at this; (first | (injection this with this; injection this with this1 this2; exact this1.symm) | (injection this with this; injection this with this1 this2; exact absurd this2 (by decide))))
      cases this
    subst hn
    have := gen_unit h1
    have hl' : genO p (1 : Nat) [nmL p (unZ 1)] = some l' := hl'
    rw [this] at hl'
    injection hl' with hl'
    have hgen : some [unitM (1 : Nat)] = some l := hgen
    injection hgen with hgen
    rw [← hl', ← hgen]
theorem ngR_none {p : Int} {s : ByteArray} (h1 : primeB p = true) (h : nmS s = none) : ngR s p = ⟨0, 0, [], 4⟩ := by
  unfold ngR
  rw [h1, nmS_none h]
  rfl
theorem ngR_len (s : ByteArray) (p : Int) : (ngR s p).ts.length ≤ 1048576 := by
  unfold ngR
  split
  · split
    · exact grpR_len _ _ _
    · simp
  · simp
set_option maxRecDepth 100000 in
set_option maxHeartbeats 4000000 in
theorem specNamedGroup_c (s : ByteArray) (p : Int) (w : World) : Calls Try.prog 15 #[.string s, .int .i64 p] w (MakesGC (ngR s p) 41 w) := by
  have hP := fun W => l01Prime_c p W
  cases h1 : primeB p with
  | false =>
    have e : ngR s p = ⟨0, 0, [], 2⟩ := by unfold ngR; rw [h1]; rfl
    rw [e]
    rw [h1] at hP
    clear h1 e
    go_enter Try.func15, Try.ntmps15
    go_wp2_with (first | (go_at_call 43; (first | (with_reducible refine call_later2 (hP _) ?_) | (with_reducible refine call_later (hP _) ?_)); intro x))
    have zz : w.heap.size < x.W.heap.size := by have := x.ok.size; simp at this; omega
    refine bodyPost_ret (v := .tuple #[.agg #[.int .i64 0, .int .i64 0, .slice none 0 0], .int .i64 2]) (by simp [results, Try.results15, go_sem]) rfl ?_
    exact MakesGC_nil _ _ _ _ bq1
  | true =>
    rw [h1] at hP
    cases h2 : nmS s with
    | none =>
      rw [ngR_none h1 h2]
      have hN := fun W => l02Named_0 s p W h2
      clear h1 h2
      go_enter Try.func15, Try.ntmps15
      go_wp2_with (first | (go_at_call 43; (first | (with_reducible refine call_later2 (hP _) ?_) | (with_reducible refine call_later (hP _) ?_)); intro x) | (go_at_call 51; (with_reducible refine call_makesGB2 (hN _) ?_); intro x8 A8 c8 hb8 hl8 hR8))
      have zz : w.heap.size < x.W.heap.size := by have := x.ok.size; simp at this; omega
      have zz2 : w.heap.size < x8.W.heap.size := by have := x8.ok.size; simp at this; omega
      refine bodyPost_ret (v := .tuple #[.agg #[.int .i64 0, .int .i64 0, .slice none 0 0], .int .i64 4]) (by simp [results, Try.results15, go_sem]) rfl ?_
      exact MakesGC_nil _ _ _ _ bq1
    | some q =>
      obtain ⟨n, raw⟩ := q
      rw [ngR_some h1 h2]
      have hN := fun W => l02Named_1 s p W h2 h1
      generalize gL p n (rawM p n raw) = sl at *
      clear h1 h2
      go_enter Try.func15, Try.ntmps15
      go_wp2_with (first | (go_at_call 43; (first | (with_reducible refine call_later2 (hP _) ?_) | (with_reducible refine call_later (hP _) ?_)); intro x) | (go_at_call 51; (with_reducible refine call_makesGB2 (hN _) ?_); intro x8 A8 c8 hb8 hl8 hR8))
      have zz : w.heap.size < x.W.heap.size := by have := x.ok.size; simp at this; omega
      have zz2 : w.heap.size < x8.W.heap.size := by have := x8.ok.size; simp at this; omega
      refine bodyPost_ret (v := .tuple #[.agg #[.int .i64 p, .int .i64 n, .slice A8 sl.length c8], .int .i64 0]) (by simp [results, Try.results15, go_sem]) rfl ?_
      refine ⟨_, _, rfl, ?_, bq1⟩
      exact Kd.R_lower (Kd.R_alloc (R_old (R_old (R_old hR8 (p := ⟨w.heap.size, 0, none⟩) zz _) (p := ⟨w.heap.size, 1, none⟩) zz _) (p := ⟨w.heap.size, 2, none⟩) zz _) _) (by omega)
end Go.Proofs.Ytimjhehagimcaaa

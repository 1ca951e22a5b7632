/- The reference's matrix out of a list of numbers; no condition. -/
import Derived.Test.YtimjhehagimcaaaYE1
import Derived.Test.YtimjhehagimcaaaYNamL
import Derived.Test.YtimjhehagimcaaaYKitC
import Derived.Test.YtimjhehagimcaaaYWLast
set_option linter.unusedVariables false
set_option linter.unusedSimpArgs false
namespace Go.Proofs.Ytimjhehagimcaaa
open Go.RowKit Go.Proofs.YtimjhehagimcaaaW.PrintWords
attribute [local go_sem] Later.cell Later.frozen Later.lt Later.lt_add Later.le Later.le_add Later.ne Later.ne' add_at
open Go.Proofs.YtimjhehagimcaaaW.PrintLast
theorem below_undrewN {w W : World} (h : Below w.drew.heap.size w.drew W) : Below w.heap.size w W := ⟨h.os, h.tape, h.output, h.size, h.block⟩
/-- A list of n times n numbers, laid out as nine. -/
def wideZ (n : Nat) (xs : List Int) : List Int := (List.range 9).map fun t => if t / 3 < n ∧ t % 3 < n then xs.getD (n * (t / 3) + t % 3) 0 else 0
def doneN (p : Int) (n : Nat) (xs : List Int) (i j i' j' : Nat) : Int := if j' < n ∧ (i' < i ∨ (i' = i ∧ j' < j)) then xs.getD (n * i' + j') 0 % p else 0
theorem doneN_end {p : Int} (hp : 2 ≤ p) (hp' : p ≤ 13) (n : Nat) (xs : List Int) {i j : Nat} (hi : i < 3) (hj : j < 3) : doneN p n xs n 0 i j = (nmL p (wideZ n xs)).num i j := by
  obtain ⟨d1, d2⟩ := div9 (i := i) hj
  rw [nmL_num hp hp' _ hi hj, wideZ, at9_map _ hi hj, d1, d2, doneN]
  by_cases h : i < n ∧ j < n
  · rw [if_pos ⟨h.2, .inl h.1⟩, if_pos h]
  · rw [if_neg (by omega), if_neg h, Int.zero_emod]
set_option maxRecDepth 100000 in
set_option maxHeartbeats 4000000 in
theorem l02Rows_c (p : Int) (n : Nat) (B : Option Addr) (e : Nat) (xs : List Int) (w : World) (hC : kI.C w B xs.length xs) (hxl : xs.length = n * n) (hp : 2 ≤ p) (hp' : p ≤ 13) (hn1 : 1 ≤ n) (hn3 : n ≤ 3) :
    Calls Try.prog 93 #[.int .i64 p, .int .i64 n, .slice B xs.length e] w (Gives (.agg #[.int .u8 ((nmL p (wideZ n xs)).r0.a.toNat : Int), .int .u8 ((nmL p (wideZ n xs)).r0.b.toNat : Int), .int .u8 ((nmL p (wideZ n xs)).r0.c.toNat : Int), .int .u8 ((nmL p (wideZ n xs)).r1.a.toNat : Int), .int .u8 ((nmL p (wideZ n xs)).r1.b.toNat : Int), .int .u8 ((nmL p (wideZ n xs)).r1.c.toNat : Int), .int .u8 ((nmL p (wideZ n xs)).r2.a.toNat : Int), .int .u8 ((nmL p (wideZ n xs)).r2.b.toNat : Int), .int .u8 ((nmL p (wideZ n xs)).r2.c.toNat : Int)]) w) := by
  have HXL := Lib.hid hxl
  clear hxl
  have hC0 := Kd.C_alloc hC (.cells #[.int .u8 0, .int .u8 0, .int .u8 0, .int .u8 0, .int .u8 0, .int .u8 0, .int .u8 0, .int .u8 0, .int .u8 0] 41)
  go_enter Try.func93, Try.ntmps93
  go_wp2
  have c3 : ∀ i j, i < 3 → j < 3 → ((w.alloc (.cells #[.int .u8 0, .int .u8 0, .int .u8 0, .int .u8 0, .int .u8 0, .int .u8 0, .int .u8 0, .int .u8 0, .int .u8 0] 41)).alloc (.cells #[.int .u8 0, .int .u8 0, .int .u8 0, .int .u8 0, .int .u8 0, .int .u8 0, .int .u8 0, .int .u8 0, .int .u8 0] 41)).cell? ⟨w.heap.size + 1, i * 3 + j, none⟩ = some (.int .u8 0) := fun i j hi hj => by
    have := z_at (w.alloc (.cells #[.int .u8 0, .int .u8 0, .int .u8 0, .int .u8 0, .int .u8 0, .int .u8 0, .int .u8 0, .int .u8 0, .int .u8 0] 41)) 41 i j hi hj
    rwa [show (w.alloc (.cells #[.int .u8 0, .int .u8 0, .int .u8 0, .int .u8 0, .int .u8 0, .int .u8 0, .int .u8 0, .int .u8 0, .int .u8 0] 41)).heap.size = w.heap.size + 1 by simp] at this
  have c4 : ∀ k, ((w.alloc (.cells #[.int .u8 0, .int .u8 0, .int .u8 0, .int .u8 0, .int .u8 0, .int .u8 0, .int .u8 0, .int .u8 0, .int .u8 0] 41)).alloc (.cells #[.int .u8 0, .int .u8 0, .int .u8 0, .int .u8 0, .int .u8 0, .int .u8 0, .int .u8 0, .int .u8 0, .int .u8 0] 41)).frozen? ⟨w.heap.size + 1, k, none⟩ = false := fun k => by
    have := z_fr (w.alloc (.cells #[.int .u8 0, .int .u8 0, .int .u8 0, .int .u8 0, .int .u8 0, .int .u8 0, .int .u8 0, .int .u8 0, .int .u8 0] 41)) (.cells #[.int .u8 0, .int .u8 0, .int .u8 0, .int .u8 0, .int .u8 0, .int .u8 0, .int .u8 0, .int .u8 0, .int .u8 0] 41) k _ _ rfl
    rwa [show (w.alloc (.cells #[.int .u8 0, .int .u8 0, .int .u8 0, .int .u8 0, .int .u8 0, .int .u8 0, .int .u8 0, .int .u8 0, .int .u8 0] 41)).heap.size = w.heap.size + 1 by simp] at this
  have hb0 : Below w.heap.size w (w.alloc (.cells #[.int .u8 0, .int .u8 0, .int .u8 0, .int .u8 0, .int .u8 0, .int .u8 0, .int .u8 0, .int .u8 0, .int .u8 0] 41)) := bq1
  have hs0 : (w.alloc (.cells #[.int .u8 0, .int .u8 0, .int .u8 0, .int .u8 0, .int .u8 0, .int .u8 0, .int .u8 0, .int .u8 0, .int .u8 0] 41)).heap.size = w.heap.size + 1 := by simp
  have hy0 : Below (w.alloc (.cells #[.int .u8 0, .int .u8 0, .int .u8 0, .int .u8 0, .int .u8 0, .int .u8 0, .int .u8 0, .int .u8 0, .int .u8 0] 41)).heap.size (w.alloc (.cells #[.int .u8 0, .int .u8 0, .int .u8 0, .int .u8 0, .int .u8 0, .int .u8 0, .int .u8 0, .int .u8 0, .int .u8 0] 41)) ((w.alloc (.cells #[.int .u8 0, .int .u8 0, .int .u8 0, .int .u8 0, .int .u8 0, .int .u8 0, .int .u8 0, .int .u8 0, .int .u8 0] 41)).alloc (.cells #[.int .u8 0, .int .u8 0, .int .u8 0, .int .u8 0, .int .u8 0, .int .u8 0, .int .u8 0, .int .u8 0, .int .u8 0] 41)) := bq1
  have r1 : ∀ k, k < 9 → (w.alloc (.cells #[.int .u8 0, .int .u8 0, .int .u8 0, .int .u8 0, .int .u8 0, .int .u8 0, .int .u8 0, .int .u8 0, .int .u8 0] 41)).cell? ⟨w.heap.size, k, none⟩ = some (.int .u8 0) := fun k hk => by
    have h2 := z_at w 41 (k / 3) (k % 3) (by omega) (by omega)
    rw [show k / 3 * 3 + k % 3 = k by omega] at h2
    exact h2
  have rf : ∀ k, (w.alloc (.cells #[.int .u8 0, .int .u8 0, .int .u8 0, .int .u8 0, .int .u8 0, .int .u8 0, .int .u8 0, .int .u8 0, .int .u8 0] 41)).frozen? ⟨w.heap.size, k, none⟩ = false := fun k => z_fr w (.cells #[.int .u8 0, .int .u8 0, .int .u8 0, .int .u8 0, .int .u8 0, .int .u8 0, .int .u8 0, .int .u8 0, .int .u8 0] 41) k _ _ rfl
  generalize (w.alloc (.cells #[.int .u8 0, .int .u8 0, .int .u8 0, .int .u8 0, .int .u8 0, .int .u8 0, .int .u8 0, .int .u8 0, .int .u8 0] 41)) = W0 at *
  generalize hW1 : W0.alloc (.cells #[.int .u8 0, .int .u8 0, .int .u8 0, .int .u8 0, .int .u8 0, .int .u8 0, .int .u8 0, .int .u8 0, .int .u8 0] 41) = W1 at *
  clear hW1
  have C3 := Lib.hid c3
  have C4 := Lib.hid c4
  have HB0 := Lib.hid hb0
  have HY0 := Lib.hid hy0
  have R1 := Lib.hid r1
  have RF := Lib.hid rf
  clear rf c3 c4 hb0 hy0 r1 hC
  go_loopg [8] n (fun k v w' => ∃ (i : Nat) (y : Later W0), i + k = n ∧ v = .int .i64 i ∧ w' = y.W ∧ (∀ i' j', i' < 3 → j' < 3 → w'.cell? ⟨w.heap.size + 1, i' * 3 + j', none⟩ = some (.int .u8 (doneN p n xs i 0 i' j'))) ∧ ∀ k, w'.frozen? ⟨w.heap.size + 1, k, none⟩ = false)
  case atStart => exact ⟨0, ⟨W1, HY0.out⟩, by omega, rfl, rfl, fun i' j' h1 h2 => by rw [C3.out i' j' h1 h2]; simp [doneN], C4.out⟩
  case round =>
    obtain ⟨i, y, hik, rfl, rfl, hc, hf⟩ := hrel
    have HIK := Lib.hid hik
    have HC := Lib.hid hc
    have HF := Lib.hid hf
    clear hik hc hf
    by_cases hlt : i < n
    · have hi1 : (i : Int) < n := by omega
      go_wp2
      go_loopg [9] n (fun k v w' => ∃ (j : Nat) (y2 : Later W0), j + k = n ∧ v = .int .i64 j ∧ w' = y2.W ∧ (∀ i' j', i' < 3 → j' < 3 → w'.cell? ⟨w.heap.size + 1, i' * 3 + j', none⟩ = some (.int .u8 (doneN p n xs i j i' j'))) ∧ ∀ k, w'.frozen? ⟨w.heap.size + 1, k, none⟩ = false)
      case atStart => exact ⟨0, y, by omega, rfl, rfl, HC.out, HF.out⟩
      case round =>
        obtain ⟨j, y2, hjk, rfl, rfl, hc, hf⟩ := hrel
        have HJK := Lib.hid hjk
        have HC2 := Lib.hid hc
        have HF2 := Lib.hid hf
        clear hjk hc hf
        by_cases hlj : j < n
        · have hj1 : (j : Int) < n := by omega
          have zob : w.heap.size + 1 < y2.W.heap.size := World.block_lt_of_cell? _ _ (HC2.out 0 0 (by omega) (by omega))
          have hix : n * i + j < xs.length := by
            rw [HXL.out]
            have h1 : n * i + n ≤ n * n := by
              have := Nat.mul_le_mul_left n (show i + 1 ≤ n from hlt)
              rw [Nat.mul_add, Nat.mul_one] at this
              exact this
            omega
          obtain ⟨b, o, hA, q0⟩ := kI_at hC0 (n * i + j) hix
          subst hA
          have q0 := y2.keep q0
          have hi0 : (0 : Int) ≤ i := by omega
          have hj0 : (0 : Int) ≤ j := by omega
          have i1 : (i : Int) < 3 := by omega
          have i3 : (j : Int) < 3 := by omega
          have e1 : ((i : Int)).toNat = i := by omega
          have e3 : ((j : Int)).toNat = j := by omega
          have hni : n * i ≤ 9 := by
            have := Nat.mul_le_mul (show n ≤ 3 from hn3) (show i ≤ 3 by omega)
            omega
          have w1 := i64_small (n := ((n : Int) * (i : Int))) (by have : ((n * i : Nat) : Int) = (n : Int) * i := Int.natCast_mul n i; omega) (by have : ((n * i : Nat) : Int) = (n : Int) * i := Int.natCast_mul n i; omega)
          have w2 := i64_small (n := ((n : Int) * (i : Int) + (j : Int))) (by have : ((n * i : Nat) : Int) = (n : Int) * i := Int.natCast_mul n i; omega) (by have : ((n * i : Nat) : Int) = (n : Int) * i := Int.natCast_mul n i; omega)
          have e0 : (0 : Int) ≤ (n : Int) * (i : Int) + (j : Int) := by have : ((n * i : Nat) : Int) = (n : Int) * i := Int.natCast_mul n i; omega
          have e4 : (n : Int) * (i : Int) + (j : Int) < xs.length := by have : ((n * i : Nat) : Int) = (n : Int) * i := Int.natCast_mul n i; omega
          have e5 : ((n : Int) * (i : Int) + (j : Int)).toNat = n * i + j := by have : ((n * i : Nat) : Int) = (n : Int) * i := Int.natCast_mul n i; omega
          have s0 := HC2.out i j (by omega) (by omega)
          have s1 := HF2.out (i * 3 + j)
          have hM := fun W => mod_g (x := xs.getD (n * i + j) 0) hp hp' W
          have HDN := Lib.hid (show ∀ v, xs.getD (n * i + j) 0 = v → doneN p n xs i (j + 1) i j = v % p from fun v hv => by unfold doneN; rw [if_pos ⟨hlj, .inr ⟨rfl, by omega⟩⟩, hv])
          generalize hx : xs.getD (n * i + j) 0 = x at *
          have HX := Lib.hid hx
          clear hx
          have hm0 := Int.emod_nonneg x (show p ≠ 0 by omega)
          have hm1 := Int.emod_lt_of_pos x (show 0 < p by omega)
          have hm2 : x % p % 256 = x % p := by omega
          go_wp2
          refine start_ (n := 16) (S := fun w' => w'.cell? ⟨b, o + (n * i + j), none⟩ = some (.int .i64 x)) (ds := [15]) #[false, false, false, false, false, false, false, false, false, false, false, false, false, false, false, false] (by kernel_rfl) rfl rfl (q0) (fun hHeld => ?_)
          refine pure_ (i := 0) (N := some 21) (v := ?_) (a' := ?_) #[true, false, false, false, false, false, false, false, false, false, false, false, false, false, false, false] rfl rfl (by kernel_rfl) (fun _ _ _ h => h) (Or.inl ⟨by rfl, ?_⟩) ?_ ?_
          rotate_left
          · intro w'
            go_simp
            with_reducible rfl
          rotate_left
          · simp only [Act.put, List.setIfInBounds_toArray, List.set_cons_zero, List.set_cons_succ, i64_w, i32_w]
            rfl
          refine pure_ (i := 1) (N := some 22) (v := ?_) (a' := ?_) #[true, true, false, false, false, false, false, false, false, false, false, false, false, false, false, false] rfl rfl (by kernel_rfl) (fun _ _ _ h => h) (Or.inl ⟨by rfl, ?_⟩) ?_ ?_
          rotate_left
          · intro w'
            go_simp
            with_reducible rfl
          rotate_left
          · simp only [Act.put, List.setIfInBounds_toArray, List.set_cons_zero, List.set_cons_succ, i64_w, i32_w]
            rfl
          refine pure_ (i := 2) (N := some 23) (v := ?_) (a' := ?_) #[true, true, true, false, false, false, false, false, false, false, false, false, false, false, false, false] rfl rfl (by kernel_rfl) (fun _ _ _ h => h) (Or.inl ⟨by rfl, ?_⟩) ?_ ?_
          rotate_left
          · intro w'
            go_simp
            with_reducible rfl
          rotate_left
          · simp only [Act.put, List.setIfInBounds_toArray, List.set_cons_zero, List.set_cons_succ, i64_w, i32_w]
            rfl
          refine pure_ (i := 3) (N := some 24) (v := ?_) (a' := ?_) #[true, true, true, true, false, false, false, false, false, false, false, false, false, false, false, false] rfl rfl (by kernel_rfl) (fun _ _ _ h => h) (Or.inl ⟨by rfl, ?_⟩) ?_ ?_
          rotate_left
          · intro w'
            go_simp
            with_reducible rfl
          rotate_left
          · simp only [Act.put, List.setIfInBounds_toArray, List.set_cons_zero, List.set_cons_succ, i64_w, i32_w]
            rfl
          refine pure_ (i := 4) (N := some 25) (v := ?_) (a' := ?_) #[true, true, true, true, true, false, false, false, false, false, false, false, false, false, false, false] rfl rfl (by kernel_rfl) (fun _ _ _ h => h) (Or.inl ⟨by rfl, ?_⟩) ?_ ?_
          rotate_left
          · intro w'
            go_simp
            with_reducible rfl
          rotate_left
          · simp only [Act.put, List.setIfInBounds_toArray, List.set_cons_zero, List.set_cons_succ, i64_w, i32_w]
            rfl
          refine pure_ (i := 5) (N := some 26) (v := ?_) (a' := ?_) #[true, true, true, true, true, true, false, false, false, false, false, false, false, false, false, false] rfl rfl (by kernel_rfl) (fun _ _ _ h => h) (Or.inl ⟨by rfl, ?_⟩) ?_ ?_
          rotate_left
          · intro w'
            go_simp
            with_reducible rfl
          rotate_left
          · simp only [Act.put, List.setIfInBounds_toArray, List.set_cons_zero, List.set_cons_succ, i64_w, i32_w]
            rfl
          refine pure_ (i := 6) (N := some 27) (v := ?_) (a' := ?_) #[true, true, true, true, true, true, true, false, false, false, false, false, false, false, false, false] rfl rfl (by kernel_rfl) (fun _ _ _ h => h) (Or.inl ⟨by rfl, ?_⟩) ?_ ?_
          rotate_left
          · intro w'
            go_simp
            with_reducible rfl
          rotate_left
          · simp only [Act.put, List.setIfInBounds_toArray, List.set_cons_zero, List.set_cons_succ, i64_w, i32_w]
            rfl
          refine pure_ (i := 7) (N := some 28) (v := ?_) (a' := ?_) #[true, true, true, true, true, true, true, true, false, false, false, false, false, false, false, false] rfl rfl (by kernel_rfl) (fun _ _ _ h => h) (Or.inl ⟨by rfl, ?_⟩) ?_ ?_
          rotate_left
          · intro w'
            go_simp
            with_reducible rfl
          rotate_left
          · simp only [Act.put, List.setIfInBounds_toArray, List.set_cons_zero, List.set_cons_succ, i64_w, i32_w]
            rfl
          refine pure_ (i := 8) (N := some 29) (v := ?_) (a' := ?_) #[true, true, true, true, true, true, true, true, true, false, false, false, false, false, false, false] rfl rfl (by kernel_rfl) (fun _ _ _ h => h) (Or.inl ⟨by rfl, ?_⟩) ?_ ?_
          rotate_left
          · intro w'
            go_simp
            with_reducible rfl
          rotate_left
          · simp only [Act.put, List.setIfInBounds_toArray, List.set_cons_zero, List.set_cons_succ, i64_w, i32_w]
            rfl
          refine pure_ (i := 9) (N := some 30) (v := ?_) (a' := ?_) #[true, true, true, true, true, true, true, true, true, true, false, false, false, false, false, false] rfl rfl (by kernel_rfl) (fun _ _ _ h => h) (Or.inl ⟨by rfl, ?_⟩) ?_ ?_
          rotate_left
          · intro w'
            go_simp
            with_reducible rfl
          rotate_left
          · simp only [Act.put, List.setIfInBounds_toArray, List.set_cons_zero, List.set_cons_succ, i64_w, i32_w]
            rfl
          refine pure_ (i := 13) (N := some 34) (v := ?_) (a' := ?_) #[true, true, true, true, true, true, true, true, true, true, false, false, false, true, false, false] rfl rfl (by kernel_rfl) (fun _ _ _ h => h) (Or.inl ⟨by rfl, ?_⟩) ?_ ?_
          rotate_left
          · intro w'
            go_simp
            with_reducible rfl
          rotate_left
          · simp only [Act.put, List.setIfInBounds_toArray, List.set_cons_zero, List.set_cons_succ, i64_w, i32_w]
            rfl
          refine take_ (i := 10) (N := some 31) (v := ?_) (a' := ?_) #[true, true, true, true, true, true, true, true, true, true, true, false, false, true, false, false] rfl rfl (by kernel_rfl) (fun _ _ _ h => h) (Or.inl ⟨by rfl, ?_⟩) hHeld ?_ ?_
          rotate_left
          · intro w' s0
            go_simp
            with_reducible rfl
          rotate_left
          · simp only [Act.put, List.setIfInBounds_toArray, List.set_cons_zero, List.set_cons_succ, i64_w, i32_w]
            rfl
          refine one_ (i := 11) (N := some 32) #[true, true, true, true, true, true, true, true, true, true, true, true, false, true, false, false] rfl rfl (by kernel_rfl) (by decide) (fun K hK => ?_)
          refine goes_ Try.func102 (by kernel_rfl) rfl #[.int .i64 p, .int .i64 x] (by rfl) rfl rfl (by simp only [List.map_toArray, List.map_cons, List.map_nil]; rfl) ?_
          with_reducible refine (hM _).mono ?_
          rintro e' xw ⟨rfl, hb8'⟩
          refine ⟨_, rfl, ?_⟩
          have hqx := below_undrewN hb8'
          have st := pw_cell_below hqx s0
          have sf := (hqx.frozen zob).trans s1
          refine hK.out _ _ (pw_cell_below hqx q0) (fun hHeld => ?_)
          clear hK K
          refine norm_ (a' := ?_) ?_ ?_
          rotate_left
          · show Act.put _ (some 32) _ = _
            simp only [Act.put, List.setIfInBounds_toArray, List.set_cons_zero, List.set_cons_succ, i64_w, i32_w]
            rfl
          refine pure_ (i := 12) (N := some 33) (v := ?_) (a' := ?_) #[true, true, true, true, true, true, true, true, true, true, true, true, true, true, false, false] rfl rfl (by kernel_rfl) (fun _ _ _ h => h) (Or.inl ⟨by rfl, ?_⟩) ?_ ?_
          rotate_left
          · intro w'
            go_simp
            with_reducible rfl
          rotate_left
          · simp only [Act.put, List.setIfInBounds_toArray, List.set_cons_zero, List.set_cons_succ, i64_w, i32_w]
            rfl
          refine pure_ (i := 14) (N := some 35) (v := ?_) (a' := ?_) #[true, true, true, true, true, true, true, true, true, true, true, true, true, true, true, false] rfl rfl (by kernel_rfl) (fun _ _ _ h => h) (Or.inl ⟨by rfl, ?_⟩) ?_ ?_
          rotate_left
          · intro w'
            go_simp
            with_reducible rfl
          rotate_left
          · simp only [Act.put, List.setIfInBounds_toArray, List.set_cons_zero, List.set_cons_succ, i64_w, i32_w]
            rfl
          refine last_ (i := 15) (N := none) #[true, true, true, true, true, true, true, true, true, true, true, true, true, true, true, true] rfl rfl (by kernel_rfl) (by decide) (fun K hK => ?_)
          refine skip_ (w1 := ?_) (by rfl) rfl ?_ ?_
          rotate_left
          · go_simp
            rfl
          refine hK.out _ _ ?_
          clear hK K
          refine done_ (by kernel_rfl) ?_
          go_wp2
          go_roundg (gk - 1)
          case measure => have := HJK.out; omega
          case rel =>
            have hq0 : Below W0.heap.size W0 xw := y2.ok.trans (hqx.mono y2.ok.size)
            have hob : W0.heap.size ≤ w.heap.size + 1 := by omega
            refine ⟨j + 1, ⟨_, hq0.setCell hob _⟩, by have := HJK.out; omega, by go_num, rfl, fun i' j' hi' hj' => ?_, fun k => ?_⟩
            · by_cases hij : i' = i ∧ j' = j
              · obtain ⟨rfl, rfl⟩ := hij
                rw [World.cell?_setCell_same _ _ _ st, HDN.out _ rfl]
              · rw [World.cell?_setCell_other _ _ _ _ (by first | (simp; done) | (simp; omega)), pw_cell_below hqx (HC2.out i' j' hi' hj')]
                have : (j' < n ∧ (i' < i ∨ (i' = i ∧ j' < j))) ↔ (j' < n ∧ (i' < i ∨ (i' = i ∧ j' < j + 1))) := by omega
                simp only [doneN, this]
            · have := (hqx.frozen (p := ⟨w.heap.size + 1, k, none⟩) zob).trans (HF2.out k)
              simp [this]
        · have hje : j = n := by have := HJK.out; omega
          subst hje
          go_wp2
          go_roundg (j - i - 1)
          case measure => have := HIK.out; omega
          case rel =>
            refine ⟨i + 1, y2, by have := HIK.out; omega, by go_num, rfl, fun i' j' hi' hj' => ?_, HF2.out⟩
            rw [HC2.out i' j' hi' hj']
            have : (j' < j ∧ (i' < i ∨ (i' = i ∧ j' < j))) ↔ (j' < j ∧ (i' < i + 1 ∨ (i' = i + 1 ∧ j' < 0))) := by omega
            simp only [doneN, this]
    · have hie : i = n := by have := HIK.out; omega
      subst hie
      have hn := fun (i' j' : Nat) (h1 : i' < 3) (h2 : j' < 3) => (HC.out i' j' h1 h2).trans (by rw [doneN_end hp hp' i xs h1 h2])
      generalize nmL p (wideZ i xs) = m at *
      have o0 : y.W.cell? ⟨w.heap.size + 1, 0, none⟩ = some (.int .u8 (m.r0.a.toNat : Int)) := hn 0 0 (by omega) (by omega)
      have r0 := y.keep (R1.out 0 (by omega))
      have f0 : y.W.frozen? ⟨w.heap.size, 0, none⟩ = false := (y.ok.frozen (World.block_lt_of_cell? _ _ (R1.out 0 (by omega)))).trans (RF.out 0)
      have o1 : y.W.cell? ⟨w.heap.size + 1, 1, none⟩ = some (.int .u8 (m.r0.b.toNat : Int)) := hn 0 1 (by omega) (by omega)
      have r1 := y.keep (R1.out 1 (by omega))
      have f1 : y.W.frozen? ⟨w.heap.size, 1, none⟩ = false := (y.ok.frozen (World.block_lt_of_cell? _ _ (R1.out 1 (by omega)))).trans (RF.out 1)
      have o2 : y.W.cell? ⟨w.heap.size + 1, 2, none⟩ = some (.int .u8 (m.r0.c.toNat : Int)) := hn 0 2 (by omega) (by omega)
      have r2 := y.keep (R1.out 2 (by omega))
      have f2 : y.W.frozen? ⟨w.heap.size, 2, none⟩ = false := (y.ok.frozen (World.block_lt_of_cell? _ _ (R1.out 2 (by omega)))).trans (RF.out 2)
      have o3 : y.W.cell? ⟨w.heap.size + 1, 3, none⟩ = some (.int .u8 (m.r1.a.toNat : Int)) := hn 1 0 (by omega) (by omega)
      have r3 := y.keep (R1.out 3 (by omega))
      have f3 : y.W.frozen? ⟨w.heap.size, 3, none⟩ = false := (y.ok.frozen (World.block_lt_of_cell? _ _ (R1.out 3 (by omega)))).trans (RF.out 3)
      have o4 : y.W.cell? ⟨w.heap.size + 1, 4, none⟩ = some (.int .u8 (m.r1.b.toNat : Int)) := hn 1 1 (by omega) (by omega)
      have r4 := y.keep (R1.out 4 (by omega))
      have f4 : y.W.frozen? ⟨w.heap.size, 4, none⟩ = false := (y.ok.frozen (World.block_lt_of_cell? _ _ (R1.out 4 (by omega)))).trans (RF.out 4)
      have o5 : y.W.cell? ⟨w.heap.size + 1, 5, none⟩ = some (.int .u8 (m.r1.c.toNat : Int)) := hn 1 2 (by omega) (by omega)
      have r5 := y.keep (R1.out 5 (by omega))
      have f5 : y.W.frozen? ⟨w.heap.size, 5, none⟩ = false := (y.ok.frozen (World.block_lt_of_cell? _ _ (R1.out 5 (by omega)))).trans (RF.out 5)
      have o6 : y.W.cell? ⟨w.heap.size + 1, 6, none⟩ = some (.int .u8 (m.r2.a.toNat : Int)) := hn 2 0 (by omega) (by omega)
      have r6 := y.keep (R1.out 6 (by omega))
      have f6 : y.W.frozen? ⟨w.heap.size, 6, none⟩ = false := (y.ok.frozen (World.block_lt_of_cell? _ _ (R1.out 6 (by omega)))).trans (RF.out 6)
      have o7 : y.W.cell? ⟨w.heap.size + 1, 7, none⟩ = some (.int .u8 (m.r2.b.toNat : Int)) := hn 2 1 (by omega) (by omega)
      have r7 := y.keep (R1.out 7 (by omega))
      have f7 : y.W.frozen? ⟨w.heap.size, 7, none⟩ = false := (y.ok.frozen (World.block_lt_of_cell? _ _ (R1.out 7 (by omega)))).trans (RF.out 7)
      have o8 : y.W.cell? ⟨w.heap.size + 1, 8, none⟩ = some (.int .u8 (m.r2.c.toNat : Int)) := hn 2 2 (by omega) (by omega)
      have r8 := y.keep (R1.out 8 (by omega))
      have f8 : y.W.frozen? ⟨w.heap.size, 8, none⟩ = false := (y.ok.frozen (World.block_lt_of_cell? _ _ (R1.out 8 (by omega)))).trans (RF.out 8)
      have hb0 := HB0.out
      have hzy : w.heap.size + 1 ≤ y.W.heap.size := by have := y.ok.size; omega
      go_wp2
      exact bodyPost_ret (v := .agg #[.int .u8 (m.r0.a.toNat : Int), .int .u8 (m.r0.b.toNat : Int), .int .u8 (m.r0.c.toNat : Int), .int .u8 (m.r1.a.toNat : Int), .int .u8 (m.r1.b.toNat : Int), .int .u8 (m.r1.c.toNat : Int), .int .u8 (m.r2.a.toNat : Int), .int .u8 (m.r2.b.toNat : Int), .int .u8 (m.r2.c.toNat : Int)]) (by simp [results, Try.results93, go_sem, r0, r1, r2, r3, r4, r5, r6, r7, r8]) rfl (.mk rfl bq1)
end Go.Proofs.Ytimjhehagimcaaa

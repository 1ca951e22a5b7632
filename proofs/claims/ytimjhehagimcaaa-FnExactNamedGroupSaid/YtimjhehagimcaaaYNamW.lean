/- The program's table of named groups; no condition. -/
import Derived.Test.YtimjhehagimcaaaYE1
import Derived.Test.YtimjhehagimcaaaYNamL
import Derived.Test.YtimjhehagimcaaaYKitC
set_option linter.unusedVariables false
set_option linter.unusedSimpArgs false
namespace Go.Proofs.Ytimjhehagimcaaa
open Go.RowKit Go.Proofs.YtimjhehagimcaaaW.PrintWords
attribute [local go_sem] Later.cell Later.frozen Later.lt Later.lt_add Later.le Later.le_add Later.ne Later.ne' add_at
/-! ### arrays of nine numbers -/
def n9 (l : List Int) : List Value := (List.range 9).map fun t => .int .i64 (l.getD t 0)
theorem n9_len (l : List Int) : (n9 l).length = 9 := by simp [n9]
def kN : Kd (List Int) := flat 9 n9 n9_len (fun x u hu => by
  obtain ⟨t, _, rfl⟩ := List.mem_map.1 hu
  rfl)
theorem kN_at {w : World} {A : Option Addr} {n : Nat} {gs : List (List Int)} (h : kN.C w A n gs) (i : Nat) (hi : i < n) :
    ∃ b o, A = some ⟨b, o, none⟩ ∧ ∀ t, t < 9 → w.cell? ⟨b, o + i * 9 + t, none⟩ = some (.int .i64 ((gs.getD i []).getD t 0)) := by
  obtain ⟨b, o, c, hA, hK, hc⟩ := C_at h (by decide) i hi []
  have hK' : c = n9 (gs.getD i []) := hK
  subst hK'
  refine ⟨b, o, hA, fun t ht => ?_⟩
  exact hc t _ (by simp [n9, ht])
theorem n9_drop : ∀ (gs : List (List Int)) (j : Nat) (p : List Int), gs[j]? = some p → ((gs.flatMap n9).drop (j * 9)).take 9 = n9 p
  | [], j, p, h => by simp at h
  | g :: gs, 0, p, h => by
    have h : g = p := by simpa using h
    subst h
    rw [List.flatMap_cons, Nat.zero_mul, List.drop_zero]
    exact List.take_left' (n9_len g)
  | g :: gs, j + 1, p, h => by
    have h : gs[j]? = some p := by simpa using h
    rw [List.flatMap_cons, Nat.add_mul, Nat.one_mul, Nat.add_comm, ← List.drop_drop, List.drop_left' (n9_len g)]
    exact n9_drop gs j p h
theorem n9_flat : ∀ gs : List (List Int), (gs.flatMap n9).length = gs.length * 9
  | [] => rfl
  | g :: gs => by rw [List.flatMap_cons, List.length_append, n9_len, n9_flat gs, List.length_cons]; omega
theorem R_litN (gs : List (List Int)) (W : World) (hg : gs.length ≤ 3) {cs : Array Value} (h : cs = (gs.flatMap n9).toArray) {a : Nat} (ha : a = W.heap.size) : kN.C (W.alloc (.cells cs 74)) (some ⟨a, 0, none⟩) gs.length gs := by
  subst h
  subst ha
  have hl : (gs.flatMap n9).toArray.size = gs.length * 9 := by rw [List.size_toArray, n9_flat]
  have h2 := World.ownsRow_lit (base := W.heap.size) (e := 74) (size := 9) W (gs.flatMap n9).toArray gs.length (Nat.le_refl _) (by simp [maxLen]; omega) (by omega)
  have hR : kN.R 74 (W.alloc (.cells (gs.flatMap n9).toArray 74)) W.heap.size (fun _ => True) (.slice (some ⟨W.heap.size, 0, none⟩) gs.length gs.length) gs :=
    ⟨fun _ _ => trivial, gs.flatMap n9, h2, n9_flat gs, fun j p hj => n9_drop gs j p hj⟩
  exact (Kd.R_reads' hR).2.2
def namG (s : ByteArray) : Option (Int × List (List Int)) :=
  if s.toList == [112, 111, 105, 110, 116] then some (1, pointG) else
  if s.toList == [115, 105, 103, 110] then some (1, signG) else
  if s.toList == [109, 105, 110, 117, 115] then some (2, minusG) else
  if s.toList == [115, 119, 97, 112] then some (2, swapG) else
  if s.toList == [115, 105, 103, 110, 115] then some (2, signsG) else
  if s.toList == [115, 113, 117, 97, 114, 101] then some (2, squareG) else
  if s.toList == [116, 114, 105, 97, 110, 103, 108, 101] then some (2, triangleG) else
  if s.toList == [116, 117, 114, 110] then some (3, turnG) else
  if s.toList == [115, 121, 109, 109, 101, 116, 114, 105, 99] then some (3, symmetricG) else
  if s.toList == [99, 117, 98, 101] then some (3, cubeG) else
  none
theorem namG_ok {s : ByteArray} {n : Int} {gs : List (List Int)} (h : namG s = some (n, gs)) : 1 ≤ n ∧ n ≤ 3 ∧ gs.length ≤ 3 ∧ (∀ g ∈ gs, ∀ t, -1 ≤ g.getD t 0 ∧ g.getD t 0 ≤ 1) ∧ ∃ L, okZ n.toNat gs L = true := by
  have hb : ∀ g : List Int, (∀ x ∈ g, -1 ≤ x ∧ x ≤ 1) → ∀ t, -1 ≤ g.getD t 0 ∧ g.getD t 0 ≤ 1 := fun g h t => by
    by_cases ht : t < g.length
    · rw [show g.getD t 0 = g[t] by simp [List.getD_eq_getElem?_getD, ht]]
      exact h _ (List.getElem_mem ht)
    · rw [List.getD_eq_getElem?_getD, List.getElem?_eq_none (by omega)]
      decide
  unfold namG at h
  split at h
  · injection h with h
    injection h with h1 h2
    subst h1 h2
    exact ⟨by decide, by decide, by decide, fun g hg => hb g ((by decide : ∀ g ∈ pointG, ∀ x ∈ g, -1 ≤ x ∧ x ≤ 1) g hg), _, point_ok⟩
  split at h
  · injection h with h
    injection h with h1 h2
    subst h1 h2
    exact ⟨by decide, by decide, by decide, fun g hg => hb g ((by decide : ∀ g ∈ signG, ∀ x ∈ g, -1 ≤ x ∧ x ≤ 1) g hg), _, sign_ok⟩
  split at h
  · injection h with h
    injection h with h1 h2
    subst h1 h2
    exact ⟨by decide, by decide, by decide, fun g hg => hb g ((by decide : ∀ g ∈ minusG, ∀ x ∈ g, -1 ≤ x ∧ x ≤ 1) g hg), _, minus_ok⟩
  split at h
  · injection h with h
    injection h with h1 h2
    subst h1 h2
    exact ⟨by decide, by decide, by decide, fun g hg => hb g ((by decide : ∀ g ∈ swapG, ∀ x ∈ g, -1 ≤ x ∧ x ≤ 1) g hg), _, swap_ok⟩
  split at h
  · injection h with h
    injection h with h1 h2
    subst h1 h2
    exact ⟨by decide, by decide, by decide, fun g hg => hb g ((by decide : ∀ g ∈ signsG, ∀ x ∈ g, -1 ≤ x ∧ x ≤ 1) g hg), _, signs_ok⟩
  split at h
  · injection h with h
    injection h with h1 h2
    subst h1 h2
    exact ⟨by decide, by decide, by decide, fun g hg => hb g ((by decide : ∀ g ∈ squareG, ∀ x ∈ g, -1 ≤ x ∧ x ≤ 1) g hg), _, square_ok⟩
  split at h
  · injection h with h
    injection h with h1 h2
    subst h1 h2
    exact ⟨by decide, by decide, by decide, fun g hg => hb g ((by decide : ∀ g ∈ triangleG, ∀ x ∈ g, -1 ≤ x ∧ x ≤ 1) g hg), _, triangle_ok⟩
  split at h
  · injection h with h
    injection h with h1 h2
    subst h1 h2
    exact ⟨by decide, by decide, by decide, fun g hg => hb g ((by decide : ∀ g ∈ turnG, ∀ x ∈ g, -1 ≤ x ∧ x ≤ 1) g hg), _, turn_ok⟩
  split at h
  · injection h with h
    injection h with h1 h2
    subst h1 h2
    exact ⟨by decide, by decide, by decide, fun g hg => hb g ((by decide : ∀ g ∈ symmetricG, ∀ x ∈ g, -1 ≤ x ∧ x ≤ 1) g hg), _, symmetric_ok⟩
  split at h
  · injection h with h
    injection h with h1 h2
    subst h1 h2
    exact ⟨by decide, by decide, by decide, fun g hg => hb g ((by decide : ∀ g ∈ cubeG, ∀ x ∈ g, -1 ≤ x ∧ x ≤ 1) g hg), _, cube_ok⟩
  cases h
/-- What the program's table gives. -/
def Named (s : ByteArray) (w : World) (e : Ending) (w' : World) : Prop := ∃ A c, e = .returned (.tuple #[.int .i64 ((namG s).elim 0 Prod.fst), .slice A ((namG s).elim [] Prod.snd).length c]) ∧ kN.C w' A ((namG s).elim [] Prod.snd).length ((namG s).elim [] Prod.snd) ∧ Below w.heap.size w w'
set_option maxRecDepth 100000 in
set_option maxHeartbeats 4000000 in
theorem named_c (s : ByteArray) (w : World) : Calls Try.prog 52 #[.string s] w (Named s w) := by
  cases e0 : (s.toList == [112, 111, 105, 110, 116]) with
  | true =>
    have E := Lib.hid (show namG s = some (1, pointG) by unfold namG; simp only [e0, Bool.false_eq_true, if_false, if_true])
    go_enter Try.func52, Try.ntmps52
    go_wp2
    all_goals
      refine bodyPost_ret (v := .tuple #[.int .i64 1, .slice (some ⟨w.heap.size + 1 + 1 + 1, 0, none⟩) 1 1]) (by simp [results, Try.results52, go_sem]) rfl ?_
      unfold Named
      rw [E.out]
      exact ⟨_, _, rfl, R_litN pointG _ (by decide) rfl (by simp), bq8⟩
  | false =>
    cases e1 : (s.toList == [115, 105, 103, 110]) with
    | true =>
      have E := Lib.hid (show namG s = some (1, signG) by unfold namG; simp only [e0, e1, Bool.false_eq_true, if_false, if_true])
      go_enter Try.func52, Try.ntmps52
      go_wp2
      all_goals
        refine bodyPost_ret (v := .tuple #[.int .i64 1, .slice (some ⟨w.heap.size + 1 + 1 + 1, 0, none⟩) 1 1]) (by simp [results, Try.results52, go_sem]) rfl ?_
        unfold Named
        rw [E.out]
        exact ⟨_, _, rfl, R_litN signG _ (by decide) rfl (by simp), bq8⟩
    | false =>
      cases e2 : (s.toList == [109, 105, 110, 117, 115]) with
      | true =>
        have E := Lib.hid (show namG s = some (2, minusG) by unfold namG; simp only [e0, e1, e2, Bool.false_eq_true, if_false, if_true])
        go_enter Try.func52, Try.ntmps52
        go_wp2
        all_goals
          refine bodyPost_ret (v := .tuple #[.int .i64 2, .slice (some ⟨w.heap.size + 1 + 1 + 1, 0, none⟩) 1 1]) (by simp [results, Try.results52, go_sem]) rfl ?_
          unfold Named
          rw [E.out]
          exact ⟨_, _, rfl, R_litN minusG _ (by decide) rfl (by simp), bq8⟩
      | false =>
        cases e3 : (s.toList == [115, 119, 97, 112]) with
        | true =>
          have E := Lib.hid (show namG s = some (2, swapG) by unfold namG; simp only [e0, e1, e2, e3, Bool.false_eq_true, if_false, if_true])
          go_enter Try.func52, Try.ntmps52
          go_wp2
          go_region
          all_goals go_wp2
          all_goals
            refine bodyPost_ret (v := .tuple #[.int .i64 2, .slice (some ⟨w.heap.size + 1 + 1 + 1, 0, none⟩) 1 1]) (by simp [results, Try.results52, go_sem]) rfl ?_
            unfold Named
            rw [E.out]
            exact ⟨_, _, rfl, R_litN swapG _ (by decide) rfl (by simp), bq8⟩
        | false =>
          cases e4 : (s.toList == [115, 105, 103, 110, 115]) with
          | true =>
            have E := Lib.hid (show namG s = some (2, signsG) by unfold namG; simp only [e0, e1, e2, e3, e4, Bool.false_eq_true, if_false, if_true])
            go_enter Try.func52, Try.ntmps52
            go_wp2
            all_goals
              refine bodyPost_ret (v := .tuple #[.int .i64 2, .slice (some ⟨w.heap.size + 1 + 1 + 1, 0, none⟩) 2 2]) (by simp [results, Try.results52, go_sem]) rfl ?_
              unfold Named
              rw [E.out]
              exact ⟨_, _, rfl, R_litN signsG _ (by decide) rfl (by simp), bq8⟩
          | false =>
            cases e5 : (s.toList == [115, 113, 117, 97, 114, 101]) with
            | true =>
              have E := Lib.hid (show namG s = some (2, squareG) by unfold namG; simp only [e0, e1, e2, e3, e4, e5, Bool.false_eq_true, if_false, if_true])
              go_enter Try.func52, Try.ntmps52
              go_wp2
              go_region
              all_goals go_wp2
              all_goals
                refine bodyPost_ret (v := .tuple #[.int .i64 2, .slice (some ⟨w.heap.size + 1 + 1 + 1, 0, none⟩) 2 2]) (by simp [results, Try.results52, go_sem]) rfl ?_
                unfold Named
                rw [E.out]
                exact ⟨_, _, rfl, R_litN squareG _ (by decide) rfl (by simp), bq8⟩
            | false =>
              cases e6 : (s.toList == [116, 114, 105, 97, 110, 103, 108, 101]) with
              | true =>
                have E := Lib.hid (show namG s = some (2, triangleG) by unfold namG; simp only [e0, e1, e2, e3, e4, e5, e6, Bool.false_eq_true, if_false, if_true])
                go_enter Try.func52, Try.ntmps52
                go_wp2
                go_region
                all_goals go_wp2
                all_goals
                  refine bodyPost_ret (v := .tuple #[.int .i64 2, .slice (some ⟨w.heap.size + 1 + 1 + 1, 0, none⟩) 2 2]) (by simp [results, Try.results52, go_sem]) rfl ?_
                  unfold Named
                  rw [E.out]
                  exact ⟨_, _, rfl, R_litN triangleG _ (by decide) rfl (by simp), bq8⟩
              | false =>
                cases e7 : (s.toList == [116, 117, 114, 110]) with
                | true =>
                  have E := Lib.hid (show namG s = some (3, turnG) by unfold namG; simp only [e0, e1, e2, e3, e4, e5, e6, e7, Bool.false_eq_true, if_false, if_true])
                  go_enter Try.func52, Try.ntmps52
                  go_wp2
                  go_region
                  all_goals go_wp2
                  all_goals
                    refine bodyPost_ret (v := .tuple #[.int .i64 3, .slice (some ⟨w.heap.size + 1 + 1 + 1, 0, none⟩) 1 1]) (by simp [results, Try.results52, go_sem]) rfl ?_
                    unfold Named
                    rw [E.out]
                    exact ⟨_, _, rfl, R_litN turnG _ (by decide) rfl (by simp), bq8⟩
                | false =>
                  cases e8 : (s.toList == [115, 121, 109, 109, 101, 116, 114, 105, 99]) with
                  | true =>
                    have E := Lib.hid (show namG s = some (3, symmetricG) by unfold namG; simp only [e0, e1, e2, e3, e4, e5, e6, e7, e8, Bool.false_eq_true, if_false, if_true])
                    go_enter Try.func52, Try.ntmps52
                    go_wp2
                    go_region
                    all_goals go_wp2
                    all_goals
                      refine bodyPost_ret (v := .tuple #[.int .i64 3, .slice (some ⟨w.heap.size + 1 + 1 + 1, 0, none⟩) 2 2]) (by simp [results, Try.results52, go_sem]) rfl ?_
                      unfold Named
                      rw [E.out]
                      exact ⟨_, _, rfl, R_litN symmetricG _ (by decide) rfl (by simp), bq8⟩
                  | false =>
                    cases e9 : (s.toList == [99, 117, 98, 101]) with
                    | true =>
                      have E := Lib.hid (show namG s = some (3, cubeG) by unfold namG; simp only [e0, e1, e2, e3, e4, e5, e6, e7, e8, e9, Bool.false_eq_true, if_false, if_true])
                      go_enter Try.func52, Try.ntmps52
                      go_wp2
                      go_region
                      all_goals go_wp2
                      all_goals
                        refine bodyPost_ret (v := .tuple #[.int .i64 3, .slice (some ⟨w.heap.size + 1 + 1 + 1, 0, none⟩) 3 3]) (by simp [results, Try.results52, go_sem]) rfl ?_
                        unfold Named
                        rw [E.out]
                        exact ⟨_, _, rfl, R_litN cubeG _ (by decide) rfl (by simp), bq8⟩
                    | false =>
                      have E := Lib.hid (show namG s = none by unfold namG; simp only [e0, e1, e2, e3, e4, e5, e6, e7, e8, e9, Bool.false_eq_true, if_false])
                      go_enter Try.func52, Try.ntmps52
                      go_wp2
                      refine bodyPost_ret (v := .tuple #[.int .i64 0, .slice none 0 0]) (by simp [results, Try.results52, go_sem]) rfl ?_
                      unfold Named
                      rw [E.out]
                      exact ⟨_, _, rfl, Kd.C_nil _ _, bq8⟩
end Go.Proofs.Ytimjhehagimcaaa

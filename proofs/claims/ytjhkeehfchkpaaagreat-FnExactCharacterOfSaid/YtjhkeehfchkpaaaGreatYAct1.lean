/- The codes of a group and a polynomial for it, both sides; no condition. -/
import Derived.Test.YtjhkeehfchkpaaaGreatYLead5
import Derived.Test.YtjhkeehfchkpaaaGreatYKitG
set_option linter.unusedVariables false
set_option linter.unusedSimpArgs false
namespace Go.Proofs.YtjhkeehfchkpaaaGreat
open Go.RowKit Go.Proofs.YtjhkeehfchkpaaaGreatW.PrintWords
attribute [local go_sem] Later.cell Later.frozen Later.lt Later.lt_add Later.le Later.le_add Later.ne Later.ne' add_at
attribute [local go_sem 2000] run_eqM guardM
def codeF (p n : Int) (ms : List M9) (q d : Int) (ts : List T4) : Int := if (grpB p n ms && polyB q d ts) = true then (if q = p ∧ d = n then 0 else 2) else 1
theorem codeF_0 {p n : Int} {ms : List M9} {q d : Int} {ts : List T4} (h : codeF p n ms q d ts = 0) : grpB p n ms = true ∧ polyB q d ts = true ∧ q = p ∧ d = n := by
  unfold codeF at h
  split at h
  · rename_i h1
    simp only [Bool.and_eq_true] at h1
    split at h
    · rename_i h2
      exact ⟨h1.1, h1.2, h2⟩
    · omega
  · omega
theorem codeF_1 {p n : Int} {ms : List M9} {q d : Int} {ts : List T4} (h : (grpB p n ms && polyB q d ts) = false) : codeF p n ms q d ts = 1 := by
  unfold codeF
  rw [h, if_neg (by decide)]
theorem codeF_2 {p n : Int} {ms : List M9} {q d : Int} {ts : List T4} (h : (grpB p n ms && polyB q d ts) = true) (h2 : ¬ (q = p ∧ d = n)) : codeF p n ms q d ts = 2 := by
  unfold codeF
  rw [h, if_pos rfl, if_neg h2]
theorem codeF_z {p n : Int} {ms : List M9} {q d : Int} {ts : List T4} (h : (grpB p n ms && polyB q d ts) = true) (h2 : q = p ∧ d = n) : codeF p n ms q d ts = 0 := by
  unfold codeF
  rw [h, if_pos rfl, if_pos h2]
theorem grp_n3 {p n : Int} {ms : List M9} (g : GrpP p n ms) : 2 ≤ p ∧ p ≤ 13 ∧ 1 ≤ n ∧ n ≤ 3 := by
  have h0 := g.mat 0 (by have := g.l1; omega)
  obtain ⟨_, h1, h2, h3, h4⟩ := matB_le h0
  exact ⟨h1, h2, h3, h4⟩
set_option maxRecDepth 100000 in
theorem forGroup_c (p n : Int) (A : Option Addr) (l c : Nat) (q d : Int) (B : Option Addr) (k e : Nat) (w : World) : Calls Tryz.prog 97 #[.agg #[.int .i64 p, .int .i64 n, .slice A l c], .agg #[.int .i64 q, .int .i64 d, .slice B k e]] w (Gives (.bool (q == p && d == n)) w) := by
  cases h : (q == p) with
  | false =>
    go_enter Tryz.func97, Tryz.ntmps97
    go_wp2
    exact bodyPost_ret (v := .bool false) (by simp [results, Tryz.results97, go_sem]) rfl (.mk rfl bq1)
  | true =>
    go_enter Tryz.func97, Tryz.ntmps97
    go_wp2
    exact bodyPost_ret (v := .bool (d == n)) (by simp [results, Tryz.results97, go_sem]) rfl (.mk rfl bq1)
set_option maxRecDepth 100000 in
set_option maxHeartbeats 2000000 in
theorem actionCode_c (p n : Int) (A : Option Addr) (c : Nat) (ms : List M9) (q d : Int) (B : Option Addr) (e : Nat) (ts : List T4) (w : World) (hC : kM.C w A ms.length ms) (hD : kT.C w B ts.length ts) (hN : ms.length ≤ 9223372036854775807) (hM : ts.length ≤ 9223372036854775807) :
    Calls Tryz.prog 54 #[.agg #[.int .i64 p, .int .i64 n, .slice A ms.length c], .agg #[.int .i64 q, .int .i64 d, .slice B ts.length e]] w (Gives (.int .i64 (codeF p n ms q d ts)) w) := by
  have hC1 := Kd.C_alloc (Kd.C_alloc hC (.cells #[.int .i64 p, .int .i64 n, .slice A ms.length c] 34)) (.cells #[.int .i64 q, .int .i64 d, .slice B ts.length e] 38)
  have hD1 := Kd.C_alloc (Kd.C_alloc hD (.cells #[.int .i64 p, .int .i64 n, .slice A ms.length c] 34)) (.cells #[.int .i64 q, .int .i64 d, .slice B ts.length e] 38)
  have hG := implIsGroup_c p n A c ms _ hC1 hN
  have hI := fun W h => IsPoly_c q d B e ts W h hM
  have hF := fun W => forGroup_c p n A ms.length c q d B ts.length e W
  cases hg : grpB p n ms with
  | false =>
    rw [codeF_1 (by rw [hg]; rfl)]
    rw [hg] at hG
    go_enter Tryz.func54, Tryz.ntmps54
    go_wp2_with ((go_at_call 95; (first | (with_reducible refine call_later2 (hG) ?_) | (with_reducible refine call_later (hG) ?_)); intro x))
    exact bodyPost_ret (v := .int .i64 1) (by simp [results, Tryz.results54, go_sem]) rfl (.mk rfl bq1)
  | true =>
    rw [hg] at hG
    cases hb : polyB q d ts with
    | false =>
      rw [codeF_1 (by rw [hg, hb]; rfl)]
      rw [hb] at hI
      clear hg hb
      go_enter Tryz.func54, Tryz.ntmps54
      go_wp2_with (first | (go_at_call 95; (first | (with_reducible refine call_later2 (hG) ?_) | (with_reducible refine call_later (hG) ?_)); intro x) | (go_at_call 96; (first | (with_reducible refine call_later2 (hI _ (Kd.C_below hD1 x.ok)) ?_) | (with_reducible refine call_later (hI _ (Kd.C_below hD1 x.ok)) ?_)); intro x2))
      exact bodyPost_ret (v := .int .i64 1) (by simp [results, Tryz.results54, go_sem]) rfl (.mk rfl bq1)
    | true =>
      rw [hb] at hI
      by_cases h2 : q = p ∧ d = n
      · rw [codeF_z (by rw [hg, hb]; rfl) h2]
        have hF2 : ∀ W, Calls Tryz.prog 97 #[.agg #[.int .i64 p, .int .i64 n, .slice A ms.length c], .agg #[.int .i64 q, .int .i64 d, .slice B ts.length e]] W (Gives (.bool true) W) := fun W => by
          have h := hF W
          have e : (q == p && d == n) = true := by simpa using h2
          rwa [e] at h
        clear hg hb hF h2
        go_enter Tryz.func54, Tryz.ntmps54
        go_wp2_with (first | (go_at_call 95; (first | (with_reducible refine call_later2 (hG) ?_) | (with_reducible refine call_later (hG) ?_)); intro x) | (go_at_call 96; (first | (with_reducible refine call_later2 (hI _ (Kd.C_below hD1 x.ok)) ?_) | (with_reducible refine call_later (hI _ (Kd.C_below hD1 x.ok)) ?_)); intro x2) | (go_at_call 97; (first | (with_reducible refine call_later2 (hF2 _) ?_) | (with_reducible refine call_later (hF2 _) ?_)); intro x3))
        exact bodyPost_ret (v := .int .i64 0) (by simp [results, Tryz.results54, go_sem]) rfl (.mk rfl bq1)
      · rw [codeF_2 (by rw [hg, hb]; rfl) h2]
        have hF2 : ∀ W, Calls Tryz.prog 97 #[.agg #[.int .i64 p, .int .i64 n, .slice A ms.length c], .agg #[.int .i64 q, .int .i64 d, .slice B ts.length e]] W (Gives (.bool false) W) := fun W => by
          have h := hF W
          have e : (q == p && d == n) = false := by
            rw [← Bool.not_eq_true]
            intro hc
            simp at hc
            exact h2 hc
          rwa [e] at h
        clear hg hb hF h2
        go_enter Tryz.func54, Tryz.ntmps54
        go_wp2_with (first | (go_at_call 95; (first | (with_reducible refine call_later2 (hG) ?_) | (with_reducible refine call_later (hG) ?_)); intro x) | (go_at_call 96; (first | (with_reducible refine call_later2 (hI _ (Kd.C_below hD1 x.ok)) ?_) | (with_reducible refine call_later (hI _ (Kd.C_below hD1 x.ok)) ?_)); intro x2) | (go_at_call 97; (first | (with_reducible refine call_later2 (hF2 _) ?_) | (with_reducible refine call_later (hF2 _) ?_)); intro x3))
        exact bodyPost_ret (v := .int .i64 2) (by simp [results, Tryz.results54, go_sem]) rfl (.mk rfl bq1)
set_option maxRecDepth 100000 in
set_option maxHeartbeats 2000000 in
theorem l03Code_c (p n : Int) (A : Option Addr) (c : Nat) (ms : List M9) (q d : Int) (B : Option Addr) (e : Nat) (ts : List T4) (w : World) (hC : kM.C w A ms.length ms) (hD : kT.C w B ts.length ts) (hN : ms.length ≤ 9223372036854775807) (hM : ts.length ≤ 9223372036854775807) :
    Calls Tryz.prog 50 #[.agg #[.int .i64 p, .int .i64 n, .slice A ms.length c], .agg #[.int .i64 q, .int .i64 d, .slice B ts.length e]] w (Gives (.int .i64 (codeF p n ms q d ts)) w) := by
  have hC1 := Kd.C_alloc (Kd.C_alloc hC (.cells #[.int .i64 p, .int .i64 n, .slice A ms.length c] 34)) (.cells #[.int .i64 q, .int .i64 d, .slice B ts.length e] 38)
  have hD1 := Kd.C_alloc (Kd.C_alloc hD (.cells #[.int .i64 p, .int .i64 n, .slice A ms.length c] 34)) (.cells #[.int .i64 q, .int .i64 d, .slice B ts.length e] 38)
  have e0 : ((w.alloc (.cells #[.int .i64 p, .int .i64 n, .slice A ms.length c] 34)).alloc (.cells #[.int .i64 q, .int .i64 d, .slice B ts.length e] 38)).cell? ⟨w.heap.size, 0, none⟩ = some (.int .i64 p) := by first | (simp; done) | (simp [go_sem]; done) | go_simp
  have e1 : ((w.alloc (.cells #[.int .i64 p, .int .i64 n, .slice A ms.length c] 34)).alloc (.cells #[.int .i64 q, .int .i64 d, .slice B ts.length e] 38)).cell? ⟨w.heap.size, 1, none⟩ = some (.int .i64 n) := by first | (simp; done) | (simp [go_sem]; done) | go_simp
  have e2 : ((w.alloc (.cells #[.int .i64 p, .int .i64 n, .slice A ms.length c] 34)).alloc (.cells #[.int .i64 q, .int .i64 d, .slice B ts.length e] 38)).cell? ⟨w.heap.size + 1, 0, none⟩ = some (.int .i64 q) := by first | (simp; done) | (simp [go_sem]; done) | go_simp
  have e3 : ((w.alloc (.cells #[.int .i64 p, .int .i64 n, .slice A ms.length c] 34)).alloc (.cells #[.int .i64 q, .int .i64 d, .slice B ts.length e] 38)).cell? ⟨w.heap.size + 1, 1, none⟩ = some (.int .i64 d) := by first | (simp; done) | (simp [go_sem]; done) | go_simp
  have hG := l02Is_c p n A c ms _ hC1 hN
  have hI := fun W h => l01Is_c q d B e ts W h hM
  cases hg : grpB p n ms with
  | false =>
    rw [codeF_1 (by rw [hg]; rfl)]
    rw [hg] at hG
    go_enter Tryz.func50, Tryz.ntmps50
    go_wp2_with ((go_at_call 90; (first | (with_reducible refine call_later2 (hG) ?_) | (with_reducible refine call_later (hG) ?_)); intro x))
    exact bodyPost_ret (v := .int .i64 1) (by simp [results, Tryz.results50, go_sem]) rfl (.mk rfl bq1)
  | true =>
    rw [hg] at hG
    cases hb : polyB q d ts with
    | false =>
      rw [codeF_1 (by rw [hg, hb]; rfl)]
      rw [hb] at hI
      clear hg hb
      go_enter Tryz.func50, Tryz.ntmps50
      go_wp2_with (first | (go_at_call 90; (first | (with_reducible refine call_later2 (hG) ?_) | (with_reducible refine call_later (hG) ?_)); intro x) | (go_at_call 91; (first | (with_reducible refine call_later2 (hI _ (Kd.C_below hD1 x.ok)) ?_) | (with_reducible refine call_later (hI _ (Kd.C_below hD1 x.ok)) ?_)); intro x2))
      exact bodyPost_ret (v := .int .i64 1) (by simp [results, Tryz.results50, go_sem]) rfl (.mk rfl bq1)
    | true =>
      rw [hb] at hI
      by_cases h2 : p = q
      · by_cases h3 : n = d
        · rw [codeF_z (by rw [hg, hb]; rfl) ⟨h2.symm, h3.symm⟩]
          have h2' : (p != q) = false := by simp [h2]
          have h3' : (n != d) = false := by simp [h3]
          clear hg hb h2 h3
          go_enter Tryz.func50, Tryz.ntmps50
          go_wp2_with (first | (go_at_call 90; (first | (with_reducible refine call_later2 (hG) ?_) | (with_reducible refine call_later (hG) ?_)); intro x) | ((go_at_call 91; (first | (with_reducible refine call_later2 (hI _ (Kd.C_below hD1 x.ok)) ?_) | (with_reducible refine call_later (hI _ (Kd.C_below hD1 x.ok)) ?_)); intro x2); have y0 := x2.keep e0; have y1 := x2.keep e1; have y2 := x2.keep e2; have y3 := x2.keep e3))
          exact bodyPost_ret (v := .int .i64 0) (by simp [results, Tryz.results50, go_sem]) rfl (.mk rfl bq1)
        · rw [codeF_2 (by rw [hg, hb]; rfl) (fun h => h3 h.2.symm)]
          have h2' : (p != q) = false := by simp [h2]
          have h3' : (n != d) = true := by simpa using h3
          clear hg hb h2 h3
          go_enter Tryz.func50, Tryz.ntmps50
          go_wp2_with (first | (go_at_call 90; (first | (with_reducible refine call_later2 (hG) ?_) | (with_reducible refine call_later (hG) ?_)); intro x) | ((go_at_call 91; (first | (with_reducible refine call_later2 (hI _ (Kd.C_below hD1 x.ok)) ?_) | (with_reducible refine call_later (hI _ (Kd.C_below hD1 x.ok)) ?_)); intro x2); have y0 := x2.keep e0; have y1 := x2.keep e1; have y2 := x2.keep e2; have y3 := x2.keep e3))
          exact bodyPost_ret (v := .int .i64 2) (by simp [results, Tryz.results50, go_sem]) rfl (.mk rfl bq1)
      · rw [codeF_2 (by rw [hg, hb]; rfl) (fun h => h2 h.1.symm)]
        have h2' : (p != q) = true := by simpa using h2
        clear hg hb h2
        go_enter Tryz.func50, Tryz.ntmps50
        go_wp2_with (first | (go_at_call 90; (first | (with_reducible refine call_later2 (hG) ?_) | (with_reducible refine call_later (hG) ?_)); intro x) | ((go_at_call 91; (first | (with_reducible refine call_later2 (hI _ (Kd.C_below hD1 x.ok)) ?_) | (with_reducible refine call_later (hI _ (Kd.C_below hD1 x.ok)) ?_)); intro x2); have y0 := x2.keep e0; have y1 := x2.keep e1; have y2 := x2.keep e2; have y3 := x2.keep e3))
        exact bodyPost_ret (v := .int .i64 2) (by simp [results, Tryz.results50, go_sem]) rfl (.mk rfl bq1)
end Go.Proofs.YtjhkeehfchkpaaaGreat

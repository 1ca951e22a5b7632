/- Equality of terms and of polynomials, both sides; no condition. -/
import Derived.Test.YtjhkeehfchkpaaaGreatYAct4
import Derived.Test.YtjhkeehfchkpaaaGreatYWEqStruct
import Derived.Stop.BytesEq
import Derived.BigQuiet
set_option linter.unusedVariables false
set_option linter.unusedSimpArgs false
namespace Go.Proofs.YtjhkeehfchkpaaaGreat
open Go.RowKit Go.Proofs.YtjhkeehfchkpaaaGreatW.PrintWords
attribute [local go_sem] Later.cell Later.frozen Later.lt Later.lt_add Later.le Later.le_add Later.ne Later.ne' add_at
attribute [local go_sem] Later.cell Later.frozen Later.lt Later.lt_add Later.le Later.le_add Later.ne Later.ne' add_at
theorem guardT : Tryz.prog.eqGuardType Tryz.prog.depth 80 = false := by kernel_rfl
theorem eqTerm_v (t s : T4) (w : World) : (Op.equalIn 10000 80 (.agg #[.int .u8 (t.e.a.toNat : Int), .int .u8 (t.e.b.toNat : Int), .int .u8 (t.e.c.toNat : Int), .int .i64 t.v]) (.agg #[.int .u8 (s.e.a.toNat : Int), .int .u8 (s.e.b.toNat : Int), .int .u8 (s.e.c.toNat : Int), .int .i64 s.v])).run Tryz.prog w = .ok (t == s) w := by
  have hE : (Op.equalIn 9999 78 (.agg #[.int .u8 (t.e.a.toNat : Int), .int .u8 (t.e.b.toNat : Int), .int .u8 (t.e.c.toNat : Int)]) (.agg #[.int .u8 (s.e.a.toNat : Int), .int .u8 (s.e.b.toNat : Int), .int .u8 (s.e.c.toNat : Int)])).run Tryz.prog w = .ok (t.e == s.e) w := by
    have h := run_equalIn_bytes (P := Tryz.prog) w 9997 78 5 3 Tryz.underlying78 Tryz.underlying5 Tryz.sizeOf5 [t.e.a, t.e.b, t.e.c] [s.e.a, s.e.b, s.e.c] rfl rfl
    have e0 : ([t.e.a, t.e.b, t.e.c] == [s.e.a, s.e.b, s.e.c]) = (t.e == s.e) := by
      obtain ⟨⟨a, b, c⟩, v⟩ := t
      obtain ⟨⟨a', b', c'⟩, v'⟩ := s
      rw [Bool.eq_iff_iff]
      simp
    rw [e0] at h
    exact h
  have hI : (Op.equalIn 9999 2 (.int .i64 t.v) (.int .i64 s.v)).run Tryz.prog w = .ok (t.v == s.v) w := by
    rw [Op.equalIn]
    simp only [Sem.run_bind, run_underlying Tryz.underlying2, Result.andThen_ok]
    rfl
  have h0 : (t == s) = (t.e == s.e && t.v == s.v) := by
    obtain ⟨e, v⟩ := t
    obtain ⟨e', v'⟩ := s
    rw [Bool.eq_iff_iff]
    simp
  rw [h0]
  refine eqA_of (d := 9999) Tryz.underlying80 (by kernel_rfl) ?_
  refine eqf_cons rfl ?_ ?_ hE (eqf_last rfl ?_ ?_ hI)
  · simp [part, isAgg, run_underlying Tryz.underlying78, Tryz.sizeOf78]
  · simp [part, isAgg, run_underlying Tryz.underlying78, Tryz.sizeOf78]
  · simp [part, isAgg, run_underlying Tryz.underlying2, Tryz.sizeOf2]
  · simp [part, isAgg, run_underlying Tryz.underlying2, Tryz.sizeOf2]
theorem run_neT (t s : T4) (w : World) : (binOp .neq 80 (.agg #[.int .u8 (t.e.a.toNat : Int), .int .u8 (t.e.b.toNat : Int), .int .u8 (t.e.c.toNat : Int), .int .i64 t.v]) (.agg #[.int .u8 (s.e.a.toNat : Int), .int .u8 (s.e.b.toNat : Int), .int .u8 (s.e.c.toNat : Int), .int .i64 s.v])).run Tryz.prog w = .ok (.bool (t != s)) w := by
  rw [run_neq_struct, eqTerm_v]
  rfl
attribute [local go_sem 2000] run_neT guardT
set_option maxRecDepth 100000 in
set_option maxHeartbeats 4000000 in
theorem equalT_c (A B : Option Addr) (c b : Nat) (ts us : List T4) (w : World) (hC : kT.C w A ts.length ts) (hD : kT.C w B us.length us) (hn : ts.length ≤ 1048576) (hm : us.length ≤ 1048576) :
    Calls Tryz.prog 105 #[.slice A ts.length c, .slice B us.length b] w (Gives (.bool (ts == us)) w) := by
  by_cases hl : ts.length = us.length
  · have HL := Lib.hid hl
    have hq : ((ts.length : Int) != us.length) = false := by simp [hl]
    clear hl
    go_enter Tryz.func105, Tryz.ntmps105
    go_wp2
    go_loopg [13] ts.length (fun k v w' => ∃ (i : Nat) (y : Later w), i + k = ts.length ∧ v = .int .i64 i ∧ (∀ j, j < i → ts.getD j z4 = us.getD j z4) ∧ w' = y.W)
    case atStart => exact ⟨0, ⟨w, Below.refl _ _⟩, by omega, rfl, fun j hj => by omega, rfl⟩
    case round =>
      obtain ⟨i, y, hik, rfl, hs, rfl⟩ := hrel
      have HIK := Lib.hid hik
      have HS := Lib.hid hs
      clear hik hs
      by_cases hlt : i < ts.length
      · obtain ⟨b1, o1, hA, p0, p1, p2, p3⟩ := kT_at hC i hlt z4
        obtain ⟨b2, o2, hB, q0, q1, q2, q3⟩ := kT_at hD i (by have := HL.out; omega) z4
        subst hA
        subst hB
        have k1 : b1 < w.heap.size := World.block_lt_of_cell? w _ p0
        have k2 : b2 < w.heap.size := World.block_lt_of_cell? w _ q0
        have hi0 : (0 : Int) ≤ i := by omega
        have hi1 : (i : Int) < ts.length := by omega
        have hi2 : (i : Int) < us.length := by have := HL.out; omega
        have hin : ((i : Int)).toNat = i := by omega
        generalize ht : ts.getD i z4 = t at *
        generalize hu : us.getD i z4 = u at *
        have HT := Lib.hid ht
        have HU := Lib.hid hu
        clear ht hu
        cases he : (t != u) with
        | true =>
          go_wp2
          (first | refine wp_region_later2 (by kernel_rfl) (by kernel_rfl) ?_ | refine wp_region_later (by kernel_rfl) (by kernel_rfl) ?_); (repeat (go_big_quiet_step (fail))); refine wpQuiet_nil ?_; intro x
          go_wp2
          go_ret
          refine .mk ?_ bq7
          have hne : (ts == us) = false := by
            rw [beq_eq_false_iff_ne]
            intro hh
            rw [bne_iff_ne] at he
            exact he (by rw [← HT.out, ← HU.out, hh])
          rw [hne]
          rfl
        | false =>
          go_wp2
          (first | refine wp_region_later2 (by kernel_rfl) (by kernel_rfl) ?_ | refine wp_region_later (by kernel_rfl) (by kernel_rfl) ?_); (repeat (go_big_quiet_step (fail))); refine wpQuiet_nil ?_; intro x
          go_wp2
          go_roundg (gk - 1)
          case measure => have := HIK.out; omega
          case rel =>
            refine ⟨i + 1, x, by have := HIK.out; omega, by go_num, fun j hj => ?_, rfl⟩
            rcases Nat.lt_succ_iff_lt_or_eq.1 hj with g | g
            · exact HS.out j g
            · rw [g, HT.out, HU.out]
              simpa using he
      · go_wp2
        go_ret
        refine .mk ?_ bq7
        have heq : ts = us := by
          apply List.ext_getElem HL.out
          intro j h1 h2
          have := HS.out j (by omega)
          simpa [List.getD_eq_getElem?_getD, h1, h2] using this
        rw [heq, beq_self_eq_true]
        rfl
  · have hq : ((ts.length : Int) != us.length) = true := by rw [bne_iff_ne]; omega
    have he : (ts == us) = false := by
      rw [beq_eq_false_iff_ne]
      intro hh
      exact hl (by rw [hh])
    have HE := Lib.hid he
    clear he hl
    go_enter Tryz.func105, Tryz.ntmps105
    go_wp2
    go_ret
    exact .mk (by rw [HE.out]; rfl) bq7
set_option maxRecDepth 100000 in
set_option maxHeartbeats 4000000 in
theorem l01Same_c (p d p' d' : Int) (A B : Option Addr) (c b : Nat) (ts us : List T4) (w : World) (hC : kT.C w A ts.length ts) (hD : kT.C w B us.length us) (hn : ts.length ≤ 1048576) (hm : us.length ≤ 1048576) :
    Calls Tryz.prog 70 #[.agg #[.int .i64 p, .int .i64 d, .slice A ts.length c], .agg #[.int .i64 p', .int .i64 d', .slice B us.length b]] w (Gives (.bool (ts == us)) w) := by
  by_cases hl : ts.length = us.length
  · have HL := Lib.hid hl
    have hq : ((ts.length : Int) != us.length) = false := by simp [hl]
    clear hl
    have hbW : Below w.heap.size w ((w.alloc (.cells #[.int .i64 p, .int .i64 d, .slice A ts.length c] 38)).alloc (.cells #[.int .i64 p', .int .i64 d', .slice B us.length b] 38)) := bq7
    replace hC := Kd.C_below hC hbW
    replace hD := Kd.C_below hD hbW
    have x2 : ((w.alloc (.cells #[.int .i64 p, .int .i64 d, .slice A ts.length c] 38)).alloc (.cells #[.int .i64 p', .int .i64 d', .slice B us.length b] 38)).cell? ⟨w.heap.size, 2, none⟩ = some (.slice A ts.length c) := bq5
    have y2 : ((w.alloc (.cells #[.int .i64 p, .int .i64 d, .slice A ts.length c] 38)).alloc (.cells #[.int .i64 p', .int .i64 d', .slice B us.length b] 38)).cell? ⟨w.heap.size + 1, 2, none⟩ = some (.slice B us.length b) := bq5
    have x9 : w.heap.size < ((w.alloc (.cells #[.int .i64 p, .int .i64 d, .slice A ts.length c] 38)).alloc (.cells #[.int .i64 p', .int .i64 d', .slice B us.length b] 38)).heap.size := by simp; omega
    have y9 : w.heap.size + 1 < ((w.alloc (.cells #[.int .i64 p, .int .i64 d, .slice A ts.length c] 38)).alloc (.cells #[.int .i64 p', .int .i64 d', .slice B us.length b] 38)).heap.size := by simp
    go_enter Tryz.func70, Tryz.ntmps70
    go_wp2
    generalize ((w.alloc (.cells #[.int .i64 p, .int .i64 d, .slice A ts.length c] 38)).alloc (.cells #[.int .i64 p', .int .i64 d', .slice B us.length b] 38)) = V at *
    generalize hyb : w.heap.size + 1 = yb at *
    generalize hxb : w.heap.size = xb at *
    go_loopg [5] ts.length (fun k v w' => ∃ (i : Nat) (y : Later V), i + k = ts.length ∧ v = .int .i64 i ∧ (∀ j, j < i → ts.getD j z4 = us.getD j z4) ∧ w' = y.W)
    case atStart => exact ⟨0, ⟨V, Below.refl _ _⟩, by omega, rfl, fun j hj => by omega, rfl⟩
    case round =>
      obtain ⟨i, y, hik, rfl, hs, rfl⟩ := hrel
      have HIK := Lib.hid hik
      have HS := Lib.hid hs
      clear hik hs
      by_cases hlt : i < ts.length
      · obtain ⟨b1, o1, hA, p0, p1, p2, p3⟩ := kT_at hC i hlt z4
        obtain ⟨b2, o2, hB, q0, q1, q2, q3⟩ := kT_at hD i (by have := HL.out; omega) z4
        subst hA
        subst hB
        have k1 : b1 < V.heap.size := World.block_lt_of_cell? V _ p0
        have k2 : b2 < V.heap.size := World.block_lt_of_cell? V _ q0
        have hi0 : (0 : Int) ≤ i := by omega
        have hi1 : (i : Int) < ts.length := by omega
        have hi2 : (i : Int) < us.length := by have := HL.out; omega
        have hin : ((i : Int)).toNat = i := by omega
        generalize ht : ts.getD i z4 = t at *
        generalize hu : us.getD i z4 = u at *
        have HT := Lib.hid ht
        have HU := Lib.hid hu
        clear ht hu
        cases he : (t != u) with
        | true =>
          go_wp2
          (first | refine wp_region_later2 (by kernel_rfl) (by kernel_rfl) ?_ | refine wp_region_later (by kernel_rfl) (by kernel_rfl) ?_); (repeat (go_big_quiet_step (fail))); refine wpQuiet_nil ?_; intro x
          go_wp2
          go_ret
          refine .mk ?_ bq7
          have hne : (ts == us) = false := by
            rw [beq_eq_false_iff_ne]
            intro hh
            rw [bne_iff_ne] at he
            exact he (by rw [← HT.out, ← HU.out, hh])
          rw [hne]
          rfl
        | false =>
          go_wp2
          (first | refine wp_region_later2 (by kernel_rfl) (by kernel_rfl) ?_ | refine wp_region_later (by kernel_rfl) (by kernel_rfl) ?_); (repeat (go_big_quiet_step (fail))); refine wpQuiet_nil ?_; intro x
          go_wp2
          go_roundg (gk - 1)
          case measure => have := HIK.out; omega
          case rel =>
            refine ⟨i + 1, x, by have := HIK.out; omega, by go_num, fun j hj => ?_, rfl⟩
            rcases Nat.lt_succ_iff_lt_or_eq.1 hj with g | g
            · exact HS.out j g
            · rw [g, HT.out, HU.out]
              simpa using he
      · go_wp2
        go_ret
        refine .mk ?_ bq7
        have heq : ts = us := by
          apply List.ext_getElem HL.out
          intro j h1 h2
          have := HS.out j (by omega)
          simpa [List.getD_eq_getElem?_getD, h1, h2] using this
        rw [heq, beq_self_eq_true]
        rfl
  · have hq : ((ts.length : Int) != us.length) = true := by rw [bne_iff_ne]; omega
    have he : (ts == us) = false := by
      rw [beq_eq_false_iff_ne]
      intro hh
      exact hl (by rw [hh])
    have HE := Lib.hid he
    clear he hl
    go_enter Tryz.func70, Tryz.ntmps70
    go_wp2
    go_ret
    exact .mk (by rw [HE.out]; rfl) bq7
theorem alike_t (p d p' d' : Int) (A A' : Option Addr) (n c n' c' : Nat) (w : World) : Calls Tryz.prog 104 #[.agg #[.int .i64 p, .int .i64 d, .slice A n c], .agg #[.int .i64 p', .int .i64 d', .slice A' n' c']] w (Gives (.bool (p == p' && d == d')) w) := by
  cases h : (p == p') with
  | false =>
    go_enter Tryz.func104, Tryz.ntmps104
    go_wp2
    exact bodyPost_ret (v := .bool false) (by simp [results, Tryz.results104, go_sem]) rfl (.mk rfl bq1)
  | true =>
    go_enter Tryz.func104, Tryz.ntmps104
    go_wp2
    exact bodyPost_ret (v := .bool (d == d')) (by simp [results, Tryz.results104, go_sem]) rfl (.mk rfl bq1)
set_option maxRecDepth 100000 in
set_option maxHeartbeats 4000000 in
theorem samePoly_c (p d p' d' : Int) (A B : Option Addr) (c b : Nat) (ts us : List T4) (w : World) (hC : kT.C w A ts.length ts) (hD : kT.C w B us.length us) (hn : ts.length ≤ 1048576) (hm : us.length ≤ 1048576) :
    Calls Tryz.prog 72 #[.agg #[.int .i64 p, .int .i64 d, .slice A ts.length c], .agg #[.int .i64 p', .int .i64 d', .slice B us.length b]] w (Gives (.bool ((p == p' && d == d') && ts == us)) w) := by
  have hL := fun W => alike_t p d p' d' A B ts.length c us.length b W
  have hE := fun W h h' => equalT_c A B c b ts us W h h' hn hm
  generalize (p == p' && d == d') = v at *
  cases v with
  | false =>
    go_enter Tryz.func72, Tryz.ntmps72
    go_wp2_with ((go_at_call 104; (first | (with_reducible refine call_later2 (hL _) ?_) | (with_reducible refine call_later (hL _) ?_)); intro x))
    exact bodyPost_ret (v := .bool false) (by simp [results, Tryz.results72, go_sem]) rfl (.mk rfl bq1)
  | true =>
    rw [Bool.true_and]
    generalize (ts == us) = z at *
    go_enter Tryz.func72, Tryz.ntmps72
    go_wp2_with (first | (go_at_call 104; (first | (with_reducible refine call_later2 (hL _) ?_) | (with_reducible refine call_later (hL _) ?_)); intro x) | (go_at_call 105; (first | (with_reducible refine call_later2 (hE _ (Kd.C_below hC bq7) (Kd.C_below hD bq7)) ?_) | (with_reducible refine call_later (hE _ (Kd.C_below hC bq7) (Kd.C_below hD bq7)) ?_)); intro u))
    exact bodyPost_ret (v := .bool z) (by simp [results, Tryz.results72, go_sem]) rfl (.mk rfl bq1)
end Go.Proofs.YtjhkeehfchkpaaaGreat

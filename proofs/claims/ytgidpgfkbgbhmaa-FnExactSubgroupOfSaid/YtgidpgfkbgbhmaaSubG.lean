/- SubgroupOf of both sides; no condition. -/
import Derived.Test.YtgidpgfkbgbhmaaGrpOf
import Derived.Deep.RegionLaw
set_option linter.unusedVariables false
set_option linter.unusedSimpArgs false
namespace Go.Proofs.Ytgidpgfkbgbhmaa
open Go.RowKit Go.Proofs.YtgidpgfkbgbhmaaW.PrintWords
attribute [local go_sem] Later.cell Later.frozen Later.lt Later.lt_add Later.le Later.le_add Later.ne Later.ne' add_at
attribute [local go_sem 2000] run_eqM guardM
set_option maxRecDepth 100000 in
theorem field_n (p : Int) (A : Option Addr) (c : Nat) (ts : List Int) (w : World) (hp : 1 ≤ p) (hp' : p ≤ 1000) (hC : kI.C w A ts.length ts) (hn : ts.length ≤ 9223372036854775807) :
    Calls Try.prog 99 #[.int .i64 p, .slice A ts.length c] w (Gives (.bool (allB p ts)) w) := by
  go_enter Try.func99, Try.ntmps99
  go_wp2
  go_loopg [9] ts.length (fun k v w' => ∃ (i : Nat), i + k = ts.length ∧ v = .int .i64 i ∧ (∀ j, j < i → inB (ts.getD j 0) 0 (p - 1) = true) ∧ w' = w)
  case atStart => exact ⟨0, by omega, rfl, fun j hj => by omega, rfl⟩
  case round =>
    obtain ⟨i, hik, rfl, hs, rfl⟩ := hrel
    have HIK := Lib.hid hik
    have HS := Lib.hid hs
    clear hik hs
    by_cases hlt : i < ts.length
    · obtain ⟨b1, o1, hA, p0⟩ := kI_at hC i hlt
      subst hA
      have hi0 : (0 : Int) ≤ i := by omega
      have hi1 : (i : Int) < ts.length := by omega
      have hin : ((i : Int)).toNat = i := by omega
      generalize ht : ts.getD i 0 = t at *
      have HT := Lib.hid ht
      clear ht
      by_cases h1 : t < 0
      · have h1' : decide (t < 0) = true := decide_eq_true h1
        go_wp2
        go_ret
        refine .mk ?_ (by repeat (first | (with_reducible exact Below.refl _ _) | (with_reducible refine Below.drew ?_) | (with_reducible refine pw_below_drewN ?_ _) | ((first | (with_reducible refine Below.alloc ?_ ?_ _) | (with_reducible refine bel_later _ ?_ ?_) | (with_reducible refine Below.setCell ?_ ?_ _)); rotate_left; (focus (first | omega | (simp; first | done | omega) | (simp [Later.le, Later.le_add, Later.lt, Later.lt_add]; first | done | omega))))))
        rw [allB, all_not hlt (by rw [HT.out]; simp [inB]; omega)]
        rfl
      · have h1' : decide (t < 0) = false := decide_eq_false h1
        by_cases h2 : p ≤ t
        · go_wp2
          go_ret
          refine .mk ?_ (by repeat (first | (with_reducible exact Below.refl _ _) | (with_reducible refine Below.drew ?_) | (with_reducible refine pw_below_drewN ?_ _) | ((first | (with_reducible refine Below.alloc ?_ ?_ _) | (with_reducible refine bel_later _ ?_ ?_) | (with_reducible refine Below.setCell ?_ ?_ _)); rotate_left; (focus (first | omega | (simp; first | done | omega) | (simp [Later.le, Later.le_add, Later.lt, Later.lt_add]; first | done | omega))))))
          rw [allB, all_not hlt (by rw [HT.out]; simp [inB]; omega)]
          rfl
        · go_wp2
          go_roundg (gk - 1)
          case measure => have := HIK.out; omega
          case rel => exact ⟨i + 1, by have := HIK.out; omega, by go_num, all_step HS.out (by rw [HT.out]; simp [inB]; omega), rfl⟩
    · go_wp2
      go_ret
      refine .mk ?_ (by repeat (first | (with_reducible exact Below.refl _ _) | (with_reducible refine Below.drew ?_) | (with_reducible refine pw_below_drewN ?_ _) | ((first | (with_reducible refine Below.alloc ?_ ?_ _) | (with_reducible refine bel_later _ ?_ ?_) | (with_reducible refine Below.setCell ?_ ?_ _)); rotate_left; (focus (first | omega | (simp; first | done | omega) | (simp [Later.le, Later.le_add, Later.lt, Later.lt_add]; first | done | omega))))))
      rw [allB, all_yes (fun j hj => HS.out j (by omega))]
      rfl


def subgL (ms : List M9) (xs : List Int) : List M9 := xs.map fun i => ms.getD i.toNat zM
def subgR (p n : Int) (ms : List M9) (xs : List Int) : GC := if grpB p n ms = true then (if allB (ms.length : Int) xs = true then ⟨gP p n (subgL ms xs), gN p n (subgL ms xs), gL p n (subgL ms xs), 0⟩ else ⟨0, 0, [], 2⟩) else ⟨0, 0, [], 1⟩
theorem subgR_1 {p n : Int} {ms : List M9} {xs : List Int} (h : grpB p n ms = false) : subgR p n ms xs = ⟨0, 0, [], 1⟩ := by
  unfold subgR
  rw [h, if_neg (by decide)]
theorem subgR_2 {p n : Int} {ms : List M9} {xs : List Int} (h : grpB p n ms = true) (h2 : allB (ms.length : Int) xs = false) : subgR p n ms xs = ⟨0, 0, [], 2⟩ := by
  unfold subgR
  rw [h, if_pos rfl, h2, if_neg (by decide)]
theorem subgR_0 {p n : Int} {ms : List M9} {xs : List Int} (h : grpB p n ms = true) (h2 : allB (ms.length : Int) xs = true) : subgR p n ms xs = ⟨gP p n (subgL ms xs), gN p n (subgL ms xs), gL p n (subgL ms xs), 0⟩ := by
  unfold subgR
  rw [h, if_pos rfl, h2, if_pos rfl]
theorem gL_len (p n : Int) (gs : List M9) : (gL p n gs).length ≤ 48 := by
  unfold gL
  cases h : genO p n gs with
  | none => simp
  | some l =>
    have := genO_len h
    show (sortM l).length ≤ _
    rw [sortM_len]
    exact this
theorem subgR_len (p n : Int) (ms : List M9) (xs : List Int) : (subgR p n ms xs).ts.length ≤ 1048576 := by
  unfold subgR
  split
  · split
    · have := gL_len p n (subgL ms xs)
      show (gL p n (subgL ms xs)).length ≤ _
      omega
    · simp
  · simp
theorem grp_num3 {p n : Int} {ms : List M9} (g : GrpP p n ms) : 2 ≤ p ∧ p ≤ 13 ∧ 1 ≤ n ∧ n ≤ 3 := by
  have h0 := g.mat 0 (by have := g.l1; omega)
  obtain ⟨_, h1, h2, h3, h4⟩ := matB_le h0
  exact ⟨h1, h2, h3, h4⟩
theorem subgL_len (ms : List M9) (xs : List Int) : (subgL ms xs).length = xs.length := by simp [subgL]
theorem subgL_take {ms : List M9} {xs : List Int} {j : Nat} (h : j < xs.length) : (subgL ms xs).take (j + 1) = (subgL ms xs).take j ++ [ms.getD (xs.getD j 0).toNat zM] := by
  rw [List.take_succ_eq_append_getElem (by rw [subgL_len]; exact h)]
  simp [subgL, List.getD_eq_getElem?_getD, h]
theorem allB_at {p : Int} {xs : List Int} (h : allB p xs = true) {j : Nat} (hj : j < xs.length) : inB (xs.getD j 0) 0 (p - 1) = true := by
  unfold allB at h
  rw [List.all_eq_true] at h
  exact h j (List.mem_range.2 hj)
theorem inB_rng {x a b : Int} (h : inB x a b = true) : a ≤ x ∧ x ≤ b := by
  unfold inB at h
  simpa using h
theorem subgL_mat {p n : Int} {ms : List M9} {xs : List Int} (hm : ∀ i, i < ms.length → matB p n (ms.getD i zM) = true) (h : allB (ms.length : Int) xs = true) : ∀ i, i < (subgL ms xs).length → matB p n ((subgL ms xs).getD i zM) = true := fun i hi => by
  rw [subgL_len] at hi
  obtain ⟨h1, h2⟩ := inB_rng (allB_at h hi)
  have e : (subgL ms xs).getD i zM = ms.getD (xs.getD i 0).toNat zM := by simp [subgL, List.getD_eq_getElem?_getD, hi]
  rw [e]
  exact hm _ (by omega)

set_option maxRecDepth 100000 in
set_option maxHeartbeats 2000000 in
theorem subgroup_c (p n : Int) (A : Option Addr) (c : Nat) (ms : List M9) (B0 : Option Addr) (d : Nat) (xs : List Int) (w : World) (hC : kM.C w A ms.length ms) (hD : kI.C w B0 xs.length xs) (hM : xs.length ≤ 1048576) (hp : 2 ≤ p) (hp' : p ≤ 13) (hn1 : 1 ≤ n) (hn3 : n ≤ 3) (hms : ms.length ≤ 48) (hm : ∀ i, i < ms.length → matB p n (ms.getD i zM) = true) (hall : allB (ms.length : Int) xs = true) :
    Calls Try.prog 100 #[.agg #[.int .i64 p, .int .i64 n, .slice A ms.length c], .slice B0 xs.length d] w (MakesG (gP p n (subgL ms xs)) (gN p n (subgL ms xs)) 76 (gL p n (subgL ms xs)) w) := by
  have hsm := subgL_mat hm hall
  have hsl := subgL_len ms xs
  have HALL := Lib.hid hall
  have HSM := Lib.hid hsm
  clear hm hsm hall
  go_enter Try.func100, Try.ntmps100
  go_wp2
  have hR0 := R_zero kM (heap_alloc_last ((w.alloc (.cells #[.int .i64 p, .int .i64 n, .slice A ms.length c] 29)).alloc (.cells #[.int .i64 0, .int .i64 0, .slice none 0 0] 29)) (.cells #[] 76)) (Nat.le_refl _)
  have hb0 : Below ((w.alloc (.cells #[.int .i64 p, .int .i64 n, .slice A ms.length c] 29)).alloc (.cells #[.int .i64 0, .int .i64 0, .slice none 0 0] 29)).heap.size ((w.alloc (.cells #[.int .i64 p, .int .i64 n, .slice A ms.length c] 29)).alloc (.cells #[.int .i64 0, .int .i64 0, .slice none 0 0] 29)) (((w.alloc (.cells #[.int .i64 p, .int .i64 n, .slice A ms.length c] 29)).alloc (.cells #[.int .i64 0, .int .i64 0, .slice none 0 0] 29)).alloc (.cells #[] 76)) := below_alloc (Below.refl _ _) _
  have hwV : Below w.heap.size w ((w.alloc (.cells #[.int .i64 p, .int .i64 n, .slice A ms.length c] 29)).alloc (.cells #[.int .i64 0, .int .i64 0, .slice none 0 0] 29)) := (by repeat (first | (with_reducible assumption) | (with_reducible exact Below.refl _ _) | ((with_reducible refine Below.alloc ?_ ?_ _); rotate_left; (focus (first | omega | (simp; done) | (simp; omega)))) | (with_reducible refine Below.drew ?_) | ((with_reducible refine Below.setCell ?_ ?_ _); rotate_left; (focus (first | omega | (simp; done) | (simp; omega)))) | ((with_reducible refine below_hop (by assumption) ?_ ?_); rotate_left; (focus (first | omega | (simp; done) | (simp; omega)))) | ((with_reducible refine bel_later _ ?_ ?_); rotate_left; (focus (first | omega | (simp; done) | (simp; omega))))))
  have g0 : ((w.alloc (.cells #[.int .i64 p, .int .i64 n, .slice A ms.length c] 29)).alloc (.cells #[.int .i64 0, .int .i64 0, .slice none 0 0] 29)).cell? ⟨w.heap.size, 0, none⟩ = some (.int .i64 p) := by first | (simp; done) | (simp [go_sem]; done) | go_simp
  have g1 : ((w.alloc (.cells #[.int .i64 p, .int .i64 n, .slice A ms.length c] 29)).alloc (.cells #[.int .i64 0, .int .i64 0, .slice none 0 0] 29)).cell? ⟨w.heap.size, 1, none⟩ = some (.int .i64 n) := by first | (simp; done) | (simp [go_sem]; done) | go_simp
  have g2 : ((w.alloc (.cells #[.int .i64 p, .int .i64 n, .slice A ms.length c] 29)).alloc (.cells #[.int .i64 0, .int .i64 0, .slice none 0 0] 29)).cell? ⟨w.heap.size, 2, none⟩ = some (.slice A ms.length c) := by first | (simp; done) | (simp [go_sem]; done) | go_simp
  have r0 : ((w.alloc (.cells #[.int .i64 p, .int .i64 n, .slice A ms.length c] 29)).alloc (.cells #[.int .i64 0, .int .i64 0, .slice none 0 0] 29)).cell? ⟨w.heap.size + 1, 0, none⟩ = some (.int .i64 0) := by first | (simp; done) | (simp [go_sem]; done) | go_simp
  have r1 : ((w.alloc (.cells #[.int .i64 p, .int .i64 n, .slice A ms.length c] 29)).alloc (.cells #[.int .i64 0, .int .i64 0, .slice none 0 0] 29)).cell? ⟨w.heap.size + 1, 1, none⟩ = some (.int .i64 0) := by first | (simp; done) | (simp [go_sem]; done) | go_simp
  have r2 : ((w.alloc (.cells #[.int .i64 p, .int .i64 n, .slice A ms.length c] 29)).alloc (.cells #[.int .i64 0, .int .i64 0, .slice none 0 0] 29)).cell? ⟨w.heap.size + 1, 2, none⟩ = some (.slice none 0 0) := by first | (simp; done) | (simp [go_sem]; done) | go_simp
  have r3 : ∀ j, ((w.alloc (.cells #[.int .i64 p, .int .i64 n, .slice A ms.length c] 29)).alloc (.cells #[.int .i64 0, .int .i64 0, .slice none 0 0] 29)).frozen? ⟨w.heap.size + 1, j, none⟩ = false := fun j => by first | (simp; done) | (simp [go_sem]; done) | go_simp
  have hzV : ((w.alloc (.cells #[.int .i64 p, .int .i64 n, .slice A ms.length c] 29)).alloc (.cells #[.int .i64 0, .int .i64 0, .slice none 0 0] 29)).heap.size = w.heap.size + 1 + 1 := by simp
  have hC0 := Kd.C_below hC hwV
  have hD0 := Kd.C_below hD hwV
  rw [hzV] at hR0
  generalize ((w.alloc (.cells #[.int .i64 p, .int .i64 n, .slice A ms.length c] 29)).alloc (.cells #[.int .i64 0, .int .i64 0, .slice none 0 0] 29)) = V at *
  have hzr : w.heap.size + 1 < V.heap.size := by omega
  generalize hrb : w.heap.size + 1 = rb at *
  go_loopg [13, 5] xs.length (fun k v s w' => ∃ (j : Nat) (B : Option Addr) (cb : Nat), j + k = xs.length ∧ v = .int .i64 j ∧ s = .slice B j cb ∧ Below V.heap.size V w' ∧ kM.R 76 w' V.heap.size (fun _ => True) (.slice B j cb) ((subgL ms xs).take j))
  case atStart => exact ⟨0, _, 0, by omega, rfl, rfl, hb0, by rw [hzV]; exact hR0⟩
  case round =>
    clear hR0 hb0
    obtain ⟨j, B, cb, hjk, rfl, rfl, hb, hR⟩ := hrel
    have HJK := Lib.hid hjk
    clear hjk
    have u0 := pw_cell_below hb g0
    have u1 := pw_cell_below hb g1
    have u2 := pw_cell_below hb g2
    have zu := World.block_lt_of_cell? _ _ u0
    simp only [] at zu
    by_cases hlt : j < xs.length
    · obtain ⟨b1, o1, hB, p0⟩ := kI_at (Kd.C_below hD0 hb) j hlt
      subst hB
      obtain ⟨hx0, hx1⟩ := inB_rng (allB_at HALL.out hlt)
      have hxl : (xs.getD j 0).toNat < ms.length := by omega
      obtain ⟨b, o, hA, q0, q1, q2, q3, q4, q5, q6, q7, q8⟩ := kM_at (Kd.C_below hC0 hb) _ hxl
      subst hA
      have HTK := Lib.hid (subgL_take (ms := ms) hlt)
      have hll : ((subgL ms xs).take j).length = j := by rw [List.length_take, hsl]; omega
      generalize hxx : xs.getD j 0 = xv at *
      generalize ms.getD xv.toNat zM = m at *
      have HLL := Lib.hid hll
      clear hxx hll
      have hj0 : (0 : Int) ≤ j := by omega
      have hj1 : (j : Int) < xs.length := by omega
      have hjn : ((j : Int)).toNat = j := by omega
      have hxms : xv < ms.length := by omega
      have hR' : kM.R 76 wr V.heap.size (fun _ => True) (.slice B ((subgL ms xs).take j).length cb) ((subgL ms xs).take j) := by rw [HLL.out]; exact hR
      generalize (subgL ms xs).take j = fs at *
      have hlj : fs.length = j := HLL.out
      clear HLL hR
      subst hlj
      go_wp2_with ((with_reducible refine gate_ (.call { callee := .builtin .append, args := #[.tmp 17, .tmp 23], argTypes := #[27, 27] }) rfl ?_); refine Kd.R_append kM (w0 := V) (W := wr) V.heap.size rfl (.tmp 17) (.tmp 23) 27 76 (.agg #[.int .u8 0, .int .u8 0, .int .u8 0, .int .u8 0, .int .u8 0, .int .u8 0, .int .u8 0, .int .u8 0, .int .u8 0]) 9 rfl Try.underlying27 infoM rfl (by decide) (by decide) (.slice B fs.length cb) fs m m.cs (fun _ => True) (fun _ => False) rfl rfl rfl (fun _ hk => hk.elim) (fun _ _ => trivial) hR' hb hb.size (by omega) ?_; intro v1 w1 hR6 hB6 hg6 hat6; obtain ⟨B6, c6, rfl, hl6, hC6⟩ := Kd.R_reads hR6)
      go_roundg (gk - 1)
      case measure => have := HJK.out; omega
      case rel =>
        rw [List.length_append] at hR6
        exact ⟨fs.length + 1, B6, c6, by have := HJK.out; omega, by go_num, by first | rfl | simp, hB6, by rw [HTK.out]; exact hR6⟩
    · have hje : j = xs.length := by have := HJK.out; omega
      subst hje
      rw [show (subgL ms xs).take xs.length = subgL ms xs by rw [← hsl, List.take_length]] at hR
      rw [← hsl] at hR
      have hX := fun W (hC : kM.C W B (subgL ms xs).length (subgL ms xs)) => closed_c p n B cb (subgL ms xs) W hC (by omega) hp hp' hn1 hn3 HSM.out
      have hCs := (Kd.R_reads' hR).2.2
      rw [hsl] at hX hCs
      clear hsl
      generalize subgL ms xs = gs at *
      have s0 := pw_cell_below hb r0
      have s1 := pw_cell_below hb r1
      have s2 := pw_cell_below hb r2
      have s3 := (hb.frozen (p := ⟨rb, 0, none⟩) hzr).trans (r3 0)
      have s4 := (hb.frozen (p := ⟨rb, 1, none⟩) hzr).trans (r3 1)
      have s5 := (hb.frozen (p := ⟨rb, 2, none⟩) hzr).trans (r3 2)
      have zs := World.block_lt_of_cell? _ _ s0
      simp only [] at zs
      have zbz := hb.size
      generalize gP p n gs = gp at *
      generalize gN p n gs = gn at *
      generalize gL p n gs = gl at *
      generalize (genO p n gs).isSome = gb at *
      go_wp2_with (go_at_call 83; (with_reducible refine call_makesGB (hX _ hCs) ?_); intro x2 A2 c2 hb2 hl2 hR2; have e0 := pw_cell_below hb2 s0; have e1 := pw_cell_below hb2 s1; have e2 := pw_cell_below hb2 s2; have e3 := (hb2.frozen (p := ⟨rb, 0, none⟩) zs).trans s3; have e4 := (hb2.frozen (p := ⟨rb, 1, none⟩) zs).trans s4; have e5 := (hb2.frozen (p := ⟨rb, 2, none⟩) zs).trans s5; have ze := hb2.size; have zr2 : rb < x2.W.heap.size := (by omega))
      refine bodyPost_ret (v := .agg #[.int .i64 gp, .int .i64 gn, .slice A2 gl.length c2]) (by simp [results, Try.results100, go_sem, e0, e1, e2, zr2]) rfl ?_
      have hbx : Below w.heap.size w x2.W := hwV.trans ((hb.trans (hb2.mono zbz)).mono (by omega))
      refine ⟨_, _, rfl, ?_, ?_⟩
      · exact Kd.R_lower (Kd.R_alloc (R_old (R_old (R_old hR2 (p := ⟨rb, 0, none⟩) (by show rb < _; omega) _) (p := ⟨rb, 1, none⟩) (by show rb < _; omega) _) (p := ⟨rb, 2, none⟩) (by show rb < _; omega) _) _) (by omega)
      · exact (((hbx.setCell (by show w.heap.size ≤ rb; omega) _).setCell (by show w.heap.size ≤ rb; omega) _).setCell (by show w.heap.size ≤ rb; omega) _).alloc (by simp; omega) _
set_option maxRecDepth 100000 in
set_option maxHeartbeats 2000000 in
theorem implSubgroupOf_c (p n : Int) (A : Option Addr) (c : Nat) (ms : List M9) (B0 : Option Addr) (d : Nat) (xs : List Int) (w : World) (hC : kM.C w A ms.length ms) (hD : kI.C w B0 xs.length xs) (hN : ms.length ≤ 9223372036854775807) (hM : xs.length ≤ 1048576) :
    Calls Try.prog 50 #[.agg #[.int .i64 p, .int .i64 n, .slice A ms.length c], .slice B0 xs.length d] w (MakesGC (subgR p n ms xs) 76 w) := by
  have hC1 := Kd.C_alloc (Kd.C_alloc hC (.cells #[.int .i64 p, .int .i64 n, .slice A ms.length c] 29)) (.cells #[.int .i64 0, .int .i64 0, .slice none 0 0] 29)
  have hD1 := Kd.C_alloc (Kd.C_alloc hD (.cells #[.int .i64 p, .int .i64 n, .slice A ms.length c] 29)) (.cells #[.int .i64 0, .int .i64 0, .slice none 0 0] 29)
  have hG := implIsGroup_c p n A c ms _ hC1 hN
  cases hg : grpB p n ms with
  | false =>
    rw [subgR_1 hg]
    rw [hg] at hG
    clear hg
    go_enter Try.func50, Try.ntmps50
    go_wp2_with ((go_at_call 98; (first | (with_reducible refine call_later2 (hG) ?_) | (with_reducible refine call_later (hG) ?_)); intro x))
    have zz : w.heap.size + 1 < x.W.heap.size := by have := x.ok.size; simp at this; omega
    refine bodyPost_ret (v := .tuple #[.agg #[.int .i64 0, .int .i64 0, .slice none 0 0], .int .i64 1]) (by simp [results, Try.results50, go_sem]) rfl ?_
    exact MakesGC_nil _ _ _ _ (by repeat (first | (with_reducible assumption) | (with_reducible exact Below.refl _ _) | ((with_reducible refine Below.alloc ?_ ?_ _); rotate_left; (focus (first | omega | (simp; done) | (simp; omega)))) | (with_reducible refine Below.drew ?_) | ((with_reducible refine Below.setCell ?_ ?_ _); rotate_left; (focus (first | omega | (simp; done) | (simp; omega)))) | ((with_reducible refine below_hop (by assumption) ?_ ?_); rotate_left; (focus (first | omega | (simp; done) | (simp; omega)))) | ((with_reducible refine bel_later _ ?_ ?_); rotate_left; (focus (first | omega | (simp; done) | (simp; omega))))))
  | true =>
    rw [hg] at hG
    have gp := (grpB_iff p n ms).1 hg
    obtain ⟨hp, hp', hn1, hn3⟩ := grp_num3 gp
    have hl1 := gp.l1
    have hl2 := gp.l2
    have HMAT := Lib.hid gp.mat
    have hF := fun W hE => field_n (ms.length : Int) B0 d xs W (by omega) (by omega) hE (show xs.length ≤ 9223372036854775807 by omega)
    clear gp
    cases ha : allB (ms.length : Int) xs with
    | false =>
      rw [subgR_2 hg ha]
      rw [ha] at hF
      clear hg ha
      go_enter Try.func50, Try.ntmps50
      go_wp2_with (first | (go_at_call 98; (first | (with_reducible refine call_later2 (hG) ?_) | (with_reducible refine call_later (hG) ?_)); intro x) | (go_at_call 99; (first | (with_reducible refine call_later2 (hF _ (Kd.C_below hD1 x.ok)) ?_) | (with_reducible refine call_later (hF _ (Kd.C_below hD1 x.ok)) ?_)); intro x2))
      have zz : w.heap.size + 1 < x2.W.heap.size := by have := x2.ok.size; simp at this; omega
      refine bodyPost_ret (v := .tuple #[.agg #[.int .i64 0, .int .i64 0, .slice none 0 0], .int .i64 2]) (by simp [results, Try.results50, go_sem]) rfl ?_
      exact MakesGC_nil _ _ _ _ (by repeat (first | (with_reducible assumption) | (with_reducible exact Below.refl _ _) | ((with_reducible refine Below.alloc ?_ ?_ _); rotate_left; (focus (first | omega | (simp; done) | (simp; omega)))) | (with_reducible refine Below.drew ?_) | ((with_reducible refine Below.setCell ?_ ?_ _); rotate_left; (focus (first | omega | (simp; done) | (simp; omega)))) | ((with_reducible refine below_hop (by assumption) ?_ ?_); rotate_left; (focus (first | omega | (simp; done) | (simp; omega)))) | ((with_reducible refine bel_later _ ?_ ?_); rotate_left; (focus (first | omega | (simp; done) | (simp; omega))))))
    | true =>
      rw [subgR_0 hg ha]
      rw [ha] at hF
      have hX := fun W h1 h2 => subgroup_c p n A c ms B0 d xs W h1 h2 hM hp hp' hn1 hn3 hl2 HMAT.out ha
      clear hg ha
      generalize gP p n (subgL ms xs) = gp at *
      generalize gN p n (subgL ms xs) = gn at *
      generalize gL p n (subgL ms xs) = gl at *
      go_enter Try.func50, Try.ntmps50
      go_wp2_with (first | (go_at_call 98; (first | (with_reducible refine call_later2 (hG) ?_) | (with_reducible refine call_later (hG) ?_)); intro x) | (go_at_call 99; (first | (with_reducible refine call_later2 (hF _ (Kd.C_below hD1 x.ok)) ?_) | (with_reducible refine call_later (hF _ (Kd.C_below hD1 x.ok)) ?_)); intro x2) | (go_at_call 100; (with_reducible refine call_makesG2 (hX _ (Kd.C_below hC1 x2.ok) (Kd.C_below hD1 x2.ok)) ?_); intro x3 A2 c2 hb2 hl2 hR2 hC2))
      have zz : w.heap.size + 1 < x2.W.heap.size := by have := x2.ok.size; simp at this; omega
      have zz2 := hb2.size
      refine bodyPost_ret (v := .tuple #[.agg #[.int .i64 gp, .int .i64 gn, .slice A2 gl.length c2], .int .i64 0]) (by simp [results, Try.results50, go_sem]) rfl ?_
      refine ⟨_, _, rfl, ?_, (by repeat (first | (with_reducible assumption) | (with_reducible exact Below.refl _ _) | ((with_reducible refine Below.alloc ?_ ?_ _); rotate_left; (focus (first | omega | (simp; done) | (simp; omega)))) | (with_reducible refine Below.drew ?_) | ((with_reducible refine Below.setCell ?_ ?_ _); rotate_left; (focus (first | omega | (simp; done) | (simp; omega)))) | ((with_reducible refine below_hop (by assumption) ?_ ?_); rotate_left; (focus (first | omega | (simp; done) | (simp; omega)))) | ((with_reducible refine bel_later _ ?_ ?_); rotate_left; (focus (first | omega | (simp; done) | (simp; omega))))))⟩
      exact Kd.R_lower (R_old (R_old (R_old hR2 (p := ⟨w.heap.size + 1, 0, none⟩) zz _) (p := ⟨w.heap.size + 1, 1, none⟩) zz _) (p := ⟨w.heap.size + 1, 2, none⟩) zz _) (by omega)
set_option maxRecDepth 100000 in
set_option maxHeartbeats 4000000 in
theorem specSubgroupOf_c (p n : Int) (A : Option Addr) (c : Nat) (ms : List M9) (B0 : Option Addr) (d : Nat) (xs : List Int) (w : World) (hC : kM.C w A ms.length ms) (hD : kI.C w B0 xs.length xs) (hN : ms.length ≤ 9223372036854775807) (hM : xs.length ≤ 1048576) :
    Calls Try.prog 49 #[.agg #[.int .i64 p, .int .i64 n, .slice A ms.length c], .slice B0 xs.length d] w (MakesGC (subgR p n ms xs) 76 w) := by
  have hC1 := Kd.C_alloc (Kd.C_alloc hC (.cells #[.int .i64 p, .int .i64 n, .slice A ms.length c] 29)) (.cells #[.int .i64 0, .int .i64 0, .slice none 0 0] 29)
  have hG := l02Is_c p n A c ms _ hC1 hN
  cases hg : grpB p n ms with
  | false =>
    rw [subgR_1 hg]
    rw [hg] at hG
    clear hg
    go_enter Try.func49, Try.ntmps49
    go_wp2_with ((go_at_call 97; (first | (with_reducible refine call_later2 (hG) ?_) | (with_reducible refine call_later (hG) ?_)); intro x))
    have zz : w.heap.size + 1 < x.W.heap.size := by have := x.ok.size; simp at this; omega
    refine bodyPost_ret (v := .tuple #[.agg #[.int .i64 0, .int .i64 0, .slice none 0 0], .int .i64 1]) (by simp [results, Try.results49, go_sem]) rfl ?_
    exact MakesGC_nil _ _ _ _ (by repeat (first | (with_reducible assumption) | (with_reducible exact Below.refl _ _) | ((with_reducible refine Below.alloc ?_ ?_ _); rotate_left; (focus (first | omega | (simp; done) | (simp; omega)))) | (with_reducible refine Below.drew ?_) | ((with_reducible refine Below.setCell ?_ ?_ _); rotate_left; (focus (first | omega | (simp; done) | (simp; omega)))) | ((with_reducible refine below_hop (by assumption) ?_ ?_); rotate_left; (focus (first | omega | (simp; done) | (simp; omega)))) | ((with_reducible refine bel_later _ ?_ ?_); rotate_left; (focus (first | omega | (simp; done) | (simp; omega))))))
  | true =>
    rw [hg] at hG
    have gp := (grpB_iff p n ms).1 hg
    obtain ⟨hp, hp', hn1, hn3⟩ := grp_num3 gp
    have hl1 := gp.l1
    have hl2 := gp.l2
    have HMAT := Lib.hid gp.mat
    have HG := Lib.hid hg
    clear gp hg
    go_enter Try.func49, Try.ntmps49
    go_wp2_with ((go_at_call 97; (first | (with_reducible refine call_later2 (hG) ?_) | (with_reducible refine call_later (hG) ?_)); intro x))
    have hzx : w.heap.size + 1 < x.W.heap.size := by have := x.ok.size; simp at this; omega
    have hR0 := R_zero kM (heap_alloc_last x.W (.cells #[] 76)) (Nat.le_refl _)
    have hb0 : Below x.W.heap.size x.W (x.W.alloc (.cells #[] 76)) := below_alloc (Below.refl _ _) _
    have hwV : Below w.heap.size w x.W := (by repeat (first | (with_reducible assumption) | (with_reducible exact Below.refl _ _) | ((with_reducible refine Below.alloc ?_ ?_ _); rotate_left; (focus (first | omega | (simp; done) | (simp; omega)))) | (with_reducible refine Below.drew ?_) | ((with_reducible refine Below.setCell ?_ ?_ _); rotate_left; (focus (first | omega | (simp; done) | (simp; omega)))) | ((with_reducible refine below_hop (by assumption) ?_ ?_); rotate_left; (focus (first | omega | (simp; done) | (simp; omega)))) | ((with_reducible refine bel_later _ ?_ ?_); rotate_left; (focus (first | omega | (simp; done) | (simp; omega))))))
    have g0 : x.W.cell? ⟨w.heap.size, 0, none⟩ = some (.int .i64 p) := x.keep (by first | (simp; done) | (simp [go_sem]; done) | go_simp)
    have g1 : x.W.cell? ⟨w.heap.size, 1, none⟩ = some (.int .i64 n) := x.keep (by first | (simp; done) | (simp [go_sem]; done) | go_simp)
    have g2 : x.W.cell? ⟨w.heap.size, 2, none⟩ = some (.slice A ms.length c) := x.keep (by first | (simp; done) | (simp [go_sem]; done) | go_simp)
    have r0 : x.W.cell? ⟨w.heap.size + 1, 0, none⟩ = some (.int .i64 0) := x.keep (by first | (simp; done) | (simp [go_sem]; done) | go_simp)
    have r1 : x.W.cell? ⟨w.heap.size + 1, 1, none⟩ = some (.int .i64 0) := x.keep (by first | (simp; done) | (simp [go_sem]; done) | go_simp)
    have r2 : x.W.cell? ⟨w.heap.size + 1, 2, none⟩ = some (.slice none 0 0) := x.keep (by first | (simp; done) | (simp [go_sem]; done) | go_simp)
    have r3 : ∀ j, x.W.frozen? ⟨w.heap.size + 1, j, none⟩ = false := fun j => (x.ok.frozen (p := ⟨w.heap.size + 1, j, none⟩) (by simp)).trans (by first | (simp; done) | (simp [go_sem]; done) | go_simp)
    have hC0 := Kd.C_below hC hwV
    have hD0 := Kd.C_below hD hwV
    generalize x.W = V at *
    generalize hrb : w.heap.size + 1 = rb at *
    have hsl := subgL_len ms xs
    go_loopg [7, 6] xs.length (fun k v s w' => ∃ (j : Nat) (B : Option Addr) (cb : Nat), j + k = xs.length ∧ v = .int .i64 j ∧ s = .slice B j cb ∧ Below V.heap.size V w' ∧ kM.R 76 w' V.heap.size (fun _ => True) (.slice B j cb) ((subgL ms xs).take j) ∧ ∀ j', j' < j → inB (xs.getD j' 0) 0 ((ms.length : Int) - 1) = true)
    case atStart => exact ⟨0, _, 0, by omega, rfl, rfl, hb0, hR0, fun j' h => by omega⟩
    case round =>
      clear hR0 hb0
      obtain ⟨j, B, cb, hjk, rfl, rfl, hb, hR, hs⟩ := hrel
      have HJK := Lib.hid hjk
      have HS := Lib.hid hs
      clear hjk hs
      have u0 := pw_cell_below hb g0
      have u1 := pw_cell_below hb g1
      have u2 := pw_cell_below hb g2
      have s0 := pw_cell_below hb r0
      have s1 := pw_cell_below hb r1
      have s2 := pw_cell_below hb r2
      have s3 := (hb.frozen (p := ⟨rb, 0, none⟩) (by show rb < _; omega)).trans (r3 0)
      have s4 := (hb.frozen (p := ⟨rb, 1, none⟩) (by show rb < _; omega)).trans (r3 1)
      have s5 := (hb.frozen (p := ⟨rb, 2, none⟩) (by show rb < _; omega)).trans (r3 2)
      have zu := World.block_lt_of_cell? _ _ u0
      have zs := World.block_lt_of_cell? _ _ s0
      have zbz := hb.size
      simp only [] at zu zs
      by_cases hlt : j < xs.length
      · obtain ⟨b1, o1, hB, p0⟩ := kI_at (Kd.C_below hD0 hb) j hlt
        subst hB
        have zp := World.block_lt_of_cell? _ _ p0
        simp only [] at zp
        have hj0 : (0 : Int) ≤ j := by omega
        have hj1 : (j : Int) < xs.length := by omega
        have hjn : ((j : Int)).toNat = j := by omega
        have hI := fun W => l01In_c (xs.getD j 0) 0 ((ms.length : Int) - 1) W
        have hms0 : (0 : Int) ≤ (ms.length : Int) - 1 := by omega
        have hms1 : (ms.length : Int) ≤ 48 := by omega
        have hno : inB (xs.getD j 0) 0 ((ms.length : Int) - 1) = false → allB (ms.length : Int) xs = false := fun h => all_not hlt h
        have HTK := Lib.hid (subgL_take (ms := ms) hlt)
        generalize hxx : xs.getD j 0 = xv at *
        have HXX := Lib.hid hxx
        have HNO := Lib.hid hno
        clear hxx hno
        cases hin : inB xv 0 ((ms.length : Int) - 1) with
        | false =>
          have EE := Lib.hid (subgR_2 HG.out (HNO.out hin))
          rw [hin] at hI
          have hbw : Below w.heap.size w wr := hwV.trans (hb.mono hwV.size)
          go_wp2
          (first | refine wp_region_later2 (by kernel_rfl) (by kernel_rfl) ?_ | refine wp_region_later (by kernel_rfl) (by kernel_rfl) ?_); (repeat (go_big_quiet_step ((go_at_call 71; with_reducible exact quiet_later (hI _))))); refine wpQuiet_nil ?_; intro x3
          have zz3 := x3.ok.size
          go_wp2
          rw [EE.out]
          have f0 := x3.keep s0
          have f1 := x3.keep s1
          have f2 := x3.keep s2
          have zf : rb < x3.W.heap.size := by omega
          refine bodyPost_ret (v := .tuple #[.agg #[.int .i64 0, .int .i64 0, .slice none 0 0], .int .i64 2]) (by simp [results, Try.results49, go_sem, f0, f1, f2, zf]) rfl ?_
          exact MakesGC_nil _ _ _ _ ((((hbw.trans (x3.ok.mono hbw.size)).setCell (by show w.heap.size ≤ rb; omega) _).setCell (by show w.heap.size ≤ rb; omega) _).setCell (by show w.heap.size ≤ rb; omega) _)
        | true =>
          rw [hin] at hI
          obtain ⟨hx0, hx1⟩ := inB_rng hin
          have hxl : xv.toNat < ms.length := by omega
          obtain ⟨b, o, hA, q0, q1, q2, q3, q4, q5, q6, q7, q8⟩ := kM_at (Kd.C_below hC0 hb) _ hxl
          subst hA
          have zq := World.block_lt_of_cell? _ _ q0
          simp only [] at zq
          have HIN := Lib.hid hin
          have hll : ((subgL ms xs).take j).length = j := by rw [List.length_take, hsl]; omega
          generalize ms.getD xv.toNat zM = m at *
          have hxms : xv < ms.length := by omega
          have hR' : kM.R 76 wr V.heap.size (fun _ => True) (.slice B ((subgL ms xs).take j).length cb) ((subgL ms xs).take j) := by rw [hll]; exact hR
          generalize (subgL ms xs).take j = fs at *
          clear hR hin
          subst hll
          go_wp2
          (first | refine wp_region_later2 (by kernel_rfl) (by kernel_rfl) ?_ | refine wp_region_later (by kernel_rfl) (by kernel_rfl) ?_); (repeat (go_big_quiet_step ((go_at_call 71; with_reducible exact quiet_later (hI _))))); refine wpQuiet_nil ?_; intro x3
          go_wp2
          have hR3 := Kd.R_below hR' x3.ok
          have hb3 := hb.trans (x3.ok.mono hb.size)
          have u2' := x3.keep u2
          have p0' := x3.keep p0
          have m0 := x3.keep q0
          have m1 := x3.keep q1
          have m2 := x3.keep q2
          have m3 := x3.keep q3
          have m4 := x3.keep q4
          have m5 := x3.keep q5
          have m6 := x3.keep q6
          have m7 := x3.keep q7
          have m8 := x3.keep q8
          clear u0 u1 u2 s0 s1 s2 s3 s4 s5 p0 q0 q1 q2 q3 q4 q5 q6 q7 q8 hR' hb
          have zx3 := hb3.size
          generalize x3.W = W3 at *
          go_region_law (refine Kd.R_append_step kM (w0 := V) (W := W3.drew) V.heap.size (by rfl) (.tmp 32) (.tmp 41) 27 76 (.agg #[.int .u8 0, .int .u8 0, .int .u8 0, .int .u8 0, .int .u8 0, .int .u8 0, .int .u8 0, .int .u8 0, .int .u8 0]) 9 rfl Try.underlying27 infoM rfl (by decide) (by decide) (.slice B fs.length cb) fs m m.cs (fun _ => True) (fun _ => False) rfl rfl rfl (fun _ hk => hk.elim) (fun _ _ => trivial) (Kd.R_drew hR3) hb3.drew zx3 (by omega) ?_; intro v1 w1 hR6 hB6 hg6 hat6; obtain ⟨B6, c6, rfl, hl6, hC6⟩ := Kd.R_reads hR6)
          all_goals
            go_wp2
            go_roundg (gk - 1)
            case measure => have := HJK.out; omega
            case rel =>
              rw [List.length_append] at hR6
              refine ⟨fs.length + 1, B6, c6, by have := HJK.out; omega, by go_num, by first | rfl | simp, hB6, by rw [HTK.out]; exact hR6, fun j' hj' => ?_⟩
              by_cases h : j' = fs.length
              · rw [h, HXX.out]; exact HIN.out
              · exact HS.out j' (by omega)
      · have hje : j = xs.length := by have := HJK.out; omega
        subst hje
        have hall : allB (ms.length : Int) xs = true := all_yes HS.out
        have EE := Lib.hid (subgR_0 HG.out hall)
        rw [show (subgL ms xs).take xs.length = subgL ms xs by rw [← hsl, List.take_length]] at hR
        rw [← hsl] at hR
        have hX := fun W (hC : kM.C W B (subgL ms xs).length (subgL ms xs)) => l02Of_c p n B cb (subgL ms xs) W hC (by omega) hp hp' hn1 hn3 (subgL_mat HMAT.out hall)
        have hCs := (Kd.R_reads' hR).2.2
        rw [hsl] at hX hCs
        clear hsl hall
        generalize subgL ms xs = gs at *
        generalize gP p n gs = gp at *
        generalize gN p n gs = gn at *
        generalize gL p n gs = gl at *
        generalize (genO p n gs).isSome = gb at *
        go_wp2_with (go_at_call 81; (with_reducible refine call_makesGB (hX _ hCs) ?_); intro x2 A2 c2 hb2 hl2 hR2; have e0 := pw_cell_below hb2 s0; have e1 := pw_cell_below hb2 s1; have e2 := pw_cell_below hb2 s2; have e3 := (hb2.frozen (p := ⟨rb, 0, none⟩) zs).trans s3; have e4 := (hb2.frozen (p := ⟨rb, 1, none⟩) zs).trans s4; have e5 := (hb2.frozen (p := ⟨rb, 2, none⟩) zs).trans s5; have ze := hb2.size; have zr2 : rb < x2.W.heap.size := (by omega))
        rw [EE.out]
        refine bodyPost_ret (v := .tuple #[.agg #[.int .i64 gp, .int .i64 gn, .slice A2 gl.length c2], .int .i64 0]) (by simp [results, Try.results49, go_sem, e0, e1, e2, zr2]) rfl ?_
        have hbx : Below w.heap.size w x2.W := hwV.trans ((hb.trans (hb2.mono zbz)).mono hwV.size)
        refine ⟨_, _, rfl, ?_, ?_⟩
        · exact Kd.R_lower (Kd.R_alloc (R_old (R_old (R_old hR2 (p := ⟨rb, 0, none⟩) (by show rb < _; omega) _) (p := ⟨rb, 1, none⟩) (by show rb < _; omega) _) (p := ⟨rb, 2, none⟩) (by show rb < _; omega) _) _) (by omega)
        · exact (((hbx.setCell (by show w.heap.size ≤ rb; omega) _).setCell (by show w.heap.size ≤ rb; omega) _).setCell (by show w.heap.size ≤ rb; omega) _).alloc (by simp; omega) _
end Go.Proofs.Ytgidpgfkbgbhmaa

/- The walks of the functions on lists of numbers; no condition. -/
import Derived.Test.YtgieofidogkbaaaLaws3
set_option linter.unusedVariables false
set_option linter.unusedSimpArgs false
namespace Go.Proofs.Ytgieofidogkbaaa
open Go.RowKit Go.Proofs.YtgieofidogkbaaaW.PrintWords
attribute [local go_sem] Later.cell Later.frozen Later.lt Later.lt_add Later.le Later.le_add Later.ne Later.ne' add_at

theorem below_hop {C B : Nat} {w0 V W : World} (h : Below C V W) (h1 : Below B w0 V) (h2 : B ≤ C) : Below B w0 W := h1.trans (h.mono h2)
abbrev kI : Kd Int := Kd.int .i64
theorem infoI : (Try.prog.info? 2).map (fun i => (i.zero, i.size, i.bytes)) = some (some (.int .i64 0), 1, 8) := by kernel_rfl
theorem infoI1 : (Try.prog.info? 2).map (·.size) = some 1 := by kernel_rfl
theorem kI_at {w : World} {A : Option Addr} {n : Nat} {xs : List Int} (h : kI.C w A n xs) (i : Nat) (hi : i < n) :
    ∃ b o, A = some ⟨b, o, none⟩ ∧ w.cell? ⟨b, o + i, none⟩ = some (.int .i64 (xs.getD i 0)) := by
  obtain ⟨b, o, c, hA, hK, hc⟩ := C_at h (by decide) i hi 0
  have hK' : c = [.int .i64 (xs.getD i 0)] := hK
  subst hK'
  refine ⟨b, o, hA, ?_⟩
  have := hc 0 _ rfl
  have e : o + i * kI.sz + 0 = o + i := by show o + i * 1 + 0 = _; omega
  rwa [e] at this

theorem kI_put (w : World) (base : Nat) (ok : Nat → Prop) (t : Int) (cc : List Value) (h : cc.length = kI.sz) : kI.M w base ok t (cc.take 0 ++ [Value.int .i64 t] ++ cc.drop (0 + [Value.int .i64 t].length)) := by
  have h : cc.length = 1 := h
  show _ = [Value.int .i64 t]
  rw [List.drop_of_length_le (by simp [h])]
  simp

set_option maxRecDepth 100000 in
set_option maxHeartbeats 1000000 in
theorem toInt64S_c (A : Option Addr) (c : Nat) (ts : List Int) (w : World) (hC : kI.C w A ts.length ts) (hn : ts.length ≤ 1048576) :
    Calls Try.prog 60 #[.slice A ts.length c] w (Makes kI 2 ts w) := by
  go_enter Try.func60, Try.ntmps60
  go_wp2_with (refine Kd.R_make kI w.heap.size 2 rfl (N := 7) rfl 58 (.tmp 6) (.tmp 6) rfl ts.length rfl rfl (by kernel_rfl) _ 8 infoI rfl (by decide) (by decide) 0 (ok := fun _ => True) (okp := fun _ => False) rfl (fun _ h => h.elim) trivial (by omega) (by omega) (Below.refl _ _) (Nat.le_refl _) ?_; intro v1 w1 HR hb1 _ _)
  rw [Int.toNat_natCast] at HR
  have HB1 := Lib.hid hb1
  clear hb1
  go_loopg [4] ts.length (fun k v w' => ∃ i : Nat, i + k = ts.length ∧ v = .int .i64 i ∧ kI.R 2 w' w.heap.size (fun _ => True) v1 (ts.take i ++ List.replicate (ts.length - i) 0) ∧ Below w.heap.size w w')
  case atStart => exact ⟨0, by omega, rfl, by simpa using HR, HB1.out⟩
  case round =>
    obtain ⟨i, hik, rfl, hR, hb⟩ := hrel
    have HIK := Lib.hid hik
    have HB := Lib.hid hb
    clear hik hb HR
    have hll : (ts.take i ++ List.replicate (ts.length - i) 0).length = ts.length := by have := HIK.out; simp; omega
    have HLL := Lib.hid hll
    clear hll
    by_cases hlt : i < ts.length
    · obtain ⟨b, o, hA, q0⟩ := kI_at hC i hlt
      subst hA
      obtain ⟨g, cap, hv, hg, hgs, cells, hcells⟩ := Kd.R_form hR (by rw [HLL.out]; omega)
      rw [HLL.out] at hv
      subst hv
      have q0' := (HB.out.cell (World.block_lt_of_cell? w _ q0)).trans q0
      clear q0 hcells
      have hi0 : (0 : Int) ≤ i := by omega
      have hi1 : (i : Int) < ts.length := by omega
      have hin : ((i : Int)).toNat = i := by omega
      have hset := take_step ts 0 hlt
      have HSET := Lib.hid hset
      clear hset
      generalize ts.getD i 0 = t at *
      go_wp2_with (((with_reducible refine gate_ (.store 2 (.tmp 20) (.tmp 19)) rfl ?_); obtain ⟨cc, hcl, _, hcc, _⟩ := Kd.R_elem hR 0 (i : Int) hi0 hi1; refine Kd.R_store kI w.heap.size rfl rfl 2 (.tmp 20) (.tmp 19) rfl 2 (i : Int) 0 _ t (.int .i64 t) [.int .i64 t] cc (fun _ => True) (fun _ => False) rfl (by simp [show kI.sz = 1 from rfl]) rfl rfl infoI1 (by intro q hq; rw [List.mem_singleton.1 hq]; rfl) hR hi0 hi1 hcl hcc (Nat.le_refl _) (kI_put _ _ _ t cc hcl) (fun _ h => h.elim) HB.out ?_; intro w2 HR2 HB2 _))
      go_roundg (gk - 1)
      case measure => have := HIK.out; omega
      case rel =>
        refine ⟨i + 1, by have := HIK.out; omega, by go_num, ?_, HB2⟩
        rw [hin, HSET.out] at HR2
        exact HR2
    · go_wp2
      go_ret
      have e : i = ts.length := by have := HIK.out; omega
      subst e
      exact ⟨v1, rfl, by simpa using hR, HB.out⟩

set_option maxRecDepth 100000 in
set_option maxHeartbeats 1000000 in
theorem eqInt64S_c (A B : Option Addr) (c b : Nat) (ts us : List Int) (w : World) (hC : kI.C w A ts.length ts) (hD : kI.C w B us.length us) (hn : ts.length ≤ 1048576) (hm : us.length ≤ 1048576) :
    Calls Try.prog 62 #[.slice A ts.length c, .slice B us.length b] w (Gives (.bool (ts == us)) w) := by
  by_cases hl : ts.length = us.length
  · have HL := Lib.hid hl
    have hq : ((ts.length : Int) != us.length) = false := by simp [hl]
    clear hl
    go_enter Try.func62, Try.ntmps62
    go_wp2
    go_loopg [5] ts.length (fun k v w' => ∃ (i : Nat) (y : Later w), i + k = ts.length ∧ v = .int .i64 i ∧ (∀ j, j < i → ts.getD j 0 = us.getD j 0) ∧ w' = y.W)
    case atStart => exact ⟨0, ⟨w, Below.refl _ _⟩, by omega, rfl, fun j hj => by omega, rfl⟩
    case round =>
      obtain ⟨i, y, hik, rfl, hs, rfl⟩ := hrel
      have HIK := Lib.hid hik
      have HS := Lib.hid hs
      clear hik hs
      by_cases hlt : i < ts.length
      · obtain ⟨b1, o1, hA, p0⟩ := kI_at hC i hlt
        obtain ⟨b2, o2, hB, q0⟩ := kI_at hD i (by have := HL.out; omega)
        subst hA
        subst hB
        have k1 : b1 < w.heap.size := World.block_lt_of_cell? w _ p0
        have k2 : b2 < w.heap.size := World.block_lt_of_cell? w _ q0
        have hi0 : (0 : Int) ≤ i := by omega
        have hi1 : (i : Int) < ts.length := by omega
        have hi2 : (i : Int) < us.length := by have := HL.out; omega
        have hin : ((i : Int)).toNat = i := by omega
        generalize ht : ts.getD i 0 = t at *
        generalize hu : us.getD i 0 = u at *
        have HT := Lib.hid ht
        have HU := Lib.hid hu
        clear ht hu
        cases he : (t != u) with
        | true =>
          go_wp2
          (first | refine wp_region_later2 (by kernel_rfl) (by kernel_rfl) ?_ | refine wp_region_later (by kernel_rfl) (by kernel_rfl) ?_); (repeat (go_big_quiet_step (fail))); refine wpQuiet_nil ?_; intro x
          go_wp2
          go_ret
          refine .mk ?_ (by repeat (first | (with_reducible exact Below.refl _ _) | ((with_reducible refine Below.alloc ?_ ?_ _); rotate_left; (focus (first | omega | (simp; done) | (simp; omega) | (simp [Later.le, Later.le_add, Later.lt, Later.lt_add]; done) | (simp [Later.le, Later.le_add, Later.lt, Later.lt_add]; omega)))) | ((with_reducible refine bel_later _ ?_ ?_); rotate_left; (focus (first | omega | (simp; done) | (simp; omega) | (simp [Later.le, Later.le_add, Later.lt, Later.lt_add]; done) | (simp [Later.le, Later.le_add, Later.lt, Later.lt_add]; omega)))) | (with_reducible refine Below.drew ?_) | (with_reducible refine pw_below_drewN ?_ _) | ((with_reducible refine Below.setCell ?_ ?_ _); rotate_left; (focus (first | omega | (simp; done) | (simp; omega) | (simp [Later.le, Later.le_add, Later.lt, Later.lt_add]; done) | (simp [Later.le, Later.le_add, Later.lt, Later.lt_add]; omega))))))
          have hne : (ts == us) = false := by
            rw [beq_eq_false_iff_ne]
            intro hh
            rw [bne_iff_ne] at he
            exact he (by rw [← HT.out, ← HU.out, hh])
          rw [hne]
          rfl
        | false =>
          go_wp2
          (first | refine wp_region_later2 (by kernel_rfl) (by kernel_rfl) ?_ | refine wp_region_later (by kernel_rfl) (by kernel_rfl) ?_); (repeat (go_big_quiet_step (fail))); refine wpQuiet_nil ?_; intro x
          go_wp2
          go_roundg (gk - 1)
          case measure => have := HIK.out; omega
          case rel =>
            refine ⟨i + 1, x, by have := HIK.out; omega, by go_num, fun j hj => ?_, rfl⟩
            rcases Nat.lt_succ_iff_lt_or_eq.1 hj with g | g
            · exact HS.out j g
            · rw [g, HT.out, HU.out]
              simpa using he
      · go_wp2
        go_ret
        refine .mk ?_ (by repeat (first | (with_reducible exact Below.refl _ _) | ((with_reducible refine Below.alloc ?_ ?_ _); rotate_left; (focus (first | omega | (simp; done) | (simp; omega) | (simp [Later.le, Later.le_add, Later.lt, Later.lt_add]; done) | (simp [Later.le, Later.le_add, Later.lt, Later.lt_add]; omega)))) | ((with_reducible refine bel_later _ ?_ ?_); rotate_left; (focus (first | omega | (simp; done) | (simp; omega) | (simp [Later.le, Later.le_add, Later.lt, Later.lt_add]; done) | (simp [Later.le, Later.le_add, Later.lt, Later.lt_add]; omega)))) | (with_reducible refine Below.drew ?_) | (with_reducible refine pw_below_drewN ?_ _) | ((with_reducible refine Below.setCell ?_ ?_ _); rotate_left; (focus (first | omega | (simp; done) | (simp; omega) | (simp [Later.le, Later.le_add, Later.lt, Later.lt_add]; done) | (simp [Later.le, Later.le_add, Later.lt, Later.lt_add]; omega))))))
        have heq : ts = us := by
          apply List.ext_getElem HL.out
          intro j h1 h2
          have := HS.out j (by omega)
          simpa [List.getD_eq_getElem?_getD, h1, h2] using this
        rw [heq, beq_self_eq_true]
        rfl
  · have hq : ((ts.length : Int) != us.length) = true := by rw [bne_iff_ne]; omega
    have he : (ts == us) = false := by
      rw [beq_eq_false_iff_ne]
      intro hh
      exact hl (by rw [hh])
    have HE := Lib.hid he
    clear he hl
    go_enter Try.func62, Try.ntmps62
    go_wp2
    go_ret
    exact .mk (by rw [HE.out]; rfl) (by repeat (first | (with_reducible exact Below.refl _ _) | ((with_reducible refine Below.alloc ?_ ?_ _); rotate_left; (focus (first | omega | (simp; done) | (simp; omega) | (simp [Later.le, Later.le_add, Later.lt, Later.lt_add]; done) | (simp [Later.le, Later.le_add, Later.lt, Later.lt_add]; omega)))) | ((with_reducible refine bel_later _ ?_ ?_); rotate_left; (focus (first | omega | (simp; done) | (simp; omega) | (simp [Later.le, Later.le_add, Later.lt, Later.lt_add]; done) | (simp [Later.le, Later.le_add, Later.lt, Later.lt_add]; omega)))) | (with_reducible refine Below.drew ?_) | (with_reducible refine pw_below_drewN ?_ _) | ((with_reducible refine Below.setCell ?_ ?_ _); rotate_left; (focus (first | omega | (simp; done) | (simp; omega) | (simp [Later.le, Later.le_add, Later.lt, Later.lt_add]; done) | (simp [Later.le, Later.le_add, Later.lt, Later.lt_add]; omega))))))

def allB (p : Int) (ps : List Int) : Bool := (List.range ps.length).all (fun i => inB (ps.getD i 0) 0 (p - 1))
def pointB (p d : Int) (ps : List Int) : Bool := allB p ps && (ps.length : Int) == d

set_option maxRecDepth 100000 in
theorem field_c (p : Int) (A : Option Addr) (c : Nat) (ts : List Int) (w : World) (hp : 2 ≤ p) (hp' : p ≤ 13) (hC : kI.C w A ts.length ts) (hn : ts.length ≤ 9223372036854775807) :
    Calls Try.prog 179 #[.int .i64 p, .slice A ts.length c] w (Gives (.bool (allB p ts)) w) := by
  go_enter Try.func179, Try.ntmps179
  go_wp2
  go_loopg [9] ts.length (fun k v w' => ∃ (i : Nat), i + k = ts.length ∧ v = .int .i64 i ∧ (∀ j, j < i → inB (ts.getD j 0) 0 (p - 1) = true) ∧ w' = w)
  case atStart => exact ⟨0, by omega, rfl, fun j hj => by omega, rfl⟩
  case round =>
    obtain ⟨i, hik, rfl, hs, rfl⟩ := hrel
    have HIK := Lib.hid hik
    have HS := Lib.hid hs
    clear hik hs
    by_cases hlt : i < ts.length
    · obtain ⟨b1, o1, hA, p0⟩ := kI_at hC i hlt
      subst hA
      have hi0 : (0 : Int) ≤ i := by omega
      have hi1 : (i : Int) < ts.length := by omega
      have hin : ((i : Int)).toNat = i := by omega
      generalize ht : ts.getD i 0 = t at *
      have HT := Lib.hid ht
      clear ht
      by_cases h1 : t < 0
      · have h1' : decide (t < 0) = true := decide_eq_true h1
        go_wp2
        go_ret
        refine .mk ?_ (by repeat (first | (with_reducible exact Below.refl _ _) | ((with_reducible refine Below.alloc ?_ ?_ _); rotate_left; (focus (first | omega | (simp; done) | (simp; omega) | (simp [Later.le, Later.le_add, Later.lt, Later.lt_add]; done) | (simp [Later.le, Later.le_add, Later.lt, Later.lt_add]; omega)))) | ((with_reducible refine bel_later _ ?_ ?_); rotate_left; (focus (first | omega | (simp; done) | (simp; omega) | (simp [Later.le, Later.le_add, Later.lt, Later.lt_add]; done) | (simp [Later.le, Later.le_add, Later.lt, Later.lt_add]; omega)))) | (with_reducible refine Below.drew ?_) | (with_reducible refine pw_below_drewN ?_ _) | ((with_reducible refine Below.setCell ?_ ?_ _); rotate_left; (focus (first | omega | (simp; done) | (simp; omega) | (simp [Later.le, Later.le_add, Later.lt, Later.lt_add]; done) | (simp [Later.le, Later.le_add, Later.lt, Later.lt_add]; omega))))))
        rw [allB, all_not hlt (by rw [HT.out]; simp [inB]; omega)]
        rfl
      · have h1' : decide (t < 0) = false := decide_eq_false h1
        by_cases h2 : p ≤ t
        · go_wp2
          go_ret
          refine .mk ?_ (by repeat (first | (with_reducible exact Below.refl _ _) | ((with_reducible refine Below.alloc ?_ ?_ _); rotate_left; (focus (first | omega | (simp; done) | (simp; omega) | (simp [Later.le, Later.le_add, Later.lt, Later.lt_add]; done) | (simp [Later.le, Later.le_add, Later.lt, Later.lt_add]; omega)))) | ((with_reducible refine bel_later _ ?_ ?_); rotate_left; (focus (first | omega | (simp; done) | (simp; omega) | (simp [Later.le, Later.le_add, Later.lt, Later.lt_add]; done) | (simp [Later.le, Later.le_add, Later.lt, Later.lt_add]; omega)))) | (with_reducible refine Below.drew ?_) | (with_reducible refine pw_below_drewN ?_ _) | ((with_reducible refine Below.setCell ?_ ?_ _); rotate_left; (focus (first | omega | (simp; done) | (simp; omega) | (simp [Later.le, Later.le_add, Later.lt, Later.lt_add]; done) | (simp [Later.le, Later.le_add, Later.lt, Later.lt_add]; omega))))))
          rw [allB, all_not hlt (by rw [HT.out]; simp [inB]; omega)]
          rfl
        · go_wp2
          go_roundg (gk - 1)
          case measure => have := HIK.out; omega
          case rel => exact ⟨i + 1, by have := HIK.out; omega, by go_num, all_step HS.out (by rw [HT.out]; simp [inB]; omega), rfl⟩
    · go_wp2
      go_ret
      refine .mk ?_ (by repeat (first | (with_reducible exact Below.refl _ _) | ((with_reducible refine Below.alloc ?_ ?_ _); rotate_left; (focus (first | omega | (simp; done) | (simp; omega) | (simp [Later.le, Later.le_add, Later.lt, Later.lt_add]; done) | (simp [Later.le, Later.le_add, Later.lt, Later.lt_add]; omega)))) | ((with_reducible refine bel_later _ ?_ ?_); rotate_left; (focus (first | omega | (simp; done) | (simp; omega) | (simp [Later.le, Later.le_add, Later.lt, Later.lt_add]; done) | (simp [Later.le, Later.le_add, Later.lt, Later.lt_add]; omega)))) | (with_reducible refine Below.drew ?_) | (with_reducible refine pw_below_drewN ?_ _) | ((with_reducible refine Below.setCell ?_ ?_ _); rotate_left; (focus (first | omega | (simp; done) | (simp; omega) | (simp [Later.le, Later.le_add, Later.lt, Later.lt_add]; done) | (simp [Later.le, Later.le_add, Later.lt, Later.lt_add]; omega))))))
      rw [allB, all_yes (fun j hj => HS.out j (by omega))]
      rfl

theorem isPoint_c (p d : Int) (A : Option Addr) (c : Nat) (ts : List Int) (w : World) (hp : 2 ≤ p) (hp' : p ≤ 13) (hC : kI.C w A ts.length ts) (hn : ts.length ≤ 9223372036854775807) :
    Calls Try.prog 155 #[.int .i64 p, .int .i64 d, .slice A ts.length c] w (Gives (.bool (pointB p d ts)) w) := by
  cases h : ((ts.length : Int) == d) with
  | false =>
    have hr : pointB p d ts = false := by simp [pointB, h]
    have HR := Lib.hid hr
    clear hr
    go_enter Try.func155, Try.ntmps155
    go_wp2
    go_ret
    exact .mk (by rw [HR.out]; rfl) (by repeat (first | (with_reducible exact Below.refl _ _) | ((with_reducible refine Below.alloc ?_ ?_ _); rotate_left; (focus (first | omega | (simp; done) | (simp; omega) | (simp [Later.le, Later.le_add, Later.lt, Later.lt_add]; done) | (simp [Later.le, Later.le_add, Later.lt, Later.lt_add]; omega)))) | ((with_reducible refine bel_later _ ?_ ?_); rotate_left; (focus (first | omega | (simp; done) | (simp; omega) | (simp [Later.le, Later.le_add, Later.lt, Later.lt_add]; done) | (simp [Later.le, Later.le_add, Later.lt, Later.lt_add]; omega)))) | (with_reducible refine Below.drew ?_) | (with_reducible refine pw_below_drewN ?_ _) | ((with_reducible refine Below.setCell ?_ ?_ _); rotate_left; (focus (first | omega | (simp; done) | (simp; omega) | (simp [Later.le, Later.le_add, Later.lt, Later.lt_add]; done) | (simp [Later.le, Later.le_add, Later.lt, Later.lt_add]; omega))))))
  | true =>
    have hr : pointB p d ts = allB p ts := by simp [pointB, h]
    rw [hr]
    clear hr
    go_enter Try.func155, Try.ntmps155
    go_wp2_with ((go_at_call 179; (first | (with_reducible refine call_later2 (field_c _ _ _ _ _ hp hp' hC hn) ?_) | (with_reducible refine call_later (field_c _ _ _ _ _ hp hp' hC hn) ?_)); intro x))
    go_ret
    exact .mk (by simp) (by repeat (first | (with_reducible exact Below.refl _ _) | ((with_reducible refine Below.alloc ?_ ?_ _); rotate_left; (focus (first | omega | (simp; done) | (simp; omega) | (simp [Later.le, Later.le_add, Later.lt, Later.lt_add]; done) | (simp [Later.le, Later.le_add, Later.lt, Later.lt_add]; omega)))) | ((with_reducible refine bel_later _ ?_ ?_); rotate_left; (focus (first | omega | (simp; done) | (simp; omega) | (simp [Later.le, Later.le_add, Later.lt, Later.lt_add]; done) | (simp [Later.le, Later.le_add, Later.lt, Later.lt_add]; omega)))) | (with_reducible refine Below.drew ?_) | (with_reducible refine pw_below_drewN ?_ _) | ((with_reducible refine Below.setCell ?_ ?_ _); rotate_left; (focus (first | omega | (simp; done) | (simp; omega) | (simp [Later.le, Later.le_add, Later.lt, Later.lt_add]; done) | (simp [Later.le, Later.le_add, Later.lt, Later.lt_add]; omega))))))

set_option maxRecDepth 100000 in
theorem l01Point_c (p d : Int) (A : Option Addr) (c : Nat) (ts : List Int) (w : World) (hp : 2 ≤ p) (hp' : p ≤ 13) (hC : kI.C w A ts.length ts) (hn : ts.length ≤ 9223372036854775807) :
    Calls Try.prog 153 #[.int .i64 p, .int .i64 d, .slice A ts.length c] w (Gives (.bool (pointB p d ts)) w) := by
  go_enter Try.func153, Try.ntmps153
  go_wp2
  go_loopg [7] ts.length (fun k v w' => ∃ (i : Nat) (y : Later w), i + k = ts.length ∧ v = .int .i64 i ∧ (∀ j, j < i → inB (ts.getD j 0) 0 (p - 1) = true) ∧ w' = y.W)
  case atStart => exact ⟨0, ⟨w, Below.refl _ _⟩, by omega, rfl, fun j hj => by omega, rfl⟩
  case round =>
    obtain ⟨i, y, hik, rfl, hs, rfl⟩ := hrel
    have HIK := Lib.hid hik
    have HS := Lib.hid hs
    clear hik hs
    by_cases hlt : i < ts.length
    · obtain ⟨b1, o1, hA, p0⟩ := kI_at hC i hlt
      subst hA
      have k1 : b1 < w.heap.size := World.block_lt_of_cell? w _ p0
      have hi0 : (0 : Int) ≤ i := by omega
      have hi1 : (i : Int) < ts.length := by omega
      have hin : ((i : Int)).toNat = i := by omega
      generalize ht : ts.getD i 0 = t at *
      have HT := Lib.hid ht
      clear ht
      cases h1 : inB t 0 (p - 1) with
      | false =>
        go_wp2_with ((go_at_call 124; (first | (with_reducible refine call_later2 (l01In_c _ _ _ _) ?_) | (with_reducible refine call_later (l01In_c _ _ _ _) ?_)); intro x))
        go_ret
        refine .mk ?_ (by repeat (first | (with_reducible exact Below.refl _ _) | ((with_reducible refine Below.alloc ?_ ?_ _); rotate_left; (focus (first | omega | (simp; done) | (simp; omega) | (simp [Later.le, Later.le_add, Later.lt, Later.lt_add]; done) | (simp [Later.le, Later.le_add, Later.lt, Later.lt_add]; omega)))) | ((with_reducible refine bel_later _ ?_ ?_); rotate_left; (focus (first | omega | (simp; done) | (simp; omega) | (simp [Later.le, Later.le_add, Later.lt, Later.lt_add]; done) | (simp [Later.le, Later.le_add, Later.lt, Later.lt_add]; omega)))) | (with_reducible refine Below.drew ?_) | (with_reducible refine pw_below_drewN ?_ _) | ((with_reducible refine Below.setCell ?_ ?_ _); rotate_left; (focus (first | omega | (simp; done) | (simp; omega) | (simp [Later.le, Later.le_add, Later.lt, Later.lt_add]; done) | (simp [Later.le, Later.le_add, Later.lt, Later.lt_add]; omega))))))
        rw [pointB, allB, all_not hlt (by rw [HT.out]; exact h1)]
        rfl
      | true =>
        go_wp2_with ((go_at_call 124; (first | (with_reducible refine call_later2 (l01In_c _ _ _ _) ?_) | (with_reducible refine call_later (l01In_c _ _ _ _) ?_)); intro x))
        go_roundg (gk - 1)
        case measure => have := HIK.out; omega
        case rel => exact ⟨i + 1, x, by have := HIK.out; omega, by go_num, all_step HS.out (by rw [HT.out]; exact h1), rfl⟩
    · go_wp2
      go_ret
      refine .mk ?_ (by repeat (first | (with_reducible exact Below.refl _ _) | ((with_reducible refine Below.alloc ?_ ?_ _); rotate_left; (focus (first | omega | (simp; done) | (simp; omega) | (simp [Later.le, Later.le_add, Later.lt, Later.lt_add]; done) | (simp [Later.le, Later.le_add, Later.lt, Later.lt_add]; omega)))) | ((with_reducible refine bel_later _ ?_ ?_); rotate_left; (focus (first | omega | (simp; done) | (simp; omega) | (simp [Later.le, Later.le_add, Later.lt, Later.lt_add]; done) | (simp [Later.le, Later.le_add, Later.lt, Later.lt_add]; omega)))) | (with_reducible refine Below.drew ?_) | (with_reducible refine pw_below_drewN ?_ _) | ((with_reducible refine Below.setCell ?_ ?_ _); rotate_left; (focus (first | omega | (simp; done) | (simp; omega) | (simp [Later.le, Later.le_add, Later.lt, Later.lt_add]; done) | (simp [Later.le, Later.le_add, Later.lt, Later.lt_add]; omega))))))
      rw [pointB, allB, all_yes (fun j hj => HS.out j (by omega))]
      simp
end Go.Proofs.Ytgieofidogkbaaa

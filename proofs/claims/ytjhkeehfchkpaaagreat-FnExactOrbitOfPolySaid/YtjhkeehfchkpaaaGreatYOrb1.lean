/- Orbits of polynomials: orbit, l03Orbit; no condition. -/
import Derived.Test.YtjhkeehfchkpaaaGreatYAct4
import Derived.Test.YtjhkeehfchkpaaaGreatYSame1
import Derived.Test.YtjhkeehfchkpaaaGreatYKitC
set_option linter.unusedVariables false
set_option linter.unusedSimpArgs false
namespace Go.Proofs.YtjhkeehfchkpaaaGreat
open Go.RowKit Go.Proofs.YtjhkeehfchkpaaaGreatW.PrintWords
attribute [local go_sem] Later.cell Later.frozen Later.lt Later.lt_add Later.le Later.le_add Later.ne Later.ne' add_at
open Go.Proofs.YtjhkeehfchkpaaaGreatW.PrintLast
attribute [local go_sem 2000] run_eqM guardM
/-- The first of each sort: the orbit as a list. -/
def orbT (acc : List PV) (x : PV) : List PV := if acc.any (fun y => x.ts == y.ts) then acc else acc ++ [x]
def orbV (ps : List PV) : List PV := ps.foldl orbT []
def anyP (acc : List PV) (ts : List T4) (k : Nat) : Bool := (acc.take k).any (fun y => ts == y.ts)
theorem orbV_step {ps : List PV} {j : Nat} (h : j < ps.length) : orbV (ps.take (j + 1)) = orbT (orbV (ps.take j)) (ps.getD j zP) := by
  have e : ps.getD j zP = ps[j] := by simp [List.getD_eq_getElem?_getD, h]
  rw [orbV, List.take_succ_eq_append_getElem h, List.foldl_append, e]
  rfl
theorem orbT_t {acc : List PV} {x : PV} (h : anyP acc x.ts acc.length = true) : orbT acc x = acc := by
  rw [anyP, List.take_length] at h
  rw [orbT, if_pos h]
theorem orbT_f {acc : List PV} {x : PV} (h : anyP acc x.ts acc.length = false) : orbT acc x = acc ++ [x] := by
  rw [anyP, List.take_length] at h
  rw [orbT, h]
  rfl
theorem anyP_step {acc : List PV} {ts : List T4} {k : Nat} (h : k < acc.length) : anyP acc ts (k + 1) = (anyP acc ts k || ts == (acc.getD k zP).ts) := by
  have e : acc.getD k zP = acc[k] := by simp [List.getD_eq_getElem?_getD, h]
  rw [anyP, List.take_succ_eq_append_getElem h, List.any_append, e]
  simp [anyP]
theorem orbV_key (ps acc : List PV) : (ps.foldl orbT acc).length ≤ acc.length + ps.length ∧ ∀ x ∈ ps.foldl orbT acc, x ∈ acc ∨ x ∈ ps := by
  induction ps generalizing acc with
  | nil => exact ⟨Nat.le_refl _, fun x hx => Or.inl hx⟩
  | cons y ps ih =>
    obtain ⟨h1, h2⟩ := ih (orbT acc y)
    have h3 : (orbT acc y).length ≤ acc.length + 1 ∧ ∀ x ∈ orbT acc y, x ∈ acc ∨ x = y := by
      unfold orbT
      split
      · exact ⟨by omega, fun x hx => Or.inl hx⟩
      · refine ⟨by simp, fun x hx => ?_⟩
        simpa using hx
    refine ⟨by rw [List.foldl_cons, List.length_cons]; omega, fun x hx => ?_⟩
    rw [List.foldl_cons] at hx
    rcases h2 x hx with h | h
    · rcases h3.2 x h with h | h
      · exact Or.inl h
      · exact Or.inr (by simp [h])
    · exact Or.inr (by simp [h])
theorem orbV_len (ps : List PV) : (orbV ps).length ≤ ps.length := by
  have := (orbV_key ps []).1
  simpa [orbV] using this
theorem orbV_mem {ps : List PV} {x : PV} (h : x ∈ orbV ps) : x ∈ ps := by
  rcases (orbV_key ps []).2 x h with h | h
  · cases h
  · exact h
theorem orbV_lenT (ps : List PV) (j : Nat) : (orbV (ps.take j)).length ≤ j := by
  have h1 := orbV_len (ps.take j)
  rw [List.length_take] at h1
  omega
theorem likes_sub {p : Int} {n : Nat} {ps qs : List PV} (h : Likes p n ps) (hs : ∀ x ∈ qs, x ∈ ps) : Likes p n qs := ⟨fun x hx => h.pp x (hs x hx), fun x hx => h.dd x (hs x hx), fun x hx => h.can x (hs x hx), fun x hx => h.deg x (hs x hx)⟩
theorem likes_orb {p : Int} {n : Nat} {ps : List PV} (h : Likes p n ps) : Likes p n (orbV ps) := likes_sub h fun _ hx => orbV_mem hx
theorem likes_orbT {p : Int} {n : Nat} {ps : List PV} (h : Likes p n ps) (j : Nat) : Likes p n (orbV (ps.take j)) := likes_sub h fun _ hx => List.mem_of_mem_take (orbV_mem hx)
theorem likes_at {p : Int} {n : Nat} {ps : List PV} (h : Likes p n ps) {j : Nat} (hj : j < ps.length) : ∃ xt, ps.getD j zP = ⟨p, n, xt⟩ ∧ Canon p xt ∧ ∀ t ∈ xt, degE t.e ≤ 12 := by
  have hm := getD_memP hj
  have h0 := h.pp _ hm
  have h1 := h.dd _ hm
  refine ⟨(ps.getD j zP).ts, ?_, h.can _ hm, h.deg _ hm⟩
  rw [← h0, ← h1]
theorem kP_own {e base n c : Nat} {ok : Nat → Prop} {W : World} {A : Option Addr} {ps : List PV} (h : kP.R e W base ok (.slice A n c) ps) {i : Nat} (hi : i < n) {p d : Int} {xt : List T4} (hx : ps.getD i zP = ⟨p, d, xt⟩) :
    ∃ b o A' c', A = some ⟨b, o, none⟩ ∧ W.cell? ⟨b, o + i * 3, none⟩ = some (.int .i64 p) ∧ W.cell? ⟨b, o + i * 3 + 1, none⟩ = some (.int .i64 d) ∧ W.cell? ⟨b, o + i * 3 + 2, none⟩ = some (.slice A' xt.length c') ∧ kT.R 80 W base ok (.slice A' xt.length c') xt := by
  obtain ⟨hn, hnc, hC⟩ := Kd.R_reads' h
  subst hn
  obtain ⟨g, cap, hv, _⟩ := Kd.R_form h (by omega)
  injection hv with hA _ hc
  subst hA
  obtain ⟨cs, hl, hM, hcell, _⟩ := Kd.R_elem h zP (i : Int) (by omega) (by omega)
  rw [Int.toNat_natCast] at hM
  rw [hx] at hM
  obtain ⟨A', c', rfl, hR⟩ := hM
  have q0 := hcell 0 _ rfl
  have q1 := hcell 1 _ rfl
  have q2 := hcell 2 _ rfl
  rw [Int.toNat_natCast] at q0 q1 q2
  refine ⟨g, 0, A', c', rfl, ?_, ?_, ?_, Kd.R_mono hR fun k hk => hk.1⟩
  · rw [Nat.zero_add]; exact q0
  · rw [Nat.zero_add]; exact q1
  · rw [Nat.zero_add]; exact q2
theorem kP_see {n : Nat} {W : World} {A : Option Addr} {ps : List PV} (h : kP.C W A n ps) {i : Nat} (hi : i < n) {p d : Int} {xt : List T4} (hx : ps.getD i zP = ⟨p, d, xt⟩) :
    ∃ b o A' c', A = some ⟨b, o, none⟩ ∧ W.cell? ⟨b, o + i * 3, none⟩ = some (.int .i64 p) ∧ W.cell? ⟨b, o + i * 3 + 1, none⟩ = some (.int .i64 d) ∧ W.cell? ⟨b, o + i * 3 + 2, none⟩ = some (.slice A' xt.length c') ∧ kT.C W A' xt.length xt := by
  have := kP_at h i hi
  rw [hx] at this
  exact this
set_option maxRecDepth 100000 in
set_option maxHeartbeats 4000000 in
theorem orbit_c (p : Int) (n : Nat) (A : Option Addr) (c : Nat) (ms : List M9) (B : Option Addr) (e : Nat) (ts : List T4) (w : World) (hC : kM.C w A ms.length ms) (hD : kT.C w B ts.length ts) (hN : ms.length ≤ 48) (hts : Canon p ts) (hd : ∀ t ∈ ts, degE t.e ≤ 12) (hp : 2 ≤ p) (hp' : p ≤ 13) (h1 : 1 ≤ n) (h3 : n ≤ 3) :
    Calls Tryz.prog 75 #[.agg #[.int .i64 p, .int .i64 n, .slice A ms.length c], .agg #[.int .i64 p, .int .i64 n, .slice B ts.length e]] w (Makes kP 38 (orbV (imgV p n ms ts)) w) := by
  have g0 : ((w.alloc (.cells #[.int .i64 p, .int .i64 n, .slice A ms.length c] 34)).alloc (.cells #[.int .i64 p, .int .i64 n, .slice B ts.length e] 38)).cell? ⟨w.heap.size, 0, none⟩ = some (.int .i64 p) := bq5
  have g1 : ((w.alloc (.cells #[.int .i64 p, .int .i64 n, .slice A ms.length c] 34)).alloc (.cells #[.int .i64 p, .int .i64 n, .slice B ts.length e] 38)).cell? ⟨w.heap.size, 1, none⟩ = some (.int .i64 n) := bq5
  have g2 : ((w.alloc (.cells #[.int .i64 p, .int .i64 n, .slice A ms.length c] 34)).alloc (.cells #[.int .i64 p, .int .i64 n, .slice B ts.length e] 38)).cell? ⟨w.heap.size, 2, none⟩ = some (.slice A ms.length c) := bq5
  have f0 : ((w.alloc (.cells #[.int .i64 p, .int .i64 n, .slice A ms.length c] 34)).alloc (.cells #[.int .i64 p, .int .i64 n, .slice B ts.length e] 38)).cell? ⟨w.heap.size + 1, 0, none⟩ = some (.int .i64 p) := bq5
  have f1 : ((w.alloc (.cells #[.int .i64 p, .int .i64 n, .slice A ms.length c] 34)).alloc (.cells #[.int .i64 p, .int .i64 n, .slice B ts.length e] 38)).cell? ⟨w.heap.size + 1, 1, none⟩ = some (.int .i64 n) := bq5
  have f2 : ((w.alloc (.cells #[.int .i64 p, .int .i64 n, .slice A ms.length c] 34)).alloc (.cells #[.int .i64 p, .int .i64 n, .slice B ts.length e] 38)).cell? ⟨w.heap.size + 1, 2, none⟩ = some (.slice B ts.length e) := bq5
  have hF := fun W h5 h6 => images_c p n A c ms B e ts W h5 h6 hN hts hd hp hp' h1 h3
  have HL := Lib.hid (img_likes hp h3 ms hd)
  have hp48 : (imgV p n ms ts).length ≤ 48 := by rw [imgV_len]; exact hN
  have hbW : Below w.heap.size w ((w.alloc (.cells #[.int .i64 p, .int .i64 n, .slice A ms.length c] 34)).alloc (.cells #[.int .i64 p, .int .i64 n, .slice B ts.length e] 38)) := bq2
  have hC3 := Kd.C_below hC hbW
  have hD3 := Kd.C_below hD hbW
  have hwU : w.heap.size ≤ ((w.alloc (.cells #[.int .i64 p, .int .i64 n, .slice A ms.length c] 34)).alloc (.cells #[.int .i64 p, .int .i64 n, .slice B ts.length e] 38)).heap.size := hbW.size
  clear hts hd
  generalize imgV p n ms ts = ps at *
  go_enter Tryz.func75, Tryz.ntmps75
  go_wp2_with (go_at_call 71; (with_reducible refine Calls.mono (hF _ (Kd.C_below hC3 bq2) (Kd.C_below hD3 bq2)) ?_); rintro e' V ⟨v9, rfl, hR8, hb8⟩; obtain ⟨L8, c8, rfl, _, hC8⟩ := Kd.R_reads hR8)
  have hR0 := R_zero2 kP (e := 38) (base := ((w.alloc (.cells #[.int .i64 p, .int .i64 n, .slice A ms.length c] 34)).alloc (.cells #[.int .i64 p, .int .i64 n, .slice B ts.length e] 38)).heap.size) (fun _ => True) trivial (heap_alloc_last ((w.alloc (.cells #[.int .i64 p, .int .i64 n, .slice A ms.length c] 34)).alloc (.cells #[.int .i64 p, .int .i64 n, .slice B ts.length e] 38)) (.cells #[] 38)) (Nat.le_refl _)
  replace hR0 := Kd.R_below hR0 hb8
  have hbU := (below_alloc2 ((w.alloc (.cells #[.int .i64 p, .int .i64 n, .slice A ms.length c] 34)).alloc (.cells #[.int .i64 p, .int .i64 n, .slice B ts.length e] 38)) (.cells #[] 38)).trans (hb8.mono (by simp))
  have hR9 := Kd.R_mono (Kd.R_bound hR8) (ok' := fun k => ((w.alloc (.cells #[.int .i64 p, .int .i64 n, .slice A ms.length c] 34)).alloc (.cells #[.int .i64 p, .int .i64 n, .slice B ts.length e] 38)).heap.size < k ∧ k < V.heap.size) (fun k hk => ⟨by have := hk.2.1; simp at this ⊢; omega, hk.2.2.1⟩)
  replace hR9 := Kd.R_lower hR9 (base' := ((w.alloc (.cells #[.int .i64 p, .int .i64 n, .slice A ms.length c] 34)).alloc (.cells #[.int .i64 p, .int .i64 n, .slice B ts.length e] 38)).heap.size) (by simp)
  have hzV : ((w.alloc (.cells #[.int .i64 p, .int .i64 n, .slice A ms.length c] 34)).alloc (.cells #[.int .i64 p, .int .i64 n, .slice B ts.length e] 38)).heap.size < V.heap.size := by have := hb8.size; simp at this ⊢; omega
  have hz2 : ((w.alloc (.cells #[.int .i64 p, .int .i64 n, .slice A ms.length c] 34)).alloc (.cells #[.int .i64 p, .int .i64 n, .slice B ts.length e] 38)).heap.size = w.heap.size + 1 + 1 := by simp
  clear hR8 hb8 hC8 hC3 hD3 hF
  generalize ((w.alloc (.cells #[.int .i64 p, .int .i64 n, .slice A ms.length c] 34)).alloc (.cells #[.int .i64 p, .int .i64 n, .slice B ts.length e] 38)) = U at *
  clear g0 g1 g2 f0 f1 f2
  generalize hfb : w.heap.size + 1 = fb at *
  go_loopg [16, 5] ps.length (fun g v16 v5 w' => ∃ (j : Nat) (Q : Option Addr) (cq : Nat), j + g = ps.length ∧ v16 = .int .i64 j ∧ v5 = .slice Q (orbV (ps.take j)).length cq ∧ Below U.heap.size U w' ∧ V.heap.size ≤ w'.heap.size ∧ kP.R 38 w' U.heap.size (fun _ => True) (.slice Q (orbV (ps.take j)).length cq) (orbV (ps.take j)) ∧ (∀ k, (Value.slice Q (orbV (ps.take j)).length cq).ownBlock = some k → k = U.heap.size ∨ V.heap.size ≤ k) ∧ kP.R 38 w' U.heap.size (fun k => U.heap.size < k ∧ k < V.heap.size) (.slice L8 ps.length c8) ps)
  case atStart => exact ⟨0, some ⟨fb + 1, 0, none⟩, 0, by omega, rfl, rfl, hbU, Nat.le_refl _, by rw [← hz2]; exact hR0, fun k hk => by simp [Value.ownBlock] at hk; omega, hR9⟩
  case round =>
    clear hR0 hR9 hbU
    obtain ⟨j, Q, cq, hjk, rfl, rfl, hb, hvs, hRq, hown, hRi⟩ := hrel
    have HJK := Lib.hid hjk
    have hbs := hb.size
    clear hjk
    by_cases hj : j < ps.length
    · obtain ⟨xt, hx, hxc, hxd⟩ := likes_at HL.out hj
      obtain ⟨b2, o2, A2, c2, hB, p0, p1, p2, hRx⟩ := kP_own hRi hj hx
      subst hB
      have hi0 : (0 : Int) ≤ j := by omega
      have hi1 : (j : Int) < ps.length := by omega
      have hin : ((j : Int)).toNat = j := by omega
      have hxl := deg_len hxc.1 hxd
      have hO := orbV_step hj
      rw [hx] at hO
      have HO := Lib.hid hO
      have hal := orbV_lenT ps j
      have HK := Lib.hid (likes_orbT HL.out j)
      clear hO hx hxc hxd
      generalize orbV (ps.take j) = acc at *
      obtain ⟨V4, hV4, hb4, y0, y1, y2⟩ := poly_one wr p n (.slice A2 xt.length c2) ⟨rfl, rfl⟩ 38
      have HR := Lib.hid (And.intro (Kd.R_below hRq hb4) (And.intro (Kd.R_below hRi hb4) (And.intro (Kd.R_below hRx hb4) hown)))
      have hCq := (Kd.R_reads' HR.out.1).2.2
      have hCx := (Kd.R_reads' HR.out.2.2.1).2.2
      have hs4 := hb4.size
      have hb5 := hb.trans (hb4.mono hb.size)
      clear hRq hRi hRx hown
      go_wp2
      go_loopg [22, 8] acc.length (fun g v22 v8 w'' => ∃ (k : Nat) (z : Later V4), k + g = acc.length ∧ v22 = .int .i64 k ∧ v8 = .bool (anyP acc xt k) ∧ w'' = z.W)
      case atStart => exact ⟨0, ⟨V4, Below.refl _ _⟩, by omega, rfl, rfl, rfl⟩
      case round =>
        obtain ⟨k, z, hkk, rfl, rfl, rfl⟩ := hrel
        have HKK := Lib.hid hkk
        have hzs := z.ok.size
        clear hkk
        have y0' := pw_cell_below z.ok y0
        have y1' := pw_cell_below z.ok y1
        have y2' := pw_cell_below z.ok y2
        by_cases hk : k < acc.length
        · obtain ⟨zt, hz, hzc, hzd⟩ := likes_at HK.out hk
          obtain ⟨b3, o3, A3, c3, hB3, u0, u1, u2, hDz⟩ := kP_see hCq hk hz
          subst hB3
          have u0' := pw_cell_below z.ok u0
          have u1' := pw_cell_below z.ok u1
          have u2' := pw_cell_below z.ok u2
          have hDz' := Kd.C_below hDz z.ok
          have hDx' := Kd.C_below hCx z.ok
          have hk0 : (0 : Int) ≤ k := by omega
          have hk1 : (k : Int) < acc.length := by omega
          have hkn : ((k : Int)).toNat = k := by omega
          have hzl := deg_len hzc.1 hzd
          have hst := anyP_step (ts := xt) hk
          rw [hz] at hst
          clear hz hzc hzd
          have hS := fun W h h' => samePoly_c p n p n A2 A3 c2 c3 xt zt W h h' (by omega) (by omega)
          have e1 : ((p == p && (n : Int) == n) && xt == zt) = (xt == zt) := by simp
          rw [e1] at hS
          clear e1
          obtain ⟨V5, hV5, hb6, _, _, _⟩ := poly_one z.W p n (.slice A3 zt.length c3) ⟨rfl, rfl⟩ 38
          have y0'' := pw_cell_below hb6 y0'
          have y1'' := pw_cell_below hb6 y1'
          have y2'' := pw_cell_below hb6 y2'
          have hDz5 := Kd.C_below hDz' hb6
          have hDx5 := Kd.C_below hDx' hb6
          have hz5 := z.ok.trans (hb6.mono z.ok.size)
          cases hkn2 : anyP acc xt k with
          | true =>
            rw [hkn2, Bool.true_or] at hst
            have HST := Lib.hid hst
            clear hst hkn2
            go_wp2
            go_roundg (gk - 1)
            case measure => have := HKK.out; omega
            case rel => exact ⟨k + 1, ⟨V5, hz5⟩, by have := HKK.out; omega, by go_num, by rw [HST.out], rfl⟩
          | false =>
            rw [hkn2, Bool.false_or] at hst
            have HST := Lib.hid hst
            clear hst hkn2
            go_wp2_with (go_at_call 72; (with_reducible refine to_gives (V := V5) (Below.refl _ _) (hS _ hDx5 hDz5) ?_); intro w8 hb8 hb8')
            go_roundg (gk - 1)
            case measure => have := HKK.out; omega
            case rel => exact ⟨k + 1, ⟨w8, hz5.trans (hb8.mono hz5.size)⟩, by have := HKK.out; omega, by go_num, by rw [HST.out], rfl⟩
        · have hke : acc.length = k := by have := HKK.out; omega
          subst hke
          cases hz : anyP acc xt acc.length with
          | true =>
            have HT := Lib.hid (orbT_t (x := ⟨p, n, xt⟩) hz)
            clear hz
            go_wp2
            go_roundg (ps.length - j - 1)
            case measure => have := HJK.out; omega
            case rel =>
              refine ⟨j + 1, Q, cq, ?_, ?_, ?_, hb5.trans (z.ok.mono hb5.size), ?_, ?_, ?_, Kd.R_below HR.out.2.1 z.ok⟩
              · have := HJK.out; omega
              · go_num
              · rw [HO.out, HT.out]
              · omega
              · rw [HO.out, HT.out]; exact Kd.R_below HR.out.1 z.ok
              · rw [HO.out, HT.out]; exact HR.out.2.2.2
          | false =>
            have HT := Lib.hid (orbT_f (x := ⟨p, n, xt⟩) hz)
            clear hz
            go_wp2_with ((with_reducible refine gate_ (.call { callee := .builtin .append, args := #[.tmp 35, .tmp 37], argTypes := #[52, 52] }) rfl ?_); refine Kd.R_append kP (w0 := U) (W := z.W) U.heap.size rfl (.tmp 35) (.tmp 37) 52 38 (.agg #[.int .i64 0, .int .i64 0, .slice none 0 0]) 40 rfl Tryz.underlying52 infoPF rfl (by decide) (by decide) (.slice Q acc.length cq) acc ⟨p, n, xt⟩ [.int .i64 p, .int .i64 n, .slice A2 xt.length c2] (fun _ => True) (fun k => U.heap.size < k ∧ k < V.heap.size) rfl rfl ⟨A2, c2, rfl, Kd.R_below HR.out.2.2.1 z.ok⟩ (fun k hk => ⟨trivial, fun he => by have h9 := HR.out.2.2.2 k he.symm; omega⟩) (fun _ _ => trivial) (Kd.R_below HR.out.1 z.ok) (hb5.trans (z.ok.mono hb5.size)) (by omega) (by omega) ?_; intro v1 w1 hR6 hB6 hg6 hat6; obtain ⟨B6, c6, rfl, hl6, hC6⟩ := Kd.R_reads hR6)
            have hs6 := hg6.size
            have hI6 := Kd.R_grown (Kd.R_below HR.out.2.1 z.ok) hg6 (fun k hk he => by
              have h9 := HR.out.2.2.2 k he.symm
              omega)
            go_roundg (ps.length - j - 1)
            case measure => have := HJK.out; omega
            case rel =>
              refine ⟨j + 1, B6, c6, ?_, ?_, ?_, hB6, ?_, ?_, ?_, hI6⟩
              · have := HJK.out; omega
              · go_num
              · simp [HO.out, HT.out]
              · clear hR6 hI6; omega
              · rw [HO.out, HT.out]; exact hR6
              · rw [HO.out, HT.out]
                intro k hk
                rcases hat6 with h9 | ⟨b9, h9, h8⟩
                · exact HR.out.2.2.2 k (h9.symm.trans hk)
                · have h7 := h9.symm.trans hk
                  injection h7 with h7
                  omega
    · have hje : ps.length = j := by have := HJK.out; omega
      subst hje
      rw [List.take_length] at hRq ⊢
      go_wp2
      refine bodyPost_ret (v := .slice Q (orbV ps).length cq) (by simp [results, Tryz.results75, go_sem]) rfl ⟨_, rfl, ?_, ?_⟩
      · exact Kd.R_lower hRq hwU
      · exact hbW.trans (hb.mono hwU)
set_option maxRecDepth 100000 in
set_option maxHeartbeats 4000000 in
theorem l03Orbit_c (p : Int) (n : Nat) (A : Option Addr) (c : Nat) (ms : List M9) (B : Option Addr) (e : Nat) (ts : List T4) (w : World) (hC : kM.C w A ms.length ms) (hD : kT.C w B ts.length ts) (hN : ms.length ≤ 48) (hts : Canon p ts) (hd : ∀ t ∈ ts, degE t.e ≤ 12) (hp : 2 ≤ p) (hp' : p ≤ 13) (h1 : 1 ≤ n) (h3 : n ≤ 3) :
    Calls Tryz.prog 73 #[.agg #[.int .i64 p, .int .i64 n, .slice A ms.length c], .agg #[.int .i64 p, .int .i64 n, .slice B ts.length e]] w (Makes kP 38 (orbV (imgV p n ms ts)) w) := by
  have g0 : ((w.alloc (.cells #[.int .i64 p, .int .i64 n, .slice A ms.length c] 34)).alloc (.cells #[.int .i64 p, .int .i64 n, .slice B ts.length e] 38)).cell? ⟨w.heap.size, 0, none⟩ = some (.int .i64 p) := bq5
  have g1 : ((w.alloc (.cells #[.int .i64 p, .int .i64 n, .slice A ms.length c] 34)).alloc (.cells #[.int .i64 p, .int .i64 n, .slice B ts.length e] 38)).cell? ⟨w.heap.size, 1, none⟩ = some (.int .i64 n) := bq5
  have g2 : ((w.alloc (.cells #[.int .i64 p, .int .i64 n, .slice A ms.length c] 34)).alloc (.cells #[.int .i64 p, .int .i64 n, .slice B ts.length e] 38)).cell? ⟨w.heap.size, 2, none⟩ = some (.slice A ms.length c) := bq5
  have f0 : ((w.alloc (.cells #[.int .i64 p, .int .i64 n, .slice A ms.length c] 34)).alloc (.cells #[.int .i64 p, .int .i64 n, .slice B ts.length e] 38)).cell? ⟨w.heap.size + 1, 0, none⟩ = some (.int .i64 p) := bq5
  have f1 : ((w.alloc (.cells #[.int .i64 p, .int .i64 n, .slice A ms.length c] 34)).alloc (.cells #[.int .i64 p, .int .i64 n, .slice B ts.length e] 38)).cell? ⟨w.heap.size + 1, 1, none⟩ = some (.int .i64 n) := bq5
  have f2 : ((w.alloc (.cells #[.int .i64 p, .int .i64 n, .slice A ms.length c] 34)).alloc (.cells #[.int .i64 p, .int .i64 n, .slice B ts.length e] 38)).cell? ⟨w.heap.size + 1, 2, none⟩ = some (.slice B ts.length e) := bq5
  have hF := fun W h5 h6 => l03All_c p n A c ms B e ts W h5 h6 hN hts hd hp hp' h1 h3
  have HL := Lib.hid (img_likes hp h3 ms hd)
  have hp48 : (imgV p n ms ts).length ≤ 48 := by rw [imgV_len]; exact hN
  have hbW : Below w.heap.size w ((w.alloc (.cells #[.int .i64 p, .int .i64 n, .slice A ms.length c] 34)).alloc (.cells #[.int .i64 p, .int .i64 n, .slice B ts.length e] 38)) := bq2
  have hC3 := Kd.C_below hC hbW
  have hD3 := Kd.C_below hD hbW
  have hwU : w.heap.size ≤ ((w.alloc (.cells #[.int .i64 p, .int .i64 n, .slice A ms.length c] 34)).alloc (.cells #[.int .i64 p, .int .i64 n, .slice B ts.length e] 38)).heap.size := hbW.size
  clear hts hd
  generalize imgV p n ms ts = ps at *
  go_enter Tryz.func73, Tryz.ntmps73
  go_wp2_with (go_at_call 59; (with_reducible refine Calls.mono (hF _ (Kd.C_below hC3 bq2) (Kd.C_below hD3 bq2)) ?_); rintro e' V ⟨v9, rfl, hR8, hb8⟩; obtain ⟨L8, c8, rfl, _, hC8⟩ := Kd.R_reads hR8)
  have hR0 := R_zero2 kP (e := 38) (base := V.heap.size) (fun _ => True) trivial (heap_alloc_last V (.cells #[] 38)) (Nat.le_refl _)
  have hb9 := below_alloc2 V (.cells #[] 38)
  replace hR0 := Kd.R_lower hR0 hb8.size
  have hbU := hb8.trans (hb9.mono hb8.size)
  have hR9 := Kd.R_below (Kd.R_mono (Kd.R_bound hR8) (ok' := fun k => k < V.heap.size) (fun k hk => hk.2.2.1)) hb9
  have hzV := hb8.size
  clear hR8 hb8 hC8 hC3 hD3 hF
  generalize hV1 : V.alloc (.cells #[] 38) = V1 at *
  clear hV1
  have hzV1 := hb9.size
  generalize ((w.alloc (.cells #[.int .i64 p, .int .i64 n, .slice A ms.length c] 34)).alloc (.cells #[.int .i64 p, .int .i64 n, .slice B ts.length e] 38)) = U at *
  clear g0 g1 g2 f0 f1 f2 hb9
  generalize hfb : w.heap.size + 1 = fb at *
  go_loopg [7, 6] ps.length (fun g v16 v5 w' => ∃ (j : Nat) (Q : Option Addr) (cq : Nat), j + g = ps.length ∧ v16 = .int .i64 j ∧ v5 = .slice Q (orbV (ps.take j)).length cq ∧ Below U.heap.size U w' ∧ V.heap.size ≤ w'.heap.size ∧ kP.R 38 w' U.heap.size (fun _ => True) (.slice Q (orbV (ps.take j)).length cq) (orbV (ps.take j)) ∧ (∀ k, (Value.slice Q (orbV (ps.take j)).length cq).ownBlock = some k → V.heap.size ≤ k) ∧ kP.R 38 w' U.heap.size (fun k => k < V.heap.size) (.slice L8 ps.length c8) ps)
  case atStart => exact ⟨0, some ⟨V.heap.size, 0, none⟩, 0, by omega, rfl, rfl, hbU, hzV1, hR0, fun k hk => by simp [Value.ownBlock] at hk; omega, hR9⟩
  case round =>
    clear hR0 hR9 hbU
    obtain ⟨j, Q, cq, hjk, rfl, rfl, hb, hvs, hRq, hown, hRi⟩ := hrel
    have HJK := Lib.hid hjk
    have hbs := hb.size
    clear hjk
    by_cases hj : j < ps.length
    · obtain ⟨xt, hx, hxc, hxd⟩ := likes_at HL.out hj
      obtain ⟨b2, o2, A2, c2, hB, p0, p1, p2, hRx⟩ := kP_own hRi hj hx
      subst hB
      have hi0 : (0 : Int) ≤ j := by omega
      have hi1 : (j : Int) < ps.length := by omega
      have hin : ((j : Int)).toNat = j := by omega
      have hxl := deg_len hxc.1 hxd
      have hO := orbV_step hj
      rw [hx] at hO
      have HO := Lib.hid hO
      have hal := orbV_lenT ps j
      have HK := Lib.hid (likes_orbT HL.out j)
      clear hO hx hxc hxd
      generalize orbV (ps.take j) = acc at *
      have hb4 : Below wr.heap.size wr wr := Below.refl _ _
      have HR := Lib.hid (And.intro (Kd.R_below hRq hb4) (And.intro (Kd.R_below hRi hb4) (And.intro (Kd.R_below hRx hb4) hown)))
      have hCq := (Kd.R_reads' HR.out.1).2.2
      have hCx := (Kd.R_reads' HR.out.2.2.1).2.2
      have hs4 := hb4.size
      have hb5 := hb.trans (hb4.mono hb.size)
      clear hRq hRi hRx hown
      go_wp2
      go_loopg [9, 8] acc.length (fun g v22 v8 w'' => ∃ (k : Nat) (z : Later wr), k + g = acc.length ∧ v22 = .int .i64 k ∧ v8 = .bool (anyP acc xt k) ∧ w'' = z.W)
      case atStart => exact ⟨0, ⟨wr, Below.refl _ _⟩, by omega, rfl, rfl, rfl⟩
      case round =>
        obtain ⟨k, z, hkk, rfl, rfl, rfl⟩ := hrel
        have HKK := Lib.hid hkk
        have hzs := z.ok.size
        clear hkk
        have p0' := pw_cell_below z.ok p0
        have p1' := pw_cell_below z.ok p1
        have p2' := pw_cell_below z.ok p2
        by_cases hk : k < acc.length
        · obtain ⟨zt, hz, hzc, hzd⟩ := likes_at HK.out hk
          obtain ⟨b3, o3, A3, c3, hB3, u0, u1, u2, hDz⟩ := kP_see hCq hk hz
          subst hB3
          have u0' := pw_cell_below z.ok u0
          have u1' := pw_cell_below z.ok u1
          have u2' := pw_cell_below z.ok u2
          have hDz' := Kd.C_below hDz z.ok
          have hDx' := Kd.C_below hCx z.ok
          have hk0 : (0 : Int) ≤ k := by omega
          have hk1 : (k : Int) < acc.length := by omega
          have hkn : ((k : Int)).toNat = k := by omega
          have hzl := deg_len hzc.1 hzd
          have hst := anyP_step (ts := xt) hk
          rw [hz] at hst
          clear hz hzc hzd
          have hS := fun W h h' => l01Same_c p n p n A3 A2 c3 c2 zt xt W h h' (by omega) (by omega)
          have e1 : (zt == xt) = (xt == zt) := BEq.comm
          rw [e1] at hS
          clear e1
          cases hkn2 : anyP acc xt k with
          | true =>
            rw [hkn2, Bool.true_or] at hst
            have HST := Lib.hid hst
            clear hst hkn2
            go_wp2
            refine start_ (n := 13) (S := fun w' => True) (ds := []) #[false, false, false, false, false, false, false, false, false, false, false, false, false] (by kernel_rfl) rfl rfl trivial (fun hHeld => ?_)
            refine pure_ (i := 0) (N := some 26) (v := ?_) (a' := ?_) #[true, false, false, false, false, false, false, false, false, false, false, false, false] rfl rfl (by kernel_rfl) (fun _ _ _ h => h) (Or.inl ⟨by rfl, ?_⟩) ?_ ?_
            rotate_left
            · intro w'
              go_simp
              with_reducible rfl
            rotate_left
            · simp only [Act.put, List.setIfInBounds_toArray, List.set_cons_zero, List.set_cons_succ, i64_w, i32_w]
              rfl
            refine pure_ (i := 1) (N := some 27) (v := ?_) (a' := ?_) #[true, true, false, false, false, false, false, false, false, false, false, false, false] rfl rfl (by kernel_rfl) (fun _ _ _ h => h) (Or.inl ⟨by rfl, ?_⟩) ?_ ?_
            rotate_left
            · intro w'
              go_simp
              with_reducible rfl
            rotate_left
            · simp only [Act.put, List.setIfInBounds_toArray, List.set_cons_zero, List.set_cons_succ, i64_w, i32_w]
              rfl
            refine pure_ (i := 2) (N := some 28) (v := undef) (a' := ?_) #[true, true, true, false, false, false, false, false, false, false, false, false, false] rfl rfl (by kernel_rfl) (fun _ _ _ h => h) (Or.inr ⟨by rfl, rfl⟩) ?_ ?_
            rotate_left
            · simp only [Act.put, List.setIfInBounds_toArray, List.set_cons_zero, List.set_cons_succ, i64_w, i32_w]
              rfl
            refine pure_ (i := 3) (N := some 29) (v := undef) (a' := ?_) #[true, true, true, true, false, false, false, false, false, false, false, false, false] rfl rfl (by kernel_rfl) (fun _ _ _ h => h) (Or.inr ⟨by rfl, rfl⟩) ?_ ?_
            rotate_left
            · simp only [Act.put, List.setIfInBounds_toArray, List.set_cons_zero, List.set_cons_succ, i64_w, i32_w]
              rfl
            refine pure_ (i := 4) (N := some 30) (v := undef) (a' := ?_) #[true, true, true, true, true, false, false, false, false, false, false, false, false] rfl rfl (by kernel_rfl) (fun _ _ _ h => h) (Or.inr ⟨by rfl, rfl⟩) ?_ ?_
            rotate_left
            · simp only [Act.put, List.setIfInBounds_toArray, List.set_cons_zero, List.set_cons_succ, i64_w, i32_w]
              rfl
            refine pure_ (i := 5) (N := some 31) (v := undef) (a' := ?_) #[true, true, true, true, true, true, false, false, false, false, false, false, false] rfl rfl (by kernel_rfl) (fun _ _ _ h => h) (Or.inr ⟨by rfl, rfl⟩) ?_ ?_
            rotate_left
            · simp only [Act.put, List.setIfInBounds_toArray, List.set_cons_zero, List.set_cons_succ, i64_w, i32_w]
              rfl
            refine pure_ (i := 6) (N := some 32) (v := undef) (a' := ?_) #[true, true, true, true, true, true, true, false, false, false, false, false, false] rfl rfl (by kernel_rfl) (fun _ _ _ h => h) (Or.inr ⟨by rfl, rfl⟩) ?_ ?_
            rotate_left
            · simp only [Act.put, List.setIfInBounds_toArray, List.set_cons_zero, List.set_cons_succ, i64_w, i32_w]
              rfl
            refine pure_ (i := 7) (N := some 33) (v := undef) (a' := ?_) #[true, true, true, true, true, true, true, true, false, false, false, false, false] rfl rfl (by kernel_rfl) (fun _ _ _ h => h) (Or.inr ⟨by rfl, rfl⟩) ?_ ?_
            rotate_left
            · simp only [Act.put, List.setIfInBounds_toArray, List.set_cons_zero, List.set_cons_succ, i64_w, i32_w]
              rfl
            refine pure_ (i := 8) (N := some 34) (v := undef) (a' := ?_) #[true, true, true, true, true, true, true, true, true, false, false, false, false] rfl rfl (by kernel_rfl) (fun _ _ _ h => h) (Or.inr ⟨by rfl, rfl⟩) ?_ ?_
            rotate_left
            · simp only [Act.put, List.setIfInBounds_toArray, List.set_cons_zero, List.set_cons_succ, i64_w, i32_w]
              rfl
            refine pure_ (i := 9) (N := some 35) (v := undef) (a' := ?_) #[true, true, true, true, true, true, true, true, true, true, false, false, false] rfl rfl (by kernel_rfl) (fun _ _ _ h => h) (Or.inr ⟨by rfl, rfl⟩) ?_ ?_
            rotate_left
            · simp only [Act.put, List.setIfInBounds_toArray, List.set_cons_zero, List.set_cons_succ, i64_w, i32_w]
              rfl
            refine pure_ (i := 10) (N := some 36) (v := undef) (a' := ?_) #[true, true, true, true, true, true, true, true, true, true, true, false, false] rfl rfl (by kernel_rfl) (fun _ _ _ h => h) (Or.inr ⟨by rfl, rfl⟩) ?_ ?_
            rotate_left
            · simp only [Act.put, List.setIfInBounds_toArray, List.set_cons_zero, List.set_cons_succ, i64_w, i32_w]
              rfl
            refine pure_ (i := 11) (N := some 37) (v := ?_) (a' := ?_) #[true, true, true, true, true, true, true, true, true, true, true, true, false] rfl rfl (by kernel_rfl) (fun _ _ _ h => h) (Or.inl ⟨by rfl, ?_⟩) ?_ ?_
            rotate_left
            · intro w'
              go_simp
              with_reducible rfl
            rotate_left
            · simp only [Act.put, List.setIfInBounds_toArray, List.set_cons_zero, List.set_cons_succ, i64_w, i32_w]
              rfl
            refine pure_ (i := 12) (N := some 8) (v := ?_) (a' := ?_) #[true, true, true, true, true, true, true, true, true, true, true, true, true] rfl rfl (by kernel_rfl) (fun _ _ _ h => h) (Or.inl ⟨by rfl, ?_⟩) ?_ ?_
            rotate_left
            · intro w'
              go_simp
              with_reducible rfl
            rotate_left
            · simp only [Act.put, List.setIfInBounds_toArray, List.set_cons_zero, List.set_cons_succ, i64_w, i32_w]
              rfl
            refine done_ (by kernel_rfl) ?_
            go_wp2
            go_roundg (gk - 1)
            case measure => have := HKK.out; omega
            case rel => exact ⟨k + 1, ⟨z.W.drew, z.ok.drew⟩, by have := HKK.out; omega, by go_num, by rw [HST.out], rfl⟩
          | false =>
            rw [hkn2, Bool.false_or] at hst
            have HST := Lib.hid hst
            clear hst hkn2
            go_wp2
            refine start_ (n := 13) (S := fun w' => w'.cell? ⟨b3, o3 + k * 3, none⟩ = some (.int .i64 p) ∧ w'.cell? ⟨b3, o3 + k * 3 + 1, none⟩ = some (.int .i64 n) ∧ w'.cell? ⟨b3, o3 + k * 3 + 2, none⟩ = some (.slice A3 zt.length c3) ∧ w'.cell? ⟨b2, o2 + j * 3, none⟩ = some (.int .i64 p) ∧ w'.cell? ⟨b2, o2 + j * 3 + 1, none⟩ = some (.int .i64 n) ∧ w'.cell? ⟨b2, o2 + j * 3 + 2, none⟩ = some (.slice A2 xt.length c2)) (ds := []) #[false, false, false, false, false, false, false, false, false, false, false, false, false] (by kernel_rfl) rfl rfl ⟨u0', u1', u2', p0', p1', p2'⟩ (fun hHeld => ?_)
            refine pure_ (i := 0) (N := some 26) (v := ?_) (a' := ?_) #[true, false, false, false, false, false, false, false, false, false, false, false, false] rfl rfl (by kernel_rfl) (fun _ _ _ h => h) (Or.inl ⟨by rfl, ?_⟩) ?_ ?_
            rotate_left
            · intro w'
              go_simp
              with_reducible rfl
            rotate_left
            · simp only [Act.put, List.setIfInBounds_toArray, List.set_cons_zero, List.set_cons_succ, i64_w, i32_w]
              rfl
            refine pure_ (i := 1) (N := some 27) (v := ?_) (a' := ?_) #[true, true, false, false, false, false, false, false, false, false, false, false, false] rfl rfl (by kernel_rfl) (fun _ _ _ h => h) (Or.inl ⟨by rfl, ?_⟩) ?_ ?_
            rotate_left
            · intro w'
              go_simp
              with_reducible rfl
            rotate_left
            · simp only [Act.put, List.setIfInBounds_toArray, List.set_cons_zero, List.set_cons_succ, i64_w, i32_w]
              rfl
            refine pure_ (i := 2) (N := some 28) (v := ?_) (a' := ?_) #[true, true, true, false, false, false, false, false, false, false, false, false, false] rfl rfl (by kernel_rfl) (fun _ _ _ h => h) (Or.inl ⟨by rfl, ?_⟩) ?_ ?_
            rotate_left
            · intro w'
              go_simp
              with_reducible rfl
            rotate_left
            · simp only [Act.put, List.setIfInBounds_toArray, List.set_cons_zero, List.set_cons_succ, i64_w, i32_w]
              rfl
            refine pure_ (i := 3) (N := some 29) (v := ?_) (a' := ?_) #[true, true, true, true, false, false, false, false, false, false, false, false, false] rfl rfl (by kernel_rfl) (fun _ _ _ h => h) (Or.inl ⟨by rfl, ?_⟩) ?_ ?_
            rotate_left
            · intro w'
              go_simp
              with_reducible rfl
            rotate_left
            · simp only [Act.put, List.setIfInBounds_toArray, List.set_cons_zero, List.set_cons_succ, i64_w, i32_w]
              rfl
            refine pure_ (i := 4) (N := some 30) (v := ?_) (a' := ?_) #[true, true, true, true, true, false, false, false, false, false, false, false, false] rfl rfl (by kernel_rfl) (fun _ _ _ h => h) (Or.inl ⟨by rfl, ?_⟩) ?_ ?_
            rotate_left
            · intro w'
              go_simp
              with_reducible rfl
            rotate_left
            · simp only [Act.put, List.setIfInBounds_toArray, List.set_cons_zero, List.set_cons_succ, i64_w, i32_w]
              rfl
            refine pure_ (i := 6) (N := some 32) (v := ?_) (a' := ?_) #[true, true, true, true, true, false, true, false, false, false, false, false, false] rfl rfl (by kernel_rfl) (fun _ _ _ h => h) (Or.inl ⟨by rfl, ?_⟩) ?_ ?_
            rotate_left
            · intro w'
              go_simp
              with_reducible rfl
            rotate_left
            · simp only [Act.put, List.setIfInBounds_toArray, List.set_cons_zero, List.set_cons_succ, i64_w, i32_w]
              rfl
            refine pure_ (i := 7) (N := some 33) (v := ?_) (a' := ?_) #[true, true, true, true, true, false, true, true, false, false, false, false, false] rfl rfl (by kernel_rfl) (fun _ _ _ h => h) (Or.inl ⟨by rfl, ?_⟩) ?_ ?_
            rotate_left
            · intro w'
              go_simp
              with_reducible rfl
            rotate_left
            · simp only [Act.put, List.setIfInBounds_toArray, List.set_cons_zero, List.set_cons_succ, i64_w, i32_w]
              rfl
            refine pure_ (i := 8) (N := some 34) (v := ?_) (a' := ?_) #[true, true, true, true, true, false, true, true, true, false, false, false, false] rfl rfl (by kernel_rfl) (fun _ _ _ h => h) (Or.inl ⟨by rfl, ?_⟩) ?_ ?_
            rotate_left
            · intro w'
              go_simp
              with_reducible rfl
            rotate_left
            · simp only [Act.put, List.setIfInBounds_toArray, List.set_cons_zero, List.set_cons_succ, i64_w, i32_w]
              rfl
            refine take_ (i := 5) (N := some 31) (v := ?_) (a' := ?_) #[true, true, true, true, true, true, true, true, true, false, false, false, false] rfl rfl (by kernel_rfl) (fun _ _ _ h => h) (Or.inl ⟨by rfl, ?_⟩) hHeld ?_ ?_
            rotate_left
            · rintro w' ⟨s0, s1, s2, s3, s4, s5⟩
              go_simp
              with_reducible rfl
            rotate_left
            · simp only [Act.put, List.setIfInBounds_toArray, List.set_cons_zero, List.set_cons_succ, i64_w, i32_w]
              rfl
            refine take_ (i := 9) (N := some 35) (v := ?_) (a' := ?_) #[true, true, true, true, true, true, true, true, true, true, false, false, false] rfl rfl (by kernel_rfl) (fun _ _ _ h => h) (Or.inl ⟨by rfl, ?_⟩) hHeld ?_ ?_
            rotate_left
            · rintro w' ⟨s0, s1, s2, s3, s4, s5⟩
              go_simp
              with_reducible rfl
            rotate_left
            · simp only [Act.put, List.setIfInBounds_toArray, List.set_cons_zero, List.set_cons_succ, i64_w, i32_w]
              rfl
            refine one_ (i := 10) (N := some 36) #[true, true, true, true, true, true, true, true, true, true, true, false, false] rfl rfl (by kernel_rfl) (by decide) (fun K hK => ?_)
            refine goes_ Tryz.func70 (by kernel_rfl) rfl #[.agg #[.int .i64 p, .int .i64 n, .slice A3 zt.length c3], .agg #[.int .i64 p, .int .i64 n, .slice A2 xt.length c2]] (by rfl) rfl rfl (by simp only [List.map_toArray, List.map_cons, List.map_nil]; rfl) ?_
            with_reducible refine (hS _ (Kd.C_below hDz' (Below.refl _ _).drew) (Kd.C_below hDx' (Below.refl _ _).drew)).mono ?_
            rintro e' yw ⟨rfl, hb9'⟩
            refine ⟨_, rfl, ?_⟩
            have hqx := below_undrewA hb9'
            refine hK.out _ _ ⟨pw_cell_below hqx u0', pw_cell_below hqx u1', pw_cell_below hqx u2', pw_cell_below hqx p0', pw_cell_below hqx p1', pw_cell_below hqx p2'⟩ (fun hHeld => ?_)
            clear hK K
            refine norm_ (a' := ?_) ?_ ?_
            rotate_left
            · show Act.put _ (some 36) _ = _
              simp only [Act.put, List.setIfInBounds_toArray, List.set_cons_zero, List.set_cons_succ, i64_w, i32_w]
              rfl
            refine pure_ (i := 11) (N := some 37) (v := ?_) (a' := ?_) #[true, true, true, true, true, true, true, true, true, true, true, true, false] rfl rfl (by kernel_rfl) (fun _ _ _ h => h) (Or.inl ⟨by rfl, ?_⟩) ?_ ?_
            rotate_left
            · intro w'
              go_simp
              with_reducible rfl
            rotate_left
            · simp only [Act.put, List.setIfInBounds_toArray, List.set_cons_zero, List.set_cons_succ, i64_w, i32_w]
              rfl
            refine pure_ (i := 12) (N := some 8) (v := ?_) (a' := ?_) #[true, true, true, true, true, true, true, true, true, true, true, true, true] rfl rfl (by kernel_rfl) (fun _ _ _ h => h) (Or.inl ⟨by rfl, ?_⟩) ?_ ?_
            rotate_left
            · intro w'
              go_simp
              with_reducible rfl
            rotate_left
            · simp only [Act.put, List.setIfInBounds_toArray, List.set_cons_zero, List.set_cons_succ, i64_w, i32_w]
              rfl
            refine done_ (by kernel_rfl) ?_
            go_wp2
            go_roundg (gk - 1)
            case measure => have := HKK.out; omega
            case rel => exact ⟨k + 1, ⟨yw, z.ok.trans (hqx.mono z.ok.size)⟩, by have := HKK.out; omega, by go_num, by rw [HST.out], rfl⟩
        · have hke : acc.length = k := by have := HKK.out; omega
          subst hke
          cases hz : anyP acc xt acc.length with
          | true =>
            have HT := Lib.hid (orbT_t (x := ⟨p, n, xt⟩) hz)
            clear hz
            go_wp2
            go_roundg (ps.length - j - 1)
            case measure => have := HJK.out; omega
            case rel =>
              refine ⟨j + 1, Q, cq, ?_, ?_, ?_, hb5.trans (z.ok.mono hb5.size), ?_, ?_, ?_, Kd.R_below HR.out.2.1 z.ok⟩
              · have := HJK.out; omega
              · go_num
              · rw [HO.out, HT.out]
              · omega
              · rw [HO.out, HT.out]; exact Kd.R_below HR.out.1 z.ok
              · rw [HO.out, HT.out]; exact HR.out.2.2.2
          | false =>
            have HT := Lib.hid (orbT_f (x := ⟨p, n, xt⟩) hz)
            clear hz
            go_wp2_with ((with_reducible refine gate_ (.call { callee := .builtin .append, args := #[.tmp 40, .tmp 45], argTypes := #[52, 52] }) rfl ?_); refine Kd.R_append kP (w0 := U) (W := z.W) U.heap.size rfl (.tmp 40) (.tmp 45) 52 38 (.agg #[.int .i64 0, .int .i64 0, .slice none 0 0]) 40 rfl Tryz.underlying52 infoPF rfl (by decide) (by decide) (.slice Q acc.length cq) acc ⟨p, n, xt⟩ [.int .i64 p, .int .i64 n, .slice A2 xt.length c2] (fun _ => True) (fun k => k < V.heap.size) rfl rfl ⟨A2, c2, rfl, Kd.R_below HR.out.2.2.1 z.ok⟩ (fun k hk => ⟨trivial, fun he => by have h9 := HR.out.2.2.2 k he.symm; omega⟩) (fun _ _ => trivial) (Kd.R_below HR.out.1 z.ok) (hb5.trans (z.ok.mono hb5.size)) (by omega) (by omega) ?_; intro v1 w1 hR6 hB6 hg6 hat6; obtain ⟨B6, c6, rfl, hl6, hC6⟩ := Kd.R_reads hR6)
            have hs6 := hg6.size
            have hI6 := Kd.R_grown (Kd.R_below HR.out.2.1 z.ok) hg6 (fun k hk he => by
              have h9 := HR.out.2.2.2 k he.symm
              omega)
            go_roundg (ps.length - j - 1)
            case measure => have := HJK.out; omega
            case rel =>
              refine ⟨j + 1, B6, c6, ?_, ?_, ?_, hB6, ?_, ?_, ?_, hI6⟩
              · have := HJK.out; omega
              · go_num
              · simp [HO.out, HT.out]
              · clear hR6 hI6; omega
              · rw [HO.out, HT.out]; exact hR6
              · rw [HO.out, HT.out]
                intro k hk
                rcases hat6 with h9 | ⟨b9, h9, h8⟩
                · exact HR.out.2.2.2 k (h9.symm.trans hk)
                · have h7 := h9.symm.trans hk
                  injection h7 with h7
                  omega
    · have hje : ps.length = j := by have := HJK.out; omega
      subst hje
      rw [List.take_length] at hRq ⊢
      go_wp2
      refine bodyPost_ret (v := .slice Q (orbV ps).length cq) (by simp [results, Tryz.results73, go_sem]) rfl ⟨_, rfl, ?_, ?_⟩
      · exact Kd.R_lower hRq hwU
      · exact hbW.trans (hb.mono hwU)
end Go.Proofs.YtjhkeehfchkpaaaGreat

/- Walks of the functions on polynomials, numbers and rows, of both sides; no condition. -/
import Derived.Test.YtgidpgfkbgbhmaaZShelf
import Derived.Test.YtgidpgfkbgbhmaaZKitR
import Derived.Test.YtgidpgfkbgbhmaaZKitI
/- Rows of rows are sorted by their leads; no condition. -/
set_option linter.unusedVariables false
set_option linter.unusedSimpArgs false
namespace Go.Proofs.Ytgidpgfkbgbhmaa
open Go.RowKit Go.Proofs.YtgidpgfkbgbhmaaW.PrintWords
attribute [local go_sem] Later.cell Later.frozen Later.lt Later.lt_add Later.le Later.le_add Later.ne Later.ne' add_at
set_option maxRecDepth 100000 in
set_option maxHeartbeats 1000000 in
theorem indexFunc_s {w : World} {A : Option Addr} {n c : Nat} {r : List Int} (hC : kI.C w A n r) (hn : n ≤ 1000000) : Calls Try.prog 165 #[.slice A n c, .func (.func 166) #[] #[]] w (Same (.int .i64 (leadI r)) w) := by
  go_enter Try.func165, Try.ntmps165
  go_wp2
  go_loopg [8] n (fun k v w' => ∃ (i : Nat), i + k = n ∧ v = .int .i64 i ∧ w' = w ∧ ∀ j, j < i → r.getD j 0 = 0)
  case atStart => exact ⟨0, by omega, rfl, rfl, fun j hj => by omega⟩
  case round =>
    obtain ⟨i, hik, rfl, rfl, hs⟩ := hrel
    have HIK := Lib.hid hik
    have HS := Lib.hid hs
    clear hik hs
    by_cases hlt : i < n
    · obtain ⟨b, o, hA, q0⟩ := kI_at hC i hlt
      subst hA
      have hi0 : (0 : Int) ≤ i := by omega
      have hi1 : (i : Int) < n := by omega
      have hin : ((i : Int)).toNat = i := by omega
      have hlen := Lib.hid (Kd.C_len hC)
      by_cases hx : r.getD i 0 = 0
      · rw [hx] at q0
        have hlc := lead1_c 0
        have HX := Lib.hid hx
        clear hx
        go_wp2_with (go_at_call 166; (with_reducible refine call_same (hlc _) ?_))
        go_roundg (gk - 1)
        case measure => have := HIK.out; omega
        case rel =>
          refine ⟨i + 1, by have := HIK.out; omega, by go_num, rfl, fun j hj => ?_⟩
          by_cases h : j = i
          · rw [h]; exact HX.out
          · exact HS.out j (by omega)
      · have hl : leadI r = (i : Int) := by
          have := leadN_eq hx HS.out
          unfold leadI
          rw [this, if_pos (by rw [hlen.out]; exact hlt)]
        have hlc := lead1_c (r.getD i 0)
        have hne : (r.getD i 0 != 0) = true := by simpa using hx
        rw [hne] at hlc
        generalize r.getD i 0 = x at *
        go_wp2_with (go_at_call 166; (with_reducible refine call_same (hlc _) ?_))
        try rw [hl]
        exact bodyPost_ret (v := .int .i64 i) (by simp [results, Try.results165, go_sem]) rfl (.mk rfl)
    · have hie : i = n := by have := HIK.out; omega
      subst hie
      have hl : leadI r = -1 := by
        have hlen := Kd.C_len hC
        unfold leadI
        rw [if_neg]
        intro hc
        exact leadN_ne hc (HS.out _ (by omega))
      go_wp2
      try rw [hl]
      exact bodyPost_ret (v := .int .i64 (-1)) (by simp [results, Try.results165, go_sem]) rfl (.mk rfl)
theorem lead_s {w : World} {A : Option Addr} {n c : Nat} {r : List Int} (v : Int) (hC : kI.C w A n r) (hn : n ≤ 1000000) (hv : leadI r = v) : Calls Try.prog 125 #[.slice A n c] w (Same (.int .i64 v) w) := by
  subst hv
  go_enter Try.func125, Try.ntmps125
  go_wp2_with (go_at_call 165; (with_reducible refine call_same (indexFunc_s hC hn) ?_))
  exact bodyPost_ret (v := .int .i64 (leadI r)) (by simp [results, Try.results125, go_sem]) rfl (.mk rfl)
theorem leadI_bd (r : List Int) (h : r.length ≤ 1000000) : -1 ≤ leadI r ∧ leadI r ≤ 1000000 := by
  unfold leadI
  have := leadN_le r
  split <;> omega
set_option maxRecDepth 100000 in
theorem cmp_s {w : World} {A B : Option Addr} {n c m d : Nat} {r s : List Int} (hC : kI.C w A n r) (hn : n ≤ 1000000) (hD : kI.C w B m s) (hm : m ≤ 1000000) : Calls Try.prog 124 #[.slice A n c, .slice B m d] w (Same (.int .i64 (leadI r - leadI s)) w) := by
  have h1 := leadI_bd r (by rw [Kd.C_len hC]; exact hn)
  have h2 := leadI_bd s (by rw [Kd.C_len hD]; exact hm)
  have l1 := lead_s (c := c) (leadI r) hC hn rfl
  have l2 := lead_s (c := d) (leadI s) hD hm rfl
  generalize leadI r = x at *
  generalize leadI s = y at *
  go_enter Try.func124, Try.ntmps124
  go_wp2_with (first | (go_at_call 125; (with_reducible refine call_same l1 ?_)) | (go_at_call 125; (with_reducible refine call_same l2 ?_)))
  exact bodyPost_ret (v := .int .i64 (x - y)) (by simp [results, Try.results124, go_sem]) rfl (.mk rfl)
/-! ### the worlds of the sort -/
section
variable {α : Type} [Inhabited α] (enc : α → Value) (w : World) (g m : Nat) (d : Array α) (os : Array Obj)
theorem sort_other (k : Nat) (hk : k < w.heap.size) (hne : k ≠ g) : (Go.Proofs.sortWorld enc w g 0 m d os).heap[k]? = w.heap[k]? := by
  have hne' : ¬ g = k := fun h => hne h.symm
  show ((w.heap.modify g (Go.Sort.onCells (Go.Sort.putCells enc 0 d))) ++ os)[k]? = w.heap[k]?
  rw [Array.getElem?_append_left (by simpa using hk), Array.getElem?_modify, if_neg hne']
theorem sort_self {cur : Array Value} {e : TypeId} {fr : Nat × Nat} (h : w.heap[g]? = some (.cells cur e fr)) : (Go.Proofs.sortWorld enc w g 0 m d os).heap[g]? = some (.cells (Go.Sort.putCells enc 0 d cur) e fr) := by
  have hk : g < w.heap.size := (Array.getElem?_eq_some_iff.1 h).1
  show ((w.heap.modify g (Go.Sort.onCells (Go.Sort.putCells enc 0 d))) ++ os)[g]? = _
  rw [Array.getElem?_append_left (by simpa using hk), Array.getElem?_modify, if_pos rfl, h]
  rfl
end
/-! ### the elements: a header and the row that it reads -/
def Elt (w : World) (base g : Nat) : Type := { y : Value × List Int // kI.R 2 w base (fun k => k ≠ g) y.1 y.2 ∧ y.2.length ≤ 1000000 }
instance Elt.inst (w : World) (base g : Nat) : Inhabited (Elt w base g) := ⟨⟨(.slice none 0 0, []), Kd.R_nil _ _ _ _ _, by simp⟩⟩
def Elt.enc {w : World} {base g : Nat} (y : Elt w base g) : Value := y.1.1
def Elt.row {w : World} {base g : Nat} (y : Elt w base g) : List Int := y.1.2
def Elt.cf {w : World} {base g : Nat} (x y : Elt w base g) : Int := leadI x.row - leadI y.row
theorem elts_of {P : Value → List Int → Prop} : ∀ (inner : List Value) (out : List (List Int)), inner.length = out.length → (∀ (j : Nat) (p : List Int), out[j]? = some p → ∃ v, inner[j]? = some v ∧ P v p) → ∃ ds : List { y : Value × List Int // P y.1 y.2 }, ds.map (fun y => y.1.1) = inner ∧ ds.map (fun y => y.1.2) = out
  | [], [], _, _ => ⟨[], rfl, rfl⟩
  | v :: inner, r :: out, hl, h => by
    obtain ⟨ds, h1, h2⟩ := elts_of inner out (by simpa using hl) (fun j p hp => by simpa using h (j + 1) p (by simpa using hp))
    obtain ⟨v', hv, hP⟩ := h 0 r rfl
    obtain rfl : v = v' := by simpa using hv
    exact ⟨⟨(v, r), hP⟩ :: ds, by simp [h1], by simp [h2]⟩
  | [], _ :: _, hl, _ => by simp at hl
  | _ :: _, [], hl, _ => by simp at hl
theorem elt_cmp {w : World} {base g n : Nat} : Go.Proofs.CmpLays1 Try.prog 124 #[] (Elt.enc (w := w) (base := base) (g := g)) Elt.cf g 0 n w := by
  intro m os dk hs x y
  obtain ⟨⟨vx, rx⟩, hx, lx⟩ := x
  obtain ⟨⟨vy, ry⟩, hy, ly⟩ := y
  have hm : ∀ k, k ≠ g → k < w.heap.size → (Go.Proofs.sortWorld Elt.enc w g 0 m dk os).heap[k]? = w.heap[k]? := fun k hk hlt => sort_other _ _ _ _ _ _ k hlt hk
  have hx' := Kd.R_step hx hm
  have hy' := Kd.R_step hy hm
  obtain ⟨A, c, e1⟩ := Kd.R_slice hx'
  obtain ⟨B, d, e2⟩ := Kd.R_slice hy'
  have e1 : vx = .slice A rx.length c := e1
  have e2 : vy = .slice B ry.length d := e2
  subst e1
  subst e2
  refine (cmp_s (R_C hx') lx (R_C hy') ly).mono fun e w' ⟨h1, h2⟩ => ⟨h1, 0, #[], ?_⟩
  rw [h2]
  simp [World.drewN]
theorem elt_swo {w : World} {base g : Nat} : Go.Sort.SWO (Go.Proofs.ltOf (Elt.cf (w := w) (base := base) (g := g))) where
  irrefl x := decide_eq_false (by unfold Elt.cf; omega)
  trans x y z h1 h2 := by
    have h1 := of_decide_eq_true h1
    have h2 := of_decide_eq_true h2
    exact decide_eq_true (by unfold Elt.cf at *; omega)
  ntrans x y z h1 h2 := by
    have h1 := of_decide_eq_false h1
    have h2 := of_decide_eq_false h2
    exact decide_eq_false (by unfold Elt.cf at *; omega)
theorem put_take {α : Type} [Inhabited α] (enc : α → Value) (d : Array α) (cur : Array Value) (h : d.size ≤ cur.size) : (Go.Sort.putCells enc 0 d cur).toList.take d.size = d.toList.map enc := by
  refine List.ext_getElem (by simp [Go.Sort.putCells]; omega) fun i h1 h2 => ?_
  have hi : i < d.size := by simpa using h2
  simp [Go.Sort.putCells, hi]
set_option maxHeartbeats 1000000 in
theorem sort_rows {w : World} {base g n c : Nat} {out : List (List Int)} (hR : kL.R 25 w base (fun _ => True) (.slice (some ⟨g, 0, none⟩) n c) out) (hl : ∀ r ∈ out, r.length ≤ 1000000) (hn : n ≤ 1000000) :
    Calls Try.prog 123 #[.slice (some ⟨g, 0, none⟩) n c, .func (.func 124) #[] #[]] w (fun e w' => e = .returned (.tuple #[]) ∧ ∃ out' : List (List Int), out'.Perm out ∧ (∀ i j, i < j → j < out'.length → leadI (out'.getD i []) ≤ leadI (out'.getD j [])) ∧
      kL.R 25 w' base (fun _ => True) (.slice (some ⟨g, 0, none⟩) n c) out' ∧ Below base w w') := by
  obtain ⟨_, inner, hown, hreps⟩ := hR
  obtain ⟨hil, hbody⟩ := hown
  rcases hbody with ⟨hv, _⟩ | ⟨g', cap, cur, hv, hgb, hheap, hnc, hcm, hcs, htake⟩
  · cases hv
  injection hv with hv1 _ hv2
  simp only [Option.some.injEq, Addr.mk.injEq, and_true] at hv1
  obtain rfl := hv1
  subst hv2
  have hsz : kL.sz = 1 := rfl
  rw [hsz, Nat.mul_one] at hil hcs htake
  have hol : out.length = n := by
    have := hreps.1
    rw [hsz, Nat.mul_one] at this
    omega
  obtain ⟨ds, hd1, hd2⟩ : ∃ ds : List (Elt w base g), ds.map Elt.enc = inner ∧ ds.map Elt.row = out := elts_of (P := fun v r => kI.R 2 w base (fun k => k ≠ g) v r ∧ r.length ≤ 1000000) inner out (by omega) (fun j p hp => by
    have h1 := hreps.2 j p hp
    rw [hsz, Nat.mul_one] at h1
    obtain ⟨v, hv, hM⟩ := h1
    have hp' := List.getElem?_eq_some_iff.1 hp
    refine ⟨v, ?_, Kd.R_mono hM (fun k hk he => hk.2 (by rw [he]; rfl)), hl p (by rw [← hp'.2]; exact List.getElem_mem hp'.1)⟩
    have h2 : ((inner.drop j).take 1)[0]? = some v := by rw [hv]; rfl
    rw [List.getElem?_take_of_lt (by omega), List.getElem?_drop] at h2
    simpa using h2)
  have hdl : ds.length = n := by rw [← hol, ← hd2]; simp
  have hgs : g < w.heap.size := (Array.getElem?_eq_some_iff.1 hheap).1
  have hds : ds.toArray.size = n := by simpa using hdl
  have hH : Go.Sort.Holds (Elt.enc (w := w) (base := base) (g := g)) w g 0 ds.toArray := fun j hj => by
    have hj' : j < n := by rw [← hds]; exact hj
    refine ⟨?_, blk_frozen hheap _⟩
    rw [Nat.zero_add, blk_cell hheap]
    have h3 : inner[j]? = some (Elt.enc (ds.toArray[j]!)) := by
      rw [← hd1, List.getElem?_map]
      have : j < ds.length := by omega
      simp [this, Elt.enc]
    rw [← htake, List.getElem?_take_of_lt (by omega)] at h3
    simpa using h3
  have hcon := Try.slices_SortFunc (Elt.enc (w := w) (base := base) (g := g)) (fun x => by
    obtain ⟨⟨v, r⟩, hx, _⟩ := x
    obtain ⟨A, c, e⟩ := Kd.R_slice hx
    show Value.oneCell' v = true
    rw [show v = _ from e]
    rfl) Elt.cf elt_swo 124 #[] g 0 c ds.toArray w (enters_of Try.func124 (by kernel_rfl) rfl) elt_cmp hH hgs (by rw [hds]; omega)
  rw [hds] at hcon
  refine hcon.mono fun e w' ⟨he, d', m, os, hp, hs, hw⟩ => ⟨he, d'.toList.map Elt.row, ?_, ?_, ?_, ?_⟩
  · have h1 := hp.2.2
    have h2 := hp.1
    rw [hds] at h2
    have e1 : d'.extract 0 n = d' := by rw [← h2]; exact Array.extract_size
    have e2 : ds.toArray.extract 0 n = ds.toArray := by rw [← hds]; exact Array.extract_size
    rw [e1, e2] at h1
    have := h1.map Elt.row
    have e3 : ds.toArray.toList.map Elt.row = out := hd2
    rwa [e3] at this
  · intro i j hij hj
    have hj' : j < d'.size := by simpa using hj
    have h2 := hp.1
    rw [hds] at h2
    have := hs i j (Nat.zero_le _) hij (by omega)
    simp [Go.Proofs.ltOf, Elt.cf] at this
    have hi' : i < d'.size := by omega
    simp [List.getD_eq_getElem?_getD, hi', hj'] at this ⊢
    omega
  · subst hw
    have h2 := hp.1
    rw [hds] at h2
    have hm : ∀ k, k ≠ g → k < w.heap.size → (Go.Proofs.sortWorld Elt.enc w g 0 m d' os).heap[k]? = w.heap[k]? := fun k hk hlt => sort_other _ _ _ _ _ _ k hlt hk
    have hdl' : (d'.toList.map Elt.row).length = n := by simpa using h2
    rw [show Value.slice (some ⟨g, 0, none⟩) n c = Value.slice (some ⟨g, 0, none⟩) (d'.toList.map Elt.row).length c by rw [hdl']]
    refine ⟨fun _ _ => trivial, d'.toList.map Elt.enc, ⟨by simp [hsz], .inr ⟨g, c, _, rfl, hgb, sort_self _ _ _ _ _ _ hheap, by rw [hdl']; omega, hcm, by rw [hsz, Nat.mul_one]; simpa [Go.Sort.putCells] using hcs, ?_⟩⟩, ⟨by simp [hsz], fun j p hjp => ?_⟩⟩
    · rw [hsz, Nat.mul_one, hdl']
      have := put_take (Elt.enc (w := w) (base := base) (g := g)) d' cur (by omega)
      rwa [h2] at this
    · rw [hsz, Nat.mul_one]
      obtain ⟨hjl, hjp'⟩ := List.getElem?_eq_some_iff.1 hjp
      have hj' : j < d'.size := by simpa using hjl
      have he : ((d'.toList.map Elt.enc).drop j).take 1 = [Elt.enc d'[j]] := by
        rw [List.drop_eq_getElem_cons (by simpa using hj')]
        simp
      rw [he]
      have hr : p = Elt.row d'[j] := by rw [← hjp']; simp
      rw [hr]
      refine ⟨_, rfl, ?_⟩
      exact Kd.R_mono (Kd.R_step d'[j].2.1 hm) (fun k hk => ⟨trivial, fun h => hk (by simpa [Value.ownBlock] using h)⟩)
  · subst hw
    refine ⟨rfl, rfl, rfl, ?_, fun k hk => sort_other _ _ _ _ _ _ k (by omega) (by omega)⟩
    simp [Go.Proofs.sortWorld, Go.Sort.grow, Go.Sort.putRow, Go.Sort.mapBlock, Go.Sort.ahead]
end Go.Proofs.Ytgidpgfkbgbhmaa
/- The walk of the program's reduce; no condition. -/
set_option linter.unusedVariables false
set_option linter.unusedSimpArgs false
namespace Go.Proofs.Ytgidpgfkbgbhmaa
open Go.RowKit Go.Proofs.YtgidpgfkbgbhmaaW.PrintWords
attribute [local go_sem] Later.cell Later.frozen Later.lt Later.lt_add Later.le Later.le_add Later.ne Later.ne' add_at
theorem call_made {P : Program} {f : FuncId} {args : Array Value} {W : World} {base : Nat} {Rr : Value → World → Prop} {R : Ending → World → Prop}
    (h : Calls P f args W (fun e w' => ∃ v, e = .returned v ∧ Rr v w' ∧ Below base W w')) (k : ∀ w' v, Rr v w' → Below base W w' → R (.returned v) w') : Calls P f args W R :=
  h.mono fun _ w' ⟨v, he, hr, hb⟩ => by subst he; exact k w' v hr hb
theorem take_fold_step {p : Int} {rows : List (List Int)} {i : Nat} (hi : i < rows.length) : (rows.take (i + 1)).foldl (takeL p) [] = takeL p ((rows.take i).foldl (takeL p) []) (rows.getD i []) := by
  rw [List.take_succ_eq_append_getElem hi, List.foldl_append, List.getD_eq_getElem?_getD, List.getElem?_eq_getElem hi]
  rfl
set_option maxRecDepth 100000 in
set_option maxHeartbeats 2000000 in
theorem reduce_c {p : Int} {L : Nat} (hp : primeZ p) (hL : L ≤ 100000) {rows : List (List Int)} (hn : rows.length ≤ 100000) (hr : ∀ r ∈ rows, RowOk p L r) {A : Option Addr} {n c : Nat} {w : World} (hC : kL.C w A n rows) :
    Calls Try.prog 76 #[.int .i64 p, .slice A n c] w (Makes kL 25 (echL p rows) w) := by
  obtain rfl := Kd.C_len hC
  have hR0 := R_zero kL (heap_alloc_last w (.cells #[] 25)) (base := w.heap.size) (by simp)
  have hB0 : Below w.heap.size w (w.alloc (.cells #[] 25)) := (by repeat (first | (with_reducible assumption) | (with_reducible exact Below.refl _ _) | (with_reducible refine Below.drew ?_) | (with_reducible refine pw_below_drewN ?_ _) | ((first | (with_reducible refine Below.alloc ?_ ?_ _) | (with_reducible refine Below.setCell ?_ ?_ _) | (with_reducible refine below_hop (by assumption) ?_ ?_)); rotate_left; (focus (first | omega | (simp; first | done | omega) | (simp [Later.le, Later.le_add, Later.lt, Later.lt_add]; first | done | omega)))) | ((with_reducible refine bel_later _ ?_ ?_); rotate_left; (focus (first | omega | (simp; first | done | omega) | (simp [Later.le, Later.le_add, Later.lt, Later.lt_add]; first | done | omega))))))
  go_enter Try.func76, Try.ntmps76
  go_wp2
  go_loopg [11, 5] rows.length (fun k vi vo w' => ∃ (i : Nat) (y : Later w), i + k = rows.length ∧ vi = .int .i64 i ∧ w' = y.W ∧ kL.R 25 y.W w.heap.size (fun _ => True) vo ((rows.take i).foldl (takeL p) []))
  case atStart => exact ⟨0, ⟨_, hB0⟩, by omega, rfl, rfl, hR0⟩
  case round =>
    clear hR0 hB0
    obtain ⟨i, y, hik, rfl, rfl, hR⟩ := hrel
    have HIK := Lib.hid hik
    clear hik
    obtain ⟨hred, holen⟩ := echL_take hp hr i
    have hperm := take_fold hp hr i
    by_cases hi : i < rows.length
    · obtain ⟨b, o, Br, cr, hA, q0, hcr, hCr⟩ := kL_at hC i hi
      subst hA
      have q0 := y.keep q0
      have hCy := Kd.C_below hCr y.ok
      have hrow : RowOk p L (rows.getD i []) := hr _ (getD_mem _ hi)
      have HST := Lib.hid (take_fold_step (p := p) hi)
      obtain ⟨Ao, co, hvo⟩ := Kd.R_slice hR
      subst hvo
      have hol : ((rows.take i).foldl (takeL p) []).length ≤ 100000 := by rw [hperm.length_eq]; omega
      have hled : ∀ r ∈ (rows.take i).foldl (takeL p) [], Led p L r := fun r hr => hred.led r (hperm.mem_iff.1 hr)
      have hi0 : (0 : Int) ≤ i := by omega
      have hi1 : (i : Int) < rows.length := by omega
      have hin : ((i : Int)).toNat = i := by omega
      have htk := take_i (d := cr) hp hL hol hled hrow y.ok.size hR hCy
      clear hperm
      generalize rows.getD i [] = row at *
      generalize (rows.take i).foldl (takeL p) [] = out at *
      go_wp2_with ((go_at_call 122; (with_reducible refine call_made htk ?_); intro w6 v6 hR6 hB6))
      go_roundg (gk - 1)
      case measure => have := HIK.out; omega
      case rel =>
        refine ⟨i + 1, ⟨w6, y.ok.trans hB6⟩, by have := HIK.out; omega, by go_num, rfl, ?_⟩
        rw [HST.out]
        exact hR6
    · have hie : i = rows.length := by have := HIK.out; omega
      subst hie
      rw [List.take_length] at hR hred hperm holen
      obtain ⟨Ao, co, hvo⟩ := Kd.R_slice hR
      subst hvo
      have hledo : ∀ r ∈ rows.foldl (takeL p) [], r.length ≤ 1000000 := fun r hr => by
        rw [(hred.led r (hperm.mem_iff.1 hr)).ok.len]
        omega
      have hol : (rows.foldl (takeL p) []).length ≤ 1000000 := by rw [hperm.length_eq]; omega
      by_cases h0 : 0 < (rows.foldl (takeL p) []).length
      · obtain ⟨g, cap, hv, hgb, hgs, _⟩ := Kd.R_form hR h0
        injection hv with hv1 hv3 hv2
        subst hv1
        subst hv2
        have hsort := sort_rows hR hledo hol
        have HRD := Lib.hid hred
        have HPM := Lib.hid hperm
        clear hred hperm hledo
        generalize rows.foldl (takeL p) [] = out at *
        go_wp2_with ((go_at_call 123; refine hsort.mono ?_; rintro e w7 ⟨rfl, out', hp1, hs1, hR7, hB7⟩))
        have heq := sorted_eq (hp1.trans HPM.out) HRD.out hs1
        refine bodyPost_ret (v := .slice (some ⟨g, 0, none⟩) out.length co) (by simp [results, Try.results76, go_sem]) rfl ⟨_, rfl, ?_, y.ok.trans hB7⟩
        rw [← heq]
        exact hR7
      · have hnil : rows.foldl (takeL p) [] = [] := List.eq_nil_of_length_eq_zero (by omega)
        have he : echL p rows = [] := by
          rw [hnil] at hperm
          exact hperm.nil_eq.symm
        rw [hnil] at hR ⊢
        have hsort := fun fv W => Try.slices_SortFunc_none (α := Int) Ao co fv W
        clear hperm hred hledo hol h0
        go_wp2_with ((go_at_call 123; refine (hsort _ _).mono ?_; rintro e w7 ⟨rfl, rfl⟩))
        refine bodyPost_ret (v := .slice Ao 0 co) (by simp [results, Try.results76, go_sem]) rfl ⟨_, rfl, ?_, y.ok⟩
        rw [he]
        exact hR
end Go.Proofs.Ytgidpgfkbgbhmaa
/- The walk of the program's inverse of a matrix; no condition. -/
set_option linter.unusedVariables false
set_option linter.unusedSimpArgs false
namespace Go.Proofs.Ytgidpgfkbgbhmaa
open Go.RowKit Go.Proofs.YtgidpgfkbgbhmaaW.PrintWords
attribute [local go_sem] Later.cell Later.frozen Later.lt Later.lt_add Later.le Later.le_add Later.ne Later.ne' add_at
theorem grown_refl (w : World) (row : Option Nat) : w.grownBy w row := ⟨rfl, rfl, rfl, Nat.le_refl _, fun _ _ _ => rfl⟩
theorem grown_set {w w' : World} {b : Nat} (h : w.grownBy w' (some b)) (k : Nat) (v : Value) : w.grownBy (w'.setCell ⟨b, k, none⟩ v) (some b) :=
  ⟨h.os, h.tape, h.output, by simpa using h.size, fun i hi hne => (Below.heap_setCell w' ⟨b, k, none⟩ v i (fun e => hne (by rw [e]))).trans (h.block i hi hne)⟩
theorem grown_drew {w w' : World} {row : Option Nat} (h : w.grownBy w' row) : w.grownBy w'.drew row := ⟨h.os, h.tape, h.output, h.size, h.block⟩
set_option maxRecDepth 100000 in
set_option maxHeartbeats 4000000 in
theorem inverted_c (p : Int) (n : Nat) (g : M9) (w : World) (hp : primeZ p) (hn1 : 1 ≤ n) (hn3 : n ≤ 3) (hg : g.le p) :
    Calls Try.prog 107 #[.int .i64 p, .int .i64 n, .agg #[.int .u8 (g.r0.a.toNat : Int), .int .u8 (g.r0.b.toNat : Int), .int .u8 (g.r0.c.toNat : Int), .int .u8 (g.r1.a.toNat : Int), .int .u8 (g.r1.b.toNat : Int), .int .u8 (g.r1.c.toNat : Int), .int .u8 (g.r2.a.toNat : Int), .int .u8 (g.r2.b.toNat : Int), .int .u8 (g.r2.c.toNat : Int)]] w (Gives (.agg #[.int .u8 ((invM p n g.num).r0.a.toNat : Int), .int .u8 ((invM p n g.num).r0.b.toNat : Int), .int .u8 ((invM p n g.num).r0.c.toNat : Int), .int .u8 ((invM p n g.num).r1.a.toNat : Int), .int .u8 ((invM p n g.num).r1.b.toNat : Int), .int .u8 ((invM p n g.num).r1.c.toNat : Int), .int .u8 ((invM p n g.num).r2.a.toNat : Int), .int .u8 ((invM p n g.num).r2.b.toNat : Int), .int .u8 ((invM p n g.num).r2.c.toNat : Int)]) w) := by
  obtain ⟨hp2, hp13⟩ := hp.two
  have hA := num_ok hg
  have hnc : n = 1 ∨ n = 2 ∨ n = 3 := by omega
  have HG := Lib.hid hg
  clear hg
  go_enter Try.func107, Try.ntmps107
  go_wp2
  have c1 : ∀ i j, i < 3 → j < 3 → ((w.alloc (.cells #[.int .u8 (g.r0.a.toNat : Int), .int .u8 (g.r0.b.toNat : Int), .int .u8 (g.r0.c.toNat : Int), .int .u8 (g.r1.a.toNat : Int), .int .u8 (g.r1.b.toNat : Int), .int .u8 (g.r1.c.toNat : Int), .int .u8 (g.r2.a.toNat : Int), .int .u8 (g.r2.b.toNat : Int), .int .u8 (g.r2.c.toNat : Int)] 76)).alloc (.cells #[.int .u8 0, .int .u8 0, .int .u8 0, .int .u8 0, .int .u8 0, .int .u8 0, .int .u8 0, .int .u8 0, .int .u8 0] 76)).cell? ⟨w.heap.size, i * 3 + j, none⟩ = some (.int .u8 (g.num i j)) := fun i j hi hj => cell_alloc (box_at w g _ i j hi hj) _
  have r1 : ∀ k, k < 9 → ((w.alloc (.cells #[.int .u8 (g.r0.a.toNat : Int), .int .u8 (g.r0.b.toNat : Int), .int .u8 (g.r0.c.toNat : Int), .int .u8 (g.r1.a.toNat : Int), .int .u8 (g.r1.b.toNat : Int), .int .u8 (g.r1.c.toNat : Int), .int .u8 (g.r2.a.toNat : Int), .int .u8 (g.r2.b.toNat : Int), .int .u8 (g.r2.c.toNat : Int)] 76)).alloc (.cells #[.int .u8 0, .int .u8 0, .int .u8 0, .int .u8 0, .int .u8 0, .int .u8 0, .int .u8 0, .int .u8 0, .int .u8 0] 76)).cell? ⟨w.heap.size + 1, k, none⟩ = some (.int .u8 0) := fun k hk => by
    have h2 := z_at (w.alloc (.cells #[.int .u8 (g.r0.a.toNat : Int), .int .u8 (g.r0.b.toNat : Int), .int .u8 (g.r0.c.toNat : Int), .int .u8 (g.r1.a.toNat : Int), .int .u8 (g.r1.b.toNat : Int), .int .u8 (g.r1.c.toNat : Int), .int .u8 (g.r2.a.toNat : Int), .int .u8 (g.r2.b.toNat : Int), .int .u8 (g.r2.c.toNat : Int)] 76)) 76 (k / 3) (k % 3) (by omega) (by omega)
    rw [show (w.alloc (.cells #[.int .u8 (g.r0.a.toNat : Int), .int .u8 (g.r0.b.toNat : Int), .int .u8 (g.r0.c.toNat : Int), .int .u8 (g.r1.a.toNat : Int), .int .u8 (g.r1.b.toNat : Int), .int .u8 (g.r1.c.toNat : Int), .int .u8 (g.r2.a.toNat : Int), .int .u8 (g.r2.b.toNat : Int), .int .u8 (g.r2.c.toNat : Int)] 76)).heap.size = w.heap.size + 1 by simp, show k / 3 * 3 + k % 3 = k by omega] at h2
    exact h2
  have rf : ∀ k, ((w.alloc (.cells #[.int .u8 (g.r0.a.toNat : Int), .int .u8 (g.r0.b.toNat : Int), .int .u8 (g.r0.c.toNat : Int), .int .u8 (g.r1.a.toNat : Int), .int .u8 (g.r1.b.toNat : Int), .int .u8 (g.r1.c.toNat : Int), .int .u8 (g.r2.a.toNat : Int), .int .u8 (g.r2.b.toNat : Int), .int .u8 (g.r2.c.toNat : Int)] 76)).alloc (.cells #[.int .u8 0, .int .u8 0, .int .u8 0, .int .u8 0, .int .u8 0, .int .u8 0, .int .u8 0, .int .u8 0, .int .u8 0] 76)).frozen? ⟨w.heap.size + 1, k, none⟩ = false := fun k => by
    have := z_fr (w.alloc (.cells #[.int .u8 (g.r0.a.toNat : Int), .int .u8 (g.r0.b.toNat : Int), .int .u8 (g.r0.c.toNat : Int), .int .u8 (g.r1.a.toNat : Int), .int .u8 (g.r1.b.toNat : Int), .int .u8 (g.r1.c.toNat : Int), .int .u8 (g.r2.a.toNat : Int), .int .u8 (g.r2.b.toNat : Int), .int .u8 (g.r2.c.toNat : Int)] 76)) (.cells #[.int .u8 0, .int .u8 0, .int .u8 0, .int .u8 0, .int .u8 0, .int .u8 0, .int .u8 0, .int .u8 0, .int .u8 0] 76) k _ _ rfl
    rwa [show (w.alloc (.cells #[.int .u8 (g.r0.a.toNat : Int), .int .u8 (g.r0.b.toNat : Int), .int .u8 (g.r0.c.toNat : Int), .int .u8 (g.r1.a.toNat : Int), .int .u8 (g.r1.b.toNat : Int), .int .u8 (g.r1.c.toNat : Int), .int .u8 (g.r2.a.toNat : Int), .int .u8 (g.r2.b.toNat : Int), .int .u8 (g.r2.c.toNat : Int)] 76)).heap.size = w.heap.size + 1 by simp] at this
  have hs0 : ((w.alloc (.cells #[.int .u8 (g.r0.a.toNat : Int), .int .u8 (g.r0.b.toNat : Int), .int .u8 (g.r0.c.toNat : Int), .int .u8 (g.r1.a.toNat : Int), .int .u8 (g.r1.b.toNat : Int), .int .u8 (g.r1.c.toNat : Int), .int .u8 (g.r2.a.toNat : Int), .int .u8 (g.r2.b.toNat : Int), .int .u8 (g.r2.c.toNat : Int)] 76)).alloc (.cells #[.int .u8 0, .int .u8 0, .int .u8 0, .int .u8 0, .int .u8 0, .int .u8 0, .int .u8 0, .int .u8 0, .int .u8 0] 76)).heap.size = w.heap.size + 2 := by simp
  have hb0 : Below w.heap.size w ((w.alloc (.cells #[.int .u8 (g.r0.a.toNat : Int), .int .u8 (g.r0.b.toNat : Int), .int .u8 (g.r0.c.toNat : Int), .int .u8 (g.r1.a.toNat : Int), .int .u8 (g.r1.b.toNat : Int), .int .u8 (g.r1.c.toNat : Int), .int .u8 (g.r2.a.toNat : Int), .int .u8 (g.r2.b.toNat : Int), .int .u8 (g.r2.c.toNat : Int)] 76)).alloc (.cells #[.int .u8 0, .int .u8 0, .int .u8 0, .int .u8 0, .int .u8 0, .int .u8 0, .int .u8 0, .int .u8 0, .int .u8 0] 76)) := (by repeat (first | (with_reducible assumption) | (with_reducible exact Below.refl _ _) | (with_reducible refine Below.drew ?_) | (with_reducible refine pw_below_drewN ?_ _) | ((first | (with_reducible refine Below.alloc ?_ ?_ _) | (with_reducible refine Below.setCell ?_ ?_ _) | (with_reducible refine below_hop (by assumption) ?_ ?_)); rotate_left; (focus (first | omega | (simp; first | done | omega) | (simp [Later.le, Later.le_add, Later.lt, Later.lt_add]; first | done | omega)))) | ((with_reducible refine bel_later _ ?_ ?_); rotate_left; (focus (first | omega | (simp; first | done | omega) | (simp [Later.le, Later.le_add, Later.lt, Later.lt_add]; first | done | omega))))))
  generalize (w.alloc (.cells #[.int .u8 (g.r0.a.toNat : Int), .int .u8 (g.r0.b.toNat : Int), .int .u8 (g.r0.c.toNat : Int), .int .u8 (g.r1.a.toNat : Int), .int .u8 (g.r1.b.toNat : Int), .int .u8 (g.r1.c.toNat : Int), .int .u8 (g.r2.a.toNat : Int), .int .u8 (g.r2.b.toNat : Int), .int .u8 (g.r2.c.toNat : Int)] 76)).alloc (.cells #[.int .u8 0, .int .u8 0, .int .u8 0, .int .u8 0, .int .u8 0, .int .u8 0, .int .u8 0, .int .u8 0, .int .u8 0] 76) = W0 at *
  have hR0 := R_zero kL (heap_alloc_last W0 (.cells #[] 25)) (base := W0.heap.size) (by simp)
  have hB0 : Below W0.heap.size W0 (W0.alloc (.cells #[] 25)) := (by repeat (first | (with_reducible assumption) | (with_reducible exact Below.refl _ _) | (with_reducible refine Below.drew ?_) | (with_reducible refine pw_below_drewN ?_ _) | ((first | (with_reducible refine Below.alloc ?_ ?_ _) | (with_reducible refine Below.setCell ?_ ?_ _) | (with_reducible refine below_hop (by assumption) ?_ ?_)); rotate_left; (focus (first | omega | (simp; first | done | omega) | (simp [Later.le, Later.le_add, Later.lt, Later.lt_add]; first | done | omega)))) | ((with_reducible refine bel_later _ ?_ ?_); rotate_left; (focus (first | omega | (simp; first | done | omega) | (simp [Later.le, Later.le_add, Later.lt, Later.lt_add]; first | done | omega))))))
  have C1 := Lib.hid c1
  have R1 := Lib.hid r1
  have RF := Lib.hid rf
  have HB0 := Lib.hid hb0
  have HS0 := Lib.hid hs0
  clear c1 r1 rf hb0 hs0
  go_loopg [17, 7] n (fun k vi vr w' => ∃ (i : Nat) (y : Later W0), i + k = n ∧ vi = .int .i64 i ∧ w' = y.W ∧ kL.R 25 y.W W0.heap.size (fun _ => True) vr (augRows n g.num i))
  case atStart => exact ⟨0, ⟨_, hB0⟩, by omega, rfl, rfl, by
    have h := hR0
    rw [HS0.out] at h
    show kL.R _ _ W0.heap.size _ _ _
    rw [HS0.out]
    exact h⟩
  case round =>
    clear hR0 hB0
    obtain ⟨i, y, hik, rfl, rfl, hR⟩ := hrel
    have HIK := Lib.hid hik
    clear hik
    by_cases hlt : i < n
    · have hi1 : (i : Int) < n := by omega
      have hi3 : (i : Int) < 3 := by omega
      have hi0 : (0 : Int) ≤ i := by omega
      have hin : ((i : Int)).toNat = i := by omega
      have w2 := i64_small (n := 2 * (n : Int)) (by omega) (by omega)
      go_wp2_with (refine Kd.R_make kI (w0 := y.W) y.W.heap.size 2 rfl (N := 22) rfl 25 (.tmp 21) (.tmp 21) rfl (2 * (n : Int)) rfl rfl Try.underlying25 _ 8 infoI rfl (by decide) (by decide) 0 (ok := fun _ => True) (okp := fun _ => False) rfl (fun _ h => h.elim) trivial (by omega) (by omega) (Below.refl _ _) (Nat.le_refl _) ?_; intro v1 w1 HR hb1 _ _)
      rw [show (2 * (n : Int)).toNat = 2 * n by omega, fillRow_zero n g.num i] at HR
      obtain ⟨gb, cap, hv, hgb, hgs, _⟩ := Kd.R_form HR (by rw [fillRow_len]; omega)
      rw [fillRow_len] at hv
      subst hv
      have hL2 : 2 * n ≤ n + n := by omega
      have hL3 : n + n ≤ 2 * n := by omega
      generalize 2 * n = L at *
      go_loopg [24] n (fun k v w' => ∃ (j : Nat) (z : Later W0), j + k = n ∧ v = .int .i64 j ∧ w' = z.W ∧ Below y.W.heap.size y.W z.W ∧ kI.R 2 z.W y.W.heap.size (fun _ => True) (.slice (some ⟨gb, 0, none⟩) L cap) (fillRow n g.num i j))
      case atStart => exact ⟨0, ⟨w1, y.ok.trans (hb1.mono y.ok.size)⟩, by omega, rfl, rfl, hb1, HR⟩
      case round =>
        clear HR hb1 hgs
        obtain ⟨j, z, hjk, rfl, rfl, hbz, hRz⟩ := hrel
        have HJK := Lib.hid hjk
        clear hjk
        by_cases hj : j < n
        · have q := pw_cell_below hbz (y.keep (C1.out i j (by omega) (by omega)))
          obtain ⟨f0, f1⟩ := kI_cell hRz j (by omega)
          have HST := Lib.hid (fillRow_step n g.num i j hj)
          have hnum := hA i j
          generalize g.num i j = x at *
          generalize (fillRow n g.num i j).getD j 0 = xo at *
          have hj1 : (j : Int) < n := by omega
          have hj3 : (j : Int) < 3 := by omega
          have hjL : (j : Int) < L := by omega
          have hj0 : (0 : Int) ≤ j := by omega
          have hjn : ((j : Int)).toNat = j := by omega
          go_wp2
          go_roundg (gk - 1)
          case measure => have := HJK.out; omega
          case rel =>
            refine ⟨j + 1, ⟨z.W.setCell ⟨gb, j, none⟩ (.int .i64 x), z.ok.setCell (by have := y.ok.size; show W0.heap.size ≤ gb; omega) _⟩, by have := HJK.out; omega, by go_num, rfl, hbz.setCell (show y.W.heap.size ≤ gb from hgb) _, ?_⟩
            rw [← HST.out]
            exact kI_set hRz j _
        · have hje : j = n := by have := HJK.out; omega
          subst hje
          have e4 : ((j : Int) + (i : Int)).toNat = j + i := by omega
          have w3 := i64_small (n := (j : Int) + i) (by omega) (by omega)
          have hjL : (j : Int) + i < L := by omega
          have hj0 : (0 : Int) ≤ (j : Int) + i := by omega
          obtain ⟨f0, f1⟩ := kI_cell hRz (j + i) (by omega)
          have hRs := Kd.R_below hR (hbz.setCell (show y.W.heap.size ≤ gb from hgb) (p := ⟨gb, j + i, none⟩) (.int .i64 1))
          have hRo := Kd.R_lower (kI_set hRz (j + i) 1) y.ok.size
          rw [fillRow_one j g.num i hlt] at hRo
          have hBs := z.ok.setCell (by have := y.ok.size; show W0.heap.size ≤ gb; omega) (p := ⟨gb, j + i, none⟩) (.int .i64 1)
          obtain ⟨Ar, cr, hvr, hlr, hCr⟩ := Kd.R_reads hR
          rw [augRows_len] at hvr
          subst hvr
          generalize (fillRow j g.num i j).getD (j + i) 0 = xo at *
          go_wp2_with (((with_reducible refine gate_ (.call { callee := .builtin .append, args := #[.tmp 42, .tmp 44], argTypes := #[39, 39] }) rfl ?_); have hM := Kd.M_row (num_apart hRs hRo); have hMk := (fun (k : Nat) (hk : some k ≠ (Value.slice Ar i cr).ownBlock) => (⟨trivial, hk⟩ : True ∧ some k ≠ (Value.slice Ar i cr).ownBlock)); refine Kd.R_append kL (w0 := W0) (W := z.W.setCell ⟨gb, j + i, none⟩ (.int .i64 1)) (W0).heap.size rfl (.tmp 42) (.tmp 44) 39 25 (.slice none 0 0) 24 rfl Try.underlying39 infoL rfl (by decide) (by decide) (Value.slice Ar i cr) (augRows j g.num i) (augRow j g.num i) [.slice (some ⟨gb, 0, none⟩) L cap] (fun _ => True) (fun k => some k ≠ (Value.slice Ar i cr).ownBlock) rfl (by first | rfl | (simp [go_sem]; done)) hM hMk (fun _ _ => trivial) hRs hBs (hBs).size (by rw [augRows_len]; omega) ?_; intro v6 w6 hR6 hB6 hg6 _))
          go_roundg (j - i - 1)
          case measure => have := HIK.out; omega
          case rel =>
            refine ⟨i + 1, ⟨w6, hB6⟩, by have := HIK.out; omega, by go_num, rfl, ?_⟩
            rw [augRows_succ]
            exact hR6
    · have hie : i = n := by have := HIK.out; omega
      subst hie
      obtain ⟨Ar, cr, hvr, hlr, hCr⟩ := Kd.R_reads hR
      rw [augRows_len] at hvr hCr hlr
      subst hvr
      have hbo : Below y.W.heap.size y.W (y.W.alloc (.cells #[.int .u8 0, .int .u8 0, .int .u8 0, .int .u8 0, .int .u8 0, .int .u8 0, .int .u8 0, .int .u8 0, .int .u8 0] 76)) := (by repeat (first | (with_reducible assumption) | (with_reducible exact Below.refl _ _) | (with_reducible refine Below.drew ?_) | (with_reducible refine pw_below_drewN ?_ _) | ((first | (with_reducible refine Below.alloc ?_ ?_ _) | (with_reducible refine Below.setCell ?_ ?_ _) | (with_reducible refine below_hop (by assumption) ?_ ?_)); rotate_left; (focus (first | omega | (simp; first | done | omega) | (simp [Later.le, Later.le_add, Later.lt, Later.lt_add]; first | done | omega)))) | ((with_reducible refine bel_later _ ?_ ?_); rotate_left; (focus (first | omega | (simp; first | done | omega) | (simp [Later.le, Later.le_add, Later.lt, Later.lt_add]; first | done | omega))))))
      have hyo := y.ok
      have c3 : ∀ i' j', i' < 3 → j' < 3 → (y.W.alloc (.cells #[.int .u8 0, .int .u8 0, .int .u8 0, .int .u8 0, .int .u8 0, .int .u8 0, .int .u8 0, .int .u8 0, .int .u8 0] 76)).cell? ⟨y.W.heap.size, i' * 3 + j', none⟩ = some (.int .u8 0) := fun i' j' hi hj => z_at y.W 76 i' j' hi hj
      have c4 : ∀ k, (y.W.alloc (.cells #[.int .u8 0, .int .u8 0, .int .u8 0, .int .u8 0, .int .u8 0, .int .u8 0, .int .u8 0, .int .u8 0, .int .u8 0] 76)).frozen? ⟨y.W.heap.size, k, none⟩ = false := fun k => z_fr y.W (.cells #[.int .u8 0, .int .u8 0, .int .u8 0, .int .u8 0, .int .u8 0, .int .u8 0, .int .u8 0, .int .u8 0, .int .u8 0] 76) k _ _ rfl
      have hred := reduce_c hp (L := 2 * i) (by omega) (rows := augRows i g.num i) (c := cr) (by rw [augRows_len]; omega) (fun r hr => by
        obtain ⟨t, ht, rfl⟩ := List.mem_map.1 hr
        exact (augRow_ok hp2 hA t (List.mem_range.1 ht)).ok) (Kd.C_below hCr hbo)
      change Calls _ _ _ _ (Makes kL _ (invRows p i g.num) _) at hred
      have hlen := inv_length (n := i) hp hA
      have hrows := inv_ok (n := i) hp hA
      have HROW := Lib.hid (fun i' (hi : i' < i) => hrows _ (getD_mem [] (show i' < (invRows p i g.num).length by omega)))
      have HDE := Lib.hid (doneI_end p i g.num)
      have R1Y := Lib.hid (fun k (hk : k < 9) => cell_alloc (y.keep (R1.out k hk)) (.cells #[.int .u8 0, .int .u8 0, .int .u8 0, .int .u8 0, .int .u8 0, .int .u8 0, .int .u8 0, .int .u8 0, .int .u8 0] 76))
      have hs2 : w.heap.size + 2 ≤ y.W.heap.size := by rw [← HS0.out]; exact hyo.size
      have RFY := Lib.hid (fun k => ((hbo.frozen (p := ⟨w.heap.size + 1, k, none⟩) (by show w.heap.size + 1 < _; omega)).trans ((hyo.frozen (p := ⟨w.heap.size + 1, k, none⟩) (by show w.heap.size + 1 < _; rw [HS0.out]; omega)).trans (RF.out k))))
      have hsy : (y.W.alloc (.cells #[.int .u8 0, .int .u8 0, .int .u8 0, .int .u8 0, .int .u8 0, .int .u8 0, .int .u8 0, .int .u8 0, .int .u8 0] 76)).heap.size = y.W.heap.size + 1 := by simp
      have HBY := Lib.hid ((HB0.out.trans (hyo.mono HB0.out.size)).trans (hbo.mono (by omega)))
      clear hrows hR
      go_wp2_with (go_at_call 76; (with_reducible refine call_makes hred ?_); intro x A1 c1 hb1 hl1 hR1 hC1)
      generalize hwy : y.W.alloc (.cells #[.int .u8 0, .int .u8 0, .int .u8 0, .int .u8 0, .int .u8 0, .int .u8 0, .int .u8 0, .int .u8 0, .int .u8 0] 76) = Wy at *
      generalize hob : y.W.heap.size = ob at *
      clear hwy hob hbo hyo
      rw [hlen] at hl1 hC1 hR1
      have C3 := Lib.hid (fun i' j' (h1 : i' < 3) (h2 : j' < 3) => x.keep (c3 i' j' h1 h2))
      have C4 := Lib.hid (fun k => (x.ok.frozen (p := ⟨ob, k, none⟩) (by show ob < _; omega)).trans (c4 k))
      have R1X := Lib.hid (fun k (hk : k < 9) => x.keep (R1Y.out k hk))
      have RFX := Lib.hid (fun k => (x.ok.frozen (p := ⟨w.heap.size + 1, k, none⟩) (by show w.heap.size + 1 < _; omega)).trans (RFY.out k))
      have HBX := Lib.hid (HBY.out.trans (x.ok.mono HBY.out.size))
      have hRo := Kd.R_mono (Kd.R_bound hR1) (ok' := fun k => some k ≠ some ob) (fun k hk he => by
        have h1 := hk.2.1
        injection he with he
        omega)
      have hobx : ob < x.W.heap.size := by have := x.ok.size; omega
      clear c3 c4 hred hR1 hC1 hb1 hCr hlr hlen
      generalize x.W = X at *
      obtain ⟨g5, cap5, hv5, _, hg5s, _⟩ := Kd.R_form hRo (by rw [inv_length (n := i) hp hA]; omega)
      injection hv5 with hv5 hv6 hv7
      clear hv6
      subst hv5
      subst hv7
      have hne5 : some g5 ≠ some ob := hRo.1 g5 rfl
      go_loopg [52] i (fun k v w' => ∃ (r : Nat), r + k = i ∧ v = .int .i64 r ∧ X.grownBy w' (some ob) ∧ (∀ i' j', i' < 3 → j' < 3 → w'.cell? ⟨ob, i' * 3 + j', none⟩ = some (.int .u8 ((doneI p i g.num r 0 i' j').toNat : Int))) ∧ ∀ k, w'.frozen? ⟨ob, k, none⟩ = false)
      case atStart => exact ⟨0, by omega, rfl, grown_refl X _, fun i' j' h1 h2 => by rw [C3.out i' j' h1 h2]; simp [doneI], C4.out⟩
      case round =>
        obtain ⟨r, hrk, rfl, hgx, hc, hf⟩ := hrel
        have HRK := Lib.hid hrk
        have HC := Lib.hid hc
        have HF := Lib.hid hf
        clear hrk hc hf
        by_cases hr : r < i
        · have hrow := HROW.out r hr
          have hr0 : (0 : Int) ≤ r := by omega
          have hr1 : (r : Int) < i := by omega
          have hrn : ((r : Int)).toNat = r := by omega
          obtain ⟨ce, hcl, ⟨ve, hve, hRrow⟩, hcc, _⟩ := Kd.R_elem hRo [] (r : Int) hr0 (by omega)
          subst hve
          rw [hrn] at hRrow hcc
          have qX : X.cell? ⟨g5, r, none⟩ = some ve := by
            have := hcc 0 ve rfl
            have e : r * kL.sz + 0 = r := by show r * 1 + 0 = r; omega
            rwa [e] at this
          obtain ⟨Br, cr2, hvs⟩ := Kd.R_slice hRrow
          subst hvs
          have qx := far_cell hgx qX hne5
          clear hcc hcl
          generalize hrw : (invRows p i g.num).getD r [] = row at *
          have HRW := Lib.hid hrw
          clear hrw
          go_wp2
          have hgx0 := hgx
          go_loopg [58] i (fun k v w' => ∃ (j : Nat), j + k = i ∧ v = .int .i64 j ∧ X.grownBy w' (some ob) ∧ (∀ i' j', i' < 3 → j' < 3 → w'.cell? ⟨ob, i' * 3 + j', none⟩ = some (.int .u8 ((doneI p i g.num r j i' j').toNat : Int))) ∧ ∀ k, w'.frozen? ⟨ob, k, none⟩ = false)
          case atStart => exact ⟨0, by omega, rfl, hgx0, HC.out, HF.out⟩
          case round =>
            clear qx hgx hgx0 HC HF
            obtain ⟨j, hjk, rfl, hgy, hc3, hf3⟩ := hrel
            have HJK := Lib.hid hjk
            have HC3 := Lib.hid hc3
            have HF3 := Lib.hid hf3
            clear hjk hc3 hf3
            by_cases hj : j < i
            · have hCrow := R_C (Kd.R_grown hRrow hgy (fun k hk => hk.1))
              obtain ⟨b3, o3, hB, sx⟩ := kI_at hCrow (i + j) (by rw [hrow.ok.len]; omega)
              subst hB
              have hv := hrow.ok.nums (i + j)
              have hvl : (i : Int) + j < row.length := by rw [hrow.ok.len]; omega
              have HVD := Lib.hid (show doneI p i g.num r (j + 1) r j = uB (row.getD (i + j) 0) by rw [doneI, if_pos ⟨hj, .inr ⟨rfl, by omega⟩⟩, HRW.out])
              generalize row.getD (i + j) 0 = v at *
              have g3 := HC3.out r j (by omega) (by omega)
              have g4 := HF3.out (r * 3 + j)
              have G3 := Lib.hid g3
              generalize ((doneI p i g.num r j r j).toNat : Int) = old at *
              have w3 := i64_small (n := (i : Int) + j) (by omega) (by omega)
              have e3 : ((i : Int) + (j : Int)).toNat = i + j := by omega
              have e1 : ((j : Int)).toNat = j := by omega
              have i1 : (r : Int) < 3 := by omega
              have i3 : (j : Int) < 3 := by omega
              have hj0 : (0 : Int) ≤ (i : Int) + j := by omega
              have hj1 : (j : Int) < i := by omega
              clear hCrow
              go_wp2
              go_region
              go_wp2
              go_roundg (i - j - 1)
              case measure => have := HJK.out; omega
              case rel =>
                refine ⟨j + 1, by have := HJK.out; omega, by go_num, grown_drew (grown_set hgy (r * 3 + j) (.int .u8 v)), fun i' j' hi' hj' => ?_, fun k => ?_⟩
                · show (World.setCell _ _ _).cell? _ = _
                  by_cases hij : i' = r ∧ j' = j
                  · obtain ⟨rfl, rfl⟩ := hij
                    rw [World.cell?_setCell_same _ _ _ G3.out, HVD.out, uB_nat, Int.emod_eq_of_lt hv.1 (by omega)]
                  · rw [World.cell?_setCell_other _ _ _ _ (by first | (simp; done) | (simp; omega)), HC3.out i' j' hi' hj']
                    have : (j' < i ∧ (i' < r ∨ (i' = r ∧ j' < j))) ↔ (j' < i ∧ (i' < r ∨ (i' = r ∧ j' < j + 1))) := by omega
                    simp only [doneI, this]
                · show (World.setCell _ _ _).frozen? _ = _
                  have := HF3.out k
                  simp [this]
            · have hje : j = i := by have := HJK.out; omega
              subst hje
              go_wp2
              go_roundg (j - r - 1)
              case measure => have := HRK.out; omega
              case rel =>
                refine ⟨r + 1, by have := HRK.out; omega, by go_num, hgy, fun i' j' hi' hj' => ?_, HF3.out⟩
                rw [HC3.out i' j' hi' hj']
                have : (j' < j ∧ (i' < r ∨ (i' = r ∧ j' < j))) ↔ (j' < j ∧ (i' < r + 1 ∨ (i' = r + 1 ∧ j' < 0))) := by omega
                simp only [doneI, this]
        · have hre : r = i := by have := HRK.out; omega
          subst hre
          have hbw : Below w.heap.size w _ := pw_below_grown HBX.out (some ob) HBX.out.size hgx (fun k hk => by injection hk with hk; omega)
          have s0 := far_cell hgx (R1X.out 0 (by omega)) (show some (w.heap.size + 1) ≠ some ob from fun h => by injection h with h; omega)
          have f0 := far_frozen hgx (RFX.out 0) (World.block_lt_of_cell? _ _ (R1X.out 0 (by omega))) (show some (w.heap.size + 1) ≠ some ob from fun h => by injection h with h; omega)
          have s1 := far_cell hgx (R1X.out 1 (by omega)) (show some (w.heap.size + 1) ≠ some ob from fun h => by injection h with h; omega)
          have f1 := far_frozen hgx (RFX.out 1) (World.block_lt_of_cell? _ _ (R1X.out 1 (by omega))) (show some (w.heap.size + 1) ≠ some ob from fun h => by injection h with h; omega)
          have s2 := far_cell hgx (R1X.out 2 (by omega)) (show some (w.heap.size + 1) ≠ some ob from fun h => by injection h with h; omega)
          have f2 := far_frozen hgx (RFX.out 2) (World.block_lt_of_cell? _ _ (R1X.out 2 (by omega))) (show some (w.heap.size + 1) ≠ some ob from fun h => by injection h with h; omega)
          have s3 := far_cell hgx (R1X.out 3 (by omega)) (show some (w.heap.size + 1) ≠ some ob from fun h => by injection h with h; omega)
          have f3 := far_frozen hgx (RFX.out 3) (World.block_lt_of_cell? _ _ (R1X.out 3 (by omega))) (show some (w.heap.size + 1) ≠ some ob from fun h => by injection h with h; omega)
          have s4 := far_cell hgx (R1X.out 4 (by omega)) (show some (w.heap.size + 1) ≠ some ob from fun h => by injection h with h; omega)
          have f4 := far_frozen hgx (RFX.out 4) (World.block_lt_of_cell? _ _ (R1X.out 4 (by omega))) (show some (w.heap.size + 1) ≠ some ob from fun h => by injection h with h; omega)
          have s5 := far_cell hgx (R1X.out 5 (by omega)) (show some (w.heap.size + 1) ≠ some ob from fun h => by injection h with h; omega)
          have f5 := far_frozen hgx (RFX.out 5) (World.block_lt_of_cell? _ _ (R1X.out 5 (by omega))) (show some (w.heap.size + 1) ≠ some ob from fun h => by injection h with h; omega)
          have s6 := far_cell hgx (R1X.out 6 (by omega)) (show some (w.heap.size + 1) ≠ some ob from fun h => by injection h with h; omega)
          have f6 := far_frozen hgx (RFX.out 6) (World.block_lt_of_cell? _ _ (R1X.out 6 (by omega))) (show some (w.heap.size + 1) ≠ some ob from fun h => by injection h with h; omega)
          have s7 := far_cell hgx (R1X.out 7 (by omega)) (show some (w.heap.size + 1) ≠ some ob from fun h => by injection h with h; omega)
          have f7 := far_frozen hgx (RFX.out 7) (World.block_lt_of_cell? _ _ (R1X.out 7 (by omega))) (show some (w.heap.size + 1) ≠ some ob from fun h => by injection h with h; omega)
          have s8 := far_cell hgx (R1X.out 8 (by omega)) (show some (w.heap.size + 1) ≠ some ob from fun h => by injection h with h; omega)
          have f8 := far_frozen hgx (RFX.out 8) (World.block_lt_of_cell? _ _ (R1X.out 8 (by omega))) (show some (w.heap.size + 1) ≠ some ob from fun h => by injection h with h; omega)
          have o0 := HC.out 0 0 (by omega) (by omega)
          change _ = some (Value.int .u8 ((mkM (doneI p r g.num r 0)).r0.a.toNat : Int)) at o0
          have o1 := HC.out 0 1 (by omega) (by omega)
          change _ = some (Value.int .u8 ((mkM (doneI p r g.num r 0)).r0.b.toNat : Int)) at o1
          have o2 := HC.out 0 2 (by omega) (by omega)
          change _ = some (Value.int .u8 ((mkM (doneI p r g.num r 0)).r0.c.toNat : Int)) at o2
          have o3 := HC.out 1 0 (by omega) (by omega)
          change _ = some (Value.int .u8 ((mkM (doneI p r g.num r 0)).r1.a.toNat : Int)) at o3
          have o4 := HC.out 1 1 (by omega) (by omega)
          change _ = some (Value.int .u8 ((mkM (doneI p r g.num r 0)).r1.b.toNat : Int)) at o4
          have o5 := HC.out 1 2 (by omega) (by omega)
          change _ = some (Value.int .u8 ((mkM (doneI p r g.num r 0)).r1.c.toNat : Int)) at o5
          have o6 := HC.out 2 0 (by omega) (by omega)
          change _ = some (Value.int .u8 ((mkM (doneI p r g.num r 0)).r2.a.toNat : Int)) at o6
          have o7 := HC.out 2 1 (by omega) (by omega)
          change _ = some (Value.int .u8 ((mkM (doneI p r g.num r 0)).r2.b.toNat : Int)) at o7
          have o8 := HC.out 2 2 (by omega) (by omega)
          change _ = some (Value.int .u8 ((mkM (doneI p r g.num r 0)).r2.c.toNat : Int)) at o8
          rw [HDE.out] at o0 o1 o2 o3 o4 o5 o6 o7 o8
          generalize invM p r g.num = tm at *
          simp only [Nat.zero_mul, Nat.zero_add, Nat.one_mul, Nat.add_zero, Nat.reduceMul, Nat.reduceAdd] at o0 o1 o2 o3 o4 o5 o6 o7 o8
          go_wp2
          exact bodyPost_ret (v := .agg #[.int .u8 (tm.r0.a.toNat : Int), .int .u8 (tm.r0.b.toNat : Int), .int .u8 (tm.r0.c.toNat : Int), .int .u8 (tm.r1.a.toNat : Int), .int .u8 (tm.r1.b.toNat : Int), .int .u8 (tm.r1.c.toNat : Int), .int .u8 (tm.r2.a.toNat : Int), .int .u8 (tm.r2.b.toNat : Int), .int .u8 (tm.r2.c.toNat : Int)]) (by simp [results, Try.results107, go_sem, o0, o1, o2, o3, o4, o5, o6, o7, o8, s0, s1, s2, s3, s4, s5, s6, s7, s8]) rfl (.mk rfl (by repeat (first | (with_reducible assumption) | (with_reducible exact Below.refl _ _) | (with_reducible refine Below.drew ?_) | (with_reducible refine pw_below_drewN ?_ _) | ((first | (with_reducible refine Below.alloc ?_ ?_ _) | (with_reducible refine Below.setCell ?_ ?_ _) | (with_reducible refine below_hop (by assumption) ?_ ?_)); rotate_left; (focus (first | omega | (simp; first | done | omega) | (simp [Later.le, Later.le_add, Later.lt, Later.lt_add]; first | done | omega)))) | ((with_reducible refine bel_later _ ?_ ?_); rotate_left; (focus (first | omega | (simp; first | done | omega) | (simp [Later.le, Later.le_add, Later.lt, Later.lt_add]; first | done | omega)))))))
end Go.Proofs.Ytgidpgfkbgbhmaa
/- The walks of InverseMatrix of both sides; no condition. -/
set_option linter.unusedVariables false
set_option linter.unusedSimpArgs false
namespace Go.Proofs.Ytgidpgfkbgbhmaa
open Go.RowKit Go.Proofs.YtgidpgfkbgbhmaaW.PrintWords
attribute [local go_sem] Later.cell Later.frozen Later.lt Later.lt_add Later.le Later.le_add Later.ne Later.ne' add_at
theorem call_inv3 {P : Program} {f : FuncId} {args : Array Value} {w : World} {y : Later w} {b : Bool} {tm : M9} {R : Ending → World → Prop}
    (h : Calls P f args y.W (fun e w' => ∃ m : M9, e = .returned (.tuple #[.agg #[.int .u8 (m.r0.a.toNat : Int), .int .u8 (m.r0.b.toNat : Int), .int .u8 (m.r0.c.toNat : Int), .int .u8 (m.r1.a.toNat : Int), .int .u8 (m.r1.b.toNat : Int), .int .u8 (m.r1.c.toNat : Int), .int .u8 (m.r2.a.toNat : Int), .int .u8 (m.r2.b.toNat : Int), .int .u8 (m.r2.c.toNat : Int)], .bool b]) ∧ (m = tm) ∧ Below y.W.heap.size y.W w')) (k : ∀ (x : Later w), R (.returned (.tuple #[.agg #[.int .u8 (tm.r0.a.toNat : Int), .int .u8 (tm.r0.b.toNat : Int), .int .u8 (tm.r0.c.toNat : Int), .int .u8 (tm.r1.a.toNat : Int), .int .u8 (tm.r1.b.toNat : Int), .int .u8 (tm.r1.c.toNat : Int), .int .u8 (tm.r2.a.toNat : Int), .int .u8 (tm.r2.b.toNat : Int), .int .u8 (tm.r2.c.toNat : Int)], .bool b])) x.W) : Calls P f args y.W R :=
  h.mono fun _ w' ⟨m, he, hq, hb⟩ => by subst he; subst hq; exact k ⟨w', y.ok.trans (hb.mono y.ok.size)⟩
theorem l02Inverse_g {p n : Int} {g : M9} (hg : matB p n g = true) (w : World) : Calls Try.prog 101 #[.int .i64 p, .int .i64 n, .agg #[.int .u8 (g.r0.a.toNat : Int), .int .u8 (g.r0.b.toNat : Int), .int .u8 (g.r0.c.toNat : Int), .int .u8 (g.r1.a.toNat : Int), .int .u8 (g.r1.b.toNat : Int), .int .u8 (g.r1.c.toNat : Int), .int .u8 (g.r2.a.toNat : Int), .int .u8 (g.r2.b.toNat : Int), .int .u8 (g.r2.c.toNat : Int)]] w (fun e w' => ∃ m : M9, e = .returned (.tuple #[.agg #[.int .u8 (m.r0.a.toNat : Int), .int .u8 (m.r0.b.toNat : Int), .int .u8 (m.r0.c.toNat : Int), .int .u8 (m.r1.a.toNat : Int), .int .u8 (m.r1.b.toNat : Int), .int .u8 (m.r1.c.toNat : Int), .int .u8 (m.r2.a.toNat : Int), .int .u8 (m.r2.b.toNat : Int), .int .u8 (m.r2.c.toNat : Int)], .bool true]) ∧ m = invM p n.toNat g.num ∧ Below w.heap.size w w') := by
  obtain ⟨h1, h2, h3, h4, h5⟩ := matB_le hg
  obtain ⟨k1, k2, k3, k4⟩ := matB_of hg
  have := l02Inverse_c p n.toNat g w (primeZ_of k1) (by omega) (by omega) h1
  rw [Int.toNat_of_nonneg (by omega)] at this
  rw [decide_eq_true k4] at this
  exact this.mono fun e w' ⟨m, he, hm, hb⟩ => ⟨m, he, hm k4, hb⟩
end Go.Proofs.Ytgidpgfkbgbhmaa

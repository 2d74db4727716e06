/- store: of, reserved over any number of open sessions. -/
import Derived.Test.YtllhgbanbelmaaaGreatStg
namespace Go.Proofs.YtllhgbanbelmaaaGreat
open Go.RowKit
variable {B : Nat} {T : List Nat} {D R : Bool} {Y Y' : Sys} {w w' : World}

theorem OpensAt.form {opens : Value} {ts : List TxS} (h : OpensAt B Y w opens ts) (h0 : 0 < ts.length) : ∃ g c, opens = .slice (some ⟨g, 0, none⟩) ts.length c ∧ B ≤ g ∧ g < w.heap.size ∧ (ts.length : Int) ≤ 9223372036854775807 ∧
    ∀ (j : Nat) (y : TxS), ts[j]? = some y → w.cell? ⟨g, j, none⟩ = some (.pointer (some ⟨y.t, 0, none⟩)) := by
  rcases h.own.2 with ⟨_, e0⟩ | ⟨g, cap, cur, rfl, hB, hw, hnc, hcm, _⟩
  · omega
  · refine ⟨g, cap, rfl, hB, (Array.getElem?_eq_some_iff.1 hw).1, by unfold maxLen at hcm; omega, fun j y hy => ?_⟩
    have := h.own.cells (g := g) rfl j (.pointer (some ⟨y.t, 0, none⟩)) (by rw [List.getElem?_map, hy]; rfl)
    rwa [addr_add, Nat.zero_add] at this
theorem TxAt.form {x : TxS} (h : TxAt B Y w x) (h0 : 0 < x.us.length) : ∃ g c, x.l = .slice (some ⟨g, 0, none⟩) x.us.length c ∧ B ≤ g ∧ g < w.heap.size ∧ (x.us.length : Int) ≤ 9223372036854775807 ∧
    ∀ (j : Nat) (u : UpdS), x.us[j]? = some u → ∀ i, i < 5 → w.cell? ⟨g, j * 5 + i, none⟩ = (updCells u)[i]? := by
  rcases h.own.2 with ⟨_, e0⟩ | ⟨g, cap, cur, e, hB, hw, hnc, hcm, _⟩
  · omega
  · refine ⟨g, cap, e, hB, (Array.getElem?_eq_some_iff.1 hw).1, by unfold maxLen at hcm; omega, fun j u hu i hi => ?_⟩
    have hf := flat_get (f := updCells) (m := 5) (fun _ => rfl) x.us j u hu i hi
    have hlt : i < (updCells u).length := hi
    rw [List.getElem?_eq_getElem hlt] at hf ⊢
    have := h.own.cells (g := g) (by rw [e]; rfl) (j * 5 + i) _ hf
    rwa [addr_add, Nat.zero_add] at this
theorem TxAt.nil {x : TxS} (h : TxAt B Y w x) (h0 : x.us.length = 0) : ∃ a c, x.l = .slice a 0 c := by
  rcases h.own.2 with ⟨e, _⟩ | ⟨g, cap, cur, e, _⟩
  · exact ⟨none, 0, e⟩
  · rw [h0] at e
    exact ⟨_, cap, e⟩
theorem TxAt.slice {x : TxS} (h : TxAt B Y w x) : ∃ a c, x.l = .slice a x.us.length c := by
  rcases Nat.eq_zero_or_pos x.us.length with h0 | h0
  · obtain ⟨a, c, e⟩ := h.nil h0
    exact ⟨a, c, by rw [h0]; exact e⟩
  · obtain ⟨g, c, e, _⟩ := h.form h0
    exact ⟨_, c, e⟩
theorem OpensAt.slice {opens : Value} {ts : List TxS} (h : OpensAt B Y w opens ts) : ∃ a c, opens = .slice a ts.length c := by
  rcases h.own.2 with ⟨e, e0⟩ | ⟨g, cap, cur, e, _⟩
  · exact ⟨none, 0, by rw [e0]; exact e⟩
  · exact ⟨_, cap, e⟩

set_option maxHeartbeats 1000000 in
theorem of52g {s d r f p : Nat} {lines opens : Value} {master next commits redone undone : Int} (hb : Blk w s 105 (stCells d r f p lines opens master next commits redone undone)) {ts : List TxS} (ho : OpensAt B Y w opens ts) (i : Nat) (x : TxS) (hx : ts[i]? = some x) :
    Calls Tryz.prog 52 #[.pointer (some ⟨s, 0, none⟩), i64 x.id] w fun e w' => e = .returned (.pointer (some ⟨x.t, 0, none⟩)) ∧ w' = w := by
  have hi : i < ts.length := (List.getElem?_eq_some_iff.1 hx).1
  obtain ⟨g, c, rfl, _, _, hmx, hcell⟩ := ho.form (by omega)
  have HC := Lib.hid hcell
  clear hcell
  have hc := hb.cell
  unfold stCells at hc
  have hi' : (i : Int) < ts.length := by omega
  go_enter Tryz.func52, Tryz.ntmps52
  go_wp2_with fail
  go_loopw [12] (fun t wr => ∃ j : Nat, j ≤ i ∧ t = .int .i64 j ∧ wr = w) (fun t _ => i - (intOf t).toNat)
  case atStart => exact ⟨0, Nat.zero_le _, rfl, rfl⟩
  case round =>
    obtain ⟨j, hj, rfl, rfl⟩ := hrel
    by_cases hji : j = i
    · subst hji
      have k0 := HC.out j x hx
      have hct := (ho.tx x (List.mem_of_getElem? hx)).blk.cell 0
      unfold txnCells at hct
      go_wp2_with fail
      go_ret
      exact ⟨rfl, rfl⟩
    · have hjl : j < ts.length := by omega
      obtain ⟨y, hy⟩ : ∃ y, ts[j]? = some y := ⟨ts[j], List.getElem?_eq_getElem hjl⟩
      have k0 := HC.out j y hy
      have hct := (ho.tx y (List.mem_of_getElem? hy)).blk.cell 0
      unfold txnCells at hct
      have hap := List.pairwise_iff_getElem.1 ho.apart j i hjl hi (by omega)
      rw [(List.getElem?_eq_some_iff.1 hy).2, (List.getElem?_eq_some_iff.1 hx).2] at hap
      have hne : (y.id == x.id) = false := by simpa using hap.2.2
      have hj' : (j : Int) < ts.length := by omega
      clear hap
      go_wp2_with fail
      go_roundw
      case rel => exact ⟨j + 1, by omega, by go_num, trivial⟩
      case measure => simp [intOf]; omega

theorem kept_take (ts : List TxS) (j : Nat) (x : TxS) (hx : ts[j]? = some x) : kept (ts.take (j + 1)) = kept (ts.take j) + (192 + keptUs x.us) := by
  have h := (List.getElem?_eq_some_iff.1 hx)
  obtain ⟨hl, rfl⟩ := h
  unfold kept
  rw [List.take_succ_eq_append_getElem hl, List.map_append, List.sum_append]
  simp only [List.map_cons, List.map_nil, List.sum_cons, List.sum_nil, Nat.add_zero]
theorem keptUs_take (us : List UpdS) (j : Nat) (u : UpdS) (hu : us[j]? = some u) : keptUs (us.take (j + 1)) = keptUs (us.take j) + (96 + u.bs.length) := by
  obtain ⟨hl, rfl⟩ := List.getElem?_eq_some_iff.1 hu
  unfold keptUs
  rw [List.take_succ_eq_append_getElem hl, List.map_append, List.sum_append]
  simp only [List.map_cons, List.map_nil, List.sum_cons, List.sum_nil, Nat.add_zero]
theorem keptUs_le (us : List UpdS) (j : Nat) : keptUs (us.take j) ≤ keptUs us := by
  conv => rhs; rw [← List.take_append_drop j us]
  unfold keptUs
  rw [List.map_append, List.sum_append]
  exact Nat.le_add_right _ _
theorem kept_le (ts : List TxS) (j : Nat) : kept (ts.take j) ≤ kept ts := by
  conv => rhs; rw [← List.take_append_drop j ts]
  unfold kept
  rw [List.map_append, List.sum_append]
  exact Nat.le_add_right _ _

set_option maxRecDepth 100000 in
set_option maxHeartbeats 2000000 in
theorem reserved119 {s d r f p : Nat} {lines opens : Value} {master next commits redone undone : Int} (hb : Blk w s 105 (stCells d r f p lines opens master next commits redone undone)) {ts : List TxS} (ho : OpensAt B Y w opens ts) (hk : kept ts ≤ 1099511627776) :
    Calls Tryz.prog 119 #[.pointer (some ⟨s, 0, none⟩)] w fun e w' => e = .returned (i64 (kept ts)) ∧ Below w.heap.size w w' := by
  obtain ⟨oa, oc, rfl⟩ := ho.slice
  have hc := hb.cell
  unfold stCells at hc
  go_enter Tryz.func119, Tryz.ntmps119
  go_wp2_with fail
  go_loopw [13, 3] (fun t v wr => ∃ j : Nat, j ≤ ts.length ∧ t = .int .i64 j ∧ v = .int .i64 (kept (ts.take j)) ∧ Below w.heap.size w wr) (fun t _ _ => ts.length - (intOf t).toNat)
  case atStart => exact ⟨0, Nat.zero_le _, rfl, rfl, Below.refl _ _⟩
  case round =>
    obtain ⟨j, hj, rfl, rfl, hbw⟩ := hrel
    obtain ⟨wo, rfl⟩ : ∃ wo : World, wo = wr := ⟨_, rfl⟩
    by_cases hlt : j < ts.length
    · obtain ⟨x, hx⟩ : ∃ x, ts[j]? = some x := ⟨ts[j], List.getElem?_eq_getElem hlt⟩
      obtain ⟨g, c, e, _, hgl, hmx, hcell⟩ := ho.form (by omega)
      injection e with e1 e2 e3
      subst e1 e3
      have k0 : wo.cell? ⟨g, j, none⟩ = some (.pointer (some ⟨x.t, 0, none⟩)) := (hbw.cell (p := ⟨g, j, none⟩) hgl).trans (hcell j x hx)
      have htx := ho.tx x (List.mem_of_getElem? hx)
      have hbt : Blk wo x.t 120 _ := htx.blk.at_ (hbw.block _ htx.blk.lt)
      have hct := hbt.cell
      unfold txnCells at hct
      obtain ⟨la, lc, hl⟩ := htx.slice
      rw [hl] at hct
      have HL := Lib.hid hl
      have hj' : (j : Int) < ts.length := by omega
      have hkj := kept_le ts j
      have hkj1 := kept_le ts (j + 1)
      have hkt := kept_take ts j x hx
      have hk0 : ((kept (ts.take j) : Nat) : Int) ≤ 1099511627776 := by omega
      have hk1 : ((kept (ts.take j) : Nat) : Int) + 192 + keptUs x.us ≤ 1099511627776 := by omega
      have HKT := Lib.hid hkt
      clear hcell hl hkt hkj hkj1
      generalize kept (ts.take j) = K at *
      go_wp2_with fail
      go_loopw [24, 3] (fun t v wr => ∃ i : Nat, i ≤ x.us.length ∧ t = .int .i64 i ∧ v = .int .i64 ((K : Int) + 192 + keptUs (x.us.take i)) ∧ Below w.heap.size w wr) (fun t _ _ => x.us.length - (intOf t).toNat)
      case atStart => exact ⟨0, Nat.zero_le _, rfl, by simp [keptUs], hbw⟩
      case round =>
        obtain ⟨i, hi, rfl, rfl, hbw2⟩ := hrel
        by_cases hil : i < x.us.length
        · obtain ⟨u, hu⟩ : ∃ u, x.us[i]? = some u := ⟨x.us[i], List.getElem?_eq_getElem hil⟩
          obtain ⟨ug, uc, eu, _, hugl, hmu, hucell⟩ := htx.form (by omega)
          rw [HL.out] at eu
          injection eu with e1 e2 e3
          subst e1 e3
          have huc := hucell i u hu
          have hup := htx.upd u (List.mem_of_getElem? hu)
          obtain ⟨va, vc, hv⟩ := hup.2.slice
          have c0 := (hbw2.cell (p := ⟨ug, i * 5 + 0, none⟩) hugl).trans (huc 0 (by decide))
          have c1 := (hbw2.cell (p := ⟨ug, i * 5 + 1, none⟩) hugl).trans (huc 1 (by decide))
          have c2 := (hbw2.cell (p := ⟨ug, i * 5 + 2, none⟩) hugl).trans (huc 2 (by decide))
          have c3 := (hbw2.cell (p := ⟨ug, i * 5 + 3, none⟩) hugl).trans (huc 3 (by decide))
          have c4 := (hbw2.cell (p := ⟨ug, i * 5 + 4, none⟩) hugl).trans (huc 4 (by decide))
          simp only [updCells, Nat.add_zero, List.getElem?_cons_zero, List.getElem?_cons_succ, hv] at c0 c1 c2 c3 c4
          have hi' : (i : Int) < x.us.length := by omega
          have hki := keptUs_le x.us i
          have hki1 := keptUs_le x.us (i + 1)
          have hkt := keptUs_take x.us i u hu
          have hk2 : ((K : Int) + 192 + (keptUs (x.us.take i) : Nat)) ≤ 1099511627776 := by omega
          have hk3 : ((K : Int) + 192 + (keptUs (x.us.take i) : Nat)) + (96 + u.bs.length) ≤ 1099511627776 := by omega
          have hk4 : (0 : Int) ≤ (K : Int) + 192 + (keptUs (x.us.take i) : Nat) := by omega
          have hu5 : u.bs.length ≤ 1024 := by have := hup.1; omega
          have hu6 : (u.bs.length : Int) ≤ 1024 := by omega
          have HKU := Lib.hid hkt
          clear hkt hki hki1 huc hucell hv
          generalize hKI : (K : Int) + 192 + (keptUs (x.us.take i) : Nat) = KI at *
          have HKI := Lib.hid hKI
          clear hKI
          have hclr := fun w => clr111 va u.bs.length vc hu5 w
          have HCL := Lib.hid hclr
          clear hclr
          go_wp2_with ((go_at_call 111; refine (HCL.out _).mono ?_); rintro e w5 ⟨rfl, hb5⟩)
          go_roundw
          case rel =>
            refine ⟨i + 1, by omega, by go_num, ?_, ?_⟩
            · rw [HKU.out]
              congr 1
              have := HKI.out
              omega
            · exact (hbw2.alloc hbw2.size _).trans (hb5.mono (by have := hbw2.size; simp; omega))
          case measure => simp [intOf]; omega
        · have hie : i = x.us.length := by omega
          have hit : x.us.take i = x.us := List.take_of_length_le (by omega)
          rw [hit]
          clear hit
          go_wp2_with fail
          go_roundw
          case rel =>
            refine ⟨j + 1, by omega, by go_num, ?_, hbw2⟩
            rw [HKT.out]
            simp
            omega
          case measure => simp [intOf]; omega
    · have hje : j = ts.length := by omega
      have hjt : ts.take j = ts := List.take_of_length_le (by omega)
      rw [hjt]
      clear hjt
      go_wp2_with fail
      go_ret
      exact ⟨rfl, hbw⟩
end Go.Proofs.YtllhgbanbelmaaaGreat

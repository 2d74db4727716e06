/- store: busy over any number of open sessions. -/
import Derived.Test.YtllhgbanbelmaaaGreatSth
namespace Go.Proofs.YtllhgbanbelmaaaGreat
open Go.RowKit
variable {B : Nat} {T : List Nat} {D R : Bool} {Y Y' : Sys} {w w' : World}
def hitB (x : TxS) (u : UpdS) (id p off n : Int) : Bool := !(x.id == id) && decide (0 < n) && (u.page == p) && decide (u.off < off + n) && decide (off < u.off + u.bs.length)
theorem busyB_true {ts : List TxS} {id p off n : Int} {j i : Nat} {x : TxS} {u : UpdS} (hx : ts[j]? = some x) (hu : x.us[i]? = some u) (h : hitB x u id p off n = true) : busyB ts id p off n = true := by
  unfold busyB
  rw [List.any_eq_true]
  refine ⟨x, List.mem_of_getElem? hx, ?_⟩
  rw [List.any_eq_true]
  exact ⟨u, List.mem_of_getElem? hu, h⟩
theorem busyB_false {ts : List TxS} {id p off n : Int} (h : ∀ (j : Nat) (x : TxS), ts[j]? = some x → ∀ (i : Nat) (u : UpdS), x.us[i]? = some u → hitB x u id p off n = false) : busyB ts id p off n = false := by
  unfold busyB
  rw [List.any_eq_false]
  intro x hx
  rw [Bool.not_eq_true, List.any_eq_false]
  intro u hu
  rw [Bool.not_eq_true]
  obtain ⟨j, hj⟩ := List.mem_iff_getElem?.1 hx
  obtain ⟨i, hi⟩ := List.mem_iff_getElem?.1 hu
  exact h j x hj i u hi

set_option maxRecDepth 100000 in
set_option maxHeartbeats 4000000 in
theorem busy108 {s d r f p : Nat} {lines opens : Value} {master next commits redone undone : Int} (hb : Blk w s 105 (stCells d r f p lines opens master next commits redone undone)) {ts : List TxS} (ho : OpensAt B Y w opens ts) (id pg off n : Int)
    (hoff : 0 ≤ off) (hoff2 : off ≤ 504) (hn : 0 < n) (hn2 : n ≤ 504) (hus : ∀ x, x ∈ ts → ∀ u, u ∈ x.us → 0 ≤ u.off ∧ u.off ≤ 504) :
    Calls Tryz.prog 108 #[.pointer (some ⟨s, 0, none⟩), i64 id, i64 pg, i64 off, i64 n] w fun e w' => e = .returned (.bool (busyB ts id pg off n)) ∧ Below w.heap.size w w' := by
  obtain ⟨oa, oc, rfl⟩ := ho.slice
  have hc := hb.cell
  unfold stCells at hc
  obtain ⟨V, hV⟩ : ∃ V, V = busyB ts id pg off n := ⟨_, rfl⟩
  rw [← hV]
  have HV := Lib.hid hV
  clear hV
  go_enter Tryz.func108, Tryz.ntmps108
  go_wp2_with fail
  go_loopw [20] (fun t wr => ∃ j : Nat, j ≤ ts.length ∧ t = .int .i64 j ∧ Hid (∀ (j' : Nat) (x : TxS), j' < j → ts[j']? = some x → ∀ (i : Nat) (u : UpdS), x.us[i]? = some u → hitB x u id pg off n = false) ∧ Below w.heap.size w wr) (fun t _ => ts.length - (intOf t).toNat)
  case atStart => exact ⟨0, Nat.zero_le _, rfl, Lib.hid (fun j' _ h => absurd h (Nat.not_lt_zero _)), Below.refl _ _⟩
  case round =>
    obtain ⟨j, hj, rfl, hno, hbw⟩ := hrel
    obtain ⟨wo, rfl⟩ : ∃ wo : World, wo = wr := ⟨_, rfl⟩
    by_cases hlt : j < ts.length
    · obtain ⟨x, hx⟩ : ∃ x, ts[j]? = some x := ⟨ts[j], List.getElem?_eq_getElem hlt⟩
      obtain ⟨g, c, e, _, hgl, hmx, hcell⟩ := ho.form (by omega)
      injection e with e1 e2 e3
      subst e1 e3
      have k0 : wo.cell? ⟨g, j, none⟩ = some (.pointer (some ⟨x.t, 0, none⟩)) := (hbw.cell (p := ⟨g, j, none⟩) hgl).trans (hcell j x hx)
      have htx := ho.tx x (List.mem_of_getElem? hx)
      have hbt : Blk wo x.t 120 _ := htx.blk.at_ (hbw.block _ htx.blk.lt)
      have hct := hbt.cell
      unfold txnCells at hct
      obtain ⟨la, lc, hl⟩ := htx.slice
      rw [hl] at hct
      have HL := Lib.hid hl
      have HX := Lib.hid hx
      have hj' : (j : Int) < ts.length := by omega
      clear hcell hl hx
      go_wp2_with fail
      go_loopw [29] (fun t wr => ∃ i : Nat, i ≤ x.us.length ∧ t = .int .i64 i ∧ Hid (∀ (i' : Nat) (u : UpdS), i' < i → x.us[i']? = some u → hitB x u id pg off n = false) ∧ Below w.heap.size w wr) (fun t _ => x.us.length - (intOf t).toNat)
      case atStart => exact ⟨0, Nat.zero_le _, rfl, Lib.hid (fun i' _ h => absurd h (Nat.not_lt_zero _)), hbw⟩
      case round =>
        obtain ⟨i, hi, rfl, hno2, hbw2⟩ := hrel
        by_cases hil : i < x.us.length
        · obtain ⟨u, hu⟩ : ∃ u, x.us[i]? = some u := ⟨x.us[i], List.getElem?_eq_getElem hil⟩
          obtain ⟨ug, uc, eu, _, hugl, hmu, hucell⟩ := htx.form (by omega)
          rw [HL.out] at eu
          injection eu with e1 e2 e3
          subst e1 e3
          have huc := hucell i u hu
          have hup := htx.upd u (List.mem_of_getElem? hu)
          have huo := hus x (List.mem_of_getElem? HX.out) u (List.mem_of_getElem? hu)
          obtain ⟨va, vc, hv⟩ := hup.2.slice
          have c0 := (hbw2.cell (p := ⟨ug, i * 5 + 0, none⟩) hugl).trans (huc 0 (by decide))
          have c1 := (hbw2.cell (p := ⟨ug, i * 5 + 1, none⟩) hugl).trans (huc 1 (by decide))
          have c2 := (hbw2.cell (p := ⟨ug, i * 5 + 2, none⟩) hugl).trans (huc 2 (by decide))
          have c3 := (hbw2.cell (p := ⟨ug, i * 5 + 3, none⟩) hugl).trans (huc 3 (by decide))
          have c4 := (hbw2.cell (p := ⟨ug, i * 5 + 4, none⟩) hugl).trans (huc 4 (by decide))
          simp only [updCells, Nat.add_zero, List.getElem?_cons_zero, List.getElem?_cons_succ, hv] at c0 c1 c2 c3 c4
          have hbt2 : Blk wr x.t 120 _ := htx.blk.at_ (hbw2.block _ htx.blk.lt)
          have hct0 : ∀ o, (wr.alloc o).cell? ⟨x.t, 0, none⟩ = some (i64 x.id) := fun o => (hbt2.alloc o).cell 0
          have hi' : (i : Int) < x.us.length := by omega
          have hu5 : (u.bs.length : Int) ≤ 504 := by have := hup.1; omega
          have hu0 := huo.1
          have hu1 := huo.2
          have HU := Lib.hid hu
          clear huc hucell hv hu huo hct
          have hstep : hitB x u id pg off n = false → Hid (∀ (i' : Nat) (u : UpdS), i' < i + 1 → x.us[i']? = some u → hitB x u id pg off n = false) := fun h => Lib.hid (fun i' u' hlt' hu' => by
            by_cases e : i' = i
            · subst e
              have := HU.out
              rw [hu'] at this
              injection this with this
              rw [this]
              exact h
            · exact hno2.out i' u' (by omega) hu')
          have HSTEP := Lib.hid hstep
          clear hstep
          by_cases q1 : x.id = id
          · have b1 : (x.id != id) = false := by simp [q1]
            have b1' : (x.id == id) = true := by simp [q1]
            have hh : hitB x u id pg off n = false := by unfold hitB; rw [b1']; rfl
            have HH := Lib.hid hh
            clear hh q1
            go_wp2_with fail
            go_roundw
            case rel => exact ⟨i + 1, by omega, by go_num, HSTEP.out HH.out, hbw2.alloc hbw2.size _⟩
            case measure => simp [intOf]; omega
          · have b1 : (x.id != id) = true := by simp [q1]
            have b1' : (x.id == id) = false := by simp [q1]
            by_cases q2 : u.page = pg
            · have b2 : (u.page == pg) = true := by simp [q2]
              by_cases q3 : u.off < off + n
              · by_cases q4 : off < u.off + u.bs.length
                · have hh : hitB x u id pg off n = true := by unfold hitB; rw [b1', b2]; simp [q3, q4, hn]
                  have hVt : V = true := HV.out.trans (busyB_true HX.out HU.out hh)
                  clear hh q1 q2
                  subst hVt
                  go_wp2_with fail
                  go_ret
                  exact ⟨rfl, hbw2.alloc hbw2.size _⟩
                · have hh : hitB x u id pg off n = false := by unfold hitB; simp [q4]
                  have HH := Lib.hid hh
                  clear hh q1 q2
                  go_wp2_with fail
                  go_roundw
                  case rel => exact ⟨i + 1, by omega, by go_num, HSTEP.out HH.out, hbw2.alloc hbw2.size _⟩
                  case measure => simp [intOf]; omega
              · have hh : hitB x u id pg off n = false := by unfold hitB; simp [q3]
                have HH := Lib.hid hh
                clear hh q1 q2
                go_wp2_with fail
                go_roundw
                case rel => exact ⟨i + 1, by omega, by go_num, HSTEP.out HH.out, hbw2.alloc hbw2.size _⟩
                case measure => simp [intOf]; omega
            · have b2 : (u.page == pg) = false := by simp [q2]
              have hh : hitB x u id pg off n = false := by unfold hitB; rw [b2]; simp
              have HH := Lib.hid hh
              clear hh q1 q2
              go_wp2_with fail
              go_roundw
              case rel => exact ⟨i + 1, by omega, by go_num, HSTEP.out HH.out, hbw2.alloc hbw2.size _⟩
              case measure => simp [intOf]; omega
        · have hie : i = x.us.length := by omega
          go_wp2_with fail
          go_roundw
          case rel =>
            refine ⟨j + 1, by omega, by go_num, Lib.hid (fun j' x' hj' hx' i' u' hu' => ?_), hbw2⟩
            by_cases e : j' = j
            · subst e
              have := HX.out
              rw [hx'] at this
              injection this with this
              subst this
              exact hno2.out i' u' (by have := (List.getElem?_eq_some_iff.1 hu').1; omega) hu'
            · exact hno.out j' x' (by omega) hx' i' u' hu'
          case measure => simp [intOf]; omega
    · have hje : j = ts.length := by omega
      have hVf : V = false := HV.out.trans (busyB_false fun j' x' hx' i' u' hu' => hno.out j' x' (by have := (List.getElem?_eq_some_iff.1 hx').1; omega) hx' i' u' hu')
      subst hVf
      go_wp2_with fail
      go_ret
      exact ⟨rfl, hbw⟩
end Go.Proofs.YtllhgbanbelmaaaGreat

/- space: Give, Format where one page holds the map. -/
import Derived.Test.YtllhgbanbelmaaaGreatSpa
namespace Go.Proofs.YtllhgbanbelmaaaGreat
open Go.RowKit
variable {B : Nat} {T : List Nat} {D R : Bool} {Y Y' : Sys} {w w' : World} {s : Nat} {σ : StS}

set_option maxRecDepth 100000 in
set_option maxHeartbeats 2000000 in
theorem give21_ok (h : StoreAt B Y w s σ) (ix : Nat) (x : TxS) (hx : σ.ts[ix]? = some x) (hn1 : σ.np < 504) (hS : 0 ∈ σ.S) (p : Nat) (hp : p < σ.np) (hp1 : 1 ≤ p) (hset : isSet (σ.content 0) p = true) (hnb : busyB σ.ts x.id (0 : Nat) p 1 = false) (hroom : (195 : Nat) ≤ σ.free - kept σ.ts - 2048) :
    Calls Tryz.prog 21 #[.pointer (some ⟨s, 0, none⟩), i64 x.id, i64 p] w (WriteOut B Y w s σ ix x 0 p [0]) := by
  have htk := taken18 h (Nat.le_of_lt hn1) hS p hp
  unfold TakenOut at htk
  rw [hset] at htk
  have HT := Lib.hid htk
  have HNB := Lib.hid hnb
  have hmp := fun w => maps1 (np := σ.np) (by omega) (Nat.le_of_lt hn1) w
  have HM := Lib.hid hmp
  clear htk hmp hset hnb
  have h1 : (p : Int) < σ.np := by omega
  have h2 : (p : Int) < 504 := by omega
  have h3 : (1 : Int) ≤ p := by omega
  have h5 : (p : Int) / 504 = ((0 : Nat) : Int) := by omega
  have h6 : (p : Int) % 504 = (p : Int) := by omega
  go_enter Tryz.func21, Tryz.ntmps21
  go_wp2_with fail
  refine HT.out.mono ?_
  rintro e w1 ⟨rfl, hm1, hs1⟩
  have hpg := pages49s hs1
  have HP := Lib.hid hpg
  clear hpg
  have hbn : Blk (w1.alloc (.cells #[.int .u8 0] 5)) w1.heap.size 5 #[.int .u8 0] := Blk.new _ _ _
  have hva : Byts B Y (w1.alloc (.cells #[.int .u8 0] 5)) (.slice (some ⟨w1.heap.size, 0, none⟩) 1 1) [0] := Sl.lit (w' := w1) hbn (Nat.le_refl _) hs1.dll hs1.rbl 1 rfl (by decide)
  have hsa := hs1.below ((Below.refl _ _).alloc (Nat.le_refl _) (.cells #[.int .u8 0] 5))
  have hw := write50 hsa ix x hx 0 p (by omega) hS [0] (by simp; omega) (by decide) _ hva HNB.out hroom
  have HW := Lib.hid hw
  clear hw
  go_wp2_with (first | ((go_at_call 49; refine HP.out.mono ?_); rintro e w' ⟨rfl, rfl⟩) | ((go_at_call 48; refine (HM.out _).mono ?_); rintro e w' ⟨rfl, rfl⟩) | ((go_at_call 50; refine HW.out.mono ?_); rintro e w3 ⟨rfl, Y3, σ3, hm3, hs3, hwr3⟩))
  go_ret
  exact ⟨rfl, Y3, σ3, ((hm1.alloc (.cells #[.int .u8 0] 5)).more StT false true (by decide)).trans hm3, hs3, hwr3⟩

set_option maxRecDepth 100000 in
set_option maxHeartbeats 2000000 in
theorem give21_no (h : StoreAt B Y w s σ) (id : Int) (hn1 : σ.np < 504) (hS : 0 ∈ σ.S) (p : Nat) (hp : p < σ.np) (hno : p < 1 ∨ isSet (σ.content 0) p = false) :
    Calls Tryz.prog 21 #[.pointer (some ⟨s, 0, none⟩), i64 id, i64 p] w fun e w' => e = .returned (i64 1) ∧ Mod B StT false false Y Y w w' ∧ StoreAt B Y w' s σ := by
  have htk := taken18 h (Nat.le_of_lt hn1) hS p hp
  unfold TakenOut at htk
  have hmp := fun w => maps1 (np := σ.np) (by omega) (Nat.le_of_lt hn1) w
  have HM := Lib.hid hmp
  clear hmp
  by_cases hset : isSet (σ.content 0) p = true
  · have hp0 : (p : Int) < 1 := by have := hno.resolve_right (by rw [hset]; simp); omega
    rw [hset] at htk
    have HT := Lib.hid htk
    clear htk hset hno
    go_enter Tryz.func21, Tryz.ntmps21
    go_wp2_with fail
    refine HT.out.mono ?_
    rintro e w1 ⟨rfl, hm1, hs1⟩
    have hpg := pages49s hs1
    have HP := Lib.hid hpg
    clear hpg
    go_wp2_with (first | ((go_at_call 49; refine HP.out.mono ?_); rintro e w' ⟨rfl, rfl⟩) | ((go_at_call 48; refine (HM.out _).mono ?_); rintro e w' ⟨rfl, rfl⟩))
    go_ret
    exact ⟨rfl, hm1, hs1⟩
  · have hset' : isSet (σ.content 0) p = false := by simpa using hset
    rw [hset'] at htk
    have HT := Lib.hid htk
    clear htk hset hno hset'
    go_enter Tryz.func21, Tryz.ntmps21
    go_wp2_with fail
    refine HT.out.mono ?_
    rintro e w1 ⟨rfl, hm1, hs1⟩
    go_wp2_with fail
    go_ret
    exact ⟨rfl, hm1, hs1⟩

set_option maxRecDepth 100000 in
set_option maxHeartbeats 4000000 in
theorem format82 (h : StoreAt B Y w s σ) (ix : Nat) (x : TxS) (hx : σ.ts[ix]? = some x) (hn0 : 1 ≤ σ.np) (hn1 : σ.np < 504) (hS : 0 ∈ σ.S) (hnb : busyB σ.ts x.id (0 : Nat) (0 : Nat) 1 = false) (hroom : (195 : Nat) ≤ σ.free - kept σ.ts - 2048) :
    Calls Tryz.prog 82 #[.pointer (some ⟨s, 0, none⟩), i64 x.id] w (WriteOut B Y w s σ ix x 0 0 [1]) := by
  have hpg := pages49s h
  have hmp := fun w => maps1 hn0 (Nat.le_of_lt hn1) w
  have HP := Lib.hid hpg
  have HM := Lib.hid hmp
  have HNB := Lib.hid hnb
  clear hpg hmp hnb
  have hmk : ∀ w : World, (Instr.makeSlice 48 (.int .i64 1) (.int .i64 1)).run Tryz.prog w = .ok (.slice (some ⟨w.heap.size, 0, none⟩) 1 1) (w.alloc (.cells #[.int .u8 0] 5)) := by
    intro w
    exact run_mk (P := Tryz.prog) w sl48 rfl .i64 .i64 1 1 (Nat.le_refl _) (by decide) (by decide)
  have h1 : (σ.np : Int) < 504 := by omega
  have h2 : (1 : Int) ≤ σ.np := by omega
  have HX := Lib.hid hx
  clear hx
  go_enter Tryz.func82, Tryz.ntmps82
  go_wp2_with (first | ((go_at_call 49; refine HP.out.mono ?_); rintro e w' ⟨rfl, rfl⟩) | ((go_at_call 48; refine (HM.out _).mono ?_); rintro e w' ⟨rfl, rfl⟩))
  go_loopw [15] (fun t wr => (t = .int .i64 0 ∧ wr = w) ∨ (t = .int .i64 1 ∧ WriteOut B Y w s σ ix x 0 0 [1] (.returned (i64 0)) wr)) (fun t _ => 1 - (intOf t).toNat)
  case atStart => exact .inl ⟨rfl, rfl⟩
  case round =>
    rcases hrel with ⟨rfl, hww⟩ | ⟨rfl, hout⟩
    · have hww := hww.symm
      subst hww
      have hb0 : Blk (w.alloc (.cells #[.int .u8 0] 5)) w.heap.size 5 #[.int .u8 0] := Blk.new _ _ _
      have hbe0 : Below w.heap.size w (w.alloc (.cells #[.int .u8 0] 5)) := (Below.refl _ _).alloc (Nat.le_refl _) _
      go_wp2_with fail
      go_loopw [29] (fun t wr => ∃ j : Nat, j ≤ 1 ∧ t = .int .i64 j ∧ Blk wr w.heap.size 5 #[.int .u8 j] ∧ Below w.heap.size w wr) (fun t _ => 1 - (intOf t).toNat)
      case atStart => exact ⟨0, Nat.zero_le _, rfl, hb0, hbe0⟩
      case round =>
        obtain ⟨j, hj, rfl, hbj, hbw⟩ := hrel
        by_cases hlt : j < 1
        · obtain rfl : j = 0 := by omega
          have k1 : wr.cell? ⟨w.heap.size, 0, none⟩ = some (.int .u8 0) := (hbj.cell 0)
          have f1 : wr.frozen? ⟨w.heap.size, 0, none⟩ = false := hbj.frozen 0
          go_wp2_with fail
          go_roundw
          case rel => exact ⟨1, by omega, rfl, hbj.set_ 0 (.int .u8 1), hbw.setCell (Nat.le_refl _) _⟩
          case measure => simp [intOf]
        · obtain rfl : j = 1 := by omega
          have hsr := h.below hbw
          have hva : Byts B Y wr (.slice (some ⟨w.heap.size, 0, none⟩) 1 1) [1] := Sl.lit (w' := w) hbj (Nat.le_refl _) h.dll h.rbl 1 rfl (by decide)
          have hw := write50 hsr ix x HX.out 0 0 (by omega) hS [1] (by decide) (by decide) _ hva HNB.out hroom
          have HW := Lib.hid hw
          clear hw
          go_wp2_with ((go_at_call 50; refine HW.out.mono ?_); rintro e w3 ⟨rfl, hout3⟩)
          go_roundw
          case rel =>
            obtain ⟨Y3, σ3, hm3, hs3, hwr3⟩ := hout3
            exact .inr ⟨by first | rfl | go_num, rfl, Y3, σ3, ((mod_below B StT false true Y hbw).trans hm3), hs3, hwr3⟩
          case measure => simp [intOf]
    · go_wp2_with fail
      go_ret
      exact hout
end Go.Proofs.YtllhgbanbelmaaaGreat

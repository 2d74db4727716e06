/- Eight bytes of a number: ring.number, store.eight, file.head: whatever the bytes, there are eight (128) of them. -/
import Derived.Test.YtllhgbanbelmaaaGreatDev
namespace Go.Proofs.YtllhgbanbelmaaaGreat
open Go.RowKit

theorem bv_of {z : Int} (h0 : 0 ≤ z) (h1 : z < 256) : Value.int .u8 z = bv (UInt8.ofNat z.toNat) := by
  have : (UInt8.ofNat z.toNat).toNat = z.toNat := by
    rw [UInt8.toNat_ofNat']; omega
  rw [bv, this]
  congr 1
  omega
theorem set_bv (xs : List UInt8) (j : Nat) {z : Int} (h0 : 0 ≤ z) (h1 : z < 256) : (xs.map bv).toArray.setIfInBounds j (.int .u8 z) = ((xs.set j (UInt8.ofNat z.toNat)).map bv).toArray := by
  rw [bv_of h0 h1]
  simp [List.map_set]



/-- byte j of a number's eight -/
def beB (n : Int) (j : Nat) : UInt8 := UInt8.ofNat (n / 2 ^ (56 - 8 * j) % 256).toNat
/-- a row of N noughts whose first j bytes are those of n -/
def putB (n : Int) (N : Nat) : Nat → List UInt8
  | 0 => List.replicate N 0
  | j + 1 => (putB n N j).set j (beB n j)
theorem putB_succ (n : Int) (N j : Nat) : putB n N (j + 1) = (putB n N j).set j (UInt8.ofNat (n / 2 ^ (56 - 8 * j) % 256).toNat) := rfl
theorem putB_length (n : Int) (N : Nat) : ∀ j, (putB n N j).length = N
  | 0 => by simp [putB]
  | j + 1 => by simp [putB, putB_length n N j]



set_option maxRecDepth 100000 in
set_option maxHeartbeats 1000000 in
theorem number209 (n : Int) (w : World) :
    Calls Tryz.prog 209 #[i64 n] w fun e w' => ∃ (v : Value), e = .returned v ∧ w'.ownsRow w.heap.size 5 1 v 8 ((putB n 8 8).map bv) ∧ Below w.heap.size w w' := by
  obtain ⟨Z, hZ⟩ : ∃ Z : List Value, Z = List.replicate 8 (.int .u8 0) := ⟨_, rfl⟩
  have hmk : ∀ w : World, (Instr.makeSlice 48 (.int .i64 8) (.int .i64 8)).run Tryz.prog w = .ok (.slice (some ⟨w.heap.size, 0, none⟩) 8 8) (w.alloc (.cells Z.toArray 5)) := by
    intro w
    have := run_mk (P := Tryz.prog) w sl48 rfl .i64 .i64 8 8 (by decide) (by decide) (by decide)
    rw [hZ, List.toArray_replicate]
    exact this
  have HZ := Lib.hid hZ
  clear hZ
  go_enter Tryz.func209, Tryz.ntmps209
  go_wp2_with fail
  go_loopw [8] (fun t wr => ∃ j : Nat, j ≤ 8 ∧ t = .int .i64 j ∧ Blk wr w.heap.size 5 ((putB n 8 j).map bv).toArray ∧ Below w.heap.size w wr) (fun t _ => 8 - (intOf t).toNat)
  case atStart => exact ⟨0, by omega, rfl, by have := Blk.new w 5 Z.toArray; rw [HZ.out, List.toArray_replicate] at this; rw [HZ.out, List.toArray_replicate]; unfold putB; rw [List.map_replicate, List.toArray_replicate]; exact this, (Below.refl _ _).alloc (Nat.le_refl _) _⟩
  case round =>
    obtain ⟨j, hj, rfl, hb, hw⟩ := hrel
    by_cases hlt : j < 8
    · have hj0 : (0 : Int) ≤ j := by omega
      have hj' : (j : Int) < 8 := by omega
      have hjx : j < ((putB n 8 j).map bv).toArray.size := by simp [putB_length]; omega
      obtain ⟨u, hu⟩ : ∃ u, ((putB n 8 j).map bv).toArray[j]? = some u := ⟨_, Array.getElem?_eq_getElem hjx⟩
      have k1 : wr.cell? ⟨w.heap.size, j, none⟩ = some u := (hb.cell j).trans hu
      have f1 : wr.frozen? ⟨w.heap.size, j, none⟩ = false := hb.frozen j
      clear hu
      go_wp2_with fail
      go_roundw
      case rel =>
        have hv := set_bv (putB n 8 j) j (z := n / 2 ^ (56 - 8 * j) % 256) (Int.emod_nonneg _ (by decide)) (Int.emod_lt_of_pos _ (by decide))
        refine ⟨j + 1, by omega, by go_num, ?_, hw.setCell (Nat.le_refl _) _⟩
        rw [putB_succ, ← hv]
        exact hb.set_ j _
      case measure => simp [intOf]; omega
    · have hje : j = 8 := by omega
      subst hje
      go_wp2_with fail
      go_ret
      exact ⟨_, rfl, own_row hb (Nat.le_refl _) (by simp [putB_length]) (by decide), hw⟩

set_option maxRecDepth 100000 in
set_option maxHeartbeats 1000000 in
theorem eight112 (n : Int) (w : World) :
    Calls Tryz.prog 112 #[i64 n] w fun e w' => ∃ (v : Value), e = .returned v ∧ w'.ownsRow w.heap.size 5 1 v 8 ((putB n 8 8).map bv) ∧ Below w.heap.size w w' := by
  obtain ⟨Z, hZ⟩ : ∃ Z : List Value, Z = List.replicate 8 (.int .u8 0) := ⟨_, rfl⟩
  have hmk : ∀ w : World, (Instr.makeSlice 48 (.int .i64 8) (.int .i64 8)).run Tryz.prog w = .ok (.slice (some ⟨w.heap.size, 0, none⟩) 8 8) (w.alloc (.cells Z.toArray 5)) := by
    intro w
    have := run_mk (P := Tryz.prog) w sl48 rfl .i64 .i64 8 8 (by decide) (by decide) (by decide)
    rw [hZ, List.toArray_replicate]
    exact this
  have HZ := Lib.hid hZ
  clear hZ
  go_enter Tryz.func112, Tryz.ntmps112
  go_wp2_with fail
  go_loopw [8] (fun t wr => ∃ j : Nat, j ≤ 8 ∧ t = .int .i64 j ∧ Blk wr w.heap.size 5 ((putB n 8 j).map bv).toArray ∧ Below w.heap.size w wr) (fun t _ => 8 - (intOf t).toNat)
  case atStart => exact ⟨0, by omega, rfl, by have := Blk.new w 5 Z.toArray; rw [HZ.out, List.toArray_replicate] at this; rw [HZ.out, List.toArray_replicate]; unfold putB; rw [List.map_replicate, List.toArray_replicate]; exact this, (Below.refl _ _).alloc (Nat.le_refl _) _⟩
  case round =>
    obtain ⟨j, hj, rfl, hb, hw⟩ := hrel
    by_cases hlt : j < 8
    · have hj0 : (0 : Int) ≤ j := by omega
      have hj' : (j : Int) < 8 := by omega
      have hjx : j < ((putB n 8 j).map bv).toArray.size := by simp [putB_length]; omega
      obtain ⟨u, hu⟩ : ∃ u, ((putB n 8 j).map bv).toArray[j]? = some u := ⟨_, Array.getElem?_eq_getElem hjx⟩
      have k1 : wr.cell? ⟨w.heap.size, j, none⟩ = some u := (hb.cell j).trans hu
      have f1 : wr.frozen? ⟨w.heap.size, j, none⟩ = false := hb.frozen j
      clear hu
      go_wp2_with fail
      go_roundw
      case rel =>
        have hv := set_bv (putB n 8 j) j (z := n / 2 ^ (56 - 8 * j) % 256) (Int.emod_nonneg _ (by decide)) (Int.emod_lt_of_pos _ (by decide))
        refine ⟨j + 1, by omega, by go_num, ?_, hw.setCell (Nat.le_refl _) _⟩
        rw [putB_succ, ← hv]
        exact hb.set_ j _
      case measure => simp [intOf]; omega
    · have hje : j = 8 := by omega
      subst hje
      go_wp2_with fail
      go_ret
      exact ⟨_, rfl, own_row hb (Nat.le_refl _) (by simp [putB_length]) (by decide), hw⟩

set_option maxRecDepth 100000 in
set_option maxHeartbeats 1000000 in
theorem head156 (n : Int) (w : World) (hn : 0 ≤ n + 1) (hn2 : n + 1 ≤ 1000000) :
    Calls Tryz.prog 156 #[i64 n] w fun e w' => ∃ (v : Value), e = .returned v ∧ w'.ownsRow w.heap.size 5 1 v 128 ((putB (n + 1) 128 8).map bv) ∧ Below w.heap.size w w' := by
  obtain ⟨Z, hZ⟩ : ∃ Z : List Value, Z = List.replicate 128 (.int .u8 0) := ⟨_, rfl⟩
  have hmk : ∀ w : World, (Instr.makeSlice 48 (.int .i64 128) (.int .i64 128)).run Tryz.prog w = .ok (.slice (some ⟨w.heap.size, 0, none⟩) 128 128) (w.alloc (.cells Z.toArray 5)) := by
    intro w
    have := run_mk (P := Tryz.prog) w sl48 rfl .i64 .i64 128 128 (by decide) (by decide) (by decide)
    rw [hZ, List.toArray_replicate]
    exact this
  have HZ := Lib.hid hZ
  clear hZ
  go_enter Tryz.func156, Tryz.ntmps156
  go_wp2_with fail
  go_loopw [6] (fun t wr => ∃ j : Nat, j ≤ 8 ∧ t = .int .i64 j ∧ Blk wr w.heap.size 5 ((putB (n + 1) 128 j).map bv).toArray ∧ Below w.heap.size w wr) (fun t _ => 8 - (intOf t).toNat)
  case atStart => exact ⟨0, by omega, rfl, by have := Blk.new w 5 Z.toArray; rw [HZ.out, List.toArray_replicate] at this; rw [HZ.out, List.toArray_replicate]; unfold putB; rw [List.map_replicate, List.toArray_replicate]; exact this, (Below.refl _ _).alloc (Nat.le_refl _) _⟩
  case round =>
    obtain ⟨j, hj, rfl, hb, hw⟩ := hrel
    by_cases hlt : j < 8
    · have hj0 : (0 : Int) ≤ j := by omega
      have hj' : (j : Int) < 8 := by omega
      have hjx : j < ((putB (n + 1) 128 j).map bv).toArray.size := by simp [putB_length]; omega
      obtain ⟨u, hu⟩ : ∃ u, ((putB (n + 1) 128 j).map bv).toArray[j]? = some u := ⟨_, Array.getElem?_eq_getElem hjx⟩
      have k1 : wr.cell? ⟨w.heap.size, j, none⟩ = some u := (hb.cell j).trans hu
      have f1 : wr.frozen? ⟨w.heap.size, j, none⟩ = false := hb.frozen j
      clear hu
      go_wp2_with fail
      go_roundw
      case rel =>
        have hv := set_bv (putB (n + 1) 128 j) j (z := (n + 1) / 2 ^ (56 - 8 * j) % 256) (Int.emod_nonneg _ (by decide)) (Int.emod_lt_of_pos _ (by decide))
        refine ⟨j + 1, by omega, by go_num, ?_, hw.setCell (Nat.le_refl _) _⟩
        rw [putB_succ, ← hv]
        exact hb.set_ j _
      case measure => simp [intOf]; omega
    · have hje : j = 8 := by omega
      subst hje
      go_wp2_with fail
      go_ret
      exact ⟨_, rfl, own_row hb (Nat.le_refl _) (by simp [putB_length]) (by decide), hw⟩
end Go.Proofs.YtllhgbanbelmaaaGreat

/- store: Layout, number, clr. -/
import Derived.Test.YtllhgbanbelmaaaGreatRec
namespace Go.Proofs.YtllhgbanbelmaaaGreat
open Go.RowKit
variable {B : Nat} {T : List Nat} {D R : Bool} {Y Y' : Sys} {w w' : World}

set_option maxRecDepth 100000 in
set_option maxHeartbeats 1000000 in
theorem layout86 (n : Nat) (h : 128 ≤ n) (h2 : n ≤ 8192) (w : World) : Calls Tryz.prog 86 #[i64 n] w fun e w' => e = .returned (.tuple #[i64 ((n / 4 : Nat) : Int), i64 (((n - 2 - n / 4 - 5) / 4 : Nat) : Int)]) ∧ w = w' := by
  have h1 : (128 : Int) ≤ n := by omega
  have h3 : (n : Int) ≤ 8192 := by omega
  have e1 : (n : Int) / 4 = ((n / 4 : Nat) : Int) := by omega
  have e2 : ((n : Int) - 2 - (n : Int) / 4 - 5) / 4 = (((n - 2 - n / 4 - 5) / 4 : Nat) : Int) := by omega
  have E1 := Lib.hid e1
  have E2 := Lib.hid e2
  clear e1 e2
  go_enter Tryz.func86, Tryz.ntmps86
  go_wp2_with fail
  go_ret2
  rw [← E1.out, ← E2.out]
  exact ⟨rfl, rfl⟩

set_option maxHeartbeats 1000000 in
theorem clr111 (a : Option Addr) (l c : Nat) (hl : l ≤ 1024) (w : World) : Calls Tryz.prog 111 #[.slice a l c] w fun e w' => e = .returned (i64 (96 + l)) ∧ Below w.heap.size w w' := by
  have h := size58 0 0 0 0 0 0 0 none a 0 0 l c (by decide) hl
  unfold recCells at h
  go_enter Tryz.func111, Tryz.ntmps111
  go_wp2_with (go_at_call 58; refine (h _).mono ?_; rintro e w1 ⟨rfl, hb⟩)
  go_ret
  refine ⟨?_, hb⟩
  simp

set_option maxRecDepth 100000 in
set_option maxHeartbeats 1000000 in
/-- eight noughts are nought -/
theorem number151 (b off l c : Nat) (hl : 8 ≤ l) (hlc : l ≤ c) (hc : c ≤ 1048576) (h0 : ∀ j, j < 8 → w.cell? ⟨b, off + j, none⟩ = some (.int .u8 0)) :
    Calls Tryz.prog 151 #[.slice (some ⟨b, off, none⟩) l c] w fun e w' => e = .returned (i64 0) ∧ w' = w := by
  have hl8 : (8 : Int) ≤ l := by omega
  have hc8 : (8 : Int) ≤ c := by omega
  have hcl : (l : Int) ≤ c := by omega
  have hcb : (c : Int) ≤ 1048576 := by omega
  go_enter Tryz.func151, Tryz.ntmps151
  go_wp2_with fail
  go_loopw [9, 3] (fun t u wr => ∃ j : Nat, j ≤ 8 ∧ t = .int .i64 j ∧ u = .int .i64 0 ∧ wr = w) (fun t _ _ => 8 - (intOf t).toNat)
  case atStart => exact ⟨0, by omega, rfl, rfl, rfl⟩
  case round =>
    obtain ⟨j, hj, rfl, rfl, rfl⟩ := hrel
    have hj0 : (0 : Int) ≤ j := by omega
    by_cases hlt : j < 8
    · have hj' : (j : Int) < 8 := by omega
      have k1 := h0 j hlt
      go_wp2_with fail
      go_roundw
      case rel => exact ⟨j + 1, by omega, by go_num, by first | rfl | decide | (simp; rfl) | (simp; decide), trivial⟩
      case measure => simp [intOf]; omega
    · have hje : j = 8 := by omega
      subst hje
      go_wp2_with fail
      go_ret
      exact ⟨rfl, rfl⟩
end Go.Proofs.YtllhgbanbelmaaaGreat

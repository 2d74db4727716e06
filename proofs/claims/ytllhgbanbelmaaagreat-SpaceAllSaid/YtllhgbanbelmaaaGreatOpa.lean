/- library functions at empty lists. -/
import Derived.Test.YtllhgbanbelmaaaGreatSpb
namespace Go.Proofs.YtllhgbanbelmaaaGreat
open Go.RowKit
variable {B : Nat} {T : List Nat} {D R : Bool} {Y Y' : Sys} {w w' : World}
def Void (w : World) (e : Ending) (w' : World) : Prop := (∃ v, e = .returned v) ∧ w = w'

set_option maxRecDepth 100000 in
set_option maxHeartbeats 1000000 in
theorem ins271 (fn : Value) (w : World) : Calls Tryz.prog 271 #[.slice none 0 0, i64 0, i64 0, fn] w (Void w) := by
  go_enter Tryz.func271, Tryz.ntmps271
  go_wp2_with fail
  refine wp_loop_rounds 1 ?_
  rw [rounds_succ]
  go_wp2_with fail
  go_end0
  exact ⟨⟨_, rfl⟩, rfl⟩

set_option maxRecDepth 100000 in
set_option maxHeartbeats 1000000 in
theorem ins273 (fn : Value) (w : World) : Calls Tryz.prog 273 #[.slice none 0 0, i64 0, i64 0, fn] w (Void w) := by
  go_enter Tryz.func273, Tryz.ntmps273
  go_wp2_with fail
  refine wp_loop_rounds 1 ?_
  rw [rounds_succ]
  go_wp2_with fail
  go_end0
  exact ⟨⟨_, rfl⟩, rfl⟩

set_option maxRecDepth 100000 in
set_option maxHeartbeats 1000000 in
theorem stable260 (fn : Value) (w : World) : Calls Tryz.prog 260 #[.slice none 0 0, i64 0, fn] w (Void w) := by
  go_enter Tryz.func260, Tryz.ntmps260
  go_wp2_with fail
  refine wp_loop_rounds 1 ?_
  rw [rounds_succ]
  go_wp2_with ((go_at_call 271; refine (ins271 fn _).mono ?_); rintro e w0 ⟨⟨v, rfl⟩, rfl⟩)
  refine wp_loop_rounds 1 ?_
  rw [rounds_succ]
  go_wp2_with fail
  go_end0
  exact ⟨⟨_, rfl⟩, rfl⟩

set_option maxRecDepth 100000 in
set_option maxHeartbeats 1000000 in
theorem stable262 (fn : Value) (w : World) : Calls Tryz.prog 262 #[.slice none 0 0, i64 0, fn] w (Void w) := by
  go_enter Tryz.func262, Tryz.ntmps262
  go_wp2_with fail
  refine wp_loop_rounds 1 ?_
  rw [rounds_succ]
  go_wp2_with ((go_at_call 273; refine (ins273 fn _).mono ?_); rintro e w0 ⟨⟨v, rfl⟩, rfl⟩)
  refine wp_loop_rounds 1 ?_
  rw [rounds_succ]
  go_wp2_with fail
  go_end0
  exact ⟨⟨_, rfl⟩, rfl⟩

set_option maxRecDepth 100000 in
set_option maxHeartbeats 1000000 in
theorem sorts219 (fn : Value) (w : World) : Calls Tryz.prog 219 #[.slice none 0 0, fn] w (Void w) := by
  go_enter Tryz.func219, Tryz.ntmps219
  go_wp2_with ((go_at_call 260; refine (stable260 fn _).mono ?_); rintro e w0 ⟨⟨v, rfl⟩, rfl⟩)
  go_end0
  exact ⟨⟨_, rfl⟩, rfl⟩

set_option maxRecDepth 100000 in
set_option maxHeartbeats 1000000 in
theorem sorts222 (fn : Value) (w : World) : Calls Tryz.prog 222 #[.slice none 0 0, fn] w (Void w) := by
  go_enter Tryz.func222, Tryz.ntmps222
  go_wp2_with ((go_at_call 262; refine (stable262 fn _).mono ?_); rintro e w0 ⟨⟨v, rfl⟩, rfl⟩)
  go_end0
  exact ⟨⟨_, rfl⟩, rfl⟩

theorem clip224 (w : World) : Calls Tryz.prog 224 #[.slice none 0 0] w fun e w' => e = .returned (.slice none 0 0) ∧ w = w' := by
  go_enter Tryz.func224, Tryz.ntmps224
  go_wp2_with fail
  go_ret
  exact ⟨rfl, rfl⟩

theorem clip225 (w : World) : Calls Tryz.prog 225 #[.slice none 0 0] w fun e w' => e = .returned (.slice none 0 0) ∧ w = w' := by
  go_enter Tryz.func225, Tryz.ntmps225
  go_wp2_with fail
  go_ret
  exact ⟨rfl, rfl⟩

theorem clip230 (w : World) : Calls Tryz.prog 230 #[.slice none 0 0] w fun e w' => e = .returned (.slice none 0 0) ∧ w = w' := by
  go_enter Tryz.func230, Tryz.ntmps230
  go_wp2_with fail
  go_ret
  exact ⟨rfl, rfl⟩

set_option maxRecDepth 100000 in
set_option maxHeartbeats 1000000 in
theorem analyze158 (w : World) : Calls Tryz.prog 158 #[.slice none 0 0] w fun e w' => e = .returned (.tuple #[.slice none 0 0, .slice none 0 0, i64 0]) ∧ w = w' := by
  go_enter Tryz.func158, Tryz.ntmps158
  go_wp2_with fail
  refine wp_loop_rounds 1 ?_
  rw [rounds_succ]
  go_wp2_with (first | ((go_at_call 219; refine (sorts219 _ _).mono ?_); rintro e w0 ⟨⟨v, rfl⟩, rfl⟩) | ((go_at_call 222; refine (sorts222 _ _).mono ?_); rintro e w0 ⟨⟨v2, rfl⟩, rfl⟩) | ((go_at_call 224; refine (clip224 _).mono ?_); rintro e w0 ⟨rfl, rfl⟩) | ((go_at_call 225; refine (clip225 _).mono ?_); rintro e w0 ⟨rfl, rfl⟩))
  go_ret3
  exact ⟨rfl, rfl⟩

theorem clone160 (w : World) : Calls Tryz.prog 160 #[.slice none 0 0] w fun e w' => e = .returned (.slice none 0 0) ∧ w = w' := by
  have hnil := fun (w : World) => Lib.run_eql_slice_nil (P := Tryz.prog) w 109 258 none 0 0 0 0 (by kernel_rfl)
  go_enter Tryz.func160, Tryz.ntmps160
  go_wp2
  go_ret
  exact ⟨rfl, rfl⟩

set_option maxRecDepth 100000 in
set_option maxHeartbeats 1000000 in
theorem undo161 (w : World) : Calls Tryz.prog 161 #[.slice none 0 0, .slice none 0 0] w fun e w' => e = .returned (.slice none 0 0) ∧ w = w' := by
  go_enter Tryz.func161, Tryz.ntmps161
  go_wp2_with fail
  go_step3
  go_wp2_with fail
  refine wp_loop_rounds 1 ?_
  rw [rounds_succ]
  go_wp2_with fail
  go_step3
  go_wp2_with fail
  refine wp_loop_rounds 1 ?_
  rw [rounds_succ]
  go_wp2_with ((go_at_call 230; refine (clip230 _).mono ?_); rintro e w0 ⟨rfl, rfl⟩)
  rw [Exit.noGoto_ret]
  go_ret
  exact ⟨rfl, rfl⟩

theorem redo226 (l fn : Value) (w : World) : Calls Tryz.prog 226 #[l, .slice none 0 0, fn] w fun e w' => e = .returned (.slice none 0 0) ∧ w = w' := by
  go_enter Tryz.func226, Tryz.ntmps226
  go_wp2
  go_ret
  exact ⟨rfl, rfl⟩
end Go.Proofs.YtllhgbanbelmaaaGreat

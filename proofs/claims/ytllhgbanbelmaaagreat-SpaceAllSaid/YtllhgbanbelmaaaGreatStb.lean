/- store: told of no error, pages. -/
import Derived.Test.YtllhgbanbelmaaaGreatSta
namespace Go.Proofs.YtllhgbanbelmaaaGreat
open Go.RowKit
variable {B : Nat} {T : List Nat} {D R : Bool} {Y Y' : Sys} {w w' : World}

/-- the store's own block: device, ring, file, pool; its lines and open sessions; master, next, commits; not dead; redone, undone -/
def stCells (d r f p : Nat) (lines opens : Value) (master next commits redone undone : Int) : Array Value :=
  #[.pointer (some ⟨d, 0, none⟩), .pointer (some ⟨r, 0, none⟩), .pointer (some ⟨f, 0, none⟩), .pointer (some ⟨p, 0, none⟩), lines, opens, i64 master, i64 next, i64 commits, .bool false, i64 redone, i64 undone]

set_option maxHeartbeats 1000000 in
theorem told55 {s d r f p : Nat} {lines opens : Value} {master next commits redone undone : Int} (hb : Blk w s 105 (stCells d r f p lines opens master next commits redone undone)) :
    Calls Tryz.prog 55 #[.pointer (some ⟨s, 0, none⟩), i64 0] w fun e w' => e = .returned (i64 0) ∧ w' = w.setCell ⟨s, 9, none⟩ (.bool false) := by
  have hc := hb.cell
  have hf := hb.frozen
  unfold stCells at hc
  go_enter Tryz.func55, Tryz.ntmps55
  go_wp2_with fail
  go_ret
  exact ⟨rfl, rfl⟩
theorem told_blk {s d r f p : Nat} {lines opens : Value} {master next commits redone undone : Int} (hb : Blk w s 105 (stCells d r f p lines opens master next commits redone undone)) :
    Blk (w.setCell ⟨s, 9, none⟩ (.bool false)) s 105 (stCells d r f p lines opens master next commits redone undone) := hb.set_ 9 (.bool false)

set_option maxHeartbeats 1000000 in
theorem pages49 {s d r f p fr pg : Nat} {lines opens : Value} {master next commits redone undone : Int} (hb : Blk w s 105 (stCells d r f p lines opens master next commits redone undone)) (hf : FileAt B w f d fr pg) :
    Calls Tryz.prog 49 #[.pointer (some ⟨s, 0, none⟩)] w fun e w' => e = .returned (i64 pg) ∧ w = w' := by
  have hc := hb.cell
  unfold stCells at hc
  have h := file_pages hf
  go_enter Tryz.func49, Tryz.ntmps49
  go_wp2_with (go_at_call 107; refine h.mono ?_; rintro e w1 ⟨rfl, rfl⟩)
  go_ret
  exact ⟨rfl, rfl⟩
end Go.Proofs.YtllhgbanbelmaaaGreat

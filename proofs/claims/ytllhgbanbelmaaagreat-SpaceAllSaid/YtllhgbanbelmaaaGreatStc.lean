/- store: the open sessions: of. -/
import Derived.Test.YtllhgbanbelmaaaGreatStb
namespace Go.Proofs.YtllhgbanbelmaaaGreat
open Go.RowKit
variable {B : Nat} {T : List Nat} {D R : Bool} {Y Y' : Sys} {w w' : World}
theorem sl103 : SlT Tryz.prog 103 106 1 8 (.pointer none) := .mk' (by kernel_rfl) (by kernel_rfl) rfl (by decide)
def txnCells (id first last : Int) (l : Value) : Array Value := #[i64 id, i64 first, i64 last, l]
/-- one session open: its block -/
def OneOpen (B : Nat) (w : World) (opens : Value) (t : Nat) (id first last : Int) (l : Value) : Prop :=
  w.ownsRow B 106 1 opens 1 [.pointer (some ⟨t, 0, none⟩)] ∧ B ≤ t ∧ Blk w t 120 (txnCells id first last l)

set_option maxHeartbeats 1000000 in
theorem of52 {s d r f p t : Nat} {lines opens l : Value} {master next commits redone undone id first last : Int} (hb : Blk w s 105 (stCells d r f p lines opens master next commits redone undone)) (ho : OneOpen B w opens t id first last l) :
    Calls Tryz.prog 52 #[.pointer (some ⟨s, 0, none⟩), i64 id] w fun e w' => e = .returned (.pointer (some ⟨t, 0, none⟩)) ∧ w' = w := by
  obtain ⟨hown, hB, ht⟩ := ho
  obtain ⟨g, c, rfl, hgb, hgl⟩ := hown.form (by decide)
  have hc := hb.cell
  have hct := ht.cell
  have k0 : w.cell? ⟨g, 0, none⟩ = some (.pointer (some ⟨t, 0, none⟩)) := by have := hown.cells (g := g) rfl 0 _ rfl; rwa [addr_add] at this
  unfold stCells at hc
  unfold txnCells at hct
  go_enter Tryz.func52, Tryz.ntmps52
  go_wp2_with fail
  go_loopw [12] (fun t wr => t = .int .i64 0 ∧ wr = w) (fun _ _ => 0)
  case atStart => exact ⟨rfl, rfl⟩
  case round =>
    obtain ⟨rfl, rfl⟩ := hrel
    go_wp2_with fail
    go_ret
    exact ⟨rfl, rfl⟩

set_option maxRecDepth 100000 in
set_option maxHeartbeats 1000000 in
theorem within78 {s d r f p fr pg : Nat} {lines opens : Value} {master next commits redone undone : Int} (hb : Blk w s 105 (stCells d r f p lines opens master next commits redone undone)) (hf : FileAt B w f d fr pg)
    (n off len : Int) (h0 : 0 ≤ n) (h1 : n < pg) (h2 : 0 ≤ off) (h3 : off ≤ 504) (h4 : 0 ≤ len) (h5 : len ≤ 504 - off) :
    Calls Tryz.prog 78 #[.pointer (some ⟨s, 0, none⟩), i64 n, i64 off, i64 len] w fun e w' => e = .returned (.bool true) ∧ w' = w := by
  have h := pages49 hb hf
  go_enter Tryz.func78, Tryz.ntmps78
  go_wp2_with (go_at_call 49; refine h.mono ?_; rintro e w1 ⟨rfl, rfl⟩)
  go_ret
  exact ⟨rfl, rfl⟩
end Go.Proofs.YtllhgbanbelmaaaGreat

/- Contracts of Go's library functions at this seat's types. -/
import Derived.Test.YtllhgbanbelmaaaGreatProg
import Derived.Test.YtllhgbanbelmaaaGreatLaw
import Derived.WalkKit
import Derived.WalkSpells
import Derived.WalkLawsBesides
import Derived.Outline
import Derived.Deep.QuietTactic
import Derived.BigQuiet
import Derived.Deep.RegionHeld3
import Derived.KernelRfl
import Derived.Deep.Cut
import Derived.Deep.LoopGhost
namespace Go.Proofs.YtllhgbanbelmaaaGreat
open Go.RowKit

theorem sl48 : SlT Tryz.prog 48 5 1 1 (.int .u8 0) := .mk' (by kernel_rfl) (by kernel_rfl) rfl (by decide)

set_option maxHeartbeats 400000 in
theorem clone110 (v : Value) (n : Nat) (xs : List Value) (w : World) (hx : Src w v n xs) (hl : xs.length = n) (h1 : ∀ u ∈ xs, u.oneCell' = true) (hn : n ≤ 140737488355328) :
    Calls Tryz.prog 110 #[v] w fun e w' => ∃ v', e = .returned v' ∧ w'.ownsRow w.heap.size 5 1 v' n xs ∧ Below w.heap.size w w' := by
  obtain ⟨a, c, rfl, hx⟩ := hx
  rcases a with _ | a
  · have hxs : xs = [] := by
      by_cases h : xs = []
      · exact h
      · obtain ⟨_, _, h, _⟩ := hx h; cases h
    subst hxs
    obtain rfl : n = 0 := by simpa using hl.symm
    have hnil := fun (w : World) => Lib.run_eql_slice_nil (P := Tryz.prog) w 48 5 none 0 c 0 0 sl48.und
    go_enter Tryz.func110, Tryz.ntmps110
    go_wp2
    go_ret
    exact ⟨_, rfl, World.ownsRow_nil _ _ _ _, Below.refl _ _⟩
  · have hnil := fun (w : World) => Lib.run_eql_slice_nil (P := Tryz.prog) w 48 5 (some a) n c 0 0 sl48.und
    go_enter Tryz.func110, Tryz.ntmps110
    have hold : ∀ b o, b < w.heap.size → (w.alloc (.cells #[] 5)).cell? ⟨b, o, none⟩ = w.cell? ⟨b, o, none⟩ := fun b o hb => World.cell?_alloc_lt w _ _ hb
    have hs : Src w (.slice (some a) n c) n xs := ⟨_, _, rfl, hx⟩
    clear hx
    have c1 : xs.length = n * 1 := by omega
    have c2 : 0 + n ≤ maxLen ∧ (0 + n) * 1 ≤ 140737488355328 ∧ w.heap.size ≤ (w.alloc (.cells #[] 5)).heap.size := by simp [maxLen]; omega
    go_wp2_with (at_builtin; refine wpList_app _ rfl (.tmp 5) (.tmp 6) rfl w.heap.size sl48 (own_empty w 5 1) rfl (Src.mod_new hs hold) rfl c1 h1 c2 ?_; intro v' w' hown hg hat)
    go_ret
    exact ⟨_, rfl, by simpa using hown, ((Below.refl _ _).alloc (Nat.le_refl _) _).grown hg (by simp) (by simp [Value.ownBlock])⟩

theorem clip109 (a : Option Addr) (n c : Nat) (w : World) (hc : n ≤ c) (hc2 : c ≤ 140737488355328) :
    Calls Tryz.prog 109 #[.slice a n c] w fun e w' => e = .returned (.slice a n n) ∧ w = w' := by
  go_enter Tryz.func109, Tryz.ntmps109
  go_wp2
  go_ret
  exact ⟨rfl, rfl⟩
end Go.Proofs.YtllhgbanbelmaaaGreat

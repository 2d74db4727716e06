/- ring: Trim, Read of nothing, Flush of nothing. -/
import Derived.Test.YtllhgbanbelmaaaGreatRing
namespace Go.Proofs.YtllhgbanbelmaaaGreat
open Go.RowKit
variable {B : Nat} {T : List Nat} {D R : Bool} {Y Y' : Sys} {w w' : World}

theorem RingAt.mod {r d : Nat} {σ : RingS} (h : RingAt B Y w r d σ) (m : Mod B T D R Y Y' w w') (hR : R = false) (hT : ∀ t, t ∈ T → t ≠ 210 ∧ t ≠ 5) (hD : D = true → ∃ cs, Blk w Y.dl 48 cs) (hy : Y' = Y) : RingAt B Y' w' r d σ := by
  obtain ⟨bv', h⟩ := h
  subst hR hy
  have hdl : ∀ g t (cs : Array Value), Blk w g t cs → t ≠ 48 → D = true → g ≠ Y'.dl := by
    intro g t cs hb ht hd
    obtain ⟨cs', hb'⟩ := hD hd
    exact hb.ne_ hb' ht
  refine ⟨bv', h.hr, m.keep h.blk (fun x => (hT _ x).1 rfl) (hdl _ _ _ h.blk (by decide)) (by simp), own_mod h.own m (fun x => (hT _ x).2 rfl) (fun hd g hg => ?_) (by simp), h.rb, h.ok⟩
  obtain ⟨cs', hb'⟩ := hD hd
  exact own_ne h.own hb' (by decide) g hg
theorem RingAt.below {r d : Nat} {σ : RingS} (h : RingAt B Y w r d σ) (hb : Below w.heap.size w w') : RingAt B Y w' r d σ := h.mod (mod_below B [] false false Y hb) rfl (by simp) (by simp) rfl

set_option maxHeartbeats 1000000 in
theorem ring_trim {r d : Nat} {σ : RingS} (h : RingAt B Y w r d σ) (pos : Nat) (h1 : σ.start ≤ pos) (h2 : pos ≤ σ.fin) (h3 : pos / 118 * 118 = σ.base) :
    Calls Tryz.prog 236 #[.pointer (some ⟨r, 0, none⟩), i64 pos] w fun e w' => e = .returned (i64 0) ∧ w' = w.setCell ⟨r, 5, none⟩ (i64 pos) ∧ RingAt B Y w' r d { σ with start := pos } := by
  obtain ⟨bv', h⟩ := h
  have hc := h.blk.cell
  have hf := h.blk.frozen
  unfold ringCells at hc
  have hok := h.ok
  have a1 : (σ.start : Int) ≤ pos := by omega
  have a2 : (pos : Int) ≤ σ.fin := by omega
  have a3 : (pos : Int) / 118 * 118 = σ.base := by omega
  have a4 : (pos : Int) ≤ 1099511627776 := by have := hok.b2; have := hok.b3; omega
  have a5 : ¬ ((0 : Int) < (pos : Int) / 118 * 118 - σ.base) := by omega
  have A3 := Lib.hid a3
  clear a3
  go_enter Tryz.func236, Tryz.ntmps236
  go_wp2
  go_ret
  refine ⟨rfl, rfl, bv', h.hr, h.blk.set_ 5 _, own_set h.own (own_ne h.own h.blk (by decide)) _, h.rb, ?_⟩
  exact ⟨hok.n2, hok.n8, hok.f8, h3.symm, h2, hok.b2, hok.b3, by have := hok.b4; have := hok.n2; show σ.tail ≤ (pos / 118 + σ.n - 1) * 118; omega⟩

set_option maxHeartbeats 1000000 in
theorem ring_flush0 {r d : Nat} {σ : RingS} (h : RingAt B Y w r d σ) (h1 : σ.fin = σ.tail) :
    Calls Tryz.prog 54 #[.pointer (some ⟨r, 0, none⟩)] w fun e w' => e = .returned (i64 0) ∧ Same w w' := by
  have ht := fun k => ring_tail (h.drewN k)
  obtain ⟨bv', h⟩ := h
  have hc := h.blk.cell
  unfold ringCells at hc
  have hfin : ((σ.tail : Int) == (σ.fin : Int)) = true := by rw [h1]; simp
  have HT := Lib.hid ht
  clear ht
  go_enter Tryz.func54, Tryz.ntmps54
  go_wp2
  go_quiet ((go_at_call 114; exact Calls.quiet_of (HT.out _)))
  go_wp2
  go_ret
  exact ⟨rfl, Same.drewN rfl⟩
end Go.Proofs.YtllhgbanbelmaaaGreat

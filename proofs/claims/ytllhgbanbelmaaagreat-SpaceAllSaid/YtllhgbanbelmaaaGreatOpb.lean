/- the opening of a new store: what reads nothing. -/
import Derived.Test.YtllhgbanbelmaaaGreatOpa
namespace Go.Proofs.YtllhgbanbelmaaaGreat
open Go.RowKit
variable {B : Nat} {T : List Nat} {D R : Bool} {Y Y' : Sys} {w w' : World}

set_option maxRecDepth 100000 in
set_option maxHeartbeats 1000000 in
theorem rnum255 (b : Nat) (w : World) (h : Blk w b 340 #[.slice none 0 0, .bool false]) : Calls Tryz.prog 255 #[.pointer (some ⟨b, 0, none⟩)] w fun e w' => e = .returned (i64 0) ∧ w' = w.setCell ⟨b, 1, none⟩ (.bool true) := by
  have hc := h.cell
  have hf := h.frozen
  go_enter Tryz.func255, Tryz.ntmps255
  go_wp2_with fail
  refine wp_scope_once 0 rfl ?_
  go_wp2_with fail
  go_step3
  refine ⟨rfl, ?_⟩
  go_wp2_with fail
  rw [Exit.noGoto_ret]
  go_ret
  exact ⟨rfl, rfl⟩

set_option maxRecDepth 100000 in
set_option maxHeartbeats 1000000 in
theorem decode211 (w : World) : Calls Tryz.prog 211 #[.slice none 0 0] w fun e w' => e = .returned (.tuple #[.agg #[i64 0, i64 0, i64 0, i64 0, i64 0, i64 0, .slice none 0 0, .slice none 0 0, .slice none 0 0, .slice none 0 0, i64 0], i64 0, .bool false]) ∧ Below w.heap.size w w' := by
  have hb1 : Blk ((w.alloc (.cells #[i64 0, i64 0, i64 0, i64 0, i64 0, i64 0, .slice none 0 0, .slice none 0 0, .slice none 0 0, .slice none 0 0, i64 0] 112)).alloc (.cells #[.slice none 0 0, .bool false] 340)) (w.heap.size + 1) 340 #[.slice none 0 0, .bool false] := by
    have := Blk.new (w.alloc (.cells #[i64 0, i64 0, i64 0, i64 0, i64 0, i64 0, .slice none 0 0, .slice none 0 0, .slice none 0 0, .slice none 0 0, i64 0] 112)) 340 #[.slice none 0 0, .bool false]
    rwa [show (w.alloc (.cells #[i64 0, i64 0, i64 0, i64 0, i64 0, i64 0, .slice none 0 0, .slice none 0 0, .slice none 0 0, .slice none 0 0, i64 0] 112)).heap.size = w.heap.size + 1 by simp] at this
  have hb0 : Blk ((w.alloc (.cells #[i64 0, i64 0, i64 0, i64 0, i64 0, i64 0, .slice none 0 0, .slice none 0 0, .slice none 0 0, .slice none 0 0, i64 0] 112)).alloc (.cells #[.slice none 0 0, .bool false] 340)) w.heap.size 112 #[i64 0, i64 0, i64 0, i64 0, i64 0, i64 0, .slice none 0 0, .slice none 0 0, .slice none 0 0, .slice none 0 0, i64 0] := (Blk.new w 112 _).alloc _
  have hbe : Below w.heap.size w ((w.alloc (.cells #[i64 0, i64 0, i64 0, i64 0, i64 0, i64 0, .slice none 0 0, .slice none 0 0, .slice none 0 0, .slice none 0 0, i64 0] 112)).alloc (.cells #[.slice none 0 0, .bool false] 340)) := ((Below.refl _ _).alloc (Nat.le_refl _) _).alloc (by simp) _
  go_enter Tryz.func211, Tryz.ntmps211
  go_wp2_with fail
  refine (rnum255 _ _ hb1).mono ?_
  rintro e w1 ⟨rfl, hw1⟩
  have h1 : Blk w1 (w.heap.size + 1) 340 #[.slice none 0 0, .bool true] := by rw [hw1]; exact hb1.set_ 1 _
  have h0 : Blk w1 w.heap.size 112 #[i64 0, i64 0, i64 0, i64 0, i64 0, i64 0, .slice none 0 0, .slice none 0 0, .slice none 0 0, .slice none 0 0, i64 0] := by rw [hw1]; exact hb0.far (by simp) _
  have hbe1 : Below w.heap.size w w1 := by rw [hw1]; exact hbe.setCell (Nat.le_succ _) _
  clear hw1 hb1 hb0 hbe
  have hc1 := h1.cell
  have hc0 := h0.cell
  have hf0 := h0.frozen
  go_wp2_with fail
  obtain ⟨w2, hw2⟩ : ∃ w2, w2 = _ := ⟨_, rfl⟩
  obtain ⟨h2, hg2⟩ := rec_store h0 _ _ _ _ _ _ _ _ _ _ _ hw2.symm
  rw [← hw2]
  clear hw2
  have hc2 := h2.cell
  exact bodyPost_ret (v := .tuple #[.agg #[i64 0, i64 0, i64 0, i64 0, i64 0, i64 0, .slice none 0 0, .slice none 0 0, .slice none 0 0, .slice none 0 0, i64 0], i64 0, .bool false]) (by simp [results, Tryz.results211, go_sem, hc2]) rfl ⟨rfl, hbe1.grown hg2 hbe1.size (fun k hk => by cases hk; exact Nat.le_refl _)⟩

/-- Read of nothing from the beginning of an empty log -/
def NoRead (w : World) (e : Ending) (w' : World) : Prop := e = .returned (.tuple #[.slice none 0 0, i64 0]) ∧ Same w w'
set_option maxRecDepth 100000 in
set_option maxHeartbeats 1000000 in
theorem ring_read0 {r d : Nat} {σ : RingS} (h : RingAt B Y w r d σ) (h1 : σ.base = 0) (h2 : σ.bs = []) (h3 : σ.start = 0) (h4 : σ.fin = 0) (hY : Y.rb = none) :
    Calls Tryz.prog 210 #[.pointer (some ⟨r, 0, none⟩), i64 0, i64 0] w (NoRead w) := by
  have ht := fun k => ring_tail (h.drewN k)
  have htl : σ.tail = 0 := by unfold RingS.tail; rw [h1, h2]; rfl
  rw [htl] at ht
  obtain ⟨bv', h⟩ := h
  have hc := h.blk.cell
  unfold ringCells at hc
  rw [h1, h3, h4] at hc
  have hbv : bv' = .slice none 0 0 := by
    rcases h.own.2 with ⟨e, _⟩ | ⟨g', cap, cur, e, _⟩
    · exact e
    · have := h.rb
      rw [hY, e] at this
      cases this
  have HT := Lib.hid ht
  clear ht h1 h2 h3 h4 htl hY
  subst hbv
  go_enter Tryz.func210, Tryz.ntmps210
  go_wp2_with fail
  refine (HT.out 0).mono ?_
  rintro e w1 ⟨rfl, k1, rfl⟩
  go_wp2_with fail
  refine (HT.out k1).mono ?_
  rintro e w1 ⟨rfl, k2, rfl⟩
  go_upto_region 3 with fail
  have hc' : ∀ i, (w.drewN (k1 + k2)).cell? ⟨r, i, none⟩ = #[.pointer (some ⟨d, 0, none⟩), i64 σ.from_, i64 σ.n, i64 0, (.slice none 0 0), i64 0, i64 0, .bool false][i]? := fun i => hc i
  obtain ⟨wt, hwt⟩ : ∃ wt, wt = w.drewN (k1 + k2) := ⟨_, rfl⟩
  have hsm : Same w wt := by rw [hwt]; exact Same.drewN rfl
  rw [← hwt] at hc' ⊢
  clear hwt
  have hw0 : IntKind.i64.wrap 0 = 0 := by decide
  have hap := fun (w : World) (a : Option Addr) (c : Nat) => run_app_none (P := Tryz.prog) w 48 sl48 a c
  refine wp_region_G (fun w' => ∀ i, w'.cell? ⟨r, i, none⟩ = #[.pointer (some ⟨d, 0, none⟩), i64 σ.from_, i64 σ.n, i64 0, (.slice none 0 0), i64 0, i64 0, .bool false][i]?) 20 22 (by kernel_rfl) rfl ?_
  intro wd hsd
  have hSw : ∀ i, wd.cell? ⟨r, i, none⟩ = #[.pointer (some ⟨d, 0, none⟩), i64 σ.from_, i64 σ.n, i64 0, (.slice none 0 0), i64 0, i64 0, .bool false][i]? := fun i => (hsd.cell _).trans (hc' i)
  refine' wpF_take 0 (v := _) rfl (by kernel_rfl) (fun _ _ _ h => h) (by rfl) hSw (fun w' hS => ?_) ?_; rotate_left
  · go_simp; with_reducible rfl
  simp only [Act.put, List.getElem_toArray, List.getElem_cons_succ, List.getElem_cons_zero, List.setIfInBounds_toArray, List.set_cons_zero, List.set_cons_succ]
  refine' wpF_take 1 (v := _) rfl (by kernel_rfl) (fun _ _ _ h => h) (by rfl) hSw (fun w' hS => ?_) ?_; rotate_left
  · go_simp; with_reducible rfl
  simp only [Act.put, List.getElem_toArray, List.getElem_cons_succ, List.getElem_cons_zero, List.setIfInBounds_toArray, List.set_cons_zero, List.set_cons_succ]
  refine' wpF_take 2 (v := _) rfl (by kernel_rfl) (fun _ _ _ h => h) (by rfl) hSw (fun w' hS => ?_) ?_; rotate_left
  · go_simp; with_reducible rfl
  simp only [Act.put, List.getElem_toArray, List.getElem_cons_succ, List.getElem_cons_zero, List.setIfInBounds_toArray, List.set_cons_zero, List.set_cons_succ]
  refine' wpF_take 3 (v := _) rfl (by kernel_rfl) (fun _ _ _ h => h) (by rfl) hSw (fun w' hS => ?_) ?_; rotate_left
  · go_simp; with_reducible rfl
  simp only [Act.put, List.getElem_toArray, List.getElem_cons_succ, List.getElem_cons_zero, List.setIfInBounds_toArray, List.set_cons_zero, List.set_cons_succ]
  refine' wpF_take 4 (v := _) rfl (by kernel_rfl) (fun _ _ _ h => h) (by rfl) hSw (fun w' hS => ?_) ?_; rotate_left
  · go_simp; with_reducible rfl
  simp only [Act.put, List.getElem_toArray, List.getElem_cons_succ, List.getElem_cons_zero, List.setIfInBounds_toArray, List.set_cons_zero, List.set_cons_succ]
  refine' wpF_take 5 (v := _) rfl (by kernel_rfl) (fun _ _ _ h => h) (by rfl) hSw (fun w' hS => ?_) ?_; rotate_left
  · go_simp; with_reducible rfl
  simp only [Act.put, List.getElem_toArray, List.getElem_cons_succ, List.getElem_cons_zero, List.setIfInBounds_toArray, List.set_cons_zero, List.set_cons_succ]
  refine' wpF_take 6 (v := _) rfl (by kernel_rfl) (fun _ _ _ h => h) (by rfl) hSw (fun w' hS => ?_) ?_; rotate_left
  · go_simp; with_reducible rfl
  simp only [Act.put, List.getElem_toArray, List.getElem_cons_succ, List.getElem_cons_zero, List.setIfInBounds_toArray, List.set_cons_zero, List.set_cons_succ]
  refine' wpF_take 7 (v := _) rfl (by kernel_rfl) (fun _ _ _ h => h) (by rfl) hSw (fun w' hS => ?_) ?_; rotate_left
  · go_simp; with_reducible rfl
  simp only [Act.put, List.getElem_toArray, List.getElem_cons_succ, List.getElem_cons_zero, List.setIfInBounds_toArray, List.set_cons_zero, List.set_cons_succ]
  refine' wpF_take 8 (v := _) rfl (by kernel_rfl) (fun _ _ _ h => h) (by rfl) hSw (fun w' hS => ?_) ?_; rotate_left
  · go_simp; with_reducible rfl
  simp only [Act.put, List.getElem_toArray, List.getElem_cons_succ, List.getElem_cons_zero, List.setIfInBounds_toArray, List.set_cons_zero, List.set_cons_succ]
  refine' wpF_take 9 (v := _) rfl (by kernel_rfl) (fun _ _ _ h => h) (by rfl) hSw (fun w' hS => ?_) ?_; rotate_left
  · go_simp; with_reducible rfl
  simp only [Act.put, List.getElem_toArray, List.getElem_cons_succ, List.getElem_cons_zero, List.setIfInBounds_toArray, List.set_cons_zero, List.set_cons_succ]
  refine' wpF_take 10 (v := _) rfl (by kernel_rfl) (fun _ _ _ h => h) (by rfl) hSw (fun w' hS => ?_) ?_; rotate_left
  · go_simp; with_reducible rfl
  simp only [Act.put, List.getElem_toArray, List.getElem_cons_succ, List.getElem_cons_zero, List.setIfInBounds_toArray, List.set_cons_zero, List.set_cons_succ]
  refine' wpF_take 11 (v := _) rfl (by kernel_rfl) (fun _ _ _ h => h) (by rfl) hSw (fun w' hS => ?_) ?_; rotate_left
  · go_simp; with_reducible rfl
  simp only [Act.put, List.getElem_toArray, List.getElem_cons_succ, List.getElem_cons_zero, List.setIfInBounds_toArray, List.set_cons_zero, List.set_cons_succ]
  refine' wpF_take 12 (v := _) rfl (by kernel_rfl) (fun _ _ _ h => h) (by rfl) hSw (fun w' hS => ?_) ?_; rotate_left
  · go_simp; with_reducible rfl
  simp only [Act.put, List.getElem_toArray, List.getElem_cons_succ, List.getElem_cons_zero, List.setIfInBounds_toArray, List.set_cons_zero, List.set_cons_succ]
  refine' wpF_take 13 (v := _) rfl (by kernel_rfl) (fun _ _ _ h => h) (by rfl) hSw (fun w' hS => ?_) ?_; rotate_left
  · go_simp; with_reducible rfl
  simp only [Act.put, List.getElem_toArray, List.getElem_cons_succ, List.getElem_cons_zero, List.setIfInBounds_toArray, List.set_cons_zero, List.set_cons_succ]
  refine' wpF_take 14 (v := _) rfl (by kernel_rfl) (fun _ _ _ h => h) (by rfl) hSw (fun w' hS => ?_) ?_; rotate_left
  · go_simp; with_reducible rfl
  simp only [Act.put, List.getElem_toArray, List.getElem_cons_succ, List.getElem_cons_zero, List.setIfInBounds_toArray, List.set_cons_zero, List.set_cons_succ]
  refine' wpF_take 15 (v := _) rfl (by kernel_rfl) (fun _ _ _ h => h) (by rfl) hSw (fun w' hS => ?_) ?_; rotate_left
  · go_simp; with_reducible rfl
  simp only [Act.put, List.getElem_toArray, List.getElem_cons_succ, List.getElem_cons_zero, List.setIfInBounds_toArray, List.set_cons_zero, List.set_cons_succ]
  refine' wpF_take 16 (v := _) rfl (by kernel_rfl) (fun _ _ _ h => h) (by rfl) hSw (fun w' hS => ?_) ?_; rotate_left
  · go_simp; with_reducible rfl
  simp only [Act.put, List.getElem_toArray, List.getElem_cons_succ, List.getElem_cons_zero, List.setIfInBounds_toArray, List.set_cons_zero, List.set_cons_succ]
  refine' wpF_take 17 (v := _) rfl (by kernel_rfl) (fun _ _ _ h => h) (by rfl) hSw (fun w' hS => ?_) ?_; rotate_left
  · go_simp; with_reducible rfl
  simp only [Act.put, List.getElem_toArray, List.getElem_cons_succ, List.getElem_cons_zero, List.setIfInBounds_toArray, List.set_cons_zero, List.set_cons_succ]
  refine' wpF_take 18 (v := _) rfl (by kernel_rfl) (fun _ _ _ h => h) (by rfl) hSw (fun w' hS => ?_) ?_; rotate_left
  · go_simp; with_reducible rfl
  simp only [Act.put, List.getElem_toArray, List.getElem_cons_succ, List.getElem_cons_zero, List.setIfInBounds_toArray, List.set_cons_zero, List.set_cons_succ]
  refine wpF_one 19 rfl (by kernel_rfl) ?_
  simp only [List.getElem_toArray, List.getElem_cons_succ, List.getElem_cons_zero]
  go_wp2_with fail
  refine ⟨fun _ => hSw, ?_⟩
  refine wpF_tail (by kernel_rfl) ?_
  simp only [List.drop_succ_cons, List.drop_zero]
  go_wp2_with fail
  go_ret2
  exact ⟨rfl, hsm.trans hsd⟩

set_option maxRecDepth 100000 in
set_option maxHeartbeats 2000000 in
theorem read157 {s d r f p : Nat} {lines opens : Value} {master next commits redone undone : Int} (hbs : Blk w s 105 (stCells d r f p lines opens master next commits redone undone)) {σ : RingS} (h : RingAt B Y w r d σ) (h1 : σ.base = 0) (h2 : σ.bs = []) (h3 : σ.start = 0) (h4 : σ.fin = 0) (hY : Y.rb = none) :
    Calls Tryz.prog 157 #[.pointer (some ⟨s, 0, none⟩)] w fun e w' => e = .returned (i64 0) ∧ Below w.heap.size w w' := by
  have hc := hbs.cell
  unfold stCells at hc
  have hst := fun w' (hw : Same w w') => ring_start (h.below (hw.below _))
  have hen := fun w' (hw : Same w w') => ring_end (h.below (hw.below _))
  rw [h3] at hst
  rw [h4] at hen
  have hrd := fun w' (hw : Same w w') => ring_read0 (h.below (hw.below _)) h1 h2 h3 h4 hY
  have HST := Lib.hid hst
  have HEN := Lib.hid hen
  have HRD := Lib.hid hrd
  clear hst hen hrd h1 h2 h3 h4 hY
  go_enter Tryz.func157, Tryz.ntmps157
  go_upto_region 1 with (fail)
  refine wp_region_G (fun w' => ∀ i, w'.cell? ⟨s, i, none⟩ = #[.pointer (some ⟨d, 0, none⟩), .pointer (some ⟨r, 0, none⟩), .pointer (some ⟨f, 0, none⟩), .pointer (some ⟨p, 0, none⟩), lines, opens, i64 master, i64 next, i64 commits, .bool false, i64 redone, i64 undone][i]?) 25 26 (by kernel_rfl) rfl ?_
  intro wd hsd
  have hSw : ∀ i, wd.cell? ⟨s, i, none⟩ = #[.pointer (some ⟨d, 0, none⟩), .pointer (some ⟨r, 0, none⟩), .pointer (some ⟨f, 0, none⟩), .pointer (some ⟨p, 0, none⟩), lines, opens, i64 master, i64 next, i64 commits, .bool false, i64 redone, i64 undone][i]? := fun i => (hsd.cell _).trans (hc i)
  refine' wpF_take 0 (v := _) rfl (by kernel_rfl) (fun _ _ _ h => h) (by rfl) hSw (fun w' hS => ?_) ?_; rotate_left
  · go_simp; with_reducible rfl
  simp only [Act.put, List.getElem_toArray, List.getElem_cons_succ, List.getElem_cons_zero, List.setIfInBounds_toArray, List.set_cons_zero, List.set_cons_succ]
  refine' wpF_take 1 (v := _) rfl (by kernel_rfl) (fun _ _ _ h => h) (by rfl) hSw (fun w' hS => ?_) ?_; rotate_left
  · go_simp; with_reducible rfl
  simp only [Act.put, List.getElem_toArray, List.getElem_cons_succ, List.getElem_cons_zero, List.setIfInBounds_toArray, List.set_cons_zero, List.set_cons_succ]
  refine' wpF_take 2 (v := _) rfl (by kernel_rfl) (fun _ _ _ h => h) (by rfl) hSw (fun w' hS => ?_) ?_; rotate_left
  · go_simp; with_reducible rfl
  simp only [Act.put, List.getElem_toArray, List.getElem_cons_succ, List.getElem_cons_zero, List.setIfInBounds_toArray, List.set_cons_zero, List.set_cons_succ]
  refine' wpF_take 3 (v := _) rfl (by kernel_rfl) (fun _ _ _ h => h) (by rfl) hSw (fun w' hS => ?_) ?_; rotate_left
  · go_simp; with_reducible rfl
  simp only [Act.put, List.getElem_toArray, List.getElem_cons_succ, List.getElem_cons_zero, List.setIfInBounds_toArray, List.set_cons_zero, List.set_cons_succ]
  refine' wpF_take 4 (v := _) rfl (by kernel_rfl) (fun _ _ _ h => h) (by rfl) hSw (fun w' hS => ?_) ?_; rotate_left
  · go_simp; with_reducible rfl
  simp only [Act.put, List.getElem_toArray, List.getElem_cons_succ, List.getElem_cons_zero, List.setIfInBounds_toArray, List.set_cons_zero, List.set_cons_succ]
  refine' wpF_take 5 (v := _) rfl (by kernel_rfl) (fun _ _ _ h => h) (by rfl) hSw (fun w' hS => ?_) ?_; rotate_left
  · go_simp; with_reducible rfl
  simp only [Act.put, List.getElem_toArray, List.getElem_cons_succ, List.getElem_cons_zero, List.setIfInBounds_toArray, List.set_cons_zero, List.set_cons_succ]
  refine' wpF_take 6 (v := _) rfl (by kernel_rfl) (fun _ _ _ h => h) (by rfl) hSw (fun w' hS => ?_) ?_; rotate_left
  · go_simp; with_reducible rfl
  simp only [Act.put, List.getElem_toArray, List.getElem_cons_succ, List.getElem_cons_zero, List.setIfInBounds_toArray, List.set_cons_zero, List.set_cons_succ]
  refine' wpF_take 7 (v := _) rfl (by kernel_rfl) (fun _ _ _ h => h) (by rfl) hSw (fun w' hS => ?_) ?_; rotate_left
  · go_simp; with_reducible rfl
  simp only [Act.put, List.getElem_toArray, List.getElem_cons_succ, List.getElem_cons_zero, List.setIfInBounds_toArray, List.set_cons_zero, List.set_cons_succ]
  refine' wpF_take 9 (v := _) rfl (by kernel_rfl) (fun _ _ _ h => h) (by rfl) hSw (fun w' hS => ?_) ?_; rotate_left
  · go_simp; with_reducible rfl
  simp only [Act.put, List.getElem_toArray, List.getElem_cons_succ, List.getElem_cons_zero, List.setIfInBounds_toArray, List.set_cons_zero, List.set_cons_succ]
  refine' wpF_take 10 (v := _) rfl (by kernel_rfl) (fun _ _ _ h => h) (by rfl) hSw (fun w' hS => ?_) ?_; rotate_left
  · go_simp; with_reducible rfl
  simp only [Act.put, List.getElem_toArray, List.getElem_cons_succ, List.getElem_cons_zero, List.setIfInBounds_toArray, List.set_cons_zero, List.set_cons_succ]
  refine' wpF_take 11 (v := _) rfl (by kernel_rfl) (fun _ _ _ h => h) (by rfl) hSw (fun w' hS => ?_) ?_; rotate_left
  · go_simp; with_reducible rfl
  simp only [Act.put, List.getElem_toArray, List.getElem_cons_succ, List.getElem_cons_zero, List.setIfInBounds_toArray, List.set_cons_zero, List.set_cons_succ]
  refine' wpF_take 12 (v := _) rfl (by kernel_rfl) (fun _ _ _ h => h) (by rfl) hSw (fun w' hS => ?_) ?_; rotate_left
  · go_simp; with_reducible rfl
  simp only [Act.put, List.getElem_toArray, List.getElem_cons_succ, List.getElem_cons_zero, List.setIfInBounds_toArray, List.set_cons_zero, List.set_cons_succ]
  refine' wpF_take 14 (v := _) rfl (by kernel_rfl) (fun _ _ _ h => h) (by rfl) hSw (fun w' hS => ?_) ?_; rotate_left
  · go_simp; with_reducible rfl
  simp only [Act.put, List.getElem_toArray, List.getElem_cons_succ, List.getElem_cons_zero, List.setIfInBounds_toArray, List.set_cons_zero, List.set_cons_succ]
  refine' wpF_take 15 (v := _) rfl (by kernel_rfl) (fun _ _ _ h => h) (by rfl) hSw (fun w' hS => ?_) ?_; rotate_left
  · go_simp; with_reducible rfl
  simp only [Act.put, List.getElem_toArray, List.getElem_cons_succ, List.getElem_cons_zero, List.setIfInBounds_toArray, List.set_cons_zero, List.set_cons_succ]
  refine' wpF_take 16 (v := _) rfl (by kernel_rfl) (fun _ _ _ h => h) (by rfl) hSw (fun w' hS => ?_) ?_; rotate_left
  · go_simp; with_reducible rfl
  simp only [Act.put, List.getElem_toArray, List.getElem_cons_succ, List.getElem_cons_zero, List.setIfInBounds_toArray, List.set_cons_zero, List.set_cons_succ]
  refine' wpF_take 17 (v := _) rfl (by kernel_rfl) (fun _ _ _ h => h) (by rfl) hSw (fun w' hS => ?_) ?_; rotate_left
  · go_simp; with_reducible rfl
  simp only [Act.put, List.getElem_toArray, List.getElem_cons_succ, List.getElem_cons_zero, List.setIfInBounds_toArray, List.set_cons_zero, List.set_cons_succ]
  refine wpF_one 8 rfl (by kernel_rfl) ?_
  simp only [List.getElem_toArray, List.getElem_cons_succ, List.getElem_cons_zero]
  go_wp2_with ((go_at_call 122; refine (HST.out _ hsd).mono ?_); rintro e w5 ⟨rfl, rfl⟩)
  refine ⟨fun _ => hSw, ?_⟩
  refine wpF_one 13 rfl (by kernel_rfl) ?_
  simp only [List.getElem_toArray, List.getElem_cons_succ, List.getElem_cons_zero]
  go_wp2_with ((go_at_call 91; refine (HEN.out _ hsd).mono ?_); rintro e w5 ⟨rfl, rfl⟩)
  refine ⟨fun _ => hSw, ?_⟩
  refine wpF_one 18 rfl (by kernel_rfl) ?_
  simp only [List.getElem_toArray, List.getElem_cons_succ, List.getElem_cons_zero]
  go_wp2_with ((go_at_call 122; refine (HST.out _ hsd).mono ?_); rintro e w5 ⟨rfl, rfl⟩)
  refine ⟨fun _ => hSw, ?_⟩
  refine' wpF_take 19 (v := _) rfl (by kernel_rfl) (fun _ _ _ h => h) (by rfl) hSw (fun w' hS => ?_) ?_; rotate_left
  · go_simp; with_reducible rfl
  simp only [Act.put, List.getElem_toArray, List.getElem_cons_succ, List.getElem_cons_zero, List.setIfInBounds_toArray, List.set_cons_zero, List.set_cons_succ]
  refine wpF_one 20 rfl (by kernel_rfl) ?_
  simp only [List.getElem_toArray, List.getElem_cons_succ, List.getElem_cons_zero]
  go_wp2_with ((go_at_call 210; refine (HRD.out _ hsd).mono ?_); rintro e w4 ⟨rfl, hsm4⟩)
  refine ⟨fun _ => fun i => (hsm4.cell _).trans (hSw i), ?_⟩
  have hSw : ∀ i, w4.cell? ⟨s, i, none⟩ = #[.pointer (some ⟨d, 0, none⟩), .pointer (some ⟨r, 0, none⟩), .pointer (some ⟨f, 0, none⟩), .pointer (some ⟨p, 0, none⟩), lines, opens, i64 master, i64 next, i64 commits, .bool false, i64 redone, i64 undone][i]? := fun i => (hsm4.cell _).trans (hSw i)
  refine' wpF_take 21 (v := _) rfl (by kernel_rfl) (fun _ _ _ h => h) (by rfl) hSw (fun w' hS => ?_) ?_; rotate_left
  · go_simp; with_reducible rfl
  simp only [Act.put, List.getElem_toArray, List.getElem_cons_succ, List.getElem_cons_zero, List.setIfInBounds_toArray, List.set_cons_zero, List.set_cons_succ]
  refine' wpF_take 22 (v := _) rfl (by kernel_rfl) (fun _ _ _ h => h) (by rfl) hSw (fun w' hS => ?_) ?_; rotate_left
  · go_simp; with_reducible rfl
  simp only [Act.put, List.getElem_toArray, List.getElem_cons_succ, List.getElem_cons_zero, List.setIfInBounds_toArray, List.set_cons_zero, List.set_cons_succ]
  refine' wpF_take 23 (v := _) rfl (by kernel_rfl) (fun _ _ _ h => h) (by rfl) hSw (fun w' hS => ?_) ?_; rotate_left
  · go_simp; with_reducible rfl
  simp only [Act.put, List.getElem_toArray, List.getElem_cons_succ, List.getElem_cons_zero, List.setIfInBounds_toArray, List.set_cons_zero, List.set_cons_succ]
  refine' wpF_take 24 (v := _) rfl (by kernel_rfl) (fun _ _ _ h => h) (by rfl) hSw (fun w' hS => ?_) ?_; rotate_left
  · go_simp; with_reducible rfl
  simp only [Act.put, List.getElem_toArray, List.getElem_cons_succ, List.getElem_cons_zero, List.setIfInBounds_toArray, List.set_cons_zero, List.set_cons_succ]
  refine wpF_tail (by kernel_rfl) ?_
  simp only [List.drop_succ_cons, List.drop_zero]
  go_wp2_with fail
  have hc2 := (hsd.trans hsm4).cell
  have hcs : ∀ i, w4.cell? ⟨s, i, none⟩ = #[.pointer (some ⟨d, 0, none⟩), .pointer (some ⟨r, 0, none⟩), .pointer (some ⟨f, 0, none⟩), .pointer (some ⟨p, 0, none⟩), lines, opens, i64 master, i64 next, i64 commits, .bool false, i64 redone, i64 undone][i]? := fun i => (hc2 _).trans (hc i)
  clear hc2
  go_wp2_with ((go_at_call 122; refine (HST.out _ (hsd.trans hsm4)).mono ?_); rintro e w5 ⟨rfl, rfl⟩)
  refine wp_loop_rounds 1 ?_
  rw [rounds_succ]
  go_wp2_with ((go_at_call 211; refine (decode211 _).mono ?_); rintro e w6 ⟨rfl, hb6⟩)
  go_ret
  refine ⟨rfl, ?_⟩
  have hbe : Below w.heap.size w w6 := ((hsd.trans hsm4).below _).trans (hb6.mono (by rw [(hsd.trans hsm4).size]; exact Nat.le_refl _))
  exact hbe.alloc hbe.size _

def VoidB (w : World) (e : Ending) (w' : World) : Prop := (∃ v, e = .returned v) ∧ Below w.heap.size w w'
set_option maxRecDepth 100000 in
set_option maxHeartbeats 1000000 in
theorem pdq269 (n : Value) (fn : Value) (w : World) : Calls Tryz.prog 269 #[.slice none 0 0, i64 0, i64 0, n, fn] w (Void w) := by
  go_enter Tryz.func269, Tryz.ntmps269
  go_wp2_with fail
  refine wp_loop_rounds 1 ?_
  rw [rounds_succ]
  go_wp2_with ((go_at_call 273; refine (ins273 fn _).mono ?_); rintro e w0 ⟨⟨v, rfl⟩, rfl⟩)
  exact bodyPost_ret (v := .tuple #[]) (by simp [results, Tryz.results269, go_sem]) rfl ⟨⟨_, rfl⟩, rfl⟩
set_option maxRecDepth 100000 in
set_option maxHeartbeats 1000000 in
theorem sort252 (fn : Value) (w : World) : Calls Tryz.prog 252 #[.slice none 0 0, fn] w (VoidB w) := by
  go_enter Tryz.func252, Tryz.ntmps252
  go_wp2_with (first | ((go_at_call 269; refine (pdq269 _ _ _).mono ?_); rintro e w0 ⟨⟨v, rfl⟩, rfl⟩) | go_in)
  go_end0
  exact ⟨⟨_, rfl⟩, Below.refl _ _⟩
/-- Redo of nothing -/
theorem again159 {s d r f p : Nat} {lines opens : Value} {master next commits redone undone : Int} (hbs : Blk w s 105 (stCells d r f p lines opens master next commits redone undone)) :
    Calls Tryz.prog 159 #[.pointer (some ⟨s, 0, none⟩), .slice none 0 0] w fun e w' => e = .returned (i64 0) ∧ Below w.heap.size w w' := by
  have hb1 : Blk ((w.alloc (.cells #[.pointer (some ⟨s, 0, none⟩)] 23)).alloc (.cells #[.int .i64 0] 27)) s 105 _ := (hbs.alloc _).alloc _
  have hc := hb1.cell
  unfold stCells at hc
  go_enter Tryz.func159, Tryz.ntmps159
  go_wp2_with ((go_at_call 226; refine (redo226 _ _ _).mono ?_); rintro e w6 ⟨rfl, rfl⟩)
  refine wp_loop_rounds 1 ?_
  rw [rounds_succ]
  go_wp2_with fail
  go_ret
  exact ⟨rfl, ((Below.refl _ _).alloc (Nat.le_refl _) _).alloc (by simp) _⟩

theorem halfEmpty (n i : Nat) (x : FrameS) (h : (List.replicate n eFr)[i]? = some x) : x = eFr := List.eq_of_mem_replicate (List.mem_of_getElem? h)
set_option maxRecDepth 100000 in
set_option maxHeartbeats 2000000 in
theorem dirty197 {p f np n : Nat} {fv : Value} (h : PoolAt B Y w p f fv np (List.replicate n eFr)) :
    Calls Tryz.prog 197 #[.pointer (some ⟨p, 0, none⟩)] w fun e w' => e = .returned (.slice none 0 0) ∧ Below w.heap.size w w' := by
  obtain ⟨pl, hand, wr_, h⟩ := h
  have hc := h.blk.cell
  have hl : (List.replicate n eFr).length = n := List.length_replicate
  rw [hl] at hc
  have hn64 := h.n64
  rw [hl] at hn64
  have hn64' : (n : Int) ≤ 64 := by omega
  have HL := Lib.hid hl
  clear hl
  go_enter Tryz.func197, Tryz.ntmps197
  go_wp2_with fail
  go_loopw [11, 3] (fun t u wr => ∃ j : Nat, j ≤ n ∧ t = .int .i64 j ∧ u = .slice none 0 0 ∧ Below w.heap.size w wr) (fun t _ _ => n - (intOf t).toNat)
  case atStart => exact ⟨0, Nat.zero_le _, rfl, rfl, Below.refl _ _⟩
  case round =>
    obtain ⟨j, hj, rfl, rfl, hbw⟩ := hrel
    by_cases hlt : j < n
    · have hj' : (j : Int) < n := by omega
      have hx : (List.replicate n eFr)[j]? = some eFr := by rw [List.getElem?_replicate, if_pos hlt]
      have hcell : ∀ i, i < 6 → wr.cell? ⟨pl, j * 6 + i, none⟩ = (frCells eFr)[i]? := fun i hi => (hbw.cell (p := ⟨pl, j * 6 + i, none⟩) h.lblk.lt).trans ((h.lblk.cell _).trans (frRow_getA hx i hi))
      have e0 := hcell 0 (by decide)
      have e1 := hcell 1 (by decide)
      have e2 := hcell 2 (by decide)
      have e3 := hcell 3 (by decide)
      have e4 := hcell 4 (by decide)
      have e5 := hcell 5 (by decide)
      simp only [frCells, eFr, Nat.add_zero, List.getElem?_cons_zero, List.getElem?_cons_succ] at e0 e1 e2 e3 e4 e5
      clear hcell hx
      go_wp2_with fail
      go_roundw
      case rel => exact ⟨j + 1, by omega, by go_num, rfl, hbw.alloc hbw.size _⟩
      case measure => simp [intOf]; omega
    · have hje : j = n := by omega
      subst hje
      go_wp2_with (first | ((go_at_call 252; refine (sort252 _ _).mono ?_); rintro e w6 ⟨⟨v, rfl⟩, hsm⟩) | ((go_at_call 225; refine (clip225 _).mono ?_); rintro e w7 ⟨rfl, rfl⟩))
      go_ret
      exact ⟨rfl, hbw.trans (hsm.mono hbw.size)⟩
end Go.Proofs.YtllhgbanbelmaaaGreat

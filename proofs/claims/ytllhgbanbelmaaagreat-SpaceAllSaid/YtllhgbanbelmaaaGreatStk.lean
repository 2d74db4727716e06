/- store: room, where there is enough. -/
import Derived.Test.YtllhgbanbelmaaaGreatStj
import Derived.IntWalk
namespace Go.Proofs.YtllhgbanbelmaaaGreat
open Go.RowKit
variable {B : Nat} {T : List Nat} {D R : Bool} {Y Y' : Sys} {w w' : World}

set_option maxRecDepth 100000 in
set_option maxHeartbeats 4000000 in
theorem room57 {s d r f p np : Nat} {lines opens : Value} {master next commits redone undone : Int} (hbs : Blk w s 105 (stCells d r f p lines opens master next commits redone undone)) {ρ : RingS} {S L : List Nat} {pages : Nat → List UInt8}
    (hco : CoreAt B Y w d r f p np ρ S pages L) {ts : List TxS} (ho : OpensAt B Y w opens ts) (hkb : kept ts ≤ 1099511627776) (n : Int) (hn : n ≤ ρ.room - kept ts - 2048) :
    Calls Tryz.prog 57 #[.pointer (some ⟨s, 0, none⟩), i64 n] w fun e w' => e = .returned (i64 0) ∧ Below w.heap.size w w' := by
  have hri : RingAt B Y w r d ρ := let ⟨_, _, _, _, _, _, h⟩ := hco; h.ring
  have hok := hco.ok
  have hr0 : 0 ≤ ρ.room := by unfold RingS.room; omega
  have hr1 : ρ.room ≤ 1099511627776 + 1048576 := by
    unfold RingS.room
    have h1 := hok.b1; have h2 := hok.b2; have h3 := hok.b3; have h4 := hok.n8
    omega
  have hbx1 : Blk (w.alloc (.cells #[.pointer (some ⟨s, 0, none⟩)] 23)) w.heap.size 23 #[.pointer (some ⟨s, 0, none⟩)] := Blk.new _ _ _
  have hbs1 := hbs.alloc (.cells #[.pointer (some ⟨s, 0, none⟩)] 23)
  have hbe1 : Below w.heap.size w (w.alloc (.cells #[.pointer (some ⟨s, 0, none⟩)] 23)) := (Below.refl _ _).alloc (Nat.le_refl _) _
  have hri1 := hri.below hbe1
  have ho1 := ho.below hbe1
  have hk' : (kept ts : Int) ≤ 1099511627776 := by omega
  obtain ⟨K, hK⟩ : ∃ K : Int, K = ρ.room := ⟨_, rfl⟩
  have HKK := Lib.hid hK
  have hge : decide (n ≤ ρ.room - kept ts - 2048) = true := by simpa using hn
  clear hK
  have hk0 : (0 : Int) ≤ kept ts := by omega
  have hw1 : IntKind.i64.wrap (ρ.room - (kept ts : Int)) = ρ.room - (kept ts : Int) := IntWalk.i64_in _ (by omega)
  have hw2 : IntKind.i64.wrap (ρ.room - (kept ts : Int) - 2048) = ρ.room - (kept ts : Int) - 2048 := IntWalk.i64_in _ (by omega)
  have hbs1' := hbs1
  unfold stCells at hbs1'
  go_enter Tryz.func57, Tryz.ntmps57
  have hcs1 := hbs1'.cell
  have hcx1 := hbx1.cell
  go_upto_region 1 with (fail)
  generalize w.alloc (.cells #[.pointer (some ⟨s, 0, none⟩)] 23) = w1 at *
  refine wp_region_G (fun w' => (∀ i, w'.cell? ⟨s, i, none⟩ = #[.pointer (some ⟨d, 0, none⟩), .pointer (some ⟨r, 0, none⟩), .pointer (some ⟨f, 0, none⟩), .pointer (some ⟨p, 0, none⟩), lines, opens, i64 master, i64 next, i64 commits, .bool false, i64 redone, i64 undone][i]?) ∧ (∀ i, w'.cell? ⟨w.heap.size, i, none⟩ = #[.pointer (some ⟨s, 0, none⟩)][i]?)) 11 11 (by kernel_rfl) rfl ?_
  intro w2 hsd
  have hSw : (∀ i, w2.cell? ⟨s, i, none⟩ = #[.pointer (some ⟨d, 0, none⟩), .pointer (some ⟨r, 0, none⟩), .pointer (some ⟨f, 0, none⟩), .pointer (some ⟨p, 0, none⟩), lines, opens, i64 master, i64 next, i64 commits, .bool false, i64 redone, i64 undone][i]?) ∧ (∀ i, w2.cell? ⟨w.heap.size, i, none⟩ = #[.pointer (some ⟨s, 0, none⟩)][i]?) := ⟨fun i => (hsd.cell _).trans (hcs1 i), fun i => (hsd.cell _).trans (hcx1 i)⟩
  refine' wpF_take 0 (v := _) rfl (by kernel_rfl) (fun _ _ _ h => h) (by rfl) hSw (fun w' hS => ?_) ?_; rotate_left
  · obtain ⟨s1, s2⟩ := hS; go_simp; with_reducible rfl
  simp only [Act.put, List.getElem_toArray, List.getElem_cons_succ, List.getElem_cons_zero, List.setIfInBounds_toArray, List.set_cons_zero, List.set_cons_succ]
  refine' wpF_take 1 (v := _) rfl (by kernel_rfl) (fun _ _ _ h => h) (by rfl) hSw (fun w' hS => ?_) ?_; rotate_left
  · obtain ⟨s1, s2⟩ := hS; go_simp; with_reducible rfl
  simp only [Act.put, List.getElem_toArray, List.getElem_cons_succ, List.getElem_cons_zero, List.setIfInBounds_toArray, List.set_cons_zero, List.set_cons_succ]
  refine' wpF_take 2 (v := _) rfl (by kernel_rfl) (fun _ _ _ h => h) (by rfl) hSw (fun w' hS => ?_) ?_; rotate_left
  · obtain ⟨s1, s2⟩ := hS; go_simp; with_reducible rfl
  simp only [Act.put, List.getElem_toArray, List.getElem_cons_succ, List.getElem_cons_zero, List.setIfInBounds_toArray, List.set_cons_zero, List.set_cons_succ]
  refine' wpF_take 3 (v := _) rfl (by kernel_rfl) (fun _ _ _ h => h) (by rfl) hSw (fun w' hS => ?_) ?_; rotate_left
  · obtain ⟨s1, s2⟩ := hS; go_simp; with_reducible rfl
  simp only [Act.put, List.getElem_toArray, List.getElem_cons_succ, List.getElem_cons_zero, List.setIfInBounds_toArray, List.set_cons_zero, List.set_cons_succ]
  refine' wpF_take 5 (v := _) rfl (by kernel_rfl) (fun _ _ _ h => h) (by rfl) hSw (fun w' hS => ?_) ?_; rotate_left
  · obtain ⟨s1, s2⟩ := hS; go_simp; with_reducible rfl
  simp only [Act.put, List.getElem_toArray, List.getElem_cons_succ, List.getElem_cons_zero, List.setIfInBounds_toArray, List.set_cons_zero, List.set_cons_succ]
  refine' wpF_take 9 (v := _) rfl (by kernel_rfl) (fun _ _ _ h => h) (by rfl) hSw (fun w' hS => ?_) ?_; rotate_left
  · obtain ⟨s1, s2⟩ := hS; go_simp; with_reducible rfl
  simp only [Act.put, List.getElem_toArray, List.getElem_cons_succ, List.getElem_cons_zero, List.setIfInBounds_toArray, List.set_cons_zero, List.set_cons_succ]
  refine wpF_one 4 rfl (by kernel_rfl) ?_
  simp only [List.getElem_toArray, List.getElem_cons_succ, List.getElem_cons_zero]
  have hri2 := hri1.below (hsd.below _)
  have hrr := ring_room hri2
  have HRR := Lib.hid hrr
  clear hrr
  go_wp2_with ((go_at_call 118; refine HRR.out.mono ?_); rintro e w3 ⟨rfl, kk, rfl⟩)
  have hsm : Same w1 (w2.drewN kk) := hsd.trans (Same.drewN rfl)
  have hb3 := hsm.blk hbs1
  have hx3 := hsm.blk hbx1
  have ho3 := ho1.below (hsm.below _)
  have hbe3 := hbe1.trans (hsm.below _)
  refine ⟨fun _ => ⟨(hsm.blk hbs1').cell, hx3.cell⟩, ?_⟩
  have hSw := And.intro (hsm.blk hbs1').cell hx3.cell
  generalize w2.drewN kk = w3 at *
  have hres := reserved119 hb3 ho3 hkb
  have HRES := Lib.hid hres
  clear hres
  refine wpF_one 6 rfl (by kernel_rfl) ?_
  simp only [List.getElem_toArray, List.getElem_cons_succ, List.getElem_cons_zero]
  go_wp2_with ((go_at_call 119; refine HRES.out.mono ?_); rintro e w4 ⟨rfl, hb4⟩)
  have hbe4 := hbe3.trans (hb4.mono hbe3.size)
  have hs4 : Blk w4 s 105 _ := (hsm.blk hbs1').at_ (hb4.block _ hb3.lt)
  have hx4 : Blk w4 w.heap.size 23 _ := hx3.at_ (hb4.block _ hx3.lt)
  refine ⟨fun _ => ⟨hs4.cell, hx4.cell⟩, ?_⟩
  have hSw := And.intro hs4.cell hx4.cell
  refine' wpF_take 7 (v := _) rfl (by kernel_rfl) (fun _ _ _ h => h) (by rfl) hSw (fun w' hS => ?_) ?_; rotate_left
  · obtain ⟨s1, s2⟩ := hS; go_simp; with_reducible rfl
  simp only [Act.put, List.getElem_toArray, List.getElem_cons_succ, List.getElem_cons_zero, List.setIfInBounds_toArray, List.set_cons_zero, List.set_cons_succ]
  refine' wpF_take 8 (v := _) rfl (by kernel_rfl) (fun _ _ _ h => h) (by rfl) hSw (fun w' hS => ?_) ?_; rotate_left
  · obtain ⟨s1, s2⟩ := hS; go_simp; with_reducible rfl
  simp only [Act.put, List.getElem_toArray, List.getElem_cons_succ, List.getElem_cons_zero, List.setIfInBounds_toArray, List.set_cons_zero, List.set_cons_succ]
  refine' wpF_take 10 (v := _) rfl (by kernel_rfl) (fun _ _ _ h => h) (by rfl) hSw (fun w' hS => ?_) ?_; rotate_left
  · obtain ⟨s1, s2⟩ := hS; go_simp; with_reducible rfl
  simp only [Act.put, List.getElem_toArray, List.getElem_cons_succ, List.getElem_cons_zero, List.setIfInBounds_toArray, List.set_cons_zero, List.set_cons_succ]
  refine wpF_tail (by kernel_rfl) ?_
  simp only [List.drop_succ_cons, List.drop_zero]
  go_wp2_with fail
  go_ret
  exact ⟨rfl, hbe4⟩
end Go.Proofs.YtllhgbanbelmaaaGreat

/- store: Begin. -/
import Derived.Test.YtllhgbanbelmaaaGreatStl
namespace Go.Proofs.YtllhgbanbelmaaaGreat
open Go.RowKit
variable {B : Nat} {T : List Nat} {D R : Bool} {Y Y' : Sys} {w w' : World} {s : Nat} {σ : StS} {η : StH}

/-- Begin: one session more -/
def Begun (B : Nat) (Y : Sys) (w : World) (s : Nat) (σ : StS) (e : Ending) (w' : World) : Prop :=
  e = .returned (.tuple #[i64 σ.next, i64 0]) ∧ ∃ Y' t l, Mod B StT false true Y Y' w w' ∧ StoreAt B Y' w' s { σ with free := σ.free - 96, ts := σ.ts ++ [⟨t, σ.next, l, l, .slice none 0 0, []⟩], next := σ.next + 1 }

set_option maxRecDepth 100000 in
set_option maxHeartbeats 4000000 in
theorem begin20 (h : StoreAt B Y w s σ) (hroom : 288 ≤ σ.free - kept σ.ts - 2048) (hnx : σ.next ≤ 1099511627776) (hts : σ.ts.length ≤ 1048576) :
    Calls Tryz.prog 20 #[.pointer (some ⟨s, 0, none⟩)] w (Begun B Y w s σ) := by
  obtain ⟨η, h⟩ := h
  have h0 := h.freeb
  have htb := h.tailb h0
  have hrm := h.room
  have hkb : kept σ.ts ≤ 1099511627776 := by omega
  have hn1 := h.nx
  obtain ⟨oa, oc, hop⟩ := h.op.slice
  have HOP := Lib.hid hop
  have hrr : η.ρ.room = σ.free := by omega
  have htl : (η.ρ.tail : Int) ≤ 274977906944 := by omega
  have hsz := fun w => size58 1 σ.next 0 0 0 0 0 none none 0 0 0 0 (by decide) (by decide) w
  unfold recCells at hsz
  have hb1 := h.blk.alloc (.cells #[i64 1, i64 σ.next, i64 0, i64 0, i64 0, i64 0, .slice none 0 0, .slice none 0 0, .slice none 0 0, .slice none 0 0, i64 0] 112)
  have hbe1 : Below w.heap.size w (w.alloc (.cells #[i64 1, i64 σ.next, i64 0, i64 0, i64 0, i64 0, .slice none 0 0, .slice none 0 0, .slice none 0 0, .slice none 0 0, i64 0] 112)) := (Below.refl _ _).alloc (Nat.le_refl _) _
  have hr1 : Blk (w.alloc (.cells #[i64 1, i64 σ.next, i64 0, i64 0, i64 0, i64 0, .slice none 0 0, .slice none 0 0, .slice none 0 0, .slice none 0 0, i64 0] 112)) w.heap.size 112 _ := Blk.new _ _ _
  have hc := h.blk.cell
  unfold stCells at hc
  have HSZ := Lib.hid hsz
  have HRM := Lib.hid hrm
  have HRR := Lib.hid hrr
  clear hsz hrm hrr hop
  go_enter Tryz.func20, Tryz.ntmps20
  have hrc1 := hr1.cell
  go_wp2_with ((go_at_call 58; refine (HSZ.out _).mono ?_); rintro e w2 ⟨rfl, hb2⟩)
  have hbe2 := hbe1.trans (hb2.mono hbe1.size)
  have hbs2 : Blk w2 s 105 _ := hb1.at_ (hb2.block _ hb1.lt)
  have hr2 : Blk w2 w.heap.size 112 _ := hr1.at_ (hb2.block _ hr1.lt)
  have hrm := room57 hbs2 (h.core.below hbe2) (h.op.below hbe2) hkb 288 (by rw [HRR.out]; omega)
  refine hrm.mono ?_
  rintro e w2b ⟨rfl, hb2b⟩
  have hbe2b := hbe2.trans (hb2b.mono hbe2.size)
  have hbs2b : Blk w2b s 105 _ := hbs2.at_ (hb2b.block _ hbs2.lt)
  have hr2b : Blk w2b w.heap.size 112 _ := hr2.at_ (hb2b.block _ hr2.lt)
  have hrc2 := hr2b.cell
  clear hrc1 hc hrm
  have hcore2 := h.core.below hbe2b
  have hln2 : w2b.ownsRow B 217 12 η.lines η.nl η.lx := own_at h.ln fun g hg => hbe2b.block g (own_lt h.ln hg)
  have hlay := lay59 h.hs hbs2b hcore2 hln2 (by have := h.hnl; omega) (Nat.le_trans h.hB hbe2b.size) 1 σ.next 0 0 0 0 0 none none 0 0 0 0 (by decide) (by decide) [] [] (Src.nil _ _ _) rfl (Src.nil _ _ _) rfl (by decide) (by omega) (by decide) (by decide) (by decide) (by decide) (by decide) (by rw [HRR.out]; simp; omega) (by omega)
  unfold recCells at hlay
  have HLAY := Lib.hid hlay
  clear hlay
  go_wp2_with ((go_at_call 59; refine HLAY.out.mono ?_); rintro e w3 ⟨rfl, Y3, lines3, lx3, hm3, hco3, hb3, hown3⟩)
  have hM3 : Mod B LayT false true Y Y3 w w3 := (mod_below B LayT false true Y hbe2b).trans hm3
  have ho3 := (h.op.below hbe2b).mod hm3 (by decide) (by simp) (fun _ => hcore2.rBlk)
  have hb3' := hb3
  unfold stCells at hb3'
  have hc3 := hb3'.cell
  rw [HOP.out] at hb3' hc3
  go_wp2_with fail
  refine wp_region_G (fun w' => ∀ i, w'.cell? ⟨s, i, none⟩ = #[.pointer (some ⟨η.d, 0, none⟩), .pointer (some ⟨η.r, 0, none⟩), .pointer (some ⟨η.f, 0, none⟩), .pointer (some ⟨η.p, 0, none⟩), lines3, (.slice oa σ.ts.length oc), i64 η.master, i64 σ.next, i64 η.commits, .bool false, i64 η.redone, i64 η.undone][i]?) 15 18 (by kernel_rfl) rfl ?_
  intro w4 hsd
  have hSw : ∀ i, w4.cell? ⟨s, i, none⟩ = #[.pointer (some ⟨η.d, 0, none⟩), .pointer (some ⟨η.r, 0, none⟩), .pointer (some ⟨η.f, 0, none⟩), .pointer (some ⟨η.p, 0, none⟩), lines3, (.slice oa σ.ts.length oc), i64 η.master, i64 σ.next, i64 η.commits, .bool false, i64 η.redone, i64 η.undone][i]? := fun i => (hsd.cell _).trans (hc3 i)
  have hs4 := hsd.blk hb3'
  have HO4 := Lib.hid (ho3.below (hsd.below _))
  have hM4 := hM3.same hsd
  refine' wpF_take 0 (v := _) rfl (by kernel_rfl) (fun _ _ _ h => h) (by rfl) hSw (fun w' hS => ?_) ?_; rotate_left
  · go_simp; with_reducible rfl
  simp only [Act.put, List.getElem_toArray, List.getElem_cons_succ, List.getElem_cons_zero, List.setIfInBounds_toArray, List.set_cons_zero, List.set_cons_succ]
  refine' wpF_take 1 (v := _) rfl (by kernel_rfl) (fun _ _ _ h => h) (by rfl) hSw (fun w' hS => ?_) ?_; rotate_left
  · go_simp; with_reducible rfl
  simp only [Act.put, List.getElem_toArray, List.getElem_cons_succ, List.getElem_cons_zero, List.setIfInBounds_toArray, List.set_cons_zero, List.set_cons_succ]
  refine' wpF_take 2 (v := _) rfl (by kernel_rfl) (fun _ _ _ h => h) (by rfl) hSw (fun w' hS => ?_) ?_; rotate_left
  · go_simp; with_reducible rfl
  simp only [Act.put, List.getElem_toArray, List.getElem_cons_succ, List.getElem_cons_zero, List.setIfInBounds_toArray, List.set_cons_zero, List.set_cons_succ]
  refine' wpF_take 3 (v := _) rfl (by kernel_rfl) (fun _ _ _ h => h) (by rfl) hSw (fun w' hS => ?_) ?_; rotate_left
  · go_simp; with_reducible rfl
  simp only [Act.put, List.getElem_toArray, List.getElem_cons_succ, List.getElem_cons_zero, List.setIfInBounds_toArray, List.set_cons_zero, List.set_cons_succ]
  refine' wpF_take 4 (v := _) rfl (by kernel_rfl) (fun _ _ _ h => h) (by rfl) hSw (fun w' hS => ?_) ?_; rotate_left
  · go_simp; with_reducible rfl
  simp only [Act.put, List.getElem_toArray, List.getElem_cons_succ, List.getElem_cons_zero, List.setIfInBounds_toArray, List.set_cons_zero, List.set_cons_succ]
  refine' wpF_take 5 (v := _) rfl (by kernel_rfl) (fun _ _ _ h => h) (by rfl) hSw (fun w' hS => ?_) ?_; rotate_left
  · go_simp; with_reducible rfl
  simp only [Act.put, List.getElem_toArray, List.getElem_cons_succ, List.getElem_cons_zero, List.setIfInBounds_toArray, List.set_cons_zero, List.set_cons_succ]
  refine' wpF_take 6 (v := _) rfl (by kernel_rfl) (fun _ _ _ h => h) (by rfl) hSw (fun w' hS => ?_) ?_; rotate_left
  · go_simp; with_reducible rfl
  simp only [Act.put, List.getElem_toArray, List.getElem_cons_succ, List.getElem_cons_zero, List.setIfInBounds_toArray, List.set_cons_zero, List.set_cons_succ]
  refine' wpF_take 7 (v := _) rfl (by kernel_rfl) (fun _ _ _ h => h) (by rfl) hSw (fun w' hS => ?_) ?_; rotate_left
  · go_simp; with_reducible rfl
  simp only [Act.put, List.getElem_toArray, List.getElem_cons_succ, List.getElem_cons_zero, List.setIfInBounds_toArray, List.set_cons_zero, List.set_cons_succ]
  refine' wpF_take 8 (v := _) rfl (by kernel_rfl) (fun _ _ _ h => h) (by rfl) hSw (fun w' hS => ?_) ?_; rotate_left
  · go_simp; with_reducible rfl
  simp only [Act.put, List.getElem_toArray, List.getElem_cons_succ, List.getElem_cons_zero, List.setIfInBounds_toArray, List.set_cons_zero, List.set_cons_succ]
  refine' wpF_take 9 (v := _) rfl (by kernel_rfl) (fun _ _ _ h => h) (by rfl) hSw (fun w' hS => ?_) ?_; rotate_left
  · go_simp; with_reducible rfl
  simp only [Act.put, List.getElem_toArray, List.getElem_cons_succ, List.getElem_cons_zero, List.setIfInBounds_toArray, List.set_cons_zero, List.set_cons_succ]
  refine' wpF_take 10 (v := _) rfl (by kernel_rfl) (fun _ _ _ h => h) (by rfl) hSw (fun w' hS => ?_) ?_; rotate_left
  · go_simp; with_reducible rfl
  simp only [Act.put, List.getElem_toArray, List.getElem_cons_succ, List.getElem_cons_zero, List.setIfInBounds_toArray, List.set_cons_zero, List.set_cons_succ]
  refine' wpF_take 11 (v := _) rfl (by kernel_rfl) (fun _ _ _ h => h) (by rfl) hSw (fun w' hS => ?_) ?_; rotate_left
  · go_simp; with_reducible rfl
  simp only [Act.put, List.getElem_toArray, List.getElem_cons_succ, List.getElem_cons_zero, List.setIfInBounds_toArray, List.set_cons_zero, List.set_cons_succ]
  refine wpF_one 12 rfl (by kernel_rfl) ?_
  simp only [List.getElem_toArray, List.getElem_cons_succ, List.getElem_cons_zero]
  go_wp2_with fail
  have hs5 := hs4.alloc (.cells #[i64 σ.next, i64 (η.ρ.tail + 1 : Int), i64 (η.ρ.tail + 1 : Int), .slice none 0 0] 120)
  refine ⟨fun _ => hs5.cell, ?_⟩
  have hSw := hs5.cell
  have ht5 : Blk (w4.alloc (.cells #[i64 σ.next, i64 (η.ρ.tail + 1 : Int), i64 (η.ρ.tail + 1 : Int), .slice none 0 0] 120)) w4.heap.size 120 #[i64 σ.next, i64 (η.ρ.tail + 1 : Int), i64 (η.ρ.tail + 1 : Int), .slice none 0 0] := Blk.new _ _ _
  have hbe5 : Below w4.heap.size w4 (w4.alloc (.cells #[i64 σ.next, i64 (η.ρ.tail + 1 : Int), i64 (η.ρ.tail + 1 : Int), .slice none 0 0] 120)) := (Below.refl _ _).alloc (Nat.le_refl _) _
  have hz5 : w4.heap.size < (w4.alloc (.cells #[i64 σ.next, i64 (η.ρ.tail + 1 : Int), i64 (η.ρ.tail + 1 : Int), .slice none 0 0] 120)).heap.size := by simp
  generalize w4.alloc (.cells #[i64 σ.next, i64 (η.ρ.tail + 1 : Int), i64 (η.ρ.tail + 1 : Int), .slice none 0 0] 120) = w5 at *
  refine wpF_one 13 rfl (by kernel_rfl) ?_
  simp only [List.getElem_toArray, List.getElem_cons_succ, List.getElem_cons_zero]
  go_wp2_with fail
  have hs6 := hs5.alloc (.cells #[.pointer (some ⟨w4.heap.size, 0, none⟩)] 106)
  refine ⟨fun _ => hs6.cell, ?_⟩
  have hSw := hs6.cell
  have ht6 := ht5.alloc (.cells #[.pointer (some ⟨w4.heap.size, 0, none⟩)] 106)
  have hbe6 := hbe5.alloc hbe5.size (.cells #[.pointer (some ⟨w4.heap.size, 0, none⟩)] 106)
  have hsrc : Src (w5.alloc (.cells #[.pointer (some ⟨w4.heap.size, 0, none⟩)] 106)) (.slice (some ⟨w5.heap.size, 0, none⟩) 1 1) 1 ([.pointer (some ⟨w4.heap.size, 0, none⟩)] : List Value) := Src.lit (cs := #[.pointer (some ⟨w4.heap.size, 0, none⟩)]) (Blk.new w5 106 _) 1 1
  have hone : ∀ z ∈ ([.pointer (some ⟨w4.heap.size, 0, none⟩)] : List Value), z.oneCell' = true := all_one rfl
  generalize w5.alloc (.cells #[.pointer (some ⟨w4.heap.size, 0, none⟩)] 106) = w6 at *
  have ho6 := HO4.out.below hbe6
  have hown6 := ho6.own
  rw [HOP.out] at hown6
  have hbnd : σ.ts.length + 1 ≤ maxLen ∧ (σ.ts.length + 1) * 8 ≤ 140737488355328 ∧ B ≤ w6.heap.size := ⟨by unfold maxLen; omega, by omega, by have h1 := hM4.size; have h2 := hbe6.size; have h3 := h.hB; omega⟩
  refine wpF_one 14 rfl (by kernel_rfl) ?_
  simp only [List.getElem_toArray, List.getElem_cons_succ, List.getElem_cons_zero]
  go_wp2_with (at_builtin; refine wpList_app _ rfl (.tmp 38) (.tmp 47) rfl B sl103 hown6 rfl hsrc rfl rfl hone hbnd ?_; intro v7 w7 hown7 hg7 hat7)
  have hs7 : Blk w7 s 105 _ := hs6.at_ (hg7.block _ hs6.lt (fun e => own_ne hown6 hs6 (by decide) s e.symm rfl))
  have ht7 : Blk w7 w4.heap.size 120 _ := ht6.at_ (hg7.block _ ht6.lt (fun e => own_ne hown6 ht6 (by decide) w4.heap.size e.symm rfl))
  refine ⟨fun _ => hs7.cell, ?_⟩
  obtain ⟨va7, vc7, rfl, _, _⟩ := own_form hown7
  have hc7 := hs7.cell
  have hf7 := hs7.frozen
  refine wpF_tail (by kernel_rfl) ?_
  simp only [List.drop_succ_cons, List.drop_zero]
  go_wp2_with fail
  go_ret2
  have hlt7 := hg7.size
  have hM69a := (mod_grown (B := B) (T := [105, 106]) (D := false) (R := false) (Y := Y3) hg7 (fun k hk => own_ge hown6 hk) (fun k hk => .inr (.inr ⟨106, own_ty hown6 k hk, by decide⟩))).set_ (p := ⟨s, 5, none⟩) h.hs hs7.ty (by decide) (.slice va7 (σ.ts.length + 1) vc7)
  have hs8 := hs7.set_ 5 (.slice va7 (σ.ts.length + 1) vc7)
  have hM69 := hM69a.set_ (p := ⟨s, 7, none⟩) h.hs hs8.ty (by decide) (i64 (σ.next + 1))
  have hs9 := hs8.set_ 7 (i64 (σ.next + 1))
  have hM49 := (mod_below B [105, 106] false false Y3 hbe6).trans hM69
  have hM := (hM4.more StT false true (by decide)).trans (hM49.more StT false true (by decide))
  have hne47 : s ≠ w4.heap.size := by have := hs4.lt; omega
  have ht9 : Blk _ w4.heap.size 120 _ := (ht7.far (p := ⟨s, 5, none⟩) hne47.symm (.slice va7 (σ.ts.length + 1) vc7)).far (p := ⟨s, 7, none⟩) hne47.symm (i64 (σ.next + 1))
  have hown9 := own_set (own_set hown7 (p := ⟨s, 5, none⟩) (own_ne hown7 hs7 (by decide)) (.slice va7 (σ.ts.length + 1) vc7)) (p := ⟨s, 7, none⟩) (own_ne hown7 hs7 (by decide)) (i64 (σ.next + 1))
  have hco9 := (hco3.below (hsd.below _)).modR hM49 rfl (by decide)
  have hln9 := own_mod' (hsd.own hown3) hM49 (by decide) (by simp) (by simp) (by decide) (by decide)
  have hbw4 : B ≤ w4.heap.size := Nat.le_trans h.hB hM4.size
  refine ⟨rfl, Y3, w4.heap.size, η.ρ.tail + 1, hM, { η with lines := lines3, opens := .slice va7 (σ.ts.length + 1) vc7, nl := η.nl + 1, lx := lx3, ρ := { η.ρ with bs := η.ρ.bs ++ encB 1 σ.next 0 0 0 0 0 [] [] } }, h.hs, Nat.le_trans h.hB hM.size, hs9, hco9, hln9, ?_, ⟨?_, ?_, ?_⟩, ?_, h.hst, h.ct, ?_, ?_⟩
  · have := h.hnl
    show η.nl + 1 ≤ RingS.tail _
    rw [tail_append, encB_length]
    simp only [List.length_nil]
    omega
  · simpa using hown9
  · intro x hx
    rcases List.mem_append.1 hx with hx | hx
    · exact (ho6.tx x hx).mod hM69 (by decide) (by simp) (by simp)
    · obtain rfl := List.mem_singleton.1 hx
      exact ⟨hbw4, ht9, World.ownsRow_nil _ _ _ _, by simp⟩
  · refine List.pairwise_append.2 ⟨ho6.apart, List.pairwise_singleton _ _, fun x hx y hy => ?_⟩
    obtain rfl := List.mem_singleton.1 hy
    have h1 := (HO4.out.tx x hx).blk.lt
    exact ⟨by simp only; omega, by simp [Value.ownBlock], by have := (h.num x hx).2.1; simp only; omega⟩
  · show _ = σ.free - 96
    rw [tail_append, encB_length, ← h.free]
    simp only [List.length_nil]
    omega
  · intro x hx
    rcases List.mem_append.1 hx with hx | hx
    · obtain ⟨a, b, c, d, e⟩ := h.num x hx
      exact ⟨a, by simp only; omega, c, d, e⟩
    · obtain rfl := List.mem_singleton.1 hx
      exact ⟨by simp only; omega, by simp only; omega, by simp only; omega, by simp only; omega, by simp⟩
  · show 1 ≤ σ.next + 1
    omega
end Go.Proofs.YtllhgbanbelmaaaGreat

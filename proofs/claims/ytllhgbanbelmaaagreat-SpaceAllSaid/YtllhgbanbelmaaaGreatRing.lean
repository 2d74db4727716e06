/- Contracts of package ring. -/
import Derived.Test.YtllhgbanbelmaaaGreatNum
namespace Go.Proofs.YtllhgbanbelmaaaGreat
open Go.RowKit

structure RingS where
  from_ : Nat
  n : Nat
  base : Nat
  bs : List UInt8
  start : Nat
  fin : Nat
def RingS.tail (σ : RingS) : Nat := σ.base + σ.bs.length
def RingS.room (σ : RingS) : Int := max 0 (((σ.start : Int) / 118 + σ.n - 1) * 118 - σ.tail)
def ringCells (d : Nat) (bv : Value) (σ : RingS) : Array Value := #[.pointer (some ⟨d, 0, none⟩), i64 σ.from_, i64 σ.n, i64 σ.base, bv, i64 σ.start, i64 σ.fin, .bool false]
structure RingOk (σ : RingS) : Prop where
  n2 : 2 ≤ σ.n
  n8 : σ.n ≤ 8192
  f8 : σ.from_ ≤ 8192
  b0 : σ.base = σ.start / 118 * 118
  b1 : σ.start ≤ σ.fin
  b2 : σ.fin ≤ σ.tail
  b3 : σ.tail ≤ 1099511627776
  b4 : σ.tail ≤ (σ.start / 118 + σ.n - 1) * 118
structure RingIn (B : Nat) (Y : Sys) (w : World) (r d : Nat) (bv' : Value) (σ : RingS) : Prop where
  hr : B ≤ r
  blk : Blk w r 210 (ringCells d bv' σ)
  own : w.ownsRow B 5 1 bv' σ.bs.length (σ.bs.map bv)
  rb : bv'.ownBlock = Y.rb
  ok : RingOk σ
def RingAt (B : Nat) (Y : Sys) (w : World) (r d : Nat) (σ : RingS) : Prop := ∃ bv', RingIn B Y w r d bv' σ

variable {B : Nat} {T : List Nat} {D R : Bool} {Y Y' : Sys} {w w' : World}

theorem tail_append (σ : RingS) (xs : List UInt8) : ({ σ with bs := σ.bs ++ xs } : RingS).tail = σ.tail + xs.length := by simp [RingS.tail]; omega
theorem ok_append {σ : RingS} (h : RingOk σ) (xs : List UInt8) (hroom : (xs.length : Int) ≤ σ.room) (hmax : σ.tail + xs.length ≤ 1099511627776) : RingOk { σ with bs := σ.bs ++ xs } := by
  have ht := tail_append σ xs
  have e4 := h.b4
  have e2 := h.b2
  unfold RingS.room at hroom
  exact ⟨h.n2, h.n8, h.f8, h.b0, h.b1, by rw [ht]; show σ.fin ≤ _; omega, by rw [ht]; exact hmax, by rw [ht]; show _ ≤ (σ.start / 118 + σ.n - 1) * 118; omega⟩
theorem RingAt.drewN {r d : Nat} {σ : RingS} (h : RingAt B Y w r d σ) (k : Nat) : RingAt B Y (w.drewN k) r d σ :=
  let ⟨bv', h⟩ := h; ⟨bv', ⟨h.hr, h.blk, h.own, h.rb, h.ok⟩⟩
theorem RingAt.drew {r d : Nat} {σ : RingS} (h : RingAt B Y w r d σ) : RingAt B Y w.drew r d σ :=
  let ⟨bv', h⟩ := h; ⟨bv', ⟨h.hr, h.blk, h.own, h.rb, h.ok⟩⟩

theorem Byts.form {v : Value} {bs : List UInt8} (h : Byts B Y w v bs) : ∃ a c, v = .slice a bs.length c ∧ Src w (.slice a bs.length c) bs.length (bs.map bv) := by
  have hs := Sl.src h
  obtain ⟨a, c, rfl, _⟩ := h
  rw [List.length_map] at hs ⊢
  exact ⟨a, c, rfl, hs⟩
theorem ret_int {k : IntKind} {a b : Int} (h : a = b) : Ending.returned (.int k a) = .returned (.int k b) := by rw [h]
def RingT : List Nat := [210]
theorem mod_rb (h : Mod B T D R Y Y w w') {rb : Option Nat} (hr : rb = Y.rb ∨ ∃ g, rb = some g ∧ w.heap.size ≤ g ∧ g < w'.heap.size) : Mod B T D R Y { Y with rb := rb } w w' :=
  ⟨h.os, h.tape, h.output, h.size, h.blk, rfl, hr⟩

set_option maxHeartbeats 400000 in
theorem ring_start {r d : Nat} {σ : RingS} (h : RingAt B Y w r d σ) : Calls Tryz.prog 122 #[.pointer (some ⟨r, 0, none⟩)] w fun e w' => e = .returned (i64 σ.start) ∧ w = w' := by
  obtain ⟨bv', h⟩ := h
  have hc := h.blk.cell
  unfold ringCells at hc
  go_enter Tryz.func122, Tryz.ntmps122
  go_wp2
  go_ret
  exact ⟨rfl, rfl⟩
set_option maxHeartbeats 400000 in
theorem ring_end {r d : Nat} {σ : RingS} (h : RingAt B Y w r d σ) : Calls Tryz.prog 91 #[.pointer (some ⟨r, 0, none⟩)] w fun e w' => e = .returned (i64 σ.fin) ∧ w = w' := by
  obtain ⟨bv', h⟩ := h
  have hc := h.blk.cell
  unfold ringCells at hc
  go_enter Tryz.func91, Tryz.ntmps91
  go_wp2
  go_ret
  exact ⟨rfl, rfl⟩
set_option maxHeartbeats 400000 in
theorem ring_tail {r d : Nat} {σ : RingS} (h : RingAt B Y w r d σ) : Calls Tryz.prog 114 #[.pointer (some ⟨r, 0, none⟩)] w fun e w' => e = .returned (i64 σ.tail) ∧ ∃ k, w' = w.drewN k := by
  obtain ⟨bv', h⟩ := h
  obtain ⟨a, c, rfl, _, _⟩ := own_form h.own
  have hc := h.blk.cell
  unfold ringCells at hc
  have hb0 : (0 : Int) ≤ σ.base := by omega
  have hb1 : (σ.base : Int) + σ.bs.length ≤ 1099511627776 := by have := h.ok.b3; unfold RingS.tail at this; omega
  go_enter Tryz.func114, Tryz.ntmps114
  go_wp2
  go_quiet (fail)
  go_wp2
  go_ret
  exact ⟨by simp [RingS.tail], _, rfl⟩
set_option maxHeartbeats 800000 in
theorem ring_room {r d : Nat} {σ : RingS} (h : RingAt B Y w r d σ) : Calls Tryz.prog 118 #[.pointer (some ⟨r, 0, none⟩)] w fun e w' => e = .returned (i64 σ.room) ∧ ∃ k, w' = w.drewN k := by
  have hT := fun k => ring_tail (h.drewN k)
  obtain ⟨bv', h⟩ := h
  have hc := h.blk.cell
  unfold ringCells at hc
  have hok := h.ok
  have hs0 : (0 : Int) ≤ σ.start := by omega
  have hs1 : (σ.start : Int) ≤ 1099511627776 := by have := hok.b1; have := hok.b2; have := hok.b3; omega
  have hn0 : (0 : Int) ≤ σ.n := by omega
  have hn1 : (σ.n : Int) ≤ 8192 := by have := hok.n8; omega
  have ht0 : (0 : Int) ≤ σ.tail := by omega
  have ht1 : (σ.tail : Int) ≤ 1099511627776 := by have := hok.b3; omega
  have HT := Lib.hid hT
  clear hT
  go_enter Tryz.func118, Tryz.ntmps118
  go_wp2
  go_quiet ((go_at_call 114; exact Calls.quiet_of (HT.out _)))
  go_wp2
  all_goals
    go_ret
    exact ⟨ret_int (by unfold RingS.room; omega), _, rfl⟩

set_option maxHeartbeats 1000000 in
theorem ring_append {r d : Nat} {σ : RingS} (h : RingAt B Y w r d σ) (v : Value) (xs : List UInt8) (hv : Byts B Y w v xs) (hroom : (xs.length : Int) ≤ σ.room) (hmax : σ.tail + xs.length ≤ 1099511627776) :
    Calls Tryz.prog 124 #[.pointer (some ⟨r, 0, none⟩), v] w fun e w' => e = .returned (i64 0) ∧ ∃ Y', Mod B RingT false true Y Y' w w' ∧ RingAt B Y' w' r d { σ with bs := σ.bs ++ xs } := by
  have hR := ring_room h
  obtain ⟨bv', h⟩ := h
  obtain ⟨ra, rc, rfl, hrc, hrm⟩ := own_form h.own
  have hc := h.blk.cell
  unfold ringCells at hc
  obtain ⟨a, c, rfl, hsrc⟩ := hv.form
  have hone := bv_one xs
  have hroom' : ¬ σ.room < (xs.length : Int) := by omega
  go_enter Tryz.func124, Tryz.ntmps124
  have hbb := h.ok.b3
  have hBr := h.hr
  have hrl := h.blk.lt
  have hbnd : σ.bs.length + xs.length ≤ maxLen ∧ (σ.bs.length + xs.length) * 1 ≤ 140737488355328 ∧ B ≤ w.heap.size := by
    unfold RingS.tail at hmax; simp [maxLen]; omega
  have hne := own_ne h.own h.blk (by decide)
  have hl1 : (xs.map bv).length = xs.length * 1 := by simp
  go_wp2_with (first
    | (go_at_call 118; refine hR.mono ?_; rintro e w1 ⟨rfl, k, rfl⟩)
    | (at_builtin; refine wpList_app (w.drewN k) rfl (.tmp 18) (.tmp 19) rfl B sl48 h.own rfl hsrc rfl hl1 hone hbnd ?_; intro v2 w2 hown2 hg2 hat2
       obtain ⟨va, vc, rfl, _, _⟩ := own_form hown2
       have hb2 : Blk w2 r 210 (ringCells d (.slice ra σ.bs.length rc) σ) := h.blk.at_ (hg2.block r hrl (fun e => hne r e.symm rfl))
       have hc2 := hb2.cell
       have hf2 := hb2.frozen
       unfold ringCells at hc2))
  go_ret
  refine ⟨rfl, { Y with rb := (Value.slice va (σ.bs.length + xs.length) vc).ownBlock }, ?_, .slice va (σ.bs.length + xs.length) vc, ?_⟩
  · have m0 : Mod B RingT false true Y Y w w2 := ((Mod.refl B RingT false true Y w).drewN k).trans (mod_grown hg2 (fun g hg => (h.own.lt g hg).1) (fun g hg => .inr (.inl ⟨rfl, by rw [← h.rb]; exact hg.symm⟩)))
    refine (mod_rb m0 ?_).set_ hBr hb2.ty (by decide) _
    rcases hat2 with e | e
    · exact .inl (e.trans h.rb)
    · exact .inr ⟨_, e, Nat.le_refl _, (hown2.lt _ e).2⟩
  · refine ⟨hBr, hb2.set_ 4 _, ?_, rfl, ?_⟩
    · have := own_set (p := ⟨r, 4, none⟩) hown2 (own_ne hown2 hb2 (by decide)) (.slice va (σ.bs.length + xs.length) vc)
      simpa using this
    · exact ok_append h.ok xs hroom hmax

-- GENERATED BELOW

theorem putB_one : putB 1 8 8 = [0, 0, 0, 0, 0, 0, 0, 1] := by decide
theorem u48 : Tryz.prog.underlying 48 = some (.slice 5) := by kernel_rfl
theorem u5 : Tryz.prog.underlying 5 = some (.int .u8) := by kernel_rfl
theorem u9 : Tryz.prog.underlying 9 = some .string := by kernel_rfl

set_option maxRecDepth 100000 in
set_option maxHeartbeats 2000000 in
theorem ring_sector0 {r d n k : Nat} {view : Nat → List UInt8} {σ : RingS} (h : RingAt B Y w r d σ) (hd : DevAt B Y w d n k view) (hk : k < 1099511627776) (hf : σ.from_ < n) (hv : view σ.from_ = List.replicate 128 0) :
    Calls Tryz.prog 152 #[.pointer (some ⟨r, 0, none⟩), i64 0] w fun e w' => ∃ g, e = .returned (.tuple #[.slice (some ⟨g, 0, none⟩) 118 118, i64 0, i64 0]) ∧ Mod B DevT false false Y Y w w' ∧ DevAt B Y w' d n k view ∧ w.heap.size ≤ g := by
  obtain ⟨bv', h⟩ := h
  have hc := h.blk.cell
  unfold ringCells at hc
  have hn2 : (2 : Int) ≤ σ.n := by have := h.ok.n2; omega
  have hn0 : ¬ σ.n = 0 := by omega
  have hn8 : (σ.n : Int) ≤ 8192 := by have := h.ok.n8; omega
  have hf8 : (σ.from_ : Int) ≤ 8192 := by have := h.ok.f8; omega
  have hmk : ∀ w : World, (Instr.makeSlice 48 (.int .i64 118) (.int .i64 118)).run Tryz.prog w = .ok (.slice (some ⟨w.heap.size, 0, none⟩) 118 118) (w.alloc (.cells (Array.replicate 118 (.int .u8 0)) 5)) :=
    fun w => run_mk (P := Tryz.prog) w sl48 rfl .i64 .i64 118 118 (by decide) (by decide) (by decide)
  go_enter Tryz.func152, Tryz.ntmps152
  go_wp2_with fail
  refine wp_scope_once 0 rfl ?_
  go_wp2_with fail
  refine wp_region_G (fun w' => ∀ i, w'.cell? ⟨r, i, none⟩ = #[.pointer (some ⟨d, 0, none⟩), i64 σ.from_, i64 σ.n, i64 σ.base, bv', i64 σ.start, i64 σ.fin, .bool false][i]?) 20 21 (by kernel_rfl) rfl ?_
  intro w0 hsd
  have hSw : ∀ i, w0.cell? ⟨r, i, none⟩ = #[.pointer (some ⟨d, 0, none⟩), i64 σ.from_, i64 σ.n, i64 σ.base, bv', i64 σ.start, i64 σ.fin, .bool false][i]? := fun i => (hsd.cell _).trans (hc i)
  refine' wpF_take 0 (v := _) rfl (by kernel_rfl) (fun _ _ _ h => h) (by rfl) hSw (fun w' hS => ?_) ?_; rotate_left
  · go_simp; with_reducible rfl
  simp only [Act.put, List.getElem_toArray, List.getElem_cons_succ, List.getElem_cons_zero, List.setIfInBounds_toArray, List.set_cons_zero, List.set_cons_succ]
  refine' wpF_take 1 (v := _) rfl (by kernel_rfl) (fun _ _ _ h => h) (by rfl) hSw (fun w' hS => ?_) ?_; rotate_left
  · go_simp; with_reducible rfl
  simp only [Act.put, List.getElem_toArray, List.getElem_cons_succ, List.getElem_cons_zero, List.setIfInBounds_toArray, List.set_cons_zero, List.set_cons_succ]
  refine' wpF_take 2 (v := _) rfl (by kernel_rfl) (fun _ _ _ h => h) (by rfl) hSw (fun w' hS => ?_) ?_; rotate_left
  · go_simp; with_reducible rfl
  simp only [Act.put, List.getElem_toArray, List.getElem_cons_succ, List.getElem_cons_zero, List.setIfInBounds_toArray, List.set_cons_zero, List.set_cons_succ]
  refine' wpF_take 3 (v := _) rfl (by kernel_rfl) (fun _ _ _ h => h) (by rfl) hSw (fun w' hS => ?_) ?_; rotate_left
  · go_simp; with_reducible rfl
  simp only [Act.put, List.getElem_toArray, List.getElem_cons_succ, List.getElem_cons_zero, List.setIfInBounds_toArray, List.set_cons_zero, List.set_cons_succ]
  refine' wpF_take 4 (v := _) rfl (by kernel_rfl) (fun _ _ _ h => h) (by rfl) hSw (fun w' hS => ?_) ?_; rotate_left
  · go_simp; with_reducible rfl
  simp only [Act.put, List.getElem_toArray, List.getElem_cons_succ, List.getElem_cons_zero, List.setIfInBounds_toArray, List.set_cons_zero, List.set_cons_succ]
  refine' wpF_take 5 (v := _) rfl (by kernel_rfl) (fun _ _ _ h => h) (by rfl) hSw (fun w' hS => ?_) ?_; rotate_left
  · go_simp; with_reducible rfl
  simp only [Act.put, List.getElem_toArray, List.getElem_cons_succ, List.getElem_cons_zero, List.setIfInBounds_toArray, List.set_cons_zero, List.set_cons_succ]
  refine' wpF_take 6 (v := _) rfl (by kernel_rfl) (fun _ _ _ h => h) (by rfl) hSw (fun w' hS => ?_) ?_; rotate_left
  · go_simp; with_reducible rfl
  simp only [Act.put, List.getElem_toArray, List.getElem_cons_succ, List.getElem_cons_zero, List.setIfInBounds_toArray, List.set_cons_zero, List.set_cons_succ]
  refine' wpF_take 7 (v := _) rfl (by kernel_rfl) (fun _ _ _ h => h) (by rfl) hSw (fun w' hS => ?_) ?_; rotate_left
  · go_simp; with_reducible rfl
  simp only [Act.put, List.getElem_toArray, List.getElem_cons_succ, List.getElem_cons_zero, List.setIfInBounds_toArray, List.set_cons_zero, List.set_cons_succ]
  refine' wpF_take 8 (v := _) rfl (by kernel_rfl) (fun _ _ _ h => h) (by rfl) hSw (fun w' hS => ?_) ?_; rotate_left
  · go_simp; with_reducible rfl
  simp only [Act.put, List.getElem_toArray, List.getElem_cons_succ, List.getElem_cons_zero, List.setIfInBounds_toArray, List.set_cons_zero, List.set_cons_succ]
  refine' wpF_take 9 (v := _) rfl (by kernel_rfl) (fun _ _ _ h => h) (by rfl) hSw (fun w' hS => ?_) ?_; rotate_left
  · go_simp; with_reducible rfl
  simp only [Act.put, List.getElem_toArray, List.getElem_cons_succ, List.getElem_cons_zero, List.setIfInBounds_toArray, List.set_cons_zero, List.set_cons_succ]
  refine' wpF_take 10 (v := _) rfl (by kernel_rfl) (fun _ _ _ h => h) (by rfl) hSw (fun w' hS => ?_) ?_; rotate_left
  · go_simp; with_reducible rfl
  simp only [Act.put, List.getElem_toArray, List.getElem_cons_succ, List.getElem_cons_zero, List.setIfInBounds_toArray, List.set_cons_zero, List.set_cons_succ]
  refine' wpF_take 11 (v := _) rfl (by kernel_rfl) (fun _ _ _ h => h) (by rfl) hSw (fun w' hS => ?_) ?_; rotate_left
  · go_simp; with_reducible rfl
  simp only [Act.put, List.getElem_toArray, List.getElem_cons_succ, List.getElem_cons_zero, List.setIfInBounds_toArray, List.set_cons_zero, List.set_cons_succ]
  refine' wpF_take 12 (v := _) rfl (by kernel_rfl) (fun _ _ _ h => h) (by rfl) hSw (fun w' hS => ?_) ?_; rotate_left
  · go_simp; with_reducible rfl
  simp only [Act.put, List.getElem_toArray, List.getElem_cons_succ, List.getElem_cons_zero, List.setIfInBounds_toArray, List.set_cons_zero, List.set_cons_succ]
  refine' wpF_take 13 (v := _) rfl (by kernel_rfl) (fun _ _ _ h => h) (by rfl) hSw (fun w' hS => ?_) ?_; rotate_left
  · go_simp; with_reducible rfl
  simp only [Act.put, List.getElem_toArray, List.getElem_cons_succ, List.getElem_cons_zero, List.setIfInBounds_toArray, List.set_cons_zero, List.set_cons_succ]
  refine' wpF_take 14 (v := _) rfl (by kernel_rfl) (fun _ _ _ h => h) (by rfl) hSw (fun w' hS => ?_) ?_; rotate_left
  · go_simp; with_reducible rfl
  simp only [Act.put, List.getElem_toArray, List.getElem_cons_succ, List.getElem_cons_zero, List.setIfInBounds_toArray, List.set_cons_zero, List.set_cons_succ]
  refine wpF_one 15 rfl (by kernel_rfl) ?_
  simp only [List.getElem_toArray, List.getElem_cons_succ, List.getElem_cons_zero]
  go_wp2_with fail
  refine (dev_read (hd.below (hsd.below _)) σ.from_ hf hk).mono ?_
  rintro e w1 ⟨v, rfl, hq1, hown1⟩
  have hd1 := (hd.below (hsd.below _)).q hq1
  have hm1 := (hsd.mod B DevT false false Y).trans ((hd.below (hsd.below _)).mod' hq1)
  rw [hv] at hown1
  obtain ⟨g, c, rfl, hgb, hgl⟩ := hown1.form (by decide)
  have hcc : (8 : Int) ≤ c := by have := (own_le hown1).1; omega
  have hb1 := hm1.keep (g := r) (t := 210) h.blk (by decide) (by simp) (by simp)
  have hc1 := hb1.cell
  unfold ringCells at hc1
  go_wp2_with fail
  refine ⟨fun _ => hc1, ?_⟩
  have hSw := hc1
  refine' wpF_take 16 (v := _) rfl (by kernel_rfl) (fun _ _ _ h => h) (by rfl) hSw (fun w' hS => ?_) ?_; rotate_left
  · go_simp; with_reducible rfl
  simp only [Act.put, List.getElem_toArray, List.getElem_cons_succ, List.getElem_cons_zero, List.setIfInBounds_toArray, List.set_cons_zero, List.set_cons_succ]
  refine' wpF_take 17 (v := _) rfl (by kernel_rfl) (fun _ _ _ h => h) (by rfl) hSw (fun w' hS => ?_) ?_; rotate_left
  · go_simp; with_reducible rfl
  simp only [Act.put, List.getElem_toArray, List.getElem_cons_succ, List.getElem_cons_zero, List.setIfInBounds_toArray, List.set_cons_zero, List.set_cons_succ]
  refine' wpF_take 18 (v := _) rfl (by kernel_rfl) (fun _ _ _ h => h) (by rfl) hSw (fun w' hS => ?_) ?_; rotate_left
  · go_simp; with_reducible rfl
  simp only [Act.put, List.getElem_toArray, List.getElem_cons_succ, List.getElem_cons_zero, List.setIfInBounds_toArray, List.set_cons_zero, List.set_cons_succ]
  refine' wpF_take 19 (v := _) rfl (by kernel_rfl) (fun _ _ _ h => h) (by rfl) hSw (fun w' hS => ?_) ?_; rotate_left
  · go_simp; with_reducible rfl
  simp only [Act.put, List.getElem_toArray, List.getElem_cons_succ, List.getElem_cons_zero, List.setIfInBounds_toArray, List.set_cons_zero, List.set_cons_succ]
  refine wpF_tail (by kernel_rfl) ?_
  simp only [List.drop_succ_cons, List.drop_zero]
  go_wp2_with fail
  have hsrc : ∀ w' : World, w'.heap[g]? = w1.heap[g]? → Src w' (.slice (some ⟨g, 0, none⟩) (List.replicate 8 (0 : UInt8)).length c) (List.replicate 8 (0 : UInt8)).length ((List.replicate 8 (0 : UInt8)).map bv) := by
    intro w' hw'
    refine ⟨_, c, rfl, fun _ => ⟨g, 0, rfl, fun j u hu => ?_⟩⟩
    rw [World.cell?_of_block (a := ⟨g, 0 + j, none⟩) hw', Nat.zero_add]
    have := hown1.cells (g := g) rfl j u (by
      rw [List.map_replicate, List.getElem?_replicate] at hu ⊢
      split at hu
      · rw [if_pos (by omega)]; exact hu
      · cases hu)
    rwa [addr_add, Nat.zero_add] at this
  have hcv : ∀ w' : World, w'.heap[g]? = w1.heap[g]? → (convert 48 9 (.slice (some ⟨g, 0, none⟩) 8 c)).run Tryz.prog w' = .ok (.string ⟨(List.replicate 8 (0 : UInt8)).toArray⟩) w' := fun w' hw' => run_str w' u48 u5 u9 (hsrc w' hw')
  refine wp_region_G (fun w' => w'.heap[g]? = w1.heap[g]?) 8 8 (by kernel_rfl) rfl ?_
  intro wd hsd
  have hSw : wd.heap[g]? = w1.heap[g]? := by rw [hsd.heap]
  have hSw0 := hSw
  refine' wpF_take 0 (v := _) rfl (by kernel_rfl) (fun _ _ _ h => h) (by rfl) hSw (fun w' hS => ?_) ?_; rotate_left
  · go_simp; with_reducible rfl
  simp only [Act.put, List.getElem_toArray, List.getElem_cons_succ, List.getElem_cons_zero, List.setIfInBounds_toArray, List.set_cons_zero, List.set_cons_succ]
  refine' wpF_take 1 (v := _) rfl (by kernel_rfl) (fun _ _ _ h => h) (by rfl) hSw (fun w' hS => ?_) ?_; rotate_left
  · go_simp; with_reducible rfl
  simp only [Act.put, List.getElem_toArray, List.getElem_cons_succ, List.getElem_cons_zero, List.setIfInBounds_toArray, List.set_cons_zero, List.set_cons_succ]
  refine' wpF_take 2 (v := _) rfl (by kernel_rfl) (fun _ _ _ h => h) (by rfl) hSw (fun w' hS => ?_) ?_; rotate_left
  · have hcv1 := hcv w' hS; go_simp; with_reducible rfl
  simp only [Act.put, List.getElem_toArray, List.getElem_cons_succ, List.getElem_cons_zero, List.setIfInBounds_toArray, List.set_cons_zero, List.set_cons_succ]
  refine' wpF_take 3 (v := _) rfl (by kernel_rfl) (fun _ _ _ h => h) (by rfl) hSw (fun w' hS => ?_) ?_; rotate_left
  · go_simp; with_reducible rfl
  simp only [Act.put, List.getElem_toArray, List.getElem_cons_succ, List.getElem_cons_zero, List.setIfInBounds_toArray, List.set_cons_zero, List.set_cons_succ]
  refine' wpF_take 4 (v := _) rfl (by kernel_rfl) (fun _ _ _ h => h) (by rfl) hSw (fun w' hS => ?_) ?_; rotate_left
  · go_simp; with_reducible rfl
  simp only [Act.put, List.getElem_toArray, List.getElem_cons_succ, List.getElem_cons_zero, List.setIfInBounds_toArray, List.set_cons_zero, List.set_cons_succ]
  refine wpF_one 5 rfl (by kernel_rfl) ?_
  simp only [List.getElem_toArray, List.getElem_cons_succ, List.getElem_cons_zero]
  go_wp2_with fail
  refine (number209 1 wd).mono ?_
  rintro e w2 ⟨v2, rfl, hown2, hb2⟩
  rw [putB_one] at hown2
  obtain ⟨g2, c2, rfl, hgb2, hgl2⟩ := hown2.form (by decide)
  have hg2 : w2.heap[g]? = w1.heap[g]? := (hb2.block g (hsd.lt hgl)).trans hSw0
  have hcv2 := run_str w2 u48 u5 u9 (bs := [0, 0, 0, 0, 0, 0, 0, 1]) (src_own hown2)
  go_wp2_with fail
  refine ⟨fun _ => hg2, ?_⟩
  have hSw := hg2
  refine wpF_one 6 rfl (by kernel_rfl) ?_
  simp only [List.getElem_toArray, List.getElem_cons_succ, List.getElem_cons_zero]
  go_wp2_with fail
  refine ⟨fun _ => hg2, ?_⟩
  refine' wpF_take 7 (v := _) rfl (by kernel_rfl) (fun _ _ _ h => h) (by rfl) hSw (fun w' hS => ?_) ?_; rotate_left
  · go_simp; with_reducible rfl
  simp only [Act.put, List.getElem_toArray, List.getElem_cons_succ, List.getElem_cons_zero, List.setIfInBounds_toArray, List.set_cons_zero, List.set_cons_succ]
  refine wpF_tail (by kernel_rfl) ?_
  simp only [List.drop_succ_cons, List.drop_zero]
  go_wp2_with fail
  go_step3
  refine ⟨rfl, ?_⟩
  go_wp2_with fail
  rw [Exit.noGoto_ret]
  go_ret3
  have hbb : Below w1.heap.size w1 w2 := (hsd.below _).trans (hb2.mono (by rw [hsd.heap]; exact Nat.le_refl _))
  have hM : Mod B DevT false false Y Y w (w2.alloc (.cells (Array.replicate 118 (.int .u8 0)) 5)) := (hm1.below_ hbb).alloc _
  have hd2 := hd1.below hbb
  exact ⟨w2.heap.size, rfl, hM, hd2.below ((Below.refl _ _).alloc (Nat.le_refl _) _), by have h1 := hm1.size; have h2 := hbb.size; omega⟩

set_option maxRecDepth 100000 in
set_option maxHeartbeats 4000000 in
theorem ring_open0 {d n k fr nl : Nat} {view : Nat → List UInt8} (hd : DevAt B Y w d n k view) (hB : B ≤ w.heap.size) (hk : k < 1099511627776) (hn8 : n ≤ 8192) (h2 : 2 ≤ nl) (hfn : fr + nl ≤ n) (hrb : Y.rb = none) (hv : view fr = List.replicate 128 0) :
    Calls Tryz.prog 87 #[.pointer (some ⟨d, 0, none⟩), i64 fr, i64 nl, i64 0] w fun e w' => ∃ r, e = .returned (.tuple #[.pointer (some ⟨r, 0, none⟩), i64 0]) ∧ Mod B (RingT ++ DevT) false true Y Y w w' ∧ DevAt B Y w' d n k view ∧ w.heap.size ≤ r ∧
      RingAt B Y w' r d ⟨fr, nl, 0, [], 0, 0⟩ := by
  have hS := dev_size hd
  have h2' : (2 : Int) ≤ nl := by omega
  have h3' : (nl : Int) ≤ 8192 := by omega
  have h4' : (0 : Int) ≤ fr := by omega
  have h5' : (fr : Int) ≤ n := by omega
  have h6' : (nl : Int) ≤ n - fr := by omega
  go_enter Tryz.func87, Tryz.ntmps87
  go_upto_region 3 with (go_at_call 84; refine hS.mono ?_; rintro e w' ⟨rfl, rfl⟩)
  go_wp2_with fail
  have hb1 : Blk (w.alloc (.cells #[.pointer (some ⟨d, 0, none⟩), i64 fr, i64 nl, i64 0, .slice none 0 0, i64 0, i64 0, .bool false] 210)) w.heap.size 210 #[.pointer (some ⟨d, 0, none⟩), i64 fr, i64 nl, i64 0, .slice none 0 0, i64 0, i64 0, .bool false] := Blk.new _ _ _
  have hd1 := hd.below ((Below.refl _ _).alloc (Nat.le_refl _) (.cells #[.pointer (some ⟨d, 0, none⟩), i64 fr, i64 nl, i64 0, .slice none 0 0, i64 0, i64 0, .bool false] 210))
  have hR1 : RingAt B Y (w.alloc (.cells #[.pointer (some ⟨d, 0, none⟩), i64 fr, i64 nl, i64 0, .slice none 0 0, i64 0, i64 0, .bool false] 210)) w.heap.size d ⟨fr, nl, 0, [], 0, 0⟩ :=
    ⟨.slice none 0 0, hB, hb1, World.ownsRow_nil _ _ _ _, by rw [hrb]; rfl, ⟨h2, by show nl ≤ 8192; omega, by show fr ≤ 8192; omega, by simp, by simp, by simp [RingS.tail], by simp [RingS.tail], by simp [RingS.tail]⟩⟩
  have hM1 : Mod B (RingT ++ DevT) false true Y Y w (w.alloc (.cells #[.pointer (some ⟨d, 0, none⟩), i64 fr, i64 nl, i64 0, .slice none 0 0, i64 0, i64 0, .bool false] 210)) := (Mod.refl _ _ _ _ _ _).alloc _
  have hsz1 : w.heap.size < (w.alloc (.cells #[.pointer (some ⟨d, 0, none⟩), i64 fr, i64 nl, i64 0, .slice none 0 0, i64 0, i64 0, .bool false] 210)).heap.size := by simp
  generalize w.alloc (.cells #[.pointer (some ⟨d, 0, none⟩), i64 fr, i64 nl, i64 0, .slice none 0 0, i64 0, i64 0, .bool false] 210) = w1 at *
  have hsec := ring_sector0 hR1 hd1 hk (by simp; omega) hv
  clear hS
  go_loopw [65] (fun t wr => t = .int .i64 0 ∧ wr = w1) (fun _ _ => 0)
  case atStart => exact ⟨rfl, rfl⟩
  case round =>
    obtain ⟨rfl, rfl⟩ := hrel
    go_upto_region 15 with (go_at_call 152; refine hsec.mono ?_; rintro e w2 ⟨g, rfl, hm2, hd2, hg2⟩)
    have hb2 := hm2.keep (g := w.heap.size) (t := 210) hb1 (by decide) (by simp) (by simp)
    have hc2 := hb2.cell
    have happ : ∀ w : World, (Builtin.append_ #[48, 48] 48 #[.slice none 0 0, .slice (some ⟨g, 0, none⟩) 0 118]).run Tryz.prog w = .ok (.slice none 0 0) w := fun w => run_app_none w 48 sl48 _ _
    refine wp_region_G (fun w' => ∀ i, w'.cell? ⟨w.heap.size, i, none⟩ = #[.pointer (some ⟨d, 0, none⟩), i64 fr, i64 nl, i64 0, .slice none 0 0, i64 0, i64 0, .bool false][i]?) 9 12 (by kernel_rfl) rfl ?_
    intro w4 hsd
    have hSw : ∀ i, w4.cell? ⟨w.heap.size, i, none⟩ = #[.pointer (some ⟨d, 0, none⟩), i64 fr, i64 nl, i64 0, .slice none 0 0, i64 0, i64 0, .bool false][i]? := fun i => (hsd.cell _).trans (hc2 i)
    refine' wpF_take 0 (v := _) rfl (by kernel_rfl) (fun _ _ _ h => h) (by rfl) hSw (fun w' hS => ?_) ?_; rotate_left
    · go_simp; with_reducible rfl
    simp only [Act.put, List.getElem_toArray, List.getElem_cons_succ, List.getElem_cons_zero, List.setIfInBounds_toArray, List.set_cons_zero, List.set_cons_succ]
    refine' wpF_take 1 (v := _) rfl (by kernel_rfl) (fun _ _ _ h => h) (by rfl) hSw (fun w' hS => ?_) ?_; rotate_left
    · go_simp; with_reducible rfl
    simp only [Act.put, List.getElem_toArray, List.getElem_cons_succ, List.getElem_cons_zero, List.setIfInBounds_toArray, List.set_cons_zero, List.set_cons_succ]
    refine' wpF_take 2 (v := _) rfl (by kernel_rfl) (fun _ _ _ h => h) (by rfl) hSw (fun w' hS => ?_) ?_; rotate_left
    · go_simp; with_reducible rfl
    simp only [Act.put, List.getElem_toArray, List.getElem_cons_succ, List.getElem_cons_zero, List.setIfInBounds_toArray, List.set_cons_zero, List.set_cons_succ]
    refine' wpF_take 3 (v := _) rfl (by kernel_rfl) (fun _ _ _ h => h) (by rfl) hSw (fun w' hS => ?_) ?_; rotate_left
    · go_simp; with_reducible rfl
    simp only [Act.put, List.getElem_toArray, List.getElem_cons_succ, List.getElem_cons_zero, List.setIfInBounds_toArray, List.set_cons_zero, List.set_cons_succ]
    refine' wpF_take 4 (v := _) rfl (by kernel_rfl) (fun _ _ _ h => h) (by rfl) hSw (fun w' hS => ?_) ?_; rotate_left
    · go_simp; with_reducible rfl
    simp only [Act.put, List.getElem_toArray, List.getElem_cons_succ, List.getElem_cons_zero, List.setIfInBounds_toArray, List.set_cons_zero, List.set_cons_succ]
    refine' wpF_take 5 (v := _) rfl (by kernel_rfl) (fun _ _ _ h => h) (by rfl) hSw (fun w' hS => ?_) ?_; rotate_left
    · go_simp; with_reducible rfl
    simp only [Act.put, List.getElem_toArray, List.getElem_cons_succ, List.getElem_cons_zero, List.setIfInBounds_toArray, List.set_cons_zero, List.set_cons_succ]
    refine' wpF_take 6 (v := _) rfl (by kernel_rfl) (fun _ _ _ h => h) (by rfl) hSw (fun w' hS => ?_) ?_; rotate_left
    · go_simp; with_reducible rfl
    simp only [Act.put, List.getElem_toArray, List.getElem_cons_succ, List.getElem_cons_zero, List.setIfInBounds_toArray, List.set_cons_zero, List.set_cons_succ]
    refine' wpF_take 7 (v := _) rfl (by kernel_rfl) (fun _ _ _ h => h) (by rfl) hSw (fun w' hS => ?_) ?_; rotate_left
    · go_simp; with_reducible rfl
    simp only [Act.put, List.getElem_toArray, List.getElem_cons_succ, List.getElem_cons_zero, List.setIfInBounds_toArray, List.set_cons_zero, List.set_cons_succ]
    refine wpF_one 8 rfl (by kernel_rfl) ?_
    simp only [List.getElem_toArray, List.getElem_cons_succ, List.getElem_cons_zero]
    go_wp2_with fail
    refine ⟨fun _ => hSw, ?_⟩
    have hb4 := hsd.blk hb2
    have hc4 := hb4.cell
    have hf4 := hb4.frozen
    refine wpF_tail (by kernel_rfl) ?_
    simp only [List.drop_succ_cons, List.drop_zero]
    have hb3 : Blk (w4.setCell ⟨w.heap.size, 4, none⟩ (.slice none 0 0)) w.heap.size 210 #[.pointer (some ⟨d, 0, none⟩), i64 fr, i64 nl, i64 0, .slice none 0 0, i64 0, i64 0, .bool false] := hb4.set_ 4 (.slice none 0 0)
    have hR3 : RingAt B Y (w4.setCell ⟨w.heap.size, 4, none⟩ (.slice none 0 0)) w.heap.size d ⟨fr, nl, 0, [], 0, 0⟩ := by
      obtain ⟨_, h⟩ := hR1
      exact ⟨.slice none 0 0, h.hr, hb3, World.ownsRow_nil _ _ _ _, by rw [hrb]; rfl, h.ok⟩
    have ht3 := ring_tail hR3
    have hM3 : Mod B (RingT ++ DevT) false true Y Y w (w4.setCell ⟨w.heap.size, 4, none⟩ (.slice none 0 0)) :=
      ((hM1.trans (hm2.more (RingT ++ DevT) false true (by decide))).same hsd).set_new (Nat.le_refl _) _
    have hd3 : DevAt B Y (w4.setCell ⟨w.heap.size, 4, none⟩ (.slice none 0 0)) d n k view :=
      (hd2.below (hsd.below _)).mod (mod_set (T := [210]) (D := false) (R := false) hB hb4.ty (by simp) _) rfl (by simp) (by simp)
    go_wp2_with (go_at_call 114; refine ht3.mono ?_; rintro e w5 ⟨rfl, j, hw5⟩; have hs5 := Same.drewN hw5; clear hw5; have hb5 := hs5.blk hb3; have hc5 := hb5.cell; have hf5 := hb5.frozen)
    go_ret2
    refine ⟨w.heap.size, rfl, ?_, ?_, Nat.le_refl _, ?_⟩
    · exact (hM3.same hs5).set_new (p := ⟨w.heap.size, 6, none⟩) (Nat.le_refl _) _
    · exact (hd3.below (hs5.below _)).mod (mod_set (T := [210]) (D := false) (R := false) hB hb5.ty (by simp) _) rfl (by simp) (by simp)
    · obtain ⟨_, h⟩ := hR1
      exact ⟨.slice none 0 0, h.hr, hb5.set_ 6 _, World.ownsRow_nil _ _ _ _, by rw [hrb]; rfl, h.ok⟩
end Go.Proofs.YtllhgbanbelmaaaGreat

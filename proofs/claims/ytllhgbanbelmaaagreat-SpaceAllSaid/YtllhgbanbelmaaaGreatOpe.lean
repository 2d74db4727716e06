/- opening: clean, masters, restart on a new device. -/
import Derived.Test.YtllhgbanbelmaaaGreatOpd
namespace Go.Proofs.YtllhgbanbelmaaaGreat
open Go.RowKit
variable {B : Nat} {T : List Nat} {D R : Bool} {Y Y' : Sys} {w w' : World}

set_option maxRecDepth 100000 in
set_option maxHeartbeats 1000000 in
theorem clean163 {s d r f p np n : Nat} {fv lines opens : Value} {master next commits redone undone : Int} (hbs : Blk w s 105 (stCells d r f p lines opens master next commits redone undone)) (h : PoolAt B Y w p f fv np (List.replicate n eFr)) :
    Calls Tryz.prog 163 #[.pointer (some ⟨s, 0, none⟩)] w fun e w' => e = .returned (i64 0) ∧ Below w.heap.size w w' := by
  have hc := hbs.cell
  unfold stCells at hc
  have hd := dirty197 h
  have HD := Lib.hid hd
  clear hd
  go_enter Tryz.func163, Tryz.ntmps163
  go_wp2_with ((go_at_call 197; refine HD.out.mono ?_); rintro e w1 ⟨rfl, hb1⟩)
  refine wp_loop_rounds 1 ?_
  rw [rounds_succ]
  go_wp2_with fail
  go_ret
  exact ⟨rfl, hb1⟩

def RestOut (B : Nat) (Y : Sys) (w : World) (s d r f p : Nat) (opens : Value) (next : Int) (redone undone : Int) (n : Nat) (view : Nat → List UInt8) (σ : RingS) (e : Ending) (w' : World) : Prop :=
  e = .returned (i64 0) ∧ ∃ X, Mod B MarkT true false Y Y w w' ∧ Blk w' s 105 (stCells d r f p (.slice none 0 0) opens 1 next 0 redone undone) ∧ DevAt B Y w' d n 0 (fun j => if j = 1 then X else view j) ∧ RingAt B Y w' r d σ
set_option maxRecDepth 100000 in
set_option maxHeartbeats 4000000 in
theorem restart92 {s d r f p np nf : Nat} {fv opens : Value} {next redone undone : Int} (hB : B ≤ s) (hbs : Blk w s 105 (stCells d r f p (.slice none 0 0) opens 0 next 0 redone undone)) {n k : Nat} {view : Nat → List UInt8} (hd : DevAt B Y w d n k view) (hk : k < 1048576) (hn : 2 ≤ n)
    {σ : RingS} (hr : RingAt B Y w r d σ) (h1 : σ.base = 0) (h2 : σ.bs = []) (h3 : σ.start = 0) (h4 : σ.fin = 0) (hY : Y.rb = none) (hp : PoolAt B Y w p f fv np (List.replicate nf eFr)) :
    Calls Tryz.prog 92 #[.pointer (some ⟨s, 0, none⟩), i64 0] w (RestOut B Y w s d r f p opens next redone undone n view σ) := by
  have hc := hbs.cell
  have hrd := read157 hbs hr h1 h2 h3 h4 hY
  have HRD := Lib.hid hrd
  have H1 := Lib.hid h1
  have H2 := Lib.hid h2
  have H3 := Lib.hid h3
  have H4 := Lib.hid h4
  have HY := Lib.hid hY
  clear hrd h1 h2 h3 h4 hY
  unfold stCells at hc
  go_enter Tryz.func92, Tryz.ntmps92
  go_wp2_with fail
  go_step3
  go_wp2_with fail
  refine HRD.out.mono ?_
  rintro e w1 ⟨rfl, hb1⟩
  have hbs1 : Blk w1 s 105 _ := hbs.at_ (hb1.block s hbs.lt)
  have hc1 := hbs1.cell
  have hf1 := hbs1.frozen
  unfold stCells at hc1
  go_wp2_with fail
  refine wp_loop_rounds 1 ?_
  rw [rounds_succ]
  go_wp2_with ((go_at_call 158; refine (analyze158 _).mono ?_); rintro e w2 ⟨rfl, rfl⟩)
  have hb2 : Blk ((w1.setCell ⟨s, 8, none⟩ (i64 0)).setCell ⟨s, 8, none⟩ (i64 0)) s 105 (stCells d r f p (.slice none 0 0) opens 0 next 0 redone undone) := (hbs1.set_ 8 (i64 0)).set_ 8 (i64 0)
  have hm2 : Mod B [105] false false Y Y w1 ((w1.setCell ⟨s, 8, none⟩ (i64 0)).setCell ⟨s, 8, none⟩ (i64 0)) := (mod_set (p := ⟨s, 8, none⟩) hB hbs1.ty (by decide) (i64 0)).set_ (p := ⟨s, 8, none⟩) hB (hbs1.set_ 8 (i64 0)).ty (by decide) _
  have hd2 := (hd.below hb1).mod hm2 rfl (by simp) (by decide)
  have hr2 := (hr.below hb1).mod hm2 rfl (by decide) (by simp) rfl
  have hp2 := (hp.below hb1).mod hm2 (by decide) (by simp) (by simp)
  have hM2 := (mod_below B [105] false false Y hb1).trans hm2
  generalize (w1.setCell ⟨s, 8, none⟩ (i64 0)).setCell ⟨s, 8, none⟩ (i64 0) = w2 at *
  clear hc hc1 hf1
  refine (again159 hb2).mono ?_
  rintro e w3 ⟨rfl, hb3⟩
  have hbs3 : Blk w3 s 105 _ := hb2.at_ (hb3.block s hb2.lt)
  have hc3 := hbs3.cell
  unfold stCells at hc3
  go_wp2_with (first | ((go_at_call 160; refine (clone160 _).mono ?_); rintro e w4 ⟨rfl, rfl⟩) | ((go_at_call 161; refine (undo161 _).mono ?_); rintro e w4 ⟨rfl, rfl⟩))
  refine wp_loop_rounds 1 ?_
  rw [rounds_succ]
  go_wp2_with fail
  refine wp_loop_rounds 1 ?_
  rw [rounds_succ]
  have hr3 := hr2.below hb3
  have hfl := ring_flush0 hr3 (by unfold RingS.tail; rw [H1.out, H2.out, H4.out]; rfl)
  have HFL := Lib.hid hfl
  clear hfl
  go_wp2_with fail
  refine HFL.out.mono ?_
  rintro e w4 ⟨rfl, hsm⟩
  have hbs4 : Blk w4 s 105 _ := hsm.blk hbs3
  have hp4 := (hp2.below hb3).below (hsm.below _)
  have hcl := clean163 hbs4 hp4
  have HCL := Lib.hid hcl
  clear hcl hc3
  go_wp2_with fail
  refine HCL.out.mono ?_
  rintro e w5 ⟨rfl, hb5⟩
  have hbs5 : Blk w5 s 105 _ := hbs4.at_ (hb5.block s hbs4.lt)
  have hc5 := hbs5.cell
  unfold stCells at hc5
  have hr5 := (hr3.below (hsm.below _)).below hb5
  have hd5 := ((hd2.below hb3).below (hsm.below _)).below hb5
  have hen := ring_end hr5
  rw [H4.out] at hen
  have hmk := mark164 hB hbs5 hd5 hk hn hr5 H1.out H3.out HY.out
  have HEN := Lib.hid hen
  have HMK := Lib.hid hmk
  clear hen hmk
  go_wp2_with (first | ((go_at_call 91; refine HEN.out.mono ?_); rintro e w6 ⟨rfl, rfl⟩) | ((go_at_call 164; refine HMK.out.mono ?_); rintro e w6 ⟨rfl, X, hm6, hb6, hd6, hr6⟩))
  go_step3
  go_wp2_with fail
  rw [Exit.noGoto_ret]
  go_ret
  have hM5 := ((hM2.below_ hb3).below_ (hsm.below _)).below_ hb5
  exact ⟨rfl, X, (hM5.more MarkT true false (by decide)).trans hm6, hb6, hd6, hr6⟩

set_option maxRecDepth 100000 in
set_option maxHeartbeats 1000000 in
theorem number151x (b off l c : Nat) (hl : 8 ≤ l) (hlc : l ≤ c) (hc : c ≤ maxLen) (h0 : ∀ j, j < 8 → w.cell? ⟨b, off + j, none⟩ = some (.int .u8 0)) :
    Calls Tryz.prog 151 #[.slice (some ⟨b, off, none⟩) l c] w fun e w' => e = .returned (i64 0) ∧ w' = w := by
  have hl8 : (8 : Int) ≤ l := by omega
  have hc8 : (8 : Int) ≤ c := by omega
  have hcl : (l : Int) ≤ c := by omega
  have hcb : (c : Int) ≤ 9223372036854775807 := by unfold maxLen at hc; omega
  go_enter Tryz.func151, Tryz.ntmps151
  go_wp2_with fail
  go_loopw [9, 3] (fun t u wr => ∃ j : Nat, j ≤ 8 ∧ t = .int .i64 j ∧ u = .int .i64 0 ∧ wr = w) (fun t _ _ => 8 - (intOf t).toNat)
  case atStart => exact ⟨0, by omega, rfl, rfl, rfl⟩
  case round =>
    obtain ⟨j, hj, rfl, rfl, rfl⟩ := hrel
    have hj0 : (0 : Int) ≤ j := by omega
    by_cases hlt : j < 8
    · have hj' : (j : Int) < 8 := by omega
      have k1 := h0 j hlt
      go_wp2_with fail
      go_roundw
      case rel => exact ⟨j + 1, by omega, by go_num, by first | rfl | decide | (simp; rfl) | (simp; decide), trivial⟩
      case measure => simp [intOf]; omega
    · have hje : j = 8 := by omega
      subst hje
      go_wp2_with fail
      go_ret
      exact ⟨rfl, rfl⟩
def MastOut (B : Nat) (Y : Sys) (w : World) (d n k : Nat) (view : Nat → List UInt8) (e : Ending) (w' : World) : Prop :=
  e = .returned (.tuple #[.agg #[i64 0, i64 0, i64 0, i64 0], i64 0]) ∧ Mod B DevT false false Y Y w w' ∧ DevAt B Y w' d n k view
set_option maxRecDepth 100000 in
set_option maxHeartbeats 4000000 in
theorem masters85 {d n k : Nat} {view : Nat → List UInt8} (hd : DevAt B Y w d n k view) (hk : k < 1048576) (hn : 2 ≤ n) (hv : ∀ i, i < 2 → view i = List.replicate 128 0) :
    Calls Tryz.prog 85 #[.pointer (some ⟨d, 0, none⟩)] w (MastOut B Y w d n k view) := by
  have hb0 : Blk (w.alloc (.cells #[i64 0, i64 0, i64 0, i64 0] 160)) w.heap.size 160 #[i64 0, i64 0, i64 0, i64 0] := Blk.new _ _ _
  have hbe0 : Below w.heap.size w (w.alloc (.cells #[i64 0, i64 0, i64 0, i64 0] 160)) := (Below.refl _ _).alloc (Nat.le_refl _) _
  have HV := Lib.hid hv
  clear hv
  go_enter Tryz.func85, Tryz.ntmps85
  go_wp2_with fail
  go_loopw [7] (fun t wr => ∃ j : Nat, j ≤ 2 ∧ t = .int .i64 j ∧ Mod B DevT false false Y Y w wr ∧ DevAt B Y wr d n k view ∧ Blk wr w.heap.size 160 #[i64 0, i64 0, i64 0, i64 0]) (fun t _ => 2 - (intOf t).toNat)
  case atStart => exact ⟨0, Nat.zero_le _, rfl, mod_below _ _ _ _ _ hbe0, hd.below hbe0, hb0⟩
  case round =>
    obtain ⟨j, hj, rfl, hmw, hdw, hbw⟩ := hrel
    by_cases hlt : j < 2
    · have hj' : (j : Int) < 2 := by omega
      have hrd := dev_read hdw j (by omega) (by omega)
      rw [HV.out j hlt] at hrd
      have HRD := Lib.hid hrd
      clear hrd
      go_wp2_with ((go_at_call 150; refine HRD.out.mono ?_); rintro e w1 ⟨v, rfl, hq, hown⟩; obtain ⟨g, c, rfl, hgb, hgl⟩ := hown.form (by decide))
      have hm1 := hdw.mod' hq
      have hd1 := hdw.q hq
      have hb1 : Blk w1 w.heap.size 160 _ := hm1.keep hbw (by decide) (by simp) (by simp)
      have hcz : ∀ i, i < 8 → w1.cell? ⟨g, 0 + i, none⟩ = some (.int .u8 0) := by
        intro i hi
        have := hown.cells (g := g) rfl i (.int .u8 0) (by
          rw [List.getElem?_map, List.getElem?_replicate, if_pos (by omega)]
          rfl)
        rwa [addr_add] at this
      have hgc : 128 ≤ c := (own_cap hown).1
      have hgm : c ≤ maxLen := (own_cap hown).2
      refine wp_region_G (fun w' => w'.cell? ⟨w.heap.size, 0, none⟩ = some (i64 0)) 5 5 (by kernel_rfl) rfl ?_
      intro wd hsd
      have hSw : wd.cell? ⟨w.heap.size, 0, none⟩ = some (i64 0) := (hsd.cell _).trans (hb1.cell 0)
      refine' wpF_take 0 (v := _) rfl (by kernel_rfl) (fun _ _ _ h => h) (by rfl) hSw (fun w' hS => ?_) ?_; rotate_left
      · go_simp; with_reducible rfl
      simp only [Act.put, List.getElem_toArray, List.getElem_cons_succ, List.getElem_cons_zero, List.setIfInBounds_toArray, List.set_cons_zero, List.set_cons_succ]
      refine' wpF_take 2 (v := _) rfl (by kernel_rfl) (fun _ _ _ h => h) (by rfl) hSw (fun w' hS => ?_) ?_; rotate_left
      · go_simp; with_reducible rfl
      simp only [Act.put, List.getElem_toArray, List.getElem_cons_succ, List.getElem_cons_zero, List.setIfInBounds_toArray, List.set_cons_zero, List.set_cons_succ]
      refine' wpF_take 3 (v := _) rfl (by kernel_rfl) (fun _ _ _ h => h) (by rfl) hSw (fun w' hS => ?_) ?_; rotate_left
      · go_simp; with_reducible rfl
      simp only [Act.put, List.getElem_toArray, List.getElem_cons_succ, List.getElem_cons_zero, List.setIfInBounds_toArray, List.set_cons_zero, List.set_cons_succ]
      refine wpF_one 1 rfl (by kernel_rfl) ?_
      simp only [List.getElem_toArray, List.getElem_cons_succ, List.getElem_cons_zero]
      go_wp2_with ((go_at_call 151; refine (number151x g 0 128 c (by decide) hgc hgm (fun i hi => (hsd.cell _).trans (hcz i hi))).mono ?_); rintro e w2 ⟨rfl, hw2⟩; have hw2 := hw2.symm; subst hw2)
      refine ⟨fun _ => hSw, ?_⟩
      refine' wpF_take 4 (v := _) rfl (by kernel_rfl) (fun _ _ _ h => h) (by rfl) hSw (fun w' hS => ?_) ?_; rotate_left
      · go_simp; with_reducible rfl
      simp only [Act.put, List.getElem_toArray, List.getElem_cons_succ, List.getElem_cons_zero, List.setIfInBounds_toArray, List.set_cons_zero, List.set_cons_succ]
      refine wpF_tail (by kernel_rfl) ?_
      simp only [List.drop_succ_cons, List.drop_zero]
      go_wp2_with fail
      go_roundw
      case rel => exact ⟨j + 1, by omega, by go_num, (hmw.trans hm1).same hsd, hd1.below (hsd.below _), hsd.blk hb1⟩
      case measure => simp [intOf]; omega
    · obtain rfl : j = 2 := by omega
      have hc := hbw.cell
      have hf := hbw.frozen
      go_wp2_with fail
      have hb4 := (((hbw.set_ 0 (i64 0)).set_ 1 (i64 0)).set_ 2 (i64 0)).set_ 3 (i64 0)
      have hm4 : Mod B DevT false false Y Y w ((((wr.setCell ⟨w.heap.size, 0, none⟩ (i64 0)).setCell ⟨w.heap.size, 1, none⟩ (i64 0)).setCell ⟨w.heap.size, 2, none⟩ (i64 0)).setCell ⟨w.heap.size, 3, none⟩ (i64 0)) := (((hmw.set_new (Nat.le_refl _) _).set_new (Nat.le_refl _) _).set_new (Nat.le_refl _) _).set_new (Nat.le_refl _) _
      have hB : B ≤ w.heap.size := by
        obtain ⟨_, _, _, _, _, h, _, _⟩ := hd
        exact Nat.le_trans h.hd (Nat.le_of_lt h.blk.lt)
      have hd4 : DevAt B Y ((((wr.setCell ⟨w.heap.size, 0, none⟩ (i64 0)).setCell ⟨w.heap.size, 1, none⟩ (i64 0)).setCell ⟨w.heap.size, 2, none⟩ (i64 0)).setCell ⟨w.heap.size, 3, none⟩ (i64 0)) d n k view :=
        hdw.mod ((((mod_set (p := ⟨w.heap.size, 0, none⟩) (T := [160]) (D := false) (R := false) hB hbw.ty (by decide) (i64 0)).set_ (p := ⟨w.heap.size, 1, none⟩) hB (hbw.set_ 0 (i64 0)).ty (by decide) (i64 0)).set_ (p := ⟨w.heap.size, 2, none⟩) hB ((hbw.set_ 0 (i64 0)).set_ 1 (i64 0)).ty (by decide) (i64 0)).set_ (p := ⟨w.heap.size, 3, none⟩) hB (((hbw.set_ 0 (i64 0)).set_ 1 (i64 0)).set_ 2 (i64 0)).ty (by decide) (i64 0)) rfl (by simp) (by decide)
      generalize (((wr.setCell ⟨w.heap.size, 0, none⟩ (i64 0)).setCell ⟨w.heap.size, 1, none⟩ (i64 0)).setCell ⟨w.heap.size, 2, none⟩ (i64 0)).setCell ⟨w.heap.size, 3, none⟩ (i64 0) = w4 at *
      have hc4 := hb4.cell
      clear hc hf
      exact bodyPost_ret (v := .tuple #[.agg #[i64 0, i64 0, i64 0, i64 0], i64 0]) (by simp [results, Tryz.results85, go_sem, hc4]) rfl ⟨rfl, hm4, hd4⟩
end Go.Proofs.YtllhgbanbelmaaaGreat

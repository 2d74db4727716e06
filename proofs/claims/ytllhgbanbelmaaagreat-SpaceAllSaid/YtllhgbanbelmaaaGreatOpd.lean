/- opening: the first master. -/
import Derived.Test.YtllhgbanbelmaaaGreatOpc
namespace Go.Proofs.YtllhgbanbelmaaaGreat
open Go.RowKit
variable {B : Nat} {T : List Nat} {D R : Bool} {Y Y' : Sys} {w w' : World}
def MarkT : List Nat := [105, 157, 159, 210]
def Marked (B : Nat) (Y : Sys) (w : World) (s d r f p : Nat) (opens : Value) (next commits redone undone : Int) (n k : Nat) (view : Nat → List UInt8) (σ : RingS) (e : Ending) (w' : World) : Prop :=
  e = .returned (i64 0) ∧ ∃ X, Mod B MarkT true false Y Y w w' ∧ Blk w' s 105 (stCells d r f p (.slice none 0 0) opens 1 next commits redone undone) ∧ DevAt B Y w' d n 0 (fun j => if j = 1 then X else view j) ∧ RingAt B Y w' r d σ

set_option maxRecDepth 100000 in
set_option maxHeartbeats 4000000 in
theorem mark164 {s d r f p : Nat} {opens : Value} {next commits redone undone : Int} (hB : B ≤ s) (hbs : Blk w s 105 (stCells d r f p (.slice none 0 0) opens 0 next commits redone undone)) {n k : Nat} {view : Nat → List UInt8} (hd : DevAt B Y w d n k view) (hk : k < 1048576) (hn : 2 ≤ n)
    {σ : RingS} (hr : RingAt B Y w r d σ) (h1 : σ.base = 0) (h3 : σ.start = 0) (hY : Y.rb = none) :
    Calls Tryz.prog 164 #[.pointer (some ⟨s, 0, none⟩), i64 0] w (Marked B Y w s d r f p opens next commits redone undone n k view σ) := by
  have hdl : Y.dl < w.heap.size := let ⟨_, hb⟩ := hd.dl; hb.lt
  have hbs' := hbs
  unfold stCells at hbs'
  have hc := hbs'.cell
  go_enter Tryz.func164, Tryz.ntmps164
  go_wp2_with fail
  refine wp_loop_rounds 1 ?_
  rw [rounds_succ]
  go_wp2_with fail
  refine wp_region_G (fun w' => ∀ i, w'.cell? ⟨s, i, none⟩ = #[.pointer (some ⟨d, 0, none⟩), .pointer (some ⟨r, 0, none⟩), .pointer (some ⟨f, 0, none⟩), .pointer (some ⟨p, 0, none⟩), .slice none 0 0, opens, i64 0, i64 next, i64 commits, .bool false, i64 redone, i64 undone][i]?) 13 14 (by kernel_rfl) rfl ?_
  intro wd hsd
  have hSw : ∀ i, wd.cell? ⟨s, i, none⟩ = #[.pointer (some ⟨d, 0, none⟩), .pointer (some ⟨r, 0, none⟩), .pointer (some ⟨f, 0, none⟩), .pointer (some ⟨p, 0, none⟩), .slice none 0 0, opens, i64 0, i64 next, i64 commits, .bool false, i64 redone, i64 undone][i]? := fun i => (hsd.cell _).trans (hc i)
  refine' wpF_take 0 (v := _) rfl (by kernel_rfl) (fun _ _ _ h => h) (by rfl) hSw (fun w' hS => ?_) ?_; rotate_left
  · go_simp; with_reducible rfl
  simp only [Act.put, List.getElem_toArray, List.getElem_cons_succ, List.getElem_cons_zero, List.setIfInBounds_toArray, List.set_cons_zero, List.set_cons_succ]
  refine' wpF_take 2 (v := _) rfl (by kernel_rfl) (fun _ _ _ h => h) (by rfl) hSw (fun w' hS => ?_) ?_; rotate_left
  · go_simp; with_reducible rfl
  simp only [Act.put, List.getElem_toArray, List.getElem_cons_succ, List.getElem_cons_zero, List.setIfInBounds_toArray, List.set_cons_zero, List.set_cons_succ]
  refine' wpF_take 4 (v := _) rfl (by kernel_rfl) (fun _ _ _ h => h) (by rfl) hSw (fun w' hS => ?_) ?_; rotate_left
  · go_simp; with_reducible rfl
  simp only [Act.put, List.getElem_toArray, List.getElem_cons_succ, List.getElem_cons_zero, List.setIfInBounds_toArray, List.set_cons_zero, List.set_cons_succ]
  refine' wpF_take 6 (v := _) rfl (by kernel_rfl) (fun _ _ _ h => h) (by rfl) hSw (fun w' hS => ?_) ?_; rotate_left
  · go_simp; with_reducible rfl
  simp only [Act.put, List.getElem_toArray, List.getElem_cons_succ, List.getElem_cons_zero, List.setIfInBounds_toArray, List.set_cons_zero, List.set_cons_succ]
  refine' wpF_take 7 (v := _) rfl (by kernel_rfl) (fun _ _ _ h => h) (by rfl) hSw (fun w' hS => ?_) ?_; rotate_left
  · go_simp; with_reducible rfl
  simp only [Act.put, List.getElem_toArray, List.getElem_cons_succ, List.getElem_cons_zero, List.setIfInBounds_toArray, List.set_cons_zero, List.set_cons_succ]
  refine' wpF_take 8 (v := _) rfl (by kernel_rfl) (fun _ _ _ h => h) (by rfl) hSw (fun w' hS => ?_) ?_; rotate_left
  · go_simp; with_reducible rfl
  simp only [Act.put, List.getElem_toArray, List.getElem_cons_succ, List.getElem_cons_zero, List.setIfInBounds_toArray, List.set_cons_zero, List.set_cons_succ]
  refine' wpF_take 9 (v := _) rfl (by kernel_rfl) (fun _ _ _ h => h) (by rfl) hSw (fun w' hS => ?_) ?_; rotate_left
  · go_simp; with_reducible rfl
  simp only [Act.put, List.getElem_toArray, List.getElem_cons_succ, List.getElem_cons_zero, List.setIfInBounds_toArray, List.set_cons_zero, List.set_cons_succ]
  refine wpF_one 1 rfl (by kernel_rfl) ?_
  simp only [List.getElem_toArray, List.getElem_cons_succ, List.getElem_cons_zero]
  go_wp2_with ((go_at_call 112; refine (eight112 1 _).mono ?_); rintro e w1 ⟨v1, rfl, hown1, hb1⟩; obtain ⟨g1, c1, rfl, hgb1, hgl1⟩ := hown1.form (by decide))
  have hbe1 : Below w.heap.size w w1 := (hsd.below _).trans (hb1.mono (by rw [hsd.size]; exact Nat.le_refl _))
  have hbs1 : Blk w1 s 105 _ := hbs'.at_ (hbe1.block s hbs'.lt)
  refine ⟨fun _ => hbs1.cell, ?_⟩
  have hSw := hbs1.cell
  refine wpF_one 3 rfl (by kernel_rfl) ?_
  simp only [List.getElem_toArray, List.getElem_cons_succ, List.getElem_cons_zero]
  go_wp2_with ((go_at_call 112; refine (eight112 0 _).mono ?_); rintro e w2 ⟨v2, rfl, hown2, hb2⟩; obtain ⟨g2, c2, rfl, hgb2, hgl2⟩ := hown2.form (by decide))
  have hbe2 : Below w.heap.size w w2 := (hbe1).trans (hb2.mono hbe1.size)
  have ow1_2 := own_at hown1 (fun g e => hb2.block g (own_lt hown1 e))
  have hbs2 : Blk w2 s 105 _ := hbs'.at_ (hbe2.block s hbs'.lt)
  refine ⟨fun _ => hbs2.cell, ?_⟩
  have hSw := hbs2.cell
  refine wpF_one 5 rfl (by kernel_rfl) ?_
  simp only [List.getElem_toArray, List.getElem_cons_succ, List.getElem_cons_zero]
  go_wp2_with ((go_at_call 112; refine (eight112 commits _).mono ?_); rintro e w3 ⟨v3, rfl, hown3, hb3⟩; obtain ⟨g3, c3, rfl, hgb3, hgl3⟩ := hown3.form (by decide))
  have hbe3 : Below w.heap.size w w3 := (hbe2).trans (hb3.mono hbe2.size)
  have ow1_3 := own_at ow1_2 (fun g e => hb3.block g (own_lt ow1_2 e))
  have ow2_3 := own_at hown2 (fun g e => hb3.block g (own_lt hown2 e))
  have hbs3 : Blk w3 s 105 _ := hbs'.at_ (hbe3.block s hbs'.lt)
  refine ⟨fun _ => hbs3.cell, ?_⟩
  have hSw := hbs3.cell
  refine wpF_one 10 rfl (by kernel_rfl) ?_
  simp only [List.getElem_toArray, List.getElem_cons_succ, List.getElem_cons_zero]
  go_wp2_with ((go_at_call 112; refine (eight112 next _).mono ?_); rintro e w4 ⟨v4, rfl, hown4, hb4⟩; obtain ⟨g4, c4, rfl, hgb4, hgl4⟩ := hown4.form (by decide))
  have hbe4 : Below w.heap.size w w4 := (hbe3).trans (hb4.mono hbe3.size)
  have ow1_4 := own_at ow1_3 (fun g e => hb4.block g (own_lt ow1_3 e))
  have ow2_4 := own_at ow2_3 (fun g e => hb4.block g (own_lt ow2_3 e))
  have ow3_4 := own_at hown3 (fun g e => hb4.block g (own_lt hown3 e))
  have hbs4 : Blk w4 s 105 _ := hbs'.at_ (hbe4.block s hbs'.lt)
  refine ⟨fun _ => hbs4.cell, ?_⟩
  have hSw := hbs4.cell
  refine wpF_one 11 rfl (by kernel_rfl) ?_
  simp only [List.getElem_toArray, List.getElem_cons_succ, List.getElem_cons_zero]
  go_wp2_with fail
  have hbl : Blk (w4.alloc (.cells #[.slice (some ⟨g1, 0, none⟩) 8 c1, .slice (some ⟨g2, 0, none⟩) 8 c2, .slice (some ⟨g3, 0, none⟩) 8 c3, .slice (some ⟨g4, 0, none⟩) 8 c4] 48)) w4.heap.size 48 #[.slice (some ⟨g1, 0, none⟩) 8 c1, .slice (some ⟨g2, 0, none⟩) 8 c2, .slice (some ⟨g3, 0, none⟩) 8 c3, .slice (some ⟨g4, 0, none⟩) 8 c4] := Blk.new _ _ _
  have hba : Below w4.heap.size w4 (w4.alloc (.cells #[.slice (some ⟨g1, 0, none⟩) 8 c1, .slice (some ⟨g2, 0, none⟩) 8 c2, .slice (some ⟨g3, 0, none⟩) 8 c3, .slice (some ⟨g4, 0, none⟩) 8 c4] 48)) := (Below.refl _ _).alloc (Nat.le_refl _) _
  generalize w4.alloc (.cells #[.slice (some ⟨g1, 0, none⟩) 8 c1, .slice (some ⟨g2, 0, none⟩) 8 c2, .slice (some ⟨g3, 0, none⟩) 8 c3, .slice (some ⟨g4, 0, none⟩) 8 c4] 48) = w5 at *
  have hbe5 := hbe4.trans (hba.mono hbe4.size)
  have hbs5 : Blk w5 s 105 _ := hbs'.at_ (hbe5.block s hbs'.lt)
  have hfour : Four w5 w4.heap.size [(.slice (some ⟨g1, 0, none⟩) 8 c1, putB 1 8 8), (.slice (some ⟨g2, 0, none⟩) 8 c2, putB 0 8 8), (.slice (some ⟨g3, 0, none⟩) 8 c3, putB commits 8 8), (.slice (some ⟨g4, 0, none⟩) 8 c4, putB next 8 8)] := by
    refine ⟨rfl, hbl, fun i q hq => ?_⟩
    rcases i with _ | _ | _ | _ | i
    · cases hq; exact ⟨putB_length _ _ _, (src_own ow1_4).mono hba⟩
    · cases hq; exact ⟨putB_length _ _ _, (src_own ow2_4).mono hba⟩
    · cases hq; exact ⟨putB_length _ _ _, (src_own ow3_4).mono hba⟩
    · cases hq; exact ⟨putB_length _ _ _, (src_own hown4).mono hba⟩
    · simp at hq
  refine ⟨fun _ => hbs5.cell, ?_⟩
  have hSw := hbs5.cell
  have hcc := concat235 w4.heap.size _ hfour 4
  have HCC := Lib.hid hcc
  clear hcc
  refine wpF_one 12 rfl (by kernel_rfl) ?_
  simp only [List.getElem_toArray, List.getElem_cons_succ, List.getElem_cons_zero]
  go_wp2_with ((go_at_call 235; refine HCC.out.mono ?_); rintro e w6 ⟨v6, rfl, hown6, hb6⟩; obtain ⟨g6, c6, rfl, hgb6, hgl6⟩ := hown6.form (by decide))
  have hbe6 := hbe5.trans (hb6.mono hbe5.size)
  have hbs6 : Blk w6 s 105 _ := hbs'.at_ (hbe6.block s hbs'.lt)
  refine ⟨fun _ => hbs6.cell, ?_⟩
  refine wpF_tail (by kernel_rfl) ?_
  simp only [List.drop_succ_cons, List.drop_zero]
  go_upto_region 13 with fail
  refine wp_region_G (fun w' => ∀ i, w'.cell? ⟨s, i, none⟩ = #[.pointer (some ⟨d, 0, none⟩), .pointer (some ⟨r, 0, none⟩), .pointer (some ⟨f, 0, none⟩), .pointer (some ⟨p, 0, none⟩), .slice none 0 0, opens, i64 0, i64 next, i64 commits, .bool false, i64 redone, i64 undone][i]?) 12 13 (by kernel_rfl) rfl ?_
  intro wd hsd7
  have hown7 := hsd7.own (own_base hown6 hbe5.size)
  have hbe7 := hbe6.trans (hsd7.below _)
  have hSw : ∀ i, wd.cell? ⟨s, i, none⟩ = #[.pointer (some ⟨d, 0, none⟩), .pointer (some ⟨r, 0, none⟩), .pointer (some ⟨f, 0, none⟩), .pointer (some ⟨p, 0, none⟩), .slice none 0 0, opens, i64 0, i64 next, i64 commits, .bool false, i64 redone, i64 undone][i]? := fun i => (hsd7.cell _).trans (hbs6.cell i)
  refine' wpF_take 0 (v := _) rfl (by kernel_rfl) (fun _ _ _ h => h) (by rfl) hSw (fun w' hS => ?_) ?_; rotate_left
  · go_simp; with_reducible rfl
  simp only [Act.put, List.getElem_toArray, List.getElem_cons_succ, List.getElem_cons_zero, List.setIfInBounds_toArray, List.set_cons_zero, List.set_cons_succ]
  refine' wpF_take 1 (v := _) rfl (by kernel_rfl) (fun _ _ _ h => h) (by rfl) hSw (fun w' hS => ?_) ?_; rotate_left
  · go_simp; with_reducible rfl
  simp only [Act.put, List.getElem_toArray, List.getElem_cons_succ, List.getElem_cons_zero, List.setIfInBounds_toArray, List.set_cons_zero, List.set_cons_succ]
  refine' wpF_take 2 (v := _) rfl (by kernel_rfl) (fun _ _ _ h => h) (by rfl) hSw (fun w' hS => ?_) ?_; rotate_left
  · go_simp; with_reducible rfl
  simp only [Act.put, List.getElem_toArray, List.getElem_cons_succ, List.getElem_cons_zero, List.setIfInBounds_toArray, List.set_cons_zero, List.set_cons_succ]
  refine' wpF_take 3 (v := _) rfl (by kernel_rfl) (fun _ _ _ h => h) (by rfl) hSw (fun w' hS => ?_) ?_; rotate_left
  · go_simp; with_reducible rfl
  simp only [Act.put, List.getElem_toArray, List.getElem_cons_succ, List.getElem_cons_zero, List.setIfInBounds_toArray, List.set_cons_zero, List.set_cons_succ]
  refine' wpF_take 4 (v := _) rfl (by kernel_rfl) (fun _ _ _ h => h) (by rfl) hSw (fun w' hS => ?_) ?_; rotate_left
  · go_simp; with_reducible rfl
  simp only [Act.put, List.getElem_toArray, List.getElem_cons_succ, List.getElem_cons_zero, List.setIfInBounds_toArray, List.set_cons_zero, List.set_cons_succ]
  refine' wpF_take 5 (v := _) rfl (by kernel_rfl) (fun _ _ _ h => h) (by rfl) hSw (fun w' hS => ?_) ?_; rotate_left
  · go_simp; with_reducible rfl
  simp only [Act.put, List.getElem_toArray, List.getElem_cons_succ, List.getElem_cons_zero, List.setIfInBounds_toArray, List.set_cons_zero, List.set_cons_succ]
  refine' wpF_take 6 (v := _) rfl (by kernel_rfl) (fun _ _ _ h => h) (by rfl) hSw (fun w' hS => ?_) ?_; rotate_left
  · go_simp; with_reducible rfl
  simp only [Act.put, List.getElem_toArray, List.getElem_cons_succ, List.getElem_cons_zero, List.setIfInBounds_toArray, List.set_cons_zero, List.set_cons_succ]
  refine' wpF_take 7 (v := _) rfl (by kernel_rfl) (fun _ _ _ h => h) (by rfl) hSw (fun w' hS => ?_) ?_; rotate_left
  · go_simp; with_reducible rfl
  simp only [Act.put, List.getElem_toArray, List.getElem_cons_succ, List.getElem_cons_zero, List.setIfInBounds_toArray, List.set_cons_zero, List.set_cons_succ]
  refine' wpF_take 8 (v := _) rfl (by kernel_rfl) (fun _ _ _ h => h) (by rfl) hSw (fun w' hS => ?_) ?_; rotate_left
  · go_simp; with_reducible rfl
  simp only [Act.put, List.getElem_toArray, List.getElem_cons_succ, List.getElem_cons_zero, List.setIfInBounds_toArray, List.set_cons_zero, List.set_cons_succ]
  refine' wpF_take 9 (v := _) rfl (by kernel_rfl) (fun _ _ _ h => h) (by rfl) hSw (fun w' hS => ?_) ?_; rotate_left
  · go_simp; with_reducible rfl
  simp only [Act.put, List.getElem_toArray, List.getElem_cons_succ, List.getElem_cons_zero, List.setIfInBounds_toArray, List.set_cons_zero, List.set_cons_succ]
  refine wpF_one 10 rfl (by kernel_rfl) ?_
  simp only [List.getElem_toArray, List.getElem_cons_succ, List.getElem_cons_zero]
  go_wp2_with (with_reducible refine wpList_appz _ rfl (.tmp 64) (.tmp 67) rfl w.heap.size sl48 rfl rfl u3 hown7 rfl 96 rfl rfl (by decide) ⟨by decide, by decide, hbe7.size⟩ ?_; intro v8 w8 hown8 hg8 hat8; obtain ⟨a8, c8, rfl, hc8, hm8⟩ := own_form hown8)
  have hbe8 := hbe7.grown hg8 hbe7.size (fun k hk => own_ge hown7 hk)
  have hbs8 : Blk w8 s 105 _ := hbs'.at_ (hbe8.block s hbs'.lt)
  refine ⟨fun _ => hbs8.cell, ?_⟩
  have hSw := hbs8.cell
  have hd8 := hd.below hbe8
  have hby8 : Byts B Y w8 (.slice a8 128 c8) (([((.slice (some ⟨g1, 0, none⟩) 8 c1 : Value), putB 1 8 8), (.slice (some ⟨g2, 0, none⟩) 8 c2, putB 0 8 8), (.slice (some ⟨g3, 0, none⟩) 8 c3, putB commits 8 8), (.slice (some ⟨g4, 0, none⟩) 8 c4, putB next 8 8)].flatMap (fun x : Value × List UInt8 => x.2)) ++ List.replicate 96 0) := by
    have h0 : w8.ownsRow w.heap.size 5 1 (.slice a8 128 c8) 128 (((([((.slice (some ⟨g1, 0, none⟩) 8 c1 : Value), putB 1 8 8), (.slice (some ⟨g2, 0, none⟩) 8 c2, putB 0 8 8), (.slice (some ⟨g3, 0, none⟩) 8 c3, putB commits 8 8), (.slice (some ⟨g4, 0, none⟩) 8 c4, putB next 8 8)].flatMap (fun x : Value × List UInt8 => x.2)) ++ List.replicate 96 0)).map bv) := by
      rw [List.map_append, List.map_replicate]
      exact hown8
    exact Sl.own h0 hdl hd.rbl
  have hbyl : (([((.slice (some ⟨g1, 0, none⟩) 8 c1 : Value), putB 1 8 8), (.slice (some ⟨g2, 0, none⟩) 8 c2, putB 0 8 8), (.slice (some ⟨g3, 0, none⟩) 8 c3, putB commits 8 8), (.slice (some ⟨g4, 0, none⟩) 8 c4, putB next 8 8)].flatMap (fun x : Value × List UInt8 => x.2)) ++ List.replicate 96 0 : List UInt8).length = 128 := by
    simp [putB_length]
  have hdw := dev_write hd8 1 (by omega) _ _ hby8 hbyl (by omega)
  have HDW := Lib.hid hdw
  clear hdw
  refine wpF_one 11 rfl (by kernel_rfl) ?_
  simp only [List.getElem_toArray, List.getElem_cons_succ, List.getElem_cons_zero]
  go_wp2_with ((go_at_call 193; refine HDW.out.mono ?_); rintro e w9 ⟨rfl, hm9, hd9⟩)
  have hbs9 : Blk w9 s 105 _ := hm9.keep' hbs8 (by decide) (by simp) (by simp) (by decide) (by decide)
  refine ⟨fun _ => hbs9.cell, ?_⟩
  refine wpF_tail (by kernel_rfl) ?_
  simp only [List.drop_succ_cons, List.drop_zero]
  have hc9 := hbs9.cell
  have hs9 := dev_sync hd9 (by omega)
  have HS9 := Lib.hid hs9
  clear hs9
  go_wp2_with fail
  refine HS9.out.mono ?_
  rintro e w10 ⟨rfl, hm10, hd10⟩
  have hbs10 : Blk w10 s 105 _ := hm10.keep' hbs9 (by decide) (fun _ => hd9.dl) (by simp) (by decide) (by decide)
  have hc10 := hbs10.cell
  have hr10 := ((hr.below hbe8).mod hm9 rfl (by decide) (by simp) rfl).mod hm10 rfl (by decide) (fun _ => hd9.dl) rfl
  have htr := ring_trim hr10 0 (by omega) (Nat.zero_le _) (by rw [h1])
  have HTR := Lib.hid htr
  clear htr
  go_wp2_with fail
  refine HTR.out.mono ?_
  rintro e w11 ⟨rfl, hw11, hr11⟩
  obtain ⟨cs10, hrb⟩ : ∃ cs, Blk w10 r 210 cs := let ⟨_, h⟩ := hr10; ⟨_, h.blk⟩
  have hBr : B ≤ r := let ⟨_, h⟩ := hr10; h.hr
  have hm11 : Mod B [210] false false Y Y w10 w11 := by rw [hw11]; exact mod_set hBr hrb.ty (by decide) _
  have hbs11 : Blk w11 s 105 _ := hm11.keep' hbs10 (by decide) (by simp) (by simp) (by decide) (by decide)
  clear hw11
  have hc11 := hbs11.cell
  have hf11 := hbs11.frozen
  go_wp2_with fail
  go_ret
  have hm12 : Mod B [105] false false Y Y w11 ((w11.setCell ⟨s, 6, none⟩ (i64 1)).setCell ⟨s, 4, none⟩ (.slice none 0 0)) := (mod_set (p := ⟨s, 6, none⟩) hB hbs11.ty (by decide) (i64 1)).set_ (p := ⟨s, 4, none⟩) hB (hbs11.set_ 6 (i64 1)).ty (by decide) _
  have hb12 := (hbs11.set_ 6 (i64 1)).set_ 4 (.slice none 0 0)
  simp only [List.setIfInBounds_toArray, List.set_cons_zero, List.set_cons_succ] at hb12
  have e : ({ σ with start := 0 } : RingS) = σ := by cases σ; simp only at h3; rw [h3]
  rw [e] at hr11
  refine ⟨rfl, _, ((((mod_below B MarkT true false Y hbe8).trans (hm9.more _ true false (by decide))).trans (hm10.more _ true false (by decide))).trans (hm11.more _ true false (by decide))).trans (hm12.more _ true false (by decide)), hb12, (hd10.mod hm11 rfl (by simp) (by decide)).mod hm12 rfl (by simp) (by decide), hr11.mod hm12 rfl (by decide) (by simp) rfl⟩
end Go.Proofs.YtllhgbanbelmaaaGreat

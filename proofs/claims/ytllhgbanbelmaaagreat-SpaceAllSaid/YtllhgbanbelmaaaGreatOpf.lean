/- store.Open on a new device. -/
import Derived.Test.YtllhgbanbelmaaaGreatOpe
namespace Go.Proofs.YtllhgbanbelmaaaGreat
open Go.RowKit
variable {B : Nat} {T : List Nat} {D R : Bool} {Y Y' : Sys} {w w' : World}

theorem cat_zero {view : Nat → List UInt8} {a : Nat} : ∀ k, (∀ j, j < k → view (a + j) = List.replicate 128 0) → cat view a k = List.replicate (128 * k) 0
  | 0, _ => rfl
  | k + 1, h => by
    rw [cat, cat_zero k fun j hj => h j (by omega), h k (by omega), List.replicate_append_replicate, Nat.mul_succ]
/-- a new store -/
def newS (n : Nat) (S : List Nat) : StS := ⟨(n - 2 - n / 4 - 5) / 4, S, ((n / 4 : Nat) - 1) * 118, fun _ => List.replicate 504 0, [], 1⟩
def Opened (B : Nat) (Y : Sys) (w : World) (n : Nat) (S : List Nat) (e : Ending) (w' : World) : Prop :=
  ∃ s, e = .returned (.tuple #[.pointer (some ⟨s, 0, none⟩), i64 0]) ∧ Mod B (MarkT ++ DevT) true true Y Y w w' ∧ StoreAt B Y w' s (newS n S)

set_option maxRecDepth 100000 in
set_option maxHeartbeats 8000000 in
theorem open39 {d n k nf : Nat} (S : List Nat) (hS : S.length ≤ nf) (hd : DevAt B Y w d n k (fun _ => List.replicate 128 0)) (hk : k < 1048576) (hn : 128 ≤ n) (hn2 : n ≤ 8192) (h1 : 1 ≤ nf) (h64 : nf ≤ 64) (hY : Y.rb = none) :
    Calls Tryz.prog 39 #[.pointer (some ⟨d, 0, none⟩), i64 nf] w (Opened B Y w n S) := by
  have hB : B ≤ w.heap.size := by
    obtain ⟨_, _, _, _, _, h, _, _⟩ := hd
    exact Nat.le_trans h.hd (Nat.le_of_lt h.blk.lt)
  have hsz := dev_size hd
  have HSZ := Lib.hid hsz
  have HY := Lib.hid hY
  clear hsz hY
  have a1 : (128 : Int) ≤ n := by omega
  have a2 : (1 : Int) ≤ nf := by omega
  have a3 : (nf : Int) ≤ 64 := by omega
  go_enter Tryz.func39, Tryz.ntmps39
  go_wp2_with fail
  refine HSZ.out.mono ?_
  rintro e w0 ⟨rfl, rfl⟩
  have hs1 : Blk ((w.alloc (.cells #[.pointer (some ⟨d, 0, none⟩), .pointer none, .pointer none, .pointer none, .slice none 0 0, .slice none 0 0, i64 0, i64 0, i64 0, .bool false, i64 0, i64 0] 105)).alloc (.cells #[.pointer (some ⟨w.heap.size, 0, none⟩)] 23)) w.heap.size 105 #[.pointer (some ⟨d, 0, none⟩), .pointer none, .pointer none, .pointer none, .slice none 0 0, .slice none 0 0, i64 0, i64 0, i64 0, .bool false, i64 0, i64 0] := (Blk.new w 105 _).alloc _
  have hx1 : Blk ((w.alloc (.cells #[.pointer (some ⟨d, 0, none⟩), .pointer none, .pointer none, .pointer none, .slice none 0 0, .slice none 0 0, i64 0, i64 0, i64 0, .bool false, i64 0, i64 0] 105)).alloc (.cells #[.pointer (some ⟨w.heap.size, 0, none⟩)] 23)) (w.heap.size + 1) 23 #[.pointer (some ⟨w.heap.size, 0, none⟩)] := by
    have := Blk.new (w.alloc (.cells #[.pointer (some ⟨d, 0, none⟩), .pointer none, .pointer none, .pointer none, .slice none 0 0, .slice none 0 0, i64 0, i64 0, i64 0, .bool false, i64 0, i64 0] 105)) 23 #[.pointer (some ⟨w.heap.size, 0, none⟩)]
    rwa [show (w.alloc (.cells #[.pointer (some ⟨d, 0, none⟩), .pointer none, .pointer none, .pointer none, .slice none 0 0, .slice none 0 0, i64 0, i64 0, i64 0, .bool false, i64 0, i64 0] 105)).heap.size = w.heap.size + 1 by simp] at this
  have hb1 : Below w.heap.size w ((w.alloc (.cells #[.pointer (some ⟨d, 0, none⟩), .pointer none, .pointer none, .pointer none, .slice none 0 0, .slice none 0 0, i64 0, i64 0, i64 0, .bool false, i64 0, i64 0] 105)).alloc (.cells #[.pointer (some ⟨w.heap.size, 0, none⟩)] 23)) := ((Below.refl _ _).alloc (Nat.le_refl _) _).alloc (by simp) _
  go_wp2_with fail
  generalize (w.alloc (.cells #[.pointer (some ⟨d, 0, none⟩), .pointer none, .pointer none, .pointer none, .slice none 0 0, .slice none 0 0, i64 0, i64 0, i64 0, .bool false, i64 0, i64 0] 105)).alloc (.cells #[.pointer (some ⟨w.heap.size, 0, none⟩)] 23) = w1 at *
  refine (masters85 (hd.below hb1) hk (by omega) (fun _ _ => rfl)).mono ?_
  rintro e w2 ⟨rfl, hm2, hd2⟩
  have hs2 : Blk w2 w.heap.size 105 _ := hm2.keep hs1 (by decide) (by simp) (by simp)
  have hx2 : Blk w2 (w.heap.size + 1) 23 _ := hm2.keep hx1 (by decide) (by simp) (by simp)
  have hM2 : Mod B DevT false false Y Y w w2 := (mod_below B DevT false false Y hb1).trans hm2
  go_upto_region 7 with fail
  have hb3 : Blk (w2.alloc (.cells #[i64 0, i64 0, i64 0, i64 0] 160)) w2.heap.size 160 #[i64 0, i64 0, i64 0, i64 0] := Blk.new _ _ _
  have hs3 := hs2.alloc (.cells #[i64 0, i64 0, i64 0, i64 0] 160)
  have hx3 := hx2.alloc (.cells #[i64 0, i64 0, i64 0, i64 0] 160)
  have hbe3 : Below w2.heap.size w2 (w2.alloc (.cells #[i64 0, i64 0, i64 0, i64 0] 160)) := (Below.refl _ _).alloc (Nat.le_refl _) _
  have hd3 := hd2.below hbe3
  have hM3 : Mod B (MarkT ++ DevT) true true Y Y w (w2.alloc (.cells #[i64 0, i64 0, i64 0, i64 0] 160)) := (hM2.more (MarkT ++ DevT) true true (by decide)).below_ hbe3
  have hne1 : w.heap.size + 1 ≠ w.heap.size := by omega
  have hlt2 : w.heap.size < w2.heap.size := hs2.lt
  have hlt2' : w.heap.size + 1 < w2.heap.size := hx2.lt
  have hne2 : w2.heap.size ≠ w.heap.size := by omega
  generalize w2.alloc (.cells #[i64 0, i64 0, i64 0, i64 0] 160) = w3 at *
  refine wp_region_G (fun w' => w'.cell? ⟨w.heap.size + 1, 0, none⟩ = some (.pointer (some ⟨w.heap.size, 0, none⟩)) ∧ (∀ i, w'.cell? ⟨w2.heap.size, i, none⟩ = #[i64 0, i64 0, i64 0, i64 0][i]?)) 10 13 (by kernel_rfl) rfl ?_
  intro w4 hsd
  have hSw : w4.cell? ⟨w.heap.size + 1, 0, none⟩ = some (.pointer (some ⟨w.heap.size, 0, none⟩)) ∧ (∀ i, w4.cell? ⟨w2.heap.size, i, none⟩ = #[i64 0, i64 0, i64 0, i64 0][i]?) := ⟨(hsd.cell _).trans (hx3.cell 0), fun i => (hsd.cell _).trans (hb3.cell i)⟩
  have hs4 := hsd.blk hs3
  have hx4 := hsd.blk hx3
  have hb4 := hsd.blk hb3
  have hd4 := hd3.below (hsd.below _)
  have hM4 := hM3.same hsd
  refine' wpF_take 0 (v := _) rfl (by kernel_rfl) (fun _ _ _ h => h) (by rfl) hSw (fun w' hS => ?_) ?_; rotate_left
  · obtain ⟨s1, s2⟩ := hS; go_simp; with_reducible rfl
  simp only [Act.put, List.getElem_toArray, List.getElem_cons_succ, List.getElem_cons_zero, List.setIfInBounds_toArray, List.set_cons_zero, List.set_cons_succ]
  refine' wpF_take 1 (v := _) rfl (by kernel_rfl) (fun _ _ _ h => h) (by rfl) hSw (fun w' hS => ?_) ?_; rotate_left
  · obtain ⟨s1, s2⟩ := hS; go_simp; with_reducible rfl
  simp only [Act.put, List.getElem_toArray, List.getElem_cons_succ, List.getElem_cons_zero, List.setIfInBounds_toArray, List.set_cons_zero, List.set_cons_succ]
  refine' wpF_take 2 (v := _) rfl (by kernel_rfl) (fun _ _ _ h => h) (by rfl) hSw (fun w' hS => ?_) ?_; rotate_left
  · obtain ⟨s1, s2⟩ := hS; go_simp; with_reducible rfl
  simp only [Act.put, List.getElem_toArray, List.getElem_cons_succ, List.getElem_cons_zero, List.setIfInBounds_toArray, List.set_cons_zero, List.set_cons_succ]
  refine' wpF_take 3 (v := _) rfl (by kernel_rfl) (fun _ _ _ h => h) (by rfl) hSw (fun w' hS => ?_) ?_; rotate_left
  · obtain ⟨s1, s2⟩ := hS; go_simp; with_reducible rfl
  simp only [Act.put, List.getElem_toArray, List.getElem_cons_succ, List.getElem_cons_zero, List.setIfInBounds_toArray, List.set_cons_zero, List.set_cons_succ]
  refine' wpF_take 4 (v := _) rfl (by kernel_rfl) (fun _ _ _ h => h) (by rfl) hSw (fun w' hS => ?_) ?_; rotate_left
  · obtain ⟨s1, s2⟩ := hS; go_simp; with_reducible rfl
  simp only [Act.put, List.getElem_toArray, List.getElem_cons_succ, List.getElem_cons_zero, List.setIfInBounds_toArray, List.set_cons_zero, List.set_cons_succ]
  refine' wpF_take 5 (v := _) rfl (by kernel_rfl) (fun _ _ _ h => h) (by rfl) hSw (fun w' hS => ?_) ?_; rotate_left
  · obtain ⟨s1, s2⟩ := hS; go_simp; with_reducible rfl
  simp only [Act.put, List.getElem_toArray, List.getElem_cons_succ, List.getElem_cons_zero, List.setIfInBounds_toArray, List.set_cons_zero, List.set_cons_succ]
  refine' wpF_take 6 (v := _) rfl (by kernel_rfl) (fun _ _ _ h => h) (by rfl) hSw (fun w' hS => ?_) ?_; rotate_left
  · obtain ⟨s1, s2⟩ := hS; go_simp; with_reducible rfl
  simp only [Act.put, List.getElem_toArray, List.getElem_cons_succ, List.getElem_cons_zero, List.setIfInBounds_toArray, List.set_cons_zero, List.set_cons_succ]
  refine' wpF_take 7 (v := _) rfl (by kernel_rfl) (fun _ _ _ h => h) (by rfl) hSw (fun w' hS => ?_) ?_; rotate_left
  · obtain ⟨s1, s2⟩ := hS; go_simp; with_reducible rfl
  simp only [Act.put, List.getElem_toArray, List.getElem_cons_succ, List.getElem_cons_zero, List.setIfInBounds_toArray, List.set_cons_zero, List.set_cons_succ]
  refine' wpF_take 8 (v := _) rfl (by kernel_rfl) (fun _ _ _ h => h) (by rfl) hSw (fun w' hS => ?_) ?_; rotate_left
  · obtain ⟨s1, s2⟩ := hS; go_simp; with_reducible rfl
  simp only [Act.put, List.getElem_toArray, List.getElem_cons_succ, List.getElem_cons_zero, List.setIfInBounds_toArray, List.set_cons_zero, List.set_cons_succ]
  refine wpF_one 9 rfl (by kernel_rfl) ?_
  simp only [List.getElem_toArray, List.getElem_cons_succ, List.getElem_cons_zero]
  have hc4 := hs4.cell
  have hf4 := hs4.frozen
  go_wp2_with fail
  have hm5 : Mod B [105] false false Y Y w4 (w4.setCell ⟨w.heap.size, 6, none⟩ (i64 0)) := mod_set (p := ⟨w.heap.size, 6, none⟩) hB hs4.ty (by decide) _
  have hs5 := hs4.set_ 6 (i64 0)
  simp only [List.setIfInBounds_toArray, List.set_cons_zero, List.set_cons_succ] at hs5
  have hx5 := hx4.far (p := ⟨w.heap.size, 6, none⟩) hne1 (i64 0)
  have hb5 := hb4.far (p := ⟨w.heap.size, 6, none⟩) hne2 (i64 0)
  have hd5 := hd4.mod hm5 rfl (by simp) (by decide)
  have hM5 := hM4.trans (hm5.more (MarkT ++ DevT) true true (by decide))
  generalize w4.setCell ⟨w.heap.size, 6, none⟩ (i64 0) = w5 at *
  refine ⟨fun _ => ⟨hx5.cell 0, hb5.cell⟩, ?_⟩
  have hc5 := hs5.cell
  have hf5 := hs5.frozen
  clear hc4 hf4
  refine wpF_tail (by kernel_rfl) ?_
  simp only [List.drop_succ_cons, List.drop_zero]
  go_wp2_with fail
  have hm6 : Mod B [105] false false Y Y w5 (w5.setCell ⟨w.heap.size, 7, none⟩ (i64 1)) := mod_set (p := ⟨w.heap.size, 7, none⟩) hB hs5.ty (by decide) _
  have hs6 := hs5.set_ 7 (i64 1)
  simp only [List.setIfInBounds_toArray, List.set_cons_zero, List.set_cons_succ] at hs6
  have hx6 := hx5.far (p := ⟨w.heap.size, 7, none⟩) hne1 (i64 1)
  have hb6 := hb5.far (p := ⟨w.heap.size, 7, none⟩) hne2 (i64 1)
  have hd6 := hd5.mod hm6 rfl (by simp) (by decide)
  have hM6 := hM5.trans (hm6.more (MarkT ++ DevT) true true (by decide))
  generalize w5.setCell ⟨w.heap.size, 7, none⟩ (i64 1) = w6 at *
  refine (dev_size hd6).mono ?_
  rintro e w0 ⟨rfl, rfl⟩
  go_wp2_with fail
  refine (layout86 n hn hn2 _).mono ?_
  rintro e w0 ⟨rfl, rfl⟩
  have hlg : (2 : Nat) ≤ n / 4 := by omega
  go_upto_region 9 with fail
  refine wp_region_G (fun w' => w'.cell? ⟨w.heap.size + 1, 0, none⟩ = some (.pointer (some ⟨w.heap.size, 0, none⟩)) ∧ (∀ i, w'.cell? ⟨w2.heap.size, i, none⟩ = #[i64 0, i64 0, i64 0, i64 0][i]?)) 12 13 (by kernel_rfl) rfl ?_
  intro w7 hsd
  have hSw : w7.cell? ⟨w.heap.size + 1, 0, none⟩ = some (.pointer (some ⟨w.heap.size, 0, none⟩)) ∧ (∀ i, w7.cell? ⟨w2.heap.size, i, none⟩ = #[i64 0, i64 0, i64 0, i64 0][i]?) := ⟨(hsd.cell _).trans (hx6.cell 0), fun i => (hsd.cell _).trans (hb6.cell i)⟩
  have hs7 := hsd.blk hs6
  have hx7 := hsd.blk hx6
  have hb7 := hsd.blk hb6
  have hd7 := hd6.below (hsd.below _)
  have hM7 := hM6.same hsd
  refine' wpF_take 0 (v := _) rfl (by kernel_rfl) (fun _ _ _ h => h) (by rfl) hSw (fun w' hS => ?_) ?_; rotate_left
  · obtain ⟨s1, s2⟩ := hS; go_simp; with_reducible rfl
  simp only [Act.put, List.getElem_toArray, List.getElem_cons_succ, List.getElem_cons_zero, List.setIfInBounds_toArray, List.set_cons_zero, List.set_cons_succ]
  refine' wpF_take 1 (v := _) rfl (by kernel_rfl) (fun _ _ _ h => h) (by rfl) hSw (fun w' hS => ?_) ?_; rotate_left
  · obtain ⟨s1, s2⟩ := hS; go_simp; with_reducible rfl
  simp only [Act.put, List.getElem_toArray, List.getElem_cons_succ, List.getElem_cons_zero, List.setIfInBounds_toArray, List.set_cons_zero, List.set_cons_succ]
  refine' wpF_take 2 (v := _) rfl (by kernel_rfl) (fun _ _ _ h => h) (by rfl) hSw (fun w' hS => ?_) ?_; rotate_left
  · obtain ⟨s1, s2⟩ := hS; go_simp; with_reducible rfl
  simp only [Act.put, List.getElem_toArray, List.getElem_cons_succ, List.getElem_cons_zero, List.setIfInBounds_toArray, List.set_cons_zero, List.set_cons_succ]
  refine' wpF_take 3 (v := _) rfl (by kernel_rfl) (fun _ _ _ h => h) (by rfl) hSw (fun w' hS => ?_) ?_; rotate_left
  · obtain ⟨s1, s2⟩ := hS; go_simp; with_reducible rfl
  simp only [Act.put, List.getElem_toArray, List.getElem_cons_succ, List.getElem_cons_zero, List.setIfInBounds_toArray, List.set_cons_zero, List.set_cons_succ]
  refine' wpF_take 4 (v := _) rfl (by kernel_rfl) (fun _ _ _ h => h) (by rfl) hSw (fun w' hS => ?_) ?_; rotate_left
  · obtain ⟨s1, s2⟩ := hS; go_simp; with_reducible rfl
  simp only [Act.put, List.getElem_toArray, List.getElem_cons_succ, List.getElem_cons_zero, List.setIfInBounds_toArray, List.set_cons_zero, List.set_cons_succ]
  refine wpF_one 5 rfl (by kernel_rfl) ?_
  simp only [List.getElem_toArray, List.getElem_cons_succ, List.getElem_cons_zero]
  have hro := ring_open0 (fr := 2) (nl := n / 4) hd7 (Nat.le_trans hB hM7.size) (by omega) hn2 hlg (by omega) HY.out rfl
  have HRO := Lib.hid hro
  clear hro
  go_wp2_with ((go_at_call 87; refine HRO.out.mono ?_); rintro e w8 ⟨r, rfl, hm8, hd8, hrge, hr8⟩)
  have hs8 : Blk w8 w.heap.size 105 _ := hm8.keep hs7 (by decide) (by simp) (by rw [HY.out]; simp)
  have hx8 : Blk w8 (w.heap.size + 1) 23 _ := hm8.keep hx7 (by decide) (by simp) (by rw [HY.out]; simp)
  have hb8 : Blk w8 w2.heap.size 160 _ := hm8.keep hb7 (by decide) (by simp) (by rw [HY.out]; simp)
  have hM8 := hM7.trans (hm8.more (MarkT ++ DevT) true true (by decide))
  refine ⟨fun _ => ⟨hx8.cell 0, hb8.cell⟩, ?_⟩
  have hSw := And.intro (hx8.cell 0) hb8.cell
  refine' wpF_take 6 (v := _) rfl (by kernel_rfl) (fun _ _ _ h => h) (by rfl) hSw (fun w' hS => ?_) ?_; rotate_left
  · obtain ⟨s1, s2⟩ := hS; go_simp; with_reducible rfl
  simp only [Act.put, List.getElem_toArray, List.getElem_cons_succ, List.getElem_cons_zero, List.setIfInBounds_toArray, List.set_cons_zero, List.set_cons_succ]
  refine' wpF_take 7 (v := _) rfl (by kernel_rfl) (fun _ _ _ h => h) (by rfl) hSw (fun w' hS => ?_) ?_; rotate_left
  · obtain ⟨s1, s2⟩ := hS; go_simp; with_reducible rfl
  simp only [Act.put, List.getElem_toArray, List.getElem_cons_succ, List.getElem_cons_zero, List.setIfInBounds_toArray, List.set_cons_zero, List.set_cons_succ]
  refine' wpF_take 8 (v := _) rfl (by kernel_rfl) (fun _ _ _ h => h) (by rfl) hSw (fun w' hS => ?_) ?_; rotate_left
  · obtain ⟨s1, s2⟩ := hS; go_simp; with_reducible rfl
  simp only [Act.put, List.getElem_toArray, List.getElem_cons_succ, List.getElem_cons_zero, List.setIfInBounds_toArray, List.set_cons_zero, List.set_cons_succ]
  refine' wpF_take 9 (v := _) rfl (by kernel_rfl) (fun _ _ _ h => h) (by rfl) hSw (fun w' hS => ?_) ?_; rotate_left
  · obtain ⟨s1, s2⟩ := hS; go_simp; with_reducible rfl
  simp only [Act.put, List.getElem_toArray, List.getElem_cons_succ, List.getElem_cons_zero, List.setIfInBounds_toArray, List.set_cons_zero, List.set_cons_succ]
  refine' wpF_take 10 (v := _) rfl (by kernel_rfl) (fun _ _ _ h => h) (by rfl) hSw (fun w' hS => ?_) ?_; rotate_left
  · obtain ⟨s1, s2⟩ := hS; go_simp; with_reducible rfl
  simp only [Act.put, List.getElem_toArray, List.getElem_cons_succ, List.getElem_cons_zero, List.setIfInBounds_toArray, List.set_cons_zero, List.set_cons_succ]
  refine wpF_one 11 rfl (by kernel_rfl) ?_
  simp only [List.getElem_toArray, List.getElem_cons_succ, List.getElem_cons_zero]
  have hc8 := hs8.cell
  have hf8 := hs8.frozen
  go_wp2_with fail
  have hm9 : Mod B [105] false false Y Y w8 (w8.setCell ⟨w.heap.size, 1, none⟩ (.pointer (some ⟨r, 0, none⟩))) := mod_set (p := ⟨w.heap.size, 1, none⟩) hB hs8.ty (by decide) _
  have hs9 := hs8.set_ 1 (.pointer (some ⟨r, 0, none⟩))
  simp only [List.setIfInBounds_toArray, List.set_cons_zero, List.set_cons_succ] at hs9
  have hx9 := hx8.far (p := ⟨w.heap.size, 1, none⟩) hne1 (.pointer (some ⟨r, 0, none⟩))
  have hb9 := hb8.far (p := ⟨w.heap.size, 1, none⟩) hne2 (.pointer (some ⟨r, 0, none⟩))
  have hd9 := hd8.mod hm9 rfl (by simp) (by decide)
  have hM9 := hM8.trans (hm9.more (MarkT ++ DevT) true true (by decide))
  have hr9 := hr8.mod hm9 rfl (by decide) (by simp) rfl
  generalize w8.setCell ⟨w.heap.size, 1, none⟩ (.pointer (some ⟨r, 0, none⟩)) = w9 at *
  refine ⟨fun _ => ⟨hx9.cell 0, hb9.cell⟩, ?_⟩
  clear hc8 hf8
  refine wpF_tail (by kernel_rfl) ?_
  simp only [List.drop_succ_cons, List.drop_zero]
  have hs9c := hs9.cell
  go_upto_region 12 with fail
  refine wp_region_G (fun w' => w'.cell? ⟨w.heap.size + 1, 0, none⟩ = some (.pointer (some ⟨w.heap.size, 0, none⟩))) 12 13 (by kernel_rfl) rfl ?_
  intro w10 hsd10
  have hSw : w10.cell? ⟨w.heap.size + 1, 0, none⟩ = some (.pointer (some ⟨w.heap.size, 0, none⟩)) := (hsd10.cell _).trans (hx9.cell 0)
  have hs10 := hsd10.blk hs9
  have hx10 := hsd10.blk hx9
  have hb10 := hsd10.blk hb9
  have hd10 := hd9.below (hsd10.below _)
  have hM10 := hM9.same hsd10
  have hr10 := hr9.below (hsd10.below _)
  refine' wpF_take 0 (v := _) rfl (by kernel_rfl) (fun _ _ _ h => h) (by rfl) hSw (fun w' hS => ?_) ?_; rotate_left
  · go_simp; with_reducible rfl
  simp only [Act.put, List.getElem_toArray, List.getElem_cons_succ, List.getElem_cons_zero, List.setIfInBounds_toArray, List.set_cons_zero, List.set_cons_succ]
  refine' wpF_take 1 (v := _) rfl (by kernel_rfl) (fun _ _ _ h => h) (by rfl) hSw (fun w' hS => ?_) ?_; rotate_left
  · go_simp; with_reducible rfl
  simp only [Act.put, List.getElem_toArray, List.getElem_cons_succ, List.getElem_cons_zero, List.setIfInBounds_toArray, List.set_cons_zero, List.set_cons_succ]
  refine' wpF_take 2 (v := _) rfl (by kernel_rfl) (fun _ _ _ h => h) (by rfl) hSw (fun w' hS => ?_) ?_; rotate_left
  · go_simp; with_reducible rfl
  simp only [Act.put, List.getElem_toArray, List.getElem_cons_succ, List.getElem_cons_zero, List.setIfInBounds_toArray, List.set_cons_zero, List.set_cons_succ]
  refine' wpF_take 3 (v := _) rfl (by kernel_rfl) (fun _ _ _ h => h) (by rfl) hSw (fun w' hS => ?_) ?_; rotate_left
  · go_simp; with_reducible rfl
  simp only [Act.put, List.getElem_toArray, List.getElem_cons_succ, List.getElem_cons_zero, List.setIfInBounds_toArray, List.set_cons_zero, List.set_cons_succ]
  refine' wpF_take 4 (v := _) rfl (by kernel_rfl) (fun _ _ _ h => h) (by rfl) hSw (fun w' hS => ?_) ?_; rotate_left
  · go_simp; with_reducible rfl
  simp only [Act.put, List.getElem_toArray, List.getElem_cons_succ, List.getElem_cons_zero, List.setIfInBounds_toArray, List.set_cons_zero, List.set_cons_succ]
  refine wpF_one 5 rfl (by kernel_rfl) ?_
  simp only [List.getElem_toArray, List.getElem_cons_succ, List.getElem_cons_zero]
  have hfo := file_open0 (fr := 2 + n / 4) (pg := (n - 2 - n / 4 - 5) / 4) hd10 (Nat.le_trans hB hM10.size) (by omega) hn2 (by omega) (by omega) rfl
  rw [show (((2 + n / 4 : Nat)) : Int) = 2 + ((n / 4 : Nat) : Int) by omega] at hfo
  have HFO := Lib.hid hfo
  clear hfo
  go_wp2_with ((go_at_call 88; refine HFO.out.mono ?_); rintro e w11 ⟨f, rfl, hm11, hd11, hfge, hf11⟩)
  have hs11 : Blk w11 w.heap.size 105 _ := hm11.keep hs10 (by decide) (by simp) (by simp)
  have hx11 : Blk w11 (w.heap.size + 1) 23 _ := hm11.keep hx10 (by decide) (by simp) (by simp)
  have hb11 : Blk w11 w2.heap.size 160 _ := hm11.keep hb10 (by decide) (by simp) (by simp)
  have hr11 := hr10.mod hm11 rfl (by decide) (by simp) rfl
  have hM11 := hM10.trans (hm11.more (MarkT ++ DevT) true true (by decide))
  refine ⟨fun _ => hx11.cell 0, ?_⟩
  have hSw := hx11.cell 0
  refine' wpF_take 6 (v := _) rfl (by kernel_rfl) (fun _ _ _ h => h) (by rfl) hSw (fun w' hS => ?_) ?_; rotate_left
  · go_simp; with_reducible rfl
  simp only [Act.put, List.getElem_toArray, List.getElem_cons_succ, List.getElem_cons_zero, List.setIfInBounds_toArray, List.set_cons_zero, List.set_cons_succ]
  refine' wpF_take 7 (v := _) rfl (by kernel_rfl) (fun _ _ _ h => h) (by rfl) hSw (fun w' hS => ?_) ?_; rotate_left
  · go_simp; with_reducible rfl
  simp only [Act.put, List.getElem_toArray, List.getElem_cons_succ, List.getElem_cons_zero, List.setIfInBounds_toArray, List.set_cons_zero, List.set_cons_succ]
  refine' wpF_take 8 (v := _) rfl (by kernel_rfl) (fun _ _ _ h => h) (by rfl) hSw (fun w' hS => ?_) ?_; rotate_left
  · go_simp; with_reducible rfl
  simp only [Act.put, List.getElem_toArray, List.getElem_cons_succ, List.getElem_cons_zero, List.setIfInBounds_toArray, List.set_cons_zero, List.set_cons_succ]
  refine' wpF_take 9 (v := _) rfl (by kernel_rfl) (fun _ _ _ h => h) (by rfl) hSw (fun w' hS => ?_) ?_; rotate_left
  · go_simp; with_reducible rfl
  simp only [Act.put, List.getElem_toArray, List.getElem_cons_succ, List.getElem_cons_zero, List.setIfInBounds_toArray, List.set_cons_zero, List.set_cons_succ]
  refine' wpF_take 10 (v := _) rfl (by kernel_rfl) (fun _ _ _ h => h) (by rfl) hSw (fun w' hS => ?_) ?_; rotate_left
  · go_simp; with_reducible rfl
  simp only [Act.put, List.getElem_toArray, List.getElem_cons_succ, List.getElem_cons_zero, List.setIfInBounds_toArray, List.set_cons_zero, List.set_cons_succ]
  refine wpF_one 11 rfl (by kernel_rfl) ?_
  simp only [List.getElem_toArray, List.getElem_cons_succ, List.getElem_cons_zero]
  have hc11 := hs11.cell
  have hff11 := hs11.frozen
  go_wp2_with fail
  have hm12 : Mod B [105] false false Y Y w11 (w11.setCell ⟨w.heap.size, 2, none⟩ (.pointer (some ⟨f, 0, none⟩))) := mod_set (p := ⟨w.heap.size, 2, none⟩) hB hs11.ty (by decide) _
  have hs12 := hs11.set_ 2 (.pointer (some ⟨f, 0, none⟩))
  simp only [List.setIfInBounds_toArray, List.set_cons_zero, List.set_cons_succ] at hs12
  have hx12 := hx11.far (p := ⟨w.heap.size, 2, none⟩) hne1 (.pointer (some ⟨f, 0, none⟩))
  have hb12 := hb11.far (p := ⟨w.heap.size, 2, none⟩) hne2 (.pointer (some ⟨f, 0, none⟩))
  have hd12 := hd11.mod hm12 rfl (by simp) (by decide)
  have hM12 := hM11.trans (hm12.more (MarkT ++ DevT) true true (by decide))
  have hr12 := hr11.mod hm12 rfl (by decide) (by simp) rfl
  have hf12 := hf11.mod hm12 (by decide) (by simp) (by simp)
  generalize w11.setCell ⟨w.heap.size, 2, none⟩ (.pointer (some ⟨f, 0, none⟩)) = w12 at *
  refine ⟨fun _ => hx12.cell 0, ?_⟩
  clear hc11 hff11
  refine wpF_tail (by kernel_rfl) ?_
  simp only [List.drop_succ_cons, List.drop_zero]
  go_upto_region 15 with fail
  refine wp_region_G (fun w' => w'.cell? ⟨w.heap.size + 1, 0, none⟩ = some (.pointer (some ⟨w.heap.size, 0, none⟩)) ∧ w'.cell? ⟨w.heap.size, 2, none⟩ = some (.pointer (some ⟨f, 0, none⟩))) 14 15 (by kernel_rfl) rfl ?_
  intro w13 hsd13
  have hSw : w13.cell? ⟨w.heap.size + 1, 0, none⟩ = some (.pointer (some ⟨w.heap.size, 0, none⟩)) ∧ w13.cell? ⟨w.heap.size, 2, none⟩ = some (.pointer (some ⟨f, 0, none⟩)) := ⟨(hsd13.cell _).trans (hx12.cell 0), (hsd13.cell _).trans (hs12.cell 2)⟩
  have hs13 := hsd13.blk hs12
  have hx13 := hsd13.blk hx12
  have hb13 := hsd13.blk hb12
  have hd13 := hd12.below (hsd13.below _)
  have hM13 := hM12.same hsd13
  have hr13 := hr12.below (hsd13.below _)
  have hf13 := hf12.below (hsd13.below _)
  refine' wpF_take 0 (v := _) rfl (by kernel_rfl) (fun _ _ _ h => h) (by rfl) hSw (fun w' hS => ?_) ?_; rotate_left
  · obtain ⟨s1, s2⟩ := hS; go_simp; with_reducible rfl
  simp only [Act.put, List.getElem_toArray, List.getElem_cons_succ, List.getElem_cons_zero, List.setIfInBounds_toArray, List.set_cons_zero, List.set_cons_succ]
  refine' wpF_take 1 (v := _) rfl (by kernel_rfl) (fun _ _ _ h => h) (by rfl) hSw (fun w' hS => ?_) ?_; rotate_left
  · obtain ⟨s1, s2⟩ := hS; go_simp; with_reducible rfl
  simp only [Act.put, List.getElem_toArray, List.getElem_cons_succ, List.getElem_cons_zero, List.setIfInBounds_toArray, List.set_cons_zero, List.set_cons_succ]
  refine' wpF_take 2 (v := _) rfl (by kernel_rfl) (fun _ _ _ h => h) (by rfl) hSw (fun w' hS => ?_) ?_; rotate_left
  · obtain ⟨s1, s2⟩ := hS; go_simp; with_reducible rfl
  simp only [Act.put, List.getElem_toArray, List.getElem_cons_succ, List.getElem_cons_zero, List.setIfInBounds_toArray, List.set_cons_zero, List.set_cons_succ]
  refine' wpF_take 3 (v := _) rfl (by kernel_rfl) (fun _ _ _ h => h) (by rfl) hSw (fun w' hS => ?_) ?_; rotate_left
  · obtain ⟨s1, s2⟩ := hS; go_simp; with_reducible rfl
  simp only [Act.put, List.getElem_toArray, List.getElem_cons_succ, List.getElem_cons_zero, List.setIfInBounds_toArray, List.set_cons_zero, List.set_cons_succ]
  refine' wpF_take 4 (v := _) rfl (by kernel_rfl) (fun _ _ _ h => h) (by rfl) hSw (fun w' hS => ?_) ?_; rotate_left
  · obtain ⟨s1, s2⟩ := hS; go_simp; with_reducible rfl
  simp only [Act.put, List.getElem_toArray, List.getElem_cons_succ, List.getElem_cons_zero, List.setIfInBounds_toArray, List.set_cons_zero, List.set_cons_succ]
  refine' wpF_take 5 (v := _) rfl (by kernel_rfl) (fun _ _ _ h => h) (by rfl) hSw (fun w' hS => ?_) ?_; rotate_left
  · obtain ⟨s1, s2⟩ := hS; go_simp; with_reducible rfl
  simp only [Act.put, List.getElem_toArray, List.getElem_cons_succ, List.getElem_cons_zero, List.setIfInBounds_toArray, List.set_cons_zero, List.set_cons_succ]
  refine wpF_one 6 rfl (by kernel_rfl) ?_
  simp only [List.getElem_toArray, List.getElem_cons_succ, List.getElem_cons_zero]
  go_wp2_with fail
  refine ⟨fun _ => hSw, ?_⟩
  refine wpF_one 7 rfl (by kernel_rfl) ?_
  simp only [List.getElem_toArray, List.getElem_cons_succ, List.getElem_cons_zero]
  have hpn := fun fn fa fb => pool_new (B := B) (Y := Y) f nf h1 h64 ((n - 2 - n / 4 - 5) / 4) fn fa fb w13 (Nat.le_trans hB hM13.size)
  have HPN := Lib.hid hpn
  clear hpn
  go_wp2_with ((go_at_call 89; refine (HPN.out _ _ _).mono ?_); rintro e w14 ⟨p, rfl, hb14, hpge, hp14⟩)
  have hs14 : Blk w14 w.heap.size 105 _ := hs13.at_ (hb14.block _ hs13.lt)
  have hx14 : Blk w14 (w.heap.size + 1) 23 _ := hx13.at_ (hb14.block _ hx13.lt)
  have hb14' : Blk w14 w2.heap.size 160 _ := hb13.at_ (hb14.block _ hb13.lt)
  have hd14 := hd13.below hb14
  have hr14 := hr13.below hb14
  have hf14 := hf13.below hb14
  have hM14 := hM13.below_ hb14
  refine ⟨fun _ => ⟨hx14.cell 0, hs14.cell 2⟩, ?_⟩
  have hSw := And.intro (hx14.cell 0) (hs14.cell 2)
  refine' wpF_take 8 (v := _) rfl (by kernel_rfl) (fun _ _ _ h => h) (by rfl) hSw (fun w' hS => ?_) ?_; rotate_left
  · obtain ⟨s1, s2⟩ := hS; go_simp; with_reducible rfl
  simp only [Act.put, List.getElem_toArray, List.getElem_cons_succ, List.getElem_cons_zero, List.setIfInBounds_toArray, List.set_cons_zero, List.set_cons_succ]
  refine' wpF_take 9 (v := _) rfl (by kernel_rfl) (fun _ _ _ h => h) (by rfl) hSw (fun w' hS => ?_) ?_; rotate_left
  · obtain ⟨s1, s2⟩ := hS; go_simp; with_reducible rfl
  simp only [Act.put, List.getElem_toArray, List.getElem_cons_succ, List.getElem_cons_zero, List.setIfInBounds_toArray, List.set_cons_zero, List.set_cons_succ]
  refine' wpF_take 10 (v := _) rfl (by kernel_rfl) (fun _ _ _ h => h) (by rfl) hSw (fun w' hS => ?_) ?_; rotate_left
  · obtain ⟨s1, s2⟩ := hS; go_simp; with_reducible rfl
  simp only [Act.put, List.getElem_toArray, List.getElem_cons_succ, List.getElem_cons_zero, List.setIfInBounds_toArray, List.set_cons_zero, List.set_cons_succ]
  refine' wpF_take 11 (v := _) rfl (by kernel_rfl) (fun _ _ _ h => h) (by rfl) hSw (fun w' hS => ?_) ?_; rotate_left
  · obtain ⟨s1, s2⟩ := hS; go_simp; with_reducible rfl
  simp only [Act.put, List.getElem_toArray, List.getElem_cons_succ, List.getElem_cons_zero, List.setIfInBounds_toArray, List.set_cons_zero, List.set_cons_succ]
  refine' wpF_take 12 (v := _) rfl (by kernel_rfl) (fun _ _ _ h => h) (by rfl) hSw (fun w' hS => ?_) ?_; rotate_left
  · obtain ⟨s1, s2⟩ := hS; go_simp; with_reducible rfl
  simp only [Act.put, List.getElem_toArray, List.getElem_cons_succ, List.getElem_cons_zero, List.setIfInBounds_toArray, List.set_cons_zero, List.set_cons_succ]
  refine wpF_one 13 rfl (by kernel_rfl) ?_
  simp only [List.getElem_toArray, List.getElem_cons_succ, List.getElem_cons_zero]
  have hc14 := hs14.cell
  have hff14 := hs14.frozen
  go_wp2_with fail
  have hm15 : Mod B [105] false false Y Y w14 (w14.setCell ⟨w.heap.size, 3, none⟩ (.pointer (some ⟨p, 0, none⟩))) := mod_set (p := ⟨w.heap.size, 3, none⟩) hB hs14.ty (by decide) _
  have hs15 := hs14.set_ 3 (.pointer (some ⟨p, 0, none⟩))
  simp only [List.setIfInBounds_toArray, List.set_cons_zero, List.set_cons_succ] at hs15
  have hx15 := hx14.far (p := ⟨w.heap.size, 3, none⟩) hne1 (.pointer (some ⟨p, 0, none⟩))
  have hb15 := hb14'.far (p := ⟨w.heap.size, 3, none⟩) hne2 (.pointer (some ⟨p, 0, none⟩))
  have hd15 := hd14.mod hm15 rfl (by simp) (by decide)
  have hM15 := hM14.trans (hm15.more (MarkT ++ DevT) true true (by decide))
  have hr15 := hr14.mod hm15 rfl (by decide) (by simp) rfl
  have hf15 := hf14.mod hm15 (by decide) (by simp) (by simp)
  have hp15 := hp14.mod hm15 (by decide) (by simp) (by simp)
  generalize w14.setCell ⟨w.heap.size, 3, none⟩ (.pointer (some ⟨p, 0, none⟩)) = w15 at *
  refine ⟨fun _ => ⟨hx15.cell 0, hs15.cell 2⟩, ?_⟩
  clear hc14 hff14
  refine wpF_tail (by kernel_rfl) ?_
  simp only [List.drop_succ_cons, List.drop_zero]
  have hrs := restart92 (opens := .slice none 0 0) (next := 1) (redone := 0) (undone := 0) hB hs15 hd15 hk (by omega) hr15 rfl rfl rfl rfl HY.out hp15
  have HRS := Lib.hid hrs
  clear hrs
  have hcx := hx15.cell
  have hcb := hb15.cell
  go_wp2_with ((go_at_call 92; refine HRS.out.mono ?_); rintro e w16 ⟨rfl, X, hm16, hs16, hd16, hr16⟩; have hx16 : Blk w16 (w.heap.size + 1) 23 _ := hm16.keep' hx15 (by decide) (fun _ => hd15.dl) (by simp) (by decide) (by decide); have hcx16 := hx16.cell)
  go_ret2
  have hf16 := hf15.mod hm16 (by decide) (fun _ => hd15.dl) (by simp)
  have hp16 := hp15.mod hm16 (by decide) (fun _ => hd15.dl) (by simp)
  have hfv : ∀ m, m < (n - 2 - n / 4 - 5) / 4 → fview (fun j => if j = 1 then X else List.replicate 128 0) (2 + n / 4) m = List.replicate 512 0 := by
    intro m hm
    unfold fview
    rw [cat_zero 4 fun j hj => by rw [if_neg (by omega)]]
  refine ⟨w.heap.size, rfl, hM15.trans (hm16.more (MarkT ++ DevT) true true (by decide)), ⟨d, r, f, p, .slice none 0 0, .slice none 0 0, 1, 0, 0, 0, 0, [], ⟨2, n / 4, 0, [], 0, 0⟩, fun m => fview (fun j => if j = 1 then X else List.replicate 128 0) (2 + n / 4) m⟩,
    hB, Nat.le_trans hB (Nat.le_trans hM15.size hm16.size), hs16, ⟨n, 0, 2 + n / 4, _, _, _, hd16, by decide, hn2, hr16, hf16, by show 2 + n / 4 + 5 + 4 * ((n - 2 - n / 4 - 5) / 4) ≤ n; omega, hp16, ?_, by show S.length ≤ (List.replicate nf eFr).length; rw [List.length_replicate]; exact hS, ?_, by simp⟩, World.ownsRow_nil _ _ _ _, Nat.zero_le _, OpensAt.nil _ _ _, ?_, Nat.zero_le _, ?_, by simp [newS], by simp [newS]⟩
  · intro x hx
    have := List.eq_of_mem_replicate hx
    subst this
    exact .inl (by decide)
  · intro m hm
    rw [pageOf_no]
    intro x hx
    have := List.eq_of_mem_replicate hx
    subst this
    simp only [eFr]
    omega
  · simp [newS, RingS.tail]
  · intro m hm
    show (fview _ _ _).drop 8 = List.replicate 504 0
    rw [hfv m hm]
    decide
end Go.Proofs.YtllhgbanbelmaaaGreat

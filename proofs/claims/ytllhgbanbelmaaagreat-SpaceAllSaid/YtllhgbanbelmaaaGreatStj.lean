/- store: its parts; lay. -/
import Derived.Test.YtllhgbanbelmaaaGreatSti
namespace Go.Proofs.YtllhgbanbelmaaaGreat
open Go.RowKit
variable {B : Nat} {T : List Nat} {D R : Bool} {Y Y' : Sys} {w w' : World}
theorem sl102 : SlT Tryz.prog 102 217 12 160 (.agg #[.int .i64 0, .int .i64 0, .int .i64 0, .int .i64 0, .int .i64 0, .int .i64 0, .int .i64 0, .slice none 0 0, .slice none 0 0, .slice none 0 0, .slice none 0 0, .int .i64 0]) := .mk' (by kernel_rfl) (by kernel_rfl) rfl (by decide)

def LayT : List Nat := [105, 210, 217]
/-- lay: a record goes behind the log; the store's lines grow by one -/
def Laid (B : Nat) (Y : Sys) (w : World) (s d r f p np : Nat) (opens : Value) (master next commits redone undone : Int) (nl : Nat) (ρ : RingS) (S L : List Nat) (pages : Nat → List UInt8) (xs : List UInt8) (e : Ending) (w' : World) : Prop :=
  e = .returned (.tuple #[i64 (ρ.tail + 1 : Nat), i64 0]) ∧ ∃ Y' lines' lx', Mod B LayT false true Y Y' w w' ∧ CoreAt B Y' w' d r f p np { ρ with bs := ρ.bs ++ xs } S pages L ∧
    Blk w' s 105 (stCells d r f p lines' opens master next commits redone undone) ∧ w'.ownsRow B 217 12 lines' (nl + 1) lx'

set_option maxRecDepth 100000 in
set_option maxHeartbeats 4000000 in
theorem lay59 {s d r f p np : Nat} {lines opens : Value} {master next commits redone undone : Int} (hB : B ≤ s) (hbs : Blk w s 105 (stCells d r f p lines opens master next commits redone undone)) {ρ : RingS} {S L : List Nat} {pages : Nat → List UInt8}
    (hco : CoreAt B Y w d r f p np ρ S pages L) {nl : Nat} {lx : List Value} (hln : w.ownsRow B 217 12 lines nl lx) (hnl : nl ≤ 549755813888) (hBw : B ≤ w.heap.size)
    (k id prev u pg off undo : Int) (ba aa : Option Addr) (bl bc al ac : Nat) (hb : bl ≤ 1024) (ha : al ≤ 1024) (bs zs : List UInt8)
    (hsb : Src w (.slice ba bl bc) bl (bs.map bv)) (hbl : bs.length = bl) (hsa : Src w (.slice aa al ac) al (zs.map bv)) (hal : zs.length = al)
    (hk : 0 ≤ k) (hid : 0 ≤ id) (hprev : 0 ≤ prev) (hu : 0 ≤ u) (hpg : 0 ≤ pg) (hoff : 0 ≤ off) (hundo : 0 ≤ undo)
    (hroom : ((96 + bl + al : Nat) : Int) ≤ ρ.room) (hmax : ρ.tail + (96 + bl + al) ≤ 1099511627776) :
    Calls Tryz.prog 59 #[.pointer (some ⟨s, 0, none⟩), .agg (recCells k id prev u pg off (.slice ba bl bc) (.slice aa al ac) undo)] w (Laid B Y w s d r f p np opens master next commits redone undone nl ρ S L pages (encB k id prev u pg off undo bs zs)) := by
  obtain ⟨la, lc, rfl, _, _⟩ := own_form hln
  have hring : ∃ nd k ffr view fv fr, CoreIn B Y w d r f p nd k ffr np view ρ fv fr S pages L := hco
  obtain ⟨_, _, _, _, _, _, hci⟩ := hring
  have htl : (ρ.tail : Int) ≤ 1099511627776 := by omega
  have henc : ∀ w3 : World, Below w.heap.size w w3 → Calls Tryz.prog 125 #[.agg (recCells k id prev u pg off (.slice ba bl bc) (.slice aa al ac) undo)] w3 _ := fun w3 h3 =>
    encode125 k id prev u pg off undo ba aa bl bc al ac hb ha bs zs (hsb.mono h3) hbl (hsa.mono h3) hal hk hid hprev hu hpg hoff hundo
  unfold recCells at henc ⊢
  have HENC := Lib.hid henc
  clear henc
  have hbr1 : Blk (w.alloc (.cells #[i64 k, i64 id, i64 prev, i64 u, i64 pg, i64 off, .slice ba bl bc, .slice aa al ac, .slice none 0 0, .slice none 0 0, i64 undo] 112)) w.heap.size 112 #[i64 k, i64 id, i64 prev, i64 u, i64 pg, i64 off, .slice ba bl bc, .slice aa al ac, .slice none 0 0, .slice none 0 0, i64 undo] := Blk.new _ _ _
  have hbs1 := hbs.alloc (.cells #[i64 k, i64 id, i64 prev, i64 u, i64 pg, i64 off, .slice ba bl bc, .slice aa al ac, .slice none 0 0, .slice none 0 0, i64 undo] 112)
  have hbe1 : Below w.heap.size w (w.alloc (.cells #[i64 k, i64 id, i64 prev, i64 u, i64 pg, i64 off, .slice ba bl bc, .slice aa al ac, .slice none 0 0, .slice none 0 0, i64 undo] 112)) := (Below.refl _ _).alloc (Nat.le_refl _) _
  have hci1 := hci.ring.below hbe1
  unfold stCells at hbs1
  go_enter Tryz.func59, Tryz.ntmps59
  have hcs1 := hbs1.cell
  have hcr1 := hbr1.cell
  have htail := fun k => ring_tail (hci1.drewN k)
  have HT := Lib.hid htail
  clear htail
  go_upto_region 2 with (go_at_call 114; refine (HT.out 0).mono ?_; rintro e w' ⟨rfl, kk, rfl⟩)
  have hsm : Same (w.alloc (.cells #[i64 k, i64 id, i64 prev, i64 u, i64 pg, i64 off, .slice ba bl bc, .slice aa al ac, .slice none 0 0, .slice none 0 0, i64 undo] 112)) ((w.alloc (.cells #[i64 k, i64 id, i64 prev, i64 u, i64 pg, i64 off, .slice ba bl bc, .slice aa al ac, .slice none 0 0, .slice none 0 0, i64 undo] 112)).drewN kk) := Same.drewN rfl
  replace hbs1 := hsm.blk hbs1
  replace hbr1 := hsm.blk hbr1
  replace hbe1 := hbe1.trans (hsm.below _)
  clear hcs1 hcr1 hci1 HT hsm
  have hcs1 := hbs1.cell
  have hcr1 := hbr1.cell
  generalize (w.alloc (.cells #[i64 k, i64 id, i64 prev, i64 u, i64 pg, i64 off, .slice ba bl bc, .slice aa al ac, .slice none 0 0, .slice none 0 0, i64 undo] 112)).drewN kk = w1 at *
  refine wp_region_G (fun w' => (∀ i, w'.cell? ⟨s, i, none⟩ = #[.pointer (some ⟨d, 0, none⟩), .pointer (some ⟨r, 0, none⟩), .pointer (some ⟨f, 0, none⟩), .pointer (some ⟨p, 0, none⟩), .slice la nl lc, opens, i64 master, i64 next, i64 commits, .bool false, i64 redone, i64 undone][i]?) ∧ (∀ i, w'.cell? ⟨w.heap.size, i, none⟩ = #[i64 k, i64 id, i64 prev, i64 u, i64 pg, i64 off, .slice ba bl bc, .slice aa al ac, .slice none 0 0, .slice none 0 0, i64 undo][i]?)) 7 8 (by kernel_rfl) rfl ?_
  intro w2 hsd
  have hSw : (∀ i, w2.cell? ⟨s, i, none⟩ = #[.pointer (some ⟨d, 0, none⟩), .pointer (some ⟨r, 0, none⟩), .pointer (some ⟨f, 0, none⟩), .pointer (some ⟨p, 0, none⟩), .slice la nl lc, opens, i64 master, i64 next, i64 commits, .bool false, i64 redone, i64 undone][i]?) ∧ (∀ i, w2.cell? ⟨w.heap.size, i, none⟩ = #[i64 k, i64 id, i64 prev, i64 u, i64 pg, i64 off, .slice ba bl bc, .slice aa al ac, .slice none 0 0, .slice none 0 0, i64 undo][i]?) := ⟨fun i => (hsd.cell _).trans (hcs1 i), fun i => (hsd.cell _).trans (hcr1 i)⟩
  refine' wpF_take 0 (v := _) rfl (by kernel_rfl) (fun _ _ _ h => h) (by rfl) hSw (fun w' hS => ?_) ?_; rotate_left
  · obtain ⟨s1, s2⟩ := hS; go_simp; with_reducible rfl
  simp only [Act.put, List.getElem_toArray, List.getElem_cons_succ, List.getElem_cons_zero, List.setIfInBounds_toArray, List.set_cons_zero, List.set_cons_succ]
  refine' wpF_take 1 (v := _) rfl (by kernel_rfl) (fun _ _ _ h => h) (by rfl) hSw (fun w' hS => ?_) ?_; rotate_left
  · obtain ⟨s1, s2⟩ := hS; go_simp; with_reducible rfl
  simp only [Act.put, List.getElem_toArray, List.getElem_cons_succ, List.getElem_cons_zero, List.setIfInBounds_toArray, List.set_cons_zero, List.set_cons_succ]
  refine' wpF_take 2 (v := _) rfl (by kernel_rfl) (fun _ _ _ h => h) (by rfl) hSw (fun w' hS => ?_) ?_; rotate_left
  · obtain ⟨s1, s2⟩ := hS; go_simp; with_reducible rfl
  simp only [Act.put, List.getElem_toArray, List.getElem_cons_succ, List.getElem_cons_zero, List.setIfInBounds_toArray, List.set_cons_zero, List.set_cons_succ]
  refine' wpF_take 3 (v := _) rfl (by kernel_rfl) (fun _ _ _ h => h) (by rfl) hSw (fun w' hS => ?_) ?_; rotate_left
  · obtain ⟨s1, s2⟩ := hS; go_simp; with_reducible rfl
  simp only [Act.put, List.getElem_toArray, List.getElem_cons_succ, List.getElem_cons_zero, List.setIfInBounds_toArray, List.set_cons_zero, List.set_cons_succ]
  refine' wpF_take 4 (v := _) rfl (by kernel_rfl) (fun _ _ _ h => h) (by rfl) hSw (fun w' hS => ?_) ?_; rotate_left
  · obtain ⟨s1, s2⟩ := hS; go_simp; with_reducible rfl
  simp only [Act.put, List.getElem_toArray, List.getElem_cons_succ, List.getElem_cons_zero, List.setIfInBounds_toArray, List.set_cons_zero, List.set_cons_succ]
  refine wpF_one 5 rfl (by kernel_rfl) ?_
  simp only [List.getElem_toArray, List.getElem_cons_succ, List.getElem_cons_zero]
  have hw1s : w1.heap.size ≤ w2.heap.size := by rw [hsd.heap]; exact Nat.le_refl _
  go_wp2_with ((go_at_call 125; refine (HENC.out _ (hbe1.trans (hsd.below _))).mono ?_); rintro e w3 ⟨v3, rfl, hown3, hb3⟩)
  have hbs3 : Blk w3 s 105 _ := (hsd.blk hbs1).at_ (hb3.block _ (hsd.blk hbs1).lt)
  have hbr3 : Blk w3 w.heap.size 112 _ := (hsd.blk hbr1).at_ (hb3.block _ (hsd.blk hbr1).lt)
  unfold stCells at hbs3
  refine ⟨fun _ => ⟨hbs3.cell, hbr3.cell⟩, ?_⟩
  have hSw := And.intro hbs3.cell hbr3.cell
  have hbe3 : Below w.heap.size w w3 := (hbe1.trans (hsd.below _)).trans (hb3.mono (by have := hbe1.size; omega))
  have hco3 := hco.below hbe3
  have hv3 : Byts B Y w3 v3 (encB k id prev u pg off undo bs zs) := Sl.own hown3 (Nat.lt_of_lt_of_le hco.dll (Nat.le_trans hbe1.size hw1s)) (fun g hg => Nat.lt_of_lt_of_le (hco.rbl g hg) (Nat.le_trans hbe1.size hw1s))
  have happ := core_append hco3 v3 _ hv3 (by rw [encB_length, hbl, hal]; exact hroom) (by rw [encB_length, hbl, hal]; exact hmax)
  obtain ⟨va3, vc3, hv3s⟩ := hv3.slice
  rw [hv3s] at happ ⊢
  have HAPP := Lib.hid happ
  clear happ hv3s hv3
  refine wpF_one 6 rfl (by kernel_rfl) ?_
  simp only [List.getElem_toArray, List.getElem_cons_succ, List.getElem_cons_zero]
  go_wp2_with ((go_at_call 124; refine HAPP.out.mono ?_); rintro e w4 ⟨rfl, Y4, hm4, hco4⟩)
  have hbs4 : Blk w4 s 105 _ := hm4.keep' hbs3 (by decide) (by simp) (fun _ => hco3.rBlk) (by decide) (by decide)
  have hbr4 : Blk w4 w.heap.size 112 _ := hm4.keep' hbr3 (by decide) (by simp) (fun _ => hco3.rBlk) (by decide) (by decide)
  refine ⟨fun _ => ⟨hbs4.cell, hbr4.cell⟩, ?_⟩
  refine wpF_tail (by kernel_rfl) ?_
  simp only [List.drop_succ_cons, List.drop_zero]
  go_wp2_with fail
  have hln3 : w3.ownsRow B 217 12 (.slice la nl lc) nl lx := own_at hln fun g hg => hbe3.block g (own_lt hln hg)
  have hln4 : w4.ownsRow B 217 12 (.slice la nl lc) nl lx := own_mod' hln3 hm4 (by decide) (by simp) (fun _ => hco3.rBlk) (by decide) (by decide)
  refine wp_region_G (fun w' => (∀ i, w'.cell? ⟨s, i, none⟩ = #[.pointer (some ⟨d, 0, none⟩), .pointer (some ⟨r, 0, none⟩), .pointer (some ⟨f, 0, none⟩), .pointer (some ⟨p, 0, none⟩), .slice la nl lc, opens, i64 master, i64 next, i64 commits, .bool false, i64 redone, i64 undone][i]?) ∧ (∀ i, w'.cell? ⟨w.heap.size, i, none⟩ = #[i64 k, i64 id, i64 prev, i64 u, i64 pg, i64 off, .slice ba bl bc, .slice aa al ac, .slice none 0 0, .slice none 0 0, i64 undo][i]?)) 10 13 (by kernel_rfl) rfl ?_
  intro w5 hsd5
  have hSw : (∀ i, w5.cell? ⟨s, i, none⟩ = #[.pointer (some ⟨d, 0, none⟩), .pointer (some ⟨r, 0, none⟩), .pointer (some ⟨f, 0, none⟩), .pointer (some ⟨p, 0, none⟩), .slice la nl lc, opens, i64 master, i64 next, i64 commits, .bool false, i64 redone, i64 undone][i]?) ∧ (∀ i, w5.cell? ⟨w.heap.size, i, none⟩ = #[i64 k, i64 id, i64 prev, i64 u, i64 pg, i64 off, .slice ba bl bc, .slice aa al ac, .slice none 0 0, .slice none 0 0, i64 undo][i]?) := ⟨fun i => (hsd5.cell _).trans (hbs4.cell i), fun i => (hsd5.cell _).trans (hbr4.cell i)⟩
  refine' wpF_take 0 (v := _) rfl (by kernel_rfl) (fun _ _ _ h => h) (by rfl) hSw (fun w' hS => ?_) ?_; rotate_left
  · obtain ⟨s1, s2⟩ := hS; go_simp; with_reducible rfl
  simp only [Act.put, List.getElem_toArray, List.getElem_cons_succ, List.getElem_cons_zero, List.setIfInBounds_toArray, List.set_cons_zero, List.set_cons_succ]
  refine' wpF_take 1 (v := _) rfl (by kernel_rfl) (fun _ _ _ h => h) (by rfl) hSw (fun w' hS => ?_) ?_; rotate_left
  · obtain ⟨s1, s2⟩ := hS; go_simp; with_reducible rfl
  simp only [Act.put, List.getElem_toArray, List.getElem_cons_succ, List.getElem_cons_zero, List.setIfInBounds_toArray, List.set_cons_zero, List.set_cons_succ]
  refine' wpF_take 2 (v := _) rfl (by kernel_rfl) (fun _ _ _ h => h) (by rfl) hSw (fun w' hS => ?_) ?_; rotate_left
  · obtain ⟨s1, s2⟩ := hS; go_simp; with_reducible rfl
  simp only [Act.put, List.getElem_toArray, List.getElem_cons_succ, List.getElem_cons_zero, List.setIfInBounds_toArray, List.set_cons_zero, List.set_cons_succ]
  refine' wpF_take 3 (v := _) rfl (by kernel_rfl) (fun _ _ _ h => h) (by rfl) hSw (fun w' hS => ?_) ?_; rotate_left
  · obtain ⟨s1, s2⟩ := hS; go_simp; with_reducible rfl
  simp only [Act.put, List.getElem_toArray, List.getElem_cons_succ, List.getElem_cons_zero, List.setIfInBounds_toArray, List.set_cons_zero, List.set_cons_succ]
  refine' wpF_take 4 (v := _) rfl (by kernel_rfl) (fun _ _ _ h => h) (by rfl) hSw (fun w' hS => ?_) ?_; rotate_left
  · obtain ⟨s1, s2⟩ := hS; go_simp; with_reducible rfl
  simp only [Act.put, List.getElem_toArray, List.getElem_cons_succ, List.getElem_cons_zero, List.setIfInBounds_toArray, List.set_cons_zero, List.set_cons_succ]
  refine' wpF_take 5 (v := _) rfl (by kernel_rfl) (fun _ _ _ h => h) (by rfl) hSw (fun w' hS => ?_) ?_; rotate_left
  · obtain ⟨s1, s2⟩ := hS; go_simp; with_reducible rfl
  simp only [Act.put, List.getElem_toArray, List.getElem_cons_succ, List.getElem_cons_zero, List.setIfInBounds_toArray, List.set_cons_zero, List.set_cons_succ]
  refine' wpF_take 6 (v := _) rfl (by kernel_rfl) (fun _ _ _ h => h) (by rfl) hSw (fun w' hS => ?_) ?_; rotate_left
  · obtain ⟨s1, s2⟩ := hS; go_simp; with_reducible rfl
  simp only [Act.put, List.getElem_toArray, List.getElem_cons_succ, List.getElem_cons_zero, List.setIfInBounds_toArray, List.set_cons_zero, List.set_cons_succ]
  refine' wpF_take 7 (v := _) rfl (by kernel_rfl) (fun _ _ _ h => h) (by rfl) hSw (fun w' hS => ?_) ?_; rotate_left
  · obtain ⟨s1, s2⟩ := hS; go_simp; with_reducible rfl
  simp only [Act.put, List.getElem_toArray, List.getElem_cons_succ, List.getElem_cons_zero, List.setIfInBounds_toArray, List.set_cons_zero, List.set_cons_succ]
  refine wpF_one 8 rfl (by kernel_rfl) ?_
  simp only [List.getElem_toArray, List.getElem_cons_succ, List.getElem_cons_zero]
  go_wp2_with fail
  have hw5 := hsd5.blk hbs4
  have hr5 := hsd5.blk hbr4
  have hw6 := hw5.alloc (.cells (([i64 (ρ.tail + 1 : Int), i64 k, i64 id, i64 prev, i64 u, i64 pg, i64 off, .slice ba bl bc, .slice aa al ac, .slice none 0 0, .slice none 0 0, i64 undo] : List Value)).toArray 217)
  have hr6 := hr5.alloc (.cells (([i64 (ρ.tail + 1 : Int), i64 k, i64 id, i64 prev, i64 u, i64 pg, i64 off, .slice ba bl bc, .slice aa al ac, .slice none 0 0, .slice none 0 0, i64 undo] : List Value)).toArray 217)
  refine ⟨fun _ => ⟨hw6.cell, hr6.cell⟩, ?_⟩
  have hSw := And.intro hw6.cell hr6.cell
  have hsrc : Src (w5.alloc (.cells (([i64 (ρ.tail + 1 : Int), i64 k, i64 id, i64 prev, i64 u, i64 pg, i64 off, .slice ba bl bc, .slice aa al ac, .slice none 0 0, .slice none 0 0, i64 undo] : List Value)).toArray 217)) (.slice (some ⟨w5.heap.size, 0, none⟩) 1 1) 1 (([i64 (ρ.tail + 1 : Int), i64 k, i64 id, i64 prev, i64 u, i64 pg, i64 off, .slice ba bl bc, .slice aa al ac, .slice none 0 0, .slice none 0 0, i64 undo] : List Value)) := Src.lit (cs := (([i64 (ρ.tail + 1 : Int), i64 k, i64 id, i64 prev, i64 u, i64 pg, i64 off, .slice ba bl bc, .slice aa al ac, .slice none 0 0, .slice none 0 0, i64 undo] : List Value)).toArray) (Blk.new w5 217 _) 1 1
  have hown6 : (w5.alloc (.cells (([i64 (ρ.tail + 1 : Int), i64 k, i64 id, i64 prev, i64 u, i64 pg, i64 off, .slice ba bl bc, .slice aa al ac, .slice none 0 0, .slice none 0 0, i64 undo] : List Value)).toArray 217)).ownsRow B 217 12 (.slice la nl lc) nl lx := own_at (hsd5.own hln4) (fun g hg => Below.heap_alloc w5 _ g (own_lt (hsd5.own hln4) hg))
  have hone : ∀ z ∈ (([i64 (ρ.tail + 1 : Int), i64 k, i64 id, i64 prev, i64 u, i64 pg, i64 off, .slice ba bl bc, .slice aa al ac, .slice none 0 0, .slice none 0 0, i64 undo] : List Value)), z.oneCell' = true := all_one rfl
  have hbnd : nl + 1 ≤ maxLen ∧ (nl + 1) * 160 ≤ 140737488355328 ∧ B ≤ (w5.alloc (.cells (([i64 (ρ.tail + 1 : Int), i64 k, i64 id, i64 prev, i64 u, i64 pg, i64 off, .slice ba bl bc, .slice aa al ac, .slice none 0 0, .slice none 0 0, i64 undo] : List Value)).toArray 217)).heap.size := ⟨by unfold maxLen; omega, by omega, by have h1 := hbe3.size; have h2 := hm4.size; have h3 := hsd5.size; simp; omega⟩
  refine wpF_one 9 rfl (by kernel_rfl) ?_
  simp only [List.getElem_toArray, List.getElem_cons_succ, List.getElem_cons_zero]
  go_wp2_with (at_builtin; refine wpList_app _ rfl (.tmp 30) (.tmp 34) rfl B sl102 hown6 rfl hsrc rfl rfl hone hbnd ?_; intro v7 w7 hown7 hg7 hat7)
  have hw7 : Blk w7 s 105 _ := hw6.at_ (hg7.block _ hw6.lt (fun e => own_ne hown6 hw6 (by decide) s e.symm rfl))
  have hr7 : Blk w7 w.heap.size 112 _ := hr6.at_ (hg7.block _ hr6.lt (fun e => own_ne hown6 hr6 (by decide) w.heap.size e.symm rfl))
  refine ⟨fun _ => ⟨hw7.cell, hr7.cell⟩, ?_⟩
  obtain ⟨va7, vc7, rfl, _, _⟩ := own_form hown7
  have hc7 := hw7.cell
  have hf7 := hw7.frozen
  refine wpF_tail (by kernel_rfl) ?_
  simp only [List.drop_succ_cons, List.drop_zero]
  go_wp2_with fail
  go_ret2
  have hMw4 : Mod B LayT false true Y Y4 w w4 := (mod_below B LayT false true Y hbe3).trans (hm4.more LayT false true (by decide))
  have hM46 : Mod B [105, 217] false false Y4 Y4 w4 w7 := ((mod_below B [105, 217] false false Y4 ((hsd5.below _).alloc (Nat.le_of_eq hsd5.size.symm) _))).trans
    (mod_grown hg7 (fun k hk => own_ge hown6 hk) (fun k hk => .inr (.inr ⟨217, own_ty hown6 k hk, by decide⟩)))
  have hM47 := hM46.set_ (p := ⟨s, 4, none⟩) hB hw7.ty (by decide) (.slice va7 (nl + 1) vc7)
  have hM := hMw4.trans (hM47.more LayT false true (by decide))
  refine ⟨rfl, Y4, _, _, hM, hco4.modR hM47 rfl (by decide), hw7.set_ 4 (.slice va7 (nl + 1) vc7), own_set hown7 (own_ne hown7 hw7 (by decide)) _⟩
end Go.Proofs.YtllhgbanbelmaaaGreat

/- pool: a page put into the frame that holds it; a new pool. -/
import Derived.Test.YtllhgbanbelmaaaGreatPoolb
namespace Go.Proofs.YtllhgbanbelmaaaGreat
open Go.RowKit
variable {B : Nat} {T : List Nat} {D R : Bool} {Y Y' : Sys} {w w' : World}

def putRc (x : FrameS) (l : Int) : Int := if x.dirty then x.rc else l
theorem set_same {α : Type} {l : List α} {i : Nat} {x : α} (h : l[i]? = some x) : l.set i x = l := by
  apply List.ext_getElem?
  intro j
  rw [List.getElem?_set]
  split
  · rename_i e
    subst e
    obtain ⟨hl, _⟩ := List.getElem?_eq_some_iff.1 h
    rw [if_pos hl, h]
  · rfl
theorem five_store {w w4 : World} {pl : Nat} {fr : List FrameS} {i : Nat} {x : FrameS} (hbl : Blk w pl 244 (frRow fr)) (h : fr[i]? = some x) (y : FrameS) (z : Int) (v : Value) (d m : Bool) (l : Int)
    (ez : y.page = z) (ev : y.v = v) (ed : y.dirty = d) (em : y.marked = m) (er : y.rc = x.rc) (el : y.lsn = l)
    (e : (((((w.setCell ⟨pl, i * 6, none⟩ (.int .i64 z)).setCell ⟨pl, i * 6 + 1, none⟩ v).setCell ⟨pl, i * 6 + 5, none⟩ (.int .i64 l)).setCell ⟨pl, i * 6 + 2, none⟩ (.bool d)).setCell ⟨pl, i * 6 + 3, none⟩ (.bool m)) = w4) :
    Blk w4 pl 244 (frRow (fr.set i y)) ∧ w.grownBy w4 (some pl) ∧ w4.heap.size = w.heap.size := by
  subst ez ev ed em el
  subst e
  refine ⟨?_, ?_, ?_⟩
  · have e0 := frRow_setA (k := 0) (x' := { x with page := y.page }) (u := i64 y.page) h (by decide) rfl
    have e1 := frRow_setA (k := 1) (x := { x with page := y.page }) (x' := { x with page := y.page, v := y.v }) (u := y.v) (set_get h _) (by decide) rfl
    have e2 := frRow_setA (k := 5) (x := { x with page := y.page, v := y.v }) (x' := { x with page := y.page, v := y.v, lsn := y.lsn }) (u := i64 y.lsn) (set_get h _) (by decide) rfl
    have e3 := frRow_setA (k := 2) (x := { x with page := y.page, v := y.v, lsn := y.lsn }) (x' := { x with page := y.page, v := y.v, dirty := y.dirty, lsn := y.lsn }) (u := .bool y.dirty) (set_get h _) (by decide) rfl
    have e4 := frRow_setA (k := 3) (x := { x with page := y.page, v := y.v, dirty := y.dirty, lsn := y.lsn }) (x' := { x with page := y.page, v := y.v, dirty := y.dirty, marked := y.marked, lsn := y.lsn }) (u := .bool y.marked) (set_get h _) (by decide) rfl
    rw [Nat.add_zero] at e0
    rw [List.set_set] at e1 e2 e3 e4
    have e6 : frRow (fr.set i { x with page := y.page, v := y.v, dirty := y.dirty, marked := y.marked, lsn := y.lsn }) = frRow (fr.set i y) := by
      rw [← er]
      simp only [frRow, List.map_set, List.flatMap_def]
      rfl
    rw [← e6, ← e4, ← e3, ← e2, ← e1, ← e0]
    exact ((((hbl.set_ _ _).set_ _ _).set_ _ _).set_ _ _).set_ _ _
  · have g1 := grown_set (World.grownBy.refl w (some pl)) (p := ⟨pl, i * 6, none⟩) (.inl rfl) (.int .i64 y.page)
    have g2 := grown_set g1 (p := ⟨pl, i * 6 + 1, none⟩) (.inl rfl) y.v
    have g3 := grown_set g2 (p := ⟨pl, i * 6 + 5, none⟩) (.inl rfl) (.int .i64 y.lsn)
    have g4 := grown_set g3 (p := ⟨pl, i * 6 + 2, none⟩) (.inl rfl) (.bool y.dirty)
    exact grown_set g4 (p := ⟨pl, i * 6 + 3, none⟩) (.inl rfl) (.bool y.marked)
  · iterate 5 rw [heapSize_setCell]

set_option maxRecDepth 100000 in
set_option maxHeartbeats 4000000 in
theorem pool_put_hit {p f d nf : Nat} {fv : Value} {np : Nat} {fr : List FrameS} (h : PoolAt B Y w p f fv np fr) (hf : FileAt B w f d nf np) (n : Nat) (hn : n < np) (i : Nat) (hi : fr.findIdx? (fun x => x.page == (n : Int)) = some i) (x : FrameS) (hx : fr[i]? = some x)
    (hYl : Y.dl < w.heap.size) (hYr : ∀ g, Y.rb = some g → g < w.heap.size) (v : Value) (bs : List UInt8) (hv : Byts B Y w v bs) (hbl : bs.length = 512) (l : Int) (hl : 1 ≤ l) :
    Calls Tryz.prog 113 #[.pointer (some ⟨p, 0, none⟩), i64 n, v, i64 l] w fun e w' => ∃ u, e = .returned (i64 0) ∧ Mod B PoolT false false Y Y w w' ∧ PoolAt B Y w' p f fv np (fr.set i ⟨n, u, bs, true, true, putRc x l, l⟩) := by
  have hF := pool_find h n (by omega)
  have hFP := file_pages hf
  rw [hi] at hF
  obtain ⟨x', hx', hxp, hil⟩ := findIdx_some hi
  rw [hx] at hx'
  injection hx' with hx'
  subst hx'
  obtain ⟨pl, hand, wr, h⟩ := h
  have hc := h.blk.cell
  obtain ⟨va, vc, rfl⟩ := hv.slice
  rw [hbl] at hv ⊢
  have hii : (i : Int) < fr.length := by omega
  have hi0 : (0 : Int) ≤ i := by omega
  have hidx : idxOf (some i) = (i : Int) := rfl
  rw [hidx] at hF
  have HF := Lib.hid hF
  have HFP := Lib.hid hFP
  have HIP := Lib.hid hi
  clear hF hFP hi hidx
  go_enter Tryz.func113, Tryz.ntmps113
  go_upto_region 3 with (go_at_call 107; refine HFP.out.mono ?_; rintro e w1 ⟨rfl, rfl⟩)
  go_upto_region 10 with (go_at_call 145; refine HF.out.mono ?_; rintro e w2 ⟨rfl, hb2⟩; have hc2 := (Blk.at_ h.blk (hb2.block p h.blk.lt)).cell)
  have hbp2 : Blk w2 p 242 _ := h.blk.at_ (hb2.block p h.blk.lt)
  have hbl2 : Blk w2 pl 244 _ := h.lblk.at_ (hb2.block pl h.lblk.lt)
  have hcell : ∀ j, j < 6 → w2.cell? ⟨pl, i * 6 + j, none⟩ = (frCells x)[j]? := fun j hj => (hbl2.cell _).trans (frRow_getA hx j hj)
  have e0 := hcell 0 (by decide)
  have e2 := hcell 2 (by decide)
  have e4 := hcell 4 (by decide)
  have hfz := hbl2.frozen
  simp only [frCells, Nat.add_zero, List.getElem?_cons_zero, List.getElem?_cons_succ] at e0 e2 e4
  rw [hxp] at e0
  clear hcell
  have hfl : w2.frozen? ⟨pl, i * 6 + 4, none⟩ = false := hbl2.frozen _
  have hne : pl ≠ p := h.lblk.ne_ h.blk (by decide)
  obtain ⟨x1, hx1⟩ : ∃ x1, x1 = ({ x with rc := putRc x l } : FrameS) := ⟨_, rfl⟩
  have hx1r : x1.rc = putRc x l := by rw [hx1]
  have HR := Lib.hid hx1r
  clear hx1r
  have fin : ∀ {w3 w5 w6 ua uc}, Blk w3 pl 244 (frRow (fr.set i x1)) → w2.grownBy w3 (some pl) → Blk w5 pl 244 (frRow (fr.set i x1)) → w3.grownBy w5 (Value.ownBlock (.slice none 0 0)) → x1.rc = putRc x l → w5.ownsRow w.heap.size 5 1 (.slice ua (0 + 512) uc) (0 + 512) ([] ++ bs.map bv) →
      (((((w5.setCell ⟨pl, i * 6, none⟩ (.int .i64 n)).setCell ⟨pl, i * 6 + 1, none⟩ (.slice ua 512 uc)).setCell ⟨pl, i * 6 + 5, none⟩ (.int .i64 l)).setCell ⟨pl, i * 6 + 2, none⟩ (.bool true)).setCell ⟨pl, i * 6 + 3, none⟩ (.bool true)) = w6 →
      ∃ u, Mod B PoolT false false Y Y w w6 ∧ PoolAt B Y w6 p f fv np (fr.set i ⟨n, u, bs, true, true, putRc x l, l⟩) := by
    intro w3 w5 w6 ua uc hb3 hg3 hb5 hg5 hrc hown ew6
    have hbp3 : Blk w3 p 242 _ := hbp2.at_ (hg3.block p hbp2.lt (by simpa using hne.symm))
    have hbe5 : Below w3.heap.size w3 w5 := (Below.refl _ _).grown hg5 (Nat.le_refl _) (by simp [Value.ownBlock])
    have hbp5 : Blk w5 p 242 _ := hbp3.at_ (hbe5.block p hbp3.lt)
    obtain ⟨hb6, hg6, hz6⟩ := five_store hb5 (set_get hx x1) ⟨n, .slice ua 512 uc, bs, true, true, putRc x l, l⟩ n (.slice ua 512 uc) true true l rfl rfl rfl rfl hrc.symm rfl ew6
    rw [List.set_set] at hb6
    have hM3 : Mod B PoolT false false Y Y w w3 := (mod_below B PoolT false false Y hb2).trans (mod_grown hg3 (fun k hk => by injection hk with hk; subst hk; exact h.hpl) (fun k hk => by injection hk with hk; subst hk; exact .inr (.inr ⟨244, hbl2.ty, by decide⟩)))
    have hM5 := hM3.below_ hbe5
    have hM56 : Mod B PoolT false false Y Y w5 w6 := mod_grown hg6 (fun k hk => by injection hk with hk; subst hk; exact h.hpl) (fun k hk => by injection hk with hk; subst hk; exact .inr (.inr ⟨244, hb5.ty, by decide⟩))
    have hM6 := hM5.trans hM56
    have hu5 : Byts B Y w5 (.slice ua 512 uc) bs := Sl.own (by simpa using hown) hYl hYr
    refine ⟨.slice ua 512 uc, hM6, ⟨pl, hand, wr, h.set ?_ hb6 ?_ ?_ ?_⟩⟩
    · exact hbp5.at_ (hg6.block p hbp5.lt (by simpa using hne.symm))
    · intro y hy
      exact (h.ok y hy).imp id fun ⟨a, b, c, d⟩ => ⟨a, b, c, d.mod hM6 (by decide)⟩
    · exact .inr ⟨by simp, by simpa using hn, hbl, hu5.mod hM56 (by decide)⟩
    · intro j y hj hy e he
      exact hj (h.uniq j i y x hy hx (by rw [e, hxp]) (by rw [e]; exact he))
  rcases hdx : x.dirty with _ | _
  · rw [hdx] at e2
    go_upto_region 12 with fail
    have hb3 := hbl2.set_ (i * 6 + 4) (.int .i64 l)
    rw [frRow_setA (x' := x1) hx (by decide) (by rw [hx1]; simp [frCells, putRc, hdx])] at hb3
    have hg3 : w2.grownBy (w2.setCell ⟨pl, i * 6 + 4, none⟩ (.int .i64 l)) (some pl) := grown_set (World.grownBy.refl _ _) (.inl rfl) _
    have hz3 : (w2.setCell ⟨pl, i * 6 + 4, none⟩ (.int .i64 l)).heap.size = w2.heap.size := heapSize_setCell _ _ _
    generalize w2.setCell ⟨pl, i * 6 + 4, none⟩ (.int .i64 l) = w3 at hb3 hg3 hz3 ⊢
    have hbp3 : Blk w3 p 242 _ := hbp2.at_ (hg3.block p hbp2.lt (by simpa using hne.symm))
    have hc3 := hbp3.cell
    have hx1g := set_get hx x1
    have hM3 : Mod B PoolT false false Y Y w w3 := (mod_below B PoolT false false Y hb2).trans (mod_grown hg3 (fun k hk => by injection hk with hk; subst hk; exact h.hpl) (fun k hk => by injection hk with hk; subst hk; exact .inr (.inr ⟨244, hbl2.ty, by decide⟩)))
    have hsrc := Sl.src (hv.mod hM3 (by decide))
    rw [List.length_map, hbl] at hsrc
    have hone := bv_one bs
    have hl1 : (bs.map bv).length = 512 * 1 := by rw [List.length_map, hbl]
    have hbnd : 0 + 512 ≤ maxLen ∧ (0 + 512) * 1 ≤ 140737488355328 ∧ w.heap.size ≤ w3.heap.size := ⟨by decide, by decide, hM3.size⟩
    have HFZ : ∀ w5, w3.grownBy w5 (Value.ownBlock (.slice none 0 0)) → Blk w5 pl 244 (frRow (fr.set i x1)) ∧ (∀ j, w5.frozen? ⟨pl, j, none⟩ = false) ∧ w5.cell? ⟨pl, i * 6, none⟩ = some (i64 x1.page) ∧ w5.cell? ⟨pl, i * 6 + 1, none⟩ = some x1.v ∧ w5.cell? ⟨pl, i * 6 + 2, none⟩ = some (.bool x1.dirty) ∧ w5.cell? ⟨pl, i * 6 + 3, none⟩ = some (.bool x1.marked) ∧ w5.cell? ⟨pl, i * 6 + 5, none⟩ = some (i64 x1.lsn) := fun w5 hg5 =>
      have hb := hb3.at_ (((Below.refl _ _).grown hg5 (Nat.le_refl _) (by simp [Value.ownBlock])).block pl hb3.lt)
      ⟨hb, hb.frozen, (hb.cell _).trans (frRow_getA hx1g 0 (by decide)), (hb.cell _).trans (frRow_getA hx1g 1 (by decide)), (hb.cell _).trans (frRow_getA hx1g 2 (by decide)), (hb.cell _).trans (frRow_getA hx1g 3 (by decide)), (hb.cell _).trans (frRow_getA hx1g 5 (by decide))⟩
    clear hfz hfl hc2 e0 e2 e4
    go_wp2_with (at_builtin; refine wpList_app w3 rfl (.const (.slice none 0 0)) (.tmp 74) rfl w.heap.size sl48 (World.ownsRow_nil _ _ _ _) rfl hsrc rfl hl1 hone hbnd ?_; intro v5 w5 hown5 hg5 hat5; obtain ⟨hb5, hfz5, c50, c51, c52, c53, c55⟩ := HFZ w5 hg5; obtain ⟨ua, uc, rfl, hu1, hu2⟩ := own_form hown5)
    go_ret
    obtain ⟨w6, ew6⟩ : ∃ w6, (((((w5.setCell ⟨pl, i * 6, none⟩ (.int .i64 n)).setCell ⟨pl, i * 6 + 1, none⟩ (.slice ua 512 uc)).setCell ⟨pl, i * 6 + 5, none⟩ (.int .i64 l)).setCell ⟨pl, i * 6 + 2, none⟩ (.bool true)).setCell ⟨pl, i * 6 + 3, none⟩ (.bool true)) = w6 := ⟨_, rfl⟩
    rw [ew6]
    obtain ⟨u, hM, hP⟩ := fin hb3 hg3 hb5 hg5 HR.out hown5 ew6
    exact ⟨u, rfl, hM, hP⟩
  · rw [hdx] at e2
    go_upto_region 12 with fail
    have hxx : x1 = x := by rw [hx1, putRc, if_pos hdx]
    have hb3 : Blk w2 pl 244 (frRow (fr.set i x1)) := by rw [hxx, set_same hx]; exact hbl2
    obtain ⟨w3, ew3⟩ : ∃ w3, w2 = w3 := ⟨_, rfl⟩
    have hg3 : w2.grownBy w3 (some pl) := ew3 ▸ World.grownBy.refl _ _
    have hz3 : w3.heap.size = w2.heap.size := by rw [ew3]
    rw [ew3] at hb3 ⊢
    have hbp3 : Blk w3 p 242 _ := hbp2.at_ (hg3.block p hbp2.lt (by simpa using hne.symm))
    have hc3 := hbp3.cell
    have hx1g := set_get hx x1
    have hM3 : Mod B PoolT false false Y Y w w3 := (mod_below B PoolT false false Y hb2).trans (mod_grown hg3 (fun k hk => by injection hk with hk; subst hk; exact h.hpl) (fun k hk => by injection hk with hk; subst hk; exact .inr (.inr ⟨244, hbl2.ty, by decide⟩)))
    have hsrc := Sl.src (hv.mod hM3 (by decide))
    rw [List.length_map, hbl] at hsrc
    have hone := bv_one bs
    have hl1 : (bs.map bv).length = 512 * 1 := by rw [List.length_map, hbl]
    have hbnd : 0 + 512 ≤ maxLen ∧ (0 + 512) * 1 ≤ 140737488355328 ∧ w.heap.size ≤ w3.heap.size := ⟨by decide, by decide, hM3.size⟩
    have HFZ : ∀ w5, w3.grownBy w5 (Value.ownBlock (.slice none 0 0)) → Blk w5 pl 244 (frRow (fr.set i x1)) ∧ (∀ j, w5.frozen? ⟨pl, j, none⟩ = false) ∧ w5.cell? ⟨pl, i * 6, none⟩ = some (i64 x1.page) ∧ w5.cell? ⟨pl, i * 6 + 1, none⟩ = some x1.v ∧ w5.cell? ⟨pl, i * 6 + 2, none⟩ = some (.bool x1.dirty) ∧ w5.cell? ⟨pl, i * 6 + 3, none⟩ = some (.bool x1.marked) ∧ w5.cell? ⟨pl, i * 6 + 5, none⟩ = some (i64 x1.lsn) := fun w5 hg5 =>
      have hb := hb3.at_ (((Below.refl _ _).grown hg5 (Nat.le_refl _) (by simp [Value.ownBlock])).block pl hb3.lt)
      ⟨hb, hb.frozen, (hb.cell _).trans (frRow_getA hx1g 0 (by decide)), (hb.cell _).trans (frRow_getA hx1g 1 (by decide)), (hb.cell _).trans (frRow_getA hx1g 2 (by decide)), (hb.cell _).trans (frRow_getA hx1g 3 (by decide)), (hb.cell _).trans (frRow_getA hx1g 5 (by decide))⟩
    clear hfz hfl hc2 e0 e2 e4
    go_wp2_with (at_builtin; refine wpList_app w3 rfl (.const (.slice none 0 0)) (.tmp 74) rfl w.heap.size sl48 (World.ownsRow_nil _ _ _ _) rfl hsrc rfl hl1 hone hbnd ?_; intro v5 w5 hown5 hg5 hat5; obtain ⟨hb5, hfz5, c50, c51, c52, c53, c55⟩ := HFZ w5 hg5; obtain ⟨ua, uc, rfl, hu1, hu2⟩ := own_form hown5)
    go_ret
    obtain ⟨w6, ew6⟩ : ∃ w6, (((((w5.setCell ⟨pl, i * 6, none⟩ (.int .i64 n)).setCell ⟨pl, i * 6 + 1, none⟩ (.slice ua 512 uc)).setCell ⟨pl, i * 6 + 5, none⟩ (.int .i64 l)).setCell ⟨pl, i * 6 + 2, none⟩ (.bool true)).setCell ⟨pl, i * 6 + 3, none⟩ (.bool true)) = w6 := ⟨_, rfl⟩
    rw [ew6]
    obtain ⟨u, hM, hP⟩ := fin hb3 hg3 hb5 hg5 HR.out hown5 ew6
    exact ⟨u, rfl, hM, hP⟩

theorem eq_nilFunc (fn : Fn) (a b : Array Value) (w : World) : (binOp .eql 36 (.func fn a b) .nilFunc).run Tryz.prog w = Result.ok (.bool false) w := by
  have h : (match Tryz.prog.underlying 36 with | some (.func ..) => true | _ => false) = true := by kernel_rfl
  split at h
  · rename_i hu
    simp only [binOp]
    have h1 : ∀ d, (Op.equalIn (d + 1) 36 (.func fn a b) .nilFunc).run Tryz.prog w = .ok false w := by intro d; simp [Op.equalIn, run_underlying hu]
    have h2 : (Op.equal 36 (.func fn a b) .nilFunc).run Tryz.prog w = .ok false w := h1 9999
    simp [h2]
  · cases h
def zFr : FrameS := ⟨0, .slice none 0 0, [], false, false, 0, 0⟩
def eFr : FrameS := ⟨-1, .slice none 0 0, [], false, false, 0, 0⟩
theorem sl240 : SlT Tryz.prog 240 244 6 56 (.agg #[.int .i64 0, .slice none 0 0, .bool false, .bool false, .int .i64 0, .int .i64 0]) := .mk' (by kernel_rfl) (by kernel_rfl) rfl (by decide)
theorem made6 (n : Nat) : madeCells (Value.agg #[.int .i64 0, .slice none 0 0, .bool false, .bool false, .int .i64 0, .int .i64 0]).cells (n * 6) = frRow (List.replicate n zFr) := by
  have hz : (Value.agg #[.int .i64 0, .slice none 0 0, .bool false, .bool false, .int .i64 0, .int .i64 0]).cells = (frCells zFr).toArray := rfl
  rw [hz]
  apply Array.ext_getElem?
  intro i
  rcases Nat.lt_or_ge i (n * 6) with h | h
  · have h1 := frRow_getA (fr := List.replicate n zFr) (j := i / 6) (x := zFr) (by rw [List.getElem?_replicate, if_pos (by omega)]) (i % 6) (by omega)
    have h2 : i / 6 * 6 + i % 6 = i := by omega
    rw [h2] at h1
    rw [h1, madeCells, Array.getElem?_map, Array.getElem?_range, if_pos h]
    have h3 : i % 6 < 6 := by omega
    have h4 : (frCells zFr).length = 6 := rfl
    simp [h4, List.getElem?_eq_getElem, h3]
  · have h1 : (madeCells (frCells zFr).toArray (n * 6)).size = n * 6 := size_madeCells _ _
    have h2 : (frRow (List.replicate n zFr)).size = n * 6 := by
      simp [frRow, frCells]
    rw [Array.getElem?_eq_none (by omega), Array.getElem?_eq_none (by omega)]
theorem run_mk6 (n : Nat) (hn : n ≤ 64) (w : World) : (Instr.makeSlice 240 (.int .i64 (n : Int)) (.int .i64 (n : Int))).run Tryz.prog w = .ok (.slice (some ⟨w.heap.size, 0, none⟩) n n) (w.alloc (.cells (frRow (List.replicate n zFr)) 244)) := by
  obtain ⟨i, hi, hzi, hs, hby⟩ := sl240.inf
  rw [run_make (P := Tryz.prog) w 240 244 i _ sl240.und hi hzi .i64 .i64 n n (by omega) (by omega) (by rw [hby]; omega) (by omega)]
  rw [hs, Int.toNat_natCast, made6]
def halfFr (n j : Nat) : List FrameS := (List.range n).map fun i => if i < j then eFr else zFr
theorem halfFr_get (n j i : Nat) : (halfFr n j)[i]? = if i < n then some (if i < j then eFr else zFr) else none := by
  rw [halfFr, List.getElem?_map]
  split
  · rw [List.getElem?_range (by assumption)]; rfl
  · rw [List.getElem?_eq_none (by simp; omega)]; rfl
theorem halfFr_length (n j : Nat) : (halfFr n j).length = n := by simp [halfFr]
theorem halfFr_zero (n : Nat) : halfFr n 0 = List.replicate n zFr := by
  apply List.ext_getElem?
  intro i
  rw [halfFr_get, List.getElem?_replicate, if_neg (Nat.not_lt_zero i)]
theorem halfFr_all (n : Nat) : halfFr n n = List.replicate n eFr := by
  apply List.ext_getElem?
  intro i
  rw [halfFr_get, List.getElem?_replicate]
  split
  · rfl
  · rfl
theorem halfFr_set {n j : Nat} (h : j < n) : (halfFr n j).set j eFr = halfFr n (j + 1) := by
  apply List.ext_getElem?
  intro i
  rw [List.getElem?_set, halfFr_get, halfFr_get, halfFr_length]
  by_cases e : j = i
  · subst e
    rw [if_pos rfl, if_pos h, if_pos h, if_pos (Nat.lt_succ_self j)]
  · rw [if_neg e]
    by_cases h1 : i < j
    · rw [if_pos h1, if_pos (show i < j + 1 by omega)]
    · rw [if_neg h1, if_neg (show ¬ i < j + 1 by omega)]

set_option maxRecDepth 100000 in
set_option maxHeartbeats 1000000 in
theorem pool_new (f n : Nat) (h1 : 1 ≤ n) (h64 : n ≤ 64) (np : Nat) (fn : Fn) (fa fb : Array Value) (w : World) (hB : B ≤ w.heap.size) :
    Calls Tryz.prog 89 #[.pointer (some ⟨f, 0, none⟩), i64 n, .func fn fa fb] w fun e w' => ∃ p, e = .returned (.tuple #[.pointer (some ⟨p, 0, none⟩), i64 0]) ∧ Below w.heap.size w w' ∧ w.heap.size ≤ p ∧ PoolAt B Y w' p f (.func fn fa fb) np (List.replicate n eFr) := by
  obtain ⟨RW, hRW⟩ : ∃ RW, RW = frRow (List.replicate n zFr) := ⟨_, rfl⟩
  have hmk := fun w => run_mk6 n h64 w
  rw [← hRW] at hmk
  have HR := Lib.hid hRW
  clear hRW
  have hn1 : (1 : Int) ≤ n := by omega
  have hef := fun w => eq_nilFunc fn fa fb w
  have hn64 : (n : Int) ≤ 64 := by omega
  go_enter Tryz.func89, Tryz.ntmps89
  go_wp2_with fail
  have hbl0 : Blk ((w.alloc (.cells RW 244)).alloc (.cells #[.pointer (some ⟨f, 0, none⟩), .slice (some ⟨w.heap.size, 0, none⟩) n n, .func fn fa fb, i64 0, i64 0] 242)) w.heap.size 244 RW := (Blk.new w 244 RW).alloc _
  have hbp0 : Blk ((w.alloc (.cells RW 244)).alloc (.cells #[.pointer (some ⟨f, 0, none⟩), .slice (some ⟨w.heap.size, 0, none⟩) n n, .func fn fa fb, i64 0, i64 0] 242)) (w.heap.size + 1) 242 #[.pointer (some ⟨f, 0, none⟩), .slice (some ⟨w.heap.size, 0, none⟩) n n, .func fn fa fb, i64 0, i64 0] := by
    have := Blk.new (w.alloc (.cells RW 244)) 242 #[.pointer (some ⟨f, 0, none⟩), .slice (some ⟨w.heap.size, 0, none⟩) n n, .func fn fa fb, i64 0, i64 0]
    rwa [show (w.alloc (.cells RW 244)).heap.size = w.heap.size + 1 by simp] at this
  have hbe0 : Below w.heap.size w ((w.alloc (.cells RW 244)).alloc (.cells #[.pointer (some ⟨f, 0, none⟩), .slice (some ⟨w.heap.size, 0, none⟩) n n, .func fn fa fb, i64 0, i64 0] 242)) := ((Below.refl _ _).alloc (Nat.le_refl _) _).alloc (by simp) _
  have hRr : RW = frRow (halfFr n 0) := by rw [halfFr_zero]; exact HR.out
  generalize ((w.alloc (.cells RW 244)).alloc (.cells #[.pointer (some ⟨f, 0, none⟩), .slice (some ⟨w.heap.size, 0, none⟩) n n, .func fn fa fb, i64 0, i64 0] 242)) = w2 at *
  rw [hRr] at hbl0
  go_loopw [35] (fun t wr => ∃ j : Nat, j ≤ n ∧ t = .int .i64 j ∧ Blk wr w.heap.size 244 (frRow (halfFr n j)) ∧ Blk wr (w.heap.size + 1) 242 #[.pointer (some ⟨f, 0, none⟩), .slice (some ⟨w.heap.size, 0, none⟩) n n, .func fn fa fb, i64 0, i64 0] ∧ Below w.heap.size w wr) (fun t _ => n - (intOf t).toNat)
  case atStart => exact ⟨0, by omega, rfl, hbl0, hbp0, hbe0⟩
  case round =>
    obtain ⟨j, hj, rfl, hbl, hbp, hw⟩ := hrel
    have hj0 : (0 : Int) ≤ j := by omega
    by_cases hlt : j < n
    · have hj' : (j : Int) < n := by omega
      have hgx : (halfFr n j)[j]? = some zFr := by rw [halfFr_get, if_pos hlt, if_neg (Nat.lt_irrefl j)]
      have hc := hbp.cell
      have k1 : wr.cell? ⟨w.heap.size, j * 6, none⟩ = some (i64 0) := (hbl.cell _).trans (frRow_getA hgx 0 (by decide))
      have f1 : wr.frozen? ⟨w.heap.size, j * 6, none⟩ = false := hbl.frozen _
      go_wp2_with fail
      go_roundw
      case rel =>
        refine ⟨j + 1, by omega, by go_num, ?_, hbp.far (p := ⟨w.heap.size, j * 6, none⟩) (by simp) _, hw.setCell (Nat.le_refl _) _⟩
        have := hbl.set_ (j * 6) (i64 (-1))
        rw [← Nat.add_zero (j * 6), frRow_setA (x' := eFr) hgx (by decide) rfl, halfFr_set hlt, Nat.add_zero] at this
        exact this
      case measure => simp [intOf]; omega
    · have hje : j = n := by omega
      subst hje
      go_wp2_with fail
      go_ret2
      rw [halfFr_all] at hbl
      have hlen : (List.replicate j eFr).length = j := List.length_replicate
      refine ⟨w.heap.size + 1, rfl, hw, Nat.le_succ _, w.heap.size, 0, 0, by omega, hB, by rw [hlen]; exact hbp, hbl, by rw [hlen]; exact h1, by rw [hlen]; exact h64, by rw [hlen]; exact h1, fun x hx => ?_, fun a b x y ha hb e h0 => ?_⟩
      · have := List.eq_of_mem_replicate hx
        subst this
        exact .inl ⟨rfl, rfl⟩
      · have := List.eq_of_mem_replicate (List.mem_of_getElem? ha)
        subst this
        simp [eFr] at h0
end Go.Proofs.YtllhgbanbelmaaaGreat

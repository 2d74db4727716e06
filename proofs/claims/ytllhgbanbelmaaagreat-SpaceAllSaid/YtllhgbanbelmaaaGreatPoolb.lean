/- pool: a free frame, a page's bytes, a page changed: where a frame is empty or holds the page. -/
import Derived.Test.YtllhgbanbelmaaaGreatPool
namespace Go.Proofs.YtllhgbanbelmaaaGreat
open Go.RowKit
variable {B : Nat} {T : List Nat} {D R : Bool} {Y Y' : Sys} {w w' : World}

set_option maxHeartbeats 1000000 in
theorem pool_free0 {p f : Nat} {fv : Value} {np : Nat} {fr : List FrameS} (h : PoolAt B Y w p f fv np fr) (i : Nat) (hi : fr.findIdx? (fun x => decide (x.page < 0)) = some i) :
    Calls Tryz.prog 147 #[.pointer (some ⟨p, 0, none⟩)] w fun e w' => e = .returned (.tuple #[i64 i, i64 0]) ∧ Below w.heap.size w w' := by
  obtain ⟨pl, hand, wr, h⟩ := h
  have hc := h.blk.cell
  have hx := idx207 pl fr h.lblk h.slices h.n64
  rw [hi] at hx
  have HX := Lib.hid hx
  clear hx hi
  have hi0 : (0 : Int) ≤ idxOf (some i) := by simp [idxOf]
  go_enter Tryz.func147, Tryz.ntmps147
  go_wp2_with fail
  go_step3
  go_wp2_with (go_at_call 205; refine HX.out.mono ?_; rintro e w2 ⟨rfl, hb2⟩)
  rw [Exit.noGoto_ret]
  go_ret2
  exact ⟨rfl, hb2⟩

set_option maxHeartbeats 1000000 in
theorem file_pages {f d fr pg : Nat} (h : FileAt B w f d fr pg) : Calls Tryz.prog 107 #[.pointer (some ⟨f, 0, none⟩)] w fun e w' => e = .returned (i64 pg) ∧ w = w' := by
  have hc := h.blk.cell
  unfold fileCells at hc
  go_enter Tryz.func107, Tryz.ntmps107
  go_wp2
  go_ret
  exact ⟨rfl, rfl⟩
set_option maxHeartbeats 1000000 in
theorem file_home {f d fr pg : Nat} (h : FileAt B w f d fr pg) (n : Nat) (hn : n < pg) : Calls Tryz.prog 155 #[.pointer (some ⟨f, 0, none⟩), i64 n] w fun e w' => e = .returned (i64 (fr + 5 + 4 * n : Nat)) ∧ w = w' := by
  have hc := h.blk.cell
  unfold fileCells at hc
  have h8 := h.p2
  have a1 : (fr : Int) ≤ 8192 := by omega
  have a2 : (n : Int) ≤ 8192 := by omega
  have a3 : (0 : Int) ≤ fr := by omega
  have a4 : (0 : Int) ≤ n := by omega
  go_enter Tryz.func155, Tryz.ntmps155
  go_wp2
  go_ret
  exact ⟨ret_int (by omega), rfl⟩
def fview (view : Nat → List UInt8) (fr n : Nat) : List UInt8 := cat view (fr + 5 + 4 * n) 4

set_option maxHeartbeats 1000000 in
theorem file_read {d nd k f fr pg : Nat} {view : Nat → List UInt8} (hd : DevAt B Y w d nd k view) (hf : FileAt B w f d fr pg) (hk : k < 1099511627776) (hn8 : nd ≤ 8192) (hfn : fr + 5 + 4 * pg ≤ nd) (n : Nat) (hn : n < pg) :
    Calls Tryz.prog 146 #[.pointer (some ⟨f, 0, none⟩), i64 n] w fun e w' => ∃ v, e = .returned (.tuple #[v, i64 0]) ∧ DevQ d w w' ∧ w'.ownsRow w.heap.size 5 1 v 512 ((fview view fr n).map bv) := by
  have hc := hf.blk.cell
  unfold fileCells at hc
  have hh := file_home hf n hn
  have hg := file_gather hd hf hk hn8 (fr + 5 + 4 * n) (by omega)
  have a1 : (n : Int) < pg := by omega
  have a2 : (0 : Int) ≤ n := by omega
  have HH := Lib.hid hh
  have HG := Lib.hid hg
  clear hh hg
  go_enter Tryz.func146, Tryz.ntmps146
  go_wp2_with (first | (go_at_call 155; refine HH.out.mono ?_; rintro e w2 ⟨rfl, rfl⟩) | (go_at_call 153; refine HG.out.mono ?_; rintro e w2 ⟨v, rfl, hq, hown⟩))
  go_ret2
  exact ⟨v, rfl, hq, hown⟩

theorem frRow_set : ∀ (fr : List FrameS) (j k : Nat) (x x' : FrameS) (u : Value), fr[j]? = some x → k < 6 → frCells x' = (frCells x).set k u →
    (fr.flatMap frCells).set (j * 6 + k) u = (fr.set j x').flatMap frCells
  | [], j, k, x, x', u, h, _, _ => by simp at h
  | y :: fr, 0, k, x, x', u, h, hk, e => by
    simp at h; subst h
    have hl : k < (frCells y).length := by simpa [frCells] using hk
    rw [List.flatMap_cons, List.set_cons_zero, List.flatMap_cons, e, Nat.zero_mul, Nat.zero_add, List.set_append_left _ _ hl]
  | y :: fr, j + 1, k, x, x', u, h, hk, e => by
    have := frRow_set fr j k x x' u (by simpa using h) hk e
    rw [List.flatMap_cons, List.set_cons_succ, List.flatMap_cons, ← this]
    have hl : (frCells y).length = 6 := by simp [frCells]
    rw [show (j + 1) * 6 + k = (frCells y).length + (j * 6 + k) by rw [hl]; omega, List.set_append_right _ _ (by omega), Nat.add_sub_cancel_left]
theorem frRow_setA {fr : List FrameS} {j k : Nat} {x x' : FrameS} {u : Value} (h : fr[j]? = some x) (hk : k < 6) (e : frCells x' = (frCells x).set k u) : (frRow fr).setIfInBounds (j * 6 + k) u = frRow (fr.set j x') := by
  unfold frRow
  rw [List.setIfInBounds_toArray, frRow_set fr j k x x' u h hk e]
theorem frRow_getA {fr : List FrameS} {j : Nat} {x : FrameS} (h : fr[j]? = some x) (i : Nat) (hi : i < 6) : (frRow fr)[j * 6 + i]? = (frCells x)[i]? := by
  rw [← frRow_get fr j x h i hi]; simp [frRow]
theorem set_get {fr : List FrameS} {i : Nat} {x : FrameS} (h : fr[i]? = some x) (y : FrameS) : (fr.set i y)[i]? = some y := by
  have := (List.getElem?_eq_some_iff.1 h).1
  simp [this]
theorem frRow_six {fr : List FrameS} {i : Nat} {x : FrameS} (h : fr[i]? = some x) (y : FrameS) :
    ((((((frRow fr).setIfInBounds (i * 6) (i64 y.page)).setIfInBounds (i * 6 + 1) y.v).setIfInBounds (i * 6 + 2) (.bool y.dirty)).setIfInBounds (i * 6 + 3) (.bool y.marked)).setIfInBounds (i * 6 + 4) (i64 y.rc)).setIfInBounds (i * 6 + 5) (i64 y.lsn) = frRow (fr.set i y) := by
  have e0 := frRow_setA (k := 0) (x' := { x with page := y.page }) (u := i64 y.page) h (by decide) rfl
  have e1 := frRow_setA (k := 1) (x := { x with page := y.page }) (x' := { x with page := y.page, v := y.v }) (u := y.v) (set_get h _) (by decide) rfl
  have e2 := frRow_setA (k := 2) (x := { x with page := y.page, v := y.v }) (x' := { x with page := y.page, v := y.v, dirty := y.dirty }) (u := .bool y.dirty) (set_get h _) (by decide) rfl
  have e3 := frRow_setA (k := 3) (x := { x with page := y.page, v := y.v, dirty := y.dirty }) (x' := { x with page := y.page, v := y.v, dirty := y.dirty, marked := y.marked }) (u := .bool y.marked) (set_get h _) (by decide) rfl
  have e4 := frRow_setA (k := 4) (x := { x with page := y.page, v := y.v, dirty := y.dirty, marked := y.marked }) (x' := { x with page := y.page, v := y.v, dirty := y.dirty, marked := y.marked, rc := y.rc }) (u := i64 y.rc) (set_get h _) (by decide) rfl
  have e5 := frRow_setA (k := 5) (x := { x with page := y.page, v := y.v, dirty := y.dirty, marked := y.marked, rc := y.rc }) (x' := { y with bs := x.bs }) (u := i64 y.lsn) (set_get h _) (by decide) rfl
  rw [Nat.add_zero] at e0
  rw [List.set_set] at e1 e2 e3 e4 e5
  have e6 : frRow (fr.set i { y with bs := x.bs }) = frRow (fr.set i y) := by
    simp only [frRow, List.map_set, List.flatMap_def]
    rfl
  rw [e0, e1, e2, e3, e4, e5, e6]
theorem heapSize_setCell (w : World) (a : Addr) (v : Value) : (w.setCell a v).heap.size = w.heap.size := by simp [World.setCell]
theorem six_store {w w4 : World} {pl : Nat} {fr : List FrameS} {i : Nat} {x : FrameS} (hbl : Blk w pl 244 (frRow fr)) (h : fr[i]? = some x) (y : FrameS) (z : Int) (v : Value) (d m : Bool) (r l : Int)
    (ez : y.page = z) (ev : y.v = v) (ed : y.dirty = d) (em : y.marked = m) (er : y.rc = r) (el : y.lsn = l)
    (e : ((((((w.setCell ⟨pl, i * 6, none⟩ (.int .i64 z)).setCell ⟨pl, i * 6 + 1, none⟩ v).setCell ⟨pl, i * 6 + 2, none⟩ (.bool d)).setCell ⟨pl, i * 6 + 3, none⟩ (.bool m)).setCell ⟨pl, i * 6 + 4, none⟩ (.int .i64 r)).setCell ⟨pl, i * 6 + 5, none⟩ (.int .i64 l)) = w4) :
    Blk w4 pl 244 (frRow (fr.set i y)) ∧ w.grownBy w4 (some pl) ∧ w4.heap.size = w.heap.size := by
  subst ez ev ed em er el
  subst e
  refine ⟨?_, ?_, ?_⟩
  · rw [← frRow_six h]
    exact (((((hbl.set_ _ _).set_ _ _).set_ _ _).set_ _ _).set_ _ _).set_ _ _
  · have g1 := grown_set (World.grownBy.refl w (some pl)) (p := ⟨pl, i * 6, none⟩) (.inl rfl) (.int .i64 y.page)
    have g2 := grown_set g1 (p := ⟨pl, i * 6 + 1, none⟩) (.inl rfl) y.v
    have g3 := grown_set g2 (p := ⟨pl, i * 6 + 2, none⟩) (.inl rfl) (.bool y.dirty)
    have g4 := grown_set g3 (p := ⟨pl, i * 6 + 3, none⟩) (.inl rfl) (.bool y.marked)
    have g5 := grown_set g4 (p := ⟨pl, i * 6 + 4, none⟩) (.inl rfl) (.int .i64 y.rc)
    exact grown_set g5 (p := ⟨pl, i * 6 + 5, none⟩) (.inl rfl) (.int .i64 y.lsn)
  · iterate 6 rw [heapSize_setCell]
def PoolT : List Nat := [242, 244]
theorem findIdx_some {fr : List FrameS} {n : Int} {i : Nat} (h : fr.findIdx? (fun x => x.page == n) = some i) : ∃ x, fr[i]? = some x ∧ x.page = n ∧ i < fr.length := by
  obtain ⟨hi, hp, _⟩ := List.findIdx?_eq_some_iff_getElem.1 h
  exact ⟨fr[i], List.getElem?_eq_getElem hi, by simpa using hp, hi⟩
theorem PoolIn.set {p pl f : Nat} {fv : Value} {hand : Nat} {wr : Int} {np : Nat} {fr : List FrameS} (h : PoolIn B Y w p pl f fv hand wr np fr) {i : Nat} {x' : FrameS}
    (hb : Blk w' p 242 #[.pointer (some ⟨f, 0, none⟩), .slice (some ⟨pl, 0, none⟩) fr.length fr.length, fv, i64 hand, i64 wr]) (hl : Blk w' pl 244 (frRow (fr.set i x')))
    (hk : ∀ y, y ∈ fr → (y.page = -1 ∧ y.v = .slice none 0 0) ∨ (0 ≤ y.page ∧ y.page < np ∧ y.bs.length = 512 ∧ Byts B Y w' y.v y.bs))
    (hx : (x'.page = -1 ∧ x'.v = .slice none 0 0) ∨ (0 ≤ x'.page ∧ x'.page < np ∧ x'.bs.length = 512 ∧ Byts B Y w' x'.v x'.bs))
    (hu : ∀ j y, j ≠ i → fr[j]? = some y → y.page = x'.page → 0 ≤ x'.page → False) : PoolIn B Y w' p pl f fv hand wr np (fr.set i x') := by
  refine ⟨h.hp, h.hpl, by simpa using hb, hl, by simpa using h.n1, by simpa using h.n64, by simpa using h.hh, fun y hy => ?_, fun a b y z ha hb' e h0 => ?_⟩
  · rcases List.mem_or_eq_of_mem_set hy with hy | rfl
    · exact hk y hy
    · exact hx
  · rw [List.getElem?_set] at ha hb'
    by_cases e1 : i = a <;> by_cases e2 : i = b
    · omega
    · subst e1
      rw [if_pos rfl] at ha
      rw [if_neg e2] at hb'
      split at ha
      · injection ha with ha
        subst ha
        exact (hu b z (Ne.symm e2) hb' e.symm h0).elim
      · cases ha
    · subst e2
      rw [if_neg e1] at ha
      rw [if_pos rfl] at hb'
      split at hb'
      · injection hb' with hb'
        subst hb'
        exact (hu a y (Ne.symm e1) ha e (by omega)).elim
      · cases hb'
    · rw [if_neg e1] at ha
      rw [if_neg e2] at hb'
      exact h.uniq a b y z ha hb' e h0

set_option maxRecDepth 100000 in
set_option maxHeartbeats 2000000 in
theorem pool_get_hit {p f : Nat} {fv : Value} {np : Nat} {fr : List FrameS} (h : PoolAt B Y w p f fv np fr) (hYl : Y.dl < w.heap.size) (hYr : ∀ g, Y.rb = some g → g < w.heap.size) (n : Int) (hn : 0 ≤ n) (i : Nat) (hi : fr.findIdx? (fun x => x.page == n) = some i) (x : FrameS) (hx : fr[i]? = some x) :
    Calls Tryz.prog 79 #[.pointer (some ⟨p, 0, none⟩), i64 n] w fun e w' => ∃ v wm, e = .returned (.tuple #[v, i64 0]) ∧ Mod B PoolT false false Y Y w wm ∧ PoolAt B Y wm p f fv np (fr.set i { x with marked := true }) ∧ Below wm.heap.size wm w' ∧ w'.ownsRow wm.heap.size 5 1 v 512 (x.bs.map bv) := by
  have hF := pool_find h n hn
  rw [hi] at hF
  obtain ⟨x', hx', hxp, hil⟩ := findIdx_some hi
  rw [hx] at hx'
  injection hx' with hx'
  subst hx'
  obtain ⟨pl, hand, wr, h⟩ := h
  have hxok := (h.ok x (List.mem_of_getElem? hx)).resolve_left (by omega)
  obtain ⟨hx0, hx1, hx2, hx3⟩ := hxok
  have hii : (i : Int) < fr.length := by omega
  have hi0 : (0 : Int) ≤ i := by omega
  have hidx : idxOf (some i) = (i : Int) := rfl
  rw [hidx] at hF
  have HF := Lib.hid hF
  clear hF hi hidx
  go_enter Tryz.func79, Tryz.ntmps79
  go_upto_region 10 with (go_at_call 145; refine HF.out.mono ?_; rintro e w2 ⟨rfl, hb2⟩)
  have hb2p : Blk w2 p 242 _ := h.blk.at_ (hb2.block p h.blk.lt)
  have hb2l : Blk w2 pl 244 _ := h.lblk.at_ (hb2.block pl h.lblk.lt)
  have hc2 := hb2p.cell
  have e3 : w2.cell? ⟨pl, i * 6 + 3, none⟩ = some (.bool x.marked) := (hb2l.cell _).trans (frRow_getA hx 3 (by decide))
  have f3 : w2.frozen? ⟨pl, i * 6 + 3, none⟩ = false := hb2l.frozen _
  obtain ⟨va, vc, hxv⟩ := hx3.slice
  rw [hx2] at hxv
  have e1 : w2.cell? ⟨pl, i * 6 + 1, none⟩ = some (.slice va 512 vc) := ((hb2l.cell _).trans (frRow_getA hx 1 (by decide))).trans (by simp [frCells, hxv])
  have hne : pl ≠ p := h.lblk.ne_ h.blk (by decide)
  have hM2 : Mod B PoolT false false Y Y w (w2.setCell ⟨pl, i * 6 + 3, none⟩ (.bool true)) := (mod_below B PoolT false false Y hb2).set_ h.hpl hb2l.ty (by decide) _
  have hsrc := Sl.src (hx3.mod hM2 (by decide))
  rw [List.length_map, hx2, hxv] at hsrc
  have hone := bv_one x.bs
  have hl1 : (x.bs.map bv).length = 512 * 1 := by rw [List.length_map, hx2]
  have hz3 : (w2.setCell ⟨pl, i * 6 + 3, none⟩ (.bool true)).heap.size = w2.heap.size := by simp [World.setCell]
  have hbnd : 0 + 512 ≤ maxLen ∧ (0 + 512) * 1 ≤ 140737488355328 ∧ (w2.setCell ⟨pl, i * 6 + 3, none⟩ (.bool true)).heap.size ≤ (w2.setCell ⟨pl, i * 6 + 3, none⟩ (.bool true)).heap.size := ⟨by decide, by decide, Nat.le_refl _⟩
  have HXV := Lib.hid hxv
  clear hxv
  go_wp2_with (at_builtin; refine wpList_app (w2.setCell ⟨pl, i * 6 + 3, none⟩ (.bool true)) rfl (.const (.slice none 0 0)) (.tmp 57) rfl (w2.setCell ⟨pl, i * 6 + 3, none⟩ (.bool true)).heap.size sl48 (World.ownsRow_nil _ _ _ _) rfl hsrc rfl hl1 hone hbnd ?_; intro v3 w3 hown3 hg3 hat3)
  go_ret2
  have hb23 : Below (w2.setCell ⟨pl, i * 6 + 3, none⟩ (.bool true)).heap.size (w2.setCell ⟨pl, i * 6 + 3, none⟩ (.bool true)) w3 := (Below.refl _ _).grown hg3 (Nat.le_refl _) (by simp [Value.ownBlock])
  refine ⟨v3, _, rfl, hM2, ⟨pl, hand, wr, h.set (x' := { x with marked := true }) ?_ ?_ ?_ ?_ ?_⟩, hb23, by simpa using hown3⟩
  · exact hb2p.far (p := ⟨pl, i * 6 + 3, none⟩) hne.symm _
  · have := hb2l.set_ (i * 6 + 3) (.bool true)
    rw [frRow_setA (x' := { x with marked := true }) hx (by decide) rfl] at this
    exact this
  · intro y hy
    exact (h.ok y hy).imp id fun ⟨a, b, c, d⟩ => ⟨a, b, c, d.mod hM2 (by decide)⟩
  · exact .inr ⟨hx0, hx1, hx2, hx3.mod hM2 (by decide)⟩
  · intro j y hj hy e he
    exact hj (h.uniq j i y x hy hx e (by rw [e]; exact he))

set_option maxRecDepth 100000 in
set_option maxHeartbeats 4000000 in
theorem pool_get_miss {p f d nd k ffr : Nat} {view : Nat → List UInt8} {fv : Value} {np : Nat} {fr : List FrameS} (h : PoolAt B Y w p f fv np fr) (hd : DevAt B Y w d nd k view) (hf : FileAt B w f d ffr np) (hk : k < 1099511627776) (hn8 : nd ≤ 8192) (hfn : ffr + 5 + 4 * np ≤ nd)
    (n : Nat) (hn : n < np) (hno : fr.findIdx? (fun x => x.page == (n : Int)) = none) (i : Nat) (hi : fr.findIdx? (fun x => decide (x.page < 0)) = some i) :
    Calls Tryz.prog 79 #[.pointer (some ⟨p, 0, none⟩), i64 n] w fun e w' => ∃ v u wm, e = .returned (.tuple #[v, i64 0]) ∧ Mod B (PoolT ++ DevT) false false Y Y w wm ∧ PoolAt B Y wm p f fv np (fr.set i ⟨n, u, fview view ffr n, false, true, 0, 0⟩) ∧ DevAt B Y wm d nd k view ∧ Below wm.heap.size wm w' ∧ w'.ownsRow wm.heap.size 5 1 v 512 ((fview view ffr n).map bv) := by
  have hF := pool_find h n (by omega)
  rw [hno] at hF
  have hAt := h
  obtain ⟨hil, hip, _⟩ := List.findIdx?_eq_some_iff_getElem.1 hi
  obtain ⟨x, hx⟩ : ∃ x, fr[i]? = some x := ⟨fr[i], List.getElem?_eq_getElem hil⟩
  obtain ⟨pl, hand, wr, h⟩ := h
  have hii : (i : Int) < fr.length := by omega
  have hi0 : (0 : Int) ≤ i := by omega
  have hflen : (fview view ffr n).length = 512 := cat_len 4 fun j hj => hd.len _ (by omega)
  have hc := h.blk.cell
  have HF := Lib.hid hF
  have HAT := Lib.hid hAt
  have HNO := Lib.hid hno
  have HI := Lib.hid hi
  have HIP := Lib.hid hip
  clear hF hAt hno hi hip
  go_enter Tryz.func79, Tryz.ntmps79
  go_wp2_with (go_at_call 145; refine HF.out.mono ?_; rintro e w1 ⟨rfl, hb1⟩; have hc1 := (Blk.at_ h.blk (hb1.block p h.blk.lt)).cell)
  have hm1 : Mod B (PoolT ++ DevT) false false Y Y w w1 := mod_below _ _ _ _ _ hb1
  have hd1 := hd.below hb1
  have hf1 := hf.below hb1
  refine (file_read hd1 hf1 hk hn8 hfn n hn).mono ?_
  rintro e w2 ⟨u, rfl, hq2, hown2⟩
  have hM2 := hd1.mod' hq2
  have hd2 := hd1.q hq2
  have hP2 := (HAT.out.below hb1).mod hM2 (by decide) (by simp) (by simp)
  obtain ⟨ua, uc, rfl, _, _⟩ := own_form hown2
  have hFr := pool_free0 hP2 i HI.out
  have HFR := Lib.hid hFr
  clear hFr hc
  go_upto_region 9 with (go_at_call 147; refine HFR.out.mono ?_; rintro e w3 ⟨rfl, hb3⟩)
  have hbp : Blk w3 p 242 _ := (hM2.keep (h.blk.at_ (hb1.block p h.blk.lt)) (by decide) (by simp) (by simp)).at_ (hb3.block p (by have := h.blk.lt; have := hb1.size; have := hM2.size; omega))
  have hbl : Blk w3 pl 244 _ := (hM2.keep (h.lblk.at_ (hb1.block pl h.lblk.lt)) (by decide) (by simp) (by simp)).at_ (hb3.block pl (by have := h.lblk.lt; have := hb1.size; have := hM2.size; omega))
  have hc3 := hbp.cell
  have hfz := hbl.frozen
  have hcell : ∀ j, j < 6 → w3.cell? ⟨pl, i * 6 + j, none⟩ = (frCells x)[j]? := fun j hj => (hbl.cell _).trans (frRow_getA hx j hj)
  have e0 := hcell 0 (by decide)
  have e1 := hcell 1 (by decide)
  have e2 := hcell 2 (by decide)
  have e3 := hcell 3 (by decide)
  have e4 := hcell 4 (by decide)
  have e5 := hcell 5 (by decide)
  simp only [frCells, Nat.add_zero, List.getElem?_cons_zero, List.getElem?_cons_succ] at e0 e1 e2 e3 e4 e5
  clear hcell
  go_upto_region 10 with (fail)
  clear e0 e1 e2 e3 e4 e5 hc3 hfz
  obtain ⟨w4, e4⟩ : ∃ w4, ((((((w3.setCell ⟨pl, i * 6, none⟩ (.int .i64 n)).setCell ⟨pl, i * 6 + 1, none⟩ (.slice ua 512 uc)).setCell ⟨pl, i * 6 + 2, none⟩ (.bool false)).setCell ⟨pl, i * 6 + 3, none⟩ (.bool false)).setCell ⟨pl, i * 6 + 4, none⟩ (.int .i64 0)).setCell ⟨pl, i * 6 + 5, none⟩ (.int .i64 0)) = w4 := ⟨_, rfl⟩
  rw [e4]
  obtain ⟨hb4, hg4, hz4⟩ := six_store hbl hx ⟨n, .slice ua 512 uc, fview view ffr n, false, false, 0, 0⟩ n (.slice ua 512 uc) false false 0 0 rfl rfl rfl rfl rfl rfl e4
  clear e4
  have hne : pl ≠ p := h.lblk.ne_ h.blk (by decide)
  have hbp4 : Blk w4 p 242 _ := hbp.at_ (hg4.block p hbp.lt (by simpa using hne.symm))
  have hgx := set_get hx (⟨n, .slice ua 512 uc, fview view ffr n, false, false, 0, 0⟩ : FrameS)
  have hc4 := hbp4.cell
  have e3 : w4.cell? ⟨pl, i * 6 + 3, none⟩ = some (.bool false) := (hb4.cell _).trans (frRow_getA hgx 3 (by decide))
  have f3 : w4.frozen? ⟨pl, i * 6 + 3, none⟩ = false := hb4.frozen _
  have e1 : w4.cell? ⟨pl, i * 6 + 1, none⟩ = some (.slice ua 512 uc) := (hb4.cell _).trans (frRow_getA hgx 1 (by decide))
  have hM3 : Mod B (PoolT ++ DevT) false false Y Y w w3 := (hm1.trans (hM2.more (PoolT ++ DevT) false false (by decide))).below_ hb3
  have hM4 : Mod B (PoolT ++ DevT) false false Y Y w (w4.setCell ⟨pl, i * 6 + 3, none⟩ (.bool true)) :=
    (hM3.trans (mod_grown hg4 (fun k hk => by injection hk with hk; subst hk; exact h.hpl) (fun k hk => by injection hk with hk; subst hk; exact .inr (.inr ⟨244, hbl.ty, by decide⟩)))).set_ h.hpl hb4.ty (by decide) _
  have hY2 : Y.dl < w1.heap.size := let ⟨_, hb⟩ := hd1.dl; hb.lt
  have hu2 : Byts B Y w2 (.slice ua 512 uc) (fview view ffr n) := Sl.own hown2 hY2 hd1.rbl
  have hM24 : Mod B (PoolT ++ DevT) false false Y Y w2 (w4.setCell ⟨pl, i * 6 + 3, none⟩ (.bool true)) :=
    ((mod_below B (PoolT ++ DevT) false false Y hb3).trans (mod_grown hg4 (fun k hk => by injection hk with hk; subst hk; exact h.hpl) (fun k hk => by injection hk with hk; subst hk; exact .inr (.inr ⟨244, hbl.ty, by decide⟩)))).set_ h.hpl hb4.ty (by decide) _
  have hM24' : Mod B PoolT false false Y Y w2 w4 := (mod_below B PoolT false false Y hb3).trans (mod_grown hg4 (fun k hk => by injection hk with hk; subst hk; exact h.hpl) (fun k hk => by injection hk with hk; subst hk; exact .inr (.inr ⟨244, hbl.ty, by decide⟩)))
  have hu4 := hu2.mod hM24 (by decide)
  have hsrc := Sl.src hu4
  rw [List.length_map, hflen] at hsrc
  have hone := bv_one (fview view ffr n)
  have hl1 : ((fview view ffr n).map bv).length = 512 * 1 := by rw [List.length_map, hflen]
  have hz5 : (w4.setCell ⟨pl, i * 6 + 3, none⟩ (.bool true)).heap.size = w4.heap.size := by simp [World.setCell]
  have hbnd : 0 + 512 ≤ maxLen ∧ (0 + 512) * 1 ≤ 140737488355328 ∧ (w4.setCell ⟨pl, i * 6 + 3, none⟩ (.bool true)).heap.size ≤ (w4.setCell ⟨pl, i * 6 + 3, none⟩ (.bool true)).heap.size := ⟨by decide, by decide, Nat.le_refl _⟩
  go_wp2_with (at_builtin; refine wpList_app (w4.setCell ⟨pl, i * 6 + 3, none⟩ (.bool true)) rfl (.const (.slice none 0 0)) (.tmp 57) rfl (w4.setCell ⟨pl, i * 6 + 3, none⟩ (.bool true)).heap.size sl48 (World.ownsRow_nil _ _ _ _) rfl hsrc rfl hl1 hone hbnd ?_; intro v5 w5 hown5 hg5 hat5)
  go_ret2
  have hb45 : Below (w4.setCell ⟨pl, i * 6 + 3, none⟩ (.bool true)).heap.size (w4.setCell ⟨pl, i * 6 + 3, none⟩ (.bool true)) w5 := (Below.refl _ _).grown hg5 (Nat.le_refl _) (by simp [Value.ownBlock])
  refine ⟨v5, .slice ua 512 uc, _, rfl, hM4, ⟨pl, hand, wr, h.set ?_ ?_ ?_ ?_ ?_⟩, hd2.mod (hM24'.set_ h.hpl hb4.ty (by decide) (.bool true)) rfl (by simp) (by decide), hb45, by simpa using hown5⟩
  · exact hbp4.far (p := ⟨pl, i * 6 + 3, none⟩) hne.symm _
  · have := hb4.set_ (i * 6 + 3) (.bool true)
    rw [frRow_setA (x' := ⟨n, .slice ua 512 uc, fview view ffr n, false, true, 0, 0⟩) hgx (by decide) rfl, List.set_set] at this
    exact this
  · intro y hy
    exact (h.ok y hy).imp id fun ⟨a, b, c, d⟩ => ⟨a, b, c, d.mod hM4 (by decide)⟩
  · exact .inr ⟨by simp, by simpa using hn, hflen, hu4⟩
  · intro j y hj hy e he
    have h1 := HNO.out
    rw [List.findIdx?_eq_none_iff] at h1
    have h2 := h1 y (List.mem_of_getElem? hy)
    simp only [beq_eq_false_iff_ne] at h2
    exact h2 e
end Go.Proofs.YtllhgbanbelmaaaGreat

/- Contracts of package pool: the frames, which one holds a page. -/
import Derived.Test.YtllhgbanbelmaaaGreatFile
namespace Go.Proofs.YtllhgbanbelmaaaGreat
open Go.RowKit
variable {B : Nat} {T : List Nat} {D R : Bool} {Y Y' : Sys} {w w' : World}

structure FrameS where
  page : Int
  v : Value
  bs : List UInt8
  dirty : Bool
  marked : Bool
  rc : Int
  lsn : Int
def frCells (x : FrameS) : List Value := [i64 x.page, x.v, .bool x.dirty, .bool x.marked, i64 x.rc, i64 x.lsn]
def frRow (fr : List FrameS) : Array Value := (fr.flatMap frCells).toArray
def idxOf : Option Nat → Int
  | some i => i
  | none => -1
theorem frRow_get : ∀ (fr : List FrameS) (j : Nat) (x : FrameS), fr[j]? = some x → ∀ i, i < 6 → (fr.flatMap frCells)[j * 6 + i]? = (frCells x)[i]?
  | [], j, x, h, _, _ => by simp at h
  | y :: fr, 0, x, h, i, hi => by
    simp at h; subst h
    rw [List.flatMap_cons, Nat.zero_mul, Nat.zero_add, List.getElem?_append_left (by simpa [frCells] using hi)]
  | y :: fr, j + 1, x, h, i, hi => by
    have := frRow_get fr j x (by simpa using h) i hi
    rw [List.flatMap_cons, show (j + 1) * 6 + i = (frCells y).length + (j * 6 + i) by simp [frCells]; omega, List.getElem?_append_right (by omega), Nat.add_sub_cancel_left]
    exact this

set_option maxHeartbeats 1000000 in
theorem close206 (a : Int) (v : Option Addr) (l c : Nat) (d m : Bool) (r s : Int) (cb : Nat) (n : Int) (hn : 0 ≤ n) (hc : w.cell? ⟨cb, 0, none⟩ = some (i64 n)) :
    Calls Tryz.prog 206 #[.agg #[i64 a, .slice v l c, .bool d, .bool m, i64 r, i64 s], .pointer (some ⟨cb, 0, none⟩)] w fun e w' => e = .returned (.bool (a == n)) ∧ Below w.heap.size w w' := by
  have hcl := World.block_lt_of_cell? w _ hc
  simp only at hcl
  have hc1 := (World.cell?_alloc_lt w (.cells #[i64 a, .slice v l c, .bool d, .bool m, i64 r, i64 s] 244) ⟨cb, 0, none⟩ hcl).trans hc
  by_cases h : a = n
  · subst h
    go_enter Tryz.func206, Tryz.ntmps206
    go_wp2
    go_ret
    exact ⟨by simp, (Below.refl _ _).alloc (Nat.le_refl _) _⟩
  · have hb : (a == n) = false := by simpa using h
    go_enter Tryz.func206, Tryz.ntmps206
    go_wp2
    go_ret
    exact ⟨by simp [hb], (Below.refl _ _).alloc (Nat.le_refl _) _⟩
set_option maxHeartbeats 1000000 in
theorem close207 (a : Int) (v : Option Addr) (l c : Nat) (d m : Bool) (r s : Int) :
    Calls Tryz.prog 207 #[.agg #[i64 a, .slice v l c, .bool d, .bool m, i64 r, i64 s]] w fun e w' => e = .returned (.bool (decide (a < 0))) ∧ Below w.heap.size w w' := by
  go_enter Tryz.func207, Tryz.ntmps207
  go_wp2
  go_ret
  exact ⟨rfl, (Below.refl _ _).alloc (Nat.le_refl _) _⟩

-- GENERATED BELOW

set_option maxRecDepth 100000 in
set_option maxHeartbeats 1000000 in
theorem idx206 (pl : Nat) (fr : List FrameS) (hb : Blk w pl 244 (frRow fr)) (hv : ∀ x, x ∈ fr → ∃ a l c, x.v = .slice a l c) (hn : fr.length ≤ 64) (cb : Nat) (n : Int) (hn0 : 0 ≤ n) (hc : w.cell? ⟨cb, 0, none⟩ = some (i64 n)) :
    Calls Tryz.prog 205 #[.slice (some ⟨pl, 0, none⟩) fr.length fr.length, .func (.func 206) #[] #[.pointer (some ⟨cb, 0, none⟩)]] w fun e w' => e = .returned (i64 (idxOf (fr.findIdx? (fun x => x.page == n)))) ∧ Below w.heap.size w w' := by
  have hcl := World.block_lt_of_cell? w _ hc
  simp only at hcl
  go_enter Tryz.func205, Tryz.ntmps205
  go_wp2_with fail
  go_loopw [8] (fun t wr => ∃ j : Nat, j ≤ fr.length ∧ t = .int .i64 j ∧ Below w.heap.size w wr ∧ (fr.take j).findIdx? (fun x => x.page == n) = none) (fun t _ => fr.length - (intOf t).toNat)
  case atStart => exact ⟨0, Nat.zero_le _, rfl, Below.refl _ _, by simp⟩
  case round =>
    obtain ⟨j, hj, rfl, hbw, hno⟩ := hrel
    have HNO := Lib.hid hno
    clear hno
    by_cases hlt : j < fr.length
    · have hj' : (j : Int) < fr.length := by omega
      obtain ⟨x, hx⟩ : ∃ x, fr[j]? = some x := ⟨fr[j], List.getElem?_eq_getElem hlt⟩
      obtain ⟨va, vl, vc, hxv⟩ := hv x (List.mem_of_getElem? hx)
      have hg := frRow_get fr j x hx
      have hcell : ∀ i, i < 6 → wr.cell? ⟨pl, j * 6 + i, none⟩ = (frCells x)[i]? := fun i hi => ((hbw.cell (p := ⟨pl, j * 6 + i, none⟩) hb.lt).trans (hb.cell _)).trans (by rw [← hg i hi]; simp [frRow])
      have e0 := hcell 0 (by decide)
      have e1 := hcell 1 (by decide)
      have e2 := hcell 2 (by decide)
      have e3 := hcell 3 (by decide)
      have e4 := hcell 4 (by decide)
      have e5 := hcell 5 (by decide)
      simp only [frCells, hxv, Nat.add_zero, List.getElem?_cons_zero, List.getElem?_cons_succ] at e0 e1 e2 e3 e4 e5
      have HX := Lib.hid hx
      have HXV := Lib.hid hxv
      clear hcell hg hx hxv
      cases hp : (x.page == n)
      · have hcb := (hbw.cell (p := ⟨cb, 0, none⟩) hcl).trans hc
        go_wp2_with (go_at_call 206; refine (close206 x.page va vl vc x.dirty x.marked x.rc x.lsn cb n hn0 hcb).mono ?_; rintro e w2 ⟨rfl, hb2⟩)
        go_roundw
        case rel =>
          refine ⟨j + 1, by omega, by go_num, hbw.trans (hb2.mono hbw.size), ?_⟩
          rw [List.take_add_one, HX.out, List.findIdx?_append, HNO.out]
          simp [hp]
        case measure => simp [intOf]; omega
      · have hcb := (hbw.cell (p := ⟨cb, 0, none⟩) hcl).trans hc
        go_wp2_with (go_at_call 206; refine (close206 x.page va vl vc x.dirty x.marked x.rc x.lsn cb n hn0 hcb).mono ?_; rintro e w2 ⟨rfl, hb2⟩)
        go_ret
        refine ⟨?_, hbw.trans (hb2.mono hbw.size)⟩
        have : fr.findIdx? (fun x => x.page == n) = some j := by
          have h1 := List.findIdx?_append (xs := fr.take j) (ys := fr.drop j) (p := (fun x => x.page == n))
          rw [List.take_append_drop, HNO.out] at h1
          rw [h1, List.drop_eq_getElem_cons hlt]
          have h2 : fr[j] = x := by have := HX.out; rw [List.getElem?_eq_getElem hlt] at this; injection this
          rw [h2, List.findIdx?_cons]
          simp [hp]
          omega
        rw [this]
        rfl
    · have hje : j = fr.length := by omega
      go_wp2_with fail
      go_ret
      refine ⟨?_, hbw⟩
      have : fr.findIdx? (fun x => x.page == n) = none := by have := HNO.out; rwa [hje, List.take_length] at this
      rw [this]
      rfl

set_option maxRecDepth 100000 in
set_option maxHeartbeats 1000000 in
theorem idx207 (pl : Nat) (fr : List FrameS) (hb : Blk w pl 244 (frRow fr)) (hv : ∀ x, x ∈ fr → ∃ a l c, x.v = .slice a l c) (hn : fr.length ≤ 64) :
    Calls Tryz.prog 205 #[.slice (some ⟨pl, 0, none⟩) fr.length fr.length, .func (.func 207) #[] #[]] w fun e w' => e = .returned (i64 (idxOf (fr.findIdx? (fun x => decide (x.page < 0))))) ∧ Below w.heap.size w w' := by
  go_enter Tryz.func205, Tryz.ntmps205
  go_wp2_with fail
  go_loopw [8] (fun t wr => ∃ j : Nat, j ≤ fr.length ∧ t = .int .i64 j ∧ Below w.heap.size w wr ∧ (fr.take j).findIdx? (fun x => decide (x.page < 0)) = none) (fun t _ => fr.length - (intOf t).toNat)
  case atStart => exact ⟨0, Nat.zero_le _, rfl, Below.refl _ _, by simp⟩
  case round =>
    obtain ⟨j, hj, rfl, hbw, hno⟩ := hrel
    have HNO := Lib.hid hno
    clear hno
    by_cases hlt : j < fr.length
    · have hj' : (j : Int) < fr.length := by omega
      obtain ⟨x, hx⟩ : ∃ x, fr[j]? = some x := ⟨fr[j], List.getElem?_eq_getElem hlt⟩
      obtain ⟨va, vl, vc, hxv⟩ := hv x (List.mem_of_getElem? hx)
      have hg := frRow_get fr j x hx
      have hcell : ∀ i, i < 6 → wr.cell? ⟨pl, j * 6 + i, none⟩ = (frCells x)[i]? := fun i hi => ((hbw.cell (p := ⟨pl, j * 6 + i, none⟩) hb.lt).trans (hb.cell _)).trans (by rw [← hg i hi]; simp [frRow])
      have e0 := hcell 0 (by decide)
      have e1 := hcell 1 (by decide)
      have e2 := hcell 2 (by decide)
      have e3 := hcell 3 (by decide)
      have e4 := hcell 4 (by decide)
      have e5 := hcell 5 (by decide)
      simp only [frCells, hxv, Nat.add_zero, List.getElem?_cons_zero, List.getElem?_cons_succ] at e0 e1 e2 e3 e4 e5
      have HX := Lib.hid hx
      have HXV := Lib.hid hxv
      clear hcell hg hx hxv
      cases hp : (decide (x.page < 0))
      · go_wp2_with (go_at_call 207; refine (close207 x.page va vl vc x.dirty x.marked x.rc x.lsn).mono ?_; rintro e w2 ⟨rfl, hb2⟩)
        go_roundw
        case rel =>
          refine ⟨j + 1, by omega, by go_num, hbw.trans (hb2.mono hbw.size), ?_⟩
          rw [List.take_add_one, HX.out, List.findIdx?_append, HNO.out]
          simp [hp]
        case measure => simp [intOf]; omega
      · go_wp2_with (go_at_call 207; refine (close207 x.page va vl vc x.dirty x.marked x.rc x.lsn).mono ?_; rintro e w2 ⟨rfl, hb2⟩)
        go_ret
        refine ⟨?_, hbw.trans (hb2.mono hbw.size)⟩
        have : fr.findIdx? (fun x => decide (x.page < 0)) = some j := by
          have h1 := List.findIdx?_append (xs := fr.take j) (ys := fr.drop j) (p := (fun x => decide (x.page < 0)))
          rw [List.take_append_drop, HNO.out] at h1
          rw [h1, List.drop_eq_getElem_cons hlt]
          have h2 : fr[j] = x := by have := HX.out; rw [List.getElem?_eq_getElem hlt] at this; injection this
          rw [h2, List.findIdx?_cons]
          simp [hp]
          omega
        rw [this]
        rfl
    · have hje : j = fr.length := by omega
      go_wp2_with fail
      go_ret
      refine ⟨?_, hbw⟩
      have : fr.findIdx? (fun x => decide (x.page < 0)) = none := by have := HNO.out; rwa [hje, List.take_length] at this
      rw [this]
      rfl

structure PoolIn (B : Nat) (Y : Sys) (w : World) (p pl f : Nat) (fv : Value) (hand : Nat) (wr : Int) (np : Nat) (fr : List FrameS) : Prop where
  hp : B ≤ p
  hpl : B ≤ pl
  blk : Blk w p 242 #[.pointer (some ⟨f, 0, none⟩), .slice (some ⟨pl, 0, none⟩) fr.length fr.length, fv, i64 hand, i64 wr]
  lblk : Blk w pl 244 (frRow fr)
  n1 : 1 ≤ fr.length
  n64 : fr.length ≤ 64
  hh : hand < fr.length
  ok : ∀ x, x ∈ fr → (x.page = -1 ∧ x.v = .slice none 0 0) ∨ (0 ≤ x.page ∧ x.page < np ∧ x.bs.length = 512 ∧ Byts B Y w x.v x.bs)
  uniq : ∀ (i j : Nat) (x y : FrameS), fr[i]? = some x → fr[j]? = some y → x.page = y.page → 0 ≤ x.page → i = j
def PoolAt (B : Nat) (Y : Sys) (w : World) (p f : Nat) (fv : Value) (np : Nat) (fr : List FrameS) : Prop := ∃ pl hand wr, PoolIn B Y w p pl f fv hand wr np fr

theorem Byts.slice {v : Value} {bs : List UInt8} (h : Byts B Y w v bs) : ∃ a c, v = .slice a bs.length c := let ⟨a, c, h, _⟩ := h.form; ⟨a, c, h⟩
theorem PoolIn.slices {p pl f : Nat} {fv : Value} {hand : Nat} {wr : Int} {np : Nat} {fr : List FrameS} (h : PoolIn B Y w p pl f fv hand wr np fr) : ∀ x, x ∈ fr → ∃ a l c, x.v = .slice a l c := by
  intro x hx
  rcases h.ok x hx with ⟨_, h⟩ | ⟨_, _, _, h⟩
  · exact ⟨none, 0, 0, h⟩
  · obtain ⟨a, c, h⟩ := h.slice
    exact ⟨a, _, c, h⟩
/-- what leaves the pool alone -/
theorem PoolAt.mod {p f : Nat} {fv : Value} {np : Nat} {fr : List FrameS} (h : PoolAt B Y w p f fv np fr) (m : Mod B T D R Y Y' w w') (hT : ∀ t, t ∈ T → t ≠ 242 ∧ t ≠ 244 ∧ t ≠ 5)
    (hD : D = true → ∃ cs, Blk w Y.dl 48 cs) (hR : R = true → ∀ g, Y.rb = some g → ∃ cs, Blk w g 5 cs) : PoolAt B Y' w' p f fv np fr := by
  obtain ⟨pl, hand, wr, h⟩ := h
  have key : ∀ g t (cs : Array Value), Blk w g t cs → t ≠ 48 → t ≠ 5 → t ∉ T → Blk w' g t cs := fun g t cs hb h1 h2 h3 =>
    m.keep hb h3 (fun hd => let ⟨_, hb'⟩ := hD hd; hb.ne_ hb' h1) (fun hr e => let ⟨_, hb'⟩ := hR hr _ e.symm; hb.ne_ hb' h2 rfl)
  exact ⟨pl, hand, wr, h.hp, h.hpl, key _ _ _ h.blk (by decide) (by decide) (fun x => (hT _ x).1 rfl), key _ _ _ h.lblk (by decide) (by decide) (fun x => (hT _ x).2.1 rfl), h.n1, h.n64, h.hh,
    fun x hx => (h.ok x hx).imp id fun ⟨a, b, c, d⟩ => ⟨a, b, c, d.mod m (fun x => (hT _ x).2.2 rfl)⟩, h.uniq⟩
theorem PoolAt.below {p f : Nat} {fv : Value} {np : Nat} {fr : List FrameS} (h : PoolAt B Y w p f fv np fr) (hb : Below w.heap.size w w') : PoolAt B Y w' p f fv np fr :=
  h.mod (mod_below B [] false false Y hb) (by simp) (by simp) (by simp)

set_option maxHeartbeats 1000000 in
theorem pool_find {p f : Nat} {fv : Value} {np : Nat} {fr : List FrameS} (h : PoolAt B Y w p f fv np fr) (n : Int) (hn : 0 ≤ n) :
    Calls Tryz.prog 145 #[.pointer (some ⟨p, 0, none⟩), i64 n] w fun e w' => e = .returned (i64 (idxOf (fr.findIdx? (fun x => x.page == n)))) ∧ Below w.heap.size w w' := by
  obtain ⟨pl, hand, wr, h⟩ := h
  have hb := h.blk.alloc (.cells #[i64 n] 3)
  have hl := h.lblk.alloc (.cells #[i64 n] 3)
  have hc := h.blk.cell
  have hpl := h.blk.lt
  have hn' := (Blk.new w 3 #[i64 n]).cell 0
  have hmf : ∀ (fn : Fn) (first cap : Array Value) (w : World), (Instr.makeFunc fn first cap).run Tryz.prog w = .ok (.func fn first cap) w := fun _ _ _ _ => rfl
  have hx := idx206 pl fr hl h.slices h.n64 w.heap.size n hn hn'
  have HX := Lib.hid hx
  clear hx hn'
  go_enter Tryz.func145, Tryz.ntmps145
  go_wp2_with (go_at_call 205; refine HX.out.mono ?_; rintro e w2 ⟨rfl, hb2⟩)
  go_ret
  exact ⟨rfl, ((Below.refl _ _).alloc (Nat.le_refl _) _).trans (hb2.mono (by simp))⟩
end Go.Proofs.YtllhgbanbelmaaaGreat

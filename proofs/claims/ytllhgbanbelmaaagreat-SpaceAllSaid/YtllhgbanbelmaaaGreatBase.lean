/- The words in which the contracts of this seat are said: a block known whole, a slice of bytes that is read, what a call may change. Plain definitions and lemmas; no program in sight. -/
import Derived.Below
import Derived.Laws.OwnMore
import Derived.Deep.Draws
import Derived.Laws.Rows
import Derived.Laws.CopyOwn
import Derived.Lib.Hide
namespace Go.Proofs.YtllhgbanbelmaaaGreat
open Go.RowKit

/-- block g is just the cells cs of element type t, none frozen -/
def Blk (w : World) (g : Nat) (t : TypeId) (cs : Array Value) : Prop := w.heap[g]? = some (.cells cs t (0, 0))

/-- the element type of a row of cells -/
def ty (w : World) (g : Nat) : Option TypeId := match w.heap[g]? with | some (.cells _ t _) => some t | some (.map _ _) => some 1000000 | _ => none

theorem Blk.lt {w : World} {g t cs} (h : Blk w g t cs) : g < w.heap.size := by
  rcases Nat.lt_or_ge g w.heap.size with hlt | hge
  · exact hlt
  · unfold Blk at h; rw [Array.getElem?_eq_none hge] at h; cases h
theorem Blk.cell {w : World} {g t cs} (h : Blk w g t cs) (i : Nat) : w.cell? ⟨g, i, none⟩ = cs[i]? := cell_of_row w g i cs t (0, 0) h
theorem Blk.frozen {w : World} {g t cs} (h : Blk w g t cs) (i : Nat) : w.frozen? ⟨g, i, none⟩ = false := by
  unfold Blk at h
  simp [World.frozen?, h]
theorem Blk.ty {w : World} {g t cs} (h : Blk w g t cs) : ty w g = some t := by unfold Blk at h; simp [YtllhgbanbelmaaaGreat.ty, h]
theorem Blk.new (w : World) (t : TypeId) (cs : Array Value) : Blk (w.alloc (.cells cs t)) w.heap.size t cs := heap_alloc_new w _
theorem Blk.drewN {w : World} {g t cs} (h : Blk w g t cs) (n : Nat) : Blk (w.drewN n) g t cs := h
theorem Blk.drew {w : World} {g t cs} (h : Blk w g t cs) : Blk w.drew g t cs := h
theorem Blk.alloc {w : World} {g t cs} (h : Blk w g t cs) (o : Obj) : Blk (w.alloc o) g t cs := (Below.heap_alloc w o g h.lt).trans h
theorem Blk.set_ {w : World} {g t cs} (h : Blk w g t cs) (i : Nat) (u : Value) : Blk (w.setCell ⟨g, i, none⟩ u) g t (cs.setIfInBounds i u) := by
  unfold Blk at h ⊢
  simp [World.setCell, Array.getElem?_modify, h]
theorem Blk.far {w : World} {g t cs} (h : Blk w g t cs) {p : Addr} (hp : g ≠ p.block) (u : Value) : Blk (w.setCell p u) g t cs := (Below.heap_setCell w p u g hp).trans h
theorem Blk.ne_ {w : World} {g t cs g' t' cs'} (h : Blk w g t cs) (h' : Blk w g' t' cs') (hne : t ≠ t') : g ≠ g' := by
  rintro rfl
  unfold Blk at h h'
  rw [h] at h'
  injection h' with h'
  injection h' with _ ht
  exact hne ht
theorem Blk.at_ {w w' : World} {g t cs} (h : Blk w g t cs) (e : w'.heap[g]? = w.heap[g]?) : Blk w' g t cs := e.trans h

/-- two blocks that are written in place and whose element types others have too: the device's sectors, the ring's bytes -/
structure Sys where
  dl : Nat
  rb : Option Nat

/-- What a call may change: below B nothing; from B on only rows whose element type is in T, and Y.dl (if D), Y.rb (if R); Y' is Y behind it. -/
structure Mod (B : Nat) (T : List Nat) (D R : Bool) (Y Y' : Sys) (w w' : World) : Prop where
  os : w'.os = w.os
  tape : w'.tape = w.tape
  output : w'.output = w.output
  size : w.heap.size ≤ w'.heap.size
  blk : ∀ b, b < w.heap.size → (B ≤ b → (D = true → b ≠ Y.dl) ∧ (R = true → some b ≠ Y.rb) ∧ ∀ t, ty w b = some t → t ∉ T) → w'.heap[b]? = w.heap[b]?
  dl : Y'.dl = Y.dl
  rb : Y'.rb = Y.rb ∨ ∃ g, Y'.rb = some g ∧ w.heap.size ≤ g ∧ g < w'.heap.size

variable {B : Nat} {T : List Nat} {D R : Bool} {Y Y' Y'' : Sys} {w w' w'' : World}
theorem Mod.refl (B : Nat) (T : List Nat) (D R : Bool) (Y : Sys) (w : World) : Mod B T D R Y Y w w := ⟨rfl, rfl, rfl, Nat.le_refl _, fun _ _ _ => rfl, rfl, .inl rfl⟩
theorem Mod.trans (h : Mod B T D R Y Y' w w') (k : Mod B T D R Y' Y'' w' w'') : Mod B T D R Y Y'' w w'' := by
  refine ⟨k.os.trans h.os, k.tape.trans h.tape, k.output.trans h.output, Nat.le_trans h.size k.size, fun b hb hp => ?_, k.dl.trans h.dl, ?_⟩
  · have e := h.blk b hb hp
    rw [k.blk b (Nat.lt_of_lt_of_le hb h.size) (fun hB => ⟨fun hd => ?_, fun hr => ?_, fun t ht => ?_⟩), e]
    · rw [h.dl]; exact (hp hB).1 hd
    · rcases h.rb with hm | ⟨g, hm, hg, _⟩
      · rw [hm]; exact (hp hB).2.1 hr
      · rw [hm]; intro hx; injection hx with hx; omega
    · exact (hp hB).2.2 t (by unfold ty at ht ⊢; rw [e] at ht; exact ht)
  · rcases k.rb with hm | ⟨g, hm, hg, hl⟩
    · rcases h.rb with hn | ⟨g, hn, hg, hl⟩
      · exact .inl (hm.trans hn)
      · exact .inr ⟨g, hm.trans hn, hg, Nat.lt_of_lt_of_le hl k.size⟩
    · exact .inr ⟨g, hm, Nat.le_trans h.size hg, hl⟩
theorem Mod.mono {T₂ : List Nat} {D₂ R₂ : Bool} (h : Mod B T D R Y Y' w w') (hT : ∀ t, t ∈ T → t ∈ T₂) (hD : D = true → D₂ = true) (hR : R = true → R₂ = true) : Mod B T₂ D₂ R₂ Y Y' w w' :=
  ⟨h.os, h.tape, h.output, h.size, fun b hb hp => h.blk b hb fun hB => ⟨fun hd => (hp hB).1 (hD hd), fun hr => (hp hB).2.1 (hR hr), fun t ht hm => (hp hB).2.2 t ht (hT t hm)⟩, h.dl, h.rb⟩
theorem Mod.more (h : Mod B T D R Y Y' w w') (T₂ : List Nat) (D₂ R₂ : Bool) (hT : (T.all (fun t => T₂.contains t) && (!D || D₂) && (!R || R₂)) = true) : Mod B T₂ D₂ R₂ Y Y' w w' := by
  simp only [Bool.and_eq_true, List.all_eq_true, List.contains_iff_mem, Bool.or_eq_true, Bool.not_eq_true'] at hT
  exact h.mono hT.1.1 (fun e => hT.1.2.resolve_left (by rw [e]; decide)) (fun e => hT.2.resolve_left (by rw [e]; decide))
theorem Mod.rbl (h : Mod B T D R Y Y' w w') (hr : ∀ g, Y.rb = some g → g < w.heap.size) : ∀ g, Y'.rb = some g → g < w'.heap.size := by
  intro g hg
  rcases h.rb with hm | ⟨g', hm, _, hl⟩
  · exact Nat.lt_of_lt_of_le (hr g (hm ▸ hg)) h.size
  · rw [hm] at hg; injection hg with hg; omega
theorem rb_more (h : Y'.rb = Y.rb ∨ ∃ g, Y'.rb = some g ∧ w.heap.size ≤ g ∧ g < w'.heap.size) (hs : w'.heap.size ≤ w''.heap.size) : Y'.rb = Y.rb ∨ ∃ g, Y'.rb = some g ∧ w.heap.size ≤ g ∧ g < w''.heap.size :=
  h.imp id fun ⟨g, a, b, c⟩ => ⟨g, a, b, Nat.lt_of_lt_of_le c hs⟩
theorem Mod.drewN (h : Mod B T D R Y Y' w w') (n : Nat) : Mod B T D R Y Y' w (w'.drewN n) := ⟨h.os, h.tape, h.output, h.size, h.blk, h.dl, h.rb⟩
theorem Mod.drew (h : Mod B T D R Y Y' w w') : Mod B T D R Y Y' w w'.drew := ⟨h.os, h.tape, h.output, h.size, h.blk, h.dl, h.rb⟩
theorem Mod.alloc (h : Mod B T D R Y Y' w w') (o : Obj) : Mod B T D R Y Y' w (w'.alloc o) :=
  ⟨h.os, h.tape, h.output, by have := h.size; simp; omega, fun b hb hp => (Below.heap_alloc w' o b (Nat.lt_of_lt_of_le hb h.size)).trans (h.blk b hb hp), h.dl, rb_more h.rb (by simp)⟩
/-- a store into a block made since -/
theorem Mod.set_new (h : Mod B T D R Y Y' w w') {p : Addr} (hp : w.heap.size ≤ p.block) (u : Value) : Mod B T D R Y Y' w (w'.setCell p u) :=
  ⟨h.os, h.tape, h.output, by have := h.size; simp [World.setCell]; omega, fun b hb hq => (Below.heap_setCell w' p u b (by omega)).trans (h.blk b hb hq), h.dl, rb_more h.rb (by simp [World.setCell])⟩
theorem ty_set (w : World) (p : Addr) (u : Value) (b : Nat) : ty (w.setCell p u) b = ty w b := by
  unfold ty
  by_cases e : b = p.block
  · subst e
    unfold World.setCell
    rw [Array.getElem?_modify, if_pos rfl]
    cases h2 : w.heap[p.block]? with
    | none => rfl
    | some o => cases o <;> rfl
  · rw [Below.heap_setCell w p u b e]
theorem mod_set {p : Addr} {t : Nat} (hB : B ≤ p.block) (ht : ty w p.block = some t) (hT : t ∈ T) (u : Value) : Mod B T D R Y Y w (w.setCell p u) := by
  refine ⟨rfl, rfl, rfl, by simp [World.setCell], fun b hb hp => ?_, rfl, .inl rfl⟩
  by_cases e : b = p.block
  · subst e
    exact absurd hT ((hp hB).2.2 t ht)
  · exact Below.heap_setCell w p u b e
theorem Mod.set_ (h : Mod B T D R Y Y' w w') {p : Addr} {t : Nat} (hB : B ≤ p.block) (ht : ty w' p.block = some t) (hT : t ∈ T) (u : Value) : Mod B T D R Y Y' w (w'.setCell p u) :=
  h.trans (mod_set hB ht hT u)
theorem mod_grown {row : Option Nat} (hg : w.grownBy w' row) (hB : ∀ k, row = some k → B ≤ k)
    (hr : ∀ k, row = some k → (D = true ∧ k = Y.dl) ∨ (R = true ∧ some k = Y.rb) ∨ ∃ t, ty w k = some t ∧ t ∈ T) : Mod B T D R Y Y w w' := by
  refine ⟨hg.os, hg.tape, hg.output, hg.size, fun b hb hp => hg.block b hb fun e => ?_, rfl, .inl rfl⟩
  have hp := hp (hB b e.symm)
  rcases hr b e.symm with ⟨h1, h2⟩ | ⟨h1, h2⟩ | ⟨t, ht, hT⟩
  · exact hp.1 h1 h2
  · exact hp.2.1 h1 h2
  · exact hp.2.2 t ht hT
theorem Mod.below (h : Mod B T D R Y Y' w w') (hB : B ≤ w.heap.size) : Below B w w' := ⟨h.os, h.tape, h.output, h.size, fun k hk => h.blk k (by omega) (by omega)⟩
theorem Mod.keep (h : Mod B T D R Y Y' w w') {g t : Nat} {cs : Array Value} (hb : Blk w g t cs) (hT : t ∉ T) (hD : D = true → g ≠ Y.dl) (hR : R = true → some g ≠ Y.rb) : Blk w' g t cs :=
  hb.at_ (h.blk g hb.lt fun _ => ⟨hD, hR, fun t' ht => by rw [hb.ty] at ht; injection ht with ht; exact ht ▸ hT⟩)
theorem Mod.keep_old (h : Mod B T D R Y Y' w w') {g t : Nat} {cs : Array Value} (hb : Blk w g t cs) (hB : g < B) : Blk w' g t cs := hb.at_ (h.blk g hb.lt fun _ => by omega)
/-- what only makes memory changes nothing -/
theorem mod_below (B : Nat) (T : List Nat) (D R : Bool) (Y : Sys) (h : Below w.heap.size w w') : Mod B T D R Y Y w w' :=
  ⟨h.os, h.tape, h.output, h.size, fun b hb _ => h.block b hb, rfl, .inl rfl⟩
theorem Mod.below_ (h : Mod B T D R Y Y' w w') (k : Below w'.heap.size w' w'') : Mod B T D R Y Y' w w'' := h.trans (mod_below B T D R Y' k)
theorem Mod.grown_new (h : Mod B T D R Y Y' w w') {row : Option Nat} (hg : w'.grownBy w'' row) (hr : ∀ k, row = some k → w.heap.size ≤ k) : Mod B T D R Y Y' w w'' :=
  ⟨hg.os.trans h.os, hg.tape.trans h.tape, hg.output.trans h.output, Nat.le_trans h.size hg.size,
    fun b hb hp => (hg.block b (Nat.lt_of_lt_of_le hb h.size) (fun e => by have := hr b e.symm; omega)).trans (h.blk b hb hp), h.dl, rb_more h.rb hg.size⟩

/-- behind it nothing that was there at its beginning turns -/
theorem Mod.below_old (h : Mod B T D R Y Y' w w') (k : Below w.heap.size w' w'') : Mod B T D R Y Y' w w'' :=
  ⟨k.os.trans h.os, k.tape.trans h.tape, k.output.trans h.output, Nat.le_trans h.size k.size, fun b hb hp => (k.block b hb).trans (h.blk b hb hp), h.dl, rb_more h.rb k.size⟩

/-- but for the count of draws the world is as it was -/
structure Same (w w' : World) : Prop where
  os : w'.os = w.os
  tape : w'.tape = w.tape
  output : w'.output = w.output
  heap : w'.heap = w.heap
theorem Same.refl (w : World) : Same w w := ⟨rfl, rfl, rfl, rfl⟩
theorem Same.drew (w : World) : Same w w.drew := ⟨rfl, rfl, rfl, rfl⟩
theorem Same.drewN {k : Nat} (h : w' = w.drewN k) : Same w w' := by subst h; exact ⟨rfl, rfl, rfl, rfl⟩
theorem Same.trans (h : Same w w') (k : Same w' w'') : Same w w'' := ⟨k.os.trans h.os, k.tape.trans h.tape, k.output.trans h.output, k.heap.trans h.heap⟩
theorem Same.cell (h : Same w w') (a : Addr) : w'.cell? a = w.cell? a := by simp [World.cell?, h.heap]
theorem Same.frozen (h : Same w w') (a : Addr) : w'.frozen? a = w.frozen? a := by simp [World.frozen?, h.heap]
theorem Same.size (h : Same w w') : w'.heap.size = w.heap.size := by rw [h.heap]
theorem Same.blk (h : Same w w') {g t : Nat} {cs : Array Value} (hb : Blk w g t cs) : Blk w' g t cs := by unfold Blk; rw [h.heap]; exact hb
theorem Same.own (h : Same w w') {b e size n : Nat} {v : Value} {xs : List Value} (ho : w.ownsRow b e size v n xs) : w'.ownsRow b e size v n xs := by unfold World.ownsRow; rw [h.heap]; exact ho
theorem Same.below (h : Same w w') (b : Nat) : Below b w w' := ⟨h.os, h.tape, h.output, by rw [h.heap]; exact Nat.le_refl _, fun k _ => by rw [h.heap]⟩
theorem Same.mod (h : Same w w') (B : Nat) (T : List Nat) (D R : Bool) (Y : Sys) : Mod B T D R Y Y w w' := ⟨h.os, h.tape, h.output, by rw [h.heap]; exact Nat.le_refl _, fun k _ _ => by rw [h.heap], rfl, .inl rfl⟩
theorem Mod.same (m : Mod B T D R Y Y' w w') (h : Same w' w'') : Mod B T D R Y Y' w w'' := m.trans (h.mod B T D R Y')
theorem Same.lt (h : Same w w') {b : Nat} (hb : b < w.heap.size) : b < w'.heap.size := by rw [h.heap]; exact hb

abbrev i64 (n : Int) : Value := .int .i64 n

/-- may a block be relied on over calls that respect B and Y (element type t)? -/
def Safe (B : Nat) (Y : Sys) (t : TypeId) (w : World) (b : Nat) : Prop := b < w.heap.size ∧ (B ≤ b → b ≠ Y.dl ∧ some b ≠ Y.rb ∧ ty w b = some t)
theorem Safe.mod {t b : Nat} (h : Safe B Y t w b) (m : Mod B T D R Y Y' w w') (hT : t ∉ T) : Safe B Y' t w' b ∧ w'.heap[b]? = w.heap[b]? := by
  have e := m.blk b h.1 fun hB => ⟨fun _ => (h.2 hB).1, fun _ => (h.2 hB).2.1, fun t' ht => by rw [(h.2 hB).2.2] at ht; injection ht with ht; exact ht ▸ hT⟩
  refine ⟨⟨Nat.lt_of_lt_of_le h.1 m.size, fun hB => ⟨by rw [m.dl]; exact (h.2 hB).1, ?_, ?_⟩⟩, e⟩
  · rcases m.rb with hm | ⟨g, hm, hg, _⟩
    · rw [hm]; exact (h.2 hB).2.1
    · rw [hm]; intro hx; injection hx with hx; have := h.1; omega
  · have := (h.2 hB).2.2
    unfold ty at this ⊢
    rw [e]; exact this

/-- a slice value that reads as the cells xs (each element one cell), in rows of element type t -/
def Sl (B : Nat) (Y : Sys) (t : TypeId) (w : World) (v : Value) (xs : List Value) : Prop :=
  ∃ a c, v = .slice a xs.length c ∧ xs.length ≤ c ∧ c ≤ maxLen ∧
    (0 < xs.length → ∃ b off, a = some ⟨b, off, none⟩ ∧ Safe B Y t w b ∧ ∀ i u, xs[i]? = some u → w.cell? ⟨b, off + i, none⟩ = some u)
theorem Sl.mod {t : Nat} {v : Value} {xs : List Value} (h : Sl B Y t w v xs) (m : Mod B T D R Y Y' w w') (hT : t ∉ T) : Sl B Y' t w' v xs := by
  obtain ⟨a, c, rfl, hc, hc2, h⟩ := h
  refine ⟨a, c, rfl, hc, hc2, fun h0 => ?_⟩
  obtain ⟨b, off, rfl, hs, hcell⟩ := h h0
  obtain ⟨hs', e⟩ := hs.mod m hT
  refine ⟨b, off, rfl, hs', fun i u hu => ?_⟩
  rw [← hcell i u hu]
  exact World.cell?_of_block e
/-- a row that the call made, fresh when Y was there -/
theorem Sl.own {t : Nat} {v : Value} {n : Nat} {xs : List Value} {base : Nat} (h : w.ownsRow base t 1 v n xs) (hd : Y.dl < base) (hr : ∀ g, Y.rb = some g → g < base) : Sl B Y t w v xs := by
  have hn : xs.length = n := by have := h.1; omega
  rcases h.2 with ⟨rfl, rfl⟩ | ⟨g, cap, cur, rfl, hb, hg, hnc, hcm, hcs, ht⟩
  · have : xs = [] := List.eq_nil_of_length_eq_zero (by omega)
    subst this
    exact ⟨_, _, rfl, by simp, by simp, by simp⟩
  · refine ⟨_, cap, by rw [hn], by omega, hcm, fun _ => ⟨g, 0, rfl, ⟨(Array.getElem?_eq_some_iff.1 hg).1, fun _ => ⟨by omega, fun hx => ?_, by simp [ty, hg]⟩⟩, fun i u hu => ?_⟩⟩
    · have := hr g hx.symm; omega
    · rw [Nat.zero_add, cell_of_row w g i cur t (0, 0) hg]
      rw [← ht, List.getElem?_take] at hu
      split at hu
      · simpa using hu
      · cases hu

/-- a byte as the model's value; a slice that reads as bytes -/
def bv (b : UInt8) : Value := .int .u8 (b.toNat : Int)
def Byts (B : Nat) (Y : Sys) (w : World) (v : Value) (bs : List UInt8) : Prop := Sl B Y 5 w v (bs.map bv)
theorem Byts.mod {v : Value} {bs : List UInt8} (h : Byts B Y w v bs) (m : Mod B T D R Y Y' w w') (hT : 5 ∉ T) : Byts B Y' w' v bs := Sl.mod h m hT
theorem bv_one (bs : List UInt8) : ∀ u ∈ bs.map bv, u.oneCell' = true := by
  intro u hu
  obtain ⟨_, _, rfl⟩ := List.mem_map.1 hu
  rfl

end Go.Proofs.YtllhgbanbelmaaaGreat

/- What a call may change that hands a row of its caller's on, grown: that row alone. -/
import Derived.Test.YtllhgbanbelmaaaGreatPoolc
import Derived.Test.YtllhgbanbelmaaaGreatPlanb
namespace Go.Proofs.YtllhgbanbelmaaaGreat
open Go.RowKit
variable {B : Nat} {T : List Nat} {D R : Bool} {Y Y' : Sys} {w w' w'' : World} {r r' r'' : Option Nat}

/-- from w to w' nothing old changed but the row r; what was r is r' now: the same row, or a new one -/
structure Grew (w w' : World) (r r' : Option Nat) : Prop where
  grown : w.grownBy w' r
  own : r' = r ∨ ∃ g, r' = some g ∧ w.heap.size ≤ g
theorem Grew.refl (w : World) (r : Option Nat) : Grew w w r r := ⟨World.grownBy.refl _ _, .inl rfl⟩
theorem Grew.size (h : Grew w w' r r') : w.heap.size ≤ w'.heap.size := h.grown.size
theorem Grew.block (h : Grew w w' r r') {k : Nat} (hk : k < w.heap.size) (hr : r ≠ some k) : w'.heap[k]? = w.heap[k]? := h.grown.block k hk hr.symm
theorem Grew.trans (h : Grew w w' r r') (h2 : Grew w' w'' r' r'') : Grew w w'' r r'' := by
  refine ⟨⟨h2.grown.os.trans h.grown.os, h2.grown.tape.trans h.grown.tape, h2.grown.output.trans h.grown.output, Nat.le_trans h.size h2.size, fun k hk hr => ?_⟩, ?_⟩
  · refine (h2.grown.block k (Nat.lt_of_lt_of_le hk h.size) ?_).trans (h.grown.block k hk hr)
    rcases h.own with e | ⟨g, e, hg⟩
    · rw [e]; exact hr
    · rw [e]
      intro e2
      injection e2 with e2
      omega
  · rcases h2.own with e | ⟨g, e, hg⟩
    · rw [e]; exact h.own
    · exact .inr ⟨g, e, Nat.le_trans h.size hg⟩
theorem Grew.alloc (h : Grew w w' r r') (o : Obj) : Grew w (w'.alloc o) r r' := ⟨grown_alloc h.grown o, h.own⟩
theorem Grew.drew (h : Grew w w' r r') : Grew w w'.drew r r' := ⟨grown_drew h.grown, h.own⟩
theorem Grew.same (h : Grew w w' r r') (hs : Same w' w'') : Grew w w'' r r' :=
  ⟨⟨(hs.below 0).os.trans h.grown.os, (hs.below 0).tape.trans h.grown.tape, (hs.below 0).output.trans h.grown.output, Nat.le_trans h.size (hs.below 0).size, fun k hk hr => by rw [hs.heap]; exact h.grown.block k hk hr⟩, h.own⟩
theorem Grew.app (hg : w.grownBy w' r) (ho : r' = r ∨ r' = some w.heap.size) : Grew w w' r r' := ⟨hg, ho.imp id fun e => ⟨_, e, Nat.le_refl _⟩⟩
/-- a call that makes new memory alone -/
theorem Grew.new (h : Below w.heap.size w w') (r : Option Nat) : Grew w w' r r := ⟨⟨h.os, h.tape, h.output, h.size, fun k hk _ => h.block k hk⟩, .inl rfl⟩
theorem Grew.below (h : Grew w w' r r') (hB : B ≤ w.heap.size) (hr : ∀ k, r = some k → B ≤ k) : Below B w w' := (Below.refl _ _).grown h.grown hB hr
theorem Grew.blk (h : Grew w w' r r') {k t : Nat} {cs : Array Value} (hb : Blk w k t cs) (hr : r ≠ some k) : Blk w' k t cs := hb.at_ (h.block hb.lt hr)
theorem Grew.src (h : Grew w w' r r') {x : Value} {m : Nat} {news : List Value} (hx : Src w x m news) (hr : ∀ b, x.ownBlock = some b → r ≠ some b) : Src w' x m news := by
  obtain ⟨a, c, rfl, hx⟩ := hx
  refine ⟨a, c, rfl, fun hne => ?_⟩
  obtain ⟨b, off, rfl, hc⟩ := hx hne
  refine ⟨b, off, rfl, fun j u hu => ?_⟩
  have h1 := hc j u hu
  rw [World.cell?_of_block (a := ⟨b, off + j, none⟩) (h.block (World.block_lt_of_cell? w ⟨b, off + j, none⟩ h1) (hr b rfl))]
  exact h1
theorem own_ge {base e size n b : Nat} {v : Value} {xs : List Value} (h : w.ownsRow base e size v n xs) (hb : v.ownBlock = some b) : base ≤ b := by
  rcases h.2 with ⟨rfl, _⟩ | ⟨g, cap, cur, rfl, hg, _⟩
  · simp [Value.ownBlock] at hb
  · simp [Value.ownBlock] at hb
    omega
theorem own_lt {base e size n b : Nat} {v : Value} {xs : List Value} (h : w.ownsRow base e size v n xs) (hb : v.ownBlock = some b) : b < w.heap.size := by
  rcases h.2 with ⟨rfl, _⟩ | ⟨g, cap, cur, rfl, hg, hw, _⟩
  · simp [Value.ownBlock] at hb
  · simp [Value.ownBlock] at hb
    subst hb
    rcases Nat.lt_or_ge g w.heap.size with h | h
    · exact h
    · rw [Array.getElem?_eq_none h] at hw
      cases hw
theorem Src.mono {x : Value} {m : Nat} {news : List Value} (h : Src w x m news) (hb : Below w.heap.size w w') : Src w' x m news :=
  (Grew.new hb none).src h fun _ _ => by simp
end Go.Proofs.YtllhgbanbelmaaaGreat

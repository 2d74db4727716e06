/- store: the open sessions as a list, each with its updates; what keeps them. -/
import Derived.Test.YtllhgbanbelmaaaGreatStd
namespace Go.Proofs.YtllhgbanbelmaaaGreat
open Go.RowKit
variable {B : Nat} {T : List Nat} {D R : Bool} {Y Y' : Sys} {w w' : World}

/-- an open session: its block, its numbers, the slice of its updates, these -/
structure TxS where
  t : Nat
  id : Int
  first : Int
  last : Int
  l : Value
  us : List UpdS
/-- a session as it lies in memory -/
structure TxAt (B : Nat) (Y : Sys) (w : World) (x : TxS) : Prop where
  ge : B ≤ x.t
  blk : Blk w x.t 120 (txnCells x.id x.first x.last x.l)
  own : w.ownsRow B 206 5 x.l x.us.length (x.us.flatMap updCells)
  upd : ∀ u, u ∈ x.us → u.bs.length ≤ 504 ∧ Byts B Y w u.v u.bs
/-- two sessions share nothing -/
def TxApart (x y : TxS) : Prop := x.t ≠ y.t ∧ (∀ g, x.l.ownBlock = some g → y.l.ownBlock ≠ some g) ∧ x.id ≠ y.id
structure OpensAt (B : Nat) (Y : Sys) (w : World) (opens : Value) (ts : List TxS) : Prop where
  own : w.ownsRow B 106 1 opens ts.length (ts.map fun x => .pointer (some ⟨x.t, 0, none⟩))
  tx : ∀ x, x ∈ ts → TxAt B Y w x
  apart : ts.Pairwise TxApart
theorem own_mod' {b0 e size n : Nat} {v : Value} {xs : List Value} (h : w.ownsRow b0 e size v n xs) (m : Mod B T D R Y Y' w w') (hT : e ∉ T) (hD : D = true → ∃ cs, Blk w Y.dl 48 cs) (hR : R = true → ∀ g, Y.rb = some g → ∃ cs, Blk w g 5 cs) (h48 : e ≠ 48) (h5 : e ≠ 5) :
    w'.ownsRow b0 e size v n xs := by
  refine own_mod h m hT (fun hd g hg => ?_) (fun hr g hg hx => ?_)
  · obtain ⟨cs, hb⟩ := hD hd
    have h1 := own_ty h g hg
    rintro rfl
    rw [hb.ty] at h1
    injection h1 with h1
    exact h48 h1.symm
  · obtain ⟨cs, hb⟩ := hR hr g hx.symm
    have h1 := own_ty h g hg
    rw [hb.ty] at h1
    injection h1 with h1
    exact h5 h1.symm
theorem Mod.keep' {g t : Nat} {cs : Array Value} (hb : Blk w g t cs) (m : Mod B T D R Y Y' w w') (hT : t ∉ T) (hD : D = true → ∃ cs, Blk w Y.dl 48 cs) (hR : R = true → ∀ g, Y.rb = some g → ∃ cs, Blk w g 5 cs) (h48 : t ≠ 48) (h5 : t ≠ 5) : Blk w' g t cs := by
  refine m.keep hb hT (fun hd => ?_) (fun hr hx => ?_)
  · obtain ⟨cs, hb'⟩ := hD hd
    exact hb.ne_ hb' h48
  · obtain ⟨cs, hb'⟩ := hR hr g hx.symm
    exact hb.ne_ hb' h5 rfl
theorem TxAt.mod {x : TxS} (h : TxAt B Y w x) (m : Mod B T D R Y Y' w w') (hT : ∀ t, t ∈ T → t ≠ 120 ∧ t ≠ 206 ∧ t ≠ 5) (hD : D = true → ∃ cs, Blk w Y.dl 48 cs) (hR : R = true → ∀ g, Y.rb = some g → ∃ cs, Blk w g 5 cs) : TxAt B Y' w' x :=
  ⟨h.ge, m.keep' h.blk (fun x => (hT _ x).1 rfl) hD hR (by decide) (by decide), own_mod' h.own m (fun x => (hT _ x).2.1 rfl) hD hR (by decide) (by decide), fun u hu => ⟨(h.upd u hu).1, (h.upd u hu).2.mod m (fun x => (hT _ x).2.2 rfl)⟩⟩
theorem OpensAt.mod {opens : Value} {ts : List TxS} (h : OpensAt B Y w opens ts) (m : Mod B T D R Y Y' w w') (hT : ∀ t, t ∈ T → t ≠ 106 ∧ t ≠ 120 ∧ t ≠ 206 ∧ t ≠ 5) (hD : D = true → ∃ cs, Blk w Y.dl 48 cs) (hR : R = true → ∀ g, Y.rb = some g → ∃ cs, Blk w g 5 cs) : OpensAt B Y' w' opens ts :=
  ⟨own_mod' h.own m (fun x => (hT _ x).1 rfl) hD hR (by decide) (by decide), fun x hx => (h.tx x hx).mod m (fun t ht => (hT t ht).2) hD hR, h.apart⟩
theorem OpensAt.below {opens : Value} {ts : List TxS} (h : OpensAt B Y w opens ts) (hb : Below w.heap.size w w') : OpensAt B Y w' opens ts := h.mod (mod_below B [] false false Y hb) (by simp) (by simp) (by simp)
theorem OpensAt.nil (B : Nat) (Y : Sys) (w : World) : OpensAt B Y w (.slice none 0 0) [] := ⟨World.ownsRow_nil _ _ _ _, by simp, .nil⟩
/-- the bytes that are kept for going back -/
def keptUs (us : List UpdS) : Nat := (us.map fun u => 96 + u.bs.length).sum
def kept (ts : List TxS) : Nat := (ts.map fun x => 192 + keptUs x.us).sum
/-- does one of n bytes at off of page p lie in an update of another session than id? -/
def busyB (ts : List TxS) (id p off n : Int) : Bool := ts.any fun x => x.us.any fun u => !(x.id == id) && decide (0 < n) && (u.page == p) && decide (u.off < off + n) && decide (off < u.off + u.bs.length)
end Go.Proofs.YtllhgbanbelmaaaGreat

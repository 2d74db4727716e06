/- store: what the open sessions keep of the log (reserved), whether a write is busy. -/
import Derived.Test.YtllhgbanbelmaaaGreatStc
namespace Go.Proofs.YtllhgbanbelmaaaGreat
open Go.RowKit
variable {B : Nat} {T : List Nat} {D R : Bool} {Y Y' : Sys} {w w' : World}
theorem sl118 : SlT Tryz.prog 118 206 5 56 (.agg #[.int .i64 0, .int .i64 0, .int .i64 0, .int .i64 0, .slice none 0 0]) := .mk' (by kernel_rfl) (by kernel_rfl) rfl (by decide)
structure UpdS where
  lsn : Int
  prev : Int
  page : Int
  off : Int
  v : Value
  bs : List UInt8
def updCells (x : UpdS) : List Value := [i64 x.lsn, i64 x.prev, i64 x.page, i64 x.off, x.v]
theorem flat_get {α : Type} {f : α → List Value} {m : Nat} (hf : ∀ x, (f x).length = m) : ∀ (xs : List α) (j : Nat) (x : α), xs[j]? = some x → ∀ i, i < m → (xs.flatMap f)[j * m + i]? = (f x)[i]?
  | [], j, x, h, _, _ => by simp at h
  | y :: xs, 0, x, h, i, hi => by
    simp at h; subst h
    rw [List.flatMap_cons, Nat.zero_mul, Nat.zero_add, List.getElem?_append_left (by rw [hf]; exact hi)]
  | y :: xs, j + 1, x, h, i, hi => by
    have := flat_get hf xs j x (by simpa using h) i hi
    rw [List.flatMap_cons, show (j + 1) * m + i = (f y).length + (j * m + i) by rw [hf, Nat.succ_mul]; omega, List.getElem?_append_right (by omega), Nat.add_sub_cancel_left]
    exact this
end Go.Proofs.YtllhgbanbelmaaaGreat

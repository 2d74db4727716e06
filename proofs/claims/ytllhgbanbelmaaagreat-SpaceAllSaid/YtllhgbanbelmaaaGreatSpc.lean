/- space under one session: told by the map's bytes and the room that is left. -/
import Derived.Test.YtllhgbanbelmaaaGreatOpf
namespace Go.Proofs.YtllhgbanbelmaaaGreat
open Go.RowKit
variable {B : Nat} {T : List Nat} {D R : Bool} {Y Y' : Sys} {w w' : World} {s : Nat} {σ σ' : StS}

def avail (σ : StS) : Int := σ.free - kept σ.ts
theorem splice_part (l : List UInt8) (off : Nat) (bs : List UInt8) (h : bs = part l off bs.length) (hl : off + bs.length ≤ l.length) : splice l off bs = l := by
  unfold splice
  unfold part at h
  have h2 : bs ++ l.drop (off + bs.length) = l.drop off := by
    conv => lhs; lhs; rw [h]
    rw [← List.drop_drop, List.take_append_drop]
  rw [h2, List.take_append_drop]
theorem splice_one (l : List UInt8) (i : Nat) (b : UInt8) (h : i < l.length) : splice l i [b] = l.set i b := by
  unfold splice
  rw [List.set_eq_take_append_cons_drop, if_pos h]
  rfl
theorem kept_set (ts : List TxS) (i : Nat) (x x' : TxS) (hx : ts[i]? = some x) : kept (ts.set i x') + (192 + keptUs x.us) = kept ts + (192 + keptUs x'.us) := by
  induction ts generalizing i with
  | nil => simp at hx
  | cons y ts ih =>
    cases i with
    | zero =>
      simp at hx
      subst hx
      simp only [List.set_cons_zero, kept, List.map_cons, List.sum_cons]
      omega
    | succ i =>
      have := ih i (by simpa using hx)
      simp only [kept] at this
      simp only [List.set_cons_succ, kept, List.map_cons, List.sum_cons]
      omega
theorem keptUs_snoc (us : List UpdS) (u : UpdS) : keptUs (us ++ [u]) = keptUs us + (96 + u.bs.length) := by
  simp only [keptUs, List.map_append, List.sum_append, List.map_cons, List.map_nil, List.sum_cons, List.sum_nil, Nat.add_zero]
section
variable {i n off : Nat} {x : TxS} {bs : List UInt8}
theorem Wr.np (h : Wr σ i x n off bs σ') : σ'.np = σ.np := by rcases h with ⟨_, rfl⟩ | ⟨_, _, _, rfl⟩ <;> rfl
theorem Wr.S (h : Wr σ i x n off bs σ') : σ'.S = σ.S := by rcases h with ⟨_, rfl⟩ | ⟨_, _, _, rfl⟩ <;> rfl
theorem Wr.next (h : Wr σ i x n off bs σ') : σ'.next = σ.next := by rcases h with ⟨_, rfl⟩ | ⟨_, _, _, rfl⟩ <;> rfl
theorem Wr.content (h : Wr σ i x n off bs σ') (hl : off + bs.length ≤ (σ.content n).length) (m : Nat) : σ'.content m = if m = n then splice (σ.content n) off bs else σ.content m := by
  rcases h with ⟨h1, rfl⟩ | ⟨_, _, _, rfl⟩
  · split
    · next e => rw [e, splice_part _ _ _ h1 hl]
    · rfl
  · rfl
theorem Wr.avail (h : Wr σ i x n off bs σ') (hx : σ.ts[i]? = some x) (hl : off + bs.length ≤ (σ.content n).length) : avail σ - (192 + 3 * bs.length) ≤ avail σ' := by
  rcases h with ⟨h1, rfl⟩ | ⟨lsn, l, vb, rfl⟩
  · omega
  · have := kept_set σ.ts i x { x with last := lsn, l := l, us := x.us ++ [⟨lsn, x.last, n, off, vb, part (σ.content n) off bs.length⟩] } hx
    unfold YtllhgbanbelmaaaGreat.avail wroteS
    simp only [keptUs_snoc] at this
    have hp : (part (σ.content n) off bs.length).length = bs.length := by unfold part; rw [List.length_take, List.length_drop]; omega
    rw [hp] at this
    simp only
    omega
theorem Wr.one (h : Wr σ 0 x n off bs σ') (hx : σ.ts = [x]) : ∃ x', σ'.ts = [x'] ∧ x'.id = x.id := by
  rcases h with ⟨_, rfl⟩ | ⟨_, _, _, rfl⟩
  · exact ⟨x, hx, rfl⟩
  · unfold wroteS
    rw [hx]
    exact ⟨_, rfl, rfl⟩
end
theorem busy_one (x : TxS) (p off n : Int) : busyB [x] x.id p off n = false := by
  unfold busyB
  simp
/-- one session, the map on page 0 reads as c, at least so much room is left -/
def Sp (B : Nat) (Y : Sys) (w : World) (s np : Nat) (id : Int) (c : List UInt8) (a : Int) : Prop :=
  ∃ σ x, StoreAt B Y w s σ ∧ σ.np = np ∧ 0 ∈ σ.S ∧ σ.ts = [x] ∧ x.id = id ∧ σ.content 0 = c ∧ a ≤ avail σ
variable {np : Nat} {id : Int} {c : List UInt8} {a : Int}
theorem Sp.below (h : Sp B Y w s np id c a) (hb : Below w.heap.size w w') : Sp B Y w' s np id c a := let ⟨σ, x, h, r⟩ := h; ⟨σ, x, h.below hb, r⟩
theorem Sp.len (h : Sp B Y w s np id c a) (h1 : 1 ≤ np) : c.length = 504 := by
  obtain ⟨σ, x, h, rfl, hS, hts, rfl, rfl, ha⟩ := h
  exact h.len (by omega)
theorem Sp.wr {σ : StS} {x : TxS} {off : Nat} {bs : List UInt8} (hts : σ.ts = [x]) (hS : 0 ∈ σ.S) (ha : a ≤ avail σ) {σ' : StS} {Y' : Sys} (hs : StoreAt B Y' w' s σ') (hw : Wr σ 0 x 0 off bs σ') (hl : off + bs.length ≤ (σ.content 0).length) :
    Sp B Y' w' s σ.np x.id (splice (σ.content 0) off bs) (a - (192 + 3 * bs.length)) := by
  obtain ⟨x', h1, h2⟩ := hw.one hts
  refine ⟨σ', x', hs, hw.np, by rw [hw.S]; exact hS, h1, h2, by rw [hw.content hl, if_pos rfl], ?_⟩
  have := hw.avail (by rw [hts]; rfl) hl
  omega
def SpTook (B : Nat) (Y : Sys) (w : World) (s np : Nat) (id : Int) (c : List UInt8) (a : Int) (i : Nat) (e : Ending) (w' : World) : Prop :=
  e = .returned (.tuple #[i64 i, i64 0]) ∧ ∃ Y', Mod B StT false true Y Y' w w' ∧ Sp B Y' w' s np id (c.set i 1) (a - 195)
theorem sp_take (h : Sp B Y w s np id c a) (h0 : 1 ≤ np) (h1 : np < 504) (i : Nat) (hi : i < np) (hz : isSet c i = false) (hbef : ∀ j, j < i → isSet c j = true) (ha : 2243 ≤ a) :
    Calls Tryz.prog 15 #[.pointer (some ⟨s, 0, none⟩), i64 id] w (SpTook B Y w s np id c a i) := by
  obtain ⟨σ, x, h, rfl, hS, hts, rfl, rfl, hav⟩ := h
  have hlen := h.len (n := 0) (by omega)
  refine (take15 h 0 x (by rw [hts]; rfl) h0 h1 hS i hi hz (by rw [hts]; exact busy_one _ _ _ _) (fun j hj => .inl (hbef j hj)) (by unfold avail at hav; omega)).mono ?_
  rintro e w1 ⟨rfl, Y1, σ1, hm, hs, hw⟩
  have hl : i + ([1] : List UInt8).length ≤ (σ.content 0).length := by simp; omega
  have := Sp.wr hts hS hav hs hw hl
  rw [splice_one _ _ _ (by omega)] at this
  exact ⟨rfl, Y1, hm, this⟩
def SpAns (B : Nat) (Y : Sys) (w : World) (s np : Nat) (id : Int) (c : List UInt8) (a : Int) (v : Value) (e : Ending) (w' : World) : Prop :=
  e = .returned v ∧ Mod B StT false false Y Y w w' ∧ Sp B Y w' s np id c a
theorem sp_taken (h : Sp B Y w s np id c a) (h1 : np < 504) (p : Nat) (hp : p < np) :
    Calls Tryz.prog 18 #[.pointer (some ⟨s, 0, none⟩), i64 p] w (SpAns B Y w s np id c a (.tuple #[.bool (isSet c p), i64 0])) := by
  obtain ⟨σ, x, h, rfl, hS, hts, rfl, rfl, hav⟩ := h
  refine (taken18 h (Nat.le_of_lt h1) hS p hp).mono ?_
  rintro e w1 ⟨rfl, hm, hs⟩
  exact ⟨rfl, hm, σ, x, hs, rfl, hS, hts, rfl, rfl, hav⟩
theorem sp_taken_out (h : Sp B Y w s np id c a) (p : Int) (hp : p < 0 ∨ (np : Int) ≤ p) :
    Calls Tryz.prog 18 #[.pointer (some ⟨s, 0, none⟩), i64 p] w fun e w' => e = .returned (.tuple #[.bool false, i64 1]) ∧ w = w' := by
  obtain ⟨σ, x, h, rfl, hS, hts, rfl, rfl, hav⟩ := h
  exact taken18_out h p hp
theorem sp_count (h : Sp B Y w s np id c a) (h0 : 1 ≤ np) (h1 : np < 504) :
    Calls Tryz.prog 17 #[.pointer (some ⟨s, 0, none⟩)] w (SpAns B Y w s np id c a (.tuple #[i64 (cntB c np), i64 0])) := by
  obtain ⟨σ, x, h, rfl, hS, hts, rfl, rfl, hav⟩ := h
  refine (count17 h h0 h1 hS).mono ?_
  rintro e w1 ⟨rfl, hm, hs⟩
  exact ⟨rfl, hm, σ, x, hs, rfl, hS, hts, rfl, rfl, hav⟩
def SpGave (B : Nat) (Y : Sys) (w : World) (s np : Nat) (id : Int) (c : List UInt8) (a : Int) (e : Ending) (w' : World) : Prop :=
  e = .returned (i64 0) ∧ ∃ Y', Mod B StT false true Y Y' w w' ∧ Sp B Y' w' s np id c a
theorem sp_give (h : Sp B Y w s np id c a) (h1 : np < 504) (p : Nat) (hp : p < np) (hp1 : 1 ≤ p) (hset : isSet c p = true) (ha : 2243 ≤ a) :
    Calls Tryz.prog 21 #[.pointer (some ⟨s, 0, none⟩), i64 id, i64 p] w (SpGave B Y w s np id (c.set p 0) (a - 195)) := by
  obtain ⟨σ, x, h, rfl, hS, hts, rfl, rfl, hav⟩ := h
  have hlen := h.len (n := 0) (by omega)
  refine (give21_ok h 0 x (by rw [hts]; rfl) h1 hS p hp hp1 hset (by rw [hts]; exact busy_one _ _ _ _) (by unfold avail at hav; omega)).mono ?_
  rintro e w1 ⟨rfl, Y1, σ1, hm, hs, hw⟩
  have := Sp.wr hts hS hav hs hw (by simp; omega)
  rw [splice_one _ _ _ (by omega)] at this
  exact ⟨rfl, Y1, hm, this⟩
theorem sp_give_no (h : Sp B Y w s np id c a) (h1 : np < 504) (p : Nat) (hp : p < np) (hno : p < 1 ∨ isSet c p = false) :
    Calls Tryz.prog 21 #[.pointer (some ⟨s, 0, none⟩), i64 id, i64 p] w (SpAns B Y w s np id c a (i64 1)) := by
  obtain ⟨σ, x, h, rfl, hS, hts, rfl, rfl, hav⟩ := h
  refine (give21_no h _ h1 hS p hp hno).mono ?_
  rintro e w1 ⟨rfl, hm, hs⟩
  exact ⟨rfl, hm, σ, x, hs, rfl, hS, hts, rfl, rfl, hav⟩
theorem sp_format (h : Sp B Y w s np id c a) (h0 : 1 ≤ np) (h1 : np < 504) (ha : 2243 ≤ a) :
    Calls Tryz.prog 82 #[.pointer (some ⟨s, 0, none⟩), i64 id] w (SpGave B Y w s np id (c.set 0 1) (a - 195)) := by
  obtain ⟨σ, x, h, rfl, hS, hts, rfl, rfl, hav⟩ := h
  have hlen := h.len (n := 0) (by omega)
  refine (format82 h 0 x (by rw [hts]; rfl) h0 h1 hS (by rw [hts]; exact busy_one _ _ _ _) (by unfold avail at hav; omega)).mono ?_
  rintro e w1 ⟨rfl, Y1, σ1, hm, hs, hw⟩
  have := Sp.wr hts hS hav hs hw (by simp; omega)
  rw [splice_one _ _ _ (by omega)] at this
  exact ⟨rfl, Y1, hm, this⟩
end Go.Proofs.YtllhgbanbelmaaaGreat

/- store: what the proof of Write takes. -/
import Derived.Test.YtllhgbanbelmaaaGreatStn
namespace Go.Proofs.YtllhgbanbelmaaaGreat
open Go.RowKit
variable {B : Nat} {T : List Nat} {D R : Bool} {Y Y' : Sys} {w w' : World} {s : Nat} {σ : StS} {η : StH}

theorem clip109x (a : Option Addr) (n c : Nat) (w : World) (hc : n ≤ c) (hc2 : c ≤ maxLen) :
    Calls Tryz.prog 109 #[.slice a n c] w fun e w' => e = .returned (.slice a n n) ∧ w = w' := by
  unfold maxLen at hc2
  go_enter Tryz.func109, Tryz.ntmps109
  go_wp2
  go_ret
  exact ⟨rfl, rfl⟩
theorem own_cap {base e n c : Nat} {a : Option Addr} {xs : List Value} (h : w.ownsRow base e 1 (.slice a n c) n xs) : n ≤ c ∧ c ≤ maxLen := by
  obtain ⟨_, _, e, h1, h2⟩ := own_form h
  injection e with _ _ e
  subst e
  exact ⟨h1, h2⟩
theorem rec_store {w w4 : World} {a : Nat} (hb : Blk w a 112 #[.int .i64 0, .int .i64 0, .int .i64 0, .int .i64 0, .int .i64 0, .int .i64 0, .slice none 0 0, .slice none 0 0, .slice none 0 0, .slice none 0 0, .int .i64 0]) (v0 v1 v2 v3 v4 v5 v6 v7 v8 v9 v10 : Value)
    (e : (((((((((((w.setCell ⟨a, 0, none⟩ v0).setCell ⟨a, 1, none⟩ v1).setCell ⟨a, 2, none⟩ v2).setCell ⟨a, 3, none⟩ v3).setCell ⟨a, 4, none⟩ v4).setCell ⟨a, 5, none⟩ v5).setCell ⟨a, 6, none⟩ v6).setCell ⟨a, 7, none⟩ v7).setCell ⟨a, 8, none⟩ v8).setCell ⟨a, 9, none⟩ v9).setCell ⟨a, 10, none⟩ v10) = w4) :
    Blk w4 a 112 #[v0, v1, v2, v3, v4, v5, v6, v7, v8, v9, v10] ∧ w.grownBy w4 (some a) := by
  subst e
  have h := ((((((((((hb.set_ 0 v0).set_ 1 v1).set_ 2 v2).set_ 3 v3).set_ 4 v4).set_ 5 v5).set_ 6 v6).set_ 7 v7).set_ 8 v8).set_ 9 v9).set_ 10 v10
  simp only [List.setIfInBounds_toArray, List.set_cons_zero, List.set_cons_succ] at h
  refine ⟨h, ?_⟩
  iterate 11 refine grown_set ?_ (.inl rfl) _
  exact World.grownBy.refl _ _
/-- the record of a write as it lies: its block, copies of what was and what is to be -/
def Made16 (w2 : World) (id last n off : Int) (old bs : List UInt8) (L : Nat) (v : Value) (wx : World) : Prop :=
  ∃ a ga ca gb cb, v = .pointer (some ⟨a, 0, none⟩) ∧ Below w2.heap.size w2 wx ∧ w2.heap.size ≤ a ∧
    Blk wx a 112 #[i64 2, i64 id, i64 last, i64 0, i64 n, i64 off, .slice (some ⟨ga, 0, none⟩) L L, .slice (some ⟨gb, 0, none⟩) L L, .slice none 0 0, .slice none 0 0, i64 0] ∧
    wx.ownsRow w2.heap.size 5 1 (.slice (some ⟨ga, 0, none⟩) L ca) L (old.map bv) ∧ wx.ownsRow w2.heap.size 5 1 (.slice (some ⟨gb, 0, none⟩) L cb) L (bs.map bv)
theorem made16 {w2 w4 : World} {a : Nat} {id last n off : Int} {old bs : List UInt8} {L ga ca gb cb : Nat} (hb : Blk w a 112 #[.int .i64 0, .int .i64 0, .int .i64 0, .int .i64 0, .int .i64 0, .int .i64 0, .slice none 0 0, .slice none 0 0, .slice none 0 0, .slice none 0 0, .int .i64 0]) (ha : w2.heap.size ≤ a) (hbe : Below w2.heap.size w2 w)
    (h8 : w.ownsRow w2.heap.size 5 1 (.slice (some ⟨ga, 0, none⟩) L ca) L (old.map bv)) (h11 : w.ownsRow w2.heap.size 5 1 (.slice (some ⟨gb, 0, none⟩) L cb) L (bs.map bv))
    (e : (((((((((((w.setCell ⟨a, 0, none⟩ (i64 2)).setCell ⟨a, 1, none⟩ (i64 id)).setCell ⟨a, 2, none⟩ (i64 last)).setCell ⟨a, 3, none⟩ (i64 0)).setCell ⟨a, 4, none⟩ (i64 n)).setCell ⟨a, 5, none⟩ (i64 off)).setCell ⟨a, 6, none⟩ (.slice (some ⟨ga, 0, none⟩) L L)).setCell ⟨a, 7, none⟩ (.slice (some ⟨gb, 0, none⟩) L L)).setCell ⟨a, 8, none⟩ (.slice none 0 0)).setCell ⟨a, 9, none⟩ (.slice none 0 0)).setCell ⟨a, 10, none⟩ (i64 0)) = w4) :
    Made16 w2 id last n off old bs L (.pointer (some ⟨a, 0, none⟩)) w4 := by
  obtain ⟨h1, h2⟩ := rec_store hb _ _ _ _ _ _ _ _ _ _ _ e
  exact ⟨a, ga, ca, gb, cb, rfl, hbe.grown h2 hbe.size (fun k hk => by injection hk with hk; omega), ha, h1, own_at h8 (fun g hg => h2.block g (own_lt h8 hg) (fun e => own_ne h8 hb (by decide) g hg (by cases e; rfl))), own_at h11 (fun g hg => h2.block g (own_lt h11 hg) (fun e => own_ne h11 hb (by decide) g hg (by cases e; rfl)))⟩


theorem splice_map {α β : Type} (f : α → β) (P : List α) (rest : List β) (o : Nat) (xs : List α) (h : o + xs.length ≤ P.length) : splice (P.map f ++ rest) o (xs.map f) = (splice P o xs).map f ++ rest := by
  unfold splice
  rw [List.take_append_of_le_length (by simp; omega), List.length_map, List.drop_append_of_le_length (by simp; omega)]
  simp
theorem splice_drop8 (P E bs : List UInt8) (off : Nat) (hE : E.length = 8) (hP : P.length = 512) (hl : off + bs.length ≤ 504) : (splice (splice P 0 E) (8 + off) bs).drop 8 = splice (P.drop 8) off bs := by
  have h1 : splice P 0 E = E ++ P.drop 8 := by unfold splice; rw [List.take_zero, List.nil_append, Nat.zero_add, hE]
  rw [h1]
  generalize P.drop 8 = C
  have h2 : splice (E ++ C) (8 + off) bs = E ++ splice C off bs := by
    unfold splice
    rw [← hE, List.take_length_add_append, Nat.add_assoc, List.drop_length_add_append, List.append_assoc]
  rw [h2, ← hE, List.drop_left]
theorem src_clip {n c c' m : Nat} {a : Option Addr} {xs : List Value} (h : Src w (.slice a n c) m xs) : Src w (.slice a n c') m xs := by
  obtain ⟨A, C, e, h⟩ := h
  injection e with e1 e2 e3
  subst e1 e2 e3
  exact ⟨_, _, rfl, h⟩
theorem row_page {base n g c : Nat} {xs : List Value} (h : w.ownsRow base 5 1 (.slice (some ⟨g, 0, none⟩) n c) n xs) : ∃ rest, Blk w g 5 (xs ++ rest).toArray := by
  rcases h.2 with ⟨e, _⟩ | ⟨g', cap, cur, e, _, hw, _, _, _, ht⟩
  · cases e
  · injection e with e _ _
    injection e with e
    injection e with e _ _
    subst e
    refine ⟨cur.toList.drop (n * 1), ?_⟩
    rw [← ht, List.take_append_drop]
    exact hw
theorem CoreAt.join {d r f p np : Nat} {ρ ρ' : RingS} {S L : List Nat} {pages : Nat → List UInt8} (h : CoreAt B Y w d r f p np ρ S pages L) (m : Mod B T false true Y Y' w w') (hT : ∀ t, t ∈ T → t ∉ [5, 48, 250, 242, 244, 157, 159]) (hr : RingAt B Y' w' r d ρ') : CoreAt B Y' w' d r f p np ρ' S pages L := by
  obtain ⟨nd, k, ffr, view, fv, fr, h⟩ := h
  have hT' : ∀ t, t ∈ T → ∀ u, u ∈ [5, 48, 250, 242, 244, 157, 159] → t ≠ u := fun t ht u hu e => hT t ht (e ▸ hu)
  exact ⟨nd, k, ffr, view, fv, fr, h.dev.modR m (fun _ => h.ring.rbBlk) (fun t ht => ⟨hT' t ht _ (by decide), hT' t ht _ (by decide), hT' t ht _ (by decide), hT' t ht _ (by decide)⟩), h.hk, h.hn8, hr,
    h.file.mod m (fun ht => hT _ ht (by decide)) (by simp) (fun _ => h.ring.rbBlk), h.hfn, h.pool.mod m (fun t ht => ⟨hT' t ht _ (by decide), hT' t ht _ (by decide), hT' t ht _ (by decide)⟩) (by simp) (fun _ => h.ring.rbBlk), h.inS, h.lenS, h.pg, h.ld⟩
theorem CoreAt.ringAt {d r f p np : Nat} {ρ : RingS} {S L : List Nat} {pages : Nat → List UInt8} (h : CoreAt B Y w d r f p np ρ S pages L) : RingAt B Y w r d ρ := let ⟨_, _, _, _, _, _, h⟩ := h; h.ring
theorem us_le_kept {ts : List TxS} {x : TxS} (hx : x ∈ ts) : x.us.length ≤ kept ts := by
  have h1 : x.us.length ≤ keptUs x.us := by
    unfold keptUs
    generalize x.us = us
    induction us with
    | nil => simp
    | cons u us ih => simp only [List.map_cons, List.sum_cons, List.length_cons]; omega
  have h2 : keptUs x.us ≤ kept ts := by
    unfold kept
    induction ts with
    | nil => cases hx
    | cons y ts ih =>
      simp only [List.map_cons, List.sum_cons]
      rcases List.mem_cons.1 hx with rfl | hx
      · omega
      · have := ih hx; omega
  omega


theorem RingAt.grown {r d g : Nat} {σ : RingS} {cs : Array Value} (h : RingAt B Y w r d σ) (hg : w.grownBy w' (some g)) (hgb : Blk w g 5 cs) (hne : some g ≠ Y.rb) : RingAt B Y w' r d σ := by
  obtain ⟨bv', h⟩ := h
  refine ⟨bv', h.hr, h.blk.at_ (hg.block r h.blk.lt (fun e => h.blk.ne_ hgb (by decide) (by cases e; rfl))), own_at h.own fun k hk => hg.block k (own_lt h.own hk) (fun e => ?_), h.rb, h.ok⟩
  apply hne
  rw [← h.rb, hk]
  exact e.symm
theorem TxApart.symm {x y : TxS} (h : TxApart x y) : TxApart y x := ⟨Ne.symm h.1, fun g hg e => h.2.1 g e hg, Ne.symm h.2.2⟩
theorem OpensAt.set' {opens : Value} {ts : List TxS} (h : OpensAt B Y w opens ts) {i : Nat} {x x' : TxS} {g : Nat} {cs : Array Value} (hx : ts[i]? = some x) (hgb : Blk w g 5 cs)
    (hk : ∀ b, b < w.heap.size → b ≠ x.t → x.l.ownBlock ≠ some b → b ≠ g → w'.heap[b]? = w.heap[b]?)
    (hx' : TxAt B Y w' x') (ht : x'.t = x.t) (hid : x'.id = x.id) (hl : x'.l.ownBlock = x.l.ownBlock ∨ ∃ k, x'.l.ownBlock = some k ∧ w.heap.size ≤ k)
    (hb : ∀ y, y ∈ ts → ∀ u, u ∈ y.us → Byts B Y w' u.v u.bs) : OpensAt B Y w' opens (ts.set i x') := by
  have hil : i < ts.length := (List.getElem?_eq_some_iff.1 hx).1
  have hxe : ts[i] = x := (List.getElem?_eq_some_iff.1 hx).2
  have hxt := h.tx x (List.mem_of_getElem? hx)
  have hap : ∀ j (hj : j < ts.length), j ≠ i → TxApart ts[j] x := by
    intro j hj hne
    rcases Nat.lt_or_gt_of_ne hne with hlt | hlt
    · have := List.pairwise_iff_getElem.1 h.apart j i hj hil hlt
      rwa [hxe] at this
    · have := List.pairwise_iff_getElem.1 h.apart i j hil hj hlt
      rw [hxe] at this
      exact this.symm
  have hnew : ∀ j (hj : j < ts.length), j ≠ i → TxApart ts[j] x' := by
    intro j hj hne
    obtain ⟨a, b, c⟩ := hap j hj hne
    refine ⟨by rw [ht]; exact a, fun k hk' e => ?_, by rw [hid]; exact c⟩
    rcases hl with e2 | ⟨k2, e2, hk2⟩
    · rw [e2] at e
      exact b k hk' e
    · rw [e2] at e
      injection e with e
      subst e
      have := own_lt (h.tx _ (List.getElem_mem hj)).own hk'
      omega
  refine ⟨?_, ?_, ?_⟩
  · have e : (ts.set i x').map (fun x => (Value.pointer (some ⟨x.t, 0, none⟩))) = ts.map (fun x => Value.pointer (some ⟨x.t, 0, none⟩)) := by
      rw [List.map_set, ht]
      exact set_same (by rw [List.getElem?_map, hx]; rfl)
    rw [e, List.length_set]
    refine own_at h.own fun k hk' => hk k (own_lt h.own hk') (own_ne h.own hxt.blk (by decide) k hk') (fun e => ?_) (own_ne h.own hgb (by decide) k hk')
    have h1 := own_ty h.own k hk'
    rw [own_ty hxt.own k e] at h1
    injection h1 with h1
    exact absurd h1 (by decide)
  · intro y hy
    obtain ⟨j, hj⟩ := List.mem_iff_getElem?.1 hy
    rw [List.getElem?_set] at hj
    split at hj
    · injection hj with hj
      subst hj
      exact hx'
    · next hne =>
      obtain ⟨hjl, hje⟩ := List.getElem?_eq_some_iff.1 hj
      have hym := List.mem_of_getElem? hj
      have hyt := h.tx y hym
      obtain ⟨a, b, c⟩ := hap j hjl (Ne.symm hne)
      rw [hje] at a b c
      refine ⟨hyt.ge, hyt.blk.at_ (hk _ hyt.blk.lt a (fun e => ?_) (hyt.blk.ne_ hgb (by decide))), own_at hyt.own fun k hk' => hk k (own_lt hyt.own hk') (own_ne hyt.own hxt.blk (by decide) k hk') (fun e => b k hk' e) (own_ne hyt.own hgb (by decide) k hk'), fun u hu => ⟨(hyt.upd u hu).1, hb y hym u hu⟩⟩
      have h1 := own_ty hxt.own _ e
      rw [hyt.blk.ty] at h1
      injection h1 with h1
      exact absurd h1 (by decide)
  · rw [List.pairwise_iff_getElem]
    intro p q hp hq hpq
    simp only [List.length_set] at hp hq
    rw [List.getElem_set, List.getElem_set]
    by_cases e1 : i = p
    · rw [if_pos e1, if_neg (by omega)]
      exact (hnew q hq (by omega)).symm
    · rw [if_neg e1]
      by_cases e2 : i = q
      · rw [if_pos e2]
        exact hnew p hp (by omega)
      · rw [if_neg e2]
        exact List.pairwise_iff_getElem.1 h.apart p q hp hq hpq
/-- Write: the page's part is as told, the session has one update more -/
def wroteS (σ : StS) (i : Nat) (x : TxS) (n off : Nat) (bs : List UInt8) (lsn : Int) (l vb : Value) : StS :=
  { σ with free := σ.free - (96 + 2 * bs.length), content := fun m => if m = n then splice (σ.content n) off bs else σ.content m,
           ts := σ.ts.set i { x with last := lsn, l := l, us := x.us ++ [⟨lsn, x.last, n, off, vb, part (σ.content n) off bs.length⟩] } }
def Wrote (B : Nat) (Y : Sys) (w : World) (s : Nat) (σ : StS) (i : Nat) (x : TxS) (n off : Nat) (bs : List UInt8) (e : Ending) (w' : World) : Prop :=
  e = .returned (i64 0) ∧ ∃ Y' lsn l vb, Mod B StT false true Y Y' w w' ∧ StoreAt B Y' w' s (wroteS σ i x n off bs lsn l vb)
end Go.Proofs.YtllhgbanbelmaaaGreat

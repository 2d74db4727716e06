/- Contracts of package dev: a device without failures, as a view of its sectors. -/
import Derived.Test.YtllhgbanbelmaaaGreatLib
import Derived.Test.YtllhgbanbelmaaaGreatPlan
namespace Go.Proofs.YtllhgbanbelmaaaGreat
open Go.RowKit

theorem sl155 : SlT Tryz.prog 155 159 2 32 (.agg #[.int .i64 0, .slice none 0 0]) := .mk' (by kernel_rfl) (by kernel_rfl) rfl (by decide)
theorem sl43 : SlT Tryz.prog 43 48 1 24 (.slice none 0 0) := .mk' (by kernel_rfl) (by kernel_rfl) rfl (by decide)

def devCells (dl n : Nat) (cv : Value) (calls : Int) : Array Value := #[.slice (some ⟨dl, 0, none⟩) n n, cv, i64 (-1), .bool false, i64 calls]

/-- a sector as it lasts: never written, or 128 bytes -/
def Sec (B : Nat) (Y : Sys) (w : World) (v : Value) (bs : List UInt8) : Prop :=
  bs.length = 128 ∧ ((v = .slice none 0 0 ∧ bs = List.replicate 128 0) ∨ Byts B Y w v bs)
/-- what waits, the newest last: the sector's number, the slice, its bytes -/
structure Wait where
  i : Nat
  v : Value
  bs : List UInt8
def waitCells (cs : List Wait) : List Value := cs.flatMap fun x => [i64 x.i, x.v]
def over (view : Nat → List UInt8) (cs : List Wait) : Nat → List UInt8 := cs.foldl (fun f x => fun i => if i = x.i then x.bs else f i) view
def DevT : List Nat := [157, 159]

structure DevIn (B : Nat) (Y : Sys) (w : World) (d n : Nat) (cv : Value) (calls : Int) (ls : Array Value) (cs : List Wait) (lview : Nat → List UInt8) : Prop where
  hd : B ≤ d
  hdl : B ≤ Y.dl
  hn : n ≤ 8192
  rbl : ∀ g, Y.rb = some g → g < w.heap.size
  blk : Blk w d 157 (devCells Y.dl n cv calls)
  lblk : Blk w Y.dl 48 ls
  lsz : ls.size = n
  secs : ∀ i v, ls[i]? = some v → Sec B Y w v (lview i)
  own : w.ownsRow B 159 2 cv cs.length (waitCells cs)
  waits : ∀ x, x ∈ cs → x.i < n ∧ x.bs.length = 128 ∧ Byts B Y w x.v x.bs
/-- the device at d: n sectors that read as view, k writes that wait -/
def DevAt (B : Nat) (Y : Sys) (w : World) (d n k : Nat) (view : Nat → List UInt8) : Prop :=
  ∃ cv calls ls cs lview, DevIn B Y w d n cv calls ls cs lview ∧ cs.length = k ∧ view = over lview cs

variable {B : Nat} {T : List Nat} {D R : Bool} {Y Y' : Sys} {w w' : World}
theorem Sec.mod {v bs} (h : Sec B Y w v bs) (m : Mod B T D R Y Y' w w') (hT : 5 ∉ T) : Sec B Y' w' v bs := ⟨h.1, h.2.imp id fun h => h.mod m hT⟩
theorem own_mod {b0 e size n : Nat} {v : Value} {xs : List Value} (h : w.ownsRow b0 e size v n xs) (m : Mod B T D R Y Y' w w') (hT : e ∉ T) (hD : D = true → ∀ g, v.ownBlock = some g → g ≠ Y.dl) (hR : R = true → ∀ g, v.ownBlock = some g → some g ≠ Y.rb) :
    w'.ownsRow b0 e size v n xs := by
  refine ⟨h.1, ?_⟩
  rcases h.2 with h2 | ⟨g, cap, cur, rfl, hb, hg, r⟩
  · exact .inl h2
  · exact .inr ⟨g, cap, cur, rfl, hb, m.keep (g := g) (t := e) (cs := cur) hg hT (fun hd => hD hd g rfl) (fun hr => hR hr g rfl), r⟩
theorem own_ne {e size n g t : Nat} {v : Value} {xs : List Value} {cs : Array Value} (h : w.ownsRow B e size v n xs) (hb : Blk w g t cs) (hne : e ≠ t) : ∀ k, v.ownBlock = some k → k ≠ g := by
  rcases h.2 with ⟨rfl, _⟩ | ⟨g', cap, cur, rfl, _, hg, _⟩
  · intro k hk; simp [Value.ownBlock] at hk
  · intro k hk
    simp [Value.ownBlock] at hk
    subst hk
    exact Blk.ne_ (t := e) (cs := cur) hg hb hne
theorem own_at {e size n : Nat} {v : Value} {xs : List Value} (h : w.ownsRow B e size v n xs) (hk : ∀ g, v.ownBlock = some g → w'.heap[g]? = w.heap[g]?) : w'.ownsRow B e size v n xs := by
  refine ⟨h.1, ?_⟩
  rcases h.2 with h2 | ⟨g, cap, cur, rfl, hb, hg, r⟩
  · exact .inl h2
  · exact .inr ⟨g, cap, cur, rfl, hb, (hk g rfl).trans hg, r⟩
theorem own_set {e size n : Nat} {v : Value} {xs : List Value} (h : w.ownsRow B e size v n xs) {p : Addr} (hk : ∀ g, v.ownBlock = some g → g ≠ p.block) (u : Value) : (w.setCell p u).ownsRow B e size v n xs :=
  own_at h fun g hg => Below.heap_setCell w p u g (hk g hg)

/-- what leaves the device alone -/
theorem DevAt.mod {d n k view} (h : DevAt B Y w d n k view) (m : Mod B T D R Y Y' w w') (hD : D = false) (hR : R = true → ∃ g cs, Y.rb = some g ∧ Blk w g 5 cs) (hT : ∀ t, t ∈ T → t ≠ 157 ∧ t ≠ 159 ∧ t ≠ 48 ∧ t ≠ 5) : DevAt B Y' w' d n k view := by
  obtain ⟨cv, calls, ls, cs, lview, h, hk, hv⟩ := h
  subst hD
  have h5 : 5 ∉ T := fun x => (hT 5 x).2.2.2 rfl
  have hrb : ∀ g t (cs : Array Value), Blk w g t cs → t ≠ 5 → R = true → some g ≠ Y.rb := by
    intro g t cs hb ht hr hx
    obtain ⟨g', cs', e, hb'⟩ := hR hr
    rw [e] at hx
    injection hx with hx
    exact hb.ne_ hb' ht hx
  refine ⟨cv, calls, ls, cs, lview, ⟨h.hd, by rw [m.dl]; exact h.hdl, h.hn, m.rbl h.rbl, ?_, ?_, h.lsz, fun i v hi => (h.secs i v hi).mod m h5, ?_, fun x hx => ?_⟩, hk, hv⟩
  · rw [m.dl]; exact m.keep h.blk (fun x => (hT _ x).1 rfl) (by simp) (hrb _ _ _ h.blk (by decide))
  · rw [m.dl]; exact m.keep h.lblk (fun x => (hT _ x).2.2.1 rfl) (by simp) (hrb _ _ _ h.lblk (by decide))
  · refine own_mod h.own m (fun x => (hT _ x).2.1 rfl) (by simp) fun hr g hg hx => ?_
    obtain ⟨g', cs', e, hb'⟩ := hR hr
    rw [e] at hx
    injection hx with hx
    exact own_ne h.own hb' (by decide) g hg hx
  · obtain ⟨a, b, c⟩ := h.waits x hx
    exact ⟨a, b, c.mod m h5⟩


theorem DevAt.below {d n k view} (h : DevAt B Y w d n k view) (hb : Below w.heap.size w w') : DevAt B Y w' d n k view := h.mod (mod_below B [] false false Y hb) rfl (by simp) (by simp)
theorem DevAt.drewN {d n k view} (h : DevAt B Y w d n k view) (j : Nat) : DevAt B Y (w.drewN j) d n k view :=
  let ⟨cv, calls, ls, cs, lview, h, a, b⟩ := h; ⟨cv, calls, ls, cs, lview, ⟨h.hd, h.hdl, h.hn, h.rbl, h.blk, h.lblk, h.lsz, h.secs, h.own, h.waits⟩, a, b⟩
theorem DevAt.drew {d n k view} (h : DevAt B Y w d n k view) : DevAt B Y w.drew d n k view := h.drewN 1

/-- the device was only read: its count of calls apart nothing that was there has turned -/
structure DevQ (d : Nat) (w w' : World) : Prop where
  os : w'.os = w.os
  tape : w'.tape = w.tape
  output : w'.output = w.output
  size : w.heap.size ≤ w'.heap.size
  blk : ∀ b, b < w.heap.size → b ≠ d → w'.heap[b]? = w.heap[b]?
  dev : ∀ cs, Blk w d 157 cs → ∃ c, Blk w' d 157 (cs.setIfInBounds 4 (i64 c))
theorem DevQ.trans {d : Nat} {w'' : World} (h : DevQ d w w') (k : DevQ d w' w'') : DevQ d w w'' :=
  ⟨k.os.trans h.os, k.tape.trans h.tape, k.output.trans h.output, Nat.le_trans h.size k.size, fun b hb hd => (k.blk b (Nat.lt_of_lt_of_le hb h.size) hd).trans (h.blk b hb hd), fun cs hb => by
    obtain ⟨c, h1⟩ := h.dev cs hb
    obtain ⟨c', h2⟩ := k.dev _ h1
    exact ⟨c', by simpa using h2⟩⟩
theorem DevQ.below {d : Nat} (hb : Below w.heap.size w w') {cs : Array Value} (h4 : Blk w d 157 cs) {c : Int} (hc : cs.setIfInBounds 4 (i64 c) = cs) : DevQ d w w' :=
  ⟨hb.os, hb.tape, hb.output, hb.size, fun b h _ => hb.block b h, fun cs' h => by
    have e : cs' = cs := by unfold Blk at h h4; rw [h] at h4; injection h4 with h4; injection h4
    subst e
    exact ⟨c, by rw [hc]; exact h4.at_ (hb.block d h4.lt)⟩⟩
/-- behind it nothing that was there at its beginning turns -/
theorem DevQ.old {d : Nat} {w'' : World} (h : DevQ d w w') (hd : d < w.heap.size) (k : Below w.heap.size w' w'') : DevQ d w w'' :=
  ⟨k.os.trans h.os, k.tape.trans h.tape, k.output.trans h.output, Nat.le_trans h.size k.size, fun b hb hd => (k.block b hb).trans (h.blk b hb hd), fun cs hb =>
    let ⟨c, h1⟩ := h.dev cs hb; ⟨c, h1.at_ (k.block d hd)⟩⟩
theorem DevQ.mod {d : Nat} (h : DevQ d w w') (hB : B ≤ d) {cs : Array Value} (hb : Blk w d 157 cs) : Mod B DevT false false Y Y w w' :=
  ⟨h.os, h.tape, h.output, h.size, fun b hl hp => h.blk b hl (by
    rintro rfl
    exact (hp hB).2.2 157 hb.ty (by decide)), rfl, .inl rfl⟩
theorem DevAt.mod' {d n k view} (h : DevAt B Y w d n k view) (q : DevQ d w w') : Mod B DevT false false Y Y w w' := let ⟨_, _, _, _, _, h, _, _⟩ := h; q.mod h.hd h.blk
theorem DevAt.q {d n k view} (h : DevAt B Y w d n k view) (q : DevQ d w w') : DevAt B Y w' d n k view := by
  have m := h.mod' q
  obtain ⟨cv, calls, ls, cs, lview, h, hk, hv⟩ := h
  obtain ⟨c, hc⟩ := q.dev _ h.blk
  exact ⟨cv, c, ls, cs, lview, ⟨h.hd, h.hdl, h.hn, m.rbl h.rbl, hc, h.lblk.at_ (q.blk _ h.lblk.lt (h.lblk.ne_ h.blk (by decide))), h.lsz, fun i v hi => (h.secs i v hi).mod m (by decide),
    own_at h.own fun g hg => q.blk g (h.own.lt g hg).2 (own_ne h.own h.blk (by decide) g hg), fun x hx => let ⟨a, b, c⟩ := h.waits x hx; ⟨a, b, c.mod m (by decide)⟩⟩, hk, hv⟩
theorem DevAt.lt {d n k view} (h : DevAt B Y w d n k view) : d < w.heap.size := let ⟨_, _, _, _, _, h, _, _⟩ := h; h.blk.lt
theorem DevAt.dl {d n k view} (h : DevAt B Y w d n k view) : ∃ cs, Blk w Y.dl 48 cs := let ⟨_, _, ls, _, _, h, _, _⟩ := h; ⟨ls, h.lblk⟩
theorem DevAt.rbl {d n k view} (h : DevAt B Y w d n k view) : ∀ g, Y.rb = some g → g < w.heap.size := let ⟨_, _, _, _, _, h, _, _⟩ := h; h.rbl
theorem DevAt.blk {d n k view} (h : DevAt B Y w d n k view) : ∃ dl cv c, Blk w d 157 (devCells dl n cv c) := let ⟨cv, c, _, _, _, h, _, _⟩ := h; ⟨Y.dl, cv, c, h.blk⟩
theorem DevAt.below_q {d n k view} (h : DevAt B Y w d n k view) (hb : Below w.heap.size w w') : DevQ d w w' := let ⟨_, c, _, _, _, h, _, _⟩ := h; DevQ.below hb h.blk (c := c) rfl

set_option maxHeartbeats 400000 in
theorem burn_ok (d dl n : Nat) (cv : Value) (calls : Int) (w : World) (h : Blk w d 157 (devCells dl n cv calls)) :
    Calls Tryz.prog 251 #[.pointer (some ⟨d, 0, none⟩)] w fun e w' => e = .returned (i64 0) ∧ w' = w.setCell ⟨d, 4, none⟩ (i64 (wrap64 (calls + 1))) := by
  have hc := h.cell
  have hf := h.frozen
  unfold devCells at hc
  go_enter Tryz.func251, Tryz.ntmps251
  go_wp2
  go_ret
  exact ⟨rfl, rfl⟩
theorem devCells_calls (dl n : Nat) (cv : Value) (a b : Int) : (devCells dl n cv a).setIfInBounds 4 (i64 b) = devCells dl n cv b := rfl

theorem own_ty {e size n : Nat} {v : Value} {xs : List Value} (h : w.ownsRow B e size v n xs) : ∀ k, v.ownBlock = some k → ty w k = some e := by
  intro k hk
  rcases h.2 with ⟨rfl, _⟩ | ⟨g, cap, cur, rfl, _, hg, _⟩
  · simp [Value.ownBlock] at hk
  · simp [Value.ownBlock] at hk
    subst hk
    simp [ty, hg]
theorem over_snoc (view : Nat → List UInt8) (cs : List Wait) (x : Wait) : over view (cs ++ [x]) = fun i => if i = x.i then x.bs else over view cs i := by
  simp [over, List.foldl_append]
theorem waitCells_snoc (cs : List Wait) (x : Wait) : waitCells (cs ++ [x]) = waitCells cs ++ [i64 x.i, x.v] := by simp [waitCells]

set_option maxRecDepth 100000 in
set_option maxHeartbeats 1000000 in
theorem dev_write {d n k : Nat} {view : Nat → List UInt8} (h : DevAt B Y w d n k view) (i : Nat) (hi : i < n) (v : Value) (bs : List UInt8) (hv : Byts B Y w v bs) (hl : bs.length = 128) (hk : k < 1099511627776) :
    Calls Tryz.prog 193 #[.pointer (some ⟨d, 0, none⟩), i64 i, v] w fun e w' => e = .returned (i64 0) ∧ Mod B DevT false false Y Y w w' ∧ DevAt B Y w' d n (k + 1) (fun j => if j = i then bs else view j) := by
  obtain ⟨cv, calls, ls, cs, lview, h, rfl, rfl⟩ := h
  have hc := h.blk.cell
  have hf := h.blk.frozen
  unfold devCells at hc
  have hn := h.hn
  have hv' := hv
  obtain ⟨a, c, rfl, hx⟩ := hv'
  clear hx
  rw [List.length_map, hl] at hv ⊢
  go_enter Tryz.func193, Tryz.ntmps193
  go_wp2_with fail
  refine (burn_ok d Y.dl n cv calls w h.blk).mono ?_
  rintro e w1 ⟨rfl, hw1⟩
  have hb1 : Blk w1 d 157 (devCells Y.dl n cv (wrap64 (calls + 1))) := by rw [hw1, ← devCells_calls]; exact h.blk.set_ 4 _
  have hm1 : Mod B DevT false false Y Y w w1 := by rw [hw1]; exact mod_set h.hd h.blk.ty (by decide) _
  have hc1 := hb1.cell
  have hf1 := hb1.frozen
  unfold devCells at hc1
  have hown1 : w1.ownsRow B 159 2 cv cs.length (waitCells cs) := by rw [hw1]; exact own_set h.own (own_ne h.own h.blk (by decide)) _
  clear hc hf hw1
  go_wp2_with fail
  have hs1 : Src w1 (.slice a 128 c) 128 (bs.map bv) := by
    have := Sl.src (hv.mod hm1 (by decide))
    rwa [List.length_map, hl] at this
  have hbv := bv_one bs
  have hl128 : (bs.map bv).length = 128 := by simp [hl]
  have h128 : 128 ≤ 140737488355328 := by omega
  have hcv : w1.cell? ⟨d, 1, none⟩ = some cv := by simp [hc1]
  have hfv : w1.frozen? ⟨d, 1, none⟩ = false := hf1 1
  clear hc1 hf1
  have hd1 := hb1.lt
  have hBd := h.hd
  have hne1 : ∀ g, cv.ownBlock = some g → g ≠ d := own_ne hown1 hb1 (by decide)
  refine wp_region_F (fun w' => w'.cell? ⟨d, 1, none⟩ = some cv) 11 14 (by kernel_rfl) rfl ?_
  have hSw : w1.drew.cell? ⟨d, 1, none⟩ = some cv := hcv
  refine' wpF_take 0 (v := _) rfl (by kernel_rfl) (fun _ _ _ h => h) (by rfl) hSw (fun w' hS => ?_) ?_; rotate_left
  · go_simp; with_reducible rfl
  simp only [Act.put, List.setIfInBounds_toArray, List.set_cons_zero, List.set_cons_succ]
  refine' wpF_take 1 (v := _) rfl (by kernel_rfl) (fun _ _ _ h => h) (by rfl) hSw (fun w' hS => ?_) ?_; rotate_left
  · go_simp; with_reducible rfl
  simp only [Act.put, List.setIfInBounds_toArray, List.set_cons_zero, List.set_cons_succ]
  refine' wpF_take 2 (v := _) rfl (by kernel_rfl) (fun _ _ _ h => h) (by rfl) hSw (fun w' hS => ?_) ?_; rotate_left
  · go_simp; with_reducible rfl
  simp only [Act.put, List.setIfInBounds_toArray, List.set_cons_zero, List.set_cons_succ]
  refine' wpF_take 3 (v := _) rfl (by kernel_rfl) (fun _ _ _ h => h) (by rfl) hSw (fun w' hS => ?_) ?_; rotate_left
  · go_simp; with_reducible rfl
  simp only [Act.put, List.setIfInBounds_toArray, List.set_cons_zero, List.set_cons_succ]
  refine' wpF_take 4 (v := _) rfl (by kernel_rfl) (fun _ _ _ h => h) (by rfl) hSw (fun w' hS => ?_) ?_; rotate_left
  · go_simp; with_reducible rfl
  simp only [Act.put, List.setIfInBounds_toArray, List.set_cons_zero, List.set_cons_succ]
  refine' wpF_take 5 (v := _) rfl (by kernel_rfl) (fun _ _ _ h => h) (by rfl) hSw (fun w' hS => ?_) ?_; rotate_left
  · go_simp; with_reducible rfl
  simp only [Act.put, List.setIfInBounds_toArray, List.set_cons_zero, List.set_cons_succ]
  refine' wpF_take 6 (v := _) rfl (by kernel_rfl) (fun _ _ _ h => h) (by rfl) hSw (fun w' hS => ?_) ?_; rotate_left
  · go_simp; with_reducible rfl
  simp only [Act.put, List.setIfInBounds_toArray, List.set_cons_zero, List.set_cons_succ]
  refine wpF_one 7 rfl (by kernel_rfl) ?_
  simp only [List.getElem_toArray, List.getElem_cons_succ, List.getElem_cons_zero]
  go_wp2_with fail
  refine (clone110 (.slice a 128 c) 128 (bs.map bv) w1.drew hs1 hl128 hbv h128).mono ?_
  rintro e w2 ⟨v2, rfl, hown2, hb2⟩
  have hown3 : w2.ownsRow B 159 2 cv cs.length (waitCells cs) := own_at hown1 fun g hg => hb2.block g (hown1.lt g hg).2
  have hsz2 : w1.heap.size ≤ w2.heap.size := hb2.size
  obtain ⟨g2, cap2, rfl, hgb2, hgl2⟩ := hown2.form (by decide)
  have k2 : w2.cell? ⟨d, 1, none⟩ = some cv := (hb2.cell (p := ⟨d, 1, none⟩) hd1).trans hcv
  have f2 : w2.frozen? ⟨d, 1, none⟩ = false := (hb2.frozen (p := ⟨d, 1, none⟩) hd1).trans hfv
  go_wp2_with fail
  refine ⟨fun _ => k2, ?_⟩
  have hSw := k2
  refine' wpF_take 8 (v := _) rfl (by kernel_rfl) (fun _ _ _ h => h) (by rfl) hSw (fun w' hS => ?_) ?_; rotate_left
  · go_simp; with_reducible rfl
  simp only [Act.put, List.setIfInBounds_toArray, List.set_cons_zero, List.set_cons_succ]
  refine wpF_one 9 rfl (by kernel_rfl) ?_
  simp only [List.getElem_toArray, List.getElem_cons_succ, List.getElem_cons_zero]
  go_wp2_with fail
  have k3 : (w2.alloc (.cells #[i64 i, .slice (some ⟨g2, 0, none⟩) 128 cap2] 159)).cell? ⟨d, 1, none⟩ = some cv := (World.cell?_alloc_lt w2 _ _ (by simp; omega)).trans k2
  refine ⟨fun _ => k3, ?_⟩
  refine wpF_one 10 rfl (by kernel_rfl) ?_
  simp only [List.getElem_toArray, List.getElem_cons_succ, List.getElem_cons_zero]
  have hbd : cs.length + 1 ≤ maxLen ∧ (cs.length + 1) * 32 ≤ 140737488355328 ∧ B ≤ (w2.alloc (.cells #[i64 i, .slice (some ⟨g2, 0, none⟩) 128 cap2] 159)).heap.size := by simp [maxLen]; omega
  go_wp2_with (at_builtin; go_loud (refine wpList_app _ rfl (.tmp 37) (.tmp 42) rfl B sl155 (hown3.alloc (.cells #[i64 i, .slice (some ⟨g2, 0, none⟩) 128 cap2] 159)) rfl (Src.lit (Blk.new w2 159 #[i64 i, .slice (some ⟨g2, 0, none⟩) 128 cap2]) 1 1) rfl rfl (all_one rfl) hbd ?_); intro v3 w3 hown4 hg4 hat4)
  obtain ⟨g3, cap3, rfl, hgb3, hgl3⟩ := hown4.form (by omega)
  have hbk : w3.heap[d]? = w2.heap[d]? := (hg4.block d (by simp; omega) (fun e => hne1 d e.symm rfl)).trans (Below.heap_alloc w2 _ d (by omega))
  have k4 : w3.cell? ⟨d, 1, none⟩ = some cv := (World.cell?_of_block (a := ⟨d, 1, none⟩) hbk).trans k2
  have f4 : w3.frozen? ⟨d, 1, none⟩ = false := (World.frozen?_of_block (a := ⟨d, 1, none⟩) hbk).trans f2
  refine ⟨k4, ?_⟩
  refine wpF_tail (by kernel_rfl) ?_
  simp only [List.drop_succ_cons, List.drop_zero]
  go_wp2
  go_ret
  have hb3 : Blk w3 d 157 (devCells Y.dl n cv (wrap64 (calls + 1))) := (hb1.at_ (hb2.block d hd1)).at_ hbk
  have hne3 : ∀ g, (Value.slice (some ⟨g3, 0, none⟩) (cs.length + 1) cap3).ownBlock = some g → g ≠ d := own_ne hown4 hb3 (by decide)
  have hown3a := hown3.alloc (.cells #[i64 i, .slice (some ⟨g2, 0, none⟩) 128 cap2] 159)
  have hM2 : Mod B DevT false false Y Y w2 (w3.setCell ⟨d, 1, none⟩ (.slice (some ⟨g3, 0, none⟩) (cs.length + 1) cap3)) :=
    (((Mod.refl B DevT false false Y w2).alloc _).trans (mod_grown hg4 (fun k hk => (hown3a.lt k hk).1) (fun k hk => .inr (.inr ⟨159, own_ty hown3a k hk, by decide⟩)))).set_ hBd hb3.ty (by decide) _
  have hM := (hm1.drew.below_ hb2).trans hM2
  have hY : Y.dl < w1.drew.heap.size := Nat.lt_of_lt_of_le h.lblk.lt hm1.size
  have hYr : ∀ g, Y.rb = some g → g < w1.drew.heap.size := fun g hg => Nat.lt_of_lt_of_le (h.rbl g hg) hm1.size
  refine ⟨rfl, hM, .slice (some ⟨g3, 0, none⟩) (cs.length + 1) cap3, wrap64 (calls + 1), ls, cs ++ [⟨i, .slice (some ⟨g2, 0, none⟩) 128 cap2, bs⟩], lview,
    ⟨hBd, h.hdl, hn, hM.rbl h.rbl, hb3.set_ 1 _, hM.keep h.lblk (by decide) (by simp) (by simp), h.lsz, fun j v hj => (h.secs j v hj).mod hM (by decide), ?_, fun x hx => ?_⟩, by simp, (over_snoc lview cs ⟨i, _, bs⟩).symm⟩
  · rw [waitCells_snoc, List.length_append]
    exact own_set hown4 hne3 _
  · rcases List.mem_append.1 hx with hx | hx
    · obtain ⟨x1, x2, x3⟩ := h.waits x hx
      exact ⟨x1, x2, x3.mod hM (by decide)⟩
    · obtain rfl := List.mem_singleton.1 hx
      exact ⟨hi, hl, Byts.mod (Sl.own hown2 hY hYr) hM2 (by decide)⟩

set_option maxHeartbeats 400000 in
theorem dev_new (n : Nat) (h1 : 1 ≤ n) (h2 : n ≤ 8192) (B : Nat) (w : World) (hB : B ≤ w.heap.size) :
    Calls Tryz.prog 148 #[i64 n] w fun e w' => ∃ d Y, e = .returned (.tuple #[.pointer (some ⟨d, 0, none⟩), i64 0]) ∧ Below w.heap.size w w' ∧ w.heap.size ≤ d ∧ w.heap.size ≤ Y.dl ∧ Y.rb = none ∧ DevAt B Y w' d n 0 (fun _ => List.replicate 128 0) := by
  have hmk := fun w : World => run_mk (P := Tryz.prog) w sl43 rfl .i64 .i64 n n (Nat.le_refl _) (by omega) (by simp [maxLen]; omega)
  go_enter Tryz.func148, Tryz.ntmps148
  go_wp2
  go_ret2
  have hb : Blk (w.alloc (.cells (Array.replicate n (.slice none 0 0)) 48)) w.heap.size 48 (Array.replicate n (.slice none 0 0)) := Blk.new w _ _
  refine ⟨w.heap.size + 1, ⟨w.heap.size, none⟩, rfl, ((Below.refl _ _).alloc (Nat.le_refl _) _).alloc (by simp) _, by omega, Nat.le_refl _, rfl,
    .slice none 0 0, 0, Array.replicate n (.slice none 0 0), [], fun _ => List.replicate 128 0,
    ⟨by omega, hB, h2, by simp, ?_, hb.alloc _, by simp, ?_, World.ownsRow_nil _ _ _ _, by simp⟩, rfl, rfl⟩
  · have := Blk.new (w.alloc (.cells (Array.replicate n (.slice none 0 0)) 48)) 157 (devCells w.heap.size n (.slice none 0 0) 0)
    simpa [devCells] using this
  · intro i v hv
    rw [Array.getElem?_replicate] at hv
    split at hv
    · injection hv with hv
      subst hv
      exact ⟨by simp, .inl ⟨rfl, rfl⟩⟩
    · cases hv

theorem dev_size {d n k : Nat} {view : Nat → List UInt8} (h : DevAt B Y w d n k view) : Calls Tryz.prog 84 #[.pointer (some ⟨d, 0, none⟩)] w fun e w' => e = .returned (i64 n) ∧ w = w' := by
  obtain ⟨cv, calls, ls, cs, lview, h, rfl, rfl⟩ := h
  have hc := h.blk.cell
  unfold devCells at hc
  go_enter Tryz.func84, Tryz.ntmps84
  go_wp2
  go_ret
  exact ⟨rfl, rfl⟩

theorem waitCells_get : ∀ (cs : List Wait) (j : Nat) (x : Wait), cs[j]? = some x → (waitCells cs)[j * 2]? = some (i64 x.i) ∧ (waitCells cs)[j * 2 + 1]? = some x.v
  | [], j, x, h => by simp at h
  | y :: cs, 0, x, h => by simp at h; subst h; simp [waitCells]
  | y :: cs, j + 1, x, h => by
    have := waitCells_get cs j x (by simpa using h)
    simp only [waitCells, List.flatMap_cons] at this ⊢
    rw [show (j + 1) * 2 = j * 2 + 2 by omega]
    simpa using this
theorem splice_all {α : Type} (L cs : List α) (h : cs.length = L.length) : splice L 0 cs = cs := by simp [splice, h]
theorem over_take (view : Nat → List UInt8) (cs : List Wait) (j : Nat) (x : Wait) (h : cs[j]? = some x) (i : Nat) : over view (cs.take (j + 1)) i = if i = x.i then x.bs else over view (cs.take j) i := by
  rw [List.take_add_one, h]
  simp [over_snoc]

theorem over_len (i : Nat) : ∀ (cs : List Wait) (view : Nat → List UInt8), (view i).length = 128 → (∀ x, x ∈ cs → x.bs.length = 128) → (over view cs i).length = 128
  | [], view, h, _ => h
  | x :: cs, view, h, hx => by
    have := over_len i cs (fun j => if j = x.i then x.bs else view j) (by by_cases e : i = x.i <;> simp [e] <;> first | exact hx x (by simp) | (rw [← e] at *; exact h) | exact h) (fun y hy => hx y (by simp [hy]))
    simpa [over] using this
theorem own_row {e n : Nat} {g : Nat} {xs : List Value} (hb : Blk w g e xs.toArray) (hB : B ≤ g) (hn : xs.length = n) (hm : n ≤ maxLen) : w.ownsRow B e 1 (.slice (some ⟨g, 0, none⟩) n n) n xs :=
  ⟨by omega, .inr ⟨g, n, xs.toArray, rfl, hB, hb, Nat.le_refl _, hm, by simp [hn], by rw [Nat.mul_one, ← hn]; simp⟩⟩
theorem own_form {e size n : Nat} {v : Value} {xs : List Value} (h : w.ownsRow B e size v n xs) : ∃ a c, v = .slice a n c ∧ n ≤ c ∧ c ≤ maxLen := by
  rcases h.2 with ⟨rfl, rfl⟩ | ⟨g, cap, cur, rfl, _, _, h1, h2, _⟩
  · exact ⟨_, _, rfl, by omega, by simp⟩
  · exact ⟨_, _, rfl, h1, h2⟩
theorem own_le {e size n m : Nat} {a : Option Addr} {c : Nat} {xs : List Value} (h : w.ownsRow B e size (.slice a m c) n xs) : n ≤ c ∧ c ≤ maxLen := by
  obtain ⟨a', c', e, h1, h2⟩ := own_form h
  injection e with _ _ e
  subst e
  exact ⟨h1, h2⟩
/-- an element's cells, by number -/
theorem own_cell {e size n : Nat} {a : Option Addr} {c : Nat} {xs : List Value} (h : w.ownsRow B e size (.slice a n c) n xs) (hn : 0 < n) : ∃ g, a = some ⟨g, 0, none⟩ ∧ B ≤ g ∧ ∀ j u, xs[j]? = some u → w.cell? ⟨g, j, none⟩ = some u := by
  obtain ⟨g, cap, hv, hb, _⟩ := h.form hn
  injection hv with ha _ _
  subst ha
  refine ⟨g, rfl, hb, fun j u hu => ?_⟩
  have := h.cells (g := g) rfl j u hu
  rwa [addr_add, Nat.zero_add] at this
theorem Sec.src {v : Value} {bs : List UInt8} (h : Sec B Y w v bs) : ∃ a m c news, v = .slice a m c ∧ Src w v m news ∧ news.length = m ∧ m ≤ 128 ∧ (∀ u ∈ news, u.oneCell' = true) ∧
    splice (List.replicate 128 (Value.int .u8 0)) 0 news = bs.map bv := by
  obtain ⟨hl, ⟨rfl, rfl⟩ | h⟩ := h
  · exact ⟨none, 0, 0, [], rfl, Src.nil _ _ _, rfl, by omega, by simp, by simp [splice, bv]⟩
  · have h2 := Sl.src h
    obtain ⟨a, c, rfl, _⟩ := h
    exact ⟨a, _, c, bs.map bv, rfl, h2, rfl, by simp [hl], bv_one bs, splice_all _ _ (by simp [hl])⟩

set_option maxRecDepth 100000 in
set_option maxHeartbeats 1000000 in
theorem dev_read {d n k : Nat} {view : Nat → List UInt8} (h : DevAt B Y w d n k view) (i : Nat) (hi : i < n) (hk : k < 1099511627776) :
    Calls Tryz.prog 150 #[.pointer (some ⟨d, 0, none⟩), i64 i] w fun e w' => ∃ v, e = .returned (.tuple #[v, i64 0]) ∧ DevQ d w w' ∧ w'.ownsRow w.heap.size 5 1 v 128 ((view i).map bv) := by
  obtain ⟨cv, calls, ls, cs, lview, h, rfl, rfl⟩ := h
  obtain ⟨ca, cc, rfl, hcc, hcm⟩ := own_form h.own
  have hc := h.blk.cell
  have hf := h.blk.frozen
  unfold devCells at hc
  have hn := h.hn
  have hne : Y.dl ≠ d := h.lblk.ne_ h.blk (by decide)
  obtain ⟨lv, hlv⟩ : ∃ lv, ls[i]? = some lv := ⟨ls[i]'(by rw [h.lsz]; exact hi), Array.getElem?_eq_getElem _⟩
  have hcell : w.cell? ⟨Y.dl, i, none⟩ = some lv := by rw [h.lblk.cell]; exact hlv
  have hi' : (i : Int) < n := by omega
  obtain ⟨Z, hZ⟩ : ∃ Z : List Value, Z = List.replicate 128 (.int .u8 0) := ⟨_, rfl⟩
  have hZl : Z.length = 128 := by simp [hZ]
  have hmk : ∀ w : World, (Instr.makeSlice 48 (.int .i64 128) (.int .i64 128)).run Tryz.prog w = .ok (.slice (some ⟨w.heap.size, 0, none⟩) 128 128) (w.alloc (.cells Z.toArray 5)) := by
    intro w
    have := run_mk (P := Tryz.prog) w sl48 rfl .i64 .i64 128 128 (by decide) (by decide) (by decide)
    rw [hZ, List.toArray_replicate]
    exact this
  have HZ := Lib.hid hZ
  clear hZ
  go_enter Tryz.func150, Tryz.ntmps150
  go_upto_region 7 with (fail)
  have hb0 : Blk ((w.setCell ⟨d, 4, none⟩ (i64 (wrap64 (calls + 1)))).alloc (.cells Z.toArray 5)) w.heap.size 5 Z.toArray := by
    have := Blk.new (w.setCell ⟨d, 4, none⟩ (i64 (wrap64 (calls + 1)))) 5 Z.toArray
    simpa [World.setCell] using this
  have hM0 : Mod B DevT false false Y Y w ((w.setCell ⟨d, 4, none⟩ (i64 (wrap64 (calls + 1)))).alloc (.cells Z.toArray 5)) := (mod_set h.hd h.blk.ty (by decide) _).alloc _
  have hbd0 : Blk ((w.setCell ⟨d, 4, none⟩ (i64 (wrap64 (calls + 1)))).alloc (.cells Z.toArray 5)) d 157 (devCells Y.dl n (.slice ca cs.length cc) (wrap64 (calls + 1))) := (h.blk.set_ 4 _).alloc _
  have hcell1 : ((w.setCell ⟨d, 4, none⟩ (i64 (wrap64 (calls + 1)))).alloc (.cells Z.toArray 5)).cell? ⟨Y.dl, i, none⟩ = some lv := by
    rw [(hM0.keep h.lblk (by decide) (by simp) (by simp)).cell]; exact hlv
  have hz1 : w.heap.size ≤ ((w.setCell ⟨d, 4, none⟩ (i64 (wrap64 (calls + 1)))).alloc (.cells Z.toArray 5)).heap.size := hM0.size
  have hcv0 : ∀ g, (Value.slice ca cs.length cc).ownBlock = some g → ((w.setCell ⟨d, 4, none⟩ (i64 (wrap64 (calls + 1)))).alloc (.cells Z.toArray 5)).heap[g]? = w.heap[g]? := fun g hg =>
    (Below.heap_alloc _ _ g (by have := (h.own.lt g hg).2; simpa [World.setCell] using this)).trans (Below.heap_setCell w ⟨d, 4, none⟩ _ g (own_ne h.own h.blk (by decide) g hg))
  have hQ0 : DevQ d w ((w.setCell ⟨d, 4, none⟩ (i64 (wrap64 (calls + 1)))).alloc (.cells Z.toArray 5)) :=
    ⟨rfl, rfl, rfl, hM0.size, fun b hb hne => (Below.heap_alloc _ _ b (by simpa [World.setCell] using hb)).trans (Below.heap_setCell w ⟨d, 4, none⟩ _ b hne), fun cs hb => ⟨wrap64 (calls + 1), (hb.set_ 4 _).alloc _⟩⟩
  generalize (w.setCell ⟨d, 4, none⟩ (i64 (wrap64 (calls + 1)))).alloc (.cells Z.toArray 5) = w1 at *
  clear hc hf hcell
  have hlen0 := (h.secs i lv hlv).1
  obtain ⟨la, lm, lc, news, rfl, hsrc, hnl, hlm, hone, hspl⟩ := ((h.secs i lv hlv).mod hM0 (by decide)).src
  rw [← HZ.out] at hspl
  clear HZ
  have hc := hbd0.cell
  unfold devCells at hc
  have Hspl := Lib.hid hspl
  clear hspl
  have hfit : 0 + 128 ≤ Z.length := by omega
  go_upto_region 8 with (with_reducible refine wpList_cp _ rfl (.tmp 32) (.tmp 39) 48 48 rfl sl48 hb0 rfl hsrc rfl hnl hfit hone ?_; intro w2 hb2 hg2 hz2)
  have hM2 : Mod B DevT false false Y Y w w2 := hM0.grown_new hg2 (by simp)
  have hb2 : Blk w2 w.heap.size 5 ((lview i).map bv).toArray := by
    have e : news.take 128 = news := List.take_of_length_le (by omega)
    rw [e, Hspl.out] at hb2
    exact hb2
  have hbd2 : Blk w2 d 157 (devCells Y.dl n (.slice ca cs.length cc) (wrap64 (calls + 1))) := hbd0.at_ (hg2.block d hbd0.lt (by have := h.blk.lt; simp; omega))
  have hown2 : w2.ownsRow B 159 2 (.slice ca cs.length cc) cs.length (waitCells cs) := by
    refine own_at h.own fun g hg => (hg2.block g ?_ ?_).trans (hcv0 g hg)
    · have := (h.own.lt g hg).2; omega
    · have := (h.own.lt g hg).2; simp; omega
  have hz2 := hM2.size
  clear hc hcell1 Hspl hsrc hnl hlm hone hmk hZl hb0 hfit
  have hc := hbd2.cell
  unfold devCells at hc
  go_wp2_with fail
  go_loopw [46] (fun t wr => ∃ j : Nat, j ≤ cs.length ∧ t = .int .i64 j ∧ Below w.heap.size w2 wr ∧ Blk wr w.heap.size 5 ((over lview (cs.take j) i).map bv).toArray) (fun t _ => cs.length - (intOf t).toNat)
  case atStart => exact ⟨0, Nat.zero_le _, rfl, Below.refl _ _, by simpa [over] using hb2⟩
  case round =>
    obtain ⟨j, hj, rfl, hbw, hbb⟩ := hrel
    by_cases hlt : j < cs.length
    · have hj' : (j : Int) < cs.length := by omega
      obtain ⟨⟨xi, xv, xbs⟩, hx⟩ : ∃ x, cs[j]? = some x := ⟨cs[j], List.getElem?_eq_getElem hlt⟩
      obtain ⟨hxn, hxl, hxb⟩ := h.waits _ (List.mem_of_getElem? hx)
      simp only at hxn hxl hxb
      obtain ⟨hx1, hx2⟩ := waitCells_get cs j _ hx
      obtain ⟨cb, hca, hcb, hcells⟩ := own_cell hown2 (by omega)
      have hblt : cb < w.heap.size := (h.own.lt cb (by rw [hca]; rfl)).2
      have e1 : wr.cell? ⟨cb, j * 2, none⟩ = some (i64 xi) := (hbw.cell (p := ⟨cb, j * 2, none⟩) hblt).trans (hcells _ _ hx1)
      have e2 : wr.cell? ⟨cb, j * 2 + 1, none⟩ = some xv := (hbw.cell (p := ⟨cb, j * 2 + 1, none⟩) hblt).trans (hcells _ _ hx2)
      have hMr : Mod B DevT false false Y Y w wr := hM2.below_old hbw
      have hxb := hxb.mod hMr (by decide)
      have hot := over_take lview cs j _ hx i
      simp only at hot
      obtain ⟨xa, xc, rfl, _⟩ := id hxb
      have hxs := Sl.src hxb
      rw [List.length_map, hxl] at e2 hxs
      have hv1 : ((over lview (cs.take j) i).map bv).length = 128 := by
        rw [List.length_map]
        exact over_len i _ _ hlen0 fun x hx => (h.waits x (List.mem_of_mem_take hx)).2.1
      generalize over lview (cs.take j) i = view1 at hbb hot hv1
      clear hx1 hx2 hcells hx
      by_cases hxi : xi = i
      · subst hxi
        have hbb1 := hbb.alloc (.cells #[i64 xi, .slice xa 128 xc] 159)
        have hxs1 : Src (wr.alloc (.cells #[i64 xi, .slice xa 128 xc] 159)) (.slice xa 128 xc) 128 (xbs.map bv) := hxs.mod_new fun b o hb => World.cell?_alloc_lt wr _ _ hb
        have hl1 : (xbs.map bv).length = 128 := by simp [hxl]
        have hl2 : (view1.map bv).length = 128 := hv1
        have hfit : 0 + 128 ≤ (view1.map bv).length := by omega
        have hon := bv_one xbs
        go_upto_region 13 with (with_reducible refine wpList_cp _ rfl (.tmp 54) (.tmp 56) 48 48 rfl sl48 hbb1 rfl hxs1 rfl hl1 hfit hon ?_; intro w3 hb3 hg3 hz3)
        go_wp2_with fail
        go_roundw
        case rel =>
          refine ⟨j + 1, by omega, by go_num, ?_, ?_⟩
          · exact ((hbw.alloc (by have := hbw.size; omega) _).grown hg3 (by have := hbw.size; simp; omega) (by simp))
          · simp only [hot, if_true]
            have e : (xbs.map bv).take 128 = xbs.map bv := List.take_of_length_le (by omega)
            rwa [e, splice_all _ _ (by omega)] at hb3
        case measure => simp [intOf]; omega
      · have hxb1 : ((xi : Int) == (i : Int)) = false := by simp; omega
        go_wp2_with fail
        go_roundw
        case rel =>
          refine ⟨j + 1, by omega, by go_num, (hbw.alloc (by have := hbw.size; omega) _), ?_⟩
          rw [hot, if_neg (by omega)]
          exact hbb.alloc _
        case measure => simp [intOf]; omega
    · have hje : j = cs.length := by omega
      have hjt : cs.take j = cs := List.take_of_length_le (by omega)
      rw [hjt] at hbb
      clear hjt
      go_wp2_with fail
      go_ret2
      have hMr : Mod B DevT false false Y Y w wr := hM2.below_old hbw
      have hb21 : Below w.heap.size w1 w2 := (Below.refl _ _).grown hg2 hz1 (by simp)
      refine ⟨_, rfl, (hQ0.old h.blk.lt hb21).old h.blk.lt hbw, own_row hbb (Nat.le_refl _) ?_ (by decide)⟩
      rw [List.length_map]
      exact over_len i _ _ hlen0 fun x hx => (h.waits x hx).2.1

theorem grown_alloc {row : Option Nat} (h : w.grownBy w' row) (o : Obj) : w.grownBy (w'.alloc o) row :=
  ⟨h.os, h.tape, h.output, by have := h.size; simp; omega, fun k hk hr => (Below.heap_alloc w' o k (Nat.lt_of_lt_of_le hk h.size)).trans (h.block k hk hr)⟩
theorem grown_set {row : Option Nat} (h : w.grownBy w' row) {p : Addr} (hp : row = some p.block ∨ w.heap.size ≤ p.block) (u : Value) : w.grownBy (w'.setCell p u) row :=
  ⟨h.os, h.tape, h.output, by have := h.size; simp [World.setCell]; omega, fun k hk hr => (Below.heap_setCell w' p u k (by
    rcases hp with hp | hp
    · rintro rfl; exact hr hp.symm
    · omega)).trans (h.block k hk hr)⟩
theorem grown_drew {row : Option Nat} (h : w.grownBy w' row) : w.grownBy w'.drew row := ⟨h.os, h.tape, h.output, h.size, h.block⟩

set_option maxRecDepth 100000 in
set_option maxHeartbeats 2000000 in
theorem dev_sync {d n k : Nat} {view : Nat → List UInt8} (h : DevAt B Y w d n k view) (hk : k < 1099511627776) :
    Calls Tryz.prog 194 #[.pointer (some ⟨d, 0, none⟩)] w fun e w' => e = .returned (i64 0) ∧ Mod B DevT true false Y Y w w' ∧ DevAt B Y w' d n 0 view := by
  obtain ⟨cv, calls, ls, cs, lview, h, rfl, rfl⟩ := h
  obtain ⟨ca, cc, rfl, hcc, hcm⟩ := own_form h.own
  have hc := h.blk.cell
  have hf := h.blk.frozen
  unfold devCells at hc
  have hn := h.hn
  have hne : Y.dl ≠ d := h.lblk.ne_ h.blk (by decide)
  go_enter Tryz.func194, Tryz.ntmps194
  go_wp2_with fail
  refine (burn_ok d Y.dl n _ calls w h.blk).mono ?_
  rintro e w1 ⟨rfl, hw1⟩
  have hb1 : Blk w1 d 157 (devCells Y.dl n (.slice ca cs.length cc) (wrap64 (calls + 1))) := by rw [hw1, ← devCells_calls]; exact h.blk.set_ 4 _
  have hm1 : Mod B DevT true false Y Y w w1 := by rw [hw1]; exact mod_set h.hd h.blk.ty (by decide) _
  have hown1 : w1.ownsRow B 159 2 (.slice ca cs.length cc) cs.length (waitCells cs) := by rw [hw1]; exact own_set h.own (own_ne h.own h.blk (by decide)) _
  have hl1 : Blk w1 Y.dl 48 ls := by rw [hw1]; exact h.lblk.far hne _
  have hsz1 : w1.heap.size = w.heap.size := by rw [hw1]; simp [World.setCell]
  clear hc hf hw1
  have hc := hb1.cell
  have hf := hb1.frozen
  unfold devCells at hc
  go_wp2_with fail
  go_loopw [20] (fun t wr => ∃ j : Nat, j ≤ cs.length ∧ t = .int .i64 j ∧ w1.grownBy wr (some Y.dl) ∧ ∃ lsj, Blk wr Y.dl 48 lsj ∧ lsj.size = n ∧ ∀ i v, lsj[i]? = some v → Sec B Y w v (over lview (cs.take j) i)) (fun t _ => cs.length - (intOf t).toNat)
  case atStart => exact ⟨0, Nat.zero_le _, rfl, World.grownBy.refl _ _, ls, hl1, h.lsz, by simpa [over] using h.secs⟩
  case round =>
    obtain ⟨j, hj, rfl, hgw, lsj, hbj, hlj, hsj⟩ := hrel
    by_cases hlt : j < cs.length
    · have hj' : (j : Int) < cs.length := by omega
      obtain ⟨⟨xi, xv, xbs⟩, hx⟩ : ∃ x, cs[j]? = some x := ⟨cs[j], List.getElem?_eq_getElem hlt⟩
      have hxm := List.mem_of_getElem? hx
      obtain ⟨hxn, hxl, hxb⟩ := h.waits _ hxm
      simp only at hxn hxl hxb
      obtain ⟨hx1, hx2⟩ := waitCells_get cs j _ hx
      obtain ⟨cb, hca, hcb, hcells⟩ := own_cell hown1 (by omega)
      have hcl := (hown1.lt cb (by rw [hca]; rfl)).2
      have hcd : cb ≠ Y.dl := own_ne hown1 hl1 (by decide) cb (by rw [hca]; rfl)
      have ebk : wr.heap[cb]? = w1.heap[cb]? := hgw.block cb hcl (by simpa using hcd)
      have e1 : wr.cell? ⟨cb, j * 2, none⟩ = some (i64 xi) := (World.cell?_of_block (a := ⟨cb, j * 2, none⟩) ebk).trans (hcells _ _ hx1)
      have e2 : wr.cell? ⟨cb, j * 2 + 1, none⟩ = some xv := (World.cell?_of_block (a := ⟨cb, j * 2 + 1, none⟩) ebk).trans (hcells _ _ hx2)
      have hbd : Blk wr d 157 (devCells Y.dl n (.slice ca cs.length cc) (wrap64 (calls + 1))) := hb1.at_ (hgw.block d hb1.lt (by simpa using hne.symm))
      have hot := fun i => over_take lview cs j _ hx i
      simp only at hot
      obtain ⟨xa, xc, rfl, _⟩ := id hxb
      rw [List.length_map, hxl] at e2 hxb
      have hxn' : (xi : Int) < n := by omega
      clear hx1 hx2 hcells hx hc hf
      go_upto_region 9 with (fail)
      have hbn : Blk (wr.alloc (.cells #[i64 xi, .slice xa 128 xc] 159)) wr.heap.size 159 #[i64 xi, .slice xa 128 xc] := Blk.new _ _ _
      have hbd1 := hbd.alloc (.cells #[i64 xi, .slice xa 128 xc] 159)
      have hbl1 := hbj.alloc (.cells #[i64 xi, .slice xa 128 xc] 159)
      obtain ⟨v0, hv0⟩ : ∃ v, lsj[xi]? = some v := ⟨lsj[xi]'(by rw [hlj]; exact hxn), Array.getElem?_eq_getElem _⟩
      have kx : (wr.alloc (.cells #[i64 xi, .slice xa 128 xc] 159)).drew.cell? ⟨Y.dl, xi, none⟩ = some v0 := (hbl1.cell xi).trans hv0
      have fx : (wr.alloc (.cells #[i64 xi, .slice xa 128 xc] 159)).drew.frozen? ⟨Y.dl, xi, none⟩ = false := hbl1.frozen xi
      refine wp_region_F (fun w' => w'.cell? ⟨d, 0, none⟩ = some (.slice (some ⟨Y.dl, 0, none⟩) n n) ∧ w'.cell? ⟨wr.heap.size, 0, none⟩ = some (i64 xi) ∧ w'.cell? ⟨wr.heap.size, 1, none⟩ = some (.slice xa 128 xc)) 8 10 (by kernel_rfl) rfl ?_
      have hSw : (wr.alloc (.cells #[i64 xi, .slice xa 128 xc] 159)).drew.cell? ⟨d, 0, none⟩ = some (.slice (some ⟨Y.dl, 0, none⟩) n n) ∧ (wr.alloc (.cells #[i64 xi, .slice xa 128 xc] 159)).drew.cell? ⟨wr.heap.size, 0, none⟩ = some (i64 xi) ∧ (wr.alloc (.cells #[i64 xi, .slice xa 128 xc] 159)).drew.cell? ⟨wr.heap.size, 1, none⟩ = some (.slice xa 128 xc) := ⟨hbd1.cell 0, hbn.cell 0, hbn.cell 1⟩
      generalize hWW : (wr.alloc (.cells #[i64 xi, .slice xa 128 xc] 159)).drew = ww at *
      refine' wpF_take 0 (v := _) rfl (by kernel_rfl) (fun _ _ _ h => h) (by rfl) hSw (fun w' hS => ?_) ?_; rotate_left
      · obtain ⟨s1, s2, s3⟩ := hS
        go_simp; with_reducible rfl
      simp only [Act.put, List.setIfInBounds_toArray, List.set_cons_zero, List.set_cons_succ]
      refine' wpF_take 1 (v := _) rfl (by kernel_rfl) (fun _ _ _ h => h) (by rfl) hSw (fun w' hS => ?_) ?_; rotate_left
      · obtain ⟨s1, s2, s3⟩ := hS
        go_simp; with_reducible rfl
      simp only [Act.put, List.setIfInBounds_toArray, List.set_cons_zero, List.set_cons_succ]
      refine' wpF_take 2 (v := _) rfl (by kernel_rfl) (fun _ _ _ h => h) (by rfl) hSw (fun w' hS => ?_) ?_; rotate_left
      · obtain ⟨s1, s2, s3⟩ := hS
        go_simp; with_reducible rfl
      simp only [Act.put, List.setIfInBounds_toArray, List.set_cons_zero, List.set_cons_succ]
      refine' wpF_take 3 (v := _) rfl (by kernel_rfl) (fun _ _ _ h => h) (by rfl) hSw (fun w' hS => ?_) ?_; rotate_left
      · obtain ⟨s1, s2, s3⟩ := hS
        go_simp; with_reducible rfl
      simp only [Act.put, List.setIfInBounds_toArray, List.set_cons_zero, List.set_cons_succ]
      refine' wpF_take 4 (v := _) rfl (by kernel_rfl) (fun _ _ _ h => h) (by rfl) hSw (fun w' hS => ?_) ?_; rotate_left
      · obtain ⟨s1, s2, s3⟩ := hS
        go_simp; with_reducible rfl
      simp only [Act.put, List.setIfInBounds_toArray, List.set_cons_zero, List.set_cons_succ]
      refine' wpF_take 5 (v := _) rfl (by kernel_rfl) (fun _ _ _ h => h) (by rfl) hSw (fun w' hS => ?_) ?_; rotate_left
      · obtain ⟨s1, s2, s3⟩ := hS
        go_simp; with_reducible rfl
      simp only [Act.put, List.setIfInBounds_toArray, List.set_cons_zero, List.set_cons_succ]
      refine' wpF_take 6 (v := _) rfl (by kernel_rfl) (fun _ _ _ h => h) (by rfl) hSw (fun w' hS => ?_) ?_; rotate_left
      · obtain ⟨s1, s2, s3⟩ := hS
        go_simp; with_reducible rfl
      simp only [Act.put, List.setIfInBounds_toArray, List.set_cons_zero, List.set_cons_succ]
      refine' wpF_take 7 (v := _) rfl (by kernel_rfl) (fun _ _ _ h => h) (by rfl) hSw (fun w' hS => ?_) ?_; rotate_left
      · obtain ⟨s1, s2, s3⟩ := hS
        go_simp; with_reducible rfl
      simp only [Act.put, List.setIfInBounds_toArray, List.set_cons_zero, List.set_cons_succ]
      refine wpF_tail (by kernel_rfl) ?_
      simp only [List.drop_succ_cons, List.drop_zero]
      go_wp2_with fail
      go_roundw
      case rel =>
        have hgw1 : w1.grownBy ww (some Y.dl) := by rw [← hWW]; exact grown_drew (grown_alloc hgw _)
        have hbl2 : Blk ww Y.dl 48 lsj := by rw [← hWW]; exact hbl1
        refine ⟨_, _, _, _, _, _, _, _, _, _, _, _, _, _, _, ?_, by rw [hca]⟩
        refine ⟨j + 1, by omega, by go_num, grown_set hgw1 (.inl rfl) _, _, hbl2.set_ xi _, by simp [hlj], fun i v hv => ?_⟩
        rw [hot]
        rw [Array.getElem?_setIfInBounds] at hv
        by_cases e : xi = i
        · subst e
          simp only [if_true, hlj, hxn] at hv
          injection hv with hv
          subst hv
          simp only [if_true]
          refine ⟨hxl, .inr ?_⟩
          exact hxb
        · rw [if_neg e] at hv
          rw [if_neg (by omega)]
          exact hsj i v hv
      case measure => simp [intOf]; omega
    · have hje : j = cs.length := by omega
      have hjt : cs.take j = cs := List.take_of_length_le (by omega)
      rw [hjt] at hsj
      clear hjt
      have hbd : Blk wr d 157 (devCells Y.dl n (.slice ca cs.length cc) (wrap64 (calls + 1))) := hb1.at_ (hgw.block d hb1.lt (by simpa using hne.symm))
      have hc := hbd.cell
      have hf := hbd.frozen
      unfold devCells at hc
      have hMr : Mod B DevT true false Y Y w (wr.setCell ⟨d, 1, none⟩ (.slice none 0 0)) :=
        (hm1.trans (mod_grown hgw (fun k hk => by injection hk with hk; subst hk; exact h.hdl) (fun k hk => .inl ⟨rfl, by injection hk with hk; exact hk.symm⟩))).set_ h.hd hbd.ty (by decide) _
      go_wp2_with fail
      go_ret
      refine ⟨rfl, hMr, .slice none 0 0, wrap64 (calls + 1), lsj, [], over lview cs, ⟨h.hd, h.hdl, hn, hMr.rbl h.rbl, hbd.set_ 1 _, hbj.far hne _, hlj, fun i v hi => (hsj i v hi).mod hMr (by decide), World.ownsRow_nil _ _ _ _, by simp⟩, rfl, rfl⟩
end Go.Proofs.YtllhgbanbelmaaaGreat

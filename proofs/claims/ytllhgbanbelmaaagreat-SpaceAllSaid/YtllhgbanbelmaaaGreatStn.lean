/- store: Write where it is busy, or where nothing changes. -/
import Derived.Test.YtllhgbanbelmaaaGreatStm
namespace Go.Proofs.YtllhgbanbelmaaaGreat
open Go.RowKit
variable {B : Nat} {T : List Nat} {D R : Bool} {Y Y' : Sys} {w w' : World} {s : Nat} {σ : StS} {η : StH}

set_option maxRecDepth 100000 in
set_option maxHeartbeats 4000000 in
theorem write50_busy (h : StoreAt B Y w s σ) (i : Nat) (x : TxS) (hx : σ.ts[i]? = some x) (n off : Nat) (hn : n < σ.np) (hS : n ∈ σ.S) (bs : List UInt8) (hl : off + bs.length ≤ 504) (h0 : 0 < bs.length) (v : Value) (hv : Byts B Y w v bs) (hbz : busyB σ.ts x.id n off bs.length = true) :
    Calls Tryz.prog 50 #[.pointer (some ⟨s, 0, none⟩), i64 x.id, i64 n, i64 off, v] w fun e w' => e = .returned (i64 62) ∧ Below w.heap.size w w' := by
  obtain ⟨η, hI⟩ := h
  have hof := of52g hI.blk hI.op i x hx
  obtain ⟨_, _, _, _, _, _, hci⟩ := id hI.core
  have hwi := within78 hI.blk hci.file n off bs.length (by omega) (by omega) (by omega) (by omega) (by omega) (by omega)
  have hbu := busy108 hI.blk hI.op x.id n off bs.length (by omega) (by omega) (by omega) (by omega) (fun y hy u hu => by have := (hI.num y hy).2.2.2.2 u hu; exact ⟨this.2.2.2.2.1, by have := this.2.2.2.2.2; omega⟩)
  rw [hbz] at hbu
  obtain ⟨va, vc, rfl⟩ := hv.slice
  have hc := hI.blk.cell
  unfold stCells at hc
  have HOF := Lib.hid hof
  have HW := Lib.hid hwi
  have HBU := Lib.hid hbu
  clear hof hwi hbu hci hbz
  go_enter Tryz.func50, Tryz.ntmps50
  go_wp2_with fail
  refine HOF.out.mono ?_
  rintro e w0 ⟨rfl, hw0⟩
  have hw0 := hw0.symm
  subst hw0
  go_wp2_with fail
  refine HW.out.mono ?_
  rintro e w0 ⟨rfl, hw0⟩
  have hw0 := hw0.symm
  subst hw0
  go_wp2_with fail
  refine HBU.out.mono ?_
  rintro e w1 ⟨rfl, hb1⟩
  go_wp2_with fail
  go_ret
  exact ⟨rfl, hb1⟩

/-- the part of a page that a write is about -/
def part (l : List UInt8) (off len : Nat) : List UInt8 := (l.drop off).take len
theorem bytes_eq {S1 S2 : ByteArray} {a b : List UInt8} (h1 : S1 = ⟨a.toArray⟩) (h2 : S2 = ⟨b.toArray⟩) : (S1.toList == S2.toList) = (a == b) := by
  subst h1 h2
  simp [ByteArray.toList_eq]
set_option maxRecDepth 100000 in
set_option maxHeartbeats 4000000 in
theorem write50_same (h : StoreAt B Y w s σ) (i : Nat) (x : TxS) (hx : σ.ts[i]? = some x) (n off : Nat) (hn : n < σ.np) (hS : n ∈ σ.S) (bs : List UInt8) (hl : off + bs.length ≤ 504) (h0 : 0 < bs.length) (v : Value) (hv : Byts B Y w v bs) (hbz : busyB σ.ts x.id n off bs.length = false) (heq : bs = part (σ.content n) off bs.length) :
    Calls Tryz.prog 50 #[.pointer (some ⟨s, 0, none⟩), i64 x.id, i64 n, i64 off, v] w fun e w' => e = .returned (i64 0) ∧ ∃ wm, Mod B StT false false Y Y w wm ∧ StoreAt B Y wm s σ ∧ Below wm.heap.size wm w' := by
  have HEQ := Lib.hid heq
  clear heq
  obtain ⟨η, hI⟩ := h
  have hof := of52g hI.blk hI.op i x hx
  obtain ⟨_, _, _, _, _, _, hci⟩ := id hI.core
  have hwi := within78 hI.blk hci.file n off bs.length (by omega) (by omega) (by omega) (by omega) (by omega) (by omega)
  have hbu := busy108 hI.blk hI.op x.id n off bs.length (by omega) (by omega) (by omega) (by omega) (fun y hy u hu => by have := (hI.num y hy).2.2.2.2 u hu; exact ⟨this.2.2.2.2.1, by have := this.2.2.2.2.2; omega⟩)
  rw [hbz] at hbu
  obtain ⟨va, vc, rfl⟩ := hv.slice
  have hc := hI.blk.cell
  unfold stCells at hc
  have HOF := Lib.hid hof
  have HW := Lib.hid hwi
  have HBU := Lib.hid hbu
  clear hof hwi hbu hci hbz
  go_enter Tryz.func50, Tryz.ntmps50
  go_wp2_with fail
  refine HOF.out.mono ?_
  rintro e w0 ⟨rfl, hw0⟩
  have hw0 := hw0.symm
  subst hw0
  go_wp2_with fail
  refine HW.out.mono ?_
  rintro e w0 ⟨rfl, hw0⟩
  have hw0 := hw0.symm
  subst hw0
  go_wp2_with fail
  refine HBU.out.mono ?_
  rintro e w1 ⟨rfl, hb1⟩
  have hbs1 : Blk w1 s 105 _ := hI.blk.at_ (hb1.block _ hI.blk.lt)
  have hc1 := hbs1.cell
  unfold stCells at hc1
  have hget := core_get (hI.core.below hb1) n hn hS
  have HG := Lib.hid hget
  clear hget hc
  go_wp2_with fail
  refine HG.out.mono ?_
  rintro e w2 ⟨v2, wm, rfl, hm2, hco2, hbm, hown2⟩
  obtain ⟨g, c, rfl, hgb, hgl⟩ := hown2.form (by decide)
  have hgc : 512 ≤ c := by obtain ⟨_, _, e, hgc, _⟩ := own_form hown2; injection e with _ _ e; omega
  have hpl := hI.core.len hn
  have hcne : ¬ c = 8 + off := by omega
  have hsrc := src_sub hown2 (8 + off) bs.length (by omega) (by rw [List.length_map, hpl]) hgc
  rw [if_neg hcne] at hsrc
  obtain ⟨old, hold⟩ : ∃ old, old = part (σ.content n) off bs.length := ⟨_, rfl⟩
  have holdl : old.length = bs.length := by rw [hold]; unfold part; rw [List.length_take, List.length_drop, StoreAt.len ⟨η, hI⟩ hn]; omega
  have holdm : (((η.pages n).map bv).drop (8 + off)).take bs.length = old.map bv := by rw [hold, part, ← hI.ct n hn, List.drop_drop, List.map_take, List.map_drop]
  rw [holdm] at hsrc
  have hcv1 := run_str w2 u48 u5 u9 (bs := old) (v := .slice (some ⟨g, 8 + off, none⟩) bs.length (c - (8 + off))) (by rw [holdl]; exact hsrc)
  have hvs := Sl.src (hv.mod (((mod_below B StT false false Y hb1).trans (hm2.more StT false false (by decide))).below_ hbm) (by decide))
  rw [List.length_map] at hvs
  have hcv2 := run_str w2 u48 u5 u9 (bs := bs) hvs
  obtain ⟨S1, hS1⟩ : ∃ S1 : ByteArray, S1 = ⟨old.toArray⟩ := ⟨_, rfl⟩
  obtain ⟨S2, hS2⟩ : ∃ S2 : ByteArray, S2 = ⟨bs.toArray⟩ := ⟨_, rfl⟩
  rw [← hS1] at hcv1
  rw [← hS2] at hcv2
  have hse := bytes_eq hS1 hS2
  have hl' : (off : Int) + bs.length ≤ 504 := by omega
  have h1 : (0 : Int) ≤ off := by omega
  have h2 : (0 : Int) < bs.length := by omega
  have HOLD := Lib.hid hold
  rw [show (old == bs) = true by rw [hold, ← HEQ.out]; simp] at hse
  clear hold holdm holdl hS1 hS2 hsrc hvs HW HBU HOF HG
  go_wp2_with fail
  go_ret
  exact ⟨rfl, wm, (mod_below B StT false false Y hb1).trans (hm2.more StT false false (by decide)), ⟨η, hI.hs, Nat.le_trans hI.hB (Nat.le_trans hb1.size hm2.size), hm2.keep' hbs1 (by decide) (by simp) (by simp) (by decide) (by decide), hco2.drop, own_mod' (own_at hI.ln fun g hg => hb1.block g (own_lt hI.ln hg)) hm2 (by decide) (by simp) (by simp) (by decide) (by decide), hI.hnl, (hI.op.below hb1).mod hm2 (by decide) (by simp) (by simp), hI.free, hI.hst, hI.ct, hI.num, hI.nx⟩, hbm⟩
end Go.Proofs.YtllhgbanbelmaaaGreat

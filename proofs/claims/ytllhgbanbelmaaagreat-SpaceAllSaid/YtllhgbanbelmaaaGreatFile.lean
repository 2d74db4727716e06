/- Contracts of package file. -/
import Derived.Test.YtllhgbanbelmaaaGreatRingb
namespace Go.Proofs.YtllhgbanbelmaaaGreat
open Go.RowKit
variable {B : Nat} {T : List Nat} {D R : Bool} {Y Y' : Sys} {w w' : World}

def fileCells (d from_ pages : Nat) : Array Value := #[.pointer (some ⟨d, 0, none⟩), i64 from_, i64 pages, .bool false]
structure FileAt (B : Nat) (w : World) (f d from_ pages : Nat) : Prop where
  hf : B ≤ f
  blk : Blk w f 250 (fileCells d from_ pages)
  p1 : 1 ≤ pages
  p2 : from_ + 5 + 4 * pages ≤ 8192
theorem FileAt.mod {f d from_ pages} (h : FileAt B w f d from_ pages) (m : Mod B T D R Y Y' w w') (hT : 250 ∉ T) (hD : D = true → ∃ cs, Blk w Y.dl 48 cs) (hR : R = true → ∀ g, Y.rb = some g → ∃ cs, Blk w g 5 cs) : FileAt B w' f d from_ pages :=
  ⟨h.hf, m.keep h.blk hT (fun hd => let ⟨cs, hb⟩ := hD hd; h.blk.ne_ hb (by decide)) (fun hr e => let ⟨cs, hb⟩ := hR hr _ e.symm; h.blk.ne_ hb (by decide) rfl), h.p1, h.p2⟩
theorem FileAt.below {f d from_ pages} (h : FileAt B w f d from_ pages) (hb : Below w.heap.size w w') : FileAt B w' f d from_ pages := h.mod (T := []) (mod_below B [] false false ⟨0, none⟩ hb) (by simp) (by simp) (by simp)

set_option maxRecDepth 100000 in
set_option maxHeartbeats 2000000 in
theorem file_open0 {d n k fr pg : Nat} {view : Nat → List UInt8} (hd : DevAt B Y w d n k view) (hB : B ≤ w.heap.size) (hk : k < 1099511627776) (hn8 : n ≤ 8192) (h1 : 1 ≤ pg) (hfn : fr + 5 + 4 * pg ≤ n) (hv : view fr = List.replicate 128 0) :
    Calls Tryz.prog 88 #[.pointer (some ⟨d, 0, none⟩), i64 fr, i64 pg] w fun e w' => ∃ f, e = .returned (.tuple #[.pointer (some ⟨f, 0, none⟩), i64 0]) ∧ Mod B DevT false false Y Y w w' ∧ DevAt B Y w' d n k view ∧ w.heap.size ≤ f ∧ FileAt B w' f d fr pg := by
  have hS := dev_size hd
  have a1 : (1 : Int) ≤ pg := by omega
  have a2 : (0 : Int) ≤ fr := by omega
  have a3 : (fr : Int) ≤ n := by omega
  have a4 : (5 : Int) ≤ n - fr := by omega
  have a5 : (pg : Int) ≤ (n - fr - 1 - 4) / 4 := by omega
  have a6 : (n : Int) ≤ 8192 := by omega
  go_enter Tryz.func88, Tryz.ntmps88
  go_upto_region 3 with (go_at_call 84; refine hS.mono ?_; rintro e w' ⟨rfl, rfl⟩)
  go_wp2_with fail
  have hb1 : Blk (w.alloc (.cells #[.pointer (some ⟨d, 0, none⟩), i64 fr, i64 pg, .bool false] 250)) w.heap.size 250 (fileCells d fr pg) := Blk.new _ _ _
  have hd1 := hd.below ((Below.refl _ _).alloc (Nat.le_refl _) (.cells #[.pointer (some ⟨d, 0, none⟩), i64 fr, i64 pg, .bool false] 250))
  have hr := dev_read hd1 fr (by omega) hk
  go_wp2_with (go_at_call 150; refine hr.mono ?_; rintro e w2 ⟨v, rfl, hq2, hown2⟩; have hm2 := hd1.mod' hq2; have hd2 := hd1.q hq2; rw [hv] at hown2; obtain ⟨g, c, rfl, hgb, hgl⟩ := hown2.form (by decide); have hcc : (8 : Int) ≤ c := by have := (own_le hown2).1; omega)
  have hcell : ∀ j, j < 8 → w2.cell? ⟨g, j, none⟩ = some (.int .u8 0) := by
    intro j hj
    have := hown2.cells (g := g) rfl j (bv 0) (by rw [List.map_replicate, List.getElem?_replicate, if_pos (by omega)])
    rwa [addr_add, Nat.zero_add] at this
  clear hS hr
  go_loopw [66, 11] (fun t u wr => ∃ j : Nat, j ≤ 8 ∧ t = .int .i64 j ∧ u = .int .i64 0 ∧ wr = w2) (fun t _ _ => 8 - (intOf t).toNat)
  case atStart => exact ⟨0, by omega, rfl, by simp⟩
  case round =>
    obtain ⟨j, hj, rfl, rfl, rfl⟩ := hrel
    by_cases hlt : j < 8
    · have hj' : (j : Int) < 8 := by omega
      have hc := hcell j hlt
      clear hcell
      go_wp2_with fail
      go_roundw
      case rel =>
        have hbit : bits BinOp.or IntKind.i64 0 0 = 0 := by decide
        exact ⟨j + 1, by omega, by go_num, by simp [hbit]⟩
      case measure => simp [intOf]; omega
    · have hje : j = 8 := by omega
      subst hje
      go_wp2_with fail
      go_ret2
      have hM : Mod B DevT false false Y Y w wr := ((Mod.refl B DevT false false Y w).alloc _).trans hm2
      exact ⟨w.heap.size, rfl, hM, hd2, Nat.le_refl _, ⟨hB, hm2.keep hb1 (by decide) (by simp) (by simp), h1, by omega⟩⟩

def cat (view : Nat → List UInt8) (at_ : Nat) : Nat → List UInt8
  | 0 => []
  | k + 1 => cat view at_ k ++ view (at_ + k)
theorem DevAt.len {d n k view} (h : DevAt B Y w d n k view) (i : Nat) (hi : i < n) : (view i).length = 128 := by
  obtain ⟨cv, calls, ls, cs, lview, h, rfl, rfl⟩ := h
  obtain ⟨lv, hlv⟩ : ∃ lv, ls[i]? = some lv := ⟨ls[i]'(by rw [h.lsz]; exact hi), Array.getElem?_eq_getElem _⟩
  exact over_len i cs lview (h.secs i lv hlv).1 fun x hx => (h.waits x hx).2.1
theorem cat_len {view : Nat → List UInt8} {at_ : Nat} : ∀ k, (∀ j, j < k → (view (at_ + j)).length = 128) → (cat view at_ k).length = 128 * k
  | 0, _ => rfl
  | k + 1, h => by
    rw [cat, List.length_append, cat_len k fun j hj => h j (by omega), h k (by omega)]
    omega

set_option maxRecDepth 100000 in
set_option maxHeartbeats 2000000 in
theorem file_gather {d n k f fr pg : Nat} {view : Nat → List UInt8} (hd : DevAt B Y w d n k view) (hf : FileAt B w f d fr pg) (hk : k < 1099511627776) (hn8 : n ≤ 8192) (at_ : Nat) (ha : at_ + 4 ≤ n) :
    Calls Tryz.prog 153 #[.pointer (some ⟨f, 0, none⟩), i64 at_] w fun e w' => ∃ v, e = .returned (.tuple #[v, i64 0]) ∧ DevQ d w w' ∧ w'.ownsRow w.heap.size 5 1 v 512 ((cat view at_ 4).map bv) := by
  have a1 : (0 : Int) ≤ at_ := by omega
  have a2 : (at_ : Int) ≤ 8192 := by omega
  go_enter Tryz.func153, Tryz.ntmps153
  go_wp2_with fail
  go_loopw [10, 6] (fun t v wr => ∃ j : Nat, j ≤ 4 ∧ t = .int .i64 j ∧ wr.ownsRow w.heap.size 5 1 v (128 * j) ((cat view at_ j).map bv) ∧ DevQ d w wr) (fun t _ _ => 4 - (intOf t).toNat)
  case atStart => exact ⟨0, by omega, rfl, World.ownsRow_nil _ _ _ _, hd.below_q (Below.refl _ _)⟩
  case round =>
    obtain ⟨j, hj, rfl, hown, hQ⟩ := hrel
    by_cases hlt : j < 4
    · have hj' : (j : Int) < 4 := by omega
      have hM := hd.mod' hQ
      have hdr := hd.q hQ
      have hbf := hM.keep hf.blk (by decide) (by simp) (by simp)
      have hc := hbf.cell
      unfold fileCells at hc
      have hr := dev_read hdr (at_ + j) (by omega) hk
      have HQ := Lib.hid hQ
      have hown1 := Lib.hid hown
      have hdr1 := Lib.hid hdr
      clear hM hown hdr hQ
      rw [show ((at_ + j : Nat) : Int) = (at_ : Int) + j from by omega] at hr
      go_upto_region 8 with (go_at_call 150; refine hr.mono ?_; rintro e w2 ⟨u, rfl, hq2, hown2⟩)
      have hm2 := hdr1.out.mod' hq2
      have hown3 := own_mod hown1.out hm2 (by decide) (by simp) (by simp)
      have hz2 := hm2.size
      have hzw := HQ.out.size
      have hvl := hdr1.out.len (at_ + j) (by omega)
      have hl1 : ((view (at_ + j)).map bv).length = 128 * 1 := by rw [List.length_map, hvl]
      have hbnd : 128 * j + 128 ≤ maxLen ∧ (128 * j + 128) * 1 ≤ 140737488355328 ∧ w.heap.size ≤ w2.heap.size := by simp [maxLen]; omega
      have hone := bv_one (view (at_ + j))
      go_wp2_with (at_builtin; refine wpList_app w2 rfl (.tmp 27) (.tmp 28) rfl w.heap.size sl48 hown3 rfl (src_own hown2) rfl hl1 hone hbnd ?_; intro v3 w3 hown4 hg4 hat4)
      go_roundw
      case rel =>
        refine ⟨j + 1, by omega, by go_num, ?_, ?_⟩
        · rw [show 128 * (j + 1) = 128 * j + 128 by omega, cat, List.map_append]
          exact hown4
        · exact (HQ.out.trans hq2).old hd.lt ((Below.refl _ _).grown hg4 (by omega) (fun g hg => (hown3.lt g hg).1))
      case measure => simp [intOf]; omega
    · have hje : j = 4 := by omega
      subst hje
      go_wp2_with fail
      go_ret2
      exact ⟨_, rfl, hQ, hown⟩
end Go.Proofs.YtllhgbanbelmaaaGreat

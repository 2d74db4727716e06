/- store: Write where something changes. -/
import Derived.Test.YtllhgbanbelmaaaGreatStoa
namespace Go.Proofs.YtllhgbanbelmaaaGreat
open Go.RowKit
variable {B : Nat} {T : List Nat} {D R : Bool} {Y Y' : Sys} {w w' : World} {s : Nat} {σ : StS} {η : StH}

set_option maxRecDepth 100000 in
set_option maxHeartbeats 8000000 in
theorem write50_do (h : StoreAt B Y w s σ) (i : Nat) (x : TxS) (hx : σ.ts[i]? = some x) (n off : Nat) (hn : n < σ.np) (hS : n ∈ σ.S) (bs : List UInt8) (hl : off + bs.length ≤ 504) (h0 : 0 < bs.length) (v : Value) (hv : Byts B Y w v bs) (hbz : busyB σ.ts x.id n off bs.length = false) (hroom : (192 + 3 * bs.length : Nat) ≤ σ.free - kept σ.ts - 2048) (hne : bs ≠ part (σ.content n) off bs.length) :
    Calls Tryz.prog 50 #[.pointer (some ⟨s, 0, none⟩), i64 x.id, i64 n, i64 off, v] w (Wrote B Y w s σ i x n off bs) := by
  have HEQ := Lib.hid hne
  clear hne
  obtain ⟨η, hI⟩ := h
  have h0f := hI.freeb
  have htb := hI.tailb h0f
  have hrr : η.ρ.room = σ.free := by have := hI.room; omega
  have hkb : kept σ.ts ≤ 1099511627776 := by omega
  have HRR := Lib.hid hrr
  clear hrr
  have hof := of52g hI.blk hI.op i x hx
  obtain ⟨_, _, _, _, _, _, hci⟩ := id hI.core
  have hwi := within78 hI.blk hci.file n off bs.length (by omega) (by omega) (by omega) (by omega) (by omega) (by omega)
  have hbu := busy108 hI.blk hI.op x.id n off bs.length (by omega) (by omega) (by omega) (by omega) (fun y hy u hu => by have := (hI.num y hy).2.2.2.2 u hu; exact ⟨this.2.2.2.2.1, by have := this.2.2.2.2.2; omega⟩)
  rw [hbz] at hbu
  obtain ⟨va, vc, rfl⟩ := hv.slice
  have hc := hI.blk.cell
  unfold stCells at hc
  have HOF := Lib.hid hof
  have HW := Lib.hid hwi
  have HBU := Lib.hid hbu
  clear hof hwi hbu hci hbz
  go_enter Tryz.func50, Tryz.ntmps50
  go_wp2_with fail
  refine HOF.out.mono ?_
  rintro e w0 ⟨rfl, hw0⟩
  have hw0 := hw0.symm
  subst hw0
  go_wp2_with fail
  refine HW.out.mono ?_
  rintro e w0 ⟨rfl, hw0⟩
  have hw0 := hw0.symm
  subst hw0
  go_wp2_with fail
  refine HBU.out.mono ?_
  rintro e w1 ⟨rfl, hb1⟩
  have hbs1 : Blk w1 s 105 _ := hI.blk.at_ (hb1.block _ hI.blk.lt)
  have hc1 := hbs1.cell
  unfold stCells at hc1
  have hget := core_get (hI.core.below hb1) n hn hS
  have HG := Lib.hid hget
  clear hget hc
  go_wp2_with fail
  refine HG.out.mono ?_
  rintro e w2 ⟨v2, wm, rfl, hm2, hco2, hbm, hown2⟩
  obtain ⟨g, c, rfl, hgb, hgl⟩ := hown2.form (by decide)
  have hgc : 512 ≤ c := by obtain ⟨_, _, e, hgc, _⟩ := own_form hown2; injection e with _ _ e; omega
  have hpl := hI.core.len hn
  have hcne : ¬ c = 8 + off := by omega
  have hsrc := src_sub hown2 (8 + off) bs.length (by omega) (by rw [List.length_map, hpl]) hgc
  rw [if_neg hcne] at hsrc
  obtain ⟨old, hold⟩ : ∃ old, old = part (σ.content n) off bs.length := ⟨_, rfl⟩
  have holdl : old.length = bs.length := by rw [hold]; unfold part; rw [List.length_take, List.length_drop, StoreAt.len ⟨η, hI⟩ hn]; omega
  have holdm : (((η.pages n).map bv).drop (8 + off)).take bs.length = old.map bv := by rw [hold, part, ← hI.ct n hn, List.drop_drop, List.map_take, List.map_drop]
  rw [holdm] at hsrc
  have hcv1 := run_str w2 u48 u5 u9 (bs := old) (v := .slice (some ⟨g, 8 + off, none⟩) bs.length (c - (8 + off))) (by rw [holdl]; exact hsrc)
  have hvs := Sl.src (hv.mod (((mod_below B StT false false Y hb1).trans (hm2.more StT false false (by decide))).below_ hbm) (by decide))
  rw [List.length_map] at hvs
  have hcv2 := run_str w2 u48 u5 u9 (bs := bs) hvs
  obtain ⟨S1, hS1⟩ : ∃ S1 : ByteArray, S1 = ⟨old.toArray⟩ := ⟨_, rfl⟩
  obtain ⟨S2, hS2⟩ : ∃ S2 : ByteArray, S2 = ⟨bs.toArray⟩ := ⟨_, rfl⟩
  rw [← hS1] at hcv1
  rw [← hS2] at hcv2
  have hse := bytes_eq hS1 hS2
  have hl' : (off : Int) + bs.length ≤ 504 := by omega
  have h1 : (0 : Int) ≤ off := by omega
  have h2 : (0 : Int) < bs.length := by omega
  have HOLD := Lib.hid hold
  rw [show (old == bs) = false by rw [hold]; simpa using fun e => HEQ.out e.symm] at hse
  have hbs2' : Blk wm s 105 _ := hm2.keep' hbs1 (by decide) (by simp) (by simp) (by decide) (by decide)
  have hop2 := (hI.op.below hb1).mod hm2 (by decide) (by simp) (by simp)
  have htx2 := hop2.tx x (List.mem_of_getElem? hx)
  have hbt2 : Blk w2 x.t 120 _ := htx2.blk.at_ (hbm.block _ htx2.blk.lt)
  have hx2 : w2.cell? ⟨x.t, 2, none⟩ = some (i64 x.last) := hbt2.cell 2
  have hxt : x.t < w2.heap.size := hbt2.lt
  have hbsl : (bs.map bv).length = bs.length := List.length_map _
  rw [← List.length_map (f := bv)] at holdl
  have hL47 : bs.length ≤ 140737488355328 := by omega
  have HHOLDM := Lib.hid holdm
  have HHL := Lib.hid holdl
  have HBSL := Lib.hid hbsl
  have HS1 := Lib.hid hS1
  have HS2 := Lib.hid hS2
  clear hold holdm hS1 hS2 HW HBU HOF HG holdl hbsl
  go_upto_region 16 with (fail)
  rw [show 8 + off + bs.length - (8 + off) = bs.length from Nat.add_sub_cancel_left _ _]
  go_cut [15] (fun v wx => Made16 w2 x.id x.last n off old bs bs.length v wx)
  case first =>
    have holdl := HHL.out
    have hbsl := HBSL.out
    refine wp_region_G (fun w' => w'.cell? ⟨x.t, 2, none⟩ = some (i64 x.last)) 15 16 (by kernel_rfl) rfl ?_
    intro wd hsd
    have hSw : wd.cell? ⟨x.t, 2, none⟩ = some (i64 x.last) := (hsd.cell _).trans hx2
    have hbe0 := hsd.below w2.heap.size
    refine' wpF_take 0 (v := _) rfl (by kernel_rfl) (fun _ _ _ h => h) (by rfl) hSw (fun w' hS => ?_) ?_; rotate_left
    · go_simp; with_reducible rfl
    simp only [Act.put, List.getElem_toArray, List.getElem_cons_succ, List.getElem_cons_zero, List.setIfInBounds_toArray, List.set_cons_zero, List.set_cons_succ]
    refine' wpF_take 1 (v := _) rfl (by kernel_rfl) (fun _ _ _ h => h) (by rfl) hSw (fun w' hS => ?_) ?_; rotate_left
    · go_simp; with_reducible rfl
    simp only [Act.put, List.getElem_toArray, List.getElem_cons_succ, List.getElem_cons_zero, List.setIfInBounds_toArray, List.set_cons_zero, List.set_cons_succ]
    refine' wpF_take 2 (v := _) rfl (by kernel_rfl) (fun _ _ _ h => h) (by rfl) hSw (fun w' hS => ?_) ?_; rotate_left
    · go_simp; with_reducible rfl
    simp only [Act.put, List.getElem_toArray, List.getElem_cons_succ, List.getElem_cons_zero, List.setIfInBounds_toArray, List.set_cons_zero, List.set_cons_succ]
    refine' wpF_take 3 (v := _) rfl (by kernel_rfl) (fun _ _ _ h => h) (by rfl) hSw (fun w' hS => ?_) ?_; rotate_left
    · go_simp; with_reducible rfl
    simp only [Act.put, List.getElem_toArray, List.getElem_cons_succ, List.getElem_cons_zero, List.setIfInBounds_toArray, List.set_cons_zero, List.set_cons_succ]
    refine' wpF_take 4 (v := _) rfl (by kernel_rfl) (fun _ _ _ h => h) (by rfl) hSw (fun w' hS => ?_) ?_; rotate_left
    · go_simp; with_reducible rfl
    simp only [Act.put, List.getElem_toArray, List.getElem_cons_succ, List.getElem_cons_zero, List.setIfInBounds_toArray, List.set_cons_zero, List.set_cons_succ]
    refine' wpF_take 5 (v := _) rfl (by kernel_rfl) (fun _ _ _ h => h) (by rfl) hSw (fun w' hS => ?_) ?_; rotate_left
    · go_simp; with_reducible rfl
    simp only [Act.put, List.getElem_toArray, List.getElem_cons_succ, List.getElem_cons_zero, List.setIfInBounds_toArray, List.set_cons_zero, List.set_cons_succ]
    refine' wpF_take 6 (v := _) rfl (by kernel_rfl) (fun _ _ _ h => h) (by rfl) hSw (fun w' hS => ?_) ?_; rotate_left
    · go_simp; with_reducible rfl
    simp only [Act.put, List.getElem_toArray, List.getElem_cons_succ, List.getElem_cons_zero, List.setIfInBounds_toArray, List.set_cons_zero, List.set_cons_succ]
    refine' wpF_take 7 (v := _) rfl (by kernel_rfl) (fun _ _ _ h => h) (by rfl) hSw (fun w' hS => ?_) ?_; rotate_left
    · go_simp; with_reducible rfl
    simp only [Act.put, List.getElem_toArray, List.getElem_cons_succ, List.getElem_cons_zero, List.setIfInBounds_toArray, List.set_cons_zero, List.set_cons_succ]
    refine' wpF_take 10 (v := _) rfl (by kernel_rfl) (fun _ _ _ h => h) (by rfl) hSw (fun w' hS => ?_) ?_; rotate_left
    · go_simp; with_reducible rfl
    simp only [Act.put, List.getElem_toArray, List.getElem_cons_succ, List.getElem_cons_zero, List.setIfInBounds_toArray, List.set_cons_zero, List.set_cons_succ]
    refine wpF_two 8 14 rfl rfl (by kernel_rfl) ?_ ?_
    all_goals simp only [List.getElem_toArray, List.getElem_cons_succ, List.getElem_cons_zero]
    · skip
      go_wp2_with ((go_at_call 110; refine (clone110 _ bs.length (old.map bv) _ (hsrc.mono hbe0) holdl (bv_one old) hL47).mono ?_); rintro e w11 ⟨v11, rfl, hown11, hb11⟩; obtain ⟨g11, c11, rfl, hgb11, hgl11⟩ := hown11.form h0)
      have hbe11 := hbe0.trans (hb11.mono hbe0.size)
      have hcm11 := own_cap hown11
      have oo11 := own_base hown11 hbe0.size
      have hSc11 := (hbe11.cell (p := ⟨x.t, 2, none⟩) hxt).trans hx2
      refine ⟨fun _ => hSc11, ?_⟩
      have hSw := hSc11
      refine wpF_two 9 14 rfl rfl (by kernel_rfl) ?_ ?_
      all_goals simp only [List.getElem_toArray, List.getElem_cons_succ, List.getElem_cons_zero]
      · skip
        go_wp2_with ((go_at_call 109; refine (clip109x _ _ _ _ hcm11.1 hcm11.2).mono ?_); rintro e w12 ⟨rfl, rfl⟩)
        have hSc12 := (hbe11.cell (p := ⟨x.t, 2, none⟩) hxt).trans hx2
        refine ⟨fun _ => hSc12, ?_⟩
        have hSw := hSc12
        refine wpF_two 11 14 rfl rfl (by kernel_rfl) ?_ ?_
        all_goals simp only [List.getElem_toArray, List.getElem_cons_succ, List.getElem_cons_zero]
        · skip
          go_wp2_with ((go_at_call 110; refine (clone110 _ bs.length (bs.map bv) _ (hvs.mono hbe11) hbsl (bv_one bs) hL47).mono ?_); rintro e w13 ⟨v13, rfl, hown13, hb13⟩; obtain ⟨g13, c13, rfl, hgb13, hgl13⟩ := hown13.form h0)
          have hbe13 := hbe11.trans (hb13.mono hbe11.size)
          have hcm13 := own_cap hown13
          have o13a := own_at oo11 (fun g e => hb13.block g (own_lt oo11 e))
          have oo13 := own_base hown13 hbe11.size
          have hSc13 := (hbe13.cell (p := ⟨x.t, 2, none⟩) hxt).trans hx2
          refine ⟨fun _ => hSc13, ?_⟩
          have hSw := hSc13
          refine wpF_two 12 14 rfl rfl (by kernel_rfl) ?_ ?_
          all_goals simp only [List.getElem_toArray, List.getElem_cons_succ, List.getElem_cons_zero]
          · skip
            go_wp2_with ((go_at_call 109; refine (clip109x _ _ _ _ hcm13.1 hcm13.2).mono ?_); rintro e w14 ⟨rfl, rfl⟩)
            have hSc14 := (hbe13.cell (p := ⟨x.t, 2, none⟩) hxt).trans hx2
            refine ⟨fun _ => hSc14, ?_⟩
            have hSw := hSc14
            refine' wpF_take 13 (v := _) rfl (by kernel_rfl) (fun _ _ _ h => h) (by rfl) hSw (fun w' hS => ?_) ?_; rotate_left
            · go_simp; with_reducible rfl
            simp only [Act.put, List.getElem_toArray, List.getElem_cons_succ, List.getElem_cons_zero, List.setIfInBounds_toArray, List.set_cons_zero, List.set_cons_succ]
            refine wpF_one 14 rfl (by kernel_rfl) ?_
            simp only [List.getElem_toArray, List.getElem_cons_succ, List.getElem_cons_zero]
            go_wp2_with fail
            have k15 : Blk (w13.alloc (.cells #[.int .i64 0, .int .i64 0, .int .i64 0, .int .i64 0, .int .i64 0, .int .i64 0, .slice none 0 0, .slice none 0 0, .slice none 0 0, .slice none 0 0, .int .i64 0] 112)) w13.heap.size 112 #[.int .i64 0, .int .i64 0, .int .i64 0, .int .i64 0, .int .i64 0, .int .i64 0, .slice none 0 0, .slice none 0 0, .slice none 0 0, .slice none 0 0, .int .i64 0] := Blk.new _ _ _
            have hbe15 := hbe13.alloc hbe13.size (.cells #[.int .i64 0, .int .i64 0, .int .i64 0, .int .i64 0, .int .i64 0, .int .i64 0, .slice none 0 0, .slice none 0 0, .slice none 0 0, .slice none 0 0, .int .i64 0] 112)
            have hb15 : Below w13.heap.size w13 (w13.alloc (.cells #[.int .i64 0, .int .i64 0, .int .i64 0, .int .i64 0, .int .i64 0, .int .i64 0, .slice none 0 0, .slice none 0 0, .slice none 0 0, .slice none 0 0, .int .i64 0] 112)) := (Below.refl _ _).alloc (Nat.le_refl _) _
            have hage15 : w2.heap.size ≤ w13.heap.size := hbe13.size
            have o15a := own_at o13a (fun g e => hb15.block g (own_lt o13a e))
            have o15b := own_at oo13 (fun g e => hb15.block g (own_lt oo13 e))
            have hSc15 := (hbe15.cell (p := ⟨x.t, 2, none⟩) hxt).trans hx2
            refine ⟨fun _ => hSc15, ?_⟩
            have hSw := hSc15
            generalize w13.alloc (.cells #[.int .i64 0, .int .i64 0, .int .i64 0, .int .i64 0, .int .i64 0, .int .i64 0, .slice none 0 0, .slice none 0 0, .slice none 0 0, .slice none 0 0, .int .i64 0] 112) = w15 at *
            refine wpF_tail (by kernel_rfl) ?_
            simp only [List.drop_succ_cons, List.drop_zero]
            have hz := k15.cell
            have hzf := k15.frozen
            go_wp2_with fail
            go_meet
            case rel =>
              exact made16 k15 hage15 hbe15 o15a o15b rfl
          · skip
            go_wp2_with fail
            have k14 : Blk (w13.alloc (.cells #[.int .i64 0, .int .i64 0, .int .i64 0, .int .i64 0, .int .i64 0, .int .i64 0, .slice none 0 0, .slice none 0 0, .slice none 0 0, .slice none 0 0, .int .i64 0] 112)) w13.heap.size 112 #[.int .i64 0, .int .i64 0, .int .i64 0, .int .i64 0, .int .i64 0, .int .i64 0, .slice none 0 0, .slice none 0 0, .slice none 0 0, .slice none 0 0, .int .i64 0] := Blk.new _ _ _
            have hbe14 := hbe13.alloc hbe13.size (.cells #[.int .i64 0, .int .i64 0, .int .i64 0, .int .i64 0, .int .i64 0, .int .i64 0, .slice none 0 0, .slice none 0 0, .slice none 0 0, .slice none 0 0, .int .i64 0] 112)
            have hb14 : Below w13.heap.size w13 (w13.alloc (.cells #[.int .i64 0, .int .i64 0, .int .i64 0, .int .i64 0, .int .i64 0, .int .i64 0, .slice none 0 0, .slice none 0 0, .slice none 0 0, .slice none 0 0, .int .i64 0] 112)) := (Below.refl _ _).alloc (Nat.le_refl _) _
            have hage14 : w2.heap.size ≤ w13.heap.size := hbe13.size
            have o14a := own_at o13a (fun g e => hb14.block g (own_lt o13a e))
            have o14b := own_at oo13 (fun g e => hb14.block g (own_lt oo13 e))
            have hSc14 := (hbe14.cell (p := ⟨x.t, 2, none⟩) hxt).trans hx2
            refine ⟨fun _ => hSc14, ?_⟩
            have hSw := hSc14
            generalize w13.alloc (.cells #[.int .i64 0, .int .i64 0, .int .i64 0, .int .i64 0, .int .i64 0, .int .i64 0, .slice none 0 0, .slice none 0 0, .slice none 0 0, .slice none 0 0, .int .i64 0] 112) = w14 at *
            refine wpF_one 12 rfl (by kernel_rfl) ?_
            simp only [List.getElem_toArray, List.getElem_cons_succ, List.getElem_cons_zero]
            go_wp2_with ((go_at_call 109; refine (clip109x _ _ _ _ hcm13.1 hcm13.2).mono ?_); rintro e w15 ⟨rfl, rfl⟩)
            have hSc15 := (hbe14.cell (p := ⟨x.t, 2, none⟩) hxt).trans hx2
            refine ⟨fun _ => hSc15, ?_⟩
            have hSw := hSc15
            refine' wpF_take 13 (v := _) rfl (by kernel_rfl) (fun _ _ _ h => h) (by rfl) hSw (fun w' hS => ?_) ?_; rotate_left
            · go_simp; with_reducible rfl
            simp only [Act.put, List.getElem_toArray, List.getElem_cons_succ, List.getElem_cons_zero, List.setIfInBounds_toArray, List.set_cons_zero, List.set_cons_succ]
            refine wpF_tail (by kernel_rfl) ?_
            simp only [List.drop_succ_cons, List.drop_zero]
            have hz := k14.cell
            have hzf := k14.frozen
            go_wp2_with fail
            go_meet
            case rel =>
              exact made16 k14 hage14 hbe14 o14a o14b rfl
        · skip
          go_wp2_with fail
          have k13 : Blk (w11.alloc (.cells #[.int .i64 0, .int .i64 0, .int .i64 0, .int .i64 0, .int .i64 0, .int .i64 0, .slice none 0 0, .slice none 0 0, .slice none 0 0, .slice none 0 0, .int .i64 0] 112)) w11.heap.size 112 #[.int .i64 0, .int .i64 0, .int .i64 0, .int .i64 0, .int .i64 0, .int .i64 0, .slice none 0 0, .slice none 0 0, .slice none 0 0, .slice none 0 0, .int .i64 0] := Blk.new _ _ _
          have hbe13 := hbe11.alloc hbe11.size (.cells #[.int .i64 0, .int .i64 0, .int .i64 0, .int .i64 0, .int .i64 0, .int .i64 0, .slice none 0 0, .slice none 0 0, .slice none 0 0, .slice none 0 0, .int .i64 0] 112)
          have hb13 : Below w11.heap.size w11 (w11.alloc (.cells #[.int .i64 0, .int .i64 0, .int .i64 0, .int .i64 0, .int .i64 0, .int .i64 0, .slice none 0 0, .slice none 0 0, .slice none 0 0, .slice none 0 0, .int .i64 0] 112)) := (Below.refl _ _).alloc (Nat.le_refl _) _
          have hage13 : w2.heap.size ≤ w11.heap.size := hbe11.size
          have o13a := own_at oo11 (fun g e => hb13.block g (own_lt oo11 e))
          have hSc13 := (hbe13.cell (p := ⟨x.t, 2, none⟩) hxt).trans hx2
          refine ⟨fun _ => hSc13, ?_⟩
          have hSw := hSc13
          generalize w11.alloc (.cells #[.int .i64 0, .int .i64 0, .int .i64 0, .int .i64 0, .int .i64 0, .int .i64 0, .slice none 0 0, .slice none 0 0, .slice none 0 0, .slice none 0 0, .int .i64 0] 112) = w13 at *
          refine wpF_one 11 rfl (by kernel_rfl) ?_
          simp only [List.getElem_toArray, List.getElem_cons_succ, List.getElem_cons_zero]
          go_wp2_with ((go_at_call 110; refine (clone110 _ bs.length (bs.map bv) _ (hvs.mono hbe13) hbsl (bv_one bs) hL47).mono ?_); rintro e w14 ⟨v14, rfl, hown14, hb14⟩; obtain ⟨g14, c14, rfl, hgb14, hgl14⟩ := hown14.form h0)
          have hbe14 := hbe13.trans (hb14.mono hbe13.size)
          have hcm14 := own_cap hown14
          have o14a := own_at o13a (fun g e => hb14.block g (own_lt o13a e))
          have k14 := k13.at_ (hb14.block _ k13.lt)
          have oo14 := own_base hown14 hbe13.size
          have hSc14 := (hbe14.cell (p := ⟨x.t, 2, none⟩) hxt).trans hx2
          refine ⟨fun _ => hSc14, ?_⟩
          have hSw := hSc14
          refine wpF_one 12 rfl (by kernel_rfl) ?_
          simp only [List.getElem_toArray, List.getElem_cons_succ, List.getElem_cons_zero]
          go_wp2_with ((go_at_call 109; refine (clip109x _ _ _ _ hcm14.1 hcm14.2).mono ?_); rintro e w15 ⟨rfl, rfl⟩)
          have hSc15 := (hbe14.cell (p := ⟨x.t, 2, none⟩) hxt).trans hx2
          refine ⟨fun _ => hSc15, ?_⟩
          have hSw := hSc15
          refine' wpF_take 13 (v := _) rfl (by kernel_rfl) (fun _ _ _ h => h) (by rfl) hSw (fun w' hS => ?_) ?_; rotate_left
          · go_simp; with_reducible rfl
          simp only [Act.put, List.getElem_toArray, List.getElem_cons_succ, List.getElem_cons_zero, List.setIfInBounds_toArray, List.set_cons_zero, List.set_cons_succ]
          refine wpF_tail (by kernel_rfl) ?_
          simp only [List.drop_succ_cons, List.drop_zero]
          have hz := k14.cell
          have hzf := k14.frozen
          go_wp2_with fail
          go_meet
          case rel =>
            exact made16 k14 hage13 hbe14 o14a oo14 rfl
      · skip
        go_wp2_with fail
        have k12 : Blk (w11.alloc (.cells #[.int .i64 0, .int .i64 0, .int .i64 0, .int .i64 0, .int .i64 0, .int .i64 0, .slice none 0 0, .slice none 0 0, .slice none 0 0, .slice none 0 0, .int .i64 0] 112)) w11.heap.size 112 #[.int .i64 0, .int .i64 0, .int .i64 0, .int .i64 0, .int .i64 0, .int .i64 0, .slice none 0 0, .slice none 0 0, .slice none 0 0, .slice none 0 0, .int .i64 0] := Blk.new _ _ _
        have hbe12 := hbe11.alloc hbe11.size (.cells #[.int .i64 0, .int .i64 0, .int .i64 0, .int .i64 0, .int .i64 0, .int .i64 0, .slice none 0 0, .slice none 0 0, .slice none 0 0, .slice none 0 0, .int .i64 0] 112)
        have hb12 : Below w11.heap.size w11 (w11.alloc (.cells #[.int .i64 0, .int .i64 0, .int .i64 0, .int .i64 0, .int .i64 0, .int .i64 0, .slice none 0 0, .slice none 0 0, .slice none 0 0, .slice none 0 0, .int .i64 0] 112)) := (Below.refl _ _).alloc (Nat.le_refl _) _
        have hage12 : w2.heap.size ≤ w11.heap.size := hbe11.size
        have o12a := own_at oo11 (fun g e => hb12.block g (own_lt oo11 e))
        have hSc12 := (hbe12.cell (p := ⟨x.t, 2, none⟩) hxt).trans hx2
        refine ⟨fun _ => hSc12, ?_⟩
        have hSw := hSc12
        generalize w11.alloc (.cells #[.int .i64 0, .int .i64 0, .int .i64 0, .int .i64 0, .int .i64 0, .int .i64 0, .slice none 0 0, .slice none 0 0, .slice none 0 0, .slice none 0 0, .int .i64 0] 112) = w12 at *
        refine wpF_one 9 rfl (by kernel_rfl) ?_
        simp only [List.getElem_toArray, List.getElem_cons_succ, List.getElem_cons_zero]
        go_wp2_with ((go_at_call 109; refine (clip109x _ _ _ _ hcm11.1 hcm11.2).mono ?_); rintro e w13 ⟨rfl, rfl⟩)
        have hSc13 := (hbe12.cell (p := ⟨x.t, 2, none⟩) hxt).trans hx2
        refine ⟨fun _ => hSc13, ?_⟩
        have hSw := hSc13
        refine wpF_one 11 rfl (by kernel_rfl) ?_
        simp only [List.getElem_toArray, List.getElem_cons_succ, List.getElem_cons_zero]
        go_wp2_with ((go_at_call 110; refine (clone110 _ bs.length (bs.map bv) _ (hvs.mono hbe12) hbsl (bv_one bs) hL47).mono ?_); rintro e w14 ⟨v14, rfl, hown14, hb14⟩; obtain ⟨g14, c14, rfl, hgb14, hgl14⟩ := hown14.form h0)
        have hbe14 := hbe12.trans (hb14.mono hbe12.size)
        have hcm14 := own_cap hown14
        have o14a := own_at o12a (fun g e => hb14.block g (own_lt o12a e))
        have k14 := k12.at_ (hb14.block _ k12.lt)
        have oo14 := own_base hown14 hbe12.size
        have hSc14 := (hbe14.cell (p := ⟨x.t, 2, none⟩) hxt).trans hx2
        refine ⟨fun _ => hSc14, ?_⟩
        have hSw := hSc14
        refine wpF_one 12 rfl (by kernel_rfl) ?_
        simp only [List.getElem_toArray, List.getElem_cons_succ, List.getElem_cons_zero]
        go_wp2_with ((go_at_call 109; refine (clip109x _ _ _ _ hcm14.1 hcm14.2).mono ?_); rintro e w15 ⟨rfl, rfl⟩)
        have hSc15 := (hbe14.cell (p := ⟨x.t, 2, none⟩) hxt).trans hx2
        refine ⟨fun _ => hSc15, ?_⟩
        have hSw := hSc15
        refine' wpF_take 13 (v := _) rfl (by kernel_rfl) (fun _ _ _ h => h) (by rfl) hSw (fun w' hS => ?_) ?_; rotate_left
        · go_simp; with_reducible rfl
        simp only [Act.put, List.getElem_toArray, List.getElem_cons_succ, List.getElem_cons_zero, List.setIfInBounds_toArray, List.set_cons_zero, List.set_cons_succ]
        refine wpF_tail (by kernel_rfl) ?_
        simp only [List.drop_succ_cons, List.drop_zero]
        have hz := k14.cell
        have hzf := k14.frozen
        go_wp2_with fail
        go_meet
        case rel =>
          exact made16 k14 hage12 hbe14 o14a oo14 rfl
    · skip
      go_wp2_with fail
      have k11 : Blk (wd.alloc (.cells #[.int .i64 0, .int .i64 0, .int .i64 0, .int .i64 0, .int .i64 0, .int .i64 0, .slice none 0 0, .slice none 0 0, .slice none 0 0, .slice none 0 0, .int .i64 0] 112)) wd.heap.size 112 #[.int .i64 0, .int .i64 0, .int .i64 0, .int .i64 0, .int .i64 0, .int .i64 0, .slice none 0 0, .slice none 0 0, .slice none 0 0, .slice none 0 0, .int .i64 0] := Blk.new _ _ _
      have hbe11 := hbe0.alloc hbe0.size (.cells #[.int .i64 0, .int .i64 0, .int .i64 0, .int .i64 0, .int .i64 0, .int .i64 0, .slice none 0 0, .slice none 0 0, .slice none 0 0, .slice none 0 0, .int .i64 0] 112)
      have hb11 : Below wd.heap.size wd (wd.alloc (.cells #[.int .i64 0, .int .i64 0, .int .i64 0, .int .i64 0, .int .i64 0, .int .i64 0, .slice none 0 0, .slice none 0 0, .slice none 0 0, .slice none 0 0, .int .i64 0] 112)) := (Below.refl _ _).alloc (Nat.le_refl _) _
      have hage11 : w2.heap.size ≤ wd.heap.size := hbe0.size
      have hSc11 := (hbe11.cell (p := ⟨x.t, 2, none⟩) hxt).trans hx2
      refine ⟨fun _ => hSc11, ?_⟩
      have hSw := hSc11
      generalize wd.alloc (.cells #[.int .i64 0, .int .i64 0, .int .i64 0, .int .i64 0, .int .i64 0, .int .i64 0, .slice none 0 0, .slice none 0 0, .slice none 0 0, .slice none 0 0, .int .i64 0] 112) = w11 at *
      refine wpF_one 8 rfl (by kernel_rfl) ?_
      simp only [List.getElem_toArray, List.getElem_cons_succ, List.getElem_cons_zero]
      go_wp2_with ((go_at_call 110; refine (clone110 _ bs.length (old.map bv) _ (hsrc.mono hbe11) holdl (bv_one old) hL47).mono ?_); rintro e w12 ⟨v12, rfl, hown12, hb12⟩; obtain ⟨g12, c12, rfl, hgb12, hgl12⟩ := hown12.form h0)
      have hbe12 := hbe11.trans (hb12.mono hbe11.size)
      have hcm12 := own_cap hown12
      have k12 := k11.at_ (hb12.block _ k11.lt)
      have oo12 := own_base hown12 hbe11.size
      have hSc12 := (hbe12.cell (p := ⟨x.t, 2, none⟩) hxt).trans hx2
      refine ⟨fun _ => hSc12, ?_⟩
      have hSw := hSc12
      refine wpF_one 9 rfl (by kernel_rfl) ?_
      simp only [List.getElem_toArray, List.getElem_cons_succ, List.getElem_cons_zero]
      go_wp2_with ((go_at_call 109; refine (clip109x _ _ _ _ hcm12.1 hcm12.2).mono ?_); rintro e w13 ⟨rfl, rfl⟩)
      have hSc13 := (hbe12.cell (p := ⟨x.t, 2, none⟩) hxt).trans hx2
      refine ⟨fun _ => hSc13, ?_⟩
      have hSw := hSc13
      refine wpF_one 11 rfl (by kernel_rfl) ?_
      simp only [List.getElem_toArray, List.getElem_cons_succ, List.getElem_cons_zero]
      go_wp2_with ((go_at_call 110; refine (clone110 _ bs.length (bs.map bv) _ (hvs.mono hbe12) hbsl (bv_one bs) hL47).mono ?_); rintro e w14 ⟨v14, rfl, hown14, hb14⟩; obtain ⟨g14, c14, rfl, hgb14, hgl14⟩ := hown14.form h0)
      have hbe14 := hbe12.trans (hb14.mono hbe12.size)
      have hcm14 := own_cap hown14
      have o14a := own_at oo12 (fun g e => hb14.block g (own_lt oo12 e))
      have k14 := k12.at_ (hb14.block _ k12.lt)
      have oo14 := own_base hown14 hbe12.size
      have hSc14 := (hbe14.cell (p := ⟨x.t, 2, none⟩) hxt).trans hx2
      refine ⟨fun _ => hSc14, ?_⟩
      have hSw := hSc14
      refine wpF_one 12 rfl (by kernel_rfl) ?_
      simp only [List.getElem_toArray, List.getElem_cons_succ, List.getElem_cons_zero]
      go_wp2_with ((go_at_call 109; refine (clip109x _ _ _ _ hcm14.1 hcm14.2).mono ?_); rintro e w15 ⟨rfl, rfl⟩)
      have hSc15 := (hbe14.cell (p := ⟨x.t, 2, none⟩) hxt).trans hx2
      refine ⟨fun _ => hSc15, ?_⟩
      have hSw := hSc15
      refine' wpF_take 13 (v := _) rfl (by kernel_rfl) (fun _ _ _ h => h) (by rfl) hSw (fun w' hS => ?_) ?_; rotate_left
      · go_simp; with_reducible rfl
      simp only [Act.put, List.getElem_toArray, List.getElem_cons_succ, List.getElem_cons_zero, List.setIfInBounds_toArray, List.set_cons_zero, List.set_cons_succ]
      refine wpF_tail (by kernel_rfl) ?_
      simp only [List.drop_succ_cons, List.drop_zero]
      have hz := k14.cell
      have hzf := k14.frozen
      go_wp2_with fail
      go_meet
      case rel =>
        exact made16 k14 hage11 hbe14 o14a oo14 rfl
  case rest =>
    obtain ⟨a, ga, ca, gb, cb, rfl, hbc, hac, hba, hoa, hob⟩ := hcut
    have hbeM := hbm.trans (hbc.mono hbm.size)
    have hca := hba.cell
    have hL' : bs.length ≤ 1024 := by omega
    have holdl : old.length = bs.length := by have := HHL.out; rwa [List.length_map] at this
    have hsz := fun w => size58 2 x.id x.last 0 n off 0 (some ⟨ga, 0, none⟩) (some ⟨gb, 0, none⟩) bs.length bs.length bs.length bs.length hL' hL' w
    unfold recCells at hsz
    have HSZ := Lib.hid hsz
    have HOL := Lib.hid holdl
    clear hsz hcv1 hcv2 hse hc1 hx2 holdl
    have hb0 : 0 ≤ x.id := (hI.num x (List.mem_of_getElem? hx)).1
    have hb1x : 0 ≤ x.last := (hI.num x (List.mem_of_getElem? hx)).2.2.2.1
    go_wp2_with fail
    refine (HSZ.out _).mono ?_
    rintro e w3 ⟨rfl, hb3⟩
    go_wp2_with fail
    refine (clr111 _ _ _ hL' _).mono ?_
    rintro e w4 ⟨rfl, hb4⟩
    have hbe3 := hbeM.trans (hb3.mono hbeM.size)
    have hbe4 := hbe3.trans (hb4.mono hbe3.size)
    have hs4 : Blk w4 s 105 _ := hbs2'.at_ (hbe4.block _ hbs2'.lt)
    have ha4 : Blk w4 a 112 _ := (hba.at_ (hb3.block _ hba.lt)).at_ (hb4.block _ (hba.at_ (hb3.block _ hba.lt)).lt)
    go_wp2_with fail
    refine (room57 hs4 (hco2.below hbe4) (hop2.below hbe4) hkb _ (by rw [HRR.out]; omega)).mono ?_
    rintro e w5 ⟨rfl, hb5⟩
    have hbe5 := hbe4.trans (hb5.mono hbe4.size)
    have hs5 : Blk w5 s 105 _ := hs4.at_ (hb5.block _ hs4.lt)
    have ha5 : Blk w5 a 112 _ := ha4.at_ (hb5.block _ ha4.lt)
    have hc5a := ha5.cell
    have hbc5 : Below wc.heap.size wc w5 := (hb3.trans (hb4.mono hb3.size)).trans (hb5.mono (by have := hb3.size; have := hb4.size; omega))
    have hlnm : wm.ownsRow B 217 12 η.lines η.nl η.lx := own_mod' (own_at hI.ln fun g hg => hb1.block g (own_lt hI.ln hg)) hm2 (by decide) (by simp) (by simp) (by decide) (by decide)
    have hln5 : w5.ownsRow B 217 12 η.lines η.nl η.lx := own_at hlnm fun g hg => hbe5.block g (own_lt hlnm hg)
    have hBm : B ≤ wm.heap.size := Nat.le_trans hI.hB (Nat.le_trans hb1.size hm2.size)
    have hsa5 : Src w5 (.slice (some ⟨ga, 0, none⟩) bs.length bs.length) bs.length (old.map bv) := src_clip ((src_own hoa).mono hbc5)
    have hsb5 : Src w5 (.slice (some ⟨gb, 0, none⟩) bs.length bs.length) bs.length (bs.map bv) := src_clip ((src_own hob).mono hbc5)
    have hco5 := hco2.below hbe5
    have hlay := lay59 hI.hs hs5 hco5 hln5 (by have := hI.hnl; omega) (Nat.le_trans hBm hbe5.size) 2 x.id x.last 0 n off 0 (some ⟨ga, 0, none⟩) (some ⟨gb, 0, none⟩) bs.length bs.length bs.length bs.length hL' hL' old bs hsa5 HOL.out hsb5 rfl
      (by decide) hb0 hb1x (by decide) (by omega) (by omega) (by decide) (by rw [HRR.out]; omega) (by omega)
    unfold recCells at hlay
    have HLAY := Lib.hid hlay
    clear hlay
    go_wp2_with ((go_at_call 59; refine HLAY.out.mono ?_); rintro e w6 ⟨rfl, Y6, lines6, lx6, hm6, hco6, hs6, hln6⟩)
    have hM6 : Mod B LayT false true Y Y6 wm w6 := (mod_below B LayT false true Y hbe5).trans hm6
    have ha6 : Blk w6 a 112 _ := hm6.keep' ha5 (by decide) (by simp) (fun _ => hco5.rBlk) (by decide) (by decide)
    obtain ⟨rest, hrow⟩ := row_page hown2
    have hrow5 : Blk w5 g 5 _ := (hrow.at_ (hbc.block _ hrow.lt)).at_ (hbc5.block _ (hrow.at_ (hbc.block _ hrow.lt)).lt)
    have hgY : some g ≠ Y.rb := fun e => by have h1 := hco2.rbl g e.symm; omega
    have hrow6 : Blk w6 g 5 _ := hm6.keep hrow5 (by decide) (by simp) (fun _ => hgY)
    have hop6 := (hop2.below hbe5).mod hm6 (by decide) (by simp) (fun _ => hco5.rBlk)
    have htx6 := hop6.tx x (List.mem_of_getElem? hx)
    obtain ⟨la, lc, hxl⟩ := htx6.slice
    have ht6 := htx6.blk
    have hxl6 := htx6.own
    have HXL := Lib.hid hxl
    have hxBt := htx6.ge
    unfold txnCells at ht6
    rw [hxl] at ht6 hxl6
    have ht6' := ht6
    have husl := us_le_kept (List.mem_of_getElem? hx)
    clear hca hc5a hxl
    go_upto_region 23 with (fail)
    refine wp_region_G (fun w' => (∀ i, w'.cell? ⟨x.t, i, none⟩ = #[i64 x.id, i64 x.first, i64 x.last, .slice la x.us.length lc][i]?) ∧ (∀ i, w'.cell? ⟨a, i, none⟩ = #[i64 2, i64 x.id, i64 x.last, i64 0, i64 n, i64 off, .slice (some ⟨ga, 0, none⟩) bs.length bs.length, .slice (some ⟨gb, 0, none⟩) bs.length bs.length, .slice none 0 0, .slice none 0 0, i64 0][i]?)) 17 20 (by kernel_rfl) rfl ?_
    intro w7 hsd7
    have hSw : (∀ i, w7.cell? ⟨x.t, i, none⟩ = #[i64 x.id, i64 x.first, i64 x.last, .slice la x.us.length lc][i]?) ∧ (∀ i, w7.cell? ⟨a, i, none⟩ = #[i64 2, i64 x.id, i64 x.last, i64 0, i64 n, i64 off, .slice (some ⟨ga, 0, none⟩) bs.length bs.length, .slice (some ⟨gb, 0, none⟩) bs.length bs.length, .slice none 0 0, .slice none 0 0, i64 0][i]?) := ⟨fun i => (hsd7.cell _).trans (ht6'.cell i), fun i => (hsd7.cell _).trans (ha6.cell i)⟩
    refine' wpF_take 0 (v := _) rfl (by kernel_rfl) (fun _ _ _ h => h) (by rfl) hSw (fun w' hS => ?_) ?_; rotate_left
    · obtain ⟨s1, s2⟩ := hS; go_simp; with_reducible rfl
    simp only [Act.put, List.getElem_toArray, List.getElem_cons_succ, List.getElem_cons_zero, List.setIfInBounds_toArray, List.set_cons_zero, List.set_cons_succ]
    refine' wpF_take 1 (v := _) rfl (by kernel_rfl) (fun _ _ _ h => h) (by rfl) hSw (fun w' hS => ?_) ?_; rotate_left
    · obtain ⟨s1, s2⟩ := hS; go_simp; with_reducible rfl
    simp only [Act.put, List.getElem_toArray, List.getElem_cons_succ, List.getElem_cons_zero, List.setIfInBounds_toArray, List.set_cons_zero, List.set_cons_succ]
    refine' wpF_take 2 (v := _) rfl (by kernel_rfl) (fun _ _ _ h => h) (by rfl) hSw (fun w' hS => ?_) ?_; rotate_left
    · obtain ⟨s1, s2⟩ := hS; go_simp; with_reducible rfl
    simp only [Act.put, List.getElem_toArray, List.getElem_cons_succ, List.getElem_cons_zero, List.setIfInBounds_toArray, List.set_cons_zero, List.set_cons_succ]
    refine' wpF_take 3 (v := _) rfl (by kernel_rfl) (fun _ _ _ h => h) (by rfl) hSw (fun w' hS => ?_) ?_; rotate_left
    · obtain ⟨s1, s2⟩ := hS; go_simp; with_reducible rfl
    simp only [Act.put, List.getElem_toArray, List.getElem_cons_succ, List.getElem_cons_zero, List.setIfInBounds_toArray, List.set_cons_zero, List.set_cons_succ]
    refine' wpF_take 4 (v := _) rfl (by kernel_rfl) (fun _ _ _ h => h) (by rfl) hSw (fun w' hS => ?_) ?_; rotate_left
    · obtain ⟨s1, s2⟩ := hS; go_simp; with_reducible rfl
    simp only [Act.put, List.getElem_toArray, List.getElem_cons_succ, List.getElem_cons_zero, List.setIfInBounds_toArray, List.set_cons_zero, List.set_cons_succ]
    refine' wpF_take 5 (v := _) rfl (by kernel_rfl) (fun _ _ _ h => h) (by rfl) hSw (fun w' hS => ?_) ?_; rotate_left
    · obtain ⟨s1, s2⟩ := hS; go_simp; with_reducible rfl
    simp only [Act.put, List.getElem_toArray, List.getElem_cons_succ, List.getElem_cons_zero, List.setIfInBounds_toArray, List.set_cons_zero, List.set_cons_succ]
    refine' wpF_take 6 (v := _) rfl (by kernel_rfl) (fun _ _ _ h => h) (by rfl) hSw (fun w' hS => ?_) ?_; rotate_left
    · obtain ⟨s1, s2⟩ := hS; go_simp; with_reducible rfl
    simp only [Act.put, List.getElem_toArray, List.getElem_cons_succ, List.getElem_cons_zero, List.setIfInBounds_toArray, List.set_cons_zero, List.set_cons_succ]
    refine' wpF_take 7 (v := _) rfl (by kernel_rfl) (fun _ _ _ h => h) (by rfl) hSw (fun w' hS => ?_) ?_; rotate_left
    · obtain ⟨s1, s2⟩ := hS; go_simp; with_reducible rfl
    simp only [Act.put, List.getElem_toArray, List.getElem_cons_succ, List.getElem_cons_zero, List.setIfInBounds_toArray, List.set_cons_zero, List.set_cons_succ]
    refine' wpF_take 8 (v := _) rfl (by kernel_rfl) (fun _ _ _ h => h) (by rfl) hSw (fun w' hS => ?_) ?_; rotate_left
    · obtain ⟨s1, s2⟩ := hS; go_simp; with_reducible rfl
    simp only [Act.put, List.getElem_toArray, List.getElem_cons_succ, List.getElem_cons_zero, List.setIfInBounds_toArray, List.set_cons_zero, List.set_cons_succ]
    refine' wpF_take 9 (v := _) rfl (by kernel_rfl) (fun _ _ _ h => h) (by rfl) hSw (fun w' hS => ?_) ?_; rotate_left
    · obtain ⟨s1, s2⟩ := hS; go_simp; with_reducible rfl
    simp only [Act.put, List.getElem_toArray, List.getElem_cons_succ, List.getElem_cons_zero, List.setIfInBounds_toArray, List.set_cons_zero, List.set_cons_succ]
    refine' wpF_take 10 (v := _) rfl (by kernel_rfl) (fun _ _ _ h => h) (by rfl) hSw (fun w' hS => ?_) ?_; rotate_left
    · obtain ⟨s1, s2⟩ := hS; go_simp; with_reducible rfl
    simp only [Act.put, List.getElem_toArray, List.getElem_cons_succ, List.getElem_cons_zero, List.setIfInBounds_toArray, List.set_cons_zero, List.set_cons_succ]
    refine' wpF_take 11 (v := _) rfl (by kernel_rfl) (fun _ _ _ h => h) (by rfl) hSw (fun w' hS => ?_) ?_; rotate_left
    · obtain ⟨s1, s2⟩ := hS; go_simp; with_reducible rfl
    simp only [Act.put, List.getElem_toArray, List.getElem_cons_succ, List.getElem_cons_zero, List.setIfInBounds_toArray, List.set_cons_zero, List.set_cons_succ]
    refine' wpF_take 12 (v := _) rfl (by kernel_rfl) (fun _ _ _ h => h) (by rfl) hSw (fun w' hS => ?_) ?_; rotate_left
    · obtain ⟨s1, s2⟩ := hS; go_simp; with_reducible rfl
    simp only [Act.put, List.getElem_toArray, List.getElem_cons_succ, List.getElem_cons_zero, List.setIfInBounds_toArray, List.set_cons_zero, List.set_cons_succ]
    refine' wpF_take 13 (v := _) rfl (by kernel_rfl) (fun _ _ _ h => h) (by rfl) hSw (fun w' hS => ?_) ?_; rotate_left
    · obtain ⟨s1, s2⟩ := hS; go_simp; with_reducible rfl
    simp only [Act.put, List.getElem_toArray, List.getElem_cons_succ, List.getElem_cons_zero, List.setIfInBounds_toArray, List.set_cons_zero, List.set_cons_succ]
    refine' wpF_take 14 (v := _) rfl (by kernel_rfl) (fun _ _ _ h => h) (by rfl) hSw (fun w' hS => ?_) ?_; rotate_left
    · obtain ⟨s1, s2⟩ := hS; go_simp; with_reducible rfl
    simp only [Act.put, List.getElem_toArray, List.getElem_cons_succ, List.getElem_cons_zero, List.setIfInBounds_toArray, List.set_cons_zero, List.set_cons_succ]
    refine wpF_one 15 rfl (by kernel_rfl) ?_
    simp only [List.getElem_toArray, List.getElem_cons_succ, List.getElem_cons_zero]
    go_wp2_with fail
    have ht7 := (hsd7.blk ht6').alloc (.cells (([i64 (η.ρ.tail + 1 : Int), i64 x.last, i64 n, i64 off, .slice (some ⟨ga, 0, none⟩) bs.length bs.length] : List Value)).toArray 206)
    have ha7 := (hsd7.blk ha6).alloc (.cells (([i64 (η.ρ.tail + 1 : Int), i64 x.last, i64 n, i64 off, .slice (some ⟨ga, 0, none⟩) bs.length bs.length] : List Value)).toArray 206)
    refine ⟨fun _ => ⟨ht7.cell, ha7.cell⟩, ?_⟩
    have hSw := And.intro ht7.cell ha7.cell
    have hsrc : Src (w7.alloc (.cells (([i64 (η.ρ.tail + 1 : Int), i64 x.last, i64 n, i64 off, .slice (some ⟨ga, 0, none⟩) bs.length bs.length] : List Value)).toArray 206)) (.slice (some ⟨w7.heap.size, 0, none⟩) 1 1) 1 (([i64 (η.ρ.tail + 1 : Int), i64 x.last, i64 n, i64 off, .slice (some ⟨ga, 0, none⟩) bs.length bs.length] : List Value)) := Src.lit (cs := (([i64 (η.ρ.tail + 1 : Int), i64 x.last, i64 n, i64 off, .slice (some ⟨ga, 0, none⟩) bs.length bs.length] : List Value)).toArray) (Blk.new w7 206 _) 1 1
    have hown7 : (w7.alloc (.cells (([i64 (η.ρ.tail + 1 : Int), i64 x.last, i64 n, i64 off, .slice (some ⟨ga, 0, none⟩) bs.length bs.length] : List Value)).toArray 206)).ownsRow B 206 5 (.slice la x.us.length lc) x.us.length (x.us.flatMap updCells) := own_at (hsd7.own hxl6) (fun g hg => Below.heap_alloc w7 _ g (own_lt (hsd7.own hxl6) hg))
    have hone : ∀ z ∈ (([i64 (η.ρ.tail + 1 : Int), i64 x.last, i64 n, i64 off, .slice (some ⟨ga, 0, none⟩) bs.length bs.length] : List Value)), z.oneCell' = true := all_one rfl
    have hbnd : x.us.length + 1 ≤ maxLen ∧ (x.us.length + 1) * 56 ≤ 140737488355328 ∧ B ≤ (w7.alloc (.cells (([i64 (η.ρ.tail + 1 : Int), i64 x.last, i64 n, i64 off, .slice (some ⟨ga, 0, none⟩) bs.length bs.length] : List Value)).toArray 206)).heap.size := ⟨by unfold maxLen; omega, by omega, by have h1 := hM6.size; have h3 := hsd7.size; have h4 := hI.hB; simp; omega⟩
    have hbe7 : Below w6.heap.size w6 (w7.alloc (.cells (([i64 (η.ρ.tail + 1 : Int), i64 x.last, i64 n, i64 off, .slice (some ⟨ga, 0, none⟩) bs.length bs.length] : List Value)).toArray 206)) := (hsd7.below _).alloc (Nat.le_of_eq hsd7.size.symm) _
    generalize w7.alloc (.cells (([i64 (η.ρ.tail + 1 : Int), i64 x.last, i64 n, i64 off, .slice (some ⟨ga, 0, none⟩) bs.length bs.length] : List Value)).toArray 206) = w7a at *
    refine wpF_one 16 rfl (by kernel_rfl) ?_
    simp only [List.getElem_toArray, List.getElem_cons_succ, List.getElem_cons_zero]
    go_wp2_with (at_builtin; refine wpList_app _ rfl (.tmp 109) (.tmp 120) rfl B sl118 hown7 rfl hsrc rfl rfl hone hbnd ?_; intro v8 w8 hown8 hg8 hat8)
    have ht8 : Blk w8 x.t 120 _ := ht7.at_ (hg8.block _ ht7.lt (fun e => own_ne hown7 ht7 (by decide) x.t e.symm rfl))
    have ha8 : Blk w8 a 112 _ := ha7.at_ (hg8.block _ ha7.lt (fun e => own_ne hown7 ha7 (by decide) a e.symm rfl))
    refine ⟨fun _ => ⟨ht8.cell, ha8.cell⟩, ?_⟩
    obtain ⟨va8, vc8, rfl, _, _⟩ := own_form hown8
    have hc8 := ht8.cell
    have hf8 := ht8.frozen
    refine wpF_tail (by kernel_rfl) ?_
    simp only [List.drop_succ_cons, List.drop_zero]
    go_wp2_with fail
    have hM69 : Mod B [120, 206] false false Y6 Y6 w6 ((w8.setCell ⟨x.t, 3, none⟩ (.slice va8 (x.us.length + 1) vc8)).setCell ⟨x.t, 2, none⟩ (i64 (η.ρ.tail + 1))) :=
      (((mod_below B [120, 206] false false Y6 hbe7).trans (mod_grown hg8 (fun k hk => own_ge hown7 hk) (fun k hk => .inr (.inr ⟨206, own_ty hown7 k hk, by decide⟩)))).set_ (p := ⟨x.t, 3, none⟩) hxBt ht8.ty (by decide) _).set_ (p := ⟨x.t, 2, none⟩) hxBt (ht8.set_ 3 (.slice va8 (x.us.length + 1) vc8)).ty (by decide) _
    have ht9 := (ht8.set_ 3 (.slice va8 (x.us.length + 1) vc8)).set_ 2 (i64 (η.ρ.tail + 1))
    simp only [List.setIfInBounds_toArray, List.set_cons_zero, List.set_cons_succ] at ht9
    have hown9 := own_set (own_set hown8 (p := ⟨x.t, 3, none⟩) (own_ne hown8 ht8 (by decide)) (.slice va8 (x.us.length + 1) vc8)) (p := ⟨x.t, 2, none⟩) (own_ne hown8 ht8 (by decide)) (i64 (η.ρ.tail + 1))
    have hk9 : ∀ b, b < w6.heap.size → b ≠ x.t → (Value.slice la x.us.length lc).ownBlock ≠ some b → ((w8.setCell ⟨x.t, 3, none⟩ (.slice va8 (x.us.length + 1) vc8)).setCell ⟨x.t, 2, none⟩ (i64 (η.ρ.tail + 1))).heap[b]? = w6.heap[b]? := fun b hb h1 h2 =>
      (Below.heap_setCell _ ⟨x.t, 2, none⟩ _ b h1).trans ((Below.heap_setCell _ ⟨x.t, 3, none⟩ _ b h1).trans ((hg8.block b (Nat.lt_of_lt_of_le hb hbe7.size) h2.symm).trans (hbe7.block b hb)))
    have hz9 : w6.heap.size ≤ ((w8.setCell ⟨x.t, 3, none⟩ (.slice va8 (x.us.length + 1) vc8)).setCell ⟨x.t, 2, none⟩ (i64 (η.ρ.tail + 1))).heap.size := hM69.size
    have hzl8 : w6.heap.size ≤ w7a.heap.size := hbe7.size
    generalize (w8.setCell ⟨x.t, 3, none⟩ (.slice va8 (x.us.length + 1) vc8)).setCell ⟨x.t, 2, none⟩ (i64 (η.ρ.tail + 1)) = w9 at *
    refine (eight112 (η.ρ.tail + 1) w9).mono ?_
    rintro e w10 ⟨v10, rfl, hown10, hb10⟩
    obtain ⟨g10, c10, rfl, _, _⟩ := hown10.form (by decide)
    have hgx : g ≠ x.t := (hrow6.ne_ ht6 (by decide))
    have hgl : (Value.slice la x.us.length lc).ownBlock ≠ some g := fun e => own_ne hxl6 hrow6 (by decide) g e rfl
    have hrow10 : Blk w10 g 5 _ := (hrow6.at_ (hk9 g hrow6.lt hgx hgl)).at_ (hb10.block g (Nat.lt_of_lt_of_le hrow6.lt hz9))
    have hsrc10 := src_own hown10
    have he8 : ((putB (η.ρ.tail + 1) 8 8).map bv).length = 8 := by rw [List.length_map, putB_length]
    have hfit1 : 0 + 512 ≤ (((η.pages n).map bv) ++ rest).length := by rw [List.length_append, List.length_map, hpl]; omega
    have hone10 := bv_one (putB (η.ρ.tail + 1) 8 8)
    have HE8 := Lib.hid he8
    clear he8
    go_upto_region 26 with (with_reducible refine wpList_cp _ rfl (.tmp 128) (.tmp 130) 48 48 rfl sl48 hrow10 rfl hsrc10 rfl HE8.out hfit1 hone10 ?_; intro w11 hrow11 hg11 hz11)
    have hvc5 : Mod B StT false false Y Y w wm := (mod_below B StT false false Y hb1).trans (hm2.more StT false false (by decide))
    have hM9 : Mod B [105, 210, 217, 120, 206] false true Y Y6 wm w9 := (hM6.more _ false true (by decide)).trans (hM69.more _ false true (by decide))
    have hM11 := (hM9.below_ hb10).grown_new hg11 (fun k hk => by injection hk with hk; omega)
    have hsv := Sl.src ((hv.mod hvc5 (by decide)).mod hM11 (by decide))
    rw [List.length_map] at hsv
    have he8n : (((putB (η.ρ.tail + 1) 8 8).map bv).take 512) = (putB (η.ρ.tail + 1) 8 8).map bv := List.take_of_length_le (by rw [HE8.out]; omega)
    have hpb : (putB (η.ρ.tail + 1) 8 8).length = 8 := putB_length _ _ _
    rw [he8n, splice_map bv (η.pages n) rest 0 _ (by rw [hpb]; omega)] at hrow11
    obtain ⟨P1, hP1⟩ : ∃ P1, P1 = splice (η.pages n) 0 (putB (η.ρ.tail + 1) 8 8) := ⟨_, rfl⟩
    have hP1l : P1.length = 512 := by rw [hP1, length_splice _ _ _ (by rw [hpb]; omega)]; exact hpl
    rw [← hP1] at hrow11
    have hfit2 : 8 + off + bs.length ≤ (P1.map bv ++ rest).length := by rw [List.length_append, List.length_map, hP1l]; omega
    have honeb := bv_one bs
    have HP1 := Lib.hid hP1
    have HP1L := Lib.hid hP1l
    have HBSL2 := Lib.hid (show (bs.map bv).length = bs.length from List.length_map _)
    have HPB := Lib.hid hpb
    clear hP1 hP1l he8n hpb
    go_upto_region 27 with (with_reducible refine wpList_cp _ rfl (.tmp 132) (.tmp 133) 48 48 rfl sl48 hrow11 rfl hsv rfl HBSL2.out hfit2 honeb ?_; intro w12 hrow12 hg12 hz12)
    have hbt : (bs.map bv).take bs.length = bs.map bv := List.take_of_length_le (by rw [List.length_map]; exact Nat.le_refl _)
    rw [hbt, splice_map bv P1 rest (8 + off) bs (by rw [HP1L.out]; omega)] at hrow12
    obtain ⟨nb, hnb⟩ : ∃ nb, nb = splice P1 (8 + off) bs := ⟨_, rfl⟩
    have hnbl : nb.length = 512 := by rw [hnb, length_splice _ _ _ (by rw [HP1L.out]; omega)]; exact HP1L.out
    have hnbd : nb.drop 8 = splice (σ.content n) off bs := by rw [hnb, HP1.out, splice_drop8 _ _ _ _ HPB.out hpl hl, hI.ct n hn]
    rw [← hnb] at hrow12
    have HNBD := Lib.hid hnbd
    have HNBL := Lib.hid hnbl
    clear hnb hnbd hnbl hbt
    have hM12 := hM11.grown_new hg12 (fun k hk => by injection hk with hk; omega)
    have hgY6 : some g ≠ Y6.rb := by
      rcases hm6.rb with e | ⟨g', e, h1, _⟩
      · rw [e]; exact hgY
      · rw [e]
        intro e2
        injection e2 with e2
        have := hrow5.lt
        omega
    have hring12 := (((hco6.ringAt.mod hM69 rfl (by decide) (by simp) rfl).below hb10).grown hg11 hrow10 hgY6).grown hg12 hrow11 hgY6
    have hco12 := hco2.join hM12 (by decide) hring12
    have hdl6 : Y6.dl = Y.dl := hm6.dl
    have hbyt : Byts B Y6 w12 (.slice (some ⟨g, 0, none⟩) 512 c) nb := by
      refine ⟨_, c, by rw [List.length_map, HNBL.out], by rw [List.length_map, HNBL.out]; exact hgc, (own_cap hown2).2, fun _ => ⟨g, 0, rfl, ⟨hrow12.lt, fun _ => ⟨?_, hgY6, hrow12.ty⟩⟩, fun j u hu => ?_⟩⟩
      · rw [hdl6]
        have := hco2.dll
        omega
      · rw [Nat.zero_add, hrow12.cell, List.getElem?_toArray, List.getElem?_append_left (List.getElem?_eq_some_iff.1 hu).1]
        exact hu
    have hput := core_put hco12 n hn (List.mem_singleton.2 rfl) hS _ nb hbyt HNBL.out (η.ρ.tail + 1) (by omega)
    have HPUT := Lib.hid hput
    have hs9 : Blk w9 s 105 _ := hM69.keep' hs6 (by decide) (by simp) (by simp) (by decide) (by decide)
    have hs10 : Blk w10 s 105 _ := hs9.at_ (hb10.block s hs9.lt)
    have hs11 : Blk w11 s 105 _ := hs10.at_ (hg11.block s hs10.lt (fun e => hs10.ne_ hrow10 (by decide) (by cases e; rfl)))
    have hs12 : Blk w12 s 105 _ := hs11.at_ (hg12.block s hs11.lt (fun e => hs11.ne_ hrow11 (by decide) (by cases e; rfl)))
    have hs12' := hs12
    unfold stCells at hs12'
    have hc12 := hs12'.cell
    clear hput
    go_wp2_with ((go_at_call 113; refine HPUT.out.mono ?_); rintro e w13 ⟨rfl, hm13, hco13⟩)
    have hs13 : Blk w13 s 105 _ := hm13.keep' hs12 (by decide) (by simp) (by simp) (by decide) (by decide)
    go_wp2_with fail
    refine (told55 hs13).mono ?_
    rintro e w14 ⟨rfl, rfl⟩
    go_wp2_with fail
    go_ret
    have hm14 : Mod B [105] false false Y6 Y6 w13 (w13.setCell ⟨s, 9, none⟩ (.bool false)) := mod_set hI.hs hs13.ty (by decide) _
    have hMM := ((hvc5.more StT false true (by decide)).trans (hM12.more StT false true (by decide))).trans ((hm13.more StT false true (by decide)).trans (hm14.more StT false true (by decide)))
    have hown12 : w12.ownsRow B 206 5 (.slice va8 (x.us.length + 1) vc8) (x.us.length + 1) (x.us.flatMap updCells ++ [i64 (η.ρ.tail + 1 : Int), i64 x.last, i64 n, i64 off, .slice (some ⟨ga, 0, none⟩) bs.length bs.length]) := by
      have o10 := own_at hown9 (fun k hk => hb10.block k (own_lt hown9 hk))
      have o11 := own_at o10 (fun k hk => hg11.block k (own_lt o10 hk) (fun e => own_ne o10 hrow10 (by decide) k hk (by cases e; rfl)))
      exact own_at o11 (fun k hk => hg12.block k (own_lt o11 hk) (fun e => own_ne o11 hrow11 (by decide) k hk (by cases e; rfl)))
    have ht10 : Blk w10 x.t 120 _ := ht9.at_ (hb10.block _ ht9.lt)
    have ht11 : Blk w11 x.t 120 _ := ht10.at_ (hg11.block _ ht10.lt (fun e => ht10.ne_ hrow10 (by decide) (by cases e; rfl)))
    have ht12 : Blk w12 x.t 120 _ := ht11.at_ (hg12.block _ ht11.lt (fun e => ht11.ne_ hrow11 (by decide) (by cases e; rfl)))
    have hln12 : w12.ownsRow B 217 12 lines6 (η.nl + 1) lx6 := by
      have o9 := own_mod' hln6 hM69 (by decide) (by simp) (by simp) (by decide) (by decide)
      have o10 := own_at o9 (fun k hk => hb10.block k (own_lt o9 hk))
      have o11 := own_at o10 (fun k hk => hg11.block k (own_lt o10 hk) (fun e => own_ne o10 hrow10 (by decide) k hk (by cases e; rfl)))
      exact own_at o11 (fun k hk => hg12.block k (own_lt o11 hk) (fun e => own_ne o11 hrow11 (by decide) k hk (by cases e; rfl)))
    have hkk : ∀ b, b < w6.heap.size → b ≠ x.t → x.l.ownBlock ≠ some b → b ≠ g → w12.heap[b]? = w6.heap[b]? := fun b hb h1 h2 h3 =>
      (hg12.block b (by have := hM69.size; have := hb10.size; have := hg11.size; omega) (fun e => h3 (by cases e; rfl))).trans ((hg11.block b (by have := hM69.size; have := hb10.size; omega) (fun e => h3 (by cases e; rfl))).trans ((hb10.block b (by have := hM69.size; omega)).trans (hk9 b hb h1 (by rw [← HXL.out]; exact h2))))
    have hbyu : ∀ y, y ∈ σ.ts → ∀ u, u ∈ y.us → Byts B Y6 w12 u.v u.bs := fun y hy u hu => ((hop2.tx y hy).upd u hu).2.mod hM12 (by decide)
    have hoab : Byts B Y6 w12 (.slice (some ⟨ga, 0, none⟩) bs.length bs.length) old := by
      have o1 := (Byts.mod (Sl.own (own_at hoa fun k hk => hbc5.block k (own_lt hoa hk)) (by have := hco2.dll; have := hbm.size; omega) (fun k hk => by have := hco2.rbl k hk; have := hbm.size; omega)) hm6 (by decide) : Byts B Y6 w6 (.slice (some ⟨ga, 0, none⟩) bs.length ca) old)
      have hgab : w2.heap.size ≤ ga := own_ge hoa rfl
      have hgal : ga < w6.heap.size := Nat.lt_of_lt_of_le (own_lt hoa rfl) (Nat.le_trans hbc5.size hm6.size)
      have hne : ga ≠ g := by have := hrow.lt; omega
      obtain ⟨A, C, e1, e2, e3, e4⟩ := o1
      injection e1 with e1 _ e5
      subst e1 e5
      refine ⟨_, bs.length, by rw [List.length_map, HOL.out], by rw [List.length_map, HOL.out]; exact Nat.le_refl _, by unfold maxLen; omega, fun h00 => ?_⟩
      obtain ⟨b, o, e6, ⟨hs1, hs2⟩, hcl⟩ := e4 h00
      injection e6 with e6
      injection e6 with e6 e7
      subst e6 e7
      have htyga : ty w6 ga = some 5 := (hs2 (by omega)).2.2
      have heq : w12.heap[ga]? = w6.heap[ga]? := hkk ga hgal (fun e => by subst e; rw [ht6.ty] at htyga; injection htyga with h; exact absurd h (by decide)) (fun e => by have := own_ty htx6.own _ e; rw [htyga] at this; injection this with h; exact absurd h (by decide)) hne
      refine ⟨ga, 0, rfl, ⟨Nat.lt_of_lt_of_le hgal (Nat.le_trans hM69.size (Nat.le_trans hb10.size (Nat.le_trans hg11.size hg12.size))), fun hB' => ⟨(hs2 hB').1, (hs2 hB').2.1, by unfold ty at htyga ⊢; rw [heq]; exact htyga⟩⟩, fun j u hu => ?_⟩
      rw [← hcl j u hu]
      exact World.cell?_of_block heq
    have hx'T : TxAt B Y6 w12 { x with last := η.ρ.tail + 1, l := .slice va8 (x.us.length + 1) vc8, us := x.us ++ [⟨η.ρ.tail + 1, x.last, n, off, .slice (some ⟨ga, 0, none⟩) bs.length bs.length, part (σ.content n) off bs.length⟩] } := by
      refine ⟨hxBt, ht12, ?_, fun u hu => ?_⟩
      · simp only [List.length_append, List.length_singleton, List.flatMap_append]
        exact hown12
      · rcases List.mem_append.1 hu with hu | hu
        · exact ⟨((hop2.tx x (List.mem_of_getElem? hx)).upd u hu).1, hbyu x (List.mem_of_getElem? hx) u hu⟩
        · obtain rfl := List.mem_singleton.1 hu
          rw [← HOLD.out]
          exact ⟨by simp only [HOL.out]; omega, hoab⟩
    have hopF := (((hop6.set' hx hrow6 hkk hx'T rfl rfl (by rw [HXL.out]; exact hat8.imp id fun e => ⟨_, e, hzl8⟩) hbyu).mod hm13 (by decide) (by simp) (by simp))).mod hm14 (by decide) (by simp) (by simp)
    refine ⟨rfl, Y6, η.ρ.tail + 1, _, .slice (some ⟨ga, 0, none⟩) bs.length bs.length, hMM, { η with lines := lines6, nl := η.nl + 1, lx := lx6, ρ := { η.ρ with bs := η.ρ.bs ++ encB 2 x.id x.last 0 n off 0 old bs }, pages := setPage η.pages n nb }, hI.hs, Nat.le_trans hI.hB hMM.size, told_blk hs13, hco13.modR hm14 rfl (by decide), own_mod' (own_mod' hln12 hm13 (by decide) (by simp) (by simp) (by decide) (by decide)) hm14 (by decide) (by simp) (by simp) (by decide) (by decide), ?_, hopF, ?_, hI.hst, ?_, ?_, hI.nx⟩
    · have := hI.hnl
      show η.nl + 1 ≤ RingS.tail _
      rw [tail_append, encB_length]
      omega
    · show ((η.ρ.start : Int) / 118 + η.ρ.n - 1) * 118 - (RingS.tail _ : Nat) = σ.free - (96 + 2 * (bs.length : Int))
      rw [tail_append, encB_length, HOL.out, ← hI.free]
      omega
    · intro m hm
      show (setPage η.pages n nb m).drop 8 = if m = n then splice (σ.content n) off bs else σ.content m
      unfold setPage
      split
      · exact HNBD.out
      · exact hI.ct m hm
    · intro y hy
      rcases List.mem_or_eq_of_mem_set hy with hy | rfl
      · exact hI.num y hy
      · obtain ⟨a1, a2, a3, a4, a5⟩ := hI.num x (List.mem_of_getElem? hx)
        refine ⟨a1, a2, a3, by simp only; omega, fun u hu => ?_⟩
        rcases List.mem_append.1 hu with hu | hu
        · exact a5 u hu
        · obtain rfl := List.mem_singleton.1 hu
          refine ⟨by simp only; omega, a4, by simp only; omega, (show (n : Int) < (σ.np : Int) by omega), by simp only; omega, ?_⟩
          have := HOL.out
          rw [HOLD.out] at this
          simp only [this]
          omega
end Go.Proofs.YtllhgbanbelmaaaGreat

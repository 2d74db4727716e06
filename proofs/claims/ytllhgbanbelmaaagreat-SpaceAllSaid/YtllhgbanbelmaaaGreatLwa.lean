/- the statements' helpers: Open, On, Formatted, awake. -/
import Derived.Test.YtllhgbanbelmaaaGreatSpc
namespace Go.Proofs.YtllhgbanbelmaaaGreat
open Go.RowKit
variable {B : Nat} {T : List Nat} {D R : Bool} {Y Y' : Sys} {w w' : World} {s : Nat} {σ σ' : StS}

def Open81 (w : World) (n : Nat) (S : List Nat) (e : Ending) (w' : World) : Prop :=
  ∃ d s Y, e = .returned (.tuple #[.pointer (some ⟨d, 0, none⟩), .pointer (some ⟨s, 0, none⟩)]) ∧ Below w.heap.size w w' ∧ StoreAt w.heap.size Y w' s (newS n S)
set_option maxHeartbeats 1000000 in
theorem open81 (n nf : Nat) (S : List Nat) (hS : S.length ≤ nf) (hn : 128 ≤ n) (hn2 : n ≤ 8192) (h1 : 1 ≤ nf) (h64 : nf ≤ 64) (w : World) :
    Calls Tryz.prog 81 #[i64 n, i64 nf] w (Open81 w n S) := by
  have hdn := dev_new n (by omega) hn2 w.heap.size w (Nat.le_refl _)
  have HDN := Lib.hid hdn
  clear hdn
  go_enter Tryz.func81, Tryz.ntmps81
  go_wp2_with fail
  refine HDN.out.mono ?_
  rintro e w1 ⟨d, Y, rfl, hb1, hdge, hdl, hY, hd⟩
  have hop := open39 (nf := nf) S hS hd (by decide) hn hn2 h1 h64 hY
  have HOP := Lib.hid hop
  clear hop
  go_wp2_with ((go_at_call 39; refine HOP.out.mono ?_); rintro e w2 ⟨s, rfl, hm2, hs2⟩)
  go_ret2
  exact ⟨d, s, Y, rfl, hb1.trans (hm2.below hb1.size), hs2⟩

def On36 (w : World) (n : Nat) (e : Ending) (w' : World) : Prop :=
  ∃ d s Y, e = .returned (.tuple #[.pointer (some ⟨d, 0, none⟩), .pointer (some ⟨s, 0, none⟩), i64 1]) ∧ Below w.heap.size w w' ∧ Sp w.heap.size Y w' s ((n - 2 - n / 4 - 5) / 4) 1 ((List.replicate 504 0).set 0 1) (((n / 4 : Nat) - 1) * 118 - 483)
set_option maxHeartbeats 2000000 in
theorem on36 (n nf : Nat) (hn : 128 ≤ n) (hn2 : n ≤ 2048) (h1 : 1 ≤ nf) (h64 : nf ≤ 64) (w : World) :
    Calls Tryz.prog 36 #[i64 n, i64 nf] w (On36 w n) := by
  have hop := open81 n nf [0] h1 hn (by omega) h1 h64 w
  have HOP := Lib.hid hop
  clear hop
  go_enter Tryz.func36, Tryz.ntmps36
  go_wp2_with fail
  refine HOP.out.mono ?_
  rintro e w1 ⟨d, s, Y, rfl, hb1, hs1⟩
  have hbg := begin20 hs1 (by show (288 : Int) ≤ (((n / 4 : Nat) : Int) - 1) * 118 - ((0 : Nat) : Int) - 2048; omega) (by show (1 : Int) ≤ 1099511627776; decide) (Nat.zero_le _)
  have HBG := Lib.hid hbg
  clear hbg
  go_wp2_with fail
  refine HBG.out.mono ?_
  rintro e w2 ⟨rfl, Y2, t, l, hm2, hs2⟩
  have hsp : Sp w.heap.size Y2 w2 s ((n - 2 - n / 4 - 5) / 4) 1 (List.replicate 504 0) (((n / 4 : Nat) - 1) * 118 - 288) := by
    refine ⟨_, _, hs2, rfl, List.mem_singleton.2 rfl, rfl, rfl, rfl, ?_⟩
    show _ ≤ (((n / 4 : Nat) : Int) - 1) * 118 - 96 - ((192 : Nat) : Int)
    omega
  have hfm := sp_format hsp (by omega) (by omega) (by omega)
  have HFM := Lib.hid hfm
  clear hfm
  go_wp2_with ((go_at_call 82; refine HFM.out.mono ?_); rintro e w3 ⟨rfl, Y3, hm3, hs3⟩)
  go_ret3
  refine ⟨d, s, Y3, rfl, (hb1.trans (hm2.below hb1.size)).trans (hm3.below (Nat.le_trans hb1.size hm2.size)), ?_⟩
  have e : (((n / 4 : Nat) : Int) - 1) * 118 - 483 = (((n / 4 : Nat) : Int) - 1) * 118 - 288 - 195 := by omega
  rw [e]
  exact hs3
def Form13 (w : World) (n : Nat) (e : Ending) (w' : World) : Prop :=
  ∃ s Y, e = .returned (.tuple #[.pointer (some ⟨s, 0, none⟩), i64 1]) ∧ Below w.heap.size w w' ∧ Sp w.heap.size Y w' s ((n - 2 - n / 4 - 5) / 4) 1 ((List.replicate 504 0).set 0 1) (((n / 4 : Nat) - 1) * 118 - 483)
set_option maxHeartbeats 1000000 in
theorem form13 (n nf : Nat) (hn : 128 ≤ n) (hn2 : n ≤ 2048) (h1 : 1 ≤ nf) (h64 : nf ≤ 64) (w : World) :
    Calls Tryz.prog 13 #[i64 n, i64 nf] w (Form13 w n) := by
  have hon := on36 n nf hn hn2 h1 h64 w
  have HON := Lib.hid hon
  clear hon
  go_enter Tryz.func13, Tryz.ntmps13
  go_wp2_with ((go_at_call 36; refine HON.out.mono ?_); rintro e w1 ⟨d, s, Y, rfl, hb1, hs1⟩)
  go_ret2
  exact ⟨s, Y, rfl, hb1, hs1⟩

def Awake (w : World) (e : Ending) (w' : World) : Prop := e = .returned (.bool true) ∧ Below w.heap.size w w'
theorem c0_set (i : Nat) : isSet ((List.replicate 504 (0 : UInt8)).set 0 1) i = decide (i = 0) := by
  unfold isSet
  rw [List.getElem?_set, List.length_replicate]
  by_cases h : i = 0
  · subst h; rfl
  · rw [if_neg (Ne.symm h), List.getElem?_replicate, decide_eq_false h]
    by_cases h2 : i < 504
    · rw [if_pos h2]; rfl
    · rw [if_neg h2]
theorem cnt3 : cntB ((((List.replicate 504 (0 : UInt8)).set 0 1).set 1 1).set 2 1) ((512 - 2 - 512 / 4 - 5) / 4) = 3 := by kernel_rfl
set_option maxRecDepth 100000 in
set_option maxHeartbeats 4000000 in
theorem awake14 (w : World) : Calls Tryz.prog 14 #[] w (Awake w) := by
  have hfm := form13 512 16 (by decide) (by decide) (by decide) (by decide) w
  have HFM := Lib.hid hfm
  clear hfm
  go_enter Tryz.func14, Tryz.ntmps14
  go_wp2_with fail
  refine HFM.out.mono ?_
  rintro e w1 ⟨s, Y, rfl, hb1, hs1⟩
  go_wp2_with fail
  refine (sp_take hs1 (by decide) (by decide) 1 (by decide) (by rw [c0_set]; decide) (fun j hj => by rw [c0_set]; exact decide_eq_true (by omega)) (by decide)).mono ?_
  rintro e w2 ⟨rfl, Y2, hm2, hs2⟩
  go_wp2_with fail
  refine (sp_take hs2 (by decide) (by decide) 2 (by decide) (by decide) (by decide) (by decide)).mono ?_
  rintro e w3 ⟨rfl, Y3, hm3, hs3⟩
  go_wp2_with fail
  refine (sp_count hs3 (by decide) (by decide)).mono ?_
  rintro e w4 ⟨rfl, hm4, hs4⟩
  rw [cnt3]
  have hg1 := sp_give hs4 (by decide) 1 (by decide) (by decide) (by kernel_rfl) (by decide)
  have HG1 := Lib.hid hg1
  clear hg1
  go_wp2_with fail
  refine HG1.out.mono ?_
  rintro e w5 ⟨rfl, Y5, hm5, hs5⟩
  have hg2 := sp_give_no hs5 (by decide) 1 (by decide) (.inr (by kernel_rfl))
  have HG2 := Lib.hid hg2
  clear hg2
  go_wp2_with fail
  refine HG2.out.mono ?_
  rintro e w6 ⟨rfl, hm6, hs6⟩
  have hg3 := sp_give_no hs6 (by decide) 0 (by decide) (.inl (by decide))
  have HG3 := Lib.hid hg3
  clear hg3
  go_wp2_with fail
  refine HG3.out.mono ?_
  rintro e w7 ⟨rfl, hm7, hs7⟩
  have hmp := maps48 505 (by decide) (by decide) w7
  have HMP := Lib.hid hmp
  clear hmp
  go_wp2_with fail
  refine HMP.out.mono ?_
  rintro e w8 ⟨rfl, rfl⟩
  go_wp2_with fail
  go_ret
  have h1 := hb1.size
  have h2 := hm2.size
  have h3 := hm3.size
  have h4 := hm4.size
  have h5 := hm5.size
  have h6 := hm6.size
  exact ⟨rfl, (((((hb1.trans (hm2.below h1)).trans (hm3.below (by omega))).trans (hm4.below (by omega))).trans (hm5.below (by omega))).trans (hm6.below (by omega))).trans (hm7.below (by omega))⟩
end Go.Proofs.YtllhgbanbelmaaaGreat

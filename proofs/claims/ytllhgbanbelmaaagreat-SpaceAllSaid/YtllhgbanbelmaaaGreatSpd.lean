/- space: Change under one session. -/
import Derived.Test.YtllhgbanbelmaaaGreatSpc
import Derived.Deep.CutBlock
import Derived.IntWalk
namespace Go.Proofs.YtllhgbanbelmaaaGreat
open Go.RowKit
variable {B : Nat} {T : List Nat} {D R : Bool} {Y Y' : Sys} {w w' : World} {s np : Nat} {id : Int} {c : List UInt8} {a : Int}

theorem bne_u8 (x y : UInt8) : ((x.toNat : Int) == (y.toNat : Int)) = (x == y) := by
  by_cases h : x = y
  · subst h; simp
  · have : (x.toNat : Int) ≠ (y.toNat : Int) := fun e => h (UInt8.toNat_inj.1 (by omega))
    rw [show (x == y) = false by simpa using h]
    simpa using this
/-- where two texts agree outside a part, the part makes the one the other -/
theorem splice_eq (o c : List UInt8) (i k : Nat) (hik : i ≤ k) (hl : o.length = c.length) (hk : k ≤ c.length) (h1 : ∀ j, j < i → o[j]? = c[j]?) (h2 : ∀ j, k ≤ j → o[j]? = c[j]?) : splice o i (part c i (k - i)) = c := by
  have hp : (part c i (k - i)).length = k - i := by unfold part; rw [List.length_take, List.length_drop]; omega
  refine List.ext_getElem? fun j => ?_
  unfold splice
  rw [hp]
  rcases Nat.lt_or_ge j i with hj | hj
  · rw [List.getElem?_append_left (by rw [List.length_take]; omega), List.getElem?_take, if_pos hj]
    exact h1 j hj
  · rw [List.getElem?_append_right (by rw [List.length_take]; omega), List.length_take, Nat.min_eq_left (by omega)]
    rcases Nat.lt_or_ge j k with hj2 | hj2
    · rw [List.getElem?_append_left (by omega)]
      unfold part
      rw [List.getElem?_take, if_pos (by omega), List.getElem?_drop]
      congr 1
      omega
    · rw [List.getElem?_append_right (by omega), hp, List.getElem?_drop]
      rw [show i + (k - i) + (j - i - (k - i)) = j by omega]
      exact h2 j hj2

theorem byts_sub {v : Addr} {n c : Nat} {bs : List UInt8} (h : Byts B Y w (.slice (some v) n c) bs) (hn : n = bs.length) (off m : Nat) (hm : 0 < m) (hl : off + m ≤ bs.length) : Byts B Y w (.slice (some ⟨v.block, v.off + off, none⟩) m (c - off)) (part bs off m) := by
  have hpl : (part bs off m).length = m := by unfold part; rw [List.length_take, List.length_drop]; omega
  obtain ⟨A, C, e1, e2, e3, h4⟩ := h
  rw [List.length_map] at e1 e2 h4
  injection e1 with e1 _ e5
  subst e1 e5
  obtain ⟨b, o, e6, hsf, hcell⟩ := h4 (by omega)
  injection e6 with e6
  subst e6
  refine ⟨_, c - off, by rw [List.length_map, hpl], by rw [List.length_map, hpl]; omega, by omega, fun _ => ⟨b, o + off, rfl, hsf, fun i u hu => ?_⟩⟩
  have := hcell (off + i) u (by
    rw [List.getElem?_map] at hu ⊢
    unfold part at hu
    rw [List.getElem?_take] at hu
    split at hu
    · rwa [List.getElem?_drop] at hu
    · simp at hu)
  rwa [← Nat.add_assoc] at this
set_option maxRecDepth 100000 in
set_option maxHeartbeats 8000000 in
theorem sp_change (h : Sp B Y w s np id c a) (h0 : 1 ≤ np) (h1 : np < 504) (ha : 3752 ≤ a) (g gc : Nat) (nb : List UInt8) (hnb : nb.length = 504) {base : Nat} (hown : w.ownsRow base 5 1 (.slice (some ⟨g, 0, none⟩) 504 gc) 504 (nb.map bv)) (hdl : Y.dl < base) (hrb : ∀ k, Y.rb = some k → k < base) :
    Calls Tryz.prog 51 #[.pointer (some ⟨s, 0, none⟩), i64 id, i64 0, .slice (some ⟨g, 0, none⟩) 504 gc] w (SpGave B Y w s np id nb (a - 1704)) := by
  have hlen := h.len h0
  obtain ⟨σ, x, h, rfl, hS, hts, rfl, rfl, hav⟩ := h
  have hrd := read34 h 0 0 504 (by omega) hS (by omega)
  have HRD := Lib.hid hrd
  have HTS := Lib.hid hts
  have hgc := own_cap hown
  have hglt : g < w.heap.size := own_lt hown rfl
  clear hrd hts
  go_enter Tryz.func51, Tryz.ntmps51
  go_wp2_with fail
  refine HRD.out.mono ?_
  rintro e w1 ⟨v, wm, rfl, hm, hs, hbm, hown1⟩
  have hct : ((σ.content 0).drop 0).take 504 = σ.content 0 := by rw [List.drop_zero]; exact List.take_of_length_le (by omega)
  rw [hct] at hown1
  obtain ⟨g1, c1, rfl, hg1b, hg1l⟩ := hown1.form (by decide)
  have ho : ∀ (j : Nat) (b : UInt8), (σ.content 0)[j]? = some b → w1.cell? ⟨g1, j, none⟩ = some (.int .u8 b.toNat) := by
    intro j b hb
    have := hown1.cells (g := g1) rfl j (bv b) (by rw [List.getElem?_map, hb]; rfl)
    rwa [addr_add, Nat.zero_add] at this
  have hby : Byts B Y w (.slice (some ⟨g, 0, none⟩) 504 gc) nb := Sl.own hown hdl hrb
  have hby1 : Byts B Y w1 (.slice (some ⟨g, 0, none⟩) 504 gc) nb := hby.mod (hm.below_ hbm) (by decide)
  have hn : ∀ (j : Nat) (b : UInt8), nb[j]? = some b → w1.cell? ⟨g, j, none⟩ = some (.int .u8 b.toNat) := by
    intro j b hb
    obtain ⟨A, C, e1, _, _, h4⟩ := hby1
    injection e1 with e1 _ _
    obtain ⟨b', o', e2, _, h5⟩ := h4 (by rw [List.length_map, hnb]; decide)
    rw [← e1] at e2
    injection e2 with e2
    injection e2 with e2 e3
    subst e2 e3
    have := h5 j (bv b) (by rw [List.getElem?_map, hb]; rfl)
    rwa [Nat.zero_add] at this
  have HO := Lib.hid ho
  have HN := Lib.hid hn
  clear ho hn hct
  go_upto_block 0 with (fail)
  go_cut [11] (fun t wx => ∃ j : Nat, j ≤ 504 ∧ t = .int .i64 j ∧ Same w1 wx ∧ Hid (∀ i, i < j → (σ.content 0)[i]? = nb[i]?) ∧ Hid (j < 504 → (σ.content 0)[j]? ≠ nb[j]?))
  case first =>
    go_wp2_with fail
    go_loopw [11] (fun t wr => ∃ j : Nat, j ≤ 504 ∧ t = .int .i64 j ∧ Same w1 wr ∧ Hid (∀ i, i < j → (σ.content 0)[i]? = nb[i]?)) (fun t _ => 504 - (intOf t).toNat)
    case atStart => exact ⟨0, Nat.zero_le _, rfl, Same.refl _, Lib.hid (fun i hi => absurd hi (Nat.not_lt_zero _))⟩
    case round =>
      obtain ⟨j, hj, rfl, hsm, hagr⟩ := hrel
      by_cases hlt : j < 504
      · have hj' : (j : Int) < 504 := by omega
        have hj0 : (0 : Int) ≤ j := by omega
        obtain ⟨b, hb⟩ : ∃ b, (σ.content 0)[j]? = some b := ⟨_, List.getElem?_eq_getElem (by omega)⟩
        obtain ⟨b2, hb2⟩ : ∃ b, nb[j]? = some b := ⟨_, List.getElem?_eq_getElem (by omega)⟩
        have k1 : wr.cell? ⟨g1, j, none⟩ = some (.int .u8 b.toNat) := (hsm.cell _).trans (HO.out j b hb)
        have k2 : wr.cell? ⟨g, j, none⟩ = some (.int .u8 b2.toNat) := (hsm.cell _).trans (HN.out j b2 hb2)
        have HB := Lib.hid hb
        have HB2 := Lib.hid hb2
        have hbb := bne_u8 b b2
        clear hb hb2
        by_cases heq : b = b2
        · have hq : ((b.toNat : Int) == (b2.toNat : Int)) = true := by rw [hbb]; simpa using heq
          clear hbb
          have HEQ := Lib.hid heq
          clear heq
          go_wp2_with fail
          go_quiet (fail)
          go_wp2_with fail
          go_roundw
          case rel =>
            refine ⟨j + 1, by omega, by go_num, hsm.trans (Same.drewN rfl), Lib.hid (fun i hi => ?_)⟩
            by_cases e : i = j
            · rw [e, HB.out, HB2.out, HEQ.out]
            · exact hagr.out i (by omega)
          case measure => simp [intOf]; omega
        · have hq : ((b.toNat : Int) == (b2.toNat : Int)) = false := by rw [hbb]; simpa using heq
          clear hbb
          have HEQ := Lib.hid heq
          clear heq
          go_wp2_with fail
          go_quiet (fail)
          go_wp2_with fail
          go_meet
          case rel => exact ⟨j, hj, rfl, hsm.trans (Same.drewN rfl), hagr, Lib.hid (fun _ => by rw [HB.out, HB2.out]; intro e; injection e with e; exact HEQ.out e)⟩
      · obtain rfl : j = 504 := by omega
        go_wp2_with fail
        go_quiet (fail)
        go_wp2_with fail
        go_meet
        case rel => exact ⟨504, hj, rfl, hsm.trans (Same.drewN rfl), hagr, Lib.hid (fun h => absurd h (Nat.lt_irrefl _))⟩
  case rest =>
    obtain ⟨j, hj, rfl, hsm, hagr, hdif⟩ := hcut
    obtain ⟨w2, hw2⟩ : ∃ w2, w2 = wc := ⟨_, rfl⟩
    rw [← hw2] at hsm ⊢
    clear hw2
    go_upto_block 2 with (fail)
    go_cut [12] (fun t wx => ∃ k : Nat, j ≤ k ∧ k ≤ 504 ∧ t = .int .i64 k ∧ Same w1 wx ∧ Hid (∀ i, k ≤ i → i < 504 → (σ.content 0)[i]? = nb[i]?))
    case first =>
      go_wp2_with fail
      go_loopw [12] (fun t wr => ∃ k : Nat, j ≤ k ∧ k ≤ 504 ∧ t = .int .i64 k ∧ Same w1 wr ∧ Hid (∀ i, k ≤ i → i < 504 → (σ.content 0)[i]? = nb[i]?)) (fun t _ => (intOf t).toNat)
      case atStart => exact ⟨504, hj, by omega, rfl, hsm, Lib.hid (fun i h1 h2 => by omega)⟩
      case round =>
        obtain ⟨k, hjk, hk, rfl, hsm, hagk⟩ := hrel
        by_cases hlt : j < k
        · have hj' : (j : Int) < (k : Int) := by omega
          have hk5 : (k : Int) ≤ 504 := by omega
          have hk0 : (1 : Int) ≤ k := by omega
          obtain ⟨b, hb⟩ : ∃ b, (σ.content 0)[k - 1]? = some b := ⟨_, List.getElem?_eq_getElem (by omega)⟩
          obtain ⟨b2, hb2⟩ : ∃ b, nb[k - 1]? = some b := ⟨_, List.getElem?_eq_getElem (by omega)⟩
          have k1 : wr.cell? ⟨g1, k - 1, none⟩ = some (.int .u8 b.toNat) := (hsm.cell _).trans (HO.out _ b hb)
          have k2 : wr.cell? ⟨g, k - 1, none⟩ = some (.int .u8 b2.toNat) := (hsm.cell _).trans (HN.out _ b2 hb2)
          have HB := Lib.hid hb
          have HB2 := Lib.hid hb2
          have hbb := bne_u8 b b2
          clear hb hb2
          have hw0 : IntKind.i64.wrap ((k : Int) - 1) = (k : Int) - 1 := IntWalk.i64_in _ (by omega)
          have hw1 : ((k : Int) - 1).toNat = k - 1 := by omega
          have hw2 : (0 : Int) ≤ (k : Int) - 1 := by omega
          have hw3 : (k : Int) - 1 < 504 := by omega
          by_cases heq : b = b2
          · have hq : ((b.toNat : Int) == (b2.toNat : Int)) = true := by rw [hbb]; simpa using heq
            clear hbb
            have HEQ := Lib.hid heq
            clear heq
            go_wp2_with fail
            go_quiet (fail)
            go_wp2_with fail
            go_roundw
            case rel =>
              refine ⟨k - 1, by omega, by omega, by rw [show ((k - 1 : Nat) : Int) = (k : Int) - 1 by omega], hsm.trans (Same.drewN rfl), Lib.hid (fun i h1 h2 => ?_)⟩
              by_cases e : i = k - 1
              · rw [e, HB.out, HB2.out, HEQ.out]
              · exact hagk.out i (by omega) h2
            case measure => simp [intOf]; omega
          · have hq : ((b.toNat : Int) == (b2.toNat : Int)) = false := by rw [hbb]; simpa using heq
            clear hbb heq
            go_wp2_with fail
            go_quiet (fail)
            go_wp2_with fail
            go_meet
            case rel => exact ⟨k, hjk, hk, rfl, hsm.trans (Same.drewN rfl), hagk⟩
        · obtain rfl : j = k := by omega
          go_wp2_with fail
          go_quiet (fail)
          go_wp2_with fail
          go_meet
          case rel => exact ⟨j, hjk, hk, rfl, hsm.trans (Same.drewN rfl), hagk⟩
    case rest =>
      obtain ⟨k, hjk, hk, rfl, hsm3, hagk⟩ := hcut
      obtain ⟨w3, hw3⟩ : ∃ w3, w3 = wc := ⟨_, rfl⟩
      rw [← hw3] at hsm3 ⊢
      clear hw3
      have hMw : Mod B StT false false Y Y w w3 := (hm.below_ hbm).same hsm3
      have hs3 := (hs.below hbm).below (hsm3.below _)
      have hjk5 : (k : Int) ≤ 504 := by omega
      have hgc' : (504 : Int) ≤ gc := by have := hgc.1; omega
      by_cases he : j = k
      · subst he
        have hjb : ((j : Int) == (j : Int)) = true := by simp
        go_wp2_with fail
        go_ret
        have hc : σ.content 0 = nb := by
          refine List.ext_getElem? fun i => ?_
          rcases Nat.lt_or_ge i j with h | h
          · exact hagr.out i h
          · rcases Nat.lt_or_ge i 504 with h2 | h2
            · exact hagk.out i h h2
            · rw [List.getElem?_eq_none (by omega), List.getElem?_eq_none (by omega)]
        exact ⟨rfl, Y, hMw.more StT false true (by decide), σ, x, hs3, rfl, hS, HTS.out, rfl, hc, by omega⟩
      · have hne : ((j : Int) == (k : Int)) = false := by simp; omega
        have hlt : (j : Int) < k := by omega
        have hpl : (part nb j (k - j)).length = k - j := by unfold part; rw [List.length_take, List.length_drop]; omega
        have hby3 : Byts B Y w3 (.slice (some ⟨g, 0, none⟩) 504 gc) nb := hby.mod hMw (by decide)
        have hsub := byts_sub hby3 (by rw [hnb]) j (k - j) (by omega) (by omega)
        rw [Nat.zero_add] at hsub
        have hcne : ¬ gc = j := by omega
        have hw := write50 hs3 0 x (by rw [HTS.out]; rfl) 0 j (by omega) hS (part nb j (k - j)) (by rw [hpl]; omega) (by rw [hpl]; omega) _ hsub (by rw [HTS.out]; exact busy_one _ _ _ _) (by rw [hpl]; unfold avail at hav; omega)
        have HW := Lib.hid hw
        have HPL := Lib.hid hpl
        clear hw hpl hsub
        go_wp2_with ((go_at_call 50; refine HW.out.mono ?_); rintro e w4 ⟨rfl, Y4, σ4, hm4, hs4, hw4⟩)
        go_ret
        have hsp := Sp.wr HTS.out hS hav hs4 hw4 (by rw [HPL.out]; omega)
        rw [splice_eq (σ.content 0) nb j k hjk (by rw [hlen, hnb]) (by omega) (fun i h => hagr.out i h) (fun i h => by
          rcases Nat.lt_or_ge i 504 with h2 | h2
          · exact hagk.out i h h2
          · rw [List.getElem?_eq_none (by omega), List.getElem?_eq_none (by omega)])] at hsp
        obtain ⟨σ5, x5, q1, q2, q3, q4, q5, q6, q7⟩ := hsp
        refine ⟨rfl, Y4, (hMw.more StT false true (by decide)).trans hm4, σ5, x5, q1, q2, q3, q4, q5, q6, ?_⟩
        have := HPL.out
        omega
end Go.Proofs.YtllhgbanbelmaaaGreat

/- SpaceAll's walk. -/
import Derived.Test.YtllhgbanbelmaaaGreatLwb
namespace Go.Proofs.YtllhgbanbelmaaaGreat
open Go.RowKit
variable {B : Nat} {T : List Nat} {D R : Bool} {Y Y' : Sys} {w w' : World}
/-- a slice of integers that came in -/
def IsRow (k : IntKind) (w : World) (a : Option Addr) (len cap : Nat) (zs : List Int) : Prop :=
  (a = none ∧ len = 0 ∧ cap = 0 ∧ zs = []) ∨
  ∃ x, a = some x ∧ len ≤ cap ∧ cap ≤ maxLen ∧ zs.length = cap ∧ (∀ i, i < zs.length → w.cell? (x.add i) = some (.int k (zs.getD i 0))) ∧ ∀ n ∈ zs, (Lit.int k n).wf = true
theorem IsRow.lst {a : Option Addr} {len cap : Nat} {zs : List Int} (h : IsRow .i64 w a len cap zs) : (zs.take len).length = len ∧ Lst w.heap.size w (.slice a len cap) (zs.take len) := by
  rcases h with ⟨rfl, rfl, rfl, rfl⟩ | ⟨x, rfl, h1, h2, h3, h4, h5⟩
  · exact ⟨rfl, none, 0, rfl, by simp, by simp, by simp⟩
  · have hl : (zs.take len).length = len := by rw [List.length_take]; omega
    refine ⟨hl, some x, cap, by rw [hl], by rw [hl]; unfold maxLen at h2; omega, fun h0 => ?_, fun z hz => h5 z (List.mem_of_mem_take hz)⟩
    rw [hl] at h0
    have h6 := h4 0 (by omega)
    have h7 := World.block_lt_of_cell? _ _ h6
    have h8 := World.cell?_spot h6
    obtain ⟨b, off, spot⟩ := x
    simp only [Addr.add] at h7 h8
    subst h8
    refine ⟨b, off, rfl, h7, h7, fun j z hz => ?_⟩
    rw [List.getElem?_take] at hz
    split at hz
    · next hj =>
      have := h4 j (by omega)
      rw [List.getD_eq_getElem?_getD, hz] at this
      rwa [addr_add] at this
    · cases hz
theorem Lst.below {v : Value} {l : List Int} (h : Lst B w v l) (hb : Below B w w') : Lst B w' v l := by
  obtain ⟨A, cap, e, h1, h2, h3⟩ := h
  refine ⟨A, cap, e, h1, fun h0 => ?_, h3⟩
  obtain ⟨b, off, e2, hB, hbw, hc⟩ := h2 h0
  exact ⟨b, off, e2, hB, Nat.lt_of_lt_of_le hbw hb.size, fun j z hz => (World.cell?_of_block (a := ⟨b, off + j, none⟩) (hb.block b hB)).trans (hc j z hz)⟩
theorem dec_bool {p : Prop} {b : Bool} : (b = true ↔ p) → b = true → p := fun h e => h.1 e

set_option maxRecDepth 100000 in
set_option maxHeartbeats 8000000 in
theorem spaceAll3 (n : Int) (a : Option Addr) (len cap : Nat) (zs : List Int) (w : World) (hr : IsRow .i64 w a len cap zs) :
    Calls Tryz.prog 3 #[i64 n, .slice a len cap] w (Awake w) := by
  obtain ⟨hlen, hl⟩ := hr.lst
  clear hr
  generalize zs.take len = l at hlen hl
  subst hlen
  have hfm := form13 1024 8 (by decide) (by decide) (by decide) (by decide) w
  have HFM := Lib.hid hfm
  clear hfm
  go_enter Tryz.func3, Tryz.ntmps3
  go_wp2_with fail
  refine HFM.out.mono ?_
  rintro e w1 ⟨s, Y, rfl, hb1, hs1⟩
  rw [show (1024 - 2 - 1024 / 4 - 5) / 4 = 190 from rfl, ones_zero, show (((1024 / 4 : Nat) : Int) - 1) * 118 - 483 = 29607 by decide] at hs1
  have haw : ∀ w' : World, Below w.heap.size w w' → Calls Tryz.prog 14 #[] w' (Awake w) := fun w' hb => (awake14 w').mono fun e w2 h => ⟨h.1, hb.trans (h.2.mono hb.size)⟩
  have HAW := Lib.hid haw
  clear haw
  by_cases hin : n < 0 ∨ 30 < n ∨ 40 < l.length
  · have haw1 := Lib.hid (HAW.out w1 hb1)
    clear HAW
    by_cases h0 : n < 0
    · go_wp2_with ((go_at_call 14; refine haw1.out.mono ?_); rintro e w2 ⟨rfl, hb2⟩)
      go_ret
      exact ⟨rfl, hb2⟩
    · by_cases h30 : 30 < n
      · go_wp2_with ((go_at_call 14; refine haw1.out.mono ?_); rintro e w2 ⟨rfl, hb2⟩)
        go_ret
        exact ⟨rfl, hb2⟩
      · have h40 : (40 : Int) < l.length := by omega
        go_wp2_with ((go_at_call 14; refine haw1.out.mono ?_); rintro e w2 ⟨rfl, hb2⟩)
        go_ret
        exact ⟨rfl, hb2⟩
  · obtain ⟨N, rfl⟩ : ∃ N : Nat, n = N := ⟨n.toNat, by omega⟩
    have hN : N ≤ 30 := by omega
    have hl40 : l.length ≤ 40 := by omega
    have h0 : ¬ ((N : Int) < 0) := by omega
    have h30 : ¬ (30 < (N : Int)) := by omega
    have h40 : ¬ ((40 : Int) < l.length) := by omega
    clear hin
    go_wp2_with fail
    go_loopw [7] (fun t wr => ∃ i : Nat, i ≤ N ∧ t = .int .i64 i ∧ Below w.heap.size w wr ∧ ∃ Y, Sp w.heap.size Y wr s 190 1 (ones i) (29607 - 195 * i)) (fun t _ => N - (intOf t).toNat)
    case atStart => exact ⟨0, Nat.zero_le _, rfl, hb1, Y, hs1⟩
    case round =>
      obtain ⟨i, hi, rfl, hbr, Yr, hsr⟩ := hrel
      by_cases hlt : i < N
      · have hi' : (i : Int) < N := by omega
        have hi0 : (0 : Int) ≤ i := by omega
        have hi30 : (i : Int) < 30 := by omega
        have htk : Calls Tryz.prog 15 #[.pointer (some ⟨s, 0, none⟩), i64 1] wr fun e w' => e = .returned (.tuple #[i64 ((i : Int) + 1), i64 0]) ∧ ∃ Y', Mod w.heap.size StT false true Yr Y' wr w' ∧ Sp w.heap.size Y' w' s 190 1 (ones (i + 1)) (29607 - 195 * ((i + 1 : Nat) : Int)) := by
          refine (sp_take hsr (by decide) (by decide) (i + 1) (by omega) (by rw [ones_set]; exact decide_eq_false (by omega)) (fun j hj => by rw [ones_set]; exact decide_eq_true (by omega)) (by omega)).mono ?_
          rintro e w2 ⟨rfl, Y2, hm2, hs2⟩
          rw [ones_succ i (by omega)] at hs2
          refine ⟨by rw [Int.natCast_succ], Y2, hm2, ?_⟩
          rw [show (29607 : Int) - 195 * ((i + 1 : Nat) : Int) = 29607 - 195 * (i : Int) - 195 by omega]
          exact hs2
        have HTK := Lib.hid htk
        clear htk
        have hwr : IntKind.i64.wrap ((i : Int) + 1) = (i : Int) + 1 := IntWalk.i64_in _ (by omega)
        go_wp2_with ((go_at_call 15; refine HTK.out.mono ?_); rintro e w2 ⟨rfl, Y2, hm2, hs2⟩)
        go_roundw
        case rel => exact ⟨i + 1, by omega, by go_num, hbr.trans (hm2.below hbr.size), Y2, hs2⟩
        case measure => simp [intOf]; omega
      · obtain rfl : N = i := by omega
        go_wp2_with fail
        obtain ⟨wr0, hwr0⟩ : ∃ wr0, wr0 = wr := ⟨_, rfl⟩
        rw [← hwr0] at hbr hsr ⊢
        clear hwr0
        go_loopw [10, 11] (fun gv t wx => ∃ (i : Nat) (g : Bool), i ≤ l.length ∧ gv = .bool g ∧ t = .int .i64 i ∧ Hid (g = true ↔ Gd N l i) ∧ Same wr0 wx) (fun _ t _ => l.length - (intOf t).toNat)
        case atStart => exact ⟨0, true, Nat.zero_le _, rfl, rfl, Lib.hid ⟨fun _ j p hj => absurd hj (Nat.not_lt_zero _), fun _ => rfl⟩, Same.refl _⟩
        case round =>
          obtain ⟨j, g, hj, rfl, rfl, hg, hsm⟩ := hrel
          by_cases hlt : j < l.length
          · have hj' : (j : Int) < l.length := by omega
            have hj0 : (0 : Int) ≤ j := by omega
            obtain ⟨p, hp⟩ : ∃ p, l[j]? = some p := ⟨_, List.getElem?_eq_getElem hlt⟩
            have hlw := hl.below hbr
            obtain ⟨A', cap', e, _, hlc, _⟩ := hlw
            injection e with e1 _ e2
            subst e1 e2
            obtain ⟨lb, lo, rfl, hlbB, hlbw, hcell⟩ := hlc (by omega)
            have k0 : wr.cell? ⟨lb, lo + j, none⟩ = some (.int .i64 p) := (hsm.cell _).trans (hcell j p hp)
            have HC := Lib.hid hcell
            have HPP := Lib.hid hp
            clear hcell hlc hp
            cases g with
            | false =>
              have HG0 : Hid (false = true ↔ Gk N l j 0) := Lib.hid (by rw [Gk.zero HPP.out, ← hg.out]; simp [])
              go_wp2_with fail
              go_loopw [10, 12] (fun gv t wy => ∃ (k : Nat) (g : Bool), k ≤ j ∧ gv = .bool g ∧ t = .int .i64 k ∧ Hid (g = true ↔ Gk N l j k) ∧ Same wr0 wy) (fun _ t _ => j - (intOf t).toNat)
              case atStart => exact ⟨0, false, Nat.zero_le _, rfl, rfl, Lib.hid (by have := HG0.out; simpa using this), hsm⟩
              case round =>
                obtain ⟨k, g2, hk, rfl, rfl, hg2, hsm2⟩ := hrel
                by_cases hkj : k < j
                · have hkj' : (k : Int) < j := by omega
                  have hkl : (k : Int) < l.length := by omega
                  obtain ⟨q, hq⟩ : ∃ q, l[k]? = some q := ⟨_, List.getElem?_eq_getElem (by omega)⟩
                  have k1 : wr.cell? ⟨lb, lo + k, none⟩ = some (.int .i64 q) := (hsm2.cell _).trans (HC.out k q hq)
                  have k2 : wr.cell? ⟨lb, lo + j, none⟩ = some (.int .i64 p) := (hsm2.cell _).trans (HC.out j p HPP.out)
                  have HQ := Lib.hid hq
                  clear hq
                  cases g2 with
                  | true =>
                    go_wp2_with fail
                    go_quiet (fail)
                    go_wp2_with fail
                    go_roundw
                    case rel => exact ⟨k + 1, q != p, by omega, rfl, by go_num, Lib.hid (by rw [Gk.succ HPP.out HQ.out, ← hg2.out]; simp), hsm2.trans (Same.drewN rfl)⟩
                    case measure => simp [intOf]; omega
                  | false =>
                    go_wp2_with fail
                    go_quiet (fail)
                    go_wp2_with fail
                    go_roundw
                    case rel => exact ⟨k + 1, false, by omega, rfl, by go_num, Lib.hid (by rw [Gk.succ HPP.out HQ.out, ← hg2.out]; simp), hsm2.trans (Same.drewN rfl)⟩
                    case measure => simp [intOf]; omega
                · obtain rfl : j = k := by omega
                  go_wp2_with fail
                  go_roundw
                  case rel => exact ⟨j + 1, g2, by omega, rfl, by go_num, Lib.hid (by rw [Gk.step]; exact hg2.out), hsm2⟩
                  case measure => simp [intOf]; omega
            | true =>
              by_cases hq1 : 1 ≤ p
              · by_cases hq2 : p ≤ (N : Int)
                · have HQ12 := Lib.hid (And.intro hq1 hq2)
                  have HG0 : Hid (true = true ↔ Gk N l j 0) := Lib.hid (by rw [Gk.zero HPP.out, ← hg.out]; simp [HQ12.out.1, HQ12.out.2])
                  go_wp2_with fail
                  go_loopw [10, 12] (fun gv t wy => ∃ (k : Nat) (g : Bool), k ≤ j ∧ gv = .bool g ∧ t = .int .i64 k ∧ Hid (g = true ↔ Gk N l j k) ∧ Same wr0 wy) (fun _ t _ => j - (intOf t).toNat)
                  case atStart => exact ⟨0, true, Nat.zero_le _, rfl, rfl, Lib.hid (by have := HG0.out; simpa using this), hsm⟩
                  case round =>
                    obtain ⟨k, g2, hk, rfl, rfl, hg2, hsm2⟩ := hrel
                    by_cases hkj : k < j
                    · have hkj' : (k : Int) < j := by omega
                      have hkl : (k : Int) < l.length := by omega
                      obtain ⟨q, hq⟩ : ∃ q, l[k]? = some q := ⟨_, List.getElem?_eq_getElem (by omega)⟩
                      have k1 : wr.cell? ⟨lb, lo + k, none⟩ = some (.int .i64 q) := (hsm2.cell _).trans (HC.out k q hq)
                      have k2 : wr.cell? ⟨lb, lo + j, none⟩ = some (.int .i64 p) := (hsm2.cell _).trans (HC.out j p HPP.out)
                      have HQ := Lib.hid hq
                      clear hq
                      cases g2 with
                      | true =>
                        go_wp2_with fail
                        go_quiet (fail)
                        go_wp2_with fail
                        go_roundw
                        case rel => exact ⟨k + 1, q != p, by omega, rfl, by go_num, Lib.hid (by rw [Gk.succ HPP.out HQ.out, ← hg2.out]; simp), hsm2.trans (Same.drewN rfl)⟩
                        case measure => simp [intOf]; omega
                      | false =>
                        go_wp2_with fail
                        go_quiet (fail)
                        go_wp2_with fail
                        go_roundw
                        case rel => exact ⟨k + 1, false, by omega, rfl, by go_num, Lib.hid (by rw [Gk.succ HPP.out HQ.out, ← hg2.out]; simp), hsm2.trans (Same.drewN rfl)⟩
                        case measure => simp [intOf]; omega
                    · obtain rfl : j = k := by omega
                      go_wp2_with fail
                      go_roundw
                      case rel => exact ⟨j + 1, g2, by omega, rfl, by go_num, Lib.hid (by rw [Gk.step]; exact hg2.out), hsm2⟩
                      case measure => simp [intOf]; omega
                · have HQ12 := Lib.hid (And.intro hq1 hq2)
                  have HG0 : Hid (false = true ↔ Gk N l j 0) := Lib.hid (by rw [Gk.zero HPP.out, ← hg.out]; simp [HQ12.out.1, HQ12.out.2])
                  go_wp2_with fail
                  go_loopw [10, 12] (fun gv t wy => ∃ (k : Nat) (g : Bool), k ≤ j ∧ gv = .bool g ∧ t = .int .i64 k ∧ Hid (g = true ↔ Gk N l j k) ∧ Same wr0 wy) (fun _ t _ => j - (intOf t).toNat)
                  case atStart => exact ⟨0, false, Nat.zero_le _, rfl, rfl, Lib.hid (by have := HG0.out; simpa using this), hsm⟩
                  case round =>
                    obtain ⟨k, g2, hk, rfl, rfl, hg2, hsm2⟩ := hrel
                    by_cases hkj : k < j
                    · have hkj' : (k : Int) < j := by omega
                      have hkl : (k : Int) < l.length := by omega
                      obtain ⟨q, hq⟩ : ∃ q, l[k]? = some q := ⟨_, List.getElem?_eq_getElem (by omega)⟩
                      have k1 : wr.cell? ⟨lb, lo + k, none⟩ = some (.int .i64 q) := (hsm2.cell _).trans (HC.out k q hq)
                      have k2 : wr.cell? ⟨lb, lo + j, none⟩ = some (.int .i64 p) := (hsm2.cell _).trans (HC.out j p HPP.out)
                      have HQ := Lib.hid hq
                      clear hq
                      cases g2 with
                      | true =>
                        go_wp2_with fail
                        go_quiet (fail)
                        go_wp2_with fail
                        go_roundw
                        case rel => exact ⟨k + 1, q != p, by omega, rfl, by go_num, Lib.hid (by rw [Gk.succ HPP.out HQ.out, ← hg2.out]; simp), hsm2.trans (Same.drewN rfl)⟩
                        case measure => simp [intOf]; omega
                      | false =>
                        go_wp2_with fail
                        go_quiet (fail)
                        go_wp2_with fail
                        go_roundw
                        case rel => exact ⟨k + 1, false, by omega, rfl, by go_num, Lib.hid (by rw [Gk.succ HPP.out HQ.out, ← hg2.out]; simp), hsm2.trans (Same.drewN rfl)⟩
                        case measure => simp [intOf]; omega
                    · obtain rfl : j = k := by omega
                      go_wp2_with fail
                      go_roundw
                      case rel => exact ⟨j + 1, g2, by omega, rfl, by go_num, Lib.hid (by rw [Gk.step]; exact hg2.out), hsm2⟩
                      case measure => simp [intOf]; omega
              · have HQ12 := Lib.hid hq1
                have HG0 : Hid (false = true ↔ Gk N l j 0) := Lib.hid (by rw [Gk.zero HPP.out, ← hg.out]; simp [HQ12.out])
                go_wp2_with fail
                go_loopw [10, 12] (fun gv t wy => ∃ (k : Nat) (g : Bool), k ≤ j ∧ gv = .bool g ∧ t = .int .i64 k ∧ Hid (g = true ↔ Gk N l j k) ∧ Same wr0 wy) (fun _ t _ => j - (intOf t).toNat)
                case atStart => exact ⟨0, false, Nat.zero_le _, rfl, rfl, Lib.hid (by have := HG0.out; simpa using this), hsm⟩
                case round =>
                  obtain ⟨k, g2, hk, rfl, rfl, hg2, hsm2⟩ := hrel
                  by_cases hkj : k < j
                  · have hkj' : (k : Int) < j := by omega
                    have hkl : (k : Int) < l.length := by omega
                    obtain ⟨q, hq⟩ : ∃ q, l[k]? = some q := ⟨_, List.getElem?_eq_getElem (by omega)⟩
                    have k1 : wr.cell? ⟨lb, lo + k, none⟩ = some (.int .i64 q) := (hsm2.cell _).trans (HC.out k q hq)
                    have k2 : wr.cell? ⟨lb, lo + j, none⟩ = some (.int .i64 p) := (hsm2.cell _).trans (HC.out j p HPP.out)
                    have HQ := Lib.hid hq
                    clear hq
                    cases g2 with
                    | true =>
                      go_wp2_with fail
                      go_quiet (fail)
                      go_wp2_with fail
                      go_roundw
                      case rel => exact ⟨k + 1, q != p, by omega, rfl, by go_num, Lib.hid (by rw [Gk.succ HPP.out HQ.out, ← hg2.out]; simp), hsm2.trans (Same.drewN rfl)⟩
                      case measure => simp [intOf]; omega
                    | false =>
                      go_wp2_with fail
                      go_quiet (fail)
                      go_wp2_with fail
                      go_roundw
                      case rel => exact ⟨k + 1, false, by omega, rfl, by go_num, Lib.hid (by rw [Gk.succ HPP.out HQ.out, ← hg2.out]; simp), hsm2.trans (Same.drewN rfl)⟩
                      case measure => simp [intOf]; omega
                  · obtain rfl : j = k := by omega
                    go_wp2_with fail
                    go_roundw
                    case rel => exact ⟨j + 1, g2, by omega, rfl, by go_num, Lib.hid (by rw [Gk.step]; exact hg2.out), hsm2⟩
                    case measure => simp [intOf]; omega
          · obtain rfl : j = l.length := by omega
            have hsp := hsr.below (hsm.below _)
            have hbw := hbr.trans (hsm.below _)
            have hlw := hl.below hbw
            have hga := sp_giveall hsp hbw.size (by decide) (by decide) (by omega) _ l hlw (by omega)
            have hN0 : (0 : Int) ≤ N := by omega
            have hwa : IntKind.i64.wrap ((N : Int) + 1) = (N : Int) + 1 := IntWalk.i64_in _ (by omega)
            cases g with
            | true =>
              have hgo : giveOk (ones N) 190 l := (good_iff N hN).1 (hg.out.1 rfl)
              have hga2 : Calls Tryz.prog 16 #[.pointer (some ⟨s, 0, none⟩), i64 1, .slice a l.length cap] wr (SpGave w.heap.size Yr wr s 190 1 (given (ones N) l) (29607 - 195 * N - 1704)) := hga.mono fun e w' h => h.elim (fun h => h.2) (fun h => absurd hgo h.1)
              have HGA := Lib.hid hga2
              have HGO := Lib.hid hgo
              have hcn : ((cntB (given (ones N) l) 190 : Nat) : Int) = (N : Int) + 1 - l.length := by have := given_count N hN hgo; omega
              have HCN := Lib.hid hcn
              clear hga hga2 hgo hcn
              have hwb : IntKind.i64.wrap ((N : Int) + 1 - l.length) = (N : Int) + 1 - l.length := IntWalk.i64_in _ (by omega)
              go_wp2_with ((go_at_call 16; refine HGA.out.mono ?_); rintro e w2 ⟨rfl, Y2, hm2, hs2⟩)
              refine (sp_count hs2 (by decide) (by decide)).mono ?_
              rintro e w3 ⟨rfl, hm3, hs3⟩
              rw [HCN.out]
              have hb3 := (hbw.trans (hm2.below hbw.size)).trans (hm3.below (Nat.le_trans hbw.size hm2.size))
              go_wp2_with fail
              go_loopw [17] (fun t wx => ∃ i : Nat, i ≤ l.length ∧ t = .int .i64 i ∧ Below w.heap.size w wx ∧ ∃ Y, Sp w.heap.size Y wx s 190 1 (given (ones N) l) (29607 - 195 * N - 1704)) (fun t _ => l.length - (intOf t).toNat)
              case atStart => exact ⟨0, Nat.zero_le _, rfl, hb3, Y2, hs3⟩
              case round =>
                obtain ⟨j, hj, rfl, hbx, Yx, hsx⟩ := hrel
                by_cases hlt : j < l.length
                · have hj' : (j : Int) < l.length := by omega
                  obtain ⟨p, hp⟩ : ∃ p, l[j]? = some p := ⟨_, List.getElem?_eq_getElem hlt⟩
                  have hlx := hl.below hbx
                  obtain ⟨A', cap', e, _, hlc, _⟩ := hlx
                  injection e with e1 _ e2
                  subst e1 e2
                  obtain ⟨lb, lo, rfl, hlbB, hlbw, hcell⟩ := hlc (by omega)
                  have hoff := given_off HGO.out (by rw [ones_length N (by omega)]; decide) j p hp
                  obtain ⟨hp1, hp2, _, _⟩ := HGO.out j p hp
                  obtain ⟨k, rfl⟩ : ∃ k : Nat, p = k := ⟨p.toNat, by omega⟩
                  have k0 := hcell j k hp
                  have htk := sp_taken hsx (by decide) k (by omega)
                  rw [Int.toNat_natCast] at hoff
                  rw [hoff] at htk
                  have HTK := Lib.hid htk
                  clear htk hcell hlc hp
                  go_wp2_with ((go_at_call 18; refine HTK.out.mono ?_); rintro e w4 ⟨rfl, hm4, hs4⟩)
                  go_roundw
                  case rel => exact ⟨j + 1, by omega, by go_num, hbx.trans (hm4.below hbx.size), Yx, hs4⟩
                  case measure => simp [intOf]; omega
                · obtain rfl : j = l.length := by omega
                  have haw1 := Lib.hid (HAW.out wr hbx)
                  clear HAW
                  go_wp2_with ((go_at_call 14; refine haw1.out.mono ?_); rintro e w4 ⟨rfl, hb4⟩)
                  go_ret
                  exact ⟨rfl, hb4⟩
            | false =>
              have hgo : ¬ giveOk (ones N) 190 l := fun h => absurd (hg.out.2 ((good_iff N hN).2 h)) (by decide)
              have hpos : (0 : Int) < l.length := by
                rcases Nat.eq_zero_or_pos l.length with h | h
                · exact absurd (fun j p hp => by rw [List.length_eq_zero_iff.1 h] at hp; cases hp) hgo
                · omega
              have hga2 : Calls Tryz.prog 16 #[.pointer (some ⟨s, 0, none⟩), i64 1, .slice a l.length cap] wr (SpAns w.heap.size Yr wr s 190 1 (ones N) (29607 - 195 * N) (i64 1)) := hga.mono fun e w' h => h.elim (fun h => absurd h.1 hgo) (fun h => h.2)
              have HGA := Lib.hid hga2
              have hcn : ((cntB (ones N) 190 : Nat) : Int) = (N : Int) + 1 := by rw [ones_cnt N 190 (by omega) (by decide), if_neg (by omega)]; omega
              have HCN := Lib.hid hcn
              clear hga hga2 hgo hcn
              go_wp2_with ((go_at_call 16; refine HGA.out.mono ?_); rintro e w2 ⟨rfl, hm2, hs2⟩)
              refine (sp_count hs2 (by decide) (by decide)).mono ?_
              rintro e w3 ⟨rfl, hm3, hs3⟩
              rw [HCN.out]
              have hb3 := (hbw.trans (hm2.below hbw.size)).trans (hm3.below (Nat.le_trans hbw.size hm2.size))
              have haw1 := Lib.hid (HAW.out w3 hb3)
              clear HAW
              go_wp2_with fail
              refine wp_loop_rounds 1 ?_
              rw [rounds_succ]
              go_wp2_with ((go_at_call 14; refine haw1.out.mono ?_); rintro e w4 ⟨rfl, hb4⟩)
              go_ret
              exact ⟨rfl, hb4⟩
end Go.Proofs.YtllhgbanbelmaaaGreat

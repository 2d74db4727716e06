/- space: Maps, Taken, Take, Count, Give, Format where one page holds the map. -/
import Derived.Test.YtllhgbanbelmaaaGreatSto
namespace Go.Proofs.YtllhgbanbelmaaaGreat
open Go.RowKit
variable {B : Nat} {T : List Nat} {D R : Bool} {Y Y' : Sys} {w w' : World} {s : Nat} {σ : StS}

/-- what a write that went well makes of the store -/
def Wr (σ : StS) (i : Nat) (x : TxS) (n off : Nat) (bs : List UInt8) (σ' : StS) : Prop :=
  (bs = part (σ.content n) off bs.length ∧ σ' = σ) ∨ ∃ lsn l vb, σ' = wroteS σ i x n off bs lsn l vb
def WriteOut (B : Nat) (Y : Sys) (w : World) (s : Nat) (σ : StS) (i : Nat) (x : TxS) (n off : Nat) (bs : List UInt8) (e : Ending) (w' : World) : Prop :=
  e = .returned (i64 0) ∧ ∃ Y' σ', Mod B StT false true Y Y' w w' ∧ StoreAt B Y' w' s σ' ∧ Wr σ i x n off bs σ'
theorem write50 (h : StoreAt B Y w s σ) (i : Nat) (x : TxS) (hx : σ.ts[i]? = some x) (n off : Nat) (hn : n < σ.np) (hS : n ∈ σ.S) (bs : List UInt8) (hl : off + bs.length ≤ 504) (h0 : 0 < bs.length) (v : Value) (hv : Byts B Y w v bs)
    (hbz : busyB σ.ts x.id n off bs.length = false) (hroom : (192 + 3 * bs.length : Nat) ≤ σ.free - kept σ.ts - 2048) :
    Calls Tryz.prog 50 #[.pointer (some ⟨s, 0, none⟩), i64 x.id, i64 n, i64 off, v] w (WriteOut B Y w s σ i x n off bs) := by
  by_cases heq : bs = part (σ.content n) off bs.length
  · refine (write50_same h i x hx n off hn hS bs hl h0 v hv hbz heq).mono ?_
    rintro e w' ⟨rfl, wm, hm, hs, hb⟩
    exact ⟨rfl, Y, σ, (hm.below_ hb).more StT false true (by decide), hs.below hb, .inl ⟨heq, rfl⟩⟩
  · refine (write50_do h i x hx n off hn hS bs hl h0 v hv hbz hroom heq).mono ?_
    rintro e w' ⟨rfl, Y', lsn, l, vb, hm, hs⟩
    exact ⟨rfl, Y', _, hm, hs, .inr ⟨lsn, l, vb, rfl⟩⟩
theorem Sl.lit {t : Nat} {b : Nat} {cs : Array Value} (h : Blk w b t cs) (hb : w'.heap.size ≤ b) (hd : Y.dl < w'.heap.size) (hr : ∀ g, Y.rb = some g → g < w'.heap.size) (n : Nat) (hn : cs.size = n) (hm : n ≤ maxLen) : Sl B Y t w (.slice (some ⟨b, 0, none⟩) n n) cs.toList := by
  subst hn
  refine ⟨_, cs.size, by simp, by simp, hm, fun _ => ⟨b, 0, rfl, ⟨h.lt, fun _ => ⟨by omega, fun e => ?_, h.ty⟩⟩, fun i u hu => ?_⟩⟩
  · have := hr b e.symm
    omega
  · rw [Nat.zero_add, h.cell]
    simpa using hu

set_option maxHeartbeats 1000000 in
theorem maps48 (n : Nat) (h1 : 1 ≤ n) (h2 : n ≤ 8192) (w : World) : Calls Tryz.prog 48 #[i64 n] w fun e w' => e = .returned (i64 (((n - 1) / 504 + 1 : Nat) : Int)) ∧ w = w' := by
  have a1 : (1 : Int) ≤ n := by omega
  have a2 : (n : Int) ≤ 8192 := by omega
  have e1 : (((n - 1) / 504 + 1 : Nat) : Int) = ((n : Int) - 1) / 504 + 1 := by omega
  rw [e1]
  go_enter Tryz.func48, Tryz.ntmps48
  go_wp2_with fail
  go_ret
  exact ⟨rfl, rfl⟩
/-- the store's number of map pages is one -/
theorem maps1 {np : Nat} (h1 : 1 ≤ np) (h2 : np ≤ 504) (w : World) : Calls Tryz.prog 48 #[i64 np] w fun e w' => e = .returned (i64 1) ∧ w = w' := by
  have := maps48 np h1 (by omega) w
  rwa [show (np - 1) / 504 + 1 = 1 by omega] at this

set_option maxHeartbeats 1000000 in
theorem taken18_out (h : StoreAt B Y w s σ) (p : Int) (hp : p < 0 ∨ (σ.np : Int) ≤ p) :
    Calls Tryz.prog 18 #[.pointer (some ⟨s, 0, none⟩), i64 p] w fun e w' => e = .returned (.tuple #[.bool false, i64 1]) ∧ w = w' := by
  have hpg := pages49s h
  have HP := Lib.hid hpg
  clear hpg
  by_cases h0 : p < 0
  · have h0' : decide (p < 0) = true := by simpa using h0
    clear hp
    go_enter Tryz.func18, Tryz.ntmps18
    go_wp2_with ((go_at_call 49; refine HP.out.mono ?_); rintro e w' ⟨rfl, rfl⟩)
    go_ret2
    exact ⟨rfl, rfl⟩
  · have h1 : (σ.np : Int) ≤ p := by omega
    have h0' : decide (p < 0) = false := by simpa using h0
    clear hp
    go_enter Tryz.func18, Tryz.ntmps18
    go_wp2_with ((go_at_call 49; refine HP.out.mono ?_); rintro e w' ⟨rfl, rfl⟩)
    go_ret2
    exact ⟨rfl, rfl⟩

/-- is a byte of the map set? -/
def isSet (l : List UInt8) (p : Nat) : Bool := match l[p]? with | some b => b != 0 | none => false
def TakenOut (B : Nat) (Y : Sys) (w : World) (s : Nat) (σ : StS) (p : Nat) (e : Ending) (w' : World) : Prop :=
  e = .returned (.tuple #[.bool (isSet (σ.content 0) p), i64 0]) ∧ Mod B StT false false Y Y w w' ∧ StoreAt B Y w' s σ
set_option maxRecDepth 100000 in
set_option maxHeartbeats 1000000 in
theorem taken18 (h : StoreAt B Y w s σ) (hn1 : σ.np ≤ 504) (hS : 0 ∈ σ.S) (p : Nat) (hp : p < σ.np) :
    Calls Tryz.prog 18 #[.pointer (some ⟨s, 0, none⟩), i64 p] w (TakenOut B Y w s σ p) := by
  have hpg := pages49s h
  have hrd := read34 h 0 p 1 (by omega) hS (by omega)
  have hlen := h.len (n := 0) (by omega)
  have HP := Lib.hid hpg
  have HR := Lib.hid hrd
  clear hpg hrd
  have h1 : (p : Int) < σ.np := by omega
  have h2 : (p : Int) < 504 := by omega
  have h3 : (0 : Int) ≤ p := by omega
  have h4 : ¬ ((σ.np : Int) ≤ p) := by omega
  have h5 : (p : Int) / 504 = ((0 : Nat) : Int) := by omega
  have h6 : (p : Int) % 504 = (p : Int) := by omega
  obtain ⟨b, hb⟩ : ∃ b, (σ.content 0)[p]? = some b := ⟨_, List.getElem?_eq_getElem (by omega)⟩
  have hset : isSet (σ.content 0) p = ((b.toNat : Int) != 0) := by
    simp only [isSet, hb]
    by_cases e : b = 0
    · subst e; rfl
    · have : (b.toNat : Int) ≠ 0 := by
        intro e2
        apply e
        have : b.toNat = 0 := by omega
        exact UInt8.toNat_inj.1 (by rw [this]; rfl)
      rw [show (b != 0) = true by simpa using e]
      simpa using this
  have HSET := Lib.hid hset
  have HB := Lib.hid hb
  clear hset hb
  go_enter Tryz.func18, Tryz.ntmps18
  go_wp2_with ((go_at_call 49; refine HP.out.mono ?_); rintro e w' ⟨rfl, rfl⟩)
  refine HR.out.mono ?_
  rintro e w1 ⟨v, wm, rfl, hm, hs, hbm, hown⟩
  obtain ⟨g, c, rfl, _, _⟩ := hown.form (by decide)
  have k0 : w1.cell? ⟨g, 0, none⟩ = some (.int .u8 b.toNat) := by
    have := hown.cells (g := g) rfl 0 (bv b) (by
      rw [List.getElem?_map, List.getElem?_take, if_pos (by omega), List.getElem?_drop, Nat.add_zero, HB.out]
      rfl)
    rwa [addr_add] at this
  go_wp2_with fail
  go_ret2
  refine ⟨?_, hm.below_ hbm, hs.below hbm⟩
  rw [HSET.out]
  rfl

theorem isSet_iff {l : List UInt8} {p : Nat} {b : UInt8} (hb : l[p]? = some b) : isSet l p = ((b.toNat : Int) != 0) := by
  simp only [isSet, hb]
  by_cases e : b = 0
  · subst e; rfl
  · have : (b.toNat : Int) ≠ 0 := by
      intro e2
      apply e
      have : b.toNat = 0 := by omega
      exact UInt8.toNat_inj.1 (by rw [this]; rfl)
    rw [show (b != 0) = true by simpa using e]
    simpa using this
def TookOut (B : Nat) (Y : Sys) (w : World) (s : Nat) (σ : StS) (ix : Nat) (x : TxS) (i : Nat) (e : Ending) (w' : World) : Prop :=
  e = .returned (.tuple #[i64 i, i64 0]) ∧ ∃ Y' σ', Mod B StT false true Y Y' w w' ∧ StoreAt B Y' w' s σ' ∧ Wr σ ix x 0 i [1] σ'
set_option maxRecDepth 100000 in
set_option maxHeartbeats 4000000 in
theorem take15 (h : StoreAt B Y w s σ) (ix : Nat) (x : TxS) (hx : σ.ts[ix]? = some x) (hn0 : 1 ≤ σ.np) (hn1 : σ.np < 504) (hS : 0 ∈ σ.S) (i : Nat) (hi : i < σ.np) (hz : isSet (σ.content 0) i = false) (hnb : busyB σ.ts x.id (0 : Nat) i 1 = false)
    (hbef : ∀ j, j < i → isSet (σ.content 0) j = true ∨ busyB σ.ts x.id (0 : Nat) j 1 = true) (hroom : (195 : Nat) ≤ σ.free - kept σ.ts - 2048) :
    Calls Tryz.prog 15 #[.pointer (some ⟨s, 0, none⟩), i64 x.id] w (TookOut B Y w s σ ix x i) := by
  have hpg := pages49s h
  have hrd := read34 h 0 0 σ.np (by omega) hS (by omega)
  have hlen := h.len (n := 0) (by omega)
  have hmp := fun w => maps1 hn0 (Nat.le_of_lt hn1) w
  have HP := Lib.hid hpg
  have HR := Lib.hid hrd
  have HM := Lib.hid hmp
  have HZ := Lib.hid hz
  have HNB := Lib.hid hnb
  have HBEF := Lib.hid hbef
  clear hpg hrd hmp hz hnb hbef
  have h1 : (σ.np : Int) < 504 := by omega
  have h2 : (1 : Int) ≤ σ.np := by omega
  go_enter Tryz.func15, Tryz.ntmps15
  go_wp2_with (first | ((go_at_call 49; refine HP.out.mono ?_); rintro e w' ⟨rfl, rfl⟩) | ((go_at_call 48; refine (HM.out _).mono ?_); rintro e w' ⟨rfl, rfl⟩))
  go_loopw [15] (fun t wr => t = .int .i64 0 ∧ wr = w) (fun _ _ => 0)
  case atStart => exact ⟨rfl, rfl⟩
  case round =>
    obtain ⟨rfl, rfl⟩ := hrel
    obtain ⟨wo, rfl⟩ : ∃ wo : World, wo = wr := ⟨_, rfl⟩
    go_wp2_with (first | ((go_at_call 49; refine HP.out.mono ?_); rintro e w' ⟨rfl, rfl⟩))
    refine HR.out.mono ?_
    rintro e w1 ⟨v, wm, rfl, hm, hs, hbm, hown⟩
    obtain ⟨g, c, rfl, _, hgl⟩ := hown.form (by omega)
    have hcell : ∀ (j : Nat) (b : UInt8), j < σ.np → (σ.content 0)[j]? = some b → w1.cell? ⟨g, j, none⟩ = some (.int .u8 b.toNat) := by
      intro j b hj hb
      have := hown.cells (g := g) rfl j (bv b) (by
        rw [List.getElem?_map, List.getElem?_take, if_pos hj, List.getElem?_drop, Nat.zero_add, hb]
        rfl)
      rwa [addr_add, Nat.zero_add] at this
    have HC := Lib.hid hcell
    clear hcell
    have hi' : (i : Int) < σ.np := by omega
    go_wp2_with fail
    go_loopw [35] (fun t wr => ∃ j : Nat, j ≤ i ∧ t = .int .i64 j ∧ Below w1.heap.size w1 wr) (fun t _ => i - (intOf t).toNat)
    case atStart => exact ⟨0, Nat.zero_le _, rfl, Below.refl _ _⟩
    case round =>
      obtain ⟨j, hj, rfl, hbw⟩ := hrel
      have hj' : (j : Int) < σ.np := by omega
      obtain ⟨b, hb⟩ : ∃ b, (σ.content 0)[j]? = some b := ⟨_, List.getElem?_eq_getElem (by omega)⟩
      have k0 : wr.cell? ⟨g, j, none⟩ = some (.int .u8 b.toNat) := (hbw.cell (p := ⟨g, j, none⟩) hgl).trans (HC.out j b (by omega) hb)
      have hse := isSet_iff hb
      have HB := Lib.hid hb
      clear hb
      by_cases hset : isSet (σ.content 0) j = true
      · have hne : ((b.toNat : Int) != 0) = true := by rw [← hse]; exact hset
        have hne2 : ((b.toNat : Int) == 0) = false := by simpa using hne
        have hji : j ≠ i := by rintro rfl; rw [HZ.out] at hset; cases hset
        clear hse hset
        go_wp2_with fail
        go_roundw
        case rel => exact ⟨j + 1, by omega, by go_num, hbw⟩
        case measure => simp [intOf]; omega
      · have hset' : isSet (σ.content 0) j = false := by simpa using hset
        have hne : ((b.toNat : Int) != 0) = false := by rw [← hse]; exact hset'
        have hne2 : ((b.toNat : Int) == 0) = true := by simpa using hne
        have hsr := (hs.below hbm).below hbw
        have hbn : Blk (wr.alloc (.cells #[.int .u8 1] 5)) wr.heap.size 5 #[.int .u8 1] := Blk.new _ _ _
        have hva : Byts B Y (wr.alloc (.cells #[.int .u8 1] 5)) (.slice (some ⟨wr.heap.size, 0, none⟩) 1 1) [1] := Sl.lit (w' := wr) hbn (Nat.le_refl _) hsr.dll hsr.rbl 1 rfl (by decide)
        have hsa := hsr.below ((Below.refl _ _).alloc (Nat.le_refl _) (.cells #[.int .u8 1] 5))
        clear hse
        by_cases hji : j = i
        · subst hji
          have hw := write50 hsa ix x hx 0 j hn0 hS [1] (by simp; omega) (by decide) _ hva HNB.out hroom
          have HW := Lib.hid hw
          clear hw
          go_wp2_with ((go_at_call 50; refine HW.out.mono ?_); rintro e w3 ⟨rfl, Y3, σ3, hm3, hs3, hwr3⟩)
          go_ret2
          exact ⟨rfl, Y3, σ3, ((((hm.below_ hbm).below_ hbw).alloc (.cells #[.int .u8 1] 5)).more StT false true (by decide)).trans hm3, hs3, hwr3⟩
        · have hbz : busyB σ.ts x.id (0 : Nat) j 1 = true := (HBEF.out j (by omega)).resolve_left hset
          have hw := write50_busy hsa ix x hx 0 j hn0 hS [1] (by simp; omega) (by decide) _ hva hbz
          have HW := Lib.hid hw
          clear hw
          go_wp2_with ((go_at_call 50; refine HW.out.mono ?_); rintro e w3 ⟨rfl, hb3⟩)
          go_roundw
          case rel => exact ⟨j + 1, by omega, by go_num, (hbw.alloc hbw.size _).trans (hb3.mono (by have := hbw.size; simp; omega))⟩
          case measure => simp [intOf]; omega

/-- how many bytes of the map are set -/
def cntB (l : List UInt8) (n : Nat) : Nat := (l.take n).countP (· != 0)
theorem cntB_succ {l : List UInt8} {n : Nat} {b : UInt8} (hb : l[n]? = some b) : cntB l (n + 1) = cntB l n + if b != 0 then 1 else 0 := by
  unfold cntB
  obtain ⟨hl, rfl⟩ := List.getElem?_eq_some_iff.1 hb
  rw [List.take_succ_eq_append_getElem hl, List.countP_append, List.countP_singleton]
theorem cntB_le (l : List UInt8) (n : Nat) : cntB l n ≤ n := by
  unfold cntB
  exact Nat.le_trans List.countP_le_length (by rw [List.length_take]; omega)
def CountOut (B : Nat) (Y : Sys) (w : World) (s : Nat) (σ : StS) (e : Ending) (w' : World) : Prop :=
  e = .returned (.tuple #[i64 (cntB (σ.content 0) σ.np), i64 0]) ∧ Mod B StT false false Y Y w w' ∧ StoreAt B Y w' s σ
set_option maxRecDepth 100000 in
set_option maxHeartbeats 4000000 in
theorem count17 (h : StoreAt B Y w s σ) (hn0 : 1 ≤ σ.np) (hn1 : σ.np < 504) (hS : 0 ∈ σ.S) :
    Calls Tryz.prog 17 #[.pointer (some ⟨s, 0, none⟩)] w (CountOut B Y w s σ) := by
  have hpg := pages49s h
  have hrd := read34 h 0 0 σ.np (by omega) hS (by omega)
  have hlen := h.len (n := 0) (by omega)
  have hmp := fun w => maps1 hn0 (Nat.le_of_lt hn1) w
  have HP := Lib.hid hpg
  have HR := Lib.hid hrd
  have HM := Lib.hid hmp
  clear hpg hrd hmp
  have h1 : (σ.np : Int) < 504 := by omega
  have h2 : (1 : Int) ≤ σ.np := by omega
  go_enter Tryz.func17, Tryz.ntmps17
  go_wp2_with (first | ((go_at_call 49; refine HP.out.mono ?_); rintro e w' ⟨rfl, rfl⟩) | ((go_at_call 48; refine (HM.out _).mono ?_); rintro e w' ⟨rfl, rfl⟩))
  go_loopw [13, 4] (fun t u wr => (t = .int .i64 0 ∧ u = .int .i64 0 ∧ wr = w) ∨ (t = .int .i64 1 ∧ u = .int .i64 (cntB (σ.content 0) σ.np) ∧ Mod B StT false false Y Y w wr ∧ StoreAt B Y wr s σ)) (fun t _ _ => 1 - (intOf t).toNat)
  case atStart => exact .inl ⟨rfl, rfl, rfl⟩
  case round =>
    rcases hrel with ⟨rfl, rfl, hww⟩ | ⟨rfl, rfl, hmw, hsw⟩
    · have hww := hww.symm
      subst hww
      go_wp2_with (first | ((go_at_call 49; refine HP.out.mono ?_); rintro e w' ⟨rfl, rfl⟩))
      refine HR.out.mono ?_
      rintro e w1 ⟨v, wm, rfl, hm, hs, hbm, hown⟩
      obtain ⟨g, c, rfl, _, hgl⟩ := hown.form (by omega)
      have hcell : ∀ (j : Nat) (b : UInt8), j < σ.np → (σ.content 0)[j]? = some b → w1.cell? ⟨g, j, none⟩ = some (.int .u8 b.toNat) := by
        intro j b hj hb
        have := hown.cells (g := g) rfl j (bv b) (by
          rw [List.getElem?_map, List.getElem?_take, if_pos hj, List.getElem?_drop, Nat.zero_add, hb]
          rfl)
        rwa [addr_add, Nat.zero_add] at this
      have HC := Lib.hid hcell
      clear hcell
      go_wp2_with fail
      go_loopw [33, 4] (fun t u wr => ∃ j : Nat, j ≤ σ.np ∧ t = .int .i64 j ∧ u = .int .i64 (cntB (σ.content 0) j) ∧ wr = w1) (fun t _ _ => σ.np - (intOf t).toNat)
      case atStart => exact ⟨0, Nat.zero_le _, rfl, rfl, rfl⟩
      case round =>
        obtain ⟨j, hj, rfl, rfl, rfl⟩ := hrel
        have hcl := cntB_le (σ.content 0) j
        have hcl' : ((cntB (σ.content 0) j : Nat) : Int) ≤ 504 := by omega
        have hcl0 : (0 : Int) ≤ ((cntB (σ.content 0) j : Nat) : Int) := by omega
        by_cases hlt : j < σ.np
        · have hj' : (j : Int) < σ.np := by omega
          obtain ⟨b, hb⟩ : ∃ b, (σ.content 0)[j]? = some b := ⟨_, List.getElem?_eq_getElem (by omega)⟩
          have k0 := HC.out j b hlt hb
          have hcs := cntB_succ hb
          have hse := isSet_iff hb
          have hse2 : isSet (σ.content 0) j = (b != 0) := by simp only [isSet, hb]
          rw [← hse2] at hcs
          have HCS := Lib.hid hcs
          clear hb hcs
          by_cases hset : isSet (σ.content 0) j = true
          · have hne : ((b.toNat : Int) != 0) = true := by rw [← hse]; exact hset
            have hne2 : ((b.toNat : Int) == 0) = false := by simpa using hne
            have HSE := Lib.hid hset
            clear hse hse2 hset hcl
            generalize hK : cntB (σ.content 0) j = K at *
            have HK := Lib.hid hK
            clear hK
            go_wp2_with fail
            go_roundw
            case rel => exact ⟨j + 1, by omega, by go_num, by rw [HCS.out, HSE.out, if_pos rfl]; go_num, trivial⟩
            case measure => simp [intOf]; omega
          · have hset' : isSet (σ.content 0) j = false := by simpa using hset
            have hne : ((b.toNat : Int) != 0) = false := by rw [← hse]; exact hset'
            have hne2 : ((b.toNat : Int) == 0) = true := by simpa using hne
            have HSE := Lib.hid hset'
            clear hse hse2 hset hset' hcl
            generalize hK : cntB (σ.content 0) j = K at *
            have HK := Lib.hid hK
            clear hK
            go_wp2_with fail
            go_roundw
            case rel => exact ⟨j + 1, by omega, by go_num, by rw [HCS.out, HSE.out]; rfl, trivial⟩
            case measure => simp [intOf]; omega
        · have hje : j = σ.np := by omega
          subst hje
          clear hcl
          generalize hK : cntB (σ.content 0) σ.np = K at *
          have HK := Lib.hid hK
          clear hK
          go_wp2_with fail
          go_roundw
          case rel => exact .inr ⟨by first | rfl | go_num, by rw [HK.out], hm.below_ hbm, hs.below hbm⟩
          case measure => simp [intOf]
    · have hcl := cntB_le (σ.content 0) σ.np
      have hcl' : ((cntB (σ.content 0) σ.np : Nat) : Int) ≤ 504 := by omega
      obtain ⟨K, hK⟩ : ∃ K, K = cntB (σ.content 0) σ.np := ⟨_, rfl⟩
      rw [← hK] at hcl'
      have HK := Lib.hid hK
      rw [← hK]
      clear hK hcl
      go_wp2_with fail
      go_ret2
      exact ⟨by rw [← HK.out]; rfl, hmw, hsw⟩
end Go.Proofs.YtllhgbanbelmaaaGreat

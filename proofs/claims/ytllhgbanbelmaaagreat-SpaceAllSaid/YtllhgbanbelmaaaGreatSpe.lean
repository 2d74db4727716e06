/- space: GiveAll under one session. -/
import Derived.Test.YtllhgbanbelmaaaGreatSpd
import Derived.Maps.OwnOps
import Derived.Maps.Views
namespace Go.Proofs.YtllhgbanbelmaaaGreat
open Go.RowKit Go.Maps
variable {B : Nat} {T : List Nat} {D R : Bool} {Y Y' : Sys} {w w' : World} {s np : Nat} {id : Int} {c : List UInt8} {a : Int}

theorem law3 : Keyed Tryz.prog 3 := int_keyed Tryz.underlying3
theorem zero3 (w : World) : (zeroValue 3).run Tryz.prog w = .ok (.int .i64 0) w := by kernel_rfl
/-- a list of integers as it came in: in memory below B -/
def Lst (B : Nat) (w : World) (v : Value) (l : List Int) : Prop :=
  ∃ A cap, v = .slice A l.length cap ∧ (l.length : Int) ≤ 9223372036854775807 ∧ (0 < l.length → ∃ b off, A = some ⟨b, off, none⟩ ∧ b < B ∧ b < w.heap.size ∧ ∀ (j : Nat) (z : Int), l[j]? = some z → w.cell? ⟨b, off + j, none⟩ = some (i64 z)) ∧ ∀ z, z ∈ l → (Lit.int .i64 z).wf = true
theorem Lst.mod {v : Value} {l : List Int} (h : Lst B w v l) (m : Mod B T D R Y Y' w w') : Lst B w' v l := by
  obtain ⟨A, cap, e, h1, h2, h3⟩ := h
  refine ⟨A, cap, e, h1, fun h0 => ?_, h3⟩
  obtain ⟨b, off, e2, hb, hbw, hc⟩ := h2 h0
  exact ⟨b, off, e2, hb, Nat.lt_of_lt_of_le hbw m.size, fun j z hz => (World.cell?_of_block (a := ⟨b, off + j, none⟩) (m.blk b hbw (fun h => by omega))).trans (hc j z hz)⟩
/-- may l be given back at place j? -/
def okAt (c : List UInt8) (np : Nat) (l : List Int) (j : Nat) (p : Int) : Prop := 1 ≤ p ∧ p < np ∧ isSet c p.toNat = true ∧ p ∉ l.take j
def giveOk (c : List UInt8) (np : Nat) (l : List Int) : Prop := ∀ (j : Nat) (p : Int), l[j]? = some p → okAt c np l j p
def given (c : List UInt8) (l : List Int) : List UInt8 := l.foldl (fun c p => c.set p.toNat 0) c
theorem given_take (c : List UInt8) (l : List Int) (j : Nat) (p : Int) (h : l[j]? = some p) : given c (l.take (j + 1)) = (given c (l.take j)).set p.toNat 0 := by
  obtain ⟨hl, rfl⟩ := List.getElem?_eq_some_iff.1 h
  unfold given
  rw [List.take_succ_eq_append_getElem hl, List.foldl_append]
  rfl
theorem given_length (c : List UInt8) (l : List Int) : (given c l).length = c.length := by
  unfold given
  induction l generalizing c with
  | nil => rfl
  | cons p l ih => rw [List.foldl_cons, ih, List.length_set]
theorem own_store {base n g cap : Nat} {xs : List Value} (h : w.ownsRow base 5 1 (.slice (some ⟨g, 0, none⟩) n cap) n xs) (i : Nat) (hi : i < n) (u : Value) : (w.setCell ⟨g, i, none⟩ u).ownsRow base 5 1 (.slice (some ⟨g, 0, none⟩) n cap) n (xs.set i u) := by
  refine ⟨by rw [List.length_set]; exact h.1, ?_⟩
  rcases h.2 with ⟨e, _⟩ | ⟨g', cap', cur, e, hb, hw, h1, h2, h3, h4⟩
  · cases e
  · injection e with e1 e2 e3
    injection e1 with e1
    injection e1 with e1 _ _
    subst e1 e3
    refine .inr ⟨g, cap, cur.setIfInBounds i u, rfl, hb, Blk.set_ (t := 5) (cs := cur) hw i u, h1, h2, by simpa using h3, ?_⟩
    rw [← h4, Array.toList_setIfInBounds, List.take_set]
def SpRead (B : Nat) (Y : Sys) (w : World) (s np : Nat) (id : Int) (c : List UInt8) (a : Int) (e : Ending) (w' : World) : Prop :=
  ∃ v wm, e = .returned (.tuple #[v, i64 0]) ∧ Mod B StT false false Y Y w wm ∧ Sp B Y wm s np id c a ∧ Below wm.heap.size wm w' ∧ w'.ownsRow wm.heap.size 5 1 v 504 (c.map bv)
theorem sp_read (h : Sp B Y w s np id c a) (h0 : 1 ≤ np) : Calls Tryz.prog 34 #[.pointer (some ⟨s, 0, none⟩), i64 0, i64 0, i64 504] w (SpRead B Y w s np id c a) := by
  have hl := h.len h0
  obtain ⟨σ, x, h, rfl, hS, hts, rfl, rfl, hav⟩ := h
  refine (read34 h 0 0 504 (by omega) hS (by omega)).mono ?_
  rintro e w1 ⟨v, wm, rfl, hm, hs, hbm, hown⟩
  rw [List.drop_zero, List.take_of_length_le (by omega)] at hown
  exact ⟨v, wm, rfl, hm, ⟨σ, x, hs, rfl, hS, hts, rfl, rfl, hav⟩, hbm, hown⟩
def GaveOut (B : Nat) (Y : Sys) (w : World) (s np : Nat) (id : Int) (c : List UInt8) (a : Int) (l : List Int) (e : Ending) (w' : World) : Prop :=
  (giveOk c np l ∧ SpGave B Y w s np id (given c l) (a - 1704) e w') ∨ (¬ giveOk c np l ∧ SpAns B Y w s np id c a (i64 1) e w')
theorem own_map_mod {b n : Nat} {Dm : DataW Unit} (h : w.ownsMap Tryz.prog 3 (plainElem Tryz.prog 3) b n Dm) (m : Mod B StT false false Y Y w w') : w'.ownsMap Tryz.prog 3 (plainElem Tryz.prog 3) b n Dm := by
  have hlt := h.lt
  obtain ⟨es, clock, hb, r⟩ := h
  refine ⟨es, clock, (m.blk b hlt fun _ => ⟨by simp, by simp, fun t ht => ?_⟩).trans hb, r⟩
  simp [ty, hb] at ht
  subst ht
  decide

theorem lit_inj {x y : Int} (h : (DataW.lit (.int .i64 x) : DataW Unit) = .lit (.int .i64 y)) : x = y := by
  injection h with h
  injection h
theorem lput_same {Dm : DataW Unit} (h : IsMap Dm) (k v : Int) : (Dm.put (.int .i64 k) (.lit (.int .i64 v))).atKey (.int .i64 k) (.lit (.int .i64 0)) = .lit (.int .i64 v) := atKey_put_same (k := .int .i64 k) h (show WideAt.IsKeyLit (.int .i64 k) from trivial) _ _
theorem map_ty {b n : Nat} {Dm : DataW Unit} (h : w.ownsMap Tryz.prog 3 (plainElem Tryz.prog 3) b n Dm) : ty w b = some 1000000 := by
  obtain ⟨es, clock, hb, r⟩ := h
  simp [ty, hb]
theorem take_snoc {l : List Int} {j : Nat} {p : Int} (h : l[j]? = some p) : l.take (j + 1) = l.take j ++ [p] := by
  obtain ⟨hl, rfl⟩ := List.getElem?_eq_some_iff.1 h
  exact List.take_succ_eq_append_getElem hl
theorem Sp.dl (h : Sp B Y w s np id c a) : Y.dl < w.heap.size := let ⟨_, _, h, _⟩ := h; h.dll
theorem Sp.rbl (h : Sp B Y w s np id c a) : ∀ k, Y.rb = some k → k < w.heap.size := by
  obtain ⟨σ, x, ⟨η, h⟩, _⟩ := h
  obtain ⟨nd, k, ffr, view, fv, fr, hc⟩ := h.core
  intro g hg
  obtain ⟨cs, hb⟩ := hc.ring.rbBlk g hg
  exact hb.lt
theorem Sp.modR (h : Sp B Y w s np id c a) (m : Mod B T false false Y Y w w') (hT : ∀ t, t ∈ T → t ∉ [5, 48, 250] ++ StT) : Sp B Y w' s np id c a := let ⟨σ, x, h, r⟩ := h; ⟨σ, x, h.modR m hT, r⟩

set_option maxRecDepth 100000 in
set_option maxHeartbeats 8000000 in
theorem sp_giveall (h : Sp B Y w s np id c a) (hB : B ≤ w.heap.size) (h0 : 1 ≤ np) (h1 : np < 504) (ha : 3752 ≤ a) (v : Value) (l : List Int) (hl : Lst B w v l) (hll : l.length ≤ 1048576) :
    Calls Tryz.prog 16 #[.pointer (some ⟨s, 0, none⟩), i64 id, v] w (GaveOut B Y w s np id c a l) := by
  have hmm := @run_makeMap Tryz.prog
  have hmp := fun w => maps1 h0 (Nat.le_of_lt h1) w
  have hpg : Calls Tryz.prog 49 #[.pointer (some ⟨s, 0, none⟩)] w fun e w' => e = .returned (i64 np) ∧ w = w' := by
    obtain ⟨σ, x, h, rfl, _⟩ := h
    exact pages49s h
  have HP := Lib.hid hpg
  have HM := Lib.hid hmp
  clear hpg hmp
  have hl' := hl
  obtain ⟨A, cap, rfl, hlm, hlc, hwf⟩ := hl'
  have HWF := Lib.hid hwf
  clear hlc hwf
  have h3 : (np : Int) < 504 := by omega
  go_enter Tryz.func16, Tryz.ntmps16
  go_wp2_with (first | ((go_at_call 49; refine HP.out.mono ?_); rintro e w' ⟨rfl, rfl⟩) | ((go_at_call 48; refine (HM.out _).mono ?_); rintro e w' ⟨rfl, rfl⟩))
  have hown0 := World.ownsMap_made (H := Unit) w Tryz.prog 3 (plainElem Tryz.prog 3)
  have hbe0 : Below w.heap.size w (w.alloc (.map #[] 0)) := (Below.refl _ _).alloc (Nat.le_refl _) _
  go_loopw [25] (fun t wr => ∃ j : Nat, j ≤ l.length ∧ t = .int .i64 j ∧ Mod B StT false false Y Y w wr ∧ Sp B Y wr s np id c a ∧ Hid (∀ (i : Nat) (p : Int), i < j → l[i]? = some p → okAt c np l i p) ∧
      ∃ Dm : DataW Unit, wr.ownsMap Tryz.prog 3 (plainElem Tryz.prog 3) w.heap.size j Dm ∧ IsMap Dm ∧ Hid (∀ q : Int, Dm.atKey (.int .i64 q) (.lit (.int .i64 0)) = .lit (.int .i64 (if q ∈ l.take j then 1 else 0)))) (fun t _ => l.length - (intOf t).toNat)
  case atStart => exact ⟨0, Nat.zero_le _, rfl, mod_below _ _ _ _ _ hbe0, h.below hbe0, Lib.hid (fun i p hi => absurd hi (Nat.not_lt_zero _)), _, hown0, ⟨_, rfl⟩, Lib.hid (fun q => by simp; rfl)⟩
  case round =>
    obtain ⟨j, hj, rfl, hmw, hsw, hok, Dm, hmap, hism, hat⟩ := hrel
    by_cases hlt : j < l.length
    · have hj' : (j : Int) < l.length := by omega
      obtain ⟨p, hp⟩ : ∃ p, l[j]? = some p := ⟨_, List.getElem?_eq_getElem hlt⟩
      obtain ⟨A', cap', e, _, hlc, _⟩ := hl.mod hmw
      injection e with e1 _ e2
      subst e1 e2
      obtain ⟨lb, lo, rfl, hlbB, hlbw, hcell⟩ := hlc (by omega)
      have k0 := hcell j p hp
      have hpwf := HWF.out p (List.mem_of_getElem? hp)
      have HPP := Lib.hid hp
      clear hcell hp hlc
      by_cases hout : p < 0 ∨ (np : Int) ≤ p
      · have htk := sp_taken_out hsw p hout
        have HTK := Lib.hid htk
        clear htk
        go_wp2_with ((go_at_call 18; refine HTK.out.mono ?_); rintro e w1 ⟨rfl, rfl⟩)
        go_ret
        exact .inr ⟨fun hg => by have := hg j p HPP.out; rcases hout with h | h <;> (have h1 := this.1; have h2 := this.2.1; omega), rfl, hmw, hsw⟩
      · obtain ⟨k, rfl⟩ : ∃ k : Nat, p = k := ⟨p.toNat, by omega⟩
        have hk : k < np := by omega
        have htk := sp_taken hsw h1 k hk
        have HTK := Lib.hid htk
        clear htk
        have hkey : keyOf Tryz.prog 3 (.int .i64 (k : Int)) = some (.int .i64 (k : Int)) := keyOf_int_mk Tryz.underlying3 hpwf
        have hk0 : (0 : Int) ≤ k := by omega
        have hkn : (k : Int) < np := by omega
        by_cases hmem : (k : Int) ∈ l.take j
        · cases hst : isSet c k with
          | false =>
            rw [hst] at HTK
            have HST := Lib.hid hst
            clear hst
            have hkey := hkey
            have HAT : Hid (Dm.atKey (.int .i64 (k : Int)) (.lit (.int .i64 0)) = .lit (.int .i64 1)) := Lib.hid (by rw [hat.out, if_pos hmem])
            go_wp2_with (first
              | (go_at_call 18; refine HTK.out.mono ?_; rintro e w1 ⟨rfl, hm1, hs1⟩; have hmap1 := own_map_mod hmap hm1)
              | (at_lookup; refine wpList_lookup_own_int _ rfl (.tmp 38) (.tmp 39) 97 rfl 3 3 .i64 law3 Tryz.underlying97 Tryz.underlying3 (zero3 _) w.heap.size j _ rfl hmap1 _ _ rfl hkey ?_; intro c0 hat0 _; obtain rfl := lit_inj (hat0.symm.trans HAT.out))
              | (at_mapUpdate; refine wpList_mapUpdate_own _ rfl _ _ _ 97 rfl 3 3 law3 Tryz.underlying97 _ w.heap.size j _ rfl hmap1 (by unfold maxLen; omega) _ _ _ rfl rfl hkey (.lit (.int .i64 2)) [] (plainElem_int Tryz.underlying3 (by decide)) ?_; intro w5 hmap5 hgrow5; obtain ⟨c1, hrun1, hat1, _⟩ := hmap5.lookup_int law3 Tryz.underlying97 Tryz.underlying3 (zero3 _) hkey; obtain rfl := lit_inj (hat1.symm.trans (lput_same hism (k : Int) 2)); clear hat1)
              | fail)
            have hm5 := (hmw.trans hm1).grown_new hgrow5 (fun q hq => by injection hq with hq; omega)
            have hs5 := hs1.modR (mod_grown (B := B) (T := [1000000]) (D := false) (R := false) (Y := Y) hgrow5 (fun q hq => by injection hq with hq; omega) (fun q hq => .inr (.inr ⟨1000000, by injection hq with hq; subst hq; exact map_ty hmap1, by decide⟩))) (by decide)
            go_ret
            exact .inr ⟨fun hg => by have := hg j k HPP.out; have := this.2.2.1; rw [Int.toNat_natCast, HST.out] at this; exact absurd this (by decide), rfl, hm5, hs5⟩
          | true =>
            rw [hst] at HTK
            have HST := Lib.hid hst
            clear hst
            have hkey := hkey
            by_cases hk1 : (k : Int) < 1
            · have HAT : Hid (Dm.atKey (.int .i64 (k : Int)) (.lit (.int .i64 0)) = .lit (.int .i64 1)) := Lib.hid (by rw [hat.out, if_pos hmem])
              go_wp2_with (first
                | (go_at_call 18; refine HTK.out.mono ?_; rintro e w1 ⟨rfl, hm1, hs1⟩; have hmap1 := own_map_mod hmap hm1)
                | (at_lookup; refine wpList_lookup_own_int _ rfl (.tmp 38) (.tmp 39) 97 rfl 3 3 .i64 law3 Tryz.underlying97 Tryz.underlying3 (zero3 _) w.heap.size j _ rfl hmap1 _ _ rfl hkey ?_; intro c0 hat0 _; obtain rfl := lit_inj (hat0.symm.trans HAT.out))
                | (at_mapUpdate; refine wpList_mapUpdate_own _ rfl _ _ _ 97 rfl 3 3 law3 Tryz.underlying97 _ w.heap.size j _ rfl hmap1 (by unfold maxLen; omega) _ _ _ rfl rfl hkey (.lit (.int .i64 2)) [] (plainElem_int Tryz.underlying3 (by decide)) ?_; intro w5 hmap5 hgrow5; obtain ⟨c1, hrun1, hat1, _⟩ := hmap5.lookup_int law3 Tryz.underlying97 Tryz.underlying3 (zero3 _) hkey; obtain rfl := lit_inj (hat1.symm.trans (lput_same hism (k : Int) 2)); clear hat1)
                | fail)
              have hm5 := (hmw.trans hm1).grown_new hgrow5 (fun q hq => by injection hq with hq; omega)
              have hs5 := hs1.modR (mod_grown (B := B) (T := [1000000]) (D := false) (R := false) (Y := Y) hgrow5 (fun q hq => by injection hq with hq; omega) (fun q hq => .inr (.inr ⟨1000000, by injection hq with hq; subst hq; exact map_ty hmap1, by decide⟩))) (by decide)
              go_ret
              exact .inr ⟨fun hg => by have := hg j k HPP.out; have := this.1; omega, rfl, hm5, hs5⟩
            · have HAT : Hid (Dm.atKey (.int .i64 (k : Int)) (.lit (.int .i64 0)) = .lit (.int .i64 1)) := Lib.hid (by rw [hat.out, if_pos hmem])
              go_wp2_with (first
                | (go_at_call 18; refine HTK.out.mono ?_; rintro e w1 ⟨rfl, hm1, hs1⟩; have hmap1 := own_map_mod hmap hm1)
                | (at_lookup; refine wpList_lookup_own_int _ rfl (.tmp 38) (.tmp 39) 97 rfl 3 3 .i64 law3 Tryz.underlying97 Tryz.underlying3 (zero3 _) w.heap.size j _ rfl hmap1 _ _ rfl hkey ?_; intro c0 hat0 _; obtain rfl := lit_inj (hat0.symm.trans HAT.out))
                | (at_mapUpdate; refine wpList_mapUpdate_own _ rfl _ _ _ 97 rfl 3 3 law3 Tryz.underlying97 _ w.heap.size j _ rfl hmap1 (by unfold maxLen; omega) _ _ _ rfl rfl hkey (.lit (.int .i64 2)) [] (plainElem_int Tryz.underlying3 (by decide)) ?_; intro w5 hmap5 hgrow5; obtain ⟨c1, hrun1, hat1, _⟩ := hmap5.lookup_int law3 Tryz.underlying97 Tryz.underlying3 (zero3 _) hkey; obtain rfl := lit_inj (hat1.symm.trans (lput_same hism (k : Int) 2)); clear hat1)
                | fail)
              have hm5 := (hmw.trans hm1).grown_new hgrow5 (fun q hq => by injection hq with hq; omega)
              have hs5 := hs1.modR (mod_grown (B := B) (T := [1000000]) (D := false) (R := false) (Y := Y) hgrow5 (fun q hq => by injection hq with hq; omega) (fun q hq => .inr (.inr ⟨1000000, by injection hq with hq; subst hq; exact map_ty hmap1, by decide⟩))) (by decide)
              go_ret
              exact .inr ⟨fun hg => by have := hg j k HPP.out; exact this.2.2.2 hmem, rfl, hm5, hs5⟩
        · cases hst : isSet c k with
          | false =>
            rw [hst] at HTK
            have HST := Lib.hid hst
            clear hst
            have hkey := hkey
            have HAT : Hid (Dm.atKey (.int .i64 (k : Int)) (.lit (.int .i64 0)) = .lit (.int .i64 0)) := Lib.hid (by rw [hat.out, if_neg hmem])
            go_wp2_with (first
              | (go_at_call 18; refine HTK.out.mono ?_; rintro e w1 ⟨rfl, hm1, hs1⟩; have hmap1 := own_map_mod hmap hm1)
              | (at_lookup; refine wpList_lookup_own_int _ rfl (.tmp 38) (.tmp 39) 97 rfl 3 3 .i64 law3 Tryz.underlying97 Tryz.underlying3 (zero3 _) w.heap.size j _ rfl hmap1 _ _ rfl hkey ?_; intro c0 hat0 _; obtain rfl := lit_inj (hat0.symm.trans HAT.out))
              | (at_mapUpdate; refine wpList_mapUpdate_own _ rfl _ _ _ 97 rfl 3 3 law3 Tryz.underlying97 _ w.heap.size j _ rfl hmap1 (by unfold maxLen; omega) _ _ _ rfl rfl hkey (.lit (.int .i64 1)) [] (plainElem_int Tryz.underlying3 (by decide)) ?_; intro w5 hmap5 hgrow5; obtain ⟨c1, hrun1, hat1, _⟩ := hmap5.lookup_int law3 Tryz.underlying97 Tryz.underlying3 (zero3 _) hkey; obtain rfl := lit_inj (hat1.symm.trans (lput_same hism (k : Int) 1)); clear hat1)
              | fail)
            have hm5 := (hmw.trans hm1).grown_new hgrow5 (fun q hq => by injection hq with hq; omega)
            have hs5 := hs1.modR (mod_grown (B := B) (T := [1000000]) (D := false) (R := false) (Y := Y) hgrow5 (fun q hq => by injection hq with hq; omega) (fun q hq => .inr (.inr ⟨1000000, by injection hq with hq; subst hq; exact map_ty hmap1, by decide⟩))) (by decide)
            go_ret
            exact .inr ⟨fun hg => by have := hg j k HPP.out; have := this.2.2.1; rw [Int.toNat_natCast, HST.out] at this; exact absurd this (by decide), rfl, hm5, hs5⟩
          | true =>
            rw [hst] at HTK
            have HST := Lib.hid hst
            clear hst
            have hkey := hkey
            by_cases hk1 : (k : Int) < 1
            · have HAT : Hid (Dm.atKey (.int .i64 (k : Int)) (.lit (.int .i64 0)) = .lit (.int .i64 0)) := Lib.hid (by rw [hat.out, if_neg hmem])
              go_wp2_with (first
                | (go_at_call 18; refine HTK.out.mono ?_; rintro e w1 ⟨rfl, hm1, hs1⟩; have hmap1 := own_map_mod hmap hm1)
                | (at_lookup; refine wpList_lookup_own_int _ rfl (.tmp 38) (.tmp 39) 97 rfl 3 3 .i64 law3 Tryz.underlying97 Tryz.underlying3 (zero3 _) w.heap.size j _ rfl hmap1 _ _ rfl hkey ?_; intro c0 hat0 _; obtain rfl := lit_inj (hat0.symm.trans HAT.out))
                | (at_mapUpdate; refine wpList_mapUpdate_own _ rfl _ _ _ 97 rfl 3 3 law3 Tryz.underlying97 _ w.heap.size j _ rfl hmap1 (by unfold maxLen; omega) _ _ _ rfl rfl hkey (.lit (.int .i64 1)) [] (plainElem_int Tryz.underlying3 (by decide)) ?_; intro w5 hmap5 hgrow5; obtain ⟨c1, hrun1, hat1, _⟩ := hmap5.lookup_int law3 Tryz.underlying97 Tryz.underlying3 (zero3 _) hkey; obtain rfl := lit_inj (hat1.symm.trans (lput_same hism (k : Int) 1)); clear hat1)
                | fail)
              have hm5 := (hmw.trans hm1).grown_new hgrow5 (fun q hq => by injection hq with hq; omega)
              have hs5 := hs1.modR (mod_grown (B := B) (T := [1000000]) (D := false) (R := false) (Y := Y) hgrow5 (fun q hq => by injection hq with hq; omega) (fun q hq => .inr (.inr ⟨1000000, by injection hq with hq; subst hq; exact map_ty hmap1, by decide⟩))) (by decide)
              go_ret
              exact .inr ⟨fun hg => by have := hg j k HPP.out; have := this.1; omega, rfl, hm5, hs5⟩
            · have HAT : Hid (Dm.atKey (.int .i64 (k : Int)) (.lit (.int .i64 0)) = .lit (.int .i64 0)) := Lib.hid (by rw [hat.out, if_neg hmem])
              go_wp2_with (first
                | (go_at_call 18; refine HTK.out.mono ?_; rintro e w1 ⟨rfl, hm1, hs1⟩; have hmap1 := own_map_mod hmap hm1)
                | (at_lookup; refine wpList_lookup_own_int _ rfl (.tmp 38) (.tmp 39) 97 rfl 3 3 .i64 law3 Tryz.underlying97 Tryz.underlying3 (zero3 _) w.heap.size j _ rfl hmap1 _ _ rfl hkey ?_; intro c0 hat0 _; obtain rfl := lit_inj (hat0.symm.trans HAT.out))
                | (at_mapUpdate; refine wpList_mapUpdate_own _ rfl _ _ _ 97 rfl 3 3 law3 Tryz.underlying97 _ w.heap.size j _ rfl hmap1 (by unfold maxLen; omega) _ _ _ rfl rfl hkey (.lit (.int .i64 1)) [] (plainElem_int Tryz.underlying3 (by decide)) ?_; intro w5 hmap5 hgrow5; obtain ⟨c1, hrun1, hat1, _⟩ := hmap5.lookup_int law3 Tryz.underlying97 Tryz.underlying3 (zero3 _) hkey; obtain rfl := lit_inj (hat1.symm.trans (lput_same hism (k : Int) 1)); clear hat1)
                | fail)
              have hm5 := (hmw.trans hm1).grown_new hgrow5 (fun q hq => by injection hq with hq; omega)
              have hs5 := hs1.modR (mod_grown (B := B) (T := [1000000]) (D := false) (R := false) (Y := Y) hgrow5 (fun q hq => by injection hq with hq; omega) (fun q hq => .inr (.inr ⟨1000000, by injection hq with hq; subst hq; exact map_ty hmap1, by decide⟩))) (by decide)
              go_roundw
              case rel =>
                refine ⟨j + 1, by omega, by go_num, hm5, hs5, Lib.hid (fun i q hi hq => ?_), _, hmap5, hism.put _ _, Lib.hid (fun q => ?_)⟩
                · rcases Nat.lt_or_eq_of_le (Nat.le_of_lt_succ hi) with h | rfl
                  · exact hok.out i q h hq
                  · rw [HPP.out] at hq
                    injection hq with hq
                    subst hq
                    exact ⟨by omega, by omega, HST.out, hmem⟩
                · rw [take_snoc HPP.out]
                  by_cases e : q = k
                  · subst e
                    rw [lput_same hism, if_pos (by simp)]
                  · rw [atKey_put_other (by intro h; injection h with _ h; exact e h), hat.out]
                    simp [e]
              case measure => simp [intOf]; omega
    · obtain rfl : j = l.length := by omega
      have hg : giveOk c np l := fun i p hp => hok.out i p (by obtain ⟨h, _⟩ := List.getElem?_eq_some_iff.1 hp; exact h) hp
      have HG := Lib.hid hg
      have hrd := sp_read hsw h0
      have HRD := Lib.hid hrd
      clear hg hrd hok hat hmap
      have hBr : B ≤ wr.heap.size := Nat.le_trans hB hmw.size
      go_wp2_with fail
      refine wp_loop_rounds 2 ?_
      rw [rounds_succ]
      go_wp2_with fail
      refine HRD.out.mono ?_
      rintro e w1 ⟨v1, wm, rfl, hm1, hs1, hbm, hown⟩
      obtain ⟨g1, c1, rfl, hg1b, hg1l⟩ := hown.form (by decide)
      have hc1 := own_cap hown
      go_wp2_with fail
      go_loopw [71] (fun t wr2 => ∃ j : Nat, j ≤ l.length ∧ t = .int .i64 j ∧ Below wm.heap.size wm wr2 ∧ wr2.ownsRow wm.heap.size 5 1 (.slice (some ⟨g1, 0, none⟩) 504 c1) 504 ((given c (l.take j)).map bv)) (fun t _ => l.length - (intOf t).toNat)
      case atStart => exact ⟨0, Nat.zero_le _, rfl, hbm, hown⟩
      case round =>
        obtain ⟨i, hi, rfl, hbm2, hown2⟩ := hrel
        by_cases hlt : i < l.length
        · have hi' : (i : Int) < l.length := by omega
          obtain ⟨p, hp⟩ : ∃ p, l[i]? = some p := ⟨_, List.getElem?_eq_getElem hlt⟩
          obtain ⟨h1p, h2p, _, _⟩ := HG.out i p hp
          obtain ⟨k, rfl⟩ : ∃ k : Nat, p = k := ⟨p.toNat, by omega⟩
          have hmm2 := (hmw.trans hm1).below_ hbm2
          obtain ⟨A', cap', e, _, hlc, _⟩ := hl.mod hmm2
          injection e with e1 _ e2
          subst e1 e2
          obtain ⟨lb, lo, rfl, hlbB, hlbw, hcell⟩ := hlc (by omega)
          have k0 := hcell i k hp
          have hk : k < 504 := by omega
          have hkk : (k : Int) < 504 := by omega
          have hk0 : (0 : Int) ≤ k := by omega
          have hdiv : (k : Int) / 504 = 0 := by omega
          have hmd : (k : Int) % 504 = k := by omega
          obtain ⟨b, hb⟩ : ∃ b, (given c (l.take i))[k]? = some b := ⟨_, List.getElem?_eq_getElem (by rw [given_length, hsw.len h0]; exact hk)⟩
          have k1 : wr.cell? ⟨g1, k, none⟩ = some (.int .u8 b.toNat) := by
            have := hown2.cells (g := g1) rfl k (bv b) (by rw [List.getElem?_map, hb]; rfl)
            rwa [addr_add, Nat.zero_add] at this
          have k2 : wr.frozen? ⟨g1, k, none⟩ = false := hown2.frozenAt k
          have HPP := Lib.hid hp
          clear hp hb hcell hlc
          go_wp2_with fail
          go_roundw
          case rel =>
            refine ⟨i + 1, by omega, by go_num, hbm2.setCell (by exact hg1b) _, ?_⟩
            rw [given_take c l i k HPP.out, List.map_set]
            exact own_store hown2 k hk _
          case measure => simp [intOf]; omega
        · obtain rfl : i = l.length := by omega
          rw [List.take_length] at hown2
          have hs2 := hs1.below hbm2
          have hm2 := (hmw.trans hm1).below_ hbm2
          have hdl : Y.dl < wm.heap.size := Nat.lt_of_lt_of_le hsw.dl hm1.size
          have hrb : ∀ k, Y.rb = some k → k < wm.heap.size := fun k hk => Nat.lt_of_lt_of_le (hsw.rbl k hk) hm1.size
          have hchg := sp_change hs2 h0 h1 ha g1 c1 (given c l) (by rw [given_length]; exact hsw.len h0) hown2 hdl hrb
          have HCH := Lib.hid hchg
          clear hchg
          go_wp2_with fail
          refine HCH.out.mono ?_
          rintro e w3 ⟨rfl, Y3, hm3, hs3⟩
          go_wp2_with fail
          rw [rounds_succ]
          go_wp2_with fail
          go_ret
          exact .inl ⟨HG.out, rfl, Y3, (hm2.more StT false true rfl).trans hm3, hs3⟩
end Go.Proofs.YtllhgbanbelmaaaGreat

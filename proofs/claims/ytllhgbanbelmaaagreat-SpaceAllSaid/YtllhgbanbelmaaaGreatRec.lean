/- rec: numbers, byte lists, sizes, Encode of a record that lists no sessions and no pages. -/
import Derived.Test.YtllhgbanbelmaaaGreatGrew
namespace Go.Proofs.YtllhgbanbelmaaaGreat
open Go.RowKit
variable {B : Nat} {T : List Nat} {D R : Bool} {Y Y' : Sys} {w w' : World}

theorem own_base {base base' e size n : Nat} {v : Value} {xs : List Value} (h : w.ownsRow base e size v n xs) (hb : base' ≤ base) : w.ownsRow base' e size v n xs := by
  refine ⟨h.1, ?_⟩
  rcases h.2 with h2 | ⟨g, cap, cur, rfl, hg, r⟩
  · exact .inl h2
  · exact .inr ⟨g, cap, cur, rfl, Nat.le_trans hb hg, r⟩
/-- the eight bytes of a number, -/
def numB (n : Int) : List UInt8 := (List.range 8).map (beB n)
theorem numB_length (n : Int) : (numB n).length = 8 := by simp [numB]
theorem numB_take (n : Int) {j : Nat} (h : j < 8) : ((numB n).take j).map bv ++ [bv (beB n j)] = ((numB n).take (j + 1)).map bv := by
  have h1 : j < (numB n).length := by rw [numB_length]; exact h
  rw [List.take_succ_eq_append_getElem h1, List.map_append]
  simp [numB]

set_option maxRecDepth 100000 in
set_option maxHeartbeats 2000000 in
theorem num198 {v : Value} {m : Nat} {xs : List Value} (hown : w.ownsRow B 5 1 v m xs) (hB : B ≤ w.heap.size) (hm : m + 8 ≤ 1099511627776) (n : Int) (hn : 0 ≤ n) :
    Calls Tryz.prog 198 #[v, i64 n] w fun e w' => ∃ v', e = .returned v' ∧ w'.ownsRow B 5 1 v' (m + 8) (xs ++ (numB n).map bv) ∧ Grew w w' v.ownBlock v'.ownBlock := by
  obtain ⟨va, vc, rfl, hvc, _⟩ := own_form hown
  go_enter Tryz.func198, Tryz.ntmps198
  go_wp2_with fail
  go_loopw [8, 0] (fun t u wr => ∃ j : Nat, j ≤ 8 ∧ t = .int .i64 j ∧ wr.ownsRow B 5 1 u (m + j) (xs ++ ((numB n).take j).map bv) ∧ Grew w wr (Value.slice va m vc).ownBlock u.ownBlock) (fun t _ _ => 8 - (intOf t).toNat)
  case atStart => exact ⟨0, by omega, rfl, by simpa using hown, Grew.refl _ _⟩
  case round =>
    obtain ⟨j, hj, rfl, hu, hw⟩ := hrel
    have hj0 : (0 : Int) ≤ j := by omega
    by_cases hlt : j < 8
    · have hj' : (j : Int) < 8 := by omega
      obtain ⟨ua, uc, rfl, _, _⟩ := own_form hu
      have hone : ∀ z : Int, ∀ u ∈ [Value.int .u8 z], u.oneCell' = true := by intro z u hu; simp at hu; subst hu; rfl
      have hbnd : (m + j) + 1 ≤ maxLen ∧ ((m + j) + 1) * 1 ≤ 140737488355328 ∧ B ≤ (wr.alloc (.cells #[.int .u8 (n / 2 ^ (56 - 8 * j) % 256)] 5)).heap.size := ⟨by simp [maxLen]; omega, by omega, by have := hw.size; simp; omega⟩
      go_wp2_with (at_builtin; refine wpList_app (wr.alloc (.cells #[.int .u8 (n / 2 ^ (56 - 8 * j) % 256)] 5)) rfl (.tmp 11) (.tmp 18) rfl B sl48 (hu.alloc (.cells #[.int .u8 (n / 2 ^ (56 - 8 * j) % 256)] 5)) rfl (Src.lit (Blk.new wr 5 #[.int .u8 (n / 2 ^ (56 - 8 * j) % 256)]) 1 1) rfl rfl (hone (n / 2 ^ (56 - 8 * j) % 256)) hbnd ?_; intro v5 w5 hown5 hg5 hat5)
      go_roundw
      case rel =>
        have hz : Value.int .u8 (n / 2 ^ (56 - 8 * j) % 256) = bv (beB n j) := bv_of (Int.emod_nonneg _ (by decide)) (Int.emod_lt_of_pos _ (by decide))
        refine ⟨j + 1, by omega, by go_num, ?_, (hw.alloc _).trans (Grew.app hg5 hat5)⟩
        have e := numB_take n hlt
        rw [← e, ← List.append_assoc, ← hz]
        exact hown5
      case measure => simp [intOf]; omega
    · have hje : j = 8 := by omega
      subst hje
      obtain ⟨ua, uc, rfl, _, _⟩ := own_form hu
      go_wp2_with fail
      go_ret
      refine ⟨_, rfl, ?_, hw⟩
      rwa [show (numB n).take 8 = numB n from List.take_of_length_le (by rw [numB_length]; exact Nat.le_refl _)] at hu

set_option maxRecDepth 100000 in
set_option maxHeartbeats 2000000 in
theorem data199 {w0 : World} {v d : Value} {m L : Nat} {xs : List Value} {ys : List UInt8} (hown : w.ownsRow B 5 1 v m xs) (hB : B ≤ w.heap.size) (hx : Src w0 d L (ys.map bv)) (h0 : Below w0.heap.size w0 w) (hB0 : w0.heap.size ≤ B) (hL : ys.length = L) (hm : m + 8 + L ≤ 1099511627776) :
    Calls Tryz.prog 199 #[v, d] w fun e w' => ∃ v', e = .returned v' ∧ w'.ownsRow B 5 1 v' (m + 8 + L) (xs ++ (numB L).map bv ++ ys.map bv) ∧ Grew w w' v.ownBlock v'.ownBlock := by
  obtain ⟨va, vc, rfl, hvc, _⟩ := own_form hown
  have hnum := num198 hown hB (by omega) L (by omega)
  obtain ⟨da, dc, rfl, hd⟩ := hx
  have hx : Src w0 (.slice da L dc) L (ys.map bv) := ⟨_, _, rfl, hd⟩
  clear hd
  have hone := bv_one ys
  have hl1 : (ys.map bv).length = L * 1 := by rw [List.length_map, hL, Nat.mul_one]
  go_enter Tryz.func199, Tryz.ntmps199
  go_wp2_with first | (go_at_call 198; refine hnum.mono ?_; rintro e w1 ⟨v1, rfl, hown1, hb1⟩; obtain ⟨ua, uc, rfl, _, _⟩ := own_form hown1) | (at_builtin; refine wpList_app _ rfl (.tmp 8) (.tmp 9) rfl B sl48 hown1 rfl (hx.mono (h0.trans ((hb1.below hB (fun k e => own_ge hown e)).mono hB0))) rfl hl1 hone ⟨by simp [maxLen]; omega, by omega, Nat.le_trans hB hb1.size⟩ ?_; intro v5 w5 hown5 hg5 hat5)
  go_ret
  exact ⟨_, rfl, hown5, hb1.trans (Grew.app hg5 hat5)⟩

/-- a record that lists no sessions and no pages -/
def recCells (k id prev u pg off : Int) (b a : Value) (undo : Int) : Array Value := #[i64 k, i64 id, i64 prev, i64 u, i64 pg, i64 off, b, a, .slice none 0 0, .slice none 0 0, i64 undo]
theorem size58 (k id prev u pg off undo : Int) (ba aa : Option Addr) (bl bc al ac : Nat) (hb : bl ≤ 1024) (ha : al ≤ 1024) (w : World) :
    Calls Tryz.prog 58 #[.agg (recCells k id prev u pg off (.slice ba bl bc) (.slice aa al ac) undo)] w fun e w' => e = .returned (i64 (96 + bl + al)) ∧ Below w.heap.size w w' := by
  unfold recCells
  go_enter Tryz.func58, Tryz.ntmps58
  go_wp2_with fail
  go_ret
  exact ⟨rfl, (Below.refl _ _).alloc (Nat.le_refl _) _⟩

theorem ix0 (a b c d e f : Int) (w : World) : (Instr.index 293 (.agg #[i64 a, i64 b, i64 c, i64 d, i64 e, i64 f]) (.int .i64 0)).run Tryz.prog w = .ok (i64 a) w := by kernel_rfl
theorem ix1 (a b c d e f : Int) (w : World) : (Instr.index 293 (.agg #[i64 a, i64 b, i64 c, i64 d, i64 e, i64 f]) (.int .i64 1)).run Tryz.prog w = .ok (i64 b) w := by kernel_rfl
theorem ix2 (a b c d e f : Int) (w : World) : (Instr.index 293 (.agg #[i64 a, i64 b, i64 c, i64 d, i64 e, i64 f]) (.int .i64 2)).run Tryz.prog w = .ok (i64 c) w := by kernel_rfl
theorem ix3 (a b c d e f : Int) (w : World) : (Instr.index 293 (.agg #[i64 a, i64 b, i64 c, i64 d, i64 e, i64 f]) (.int .i64 3)).run Tryz.prog w = .ok (i64 d) w := by kernel_rfl
theorem ix4 (a b c d e f : Int) (w : World) : (Instr.index 293 (.agg #[i64 a, i64 b, i64 c, i64 d, i64 e, i64 f]) (.int .i64 4)).run Tryz.prog w = .ok (i64 e) w := by kernel_rfl
theorem ix5 (a b c d e f : Int) (w : World) : (Instr.index 293 (.agg #[i64 a, i64 b, i64 c, i64 d, i64 e, i64 f]) (.int .i64 5)).run Tryz.prog w = .ok (i64 f) w := by kernel_rfl
/-- what Encode lays -/
def encB (k id prev u pg off undo : Int) (bs zs : List UInt8) : List UInt8 :=
  numB (88 + bs.length + zs.length) ++ (numB k ++ numB id ++ numB prev ++ numB u ++ numB pg ++ numB off) ++ numB bs.length ++ bs ++ numB zs.length ++ zs ++ numB 0 ++ numB 0 ++ numB undo
theorem encB_length (k id prev u pg off undo : Int) (bs zs : List UInt8) : (encB k id prev u pg off undo bs zs).length = 96 + bs.length + zs.length := by
  simp only [encB, List.length_append, numB_length]
  omega

set_option maxRecDepth 100000 in
set_option maxHeartbeats 4000000 in
theorem encode125 (k id prev u pg off undo : Int) (ba aa : Option Addr) (bl bc al ac : Nat) (hb : bl ≤ 1024) (ha : al ≤ 1024) (bs zs : List UInt8)
    (hsb : Src w (.slice ba bl bc) bl (bs.map bv)) (hbl : bs.length = bl) (hsa : Src w (.slice aa al ac) al (zs.map bv)) (hal : zs.length = al)
    (hk : 0 ≤ k) (hid : 0 ≤ id) (hprev : 0 ≤ prev) (hu : 0 ≤ u) (hpg : 0 ≤ pg) (hoff : 0 ≤ off) (hundo : 0 ≤ undo) :
    Calls Tryz.prog 125 #[.agg (recCells k id prev u pg off (.slice ba bl bc) (.slice aa al ac) undo)] w fun e w' => ∃ v, e = .returned v ∧ w'.ownsRow w.heap.size 5 1 v (96 + bl + al) ((encB k id prev u pg off undo bs zs).map bv) ∧ Below w.heap.size w w' := by
  have hsz := size58 k id prev u pg off undo ba aa bl bc al ac hb ha
  have hmk : ∀ w : World, (Instr.makeSlice 48 (.int .i64 0) (.int .i64 (96 + bl + al))).run Tryz.prog w = .ok (.slice (some ⟨w.heap.size, 0, none⟩) 0 (96 + bl + al)) (w.alloc (.cells (Array.replicate (96 + bl + al) (.int .u8 0)) 5)) := by
    intro w
    have := run_mk (P := Tryz.prog) w sl48 rfl .i64 .i64 0 (96 + bl + al) (Nat.zero_le _) (by omega) (by simp [maxLen]; omega)
    exact this
  unfold recCells at hsz ⊢
  have hcB : Blk (w.alloc (.cells #[i64 k, i64 id, i64 prev, i64 u, i64 pg, i64 off, .slice ba bl bc, .slice aa al ac, .slice none 0 0, .slice none 0 0, i64 undo] 112)) w.heap.size 112 #[i64 k, i64 id, i64 prev, i64 u, i64 pg, i64 off, .slice ba bl bc, .slice aa al ac, .slice none 0 0, .slice none 0 0, i64 undo] := Blk.new _ _ _
  have hbe1 : Below w.heap.size w (w.alloc (.cells #[i64 k, i64 id, i64 prev, i64 u, i64 pg, i64 off, .slice ba bl bc, .slice aa al ac, .slice none 0 0, .slice none 0 0, i64 undo] 112)) := (Below.refl _ _).alloc (Nat.le_refl _) _
  go_enter Tryz.func125, Tryz.ntmps125
  go_wp2_with fail
  have hc1 := hcB.cell
  generalize w.alloc (.cells #[i64 k, i64 id, i64 prev, i64 u, i64 pg, i64 off, .slice ba bl bc, .slice aa al ac, .slice none 0 0, .slice none 0 0, i64 undo] 112) = w1 at *
  have hnum := fun (w5 : World) (v : Value) (h : w5.ownsRow (w.heap.size + 1) 5 1 v 0 []) (hB : w.heap.size + 1 ≤ w5.heap.size) => num198 h hB (by omega) (96 + bl + al - 8) (by omega)
  have hmkown : ∀ w5 : World, w.heap.size + 1 ≤ w5.heap.size → (w5.alloc (.cells (Array.replicate (96 + bl + al) (.int .u8 0)) 5)).ownsRow (w.heap.size + 1) 5 1 (.slice (some ⟨w5.heap.size, 0, none⟩) 0 (96 + bl + al)) 0 [] := by
    intro w5 h5
    exact ⟨rfl, .inr ⟨w5.heap.size, 96 + bl + al, _, rfl, h5, heap_alloc_new _ _, Nat.zero_le _, by simp [maxLen]; omega, by simp, by simp⟩⟩
  go_cut [3] (fun v wx => wx.ownsRow (w.heap.size + 1) 5 1 v 8 ((numB (96 + bl + al - 8)).map bv) ∧ Below w.heap.size w wx ∧ Blk wx w.heap.size 112 #[i64 k, i64 id, i64 prev, i64 u, i64 pg, i64 off, .slice ba bl bc, .slice aa al ac, .slice none 0 0, .slice none 0 0, i64 undo])
  case first =>
    refine wp_region_G (fun w' => ∀ i, w'.cell? ⟨w.heap.size, i, none⟩ = #[i64 k, i64 id, i64 prev, i64 u, i64 pg, i64 off, .slice ba bl bc, .slice aa al ac, .slice none 0 0, .slice none 0 0, i64 undo][i]?) 7 8 (by kernel_rfl) rfl ?_
    intro w2 hsd
    have hSw : ∀ i, w2.cell? ⟨w.heap.size, i, none⟩ = #[i64 k, i64 id, i64 prev, i64 u, i64 pg, i64 off, .slice ba bl bc, .slice aa al ac, .slice none 0 0, .slice none 0 0, i64 undo][i]? := fun i => (hsd.cell _).trans (hc1 i)
    refine' wpF_take 0 (v := _) rfl (by kernel_rfl) (fun _ _ _ h => h) (by rfl) hSw (fun w' hS => ?_) ?_; rotate_left
    · go_simp; with_reducible rfl
    simp only [Act.put, List.getElem_toArray, List.getElem_cons_succ, List.getElem_cons_zero, List.setIfInBounds_toArray, List.set_cons_zero, List.set_cons_succ]
    refine' wpF_take 3 (v := _) rfl (by kernel_rfl) (fun _ _ _ h => h) (by rfl) hSw (fun w' hS => ?_) ?_; rotate_left
    · go_simp; with_reducible rfl
    simp only [Act.put, List.getElem_toArray, List.getElem_cons_succ, List.getElem_cons_zero, List.setIfInBounds_toArray, List.set_cons_zero, List.set_cons_succ]
    refine wpF_one 1 rfl (by kernel_rfl) ?_
    simp only [List.getElem_toArray, List.getElem_cons_succ, List.getElem_cons_zero]
    go_wp2_with (go_at_call 58; refine (hsz _).mono ?_; rintro e w3 ⟨rfl, hb3⟩)
    have hcB3 := (hsd.blk hcB).at_ (hb3.block _ (hsd.blk hcB).lt)
    have hbe3 := (hbe1.trans (hsd.below _)).trans (hb3.mono (by have := hbe1.size; have := hsd.size; omega))
    refine ⟨fun _ => hcB3.cell, ?_⟩
    have hSw := hcB3.cell
    refine wpF_two 2 4 rfl rfl (by kernel_rfl) ?_ ?_
    all_goals simp only [List.getElem_toArray, List.getElem_cons_succ, List.getElem_cons_zero]
    · go_wp2_with fail
      have hcB4 := hcB3.alloc (.cells (Array.replicate (96 + bl + al) (.int .u8 0)) 5)
      have hle3 : w.heap.size + 1 ≤ w3.heap.size := hcB3.lt
      have hbe4 := hbe3.alloc hbe3.size (.cells (Array.replicate (96 + bl + al) (.int .u8 0)) 5)
      have hown4 := hmkown w3 hle3
      refine ⟨fun _ => hcB4.cell, ?_⟩
      have hSw := hcB4.cell
      generalize hw4 : w3.alloc (.cells (Array.replicate (96 + bl + al) (.int .u8 0)) 5) = w4 at *
      refine wpF_one 4 rfl (by kernel_rfl) ?_
      simp only [List.getElem_toArray, List.getElem_cons_succ, List.getElem_cons_zero]
      go_wp2_with (go_at_call 58; refine (hsz _).mono ?_; rintro e w5 ⟨rfl, hb5⟩)
      have hcBQ := hcB4.at_ (hb5.block _ hcB4.lt)
      have hleQ : w.heap.size + 1 ≤ w5.heap.size := hcBQ.lt
      have hbeQ := hbe4.trans (hb5.mono hbe4.size)
      have hownQ := own_at hown4 (fun g e => hb5.block g (own_lt hown4 e))
      refine ⟨fun _ => hcBQ.cell, ?_⟩
      have hSw := hcBQ.cell
      refine' wpF_take 5 (v := _) rfl (by kernel_rfl) (fun _ _ _ h => h) (by rfl) hSw (fun w' hS => ?_) ?_; rotate_left
      · go_simp; with_reducible rfl
      simp only [Act.put, List.getElem_toArray, List.getElem_cons_succ, List.getElem_cons_zero, List.setIfInBounds_toArray, List.set_cons_zero, List.set_cons_succ]
      refine wpF_one 6 rfl (by kernel_rfl) ?_
      simp only [List.getElem_toArray, List.getElem_cons_succ, List.getElem_cons_zero]
      go_wp2_with (go_at_call 198; refine (hnum _ _ hownQ hleQ).mono ?_; rintro e w6 ⟨v, rfl, hown6, hb6⟩; obtain ⟨ua, uc, rfl, _, _⟩ := own_form hown6)
      have hcB6 := hb6.blk hcBQ (fun e => by have := own_ge hownQ e; omega)
      refine ⟨fun _ => hcB6.cell, ?_⟩
      refine wpF_tail (by kernel_rfl) ?_
      simp only [List.drop_succ_cons, List.drop_zero]
      go_wp2_with fail
      go_meet
      case rel => exact ⟨hown6, hbeQ.trans ((hb6.below hleQ (fun k e => own_ge hownQ e)).mono (Nat.le_succ _)), hcB6⟩
    · go_wp2_with (go_at_call 58; refine (hsz _).mono ?_; rintro e w5 ⟨rfl, hb5⟩)
      have hcB5 := hcB3.at_ (hb5.block _ hcB3.lt)
      have hle5 : w.heap.size + 1 ≤ w5.heap.size := hcB5.lt
      have hbe5 := hbe3.trans (hb5.mono hbe3.size)
      refine ⟨fun _ => hcB5.cell, ?_⟩
      have hSw := hcB5.cell
      refine' wpF_take 5 (v := _) rfl (by kernel_rfl) (fun _ _ _ h => h) (by rfl) hSw (fun w' hS => ?_) ?_; rotate_left
      · go_simp; with_reducible rfl
      simp only [Act.put, List.getElem_toArray, List.getElem_cons_succ, List.getElem_cons_zero, List.setIfInBounds_toArray, List.set_cons_zero, List.set_cons_succ]
      refine wpF_one 2 rfl (by kernel_rfl) ?_
      simp only [List.getElem_toArray, List.getElem_cons_succ, List.getElem_cons_zero]
      go_wp2_with fail
      have hcBQ := hcB5.alloc (.cells (Array.replicate (96 + bl + al) (.int .u8 0)) 5)
      have hbeQ := hbe5.alloc hbe5.size (.cells (Array.replicate (96 + bl + al) (.int .u8 0)) 5)
      have hleQ := hcBQ.lt
      have hownQ := hmkown w5 hle5
      refine ⟨fun _ => hcBQ.cell, ?_⟩
      have hSw := hcBQ.cell
      generalize hw4 : w5.alloc (.cells (Array.replicate (96 + bl + al) (.int .u8 0)) 5) = w4 at *
      refine wpF_one 6 rfl (by kernel_rfl) ?_
      simp only [List.getElem_toArray, List.getElem_cons_succ, List.getElem_cons_zero]
      go_wp2_with (go_at_call 198; refine (hnum _ _ hownQ hleQ).mono ?_; rintro e w6 ⟨v, rfl, hown6, hb6⟩; obtain ⟨ua, uc, rfl, _, _⟩ := own_form hown6)
      have hcB6 := hb6.blk hcBQ (fun e => by have := own_ge hownQ e; omega)
      refine ⟨fun _ => hcB6.cell, ?_⟩
      refine wpF_tail (by kernel_rfl) ?_
      simp only [List.drop_succ_cons, List.drop_zero]
      go_wp2_with fail
      go_meet
      case rel => exact ⟨hown6, hbeQ.trans ((hb6.below hleQ (fun k e => own_ge hownQ e)).mono (Nat.le_succ _)), hcB6⟩
  case rest =>
    obtain ⟨hown, hbe, hcB⟩ := hcut
    obtain ⟨ua, uc, rfl, _, _⟩ := own_form hown
    have hc := hcB.cell
    have hle := hcB.lt
    clear hmk hsz hnum hmkown hc1
    go_wp2_with fail
    go_loopw [30, 3] (fun t v wr => ∃ j : Nat, j ≤ 6 ∧ t = .int .i64 j ∧ wr.ownsRow (w.heap.size + 1) 5 1 v (8 + 8 * j) ((numB (96 + bl + al - 8)).map bv ++ (([k, id, prev, u, pg, off].take j).flatMap numB).map bv) ∧ Below w.heap.size w wr ∧ Blk wr w.heap.size 112 #[i64 k, i64 id, i64 prev, i64 u, i64 pg, i64 off, .slice ba bl bc, .slice aa al ac, .slice none 0 0, .slice none 0 0, i64 undo])
      (fun t _ _ => 6 - (intOf t).toNat)
    case atStart => exact ⟨0, by omega, rfl, by simpa using hown, hbe, hcB⟩
    case round =>
      obtain ⟨j, hj, rfl, hown, hbe, hcB⟩ := hrel
      obtain ⟨ua, uc, rfl, _, _⟩ := own_form hown
      by_cases hlt : j < 6
      · rcases (show j = 0 ∨ j = 1 ∨ j = 2 ∨ j = 3 ∨ j = 4 ∨ j = 5 by omega) with rfl | rfl | rfl | rfl | rfl | rfl
        · have hnum := num198 hown hcB.lt (by omega) k hk
          have hix := fun w => ix0 k id prev u pg off w
          go_wp2_with (go_at_call 198; refine hnum.mono ?_; rintro e w5 ⟨v5, rfl, hown5, hg5⟩)
          go_roundw
          case rel => exact ⟨1, by omega, rfl, by simpa [List.append_assoc] using hown5, hbe.trans ((hg5.below hcB.lt (fun k e => own_ge hown e)).mono (Nat.le_succ _)), hg5.blk hcB (fun e => by have := own_ge hown e; omega)⟩
          case measure => simp [intOf]
        · have hnum := num198 hown hcB.lt (by omega) id hid
          have hix := fun w => ix1 k id prev u pg off w
          go_wp2_with (go_at_call 198; refine hnum.mono ?_; rintro e w5 ⟨v5, rfl, hown5, hg5⟩)
          go_roundw
          case rel => exact ⟨2, by omega, rfl, by simpa [List.append_assoc] using hown5, hbe.trans ((hg5.below hcB.lt (fun k e => own_ge hown e)).mono (Nat.le_succ _)), hg5.blk hcB (fun e => by have := own_ge hown e; omega)⟩
          case measure => simp [intOf]
        · have hnum := num198 hown hcB.lt (by omega) prev hprev
          have hix := fun w => ix2 k id prev u pg off w
          go_wp2_with (go_at_call 198; refine hnum.mono ?_; rintro e w5 ⟨v5, rfl, hown5, hg5⟩)
          go_roundw
          case rel => exact ⟨3, by omega, rfl, by simpa [List.append_assoc] using hown5, hbe.trans ((hg5.below hcB.lt (fun k e => own_ge hown e)).mono (Nat.le_succ _)), hg5.blk hcB (fun e => by have := own_ge hown e; omega)⟩
          case measure => simp [intOf]
        · have hnum := num198 hown hcB.lt (by omega) u hu
          have hix := fun w => ix3 k id prev u pg off w
          go_wp2_with (go_at_call 198; refine hnum.mono ?_; rintro e w5 ⟨v5, rfl, hown5, hg5⟩)
          go_roundw
          case rel => exact ⟨4, by omega, rfl, by simpa [List.append_assoc] using hown5, hbe.trans ((hg5.below hcB.lt (fun k e => own_ge hown e)).mono (Nat.le_succ _)), hg5.blk hcB (fun e => by have := own_ge hown e; omega)⟩
          case measure => simp [intOf]
        · have hnum := num198 hown hcB.lt (by omega) pg hpg
          have hix := fun w => ix4 k id prev u pg off w
          go_wp2_with (go_at_call 198; refine hnum.mono ?_; rintro e w5 ⟨v5, rfl, hown5, hg5⟩)
          go_roundw
          case rel => exact ⟨5, by omega, rfl, by simpa [List.append_assoc] using hown5, hbe.trans ((hg5.below hcB.lt (fun k e => own_ge hown e)).mono (Nat.le_succ _)), hg5.blk hcB (fun e => by have := own_ge hown e; omega)⟩
          case measure => simp [intOf]
        · have hnum := num198 hown hcB.lt (by omega) off hoff
          have hix := fun w => ix5 k id prev u pg off w
          go_wp2_with (go_at_call 198; refine hnum.mono ?_; rintro e w5 ⟨v5, rfl, hown5, hg5⟩)
          go_roundw
          case rel => exact ⟨6, by omega, rfl, by simpa [List.append_assoc] using hown5, hbe.trans ((hg5.below hcB.lt (fun k e => own_ge hown e)).mono (Nat.le_succ _)), hg5.blk hcB (fun e => by have := own_ge hown e; omega)⟩
          case measure => simp [intOf]
      · have hje : j = 6 := by omega
        subst hje
        have hc := hcB.cell
        go_upto_region 7 with fail
        refine wp_region_G (fun w' => ∀ i, w'.cell? ⟨w.heap.size, i, none⟩ = #[i64 k, i64 id, i64 prev, i64 u, i64 pg, i64 off, .slice ba bl bc, .slice aa al ac, .slice none 0 0, .slice none 0 0, i64 undo][i]?) 7 8 (by kernel_rfl) rfl ?_
        intro w2 hsd
        have hSw : ∀ i, w2.cell? ⟨w.heap.size, i, none⟩ = #[i64 k, i64 id, i64 prev, i64 u, i64 pg, i64 off, .slice ba bl bc, .slice aa al ac, .slice none 0 0, .slice none 0 0, i64 undo][i]? := fun i => (hsd.cell _).trans (hc i)
        refine' wpF_take 0 (v := _) rfl (by kernel_rfl) (fun _ _ _ h => h) (by rfl) hSw (fun w' hS => ?_) ?_; rotate_left
        · go_simp; with_reducible rfl
        simp only [Act.put, List.getElem_toArray, List.getElem_cons_succ, List.getElem_cons_zero, List.setIfInBounds_toArray, List.set_cons_zero, List.set_cons_succ]
        refine' wpF_take 1 (v := _) rfl (by kernel_rfl) (fun _ _ _ h => h) (by rfl) hSw (fun w' hS => ?_) ?_; rotate_left
        · go_simp; with_reducible rfl
        simp only [Act.put, List.getElem_toArray, List.getElem_cons_succ, List.getElem_cons_zero, List.setIfInBounds_toArray, List.set_cons_zero, List.set_cons_succ]
        refine' wpF_take 2 (v := _) rfl (by kernel_rfl) (fun _ _ _ h => h) (by rfl) hSw (fun w' hS => ?_) ?_; rotate_left
        · go_simp; with_reducible rfl
        simp only [Act.put, List.getElem_toArray, List.getElem_cons_succ, List.getElem_cons_zero, List.setIfInBounds_toArray, List.set_cons_zero, List.set_cons_succ]
        refine' wpF_take 4 (v := _) rfl (by kernel_rfl) (fun _ _ _ h => h) (by rfl) hSw (fun w' hS => ?_) ?_; rotate_left
        · go_simp; with_reducible rfl
        simp only [Act.put, List.getElem_toArray, List.getElem_cons_succ, List.getElem_cons_zero, List.setIfInBounds_toArray, List.set_cons_zero, List.set_cons_succ]
        refine' wpF_take 5 (v := _) rfl (by kernel_rfl) (fun _ _ _ h => h) (by rfl) hSw (fun w' hS => ?_) ?_; rotate_left
        · go_simp; with_reducible rfl
        simp only [Act.put, List.getElem_toArray, List.getElem_cons_succ, List.getElem_cons_zero, List.setIfInBounds_toArray, List.set_cons_zero, List.set_cons_succ]
        refine wpF_one 3 rfl (by kernel_rfl) ?_
        simp only [List.getElem_toArray, List.getElem_cons_succ, List.getElem_cons_zero]
        have hownA := own_at (w' := w2) hown (fun g _ => by rw [hsd.heap])
        have hcBA := hsd.blk hcB
        have hbeA := hbe.trans (hsd.below _)
        go_wp2_with (go_at_call 199; refine (data199 hownA hcBA.lt hsb hbeA (Nat.le_succ _) hbl (by omega)).mono ?_; rintro e w3 ⟨v3, rfl, hown3, hg3⟩; obtain ⟨va3, vc3, rfl, _, _⟩ := own_form hown3)
        have hcB3 := hg3.blk hcBA (fun e => by have := own_ge hownA e; omega)
        have hbe3 := hbeA.trans ((hg3.below hcBA.lt (fun k e => own_ge hownA e)).mono (Nat.le_succ _))
        refine ⟨fun _ => hcB3.cell, ?_⟩
        have hSw := hcB3.cell
        refine wpF_one 6 rfl (by kernel_rfl) ?_
        simp only [List.getElem_toArray, List.getElem_cons_succ, List.getElem_cons_zero]
        go_wp2_with (go_at_call 199; refine (data199 hown3 hcB3.lt hsa hbe3 (Nat.le_succ _) hal (by omega)).mono ?_; rintro e w4 ⟨v4, rfl, hown4, hg4⟩; obtain ⟨va4, vc4, rfl, _, _⟩ := own_form hown4)
        have hcB4 := hg4.blk hcB3 (fun e => by have := own_ge hown3 e; omega)
        have hbe4 := hbe3.trans ((hg4.below hcB3.lt (fun k e => own_ge hown3 e)).mono (Nat.le_succ _))
        refine ⟨fun _ => hcB4.cell, ?_⟩
        have hSw := hcB4.cell
        refine wpF_tail (by kernel_rfl) ?_
        simp only [List.drop_succ_cons, List.drop_zero]
        generalize hm4 : 8 + 8 * 6 + 8 + bl + 8 + al = m4 at hown4 ⊢
        have HM4 := Lib.hid hm4
        clear hm4
        have hnum5 := num198 hown4 hcB4.lt (by have := HM4.out; omega) 0 (by omega)
        obtain ⟨m5, hm5⟩ : ∃ m5, m4 + 8 = m5 := ⟨_, rfl⟩
        rw [hm5] at hnum5
        have HM5 := Lib.hid hm5
        clear hm5
        go_wp2_with (go_at_call 198; refine hnum5.mono ?_; rintro e w5 ⟨v5, rfl, hown5, hg5⟩; obtain ⟨va5, vc5, rfl, _, _⟩ := own_form hown5; have hcB5 := hg5.blk hcB4 (fun e => by have := own_ge hown4 e; omega); have hc5 := hcB5.cell)
        have hcB5 := hg5.blk hcB4 (fun e => by have := own_ge hown4 e; omega)
        have hbe5 := hbe4.trans ((hg5.below hcB4.lt (fun k e => own_ge hown4 e)).mono (Nat.le_succ _))
        go_loopw [52, 3] (fun t u wr => t = .int .i64 0 ∧ u = .slice va5 m5 vc5 ∧ wr = w5) (fun _ _ _ => 0)
        case atStart => exact ⟨rfl, rfl, rfl⟩
        case round =>
          obtain ⟨rfl, rfl, rfl⟩ := hrel
          have hc5 := hcB5.cell
          have hnum6 := num198 hown5 hcB5.lt (by have := HM4.out; have := HM5.out; omega) 0 (by omega)
          obtain ⟨m6, hm6⟩ : ∃ m6, m5 + 8 = m6 := ⟨_, rfl⟩
          rw [hm6] at hnum6
          have HM6 := Lib.hid hm6
          clear hm6
          go_wp2_with (go_at_call 198; refine hnum6.mono ?_; rintro e w6 ⟨v6, rfl, hown6, hg6⟩; obtain ⟨va6, vc6, rfl, _, _⟩ := own_form hown6; have hcB6 := hg6.blk hcB5 (fun e => by have := own_ge hown5 e; omega); have hc6 := hcB6.cell)
          have hcB6 := hg6.blk hcB5 (fun e => by have := own_ge hown5 e; omega)
          have hbe6 := hbe5.trans ((hg6.below hcB5.lt (fun k e => own_ge hown5 e)).mono (Nat.le_succ _))
          go_loopw [75, 3] (fun t u wr => t = .int .i64 0 ∧ u = .slice va6 m6 vc6 ∧ wr = w6) (fun _ _ _ => 0)
          case atStart => exact ⟨rfl, rfl, rfl⟩
          case round =>
            obtain ⟨rfl, rfl, rfl⟩ := hrel
            have hc6 := hcB6.cell
            have hnum7 := num198 hown6 hcB6.lt (by have := HM4.out; have := HM5.out; have := HM6.out; omega) undo hundo
            go_wp2_with (go_at_call 198; refine hnum7.mono ?_; rintro e w7 ⟨v7, rfl, hown7, hg7⟩)
            go_ret
            have hbe7 := hbe6.trans ((hg7.below hcB6.lt (fun k e => own_ge hown6 e)).mono (Nat.le_succ _))
            have he : 96 + bl + al - 8 = (88 + bs.length + zs.length : Int) := by omega
            have hm : m6 + 8 = 96 + bl + al := by have h4 := HM4.out; have h5 := HM5.out; have h6 := HM6.out; omega
            rw [hm] at hown7
            have hx : encB k id prev u pg off undo bs zs = numB (96 + bl + al - 8) ++ ([k, id, prev, u, pg, off].take 6).flatMap numB ++ numB bl ++ bs ++ numB al ++ zs ++ numB 0 ++ numB 0 ++ numB undo := by
              rw [encB, he, hbl, hal]
              simp only [List.take_succ_cons, List.take_zero, List.flatMap_cons, List.flatMap_nil, List.append_nil, List.append_assoc]
            refine ⟨_, rfl, ?_, hbe7⟩
            rw [hx]
            simp only [List.map_append]
            exact own_base hown7 (Nat.le_succ _)
end Go.Proofs.YtllhgbanbelmaaaGreat

/- what lies below the store: device, log, file and pool as pages that read as bytes. -/
import Derived.Test.YtllhgbanbelmaaaGreatSte
namespace Go.Proofs.YtllhgbanbelmaaaGreat
open Go.RowKit
variable {B : Nat} {T : List Nat} {D R : Bool} {Y Y' : Sys} {w w' : World}

theorem Mod.rnone (m : Mod B T D R Y Y' w w') (h : Y.rb = none) : Mod B T D false Y Y' w w' :=
  ⟨m.os, m.tape, m.output, m.size, fun b hb hp => m.blk b hb fun hB => ⟨(hp hB).1, fun _ => by rw [h]; simp, (hp hB).2.2⟩, m.dl, m.rb⟩
theorem RingAt.rbBlk {r d : Nat} {σ : RingS} (h : RingAt B Y w r d σ) : ∀ g, Y.rb = some g → ∃ cs, Blk w g 5 cs := by
  obtain ⟨bv', h⟩ := h
  intro g hg
  rw [← h.rb] at hg
  rcases h.own.2 with ⟨e, _⟩ | ⟨g', cap, cur, e, _, hw, _⟩
  · rw [e] at hg; simp [Value.ownBlock] at hg
  · rw [e] at hg
    simp [Value.ownBlock] at hg
    subst hg
    exact ⟨cur, hw⟩
theorem DevAt.modR {d n k view} (h : DevAt B Y w d n k view) (m : Mod B T false R Y Y' w w') (hR : R = true → ∀ g, Y.rb = some g → ∃ cs, Blk w g 5 cs) (hT : ∀ t, t ∈ T → t ≠ 157 ∧ t ≠ 159 ∧ t ≠ 48 ∧ t ≠ 5) : DevAt B Y' w' d n k view := by
  cases hr : Y.rb with
  | none => exact h.mod (m.rnone hr) rfl (by simp) hT
  | some g => exact h.mod m rfl (fun e => let ⟨cs, hb⟩ := hR e g hr; ⟨g, cs, hr, hb⟩) hT
/-- page n: what a frame holds of it, or else what the file does -/
def pageOf (fr : List FrameS) (view : Nat → List UInt8) (ffr n : Nat) : List UInt8 :=
  match fr.findIdx? (fun x => x.page == (n : Int)) with
  | some i => match fr[i]? with | some x => x.bs | none => []
  | none => fview view ffr n
structure CoreIn (B : Nat) (Y : Sys) (w : World) (d r f p nd k ffr np : Nat) (view : Nat → List UInt8) (ρ : RingS) (fv : Value) (fr : List FrameS) (S : List Nat) (pages : Nat → List UInt8) (L : List Nat) : Prop where
  dev : DevAt B Y w d nd k view
  hk : k < 1099511627776
  hn8 : nd ≤ 8192
  ring : RingAt B Y w r d ρ
  file : FileAt B w f d ffr np
  hfn : ffr + 5 + 4 * np ≤ nd
  pool : PoolAt B Y w p f fv np fr
  inS : ∀ x, x ∈ fr → x.page < 0 ∨ ∃ n, n ∈ S ∧ x.page = (n : Int)
  lenS : S.length ≤ fr.length
  pg : ∀ n, n < np → pageOf fr view ffr n = pages n
  ld : ∀ n, n ∈ L → ∃ i, fr.findIdx? (fun x => x.page == (n : Int)) = some i
/-- the pages read as told, the log is ρ; the frames hold pages of S alone, and those of L for sure -/
def CoreAt (B : Nat) (Y : Sys) (w : World) (d r f p np : Nat) (ρ : RingS) (S : List Nat) (pages : Nat → List UInt8) (L : List Nat) : Prop :=
  ∃ nd k ffr view fv fr, CoreIn B Y w d r f p nd k ffr np view ρ fv fr S pages L
theorem CoreAt.modR {d r f p np : Nat} {ρ : RingS} {S L : List Nat} {pages : Nat → List UInt8} (h : CoreAt B Y w d r f p np ρ S pages L) (m : Mod B T false false Y Y' w w') (hy : Y' = Y)
    (hT : ∀ t, t ∈ T → t ≠ 157 ∧ t ≠ 159 ∧ t ≠ 48 ∧ t ≠ 5 ∧ t ≠ 210 ∧ t ≠ 250 ∧ t ≠ 242 ∧ t ≠ 244) : CoreAt B Y' w' d r f p np ρ S pages L := by
  obtain ⟨nd, k, ffr, view, fv, fr, h⟩ := h
  exact ⟨nd, k, ffr, view, fv, fr, h.dev.mod m rfl (by simp) (fun t ht => ⟨(hT t ht).1, (hT t ht).2.1, (hT t ht).2.2.1, (hT t ht).2.2.2.1⟩), h.hk, h.hn8,
    h.ring.mod m rfl (fun t ht => ⟨(hT t ht).2.2.2.2.1, (hT t ht).2.2.2.1⟩) (by simp) hy, h.file.mod m (fun ht => (hT _ ht).2.2.2.2.2.1 rfl) (by simp) (by simp), h.hfn,
    h.pool.mod m (fun t ht => ⟨(hT t ht).2.2.2.2.2.2.1, (hT t ht).2.2.2.2.2.2.2, (hT t ht).2.2.2.1⟩) (by simp) (by simp), h.inS, h.lenS, h.pg, h.ld⟩
theorem CoreAt.below {d r f p np : Nat} {ρ : RingS} {S L : List Nat} {pages : Nat → List UInt8} (h : CoreAt B Y w d r f p np ρ S pages L) (hb : Below w.heap.size w w') : CoreAt B Y w' d r f p np ρ S pages L :=
  h.modR (mod_below B [] false false Y hb) rfl (by simp)
theorem CoreAt.drop {d r f p np : Nat} {ρ : RingS} {S L : List Nat} {pages : Nat → List UInt8} (h : CoreAt B Y w d r f p np ρ S pages L) : CoreAt B Y w d r f p np ρ S pages [] :=
  let ⟨nd, k, ffr, view, fv, fr, h⟩ := h
  ⟨nd, k, ffr, view, fv, fr, h.dev, h.hk, h.hn8, h.ring, h.file, h.hfn, h.pool, h.inS, h.lenS, h.pg, by simp⟩
theorem CoreAt.rbl {d r f p np : Nat} {ρ : RingS} {S L : List Nat} {pages : Nat → List UInt8} (h : CoreAt B Y w d r f p np ρ S pages L) : ∀ g, Y.rb = some g → g < w.heap.size :=
  let ⟨_, _, _, _, _, _, h⟩ := h; h.dev.rbl
theorem CoreAt.dll {d r f p np : Nat} {ρ : RingS} {S L : List Nat} {pages : Nat → List UInt8} (h : CoreAt B Y w d r f p np ρ S pages L) : Y.dl < w.heap.size :=
  let ⟨_, _, _, _, _, _, h⟩ := h; let ⟨_, hb⟩ := h.dev.dl; hb.lt
theorem CoreAt.dBlk {d r f p np : Nat} {ρ : RingS} {S L : List Nat} {pages : Nat → List UInt8} (h : CoreAt B Y w d r f p np ρ S pages L) : ∃ cs, Blk w Y.dl 48 cs :=
  let ⟨_, _, _, _, _, _, h⟩ := h; h.dev.dl
theorem CoreAt.rBlk {d r f p np : Nat} {ρ : RingS} {S L : List Nat} {pages : Nat → List UInt8} (h : CoreAt B Y w d r f p np ρ S pages L) : ∀ g, Y.rb = some g → ∃ cs, Blk w g 5 cs :=
  let ⟨_, _, _, _, _, _, h⟩ := h; h.ring.rbBlk
theorem CoreAt.ok {d r f p np : Nat} {ρ : RingS} {S L : List Nat} {pages : Nat → List UInt8} (h : CoreAt B Y w d r f p np ρ S pages L) : RingOk ρ :=
  let ⟨_, _, _, _, _, _, h⟩ := h; let ⟨_, h⟩ := h.ring; h.ok
theorem pageOf_len {d f p nd k ffr np : Nat} {view : Nat → List UInt8} {fv : Value} {fr : List FrameS} (hd : DevAt B Y w d nd k view) (hp : PoolAt B Y w p f fv np fr) (hfn : ffr + 5 + 4 * np ≤ nd) {n : Nat} (hn : n < np) : (pageOf fr view ffr n).length = 512 := by
  unfold pageOf
  cases hi : fr.findIdx? (fun x => x.page == (n : Int)) with
  | none => exact cat_len 4 fun j hj => hd.len _ (by omega)
  | some i =>
    obtain ⟨x, hx, hxp, _⟩ := findIdx_some hi
    obtain ⟨pl, hand, wr, h⟩ := hp
    simp only [hx]
    exact ((h.ok x (List.mem_of_getElem? hx)).resolve_left (by omega)).2.2.1
theorem CoreAt.len {d r f p np : Nat} {ρ : RingS} {S L : List Nat} {pages : Nat → List UInt8} (h : CoreAt B Y w d r f p np ρ S pages L) {n : Nat} (hn : n < np) : (pages n).length = 512 := by
  obtain ⟨nd, k, ffr, view, fv, fr, h⟩ := h
  rw [← h.pg n hn]
  exact pageOf_len h.dev h.pool h.hfn hn
theorem nodup_le {l S : List Nat} (hn : l.Nodup) (hs : ∀ x, x ∈ l → x ∈ S) : l.length ≤ S.length := by
  induction l generalizing S with
  | nil => exact Nat.zero_le _
  | cons a l ih =>
    rw [List.nodup_cons] at hn
    have h1 := ih (S := S.erase a) hn.2 fun x hx => (List.mem_erase_of_ne (by rintro rfl; exact hn.1 hx)).2 (hs x (List.mem_cons_of_mem _ hx))
    have h2 := hs a (List.mem_cons_self ..)
    rw [List.length_erase_of_mem h2] at h1
    have := List.length_pos_of_mem h2
    simp only [List.length_cons]
    omega
/-- a page of S that no frame holds has room -/
theorem PoolAt.room {f p np : Nat} {fv : Value} {fr : List FrameS} {S : List Nat} (hp : PoolAt B Y w p f fv np fr) (inS : ∀ x, x ∈ fr → x.page < 0 ∨ ∃ n, n ∈ S ∧ x.page = (n : Int)) (lenS : S.length ≤ fr.length) {n : Nat} (hn : n ∈ S)
    (hno : fr.findIdx? (fun x => x.page == (n : Int)) = none) : ∃ i, fr.findIdx? (fun x => decide (x.page < 0)) = some i := by
  obtain ⟨pl, hand, wr, h⟩ := hp
  cases hi : fr.findIdx? (fun x => decide (x.page < 0)) with
  | some i => exact ⟨i, rfl⟩
  | none =>
    exfalso
    rw [List.findIdx?_eq_none_iff] at hi hno
    have h0 : ∀ x, x ∈ fr → 0 ≤ x.page := fun x hx => by have := hi x hx; simpa using this
    have hnd : (fr.map fun x => x.page.toNat).Nodup := by
      unfold List.Nodup
      rw [List.pairwise_iff_getElem]
      intro i j hi hj hij he
      simp only [List.length_map] at hi hj
      have hx : fr[i]? = some fr[i] := List.getElem?_eq_getElem hi
      have hy : fr[j]? = some fr[j] := List.getElem?_eq_getElem hj
      simp only [List.getElem_map] at he
      have a0 := h0 _ (List.mem_of_getElem? hx)
      have b0 := h0 _ (List.mem_of_getElem? hy)
      have := h.uniq i j _ _ hx hy (by omega) a0
      omega
    have h1 := nodup_le (S := S.erase n) hnd fun m hm => by
      obtain ⟨x, hx, rfl⟩ := List.mem_map.1 hm
      have a0 := h0 x hx
      obtain ⟨m, hmS, e⟩ := (inS x hx).resolve_left (by omega)
      have e2 : x.page.toNat = m := by omega
      rw [e2]
      refine (List.mem_erase_of_ne ?_).2 hmS
      rintro rfl
      have := hno x hx
      simp [e] at this
    rw [List.length_erase_of_mem hn, List.length_map] at h1
    have := List.length_pos_of_mem hn
    omega
end Go.Proofs.YtllhgbanbelmaaaGreat

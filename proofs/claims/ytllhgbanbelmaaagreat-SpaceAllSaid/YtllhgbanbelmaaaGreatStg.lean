/- pages: got, put; the log: appended to. -/
import Derived.Test.YtllhgbanbelmaaaGreatStf
namespace Go.Proofs.YtllhgbanbelmaaaGreat
open Go.RowKit
variable {B : Nat} {T : List Nat} {D R : Bool} {Y Y' : Sys} {w w' : World}

def Uniq (fr : List FrameS) : Prop := ∀ (i j : Nat) (x y : FrameS), fr[i]? = some x → fr[j]? = some y → x.page = y.page → 0 ≤ x.page → i = j
theorem PoolAt.uniq {f p np : Nat} {fv : Value} {fr : List FrameS} (h : PoolAt B Y w p f fv np fr) : Uniq fr := let ⟨_, _, _, h⟩ := h; h.uniq
theorem pageOf_mem {fr : List FrameS} (hu : Uniq fr) {view : Nat → List UInt8} {ffr j n : Nat} {z : FrameS} (hz : fr[j]? = some z) (hn : z.page = (n : Int)) : pageOf fr view ffr n = z.bs := by
  unfold pageOf
  cases hi : fr.findIdx? (fun x => x.page == (n : Int)) with
  | none =>
    rw [List.findIdx?_eq_none_iff] at hi
    have := hi z (List.mem_of_getElem? hz)
    simp [hn] at this
  | some i =>
    obtain ⟨x, hx, hxp, _⟩ := findIdx_some hi
    have := hu i j x z hx hz (by rw [hxp, hn]) (by omega)
    subst this
    rw [hx] at hz
    injection hz with hz
    subst hz
    simp [hx]
theorem pageOf_no {fr : List FrameS} {view : Nat → List UInt8} {ffr n : Nat} (h : ∀ x, x ∈ fr → x.page ≠ (n : Int)) : pageOf fr view ffr n = fview view ffr n := by
  unfold pageOf
  have : fr.findIdx? (fun x => x.page == (n : Int)) = none := by
    rw [List.findIdx?_eq_none_iff]
    intro x hx
    simpa using h x hx
  rw [this]
theorem pageOf_set {fr : List FrameS} {i n : Nat} {x y : FrameS} (hu : Uniq fr) (hu' : Uniq (fr.set i y)) (hx : fr[i]? = some x) (hxy : x.page = y.page ∨ x.page < 0) (hy : y.page = (n : Int)) (view : Nat → List UInt8) (ffr m : Nat) :
    pageOf (fr.set i y) view ffr m = if m = n then y.bs else pageOf fr view ffr m := by
  have hyi := set_get hx y
  by_cases e : m = n
  · subst e
    rw [if_pos rfl]
    exact pageOf_mem hu' hyi hy
  · rw [if_neg e]
    cases hi : fr.findIdx? (fun x => x.page == (m : Int)) with
    | none =>
      rw [List.findIdx?_eq_none_iff] at hi
      have h1 : ∀ z, z ∈ fr → z.page ≠ (m : Int) := fun z hz => by have := hi z hz; simpa using this
      rw [pageOf_no h1, pageOf_no]
      intro z hz
      rcases List.mem_or_eq_of_mem_set hz with hz | rfl
      · exact h1 z hz
      · omega
    | some j =>
      obtain ⟨z, hz, hzp, _⟩ := findIdx_some hi
      rw [pageOf_mem hu hz hzp]
      refine pageOf_mem hu' (j := j) ?_ hzp
      rw [List.getElem?_set_ne]
      · exact hz
      · rintro rfl
        rw [hx] at hz
        injection hz with hz
        subst hz
        omega
theorem idx_mem {fr : List FrameS} {j n : Nat} {z : FrameS} (hz : fr[j]? = some z) (hn : z.page = (n : Int)) : ∃ i, fr.findIdx? (fun x => x.page == (n : Int)) = some i := by
  cases hi : fr.findIdx? (fun x => x.page == (n : Int)) with
  | some i => exact ⟨i, rfl⟩
  | none =>
    rw [List.findIdx?_eq_none_iff] at hi
    have := hi z (List.mem_of_getElem? hz)
    simp [hn] at this
variable {d r f p np : Nat} {ρ : RingS} {S L : List Nat} {pages : Nat → List UInt8}
theorem inS_set {fr : List FrameS} (inS : ∀ x, x ∈ fr → x.page < 0 ∨ ∃ n, n ∈ S ∧ x.page = (n : Int)) {n i : Nat} (hS : n ∈ S) {y : FrameS} (hy : y.page = (n : Int)) : ∀ x, x ∈ fr.set i y → x.page < 0 ∨ ∃ n, n ∈ S ∧ x.page = (n : Int) := by
  intro x hx
  rcases List.mem_or_eq_of_mem_set hx with hx | rfl
  · exact inS x hx
  · exact .inr ⟨n, hS, hy⟩

theorem core_get (h : CoreAt B Y w d r f p np ρ S pages L) (n : Nat) (hn : n < np) (hS : n ∈ S) :
    Calls Tryz.prog 79 #[.pointer (some ⟨p, 0, none⟩), i64 n] w fun e w' => ∃ v wm, e = .returned (.tuple #[v, i64 0]) ∧ Mod B (PoolT ++ DevT) false false Y Y w wm ∧ CoreAt B Y wm d r f p np ρ S pages [n] ∧ Below wm.heap.size wm w' ∧ w'.ownsRow wm.heap.size 5 1 v 512 ((pages n).map bv) := by
  obtain ⟨nd, k, ffr, view, fv, fr, h⟩ := h
  have hYl : Y.dl < w.heap.size := let ⟨_, hb⟩ := h.dev.dl; hb.lt
  cases hi : fr.findIdx? (fun x => x.page == (n : Int)) with
  | some i =>
    obtain ⟨x, hx, hxp, hil⟩ := findIdx_some hi
    have hbs : pages n = x.bs := by rw [← h.pg n hn, pageOf_mem h.pool.uniq hx hxp]
    refine (pool_get_hit h.pool hYl h.dev.rbl n (by omega) i hi x hx).mono ?_
    rintro e w1 ⟨v, wm, rfl, hm, hp, hbm, hown⟩
    have hgi := set_get hx ({ x with marked := true } : FrameS)
    refine ⟨v, wm, rfl, hm.more _ _ _ (by decide), ⟨nd, k, ffr, view, fv, _, h.dev.mod hm rfl (by simp) (by decide), h.hk, h.hn8, h.ring.mod hm rfl (by decide) (by simp) rfl, h.file.mod hm (by decide) (by simp) (by simp), h.hfn, hp, inS_set h.inS hS hxp, by simpa using h.lenS, fun m hm' => ?_, fun m hm' => ?_⟩, hbm, by rw [hbs]; exact hown⟩
    · rw [pageOf_set (n := n) h.pool.uniq hp.uniq hx (.inl rfl) hxp]
      split
      · next e => rw [e, hbs]
      · exact h.pg m hm'
    · obtain rfl := List.mem_singleton.1 hm'
      exact idx_mem hgi hxp
  | none =>
    obtain ⟨i, hi2⟩ := h.pool.room h.inS h.lenS hS hi
    obtain ⟨hil, hip, _⟩ := List.findIdx?_eq_some_iff_getElem.1 hi2
    have hx : fr[i]? = some fr[i] := List.getElem?_eq_getElem hil
    have hbs : pages n = fview view ffr n := by
      rw [← h.pg n hn, pageOf_no]
      intro x hx
      rw [List.findIdx?_eq_none_iff] at hi
      have := hi x hx
      simpa using this
    refine (pool_get_miss h.pool h.dev h.file h.hk h.hn8 h.hfn n hn hi i hi2).mono ?_
    rintro e w1 ⟨v, u, wm, rfl, hm, hp, hd, hbm, hown⟩
    refine ⟨v, wm, rfl, hm, ⟨nd, k, ffr, view, fv, _, hd, h.hk, h.hn8, h.ring.mod hm rfl (by decide) (by simp) rfl, h.file.mod hm (by decide) (by simp) (by simp), h.hfn, hp, inS_set h.inS hS rfl, by simpa using h.lenS, fun m hm' => ?_, fun m hm' => ?_⟩, hbm, by rw [hbs]; exact hown⟩
    · rw [pageOf_set (n := n) h.pool.uniq hp.uniq hx (.inr (by simpa using hip)) rfl]
      split
      · next e => rw [e, hbs]
      · exact h.pg m hm'
    · obtain rfl := List.mem_singleton.1 hm'
      exact idx_mem (set_get hx _) rfl

def setPage (pages : Nat → List UInt8) (n : Nat) (bs : List UInt8) : Nat → List UInt8 := fun m => if m = n then bs else pages m
theorem core_put (h : CoreAt B Y w d r f p np ρ S pages L) (n : Nat) (hn : n < np) (hL : n ∈ L) (hS : n ∈ S) (v : Value) (bs : List UInt8) (hv : Byts B Y w v bs) (hbl : bs.length = 512) (l : Int) (hl : 1 ≤ l) :
    Calls Tryz.prog 113 #[.pointer (some ⟨p, 0, none⟩), i64 n, v, i64 l] w fun e w' => e = .returned (i64 0) ∧ Mod B PoolT false false Y Y w w' ∧ CoreAt B Y w' d r f p np ρ S (setPage pages n bs) [] := by
  obtain ⟨nd, k, ffr, view, fv, fr, h⟩ := h
  have hYl : Y.dl < w.heap.size := let ⟨_, hb⟩ := h.dev.dl; hb.lt
  obtain ⟨i, hi⟩ := h.ld n hL
  obtain ⟨x, hx, hxp, hil⟩ := findIdx_some hi
  refine (pool_put_hit h.pool h.file n hn i hi x hx hYl h.dev.rbl v bs hv hbl l hl).mono ?_
  rintro e w1 ⟨u, rfl, hm, hp⟩
  refine ⟨rfl, hm, ⟨nd, k, ffr, view, fv, _, h.dev.mod hm rfl (by simp) (by decide), h.hk, h.hn8, h.ring.mod hm rfl (by decide) (by simp) rfl, h.file.mod hm (by decide) (by simp) (by simp), h.hfn, hp, inS_set h.inS hS rfl, by simpa using h.lenS, fun m hm' => ?_, by simp⟩⟩
  rw [pageOf_set (n := n) h.pool.uniq hp.uniq hx (.inl hxp) rfl]
  unfold setPage
  split
  · rfl
  · exact h.pg m hm'

theorem core_append (h : CoreAt B Y w d r f p np ρ S pages L) (v : Value) (xs : List UInt8) (hv : Byts B Y w v xs) (hroom : (xs.length : Int) ≤ ρ.room) (hmax : ρ.tail + xs.length ≤ 1099511627776) :
    Calls Tryz.prog 124 #[.pointer (some ⟨r, 0, none⟩), v] w fun e w' => e = .returned (i64 0) ∧ ∃ Y', Mod B RingT false true Y Y' w w' ∧ CoreAt B Y' w' d r f p np { ρ with bs := ρ.bs ++ xs } S pages L := by
  obtain ⟨nd, k, ffr, view, fv, fr, h⟩ := h
  refine (ring_append h.ring v xs hv hroom hmax).mono ?_
  rintro e w1 ⟨rfl, Y', hm, hr⟩
  refine ⟨rfl, Y', hm, nd, k, ffr, view, fv, fr, h.dev.modR hm (fun _ => h.ring.rbBlk) (by decide), h.hk, h.hn8, hr, ?_, h.hfn, ?_, h.inS, h.lenS, h.pg, h.ld⟩
  · exact h.file.mod hm (by decide) (by simp) (fun _ => h.ring.rbBlk)
  · exact h.pool.mod hm (by decide) (by simp) (fun _ => h.ring.rbBlk)
end Go.Proofs.YtllhgbanbelmaaaGreat

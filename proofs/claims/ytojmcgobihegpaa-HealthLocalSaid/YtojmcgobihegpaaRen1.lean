/-
  HealthRenamed: two names exchanged: plain facts, and the exchange itself.
-/
import Derived.Test.YtojmcgobihegpaaPlain
import Derived.Test.YtojmcgobihegpaaTells
import Derived.Maps.AppendAt
namespace Go.Proofs.Ytojmcgobihegpaa
open Go.RowKit
def swapS (a b s : ByteArray) : ByteArray := if s.toList == a.toList then b else if s.toList == b.toList then a else s
def swapR (a b : ByteArray) (r : HRow) : HRow := ⟨swapS a b r.m, swapS a b r.p, r.f, r.l, r.d⟩
theorem swapS_empty {a b : ByteArray} (ha : a.toList.isEmpty = false) (hb : b.toList.isEmpty = false) (s : ByteArray) : (swapS a b s).toList.isEmpty = s.toList.isEmpty := by
  unfold swapS
  split
  · rename_i h; rw [hb]
    have : s.toList = a.toList := by simpa using h
    rw [this, ha]
  · split
    · rename_i h; rw [ha]
      have : s.toList = b.toList := by simpa using h
      rw [this, hb]
    · rfl
theorem swapS_eq (a b s t : ByteArray) : ((swapS a b s).toList == (swapS a b t).toList) = (s.toList == t.toList) := by
  unfold swapS
  rw [Bool.eq_iff_iff]
  simp only [beq_iff_eq]
  split <;> split <;> (try split) <;> (try split) <;> grind
theorem swap_valid {a b : ByteArray} (ha : a.toList.isEmpty = false) (hb : b.toList.isEmpty = false) (r : HRow) : validB (swapR a b r) = validB r := by
  unfold validB swapR; rw [swapS_empty ha hb]
theorem swap_name {a b : ByteArray} (ha : a.toList.isEmpty = false) (hb : b.toList.isEmpty = false) (s t : ByteArray) : nameB (swapS a b s) (swapS a b t) = nameB s t := by
  unfold nameB; rw [swapS_empty ha hb, swapS_eq]
theorem swap_concerns {a b : ByteArray} (ha : a.toList.isEmpty = false) (hb : b.toList.isEmpty = false) (r : HRow) (m p : ByteArray) (f : Int) :
    concernsB (swapR a b r) (swapS a b m) (swapS a b p) f = concernsB r m p f := by
  unfold concernsB; rw [swap_valid ha hb]
  show (_ && decide (r.f = f) && nameB (swapS a b r.m) (swapS a b m) && nameB (swapS a b r.p) (swapS a b p)) = _
  rw [swap_name ha hb, swap_name ha hb]
theorem swap_rank {a b : ByteArray} (ha : a.toList.isEmpty = false) (hb : b.toList.isEmpty = false) (r : HRow) : rankZ (swapR a b r) = rankZ r := by
  unfold rankZ swapR; rw [swapS_empty ha hb, swapS_empty ha hb]
theorem swap_best {a b : ByteArray} (ha : a.toList.isEmpty = false) (hb : b.toList.isEmpty = false) (rs : List HRow) (m p : ByteArray) (f : Int) :
    bestIdx (rs.map (swapR a b)) (swapS a b m) (swapS a b p) f = bestIdx rs m p f := by
  refine isBest_unique (bestIdx_is _ _ _ _) ?_
  rw [List.length_map]
  rcases bestIdx_is rs m p f with ⟨h, hn⟩ | ⟨j, r, h, hj, hr, hc, hb'⟩
  · refine .inl ⟨h, fun i r' hi hr' => ?_⟩
    rw [List.getElem?_map] at hr'
    obtain ⟨r, hr, rfl⟩ := Option.map_eq_some_iff.1 hr'
    rw [swap_concerns ha hb]; exact hn i r hi hr
  · refine .inr ⟨j, swapR a b r, h, hj, by rw [List.getElem?_map, hr]; rfl, by rw [swap_concerns ha hb]; exact hc, fun i r' hi hr' hc' => ?_⟩
    rw [List.getElem?_map] at hr'
    obtain ⟨r0, hr0, rfl⟩ := Option.map_eq_some_iff.1 hr'
    rw [swap_concerns ha hb] at hc'
    rw [swap_rank ha hb, swap_rank ha hb]
    exact hb' i r0 hi hr0 hc'
theorem swap_row {a b : ByteArray} (ha : a.toList.isEmpty = false) (hb : b.toList.isEmpty = false) (rs : List HRow) (m p : ByteArray) (f : Int) :
    rowI (rs.map (swapR a b)) (swapS a b m) (swapS a b p) f = rowI rs m p f ∧ rowE (swapS a b p) f = rowE p f := by
  unfold rowI rowE badB
  rw [swapS_empty ha hb, swap_best ha hb]
  exact ⟨rfl, rfl⟩
set_option maxHeartbeats 400000 in
theorem swap_any (a b s : ByteArray) (ba bb : Nat) (w : World) (h1 : w.cell? ⟨ba, 0, none⟩ = some (.string a)) (h2 : w.cell? ⟨bb, 0, none⟩ = some (.string b)) :
    Calls Try.prog 22 #[.string s, .pointer (some ⟨ba, 0, none⟩), .pointer (some ⟨bb, 0, none⟩)] w fun e w' => e = .returned (.string (swapS a b s)) ∧ w = w' := by
  have HS := hide (show swapS a b s = if s.toList == a.toList then b else if s.toList == b.toList then a else s from rfl)
  cases c1 : (s.toList == a.toList)
  · cases c2 : (s.toList == b.toList)
    · go_enter Try.func22, Try.ntmps22
      go_wp2
      go_ret
      exact ⟨by rw [HS.out, c1, c2]; rfl, rfl⟩
    · go_enter Try.func22, Try.ntmps22
      go_wp2
      go_ret
      exact ⟨by rw [HS.out, c1, c2]; rfl, rfl⟩
  · go_enter Try.func22, Try.ntmps22
    go_wp2
    go_ret
    exact ⟨by rw [HS.out, c1]; rfl, rfl⟩
/-! A slice of rows that the call itself has made. -/
def flat (rs : List HRow) : List Value := rs.flatMap fun r => r.cells.toList
theorem flat_snoc (rs : List HRow) (r : HRow) : flat (rs ++ [r]) = flat rs ++ r.cells.toList := by simp [flat]
theorem flat_at (rs : List HRow) (i : Nat) (r : HRow) (h : rs[i]? = some r) (j : Nat) (hj : j < 5) : (flat rs)[i * 5 + j]? = r.cells[j]? := by
  induction rs generalizing i with
  | nil => simp at h
  | cons x rs ih =>
    have hx : x.cells.toList.length = 5 := rfl
    show (x.cells.toList ++ flat rs)[i * 5 + j]? = _
    cases i with
    | zero =>
      simp only [List.getElem?_cons_zero, Option.some.injEq] at h
      subst h
      rw [List.getElem?_append_left (by omega)]
      simp
    | succ i =>
      rw [List.getElem?_append_right (by omega)]
      have : (i + 1) * 5 + j - x.cells.toList.length = i * 5 + j := by omega
      rw [this]
      exact ih i (by simpa using h)
theorem hrows_own {w : World} {base n : Nat} {v : Value} {rs : List HRow} (h : w.ownsRow base 36 5 v n (flat rs)) (hl : rs.length = n) (hok : ∀ r ∈ rs, r.ok) :
    ∃ a cap, v = .slice a n cap ∧ Hid (HRows w.heap.size w a rs) := by
  rcases h.2 with ⟨rfl, rfl⟩ | ⟨g, cap, cur, rfl, _, hg, _⟩
  · exact ⟨none, 0, rfl, .inl (List.eq_nil_of_length_eq_zero hl)⟩
  · refine ⟨some ⟨g, 0, none⟩, cap, rfl, .inr ⟨g, 0, rfl, (Array.getElem?_eq_some_iff.1 hg).1, fun i r hr => ?_⟩⟩
    have hi : i < n := by rw [← hl]; exact (List.getElem?_eq_some_iff.1 hr).1
    have hc : ∀ j, j < 5 → w.cell? ⟨g, i * 5 + j, none⟩ = r.cells[j]? := fun j hj => by
      rw [World.ownsRow.cellAt h (i * 5 + j) (by omega), flat_at rs i r hr j hj]
    refine ⟨hok r (List.mem_of_getElem? hr), ?_, ?_, ?_, ?_, ?_⟩
    · simpa [HRow.cells] using hc 0 (by omega)
    · simpa [HRow.cells] using hc 1 (by omega)
    · simpa [HRow.cells] using hc 2 (by omega)
    · simpa [HRow.cells] using hc 3 (by omega)
    · simpa [HRow.cells] using hc 4 (by omega)
theorem rowInfo : (Try.prog.info? 36).map (fun i => (i.zero, i.size, i.bytes)) = some (some (.agg #[.string ⟨#[]⟩, .string ⟨#[]⟩, .int .u8 0, .int .u8 0, .int .u8 0]), 5, 40) := by kernel_rfl
end Go.Proofs.Ytojmcgobihegpaa

/-
  lex: (*scanner).skip.
-/
import Derived.Test.YteghlkcgeadoaaaDoorStarts
import Derived.Test.YteghlkcgeadoaaaDoorLexP
import Derived.Deep.RegionHeld3
namespace Go.Proofs.YteghlkcgeadoaaaDoor
open Go.RowKit
open Go.MuLone (run_callFunc_enter)
def blankT : UInt8 → Bool := amgB ⟨#[32, 9, 10, 13]⟩
def hashT : UInt8 → Bool := amgB ⟨#[35]⟩
def lineT : UInt8 → Bool := fun b => b != 10
theorem blankT_eq (b : UInt8) : blankT b = blankB b := by
  show [32, 9, 10, 13].contains b = blankB b
  simp only [blankB, List.contains_cons, List.contains_nil, Bool.or_false, Bool.or_assoc]
theorem hashT_eq (b : UInt8) : hashT b = (b == 35) := by
  show [35].contains b = (b == 35)
  simp only [List.contains_cons, List.contains_nil, Bool.or_false]
/-- Where what is skipped from j on ends. -/
def skipTo (src : ByteArray) (j : Nat) : Nat := j + skipN false ((toksL src).drop j)
theorem drop_run (p : UInt8 → Bool) (l : List UInt8) : l.drop (l.takeWhile p).length = l.dropWhile p := by
  conv => lhs; arg 2; rw [← List.takeWhile_append_dropWhile (p := p) (l := l)]
  rw [List.drop_left]
theorem skip_blanks : ∀ l : List UInt8, skipN false l = (l.takeWhile blankT).length + skipN false (l.dropWhile blankT)
  | [] => rfl
  | b :: r => by
    by_cases hb : blankT b = true
    · rw [List.takeWhile_cons, if_pos hb, List.dropWhile_cons, if_pos hb, List.length_cons, skipN_f, if_pos (by rw [← blankT_eq]; exact hb), skip_blanks r]
      omega
    · rw [List.takeWhile_cons, if_neg hb, List.dropWhile_cons, if_neg hb]
      simp
theorem skip_line : ∀ l : List UInt8, skipN true l = (l.takeWhile lineT).length + skipN false (l.dropWhile lineT)
  | [] => rfl
  | b :: r => by
    by_cases hb : lineT b = true
    · have h10 : (b == 10) = false := by simpa [lineT] using hb
      rw [List.takeWhile_cons, if_pos hb, List.dropWhile_cons, if_pos hb, List.length_cons, skipN_t, h10, skip_line r]
      simp; omega
    · have h10 : b = 10 := by simpa [lineT] using hb
      rw [List.takeWhile_cons, if_neg hb, List.dropWhile_cons, if_neg hb, skipN_t, skipN_f, h10]
      simp [blankB]
theorem runTo_le (p : UInt8 → Bool) (src : ByteArray) (j : Nat) (hj : j ≤ src.size) : j ≤ runTo p src j ∧ runTo p src j ≤ src.size := by
  unfold runTo
  have h := (List.takeWhile_prefix (l := (toksL src).drop j) p).length_le
  have hl : (toksL src).length = src.size := by simp [toksL]
  rw [List.length_drop, hl] at h
  exact ⟨by omega, by omega⟩
theorem drop_runTo (p : UInt8 → Bool) (src : ByteArray) (j : Nat) : (toksL src).drop (runTo p src j) = ((toksL src).drop j).dropWhile p := by
  unfold runTo
  rw [← List.drop_drop, drop_run]
theorem skipTo_blank (src : ByteArray) (j : Nat) : skipTo src (runTo blankT src j) = skipTo src j := by
  unfold skipTo
  rw [drop_runTo, skip_blanks ((toksL src).drop j)]
  unfold runTo
  omega
theorem skipTo_hash (src : ByteArray) (j : Nat) (hj : j < src.size) (h : src[j] = 35) : skipTo src (runTo lineT src j) = skipTo src j := by
  unfold skipTo
  rw [drop_runTo]
  unfold runTo
  rw [toksL_drop src j hj, h, skipN_f, List.takeWhile_cons, List.dropWhile_cons]
  simp only [show blankB 35 = false from by decide, show lineT 35 = true from by decide, show ((35 : UInt8) == 35) = true from by decide]
  rw [skip_line]
  simp; omega
theorem runTo_stop (p : UInt8 → Bool) (src : ByteArray) (j : Nat) (hj : runTo p src j < src.size) : p src[runTo p src j] = false := by
  have h := drop_runTo p src j
  rw [toksL_drop src _ hj] at h
  have h2 := List.head?_dropWhile_not p ((toksL src).drop j)
  rw [← h] at h2
  simpa using h2
theorem skipTo_stop (src : ByteArray) (j : Nat) (hb : (j < src.size) → ∃ h : j < src.size, blankT src[j] = false ∧ hashT src[j] = false) (_hj : j ≤ src.size) : skipTo src j = j := by
  unfold skipTo
  rcases Nat.lt_or_ge j src.size with h | h
  · obtain ⟨_, h1, h2⟩ := hb h
    rw [toksL_drop src j h, skipN_f, ← blankT_eq, h1, ← hashT_eq, h2]
    simp
  · rw [List.drop_eq_nil_of_le (by simpa [toksL] using h)]
    simp [skipN]
set_option maxRecDepth 100000 in
set_option maxHeartbeats 400000 in
theorem line_any (b : UInt8) (W : World) : Calls Tryd.prog 45 #[.int .u8 (b.toNat : Int)] W fun e W' => e = .returned (.bool (lineT b)) ∧ Below W.heap.size W W' := by
  have HL : Hid (lineT b = !decide (b.toNat = 10)) := by
    show lineT b = _
    unfold lineT
    rw [Bool.eq_iff_iff]
    simp [bne_iff_ne, ← UInt8.toNat_inj]
  generalize b.toNat = n at *
  by_cases h : n = 10
  · have HR := hide (show lineT b = false by rw [HL.out]; simp [h])
    have h1 : ((n : Int) != 10) = false := by simp; omega
    clear h
    go_enter Tryd.func45, Tryd.ntmps45
    go_wp2_with fail
    go_ret
    exact ⟨by rw [HR.out]; simp at h1; simp, Below.refl _ _⟩
  · have HR := hide (show lineT b = true by rw [HL.out]; simp [h])
    have h1 : ((n : Int) != 10) = true := by simp; omega
    clear h
    go_enter Tryd.func45, Tryd.ntmps45
    go_wp2_with fail
    go_ret
    exact ⟨by rw [HR.out]; simp at h1; simp, Below.refl _ _⟩
theorem line_is (w : World) : IsT (fun _ => False) w 45 #[] lineT :=
  ⟨fun k h => h.elim, fun args W => run_callFunc_enter (c := ((Tryd.f45).body.getD .skip)) Tryd.func45 (by kernel_rfl) (by kernel_rfl) args W, fun W _ b => line_any b W⟩
theorem AtJ.belowD {sb j : Nat} {a b c : World} (h : AtJ sb j a b) (hsb : sb < a.heap.size) (k : Below b.drew.heap.size b.drew c) : AtJ sb j a c :=
  h.below hsb (((Below.refl _ _).drew).trans k)
/-- What holds at the head of skip's loop. -/
structure SkR (src : ByteArray) (k j : Nat) : Prop where
  le : j ≤ src.size
  to : skipTo src j = skipTo src k
  stop : ∀ h : j < src.size, blankT src[j] = false
theorem SkR.start (src : ByteArray) (k : Nat) (hk : k ≤ src.size) : SkR src k (runTo blankT src k) :=
  ⟨(runTo_le _ _ _ hk).2, skipTo_blank src k, fun h => runTo_stop _ _ _ h⟩
theorem SkR.step {src : ByteArray} {k j : Nat} (h : SkR src k j) (hj : j < src.size) (hh : hashT src[j] = true) : SkR src k (runTo blankT src (runTo lineT src j)) ∧ j < runTo blankT src (runTo lineT src j) := by
  have e : src[j] = 35 := by rw [hashT_eq] at hh; simpa using hh
  have h1 := runTo_yes lineT src j hj (by rw [e]; rfl)
  have h2 := runTo_le lineT src (j + 1) hj
  rw [h1] at h2
  have h3 := runTo_le blankT src (runTo lineT src j) h2.2
  have h4 := SkR.start src (runTo lineT src j) h2.2
  exact ⟨⟨h3.2, h4.to.trans ((skipTo_hash src j hj e).trans h.to), h4.stop⟩, by omega⟩
theorem SkR.done {src : ByteArray} {k j : Nat} (h : SkR src k j) (hh : ∀ hj : j < src.size, hashT src[j] = false) : skipTo src k = j := by
  rw [← h.to]
  exact skipTo_stop src j (fun hj => ⟨hj, h.stop hj, hh hj⟩) h.le
theorem far_of {sb : Nat} {w : World} (h : sb < w.heap.size) : Hid (∀ i, (fun k => k = w.heap.size) i → i ≠ sb) := hide fun i hi e => by have hi' : i = w.heap.size := hi; omega
theorem more_v (sb f k : Nat) (caps : Array Value) (p : UInt8 → Bool) (F : Nat → Prop) (src : ByteArray) (W : World) (c0 : W.cell? ⟨sb, 0, none⟩ = some (.string src)) (c1 : W.cell? ⟨sb, 1, none⟩ = some (.int .i64 (k : Int))) (hk : k < src.size) (hs : src.size ≤ 1099511627776) (hT : Hid (IsT F W f caps p)) (v : Bool) (hv : p src[k] = v) :
    Calls Tryd.prog 44 #[.pointer (some ⟨sb, 0, none⟩), .func (.func f) #[] caps] W fun e W' => e = .returned (.bool v) ∧ Below W.heap.size W W' := by
  subst hv
  exact more_yes sb f k caps p F src W c0 c1 hk hs hT
set_option maxRecDepth 100000 in
set_option maxHeartbeats 1000000 in
theorem skip_any (sb k : Nat) (src : ByteArray) (W : World) (c0 : Hid (W.cell? ⟨sb, 0, none⟩ = some (.string src))) (c1 : Hid (W.cell? ⟨sb, 1, none⟩ = some (.int .i64 (k : Int)))) (cf : Hid (W.frozen? ⟨sb, 1, none⟩ = false)) (hk : k ≤ src.size) (hs : src.size ≤ 1099511627776) :
    Calls Tryd.prog 30 #[.pointer (some ⟨sb, 0, none⟩)] W fun e W' => e = .returned (.tuple #[]) ∧ AtJ sb (skipTo src k) W W' := by
  have hsb : sb < W.heap.size := World.block_lt_of_cell? W ⟨sb, 0, none⟩ c0.out
  have HA := hide (fun s w => among_any s w)
  have HJ0 := hide (AtJ.start c1.out cf.out)
  go_enter Tryd.func30, Tryd.ntmps30
  go_wp2_with fail
  go_region_held3 (fun w' => True) (trivial)
    (first
      | (go_at_call 28; refine (HA.out _ _).mono ?_; rintro e w1 ⟨k1, rfl, hT1, hb1⟩; have HT1 := hide hT1; have HJ1 := hide (HJ0.out.belowD hsb hb1); clear hT1 hb1)
      | (go_at_call 43; refine (while_any sb _ k _ _ _ src _ (hide ((HJ1.out.rest 0 (by decide)).trans c0.out)) (hide HJ1.out.here) (hide HJ1.out.free) (by assumption) hs HT1 (far_of (Nat.lt_of_lt_of_le hsb HJ0.out.kept.size))).mono ?_; rintro e w2 ⟨rfl, hJ2⟩; have HJ2 := hide (HJ1.out.trans hJ2); clear hJ2))
  go_wp2_with fail
  go_loopw [] (fun wr => ∃ j : Nat, SkR src k j ∧ AtJ sb j W wr) (fun wr => src.size - atOf sb wr)
  case atStart => exact ⟨_, SkR.start src k hk, HJ2.out⟩
  case round =>
    obtain ⟨j, hR, hJ⟩ := hrel
    have HR := hide hR
    have HJ := hide hJ
    have hj : j ≤ src.size := hR.le
    clear hR hJ
    by_cases hlt : j < src.size
    · cases hh : hashT src[j]
      · have HD := hide (HR.out.done (fun _ => hh))
        have HH : Hid (amgB ⟨#[35]⟩ src[j] = false) := hide hh
        clear hh
        go_wp2_with fail
        go_region_held3 (fun w' => True) (trivial)
          (first
            | (go_at_call 28; refine (HA.out _ _).mono ?_; rintro e w1 ⟨k1, rfl, hT1, hb1⟩; have HT1 := hide hT1; have HJ1 := hide (HJ.out.belowD hsb hb1); clear hT1 hb1)
            | (go_at_call 44; refine (more_v sb _ j _ _ _ src _ ((HJ1.out.rest 0 (by decide)).trans c0.out) HJ1.out.here hlt hs HT1 false HH.out).mono ?_; rintro e w2 ⟨rfl, hb2⟩; have HJ2 := hide (HJ1.out.below hsb hb2); clear hb2))
        go_wp2_with fail
        go_end0
        exact ⟨rfl, by rw [HD.out]; exact HJ2.out⟩
      · have HS := hide (HR.out.step hlt hh)
        have HH : Hid (amgB ⟨#[35]⟩ src[j] = true) := hide hh
        have hr1 := (runTo_le lineT src j hj).2
        clear hh
        go_wp2_with fail
        go_region_held3 (fun w' => True) (trivial)
          (first
            | (go_at_call 28; refine (HA.out _ _).mono ?_; rintro e w1 ⟨k1, rfl, hT1, hb1⟩; have HT1 := hide hT1; have HJ1 := hide (HJ.out.belowD hsb hb1); clear hT1 hb1)
            | (go_at_call 44; refine (more_v sb _ j _ _ _ src _ ((HJ1.out.rest 0 (by decide)).trans c0.out) HJ1.out.here hlt hs HT1 true HH.out).mono ?_; rintro e w2 ⟨rfl, hb2⟩; have HJ2 := hide (HJ1.out.below hsb hb2); clear hb2))
        clear HJ1 HT1
        go_wp2_with fail
        refine (while_any sb _ j _ _ _ src _ (hide ((HJ2.out.rest 0 (by decide)).trans c0.out)) (hide HJ2.out.here) (hide HJ2.out.free) hj hs (hide (line_is _)) (hide (fun i hi => hi.elim))).mono ?_
        rintro e w3 ⟨rfl, hJ3⟩
        have HJ3 := hide (HJ2.out.trans hJ3)
        clear hJ3
        go_wp2_with fail
        go_region_held3 (fun w' => True) (trivial)
          (first
            | (go_at_call 28; refine (HA.out _ _).mono ?_; rintro e w1 ⟨k1, rfl, hT1, hb1⟩; have HT1 := hide hT1; have HJ1 := hide (HJ3.out.belowD hsb hb1); clear hT1 hb1)
            | (go_at_call 43; refine (while_any sb _ (runTo lineT src j) _ _ _ src _ (hide ((HJ1.out.rest 0 (by decide)).trans c0.out)) (hide HJ1.out.here) (hide HJ1.out.free) (by assumption) hs HT1 (far_of (Nat.lt_of_lt_of_le hsb HJ3.out.kept.size))).mono ?_; rintro e w2 ⟨rfl, hJ2⟩; have HJ4 := hide (HJ1.out.trans hJ2); clear hJ2))
        go_wp2_with fail
        have m2 : atOf sb wr = j := by unfold atOf; rw [HJ.out.here]; simp [intOf]
        have m1 : atOf sb w2 = runTo blankT src (runTo lineT src j) := by unfold atOf; rw [HJ4.out.here]; simp [intOf]; rfl
        have HM := hide (show src.size - atOf sb w2 < src.size - atOf sb wr by rw [m1, m2]; have := HS.out.2; omega)
        clear m1 m2
        go_roundw
        case rel => exact ⟨_, HS.out.1, HJ4.out⟩
        case measure => exact HM.out
    · have HD := hide (HR.out.done (fun h => absurd h hlt))
      go_wp2_with fail
      go_region_held3 (fun w' => True) (trivial)
        (first
          | (go_at_call 28; refine (HA.out _ _).mono ?_; rintro e w1 ⟨k1, rfl, hT1, hb1⟩; have HT1 := hide hT1; have HJ1 := hide (HJ.out.belowD hsb hb1); clear hT1 hb1)
          | (go_at_call 44; refine (more_end sb j _ src _ ((HJ1.out.rest 0 (by decide)).trans c0.out) HJ1.out.here (Nat.le_of_not_lt hlt) hs).mono ?_; rintro e w2 ⟨rfl, hb2⟩; have HJ2 := hide (HJ1.out.below hsb hb2); clear hb2))
      go_wp2_with fail
      go_end0
      exact ⟨rfl, by rw [HD.out]; exact HJ2.out⟩
end Go.Proofs.YteghlkcgeadoaaaDoor

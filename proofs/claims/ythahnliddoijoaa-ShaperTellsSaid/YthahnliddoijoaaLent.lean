/-
  nacellekit: mark, markByte, LentInts, LentBytes, KeptInts, KeptBytes, OverInts, OverBytes.
-/
import Derived.Test.YthahnliddoijoaaIts
import Derived.Laws.MakeOwn
import Derived.Deep.AppendLies
namespace Go.Proofs.Ythahnliddoijoaa
open Go.RowKit
def mkI (k i : Int) : Int := 1000003 * (k + 7) + i
set_option maxRecDepth 100000 in
set_option maxHeartbeats 400000 in
theorem mark_any (k i : Int) (w : World) (k0 : 0 ≤ k) (k1 : k ≤ 1000) (i0 : 0 ≤ i) (i1 : i ≤ 281474976710656) : Calls Try.prog 32 #[.int .i64 k, .int .i64 i] w fun e w' => e = .returned (.int .i64 (mkI k i)) ∧ w = w' := by
  have HM : Hid (mkI k i = 1000003 * (k + 7) + i) := rfl
  go_enter Try.func32, Try.ntmps32
  go_wp2_with fail
  go_ret
  exact ⟨by rw [HM.out]; rfl, rfl⟩
def mkB (k i : Int) : Int := IntKind.u64.wrap (IntKind.u64.wrap (mkI k i) * 11400714819323198485) / 72057594037927936 % 256
set_option maxRecDepth 100000 in
set_option maxHeartbeats 400000 in
theorem markByte_any (k i : Int) (w : World) (k0 : 0 ≤ k) (k1 : k ≤ 1000) (i0 : 0 ≤ i) (i1 : i ≤ 281474976710656) : Calls Try.prog 54 #[.int .i64 k, .int .i64 i] w fun e w' => e = .returned (.int .u8 (mkB k i)) ∧ w = w' := by
  have HM := hide (fun w => mark_any k i w k0 k1 i0 i1)
  have HB : Hid (mkB k i = IntKind.u64.wrap (IntKind.u64.wrap (mkI k i) * 11400714819323198485) / 72057594037927936 % 256) := rfl
  generalize mkI k i = m at *
  go_enter Try.func54, Try.ntmps54
  go_wp2_with fail
  refine (HM.out _).mono ?_
  rintro e w' ⟨rfl, rfl⟩
  go_wp2_with fail
  go_ret
  exact ⟨by rw [HB.out]; rfl, rfl⟩
/-- The marks behind a lent slice. -/
def mks (f : Int → Int → Int) (k : Int) (n : Nat) : List Int := (List.range n).map fun i : Nat => f k i
theorem mks_succ (f : Int → Int → Int) (k : Int) (n : Nat) : mks f k (n + 1) = mks f k n ++ [f k n] := by unfold mks; rw [List.range_succ, List.map_append]; rfl
theorem mks_len (f : Int → Int → Int) (k : Int) (n : Nat) : (mks f k n).length = n := by unfold mks; simp
theorem mks_at (f : Int → Int → Int) (k : Int) {n i : Nat} (h : i < n) : (mks f k n)[i]? = some (f k i) := by unfold mks; simp [h]
theorem slice_of_own {w : World} {base e size n : Nat} {v : Value} {xs : List Value} (h : w.ownsRow base e size v n xs) (hn : 0 < n) : ∃ g cap, v = .slice (some ⟨g, 0, none⟩) n cap ∧ base ≤ g ∧ g < w.heap.size ∧ n ≤ cap ∧ cap ≤ maxLen := by
  rcases h.2 with ⟨-, h0⟩ | ⟨g, cap, cur, hv, hb, hg, hnc, hcm, -, -⟩
  · omega
  · exact ⟨g, cap, hv, hb, blk_in hg, hnc, hcm⟩
theorem Ints.reads {w : World} {A : Option Addr} {n : Nat} {zs : List Int} {F : Nat → Prop} (h : Ints w A n zs F) : Reads w w.heap.size 1 A n (ints zs) := by
  refine ⟨by unfold ints; rw [List.length_map, h.1, Nat.mul_one], fun hn => ?_⟩
  obtain ⟨b, off, h1, h2, h3, h4⟩ := h.2 hn
  refine ⟨_, h1, h3, fun j v hv => ?_⟩
  unfold ints at hv
  rw [List.getElem?_map] at hv
  cases hz : zs[j]? with
  | none => rw [hz] at hv; cases hv
  | some z => rw [hz] at hv; injection hv with hv; subst hv; rw [Addr.add_mid]; exact h4 j z hz
theorem Bts.reads {w : World} {A : Option Addr} {n : Nat} {zs : List Int} {F : Nat → Prop} (h : Bts w A n zs F) : Reads w w.heap.size 1 A n (u8s zs) := by
  refine ⟨by rw [u8s_len, h.1, Nat.mul_one], fun hn => ?_⟩
  obtain ⟨b, off, h1, h2, h3, h4⟩ := h.2 hn
  refine ⟨_, h1, h3, fun j v hv => ?_⟩
  unfold u8s at hv
  rw [List.getElem?_map] at hv
  cases hz : zs[j]? with
  | none => rw [hz] at hv; cases hv
  | some z => rw [hz] at hv; injection hv with hv; subst hv; rw [Addr.add_mid]; exact h4 j z hz
theorem make_lentInts (n : Nat) (h : n ≤ 1099511627776) (W : World) : (Instr.makeSlice 22 (.int .i64 0) (.int .i64 ((n : Int) + 12))).run Try.prog W = .ok (.slice (some ⟨W.heap.size, 0, none⟩) 0 (n + 12)) (W.alloc (.cells (madeCells (Value.cells (.int .i64 0)) (n + 12)) 3)) := by
  obtain ⟨i0, hi, hz0, hz1, hz2⟩ := info_parts intInfo
  have := run_make (P := Try.prog) W 22 3 i0 (.int .i64 0) Try.underlying22 hi hz0 .i64 .i64 0 ((n : Int) + 12) (by omega) (by omega) (by rw [hz2]; omega) (by omega)
  rw [hz1, Nat.mul_one, show ((n : Int) + 12).toNat = n + 12 by omega] at this
  exact this
set_option maxRecDepth 100000 in
set_option maxHeartbeats 1000000 in
theorem lentInts_any (A : Option Addr) (n cap : Nat) (zs : List Int) (F : Nat → Prop) (w : World) (hn : n ≤ 1000000) (h : Hid (Ints w A n zs F)) :
    Calls Try.prog 14 #[.slice A n cap] w fun e w' => ∃ g c, e = .returned (.slice (some ⟨g, 0, none⟩) n c) ∧ w'.ownsRow w.heap.size 3 1 (.slice (some ⟨g, 0, none⟩) (n + 12) c) (n + 12) (ints (zs ++ mks mkI 1 12)) ∧ Below w.heap.size w w' := by
  obtain ⟨i0, hi0, hz0, hz1, hz2⟩ := info_parts intInfo
  have hmk := fun W => make_lentInts n (by omega) W
  have HOW0 := hide (World.ownsRow_made (base := w.heap.size) (e := 3) (size := 1) w (madeCells (Value.cells (.int .i64 0)) (n + 12)) (n + 12) (Nat.le_refl _) (by unfold maxLen; omega) (by simp [madeCells, Value.cells]))
  have HRD := hide (h.out.swap (F' := F) (w' := w.alloc (.cells (madeCells (Value.cells (.int .i64 0)) (n + 12)) 3)) (G := fun _ => False) ((Kept.refl _ _).alloc _) (fun _ h => h.elim) (fun _ h => .inl h)).reads
  have HL := hide h.out.1
  go_enter Try.func14, Try.ntmps14
  go_wp2_with (at_builtin; refine wpList_append_any _ rfl _ _ 22 rfl w.heap.size 3 i0 _ 1 8 Try.underlying22 hi0 hz0 hz1 hz2 rfl (by decide) _ 0 [] rfl HOW0.out _ A n cap (ints zs) rfl HRD.out (ints_one zs) (by unfold maxLen; omega) (by omega) (by simp) ?_; intro v1 w1 hown1 hg1 _)
  have hb1 : Below w.heap.size w w1 := ((Below.refl _ _).alloc (Nat.le_refl _) _).grown hg1 (by simp) (fun r hr => (HOW0.out.lt r hr).1)
  have hown1' : w1.ownsRow w.heap.size 3 1 v1 (n + 0) (ints (zs ++ mks mkI 1 0)) := by simpa [mks] using hown1
  have HO1 := hide hown1'
  have HB1 := hide hb1
  clear hown1 hown1' hb1 hg1 hmk HOW0 HRD h
  go_loopw [3, 4] (fun v3 v4 wr => ∃ k : Nat, k ≤ 12 ∧ v4 = .int .i64 k ∧ wr.ownsRow w.heap.size 3 1 v3 (n + k) (ints (zs ++ mks mkI 1 k)) ∧ Below w.heap.size w wr) (fun _ v4 _ => 12 - (intOf v4).toNat)
  case atStart => exact ⟨0, by omega, rfl, HO1.out, HB1.out⟩
  case round =>
    obtain ⟨k, hk, rfl, hown, hbr⟩ := hrel
    have HOW := hide hown
    have HBR := hide hbr
    clear hown hbr HO1 HB1
    by_cases hlt : k < 12
    · have HM := hide (fun w => mark_any 1 k w (by omega) (by omega) (by omega) (by omega))
      generalize hm : mkI 1 k = m at HM
      have hm2 := hide hm
      clear hm
      have hz := HBR.out.size
      go_wp2_with (first
        | (go_at_call 32; refine (HM.out _).mono ?_; rintro e w' ⟨rfl, rfl⟩)
        | (at_builtin; refine wpList_append_own _ rfl _ _ 22 rfl w.heap.size 3 i0 _ 1 8 Try.underlying22 hi0 hz0 hz1 hz2 rfl (by decide) _ _ _ rfl (HOW.out.alloc _) ⟨wr.heap.size, 0, none⟩ 1 1 [_] rfl rfl (new1 wr _ _ _ rfl) (by simp [Value.oneCell']) (by unfold maxLen; omega) (by omega) (by simp; omega) ?_; intro v' w1 hown' hgrow _))
      go_roundw
      case rel =>
        refine ⟨k + 1, by omega, by go_num, ?_, ?_⟩
        · rw [mks_succ, hm2.out]
          have e : ints (zs ++ (mks mkI 1 k ++ [m])) = ints (zs ++ mks mkI 1 k) ++ [.int .i64 m] := by unfold ints; simp
          rw [e]
          exact hown'
        · exact (HBR.out.alloc HBR.out.size _).grown hgrow (by simp; omega) (fun r hr => by have := (HOW.out.lt r hr).1; omega)
      case measure => simp [intOf]; omega
    · obtain rfl : k = 12 := by omega
      obtain ⟨g, c, hv, hb, hlt2, hc1, hc2⟩ := slice_of_own HOW.out (by omega)
      unfold maxLen at hc2
      subst hv
      go_wp2_with fail
      go_ret
      exact ⟨g, c, rfl, HOW.out, HBR.out⟩
theorem make_lentBytes (n : Nat) (h : n ≤ 1099511627776) (W : World) : (Instr.makeSlice 31 (.int .i64 0) (.int .i64 ((n : Int) + 12))).run Try.prog W = .ok (.slice (some ⟨W.heap.size, 0, none⟩) 0 (n + 12)) (W.alloc (.cells (madeCells (Value.cells (.int .u8 0)) (n + 12)) 5)) := by
  obtain ⟨i0, hi, hz0, hz1, hz2⟩ := info_parts u8Info
  have := run_make (P := Try.prog) W 31 5 i0 (.int .u8 0) Try.underlying31 hi hz0 .i64 .i64 0 ((n : Int) + 12) (by omega) (by omega) (by rw [hz2]; omega) (by omega)
  rw [hz1, Nat.mul_one, show ((n : Int) + 12).toNat = n + 12 by omega] at this
  exact this
set_option maxRecDepth 100000 in
set_option maxHeartbeats 1000000 in
theorem lentBytes_any (A : Option Addr) (n cap : Nat) (zs : List Int) (F : Nat → Prop) (w : World) (hn : n ≤ 1000000) (h : Hid (Bts w A n zs F)) :
    Calls Try.prog 48 #[.slice A n cap] w fun e w' => ∃ g c, e = .returned (.slice (some ⟨g, 0, none⟩) n c) ∧ w'.ownsRow w.heap.size 5 1 (.slice (some ⟨g, 0, none⟩) (n + 12) c) (n + 12) (u8s (zs ++ mks mkB 1 12)) ∧ Below w.heap.size w w' := by
  obtain ⟨i0, hi0, hz0, hz1, hz2⟩ := info_parts u8Info
  have hmk := fun W => make_lentBytes n (by omega) W
  have HOW0 := hide (World.ownsRow_made (base := w.heap.size) (e := 5) (size := 1) w (madeCells (Value.cells (.int .u8 0)) (n + 12)) (n + 12) (Nat.le_refl _) (by unfold maxLen; omega) (by simp [madeCells, Value.cells]))
  have HRD := hide (h.out.swap (F' := F) (w' := w.alloc (.cells (madeCells (Value.cells (.int .u8 0)) (n + 12)) 5)) (G := fun _ => False) ((Kept.refl _ _).alloc _) (fun _ h => h.elim) (fun _ h => .inl h)).reads
  have HL := hide h.out.1
  go_enter Try.func48, Try.ntmps48
  go_wp2_with (at_builtin; refine wpList_append_any _ rfl _ _ 31 rfl w.heap.size 5 i0 _ 1 1 Try.underlying31 hi0 hz0 hz1 hz2 rfl (by decide) _ 0 [] rfl HOW0.out _ A n cap (u8s zs) rfl HRD.out (u8s_one zs) (by unfold maxLen; omega) (by omega) (by simp) ?_; intro v1 w1 hown1 hg1 _)
  have hb1 : Below w.heap.size w w1 := ((Below.refl _ _).alloc (Nat.le_refl _) _).grown hg1 (by simp) (fun r hr => (HOW0.out.lt r hr).1)
  have hown1' : w1.ownsRow w.heap.size 5 1 v1 (n + 0) (u8s (zs ++ mks mkB 1 0)) := by simpa [mks] using hown1
  have HO1 := hide hown1'
  have HB1 := hide hb1
  clear hown1 hown1' hb1 hg1 hmk HOW0 HRD h
  go_loopw [3, 4] (fun v3 v4 wr => ∃ k : Nat, k ≤ 12 ∧ v4 = .int .i64 k ∧ wr.ownsRow w.heap.size 5 1 v3 (n + k) (u8s (zs ++ mks mkB 1 k)) ∧ Below w.heap.size w wr) (fun _ v4 _ => 12 - (intOf v4).toNat)
  case atStart => exact ⟨0, by omega, rfl, HO1.out, HB1.out⟩
  case round =>
    obtain ⟨k, hk, rfl, hown, hbr⟩ := hrel
    have HOW := hide hown
    have HBR := hide hbr
    clear hown hbr HO1 HB1
    by_cases hlt : k < 12
    · have HM := hide (fun w => markByte_any 1 k w (by omega) (by omega) (by omega) (by omega))
      generalize hm : mkB 1 k = m at HM
      have hm2 := hide hm
      clear hm
      have hz := HBR.out.size
      go_wp2_with (first
        | (go_at_call 54; refine (HM.out _).mono ?_; rintro e w' ⟨rfl, rfl⟩)
        | (at_builtin; refine wpList_append_own _ rfl _ _ 31 rfl w.heap.size 5 i0 _ 1 1 Try.underlying31 hi0 hz0 hz1 hz2 rfl (by decide) _ _ _ rfl (HOW.out.alloc _) ⟨wr.heap.size, 0, none⟩ 1 1 [_] rfl rfl (new1 wr _ _ _ rfl) (by simp [Value.oneCell']) (by unfold maxLen; omega) (by omega) (by simp; omega) ?_; intro v' w1 hown' hgrow _))
      go_roundw
      case rel =>
        refine ⟨k + 1, by omega, by go_num, ?_, ?_⟩
        · rw [mks_succ, hm2.out]
          have e : u8s (zs ++ (mks mkB 1 k ++ [m])) = u8s (zs ++ mks mkB 1 k) ++ [.int .u8 m] := by unfold u8s; simp
          rw [e]
          exact hown'
        · exact (HBR.out.alloc HBR.out.size _).grown hgrow (by simp; omega) (fun r hr => by have := (HOW.out.lt r hr).1; omega)
      case measure => simp [intOf]; omega
    · obtain rfl : k = 12 := by omega
      obtain ⟨g, c, hv, hb, hlt2, hc1, hc2⟩ := slice_of_own HOW.out (by omega)
      unfold maxLen at hc2
      subst hv
      go_wp2_with fail
      go_ret
      exact ⟨g, c, rfl, HOW.out, HBR.out⟩
end Go.Proofs.Ythahnliddoijoaa

/-
  health.concerning: the iterator over the rows that concern a fault.
-/
import Derived.Test.YtojmcgobihegpaaRow1
import Derived.RangeFuncNested
import Derived.RangeFuncBound
import Derived.RangeFuncCalls
import Derived.RangeFuncLeaves
import Derived.Shelf.Abstract
import Derived.Shelf.RegionOpen
import Derived.OwnWalkIn
import Derived.TacticsInMore
import Derived.LoopNIn
import Derived.LoopIn
namespace Go.Proofs.Ytojmcgobihegpaa
open Go.RowKit Go.Shelf
attribute [local go_sem] Oper.semAt_some
/-- What the body of a loop over an iterator keeps: all that lay below n₀, but for the blocks from lo up to hi. -/
structure KeepsBut (lo hi n₀ : Nat) (A B : World) : Prop where
  size : A.heap.size ≤ B.heap.size
  block : ∀ i, i < n₀ → (i < lo ∨ hi ≤ i) → B.heap[i]? = A.heap[i]?
theorem KeepsBut.refl (lo hi n₀ : Nat) (A : World) : KeepsBut lo hi n₀ A A := ⟨Nat.le_refl _, fun _ _ _ => rfl⟩
theorem KeepsBut.trans {lo hi n₀ : Nat} {A B C : World} (h : KeepsBut lo hi n₀ A B) (k : KeepsBut lo hi n₀ B C) : KeepsBut lo hi n₀ A C :=
  ⟨Nat.le_trans h.size k.size, fun i h1 h2 => (k.block i h1 h2).trans (h.block i h1 h2)⟩
theorem KeepsBut.cell {lo hi n₀ : Nat} {A B : World} (h : KeepsBut lo hi n₀ A B) {b : Nat} (o : Nat) (h1 : b < n₀) (h2 : b < lo ∨ hi ≤ b) : B.cell? ⟨b, o, none⟩ = A.cell? ⟨b, o, none⟩ :=
  World.cell?_of_block (w := A) (h.block b h1 h2)
theorem KeepsBut.of_below {lo hi n₀ : Nat} {A B : World} (h : Below A.heap.size A B) (hn : n₀ ≤ A.heap.size) : KeepsBut lo hi n₀ A B :=
  ⟨h.size, fun i h1 _ => h.block i (by omega)⟩
theorem keepsBut_b {lo hi n₀ : Nat} {w : World} (hn : n₀ ≤ w.heap.size) (W : World) (l : Nat) (o o' : Obj) (hl : w.heap.size ≤ l) (h : W.heap[l]? = some o) (h1 : o.isCells = false) (h2 : o.isWalk = false) : KeepsBut lo hi n₀ W (W.putObj l o') :=
  have hb := belowK_b (n₀ := n₀) hn W l o o' hl h h1 h2
  ⟨hb.size, fun i h1 _ => hb.block i h1⟩
theorem grown_of_below {A B : World} (h : Below A.heap.size A B) : A.grownBy B none := ⟨h.os, h.tape, h.output, h.size, fun i hi _ => h.block i hi⟩
/-- The rows of a table lie in memory, in a block below B. -/
def HRows (B : Nat) (w : World) (a : Option Addr) (rs : List HRow) : Prop :=
  rs = [] ∨ ∃ b off, a = some ⟨b, off, none⟩ ∧ b < B ∧ ∀ i r, rs[i]? = some r → r.ok ∧ w.cell? ⟨b, off + i * 5, none⟩ = some (.string r.m) ∧ w.cell? ⟨b, off + i * 5 + 1, none⟩ = some (.string r.p) ∧
    w.cell? ⟨b, off + i * 5 + 2, none⟩ = some (.int .u8 r.f) ∧ w.cell? ⟨b, off + i * 5 + 3, none⟩ = some (.int .u8 r.l) ∧ w.cell? ⟨b, off + i * 5 + 4, none⟩ = some (.int .u8 r.d)
theorem HRows.keep {B : Nat} {w w' : World} {a : Option Addr} {rs : List HRow} (h : HRows B w a rs) (hk : ∀ b o, b < B → w'.cell? ⟨b, o, none⟩ = w.cell? ⟨b, o, none⟩) : HRows B w' a rs := by
  rcases h with h | ⟨b, off, ha, hb, hc⟩
  · exact .inl h
  · exact .inr ⟨b, off, ha, hb, fun i r hr => by simpa [hk b _ hb] using hc i r hr⟩
/-- The rows that concern a fault, with their indices. -/
def concs (rs : List HRow) (m p : ByteArray) (f : Int) : List (HRow × Nat) := rs.zipIdx.filter fun x => concernsB x.1 m p f
theorem concs_take {rs : List HRow} {k : Nat} {r : HRow} (m p : ByteArray) (f : Int) (h : rs[k]? = some r) :
    concs (rs.take (k + 1)) m p f = concs (rs.take k) m p f ++ if concernsB r m p f then [(r, k)] else [] := by
  obtain ⟨hk, rfl⟩ := List.getElem?_eq_some_iff.1 h
  unfold concs
  rw [List.take_succ_eq_append_getElem hk, List.zipIdx_append, List.filter_append]
  congr 1
  simp only [List.length_take, Nat.min_eq_left (Nat.le_of_lt hk), List.zipIdx_cons, List.zipIdx_nil, Nat.zero_add, List.filter_cons, List.filter_nil]
theorem concs_take_le (rs : List HRow) (k : Nat) (m p : ByteArray) (f : Int) : concs (rs.take k) m p f <+: concs rs m p f := by
  unfold concs
  refine List.IsPrefix.filter _ ?_
  rw [List.zipIdx_eq_zip_range', List.zipIdx_eq_zip_range']
  refine ⟨((rs.drop k).zipIdx (0 + (rs.take k).length)), ?_⟩
  rw [← List.zipIdx_eq_zip_range', ← List.zipIdx_eq_zip_range', ← List.zipIdx_append, List.take_append_drop]
abbrev encs (x : HRow × Nat) : Array Value := #[.int .i64 x.2, x.1.val]
set_option maxRecDepth 100000 in
set_option maxHeartbeats 4000000 in
theorem iter_in (l B1 B2 B3 B4 B5 lo hi n₀ n cap : Nat) (a : Option Addr) (rs : List HRow) (m p : ByteArray) (f : Int) (J Jx : List (HRow × Nat) → World → Prop) (hn : n ≤ 9223372036854775807) (HL : Hid (rs.length = n))
    (W : World) (hn₀ : n₀ ≤ W.heap.size) (hlo : lo ≤ n₀) (hab : AbidesFrom W.heap.size J)
    (hY : ∀ pre x W1, J pre W1 → pre.length < rs.length → YieldAt Fence.wide (4 - 1) Try.prog l (encs x) W1 fun e W' =>
      (e = .returned (.bool true) ∧ J (pre ++ [x]) W' ∧ KeepsBut lo hi n₀ W1 W') ∨ (e = .returned (.bool false) ∧ Jx (pre ++ [x]) W'))
    (hB2 : B2 < n₀ ∧ (B2 < lo ∨ hi ≤ B2)) (hB3 : B3 < n₀ ∧ (B3 < lo ∨ hi ≤ B3)) (hB4 : B4 < n₀ ∧ (B4 < lo ∨ hi ≤ B4)) (hB5 : B5 < n₀ ∧ (B5 < lo ∨ hi ≤ B5))
    (h1 : W.cell? ⟨B1, 0, none⟩ = some (.slice a n cap)) (h2 : W.cell? ⟨B2, 0, none⟩ = some (.int .u8 f)) (h3 : W.cell? ⟨B3, 0, none⟩ = some (.func (.func 32) #[] #[]))
    (h4 : W.cell? ⟨B4, 0, none⟩ = some (.string m)) (h5 : W.cell? ⟨B5, 0, none⟩ = some (.string p)) (hR : HRows lo W a rs) (h0 : J [] W) :
    CallsIn Fence.wide 4 Try.prog 33 #[.func (.yield l) #[] #[], .pointer (some ⟨B1, 0, none⟩), .pointer (some ⟨B2, 0, none⟩), .pointer (some ⟨B3, 0, none⟩), .pointer (some ⟨B4, 0, none⟩), .pointer (some ⟨B5, 0, none⟩)] W fun e W' => (∃ v, e = .returned v) ∧
      ((∃ ys, ys = concs rs m p f ∧ J ys W') ∨ (∃ pre, pre <+: concs rs m p f ∧ Jx pre W')) := by
  rcases hR with rfl | ⟨b, off, rfl, hb, hR⟩
  · obtain rfl : n = 0 := HL.out.symm
    clear hY HL hn
    refine callsIn_of_wp Try.func33 rfl trivial ?_ rfl
    simp only [Try.ntmps33, List.size_toArray, List.length_cons, List.length_nil, Nat.reduceAdd, Nat.reduceSub, Array.replicate_succ, Array.replicate_zero, List.push_toArray, List.append_toArray, List.nil_append, List.cons_append]
    gi_wp2
    gi_loopw [11] (fun v11 wr => ∃ k : Nat, k ≤ 0 ∧ v11 = .int .i64 k ∧ J (concs (List.take k []) m p f) wr ∧ KeepsBut lo hi n₀ W wr)
      (fun v11 _ => 0 - (intOf v11).toNat)
    case atStart => exact ⟨0, by omega, rfl, h0, KeepsBut.refl _ _ _ _⟩
    case round =>
      obtain ⟨k, hk, rfl, hJ, hkb⟩ := hrel
      obtain rfl : k = 0 := by omega
      gi_wp2
      go_end0
      exact ⟨⟨_, rfl⟩, .inl ⟨_, rfl, hJ⟩⟩
  have HR := hide hR
  clear hR
  have HY := hide hY
  clear hY
  refine callsIn_of_wp Try.func33 rfl trivial ?_ rfl
  simp only [Try.ntmps33, List.size_toArray, List.length_cons, List.length_nil, Nat.reduceAdd, Nat.reduceSub, Array.replicate_succ, Array.replicate_zero, List.push_toArray, List.append_toArray, List.nil_append, List.cons_append]
  gi_wp2
  gi_loopw [11] (fun v11 wr => ∃ k : Nat, k ≤ n ∧ v11 = .int .i64 k ∧ J (concs (rs.take k) m p f) wr ∧ KeepsBut lo hi n₀ W wr)
    (fun v11 _ => n - (intOf v11).toNat)
  case atStart => exact ⟨0, by omega, rfl, h0, KeepsBut.refl _ _ _ _⟩
  case round =>
    obtain ⟨k, hk, rfl, hJ, hkb⟩ := hrel
    by_cases hlt : k < n
    case neg =>
      gi_wp2
      go_end0
      refine ⟨⟨_, rfl⟩, .inl ⟨_, ?_, hJ⟩⟩
      rw [List.take_of_length_le (by have := HL.out; omega)]
    case pos =>
      have hkl : k < rs.length := by have := HL.out; omega
      obtain ⟨r, hr⟩ : ∃ r, rs[k]? = some r := ⟨_, List.getElem?_eq_getElem hkl⟩
      obtain ⟨hok, q0, q1, q2, q3, q4⟩ := HR.out k r hr
      have hbb : b < n₀ ∧ (b < lo ∨ hi ≤ b) := ⟨by omega, .inl hb⟩
      have q0' := (hkb.cell (off + k * 5) hbb.1 hbb.2).trans q0
      have q1' := (hkb.cell (off + k * 5 + 1) hbb.1 hbb.2).trans q1
      have q2' := (hkb.cell (off + k * 5 + 2) hbb.1 hbb.2).trans q2
      have q3' := (hkb.cell (off + k * 5 + 3) hbb.1 hbb.2).trans q3
      have q4' := (hkb.cell (off + k * 5 + 4) hbb.1 hbb.2).trans q4
      have hct := hide (concs_take m p f hr)
      have hzr : n₀ ≤ wr.heap.size := Nat.le_trans hn₀ hkb.size
      have e2 := hide ((hkb.cell 0 hB2.1 hB2.2).trans h2)
      have e3 := hide ((hkb.cell 0 hB3.1 hB3.2).trans h3)
      have e4 := hide ((hkb.cell 0 hB4.1 hB4.2).trans h4)
      have e5 := hide ((hkb.cell 0 hB5.1 hB5.2).trans h5)
      have HK := hide hkb
      have HJ := hide hJ
      clear q0 q1 q2 q3 q4 h1 h2 h3 h4 h5 hkb hJ hr
      have hcc := hide (show concernsB r m p f = (validB r && decide (r.f = f) && nameB r.m m && nameB r.p p) from rfl)
      cases hv : validB r
      case false =>
        have HV := hide hv
        clear hv
        have hct' := hide (show concs (rs.take (k + 1)) m p f = concs (rs.take k) m p f by rw [hct.out, hcc.out, HV.out]; simp)
        have hva := hide (fun w => valid_any r w hok)
        obtain ⟨rm, rp, rf, rl, rd⟩ := r
        simp only at q0' q1' q2' q3' q4'
        unfold HRow.val at hva
        simp only at hva
        gi_wp2_with (first
          | (refine ⟨trivial, ?_⟩; gi_at_call 18; refine (callsIn_wide.2 (hva.out _)).mono ?_; rintro e w1 ⟨rfl, hbw⟩; rw [HV.out]; have hbr := hide ((Below.refl wr.heap.size wr).alloc (Nat.le_refl _) (.cells #[.string rm, .string rp, .int .u8 rf, .int .u8 rl, .int .u8 rd] 36) |>.trans (hbw.mono (by simp)))))
        refine ⟨fun _ h => (by cases h), ?_⟩
        gi_wp2
        all_goals
          go_roundw
          case rel =>
            refine ⟨k + 1, by omega, by go_num, ?_, HK.out.trans (KeepsBut.of_below hbr.out hzr)⟩
            rw [hct'.out]
            exact hab _ wr w1 none HJ.out (grown_of_below hbr.out) (fun r e => by cases e)
          case measure => simp [intOf]; omega
      have HV := hide hv
      clear hv
      by_cases hf : r.f = f
      case neg =>
        have HF := hide hf
        clear hf
        have hct' := hide (show concs (rs.take (k + 1)) m p f = concs (rs.take k) m p f by rw [hct.out, hcc.out, HV.out, decide_eq_false HF.out]; simp)
        have hva := hide (fun w => valid_any r w hok)
        obtain ⟨rm, rp, rf, rl, rd⟩ := r
        simp only at q0' q1' q2' q3' q4'
        unfold HRow.val at hva
        simp only at hva
        have hd : (rf == f) = false := by have := HF.out; simpa using this
        gi_wp2_with (first
          | (refine ⟨trivial, ?_⟩; gi_at_call 18; refine (callsIn_wide.2 (hva.out _)).mono ?_; rintro e w1 ⟨rfl, hbw⟩; rw [HV.out]; have hbr := hide ((Below.refl wr.heap.size wr).alloc (Nat.le_refl _) (.cells #[.string rm, .string rp, .int .u8 rf, .int .u8 rl, .int .u8 rd] 36) |>.trans (hbw.mono (by simp))); have c0 := (bcell hbw).1 wr.heap.size 0 (by simp); have c1 := (bcell hbw).1 wr.heap.size 1 (by simp); have c2 := (bcell hbw).1 wr.heap.size 2 (by simp); have c3 := (bcell hbw).1 wr.heap.size 3 (by simp); have c4 := (bcell hbw).1 wr.heap.size 4 (by simp); simp [go_sem] at c0 c1 c2 c3 c4; have f2 := (hbr.out.cell (p := ⟨B2, 0, none⟩) (by simp; omega)).trans e2.out; have f3 := (hbr.out.cell (p := ⟨B3, 0, none⟩) (by simp; omega)).trans e3.out; have f4 := (hbr.out.cell (p := ⟨B4, 0, none⟩) (by simp; omega)).trans e4.out; have f5 := (hbr.out.cell (p := ⟨B5, 0, none⟩) (by simp; omega)).trans e5.out))
        refine ⟨fun _ h => (by cases h), ?_⟩
        gi_wp2
        all_goals
          go_roundw
          case rel =>
            refine ⟨k + 1, by omega, by go_num, ?_, HK.out.trans (KeepsBut.of_below hbr.out hzr)⟩
            rw [hct'.out]
            exact hab _ wr w1 none HJ.out (grown_of_below hbr.out) (fun r e => by cases e)
          case measure => simp [intOf]; omega
      have HF := hide hf
      clear hf
      cases h3 : nameB r.m m
      case false =>
        have H3 := hide h3
        clear h3
        have hct' := hide (show concs (rs.take (k + 1)) m p f = concs (rs.take k) m p f by rw [hct.out, hcc.out, HV.out, H3.out]; simp)
        have hva := hide (fun w => valid_any r w hok)
        obtain ⟨rm, rp, rf, rl, rd⟩ := r
        simp only at q0' q1' q2' q3' q4'
        unfold HRow.val at hva
        simp only at hva
        have hd : (rf == f) = true := by have := HF.out; simpa using this
        simp only at H3
        gi_wp2_with (first
          | (refine ⟨trivial, ?_⟩; gi_at_call 18; refine (callsIn_wide.2 (hva.out _)).mono ?_; rintro e w1 ⟨rfl, hbw⟩; rw [HV.out]; have hbr := hide ((Below.refl wr.heap.size wr).alloc (Nat.le_refl _) (.cells #[.string rm, .string rp, .int .u8 rf, .int .u8 rl, .int .u8 rd] 36) |>.trans (hbw.mono (by simp))); have c0 := (bcell hbw).1 wr.heap.size 0 (by simp); have c1 := (bcell hbw).1 wr.heap.size 1 (by simp); have c2 := (bcell hbw).1 wr.heap.size 2 (by simp); have c3 := (bcell hbw).1 wr.heap.size 3 (by simp); have c4 := (bcell hbw).1 wr.heap.size 4 (by simp); simp [go_sem] at c0 c1 c2 c3 c4; have f2 := (hbr.out.cell (p := ⟨B2, 0, none⟩) (by simp; omega)).trans e2.out; have f3 := (hbr.out.cell (p := ⟨B3, 0, none⟩) (by simp; omega)).trans e3.out; have f4 := (hbr.out.cell (p := ⟨B4, 0, none⟩) (by simp; omega)).trans e4.out; have f5 := (hbr.out.cell (p := ⟨B5, 0, none⟩) (by simp; omega)).trans e5.out)
          | (refine ⟨trivial, ?_⟩; gi_at_call 32; refine (callsIn_wide.2 (name_any _ _ _)).mono ?_; rintro e w' ⟨rfl, rfl⟩; rw [H3.out]))
        refine ⟨fun _ h => (by cases h), ?_⟩
        gi_wp2
        all_goals
          go_roundw
          case rel =>
            refine ⟨k + 1, by omega, by go_num, ?_, HK.out.trans (KeepsBut.of_below hbr.out hzr)⟩
            rw [hct'.out]
            exact hab _ wr w1 none HJ.out (grown_of_below hbr.out) (fun r e => by cases e)
          case measure => simp [intOf]; omega
      have H3 := hide h3
      clear h3
      cases h4 : nameB r.p p
      case false =>
        have H4 := hide h4
        clear h4
        have hct' := hide (show concs (rs.take (k + 1)) m p f = concs (rs.take k) m p f by rw [hct.out, hcc.out, HV.out, decide_eq_true HF.out, H3.out, H4.out]; simp)
        have hva := hide (fun w => valid_any r w hok)
        obtain ⟨rm, rp, rf, rl, rd⟩ := r
        simp only at q0' q1' q2' q3' q4'
        unfold HRow.val at hva
        simp only at hva
        have hd : (rf == f) = true := by have := HF.out; simpa using this
        simp only at H3 H4
        gi_wp2_with (first
          | (refine ⟨trivial, ?_⟩; gi_at_call 18; refine (callsIn_wide.2 (hva.out _)).mono ?_; rintro e w1 ⟨rfl, hbw⟩; rw [HV.out]; have hbr := hide ((Below.refl wr.heap.size wr).alloc (Nat.le_refl _) (.cells #[.string rm, .string rp, .int .u8 rf, .int .u8 rl, .int .u8 rd] 36) |>.trans (hbw.mono (by simp))); have c0 := (bcell hbw).1 wr.heap.size 0 (by simp); have c1 := (bcell hbw).1 wr.heap.size 1 (by simp); have c2 := (bcell hbw).1 wr.heap.size 2 (by simp); have c3 := (bcell hbw).1 wr.heap.size 3 (by simp); have c4 := (bcell hbw).1 wr.heap.size 4 (by simp); simp [go_sem] at c0 c1 c2 c3 c4; have f2 := (hbr.out.cell (p := ⟨B2, 0, none⟩) (by simp; omega)).trans e2.out; have f3 := (hbr.out.cell (p := ⟨B3, 0, none⟩) (by simp; omega)).trans e3.out; have f4 := (hbr.out.cell (p := ⟨B4, 0, none⟩) (by simp; omega)).trans e4.out; have f5 := (hbr.out.cell (p := ⟨B5, 0, none⟩) (by simp; omega)).trans e5.out)
          | (refine ⟨trivial, ?_⟩; gi_at_call 32; refine (callsIn_wide.2 (name_any _ _ _)).mono ?_; rintro e w' ⟨rfl, rfl⟩; (first | rw [H3.out] | rw [H4.out])))
        refine ⟨fun _ h => (by cases h), ?_⟩
        gi_wp2
        all_goals
          go_roundw
          case rel =>
            refine ⟨k + 1, by omega, by go_num, ?_, HK.out.trans (KeepsBut.of_below hbr.out hzr)⟩
            rw [hct'.out]
            exact hab _ wr w1 none HJ.out (grown_of_below hbr.out) (fun r e => by cases e)
          case measure => simp [intOf]; omega
      have H4 := hide h4
      clear h4
      have hlen := hide (show (concs (rs.take k) m p f).length < rs.length by
        unfold concs
        refine Nat.lt_of_le_of_lt (List.length_filter_le _ _) ?_
        simp; omega)
      have hct' := hide (show concs (rs.take (k + 1)) m p f = concs (rs.take k) m p f ++ [(r, k)] by rw [hct.out, hcc.out, HV.out, decide_eq_true HF.out, H3.out, H4.out]; simp)
      have hva := hide (fun w => valid_any r w hok)
      obtain ⟨rm, rp, rf, rl, rd⟩ := r
      simp only at q0' q1' q2' q3' q4'
      unfold HRow.val at hva
      simp only at hva
      have hd : (rf == f) = true := by have := HF.out; simpa using this
      simp only at H3 H4
      gi_wp2_with (first
        | (refine ⟨trivial, ?_⟩; gi_at_call 18; refine (callsIn_wide.2 (hva.out _)).mono ?_; rintro e w1 ⟨rfl, hbw⟩; rw [HV.out]; have hbr := hide ((Below.refl wr.heap.size wr).alloc (Nat.le_refl _) (.cells #[.string rm, .string rp, .int .u8 rf, .int .u8 rl, .int .u8 rd] 36) |>.trans (hbw.mono (by simp))); have c0 := (bcell hbw).1 wr.heap.size 0 (by simp); have c1 := (bcell hbw).1 wr.heap.size 1 (by simp); have c2 := (bcell hbw).1 wr.heap.size 2 (by simp); have c3 := (bcell hbw).1 wr.heap.size 3 (by simp); have c4 := (bcell hbw).1 wr.heap.size 4 (by simp); simp [go_sem] at c0 c1 c2 c3 c4; have f2 := (hbr.out.cell (p := ⟨B2, 0, none⟩) (by simp; omega)).trans e2.out; have f3 := (hbr.out.cell (p := ⟨B3, 0, none⟩) (by simp; omega)).trans e3.out; have f4 := (hbr.out.cell (p := ⟨B4, 0, none⟩) (by simp; omega)).trans e4.out; have f5 := (hbr.out.cell (p := ⟨B5, 0, none⟩) (by simp; omega)).trans e5.out; have hJ1 := hab _ wr w1 none HJ.out (grown_of_below hbr.out) (fun r e => by cases e); obtain ⟨fn, tmps, assign, body, hy, hRd⟩ := HY.out _ (⟨rm, rp, rf, rl, rd⟩, k) w1 hJ1 hlen.out; dsimp only [encs, HRow.val] at hy)
          | (refine ⟨trivial, ?_⟩; gi_at_call 32; refine (callsIn_wide.2 (name_any _ _ _)).mono ?_; rintro e w' ⟨rfl, rfl⟩; (first | rw [H3.out] | rw [H4.out])))
      refine hRd.mono ?_
      rintro e W3 (⟨rfl, hJ3, hk3⟩ | ⟨rfl, hJx3⟩)
      · gi_wp2
        go_roundw
        case rel =>
          refine ⟨k + 1, by omega, by go_num, ?_, HK.out.trans ((KeepsBut.of_below hbr.out hzr).trans hk3)⟩
          rw [hct'.out]
          exact hJ3
        case measure => simp [intOf]; omega
      · gi_wp2
        refine bodyPost_ret (results_none rfl _ _ _) rfl ?_
        refine ⟨⟨_, rfl⟩, .inr ⟨_, ?_, hJx3⟩⟩
        rw [← hct'.out]
        exact concs_take_le _ _ _ _ _
end Go.Proofs.Ytojmcgobihegpaa

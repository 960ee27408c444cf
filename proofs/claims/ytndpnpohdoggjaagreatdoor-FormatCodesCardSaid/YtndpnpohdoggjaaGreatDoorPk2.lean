/-
  Merged texts: lex: among. | lex: (*cursor).more. | lex: (*cursor).while. | lex: slices of tokens in memory. | parse: the parser as plain functions on lists of tokens. | parse: the cursor: here, sees, takes, check, next. | parse: check, next, name, must, after. | lex: starts.
-/
import Derived.Test.YtndpnpohdoggjaaGreatDoorPk1
import Derived.Test.YtndpnpohdoggjaaGreatDoorShelf
import Derived.Maps.AppendAt
import Derived.Deep.AppendLies
import Derived.Lib.Join
import Derived.WalkLawsBesides
import Derived.Laws.EntriesVeiled
namespace Go.Proofs.YtndpnpohdoggjaaGreatDoor
open Go.RowKit
open Go.MuLone (run_callFunc_enter)
def amgB (s : ByteArray) (b : UInt8) : Bool := s.data.toList.contains b
theorem UInt8.ofNat_toNat' (b : UInt8) : b.toNat.toUInt8 = b := by simp
theorem index_nonneg : ∀ (l : List UInt8) (c : UInt8), (-1 ≤ Lib.indexByte l c) ∧ (decide (0 ≤ Lib.indexByte l c) = l.contains c)
  | [], c => by simp [Lib.indexByte]
  | b :: l, c => by
    obtain ⟨h1, h2⟩ := index_nonneg l c
    unfold Lib.indexByte
    by_cases hb : b == c
    · rw [if_pos hb]
      have : b = c := by simpa using hb
      subst this
      simp
    · rw [if_neg hb]
      have hne : ¬ c = b := fun e => hb (by simp [e])
      have hc : (b :: l).contains c = l.contains c := by simp [hne]
      rw [hc, ← h2]
      by_cases hm : Lib.indexByte l c == -1
      · rw [if_pos hm]
        have : Lib.indexByte l c = -1 := by simpa using hm
        rw [this]; simp
      · rw [if_neg hm]
        have : Lib.indexByte l c ≠ -1 := by simpa using hm
        exact ⟨by omega, by rw [decide_eq_decide]; omega⟩
set_option maxRecDepth 100000 in
set_option maxHeartbeats 400000 in
theorem amg_any (xs : Nat) (s : ByteArray) (b : UInt8) (W : World) (h1 : Hid (W.heap[xs]? = some (.cells #[.string s] 9 (0, 0)))) :
    Calls Tryz.prog 169 #[.int .u8 (b.toNat : Int), .pointer (some ⟨xs, 0, none⟩)] W fun e W' => e = .returned (.bool (amgB s b)) ∧ Below W.heap.size W W' := by
  have c1 := cell_of_row W xs 0 _ _ _ h1.out
  simp only [List.getElem?_toArray, List.getElem?_cons_zero] at c1
  have HI := hide (fun w => Tryz.strings_IndexByte s (b.toNat : Int) w)
  go_enter Tryz.func169, Tryz.ntmps169
  go_wp2_with fail
  refine (HI.out _).mono ?_
  rintro e w' ⟨rfl, rfl⟩
  generalize hx : Lib.indexByte s.data.toList ((b.toNat : Int)).toNat.toUInt8 = x
  have HX := hide (show decide (0 ≤ x) = amgB s b by rw [← hx, (index_nonneg _ _).2, Int.toNat_natCast, UInt8.ofNat_toNat' b]; rfl)
  clear hx
  go_wp2_with fail
  go_ret
  exact ⟨by rw [← HX.out]; rfl, Below.refl _ _⟩
set_option maxRecDepth 100000 in
set_option maxHeartbeats 400000 in
theorem among_any (s : ByteArray) (w : World) : Calls Tryz.prog 125 #[.string s] w fun e w' => ∃ caps, e = .returned (.func (.func 169) #[] caps) ∧ IsT (fun k => k = w.heap.size) w' 169 caps (amgB s) ∧ Below w.heap.size w w' := by
  have HT : Hid (∀ w' : World, w'.heap[w.heap.size]? = some (.cells #[.string s] 9 (0, 0)) → IsT (fun k => k = w.heap.size) w' 169 #[.pointer (some ⟨w.heap.size, 0, none⟩)] (amgB s)) := by
    intro w' h1
    have hlt := (Array.getElem?_eq_some_iff.1 h1).1
    exact ⟨fun k hk => by omega, fun args W => run_callFunc_enter (c := ((Tryz.f169).body.getD .skip)) Tryz.func169 (by kernel_rfl) (by kernel_rfl) args W, fun W hW b => amg_any w.heap.size s b W ((hW _ rfl).trans h1)⟩
  go_enter Tryz.func125, Tryz.ntmps125
  go_wp2_with fail
  go_ret
  exact ⟨_, rfl, HT.out _ (heap_alloc_new w _), (Below.refl _ _).alloc (Nat.le_refl _) _⟩
end Go.Proofs.YtndpnpohdoggjaaGreatDoor
namespace Go.Proofs.YtndpnpohdoggjaaGreatDoor
open Go.RowKit
attribute [local go_sem] Later.cell
set_option maxRecDepth 100000 in
set_option maxHeartbeats 1000000 in
theorem more_yes (sb f k : Nat) (caps : Array Value) (p : UInt8 → Bool) (F : Nat → Prop) (src : ByteArray) (W : World) (c0 : W.cell? ⟨sb, 0, none⟩ = some (.string src)) (c1 : W.cell? ⟨sb, 1, none⟩ = some (.int .i64 (k : Int))) (hk : k < src.size) (_hs : src.size ≤ 1099511627776) (hT : Hid (IsT F W f caps p)) :
    Calls Tryz.prog 172 #[.pointer (some ⟨sb, 0, none⟩), .func (.func f) #[] caps] W fun e W' => e = .returned (.bool (p src[k])) ∧ Below W.heap.size W W' := by
  have hen := hT.out.enters
  have hsb : sb < W.heap.size := World.block_lt_of_cell? W ⟨sb, 0, none⟩ c0
  have HC := hide (fun s : Later W => (hT.out.below s.below).says s.w (fun _ _ => rfl) src[k])
  have k0 : (0 : Int) ≤ (k : Int) := by omega
  have k1 : (k : Int) < (src.size : Int) := by omega
  go_enter Tryz.func172, Tryz.ntmps172
  go_wp2_with fail
  refine wp_region_later (by kernel_rfl) (by kernel_rfl) ?_
  repeat (go_big_quiet_step (exact Later.call (HC.out _)))
  refine wpQuiet_nil ?_
  intro _ hw'
  obtain ⟨nq, hw''⟩ := hw'
  subst hw''
  go_wp2_with fail
  go_ret
  exact ⟨rfl, nq.below⟩
set_option maxRecDepth 100000 in
set_option maxHeartbeats 1000000 in
theorem more_end (sb k : Nat) (v : Value) (src : ByteArray) (W : World) (c0 : W.cell? ⟨sb, 0, none⟩ = some (.string src)) (c1 : W.cell? ⟨sb, 1, none⟩ = some (.int .i64 (k : Int))) (hk : src.size ≤ k) (_hs : src.size ≤ 1099511627776) :
    Calls Tryz.prog 172 #[.pointer (some ⟨sb, 0, none⟩), v] W fun e W' => e = .returned (.bool false) ∧ Below W.heap.size W W' := by
  have hsb : sb < W.heap.size := World.block_lt_of_cell? W ⟨sb, 0, none⟩ c0
  have k1 : decide (k < src.size) = false := by simp; omega
  go_enter Tryz.func172, Tryz.ntmps172
  go_wp2_with fail
  go_quiet (fail)
  go_wp2_with fail
  go_ret
  exact ⟨rfl, below_drewN (Below.refl _ _) _⟩
end Go.Proofs.YtndpnpohdoggjaaGreatDoor
namespace Go.Proofs.YtndpnpohdoggjaaGreatDoor
open Go.RowKit
attribute [local go_sem] Later.cell
/-- What a scanner's step leaves: the cell 1 of block sb stands at j, the rest is as it was. -/
structure AtJ (sb j : Nat) (w w' : World) : Prop where
  kept : Kept (fun k => k = sb) w w'
  here : w'.cell? ⟨sb, 1, none⟩ = some (.int .i64 (j : Int))
  rest : ∀ o, o ≠ 1 → w'.cell? ⟨sb, o, none⟩ = w.cell? ⟨sb, o, none⟩
  free : w'.frozen? ⟨sb, 1, none⟩ = false
  hold : ∀ o, w'.frozen? ⟨sb, o, none⟩ = w.frozen? ⟨sb, o, none⟩
theorem AtJ.trans {sb i j : Nat} {a b c : World} (h : AtJ sb i a b) (k : AtJ sb j b c) : AtJ sb j a c :=
  ⟨h.kept.trans k.kept, k.here, fun o ho => (k.rest o ho).trans (h.rest o ho), k.free, fun o => (k.hold o).trans (h.hold o)⟩
theorem AtJ.below {sb j : Nat} {a b c : World} (h : AtJ sb j a b) (hsb : sb < a.heap.size) (k : Below b.heap.size b c) : AtJ sb j a c := by
  have hb : sb < b.heap.size := Nat.lt_of_lt_of_le hsb h.kept.size
  exact ⟨h.kept.trans (.of_below k), (World.cell?_of_block (w := b) (k.block sb hb)).trans h.here, fun o ho => (World.cell?_of_block (w := b) (k.block sb hb)).trans (h.rest o ho), (World.frozen?_of_block (w := b) (a := ⟨sb, 1, none⟩) (k.block sb hb)).trans h.free, fun o => (World.frozen?_of_block (w := b) (a := ⟨sb, o, none⟩) (k.block sb hb)).trans (h.hold o)⟩
theorem AtJ.start {sb j : Nat} {w : World} (c1 : w.cell? ⟨sb, 1, none⟩ = some (.int .i64 (j : Int))) (cf : w.frozen? ⟨sb, 1, none⟩ = false) : AtJ sb j w w := ⟨.refl _ _, c1, fun _ _ => rfl, cf, fun _ => rfl⟩
theorem IsT.atJ {F : Nat → Prop} {w w' : World} {f : Nat} {caps : Array Value} {p : UInt8 → Bool} {sb j : Nat} (h : IsT F w f caps p) (hF : ∀ k, F k → k ≠ sb) (k : AtJ sb j w w') : IsT F w' f caps p :=
  h.keep k.kept.size (fun i hi => k.kept.block i (h.inn i hi) (hF i hi))
def toksL (src : ByteArray) : List UInt8 := src.data.toList
theorem toksL_drop (src : ByteArray) (j : Nat) (hj : j < src.size) : (toksL src).drop j = src[j] :: (toksL src).drop (j + 1) := by
  have hl : j < (toksL src).length := by simpa [toksL] using hj
  rw [List.drop_eq_getElem_cons hl]
  rfl
/-- Where a run of bytes that pass ends. -/
def runTo (p : UInt8 → Bool) (src : ByteArray) (j : Nat) : Nat := j + (((toksL src).drop j).takeWhile p).length
theorem runTo_yes (p : UInt8 → Bool) (src : ByteArray) (j : Nat) (hj : j < src.size) (h : p src[j] = true) : runTo p src (j + 1) = runTo p src j := by
  unfold runTo
  rw [toksL_drop src j hj, List.takeWhile_cons, if_pos h, List.length_cons]
  omega
theorem runTo_no (p : UInt8 → Bool) (src : ByteArray) (j : Nat) (hj : j < src.size) (h : p src[j] = false) : runTo p src j = j := by
  unfold runTo
  rw [toksL_drop src j hj, List.takeWhile_cons, if_neg (by simp [h])]
  simp
theorem runTo_end (p : UInt8 → Bool) (src : ByteArray) (j : Nat) (hj : src.size ≤ j) : runTo p src j = j := by
  unfold runTo
  rw [List.drop_eq_nil_of_le (by simpa [toksL] using hj)]
  simp
def atOf (sb : Nat) (w : World) : Nat := (intOf ((w.cell? ⟨sb, 1, none⟩).getD (.int .i64 0))).toNat
set_option maxRecDepth 100000 in
set_option maxHeartbeats 1000000 in
theorem while_any (sb f k : Nat) (caps : Array Value) (p : UInt8 → Bool) (F : Nat → Prop) (src : ByteArray) (W : World) (c0 : Hid (W.cell? ⟨sb, 0, none⟩ = some (.string src))) (c1 : Hid (W.cell? ⟨sb, 1, none⟩ = some (.int .i64 (k : Int)))) (cf : Hid (W.frozen? ⟨sb, 1, none⟩ = false)) (hk : k ≤ src.size) (hs : src.size ≤ 1099511627776) (hT : Hid (IsT F W f caps p)) (hF : Hid (∀ k, F k → k ≠ sb)) :
    Calls Tryz.prog 171 #[.pointer (some ⟨sb, 0, none⟩), .func (.func f) #[] caps] W fun e W' => e = .returned (.tuple #[]) ∧ AtJ sb (runTo p src k) W W' := by
  have hsb : sb < W.heap.size := World.block_lt_of_cell? W ⟨sb, 0, none⟩ c0.out
  go_enter Tryz.func171, Tryz.ntmps171
  go_wp2_with fail
  go_loopw [] (fun wr => ∃ j : Nat, j ≤ src.size ∧ runTo p src j = runTo p src k ∧ AtJ sb j W wr) (fun wr => src.size - atOf sb wr)
  case atStart => exact ⟨k, hk, rfl, AtJ.start c1.out cf.out⟩
  case round =>
    obtain ⟨j, hj, hr, hA⟩ := hrel
    have HR := hide hr
    have HA := hide hA
    clear hr hA
    have d0 := (HA.out.rest 0 (by decide)).trans c0.out
    have d1 := HA.out.here
    have HT2 := hide (hT.out.atJ hF.out HA.out)
    by_cases hjs : j < src.size
    · have HM := hide (more_yes sb f j caps p F src _ d0 d1 hjs hs HT2)
      have hwr : sb < wr.heap.size := World.block_lt_of_cell? wr ⟨sb, 1, none⟩ d1
      cases hp : p src[j] with
      | true =>
        have HN := hide (runTo_yes p src j hjs hp)
        rw [hp] at HM
        go_wp2_with fail
        refine (HM.out).mono ?_
        rintro e w' ⟨rfl, hb⟩
        have HA2 := hide (HA.out.below hsb hb)
        have e1 : w'.cell? ⟨sb, 1, none⟩ = some (.int .i64 (j : Int)) := HA2.out.here
        have e2 := HA2.out.free
        have e0 := (HA2.out.rest 0 (by decide)).trans c0.out
        have k0 : (0 : Int) ≤ (j : Int) := by omega
        have k1 : (j : Int) + 1 < 9223372036854775808 := by omega
        have k2 : -9223372036854775808 ≤ (j : Int) + 1 := by omega
        clear d0 d1 hb hp HM e0 hwr
        generalize hz : (j : Int) = z at *
        have HZ := hide hz
        clear hz
        go_wp2_with fail
        have hlt : w'.cell? ⟨sb, 1, none⟩ ≠ none := by rw [e1]; exact Option.some_ne_none _
        have hset : AtJ sb (j + 1) w' (w'.setCell ⟨sb, 1, none⟩ (.int .i64 (z + 1))) := by
          refine ⟨(Kept.refl (fun k => k = sb) w').setCell (p := ⟨sb, 1, none⟩) (Or.inl rfl) _, ?_, ?_, ?_, fun o => by rw [World.frozen?_setCell]⟩
          · rw [← HZ.out]; exact World.cell?_setCell_same w' _ _ e1
          · intro o ho; exact World.cell?_setCell_other w' _ _ _ (fun e => ho (by injection e with _ e2 _; exact e2.symm))
          · rw [World.frozen?_setCell]; exact e2
        have m1 : atOf sb (w'.setCell ⟨sb, 1, none⟩ (.int .i64 (z + 1))) = j + 1 := by unfold atOf; rw [hset.here]; simp [intOf]
        have m2 : atOf sb wr = j := by unfold atOf; rw [HA.out.here]; simp [intOf]
        have HS := hide hset
        have HM3 := hide (show src.size - atOf sb (w'.setCell ⟨sb, 1, none⟩ (.int .i64 (z + 1))) < src.size - atOf sb wr by rw [m1, m2]; omega)
        clear hset m1 m2 hlt e1 e2
        go_roundw
        case rel => exact ⟨j + 1, hjs, HN.out.trans HR.out, HA2.out.trans HS.out⟩
        case measure => exact HM3.out
      | false =>
        have HN := hide (runTo_no p src j hjs hp)
        rw [hp] at HM
        go_wp2_with fail
        refine (HM.out).mono ?_
        rintro e w' ⟨rfl, hb⟩
        go_wp2_with fail
        go_end0
        exact ⟨rfl, by have := HA.out.below hsb hb; rwa [← HR.out, HN.out]⟩
    · have HM := hide (more_end sb j (.func (.func f) #[] caps) src _ d0 d1 (by omega) hs)
      have HN := hide (runTo_end p src j (by omega))
      go_wp2_with fail
      refine (HM.out).mono ?_
      rintro e w' ⟨rfl, hb⟩
      go_wp2_with fail
      go_end0
      exact ⟨rfl, by have := HA.out.below hsb hb; rwa [← HR.out, HN.out]⟩
end Go.Proofs.YtndpnpohdoggjaaGreatDoor
namespace Go.Proofs.YtndpnpohdoggjaaGreatDoor
open Go.RowKit
/-- A token as its three cells say it. -/
structure TokZ where
  kind : Int
  text : ByteArray
  at_ : Int
def Tok.toZ (t : Tok) : TokZ := ⟨(t.kind : Int), ⟨t.text.toArray⟩, (t.at_ : Int)⟩
def TokZ.cells (K : IntKind) (t : TokZ) : List Value := [.int K t.kind, .string t.text, .int .i64 t.at_]
def flatT (K : IntKind) (ts : List TokZ) : List Value := ts.flatMap (TokZ.cells K)
theorem flatT_snoc (K : IntKind) (ts : List TokZ) (t : TokZ) : flatT K (ts ++ [t]) = flatT K ts ++ t.cells K := by simp [flatT]
theorem flatT_at (K : IntKind) (ts : List TokZ) (i : Nat) (t : TokZ) (h : ts[i]? = some t) (j : Nat) (hj : j < 3) : (flatT K ts)[i * 3 + j]? = (t.cells K)[j]? := by
  induction ts generalizing i with
  | nil => simp at h
  | cons x ts ih =>
    have hx : (x.cells K).length = 3 := rfl
    show (x.cells K ++ flatT K ts)[i * 3 + j]? = _
    cases i with
    | zero =>
      simp only [List.getElem?_cons_zero, Option.some.injEq] at h
      subst h
      rw [List.getElem?_append_left (by omega)]
      simp
    | succ i =>
      rw [List.getElem?_append_right (by omega)]
      have : (i + 1) * 3 + j - (x.cells K).length = i * 3 + j := by omega
      rw [this]
      exact ih i (by simpa using h)
theorem flatT_step (K : IntKind) (ts : List TokZ) (k : Nat) (t : TokZ) (h : ts[k]? = some t) : flatT K (ts.take k) ++ t.cells K = flatT K (ts.take (k + 1)) := by
  obtain ⟨hk, rfl⟩ := List.getElem?_eq_some_iff.1 h
  rw [← flatT_snoc, List.take_succ_eq_append_getElem hk]
/-- The cells of a slice of tokens. -/
def TRows (K : IntKind) (w : World) (A : Option Addr) (ts : List TokZ) : Prop :=
  ts = [] ∨ ∃ b off, A = some ⟨b, off, none⟩ ∧ b < w.heap.size ∧ ∀ i t, ts[i]? = some t → w.cell? ⟨b, off + i * 3, none⟩ = some (.int K t.kind) ∧ w.cell? ⟨b, off + i * 3 + 1, none⟩ = some (.string t.text) ∧ w.cell? ⟨b, off + i * 3 + 2, none⟩ = some (.int .i64 t.at_)
theorem TRows.below {K : IntKind} {w w' : World} {A : Option Addr} {ts : List TokZ} (h : TRows K w A ts) (hb : Below w.heap.size w w') : TRows K w' A ts := by
  rcases h with h | ⟨b, off, e, hlt, hc⟩
  · exact .inl h
  · refine .inr ⟨b, off, e, Nat.lt_of_lt_of_le hlt hb.size, fun i t ht => ?_⟩
    obtain ⟨h0, h1, h2⟩ := hc i t ht
    exact ⟨(hb.cell (p := ⟨b, off + i * 3, none⟩) hlt).trans h0, (hb.cell (p := ⟨b, off + i * 3 + 1, none⟩) hlt).trans h1, (hb.cell (p := ⟨b, off + i * 3 + 2, none⟩) hlt).trans h2⟩
theorem trows_own {K : IntKind} {w : World} {base n : Nat} {e : TypeId} {v : Value} {ts : List TokZ} (h : w.ownsRow base e 3 v n (flatT K ts)) (hl : ts.length = n) :
    ∃ a cap, v = .slice a n cap ∧ TRows K w a ts := by
  rcases h.2 with ⟨rfl, rfl⟩ | ⟨g, cap, cur, rfl, _, hg, _⟩
  · exact ⟨none, 0, rfl, .inl (List.eq_nil_of_length_eq_zero hl)⟩
  · refine ⟨some ⟨g, 0, none⟩, cap, rfl, .inr ⟨g, 0, rfl, (Array.getElem?_eq_some_iff.1 hg).1, fun i t ht => ?_⟩⟩
    have hi : i < n := by rw [← hl]; exact (List.getElem?_eq_some_iff.1 ht).1
    have hc : ∀ j, j < 3 → w.cell? ⟨g, i * 3 + j, none⟩ = (t.cells K)[j]? := fun j hj => by
      rw [World.ownsRow.cellAt h (i * 3 + j) (by omega), flatT_at K ts i t ht j hj]
    refine ⟨?_, ?_, ?_⟩
    · have h1 := hc 0 (by omega)
      simp [TokZ.cells] at h1 ⊢ <;> exact h1
    · have h1 := hc 1 (by omega)
      simp [TokZ.cells] at h1 ⊢ <;> exact h1
    · have h1 := hc 2 (by omega)
      simp [TokZ.cells] at h1 ⊢ <;> exact h1
/-- One token of a slice, in a later world. -/
theorem trow_at {K : IntKind} {w w' : World} {A : Option Addr} {ts : List TokZ} {n k : Nat} (HL : Hid (ts.length = n)) (h : Hid (TRows K w A ts)) (hb : Below w.heap.size w w') (hk : k < n) :
    ∃ b off t, A = some ⟨b, off, none⟩ ∧ b < w.heap.size ∧ Hid (ts[k]? = some t) ∧ w'.cell? ⟨b, off + k * 3, none⟩ = some (.int K t.kind) ∧ w'.cell? ⟨b, off + k * 3 + 1, none⟩ = some (.string t.text) ∧ w'.cell? ⟨b, off + k * 3 + 2, none⟩ = some (.int .i64 t.at_) := by
  rcases h.out with h0 | ⟨b, off, e, hlt, hc⟩
  · have := HL.out; rw [h0] at this; simp at this; omega
  · have hkl : k < ts.length := by rw [HL.out]; exact hk
    obtain ⟨h0, h1, h2⟩ := hc k ts[k] (List.getElem?_eq_getElem hkl)
    exact ⟨b, off, ts[k], e, hlt, List.getElem?_eq_getElem hkl, (hb.cell (p := ⟨b, off + k * 3, none⟩) hlt).trans h0, (hb.cell (p := ⟨b, off + k * 3 + 1, none⟩) hlt).trans h1, (hb.cell (p := ⟨b, off + k * 3 + 2, none⟩) hlt).trans h2⟩
theorem news_of {W : World} {t : TypeId} {cs : Array Value} {b : Nat} (hb : b = W.heap.size) : ∀ j u, cs.toList[j]? = some u → (W.alloc (.cells cs t)).cell? ((⟨b, 0, none⟩ : Addr).add j) = some u := by
  subst hb
  exact World.news_of_block (cs := cs) (t := t) (fr := (0, 0)) (heap_alloc_new W _)
theorem strInfo : (Tryz.prog.info? 9).map (fun i => (i.zero, i.size, i.bytes)) = some (some (.string ⟨#[]⟩), 1, 16) := by kernel_rfl
theorem tokInfo : (Tryz.prog.info? 136).map (fun i => (i.zero, i.size, i.bytes)) = some (some (.agg #[.int .u8 0, .string ⟨#[]⟩, .int .i64 0]), 3, 32) := by kernel_rfl
def joinT (ts : List TokZ) : List UInt8 := Lib.join (ts.map (·.text.data.toList)) [32]
theorem joinT_snoc (ts : List TokZ) (t : TokZ) : joinT (ts ++ [t]) = (if ts = [] then [] else joinT ts ++ [32]) ++ t.text.data.toList := by
  unfold joinT Lib.join
  rw [List.map_append]
  induction ts with
  | nil => simp
  | cons x r ih =>
    cases r with
    | nil => simp [List.intercalate, List.intersperse]
    | cons y r =>
      simp only [List.cons_append, List.map_cons, List.map_nil, reduceCtorEq, if_false] at ih ⊢
      simp only [List.intercalate, List.intersperse, List.flatten_cons, List.append_assoc] at ih ⊢
      rw [ih]
theorem joinT_take_le (ts : List TokZ) : ∀ k, (joinT (ts.take k)).length ≤ (joinT ts).length := by
  have h1 : ∀ (a b : List TokZ), (joinT a).length ≤ (joinT (a ++ b)).length := by
    intro a b
    obtain ⟨n, hn⟩ : ∃ n, b.length = n := ⟨_, rfl⟩
    induction n generalizing b with
    | zero => rw [List.eq_nil_of_length_eq_zero hn]; simp
    | succ n ih =>
      rcases List.eq_nil_or_concat b with rfl | ⟨b, t, rfl⟩
      · simp
      · have := ih b (by simpa using hn)
        rw [List.concat_eq_append, ← List.append_assoc, joinT_snoc]
        split
        · rename_i h; simp at h; rw [h.1]; simp [joinT, Lib.join, List.intercalate]
        · simp; omega
  intro k
  have := h1 (ts.take k) (ts.drop k)
  rwa [List.take_append_drop] at this
end Go.Proofs.YtndpnpohdoggjaaGreatDoor
namespace Go.Proofs.YtndpnpohdoggjaaGreatDoor
inductive Res (α : Type) where
  | ok (a : α) (r : List Tok)
  | bad (e : Nat) (r : List Tok)
/-- A parser: what is left; the result and what is then left, or the error and what is left at it. -/
def Ps (α : Type) := List Tok → Res α
def Ps.ret {α : Type} (a : α) : Ps α := fun r => .ok a r
def Ps.bnd {α β : Type} (m : Ps α) (f : α → Ps β) : Ps β := fun r => match m r with
  | .ok a r' => f a r'
  | .bad e r' => .bad e r'
instance : Monad Ps where
  pure := Ps.ret
  bind := Ps.bnd
theorem bnd_ok {α β : Type} {m : Ps α} {f : α → Ps β} {r r' : List Tok} {a : α} (h : m r = .ok a r') : (m >>= f) r = f a r' := by
  show Ps.bnd m f r = _
  unfold Ps.bnd
  rw [h]
theorem bnd_bad {α β : Type} {m : Ps α} {f : α → Ps β} {r r' : List Tok} {e : Nat} (h : m r = .bad e r') : (m >>= f) r = .bad e r' := by
  show Ps.bnd m f r = _
  unfold Ps.bnd
  rw [h]
structure RefD where
  m : List UInt8
  p : List UInt8
  o : List UInt8
structure InsD where
  op : Nat
  a : Int
  b : Int
  c : Int
structure PortD where
  name : List UInt8
  kind : Nat
  out : Bool
  size : Int
  depth : Int
  refresh : Int
structure ProcD where
  name : List UInt8
  prio : Int
  period : Int
  limit : Int
  code : List InsD
structure PartD where
  name : List UInt8
  period : Int
  length : Int
  mem : Int
  semas : List Int
  events : Int
  boards : Int
  bufs : List Int
  ports : List PortD
  procs : List ProcD
structure ModD where
  name : List UInt8
  mem : Int
  frame : Int
  parts : List PartD
structure ChanD where
  from_ : RefD
  to : List RefD
structure SwD where
  name : List UInt8
  net : Int
  delay : Int
  store : Int
structure LinkD where
  a : List UInt8
  b : List UInt8
  net : Int
  slow : Int
structure VlD where
  name : List UInt8
  from_ : RefD
  bag : Int
  max : Int
  to : List RefD
structure HealthD where
  module : List UInt8
  part : List UInt8
  fault : Nat
  level : Nat
  do_ : Nat
structure RepD where
  unit : List UInt8
  code : Int
structure CauseD where
  unit : List UInt8
  needs : List RepD
  but : List (List UInt8)
structure VerD where
  a : List UInt8
  va : Int
  b : List UInt8
  vb : Int
structure CfgD where
  modules : List ModD
  channels : List ChanD
  switches : List SwD
  links : List LinkD
  vls : List VlD
  health : List HealthD
  causes : List CauseD
  versions : List VerD
def CfgD.none : CfgD := ⟨[], [], [], [], [], [], [], []⟩
def insWords : List (List UInt8) := [[119, 111, 114, 107], [115, 101, 116], [97, 100, 100], [115, 117, 98], [108, 111, 97, 100], [115, 116, 111, 114, 101], [115, 101, 110, 100], [114, 101, 99, 118], [119, 97, 105, 116], [115, 105, 103, 110, 97, 108], [114, 97, 105, 115, 101], [108, 111, 119, 101, 114], [117, 110, 116, 105, 108], [112, 117, 116], [103, 101, 116], [115, 104, 111, 119], [108, 111, 111, 107], [99, 108, 101, 97, 114], [110, 101, 120, 116], [106, 117, 109, 112], [122, 101, 114, 111], [108, 101, 115, 115], [100, 105, 118], [102, 97, 117, 108, 116], [115, 116, 111, 112]]
def insOps : List (List UInt8) := [[119], [114, 118], [114, 114], [114, 114], [114, 97, 114], [114, 97, 114], [111, 114, 108], [105, 114, 114], [115], [115], [101], [101], [101], [98, 114], [98, 114], [100, 114], [100, 114], [100], [], [106], [114, 106], [114, 114, 106], [114, 114], [99], []]
def faultWords : List (List UInt8) := [[100, 101, 97, 100, 108, 105, 110, 101], [109, 101, 109, 111, 114, 121], [114, 97, 105, 115, 101, 100], [110, 117, 109, 101, 114, 105, 99], [115, 116, 97, 99, 107], [112, 111, 119, 101, 114], [119, 105, 110, 100, 111, 119]]
def levelWords : List (List UInt8) := [[112, 114, 111, 99, 101, 115, 115], [112, 97, 114, 116], [109, 111, 100, 117, 108, 101]]
def actionWords : List (List UInt8) := [[105, 103, 110, 111, 114, 101], [115, 116, 111, 112], [114, 101, 115, 116, 97, 114, 116], [119, 97, 114, 109], [99, 111, 108, 100], [105, 100, 108, 101], [114, 101, 115, 101, 116], [104, 97, 108, 116]]
def netWords : List (List UInt8) := [[97], [98]]
def kindWords : List (List UInt8) := [[115, 97, 109, 112, 108, 105, 110, 103], [113, 117, 101, 117, 105, 110, 103]]
/-- The word of a constant. -/
def wordN (l : List (List UInt8)) (n : Nat) : List UInt8 := if n = 0 then [] else l.getD (n - 1) []
/-- The constant of a word; 0: none. -/
def findN (l : List (List UInt8)) (s : List UInt8) : Nat := match l.findIdx? (· == s) with
  | some i => i + 1
  | none => 0
def hdT (r : List Tok) : Tok := r.headD ⟨0, [], 0⟩
def seesB (s : List UInt8) (r : List Tok) : Bool := (hdT r).text == s && ((hdT r).kind == 1 || (hdT r).kind == 3)
def takesP (s : List UInt8) : Ps Bool := fun r => if seesB s r then .ok true r.tail else .ok false r
def failP {α : Type} (e : Nat) : Ps α := fun r => .bad e r
def mustP (s : List UInt8) : Ps Unit := fun r => if seesB s r then .ok () r.tail else .bad 80 r
def nextP (k : Nat) : Ps (List UInt8) := fun r => if (hdT r).kind == k then .ok (hdT r).text r.tail else .bad 80 r
def nameP : Ps (List UInt8) := nextP 1
def numP : Ps Int := do
  let t ← nextP 2
  pure ((numV t : Nat) : Int)
def afterP (s : List UInt8) : Ps Int := do
  mustP s
  numP
def ofP (l : List (List UInt8)) : Ps Nat := fun r => if findN l (hdT r).text != 0 && (hdT r).kind == 1 then .ok (findN l (hdT r).text) r.tail else .bad 80 r
/-- Further things behind commas. -/
def moreP {α : Type} (x : Ps α) : Nat → List α → Ps (List α)
  | 0, acc => pure acc
  | f + 1, acc => do
    let b ← takesP [44]
    if b then do
      let a ← x
      moreP x f (acc ++ [a])
    else pure acc
def listP {α : Type} (x : Ps α) : Ps (List α) := do
  let a ← x
  fun r => moreP x (r.length + 1) [a] r
def refP : Ps RefD := do
  let m ← nameP
  mustP [46]
  let p ← nameP
  mustP [46]
  let o ← nameP
  pure ⟨m, p, o⟩
def netP : Ps Int := do
  mustP [110, 101, 116]
  let n ← ofP netWords
  pure ((n : Int) - 1)
/-- As many numbers as an instruction has operands (0 to 3). -/
def opsP : Nat → Ps (List Int)
  | 0 => pure []
  | n + 1 => do
    let a ← numP
    let l ← opsP n
    pure (a :: l)
def insP : Ps InsD := do
  let op ← ofP insWords
  let l ← opsP (wordN insOps op).length
  mustP [59]
  pure ⟨op, l.getD 0 0, l.getD 1 0, l.getD 2 0⟩
def codeLoop : Nat → List InsD → Ps (List InsD)
  | 0, acc => pure acc
  | f + 1, acc => fun r => if (hdT r).kind == 1 then (do
      let x ← insP
      codeLoop f (acc ++ [x])) r
    else .ok acc r
def codeP : Ps (List InsD) := fun r => codeLoop (r.length + 1) [] r
def wayP : Ps Bool := fun r => if seesB [105, 110] r then .ok false r.tail else if seesB [111, 117, 116] r then .ok true r.tail else .bad 80 r
def portP : Ps PortD := do
  let out ← wayP
  let name ← nameP
  let kind ← ofP kindWords
  let size ← afterP [115, 105, 122, 101]
  if kind = 1 then do
    let x ← afterP [114, 101, 102, 114, 101, 115, 104]
    mustP [59]
    pure ⟨name, kind, out, size, 0, x⟩
  else do
    let x ← afterP [100, 101, 112, 116, 104]
    mustP [59]
    pure ⟨name, kind, out, size, x, 0⟩
def procP : Ps ProcD := do
  let name ← nameP
  let prio ← afterP [112, 114, 105, 111]
  let period ← afterP [112, 101, 114, 105, 111, 100]
  let limit ← afterP [108, 105, 109, 105, 116]
  mustP [123]
  let code ← codeP
  mustP [125]
  pure ⟨name, prio, period, limit, code⟩
/-- A partition that is being parsed, and which things of those that occur once it has had. -/
structure BuildD where
  p : PartD
  what : List (List UInt8)
def skipP : Ps Unit := fun r => .ok () r.tail
/-- A thing that occurs once. -/
def onceP (w : List UInt8) (b : BuildD) (x : Ps PartD) : Ps BuildD := fun r => if b.what.contains w then .bad 81 r else (do
  skipP
  let p ← x
  mustP [59]
  pure (BuildD.mk p (b.what ++ [w]))) r
def semasP (p : PartD) : Ps PartD := do
  let l ← listP numP
  pure { p with semas := l }
def bufsP (p : PartD) : Ps PartD := do
  let l ← listP numP
  pure { p with bufs := l }
def eventsP (p : PartD) : Ps PartD := do
  let n ← numP
  pure { p with events := n }
def boardsP (p : PartD) : Ps PartD := do
  let n ← numP
  pure { p with boards := n }
/-- A thing of a partition. -/
def thingP (b : BuildD) : Ps BuildD := fun r =>
  if seesB [115, 101, 109, 97, 115] r then onceP [115, 101, 109, 97, 115] b (semasP b.p) r
  else if seesB [98, 117, 102, 115] r then onceP [98, 117, 102, 115] b (bufsP b.p) r
  else if seesB [101, 118, 101, 110, 116, 115] r then onceP [101, 118, 101, 110, 116, 115] b (eventsP b.p) r
  else if seesB [98, 111, 97, 114, 100, 115] r then onceP [98, 111, 97, 114, 100, 115] b (boardsP b.p) r
  else if seesB [112, 114, 111, 99] r then (do
    skipP
    let x ← procP
    pure (BuildD.mk { b.p with procs := b.p.procs ++ [x] } b.what)) r
  else (do
    let x ← portP
    pure (BuildD.mk { b.p with ports := b.p.ports ++ [x] } b.what)) r
def thingsLoop : Nat → BuildD → Ps BuildD
  | 0, b => pure b
  | f + 1, b => fun r => if seesB [125] r then .ok b r.tail else (do
      let b' ← thingP b
      thingsLoop f b') r
def partP : Ps PartD := do
  let name ← nameP
  let period ← afterP [112, 101, 114, 105, 111, 100]
  let length ← afterP [108, 101, 110, 103, 116, 104]
  let mem ← afterP [109, 101, 109]
  mustP [123]
  let b ← fun r => thingsLoop (r.length + 1) ⟨⟨name, period, length, mem, [], 0, 0, [], [], []⟩, []⟩ r
  pure b.p
def partsLoop : Nat → List PartD → Ps (List PartD)
  | 0, acc => pure acc
  | f + 1, acc => do
    let b ← takesP [112, 97, 114, 116]
    if b then do
      let x ← partP
      partsLoop f (acc ++ [x])
    else pure acc
def modP : Ps ModD := do
  let name ← nameP
  let mem ← afterP [109, 101, 109]
  let frame ← afterP [102, 114, 97, 109, 101]
  mustP [123]
  let parts ← fun r => partsLoop (r.length + 1) [] r
  mustP [125]
  pure ⟨name, mem, frame, parts⟩
def chanP : Ps ChanD := do
  let f ← refP
  mustP [116, 111]
  let to ← listP refP
  mustP [59]
  pure ⟨f, to⟩
def swP : Ps SwD := do
  let name ← nameP
  let net ← netP
  let delay ← afterP [100, 101, 108, 97, 121]
  let store ← afterP [115, 116, 111, 114, 101]
  mustP [59]
  pure ⟨name, net, delay, store⟩
def linkP : Ps LinkD := do
  let a ← nameP
  let b ← nameP
  let net ← netP
  let slow ← afterP [115, 108, 111, 119]
  mustP [59]
  pure ⟨a, b, net, slow⟩
def vlP : Ps VlD := do
  let name ← nameP
  mustP [102, 114, 111, 109]
  let f ← refP
  let bag ← afterP [98, 97, 103]
  let max ← afterP [109, 97, 120]
  mustP [116, 111]
  let to ← listP refP
  mustP [59]
  pure ⟨name, f, bag, max, to⟩
/-- A name behind a word, if the word is there. -/
def optP (s : List UInt8) : Ps (List UInt8) := do
  let b ← takesP s
  if b then nameP else pure []
def healthP : Ps HealthD := do
  let f ← ofP faultWords
  let m ← optP [109, 111, 100, 117, 108, 101]
  let p ← optP [112, 97, 114, 116]
  mustP [108, 101, 118, 101, 108]
  let l ← ofP levelWords
  mustP [100, 111]
  let d ← ofP actionWords
  mustP [59]
  pure ⟨m, p, f, l, d⟩
def repP : Ps RepD := do
  let u ← nameP
  mustP [58]
  let c ← numP
  pure ⟨u, c⟩
def unlessP : Ps (List (List UInt8)) := do
  let b ← takesP [117, 110, 108, 101, 115, 115]
  if b then listP nameP else pure []
def causeP : Ps CauseD := do
  let u ← nameP
  mustP [110, 101, 101, 100, 115]
  let n ← listP repP
  let un ← unlessP
  mustP [59]
  pure ⟨u, n, un⟩
def worksP : Ps VerD := do
  let a ← nameP
  let va ← numP
  mustP [119, 105, 116, 104]
  let b ← nameP
  let vb ← numP
  mustP [59]
  pure ⟨a, va, b, vb⟩
def itemP (c : CfgD) : Ps CfgD := fun r =>
  if seesB [109, 111, 100, 117, 108, 101] r then (do skipP; let x ← modP; pure { c with modules := c.modules ++ [x] }) r
  else if seesB [99, 104, 97, 110, 110, 101, 108] r then (do skipP; let x ← chanP; pure { c with channels := c.channels ++ [x] }) r
  else if seesB [115, 119, 105, 116, 99, 104] r then (do skipP; let x ← swP; pure { c with switches := c.switches ++ [x] }) r
  else if seesB [108, 105, 110, 107] r then (do skipP; let x ← linkP; pure { c with links := c.links ++ [x] }) r
  else if seesB [118, 108] r then (do skipP; let x ← vlP; pure { c with vls := c.vls ++ [x] }) r
  else if seesB [111, 110] r then (do skipP; let x ← healthP; pure { c with health := c.health ++ [x] }) r
  else if seesB [99, 97, 117, 115, 101] r then (do skipP; let x ← causeP; pure { c with causes := c.causes ++ [x] }) r
  else if seesB [119, 111, 114, 107, 115] r then (do skipP; let x ← worksP; pure { c with versions := c.versions ++ [x] }) r
  else .bad 80 r
def itemsLoop : Nat → CfgD → Ps CfgD
  | 0, c => pure c
  | f + 1, c => fun r => match r with
    | [] => .ok c []
    | _ :: _ => (do
      let c' ← itemP c
      itemsLoop f c') r
def cfgP : Ps CfgD := fun r => itemsLoop (r.length + 1) CfgD.none r
end Go.Proofs.YtndpnpohdoggjaaGreatDoor
namespace Go.Proofs.YtndpnpohdoggjaaGreatDoor
open Go.RowKit
attribute [local go_sem] Later.cell
/-- The parser's block pb, over the tokens ts, at j. -/
structure Cur (pb : Nat) (ts : List Tok) (j : Nat) (w : World) : Prop where
  toks : ∃ A c, w.cell? ⟨pb, 0, none⟩ = some (.slice A ts.length c) ∧ TRows .u8 w A (ts.map Tok.toZ) ∧ ∀ a, A = some a → a.block ≠ pb
  now : w.cell? ⟨pb, 1, none⟩ = some (.int .i64 (j : Int))
  free : w.frozen? ⟨pb, 1, none⟩ = false
theorem TRows.kept {K : IntKind} {F : Nat → Prop} {w w' : World} {A : Option Addr} {ts : List TokZ} (h : TRows K w A ts) (hb : Kept F w w') (hF : ∀ a, A = some a → ¬ F a.block) : TRows K w' A ts := by
  rcases h with h | ⟨b, off, e, hlt, hc⟩
  · exact .inl h
  · have hf := hF _ e
    refine .inr ⟨b, off, e, Nat.lt_of_lt_of_le hlt hb.size, fun i t ht => ?_⟩
    obtain ⟨h0, h1, h2⟩ := hc i t ht
    exact ⟨(hb.cell (p := ⟨b, off + i * 3, none⟩) hlt hf).trans h0, (hb.cell (p := ⟨b, off + i * 3 + 1, none⟩) hlt hf).trans h1, (hb.cell (p := ⟨b, off + i * 3 + 2, none⟩) hlt hf).trans h2⟩
theorem Cur.lt {pb j : Nat} {ts : List Tok} {w : World} (h : Cur pb ts j w) : pb < w.heap.size := World.block_lt_of_cell? w ⟨pb, 1, none⟩ h.now
theorem Cur.to {pb j k : Nat} {ts : List Tok} {w w' : World} (h : Cur pb ts j w) (a : AtJ pb k w w') : Cur pb ts k w' := by
  obtain ⟨A, c, h0, hr, hA⟩ := h.toks
  exact ⟨⟨A, c, (a.rest 0 (by decide)).trans h0, hr.kept a.kept (fun x hx => hA x hx), hA⟩, a.here, a.free⟩
theorem Cur.below {pb j : Nat} {ts : List Tok} {w w' : World} (h : Cur pb ts j w) (hb : Below w.heap.size w w') : Cur pb ts j w' := h.to ((AtJ.start h.now h.free).below h.lt hb)
def tokVal (t : Tok) : Value := .agg #[.int .u8 (t.kind : Int), .string ⟨t.text.toArray⟩, .int .i64 (t.at_ : Int)]
theorem hdT_at (ts : List Tok) (j : Nat) (hj : j < ts.length) : hdT (ts.drop j) = ts[j] := by
  rw [List.drop_eq_getElem_cons hj]; rfl
theorem hdT_end (ts : List Tok) (j : Nat) (hj : ts.length ≤ j) : hdT (ts.drop j) = ⟨0, [], 0⟩ := by
  rw [List.drop_eq_nil_of_le hj]; rfl
set_option maxRecDepth 100000 in
set_option maxHeartbeats 1000000 in
theorem here_any (pb j : Nat) (ts : List Tok) (W : World) (H : Hid (Cur pb ts j W)) (_hts : ts.length ≤ 1099511627776) (hj : j ≤ ts.length) :
    Calls Tryz.prog 71 #[.pointer (some ⟨pb, 0, none⟩)] W fun e W' => e = .returned (tokVal (hdT (ts.drop j))) ∧ Below W.heap.size W W' := by
  obtain ⟨A, c, h0, hr, hA⟩ := H.out.toks
  have h1 := H.out.now
  have hpb := H.out.lt
  by_cases hjs : j < ts.length
  · have hL := hide (show (ts.map Tok.toZ).length = ts.length by simp)
    have HR := hide hr
    obtain ⟨b, off, t, rfl, hlt, ht, d0, d1, d2⟩ := trow_at (w' := W) hL HR (Below.refl _ _) hjs
    have htt : t = (ts[j]).toZ := by
      have := ht.out
      simp [hjs] at this
      exact this.symm
    subst htt
    have k1 : decide (j < ts.length) = true := by simp; exact hjs
    have k2 : (0 : Int) ≤ (j : Int) ∧ (j : Int) < ((ts.length : Nat) : Int) := by omega
    have hh := hide (hdT_at ts j hjs)
    clear hr hA
    simp only [Tok.toZ] at d0 d1 d2
    go_enter Tryz.func71, Tryz.ntmps71
    go_wp2_with fail
    go_quiet (fail)
    go_wp2_with fail
    go_region
    go_wp2_with fail
    refine bodyPost_ret (v := tokVal ts[j]) (by simp [results, Tryz.results71, go_sem, tokVal]) rfl ?_
    refine ⟨by rw [hh.out], ?_⟩
    exact (((Kept.alloc (F := fun _ => False) (Kept.refl _ W) _).drewN _).setCell (.inr (Nat.le_refl _)) _ |>.setCell (.inr (Nat.le_refl _)) _ |>.setCell (.inr (Nat.le_refl _)) _).below (Nat.le_refl _) (fun _ _ => not_false)
  · have k1 : decide (j < ts.length) = false := by simp; omega
    have hh := hide (hdT_end ts j (by omega))
    clear hr hA
    go_enter Tryz.func71, Tryz.ntmps71
    go_wp2_with fail
    go_quiet (fail)
    go_wp2_with fail
    refine bodyPost_ret (v := tokVal ⟨0, [], 0⟩) (by simp [results, Tryz.results71, go_sem, tokVal]) rfl ?_
    refine ⟨by rw [hh.out], ?_⟩
    exact (((Kept.alloc (F := fun _ => False) (Kept.refl _ W) _).drewN _).setCell (.inr (Nat.le_refl _)) _ |>.setCell (.inr (Nat.le_refl _)) _ |>.setCell (.inr (Nat.le_refl _)) _).below (Nat.le_refl _) (fun _ _ => not_false)
/-- How a parser's call ends. -/
def Ends {α : Type} (pb : Nat) (ts : List Tok) (W : World) (conv : α → Value) (res : Res α) (e : Ending) (W' : World) : Prop :=
  ∃ j, j ≤ ts.length ∧ AtJ pb j W W' ∧ match res with
    | .ok a r => r = ts.drop j ∧ e = .returned (conv a)
    | .bad n r => r = ts.drop j ∧ e = .panicked [{ v := .iface 159 (.agg #[.int .i64 (n : Int)]), recovered := false }]
theorem AtJ.goto {sb i : Nat} {W w : World} (h : AtJ sb i W w) (_hsb : sb < W.heap.size) (j : Nat) : AtJ sb j W (w.setCell ⟨sb, 1, none⟩ (.int .i64 (j : Int))) := by
  refine ⟨h.kept.setCell (p := ⟨sb, 1, none⟩) (Or.inl rfl) _, World.cell?_setCell_same w _ _ h.here, fun o ho => ?_, by rw [World.frozen?_setCell]; exact h.free, fun o => by rw [World.frozen?_setCell]; exact h.hold o⟩
  rw [World.cell?_setCell_other w _ _ _ (fun e => ho (by injection e with _ e2 _; exact e2.symm))]
  exact h.rest o ho
theorem wrap_j (j : Nat) (h : j ≤ 1099511627776) : IntKind.i64.wrap ((j : Int) + 1) = ((j + 1 : Nat) : Int) := by
  rw [IntKind.wrap_i64]; omega
set_option maxRecDepth 100000 in
set_option maxHeartbeats 1000000 in
theorem sees_any (pb j : Nat) (ts : List Tok) (s : ByteArray) (W : World) (H : Hid (Cur pb ts j W)) (hts : ts.length ≤ 1099511627776) (hj : j ≤ ts.length) :
    Calls Tryz.prog 179 #[.pointer (some ⟨pb, 0, none⟩), .string s] W fun e W' => e = .returned (.bool (seesB s.data.toList (ts.drop j))) ∧ Below W.heap.size W W' := by
  have HC := hide (here_any pb j ts W H hts hj)
  generalize ht : hdT (ts.drop j) = t at HC
  have hS : seesB s.data.toList (ts.drop j) = (t.text == s.data.toList && (t.kind == 1 || t.kind == 3)) := by unfold seesB; rw [ht]
  rw [hS]
  clear hS ht
  obtain ⟨κ, tx, a⟩ := t
  unfold tokVal at HC
  dsimp only at HC ⊢
  have hS : (tx == s.data.toList) = ((⟨tx.toArray⟩ : ByteArray).toList == s.toList) := by rw [ByteArray.toList_eq, ByteArray.toList_eq]
  have hK1 : (κ == 1) = ((κ : Int) == 1) := by rw [Bool.eq_iff_iff]; simp only [beq_iff_eq]; omega
  have hK3 : (κ == 3) = ((κ : Int) == 3) := by rw [Bool.eq_iff_iff]; simp only [beq_iff_eq]; omega
  rw [hS, hK1, hK3]
  clear hS hK1 hK3
  generalize (⟨tx.toArray⟩ : ByteArray) = t at *
  generalize (κ : Int) = κ at *
  go_enter Tryz.func179, Tryz.ntmps179
  go_wp2_with fail
  refine (HC.out).mono ?_
  rintro e w' ⟨rfl, hb⟩
  have HB := hide (hb.trans ((Below.refl w'.heap.size w').alloc (Nat.le_refl _) (Obj.cells #[Value.int IntKind.u8 κ, Value.string t, Value.int IntKind.i64 a] 136) |>.mono hb.size))
  clear hb
  by_cases h1 : t.toList = s.toList
  · by_cases h2 : κ = 1
    · subst h2
      go_wp2_with fail
      go_ret
      exact ⟨by simp [h1], HB.out⟩
    · go_wp2_with fail
      go_ret
      exact ⟨by simp [h1], HB.out⟩
  · go_wp2_with fail
    go_ret
    exact ⟨by simp [h1], HB.out⟩
set_option maxRecDepth 100000 in
set_option maxHeartbeats 1000000 in
theorem takes_any (pb j : Nat) (ts : List Tok) (s : ByteArray) (W : World) (H : Hid (Cur pb ts j W)) (hts : ts.length ≤ 1099511627776) (hj : j ≤ ts.length) (_hs : s.data.toList ≠ []) :
    Calls Tryz.prog 135 #[.pointer (some ⟨pb, 0, none⟩), .string s] W fun e W' => Ends pb ts W (fun b : Bool => .bool b) (takesP s.data.toList (ts.drop j)) e W' := by
  have HC := hide (sees_any pb j ts s W H hts hj)
  have hpb := H.out.lt
  unfold takesP
  cases hS : seesB s.data.toList (ts.drop j) with
  | false =>
    rw [hS] at HC
    go_enter Tryz.func135, Tryz.ntmps135
    go_wp2_with fail
    refine (HC.out).mono ?_
    rintro e w' ⟨rfl, hb⟩
    go_wp2_with fail
    go_ret
    exact ⟨j, hj, (AtJ.start H.out.now H.out.free).below hpb hb, rfl, rfl⟩
  | true =>
    rw [hS] at HC
    have hlt : j < ts.length := by
      rcases Nat.lt_or_ge j ts.length with h | h
      · exact h
      · rw [List.drop_eq_nil_of_le h] at hS
        simp [seesB, hdT] at hS
    go_enter Tryz.func135, Tryz.ntmps135
    go_wp2_with fail
    refine (HC.out).mono ?_
    rintro e w' ⟨rfl, hb⟩
    have HJ := hide ((AtJ.start H.out.now H.out.free).below hpb hb)
    have e1 := HJ.out.here
    have e2 := HJ.out.free
    have hw := Nat.lt_of_lt_of_le hpb hb.size
    have k1 : (j : Int) + 1 < 9223372036854775808 := by omega
    have k2 : -9223372036854775808 ≤ (j : Int) + 1 := by omega
    clear hb
    generalize hz : (j : Int) = z at *
    have HZ := hide hz
    clear hz
    go_wp2_with fail
    go_ret
    refine ⟨j + 1, hlt, ?_, by simp, rfl⟩
    have := HJ.out.goto hpb (j + 1)
    rwa [show ((j + 1 : Nat) : Int) = z + 1 from by have := HZ.out; omega] at this
end Go.Proofs.YtndpnpohdoggjaaGreatDoor
namespace Go.Proofs.YtndpnpohdoggjaaGreatDoor
open Go.RowKit
attribute [local go_sem] Later.cell
theorem check_yes (v : Value) (n : Int) (W : World) : Calls Tryz.prog 70 #[v, .bool true, .int .i64 n] W fun e W' => e = .returned (.tuple #[]) ∧ W' = W := by
  go_enter Tryz.func70, Tryz.ntmps70
  go_wp2_with fail
  go_end0
  exact ⟨rfl, rfl⟩
theorem check_no (v : Value) (n : Int) (W : World) : Calls Tryz.prog 70 #[v, .bool false, .int .i64 n] W fun e W' => e = .panicked [{ v := .iface 159 (.agg #[.int .i64 n]), recovered := false }] ∧ W' = W := by
  go_enter Tryz.func70, Tryz.ntmps70
  go_wp2_with fail
  exact ⟨rfl, rfl, rfl⟩
set_option maxRecDepth 100000 in
set_option maxHeartbeats 1000000 in
theorem next_tok (pb j : Nat) (κ : Nat) (ts : List Tok) (W : World) (H : Hid (Cur pb ts j W)) (hts : ts.length ≤ 1099511627776) (hj : j ≤ ts.length) (hκ : κ ≠ 0) :
    Calls Tryz.prog 134 #[.pointer (some ⟨pb, 0, none⟩), .int .u8 (κ : Int)] W fun e W' => Ends pb ts W (fun s : List UInt8 => .string ⟨s.toArray⟩) (nextP κ (ts.drop j)) e W' := by
  have HC := hide (here_any pb j ts W H hts hj)
  have hpb := H.out.lt
  unfold nextP
  have hlt : (hdT (ts.drop j)).kind = κ → j < ts.length := by
    intro h
    rcases Nat.lt_or_ge j ts.length with h' | h'
    · exact h'
    · rw [hdT_end ts j h'] at h
      exact absurd h.symm hκ
  have HLT := hide hlt
  clear hlt
  generalize ht : hdT (ts.drop j) = t at HC HLT
  clear ht
  obtain ⟨κ', tx, a⟩ := t
  unfold tokVal at HC
  dsimp only at HC HLT ⊢
  generalize htx : (⟨tx.toArray⟩ : ByteArray) = t at *
  have HTX := hide htx
  clear htx
  by_cases hκ' : κ' = κ
  · subst hκ'
    have hlt := HLT.out rfl
    rw [if_pos (by simp)]
    go_enter Tryz.func134, Tryz.ntmps134
    go_wp2_with fail
    refine (HC.out).mono ?_
    rintro e w' ⟨rfl, hb⟩
    have HJ0 := hide ((AtJ.start H.out.now H.out.free).below hpb hb)
    have e1 := HJ0.out.here
    have e2 := HJ0.out.free
    have hw := Nat.lt_of_lt_of_le hpb hb.size
    have k1 : (j : Int) + 1 < 9223372036854775808 := by omega
    have k2 : -9223372036854775808 ≤ (j : Int) + 1 := by omega
    clear hb
    generalize hz : (j : Int) = z at *
    have HZ := hide hz
    clear hz
    go_wp2_with (go_at_call 70; refine (check_yes _ _ _).mono ?_; rintro e w'' ⟨rfl, rfl⟩)
    go_ret
    refine ⟨j + 1, hlt, ?_, by simp, congrArg (fun x => Ending.returned (Value.string x)) HTX.out.symm⟩
    have := (HJ0.out.goto hpb (j + 1)).below hpb ((Below.refl _ _).alloc (Nat.le_refl _) (Obj.cells #[Value.int IntKind.u8 κ', Value.string t, Value.int IntKind.i64 a] 136))
    rwa [show ((j + 1 : Nat) : Int) = z + 1 from by have := HZ.out; omega] at this
  · rw [if_neg (by simpa using hκ')]
    have hd : ((κ' : Int) == (κ : Int)) = false := by simp; omega
    go_enter Tryz.func134, Tryz.ntmps134
    go_wp2_with fail
    refine (HC.out).mono ?_
    rintro e w' ⟨rfl, hb⟩
    have HJ0 := hide ((AtJ.start H.out.now H.out.free).below hpb hb)
    have HJ := hide (HJ0.out.below hpb ((Below.refl w'.heap.size w').alloc (Nat.le_refl _) (Obj.cells #[Value.int IntKind.u8 κ', Value.string t, Value.int IntKind.i64 a] 136)))
    clear hb
    go_wp2_with (go_at_call 70; refine (check_no _ _ _).mono ?_; rintro e w'' ⟨rfl, rfl⟩)
    exact ⟨rfl, j, hj, HJ.out, rfl, rfl⟩
set_option maxRecDepth 100000 in
set_option maxHeartbeats 1000000 in
theorem must_one (pb j xb xo c : Nat) (ts : List Tok) (s : ByteArray) (W : World) (H : Hid (Cur pb ts j W)) (hts : ts.length ≤ 1099511627776) (hj : j ≤ ts.length) (hs : s.data.toList ≠ []) (hx : W.cell? ⟨xb, xo, none⟩ = some (.string s)) (_hxb : xb ≠ pb) :
    Calls Tryz.prog 78 #[.pointer (some ⟨pb, 0, none⟩), .slice (some ⟨xb, xo, none⟩) 1 c] W fun e W' => Ends pb ts W (fun _ : Unit => .tuple #[]) (mustP s.data.toList (ts.drop j)) e W' := by
  have hpb := H.out.lt
  have HC := hide (takes_any pb j ts s W H hts hj hs)
  unfold takesP at HC
  unfold mustP
  cases hS : seesB s.data.toList (ts.drop j) with
  | false =>
    simp only [if_false, Bool.false_eq_true]
    simp only [hS, if_false, Bool.false_eq_true] at HC
    go_enter Tryz.func78, Tryz.ntmps78
    go_wp2_with fail
    go_loopw [8] (fun v8 wr => v8 = .int .i64 0 ∧ wr = W) (fun _ _ => 0)
    case atStart => exact ⟨rfl, rfl⟩
    case round =>
      obtain ⟨rfl, rfl⟩ := hrel
      go_wp2_with fail
      refine (HC.out).mono ?_
      rintro e w' ⟨j', hj', hA, hr', rfl⟩
      have HA := hide hA
      clear hA
      go_wp2_with (go_at_call 70; refine (check_no _ _ _).mono ?_; rintro e w'' ⟨rfl, rfl⟩)
      exact ⟨rfl, j', hj', HA.out, hr', rfl⟩
  | true =>
    simp only [if_true]
    simp only [hS, if_true] at HC
    go_enter Tryz.func78, Tryz.ntmps78
    go_wp2_with fail
    go_loopw [8] (fun v8 wr => (v8 = .int .i64 0 ∧ wr = W) ∨ (v8 = .int .i64 1 ∧ ∃ j', j' ≤ ts.length ∧ AtJ pb j' W wr ∧ (ts.drop j).tail = ts.drop j')) (fun v8 _ => 1 - (intOf v8).toNat)
    case atStart => exact .inl ⟨rfl, rfl⟩
    case round =>
      rcases hrel with ⟨rfl, rfl⟩ | ⟨rfl, j', hj', hA, hr'⟩
      · go_wp2_with fail
        refine (HC.out).mono ?_
        rintro e w' ⟨j', hj', hA, hr', rfl⟩
        have HA := hide hA
        clear hA
        go_wp2_with (go_at_call 70; refine (check_yes _ _ _).mono ?_; rintro e w'' ⟨rfl, rfl⟩)
        go_roundw
        case rel => exact .inr ⟨rfl, j', hj', HA.out, hr'⟩
        case measure => simp [intOf]
      · have HA := hide hA
        clear hA
        go_wp2_with fail
        go_end0
        exact ⟨j', hj', HA.out, hr', rfl⟩
end Go.Proofs.YtndpnpohdoggjaaGreatDoor
namespace Go.Proofs.YtndpnpohdoggjaaGreatDoor
open Go.RowKit
def letT : UInt8 → Bool := fun b => btwB 97 122 b || btwB 65 90 b
theorem IsT.wide {F G : Nat → Prop} {w : World} {f : Nat} {caps : Array Value} {p : UInt8 → Bool} (h : IsT F w f caps p) (hG : ∀ k, F k → G k) (hb : ∀ k, G k → k < w.heap.size) : IsT G w f caps p :=
  ⟨hb, h.enters, fun W hW b => h.says W (fun k hk => hW k (hG k hk)) b⟩
set_option maxRecDepth 100000 in
set_option maxHeartbeats 1000000 in
theorem starts_any (w : World) :
    Calls Tryz.prog 45 #[] w fun e w' => (∃ g1 g2 g3 c1 c2 c3, e = .returned (.agg #[.nilFunc, .func (.func g1) #[] c1, .func (.func g2) #[] c2, .func (.func g3) #[] c3]) ∧ IsT (fun k => w.heap.size < k ∧ k < w'.heap.size) w' g1 c1 letT ∧ IsT (fun k => w.heap.size < k ∧ k < w'.heap.size) w' g2 c2 (btwB 48 57) ∧ IsT (fun k => w.heap.size < k ∧ k < w'.heap.size) w' g3 c3 (amgB ⟨#[123, 125, 59, 44, 46, 58]⟩)) ∧ Below w.heap.size w w' := by
  have HB := hide (fun lo hi w => between_any lo hi w)
  have HA := hide (fun s w => among_any s w)
  go_enter Tryz.func45, Tryz.ntmps45
  go_wp2_with fail
  have hz0 : (w.alloc (.cells #[Value.nilFunc, Value.nilFunc, Value.nilFunc, Value.nilFunc] 127)).heap.size = w.heap.size + 1 := by simp
  have hb0 := hide ((Below.refl w.heap.size w).alloc (Nat.le_refl _) (.cells #[Value.nilFunc, Value.nilFunc, Value.nilFunc, Value.nilFunc] 127))
  have HX0 := hide (heap_alloc_new w (.cells #[Value.nilFunc, Value.nilFunc, Value.nilFunc, Value.nilFunc] 127))
  generalize hw0 : w.alloc (.cells #[Value.nilFunc, Value.nilFunc, Value.nilFunc, Value.nilFunc] 127) = w0 at *
  have HW0 := hide hw0
  clear hw0
  refine (HB.out 97 122 _).mono ?_
  rintro e w1 ⟨k1, rfl, hT1, hb1⟩
  have HT1 := hide hT1
  have HB1 := hide hb1
  have hz1 : w0.heap.size ≤ w1.heap.size := hb1.size
  clear hT1 hb1
  go_wp2_with fail
  refine (HB.out 65 90 _).mono ?_
  rintro e w2 ⟨k2, rfl, hT2, hb2⟩
  have HT2 := hide hT2
  have HB2 := hide hb2
  have hz2 : w1.heap.size ≤ w2.heap.size := hb2.size
  clear hT2 hb2
  go_wp2_with fail
  have hb3 : Below w2.heap.size w2 (w2.alloc (Obj.cells #[Value.func (Fn.func 168) #[] k1, Value.func (Fn.func 168) #[] k2] 126)) := (Below.refl _ _).alloc (Nat.le_refl _) _
  have hE := either_any w2.heap.size [⟨168, k1, btwB 97 122⟩, ⟨168, k2, btwB 65 90⟩] (fun k => w.heap.size < k ∧ k < w2.heap.size) (w2.alloc (Obj.cells #[Value.func (Fn.func 168) #[] k1, Value.func (Fn.func 168) #[] k2] 126)) (by simp) (hide (heap_alloc_new w2 _))
    (hide (by
      intro t ht
      simp only [List.mem_cons, List.not_mem_nil, or_false] at ht
      rcases ht with rfl | rfl
      · exact ((HT1.out.below HB2.out).below hb3).wide (fun k hk => ⟨by omega, by have := ((HT1.out.below HB2.out).inn k hk); omega⟩) (fun k hk => by simp; omega)
      · exact (HT2.out.below hb3).wide (fun k hk => ⟨by omega, by have := HT2.out.inn k hk; omega⟩) (fun k hk => by simp; omega)))
    (fun k hk => by simp; omega)
  have hw3 : (w2.alloc (Obj.cells #[Value.func (Fn.func 168) #[] k1, Value.func (Fn.func 168) #[] k2] 126)).heap.size = w2.heap.size + 1 := by simp
  have HE := hide hE
  have HB3 := hide hb3
  clear hE hb3
  generalize w2.alloc (Obj.cells #[Value.func (Fn.func 168) #[] k1, Value.func (Fn.func 168) #[] k2] 126) = W3 at *
  refine HE.out.mono ?_
  rintro e w4 ⟨k4, rfl, hT4, hb4⟩
  have HT4 := hide (hT4.wide (G := fun k => w.heap.size < k ∧ k < w4.heap.size) (fun k hk => ⟨by rcases hk with hk | hk | hk <;> omega, hT4.inn k hk⟩) (fun k hk => hk.2))
  have HB4 := hide hb4
  have hz4 : W3.heap.size ≤ w4.heap.size := hb4.size
  clear hT4 hb4 HE
  go_wp2_with fail
  refine (HB.out 48 57 _).mono ?_
  rintro e w5 ⟨k5, rfl, hT5, hb5⟩
  have HT5 := hide hT5
  have HB5 := hide hb5
  have hz5 : w4.heap.size ≤ w5.heap.size := hb5.size
  clear hT5 hb5
  go_wp2_with fail
  refine (HA.out _ _).mono ?_
  rintro e w6 ⟨k6, rfl, hT6, hb6⟩
  have HT6 := hide hT6
  have HB6 := hide hb6
  have hz6 : w5.heap.size ≤ w6.heap.size := hb6.size
  clear hT6 hb6
  have HBB := hide (show Below w0.heap.size w0 w6 from HB1.out.trans ((HB2.out.mono hz1).trans ((HB3.out.mono (by omega)).trans ((HB4.out.mono (by omega)).trans ((HB5.out.mono (by omega)).trans (HB6.out.mono (by omega)))))))
  have HX := hide ((HBB.out.block w.heap.size (by omega)).trans HX0.out)
  have c0 := cell_of_row w6 w.heap.size 0 _ _ _ HX.out
  have c1 := cell_of_row w6 w.heap.size 1 _ _ _ HX.out
  have c2 := cell_of_row w6 w.heap.size 2 _ _ _ HX.out
  have c3 := cell_of_row w6 w.heap.size 3 _ _ _ HX.out
  simp only [List.getElem?_toArray, List.getElem?_cons_zero, List.getElem?_cons_succ] at c0 c1 c2 c3
  have f0 := frozen_of_row w6 w.heap.size 0 _ _ HX.out
  have f1 := frozen_of_row w6 w.heap.size 1 _ _ HX.out
  have f2 := frozen_of_row w6 w.heap.size 2 _ _ HX.out
  have f3 := frozen_of_row w6 w.heap.size 3 _ _ HX.out
  have hlt : w.heap.size < w6.heap.size := by omega
  have HP : Hid (∀ w7 : World, Kept (fun k => k = w.heap.size) w6 w7 → w7.heap.size = w6.heap.size → ((∃ g1 g2 g3 c1 c2 c3, Ending.returned (Value.agg #[Value.nilFunc, Value.func (Fn.func 167) #[] k4, Value.func (Fn.func 168) #[] k5, Value.func (Fn.func 169) #[] k6]) = .returned (.agg #[.nilFunc, .func (.func g1) #[] c1, .func (.func g2) #[] c2, .func (.func g3) #[] c3]) ∧ IsT (fun k => w.heap.size < k ∧ k < w7.heap.size) w7 g1 c1 letT ∧ IsT (fun k => w.heap.size < k ∧ k < w7.heap.size) w7 g2 c2 (btwB 48 57) ∧ IsT (fun k => w.heap.size < k ∧ k < w7.heap.size) w7 g3 c3 (amgB ⟨#[123, 125, 59, 44, 46, 58]⟩)) ∧ Below w.heap.size w w7)) := by
    intro w7 hk hz
    have tr : ∀ {F : Nat → Prop} {f : Nat} {c : Array Value} {p : UInt8 → Bool}, (∀ k, F k → w.heap.size < k) → IsT F w6 f c p → IsT (fun k => w.heap.size < k ∧ k < w7.heap.size) w7 f c p := by
      intro F f c p hF h
      exact (h.keep hk.size (fun k hf => hk.block k (h.inn k hf) (by have := hF k hf; omega))).wide (fun k hf => ⟨hF k hf, by have := h.inn k hf; omega⟩) (fun k hf => hf.2)
    have e4 : anyT [⟨168, k1, btwB 97 122⟩, ⟨168, k2, btwB 65 90⟩] = letT := by funext b; simp [anyT, letT]
    have t4 := tr (fun k hf => hf.1) ((HT4.out.below HB5.out).below HB6.out)
    rw [e4] at t4
    exact ⟨⟨_, _, _, _, _, _, rfl, t4, tr (fun k hf => by omega) (HT5.out.below HB6.out), tr (fun k hf => by omega) HT6.out⟩, hb0.out.trans ((HBB.out.mono (by omega)).trans (hk.below (Nat.le_of_lt hlt) (fun i hi => by omega)))⟩
  go_wp2_with fail
  refine bodyPost_ret (v := .agg #[Value.nilFunc, Value.func (Fn.func 167) #[] k4, Value.func (Fn.func 168) #[] k5, Value.func (Fn.func 169) #[] k6]) (by simp [results, Tryz.results45, go_sem, c0, c1, c2, c3]) rfl (HP.out _ ?_ ?_)
  · exact ((((Kept.refl (fun k => k = w.heap.size) w6).setCell (p := ⟨w.heap.size, 0, none⟩) (Or.inl rfl) _).setCell (p := ⟨w.heap.size, 1, none⟩) (Or.inl rfl) _).setCell (p := ⟨w.heap.size, 2, none⟩) (Or.inl rfl) _).setCell (p := ⟨w.heap.size, 3, none⟩) (Or.inl rfl) _
  · simp [World.setCell]
end Go.Proofs.YtndpnpohdoggjaaGreatDoor

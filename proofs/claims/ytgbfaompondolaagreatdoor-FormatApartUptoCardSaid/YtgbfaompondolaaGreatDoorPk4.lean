/-
  Merged texts: lex: among. | lex: (*cursor).more. | lex: (*cursor).while. | lex: starts. | The lexer as plain functions: the steps of skipN, tokN and lexN; a token's length; the positions of tokens. | lex: (*scanner).skip. | lex: what Atoi and Itoa say of a number, against numB. | lex: number.
-/
import Derived.Test.YtgbfaompondolaaGreatDoorPk3
import Derived.Test.YtgbfaompondolaaGreatDoorShelf
import Derived.Laws.EntriesVeiled
import Derived.Test.YtgbfaompondolaaGreatDoorPk1
import Derived.Deep.RegionHeld3
import Derived.Lib.AtoiAll
import Derived.Lib.ItoaNum
import Derived.Shelf.Strconv.ErrVarAll
import Derived.Lib.ItoaLen
namespace Go.Proofs.YtgbfaompondolaaGreatDoor
open Go.RowKit
open Go.MuLone (run_callFunc_enter)
def amgB (s : ByteArray) (b : UInt8) : Bool := s.data.toList.contains b
theorem UInt8.ofNat_toNat' (b : UInt8) : b.toNat.toUInt8 = b := by simp
theorem index_nonneg : ∀ (l : List UInt8) (c : UInt8), (-1 ≤ Lib.indexByte l c) ∧ (decide (0 ≤ Lib.indexByte l c) = l.contains c)
  | [], c => by simp [Lib.indexByte]
  | b :: l, c => by
    obtain ⟨h1, h2⟩ := index_nonneg l c
    unfold Lib.indexByte
    by_cases hb : b == c
    · rw [if_pos hb]
      have : b = c := by simpa using hb
      subst this
      simp
    · rw [if_neg hb]
      have hne : ¬ c = b := fun e => hb (by simp [e])
      have hc : (b :: l).contains c = l.contains c := by simp [hne]
      rw [hc, ← h2]
      by_cases hm : Lib.indexByte l c == -1
      · rw [if_pos hm]
        have : Lib.indexByte l c = -1 := by simpa using hm
        rw [this]; simp
      · rw [if_neg hm]
        have : Lib.indexByte l c ≠ -1 := by simpa using hm
        exact ⟨by omega, by rw [decide_eq_decide]; omega⟩
set_option maxRecDepth 100000 in
set_option maxHeartbeats 400000 in
theorem amg_any (xs : Nat) (s : ByteArray) (b : UInt8) (W : World) (h1 : Hid (W.heap[xs]? = some (.cells #[.string s] 9 (0, 0)))) :
    Calls Tryz.prog 317 #[.int .u8 (b.toNat : Int), .pointer (some ⟨xs, 0, none⟩)] W fun e W' => e = .returned (.bool (amgB s b)) ∧ Below W.heap.size W W' := by
  have c1 := cell_of_row W xs 0 _ _ _ h1.out
  simp only [List.getElem?_toArray, List.getElem?_cons_zero] at c1
  have HI := hide (fun w => Tryz.strings_IndexByte s (b.toNat : Int) w)
  go_enter Tryz.func317, Tryz.ntmps317
  go_wp2_with fail
  refine (HI.out _).mono ?_
  rintro e w' ⟨rfl, rfl⟩
  generalize hx : Lib.indexByte s.data.toList ((b.toNat : Int)).toNat.toUInt8 = x
  have HX := hide (show decide (0 ≤ x) = amgB s b by rw [← hx, (index_nonneg _ _).2, Int.toNat_natCast, UInt8.ofNat_toNat' b]; rfl)
  clear hx
  go_wp2_with fail
  go_ret
  exact ⟨by rw [← HX.out]; rfl, Below.refl _ _⟩
set_option maxRecDepth 100000 in
set_option maxHeartbeats 400000 in
theorem among_any (s : ByteArray) (w : World) : Calls Tryz.prog 296 #[.string s] w fun e w' => ∃ caps, e = .returned (.func (.func 317) #[] caps) ∧ IsT (fun k => k = w.heap.size) w' 317 caps (amgB s) ∧ Below w.heap.size w w' := by
  have HT : Hid (∀ w' : World, w'.heap[w.heap.size]? = some (.cells #[.string s] 9 (0, 0)) → IsT (fun k => k = w.heap.size) w' 317 #[.pointer (some ⟨w.heap.size, 0, none⟩)] (amgB s)) := by
    intro w' h1
    have hlt := (Array.getElem?_eq_some_iff.1 h1).1
    exact ⟨fun k hk => by omega, fun args W => run_callFunc_enter (c := ((Tryz.f317).body.getD .skip)) Tryz.func317 (by kernel_rfl) (by kernel_rfl) args W, fun W hW b => amg_any w.heap.size s b W ((hW _ rfl).trans h1)⟩
  go_enter Tryz.func296, Tryz.ntmps296
  go_wp2_with fail
  go_ret
  exact ⟨_, rfl, HT.out _ (heap_alloc_new w _), (Below.refl _ _).alloc (Nat.le_refl _) _⟩
end Go.Proofs.YtgbfaompondolaaGreatDoor
namespace Go.Proofs.YtgbfaompondolaaGreatDoor
open Go.RowKit
attribute [local go_sem] Later.cell
set_option maxRecDepth 100000 in
set_option maxHeartbeats 1000000 in
theorem more_yes (sb f k : Nat) (caps : Array Value) (p : UInt8 → Bool) (F : Nat → Prop) (src : ByteArray) (W : World) (c0 : W.cell? ⟨sb, 0, none⟩ = some (.string src)) (c1 : W.cell? ⟨sb, 1, none⟩ = some (.int .i64 (k : Int))) (hk : k < src.size) (_hs : src.size ≤ 1099511627776) (hT : Hid (IsT F W f caps p)) :
    Calls Tryz.prog 320 #[.pointer (some ⟨sb, 0, none⟩), .func (.func f) #[] caps] W fun e W' => e = .returned (.bool (p src[k])) ∧ Below W.heap.size W W' := by
  have hen := hT.out.enters
  have hsb : sb < W.heap.size := World.block_lt_of_cell? W ⟨sb, 0, none⟩ c0
  have HC := hide (fun s : Later W => (hT.out.below s.below).says s.w (fun _ _ => rfl) src[k])
  have k0 : (0 : Int) ≤ (k : Int) := by omega
  have k1 : (k : Int) < (src.size : Int) := by omega
  go_enter Tryz.func320, Tryz.ntmps320
  go_wp2_with fail
  refine wp_region_later (by kernel_rfl) (by kernel_rfl) ?_
  repeat (go_big_quiet_step (exact Later.call (HC.out _)))
  refine wpQuiet_nil ?_
  intro _ hw'
  obtain ⟨nq, hw''⟩ := hw'
  subst hw''
  go_wp2_with fail
  go_ret
  exact ⟨rfl, nq.below⟩
set_option maxRecDepth 100000 in
set_option maxHeartbeats 1000000 in
theorem more_end (sb k : Nat) (v : Value) (src : ByteArray) (W : World) (c0 : W.cell? ⟨sb, 0, none⟩ = some (.string src)) (c1 : W.cell? ⟨sb, 1, none⟩ = some (.int .i64 (k : Int))) (hk : src.size ≤ k) (_hs : src.size ≤ 1099511627776) :
    Calls Tryz.prog 320 #[.pointer (some ⟨sb, 0, none⟩), v] W fun e W' => e = .returned (.bool false) ∧ Below W.heap.size W W' := by
  have hsb : sb < W.heap.size := World.block_lt_of_cell? W ⟨sb, 0, none⟩ c0
  have k1 : decide (k < src.size) = false := by simp; omega
  go_enter Tryz.func320, Tryz.ntmps320
  go_wp2_with fail
  go_quiet (fail)
  go_wp2_with fail
  go_ret
  exact ⟨rfl, below_drewN (Below.refl _ _) _⟩
end Go.Proofs.YtgbfaompondolaaGreatDoor
namespace Go.Proofs.YtgbfaompondolaaGreatDoor
open Go.RowKit
attribute [local go_sem] Later.cell
/-- What a scanner's step leaves: the cell 1 of block sb stands at j, the rest is as it was. -/
structure AtJ (sb j : Nat) (w w' : World) : Prop where
  kept : Kept (fun k => k = sb) w w'
  here : w'.cell? ⟨sb, 1, none⟩ = some (.int .i64 (j : Int))
  rest : ∀ o, o ≠ 1 → w'.cell? ⟨sb, o, none⟩ = w.cell? ⟨sb, o, none⟩
  free : w'.frozen? ⟨sb, 1, none⟩ = false
  hold : ∀ o, w'.frozen? ⟨sb, o, none⟩ = w.frozen? ⟨sb, o, none⟩
theorem AtJ.trans {sb i j : Nat} {a b c : World} (h : AtJ sb i a b) (k : AtJ sb j b c) : AtJ sb j a c :=
  ⟨h.kept.trans k.kept, k.here, fun o ho => (k.rest o ho).trans (h.rest o ho), k.free, fun o => (k.hold o).trans (h.hold o)⟩
theorem AtJ.below {sb j : Nat} {a b c : World} (h : AtJ sb j a b) (hsb : sb < a.heap.size) (k : Below b.heap.size b c) : AtJ sb j a c := by
  have hb : sb < b.heap.size := Nat.lt_of_lt_of_le hsb h.kept.size
  exact ⟨h.kept.trans (.of_below k), (World.cell?_of_block (w := b) (k.block sb hb)).trans h.here, fun o ho => (World.cell?_of_block (w := b) (k.block sb hb)).trans (h.rest o ho), (World.frozen?_of_block (w := b) (a := ⟨sb, 1, none⟩) (k.block sb hb)).trans h.free, fun o => (World.frozen?_of_block (w := b) (a := ⟨sb, o, none⟩) (k.block sb hb)).trans (h.hold o)⟩
theorem AtJ.start {sb j : Nat} {w : World} (c1 : w.cell? ⟨sb, 1, none⟩ = some (.int .i64 (j : Int))) (cf : w.frozen? ⟨sb, 1, none⟩ = false) : AtJ sb j w w := ⟨.refl _ _, c1, fun _ _ => rfl, cf, fun _ => rfl⟩
theorem IsT.atJ {F : Nat → Prop} {w w' : World} {f : Nat} {caps : Array Value} {p : UInt8 → Bool} {sb j : Nat} (h : IsT F w f caps p) (hF : ∀ k, F k → k ≠ sb) (k : AtJ sb j w w') : IsT F w' f caps p :=
  h.keep k.kept.size (fun i hi => k.kept.block i (h.inn i hi) (hF i hi))
def toksL (src : ByteArray) : List UInt8 := src.data.toList
theorem toksL_drop (src : ByteArray) (j : Nat) (hj : j < src.size) : (toksL src).drop j = src[j] :: (toksL src).drop (j + 1) := by
  have hl : j < (toksL src).length := by simpa [toksL] using hj
  rw [List.drop_eq_getElem_cons hl]
  rfl
/-- Where a run of bytes that pass ends. -/
def runTo (p : UInt8 → Bool) (src : ByteArray) (j : Nat) : Nat := j + (((toksL src).drop j).takeWhile p).length
theorem runTo_yes (p : UInt8 → Bool) (src : ByteArray) (j : Nat) (hj : j < src.size) (h : p src[j] = true) : runTo p src (j + 1) = runTo p src j := by
  unfold runTo
  rw [toksL_drop src j hj, List.takeWhile_cons, if_pos h, List.length_cons]
  omega
theorem runTo_no (p : UInt8 → Bool) (src : ByteArray) (j : Nat) (hj : j < src.size) (h : p src[j] = false) : runTo p src j = j := by
  unfold runTo
  rw [toksL_drop src j hj, List.takeWhile_cons, if_neg (by simp [h])]
  simp
theorem runTo_end (p : UInt8 → Bool) (src : ByteArray) (j : Nat) (hj : src.size ≤ j) : runTo p src j = j := by
  unfold runTo
  rw [List.drop_eq_nil_of_le (by simpa [toksL] using hj)]
  simp
def atOf (sb : Nat) (w : World) : Nat := (intOf ((w.cell? ⟨sb, 1, none⟩).getD (.int .i64 0))).toNat
set_option maxRecDepth 100000 in
set_option maxHeartbeats 1000000 in
theorem while_any (sb f k : Nat) (caps : Array Value) (p : UInt8 → Bool) (F : Nat → Prop) (src : ByteArray) (W : World) (c0 : Hid (W.cell? ⟨sb, 0, none⟩ = some (.string src))) (c1 : Hid (W.cell? ⟨sb, 1, none⟩ = some (.int .i64 (k : Int)))) (cf : Hid (W.frozen? ⟨sb, 1, none⟩ = false)) (hk : k ≤ src.size) (hs : src.size ≤ 1099511627776) (hT : Hid (IsT F W f caps p)) (hF : Hid (∀ k, F k → k ≠ sb)) :
    Calls Tryz.prog 319 #[.pointer (some ⟨sb, 0, none⟩), .func (.func f) #[] caps] W fun e W' => e = .returned (.tuple #[]) ∧ AtJ sb (runTo p src k) W W' := by
  have hsb : sb < W.heap.size := World.block_lt_of_cell? W ⟨sb, 0, none⟩ c0.out
  go_enter Tryz.func319, Tryz.ntmps319
  go_wp2_with fail
  go_loopw [] (fun wr => ∃ j : Nat, j ≤ src.size ∧ runTo p src j = runTo p src k ∧ AtJ sb j W wr) (fun wr => src.size - atOf sb wr)
  case atStart => exact ⟨k, hk, rfl, AtJ.start c1.out cf.out⟩
  case round =>
    obtain ⟨j, hj, hr, hA⟩ := hrel
    have HR := hide hr
    have HA := hide hA
    clear hr hA
    have d0 := (HA.out.rest 0 (by decide)).trans c0.out
    have d1 := HA.out.here
    have HT2 := hide (hT.out.atJ hF.out HA.out)
    by_cases hjs : j < src.size
    · have HM := hide (more_yes sb f j caps p F src _ d0 d1 hjs hs HT2)
      have hwr : sb < wr.heap.size := World.block_lt_of_cell? wr ⟨sb, 1, none⟩ d1
      cases hp : p src[j] with
      | true =>
        have HN := hide (runTo_yes p src j hjs hp)
        rw [hp] at HM
        go_wp2_with fail
        refine (HM.out).mono ?_
        rintro e w' ⟨rfl, hb⟩
        have HA2 := hide (HA.out.below hsb hb)
        have e1 : w'.cell? ⟨sb, 1, none⟩ = some (.int .i64 (j : Int)) := HA2.out.here
        have e2 := HA2.out.free
        have e0 := (HA2.out.rest 0 (by decide)).trans c0.out
        have k0 : (0 : Int) ≤ (j : Int) := by omega
        have k1 : (j : Int) + 1 < 9223372036854775808 := by omega
        have k2 : -9223372036854775808 ≤ (j : Int) + 1 := by omega
        clear d0 d1 hb hp HM e0 hwr
        generalize hz : (j : Int) = z at *
        have HZ := hide hz
        clear hz
        go_wp2_with fail
        have hlt : w'.cell? ⟨sb, 1, none⟩ ≠ none := by rw [e1]; exact Option.some_ne_none _
        have hset : AtJ sb (j + 1) w' (w'.setCell ⟨sb, 1, none⟩ (.int .i64 (z + 1))) := by
          refine ⟨(Kept.refl (fun k => k = sb) w').setCell (p := ⟨sb, 1, none⟩) (Or.inl rfl) _, ?_, ?_, ?_, fun o => by rw [World.frozen?_setCell]⟩
          · rw [← HZ.out]; exact World.cell?_setCell_same w' _ _ e1
          · intro o ho; exact World.cell?_setCell_other w' _ _ _ (fun e => ho (by injection e with _ e2 _; exact e2.symm))
          · rw [World.frozen?_setCell]; exact e2
        have m1 : atOf sb (w'.setCell ⟨sb, 1, none⟩ (.int .i64 (z + 1))) = j + 1 := by unfold atOf; rw [hset.here]; simp [intOf]
        have m2 : atOf sb wr = j := by unfold atOf; rw [HA.out.here]; simp [intOf]
        have HS := hide hset
        have HM3 := hide (show src.size - atOf sb (w'.setCell ⟨sb, 1, none⟩ (.int .i64 (z + 1))) < src.size - atOf sb wr by rw [m1, m2]; omega)
        clear hset m1 m2 hlt e1 e2
        go_roundw
        case rel => exact ⟨j + 1, hjs, HN.out.trans HR.out, HA2.out.trans HS.out⟩
        case measure => exact HM3.out
      | false =>
        have HN := hide (runTo_no p src j hjs hp)
        rw [hp] at HM
        go_wp2_with fail
        refine (HM.out).mono ?_
        rintro e w' ⟨rfl, hb⟩
        go_wp2_with fail
        go_end0
        exact ⟨rfl, by have := HA.out.below hsb hb; rwa [← HR.out, HN.out]⟩
    · have HM := hide (more_end sb j (.func (.func f) #[] caps) src _ d0 d1 (by omega) hs)
      have HN := hide (runTo_end p src j (by omega))
      go_wp2_with fail
      refine (HM.out).mono ?_
      rintro e w' ⟨rfl, hb⟩
      go_wp2_with fail
      go_end0
      exact ⟨rfl, by have := HA.out.below hsb hb; rwa [← HR.out, HN.out]⟩
end Go.Proofs.YtgbfaompondolaaGreatDoor
namespace Go.Proofs.YtgbfaompondolaaGreatDoor
open Go.RowKit
def letT : UInt8 → Bool := fun b => btwB 97 122 b || btwB 65 90 b
theorem IsT.wide {F G : Nat → Prop} {w : World} {f : Nat} {caps : Array Value} {p : UInt8 → Bool} (h : IsT F w f caps p) (hG : ∀ k, F k → G k) (hb : ∀ k, G k → k < w.heap.size) : IsT G w f caps p :=
  ⟨hb, h.enters, fun W hW b => h.says W (fun k hk => hW k (hG k hk)) b⟩
set_option maxRecDepth 100000 in
set_option maxHeartbeats 1000000 in
theorem starts_any (w : World) :
    Calls Tryz.prog 262 #[] w fun e w' => (∃ g1 g2 g3 c1 c2 c3, e = .returned (.agg #[.nilFunc, .func (.func g1) #[] c1, .func (.func g2) #[] c2, .func (.func g3) #[] c3]) ∧ IsT (fun k => w.heap.size < k ∧ k < w'.heap.size) w' g1 c1 letT ∧ IsT (fun k => w.heap.size < k ∧ k < w'.heap.size) w' g2 c2 (btwB 48 57) ∧ IsT (fun k => w.heap.size < k ∧ k < w'.heap.size) w' g3 c3 (amgB ⟨#[123, 125, 59, 44, 46, 58]⟩)) ∧ Below w.heap.size w w' := by
  have HB := hide (fun lo hi w => between_any lo hi w)
  have HA := hide (fun s w => among_any s w)
  go_enter Tryz.func262, Tryz.ntmps262
  go_wp2_with fail
  have hz0 : (w.alloc (.cells #[Value.nilFunc, Value.nilFunc, Value.nilFunc, Value.nilFunc] 257)).heap.size = w.heap.size + 1 := by simp
  have hb0 := hide ((Below.refl w.heap.size w).alloc (Nat.le_refl _) (.cells #[Value.nilFunc, Value.nilFunc, Value.nilFunc, Value.nilFunc] 257))
  have HX0 := hide (heap_alloc_new w (.cells #[Value.nilFunc, Value.nilFunc, Value.nilFunc, Value.nilFunc] 257))
  generalize hw0 : w.alloc (.cells #[Value.nilFunc, Value.nilFunc, Value.nilFunc, Value.nilFunc] 257) = w0 at *
  have HW0 := hide hw0
  clear hw0
  refine (HB.out 97 122 _).mono ?_
  rintro e w1 ⟨k1, rfl, hT1, hb1⟩
  have HT1 := hide hT1
  have HB1 := hide hb1
  have hz1 : w0.heap.size ≤ w1.heap.size := hb1.size
  clear hT1 hb1
  go_wp2_with fail
  refine (HB.out 65 90 _).mono ?_
  rintro e w2 ⟨k2, rfl, hT2, hb2⟩
  have HT2 := hide hT2
  have HB2 := hide hb2
  have hz2 : w1.heap.size ≤ w2.heap.size := hb2.size
  clear hT2 hb2
  go_wp2_with fail
  have hb3 : Below w2.heap.size w2 (w2.alloc (Obj.cells #[Value.func (Fn.func 316) #[] k1, Value.func (Fn.func 316) #[] k2] 233)) := (Below.refl _ _).alloc (Nat.le_refl _) _
  have hE := either_any w2.heap.size [⟨316, k1, btwB 97 122⟩, ⟨316, k2, btwB 65 90⟩] (fun k => w.heap.size < k ∧ k < w2.heap.size) (w2.alloc (Obj.cells #[Value.func (Fn.func 316) #[] k1, Value.func (Fn.func 316) #[] k2] 233)) (by simp) (hide (heap_alloc_new w2 _))
    (hide (by
      intro t ht
      simp only [List.mem_cons, List.not_mem_nil, or_false] at ht
      rcases ht with rfl | rfl
      · exact ((HT1.out.below HB2.out).below hb3).wide (fun k hk => ⟨by omega, by have := ((HT1.out.below HB2.out).inn k hk); omega⟩) (fun k hk => by simp; omega)
      · exact (HT2.out.below hb3).wide (fun k hk => ⟨by omega, by have := HT2.out.inn k hk; omega⟩) (fun k hk => by simp; omega)))
    (fun k hk => by simp; omega)
  have hw3 : (w2.alloc (Obj.cells #[Value.func (Fn.func 316) #[] k1, Value.func (Fn.func 316) #[] k2] 233)).heap.size = w2.heap.size + 1 := by simp
  have HE := hide hE
  have HB3 := hide hb3
  clear hE hb3
  generalize w2.alloc (Obj.cells #[Value.func (Fn.func 316) #[] k1, Value.func (Fn.func 316) #[] k2] 233) = W3 at *
  refine HE.out.mono ?_
  rintro e w4 ⟨k4, rfl, hT4, hb4⟩
  have HT4 := hide (hT4.wide (G := fun k => w.heap.size < k ∧ k < w4.heap.size) (fun k hk => ⟨by rcases hk with hk | hk | hk <;> omega, hT4.inn k hk⟩) (fun k hk => hk.2))
  have HB4 := hide hb4
  have hz4 : W3.heap.size ≤ w4.heap.size := hb4.size
  clear hT4 hb4 HE
  go_wp2_with fail
  refine (HB.out 48 57 _).mono ?_
  rintro e w5 ⟨k5, rfl, hT5, hb5⟩
  have HT5 := hide hT5
  have HB5 := hide hb5
  have hz5 : w4.heap.size ≤ w5.heap.size := hb5.size
  clear hT5 hb5
  go_wp2_with fail
  refine (HA.out _ _).mono ?_
  rintro e w6 ⟨k6, rfl, hT6, hb6⟩
  have HT6 := hide hT6
  have HB6 := hide hb6
  have hz6 : w5.heap.size ≤ w6.heap.size := hb6.size
  clear hT6 hb6
  have HBB := hide (show Below w0.heap.size w0 w6 from HB1.out.trans ((HB2.out.mono hz1).trans ((HB3.out.mono (by omega)).trans ((HB4.out.mono (by omega)).trans ((HB5.out.mono (by omega)).trans (HB6.out.mono (by omega)))))))
  have HX := hide ((HBB.out.block w.heap.size (by omega)).trans HX0.out)
  have c0 := cell_of_row w6 w.heap.size 0 _ _ _ HX.out
  have c1 := cell_of_row w6 w.heap.size 1 _ _ _ HX.out
  have c2 := cell_of_row w6 w.heap.size 2 _ _ _ HX.out
  have c3 := cell_of_row w6 w.heap.size 3 _ _ _ HX.out
  simp only [List.getElem?_toArray, List.getElem?_cons_zero, List.getElem?_cons_succ] at c0 c1 c2 c3
  have f0 := frozen_of_row w6 w.heap.size 0 _ _ HX.out
  have f1 := frozen_of_row w6 w.heap.size 1 _ _ HX.out
  have f2 := frozen_of_row w6 w.heap.size 2 _ _ HX.out
  have f3 := frozen_of_row w6 w.heap.size 3 _ _ HX.out
  have hlt : w.heap.size < w6.heap.size := by omega
  have HP : Hid (∀ w7 : World, Kept (fun k => k = w.heap.size) w6 w7 → w7.heap.size = w6.heap.size → ((∃ g1 g2 g3 c1 c2 c3, Ending.returned (Value.agg #[Value.nilFunc, Value.func (Fn.func 315) #[] k4, Value.func (Fn.func 316) #[] k5, Value.func (Fn.func 317) #[] k6]) = .returned (.agg #[.nilFunc, .func (.func g1) #[] c1, .func (.func g2) #[] c2, .func (.func g3) #[] c3]) ∧ IsT (fun k => w.heap.size < k ∧ k < w7.heap.size) w7 g1 c1 letT ∧ IsT (fun k => w.heap.size < k ∧ k < w7.heap.size) w7 g2 c2 (btwB 48 57) ∧ IsT (fun k => w.heap.size < k ∧ k < w7.heap.size) w7 g3 c3 (amgB ⟨#[123, 125, 59, 44, 46, 58]⟩)) ∧ Below w.heap.size w w7)) := by
    intro w7 hk hz
    have tr : ∀ {F : Nat → Prop} {f : Nat} {c : Array Value} {p : UInt8 → Bool}, (∀ k, F k → w.heap.size < k) → IsT F w6 f c p → IsT (fun k => w.heap.size < k ∧ k < w7.heap.size) w7 f c p := by
      intro F f c p hF h
      exact (h.keep hk.size (fun k hf => hk.block k (h.inn k hf) (by have := hF k hf; omega))).wide (fun k hf => ⟨hF k hf, by have := h.inn k hf; omega⟩) (fun k hf => hf.2)
    have e4 : anyT [⟨316, k1, btwB 97 122⟩, ⟨316, k2, btwB 65 90⟩] = letT := by funext b; simp [anyT, letT]
    have t4 := tr (fun k hf => hf.1) ((HT4.out.below HB5.out).below HB6.out)
    rw [e4] at t4
    exact ⟨⟨_, _, _, _, _, _, rfl, t4, tr (fun k hf => by omega) (HT5.out.below HB6.out), tr (fun k hf => by omega) HT6.out⟩, hb0.out.trans ((HBB.out.mono (by omega)).trans (hk.below (Nat.le_of_lt hlt) (fun i hi => by omega)))⟩
  go_wp2_with fail
  refine bodyPost_ret (v := .agg #[Value.nilFunc, Value.func (Fn.func 315) #[] k4, Value.func (Fn.func 316) #[] k5, Value.func (Fn.func 317) #[] k6]) (by simp [results, Tryz.results262, go_sem, c0, c1, c2, c3]) rfl (HP.out _ ?_ ?_)
  · exact ((((Kept.refl (fun k => k = w.heap.size) w6).setCell (p := ⟨w.heap.size, 0, none⟩) (Or.inl rfl) _).setCell (p := ⟨w.heap.size, 1, none⟩) (Or.inl rfl) _).setCell (p := ⟨w.heap.size, 2, none⟩) (Or.inl rfl) _).setCell (p := ⟨w.heap.size, 3, none⟩) (Or.inl rfl) _
  · simp [World.setCell]
end Go.Proofs.YtgbfaompondolaaGreatDoor
namespace Go.Proofs.YtgbfaompondolaaGreatDoor
/-- What is left to be lexed, with enough fuel. -/
def lexA (p : Nat) (l : List UInt8) : List Tok × Nat × Nat := lexN (l.length + 1) p l
theorem skipN_le : ∀ (c : Bool) (l : List UInt8), skipN c l ≤ l.length
  | _, [] => by simp [skipN]
  | true, b :: r => by
    unfold skipN
    have h1 := skipN_le false r
    have h2 := skipN_le true r
    split <;> simp only [List.length_cons] <;> omega
  | false, b :: r => by
    unfold skipN
    have h1 := skipN_le false r
    have h2 := skipN_le true r
    split
    · simp only [List.length_cons]; omega
    · split <;> simp only [List.length_cons] <;> omega
theorem runN_le (r : List UInt8) : runN r ≤ r.length := by
  unfold runN
  exact (List.takeWhile_prefix _).length_le
theorem tokN_pos (b : UInt8) (r : List UInt8) (h : (tokN (b :: r)).2.2 = 0) : 1 ≤ (tokN (b :: r)).2.1 := by
  unfold tokN at *
  simp only at *
  split
  · split <;> simp only <;> omega
  · split
    · split <;> simp only <;> omega
    · split
      · simp
      · rename_i h1 h2 h3
        rw [if_neg h1, if_neg h2, if_neg h3] at h
        simp at h
theorem tokN_le (b : UInt8) (r : List UInt8) : (tokN (b :: r)).2.1 ≤ r.length + 1 := by
  unfold tokN
  have := runN_le r
  simp only
  split
  · split <;> simp only <;> omega
  · split
    · split <;> simp only <;> omega
    · split <;> simp
theorem lexN_fuel : ∀ (f g p : Nat) (l : List UInt8), l.length < f → l.length < g → lexN f p l = lexN g p l
  | 0, _, _, _, h, _ => absurd h (by omega)
  | _ + 1, 0, _, _, _, h => absurd h (by omega)
  | f + 1, g + 1, p, l, hf, hg => by
    unfold lexN
    have hd : (l.drop (skipN false l)).length ≤ l.length := by rw [List.length_drop]; omega
    cases h : l.drop (skipN false l) with
    | nil => rfl
    | cons b r =>
      rw [h] at hd
      simp only [List.length_cons] at hd
      simp only
      split
      · rename_i h0
        have hp := tokN_pos b r h0
        have hl : ((b :: r).drop (tokN (b :: r)).2.1).length < l.length := by rw [List.length_drop, List.length_cons]; omega
        rw [lexN_fuel f g _ _ (by omega) (by omega)]
      · rfl
theorem lexA_eq (p : Nat) (l : List UInt8) : lexA p l = match l.drop (skipN false l) with
    | [] => ([], 0, 0)
    | b :: r =>
      if (tokN (b :: r)).2.2 = 0 then
        (⟨(tokN (b :: r)).1, (b :: r).take (tokN (b :: r)).2.1, p + skipN false l⟩ :: (lexA (p + skipN false l + (tokN (b :: r)).2.1) ((b :: r).drop (tokN (b :: r)).2.1)).1, (lexA (p + skipN false l + (tokN (b :: r)).2.1) ((b :: r).drop (tokN (b :: r)).2.1)).2)
      else ([], p + skipN false l, (tokN (b :: r)).2.2) := by
  unfold lexA
  have hd : (l.drop (skipN false l)).length ≤ l.length := by rw [List.length_drop]; omega
  conv => lhs; unfold lexN
  cases h : l.drop (skipN false l) with
  | nil => rfl
  | cons b r =>
    rw [h] at hd
    simp only [List.length_cons] at hd
    simp only
    split
    · rename_i h0
      have hp := tokN_pos b r h0
      have hl : ((b :: r).drop (tokN (b :: r)).2.1).length < l.length := by rw [List.length_drop, List.length_cons]; omega
      rw [lexN_fuel l.length (((b :: r).drop (tokN (b :: r)).2.1).length + 1) _ _ (by omega) (by omega)]
    · rfl
theorem lexA_nil (p : Nat) : lexA p [] = ([], 0, 0) := by rw [lexA_eq]; simp
theorem skipN_t (b : UInt8) (r : List UInt8) : skipN true (b :: r) = 1 + (if b == 10 then skipN false r else skipN true r) := by
  conv => lhs; unfold skipN
  split <;> rfl
theorem skipN_f (b : UInt8) (r : List UInt8) : skipN false (b :: r) = if blankB b then 1 + skipN false r else if b == 35 then 1 + skipN true r else 0 := by
  conv => lhs; unfold skipN
theorem skipN_skip : ∀ (c : Bool) (l : List UInt8), skipN false (l.drop (skipN c l)) = 0
  | true, [] => rfl
  | false, [] => rfl
  | true, b :: r => by
    have h1 := skipN_skip false r
    have h2 := skipN_skip true r
    rw [skipN_t, Nat.add_comm 1, List.drop_succ_cons]
    cases hb : b == 10
    · exact h2
    · exact h1
  | false, b :: r => by
    have h1 := skipN_skip false r
    have h2 := skipN_skip true r
    have e := skipN_f b r
    by_cases hb : blankB b = true
    · rw [if_pos hb] at e
      rw [e, Nat.add_comm 1, List.drop_succ_cons]; exact h1
    · rw [if_neg hb] at e
      by_cases hc : (b == 35) = true
      · rw [if_pos hc] at e
        rw [e, Nat.add_comm 1, List.drop_succ_cons]; exact h2
      · rw [if_neg hc] at e
        rw [e, List.drop_zero, e]
/-- After what is skipped. -/
theorem lexA_skip (p : Nat) (l : List UInt8) : lexA p l = lexA (p + skipN false l) (l.drop (skipN false l)) := by
  have h0 : skipN false (l.drop (skipN false l)) = 0 := skipN_skip false l
  rw [lexA_eq p l, lexA_eq (p + skipN false l), h0]
  simp
/-- What the scanner yields: the tokens, and behind the last one the invalid one, if any, with its error. -/
def elsN : Nat → Nat → List UInt8 → List (Tok × Nat)
  | 0, _, _ => []
  | f + 1, p, l =>
    match l.drop (skipN false l) with
    | [] => []
    | b :: r =>
      (⟨(tokN (b :: r)).1, (b :: r).take (tokN (b :: r)).2.1, p + skipN false l⟩, (tokN (b :: r)).2.2) ::
        (if (tokN (b :: r)).2.2 = 0 then elsN f (p + skipN false l + (tokN (b :: r)).2.1) ((b :: r).drop (tokN (b :: r)).2.1) else [])
def elsA (p : Nat) (l : List UInt8) : List (Tok × Nat) := elsN (l.length + 1) p l
theorem elsN_fuel : ∀ (f g p : Nat) (l : List UInt8), l.length < f → l.length < g → elsN f p l = elsN g p l
  | 0, _, _, _, h, _ => absurd h (by omega)
  | _ + 1, 0, _, _, _, h => absurd h (by omega)
  | f + 1, g + 1, p, l, hf, hg => by
    unfold elsN
    have hd : (l.drop (skipN false l)).length ≤ l.length := by rw [List.length_drop]; omega
    cases h : l.drop (skipN false l) with
    | nil => rfl
    | cons b r =>
      rw [h] at hd
      simp only [List.length_cons] at hd
      simp only
      split
      · rename_i h0
        have hp := tokN_pos b r h0
        have hl : ((b :: r).drop (tokN (b :: r)).2.1).length < l.length := by rw [List.length_drop, List.length_cons]; omega
        rw [elsN_fuel f g _ _ (by omega) (by omega)]
      · rfl
theorem elsA_eq (p : Nat) (l : List UInt8) : elsA p l = match l.drop (skipN false l) with
    | [] => []
    | b :: r =>
      (⟨(tokN (b :: r)).1, (b :: r).take (tokN (b :: r)).2.1, p + skipN false l⟩, (tokN (b :: r)).2.2) ::
        (if (tokN (b :: r)).2.2 = 0 then elsA (p + skipN false l + (tokN (b :: r)).2.1) ((b :: r).drop (tokN (b :: r)).2.1) else []) := by
  unfold elsA
  have hd : (l.drop (skipN false l)).length ≤ l.length := by rw [List.length_drop]; omega
  conv => lhs; unfold elsN
  cases h : l.drop (skipN false l) with
  | nil => rfl
  | cons b r =>
    rw [h] at hd
    simp only [List.length_cons] at hd
    simp only
    split
    · rename_i h0
      have hp := tokN_pos b r h0
      have hl : ((b :: r).drop (tokN (b :: r)).2.1).length < l.length := by rw [List.length_drop, List.length_cons]; omega
      rw [elsN_fuel l.length (((b :: r).drop (tokN (b :: r)).2.1).length + 1) _ _ (by omega) (by omega)]
    · rfl
theorem elsA_skip (p : Nat) (l : List UInt8) : elsA p l = elsA (p + skipN false l) (l.drop (skipN false l)) := by
  have h0 : skipN false (l.drop (skipN false l)) = 0 := skipN_skip false l
  rw [elsA_eq p l, elsA_eq (p + skipN false l), h0]
  simp
/-- The result of Lex out of what the scanner yields. -/
theorem lex_els : ∀ (n p : Nat) (l : List UInt8), l.length ≤ n → ((lexA p l).2.2 = 0 → elsA p l = (lexA p l).1.map (·, 0) ∧ (lexA p l).2.1 = 0) ∧
    ((lexA p l).2.2 ≠ 0 → ∃ t : Tok, elsA p l = (lexA p l).1.map (·, 0) ++ [(t, (lexA p l).2.2)] ∧ t.at_ = (lexA p l).2.1)
  | n, p, l, hn => by
    rw [lexA_eq, elsA_eq]
    have hd : (l.drop (skipN false l)).length ≤ l.length := by rw [List.length_drop]; omega
    cases h : l.drop (skipN false l) with
    | nil => simp
    | cons b r =>
      rw [h] at hd
      simp only [List.length_cons] at hd
      simp only
      by_cases h0 : (tokN (b :: r)).2.2 = 0
      · have hp := tokN_pos b r h0
        have hl : ((b :: r).drop (tokN (b :: r)).2.1).length < l.length := by rw [List.length_drop, List.length_cons]; omega
        cases n with
        | zero => omega
        | succ n =>
          have ih := lex_els n (p + skipN false l + (tokN (b :: r)).2.1) ((b :: r).drop (tokN (b :: r)).2.1) (by omega)
          rw [if_pos h0, if_pos h0]
          refine ⟨fun he => ?_, fun he => ?_⟩
          · obtain ⟨i1, i2⟩ := ih.1 he
            exact ⟨by rw [i1]; simp [h0], i2⟩
          · obtain ⟨t, i1, i2⟩ := ih.2 he
            exact ⟨t, by rw [i1]; simp [h0], i2⟩
      · rw [if_neg h0, if_neg h0]
        exact ⟨fun he => absurd he h0, fun _ => ⟨_, rfl, rfl⟩⟩
theorem elsA_errs : ∀ (n p : Nat) (l : List UInt8), l.length ≤ n → ∀ pre x suf, elsA p l = pre ++ x :: suf → (∀ y ∈ pre, y.2 = 0) ∧ (x.2 ≠ 0 → suf = [])
  | n, p, l, hn, pre, x, suf, he => by
    have h0 := lex_els n p l hn
    by_cases hz : (lexA p l).2.2 = 0
    · have h1 := (h0.1 hz).1
      rw [h1] at he
      have ha : ∀ y ∈ pre ++ x :: suf, y.2 = 0 := by
        rw [← he]; intro y hy
        obtain ⟨t, _, rfl⟩ := List.mem_map.1 hy
        rfl
      exact ⟨fun y hy => ha y (by simp [hy]), fun hx => absurd (ha x (by simp)) hx⟩
    · obtain ⟨t, h1, _⟩ := h0.2 hz
      rw [h1] at he
      rcases List.eq_nil_or_concat suf with rfl | ⟨suf, z, rfl⟩
      · refine ⟨fun y hy => ?_, fun _ => rfl⟩
        have hi := List.append_inj' he.symm (by simp)
        rw [hi.1] at hy
        obtain ⟨t, _, rfl⟩ := List.mem_map.1 hy
        rfl
      · have he2 : List.map (fun x => (x, 0)) (lexA p l).1 ++ [(t, (lexA p l).2.2)] = (pre ++ x :: suf) ++ [z] := by rw [he]; simp
        have hi := (List.append_inj' he2 (by simp)).1
        have ha : ∀ y ∈ pre ++ x :: suf, y.2 = 0 := by
          rw [← hi]; intro y hy
          obtain ⟨t, _, rfl⟩ := List.mem_map.1 hy
          rfl
        exact ⟨fun y hy => ha y (by simp [hy]), fun hx => absurd (ha x (by simp)) hx⟩
end Go.Proofs.YtgbfaompondolaaGreatDoor
namespace Go.Proofs.YtgbfaompondolaaGreatDoor
open Go.RowKit
open Go.MuLone (run_callFunc_enter)
def blankT : UInt8 → Bool := amgB ⟨#[32, 9, 10, 13]⟩
def hashT : UInt8 → Bool := amgB ⟨#[35]⟩
def lineT : UInt8 → Bool := fun b => b != 10
theorem blankT_eq (b : UInt8) : blankT b = blankB b := by
  show [32, 9, 10, 13].contains b = blankB b
  simp only [blankB, List.contains_cons, List.contains_nil, Bool.or_false, Bool.or_assoc]
theorem hashT_eq (b : UInt8) : hashT b = (b == 35) := by
  show [35].contains b = (b == 35)
  simp only [List.contains_cons, List.contains_nil, Bool.or_false]
/-- Where what is skipped from j on ends. -/
def skipTo (src : ByteArray) (j : Nat) : Nat := j + skipN false ((toksL src).drop j)
theorem drop_run (p : UInt8 → Bool) (l : List UInt8) : l.drop (l.takeWhile p).length = l.dropWhile p := by
  conv => lhs; arg 2; rw [← List.takeWhile_append_dropWhile (p := p) (l := l)]
  rw [List.drop_left]
theorem skip_blanks : ∀ l : List UInt8, skipN false l = (l.takeWhile blankT).length + skipN false (l.dropWhile blankT)
  | [] => rfl
  | b :: r => by
    by_cases hb : blankT b = true
    · rw [List.takeWhile_cons, if_pos hb, List.dropWhile_cons, if_pos hb, List.length_cons, skipN_f, if_pos (by rw [← blankT_eq]; exact hb), skip_blanks r]
      omega
    · rw [List.takeWhile_cons, if_neg hb, List.dropWhile_cons, if_neg hb]
      simp
theorem skip_line : ∀ l : List UInt8, skipN true l = (l.takeWhile lineT).length + skipN false (l.dropWhile lineT)
  | [] => rfl
  | b :: r => by
    by_cases hb : lineT b = true
    · have h10 : (b == 10) = false := by simpa [lineT] using hb
      rw [List.takeWhile_cons, if_pos hb, List.dropWhile_cons, if_pos hb, List.length_cons, skipN_t, h10, skip_line r]
      simp; omega
    · have h10 : b = 10 := by simpa [lineT] using hb
      rw [List.takeWhile_cons, if_neg hb, List.dropWhile_cons, if_neg hb, skipN_t, skipN_f, h10]
      simp [blankB]
theorem runTo_le (p : UInt8 → Bool) (src : ByteArray) (j : Nat) (hj : j ≤ src.size) : j ≤ runTo p src j ∧ runTo p src j ≤ src.size := by
  unfold runTo
  have h := (List.takeWhile_prefix (l := (toksL src).drop j) p).length_le
  have hl : (toksL src).length = src.size := by simp [toksL]
  rw [List.length_drop, hl] at h
  exact ⟨by omega, by omega⟩
theorem drop_runTo (p : UInt8 → Bool) (src : ByteArray) (j : Nat) : (toksL src).drop (runTo p src j) = ((toksL src).drop j).dropWhile p := by
  unfold runTo
  rw [← List.drop_drop, drop_run]
theorem skipTo_blank (src : ByteArray) (j : Nat) : skipTo src (runTo blankT src j) = skipTo src j := by
  unfold skipTo
  rw [drop_runTo, skip_blanks ((toksL src).drop j)]
  unfold runTo
  omega
theorem skipTo_hash (src : ByteArray) (j : Nat) (hj : j < src.size) (h : src[j] = 35) : skipTo src (runTo lineT src j) = skipTo src j := by
  unfold skipTo
  rw [drop_runTo]
  unfold runTo
  rw [toksL_drop src j hj, h, skipN_f, List.takeWhile_cons, List.dropWhile_cons]
  simp only [show blankB 35 = false from by decide, show lineT 35 = true from by decide, show ((35 : UInt8) == 35) = true from by decide]
  rw [skip_line]
  simp; omega
theorem runTo_stop (p : UInt8 → Bool) (src : ByteArray) (j : Nat) (hj : runTo p src j < src.size) : p src[runTo p src j] = false := by
  have h := drop_runTo p src j
  rw [toksL_drop src _ hj] at h
  have h2 := List.head?_dropWhile_not p ((toksL src).drop j)
  rw [← h] at h2
  simpa using h2
theorem skipTo_stop (src : ByteArray) (j : Nat) (hb : (j < src.size) → ∃ h : j < src.size, blankT src[j] = false ∧ hashT src[j] = false) (_hj : j ≤ src.size) : skipTo src j = j := by
  unfold skipTo
  rcases Nat.lt_or_ge j src.size with h | h
  · obtain ⟨_, h1, h2⟩ := hb h
    rw [toksL_drop src j h, skipN_f, ← blankT_eq, h1, ← hashT_eq, h2]
    simp
  · rw [List.drop_eq_nil_of_le (by simpa [toksL] using h)]
    simp [skipN]
set_option maxRecDepth 100000 in
set_option maxHeartbeats 400000 in
theorem line_any (b : UInt8) (W : World) : Calls Tryz.prog 321 #[.int .u8 (b.toNat : Int)] W fun e W' => e = .returned (.bool (lineT b)) ∧ Below W.heap.size W W' := by
  have HL : Hid (lineT b = !decide (b.toNat = 10)) := by
    show lineT b = _
    unfold lineT
    rw [Bool.eq_iff_iff]
    simp [bne_iff_ne, ← UInt8.toNat_inj]
  generalize b.toNat = n at *
  by_cases h : n = 10
  · have HR := hide (show lineT b = false by rw [HL.out]; simp [h])
    have h1 : ((n : Int) != 10) = false := by simp; omega
    clear h
    go_enter Tryz.func321, Tryz.ntmps321
    go_wp2_with fail
    go_ret
    exact ⟨by rw [HR.out]; simp at h1; simp, Below.refl _ _⟩
  · have HR := hide (show lineT b = true by rw [HL.out]; simp [h])
    have h1 : ((n : Int) != 10) = true := by simp; omega
    clear h
    go_enter Tryz.func321, Tryz.ntmps321
    go_wp2_with fail
    go_ret
    exact ⟨by rw [HR.out]; simp at h1; simp, Below.refl _ _⟩
theorem line_is (w : World) : IsT (fun _ => False) w 321 #[] lineT :=
  ⟨fun k h => h.elim, fun args W => run_callFunc_enter (c := ((Tryz.f321).body.getD .skip)) Tryz.func321 (by kernel_rfl) (by kernel_rfl) args W, fun W _ b => line_any b W⟩
theorem AtJ.belowD {sb j : Nat} {a b c : World} (h : AtJ sb j a b) (hsb : sb < a.heap.size) (k : Below b.drew.heap.size b.drew c) : AtJ sb j a c :=
  h.below hsb (((Below.refl _ _).drew).trans k)
/-- What holds at the head of skip's loop. -/
structure SkR (src : ByteArray) (k j : Nat) : Prop where
  le : j ≤ src.size
  to : skipTo src j = skipTo src k
  stop : ∀ h : j < src.size, blankT src[j] = false
theorem SkR.start (src : ByteArray) (k : Nat) (hk : k ≤ src.size) : SkR src k (runTo blankT src k) :=
  ⟨(runTo_le _ _ _ hk).2, skipTo_blank src k, fun h => runTo_stop _ _ _ h⟩
theorem SkR.step {src : ByteArray} {k j : Nat} (h : SkR src k j) (hj : j < src.size) (hh : hashT src[j] = true) : SkR src k (runTo blankT src (runTo lineT src j)) ∧ j < runTo blankT src (runTo lineT src j) := by
  have e : src[j] = 35 := by rw [hashT_eq] at hh; simpa using hh
  have h1 := runTo_yes lineT src j hj (by rw [e]; rfl)
  have h2 := runTo_le lineT src (j + 1) hj
  rw [h1] at h2
  have h3 := runTo_le blankT src (runTo lineT src j) h2.2
  have h4 := SkR.start src (runTo lineT src j) h2.2
  exact ⟨⟨h3.2, h4.to.trans ((skipTo_hash src j hj e).trans h.to), h4.stop⟩, by omega⟩
theorem SkR.done {src : ByteArray} {k j : Nat} (h : SkR src k j) (hh : ∀ hj : j < src.size, hashT src[j] = false) : skipTo src k = j := by
  rw [← h.to]
  exact skipTo_stop src j (fun hj => ⟨hj, h.stop hj, hh hj⟩) h.le
theorem far_of {sb : Nat} {w : World} (h : sb < w.heap.size) : Hid (∀ i, (fun k => k = w.heap.size) i → i ≠ sb) := hide fun i hi e => by have hi' : i = w.heap.size := hi; omega
theorem more_v (sb f k : Nat) (caps : Array Value) (p : UInt8 → Bool) (F : Nat → Prop) (src : ByteArray) (W : World) (c0 : W.cell? ⟨sb, 0, none⟩ = some (.string src)) (c1 : W.cell? ⟨sb, 1, none⟩ = some (.int .i64 (k : Int))) (hk : k < src.size) (hs : src.size ≤ 1099511627776) (hT : Hid (IsT F W f caps p)) (v : Bool) (hv : p src[k] = v) :
    Calls Tryz.prog 320 #[.pointer (some ⟨sb, 0, none⟩), .func (.func f) #[] caps] W fun e W' => e = .returned (.bool v) ∧ Below W.heap.size W W' := by
  subst hv
  exact more_yes sb f k caps p F src W c0 c1 hk hs hT
set_option maxRecDepth 100000 in
set_option maxHeartbeats 1000000 in
theorem skip_any (sb k : Nat) (src : ByteArray) (W : World) (c0 : Hid (W.cell? ⟨sb, 0, none⟩ = some (.string src))) (c1 : Hid (W.cell? ⟨sb, 1, none⟩ = some (.int .i64 (k : Int)))) (cf : Hid (W.frozen? ⟨sb, 1, none⟩ = false)) (hk : k ≤ src.size) (hs : src.size ≤ 1099511627776) :
    Calls Tryz.prog 298 #[.pointer (some ⟨sb, 0, none⟩)] W fun e W' => e = .returned (.tuple #[]) ∧ AtJ sb (skipTo src k) W W' := by
  have hsb : sb < W.heap.size := World.block_lt_of_cell? W ⟨sb, 0, none⟩ c0.out
  have HA := hide (fun s w => among_any s w)
  have HJ0 := hide (AtJ.start c1.out cf.out)
  go_enter Tryz.func298, Tryz.ntmps298
  go_wp2_with fail
  go_region_held3 (fun w' => True) (trivial)
    (first
      | (go_at_call 296; refine (HA.out _ _).mono ?_; rintro e w1 ⟨k1, rfl, hT1, hb1⟩; have HT1 := hide hT1; have HJ1 := hide (HJ0.out.belowD hsb hb1); clear hT1 hb1)
      | (go_at_call 319; refine (while_any sb _ k _ _ _ src _ (hide ((HJ1.out.rest 0 (by decide)).trans c0.out)) (hide HJ1.out.here) (hide HJ1.out.free) (by assumption) hs HT1 (far_of (Nat.lt_of_lt_of_le hsb HJ0.out.kept.size))).mono ?_; rintro e w2 ⟨rfl, hJ2⟩; have HJ2 := hide (HJ1.out.trans hJ2); clear hJ2))
  go_wp2_with fail
  go_loopw [] (fun wr => ∃ j : Nat, SkR src k j ∧ AtJ sb j W wr) (fun wr => src.size - atOf sb wr)
  case atStart => exact ⟨_, SkR.start src k hk, HJ2.out⟩
  case round =>
    obtain ⟨j, hR, hJ⟩ := hrel
    have HR := hide hR
    have HJ := hide hJ
    have hj : j ≤ src.size := hR.le
    clear hR hJ
    by_cases hlt : j < src.size
    · cases hh : hashT src[j]
      · have HD := hide (HR.out.done (fun _ => hh))
        have HH : Hid (amgB ⟨#[35]⟩ src[j] = false) := hide hh
        clear hh
        go_wp2_with fail
        go_region_held3 (fun w' => True) (trivial)
          (first
            | (go_at_call 296; refine (HA.out _ _).mono ?_; rintro e w1 ⟨k1, rfl, hT1, hb1⟩; have HT1 := hide hT1; have HJ1 := hide (HJ.out.belowD hsb hb1); clear hT1 hb1)
            | (go_at_call 320; refine (more_v sb _ j _ _ _ src _ ((HJ1.out.rest 0 (by decide)).trans c0.out) HJ1.out.here hlt hs HT1 false HH.out).mono ?_; rintro e w2 ⟨rfl, hb2⟩; have HJ2 := hide (HJ1.out.below hsb hb2); clear hb2))
        go_wp2_with fail
        go_end0
        exact ⟨rfl, by rw [HD.out]; exact HJ2.out⟩
      · have HS := hide (HR.out.step hlt hh)
        have HH : Hid (amgB ⟨#[35]⟩ src[j] = true) := hide hh
        have hr1 := (runTo_le lineT src j hj).2
        clear hh
        go_wp2_with fail
        go_region_held3 (fun w' => True) (trivial)
          (first
            | (go_at_call 296; refine (HA.out _ _).mono ?_; rintro e w1 ⟨k1, rfl, hT1, hb1⟩; have HT1 := hide hT1; have HJ1 := hide (HJ.out.belowD hsb hb1); clear hT1 hb1)
            | (go_at_call 320; refine (more_v sb _ j _ _ _ src _ ((HJ1.out.rest 0 (by decide)).trans c0.out) HJ1.out.here hlt hs HT1 true HH.out).mono ?_; rintro e w2 ⟨rfl, hb2⟩; have HJ2 := hide (HJ1.out.below hsb hb2); clear hb2))
        clear HJ1 HT1
        go_wp2_with fail
        refine (while_any sb _ j _ _ _ src _ (hide ((HJ2.out.rest 0 (by decide)).trans c0.out)) (hide HJ2.out.here) (hide HJ2.out.free) hj hs (hide (line_is _)) (hide (fun i hi => hi.elim))).mono ?_
        rintro e w3 ⟨rfl, hJ3⟩
        have HJ3 := hide (HJ2.out.trans hJ3)
        clear hJ3
        go_wp2_with fail
        go_region_held3 (fun w' => True) (trivial)
          (first
            | (go_at_call 296; refine (HA.out _ _).mono ?_; rintro e w1 ⟨k1, rfl, hT1, hb1⟩; have HT1 := hide hT1; have HJ1 := hide (HJ3.out.belowD hsb hb1); clear hT1 hb1)
            | (go_at_call 319; refine (while_any sb _ (runTo lineT src j) _ _ _ src _ (hide ((HJ1.out.rest 0 (by decide)).trans c0.out)) (hide HJ1.out.here) (hide HJ1.out.free) (by assumption) hs HT1 (far_of (Nat.lt_of_lt_of_le hsb HJ3.out.kept.size))).mono ?_; rintro e w2 ⟨rfl, hJ2⟩; have HJ4 := hide (HJ1.out.trans hJ2); clear hJ2))
        go_wp2_with fail
        have m2 : atOf sb wr = j := by unfold atOf; rw [HJ.out.here]; simp [intOf]
        have m1 : atOf sb w2 = runTo blankT src (runTo lineT src j) := by unfold atOf; rw [HJ4.out.here]; simp [intOf]; rfl
        have HM := hide (show src.size - atOf sb w2 < src.size - atOf sb wr by rw [m1, m2]; have := HS.out.2; omega)
        clear m1 m2
        go_roundw
        case rel => exact ⟨_, HS.out.1, HJ4.out⟩
        case measure => exact HM.out
    · have HD := hide (HR.out.done (fun h => absurd h hlt))
      go_wp2_with fail
      go_region_held3 (fun w' => True) (trivial)
        (first
          | (go_at_call 296; refine (HA.out _ _).mono ?_; rintro e w1 ⟨k1, rfl, hT1, hb1⟩; have HT1 := hide hT1; have HJ1 := hide (HJ.out.belowD hsb hb1); clear hT1 hb1)
          | (go_at_call 320; refine (more_end sb j _ src _ ((HJ1.out.rest 0 (by decide)).trans c0.out) HJ1.out.here (Nat.le_of_not_lt hlt) hs).mono ?_; rintro e w2 ⟨rfl, hb2⟩; have HJ2 := hide (HJ1.out.below hsb hb2); clear hb2))
      go_wp2_with fail
      go_end0
      exact ⟨rfl, by rw [HD.out]; exact HJ2.out⟩
end Go.Proofs.YtgbfaompondolaaGreatDoor
namespace Go.Proofs.YtgbfaompondolaaGreatDoor
open Go
/-- What the program's test says of a string. -/
def numC (s : List UInt8) : Bool := match Lib.atoiAll s with
  | .ok v => decide (v ≤ 1073741824) && (Lib.itoa v == s)
  | _ => false
def foldV (a : Nat) (s : List UInt8) : Nat := s.foldl (fun n b => n * 10 + digV b) a
theorem foldV_le : ∀ (s : List UInt8) (a : Nat), a ≤ foldV a s
  | [], a => Nat.le_refl _
  | b :: r, a => by
    have := foldV_le r (a * 10 + digV b)
    show a ≤ foldV (a * 10 + digV b) r
    omega
theorem digitB_iff (b : UInt8) : digitB b = true ↔ 48 ≤ b.toNat ∧ b.toNat ≤ 57 := by simp [digitB]
theorem parse_ok : ∀ (s : List UInt8) (a u : Nat), Lib.parseUint10 a s = .ok u → s.all digitB = true ∧ u = foldV a s
  | [], a, u, h => by
    simp only [Lib.parseUint10] at h
    injection h with h
    exact ⟨rfl, h.symm⟩
  | b :: r, a, u, h => by
    simp only [Lib.parseUint10] at h
    split at h
    · rename_i hd
      split at h
      · cases h
      · split at h
        · cases h
        · obtain ⟨h1, h2⟩ := parse_ok r _ u h
          exact ⟨by rw [List.all_cons, h1, (digitB_iff b).2 hd]; rfl, h2⟩
    · cases h
theorem ok_parse : ∀ (s : List UInt8) (a : Nat), s.all digitB = true → foldV a s ≤ 1073741824 → Lib.parseUint10 a s = .ok (foldV a s)
  | [], a, _, _ => rfl
  | b :: r, a, h, hv => by
    rw [List.all_cons, Bool.and_eq_true] at h
    have hd := (digitB_iff b).1 h.1
    have e : foldV a (b :: r) = foldV (a * 10 + digV b) r := rfl
    rw [e] at hv ⊢
    have h2 := foldV_le r (a * 10 + digV b)
    have ih := ok_parse r (a * 10 + digV b) h.2 hv
    unfold digV at *
    simp only [Lib.parseUint10]
    rw [if_pos hd, if_neg (by omega), if_neg (by omega)]
    exact ih
theorem dec_eq (u : Nat) : Lib.decDigits u = if u < 10 then [(48 + u).toUInt8] else Lib.decDigits (u / 10) ++ [(48 + u % 10).toUInt8] := by
  conv => lhs; unfold Lib.decDigits
  split <;> rfl
theorem ofdig (b : UInt8) (h : digitB b = true) : (48 + digV b).toUInt8 = b := by
  have hd := (digitB_iff b).1 h
  unfold digV
  rw [show 48 + (b.toNat - 48) = b.toNat from by omega]
  simp
theorem digV_lt (b : UInt8) (h : digitB b = true) : digV b < 10 := by
  have hd := (digitB_iff b).1 h
  unfold digV; omega
theorem foldV_snoc (a : Nat) (s : List UInt8) (d : UInt8) : foldV a (s ++ [d]) = foldV a s * 10 + digV d := by simp [foldV]
theorem foldV_pos (b : UInt8) (r : List UInt8) (hb : digitB b = true) (h0 : b ≠ 48) : 1 ≤ foldV 0 (b :: r) := by
  have h := foldV_le r (0 * 10 + digV b)
  have hd := (digitB_iff b).1 hb
  have hn : b.toNat ≠ 48 := fun e => h0 (UInt8.toNat_inj.1 e)
  show 1 ≤ foldV (0 * 10 + digV b) r
  unfold digV at *
  omega
theorem dec_num : ∀ (n : Nat) (b : UInt8) (r : List UInt8), r.length ≤ n → (b :: r).all digitB = true → (r = [] ∨ b ≠ 48) → Lib.decDigits (foldV 0 (b :: r)) = b :: r
  | n, b, r, hn, ha, h0 => by
    rcases List.eq_nil_or_concat r with rfl | ⟨r', d, rfl⟩
    · rw [List.all_cons, Bool.and_eq_true] at ha
      have hv : foldV 0 [b] = digV b := by simp [foldV]
      have := digV_lt b ha.1
      rw [hv, dec_eq, if_pos this, ofdig b ha.1]
    · cases n with
      | zero => simp at hn
      | succ n =>
        have hb : b ≠ 48 := by rcases h0 with h0 | h0; simp at h0; exact h0
        have ha2 : (b :: r').all digitB = true ∧ digitB d = true := by simpa [List.all_cons, List.all_append, Bool.and_eq_true, and_assoc] using ha
        have hbd : digitB b = true := by have := ha2.1; rw [List.all_cons, Bool.and_eq_true] at this; exact this.1
        have ih := dec_num n b r' (by simp at hn; omega) ha2.1 (.inr hb)
        have hp := foldV_pos b r' hbd hb
        have hd := digV_lt d ha2.2
        have e : b :: r'.concat d = (b :: r') ++ [d] := by rw [List.concat_eq_append]; rfl
        rw [e, foldV_snoc, dec_eq, if_neg (by omega), show (foldV 0 (b :: r') * 10 + digV d) / 10 = foldV 0 (b :: r') from by omega, show (foldV 0 (b :: r') * 10 + digV d) % 10 = digV d from by omega, ih, ofdig d ha2.2]
theorem dec_head : ∀ (n u : Nat), u ≤ n → 0 < u → ∃ b r, Lib.decDigits u = b :: r ∧ b ≠ 48
  | n, u, hn, h => by
    by_cases h10 : u < 10
    · refine ⟨_, _, by rw [dec_eq, if_pos h10], fun e => ?_⟩
      have := congrArg UInt8.toNat e
      simp at this
      omega
    · cases n with
      | zero => omega
      | succ n =>
        obtain ⟨b, r, e, hb⟩ := dec_head n (u / 10) (by omega) (by omega)
        exact ⟨b, r ++ [(48 + u % 10).toUInt8], by rw [dec_eq, if_neg h10, e]; rfl, hb⟩
theorem atoi_dig (b : UInt8) (r : List UInt8) (hb : digitB b = true) (v : Int) (h : Lib.atoiAll (b :: r) = .ok v) : ∃ u : Nat, Lib.parseUint10 0 (b :: r) = .ok u ∧ v = u := by
  have hd := (digitB_iff b).1 hb
  have h1 : ¬ (b.toNat = 43 ∨ b.toNat = 45) := by omega
  have h2 : ¬ b.toNat = 45 := by omega
  unfold Lib.atoiAll Lib.parseMag at h
  simp only [h1, if_false, reduceCtorEq] at h
  cases hp : Lib.parseUint10 0 (b :: r) with
  | ok u =>
    rw [hp] at h
    simp only [h2, not_false_eq_true, true_and, false_and, if_false] at h
    split at h
    · cases h
    · injection h with h
      exact ⟨u, rfl, h.symm⟩
  | _ => rw [hp] at h; cases h
theorem dig_atoi (b : UInt8) (r : List UInt8) (hb : digitB b = true) (u : Nat) (hp : Lib.parseUint10 0 (b :: r) = .ok u) (hu : u < 9223372036854775808) : Lib.atoiAll (b :: r) = .ok (u : Int) := by
  have hd := (digitB_iff b).1 hb
  have h1 : ¬ (b.toNat = 43 ∨ b.toNat = 45) := by omega
  have h2 : ¬ b.toNat = 45 := by omega
  unfold Lib.atoiAll Lib.parseMag
  simp only [h1, if_false, reduceCtorEq]
  rw [hp]
  simp only [h2, not_false_eq_true, true_and, false_and, if_false]
  rw [if_neg (by omega)]
theorem numC_eq (b : UInt8) (r : List UInt8) (hb : digitB b = true) : numC (b :: r) = numB (b :: r) := by
  rw [Bool.eq_iff_iff]
  have hv : numV (b :: r) = foldV 0 (b :: r) := rfl
  constructor
  · intro h
    unfold numC at h
    cases hx : Lib.atoiAll (b :: r) with
    | ok v =>
      rw [hx] at h
      obtain ⟨u, hp, rfl⟩ := atoi_dig b r hb v hx
      obtain ⟨h1, h2⟩ := parse_ok _ _ _ hp
      simp only [Bool.and_eq_true, decide_eq_true_eq, beq_iff_eq] at h
      have hi : Lib.itoa (u : Int) = Lib.decDigits u := by unfold Lib.itoa; rw [if_neg (by omega)]; simp
      rw [hi] at h
      unfold numB
      rw [h1, hv, ← h2]
      have hu : u ≤ 1073741824 := by omega
      cases r with
      | nil => simp [hu]
      | cons c r =>
        have hz : b ≠ 48 := by
          intro e
          subst e
          by_cases hu0 : u = 0
          · subst hu0
            have := h.2
            rw [dec_eq, if_pos (by decide)] at this
            simp at this
          · obtain ⟨b', r', e, hb'⟩ := dec_head u u (Nat.le_refl _) (by omega)
            rw [e] at h
            exact hb' (by have := h.2; injection this)
        simp [hu, hz]
    | _ => rw [hx] at h; cases h
  · intro h
    unfold numB at h
    simp only [Bool.and_eq_true, decide_eq_true_eq] at h
    obtain ⟨⟨h1, h2⟩, h3⟩ := h
    rw [hv] at h3
    have hp := ok_parse (b :: r) 0 h1 h3
    unfold numC
    rw [dig_atoi b r hb _ hp (by omega)]
    simp only [Bool.and_eq_true, decide_eq_true_eq, beq_iff_eq]
    refine ⟨by omega, ?_⟩
    have hi : Lib.itoa (foldV 0 (b :: r) : Int) = Lib.decDigits (foldV 0 (b :: r)) := by unfold Lib.itoa; rw [if_neg (by omega)]; simp
    rw [hi]
    refine dec_num r.length b r (Nat.le_refl _) h1 ?_
    cases r with
    | nil => exact .inl rfl
    | cons c r => right; simpa using h2
end Go.Proofs.YtgbfaompondolaaGreatDoor
namespace Go.Proofs.YtgbfaompondolaaGreatDoor
open Go.RowKit
theorem gTab : Tryz.prog.globalNamed "internal/strconv.uint64pow10" = some 3 := by kernel_rfl
theorem gErrS : Tryz.prog.globalNamed "strconv.ErrSyntax" = some 6 := by kernel_rfl
theorem gErrR : Tryz.prog.globalNamed "strconv.ErrRange" = some 7 := by kernel_rfl
/-- What the calls of the library ask of the world. -/
structure Env (w : World) : Prop where
  tab : Lib.TabIs Tryz.prog w "internal/strconv.uint64pow10" .u64 Lib.pow10Tab
  errS : ∃ tp p, w.var? Tryz.prog "strconv.ErrSyntax" = some #[.iface tp p]
  errR : ∃ tp p, w.var? Tryz.prog "strconv.ErrRange" = some #[.iface tp p]
  big : 3 < w.heap.size ∧ 6 < w.heap.size ∧ 7 < w.heap.size
theorem Env.keptB {B : Nat} {w w' : World} (h : Env w) (hb : Below B w w') (hB : 8 ≤ B) : Env w' := by
  obtain ⟨t1, p1, h1⟩ := h.errS
  obtain ⟨t2, p2, h2⟩ := h.errR
  obtain ⟨b1, b2, b3⟩ := h.big
  refine ⟨?_, ⟨t1, p1, var?_below hb gErrS (by omega) h1⟩, ⟨t2, p2, var?_below hb gErrR (by omega) h2⟩, Nat.lt_of_lt_of_le b1 hb.size, Nat.lt_of_lt_of_le b2 hb.size, Nat.lt_of_lt_of_le b3 hb.size⟩
  have ht := h.tab
  unfold Lib.TabIs at ht ⊢
  exact var?_below hb gTab (by omega) ht
theorem Env.kept {w w' : World} (h : Env w) (hb : Below w.heap.size w w') : Env w' := by
  obtain ⟨t1, p1, h1⟩ := h.errS
  obtain ⟨t2, p2, h2⟩ := h.errR
  obtain ⟨b1, b2, b3⟩ := h.big
  refine ⟨?_, ⟨t1, p1, var?_below hb gErrS b2 h1⟩, ⟨t2, p2, var?_below hb gErrR b3 h2⟩, Nat.lt_of_lt_of_le b1 hb.size, Nat.lt_of_lt_of_le b2 hb.size, Nat.lt_of_lt_of_le b3 hb.size⟩
  have ht := h.tab
  unfold Lib.TabIs at ht ⊢
  exact var?_below hb gTab b1 ht
theorem below_grow {w : World} (k : Nat) (os : Array Obj) : Below w.heap.size w (Go.Sort.grow (w.drewN k) os) := by
  refine ⟨rfl, rfl, rfl, ?_, fun i hi => ?_⟩
  · show _ ≤ (w.heap ++ os).size; simp
  · show (w.heap ++ os)[i]? = _; rw [Array.getElem?_append_left hi]
/-- Itoa: the numeral; nothing that was there has turned. -/
theorem itoa_any (n : Int) (w : World) (hE : Env w) (h0 : -9223372036854775808 ≤ n) (h1 : n ≤ 9223372036854775807) : Calls Tryz.prog 142 #[.int .i64 n] w fun e w' => e = .returned (.string ⟨(Lib.itoa n).toArray⟩) ∧ Below w.heap.size w w' :=
  (Tryz.strconv_Itoa n h0 h1 w hE.tab).mono fun _ _ ⟨h, k, os, hw⟩ => ⟨h, by rw [hw]; exact below_grow k os⟩
theorem atoi_no (s : ByteArray) (hs : s.size ≤ 1099511627776) (w : World) (hE : Env w) (hno : ∀ v, Lib.atoiAll s.data.toList ≠ .ok v) :
    Calls Tryz.prog 332 #[.string s] w fun e w' => ∃ v N, e = .returned (.tuple #[.int .i64 v, .iface 334 (.pointer (some ⟨N, 0, none⟩))]) ∧ Below w.heap.size w w' := by
  obtain ⟨t1, p1, h1⟩ := hE.errS
  obtain ⟨t2, p2, h2⟩ := hE.errR
  cases hx : Lib.atoiAll s.data.toList with
  | ok v => exact absurd hx (hno v)
  | range => exact (Any.strconv_Atoi_range_var Tryz.laysC172 s (by omega) hx t2 p2 w h2).mono fun e w' ⟨N, he, _, _, hb⟩ => ⟨_, N, he, hb⟩
  | _ => exact (Any.strconv_Atoi_syntax_var Tryz.laysC172 s (by omega) hx t1 p1 w h1).mono fun e w' ⟨N, he, _, _, hb⟩ => ⟨_, N, he, hb⟩
theorem atoi_yes (s : ByteArray) (hs : s.size ≤ 1099511627776) (w : World) (v : Int) (hv : Lib.atoiAll s.data.toList = .ok v) :
    Calls Tryz.prog 332 #[.string s] w fun e w' => e = .returned (.tuple #[.int .i64 v, .nilIface]) ∧ Below w.heap.size w w' :=
  (Tryz.strconv_Atoi_ok s (by omega) v hv w).mono fun e w' ⟨he, hw⟩ => ⟨he, by
    rcases hw with rfl | ⟨t, rfl⟩
    · exact Below.refl _ _
    · exact ⟨rfl, rfl, rfl, by rw [Lib.bytesWorld_size]; omega, fun j hj => Lib.bytesWorld_at_old _ _ _ j hj⟩⟩
set_option maxRecDepth 100000 in
set_option maxHeartbeats 400000 in
theorem number_any (s : ByteArray) (w : World) (hs : s.size ≤ 1099511627776) (hE : Hid (Env w)) (hd : Hid (∃ b r, s.data.toList = b :: r ∧ digitB b = true)) : Calls Tryz.prog 322 #[.string s] w fun e w' => e = .returned (.bool (numC s.data.toList)) ∧ Below w.heap.size w w' := by
  by_cases hno : ∀ v, Lib.atoiAll s.data.toList ≠ .ok v
  · have HR := hide (show numC s.data.toList = false by
      unfold numC
      cases hx : Lib.atoiAll s.data.toList with
      | ok v => exact absurd hx (hno v)
      | _ => rfl)
    have HA := hide (atoi_no s hs w hE.out hno)
    clear hno
    go_enter Tryz.func322, Tryz.ntmps322
    go_wp2_with fail
    refine HA.out.mono ?_
    rintro e w1 ⟨v, N, rfl, hb⟩
    have HB := hide hb
    clear hb
    go_wp2_with fail
    go_ret
    exact ⟨by rw [HR.out]; rfl, HB.out⟩
  · have hyes : ∃ v, Lib.atoiAll s.data.toList = .ok v := by
      by_cases h : ∃ v, Lib.atoiAll s.data.toList = .ok v
      · exact h
      · exact absurd (fun v hv => h ⟨v, hv⟩) hno
    obtain ⟨v, hv⟩ := hyes
    clear hno
    have HC := hide (show numC s.data.toList = (decide (v ≤ 1073741824) && (Lib.itoa v == s.data.toList)) by unfold numC; rw [hv])
    have HA := hide (atoi_yes s hs w v hv)
    have hv0 : 0 ≤ v := by
      obtain ⟨b, r, e, hb⟩ := hd.out
      rw [e] at hv
      obtain ⟨u, _, rfl⟩ := atoi_dig b r hb v hv
      omega
    clear hv
    by_cases hle : v ≤ 1073741824
    · have HC2 := hide (show numC s.data.toList = (Lib.itoa v == s.data.toList) by rw [HC.out]; simp [hle])
      have HI := hide (fun w (hE : Env w) => itoa_any v w hE (by omega) (by omega))
      have hle2 : decide (v ≤ 1073741824) = true := by simp; omega
      go_enter Tryz.func322, Tryz.ntmps322
      go_wp2_with fail
      refine HA.out.mono ?_
      rintro e w1 ⟨rfl, hb⟩
      have HB := hide hb
      clear hb
      go_wp2_with fail
      refine (HI.out _ (hE.out.kept HB.out)).mono ?_
      rintro e w2 ⟨rfl, hb⟩
      have HB2 := hide (HB.out.trans (hb.mono HB.out.size))
      clear hb
      go_wp2_with fail
      go_ret
      exact ⟨by rw [HC2.out, ← ByteArray.toList_eq]; rfl, HB2.out⟩
    · have HR := hide (show numC s.data.toList = false by rw [HC.out]; simp [hle])
      have hd : decide (v ≤ 1073741824) = false := by simp; omega
      go_enter Tryz.func322, Tryz.ntmps322
      go_wp2_with fail
      refine HA.out.mono ?_
      rintro e w1 ⟨rfl, hb⟩
      have HB := hide hb
      clear hb
      go_wp2_with fail
      go_ret
      exact ⟨by rw [HR.out]; rfl, HB.out⟩
end Go.Proofs.YtgbfaompondolaaGreatDoor

/-
  Merged texts: format: nums, all[int]: ranges of numbers. | format: word, words. | format: words. | DERIVED: THE SHELF's CONTRACTS AT THIS DUMP, IN PLAIN WORDS (tools/lay-plain.mjs out of 'TryzShelf.lean', which tools/lay-shelf.mjs wrote): THE SAME DECLARATIONS UNDER THE SAME NAMES: 'import', 'namespace', 'open', 'def', 'theorem' AND NOTHING ELSE: no command of the shelf's: FOR A HAND-IN. Each laying: the table of numbers ('.._ren') and one theorem, a field a fact of the dump's own or the kernel's comparison; each contract: ONE APPLICATION. | The wrap of a law whose row lists variables and needs the world's shape. | Opening an argument that is a slice of structs.
-/
import Derived.Test.YtndpnpohdoggjaaGreatDoorPk8
import Derived.Test.YtndpnpohdoggjaaGreatDoorPk7
import Derived.Shelf.Strings.Repeat
import Derived.Test.YtndpnpohdoggjaaGreatDoorProg
import Derived.Test.YtndpnpohdoggjaaGreatDoorPk1
import Derived.LaidMore
import Derived.HandedShaped
import Derived.ProofKit
import Derived.OpenShut
import Derived.Deep.Slices
import Derived.Deep.Fields
import Derived.ChangeSame
namespace Go.Proofs.YtndpnpohdoggjaaGreatDoor
open Go.RowKit
attribute [local go_sem] Later.cell
def numF (n : Int) : Bool := decide (0 ≤ n) && decide (n ≤ 1073741824)
def zeroF (n : Int) : Bool := n == 0
set_option maxRecDepth 100000 in
set_option maxHeartbeats 4000000 in
theorem idx_nums (v : Value) (l : List Int) (W : World) (hv : Hid (DAt W (fun _ => True) v (.row 1 (intRows l)))) (hl : l.length ≤ 140737488355328) :
    Calls Tryz.prog 180 #[v, .func (.func 138) #[] #[]] W fun e w' => ∃ r : Int, e = .returned (.int .i64 r) ∧ (r < 0 ∧ l.all numF = true ∨ 0 ≤ r ∧ l.all numF = false) ∧ Below W.heap.size W w' := by
  obtain ⟨A, c, rfl, hA⟩ := hv.out.slice
  have HA := hide hA
  clear hA hv
  unfold intRows at *
  rw [List.length_map]
  have _ := hl
  go_enter Tryz.func180, Tryz.ntmps180
  go_wp2_with fail
  go_loopw [8] (fun v8 wr => ∃ k : Nat, k ≤ l.length ∧ v8 = .int .i64 k ∧ (l.take k).all numF = true ∧ Below W.heap.size W wr) (fun v8 _ => l.length - (intOf v8).toNat)
  case atStart => exact ⟨0, by omega, rfl, by simp, Below.refl _ _⟩
  case round =>
    obtain ⟨k, hk, rfl, ht, hbr⟩ := hrel
    have HT := hide ht
    have HBR := hide hbr
    clear ht
    by_cases hlt : k < l.length
    rotate_left
    · obtain rfl : k = l.length := by omega
      rw [List.take_length] at HT
      clear hbr hlt
      go_wp2_with fail
      go_ret
      exact ⟨_, rfl, .inl ⟨by decide, HT.out⟩, HBR.out⟩
    obtain ⟨x, hx⟩ : ∃ x, l[k]? = some x := ⟨_, List.getElem?_eq_getElem hlt⟩
    obtain ⟨b, off, rfl, hb, hca⟩ := HA.out.at_ hx
    have c0 := (hca 0 _ rfl).leafc
    clear hca
    have c0 := (HBR.out.cell (p := ⟨b, off + k, none⟩) hb).trans (by simpa using c0)


    have k0 : (0 : Int) ≤ (k : Int) ∧ (k : Int) < ((l.length : Nat) : Int) := by omega
    have HX := hide hx
    clear hx hbr
    rcases (by omega : x < 0 ∨ ¬ x < 0 ∧ 1073741824 < x ∨ ¬ x < 0 ∧ ¬ 1073741824 < x) with h1 | ⟨h1, h2⟩ | ⟨h1, h2⟩
    · have HNO := hide (all_stop HX.out (show numF x = false by unfold numF; simp; omega))
      go_wp2_with (first | (go_at_call 138; go_in))
      go_ret
      exact ⟨_, rfl, .inr ⟨by omega, by first | exact HNO.out | simpa using HNO.out⟩, HBR.out⟩
    · have HNO := hide (all_stop HX.out (show numF x = false by unfold numF; simp; omega))
      go_wp2_with (first | (go_at_call 138; go_in))
      go_ret
      exact ⟨_, rfl, .inr ⟨by omega, by first | exact HNO.out | simpa using HNO.out⟩, HBR.out⟩
    · have HTK := hide (all_step HT.out HX.out (show numF x = true by unfold numF; simp; omega))
      go_wp2_with (first | (go_at_call 138; go_in))
      go_roundw
      case rel => exact ⟨k + 1, by omega, by go_num, HTK.out, HBR.out⟩
      case measure => simp [intOf]; omega
set_option maxRecDepth 100000 in
theorem nums_any (v : Value) (l : List Int) (W : World) (hv : Hid (DAt W (fun _ => True) v (.row 1 (intRows l)))) (hl : l.length ≤ 140737488355328) :
    Calls Tryz.prog 82 #[v] W fun e w' => e = .returned (.bool (l.all numF)) ∧ Below W.heap.size W w' := by
  have HI := hide (idx_nums v l W hv hl)
  go_enter Tryz.func82, Tryz.ntmps82
  go_wp2_with (first | (go_at_call 137; go_in))
  refine HI.out.mono ?_
  rintro e w2 ⟨r, rfl, hr, hb⟩
  have HB2 := hide hb
  have HR := hide (show l.all numF = !decide (0 ≤ r) by rcases hr with ⟨h1, h2⟩ | ⟨h1, h2⟩ <;> simp [h2] <;> omega)
  clear hb hr HI
  go_wp2_with fail
  go_ret
  exact ⟨by rw [HR.out]; rfl, HB2.out⟩
set_option maxRecDepth 100000 in
set_option maxHeartbeats 4000000 in
theorem idx_zero (bx : Nat) (v : Value) (l : List Int) (W : World) (hx0 : W.cell? ⟨bx, 0, none⟩ = some (.func (.func 85) #[] #[])) (hv : Hid (DAt W (fun _ => True) v (.row 1 (intRows l)))) (hl : l.length ≤ 140737488355328) :
    Calls Tryz.prog 180 #[v, .func (.func 139) #[] #[.pointer (some ⟨bx, 0, none⟩)]] W fun e w' => ∃ r : Int, e = .returned (.int .i64 r) ∧ (r < 0 ∧ l.all zeroF = true ∨ 0 ≤ r ∧ l.all zeroF = false) ∧ Below W.heap.size W w' := by
  obtain ⟨A, c, rfl, hA⟩ := hv.out.slice
  have HA := hide hA
  clear hA hv
  unfold intRows at *
  rw [List.length_map]
  have hbx := cell_lt hx0
  go_enter Tryz.func180, Tryz.ntmps180
  go_wp2_with fail
  go_loopw [8] (fun v8 wr => ∃ k : Nat, k ≤ l.length ∧ v8 = .int .i64 k ∧ (l.take k).all zeroF = true ∧ Below W.heap.size W wr) (fun v8 _ => l.length - (intOf v8).toNat)
  case atStart => exact ⟨0, by omega, rfl, by simp, Below.refl _ _⟩
  case round =>
    obtain ⟨k, hk, rfl, ht, hbr⟩ := hrel
    have HT := hide ht
    have HBR := hide hbr
    clear ht
    by_cases hlt : k < l.length
    rotate_left
    · obtain rfl : k = l.length := by omega
      rw [List.take_length] at HT
      clear hbr hlt
      go_wp2_with fail
      go_ret
      exact ⟨_, rfl, .inl ⟨by decide, HT.out⟩, HBR.out⟩
    obtain ⟨x, hx⟩ : ∃ x, l[k]? = some x := ⟨_, List.getElem?_eq_getElem hlt⟩
    obtain ⟨b, off, rfl, hb, hca⟩ := HA.out.at_ hx
    have c0 := (hca 0 _ rfl).leafc
    clear hca
    have c0 := (HBR.out.cell (p := ⟨b, off + k, none⟩) hb).trans (by simpa using c0)
    have hbxw := (hbr.cell hbx).trans hx0
    have lbx : bx < wr.heap.size := Nat.lt_of_lt_of_le hbx hbr.size
    have k0 : (0 : Int) ≤ (k : Int) ∧ (k : Int) < ((l.length : Nat) : Int) := by omega
    have HX := hide hx
    clear hx hbr
    by_cases h1 : x = 0
    · have HTK := hide (all_step HT.out HX.out (show zeroF x = true by unfold zeroF; simpa using h1))
      have e1 : (x == 0) = true := by simpa using h1
      clear h1
      go_wp2_with (first | (go_at_call 139; go_in) | (go_at_call 85; go_in))
      go_roundw
      case rel => exact ⟨k + 1, by omega, by go_num, HTK.out, HBR.out⟩
      case measure => simp [intOf]; omega
    · have HNO := hide (all_stop HX.out (show zeroF x = false by unfold zeroF; simpa using h1))
      have e1 : (x == 0) = false := by simpa using h1
      clear h1
      go_wp2_with (first | (go_at_call 139; go_in) | (go_at_call 85; go_in))
      go_ret
      exact ⟨_, rfl, .inr ⟨by omega, by first | exact HNO.out | simpa using HNO.out⟩, HBR.out⟩
set_option maxRecDepth 100000 in
theorem all_zero (v : Value) (l : List Int) (W : World) (hv : Hid (DAt W (fun _ => True) v (.row 1 (intRows l)))) (hl : l.length ≤ 140737488355328) :
    Calls Tryz.prog 84 #[v, .func (.func 85) #[] #[]] W fun e w' => e = .returned (.bool (l.all zeroF)) ∧ Below W.heap.size W w' := by
  have hmf : ∀ (fn : Fn) (first cap : Array Value) (w : World), (Instr.makeFunc fn first cap).run Tryz.prog w = .ok (.func fn first cap) w := fun _ _ _ _ => rfl
  have HB := hide ((Below.refl W.heap.size W).alloc (Nat.le_refl _) (.cells #[.func (.func 85) #[] #[]] 176))
  have HI := hide (idx_zero W.heap.size v l (W.alloc (.cells #[.func (.func 85) #[] #[]] 176)) (by rw [cell_of_row _ _ 0 _ _ _ (heap_alloc_new W _)]; rfl) (hide (hv.out.later HB.out)) hl)
  go_enter Tryz.func84, Tryz.ntmps84
  go_wp2_with (first | (go_at_call 137; go_in))
  refine HI.out.mono ?_
  rintro e w2 ⟨r, rfl, hr, hb⟩
  have HB2 := hide (HB.out.trans (hb.mono HB.out.size))
  have HR := hide (show l.all zeroF = !decide (0 ≤ r) by rcases hr with ⟨h1, h2⟩ | ⟨h1, h2⟩ <;> simp [h2] <;> omega)
  clear hb hr HI
  go_wp2_with fail
  go_ret
  exact ⟨by rw [HR.out]; rfl, HB2.out⟩
end Go.Proofs.YtndpnpohdoggjaaGreatDoor
namespace Go.Proofs.YtndpnpohdoggjaaGreatDoor
open Go.RowKit
attribute [local go_sem] Later.cell
/-- Whether a text is a word. -/
def wordF (s : List UInt8) : Bool := match lexR s with
  | ([t], _, 0) => t.kind == 1 && t.text == s
  | _ => false
set_option maxRecDepth 100000 in
set_option maxHeartbeats 4000000 in
theorem fword_any (s : ByteArray) (W : World) (hE : Hid (Env W)) :
    Calls Tryz.prog 91 #[.string s] W fun e w' => e = .returned (.bool (wordF s.data.toList)) ∧ Below W.heap.size W w' := by
  have hl := lex_any s W hE.out
  unfold LexR at hl
  have hF : wordF s.data.toList = (match lexR s.data.toList with | ([t], _, 0) => t.kind == 1 && t.text == s.data.toList | _ => false) := rfl
  generalize lexR s.data.toList = x at *
  obtain ⟨ts, p, er⟩ := x
  dsimp only at hl
  have HL := hide hl
  have HF := hide hF
  clear hl hF
  generalize wordF s.data.toList = z at *
  by_cases h0 : er = 0
  rotate_left
  · have e1 : ((er : Int) == 0) = false := by simp; omega
    have hz : z = false := by
      rw [HF.out]
      split
      · rename_i h; injection h with _ h; injection h with _ h; omega
      · rfl
    subst hz
    clear h0 HF
    go_enter Tryz.func91, Tryz.ntmps91
    go_wp2_with fail
    refine HL.out.mono ?_
    rintro e w1 ⟨v, rfl, ho, -, hb⟩
    obtain ⟨A, c, rfl, -⟩ := trows_own (ts := ts.map Tok.toZ) ho (by simp)
    have HB := hide hb
    clear hb ho HL
    go_wp2_with fail
    go_ret
    exact ⟨rfl, HB.out⟩
  subst h0
  match ts, HL, HF with
  | [], HL, HF =>
    have hz : z = false := HF.out
    subst hz
    clear HF
    go_enter Tryz.func91, Tryz.ntmps91
    go_wp2_with fail
    refine HL.out.mono ?_
    rintro e w1 ⟨v, rfl, ho, h2, hb⟩
    obtain rfl := h2 trivial
    have HB := hide hb
    clear hb ho HL h2
    go_wp2_with fail
    go_ret
    exact ⟨rfl, HB.out⟩
  | t :: t2 :: r, HL, HF =>
    have hz : z = false := HF.out
    subst hz
    have e1 : (((t :: t2 :: r).length : Int) == 1) = false := by simp; omega
    generalize hm : (t :: t2 :: r).length = m at *
    clear HF
    go_enter Tryz.func91, Tryz.ntmps91
    go_wp2_with fail
    refine HL.out.mono ?_
    rintro e w1 ⟨v, rfl, ho, -, hb⟩
    obtain ⟨A, c, rfl, -⟩ := trows_own (ts := (t :: t2 :: r).map Tok.toZ) ho (by simpa using hm)
    have HB := hide hb
    clear hb ho HL hm
    go_wp2_with fail
    go_ret
    exact ⟨rfl, HB.out⟩
  | [t], HL, HF =>
    have hz : z = (t.kind == 1 && t.text == s.data.toList) := HF.out
    clear HF
    have hs : s = ⟨s.data.toList.toArray⟩ := by simp
    generalize s.data.toList = y at *
    subst hs
    obtain ⟨tk, tx, ta⟩ := t
    dsimp only at hz
    have hc : (((tk : Int) == 1) = true ∧ (tk == 1) = true ∨ ((tk : Int) == 1) = false ∧ (tk == 1) = false) ∧ ((tx == y) = true ∨ (tx == y) = false) := by
      constructor
      · simp; omega
      · cases tx == y <;> simp
    rcases hc with ⟨⟨k1, k2⟩ | ⟨k1, k2⟩, k3 | k3⟩
    all_goals
      rw [k2, k3] at hz
      have hz := hz.trans rfl
      subst hz
      clear k2
      go_enter Tryz.func91, Tryz.ntmps91
      go_wp2_with fail
      refine HL.out.mono ?_
      rintro e w1 ⟨v, rfl, ho, -, hb⟩
      obtain ⟨A, c, rfl, hT⟩ := trows_own (ts := [Tok.toZ ⟨tk, tx, ta⟩]) ho rfl
      have HB := hide hb
      rcases hT with hT | ⟨b, off, rfl, hlt, hc⟩
      · cases hT
      obtain ⟨c0, c1, -⟩ := hc 0 _ rfl
      simp only [Tok.toZ, Nat.zero_mul, Nat.add_zero] at c0 c1
      clear hb ho HL hc
      go_wp2_with fail
      go_ret
      exact ⟨rfl, HB.out⟩
def wordsF (l : List (List UInt8)) : Bool := l.all wordF
end Go.Proofs.YtndpnpohdoggjaaGreatDoor
namespace Go.Proofs.YtndpnpohdoggjaaGreatDoor
open Go.RowKit
attribute [local go_sem] Later.cell
set_option maxRecDepth 100000 in
set_option maxHeartbeats 4000000 in
theorem idx_words (v : Value) (l : List (List UInt8)) (W : World) (hv : Hid (DAt W (fun _ => True) v (.row 1 (strRows l)))) (hl : l.length ≤ 140737488355328) (hE : Hid (Env W)) :
    Calls Tryz.prog 72 #[v, .func (.func 156) #[] #[]] W fun e w' => ∃ r : Int, e = .returned (.int .i64 r) ∧ (r < 0 ∧ l.all wordF = true ∨ 0 ≤ r ∧ l.all wordF = false) ∧ Below W.heap.size W w' := by
  obtain ⟨A, c, rfl, hA⟩ := hv.out.slice
  have HA := hide hA
  clear hA hv
  unfold strRows at *
  rw [List.length_map]
  have _ := hl
  go_enter Tryz.func72, Tryz.ntmps72
  go_wp2_with fail
  go_loopw [8] (fun v8 wr => ∃ k : Nat, k ≤ l.length ∧ v8 = .int .i64 k ∧ (l.take k).all wordF = true ∧ Below W.heap.size W wr) (fun v8 _ => l.length - (intOf v8).toNat)
  case atStart => exact ⟨0, by omega, rfl, by simp, Below.refl _ _⟩
  case round =>
    obtain ⟨k, hk, rfl, ht, hbr⟩ := hrel
    have HT := hide ht
    have HBR := hide hbr
    clear ht
    by_cases hlt : k < l.length
    rotate_left
    · obtain rfl : k = l.length := by omega
      rw [List.take_length] at HT
      clear hbr hlt
      go_wp2_with fail
      go_ret
      exact ⟨_, rfl, .inl ⟨by decide, HT.out⟩, HBR.out⟩
    obtain ⟨x, hx⟩ : ∃ x, l[k]? = some x := ⟨_, List.getElem?_eq_getElem hlt⟩
    obtain ⟨b, off, rfl, hb, hca⟩ := HA.out.at_ hx
    have c0 := (hca 0 _ rfl).leafc
    clear hca
    have c0 := (HBR.out.cell (p := ⟨b, off + k, none⟩) hb).trans (by simpa using c0)


    have k0 : (0 : Int) ≤ (k : Int) ∧ (k : Int) < ((l.length : Nat) : Int) := by omega
    have HX := hide hx
    clear hx hbr
    have HC := hide (fun V (h : Hid (Env V)) => fword_any ⟨x.toArray⟩ V h)
    simp only at HC
    cases hp : wordF x with
    | true =>
      have HTK := hide (all_step HT.out HX.out hp)
      rw [hp] at HC
      go_wp2_with (first | (go_at_call 156; go_in))
      refine (HC.out _ (hide (hE.out.kept HBR.out))).mono ?_
      rintro e w3 ⟨rfl, hb3⟩
      have HB3 := hide (HBR.out.trans (hb3.mono HBR.out.size))
      clear hb3 HC
      go_wp2_with fail
      go_roundw
      case rel => exact ⟨k + 1, by omega, by go_num, HTK.out, HB3.out⟩
      case measure => simp [intOf]; omega
    | false =>
      have HNO := hide (all_stop HX.out hp)
      rw [hp] at HC
      go_wp2_with (first | (go_at_call 156; go_in))
      refine (HC.out _ (hide (hE.out.kept HBR.out))).mono ?_
      rintro e w3 ⟨rfl, hb3⟩
      have HB3 := hide (HBR.out.trans (hb3.mono HBR.out.size))
      clear hb3 HC
      go_wp2_with fail
      go_ret
      exact ⟨_, rfl, .inr ⟨by omega, by first | exact HNO.out | simpa using HNO.out⟩, HB3.out⟩
set_option maxRecDepth 100000 in
theorem words_any (v : Value) (l : List (List UInt8)) (W : World) (hv : Hid (DAt W (fun _ => True) v (.row 1 (strRows l)))) (hl : l.length ≤ 140737488355328) (hE : Hid (Env W)) :
    Calls Tryz.prog 101 #[v] W fun e w' => e = .returned (.bool (l.all wordF)) ∧ Below W.heap.size W w' := by
  have HI := hide (idx_words v l W hv hl hE)
  go_enter Tryz.func101, Tryz.ntmps101
  go_wp2_with (first | (go_at_call 155; go_in))
  refine HI.out.mono ?_
  rintro e w2 ⟨r, rfl, hr, hb⟩
  have HB2 := hide hb
  have HR := hide (show l.all wordF = !decide (0 ≤ r) by rcases hr with ⟨h1, h2⟩ | ⟨h1, h2⟩ <;> simp [h2] <;> omega)
  clear hb hr HI
  go_wp2_with fail
  go_ret
  exact ⟨by rw [HR.out]; rfl, HB2.out⟩
end Go.Proofs.YtndpnpohdoggjaaGreatDoor
namespace Go.Proofs
open Go.Shelf
def Tryz.lays105_ren : Go.Shelf.Ren := ⟨fun | 105 => 164 | 212 => 192 | 99 => 75 | 165 => 87 | 166 => 88 | 170 => 193 | 169 => 44 | 263 => 211 | 264 => 212 | 206 => 131 | 240 => 141 | 241 => 142 | 276 => 182 | 277 => 183 | n => n, fun | 9 => 9 | 3 => 3 | 4 => 4 | 20 => 20 | 0 => 0 | 46 => 186 | 109 => 251 | 5 => 5 | 72 => 116 | 76 => 181 | 51 => 238 | 146 => 281 | 53 => 273 | 148 => 283 | 70 => 113 | 37 => 114 | 75 => 180 | 127 => 197 | 164 => 246 | 80 => 122 | n => n, fun | n => n⟩
theorem Tryz.lays105 : Go.Proofs.Lays.n105 Tryz.prog Tryz.lays105_ren := {
  mixed := by kernel_rfl
  f99 := Tryz.func75.trans (congrArg some (by kernel_rfl))
  f105 := Tryz.func164.trans (congrArg some (by kernel_rfl))
  f165 := Tryz.func87.trans (congrArg some (by kernel_rfl))
  f166 := Tryz.func88.trans (congrArg some (by kernel_rfl))
  f169 := Tryz.func44.trans (congrArg some (by kernel_rfl))
  f170 := Tryz.func193.trans (congrArg some (by kernel_rfl))
  f206 := Tryz.func131.trans (congrArg some (by kernel_rfl))
  f212 := Tryz.func192.trans (congrArg some (by kernel_rfl))
  f240 := Tryz.func141.trans (congrArg some (by kernel_rfl))
  f241 := Tryz.func142.trans (congrArg some (by kernel_rfl))
  f263 := Tryz.func211.trans (congrArg some (by kernel_rfl))
  f264 := Tryz.func212.trans (congrArg some (by kernel_rfl))
  f276 := Tryz.func182.trans (congrArg some (by kernel_rfl))
  f277 := Tryz.func183.trans (congrArg some (by kernel_rfl))
  t0 := Tryz.underlying0
  a0 := Tryz.isAgg0
  z0 := Tryz.sizeOf0
  v0 := Tryz.zeroValue0
  t3 := Tryz.underlying3
  a3 := Tryz.isAgg3
  z3 := Tryz.sizeOf3
  v3 := Tryz.zeroValue3
  t4 := Tryz.underlying4
  a4 := Tryz.isAgg4
  z4 := Tryz.sizeOf4
  v4 := Tryz.zeroValue4
  t5 := Tryz.underlying5
  a5 := Tryz.isAgg5
  z5 := Tryz.sizeOf5
  v5 := Tryz.zeroValue5
  t9 := Tryz.underlying9
  a9 := Tryz.isAgg9
  z9 := Tryz.sizeOf9
  v9 := Tryz.zeroValue9
  t20 := Tryz.underlying20
  a20 := Tryz.isAgg20
  z20 := Tryz.sizeOf20
  v20 := Tryz.zeroValue20
  t37 := Tryz.underlying114
  a37 := Tryz.isAgg114
  z37 := Tryz.sizeOf114
  v37 := Tryz.zeroValue114
  t46 := Tryz.underlying186
  a46 := Tryz.isAgg186
  z46 := Tryz.sizeOf186
  v46 := Tryz.zeroValue186
  t51 := Tryz.underlying238
  a51 := Tryz.isAgg238
  z51 := Tryz.sizeOf238
  v51 := Tryz.zeroValue238
  t53 := Tryz.underlying273
  a53 := Tryz.isAgg273
  z53 := Tryz.sizeOf273
  v53 := Tryz.zeroValue273
  t70 := Tryz.underlying113
  a70 := Tryz.isAgg113
  z70 := Tryz.sizeOf113
  v70 := Tryz.zeroValue113
  t72 := Tryz.underlying116
  a72 := Tryz.isAgg116
  z72 := Tryz.sizeOf116
  v72 := Tryz.zeroValue116
  t75 := Tryz.underlying180
  a75 := Tryz.isAgg180
  z75 := Tryz.sizeOf180
  v75 := Tryz.zeroValue180
  t76 := Tryz.underlying181
  a76 := Tryz.isAgg181
  z76 := Tryz.sizeOf181
  v76 := Tryz.zeroValue181
  t109 := Tryz.underlying251
  a109 := Tryz.isAgg251
  z109 := Tryz.sizeOf251
  v109 := Tryz.zeroValue251
  t127 := Tryz.underlying197
  a127 := Tryz.isAgg197
  z127 := Tryz.sizeOf197
  v127 := Tryz.zeroValue197
  t146 := Tryz.underlying281
  a146 := Tryz.isAgg281
  z146 := Tryz.sizeOf281
  v146 := Tryz.zeroValue281
  t148 := Tryz.underlying283
  a148 := Tryz.isAgg283
  z148 := Tryz.sizeOf283
  v148 := Tryz.zeroValue283
  t164 := Tryz.underlying246
  a164 := Tryz.isAgg246
  z164 := Tryz.sizeOf246
  v164 := Tryz.zeroValue246 }
theorem Tryz.Builder_Extra_105 : Builder.Extra Tryz.prog Tryz.lays105_ren := {
  sizeBuilder := by kernel_rfl
  liesBuilder := by kernel_rfl
  t5 := Tryz.underlying5
  a5 := Tryz.isAgg5
  z5 := Tryz.sizeOf5
  v5 := Tryz.zeroValue5
  infoByte := by kernel_rfl
  cellsByte := by kernel_rfl
  sizeByte := by kernel_rfl
  neB5 := by decide }
open Go.RowKit Go.Lib in
/-- **strings.Repeat: count ≥ 0, the result within one allocation: count copies of s.** (LAID: no walk: one application.) -/
theorem Tryz.strings_Repeat (s : ByteArray) (c : Nat) (w : World) (hc : c ≤ 9223372036854775807) (hlen : s.size * c ≤ 140737488355328) :
    Calls Tryz.prog 164 #[.string s, .int .i64 c] w fun e w' => e = .returned (.string ⟨(Lib.repeatL s.data.toList c).toArray⟩) ∧ Below w.heap.size w w' := Any.strings_Repeat Tryz.lays105 Tryz.Builder_Extra_105 s c w hc hlen
end Go.Proofs
namespace Go.Proofs.YtndpnpohdoggjaaGreatDoor
theorem returnsInHanded_both {H : Type} {enc : TypeId × Value → H} {a : Assume} {C : Checked} {os : Os} {f : FuncId} {fn : Func} {s : ChangeSpec} {conds : List PathCond} {apart fresh handsOn again : Bool} {X : World → Array Value → Prop}
    (hX : ∀ (w w' : World) (args : Array Value), w.heap = w'.heap → X w args → X w' args)
    (own : ownKnob C.prog.godebug = none) (started : os.Started) (noInit : C.prog.inits.idxOf? f = none) (hfn : C.prog.funcs[f]? = some fn)
    (witness : ∃ (w : World) (tape : Tape) (i : Input), w.os = os ∧ (w.forCall tape i).Shaped C.prog ∧ i.vars = [] ∧ Input.okWide C.prog (w.forCall tape i) .any w.heap.size f i ∧
      ((s.pre enc C.prog fn conds apart (w.forCall tape i).memory i.args ∧ X (w.forCall tape i).memory i.args) ∧ sizedMet enc C.prog fn (OpenSpec.ofChange s) apart (w.forCall tape i).memory i.args) ∧ a.holds C.prog (lone (Frame.enter C.prog f i.args .normal) [] (w.forCall tape i)))
    (contract : ∀ (W : World) (base : Nat) (args : Array Value) (ds gs : List (DataW H)) (before : List MemPlace),
      (∀ (j : Nat) t v, fn.params[j]? = some t → args[j]? = some v → Value.okWide C.prog W .any base t v) →
      DataW.Whole enc C.prog fn.params.toList s.vars apart W args.toList ds gs before →
      conds.all (PathCond.test C.prog ⟨fn.params.toList, ds, s.plain.varTypes C.prog, gs⟩) = true →
      (DataW.weightsEach C.prog (fn.params.toList ++ s.plain.varTypes C.prog) (ds ++ gs)).all (· ≤ reachBytes) = true → X W args → W.ShapedOpen C.prog →
      a.holds C.prog (lone (Frame.enter C.prog f args .normal) [] W) →
      Calls C.prog f args W fun e W' => ∃ v, e = .returned v ∧ s.post enc C.prog fn apart fresh handsOn again W args v W') :
    ReturnsInHanded a C os f .any (fun w args => (s.pre enc C.prog fn conds apart w args ∧ X w args) ∧ sizedMet enc C.prog fn (OpenSpec.ofChange s) apart w args) (s.post enc C.prog fn apart fresh handsOn again) := by
  refine returnsInHanded_of_calls own started noInit witness ?_
  intro w tape i _ hsh _ hok hpre hholds
  obtain ⟨_, _, _, fn', hfn', _, _, _, _, hval⟩ := hok
  have e : fn' = fn := Option.some.inj (hfn'.symm.trans hfn)
  subst e
  obtain ⟨⟨⟨ds, gs, before, hw, hc⟩, hx⟩, hz⟩ := hpre
  have hw' := DataW.Whole.of_heap (w' := w.forCall tape i) (by rfl) hw
  refine (contract (w.forCall tape i) w.heap.size i.args ds gs before hval hw' hc (hz.weights hw) (hX _ _ _ (by rfl) hx) hsh hholds).mono fun e W' ⟨v, he, hp⟩ => ?_
  subst he
  exact ChangeSpec.post_blind hp
end Go.Proofs.YtndpnpohdoggjaaGreatDoor
namespace Go.Proofs.YtndpnpohdoggjaaGreatDoor
open Go.ChangeShapes Go.WideShapes Go.Deep Go.RowKit
section
variable {H : Type} {enc : TypeId × Value → H} {P : Program} {w : World} {base : Nat} {spare : Nat → Bool} {held : Bool}
theorem open_slice_fields {t e : TypeId} {fs : Array Field} {fuel : Nat} {cs : List Value} {x : DataW H × List MemPlace} (ht : P.underlying t = some (.slice e)) (he : P.underlying e = some (.struct fs))
    (hone : oneCellFields P fs = true) (hC : P.cellsOf e = fs.size) (h : DataW.trod enc P w base spare held fuel t cs = some x) :
    (cs = [.slice none 0 0] ∧ x = (.nil, [])) ∨
    ∃ (a : Addr) (len cap m : Nat) (D : Nat → DataW H) (Pl : Nat → List MemPlace), cs = [.slice (some a) len cap] ∧ base ≤ a.block ∧ len ≤ cap ∧ cap ≤ maxLen ∧ m = (if spare a.block then cap else len) ∧
      x = (.slice ((List.range len).map D) ((List.range (m - len)).map fun j => D (len + j)), MemPlace.row a (m * fs.size) ++ (List.range m).flatMap Pl) ∧
      ∀ i, i < m → ∃ (ys : List (DataW H × List MemPlace)) (n : Nat), D i = .agg (ys.map (·.1)) ∧ Pl i = ys.flatMap (·.2) ∧ ys.length = fs.size ∧
        ∀ (j : Nat) (f : Field), fs[j]? = some f → ∃ (v : Value) (y : DataW H × List MemPlace), w.cell? (a.add (i * fs.size + j)) = some v ∧ ys[j]? = some y ∧ DataW.trod enc P w base spare held n f.type [v] = some y := by
  rcases open_slice ht h with h0 | ⟨a, len, cap, m, n, D, Pl, hcs, hb, hl, hm, hmm, hx, hi⟩
  · exact .inl h0
  · refine .inr ⟨a, len, cap, m, D, Pl, hcs, hb, hl, hm, hmm, by rw [hC] at hx; exact hx, fun i him => ?_⟩
    obtain ⟨cs', hc, ht'⟩ := hi i him
    rw [hC] at hc
    obtain ⟨ys, n', hn', hy, hlen, hyl, hf⟩ := DataW.trod_struct he ht'
    obtain ⟨_, hcl, hat⟩ := World.cells?_some hc
    simp only [Prod.mk.injEq] at hy
    refine ⟨ys, n', hy.1, hy.2, hyl, fun j f hj => ?_⟩
    obtain ⟨ho, hk⟩ := hone_of hone j f hj
    have hjl : j < fs.size := (Array.getElem?_eq_some_iff.1 hj).1
    have hcell := hat j hjl
    have hv : cs'[j]? = some (cs'[j]'(by omega)) := List.getElem?_eq_getElem (by omega)
    have h1 := hf j f hj
    rw [ho, hk] at h1
    have hone' : (cs'.drop j).take 1 = [cs'[j]'(by omega)] := by
      rw [List.drop_eq_getElem_cons (by omega)]
      rfl
    rw [hone'] at h1
    have hys : ys[j]? = some (ys[j]'(by omega)) := List.getElem?_eq_getElem (by omega)
    refine ⟨_, _, ?_, hys, h1.trans hys⟩
    rw [← Go.Deep.add_add, hcell, hv]
end
theorem lt_of_cell {w : World} {b o : Nat} {v : Value} (h : w.cell? ⟨b, o, none⟩ = some v) : b < w.heap.size := by
  rcases Nat.lt_or_ge b w.heap.size with h1 | h1
  · exact h1
  · simp [World.cell?, Array.getElem?_eq_none h1] at h
theorem u8_bd {n : Int} (h : (Lit.int .u8 n).wf = true) : 0 ≤ n ∧ n ≤ 255 := by
  simp [Lit.wf, IntKind.min, IntKind.max, IntKind.bits, IntKind.signed] at h; omega
theorem i64_bd {n : Int} (h : (Lit.int .i64 n).wf = true) : -9223372036854775808 ≤ n ∧ n ≤ 9223372036854775807 := by
  simp [Lit.wf, IntKind.min, IntKind.max, IntKind.bits, IntKind.signed] at h; omega
end Go.Proofs.YtndpnpohdoggjaaGreatDoor

/-
  LexBlanks: the walk.
-/
import Derived.Test.YtnpadhjjkoiihaaDoorBlankP
import Derived.Test.YtnpadhjjkoiihaaDoorSpl
namespace Go.Proofs.YtnpadhjjkoiihaaDoor
open Go.RowKit
theorem intInfo : (Tryd.prog.info? 3).map (fun i => (i.zero, i.size, i.bytes)) = some (some (.int .i64 0), 1, 8) := by kernel_rfl
def pickN (g : Int) : Nat := (g % 6).toNat
set_option maxRecDepth 100000 in
set_option maxHeartbeats 1000000 in
theorem pick_any (g : Int) (w : World) : Calls Tryd.prog 21 #[.int .i64 g, .int .i64 6] w fun e w' => e = .returned (.int .i64 (pickN g : Int)) ∧ w = w' := by
  obtain ⟨r, hr⟩ : ∃ r, g.tmod 6 = r := ⟨_, rfl⟩
  have hm : (r < 0 ∧ (pickN g : Int) = r + 6) ∨ (¬ r < 0 ∧ (pickN g : Int) = r) := by
    unfold pickN
    rcases Int.lt_or_le g 0 with h | h
    · have h2 : g.tmod 6 = -((-g).tmod 6) := by rw [Int.neg_tmod, Int.neg_neg]
      rw [Int.tmod_eq_emod_of_nonneg (show 0 ≤ -g by omega), hr] at h2
      omega
    · rw [Int.tmod_eq_emod_of_nonneg h] at hr
      right
      omega
  have hp6 : pickN g < 6 := by unfold pickN; omega
  have hr1 : -6 ≤ r := by rcases hm with ⟨h1, h2⟩ | ⟨h1, h2⟩ <;> omega
  have hr2 : r < 6 := by rcases hm with ⟨h1, h2⟩ | ⟨h1, h2⟩ <;> omega
  have HM := hide hm
  clear hm
  rcases HM.out with ⟨h1, h2⟩ | ⟨h1, h2⟩
  · have HR := hide h2
    clear h2
    go_enter Tryd.func21, Tryd.ntmps21
    go_wp2_with fail
    go_ret
    exact ⟨by rw [HR.out]; rfl, rfl⟩
  · have HR := hide h2
    clear h2
    go_enter Tryd.func21, Tryd.ntmps21
    go_wp2_with fail
    go_ret
    exact ⟨by rw [HR.out]; rfl, rfl⟩
/-- The fillings chosen by g. -/
def glueXs (g : Nat → Nat) : Nat → List Tok → List (List UInt8 × Tok)
  | _, [] => []
  | i, t :: r => (fillL (g i), t) :: glueXs g (i + 1) r
theorem glueXs_len (g : Nat → Nat) : ∀ (i : Nat) (l : List Tok), (glueXs g i l).length = l.length
  | _, [] => rfl
  | i, t :: r => by show (glueXs g (i + 1) r).length + 1 = _; rw [glueXs_len]; rfl
theorem glueXs_at (g : Nat → Nat) : ∀ (l : List Tok) (i j : Nat) (t : Tok), l[j]? = some t → (glueXs g i l)[j]? = some (fillL (g (i + j)), t)
  | [], _, _, _, h => by simp at h
  | x :: r, i, 0, t, h => by simp at h; subst h; rfl
  | x :: r, i, j + 1, t, h => by
    have := glueXs_at g r (i + 1) j t (by simpa using h)
    rw [show i + 1 + j = i + (j + 1) from by omega] at this
    exact this
theorem glueXs_ok (g : Nat → Nat) (l : List Tok) (hv : ∀ t ∈ l, ValidT t) : ∀ x ∈ glueXs g 0 l, FillOk x.1 ∧ ValidT x.2 := by
  intro x hx
  obtain ⟨j, hj, e⟩ := List.getElem_of_mem hx
  rw [glueXs_len] at hj
  have h1 := glueXs_at g l 0 j l[j] (List.getElem?_eq_getElem hj)
  rw [List.getElem?_eq_getElem (by rw [glueXs_len]; exact hj), e] at h1
  injection h1 with h1
  rw [h1]
  exact ⟨fill_ok _, hv _ (List.getElem_mem hj)⟩
theorem placed_snoc (xs : List (List UInt8 × Tok)) (k : Nat) (x : List UInt8 × Tok) (h : xs[k]? = some x) : placed 0 (xs.take (k + 1)) = placed 0 (xs.take k) ++ [⟨x.2.kind, x.2.text, (glue (xs.take k)).length + x.1.length⟩] := by
  obtain ⟨hk, rfl⟩ := List.getElem?_eq_some_iff.1 h
  apply List.ext_getElem?
  intro i
  have hlen : (xs.take k).length = k := by rw [List.length_take]; omega
  rcases Nat.lt_trichotomy i k with hi | hi | hi
  · have hx : xs[i]? = some xs[i] := List.getElem?_eq_getElem (by omega)
    have e1 : (xs.take (k + 1))[i]? = some xs[i] := by rw [List.getElem?_take_of_lt (by omega)]; exact hx
    have e2 : (xs.take k)[i]? = some xs[i] := by rw [List.getElem?_take_of_lt (by omega)]; exact hx
    rw [placed_at _ 0 i _ e1, List.getElem?_append_left (by rw [placed_len, hlen]; exact hi), placed_at _ 0 i _ e2]
    rw [List.take_take, List.take_take, show min i (k + 1) = i from by omega, show min i k = i from by omega]
  · subst hi
    have e1 : (xs.take (i + 1))[i]? = some xs[i] := by rw [List.getElem?_take_of_lt (by omega)]; exact List.getElem?_eq_getElem hk
    rw [placed_at _ 0 i _ e1, List.getElem?_append_right (by rw [placed_len, hlen]; omega), placed_len, hlen, List.take_take, show min i (i + 1) = i from by omega]
    simp
  · rw [List.getElem?_eq_none (by rw [placed_len, List.length_take]; omega), List.getElem?_eq_none (by rw [List.length_append, placed_len, hlen]; simp; omega)]
def offV (xs : List (List UInt8 × Tok)) (k : Nat) : List Value := (placed 0 (xs.take k)).map fun t => .int .i64 (t.at_ : Int)
def glueS (xs : List (List UInt8 × Tok)) (k : Nat) : ByteArray := ⟨(glue (xs.take k)).toArray⟩
theorem offV_step (xs : List (List UInt8 × Tok)) (k : Nat) (x : List UInt8 × Tok) (h : xs[k]? = some x) (z : Int) (hz : z = ((glueS xs k).size : Int) + (x.1.length : Int)) : offV xs k ++ [.int .i64 z] = offV xs (k + 1) := by
  unfold offV
  rw [placed_snoc xs k x h, List.map_append]
  subst hz
  simp [glueS, ByteArray.size]
theorem glueS_step (xs : List (List UInt8 × Tok)) (k : Nat) (x : List UInt8 × Tok) (h : xs[k]? = some x) : glueS xs (k + 1) = glueS xs k ++ ⟨x.1.toArray⟩ ++ ⟨x.2.text.toArray⟩ := by
  obtain ⟨hk, rfl⟩ := List.getElem?_eq_some_iff.1 h
  unfold glueS
  rw [List.take_succ_eq_append_getElem hk, glue_snoc, ByteArray.mk_append_mk, ByteArray.mk_append_mk]
theorem glue_len (g : Nat → Nat) : ∀ (l : List Tok) (i : Nat), (glue (glueXs g i l)).length ≤ (l.map (·.text.length)).sum + 8 * l.length
  | [], _ => by simp [glue, glueXs]
  | t :: r, i => by
    have := glue_len g r (i + 1)
    have hf := fill_len (g i)
    show (glue ((fillL (g i), t) :: glueXs g (i + 1) r)).length ≤ _
    rw [glue_cons]
    simp only [List.length_append, List.map_cons, List.sum_cons, List.length_cons]
    omega
theorem glue_take (xs : List (List UInt8 × Tok)) (k : Nat) : (glue (xs.take k)).length ≤ (glue xs).length := by
  have e : glue xs = glue (xs.take k) ++ glue (xs.drop k) := by
    unfold glue
    rw [← List.flatMap_append, List.take_append_drop]
  rw [e, List.length_append]
  omega
theorem text_le : ∀ (l : List Tok) (t : Tok), t ∈ l → t.text.length ≤ (l.map (·.text.length)).sum
  | [], _, h => by simp at h
  | x :: r, t, h => by
    simp only [List.map_cons, List.sum_cons]
    rcases List.mem_cons.1 h with rfl | h
    · omega
    · have := text_le r t h; omega
/-- The fillings as values. -/
def fillsV : Array Value := #[.string ⟨#[32]⟩, .string ⟨#[10]⟩, .string ⟨#[9, 32]⟩, .string ⟨#[35, 10]⟩, .string ⟨#[32, 35, 32, 123, 97, 32, 63, 10]⟩, .string ⟨#[13, 10]⟩]
theorem fillsV_at (k : Nat) (hk : k < 6) : fillsV[k]? = some (.string ⟨(fillL k).toArray⟩) := by
  rcases (by omega : k = 0 ∨ k = 1 ∨ k = 2 ∨ k = 3 ∨ k = 4 ∨ k = 5) with rfl | rfl | rfl | rfl | rfl | rfl <;> rfl
/-- The cells of a slice of integers. -/
def IRow (w : World) (A : Option Addr) (zs : List Int) : Prop := zs = [] ∨ ∃ b off, A = some ⟨b, off, none⟩ ∧ b < w.heap.size ∧ ∀ i z, zs[i]? = some z → w.cell? ⟨b, off + i, none⟩ = some (.int .i64 z)
theorem irow_at {w w' : World} {A : Option Addr} {zs : List Int} {n k : Nat} (HL : Hid (zs.length = n)) (h : Hid (IRow w A zs)) (hb : Below w.heap.size w w') (hk : k < n) :
    ∃ b off z, A = some ⟨b, off, none⟩ ∧ b < w.heap.size ∧ Hid (zs[k]? = some z) ∧ w'.cell? ⟨b, off + k, none⟩ = some (.int .i64 z) := by
  rcases h.out with h0 | ⟨b, off, e, hlt, hc⟩
  · have := HL.out; rw [h0] at this; simp at this; omega
  · have hkl : k < zs.length := by rw [HL.out]; exact hk
    exact ⟨b, off, zs[k], e, hlt, List.getElem?_eq_getElem hkl, (hb.cell (p := ⟨b, off + k, none⟩) hlt).trans (hc k zs[k] (List.getElem?_eq_getElem hkl))⟩
theorem irow_own {w : World} {base n : Nat} {e : TypeId} {v : Value} {zs : List Int} (h : w.ownsRow base e 1 v n (zs.map (Value.int .i64))) (hl : zs.length = n) : ∃ a cap, v = .slice a n cap ∧ IRow w a zs := by
  rcases h.2 with ⟨rfl, rfl⟩ | ⟨g, cap, cur, rfl, _, hg, _⟩
  · exact ⟨none, 0, rfl, .inl (List.eq_nil_of_length_eq_zero hl)⟩
  · refine ⟨some ⟨g, 0, none⟩, cap, rfl, .inr ⟨g, 0, rfl, (Array.getElem?_eq_some_iff.1 hg).1, fun i z hz => ?_⟩⟩
    have hi : i < n := by rw [← hl]; exact (List.getElem?_eq_some_iff.1 hz).1
    rw [Nat.zero_add, World.ownsRow.cellAt h i (by omega), List.getElem?_map, hz]
    rfl
theorem IRow.below {w w' : World} {A : Option Addr} {zs : List Int} (h : IRow w A zs) (hb : Below w.heap.size w w') : IRow w' A zs := by
  rcases h with h | ⟨b, off, e, hlt, hc⟩
  · exact .inl h
  · exact .inr ⟨b, off, e, Nat.lt_of_lt_of_le hlt hb.size, fun i z hz => (hb.cell (p := ⟨b, off + i, none⟩) hlt).trans (hc i z hz)⟩
theorem placed_alike (g : Nat → Nat) (l : List Tok) (i : Nat) (t u : Tok) (h1 : l[i]? = some t) (h2 : (placed 0 (glueXs g 0 l))[i]? = some u) : t.kind = u.kind ∧ t.text = u.text := by
  have e := glueXs_at g l 0 i t h1
  rw [placed_at _ 0 i _ e] at h2
  injection h2 with h2
  subst h2
  exact ⟨rfl, rfl⟩
/-- Which filling stands ahead of token i. -/
def gapN (zs : List Int) (i : Nat) : Nat := pickN (if i < zs.length then zs.getD i 0 else (i : Int))
theorem gapN_lt (zs : List Int) (i : Nat) : gapN zs i < 6 := by unfold gapN pickN; omega
set_option maxRecDepth 100000 in
set_option maxHeartbeats 4000000 in
theorem blanks_main (src : ByteArray) (A : Option Addr) (m cap : Nat) (zs : List Int) (l : List Tok) (w : World) (hs : src.size ≤ 4000) (hR : lexR src.data.toList = (l, 0, 0)) (hl : l.length ≤ 300) (_hB : BackOk src l) (hv : ∀ t ∈ l, ValidT t) (hsum : (l.map (·.text.length)).sum ≤ 4000)
    (HZ : Hid (zs.length = m)) (hm : m ≤ 9223372036854775807) (hI : Hid (IRow w A zs)) (hE : Hid (Env w)) :
    Calls Tryd.prog 7 #[.string src, .slice A m cap] w fun e w' => e = .returned (.bool true) ∧ Below w.heap.size w w' := by
  obtain ⟨i0, hi0, hz0, hz1, hz2⟩ := info_parts intInfo
  have HA := hide (awake_any w hE)
  have HL := hide (fun (w : World) (hE : Env w) => lex_at src l l.length 0 0 rfl hR w hE)
  have HN := hide (show (l.map Tok.toZ).length = l.length by simp)
  have hgl := glue_len (gapN zs) l 0
  have HLk : Hid (lexR (glueS (glueXs (gapN zs) 0 l) l.length ++ ⟨tailL.toArray⟩).data.toList = (placed 0 (glueXs (gapN zs) 0 l), 0, 0)) := by
    have e : (glueS (glueXs (gapN zs) 0 l) l.length ++ ⟨tailL.toArray⟩).data.toList = glue (glueXs (gapN zs) 0 l) ++ tailL := by
      unfold glueS
      rw [List.take_of_length_le (by rw [glueXs_len]; exact Nat.le_refl _), ByteArray.mk_append_mk]
    rw [e, lexR_small _ (by rw [List.length_append]; have : tailL.length = 10 := rfl; omega), lex_glue _ 0 tailL (glueXs_ok _ l hv) tail_ok.1 tail_ok.2]
    exact rfl
  have hpl : (placed 0 (glueXs (gapN zs) 0 l)).length = l.length := by rw [placed_len, glueXs_len]
  have HU : Hid (∀ (w : World) (hE : Env w), Calls Tryd.prog 18 #[.string (glueS (glueXs (gapN zs) 0 l) l.length ++ ⟨#[32, 35, 32, 116, 104, 101, 32, 101, 110, 100]⟩)] w (LexC ((placed 0 (glueXs (gapN zs) 0 l)).map Tok.toZ) l.length 0 0 w)) := hide (fun (w : World) (hE : Env w) => lex_at _ _ l.length 0 0 hpl HLk.out w hE)
  have HAl := hide (alike_map (placed_alike (gapN zs) l))
  have hzl : ((placed 0 (glueXs (gapN zs) 0 l)).map fun t => (t.at_ : Int)).length = l.length := by rw [List.length_map]; exact hpl
  have HOv : Hid (offV (glueXs (gapN zs) 0 l) l.length = ((placed 0 (glueXs (gapN zs) 0 l)).map fun t => (t.at_ : Int)).map (Value.int .i64)) := by
    show _ = _
    unfold offV
    rw [List.take_of_length_le (by rw [glueXs_len]; exact Nat.le_refl _), List.map_map]
    rfl
  have HZl := hide hzl
  have HM := hide (show ((placed 0 (glueXs (gapN zs) 0 l)).map Tok.toZ).length = l.length by rw [List.length_map]; exact hpl)
  have hx : (src.size : Int) ≤ 4000 := by omega
  have hglue : (glue (glueXs (gapN zs) 0 l)).length ≤ 6400 := by omega
  have hn : (l.length : Int) ≤ 300 := by omega
  clear hR hpl hgl hzl
  generalize hnn : l.length = n at *
  have HLn := hide hnn
  clear hnn
  go_enter Tryd.func7, Tryd.ntmps7
  go_wp2_with fail
  refine HA.out.mono ?_
  rintro e w1 ⟨rfl, hb1⟩
  have HB1 := hide hb1
  clear hb1
  go_wp2_with fail
  refine (HL.out _ (hE.out.kept HB1.out)).mono ?_
  rintro e w2 ⟨A2, c2, rfl, hT2, hb2⟩
  have HT2 := hide hT2
  have HB2 := hide (HB1.out.trans (hb2.mono HB1.out.size))
  have hz2w : w.heap.size ≤ w2.heap.size := HB2.out.size
  clear hT2 hb2
  go_wp2_with fail
  have HFill := hide (heap_alloc_new w2 (.cells fillsV 9))
  have hb0 := hide ((Below.refl w2.heap.size w2).alloc (Nat.le_refl _) (.cells fillsV 9))
  have hsz : (w2.alloc (.cells fillsV 9)).heap.size = w2.heap.size + 1 := by simp
  unfold fillsV at HFill hb0 hsz
  generalize hW0 : w2.alloc (.cells #[.string ⟨#[32]⟩, .string ⟨#[10]⟩, .string ⟨#[9, 32]⟩, .string ⟨#[35, 10]⟩, .string ⟨#[32, 35, 32, 123, 97, 32, 63, 10]⟩, .string ⟨#[13, 10]⟩] 9) = W0 at *
  have HW0 := hide hW0
  clear hW0
  have HSZ := hide hsz
  have hszle : w2.heap.size + 1 ≤ W0.heap.size := by omega
  clear hsz
  go_loopw [9, 10, 11] (fun v9 v10 v11 wr => ∃ i : Nat, i ≤ n ∧ v11 = .int .i64 i ∧ v9 = .string (glueS (glueXs (gapN zs) 0 l) i) ∧ wr.ownsRow (w2.heap.size + 1) 3 1 v10 i (offV (glueXs (gapN zs) 0 l) i) ∧ Below (w2.heap.size + 1) W0 wr) (fun _ _ v11 _ => n - (intOf v11).toNat)
  case atStart => exact ⟨0, by omega, rfl, rfl, World.ownsRow_nil _ _ _ _, Below.refl _ _⟩
  case round =>
    obtain ⟨i, hi, rfl, rfl, hown, hbr⟩ := hrel
    have HOW := hide hown
    have HBR := hide hbr
    have hz := hbr.size
    have HFr := hide ((hbr.block w2.heap.size (by omega)).trans HFill.out)
    have HBW := hide (hb0.out.trans (hbr.mono (by omega)))
    have HBA := hide (HB2.out.trans (HBW.out.mono hz2w))
    clear hown hbr
    by_cases hlt : i < n
    case neg =>
      obtain rfl : i = n := by omega
      have hzz := hz2w
      have ho := HOW.out
      rw [HOv.out] at ho
      obtain ⟨oa, ocap, hu, hir⟩ := irow_own ho HZl.out
      have HIr := hide hir
      have HTl := hide (HT2.out.below (HBW.out))
      subst hu
      clear ho hir HOW HFr HFill HSZ
      have hSs : (glueS (glueXs (gapN zs) 0 l) i).size ≤ 8000 := by
        have h1 : (glueS (glueXs (gapN zs) 0 l) i).size = (glue ((glueXs (gapN zs) 0 l).take i)).length := by simp [glueS, ByteArray.size]
        have h2 := glue_take (glueXs (gapN zs) 0 l) i
        omega
      have c1 : ¬ 9223372036854775807 < (glueS (glueXs (gapN zs) 0 l) i).size + 10 := by omega
      have c2 : ¬ 9223372036854775797 < (glueS (glueXs (gapN zs) 0 l) i).size := by omega
      go_wp2_with fail
      refine (HU.out _ (hE.out.kept HBA.out)).mono ?_
      rintro e w4 ⟨A4, c4, rfl, hT4, hb4⟩
      have HT4 := hide hT4
      have HTl2 := hide (HTl.out.below hb4)
      have HIr2 := hide (HIr.out.below hb4)
      have HB4 := hide (HBA.out.trans (hb4.mono HBA.out.size))
      clear hT4 hb4 HTl HIr
      go_wp2_with fail
      refine (alike_yes _ A4 i _ c4 _ _ _ HN HM (by omega) HTl2 HT4 HAl).mono ?_
      rintro e w5 ⟨rfl, hb5⟩
      have HT5 := hide (HT4.out.below hb5)
      have HIr3 := hide (HIr2.out.below hb5)
      have HB5 := hide (HB4.out.trans (hb5.mono HB4.out.size))
      clear hb5 HT4 HTl2 HIr2
      go_wp2_with fail
      go_loopw [16] (fun v16 wq => ∃ j : Nat, j ≤ i ∧ v16 = .int .i64 j ∧ Below w5.heap.size w5 wq) (fun v16 _ => i - (intOf v16).toNat)
      case atStart => exact ⟨0, by omega, rfl, Below.refl _ _⟩
      case round =>
        obtain ⟨j, hj, rfl, hbq⟩ := hrel
        have HBQ := hide hbq
        have hzq := hbq.size
        clear hbq
        by_cases hlj : j < i
        case neg =>
          go_wp2_with fail
          go_ret
          exact ⟨rfl, HB5.out.trans (HBQ.out.mono HB5.out.size)⟩
        case pos =>
          obtain ⟨b, off, t, rfl, hbb, ht, q0, q1, q2⟩ := trow_at HM HT5 HBQ.out hlj
          obtain ⟨ob, ooff, z, rfl, hob, hz', r0⟩ := irow_at HZl HIr3 HBQ.out hlj
          have l1 : b < wr.heap.size := by omega
          have l2 : ob < wr.heap.size := by omega
          have e1 := ht.out
          have e2 := hz'.out
          rw [List.getElem?_map] at e1 e2
          obtain ⟨x, hx, rfl⟩ := Option.map_eq_some_iff.1 e1
          rw [hx] at e2
          simp only [Option.map_some, Option.some.injEq] at e2
          subst e2
          simp only [Tok.toZ] at q0 q1 q2
          have j0 : (0 : Int) ≤ (j : Int) := by omega
          have j1 : (j : Int) < (i : Int) := by omega
          clear e1 hx
          go_wp2_with fail
          go_quiet (fail)
          go_wp2_with fail
          go_roundw
          case rel => exact ⟨j + 1, by omega, by go_num, below_drewN HBQ.out _⟩
          case measure => simp [intOf]; omega
    case pos =>
      obtain ⟨b, off, t, rfl, hbb, ht, q0, q1, q2⟩ := trow_at HN HT2 HBW.out hlt
      have l1 : b < wr.heap.size := by omega
      have ht' := ht.out
      rw [List.getElem?_map] at ht'
      obtain ⟨t', e1, rfl⟩ := Option.map_eq_some_iff.1 ht'
      have htx : t'.text.length ≤ 65536 := by
        have h1 : t'.text.length ≤ (l.map (·.text.length)).sum := text_le l t' (List.mem_of_getElem? e1)
        omega
      obtain ⟨tk, tx, ta⟩ := t'
      simp only [Tok.toZ] at q0 q1 q2
      simp only at htx
      have hTs : (⟨tx.toArray⟩ : ByteArray).size ≤ 65536 := by simpa [ByteArray.size] using htx
      have i1 : (i : Int) < (n : Int) := by omega
      have k0 : (0 : Int) ≤ (i : Int) := by omega
      by_cases hgm : i < m
      · obtain ⟨gb, goff, z, rfl, hgb, hz', r0⟩ := irow_at HZ hI HBA.out hgm
        have l2 : gb < wr.heap.size := by have := HBA.out.size; omega
        have hgap : pickN z = gapN zs i := by unfold gapN; rw [if_pos (by rw [HZ.out]; exact hgm), List.getD_eq_getElem?_getD, hz'.out]; rfl
        have g1 : (i : Int) < (m : Int) := by omega
        have HPk := hide (fun w => pick_any z w)
        rw [hgap] at HPk
        have hfa := fillsV_at (gapN zs i) (gapN_lt zs i)
        have hfc := cell_of_row wr w2.heap.size (gapN zs i) _ _ _ HFr.out
        unfold fillsV at hfa
        rw [hfa] at hfc
        have hg6 := gapN_lt zs i
        have hxi : Hid ((glueXs (gapN zs) 0 l)[i]? = some (fillL (gapN zs i), ⟨tk, tx, ta⟩)) := hide (by have := glueXs_at (gapN zs) l 0 i ⟨tk, tx, ta⟩ e1; simpa using this)
        have hFl := fill_len (gapN zs i)
        have HSt := hide (glueS_step _ i _ hxi.out)
        have HOf := hide (fun z hz => offV_step _ i _ hxi.out z hz)
        simp only at HSt HOf
        generalize hF : fillL (gapN zs i) = F at *
        have hFs : (⟨F.toArray⟩ : ByteArray).size = F.length := by simp [ByteArray.size]
        have hSs : (glueS (glueXs (gapN zs) 0 l) i).size ≤ 8000 := by
          have h1 : (glueS (glueXs (gapN zs) 0 l) i).size = (glue ((glueXs (gapN zs) 0 l).take i)).length := by simp [glueS, ByteArray.size]
          have h2 := glue_take (glueXs (gapN zs) 0 l) i
          omega
        have HFs := hide hFs
        generalize glueS (glueXs (gapN zs) 0 l) i = S at *
        generalize (⟨F.toArray⟩ : ByteArray) = FS at *
        generalize (⟨tx.toArray⟩ : ByteArray) = T at *
        have hFS : FS.size ≤ 8 := by omega
        have c1 : ¬ 9223372036854775807 < S.size + FS.size := by omega
        have c2 : ¬ 9223372036854775807 < S.size + FS.size + T.size := by omega
        have p0 : (0 : Int) ≤ (gapN zs i : Int) := by omega
        have p1 : (gapN zs i : Int) < 6 := by omega
        have hbf : w2.heap.size < wr.heap.size := by omega
        clear hFs hF hfa hFl
        go_wp2_with (first | (go_at_call 21; refine (HPk.out _).mono ?_; rintro e w' ⟨rfl, rfl⟩) | (at_builtin; apply Hid.out))
        refine hide ?_
        refine wpList_append_own _ rfl _ _ 36 rfl (w2.heap.size + 1) 3 i0 (.int .i64 0) 1 8 Tryd.underlying36 hi0 hz0 hz1 hz2 rfl (by decide) _ _ _ rfl (HOW.out.alloc _) ⟨wr.heap.size, 0, none⟩ 1 1 [.int .i64 ((S.size : Int) + (FS.size : Int))] rfl rfl (news_of (by simp)) (by simp [Value.oneCell']) (by unfold maxLen; omega) (by omega) (by simp; omega) ?_
        intro v' w3 hown' hgrow _
        have HG : Hid (Below (w2.heap.size + 1) wr w3) := hide (Below.grown ((Below.refl _ wr).alloc (by omega) _) hgrow (by simp; omega) (fun g hg => (HOW.out.lt g hg).1))
        rw [HOf.out ((S.size : Int) + (FS.size : Int)) (by rw [HFs.out])] at hown'
        have HO2 := hide hown'
        have q0' := (HG.out.cell (p := ⟨b, off + i * 3, none⟩) (show b < w2.heap.size + 1 by omega)).trans q0
        have q1' := (HG.out.cell (p := ⟨b, off + i * 3 + 1, none⟩) (show b < w2.heap.size + 1 by omega)).trans q1
        have q2' := (HG.out.cell (p := ⟨b, off + i * 3 + 2, none⟩) (show b < w2.heap.size + 1 by omega)).trans q2
        have l3 : b < w3.heap.size := by have := HG.out.size; omega
        clear hown' hgrow hfc
        go_wp2_with fail
        go_roundw
        case rel => exact ⟨i + 1, by omega, by go_num, by rw [HSt.out], HO2.out, HBR.out.trans HG.out⟩
        case measure => simp [intOf]; omega
      · have hgap : pickN (i : Int) = gapN zs i := by unfold gapN; rw [if_neg (by rw [HZ.out]; exact hgm)]
        have g1 : decide (i < m) = false := by simp; omega
        have HPk := hide (fun w => pick_any (i : Int) w)
        rw [hgap] at HPk
        have hfa := fillsV_at (gapN zs i) (gapN_lt zs i)
        have hfc := cell_of_row wr w2.heap.size (gapN zs i) _ _ _ HFr.out
        unfold fillsV at hfa
        rw [hfa] at hfc
        have hg6 := gapN_lt zs i
        have hxi : Hid ((glueXs (gapN zs) 0 l)[i]? = some (fillL (gapN zs i), ⟨tk, tx, ta⟩)) := hide (by have := glueXs_at (gapN zs) l 0 i ⟨tk, tx, ta⟩ e1; simpa using this)
        have hFl := fill_len (gapN zs i)
        have HSt := hide (glueS_step _ i _ hxi.out)
        have HOf := hide (fun z hz => offV_step _ i _ hxi.out z hz)
        simp only at HSt HOf
        generalize hF : fillL (gapN zs i) = F at *
        have hFs : (⟨F.toArray⟩ : ByteArray).size = F.length := by simp [ByteArray.size]
        have hSs : (glueS (glueXs (gapN zs) 0 l) i).size ≤ 8000 := by
          have h1 : (glueS (glueXs (gapN zs) 0 l) i).size = (glue ((glueXs (gapN zs) 0 l).take i)).length := by simp [glueS, ByteArray.size]
          have h2 := glue_take (glueXs (gapN zs) 0 l) i
          omega
        have HFs := hide hFs
        generalize glueS (glueXs (gapN zs) 0 l) i = S at *
        generalize (⟨F.toArray⟩ : ByteArray) = FS at *
        generalize (⟨tx.toArray⟩ : ByteArray) = T at *
        have hFS : FS.size ≤ 8 := by omega
        have c1 : ¬ 9223372036854775807 < S.size + FS.size := by omega
        have c2 : ¬ 9223372036854775807 < S.size + FS.size + T.size := by omega
        have p0 : (0 : Int) ≤ (gapN zs i : Int) := by omega
        have p1 : (gapN zs i : Int) < 6 := by omega
        have hbf : w2.heap.size < wr.heap.size := by omega
        clear hFs hF hfa hFl
        go_wp2_with (first | (go_at_call 21; refine (HPk.out _).mono ?_; rintro e w' ⟨rfl, rfl⟩) | (at_builtin; apply Hid.out))
        refine hide ?_
        refine wpList_append_own _ rfl _ _ 36 rfl (w2.heap.size + 1) 3 i0 (.int .i64 0) 1 8 Tryd.underlying36 hi0 hz0 hz1 hz2 rfl (by decide) _ _ _ rfl (HOW.out.alloc _) ⟨wr.heap.size, 0, none⟩ 1 1 [.int .i64 ((S.size : Int) + (FS.size : Int))] rfl rfl (news_of (by simp)) (by simp [Value.oneCell']) (by unfold maxLen; omega) (by omega) (by simp; omega) ?_
        intro v' w3 hown' hgrow _
        have HG : Hid (Below (w2.heap.size + 1) wr w3) := hide (Below.grown ((Below.refl _ wr).alloc (by omega) _) hgrow (by simp; omega) (fun g hg => (HOW.out.lt g hg).1))
        rw [HOf.out ((S.size : Int) + (FS.size : Int)) (by rw [HFs.out])] at hown'
        have HO2 := hide hown'
        have q0' := (HG.out.cell (p := ⟨b, off + i * 3, none⟩) (show b < w2.heap.size + 1 by omega)).trans q0
        have q1' := (HG.out.cell (p := ⟨b, off + i * 3 + 1, none⟩) (show b < w2.heap.size + 1 by omega)).trans q1
        have q2' := (HG.out.cell (p := ⟨b, off + i * 3 + 2, none⟩) (show b < w2.heap.size + 1 by omega)).trans q2
        have l3 : b < w3.heap.size := by have := HG.out.size; omega
        clear hown' hgrow hfc
        go_wp2_with fail
        go_roundw
        case rel => exact ⟨i + 1, by omega, by go_num, by rw [HSt.out], HO2.out, HBR.out.trans HG.out⟩
        case measure => simp [intOf]; omega
set_option maxRecDepth 100000 in
set_option maxHeartbeats 1000000 in
theorem blanks_early (src : ByteArray) (A : Option Addr) (m cap : Nat) (l : List Tok) (n p er : Nat) (w : World) (hR : lexR src.data.toList = (l, p, er)) (hn : l.length = n) (hc : er ≠ 0 ∨ (er = 0 ∧ 300 < n) ∨ (er = 0 ∧ n ≤ 300 ∧ 4000 < src.size)) (hE : Hid (Env w)) :
    Calls Tryd.prog 7 #[.string src, .slice A m cap] w fun e w' => e = .returned (.bool true) ∧ Below w.heap.size w w' := by
  have HA := hide (awake_any w hE)
  have HL := hide (fun (w : World) (hE : Env w) => lex_at src l n p er hn hR w hE)
  clear hR hn
  rcases hc with hc | ⟨rfl, hc⟩ | ⟨rfl, hc, hc2⟩
  case' inl => have x1 : ((er : Int) != 0) = true := by simp; omega
  case' inr.inl => have x1 : (300 : Int) < (n : Int) := by omega
  case' inr.inr =>
    have x1 : (n : Int) ≤ 300 := by omega
    have x2 : (4000 : Int) < (src.size : Int) := by omega
  all_goals
    go_enter Tryd.func7, Tryd.ntmps7
    go_wp2_with fail
    refine HA.out.mono ?_
    rintro e w1 ⟨rfl, hb1⟩
    have HB1 := hide hb1
    clear hb1
    go_wp2_with fail
    refine (HL.out _ (hE.out.kept HB1.out)).mono ?_
    rintro e w2 ⟨A2, c2, rfl, -, hb2⟩
    have HB2 := hide (HB1.out.trans (hb2.mono HB1.out.size))
    clear hb2
    go_wp2_with fail
    go_ret
    exact ⟨rfl, HB2.out⟩
theorem blanks_any (src : ByteArray) (A : Option Addr) (m cap : Nat) (zs : List Int) (w : World) (HZ : Hid (zs.length = m)) (hm : m ≤ 9223372036854775807) (hI : Hid (IRow w A zs)) (hE : Hid (Env w)) :
    Calls Tryd.prog 7 #[.string src, .slice A m cap] w fun e w' => e = .returned (.bool true) ∧ Below w.heap.size w w' := by
  obtain ⟨⟨l, p, er⟩, hR⟩ : ∃ q, lexR src.data.toList = q := ⟨_, rfl⟩
  by_cases he : er = 0
  · by_cases hn : 300 < l.length
    · exact blanks_early src A m cap l l.length p er w hR rfl (.inr (.inl ⟨he, hn⟩)) hE
    · by_cases hs : 4000 < src.size
      · exact blanks_early src A m cap l l.length p er w hR rfl (.inr (.inr ⟨he, by omega, hs⟩)) hE
      · subst he
        have hL : (toksL src).length = src.size := by simp [toksL]
        have hla : lexA 0 (toksL src) = (l, 0, 0) := (lexR_ok (l := src.data.toList) (by simp; show src.size ≤ 65536; omega) hR).1
        rcases lexR_cases src (by omega) with ⟨l', hR', hB⟩ | ⟨p', er', hR', _, her⟩
        · have e : l' = l := by rw [hR] at hR'; exact (congrArg (fun q => q.1) hR').symm
          subst e
          have hv := valid_all 0 (toksL src)
          have hsum := lexA_sum 0 (toksL src)
          rw [hla] at hv hsum
          exact blanks_main src A m cap zs l' w (by omega) hR' (by omega) hB hv (by simp only at hsum; omega) HZ hm hI hE
        · exfalso
          rw [hR] at hR'
          have : (0 : Nat) = er' := congrArg (fun q => q.2.2) hR'
          omega
  · exact blanks_early src A m cap l l.length p er w hR rfl (.inl he) hE
end Go.Proofs.YtnpadhjjkoiihaaDoor

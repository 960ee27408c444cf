/-
  Merged texts: parse: code. | parse: Code.
-/
import Derived.Test.YtndpnpohdoggjaaGreatDoorPk1
import Derived.Test.YtndpnpohdoggjaaGreatDoorPk4
import Derived.Test.YtndpnpohdoggjaaGreatDoorPk10
import Derived.Lib.OthersKept
import Derived.Test.YtndpnpohdoggjaaGreatDoorPk7
namespace Go.Proofs.YtndpnpohdoggjaaGreatDoor
open Go.RowKit
theorem AtJ.fresh {sb j : Nat} {W w : World} (h : AtJ sb j W w) (_hsb : sb < W.heap.size) {p : Addr} (hp : p.block ≠ sb) (hp2 : W.heap.size ≤ p.block) (u : Value) : AtJ sb j W (w.setCell p u) := by
  refine ⟨h.kept.setCell (.inr hp2) u, ?_, fun o ho => ?_, ?_, fun o => by rw [World.frozen?_setCell]; exact h.hold o⟩
  · rw [World.cell?_setCell_other w _ _ _ (fun e => by have := congrArg Addr.block e; simp at this; exact hp this)]; exact h.here
  · rw [World.cell?_setCell_other w _ _ _ (fun e => by have := congrArg Addr.block e; simp at this; exact hp this)]; exact h.rest o ho
  · rw [World.frozen?_setCell]; exact h.free
theorem must_new (pb j xb : Nat) (ts : List Tok) (s : ByteArray) (W : World) (H : Hid (Cur pb ts j W)) (hts : ts.length ≤ 1099511627776) (hj : j ≤ ts.length) (hs : s.data.toList ≠ []) (hx : xb = W.heap.size) :
    Calls Tryz.prog 78 #[.pointer (some ⟨pb, 0, none⟩), .slice (some ⟨xb, 0, none⟩) 1 1] (W.alloc (Obj.cells #[Value.string s] 9)) fun e W' => Ends pb ts W (fun _ : Unit => .tuple #[]) (mustP s.data.toList (ts.drop j)) e W' := by
  subst hx
  have hpb := H.out.lt
  have HB := (Below.refl W.heap.size W).alloc (Nat.le_refl _) (Obj.cells #[Value.string s] 9)
  exact (must_one pb j W.heap.size 0 1 ts s _ (hide (H.out.below HB)) hts hj hs (by simp [go_sem]) (by omega)).mono fun e W' h => h.trans ((AtJ.start H.out.now H.out.free).below hpb HB)
attribute [local go_sem] Later.cell
/-- Results put behind what has been read already. -/
def mapR (pre : List Int) : Res (List Int) → Res (List Int)
  | .ok l r => .ok (pre ++ l) r
  | .bad n r => .bad n r
theorem mapR_nil (x : Res (List Int)) : mapR [] x = x := by cases x <;> rfl
theorem mapR_step {pre : List Int} {m : Nat} {r r' : List Tok} {a : Int} (h : numP r = .ok a r') : mapR pre (opsP (m + 1) r) = mapR (pre ++ [a]) (opsP m r') := by
  show mapR pre ((numP >>= fun a => opsP m >>= fun l => pure (a :: l)) r) = _
  rw [bnd_ok h]
  cases hm : opsP m r' with
  | ok l r'' =>
    rw [bnd_ok hm]
    show Res.ok (pre ++ a :: l) r'' = Res.ok (pre ++ [a] ++ l) r''
    simp
  | bad n r'' => rw [bnd_bad hm]; rfl
theorem mapR_bad {pre : List Int} {m n : Nat} {r r' : List Tok} (h : numP r = .bad n r') : mapR pre (opsP (m + 1) r) = .bad n r' := by
  show mapR pre ((numP >>= fun a => opsP m >>= fun l => pure (a :: l)) r) = _
  rw [bnd_bad h]; rfl
theorem AtJ.iter {sb j k : Nat} {W w : World} (h : AtJ sb j W w) (hk : W.heap.size ≤ k) (hsb : sb < W.heap.size) (s : ByteArray) (pos : Nat) : AtJ sb j W (w.iterAt k s pos) := by
  have hb : ∀ b, b ≠ k → (w.iterAt k s pos).heap[b]? = w.heap[b]? := fun b hb => by
    simp only [World.iterAt]
    rw [Array.getElem?_setIfInBounds_ne (fun e => hb e.symm)]
  have hs : (w.iterAt k s pos).heap.size = w.heap.size := by simp [World.iterAt]
  have e := hb sb (by omega)
  exact ⟨⟨h.kept.os, h.kept.tape, h.kept.output, by rw [hs]; exact h.kept.size, fun i hi hf => (hb i (by omega)).trans (h.kept.block i hi hf)⟩, (World.cell?_of_block (w := w) (a := ⟨sb, 1, none⟩) e).trans h.here,
    fun o ho => (World.cell?_of_block (w := w) (a := ⟨sb, o, none⟩) e).trans (h.rest o ho), (World.frozen?_of_block (w := w) (a := ⟨sb, 1, none⟩) e).trans h.free, fun o => (World.frozen?_of_block (w := w) (a := ⟨sb, o, none⟩) e).trans (h.hold o)⟩
theorem iterAt_far (w : World) (k : Nat) (s : ByteArray) (pos b : Nat) (hb : b ≠ k) : (w.iterAt k s pos).heap[b]? = w.heap[b]? := by
  simp only [World.iterAt]
  rw [Array.getElem?_setIfInBounds_ne (fun e => hb e.symm)]
theorem ins_info : (Tryz.prog.info? 70).map (fun i => (i.zero, i.size, i.bytes)) = some (some (.agg #[.int .u8 0, .int .i64 0, .int .i64 0, .int .i64 0]), 4, 32) := by kernel_rfl
def insCells (x : InsD) : List Value := [.int .u8 (x.op : Int), .int .i64 x.a, .int .i64 x.b, .int .i64 x.c]
theorem codeLoop_end {f : Nat} {acc : List InsD} {r : List Tok} (h : ((hdT r).kind == 1) = false) : codeLoop (f + 1) acc r = .ok acc r := by
  show (if (hdT r).kind == 1 then _ else _) = _
  rw [h]; rfl
theorem codeLoop_go {f : Nat} {acc : List InsD} {r r' : List Tok} {x : InsD} (h : ((hdT r).kind == 1) = true) (hx : insP r = .ok x r') : codeLoop (f + 1) acc r = codeLoop f (acc ++ [x]) r' := by
  show (if (hdT r).kind == 1 then (insP >>= fun x => codeLoop f (acc ++ [x])) r else _) = _
  rw [h]; exact bnd_ok hx
theorem codeLoop_bad {f n : Nat} {acc : List InsD} {r r' : List Tok} (h : ((hdT r).kind == 1) = true) (hx : insP r = .bad n r') : codeLoop (f + 1) acc r = .bad n r' := by
  show (if (hdT r).kind == 1 then (insP >>= fun x => codeLoop f (acc ++ [x])) r else _) = _
  rw [h]; exact bnd_bad hx
theorem ops_small : ∀ n, n ≤ 25 → (wordN insOps n).length ≤ 3 ∧ (wordN insOps n).all (fun b => decide (b.toNat < 128)) = true := by
  have h : ∀ n : Fin 26, (wordN insOps n.val).length ≤ 3 ∧ (wordN insOps n.val).all (fun b => decide (b.toNat < 128)) = true := by decide +kernel
  exact fun n hn => h ⟨n, by omega⟩
def rowI (zn : Int) (pre : List Int) : Obj := Obj.cells #[Value.int .u8 zn, Value.int .i64 (pre.getD 0 0), Value.int .i64 (pre.getD 1 0), Value.int .i64 (pre.getD 2 0)] 70 (0, 0)
def rowQ (xb : Nat) : Obj := Obj.cells #[Value.pointer (some ⟨xb, 1, none⟩), Value.pointer (some ⟨xb, 2, none⟩), Value.pointer (some ⟨xb, 3, none⟩)] 168 (0, 0)
/-- The state while an instruction's operands are read. -/
structure OpR (pb : Nat) (ts : List Tok) (W : World) (k n xb qb ib : Nat) (zn : Int) (S : ByteArray) (v : Value) (acc : List InsD) (i k' : Nat) (pre : List Int) (wr : World) : Prop where
  le : i ≤ n
  len : pre.length = i
  le' : k' ≤ ts.length
  ge : k + 1 ≤ k'
  atJ : AtJ pb k' W wr
  run : mapR pre (opsP (n - i) (ts.drop k')) = opsP n (ts.drop (k + 1))
  row : wr.heap[xb]? = some (rowI zn pre)
  ptr : wr.heap[qb]? = some (rowQ xb)
  itr : wr.heap[ib]? = some (.stringIter S i)
  own : wr.ownsRow W.heap.size 70 4 v acc.length (acc.flatMap insCells)
def insRow : Obj := Obj.cells (insTexts.map fun l => Value.string ⟨l.toArray⟩).toArray 9 (0, 0)
theorem insFields (w : World) (hE : EnvP w) : Calls Tryz.prog 73 #[.string ⟨#[119, 111, 114, 107, 58, 119, 32, 115, 101, 116, 58, 114, 118, 32, 97, 100, 100, 58, 114, 114, 32, 115, 117, 98, 58, 114, 114, 32, 108, 111, 97, 100, 58, 114, 97, 114, 32, 115, 116, 111, 114, 101, 58, 114, 97, 114, 32, 115, 101, 110, 100, 58, 111, 114, 108, 32, 114, 101, 99, 118, 58, 105, 114, 114, 32, 119, 97, 105, 116, 58, 115, 32, 115, 105, 103, 110, 97, 108, 58, 115, 32, 114, 97, 105, 115, 101, 58, 101, 32, 108, 111, 119, 101, 114, 58, 101, 32, 117, 110, 116, 105, 108, 58, 101, 32, 112, 117, 116, 58, 98, 114, 32, 103, 101, 116, 58, 98, 114, 32, 115, 104, 111, 119, 58, 100, 114, 32, 108, 111, 111, 107, 58, 100, 114, 32, 99, 108, 101, 97, 114, 58, 100, 32, 110, 101, 120, 116, 58, 32, 106, 117, 109, 112, 58, 106, 32, 122, 101, 114, 111, 58, 114, 106, 32, 108, 101, 115, 115, 58, 114, 114, 106, 32, 100, 105, 118, 58, 114, 114, 32, 102, 97, 117, 108, 116, 58, 99, 32, 115, 116, 111, 112, 58]⟩] w fun e w' => e = .returned (.slice (some ⟨w.heap.size, 0, none⟩) 25 25) ∧ w' = w.alloc insRow := by
  have ha' : ∀ (j : Nat) b, (⟨#[119, 111, 114, 107, 58, 119, 32, 115, 101, 116, 58, 114, 118, 32, 97, 100, 100, 58, 114, 114, 32, 115, 117, 98, 58, 114, 114, 32, 108, 111, 97, 100, 58, 114, 97, 114, 32, 115, 116, 111, 114, 101, 58, 114, 97, 114, 32, 115, 101, 110, 100, 58, 111, 114, 108, 32, 114, 101, 99, 118, 58, 105, 114, 114, 32, 119, 97, 105, 116, 58, 115, 32, 115, 105, 103, 110, 97, 108, 58, 115, 32, 114, 97, 105, 115, 101, 58, 101, 32, 108, 111, 119, 101, 114, 58, 101, 32, 117, 110, 116, 105, 108, 58, 101, 32, 112, 117, 116, 58, 98, 114, 32, 103, 101, 116, 58, 98, 114, 32, 115, 104, 111, 119, 58, 100, 114, 32, 108, 111, 111, 107, 58, 100, 114, 32, 99, 108, 101, 97, 114, 58, 100, 32, 110, 101, 120, 116, 58, 32, 106, 117, 109, 112, 58, 106, 32, 122, 101, 114, 111, 58, 114, 106, 32, 108, 101, 115, 115, 58, 114, 114, 106, 32, 100, 105, 118, 58, 114, 114, 32, 102, 97, 117, 108, 116, 58, 99, 32, 115, 116, 111, 112, 58]⟩ : ByteArray).data.toList[j]? = some b → b.toNat < 128 := fun j b hb => by
    have := List.all_eq_true.1 insVoc.ascii b (List.mem_of_getElem? hb)
    simpa using this
  have HF := Tryz.strings_Fields _ w insVoc.small ha' hE.sp
  rw [insVoc.words] at HF
  exact HF
set_option maxRecDepth 100000 in
set_option maxHeartbeats 4000000 in
theorem pcodes_any (pb j : Nat) (ts : List Tok) (W : World) (H : Hid (Cur pb ts j W)) (hts : ts.length ≤ 1000000) (hj : j ≤ ts.length) (hg : Hid (Good ts)) (hE : Hid (EnvP W)) (hpE : 3 ≤ pb) (hsz : Hid (∀ t ∈ ts, t.text.length ≤ 1000000)) :
    Calls Tryz.prog 14 #[.pointer (some ⟨pb, 0, none⟩)] W fun e W' => EndsL pb ts W 70 4 insCells (codeP (ts.drop j)) e W' := by
  have hpb := H.out.lt
  obtain ⟨i0, hi0, hz0, hz1, hz2⟩ := info_parts ins_info
  have hts' : ts.length ≤ 1099511627776 := by omega
  have HA0 := hide (AtJ.start H.out.now H.out.free)
  have HH := hide (fun j' W (H : Hid (Cur pb ts j' W)) hj' => here_any pb j' ts W H hts' hj')
  have ft0 := field_tok0
  have ft1 := field_tok1
  go_enter Tryz.func14, Tryz.ntmps14
  go_wp2_with fail
  go_loopw [2] (fun v2 wr => ∃ (acc : List InsD) (k f : Nat), k ≤ ts.length ∧ ts.length - k < f ∧ acc.length ≤ k ∧ AtJ pb k W wr ∧ codeP (ts.drop j) = codeLoop f acc (ts.drop k) ∧ wr.ownsRow W.heap.size 70 4 v2 acc.length (acc.flatMap insCells)) (fun _ wr => ts.length - atOf pb wr)
  case atStart => exact ⟨[], j, _, hj, by simp, by simp, HA0.out, rfl, World.ownsRow_nil _ _ _ _⟩
  case round =>
    obtain ⟨acc, k, f, hk, hf, hal, hA, hR, hO⟩ := hrel
    have HA := hide hA
    have HR := hide hR
    have HO := hide hO
    clear hA hR hO HA0
    obtain ⟨f, rfl⟩ : ∃ f', f = f' + 1 := ⟨f - 1, by omega⟩
    obtain ⟨wo, rfl⟩ : ∃ wo : World, wo = wr := ⟨_, rfl⟩
    have HM : Hid (atOf pb wo = k) := hide (by unfold atOf; rw [HA.out.here]; simp [intOf])
    have HC := hide (fun W (H : Hid (Cur pb ts k W)) => HH.out k W H hk)
    have hlt0 : (hdT (ts.drop k)).kind = 1 → ∃ h : k < ts.length, hdT (ts.drop k) = ts[k] := fun h => by
      rcases Nat.lt_or_ge k ts.length with h' | h'
      · exact ⟨h', hdT_at ts k h'⟩
      · rw [hdT_end ts k h'] at h; cases h
    have HLT := hide hlt0
    have HEND := hide (fun (h : ((hdT (ts.drop k)).kind == 1) = false) => codeLoop_end (f := f) (acc := acc) h)
    have HGO := hide (fun (x : InsD) (r : List Tok) (h : ((hdT (ts.drop k)).kind == 1) = true) (hx : insP (ts.drop k) = .ok x r) => codeLoop_go (f := f) (acc := acc) h hx)
    have HBD := hide (fun (n : Nat) (r : List Tok) (h : ((hdT (ts.drop k)).kind == 1) = true) (hx : insP (ts.drop k) = .bad n r) => codeLoop_bad (f := f) (acc := acc) h hx)
    have HOF : Hid (ofP insWords (ts.drop k) = if findN insWords (hdT (ts.drop k)).text != 0 && (hdT (ts.drop k)).kind == 1 then .ok (findN insWords (hdT (ts.drop k)).text) (ts.drop k).tail else .bad 80 (ts.drop k)) := hide rfl
    clear hlt0
    generalize ht : hdT (ts.drop k) = t at HC HLT HEND HGO HBD HOF
    have HT0 := hide ht
    clear ht
    obtain ⟨κ, tx, ta⟩ := t
    unfold tokVal at HC
    dsimp only at HC HLT HEND HGO HBD HOF
    by_cases hκ : κ = 1
    rotate_left
    · have HX := hide (EndsL.mk_ok (v := u2) (HR.out.trans (HEND.out (by simpa using hκ))) hk HA.out rfl HO.out)
      have hκ' : ((κ : Int) == 1) = false := by simp; omega
      clear hκ
      generalize (κ : Int) = z at *
      go_wp2_with fail
      refine (HC.out _ (hide (H.out.to HA.out))).mono ?_
      rintro e w1 ⟨rfl, hb⟩
      have HX2 : Hid (EndsL pb ts W 70 4 insCells (codeP (ts.drop j)) (.returned u2) w1) := by
        obtain ⟨j', hj', hA', hm⟩ := HX.out
        exact hide ⟨j', hj', hA'.belowW hpb (hb.mono HA.out.kept.size), by
          revert hm
          cases codeP (ts.drop j) with
          | ok l r => rintro ⟨h1, v, h2, h3⟩; exact ⟨h1, v, h2, own_keep h3 (fun g hg hb' => hb.block g (own_lt h3 hg).2)⟩
          | bad n r => rintro ⟨h1, h2⟩; cases h2⟩
      clear hb HX
      go_wp2_with fail
      go_ret
      exact HX2.out
    · subst hκ
      obtain ⟨hlt, htk⟩ := HLT.out rfl
      have htx : tx.length ≤ 1000000 := by
        have := hsz.out _ (List.getElem_mem hlt)
        rw [← htk] at this; exact this
      clear htk
      go_wp2_with fail
      refine (HC.out _ (hide (H.out.to HA.out))).mono ?_
      rintro e w1 ⟨rfl, hb⟩
      have HA1 := hide (HA.out.belowW hpb (hb.mono HA.out.kept.size))
      have HO1 := hide (own_keep HO.out (fun g hg _ => hb.block g (own_lt HO.out hg).2))
      have hz1 := hb.size
      clear hb
      go_wp2_with fail
      refine (HC.out _ (hide (H.out.to HA1.out))).mono ?_
      rintro e w2 ⟨rfl, hb⟩
      have HA2 := hide (HA1.out.belowW hpb (hb.mono HA1.out.kept.size))
      have HO2 := hide (own_keep HO1.out (fun g hg _ => hb.block g (own_lt HO1.out hg).2))
      have hz2 := hb.size
      clear hb HO1 HA1
      have HBw := hide ((Below.refl w2.heap.size w2).alloc (Nat.le_refl _) (Obj.cells #[Value.string ⟨tx.toArray⟩] 9))
      have HBf := hide (HBw.out.alloc HBw.out.size insRow)
      have HIF := hide (indexFunc_any (w2.heap.size + 1) w2.heap.size 25 25 insTexts ⟨tx.toArray⟩ ((w2.alloc (Obj.cells #[Value.string ⟨tx.toArray⟩] 9)).alloc insRow) (hide (by decide)) (by decide) (by simp [go_sem]) (by simp [ByteArray.size]; omega) (hide (by
        intro i s hs
        have hn := heap_alloc_new (w2.alloc (Obj.cells #[Value.string ⟨tx.toArray⟩] 9)) insRow
        have e := cell_of_row _ _ i _ _ _ hn
        simp only [World.size_alloc] at e
        rw [e]
        simp [hs])))
      rw [show idxB insTexts (⟨tx.toArray⟩ : ByteArray).data.toList = (findN insWords tx : Int) - 1 from by simpa using pidx_ins tx] at HIF
      go_wp2_with fail
      refine (insFields _ ((hE.out.to hpE HA2.out).below HBw.out)).mono ?_
      rintro e w3 ⟨rfl, rfl⟩
      go_wp2_with fail
      refine (HIF.out).mono ?_
      rintro e w3 ⟨rfl, rfl⟩
      have HA3 := hide (HA2.out.below hpb HBf.out)
      have HO3 := hide (own_keep HO2.out (fun g hg _ => HBf.out.block g (own_lt HO2.out hg).2))
      have hz3 : w2.heap.size + 2 ≤ ((w2.alloc (Obj.cells #[Value.string ⟨tx.toArray⟩] 9)).alloc insRow).heap.size := by simp
      have hle := findN_le insWords tx
      have hle' : insWords.length = 25 := by decide
      clear HA2 HO2 HIF HBf HBw
      generalize (w2.alloc (Obj.cells #[Value.string ⟨tx.toArray⟩] 9)).alloc insRow = w3 at *
      generalize findN insWords tx = N at *
      have hN : N ≤ 25 := by omega
      clear hle hle'
      by_cases hN0 : N = 0
      · subst hN0
        have hbad := HR.out.trans (HBD.out 80 _ rfl (bnd_bad (HOF.out.trans rfl)))
        have HX := hide (EndsL.mk_bad (T := 70) (size := 4) (cells := insCells) hbad hk HA3.out)
        clear hbad
        go_wp2_with (go_at_call 70; refine (check_no _ _ _).mono ?_; rintro e w'' ⟨rfl, rfl⟩)
        exact ⟨rfl, HX.out⟩
      · have hop : ofP insWords (ts.drop k) = .ok N (ts.drop (k + 1)) := by
          rw [HOF.out, if_pos (by simp; exact hN0)]; simp
        have k0 : decide ((0 : Int) ≤ (N : Int) - 1) = true := by simp; omega
        have k0' : decide ((1 : Int) ≤ (N : Int)) = true := by simp; omega
        have k1 : (k : Int) + 1 < 9223372036854775808 := by omega
        have k2 : -9223372036854775808 ≤ (k : Int) + 1 := by omega
        have k3 : (N : Int) - 1 + 1 = (N : Int) := by omega
        have k4 : (N : Int) % 256 = (N : Int) := by omega
        have k5 : (0 : Int) ≤ (N : Int) := by omega
        have k6 : (N : Int) ≤ 25 := by omega
        have e1 := HA3.out.here
        have e2 := HA3.out.free
        have hw3 : pb < w3.heap.size := Nat.lt_of_lt_of_le hpb HA3.out.kept.size
        have HOP := hide (fun W (hE : Hid (EnvP W)) => operands_any N W hE (by omega))
        have HZN := hide (show ((N : Nat) : Int).toNat = N by omega)
        generalize hzn : ((N : Nat) : Int) = zn at *
        generalize hzk : ((k : Nat) : Int) = zk at *
        have HZK := hide hzk
        have HZN2 := hide hzn
        clear hzk hzn
        go_wp2_with fail
        ((with_reducible refine (check_yes _ _ _).mono ?_); rintro e w'' ⟨rfl, rfl⟩)
        have HJ4 : Hid (AtJ pb (k + 1) W (w''.setCell ⟨pb, 1, none⟩ (Value.int .i64 (zk + 1)))) := hide (by
          have := HA3.out.goto hpb (k + 1)
          rwa [show ((k + 1 : Nat) : Int) = zk + 1 from by have := HZK.out; omega] at this)
        have HA4 := hide ((HJ4.out.below hpb ((Below.refl _ _).alloc (Nat.le_refl _) (Obj.cells #[Value.int .u8 zn, Value.int .i64 0, Value.int .i64 0, Value.int .i64 0] 70))).below hpb ((Below.refl _ _).alloc (Nat.le_refl _) (rowQ w''.heap.size)))
        have HX0 : Hid ((((w''.setCell ⟨pb, 1, none⟩ (Value.int .i64 (zk + 1))).alloc (Obj.cells #[Value.int .u8 zn, Value.int .i64 0, Value.int .i64 0, Value.int .i64 0] 70)).alloc (rowQ w''.heap.size)).heap[w''.heap.size]? = some (rowI zn [])) := hide (by
          rw [Below.heap_alloc _ _ _ (by simp [World.setCell])]
          have := heap_alloc_new (w''.setCell ⟨pb, 1, none⟩ (Value.int .i64 (zk + 1))) (Obj.cells #[Value.int .u8 zn, Value.int .i64 0, Value.int .i64 0, Value.int .i64 0] 70 (0, 0))
          simpa [World.setCell, rowI] using this)
        have HQ0 : Hid ((((w''.setCell ⟨pb, 1, none⟩ (Value.int .i64 (zk + 1))).alloc (Obj.cells #[Value.int .u8 zn, Value.int .i64 0, Value.int .i64 0, Value.int .i64 0] 70)).alloc (rowQ w''.heap.size)).heap[w''.heap.size + 1]? = some (rowQ w''.heap.size)) := hide (by
          have := heap_alloc_new ((w''.setCell ⟨pb, 1, none⟩ (Value.int .i64 (zk + 1))).alloc (Obj.cells #[Value.int .u8 zn, Value.int .i64 0, Value.int .i64 0, Value.int .i64 0] 70 (0, 0))) (rowQ w''.heap.size)
          simpa [World.setCell] using this)
        have hOg : ∀ g, u2.ownBlock = some g → g < w''.heap.size ∧ W.heap.size ≤ g := fun g hg => ⟨(own_lt HO3.out hg).2, (own_lt HO3.out hg).1⟩
        have HO4 := hide (own_keep (w' := ((w''.setCell ⟨pb, 1, none⟩ (Value.int .i64 (zk + 1))).alloc (Obj.cells #[Value.int .u8 zn, Value.int .i64 0, Value.int .i64 0, Value.int .i64 0] 70)).alloc (rowQ w''.heap.size)) HO3.out (fun g hg hb => by
          have h1 := (hOg g hg).1
          rw [Below.heap_alloc _ _ _ (by simp [World.setCell]; omega), Below.heap_alloc _ _ _ (by simp [World.setCell]; omega), Below.heap_setCell _ _ _ _ (by show g ≠ pb; omega)]))
        have hgx : W.heap.size ≤ w''.heap.size := HA3.out.kept.size
        have hz4 : (((w''.setCell ⟨pb, 1, none⟩ (Value.int .i64 (zk + 1))).alloc (Obj.cells #[Value.int .u8 zn, Value.int .i64 0, Value.int .i64 0, Value.int .i64 0] 70)).alloc (rowQ w''.heap.size)).heap.size = w''.heap.size + 2 := by simp [World.setCell]
        have HOg := hide hOg
        clear hOg HJ4
        go_wp2_with fail
        unfold rowQ at HA4 HX0 HQ0 HO4 hz4
        generalize w''.heap.size = xb at *
        generalize (((w''.setCell ⟨pb, 1, none⟩ (Value.int .i64 (zk + 1))).alloc (Obj.cells #[Value.int .u8 zn, Value.int .i64 0, Value.int .i64 0, Value.int .i64 0] 70)).alloc (Obj.cells #[Value.pointer (some ⟨xb, 1, none⟩), Value.pointer (some ⟨xb, 2, none⟩), Value.pointer (some ⟨xb, 3, none⟩)] 168)) = w5 at *
        clear e1 e2 HA3 HO3
        refine (HOP.out w5 (hide (hE.out.to hpE HA4.out))).mono ?_
        rintro e w6 ⟨rfl, hb⟩
        obtain ⟨hS3, hSa⟩ := ops_small N hN
        have HA6 := hide (HA4.out.below hpb hb)
        have HX6 := hide ((hb.block xb (by omega)).trans HX0.out)
        have HQ6 := hide ((hb.block (xb + 1) (by omega)).trans HQ0.out)
        have HO6 := hide (own_keep HO4.out (fun g hg _ => hb.block g (own_lt HO4.out hg).2))
        have hz6 : xb + 2 ≤ w6.heap.size := by have := hb.size; omega
        clear hb HA4 HX0 HQ0 HO4 hz4
        have HSA := hide hSa
        clear hSa
        have HOP1 := hide hop
        clear hop
        have HSZ := hide (show (⟨(wordN insOps N).toArray⟩ : ByteArray).size = (wordN insOps N).length by simp [ByteArray.size])
        have HST : Hid (OpR pb ts W k (wordN insOps N).length xb (xb + 1) w6.heap.size zn ⟨(wordN insOps N).toArray⟩ u2 acc 0 (k + 1) [] (w6.iter ⟨(wordN insOps N).toArray⟩ 0)) := hide
          ⟨by omega, rfl, by omega, Nat.le_refl _, HA6.out.below hpb ((Below.refl _ _).alloc (Nat.le_refl _) _), mapR_nil _, (Below.heap_alloc _ _ _ (by omega)).trans HX6.out, (Below.heap_alloc _ _ _ (by omega)).trans HQ6.out, World.iter_heap _ _ _, own_keep HO6.out (fun g hg _ => Below.heap_alloc _ _ _ (own_lt HO6.out hg).2)⟩
        clear HA6 HX6 HQ6 HO6
        go_wp2_with fail
        generalize w6.iter ⟨(wordN insOps N).toArray⟩ 0 = w7 at *
        generalize w6.heap.size = ib at *
        have HBY : Hid (∀ (i : Nat) (hi : i < (⟨(wordN insOps N).toArray⟩ : ByteArray).size), ((⟨(wordN insOps N).toArray⟩ : ByteArray)[i]'hi).toNat < 128) := hide (fun i hi => by
          have hi' : i < (wordN insOps N).length := by rw [← HSZ.out]; exact hi
          have := List.all_eq_true.1 HSA.out _ (List.getElem_mem hi')
          show ((wordN insOps N).toArray[i]).toNat < 128
          simpa using this)
        generalize (⟨(wordN insOps N).toArray⟩ : ByteArray) = S at *
        go_loopw [] (fun wr => ∃ (i k' : Nat) (pre : List Int), OpR pb ts W k (wordN insOps N).length xb (xb + 1) ib zn S u2 acc i k' pre wr) (fun wr => ts.length - atOf pb wr)
        case atStart => exact ⟨0, k + 1, [], HST.out⟩
        case round =>
          clear HST
          obtain ⟨i, k', pre, hR⟩ := hrel
          obtain ⟨hin, hpl, hk', hkk, hA, hrun, hrow, hptr, hitr, hown⟩ := hR
          have HAi := hide hA
          have HRUN := hide hrun
          have HXi := hide hrow
          have HQi := hide hptr
          have HOi := hide hown
          have HMi : Hid (atOf pb wr = k') := hide (by unfold atOf; rw [HAi.out.here]; simp [intOf])
          clear hA hrun hrow hptr hown
          by_cases hlt' : i < (wordN insOps N).length
          · have hiS : i < S.size := by rw [HSZ.out]; exact hlt'
            have hnx := fun ty => Lib.run_next_ascii_at (P := Tryz.prog) wr ib S i ty hitr hiS (HBY.out i hiS)
            have HIi := hide (Lib.iterAt_heap wr ib S i (i + 1) hitr)
            have HAi' := hide (HAi.out.iter (k := ib) (by omega) hpb S (i + 1))
            have HXi' := hide ((iterAt_far wr ib S (i + 1) xb (by omega)).trans HXi.out)
            have HQi' := hide ((iterAt_far wr ib S (i + 1) (xb + 1) (by omega)).trans HQi.out)
            have HOi' := hide (own_keep (w' := wr.iterAt ib S (i + 1)) HOi.out (fun g hg _ => iterAt_far wr ib S (i + 1) g (by have := (HOg.out g hg).1; omega)))
            clear HAi HXi HQi HOi hitr hin
            have HAi := HAi'
            have HXi := HXi'
            have HQi := HQi'
            have HOi := HOi'
            clear HAi' HXi' HQi' HOi'
            obtain ⟨m, hm⟩ : ∃ m, (wordN insOps N).length - i = m + 1 := ⟨(wordN insOps N).length - i - 1, by omega⟩
            rw [hm] at HRUN
            rcases pre with _ | ⟨p0, _ | ⟨p1, _ | ⟨p2, _⟩⟩⟩
            · obtain rfl : i = 0 := by simpa using hpl.symm
              obtain rfl : m = (wordN insOps N).length - 1 := by omega
              clear hpl hm
              go_wp2_with fail
              clear hnx
              generalize wr.iterAt ib S (0 + 1) = wi at *
              have hQc : wi.cell? ⟨xb + 1, 0, none⟩ = some (Value.pointer (some ⟨xb, 1, none⟩)) := (cell_of_row _ _ 0 _ _ _ HQi.out)
              have kq : (0 : Int) ≤ 0 ∧ (0 : Int) < 3 := by decide
              refine wp_region_tail (S := fun w' => w'.heap[xb + 1]? = wi.heap[xb + 1]?) 6 (by kernel_rfl) (by kernel_rfl) rfl (fun hHeld => ?_)
              have HAd := hide HAi.out.drew
              clear HAi
              have HRd : Hid (wi.drew.heap[xb]? = some (rowI zn [])) := HXi
              clear HXi
              have HId : Hid (wi.drew.heap[ib]? = some (.stringIter S 1)) := HIi
              clear HIi
              have HOd := hide (own_keep (w' := wi.drew) HOi.out (fun _ _ _ => rfl))
              clear HOi
              have HQd : Hid (wi.drew.heap[xb + 1]? = some (rowQ xb)) := HQi
              generalize wi.drew = V at *
              refine tk 0 44 rfl (by kernel_rfl) (fun _ _ _ h => h) rfl (fun _ _ => by go_simp; with_reducible rfl) hHeld ?_
              refine tk 1 45 rfl (by kernel_rfl) (fun _ _ _ h => h) rfl (fun _ _ => by go_simp; with_reducible rfl) hHeld ?_
              refine tk 2 46 rfl (by kernel_rfl) (fun _ _ _ h => h) rfl (fun _ _ => by go_simp; with_reducible rfl) hHeld ?_
              (try simp only [Act.put, putA, putB, putC])
              refine wpAnyT_take (i := 3) (oi := ⟨some 47, _, _, _, _, _⟩) (v := ?_) rfl (by kernel_rfl) (fun _ _ _ h => h) (Or.inl ⟨by rfl, ?_⟩) hHeld ?_
              rotate_left
              · intro v hS
                have e := (World.cell?_of_block (a := ⟨xb + 1, 0, none⟩) hS).trans hQc
                go_simp
                with_reducible rfl
              refine tk 4 48 rfl (by kernel_rfl) (fun _ _ _ h => h) rfl (fun _ _ => by go_simp; with_reducible rfl) hHeld ?_
              (try simp only [Act.put, putA, putB, putC])
              refine wpAnyT_ready (rs := [5]) (by kernel_rfl) (by simp) (by rfl) (AllT.cons rfl (fun K hK => ?_) AllT.nil)
              go_simp
              refine (num_any pb k' ts _ (hide (H.out.to HAd.out)) hts' hk' hg).mono ?_
              rintro e w8 hE8
              rcases hE8.split with ⟨a8, k8, hr, hk8, hA, rfl⟩ | ⟨m, k8, hr, hk8, hA, rfl⟩
              rotate_left
              · have hb := HRUN.out.symm.trans (mapR_bad hr)
                have hbad := HR.out.trans (HBD.out m _ rfl ((bnd_ok HOP1.out).trans (bnd_bad hb)))
                have HX := hide (EndsL.mk_bad (T := 70) (size := 4) (cells := insCells) hbad hk8 (HAd.out.trans hA))
                clear hA hr hE8 hb hbad
                go_wp2_with fail
                exact ⟨rfl, HX.out⟩
              have hQ8 := (hA.kept.block (xb + 1) (by have := (Array.getElem?_eq_some_iff.1 HQd.out).1; omega) (by omega))
              have HX8 := hide ((hA.kept.block xb (by have := (Array.getElem?_eq_some_iff.1 HRd.out).1; omega) (by omega)).trans HRd.out)
              have HI8 := hide ((hA.kept.block ib (by have := (Array.getElem?_eq_some_iff.1 HId.out).1; omega) (by omega)).trans HId.out)
              have HO8 := hide (own_keep HOd.out (fun g hg hb => hA.kept.block g (own_lt HOd.out hg).2 (by omega)))
              have HQ8 := hide (hQ8.trans HQd.out)
              have HA8 := hide (HAd.out.trans hA)
              have HRUN8 := hide ((mapR_step hr).symm.trans HRUN.out)
              have hk48 : k' + 1 ≤ k8 := LTj hr num_lt hk8
              clear hA hr hE8 HAd HRd HId HOd HRUN HQd
              go_wp2_with fail
              refine hK.out _ _ (hQ8.trans hHeld) (fun _ => ?_)
              clear hK K hHeld hQ8
              (try simp only [Act.put, putA, putB, putC])
              refine wpAnyT_done (by kernel_rfl) ?_
              simp only [List.drop_succ_cons, List.drop_zero]
              have c8 : w8.cell? ⟨xb, 1, none⟩ = some (Value.int .i64 0) := cell_of_row _ _ 1 _ _ _ HX8.out
              have f8 : w8.frozen? ⟨xb, 1, none⟩ = false := frozen_of_row _ _ 1 _ _ HX8.out
              have hl8 := (Array.getElem?_eq_some_iff.1 HX8.out).1
              have HX9 : Hid ((w8.setCell ⟨xb, 1, none⟩ (Value.int .i64 a8)).heap[xb]? = some (rowI zn [a8])) := hide (heap_setCell_same w8 xb 1 _ _ _ HX8.out)
              have HA9 := hide (AtJ.fresh HA8.out hpb (p := ⟨xb, 1, none⟩) (by show xb ≠ pb; omega) hgx (Value.int .i64 a8))
              have HI9 := hide ((Below.heap_setCell w8 ⟨xb, 1, none⟩ (Value.int .i64 a8) ib (by show ib ≠ xb; omega)).trans HI8.out)
              have HQ9 := hide ((Below.heap_setCell w8 ⟨xb, 1, none⟩ (Value.int .i64 a8) (xb + 1) (by show xb + 1 ≠ xb; omega)).trans HQ8.out)
              have HO9 := hide (own_keep HO8.out (w' := w8.setCell ⟨xb, 1, none⟩ (Value.int .i64 a8)) (fun g hg _ => Below.heap_setCell _ _ _ _ (by have := (HOg.out g hg).1; show g ≠ xb; omega)))
              have HM8 : Hid (atOf pb (w8.setCell ⟨xb, 1, none⟩ (Value.int .i64 a8)) = k8) := hide (by unfold atOf; rw [HA9.out.here]; simp [intOf])
              clear HX8 HI8 HO8 HQ8 HA8
              go_wp2_with fail
              clear c8 f8 hl8
              go_roundw
              case rel => exact ⟨1, k8, [a8], ⟨by omega, rfl, hk8, by omega, HA9.out, by simpa using HRUN8.out, HX9.out, HQ9.out, HI9.out, HO9.out⟩⟩
              case measure => have := HM8.out; have := HMi.out; omega
            · obtain rfl : i = 1 := by simpa using hpl.symm
              obtain rfl : m = (wordN insOps N).length - 2 := by omega
              clear hpl hm
              go_wp2_with fail
              clear hnx
              generalize wr.iterAt ib S (1 + 1) = wi at *
              have hQc : wi.cell? ⟨xb + 1, 1, none⟩ = some (Value.pointer (some ⟨xb, 2, none⟩)) := (cell_of_row _ _ 1 _ _ _ HQi.out)
              have kq : (0 : Int) ≤ 1 ∧ (1 : Int) < 3 := by decide
              refine wp_region_tail (S := fun w' => w'.heap[xb + 1]? = wi.heap[xb + 1]?) 6 (by kernel_rfl) (by kernel_rfl) rfl (fun hHeld => ?_)
              have HAd := hide HAi.out.drew
              clear HAi
              have HRd : Hid (wi.drew.heap[xb]? = some (rowI zn [p0])) := HXi
              clear HXi
              have HId : Hid (wi.drew.heap[ib]? = some (.stringIter S 2)) := HIi
              clear HIi
              have HOd := hide (own_keep (w' := wi.drew) HOi.out (fun _ _ _ => rfl))
              clear HOi
              have HQd : Hid (wi.drew.heap[xb + 1]? = some (rowQ xb)) := HQi
              generalize wi.drew = V at *
              refine tk 0 44 rfl (by kernel_rfl) (fun _ _ _ h => h) rfl (fun _ _ => by go_simp; with_reducible rfl) hHeld ?_
              refine tk 1 45 rfl (by kernel_rfl) (fun _ _ _ h => h) rfl (fun _ _ => by go_simp; with_reducible rfl) hHeld ?_
              refine tk 2 46 rfl (by kernel_rfl) (fun _ _ _ h => h) rfl (fun _ _ => by go_simp; with_reducible rfl) hHeld ?_
              (try simp only [Act.put, putA, putB, putC])
              refine wpAnyT_take (i := 3) (oi := ⟨some 47, _, _, _, _, _⟩) (v := ?_) rfl (by kernel_rfl) (fun _ _ _ h => h) (Or.inl ⟨by rfl, ?_⟩) hHeld ?_
              rotate_left
              · intro v hS
                have e := (World.cell?_of_block (a := ⟨xb + 1, 1, none⟩) hS).trans hQc
                go_simp
                with_reducible rfl
              refine tk 4 48 rfl (by kernel_rfl) (fun _ _ _ h => h) rfl (fun _ _ => by go_simp; with_reducible rfl) hHeld ?_
              (try simp only [Act.put, putA, putB, putC])
              refine wpAnyT_ready (rs := [5]) (by kernel_rfl) (by simp) (by rfl) (AllT.cons rfl (fun K hK => ?_) AllT.nil)
              go_simp
              refine (num_any pb k' ts _ (hide (H.out.to HAd.out)) hts' hk' hg).mono ?_
              rintro e w8 hE8
              rcases hE8.split with ⟨a8, k8, hr, hk8, hA, rfl⟩ | ⟨m, k8, hr, hk8, hA, rfl⟩
              rotate_left
              · have hb := HRUN.out.symm.trans (mapR_bad hr)
                have hbad := HR.out.trans (HBD.out m _ rfl ((bnd_ok HOP1.out).trans (bnd_bad hb)))
                have HX := hide (EndsL.mk_bad (T := 70) (size := 4) (cells := insCells) hbad hk8 (HAd.out.trans hA))
                clear hA hr hE8 hb hbad
                go_wp2_with fail
                exact ⟨rfl, HX.out⟩
              have hQ8 := (hA.kept.block (xb + 1) (by have := (Array.getElem?_eq_some_iff.1 HQd.out).1; omega) (by omega))
              have HX8 := hide ((hA.kept.block xb (by have := (Array.getElem?_eq_some_iff.1 HRd.out).1; omega) (by omega)).trans HRd.out)
              have HI8 := hide ((hA.kept.block ib (by have := (Array.getElem?_eq_some_iff.1 HId.out).1; omega) (by omega)).trans HId.out)
              have HO8 := hide (own_keep HOd.out (fun g hg hb => hA.kept.block g (own_lt HOd.out hg).2 (by omega)))
              have HQ8 := hide (hQ8.trans HQd.out)
              have HA8 := hide (HAd.out.trans hA)
              have HRUN8 := hide ((mapR_step hr).symm.trans HRUN.out)
              have hk48 : k' + 1 ≤ k8 := LTj hr num_lt hk8
              clear hA hr hE8 HAd HRd HId HOd HRUN HQd
              go_wp2_with fail
              refine hK.out _ _ (hQ8.trans hHeld) (fun _ => ?_)
              clear hK K hHeld hQ8
              (try simp only [Act.put, putA, putB, putC])
              refine wpAnyT_done (by kernel_rfl) ?_
              simp only [List.drop_succ_cons, List.drop_zero]
              have c8 : w8.cell? ⟨xb, 2, none⟩ = some (Value.int .i64 0) := cell_of_row _ _ 2 _ _ _ HX8.out
              have f8 : w8.frozen? ⟨xb, 2, none⟩ = false := frozen_of_row _ _ 2 _ _ HX8.out
              have hl8 := (Array.getElem?_eq_some_iff.1 HX8.out).1
              have HX9 : Hid ((w8.setCell ⟨xb, 2, none⟩ (Value.int .i64 a8)).heap[xb]? = some (rowI zn [p0, a8])) := hide (heap_setCell_same w8 xb 2 _ _ _ HX8.out)
              have HA9 := hide (AtJ.fresh HA8.out hpb (p := ⟨xb, 2, none⟩) (by show xb ≠ pb; omega) hgx (Value.int .i64 a8))
              have HI9 := hide ((Below.heap_setCell w8 ⟨xb, 2, none⟩ (Value.int .i64 a8) ib (by show ib ≠ xb; omega)).trans HI8.out)
              have HQ9 := hide ((Below.heap_setCell w8 ⟨xb, 2, none⟩ (Value.int .i64 a8) (xb + 1) (by show xb + 1 ≠ xb; omega)).trans HQ8.out)
              have HO9 := hide (own_keep HO8.out (w' := w8.setCell ⟨xb, 2, none⟩ (Value.int .i64 a8)) (fun g hg _ => Below.heap_setCell _ _ _ _ (by have := (HOg.out g hg).1; show g ≠ xb; omega)))
              have HM8 : Hid (atOf pb (w8.setCell ⟨xb, 2, none⟩ (Value.int .i64 a8)) = k8) := hide (by unfold atOf; rw [HA9.out.here]; simp [intOf])
              clear HX8 HI8 HO8 HQ8 HA8
              go_wp2_with fail
              clear c8 f8 hl8
              go_roundw
              case rel => exact ⟨2, k8, [p0, a8], ⟨by omega, rfl, hk8, by omega, HA9.out, by simpa using HRUN8.out, HX9.out, HQ9.out, HI9.out, HO9.out⟩⟩
              case measure => have := HM8.out; have := HMi.out; omega
            · obtain rfl : i = 2 := by simpa using hpl.symm
              obtain rfl : m = (wordN insOps N).length - 3 := by omega
              clear hpl hm
              go_wp2_with fail
              clear hnx
              generalize wr.iterAt ib S (2 + 1) = wi at *
              have hQc : wi.cell? ⟨xb + 1, 2, none⟩ = some (Value.pointer (some ⟨xb, 3, none⟩)) := (cell_of_row _ _ 2 _ _ _ HQi.out)
              have kq : (0 : Int) ≤ 2 ∧ (2 : Int) < 3 := by decide
              refine wp_region_tail (S := fun w' => w'.heap[xb + 1]? = wi.heap[xb + 1]?) 6 (by kernel_rfl) (by kernel_rfl) rfl (fun hHeld => ?_)
              have HAd := hide HAi.out.drew
              clear HAi
              have HRd : Hid (wi.drew.heap[xb]? = some (rowI zn [p0, p1])) := HXi
              clear HXi
              have HId : Hid (wi.drew.heap[ib]? = some (.stringIter S 3)) := HIi
              clear HIi
              have HOd := hide (own_keep (w' := wi.drew) HOi.out (fun _ _ _ => rfl))
              clear HOi
              have HQd : Hid (wi.drew.heap[xb + 1]? = some (rowQ xb)) := HQi
              generalize wi.drew = V at *
              refine tk 0 44 rfl (by kernel_rfl) (fun _ _ _ h => h) rfl (fun _ _ => by go_simp; with_reducible rfl) hHeld ?_
              refine tk 1 45 rfl (by kernel_rfl) (fun _ _ _ h => h) rfl (fun _ _ => by go_simp; with_reducible rfl) hHeld ?_
              refine tk 2 46 rfl (by kernel_rfl) (fun _ _ _ h => h) rfl (fun _ _ => by go_simp; with_reducible rfl) hHeld ?_
              (try simp only [Act.put, putA, putB, putC])
              refine wpAnyT_take (i := 3) (oi := ⟨some 47, _, _, _, _, _⟩) (v := ?_) rfl (by kernel_rfl) (fun _ _ _ h => h) (Or.inl ⟨by rfl, ?_⟩) hHeld ?_
              rotate_left
              · intro v hS
                have e := (World.cell?_of_block (a := ⟨xb + 1, 2, none⟩) hS).trans hQc
                go_simp
                with_reducible rfl
              refine tk 4 48 rfl (by kernel_rfl) (fun _ _ _ h => h) rfl (fun _ _ => by go_simp; with_reducible rfl) hHeld ?_
              (try simp only [Act.put, putA, putB, putC])
              refine wpAnyT_ready (rs := [5]) (by kernel_rfl) (by simp) (by rfl) (AllT.cons rfl (fun K hK => ?_) AllT.nil)
              go_simp
              refine (num_any pb k' ts _ (hide (H.out.to HAd.out)) hts' hk' hg).mono ?_
              rintro e w8 hE8
              rcases hE8.split with ⟨a8, k8, hr, hk8, hA, rfl⟩ | ⟨m, k8, hr, hk8, hA, rfl⟩
              rotate_left
              · have hb := HRUN.out.symm.trans (mapR_bad hr)
                have hbad := HR.out.trans (HBD.out m _ rfl ((bnd_ok HOP1.out).trans (bnd_bad hb)))
                have HX := hide (EndsL.mk_bad (T := 70) (size := 4) (cells := insCells) hbad hk8 (HAd.out.trans hA))
                clear hA hr hE8 hb hbad
                go_wp2_with fail
                exact ⟨rfl, HX.out⟩
              have hQ8 := (hA.kept.block (xb + 1) (by have := (Array.getElem?_eq_some_iff.1 HQd.out).1; omega) (by omega))
              have HX8 := hide ((hA.kept.block xb (by have := (Array.getElem?_eq_some_iff.1 HRd.out).1; omega) (by omega)).trans HRd.out)
              have HI8 := hide ((hA.kept.block ib (by have := (Array.getElem?_eq_some_iff.1 HId.out).1; omega) (by omega)).trans HId.out)
              have HO8 := hide (own_keep HOd.out (fun g hg hb => hA.kept.block g (own_lt HOd.out hg).2 (by omega)))
              have HQ8 := hide (hQ8.trans HQd.out)
              have HA8 := hide (HAd.out.trans hA)
              have HRUN8 := hide ((mapR_step hr).symm.trans HRUN.out)
              have hk48 : k' + 1 ≤ k8 := LTj hr num_lt hk8
              clear hA hr hE8 HAd HRd HId HOd HRUN HQd
              go_wp2_with fail
              refine hK.out _ _ (hQ8.trans hHeld) (fun _ => ?_)
              clear hK K hHeld hQ8
              (try simp only [Act.put, putA, putB, putC])
              refine wpAnyT_done (by kernel_rfl) ?_
              simp only [List.drop_succ_cons, List.drop_zero]
              have c8 : w8.cell? ⟨xb, 3, none⟩ = some (Value.int .i64 0) := cell_of_row _ _ 3 _ _ _ HX8.out
              have f8 : w8.frozen? ⟨xb, 3, none⟩ = false := frozen_of_row _ _ 3 _ _ HX8.out
              have hl8 := (Array.getElem?_eq_some_iff.1 HX8.out).1
              have HX9 : Hid ((w8.setCell ⟨xb, 3, none⟩ (Value.int .i64 a8)).heap[xb]? = some (rowI zn [p0, p1, a8])) := hide (heap_setCell_same w8 xb 3 _ _ _ HX8.out)
              have HA9 := hide (AtJ.fresh HA8.out hpb (p := ⟨xb, 3, none⟩) (by show xb ≠ pb; omega) hgx (Value.int .i64 a8))
              have HI9 := hide ((Below.heap_setCell w8 ⟨xb, 3, none⟩ (Value.int .i64 a8) ib (by show ib ≠ xb; omega)).trans HI8.out)
              have HQ9 := hide ((Below.heap_setCell w8 ⟨xb, 3, none⟩ (Value.int .i64 a8) (xb + 1) (by show xb + 1 ≠ xb; omega)).trans HQ8.out)
              have HO9 := hide (own_keep HO8.out (w' := w8.setCell ⟨xb, 3, none⟩ (Value.int .i64 a8)) (fun g hg _ => Below.heap_setCell _ _ _ _ (by have := (HOg.out g hg).1; show g ≠ xb; omega)))
              have HM8 : Hid (atOf pb (w8.setCell ⟨xb, 3, none⟩ (Value.int .i64 a8)) = k8) := hide (by unfold atOf; rw [HA9.out.here]; simp [intOf])
              clear HX8 HI8 HO8 HQ8 HA8
              go_wp2_with fail
              clear c8 f8 hl8
              go_roundw
              case rel => exact ⟨3, k8, [p0, p1, a8], ⟨by omega, rfl, hk8, by omega, HA9.out, by simpa using HRUN8.out, HX9.out, HQ9.out, HI9.out, HO9.out⟩⟩
              case measure => have := HM8.out; have := HMi.out; omega
            · exfalso; simp at hpl; omega
          · obtain rfl : i = (wordN insOps N).length := by omega
            have hiS : ¬ (wordN insOps N).length < S.size := by rw [HSZ.out]; exact hlt'
            have hnx := fun ty => Lib.run_next_end_at (P := Tryz.prog) wr ib S (wordN insOps N).length ty hitr hiS
            rw [Nat.sub_self] at HRUN
            have hops : opsP (wordN insOps N).length (ts.drop (k + 1)) = .ok pre (ts.drop k') := by
              rw [← HRUN.out]
              show Res.ok (pre ++ []) (ts.drop k') = _
              rw [List.append_nil]
            have HIN : Hid (insP (ts.drop k) = (mustP [59] >>= fun _ => pure ⟨N, pre.getD 0 0, pre.getD 1 0, pre.getD 2 0⟩) (ts.drop k')) := hide ((bnd_ok HOP1.out).trans (bnd_ok hops))
            clear hitr hops HRUN hlt' hpl
            unfold rowI at HXi
            generalize pre.getD 0 0 = A0 at *
            generalize pre.getD 1 0 = A1 at *
            generalize pre.getD 2 0 = A2 at *
            have HMU := must_new pb k' wr.heap.size ts ⟨#[59]⟩ wr (hide (H.out.to HAi.out)) hts' hk' (by decide) rfl
            go_wp2_with fail
            clear hnx
            refine HMU.mono ?_
            rintro e w8 hE8
            rcases hE8.split with ⟨a8, k8, hr, hk8, hA, rfl⟩ | ⟨m, k8, hr, hk8, hA, rfl⟩
            rotate_left
            · have hbad := HR.out.trans (HBD.out m _ rfl (HIN.out.trans (bnd_bad hr)))
              have HX := hide (EndsL.mk_bad (T := 70) (size := 4) (cells := insCells) hbad hk8 (HAi.out.trans hA))
              clear hA hr hE8 hbad HMU
              go_wp2_with fail
              exact ⟨rfl, HX.out⟩
            have HX8 := hide ((hA.kept.block xb (by have := (Array.getElem?_eq_some_iff.1 HXi.out).1; omega) (by omega)).trans HXi.out)
            have HO8 := hide (own_keep HOi.out (fun g hg hb => hA.kept.block g (own_lt HOi.out hg).2 (by omega)))
            have HA8 := hide (HAi.out.trans hA)
            have HI8 := hide (HIN.out.trans ((bnd_ok hr).trans rfl))
            have HG8 := hide (HR.out.trans (HGO.out _ _ rfl HI8.out))
            have hk8' : k' + 1 ≤ k8 := LTj hr (must_lt _) hk8
            clear hA hr hE8 HMU HXi HOi HAi HIN HR
            obtain ⟨c0, c1, c2, c3, -⟩ := row4 HX8.out rfl
            go_wp2_with (first
              | (at_builtin; refine wpList_append_own _ rfl _ _ 22 rfl W.heap.size 70 i0 (.agg #[.int .u8 0, .int .i64 0, .int .i64 0, .int .i64 0]) 4 32 Tryz.underlying22 hi0 hz0 (by assumption) (by assumption) rfl (by decide) _ _ _ rfl (HO8.out.alloc _) ⟨w8.heap.size, 0, none⟩ 1 1 [.int .u8 zn, .int .i64 A0, .int .i64 A1, .int .i64 A2] rfl rfl (news_of (by simp)) (by simp [Value.oneCell']) (by unfold maxLen; omega) (by omega) (by simp; exact Nat.le_succ_of_le HA8.out.kept.size) ?_; intro v' w9 hown' hgrow _))
            have hG0 : Below W.heap.size w8 w9 := Below.grown ((Below.refl _ w8).alloc HA8.out.kept.size _) hgrow (by simp; exact Nat.le_succ_of_le HA8.out.kept.size) (fun g hg => (own_lt HO8.out hg).1)
            have HA9 := hide (HA8.out.belowW hpb hG0)
            have HO9 := hide hown'
            have HM9 : Hid (atOf pb w9 = k8) := hide (by unfold atOf; rw [HA9.out.here]; simp [intOf])
            clear hG0 hown' hgrow c0 c1 c2 c3 HX8 HO8 HA8
            try go_wp2_with fail
            go_roundw
            case rel => exact ⟨acc ++ [⟨N, A0, A1, A2⟩], k8, f, hk8, by omega, by simp; omega, HA9.out, HG8.out, by
              have := HO9.out
              rw [← HZN2.out] at this
              simpa [insCells] using this⟩
            case measure => have := HM.out; have := HM9.out; omega
end Go.Proofs.YtndpnpohdoggjaaGreatDoor
namespace Go.Proofs.YtndpnpohdoggjaaGreatDoor
open Go.RowKit
attribute [local go_sem] Later.cell
/-- What the variable of Code holds. -/
def CodeAt (cb B : Nat) (oc : Option (List InsD)) (w : World) : Prop := match oc with
  | none => ∃ A n c, w.heap[cb]? = some (.cells #[.slice A n c] 22 (0, 0))
  | some l => ∃ A c, w.heap[cb]? = some (.cells #[.slice A l.length c] 22 (0, 0)) ∧ w.ownsRow B 70 4 (.slice A l.length c) l.length (l.flatMap insCells)
theorem CodeAt.keep {cb B : Nat} {oc : Option (List InsD)} {w w' : World} (h : CodeAt cb B oc w) (hk : Kept (fun b => b ≠ cb ∧ b < B) w w') : CodeAt cb B oc w' := by
  cases oc with
  | none =>
    obtain ⟨A, n, c, h⟩ := h
    exact ⟨A, n, c, (hk.block cb (Array.getElem?_eq_some_iff.1 h).1 (fun e => e.1 rfl)).trans h⟩
  | some l =>
    obtain ⟨A, c, h, ho⟩ := h
    exact ⟨A, c, (hk.block cb (Array.getElem?_eq_some_iff.1 h).1 (fun e => e.1 rfl)).trans h, own_keep ho (fun g hg hb => hk.block g (own_lt ho hg).2 (fun e => by omega))⟩
theorem code1_enter (args : Array Value) (w : World) : (callFunc 13 args).run Tryz.prog w = .ok (.enter 13 args) w := by
  simp [go_sem]
/-- How the function that Code hands to run ends. -/
def Cod1 (pb B cb : Nat) (ts : List Tok) (W : World) (e : Ending) (W' : World) : Prop :=
  ∃ j, j ≤ ts.length ∧ Kept (fun b => b = pb ∨ b = cb ∨ B ≤ b) W W' ∧ Cur pb ts j W' ∧ match codeP ts with
      | .ok a r => r = ts.drop j ∧ e = .returned (.tuple #[]) ∧ CodeAt cb B (some a) W'
      | .bad n r => r = ts.drop j ∧ e = .panicked [{ v := faultV n, recovered := false }] ∧ CodeAt cb B none W'
set_option maxRecDepth 100000 in
set_option maxHeartbeats 4000000 in
theorem code1_any (pb B cb : Nat) (ts : List Tok) (W : World) (H : Hid (PSt pb ts 0 CfgD.none B W)) (hT : Hid (TokOk ts)) (hts : ts.length ≤ 1000000) (hE : Hid (EnvP W)) (hpE : 3 ≤ pb) (hcp : cb < pb) (hR : CodeAt cb B none W) :
    Calls Tryz.prog 13 #[.pointer (some ⟨pb, 0, none⟩), .pointer (some ⟨cb, 0, none⟩)] W (Cod1 pb B cb ts W) := by
  obtain ⟨A0, n0, c0, hcb⟩ := hR
  have HCB := hide hcb
  clear hcb
  have hlow := H.out.low
  have hbig := H.out.big
  have HC := hide (pcodes_any pb 0 ts W (hide H.out.cur) hts (Nat.zero_le _) (hide hT.out.good) hE hpE (hide hT.out.size))
  go_enter Tryz.func13, Tryz.ntmps13
  go_wp2_with fail
  refine (HC.out).mono ?_
  rintro e w1 hE1
  have hlc := (Array.getElem?_eq_some_iff.1 HCB.out).1
  rcases hE1.split with ⟨l, j, v, hr, hj, hA, hO, rfl⟩ | ⟨n, jn, hr, hjn, hA, rfl⟩
  rotate_left
  · have hX : Cod1 pb B cb ts W (.panicked [{ v := .iface 159 (.agg #[.int .i64 (n : Int)]), recovered := false }]) w1 := by
      refine ⟨jn, hjn, hA.kept.mono (fun i hi => .inl hi), H.out.cur.to hA, ?_⟩
      rw [show codeP ts = .bad n (ts.drop jn) from hr]
      exact ⟨rfl, rfl, A0, n0, c0, (hA.kept.block cb hlc (by omega)).trans HCB.out⟩
    have HX := hide hX
    clear hX hE1 hr hA
    go_wp2_with fail
    exact ⟨rfl, HX.out⟩
  obtain ⟨A1, q1, rfl⟩ := own_form hO
  have hcb1 := (hA.kept.block cb hlc (by omega)).trans HCB.out
  have d0 : w1.cell? ⟨cb, 0, none⟩ = some (.slice A0 n0 c0) := cell_of_row _ _ 0 _ _ _ hcb1
  have g0 : w1.frozen? ⟨cb, 0, none⟩ = false := frozen_of_row _ _ 0 _ _ hcb1
  have hl1 := (Array.getElem?_eq_some_iff.1 hcb1).1
  have hKc := (Kept.refl (fun k => k = cb) w1).setCell (p := ⟨cb, 0, none⟩) (.inl rfl) (Value.slice A1 l.length q1)
  have hno : ∀ o n, w1.cell? ⟨cb, o, none⟩ ≠ some (.int .u8 n) := fun o n e => by
    have h1 := cell_of_row w1 cb o _ _ _ hcb1
    rw [e] at h1
    have h2 := Array.mem_of_getElem? h1.symm
    simp at h2
  have hX : Cod1 pb B cb ts W (.returned (.tuple #[])) (w1.setCell ⟨cb, 0, none⟩ (Value.slice A1 l.length q1)) := by
    refine ⟨j, hj, (hA.kept.mono (G := fun b => b = pb ∨ b = cb ∨ B ≤ b) (fun i hi => .inl hi)).trans (hKc.mono (fun i hi => .inr (.inl hi))), (H.out.cur.to hA).off hno hKc (by omega), ?_⟩
    rw [show codeP ts = .ok l (ts.drop j) from hr]
    refine ⟨rfl, rfl, A1, q1, heap_setCell_same _ cb 0 _ _ _ hcb1, ?_⟩
    exact own_base (own_keep hO (fun g hg hb => hKc.block g (own_lt hO hg).2 (by have := (own_lt hO hg).1; omega))) hbig
  have HX := hide hX
  clear hX hKc hno hcb1 hE1 hr hA hO
  go_wp2_with fail
  go_end0
  exact HX.out
theorem does_code (cb : Nat) : Does 13 cb codeP (CodeAt cb) where
  call := fun pb B ts W H hT hts hE hpE hcp hR => (code1_any pb B cb ts W H hT hts hE hpE hcp hR).mono (fun e W' h => by
    obtain ⟨j, h1, h2, h3, h4⟩ := h
    refine ⟨j, h1, h2, h3, ?_⟩
    revert h4
    cases codeP ts with
    | ok a r => exact id
    | bad n r => exact id)
  left := fun ts a t r h B W hR => by
    obtain ⟨A, c, h, -⟩ := hR
    exact ⟨A, _, c, h⟩
  enter := code1_enter
  keep := fun B oa W W' h hk => h.keep hk
theorem runT_code (x : List Tok × Nat × Nat) (size : Nat) : codeP9 x size = ((runT codeP x size).1.getD [], (runT codeP x size).2.1, (runT codeP x size).2.2) ∧ ((runT codeP x size).2.2 = 0 ↔ (runT codeP x size).1.isSome = true) := by
  unfold codeP9 runT allCodeP
  split
  · cases h : codeP x.1 with
    | ok c r =>
      rw [bnd_ok h]
      cases r with
      | nil => exact ⟨rfl, fun _ => rfl, fun _ => rfl⟩
      | cons t r => exact ⟨rfl, (fun h => by cases h), (fun h => by cases h)⟩
    | bad n r =>
      rw [bnd_bad h]
      refine ⟨rfl, fun h0 => ?_, fun h => by cases h⟩
      have := code_er _ _ _ h
      dsimp only at h0
      omega
  · rename_i h
    exact ⟨rfl, fun h0 => absurd h0 h, fun h => by cases h⟩
def CodeR (W : World) (src : ByteArray) (e : Ending) (W' : World) : Prop :=
  ∃ v, e = .returned (.tuple #[v, .int .i64 ((codeP9 (lexR src.data.toList) src.size).2.1 : Int), .int .i64 ((codeP9 (lexR src.data.toList) src.size).2.2 : Int)]) ∧ Below W.heap.size W W' ∧ W'.ownsRow W.heap.size 70 4 v (codeP9 (lexR src.data.toList) src.size).1.length ((codeP9 (lexR src.data.toList) src.size).1.flatMap insCells)
set_option maxRecDepth 100000 in
set_option maxHeartbeats 4000000 in
theorem pcode_any (src : ByteArray) (W : World) (hE : Hid (Env W)) (hP : Hid (EnvP W)) : Calls Tryz.prog 5 #[.string src] W (CodeR W src) := by
  have hmf : ∀ (fn : Fn) (first cap : Array Value) (w : World), (Instr.makeFunc fn first cap).run Tryz.prog w = .ok (.func fn first cap) w := fun _ _ _ _ => rfl
  have HZ := hide (heap_alloc_new W (.cells #[.slice none 0 0] 22))
  have HB := hide ((Below.refl W.heap.size W).alloc (Nat.le_refl _) (.cells #[.slice none 0 0] 22))
  obtain ⟨hpt, hps⟩ := runT_code (lexR src.data.toList) src.size
  have HPT := hide hpt
  have HPS := hide hps
  clear hpt hps
  go_enter Tryz.func5, Tryz.ntmps5
  go_wp2_with fail
  generalize W.alloc (.cells #[.slice none 0 0] 22) = V at *
  refine (run_any 13 W.heap.size codeP (CodeAt W.heap.size) (hide (does_code _)) src V (hide (hE.out.kept HB.out)) (hide (hP.out.below HB.out)) (Array.getElem?_eq_some_iff.1 HZ.out).1 hP.out.big (hide (fun B => ⟨none, 0, 0, HZ.out⟩))).mono ?_
  rintro e w1 ⟨B, hB, hk, rfl, hR⟩
  have HB1 := hide (HB.out.trans (hk.below HB.out.size (fun i hi e => by omega)))
  have hBW : W.heap.size ≤ B := Nat.le_trans HB.out.size hB
  have hBc : W.heap.size < B := Nat.lt_of_lt_of_le (Array.getElem?_eq_some_iff.1 HZ.out).1 hB
  generalize (runT codeP (lexR src.data.toList) src.size).1 = oc at *
  generalize ((runT codeP (lexR src.data.toList) src.size).2.1 : Nat) = at_ at *
  generalize ((runT codeP (lexR src.data.toList) src.size).2.2 : Nat) = er at *
  have HR := hide hR
  clear hR hk HZ
  cases oc with
  | none =>
    have her : er ≠ 0 := fun h => by have := HPS.out.1 h; cases this
    have hb1 : ((er : Int) != 0) = true := by simp; omega
    have hb2 : ((er : Int) == 0) = false := by simp; omega
    obtain ⟨A, n, c, hcb⟩ := HR.out
    have d0 : w1.cell? ⟨W.heap.size, 0, none⟩ = some (.slice A n c) := cell_of_row _ _ 0 _ _ _ hcb
    have g0 : w1.frozen? ⟨W.heap.size, 0, none⟩ = false := frozen_of_row _ _ 0 _ _ hcb
    have hl := (Array.getElem?_eq_some_iff.1 hcb).1
    have HX := hide ((HB1.out.setCell (p := ⟨W.heap.size, 0, none⟩) (Nat.le_refl _) (.slice none 0 0)).setCell (p := ⟨W.heap.size, 0, none⟩) (Nat.le_refl _) (.slice none 0 0))
    have HX1 := hide (HB1.out.setCell (p := ⟨W.heap.size, 0, none⟩) (Nat.le_refl _) (.slice none 0 0))
    clear her
    have hFIN : CodeR W src (.returned (.tuple #[.slice none 0 0, .int .i64 (at_ : Int), .int .i64 (er : Int)])) ((w1.setCell ⟨W.heap.size, 0, none⟩ (.slice none 0 0)).setCell ⟨W.heap.size, 0, none⟩ (.slice none 0 0)) := by
      refine ⟨_, by rw [HPT.out], HX.out, ?_⟩
      rw [HPT.out]
      exact World.ownsRow_nil _ _ _ _
    have HFIN := hide hFIN
    clear hFIN
    generalize (er : Int) = ze at *
    generalize (at_ : Int) = za at *
    go_wp2_with fail
    refine bodyPost_ret (v := .tuple #[.slice none 0 0, .int .i64 za, .int .i64 ze]) (by simp [results, Tryz.results5, go_sem, d0]) rfl HFIN.out
  | some l =>
    obtain rfl : er = 0 := HPS.out.2 rfl
    obtain ⟨A, c, hcb, ho⟩ := HR.out
    have d0 : w1.cell? ⟨W.heap.size, 0, none⟩ = some (.slice A l.length c) := cell_of_row _ _ 0 _ _ _ hcb
    have g0 : w1.frozen? ⟨W.heap.size, 0, none⟩ = false := frozen_of_row _ _ 0 _ _ hcb
    have hl := (Array.getElem?_eq_some_iff.1 hcb).1
    have HX := hide (HB1.out.setCell (p := ⟨W.heap.size, 0, none⟩) (Nat.le_refl _) (.slice A l.length c))
    have hFIN : CodeR W src (.returned (.tuple #[.slice A l.length c, .int .i64 (at_ : Int), .int .i64 0])) (w1.setCell ⟨W.heap.size, 0, none⟩ (.slice A l.length c)) := by
      refine ⟨_, by rw [HPT.out]; rfl, HX.out, ?_⟩
      rw [HPT.out]
      exact own_base (own_keep ho (fun g hg hb => Below.heap_setCell _ _ _ _ (by show g ≠ W.heap.size; omega))) hBW
    have HFIN := hide hFIN
    clear hFIN ho hcb
    generalize (at_ : Int) = za at *
    go_wp2_with fail
    refine bodyPost_ret (v := .tuple #[.slice A l.length c, .int .i64 za, .int .i64 0]) (by simp [results, Tryz.results5, go_sem, d0]) rfl HFIN.out
end Go.Proofs.YtndpnpohdoggjaaGreatDoor

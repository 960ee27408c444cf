/-
  Merged texts: parse: Parse. | parse: Parse, Code. | parse: Code. | parse: configurations as values; SameConfig on them; Parse at a known source. | parse: the examples of the chapter: what they are parsed to, the configurations that awake lays.
-/
import Derived.Test.YtlngbjphagnloaaGreatDoorPk1
import Derived.Test.YtlngbjphagnloaaGreatDoorPk15
import Derived.Test.YtlngbjphagnloaaGreatDoorPk26
import Derived.Test.YtlngbjphagnloaaGreatDoorPk6
import Derived.Test.YtlngbjphagnloaaGreatDoorPk7
import Derived.Test.YtlngbjphagnloaaGreatDoorPk9
namespace Go.Proofs.YtlngbjphagnloaaGreatDoor
open Go.RowKit
attribute [local go_sem] Later.cell
def cfgZero : Obj := .cells (List.replicate 8 (Value.slice none 0 0)).toArray 32 (0, 0)
theorem rows_none (w : World) (B : Nat) : RowsAt w B (List.replicate 8 (.slice none 0 0)) (cfgRows CfgD.none) := by
  refine ⟨rfl, fun k r hr e he => ?_, fun k v r hv hr => ?_, fun k l u v g hu hv hug => ?_⟩
  · rcases (by have := (List.getElem?_eq_some_iff.1 hr).1; simp [cfgRows] at this; omega : k = 0 ∨ k = 1 ∨ k = 2 ∨ k = 3 ∨ k = 4 ∨ k = 5 ∨ k = 6 ∨ k = 7) with rfl | rfl | rfl | rfl | rfl | rfl | rfl | rfl
    all_goals
      simp [cfgRows, CfgD.none] at hr
      subst hr
      simp at he
  · have hv' : v = .slice none 0 0 := by
      have := List.mem_of_getElem? hv
      rw [List.mem_replicate] at this
      exact this.2
    subst hv'
    rcases (by have := (List.getElem?_eq_some_iff.1 hr).1; simp [cfgRows] at this; omega : k = 0 ∨ k = 1 ∨ k = 2 ∨ k = 3 ∨ k = 4 ∨ k = 5 ∨ k = 6 ∨ k = 7) with rfl | rfl | rfl | rfl | rfl | rfl | rfl | rfl
    all_goals
      simp [cfgRows, CfgD.none] at hr
      subst hr
      exact ⟨[], World.ownsRow_nil _ _ _ _, DCells.nil⟩
  · have := List.mem_of_getElem? hu
    rw [List.mem_replicate] at this
    rw [this.2] at hug
    cases hug
/-- What the variable of Parse holds. -/
def CfgAt (cb B : Nat) (oc : Option CfgD) (w : World) : Prop := match oc with
  | none => w.heap[cb]? = some cfgZero
  | some c => ∃ vs, RowsAt w B vs (cfgRows c) ∧ w.heap[cb]? = some (.cells vs.toArray 32 (0, 0))
theorem CfgAt.keep {cb B : Nat} {oc : Option CfgD} {w w' : World} (h : CfgAt cb B oc w) (hk : Kept (fun b => b ≠ cb ∧ b < B) w w') : CfgAt cb B oc w' := by
  cases oc with
  | none =>
    have h : w.heap[cb]? = some cfgZero := h
    exact (hk.block cb (Array.getElem?_eq_some_iff.1 h).1 (fun e => e.1 rfl)).trans h
  | some c =>
    obtain ⟨vs, h1, h2⟩ := h
    exact ⟨vs, h1.kept hk (fun b hb e => by omega), (hk.block cb (Array.getElem?_eq_some_iff.1 h2).1 (fun e => e.1 rfl)).trans h2⟩
theorem CfgAt.keep2 {cb B pb : Nat} {w w' : World} (h : CfgAt cb B none w) (hk : Kept (fun b => b = pb ∨ B ≤ b) w w') (hpb : pb < B) (hc : cb < pb) : CfgAt cb B none w' := by
  have h : w.heap[cb]? = some cfgZero := h
  exact (hk.block cb (Array.getElem?_eq_some_iff.1 h).1 (by omega)).trans h
/-- What it holds in any case. -/
theorem CfgAt.get {cb B : Nat} {oc : Option CfgD} {w : World} (h : CfgAt cb B oc w) : ∃ vs, RowsAt w B vs (cfgRows (oc.getD CfgD.none)) ∧ w.heap[cb]? = some (.cells vs.toArray 32 (0, 0)) := by
  cases oc with
  | none => exact ⟨_, rows_none w B, h⟩
  | some c => exact h
theorem AtJ.drewN {pb j : Nat} {w w' : World} (h : AtJ pb j w w') (n : Nat) : AtJ pb j w (w'.drewN n) := ⟨h.kept.drewN n, h.here, h.rest, h.free, h.hold⟩
/-- A store into a variable that holds no tokens. -/
theorem Cur.off {pb cb j : Nat} {ts : List Tok} {w w' : World} (h : Cur pb ts j w) (hz : ∀ o n, w.cell? ⟨cb, o, none⟩ ≠ some (.int .u8 n)) (hk : Kept (fun k => k = cb) w w') (hp : pb ≠ cb) : Cur pb ts j w' := by
  have hl := h.lt
  have hb := hk.block pb hl hp
  obtain ⟨A, c, h0, hr, hA⟩ := h.toks
  refine ⟨⟨A, c, (World.cell?_of_block (a := ⟨pb, 0, none⟩) hb).trans h0, ?_, hA⟩, (World.cell?_of_block (a := ⟨pb, 1, none⟩) hb).trans h.now, (World.frozen?_of_block (a := ⟨pb, 1, none⟩) hb).trans h.free⟩
  have hr0 := hr
  rcases hr with hr | ⟨b, off, rfl, hbl, hc⟩
  · exact .inl hr
  · by_cases hn : ts.map Tok.toZ = []
    · exact .inl hn
    · refine hr0.kept hk (fun a ha => ?_)
      injection ha with ha
      subst ha
      show ¬ b = cb
      rintro rfl
      obtain ⟨t, l, he⟩ := List.exists_cons_of_ne_nil hn
      obtain ⟨e1, _, _⟩ := hc 0 t (by rw [he]; rfl)
      exact hz _ _ e1
theorem cfgZero_no {w : World} {cb : Nat} (h : w.heap[cb]? = some cfgZero) (o : Nat) (n : Int) : w.cell? ⟨cb, o, none⟩ ≠ some (.int .u8 n) := by
  intro e
  unfold cfgZero at h
  have h1 := cell_of_row w cb o _ _ _ h
  rw [e] at h1
  have h2 := Array.mem_of_getElem? h1.symm
  simp at h2
theorem eight_of {α : Type} {l : List α} (h : l.length = 8) : ∃ a b c d e f g i, l = [a, b, c, d, e, f, g, i] := by
  rcases l with _ | ⟨a, _ | ⟨b, _ | ⟨c, _ | ⟨d, _ | ⟨e, _ | ⟨f, _ | ⟨g, _ | ⟨i, _ | ⟨k, l⟩⟩⟩⟩⟩⟩⟩⟩⟩
  all_goals simp at h
  exact ⟨a, b, c, d, e, f, g, i, rfl⟩
theorem itemsLoop_go {f : Nat} {c c' : CfgD} {r r' : List Tok} (hr : r ≠ []) (h : itemP c r = .ok c' r') : itemsLoop (f + 1) c r = itemsLoop f c' r' := by
  cases r with
  | nil => exact absurd rfl hr
  | cons t r => exact bnd_ok h
theorem itemsLoop_bad {f n : Nat} {c : CfgD} {r r' : List Tok} (hr : r ≠ []) (h : itemP c r = .bad n r') : itemsLoop (f + 1) c r = .bad n r' := by
  cases r with
  | nil => exact absurd rfl hr
  | cons t r => exact bnd_bad h
theorem parse1_enter (args : Array Value) (w : World) : (callFunc 35 args).run Tryz.prog w = .ok (.enter 35 args) w := by
  simp [go_sem]
/-- How the function that Parse hands to run ends. -/
def Par1 (pb B cb : Nat) (ts : List Tok) (W : World) (e : Ending) (W' : World) : Prop :=
  ∃ j, j ≤ ts.length ∧ Kept (fun b => b = pb ∨ b = cb ∨ B ≤ b) W W' ∧ Cur pb ts j W' ∧ match cfgP ts with
      | .ok a r => r = ts.drop j ∧ e = .returned (.tuple #[]) ∧ CfgAt cb B (some a) W'
      | .bad n r => r = ts.drop j ∧ e = .panicked [{ v := faultV n, recovered := false }] ∧ CfgAt cb B none W'
set_option maxRecDepth 100000 in
set_option maxHeartbeats 4000000 in
theorem parse1_any (pb B cb : Nat) (ts : List Tok) (W : World) (H : Hid (PSt pb ts 0 CfgD.none B W)) (hT : Hid (TokOk ts)) (hts : ts.length ≤ 1000000) (hE : Hid (EnvP W)) (hpE : 3 ≤ pb) (hcp : cb < pb) (hR : CfgAt cb B none W) :
    Calls Tryz.prog 35 #[.pointer (some ⟨pb, 0, none⟩), .pointer (some ⟨cb, 0, none⟩)] W (Par1 pb B cb ts W) := by
  have HR := hide hR
  clear hR
  go_enter Tryz.func35, Tryz.ntmps35
  go_wp2_with fail
  go_loopw [] (fun wr => ∃ (c : CfgD) (k f : Nat), k ≤ ts.length ∧ ts.length - k < f ∧ c.count ≤ k ∧ PSt pb ts k c B wr ∧ Kept (fun b => b = pb ∨ B ≤ b) W wr ∧ cfgP ts = itemsLoop f c (ts.drop k)) (fun wr => ts.length - atOf pb wr)
  case atStart => exact ⟨CfgD.none, 0, _, by omega, by omega, by decide, H.out, Kept.refl _ _, rfl⟩
  case round =>
    obtain ⟨c, k, f, hk, hf, hc, hP, hK, hL⟩ := hrel
    have HP := hide hP
    have HK := hide hK
    have HL := hide hL
    clear hP hK hL
    obtain ⟨f, rfl⟩ : ∃ f', f = f' + 1 := ⟨f - 1, by omega⟩
    obtain ⟨A, cc, h0, -, -⟩ := HP.out.cur.toks
    have h1 := HP.out.cur.now
    by_cases hkl : k < ts.length
    · have k1 : decide (k < ts.length) = true := by simp; exact hkl
      have HM : Hid (atOf pb wr = k) := hide (by unfold atOf; rw [h1]; simp [intOf])
      have hne : ts.drop k ≠ [] := by rw [List.drop_eq_getElem_cons hkl]; exact List.cons_ne_nil _ _
      have HNE := hide hne
      clear hne
      go_wp2_with fail
      go_quiet (fail)
      go_wp2_with fail
      have HP2 := hide (HP.out.to ((AtJ.start HP.out.cur.now HP.out.cur.free).drewN nq))
      have HK2 := hide (HK.out.drewN nq)
      have hE2 : Kept (fun b => b = pb ∨ B ≤ b) W (wr.drewN nq) := HK2.out
      have HE2 := hide (hE.out.keptB (hE2.below hE.out.big (fun i hi e => by have := H.out.low; omega)) (Nat.le_refl _))
      clear hE2 h0 h1
      generalize wr.drewN nq = V at *
      refine (item_any pb k B ts c V HP2 hts hk hT HE2 hpE (by omega)).mono ?_
      rintro e w5 hE5
      rcases hE5.split with ⟨c5, j5, hr, hj5, hK5, hP5, rfl⟩ | ⟨n, jn, hr, hjn, hK5, hC5, rfl⟩
      rotate_left
      · have hX : Par1 pb B cb ts W (.panicked [{ v := .iface 122 (.agg #[.int .i64 (n : Int)]), recovered := false }]) w5 := by
          have hk9 : Kept (fun b => b = pb ∨ B ≤ b) W w5 := HK2.out.trans hK5
          refine ⟨jn, hjn, hk9.mono (fun i hi => by rcases hi with h | h <;> simp [h]), hC5, ?_⟩
          rw [HL.out.trans (itemsLoop_bad HNE.out hr)]
          have hlow := H.out.low
          exact ⟨rfl, rfl, HR.out.keep2 hk9 (by omega) hcp⟩
        have HX := hide hX
        clear hX hE5 hr hK5 hC5
        go_wp2_with fail
        exact ⟨rfl, HX.out⟩
      have hlt := LTj hr (item_lt c) hj5
      have HM5 := hide (show ts.length - atOf pb w5 < ts.length - atOf pb wr by rw [HM.out]; unfold atOf; rw [hP5.cur.now]; simp [intOf]; omega)
      have HL5 := hide (HL.out.trans (itemsLoop_go HNE.out hr))
      have hgr := item_grow hr
      have HP5 := hide hP5
      have HK5 := hide (HK2.out.trans hK5)
      clear hE5 hr hK5 hP5
      go_wp2_with fail
      go_roundw
      case rel => exact ⟨c5, j5, f, hj5, by omega, by omega, HP5.out, HK5.out, HL5.out⟩
      case measure => exact HM5.out
    · have k1 : decide (k < ts.length) = false := by simp; exact Nat.le_of_not_lt hkl
      obtain rfl : k = ts.length := by omega
      go_wp2_with fail
      go_quiet (fail)
      have HP2 := hide (HP.out.to ((AtJ.start HP.out.cur.now HP.out.cur.free).drewN nq))
      have HK2 := hide (HK.out.drewN nq)
      clear HP HK h0 h1
      have HP := HP2
      have HK := HK2
      clear HP2 HK2
      generalize wr.drewN nq = V at *
      have h1 := HP.out.cur.now
      obtain ⟨A, cc, h0, -, -⟩ := HP.out.cur.toks
      have hL2 : cfgP ts = .ok c [] := by rw [HL.out, List.drop_length]; rfl
      have HL2 := hide hL2
      clear hL2
      obtain ⟨vs, hvs, hcell⟩ := HP.out.at_
      obtain ⟨v0, v1, v2, v3, v4, v5, v6, v7, rfl⟩ := eight_of hvs.len
      obtain ⟨A0, q0, h10⟩ := own_form (hvs.own 0 v0 _ rfl rfl).choose_spec.1
      dsimp only at h10
      subst h10
      obtain ⟨A1, q1, h11⟩ := own_form (hvs.own 1 v1 _ rfl rfl).choose_spec.1
      dsimp only at h11
      subst h11
      obtain ⟨A2, q2, h12⟩ := own_form (hvs.own 2 v2 _ rfl rfl).choose_spec.1
      dsimp only at h12
      subst h12
      obtain ⟨A3, q3, h13⟩ := own_form (hvs.own 3 v3 _ rfl rfl).choose_spec.1
      dsimp only at h13
      subst h13
      obtain ⟨A4, q4, h14⟩ := own_form (hvs.own 4 v4 _ rfl rfl).choose_spec.1
      dsimp only at h14
      subst h14
      obtain ⟨A5, q5, h15⟩ := own_form (hvs.own 5 v5 _ rfl rfl).choose_spec.1
      dsimp only at h15
      subst h15
      obtain ⟨A6, q6, h16⟩ := own_form (hvs.own 6 v6 _ rfl rfl).choose_spec.1
      dsimp only at h16
      subst h16
      obtain ⟨A7, q7, h17⟩ := own_form (hvs.own 7 v7 _ rfl rfl).choose_spec.1
      dsimp only at h17
      subst h17
      generalize (c.modules.map ModD.cells).length = n0 at *
      generalize (c.channels.map ChanD.cells).length = n1 at *
      generalize (c.switches.map SwD.cells).length = n2 at *
      generalize (c.links.map LinkD.cells).length = n3 at *
      generalize (c.vls.map VlD.cells).length = n4 at *
      generalize (c.health.map HealthD.cells).length = n5 at *
      generalize (c.causes.map CauseD.cells).length = n6 at *
      generalize (c.versions.map VerD.cells).length = n7 at *
      have c0 := hcell 0 _ rfl
      have c1 := hcell 1 _ rfl
      have c2 := hcell 2 _ rfl
      have c3 := hcell 3 _ rfl
      have c4 := hcell 4 _ rfl
      have c5 := hcell 5 _ rfl
      have c6 := hcell 6 _ rfl
      have c7 := hcell 7 _ rfl
      simp only [Nat.add_zero, Nat.reduceAdd] at c0 c1 c2 c3 c4 c5 c6 c7
      have hcb : W.heap[cb]? = some cfgZero := HR.out
      have hlow := H.out.low
      have hbig := H.out.big
      have hcl := (Array.getElem?_eq_some_iff.1 hcb).1
      have hcb2 := (HK.out.block cb hcl (by omega)).trans hcb
      obtain ⟨d0, d1, d2, d3, d4, d5, d6, d7, g0, g1, g2, g3, g4, g5, g6, g7⟩ := row8 hcb2 rfl
      have hlc := (Array.getElem?_eq_some_iff.1 hcb2).1
      have hKc := (((((((((Kept.refl (fun k => k = cb) V).setCell (p := ⟨cb, 0, none⟩) (.inl rfl) (Value.slice A0 n0 q0)).setCell (p := ⟨cb, 1, none⟩) (.inl rfl) (Value.slice A1 n1 q1)).setCell (p := ⟨cb, 2, none⟩) (.inl rfl) (Value.slice A2 n2 q2)).setCell (p := ⟨cb, 3, none⟩) (.inl rfl) (Value.slice A3 n3 q3)).setCell (p := ⟨cb, 4, none⟩) (.inl rfl) (Value.slice A4 n4 q4)).setCell (p := ⟨cb, 5, none⟩) (.inl rfl) (Value.slice A5 n5 q5)).setCell (p := ⟨cb, 6, none⟩) (.inl rfl) (Value.slice A6 n6 q6)).setCell (p := ⟨cb, 7, none⟩) (.inl rfl) (Value.slice A7 n7 q7))
      have hrw := (heap_setCell_same _ cb 7 _ _ (Value.slice A7 n7 q7) (heap_setCell_same _ cb 6 _ _ (Value.slice A6 n6 q6) (heap_setCell_same _ cb 5 _ _ (Value.slice A5 n5 q5) (heap_setCell_same _ cb 4 _ _ (Value.slice A4 n4 q4) (heap_setCell_same _ cb 3 _ _ (Value.slice A3 n3 q3) (heap_setCell_same _ cb 2 _ _ (Value.slice A2 n2 q2) (heap_setCell_same _ cb 1 _ _ (Value.slice A1 n1 q1) (heap_setCell_same _ cb 0 _ _ (Value.slice A0 n0 q0) hcb2))))))))
      have hX : Par1 pb B cb ts W (.returned (.tuple #[])) ((((((((V.setCell ⟨cb, 0, none⟩ (Value.slice A0 n0 q0)).setCell ⟨cb, 1, none⟩ (Value.slice A1 n1 q1)).setCell ⟨cb, 2, none⟩ (Value.slice A2 n2 q2)).setCell ⟨cb, 3, none⟩ (Value.slice A3 n3 q3)).setCell ⟨cb, 4, none⟩ (Value.slice A4 n4 q4)).setCell ⟨cb, 5, none⟩ (Value.slice A5 n5 q5)).setCell ⟨cb, 6, none⟩ (Value.slice A6 n6 q6)).setCell ⟨cb, 7, none⟩ (Value.slice A7 n7 q7)) := by
        refine ⟨ts.length, Nat.le_refl _, (HK.out.mono (G := fun b => b = pb ∨ b = cb ∨ B ≤ b) (fun i hi => by rcases hi with h | h <;> simp [h])).trans (hKc.mono (fun i hi => by simp [hi])), HP.out.cur.off (cfgZero_no hcb2) hKc (by omega), ?_⟩
        · rw [HL2.out]
          exact ⟨by rw [List.drop_length], rfl, _, hvs.kept hKc (fun b hb e => by omega), hrw⟩
      have HX := hide hX
      clear hX hKc hrw
      go_wp2_with fail
      go_end0
      exact HX.out
end Go.Proofs.YtlngbjphagnloaaGreatDoor
namespace Go.Proofs.YtlngbjphagnloaaGreatDoor
open Go.RowKit
attribute [local go_sem] Later.cell
theorem items_end : ∀ (f : Nat) (c c' : CfgD) (r r' : List Tok), r.length < f → itemsLoop f c r = .ok c' r' → r' = []
  | 0, c, c', r, r', hf, h => by omega
  | f + 1, c, c', [], r', hf, h => by
    have h : Res.ok c [] = .ok c' r' := h
    injection h with _ h2
    exact h2.symm
  | f + 1, c, c', t :: r, r', hf, h => by
    obtain ⟨c1, r1, h1, h2⟩ := bnd_inv (show (itemP c >>= fun c' => itemsLoop f c') (t :: r) = .ok c' r' from h)
    have := item_lt c _ _ _ h1
    exact items_end f c1 c' r1 r' (by omega) h2
theorem cfg_end {c : CfgD} {r r' : List Tok} (h : cfgP r = .ok c r') : r' = [] := items_end _ _ _ _ _ (by omega) h
theorem does_parse (cb : Nat) : Does 35 cb cfgP (CfgAt cb) where
  call := fun pb B ts W H hT hts hE hpE hcp hR => (parse1_any pb B cb ts W H hT hts hE hpE hcp hR).mono (fun e W' h => by
    obtain ⟨j, h1, h2, h3, h4⟩ := h
    refine ⟨j, h1, h2, h3, ?_⟩
    revert h4
    cases cfgP ts with
    | ok a r => exact id
    | bad n r => exact id)
  left := fun ts a t r h => by cases cfg_end h
  enter := parse1_enter
  keep := fun B oa W W' h hk => h.keep hk
theorem runT_parse (x : List Tok × Nat × Nat) (size : Nat) : parseT x size = ((runT cfgP x size).1.getD CfgD.none, (runT cfgP x size).2.1, (runT cfgP x size).2.2) := by
  unfold parseT runT
  split
  · cases h : cfgP x.1 with
    | ok c r =>
      obtain rfl := cfg_end h
      rfl
    | bad n r => rfl
  · rfl
def ParseR (W : World) (src : ByteArray) (e : Ending) (W' : World) : Prop :=
  ∃ vs B, W.heap.size ≤ B ∧ e = .returned (.tuple #[.agg vs.toArray, .int .i64 ((parseT (lexR src.data.toList) src.size).2.1 : Int), .int .i64 ((parseT (lexR src.data.toList) src.size).2.2 : Int)]) ∧ Below W.heap.size W W' ∧ RowsAt W' B vs (cfgRows (parseT (lexR src.data.toList) src.size).1)
set_option maxRecDepth 100000 in
set_option maxHeartbeats 4000000 in
theorem parse_any (src : ByteArray) (W : World) (hE : Hid (Env W)) (hP : Hid (EnvP W)) : Calls Tryz.prog 11 #[.string src] W (ParseR W src) := by
  have hmf : ∀ (fn : Fn) (first cap : Array Value) (w : World), (Instr.makeFunc fn first cap).run Tryz.prog w = .ok (.func fn first cap) w := fun _ _ _ _ => rfl
  have HZ := hide (show (W.alloc cfgZero).heap[W.heap.size]? = some cfgZero from heap_alloc_new W cfgZero)
  have HB := hide ((Below.refl W.heap.size W).alloc (Nat.le_refl _) cfgZero)
  have HPT := hide (runT_parse (lexR src.data.toList) src.size)
  go_enter Tryz.func11, Tryz.ntmps11
  go_wp2_with fail
  change Calls _ _ _ (W.alloc cfgZero) _
  generalize W.alloc cfgZero = V at *
  refine (run_any 35 W.heap.size cfgP (CfgAt W.heap.size) (hide (does_parse _)) src V (hide (hE.out.kept HB.out)) (hide (hP.out.below HB.out)) (Array.getElem?_eq_some_iff.1 HZ.out).1 hP.out.big (hide (fun B => HZ.out))).mono ?_
  rintro e w1 ⟨B, hB, hk, rfl, hR⟩
  have HB1 := hide (HB.out.trans (hk.below HB.out.size (fun i hi e => by omega)))
  have hBW : W.heap.size ≤ B := Nat.le_trans HB.out.size hB
  have hBc : W.heap.size < B := Nat.lt_of_lt_of_le (Array.getElem?_eq_some_iff.1 HZ.out).1 hB
  obtain ⟨vs, hvs, hcb⟩ := hR.get
  generalize hc : (runT cfgP (lexR src.data.toList) src.size).1.getD CfgD.none = c at *
  generalize ((runT cfgP (lexR src.data.toList) src.size).2.1 : Nat) = at_ at *
  generalize ((runT cfgP (lexR src.data.toList) src.size).2.2 : Nat) = er at *
  clear hR hk hc HZ
  obtain ⟨v0, v1, v2, v3, v4, v5, v6, v7, rfl⟩ := eight_of hvs.len
  obtain ⟨A0, q0, h10⟩ := own_form (hvs.own 0 v0 _ rfl rfl).choose_spec.1
  dsimp only at h10
  subst h10
  obtain ⟨A1, q1, h11⟩ := own_form (hvs.own 1 v1 _ rfl rfl).choose_spec.1
  dsimp only at h11
  subst h11
  obtain ⟨A2, q2, h12⟩ := own_form (hvs.own 2 v2 _ rfl rfl).choose_spec.1
  dsimp only at h12
  subst h12
  obtain ⟨A3, q3, h13⟩ := own_form (hvs.own 3 v3 _ rfl rfl).choose_spec.1
  dsimp only at h13
  subst h13
  obtain ⟨A4, q4, h14⟩ := own_form (hvs.own 4 v4 _ rfl rfl).choose_spec.1
  dsimp only at h14
  subst h14
  obtain ⟨A5, q5, h15⟩ := own_form (hvs.own 5 v5 _ rfl rfl).choose_spec.1
  dsimp only at h15
  subst h15
  obtain ⟨A6, q6, h16⟩ := own_form (hvs.own 6 v6 _ rfl rfl).choose_spec.1
  dsimp only at h16
  subst h16
  obtain ⟨A7, q7, h17⟩ := own_form (hvs.own 7 v7 _ rfl rfl).choose_spec.1
  dsimp only at h17
  subst h17
  generalize (c.modules.map ModD.cells).length = n0 at *
  generalize (c.channels.map ChanD.cells).length = n1 at *
  generalize (c.switches.map SwD.cells).length = n2 at *
  generalize (c.links.map LinkD.cells).length = n3 at *
  generalize (c.vls.map VlD.cells).length = n4 at *
  generalize (c.health.map HealthD.cells).length = n5 at *
  generalize (c.causes.map CauseD.cells).length = n6 at *
  generalize (c.versions.map VerD.cells).length = n7 at *
  have c0 : w1.cell? ⟨W.heap.size, 0, none⟩ = some (Value.slice A0 n0 q0) := cell_of_row _ _ 0 _ _ _ hcb
  have g0 : w1.frozen? ⟨W.heap.size, 0, none⟩ = false := frozen_of_row _ _ 0 _ _ hcb
  have c1 : w1.cell? ⟨W.heap.size, 1, none⟩ = some (Value.slice A1 n1 q1) := cell_of_row _ _ 1 _ _ _ hcb
  have g1 : w1.frozen? ⟨W.heap.size, 1, none⟩ = false := frozen_of_row _ _ 1 _ _ hcb
  have c2 : w1.cell? ⟨W.heap.size, 2, none⟩ = some (Value.slice A2 n2 q2) := cell_of_row _ _ 2 _ _ _ hcb
  have g2 : w1.frozen? ⟨W.heap.size, 2, none⟩ = false := frozen_of_row _ _ 2 _ _ hcb
  have c3 : w1.cell? ⟨W.heap.size, 3, none⟩ = some (Value.slice A3 n3 q3) := cell_of_row _ _ 3 _ _ _ hcb
  have g3 : w1.frozen? ⟨W.heap.size, 3, none⟩ = false := frozen_of_row _ _ 3 _ _ hcb
  have c4 : w1.cell? ⟨W.heap.size, 4, none⟩ = some (Value.slice A4 n4 q4) := cell_of_row _ _ 4 _ _ _ hcb
  have g4 : w1.frozen? ⟨W.heap.size, 4, none⟩ = false := frozen_of_row _ _ 4 _ _ hcb
  have c5 : w1.cell? ⟨W.heap.size, 5, none⟩ = some (Value.slice A5 n5 q5) := cell_of_row _ _ 5 _ _ _ hcb
  have g5 : w1.frozen? ⟨W.heap.size, 5, none⟩ = false := frozen_of_row _ _ 5 _ _ hcb
  have c6 : w1.cell? ⟨W.heap.size, 6, none⟩ = some (Value.slice A6 n6 q6) := cell_of_row _ _ 6 _ _ _ hcb
  have g6 : w1.frozen? ⟨W.heap.size, 6, none⟩ = false := frozen_of_row _ _ 6 _ _ hcb
  have c7 : w1.cell? ⟨W.heap.size, 7, none⟩ = some (Value.slice A7 n7 q7) := cell_of_row _ _ 7 _ _ _ hcb
  have g7 : w1.frozen? ⟨W.heap.size, 7, none⟩ = false := frozen_of_row _ _ 7 _ _ hcb
  have hl := (Array.getElem?_eq_some_iff.1 hcb).1
  have hKc := (((((((((Kept.refl (fun k => k = W.heap.size) w1).setCell (p := ⟨W.heap.size, 0, none⟩) (.inl rfl) (Value.slice A0 n0 q0)).setCell (p := ⟨W.heap.size, 1, none⟩) (.inl rfl) (Value.slice A1 n1 q1)).setCell (p := ⟨W.heap.size, 2, none⟩) (.inl rfl) (Value.slice A2 n2 q2)).setCell (p := ⟨W.heap.size, 3, none⟩) (.inl rfl) (Value.slice A3 n3 q3)).setCell (p := ⟨W.heap.size, 4, none⟩) (.inl rfl) (Value.slice A4 n4 q4)).setCell (p := ⟨W.heap.size, 5, none⟩) (.inl rfl) (Value.slice A5 n5 q5)).setCell (p := ⟨W.heap.size, 6, none⟩) (.inl rfl) (Value.slice A6 n6 q6)).setCell (p := ⟨W.heap.size, 7, none⟩) (.inl rfl) (Value.slice A7 n7 q7))
  have HX := hide (HB1.out.trans (hKc.below HB1.out.size (fun i hi e => by omega)))
  have HRW := hide (hvs.kept hKc (fun b hb e => by omega))
  clear hKc hvs
  go_wp2_with fail
  refine bodyPost_ret (v := .tuple #[.agg #[Value.slice A0 n0 q0, Value.slice A1 n1 q1, Value.slice A2 n2 q2, Value.slice A3 n3 q3, Value.slice A4 n4 q4, Value.slice A5 n5 q5, Value.slice A6 n6 q6, Value.slice A7 n7 q7], .int .i64 (at_ : Int), .int .i64 (er : Int)]) (by simp [results, Tryz.results11, go_sem, c0, c1, c2, c3, c4, c5, c6, c7]) rfl ?_
  refine ⟨[Value.slice A0 n0 q0, Value.slice A1 n1 q1, Value.slice A2 n2 q2, Value.slice A3 n3 q3, Value.slice A4 n4 q4, Value.slice A5 n5 q5, Value.slice A6 n6 q6, Value.slice A7 n7 q7], B, hBW, ?_, HX.out, ?_⟩
  · rw [HPT.out]
  · rw [HPT.out]
    exact HRW.out
end Go.Proofs.YtlngbjphagnloaaGreatDoor
namespace Go.Proofs.YtlngbjphagnloaaGreatDoor
open Go.RowKit
attribute [local go_sem] Later.cell
/-- What the variable of Code holds. -/
def CodeAt (cb B : Nat) (oc : Option (List InsD)) (w : World) : Prop := match oc with
  | none => ∃ A n c, w.heap[cb]? = some (.cells #[.slice A n c] 62 (0, 0))
  | some l => ∃ A c, w.heap[cb]? = some (.cells #[.slice A l.length c] 62 (0, 0)) ∧ w.ownsRow B 60 4 (.slice A l.length c) l.length (l.flatMap insCells)
theorem CodeAt.keep {cb B : Nat} {oc : Option (List InsD)} {w w' : World} (h : CodeAt cb B oc w) (hk : Kept (fun b => b ≠ cb ∧ b < B) w w') : CodeAt cb B oc w' := by
  cases oc with
  | none =>
    obtain ⟨A, n, c, h⟩ := h
    exact ⟨A, n, c, (hk.block cb (Array.getElem?_eq_some_iff.1 h).1 (fun e => e.1 rfl)).trans h⟩
  | some l =>
    obtain ⟨A, c, h, ho⟩ := h
    exact ⟨A, c, (hk.block cb (Array.getElem?_eq_some_iff.1 h).1 (fun e => e.1 rfl)).trans h, own_keep ho (fun g hg hb => hk.block g (own_lt ho hg).2 (fun e => by omega))⟩
theorem code1_enter (args : Array Value) (w : World) : (callFunc 49 args).run Tryz.prog w = .ok (.enter 49 args) w := by
  simp [go_sem]
/-- How the function that Code hands to run ends. -/
def Cod1 (pb B cb : Nat) (ts : List Tok) (W : World) (e : Ending) (W' : World) : Prop :=
  ∃ j, j ≤ ts.length ∧ Kept (fun b => b = pb ∨ b = cb ∨ B ≤ b) W W' ∧ Cur pb ts j W' ∧ match codeP ts with
      | .ok a r => r = ts.drop j ∧ e = .returned (.tuple #[]) ∧ CodeAt cb B (some a) W'
      | .bad n r => r = ts.drop j ∧ e = .panicked [{ v := faultV n, recovered := false }] ∧ CodeAt cb B none W'
set_option maxRecDepth 100000 in
set_option maxHeartbeats 4000000 in
theorem code1_any (pb B cb : Nat) (ts : List Tok) (W : World) (H : Hid (PSt pb ts 0 CfgD.none B W)) (hT : Hid (TokOk ts)) (hts : ts.length ≤ 1000000) (hE : Hid (EnvP W)) (hpE : 3 ≤ pb) (hcp : cb < pb) (hR : CodeAt cb B none W) :
    Calls Tryz.prog 49 #[.pointer (some ⟨pb, 0, none⟩), .pointer (some ⟨cb, 0, none⟩)] W (Cod1 pb B cb ts W) := by
  obtain ⟨A0, n0, c0, hcb⟩ := hR
  have HCB := hide hcb
  clear hcb
  have hlow := H.out.low
  have hbig := H.out.big
  have HC := hide (code_any pb 0 ts W (hide H.out.cur) hts (Nat.zero_le _) (hide hT.out.good) hE hpE (hide hT.out.size))
  go_enter Tryz.func49, Tryz.ntmps49
  go_wp2_with fail
  refine (HC.out).mono ?_
  rintro e w1 hE1
  have hlc := (Array.getElem?_eq_some_iff.1 HCB.out).1
  rcases hE1.split with ⟨l, j, v, hr, hj, hA, hO, rfl⟩ | ⟨n, jn, hr, hjn, hA, rfl⟩
  rotate_left
  · have hX : Cod1 pb B cb ts W (.panicked [{ v := .iface 122 (.agg #[.int .i64 (n : Int)]), recovered := false }]) w1 := by
      refine ⟨jn, hjn, hA.kept.mono (fun i hi => .inl hi), H.out.cur.to hA, ?_⟩
      rw [show codeP ts = .bad n (ts.drop jn) from hr]
      exact ⟨rfl, rfl, A0, n0, c0, (hA.kept.block cb hlc (by omega)).trans HCB.out⟩
    have HX := hide hX
    clear hX hE1 hr hA
    go_wp2_with fail
    exact ⟨rfl, HX.out⟩
  obtain ⟨A1, q1, rfl⟩ := own_form hO
  have hcb1 := (hA.kept.block cb hlc (by omega)).trans HCB.out
  have d0 : w1.cell? ⟨cb, 0, none⟩ = some (.slice A0 n0 c0) := cell_of_row _ _ 0 _ _ _ hcb1
  have g0 : w1.frozen? ⟨cb, 0, none⟩ = false := frozen_of_row _ _ 0 _ _ hcb1
  have hl1 := (Array.getElem?_eq_some_iff.1 hcb1).1
  have hKc := (Kept.refl (fun k => k = cb) w1).setCell (p := ⟨cb, 0, none⟩) (.inl rfl) (Value.slice A1 l.length q1)
  have hno : ∀ o n, w1.cell? ⟨cb, o, none⟩ ≠ some (.int .u8 n) := fun o n e => by
    have h1 := cell_of_row w1 cb o _ _ _ hcb1
    rw [e] at h1
    have h2 := Array.mem_of_getElem? h1.symm
    simp at h2
  have hX : Cod1 pb B cb ts W (.returned (.tuple #[])) (w1.setCell ⟨cb, 0, none⟩ (Value.slice A1 l.length q1)) := by
    refine ⟨j, hj, (hA.kept.mono (G := fun b => b = pb ∨ b = cb ∨ B ≤ b) (fun i hi => .inl hi)).trans (hKc.mono (fun i hi => .inr (.inl hi))), (H.out.cur.to hA).off hno hKc (by omega), ?_⟩
    rw [show codeP ts = .ok l (ts.drop j) from hr]
    refine ⟨rfl, rfl, A1, q1, heap_setCell_same _ cb 0 _ _ _ hcb1, ?_⟩
    exact own_base (own_keep hO (fun g hg hb => hKc.block g (own_lt hO hg).2 (by have := (own_lt hO hg).1; omega))) hbig
  have HX := hide hX
  clear hX hKc hno hcb1 hE1 hr hA hO
  go_wp2_with fail
  go_end0
  exact HX.out
theorem does_code (cb : Nat) : Does 49 cb codeP (CodeAt cb) where
  call := fun pb B ts W H hT hts hE hpE hcp hR => (code1_any pb B cb ts W H hT hts hE hpE hcp hR).mono (fun e W' h => by
    obtain ⟨j, h1, h2, h3, h4⟩ := h
    refine ⟨j, h1, h2, h3, ?_⟩
    revert h4
    cases codeP ts with
    | ok a r => exact id
    | bad n r => exact id)
  left := fun ts a t r h B W hR => by
    obtain ⟨A, c, h, -⟩ := hR
    exact ⟨A, _, c, h⟩
  enter := code1_enter
  keep := fun B oa W W' h hk => h.keep hk
theorem runT_code (x : List Tok × Nat × Nat) (size : Nat) : codeT x size = ((runT codeP x size).1.getD [], (runT codeP x size).2.1, (runT codeP x size).2.2) ∧ ((runT codeP x size).2.2 = 0 ↔ (runT codeP x size).1.isSome = true) := by
  unfold codeT runT allCodeP
  split
  · cases h : codeP x.1 with
    | ok c r =>
      rw [bnd_ok h]
      cases r with
      | nil => exact ⟨rfl, fun _ => rfl, fun _ => rfl⟩
      | cons t r => exact ⟨rfl, (fun h => by cases h), (fun h => by cases h)⟩
    | bad n r =>
      rw [bnd_bad h]
      refine ⟨rfl, fun h0 => ?_, fun h => by cases h⟩
      have := code_er _ _ _ h
      dsimp only at h0
      omega
  · rename_i h
    exact ⟨rfl, fun h0 => absurd h0 h, fun h => by cases h⟩
def CodeR (W : World) (src : ByteArray) (e : Ending) (W' : World) : Prop :=
  ∃ v, e = .returned (.tuple #[v, .int .i64 ((codeT (lexR src.data.toList) src.size).2.1 : Int), .int .i64 ((codeT (lexR src.data.toList) src.size).2.2 : Int)]) ∧ Below W.heap.size W W' ∧ W'.ownsRow W.heap.size 60 4 v (codeT (lexR src.data.toList) src.size).1.length ((codeT (lexR src.data.toList) src.size).1.flatMap insCells)
set_option maxRecDepth 100000 in
set_option maxHeartbeats 4000000 in
theorem pcode_any (src : ByteArray) (W : World) (hE : Hid (Env W)) (hP : Hid (EnvP W)) : Calls Tryz.prog 20 #[.string src] W (CodeR W src) := by
  have hmf : ∀ (fn : Fn) (first cap : Array Value) (w : World), (Instr.makeFunc fn first cap).run Tryz.prog w = .ok (.func fn first cap) w := fun _ _ _ _ => rfl
  have HZ := hide (heap_alloc_new W (.cells #[.slice none 0 0] 62))
  have HB := hide ((Below.refl W.heap.size W).alloc (Nat.le_refl _) (.cells #[.slice none 0 0] 62))
  obtain ⟨hpt, hps⟩ := runT_code (lexR src.data.toList) src.size
  have HPT := hide hpt
  have HPS := hide hps
  clear hpt hps
  go_enter Tryz.func20, Tryz.ntmps20
  go_wp2_with fail
  generalize W.alloc (.cells #[.slice none 0 0] 62) = V at *
  refine (run_any 49 W.heap.size codeP (CodeAt W.heap.size) (hide (does_code _)) src V (hide (hE.out.kept HB.out)) (hide (hP.out.below HB.out)) (Array.getElem?_eq_some_iff.1 HZ.out).1 hP.out.big (hide (fun B => ⟨none, 0, 0, HZ.out⟩))).mono ?_
  rintro e w1 ⟨B, hB, hk, rfl, hR⟩
  have HB1 := hide (HB.out.trans (hk.below HB.out.size (fun i hi e => by omega)))
  have hBW : W.heap.size ≤ B := Nat.le_trans HB.out.size hB
  have hBc : W.heap.size < B := Nat.lt_of_lt_of_le (Array.getElem?_eq_some_iff.1 HZ.out).1 hB
  generalize (runT codeP (lexR src.data.toList) src.size).1 = oc at *
  generalize ((runT codeP (lexR src.data.toList) src.size).2.1 : Nat) = at_ at *
  generalize ((runT codeP (lexR src.data.toList) src.size).2.2 : Nat) = er at *
  have HR := hide hR
  clear hR hk HZ
  cases oc with
  | none =>
    have her : er ≠ 0 := fun h => by have := HPS.out.1 h; cases this
    have hb1 : ((er : Int) != 0) = true := by simp; omega
    have hb2 : ((er : Int) == 0) = false := by simp; omega
    obtain ⟨A, n, c, hcb⟩ := HR.out
    have d0 : w1.cell? ⟨W.heap.size, 0, none⟩ = some (.slice A n c) := cell_of_row _ _ 0 _ _ _ hcb
    have g0 : w1.frozen? ⟨W.heap.size, 0, none⟩ = false := frozen_of_row _ _ 0 _ _ hcb
    have hl := (Array.getElem?_eq_some_iff.1 hcb).1
    have HX := hide ((HB1.out.setCell (p := ⟨W.heap.size, 0, none⟩) (Nat.le_refl _) (.slice none 0 0)).setCell (p := ⟨W.heap.size, 0, none⟩) (Nat.le_refl _) (.slice none 0 0))
    have HX1 := hide (HB1.out.setCell (p := ⟨W.heap.size, 0, none⟩) (Nat.le_refl _) (.slice none 0 0))
    clear her
    have hFIN : CodeR W src (.returned (.tuple #[.slice none 0 0, .int .i64 (at_ : Int), .int .i64 (er : Int)])) ((w1.setCell ⟨W.heap.size, 0, none⟩ (.slice none 0 0)).setCell ⟨W.heap.size, 0, none⟩ (.slice none 0 0)) := by
      refine ⟨_, by rw [HPT.out], HX.out, ?_⟩
      rw [HPT.out]
      exact World.ownsRow_nil _ _ _ _
    have HFIN := hide hFIN
    clear hFIN
    generalize (er : Int) = ze at *
    generalize (at_ : Int) = za at *
    go_wp2_with fail
    refine bodyPost_ret (v := .tuple #[.slice none 0 0, .int .i64 za, .int .i64 ze]) (by simp [results, Tryz.results20, go_sem, d0]) rfl HFIN.out
  | some l =>
    obtain rfl : er = 0 := HPS.out.2 rfl
    obtain ⟨A, c, hcb, ho⟩ := HR.out
    have d0 : w1.cell? ⟨W.heap.size, 0, none⟩ = some (.slice A l.length c) := cell_of_row _ _ 0 _ _ _ hcb
    have g0 : w1.frozen? ⟨W.heap.size, 0, none⟩ = false := frozen_of_row _ _ 0 _ _ hcb
    have hl := (Array.getElem?_eq_some_iff.1 hcb).1
    have HX := hide (HB1.out.setCell (p := ⟨W.heap.size, 0, none⟩) (Nat.le_refl _) (.slice A l.length c))
    have hFIN : CodeR W src (.returned (.tuple #[.slice A l.length c, .int .i64 (at_ : Int), .int .i64 0])) (w1.setCell ⟨W.heap.size, 0, none⟩ (.slice A l.length c)) := by
      refine ⟨_, by rw [HPT.out]; rfl, HX.out, ?_⟩
      rw [HPT.out]
      exact own_base (own_keep ho (fun g hg hb => Below.heap_setCell _ _ _ _ (by show g ≠ W.heap.size; omega))) hBW
    have HFIN := hide hFIN
    clear hFIN ho hcb
    generalize (at_ : Int) = za at *
    go_wp2_with fail
    refine bodyPost_ret (v := .tuple #[.slice A l.length c, .int .i64 za, .int .i64 0]) (by simp [results, Tryz.results20, go_sem, d0]) rfl HFIN.out
end Go.Proofs.YtlngbjphagnloaaGreatDoor
namespace Go.Proofs.YtlngbjphagnloaaGreatDoor
open Go.RowKit
/-- A configuration's value: its eight slices. -/
def cfgVal (A : Nat → Option Addr) (q : Nat → Nat) (c : CfgD) : List Value := [.slice (A 0) c.modules.length (q 0), .slice (A 1) c.channels.length (q 1), .slice (A 2) c.switches.length (q 2), .slice (A 3) c.links.length (q 3), .slice (A 4) c.vls.length (q 4), .slice (A 5) c.health.length (q 5), .slice (A 6) c.causes.length (q 6), .slice (A 7) c.versions.length (q 7)]
theorem RowsAt.cells {w : World} {B : Nat} {vs : List Value} {c : CfgD} (h : RowsAt w B vs (cfgRows c)) : DCells w (fun b => B ≤ b) vs c.cells := by
  refine ⟨h.len, fun j v d hv hd => ?_⟩
  have hj := (List.getElem?_eq_some_iff.1 hd).1
  simp [CfgD.cells] at hj
  rcases (by omega : j = 0 ∨ j = 1 ∨ j = 2 ∨ j = 3 ∨ j = 4 ∨ j = 5 ∨ j = 6 ∨ j = 7) with rfl | rfl | rfl | rfl | rfl | rfl | rfl | rfl
  all_goals
    simp [CfgD.cells] at hd
    subst hd
    exact h.dat hv rfl
/-- How a call of Parse ends whose result is known. -/
def ParseC (W : World) (c : CfgD) (at_ er : Nat) (e : Ending) (W' : World) : Prop :=
  ∃ A q, e = .returned (.tuple #[.agg (cfgVal A q c).toArray, .int .i64 (at_ : Int), .int .i64 (er : Int)]) ∧ Below W.heap.size W W' ∧ DCells W' (fun b => W.heap.size ≤ b) (cfgVal A q c) c.cells
/-- The same, with the rows that the slices own. -/
def ParseO (W : World) (c : CfgD) (at_ er : Nat) (e : Ending) (W' : World) : Prop :=
  ∃ A q B, W.heap.size ≤ B ∧ e = .returned (.tuple #[.agg (cfgVal A q c).toArray, .int .i64 (at_ : Int), .int .i64 (er : Int)]) ∧ Below W.heap.size W W' ∧ RowsAt W' B (cfgVal A q c) (cfgRows c)
theorem parse_own (src : ByteArray) (c : CfgD) (at_ er : Nat) (h : parseT (lexR src.data.toList) src.size = (c, at_, er)) (W : World) (hE : Hid (Env W)) (hP : Hid (EnvP W)) : Calls Tryz.prog 11 #[.string src] W (ParseO W c at_ er) := by
  refine (parse_any src W hE hP).mono ?_
  rintro e w' ⟨vs, B, hB, rfl, hb, hr⟩
  rw [h] at hr ⊢
  dsimp only at hr ⊢
  obtain ⟨v0, v1, v2, v3, v4, v5, v6, v7, rfl⟩ := eight_of hr.len
  obtain ⟨A0, q0, h0⟩ := own_form (hr.own 0 v0 _ rfl rfl).choose_spec.1
  obtain ⟨A1, q1, h1⟩ := own_form (hr.own 1 v1 _ rfl rfl).choose_spec.1
  obtain ⟨A2, q2, h2⟩ := own_form (hr.own 2 v2 _ rfl rfl).choose_spec.1
  obtain ⟨A3, q3, h3⟩ := own_form (hr.own 3 v3 _ rfl rfl).choose_spec.1
  obtain ⟨A4, q4, h4⟩ := own_form (hr.own 4 v4 _ rfl rfl).choose_spec.1
  obtain ⟨A5, q5, h5⟩ := own_form (hr.own 5 v5 _ rfl rfl).choose_spec.1
  obtain ⟨A6, q6, h6⟩ := own_form (hr.own 6 v6 _ rfl rfl).choose_spec.1
  obtain ⟨A7, q7, h7⟩ := own_form (hr.own 7 v7 _ rfl rfl).choose_spec.1
  simp only [List.length_map] at h0 h1 h2 h3 h4 h5 h6 h7
  subst h0 h1 h2 h3 h4 h5 h6 h7
  exact ⟨fun i => match i with | 0 => A0 | 1 => A1 | 2 => A2 | 3 => A3 | 4 => A4 | 5 => A5 | 6 => A6 | _ => A7, fun i => match i with | 0 => q0 | 1 => q1 | 2 => q2 | 3 => q3 | 4 => q4 | 5 => q5 | 6 => q6 | _ => q7, B, hB, rfl, hb, hr⟩
theorem parse_call (src : ByteArray) (c : CfgD) (at_ er : Nat) (h : parseT (lexR src.data.toList) src.size = (c, at_, er)) (W : World) (hE : Hid (Env W)) (hP : Hid (EnvP W)) : Calls Tryz.prog 11 #[.string src] W (ParseC W c at_ er) := by
  refine (parse_own src c at_ er h W hE hP).mono ?_
  rintro e w' ⟨A, q, B, hB, rfl, hb, hr⟩
  exact ⟨A, q, rfl, hb, hr.cells.mono (fun b hb _ => by omega)⟩
theorem same_cfg (x y : CfgD) (u0 u1 u2 u3 u4 u5 u6 u7 v0 v1 v2 v3 v4 v5 v6 v7 : Value) (W : World) (Hu : DCells W (fun _ => True) [u0, u1, u2, u3, u4, u5, u6, u7] x.cells) (Hv : DCells W (fun _ => True) [v0, v1, v2, v3, v4, v5, v6, v7] y.cells) (hx : x.sm) (hy : y.sm) :
    Calls Tryz.prog 12 #[.agg #[u0, u1, u2, u3, u4, u5, u6, u7], .agg #[v0, v1, v2, v3, v4, v5, v6, v7]] W fun e w' => e = .returned (.bool (eqB x y)) ∧ Below W.heap.size W w' :=
  same_config x y u0 v0 u1 v1 u2 v2 u3 v3 u4 v4 u5 v5 u6 v6 u7 v7 W (Hu.2 0 _ _ rfl rfl) (Hv.2 0 _ _ rfl rfl) (Hu.2 1 _ _ rfl rfl) (Hv.2 1 _ _ rfl rfl) (Hu.2 2 _ _ rfl rfl) (Hv.2 2 _ _ rfl rfl) (Hu.2 3 _ _ rfl rfl) (Hv.2 3 _ _ rfl rfl) (Hu.2 4 _ _ rfl rfl) (Hv.2 4 _ _ rfl rfl) (Hu.2 5 _ _ rfl rfl) (Hv.2 5 _ _ rfl rfl) (Hu.2 6 _ _ rfl rfl) (Hv.2 6 _ _ rfl rfl) (Hu.2 7 _ _ rfl rfl) (Hv.2 7 _ _ rfl rfl) hx hy
/-- A slice over a whole block. -/
theorem DAt.block {w : World} {b : Nat} {cs : Array Value} {t : TypeId} {fr : Nat × Nat} {size n c : Nat} {es : List (List Dat)} {G : Nat → Prop} (h : w.heap[b]? = some (.cells cs t fr)) (hn : es.length = n) (hw : ∀ e ∈ es, e.length = size) (hc : DCells w G cs.toList es.flatten) (hG : G b) : DAt w G (.slice (some ⟨b, 0, none⟩) n c) (.row size es) := by
  have hv : ∃ val : Nat → Nat → Value, ∀ i j e d, es[i]? = some e → e[j]? = some d → w.cell? ⟨b, 0 + i * size + j, none⟩ = some (val i j) ∧ DAt w G (val i j) d := by
    refine ⟨fun i j => (cs[i * size + j]?).getD (.bool false), fun i j e d he hd => ?_⟩
    have hj : j < size := by rw [← hw e (List.mem_of_getElem? he)]; exact (List.getElem?_eq_some_iff.1 hd).1
    have hf := flat_at es hw i j e he hj
    rw [hd] at hf
    have hlt := (List.getElem?_eq_some_iff.1 hf).1
    have hcl : i * size + j < cs.size := by rw [← Array.length_toList, hc.1]; exact hlt
    have hcell := cell_of_row w b (i * size + j) _ _ _ h
    have hg : (cs[i * size + j]?).getD (.bool false) = cs[i * size + j] := by rw [Array.getElem?_eq_getElem hcl]; rfl
    show w.cell? ⟨b, 0 + i * size + j, none⟩ = some ((cs[i * size + j]?).getD (.bool false)) ∧ DAt w G ((cs[i * size + j]?).getD (.bool false)) d
    rw [hg, Nat.zero_add, hcell, Array.getElem?_eq_getElem hcl]
    exact ⟨rfl, hc.2 _ _ d (by rw [Array.getElem?_toList, Array.getElem?_eq_getElem hcl]) hf⟩
  obtain ⟨val, hval⟩ := hv
  exact .row b 0 c size n es val hn hG (Array.getElem?_eq_some_iff.1 h).1 (fun i j e d he hd => (hval i j e d he hd).1) (fun i j e d he hd => (hval i j e d he hd).2)
/-- Several new blocks. -/
def allocs (W : World) (l : List Obj) : World := l.foldl World.alloc W
theorem allocs_size : ∀ (l : List Obj) (W : World), (allocs W l).heap.size = W.heap.size + l.length
  | [], W => rfl
  | o :: l, W => by
    show (allocs (W.alloc o) l).heap.size = _
    rw [allocs_size l (W.alloc o), World.size_alloc, List.length_cons]
    omega
theorem allocs_below : ∀ (l : List Obj) (W : World), Below W.heap.size W (allocs W l)
  | [], W => Below.refl _ _
  | o :: l, W => ((Below.refl W.heap.size W).alloc (Nat.le_refl _) o).trans ((allocs_below l (W.alloc o)).mono (by simp))
theorem allocs_at : ∀ (l : List Obj) (W : World) (i : Nat) (o : Obj), l[i]? = some o → (allocs W l).heap[W.heap.size + i]? = some o
  | [], W, i, o, h => by simp at h
  | p :: l, W, 0, o, h => by
    have h : p = o := by simpa using h
    subst h
    have hb := (allocs_below l (W.alloc p)).block W.heap.size (by simp)
    rw [Nat.add_zero]
    exact hb.trans (heap_alloc_new W p)
  | p :: l, W, i + 1, o, h => by
    have := allocs_at l (W.alloc p) i o (by simpa using h)
    rw [World.size_alloc] at this
    rw [show W.heap.size + (i + 1) = W.heap.size + 1 + i by omega]
    exact this
end Go.Proofs.YtlngbjphagnloaaGreatDoor
namespace Go.Proofs.YtlngbjphagnloaaGreatDoor
open Go.RowKit
def exA : ByteArray := ⟨#[109, 111, 100, 117, 108, 101, 32, 109, 32, 109, 101, 109, 32, 54, 52, 32, 102, 114, 97, 109, 101, 32, 49, 48, 48, 32, 123, 32, 112, 97, 114, 116, 32, 112, 32, 112, 101, 114, 105, 111, 100, 32, 53, 48, 32, 108, 101, 110, 103, 116, 104, 32, 49, 48, 32, 109, 101, 109, 32, 56, 32, 123, 32, 115, 101, 109, 97, 115, 32, 49, 44, 32, 48, 59, 32, 111, 117, 116, 32, 111, 32, 115, 97, 109, 112, 108, 105, 110, 103, 32, 115, 105, 122, 101, 32, 52, 32, 114, 101, 102, 114, 101, 115, 104, 32, 48, 59, 32, 112, 114, 111, 99, 32, 97, 32, 112, 114, 105, 111, 32, 51, 32, 112, 101, 114, 105, 111, 100, 32, 53, 48, 32, 108, 105, 109, 105, 116, 32, 52, 48, 32, 123, 32, 115, 101, 116, 32, 48, 32, 53, 59, 32, 115, 101, 110, 100, 32, 48, 32, 48, 32, 49, 59, 32, 110, 101, 120, 116, 59, 32, 125, 32, 125, 32, 125, 32, 115, 119, 105, 116, 99, 104, 32, 115, 32, 110, 101, 116, 32, 98, 32, 100, 101, 108, 97, 121, 32, 49, 54, 32, 115, 116, 111, 114, 101, 32, 52, 48, 48, 59, 32, 108, 105, 110, 107, 32, 109, 32, 115, 32, 110, 101, 116, 32, 98, 32, 115, 108, 111, 119, 32, 50, 59]⟩
def exB : ByteArray := ⟨#[111, 110, 32, 115, 116, 97, 99, 107, 32, 112, 97, 114, 116, 32, 112, 32, 108, 101, 118, 101, 108, 32, 112, 97, 114, 116, 32, 100, 111, 32, 99, 111, 108, 100, 59, 32, 99, 97, 117, 115, 101, 32, 117, 32, 110, 101, 101, 100, 115, 32, 120, 32, 58, 32, 49, 44, 32, 121, 32, 58, 32, 50, 32, 117, 110, 108, 101, 115, 115, 32, 122, 59]⟩
def exC : ByteArray := ⟨#[118, 108, 32, 118, 32, 102, 114, 111, 109, 32, 109, 46, 112, 46, 111, 32, 98, 97, 103, 32, 50, 48, 48, 32, 109, 97, 120, 32, 52, 48, 32, 116, 111, 32, 109, 50, 46, 112, 46, 105]⟩
def exD : ByteArray := ⟨#[112, 97, 114, 116, 32, 112]⟩
def exE : ByteArray := ⟨#[97, 100, 100, 32, 49, 59]⟩
def wantC : CfgD := { CfgD.none with modules := [⟨[109], 64, 100, [⟨[112], 50, 10, 8, [1, 0], 0, 0, [], [⟨[111], 1, true, 4, 0, 0⟩], [⟨[97], 3, 50, 40, [⟨2, 0, 5, 0⟩, ⟨7, 0, 0, 1⟩, ⟨19, 0, 0, 0⟩]⟩]⟩]⟩], switches := [⟨[115], 1, 16, 400⟩], links := [⟨[109], [115], 1, 2⟩] }
def rowsC : CfgD := { CfgD.none with health := [⟨[], [112], 5, 2, 5⟩], causes := [⟨[117], [⟨[120], 1⟩, ⟨[121], 2⟩], [[122]]⟩] }

theorem exA_p : parseT (lexR exA.data.toList) exA.size = (wantC, 0, 0) := by kernel_rfl
theorem exB_p : parseT (lexR exB.data.toList) exB.size = (rowsC, 0, 0) := by kernel_rfl
theorem exC_p : parseT (lexR exC.data.toList) exC.size = (CfgD.none, 40, 80) := by kernel_rfl
theorem exD_p : parseT (lexR exD.data.toList) exD.size = (CfgD.none, 0, 80) := by kernel_rfl
theorem exE_p : codeT (lexR exE.data.toList) exE.size = ([], 5, 80) := by kernel_rfl
theorem wantC_sm : wantC.sm := by constructor <;> simp [wantC, CfgD.none, ModD.sm, PartD.sm, ProcD.sm]
theorem rowsC_sm : rowsC.sm := by constructor <;> simp [rowsC, CfgD.none, CauseD.sm]
/-- The eight slices of the expected configuration. -/
def wVs (z : Nat) : List Value := [.slice (some ⟨z + 1 + 1 + 1 + 1 + 1 + 1, 0, none⟩) 1 1, .slice none 0 0, .slice (some ⟨z + 1 + 1 + 1 + 1 + 1 + 1 + 1, 0, none⟩) 1 1, .slice (some ⟨z + 1 + 1 + 1 + 1 + 1 + 1 + 1 + 1, 0, none⟩) 1 1, .slice none 0 0, .slice none 0 0, .slice none 0 0, .slice none 0 0]
def wOb (z : Nat) : List Obj := [
  .cells #[.int .u8 2, .int .i64 0, .int .i64 5, .int .i64 0, .int .u8 7, .int .i64 0, .int .i64 0, .int .i64 1, .int .u8 19, .int .i64 0, .int .i64 0, .int .i64 0] 60,
  .cells #[.int .i64 1, .int .i64 0] 3,
  .cells #[.string ⟨#[111]⟩, .int .u8 1, .bool true, .int .i64 4, .int .i64 0, .int .i64 0] 53,
  .cells #[.string ⟨#[97]⟩, .int .i64 3, .int .i64 50, .int .i64 40, .slice (some ⟨z, 0, none⟩) 3 3] 67,
  .cells #[.string ⟨#[112]⟩, .int .i64 50, .int .i64 10, .int .i64 8, .slice (some ⟨z + 1, 0, none⟩) 2 2, .int .i64 0, .int .i64 0, .slice none 0 0, .slice (some ⟨z + 1 + 1, 0, none⟩) 1 1, .slice (some ⟨z + 1 + 1 + 1, 0, none⟩) 1 1] 51,
  .cells #[.string ⟨#[112]⟩, .int .i64 50, .int .i64 10, .int .i64 8, .slice (some ⟨z + 1, 0, none⟩) 2 2, .int .i64 0, .int .i64 0, .slice none 0 0, .slice (some ⟨z + 1 + 1, 0, none⟩) 1 1, .slice (some ⟨z + 1 + 1 + 1, 0, none⟩) 1 1] 51,
  .cells #[.string ⟨#[109]⟩, .int .i64 64, .int .i64 100, .slice (some ⟨z + 1 + 1 + 1 + 1 + 1, 0, none⟩) 1 1] 46,
  .cells #[.string ⟨#[115]⟩, .int .i64 1, .int .i64 16, .int .i64 400] 75,
  .cells #[.string ⟨#[109]⟩, .string ⟨#[115]⟩, .int .i64 1, .int .i64 2] 77,
  .cells (wVs z).toArray 32]
theorem want_at (W : World) : DCells (allocs W (wOb W.heap.size)) (fun _ => True) (wVs W.heap.size) wantC.cells := by
  have hat := allocs_at (wOb W.heap.size) W
  generalize allocs W (wOb W.heap.size) = V at hat
  generalize W.heap.size = z at hat
  have d0 : DAt V (fun _ => True) (.slice (some ⟨z, 0, none⟩) 3 3) (.row 4 [InsD.cells ⟨2, 0, 5, 0⟩, InsD.cells ⟨7, 0, 0, 1⟩, InsD.cells ⟨19, 0, 0, 0⟩]) :=
    DAt.block (hat 0 _ rfl) rfl (by simp [InsD.cells]) (by ((repeat (refine DCells.cons ?_ ?_; first | exact .leaf _ | exact .nil _ _ _ | assumption)); exact DCells.nil)) trivial
  have d1 : DAt V (fun _ => True) (.slice (some ⟨z + 1, 0, none⟩) 2 2) (.row 1 (intRows [1, 0])) :=
    DAt.block (hat 1 _ rfl) rfl (by simp [intRows]) (by ((repeat (refine DCells.cons ?_ ?_; first | exact .leaf _ | exact .nil _ _ _ | assumption)); exact DCells.nil)) trivial
  have d2 : DAt V (fun _ => True) (.slice (some ⟨z + 1 + 1, 0, none⟩) 1 1) (.row 6 [PortD.cells ⟨[111], 1, true, 4, 0, 0⟩]) :=
    DAt.block (hat 2 _ rfl) rfl (by simp [PortD.cells]) (by ((repeat (refine DCells.cons ?_ ?_; first | exact .leaf _ | exact .nil _ _ _ | assumption)); exact DCells.nil)) trivial
  have d3 : DAt V (fun _ => True) (.slice (some ⟨z + 1 + 1 + 1, 0, none⟩) 1 1) (.row 5 [ProcD.cells ⟨[97], 3, 50, 40, [⟨2, 0, 5, 0⟩, ⟨7, 0, 0, 1⟩, ⟨19, 0, 0, 0⟩]⟩]) :=
    DAt.block (hat 3 _ rfl) rfl (by simp [ProcD.cells]) (by ((repeat (refine DCells.cons ?_ ?_; first | exact .leaf _ | exact .nil _ _ _ | assumption)); exact DCells.nil)) trivial
  have d4 : DAt V (fun _ => True) (.slice (some ⟨z + 1 + 1 + 1 + 1 + 1, 0, none⟩) 1 1) (.row 10 [PartD.cells ⟨[112], 50, 10, 8, [1, 0], 0, 0, [], [⟨[111], 1, true, 4, 0, 0⟩], [⟨[97], 3, 50, 40, [⟨2, 0, 5, 0⟩, ⟨7, 0, 0, 1⟩, ⟨19, 0, 0, 0⟩]⟩]⟩]) :=
    DAt.block (hat 5 _ rfl) rfl (by simp [PartD.cells]) (by ((repeat (refine DCells.cons ?_ ?_; first | exact .leaf _ | exact .nil _ _ _ | assumption)); exact DCells.nil)) trivial
  have d5 : DAt V (fun _ => True) (.slice (some ⟨z + 1 + 1 + 1 + 1 + 1 + 1, 0, none⟩) 1 1) (.row 4 (wantC.modules.map ModD.cells)) :=
    DAt.block (hat 6 _ rfl) rfl (by simp [wantC, ModD.cells]) (by ((repeat (refine DCells.cons ?_ ?_; first | exact .leaf _ | exact .nil _ _ _ | assumption)); exact DCells.nil)) trivial
  have d6 : DAt V (fun _ => True) (.slice (some ⟨z + 1 + 1 + 1 + 1 + 1 + 1 + 1, 0, none⟩) 1 1) (.row 4 (wantC.switches.map SwD.cells)) :=
    DAt.block (hat 7 _ rfl) rfl (by simp [wantC, SwD.cells]) (by ((repeat (refine DCells.cons ?_ ?_; first | exact .leaf _ | exact .nil _ _ _ | assumption)); exact DCells.nil)) trivial
  have d7 : DAt V (fun _ => True) (.slice (some ⟨z + 1 + 1 + 1 + 1 + 1 + 1 + 1 + 1, 0, none⟩) 1 1) (.row 4 (wantC.links.map LinkD.cells)) :=
    DAt.block (hat 8 _ rfl) rfl (by simp [wantC, LinkD.cells]) (by ((repeat (refine DCells.cons ?_ ?_; first | exact .leaf _ | exact .nil _ _ _ | assumption)); exact DCells.nil)) trivial
  ((repeat (refine DCells.cons ?_ ?_; first | exact .leaf _ | exact .nil _ _ _ | assumption)); exact DCells.nil)
/-- The eight slices of the second expected configuration. -/
def rVs (z : Nat) : List Value := [.slice none 0 0, .slice none 0 0, .slice none 0 0, .slice none 0 0, .slice none 0 0, .slice (some ⟨z + 1, 0, none⟩) 1 1, .slice (some ⟨z + 1 + 1 + 1 + 1, 0, none⟩) 1 1, .slice none 0 0]
def rOb (z : Nat) (c : Obj) : List Obj := [c,
  .cells #[.string ⟨#[]⟩, .string ⟨#[112]⟩, .int .u8 5, .int .u8 2, .int .u8 5] 57,
  .cells #[.string ⟨#[120]⟩, .int .i64 1, .string ⟨#[121]⟩, .int .i64 2] 79,
  .cells #[.string ⟨#[122]⟩] 9,
  .cells #[.string ⟨#[117]⟩, .slice (some ⟨z + 1 + 1, 0, none⟩) 2 2, .slice (some ⟨z + 1 + 1 + 1, 0, none⟩) 1 1] 82,
  .cells (rVs z).toArray 32]
theorem rows_at (W : World) (c : Obj) : DCells (allocs W (rOb W.heap.size c)) (fun _ => True) (rVs W.heap.size) rowsC.cells := by
  have hat := allocs_at (rOb W.heap.size c) W
  generalize allocs W (rOb W.heap.size c) = V at hat
  generalize W.heap.size = z at hat
  have d0 : DAt V (fun _ => True) (.slice (some ⟨z + 1, 0, none⟩) 1 1) (.row 5 (rowsC.health.map HealthD.cells)) :=
    DAt.block (hat 1 _ rfl) rfl (by simp [rowsC, HealthD.cells]) (by ((repeat (refine DCells.cons ?_ ?_; first | exact .leaf _ | exact .nil _ _ _ | assumption)); exact DCells.nil)) trivial
  have d1 : DAt V (fun _ => True) (.slice (some ⟨z + 1 + 1, 0, none⟩) 2 2) (.row 2 [RepD.cells ⟨[120], 1⟩, RepD.cells ⟨[121], 2⟩]) :=
    DAt.block (hat 2 _ rfl) rfl (by simp [RepD.cells]) (by ((repeat (refine DCells.cons ?_ ?_; first | exact .leaf _ | exact .nil _ _ _ | assumption)); exact DCells.nil)) trivial
  have d2 : DAt V (fun _ => True) (.slice (some ⟨z + 1 + 1 + 1, 0, none⟩) 1 1) (.row 1 (strRows [[122]])) :=
    DAt.block (hat 3 _ rfl) rfl (by simp [strRows]) (by ((repeat (refine DCells.cons ?_ ?_; first | exact .leaf _ | exact .nil _ _ _ | assumption)); exact DCells.nil)) trivial
  have d3 : DAt V (fun _ => True) (.slice (some ⟨z + 1 + 1 + 1 + 1, 0, none⟩) 1 1) (.row 3 (rowsC.causes.map CauseD.cells)) :=
    DAt.block (hat 4 _ rfl) rfl (by simp [rowsC, CauseD.cells]) (by ((repeat (refine DCells.cons ?_ ?_; first | exact .leaf _ | exact .nil _ _ _ | assumption)); exact DCells.nil)) trivial
  ((repeat (refine DCells.cons ?_ ?_; first | exact .leaf _ | exact .nil _ _ _ | assumption)); exact DCells.nil)
theorem exE_call (W : World) (hE : Hid (Env W)) (hP : Hid (EnvP W)) : Calls Tryz.prog 20 #[.string exE] W fun e W' => ∃ A q, e = .returned (.tuple #[.slice A 0 q, .int .i64 5, .int .i64 80]) ∧ Below W.heap.size W W' := by
  refine (pcode_any exE W hE hP).mono ?_
  rintro e w' ⟨v, rfl, hb, ho⟩
  rw [exE_p] at ho ⊢
  obtain ⟨A, q, rfl⟩ := own_form ho
  exact ⟨A, q, rfl, hb⟩
end Go.Proofs.YtlngbjphagnloaaGreatDoor

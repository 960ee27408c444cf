/-
  Merged texts: parse: item.
-/
import Derived.Test.YtlngbjphagnloaaGreatDoorPk20
import Derived.Test.YtlngbjphagnloaaGreatDoorPk21
import Derived.Test.YtlngbjphagnloaaGreatDoorPk22
import Derived.Test.YtlngbjphagnloaaGreatDoorPk23
import Derived.Test.YtlngbjphagnloaaGreatDoorPk24
import Derived.Test.YtlngbjphagnloaaGreatDoorPk25
import Derived.Test.YtlngbjphagnloaaGreatDoorPk4
namespace Go.Proofs.YtlngbjphagnloaaGreatDoor
open Go.RowKit
open Go.ChangeMaps (setBlock)
attribute [local go_sem] Later.cell
def itmWords : List (List UInt8) := [[109, 111, 100, 117, 108, 101], [99, 104, 97, 110, 110, 101, 108], [115, 119, 105, 116, 99, 104], [108, 105, 110, 107], [118, 108], [111, 110], [99, 97, 117, 115, 101], [119, 111, 114, 107, 115]]
theorem itm_module {ts : List Tok} (hT : TokOk ts) (j : Nat) (c : CfgD) (hw : (hdT (ts.drop j)).text = [109, 111, 100, 117, 108, 101]) : itemP c (ts.drop j) = (modP >>= fun x => pure { c with modules := c.modules ++ [x] }) (ts.drop (j + 1)) := by
  unfold itemP
  rw [sees_text hT j 109 [111, 100, 117, 108, 101] (by decide), hw]
  exact bnd_ok (show skipP (ts.drop j) = .ok () (ts.drop (j + 1)) from congrArg (Res.ok ()) (by simp))
theorem itm_channel {ts : List Tok} (hT : TokOk ts) (j : Nat) (c : CfgD) (hw : (hdT (ts.drop j)).text = [99, 104, 97, 110, 110, 101, 108]) : itemP c (ts.drop j) = (chanP >>= fun x => pure { c with channels := c.channels ++ [x] }) (ts.drop (j + 1)) := by
  unfold itemP
  rw [sees_text hT j 109 [111, 100, 117, 108, 101] (by decide), sees_text hT j 99 [104, 97, 110, 110, 101, 108] (by decide), hw]
  exact bnd_ok (show skipP (ts.drop j) = .ok () (ts.drop (j + 1)) from congrArg (Res.ok ()) (by simp))
theorem itm_switch {ts : List Tok} (hT : TokOk ts) (j : Nat) (c : CfgD) (hw : (hdT (ts.drop j)).text = [115, 119, 105, 116, 99, 104]) : itemP c (ts.drop j) = (swP >>= fun x => pure { c with switches := c.switches ++ [x] }) (ts.drop (j + 1)) := by
  unfold itemP
  rw [sees_text hT j 109 [111, 100, 117, 108, 101] (by decide), sees_text hT j 99 [104, 97, 110, 110, 101, 108] (by decide), sees_text hT j 115 [119, 105, 116, 99, 104] (by decide), hw]
  exact bnd_ok (show skipP (ts.drop j) = .ok () (ts.drop (j + 1)) from congrArg (Res.ok ()) (by simp))
theorem itm_link {ts : List Tok} (hT : TokOk ts) (j : Nat) (c : CfgD) (hw : (hdT (ts.drop j)).text = [108, 105, 110, 107]) : itemP c (ts.drop j) = (linkP >>= fun x => pure { c with links := c.links ++ [x] }) (ts.drop (j + 1)) := by
  unfold itemP
  rw [sees_text hT j 109 [111, 100, 117, 108, 101] (by decide), sees_text hT j 99 [104, 97, 110, 110, 101, 108] (by decide), sees_text hT j 115 [119, 105, 116, 99, 104] (by decide), sees_text hT j 108 [105, 110, 107] (by decide), hw]
  exact bnd_ok (show skipP (ts.drop j) = .ok () (ts.drop (j + 1)) from congrArg (Res.ok ()) (by simp))
theorem itm_vl {ts : List Tok} (hT : TokOk ts) (j : Nat) (c : CfgD) (hw : (hdT (ts.drop j)).text = [118, 108]) : itemP c (ts.drop j) = (vlP >>= fun x => pure { c with vls := c.vls ++ [x] }) (ts.drop (j + 1)) := by
  unfold itemP
  rw [sees_text hT j 109 [111, 100, 117, 108, 101] (by decide), sees_text hT j 99 [104, 97, 110, 110, 101, 108] (by decide), sees_text hT j 115 [119, 105, 116, 99, 104] (by decide), sees_text hT j 108 [105, 110, 107] (by decide), sees_text hT j 118 [108] (by decide), hw]
  exact bnd_ok (show skipP (ts.drop j) = .ok () (ts.drop (j + 1)) from congrArg (Res.ok ()) (by simp))
theorem itm_on {ts : List Tok} (hT : TokOk ts) (j : Nat) (c : CfgD) (hw : (hdT (ts.drop j)).text = [111, 110]) : itemP c (ts.drop j) = (healthP >>= fun x => pure { c with health := c.health ++ [x] }) (ts.drop (j + 1)) := by
  unfold itemP
  rw [sees_text hT j 109 [111, 100, 117, 108, 101] (by decide), sees_text hT j 99 [104, 97, 110, 110, 101, 108] (by decide), sees_text hT j 115 [119, 105, 116, 99, 104] (by decide), sees_text hT j 108 [105, 110, 107] (by decide), sees_text hT j 118 [108] (by decide), sees_text hT j 111 [110] (by decide), hw]
  exact bnd_ok (show skipP (ts.drop j) = .ok () (ts.drop (j + 1)) from congrArg (Res.ok ()) (by simp))
theorem itm_cause {ts : List Tok} (hT : TokOk ts) (j : Nat) (c : CfgD) (hw : (hdT (ts.drop j)).text = [99, 97, 117, 115, 101]) : itemP c (ts.drop j) = (causeP >>= fun x => pure { c with causes := c.causes ++ [x] }) (ts.drop (j + 1)) := by
  unfold itemP
  rw [sees_text hT j 109 [111, 100, 117, 108, 101] (by decide), sees_text hT j 99 [104, 97, 110, 110, 101, 108] (by decide), sees_text hT j 115 [119, 105, 116, 99, 104] (by decide), sees_text hT j 108 [105, 110, 107] (by decide), sees_text hT j 118 [108] (by decide), sees_text hT j 111 [110] (by decide), sees_text hT j 99 [97, 117, 115, 101] (by decide), hw]
  exact bnd_ok (show skipP (ts.drop j) = .ok () (ts.drop (j + 1)) from congrArg (Res.ok ()) (by simp))
theorem itm_works {ts : List Tok} (hT : TokOk ts) (j : Nat) (c : CfgD) (hw : (hdT (ts.drop j)).text = [119, 111, 114, 107, 115]) : itemP c (ts.drop j) = (worksP >>= fun x => pure { c with versions := c.versions ++ [x] }) (ts.drop (j + 1)) := by
  unfold itemP
  rw [sees_text hT j 109 [111, 100, 117, 108, 101] (by decide), sees_text hT j 99 [104, 97, 110, 110, 101, 108] (by decide), sees_text hT j 115 [119, 105, 116, 99, 104] (by decide), sees_text hT j 108 [105, 110, 107] (by decide), sees_text hT j 118 [108] (by decide), sees_text hT j 111 [110] (by decide), sees_text hT j 99 [97, 117, 115, 101] (by decide), sees_text hT j 119 [111, 114, 107, 115] (by decide), hw]
  exact bnd_ok (show skipP (ts.drop j) = .ok () (ts.drop (j + 1)) from congrArg (Res.ok ()) (by simp))
theorem itm_none {ts : List Tok} (hT : TokOk ts) (j : Nat) (c : CfgD) (hw : (hdT (ts.drop j)).text ∉ itmWords) : itemP c (ts.drop j) = .bad 80 (ts.drop j) := by
  simp only [itmWords, List.mem_cons, List.not_mem_nil, or_false, not_or] at hw
  obtain ⟨h0, h1, h2, h3, h4, h5, h6, h7⟩ := hw
  unfold itemP
  rw [sees_text hT j 109 [111, 100, 117, 108, 101] (by decide), sees_text hT j 99 [104, 97, 110, 110, 101, 108] (by decide), sees_text hT j 115 [119, 105, 116, 99, 104] (by decide), sees_text hT j 108 [105, 110, 107] (by decide), sees_text hT j 118 [108] (by decide), sees_text hT j 111 [110] (by decide), sees_text hT j 99 [97, 117, 115, 101] (by decide), sees_text hT j 119 [111, 114, 107, 115] (by decide), beq_eq_false_iff_ne.2 h0, beq_eq_false_iff_ne.2 h1, beq_eq_false_iff_ne.2 h2, beq_eq_false_iff_ne.2 h3, beq_eq_false_iff_ne.2 h4, beq_eq_false_iff_ne.2 h5, beq_eq_false_iff_ne.2 h6, beq_eq_false_iff_ne.2 h7]
  rfl
theorem item_grow {c c' : CfgD} {r r' : List Tok} (e : itemP c r = .ok c' r') : c'.count ≤ c.count + 1 := by
  have hs : ∀ {α : Type} (m : Ps α) (g : α → CfgD), (∀ a, (g a).count ≤ c.count + 1) → (skipP >>= fun _ => m >>= fun x => pure (g x)) r = .ok c' r' → c'.count ≤ c.count + 1 := fun m g hg e => (Post.then (Q := fun a : CfgD => a.count ≤ c.count + 1) fun _ => .then fun x => .ret (hg x)) r c' r' e
  unfold itemP at e
  split at e
  · exact hs modP (fun x => { c with modules := c.modules ++ [x] }) (fun a => by simp [CfgD.count]; omega) e
  split at e
  · exact hs chanP (fun x => { c with channels := c.channels ++ [x] }) (fun a => by simp [CfgD.count]; omega) e
  split at e
  · exact hs swP (fun x => { c with switches := c.switches ++ [x] }) (fun a => by simp [CfgD.count]; omega) e
  split at e
  · exact hs linkP (fun x => { c with links := c.links ++ [x] }) (fun a => by simp [CfgD.count]; omega) e
  split at e
  · exact hs vlP (fun x => { c with vls := c.vls ++ [x] }) (fun a => by simp [CfgD.count]; omega) e
  split at e
  · exact hs healthP (fun x => { c with health := c.health ++ [x] }) (fun a => by simp [CfgD.count]; omega) e
  split at e
  · exact hs causeP (fun x => { c with causes := c.causes ++ [x] }) (fun a => by simp [CfgD.count]; omega) e
  split at e
  · exact hs worksP (fun x => { c with versions := c.versions ++ [x] }) (fun a => by simp [CfgD.count]; omega) e
  · cases e
theorem run_insG (w : World) (tb : Nat) (htb : tb = w.heap.size) (es : Array MapEntry) (c : Nat) (K : ByteArray) (v : Value) (hf : Instr.findNow .string (.string K) es.toList 0 = some none) :
    (Instr.mapUpdate 125 (.map (some tb)) (.string K) v).run Tryz.prog (w.alloc (.map es c)) = .ok () (w.alloc (.map (es.push { key := .string K, val := v, born := c }) (c + 1))) := by
  subst htb
  have hb := heap_alloc_new w (.map es c)
  have hs := setBlock_new w (.map es c) (.map (es.push { key := .string K, val := v, born := c }) (c + 1))
  unfold setBlock at hs
  simp [Instr.mapUpdate, run_underlying Tryz.underlying125, MapKept.run_getObj_map hb, run_ckI, Instr.findKey, run_underlying Tryz.underlying9, hf, MapKept.run_setObj_map _ hb, Result.andThen]
  exact hs
def itms : Array MapEntry := #[⟨.string ⟨#[109, 111, 100, 117, 108, 101]⟩, .func (.func 57) #[] #[], 0⟩, ⟨.string ⟨#[99, 104, 97, 110, 110, 101, 108]⟩, .func (.func 58) #[] #[], 1⟩, ⟨.string ⟨#[115, 119, 105, 116, 99, 104]⟩, .func (.func 59) #[] #[], 2⟩, ⟨.string ⟨#[108, 105, 110, 107]⟩, .func (.func 60) #[] #[], 3⟩, ⟨.string ⟨#[118, 108]⟩, .func (.func 61) #[] #[], 4⟩, ⟨.string ⟨#[111, 110]⟩, .func (.func 62) #[] #[], 5⟩, ⟨.string ⟨#[99, 97, 117, 115, 101]⟩, .func (.func 63) #[] #[], 6⟩, ⟨.string ⟨#[119, 111, 114, 107, 115]⟩, .func (.func 64) #[] #[], 7⟩]
def itmL : List (List UInt8 × Value) := [([109, 111, 100, 117, 108, 101], .func (.func 57) #[] #[]), ([99, 104, 97, 110, 110, 101, 108], .func (.func 58) #[] #[]), ([115, 119, 105, 116, 99, 104], .func (.func 59) #[] #[]), ([108, 105, 110, 107], .func (.func 60) #[] #[]), ([118, 108], .func (.func 61) #[] #[]), ([111, 110], .func (.func 62) #[] #[]), ([99, 97, 117, 115, 101], .func (.func 63) #[] #[]), ([119, 111, 114, 107, 115], .func (.func 64) #[] #[])]
theorem zeroG (w : World) : (zeroValue 90).run Tryz.prog w = .ok .nilFunc w := by kernel_rfl
theorem run_lookG {w : World} {tb c : Nat} (h : w.heap[tb]? = some (.map itms c)) (K : ByteArray) (v : Value) (hv : itmL.find? (fun p => K.data.toList == p.1) = some (K.data.toList, v)) :
    (Instr.lookup 125 (.map (some tb)) (.string K) false).run Tryz.prog w = .ok v w := by
  obtain ⟨n, hn⟩ := (findNow_list K itms.toList itmL 0 rfl).2 v hv
  simp [Instr.lookup, run_underlying Tryz.underlying125, MapKept.run_getObj_map h, run_ckI, Instr.findKey, run_underlying Tryz.underlying9, hn, Result.andThen]
theorem run_lookGN {w : World} {tb c : Nat} (h : w.heap[tb]? = some (.map itms c)) (K : ByteArray) (hv : K.data.toList ∉ itmL.map (·.1)) :
    (Instr.lookup 125 (.map (some tb)) (.string K) false).run Tryz.prog w = .ok .nilFunc w := by
  have hn := (findNow_list K itms.toList itmL 0 rfl).1 hv
  simp [Instr.lookup, run_underlying Tryz.underlying125, MapKept.run_getObj_map h, run_ckI, Instr.findKey, run_underlying Tryz.underlying9, hn, Result.andThen]
theorem neq_funG (fn : Fn) (first caps : Array Value) (w : World) : (binOp .neq 90 (.func fn first caps) .nilFunc).run Tryz.prog w = .ok (.bool true) w := by kernel_rfl
theorem neq_nilG (w : World) : (binOp .neq 90 .nilFunc .nilFunc).run Tryz.prog w = .ok (.bool false) w := by kernel_rfl
set_option maxRecDepth 100000 in
set_option maxHeartbeats 4000000 in
theorem item_module (pb j B : Nat) (ts : List Tok) (c : CfgD) (W : World) (H : Hid (PSt pb ts j c B W)) (hts : ts.length ≤ 1000000) (hj : j ≤ ts.length) (hT : Hid (TokOk ts)) (hE : Hid (EnvP W)) (hpE : 3 ≤ pb) (hfew : c.count ≤ ts.length)(hw : Hid ((hdT (ts.drop j)).text = [109, 111, 100, 117, 108, 101])) :
    Calls Tryz.prog 36 #[.pointer (some ⟨pb, 0, none⟩)] W fun e W' => EndsC pb ts W B (itemP c (ts.drop j)) e W' := by
  have hpb := H.out.cur.lt
  have hts' : ts.length ≤ 1099511627776 := by omega
  have hg := hide hT.out.good
  have ft1 := field_tok1
  have hmm := @run_makeMap Tryz.prog
  have hi0 := fun (v : Value) => run_insG W W.heap.size rfl #[] 0 ⟨#[109, 111, 100, 117, 108, 101]⟩ v (by kernel_rfl)
  have hi1 := fun (v : Value) => run_insG W W.heap.size rfl #[⟨.string ⟨#[109, 111, 100, 117, 108, 101]⟩, .func (.func 57) #[] #[], 0⟩] 1 ⟨#[99, 104, 97, 110, 110, 101, 108]⟩ v (by kernel_rfl)
  have hi2 := fun (v : Value) => run_insG W W.heap.size rfl #[⟨.string ⟨#[109, 111, 100, 117, 108, 101]⟩, .func (.func 57) #[] #[], 0⟩, ⟨.string ⟨#[99, 104, 97, 110, 110, 101, 108]⟩, .func (.func 58) #[] #[], 1⟩] 2 ⟨#[115, 119, 105, 116, 99, 104]⟩ v (by kernel_rfl)
  have hi3 := fun (v : Value) => run_insG W W.heap.size rfl #[⟨.string ⟨#[109, 111, 100, 117, 108, 101]⟩, .func (.func 57) #[] #[], 0⟩, ⟨.string ⟨#[99, 104, 97, 110, 110, 101, 108]⟩, .func (.func 58) #[] #[], 1⟩, ⟨.string ⟨#[115, 119, 105, 116, 99, 104]⟩, .func (.func 59) #[] #[], 2⟩] 3 ⟨#[108, 105, 110, 107]⟩ v (by kernel_rfl)
  have hi4 := fun (v : Value) => run_insG W W.heap.size rfl #[⟨.string ⟨#[109, 111, 100, 117, 108, 101]⟩, .func (.func 57) #[] #[], 0⟩, ⟨.string ⟨#[99, 104, 97, 110, 110, 101, 108]⟩, .func (.func 58) #[] #[], 1⟩, ⟨.string ⟨#[115, 119, 105, 116, 99, 104]⟩, .func (.func 59) #[] #[], 2⟩, ⟨.string ⟨#[108, 105, 110, 107]⟩, .func (.func 60) #[] #[], 3⟩] 4 ⟨#[118, 108]⟩ v (by kernel_rfl)
  have hi5 := fun (v : Value) => run_insG W W.heap.size rfl #[⟨.string ⟨#[109, 111, 100, 117, 108, 101]⟩, .func (.func 57) #[] #[], 0⟩, ⟨.string ⟨#[99, 104, 97, 110, 110, 101, 108]⟩, .func (.func 58) #[] #[], 1⟩, ⟨.string ⟨#[115, 119, 105, 116, 99, 104]⟩, .func (.func 59) #[] #[], 2⟩, ⟨.string ⟨#[108, 105, 110, 107]⟩, .func (.func 60) #[] #[], 3⟩, ⟨.string ⟨#[118, 108]⟩, .func (.func 61) #[] #[], 4⟩] 5 ⟨#[111, 110]⟩ v (by kernel_rfl)
  have hi6 := fun (v : Value) => run_insG W W.heap.size rfl #[⟨.string ⟨#[109, 111, 100, 117, 108, 101]⟩, .func (.func 57) #[] #[], 0⟩, ⟨.string ⟨#[99, 104, 97, 110, 110, 101, 108]⟩, .func (.func 58) #[] #[], 1⟩, ⟨.string ⟨#[115, 119, 105, 116, 99, 104]⟩, .func (.func 59) #[] #[], 2⟩, ⟨.string ⟨#[108, 105, 110, 107]⟩, .func (.func 60) #[] #[], 3⟩, ⟨.string ⟨#[118, 108]⟩, .func (.func 61) #[] #[], 4⟩, ⟨.string ⟨#[111, 110]⟩, .func (.func 62) #[] #[], 5⟩] 6 ⟨#[99, 97, 117, 115, 101]⟩ v (by kernel_rfl)
  have hi7 := fun (v : Value) => run_insG W W.heap.size rfl #[⟨.string ⟨#[109, 111, 100, 117, 108, 101]⟩, .func (.func 57) #[] #[], 0⟩, ⟨.string ⟨#[99, 104, 97, 110, 110, 101, 108]⟩, .func (.func 58) #[] #[], 1⟩, ⟨.string ⟨#[115, 119, 105, 116, 99, 104]⟩, .func (.func 59) #[] #[], 2⟩, ⟨.string ⟨#[108, 105, 110, 107]⟩, .func (.func 60) #[] #[], 3⟩, ⟨.string ⟨#[118, 108]⟩, .func (.func 61) #[] #[], 4⟩, ⟨.string ⟨#[111, 110]⟩, .func (.func 62) #[] #[], 5⟩, ⟨.string ⟨#[99, 97, 117, 115, 101]⟩, .func (.func 63) #[] #[], 6⟩] 7 ⟨#[119, 111, 114, 107, 115]⟩ v (by kernel_rfl)
  have HA0 := hide (AtJ.start H.out.cur.now H.out.cur.free)
  have HV := hide ((Below.refl W.heap.size W).alloc (Nat.le_refl _) (.map itms 8))
  have HMp := hide (heap_alloc_new W (.map itms 8))
  go_enter Tryz.func36, Tryz.ntmps36
  go_wp2_with fail
  change Calls _ _ _ (W.alloc (.map itms 8)) _
  generalize W.alloc (.map itms 8) = V at *
  clear hi0 hi1 hi2 hi3 hi4 hi5 hi6 hi7 hmm
  have HAV := hide (HA0.out.below hpb HV.out)
  have HC := hide (here_any pb j ts V (hide (H.out.cur.to HAV.out)) hts' hj)
  generalize ht : hdT (ts.drop j) = t at HC hw
  have HT0 := hide ht
  clear ht
  obtain ⟨κ, tx, ta⟩ := t
  unfold tokVal at HC
  dsimp only at HC hw
  generalize (κ : Int) = κz at HC
  generalize (ta : Int) = taz at HC
  refine (HC.out).mono ?_
  rintro e w1 ⟨rfl, hb⟩
  have HA1 := hide (HAV.out.below hpb hb)
  have hml := (Array.getElem?_eq_some_iff.1 HMp.out).1
  have HM1 := hide ((hb.block _ hml).trans HMp.out)
  clear hb HC HAV HA0 hml
  generalize hKK : (⟨tx.toArray⟩ : ByteArray) = K at *
  have HKW : Hid (K.data.toList = [109, 111, 100, 117, 108, 101]) := hide (by rw [← hKK]; exact hw.out)
  clear hKK
  have hjl : j < ts.length := by
    rcases Nat.lt_or_ge j ts.length with h | h
    · exact h
    · have h1 := hw.out
      rw [hdT_end ts j h] at HT0
      have h2 := congrArg Tok.text HT0.out
      simp only at h2
      rw [← h2] at h1
      cases h1
  have HTH := hide (itm_module hT.out j c (by rw [HT0.out]; exact hw.out))
  clear hw HT0
  have hl := run_lookG HM1.out K (.func (.func 57) #[] #[]) (by rw [HKW.out]; rfl)
  have hne := neq_funG
  go_wp2_with fail
  ((with_reducible refine (check_yes _ _ _).mono ?_); rintro e w'' ⟨rfl, rfl⟩)
  clear hl hne
  have hw3 : pb < w''.heap.size := Nat.lt_of_lt_of_le hpb HA1.out.kept.size
  have e1 : w''.cell? ⟨pb, 1, none⟩ = some (.int .i64 (j : Int)) := HA1.out.here
  have e2 := HA1.out.free
  have k1 : (j : Int) + 1 < 9223372036854775808 := by omega
  have k2 : -9223372036854775808 ≤ (j : Int) + 1 := by omega
  generalize hz : (j : Int) = z at e1 k1 k2
  have HZ := hide hz
  clear hz
  go_wp2_with fail
  have HA4 := hide (HA1.out.goto hpb (j + 1))
  rw [show ((j + 1 : Nat) : Int) = z + 1 from by have := HZ.out; omega] at HA4
  clear HA1 HM1 HMp HV e1 e2 k1 k2 hw3
  generalize w''.setCell ⟨pb, 1, none⟩ (.int .i64 (z + 1)) = V4 at *
  have HS4 := hide (H.out.to HA4.out)
  have HE4 := hide (hE.out.to hpE HA4.out)
  refine (module_any pb (j + 1) B ts c V4 HS4 hts hjl hT HE4 hpE (by unfold CfgD.count at hfew; omega)).mono ?_
  rintro e w5 hE5
  rcases hE5.split with ⟨c5, j5, hr, hj5, hK, hP, rfl⟩ | ⟨n, jn, hr, hjn, hK, hC, rfl⟩
  rotate_left
  · have HX := hide (EndsC.mk_bad (HTH.out.trans hr) hjn (HA4.out.kp.trans hK) hC)
    clear hE5 hr hK hC
    go_wp2_with fail
    exact ⟨rfl, HX.out⟩
  have HX := hide (EndsC.mk_ok (HTH.out.trans hr) hj5 (HA4.out.kp.trans hK) hP)
  clear hE5 hr hK hP
  go_wp2_with fail
  go_end0
  exact HX.out
set_option maxRecDepth 100000 in
set_option maxHeartbeats 4000000 in
theorem item_channel (pb j B : Nat) (ts : List Tok) (c : CfgD) (W : World) (H : Hid (PSt pb ts j c B W)) (hts : ts.length ≤ 1000000) (hj : j ≤ ts.length) (hT : Hid (TokOk ts)) (hE : Hid (EnvP W)) (hpE : 3 ≤ pb) (hfew : c.count ≤ ts.length)(hw : Hid ((hdT (ts.drop j)).text = [99, 104, 97, 110, 110, 101, 108])) :
    Calls Tryz.prog 36 #[.pointer (some ⟨pb, 0, none⟩)] W fun e W' => EndsC pb ts W B (itemP c (ts.drop j)) e W' := by
  have hpb := H.out.cur.lt
  have hts' : ts.length ≤ 1099511627776 := by omega
  have hg := hide hT.out.good
  have ft1 := field_tok1
  have hmm := @run_makeMap Tryz.prog
  have hi0 := fun (v : Value) => run_insG W W.heap.size rfl #[] 0 ⟨#[109, 111, 100, 117, 108, 101]⟩ v (by kernel_rfl)
  have hi1 := fun (v : Value) => run_insG W W.heap.size rfl #[⟨.string ⟨#[109, 111, 100, 117, 108, 101]⟩, .func (.func 57) #[] #[], 0⟩] 1 ⟨#[99, 104, 97, 110, 110, 101, 108]⟩ v (by kernel_rfl)
  have hi2 := fun (v : Value) => run_insG W W.heap.size rfl #[⟨.string ⟨#[109, 111, 100, 117, 108, 101]⟩, .func (.func 57) #[] #[], 0⟩, ⟨.string ⟨#[99, 104, 97, 110, 110, 101, 108]⟩, .func (.func 58) #[] #[], 1⟩] 2 ⟨#[115, 119, 105, 116, 99, 104]⟩ v (by kernel_rfl)
  have hi3 := fun (v : Value) => run_insG W W.heap.size rfl #[⟨.string ⟨#[109, 111, 100, 117, 108, 101]⟩, .func (.func 57) #[] #[], 0⟩, ⟨.string ⟨#[99, 104, 97, 110, 110, 101, 108]⟩, .func (.func 58) #[] #[], 1⟩, ⟨.string ⟨#[115, 119, 105, 116, 99, 104]⟩, .func (.func 59) #[] #[], 2⟩] 3 ⟨#[108, 105, 110, 107]⟩ v (by kernel_rfl)
  have hi4 := fun (v : Value) => run_insG W W.heap.size rfl #[⟨.string ⟨#[109, 111, 100, 117, 108, 101]⟩, .func (.func 57) #[] #[], 0⟩, ⟨.string ⟨#[99, 104, 97, 110, 110, 101, 108]⟩, .func (.func 58) #[] #[], 1⟩, ⟨.string ⟨#[115, 119, 105, 116, 99, 104]⟩, .func (.func 59) #[] #[], 2⟩, ⟨.string ⟨#[108, 105, 110, 107]⟩, .func (.func 60) #[] #[], 3⟩] 4 ⟨#[118, 108]⟩ v (by kernel_rfl)
  have hi5 := fun (v : Value) => run_insG W W.heap.size rfl #[⟨.string ⟨#[109, 111, 100, 117, 108, 101]⟩, .func (.func 57) #[] #[], 0⟩, ⟨.string ⟨#[99, 104, 97, 110, 110, 101, 108]⟩, .func (.func 58) #[] #[], 1⟩, ⟨.string ⟨#[115, 119, 105, 116, 99, 104]⟩, .func (.func 59) #[] #[], 2⟩, ⟨.string ⟨#[108, 105, 110, 107]⟩, .func (.func 60) #[] #[], 3⟩, ⟨.string ⟨#[118, 108]⟩, .func (.func 61) #[] #[], 4⟩] 5 ⟨#[111, 110]⟩ v (by kernel_rfl)
  have hi6 := fun (v : Value) => run_insG W W.heap.size rfl #[⟨.string ⟨#[109, 111, 100, 117, 108, 101]⟩, .func (.func 57) #[] #[], 0⟩, ⟨.string ⟨#[99, 104, 97, 110, 110, 101, 108]⟩, .func (.func 58) #[] #[], 1⟩, ⟨.string ⟨#[115, 119, 105, 116, 99, 104]⟩, .func (.func 59) #[] #[], 2⟩, ⟨.string ⟨#[108, 105, 110, 107]⟩, .func (.func 60) #[] #[], 3⟩, ⟨.string ⟨#[118, 108]⟩, .func (.func 61) #[] #[], 4⟩, ⟨.string ⟨#[111, 110]⟩, .func (.func 62) #[] #[], 5⟩] 6 ⟨#[99, 97, 117, 115, 101]⟩ v (by kernel_rfl)
  have hi7 := fun (v : Value) => run_insG W W.heap.size rfl #[⟨.string ⟨#[109, 111, 100, 117, 108, 101]⟩, .func (.func 57) #[] #[], 0⟩, ⟨.string ⟨#[99, 104, 97, 110, 110, 101, 108]⟩, .func (.func 58) #[] #[], 1⟩, ⟨.string ⟨#[115, 119, 105, 116, 99, 104]⟩, .func (.func 59) #[] #[], 2⟩, ⟨.string ⟨#[108, 105, 110, 107]⟩, .func (.func 60) #[] #[], 3⟩, ⟨.string ⟨#[118, 108]⟩, .func (.func 61) #[] #[], 4⟩, ⟨.string ⟨#[111, 110]⟩, .func (.func 62) #[] #[], 5⟩, ⟨.string ⟨#[99, 97, 117, 115, 101]⟩, .func (.func 63) #[] #[], 6⟩] 7 ⟨#[119, 111, 114, 107, 115]⟩ v (by kernel_rfl)
  have HA0 := hide (AtJ.start H.out.cur.now H.out.cur.free)
  have HV := hide ((Below.refl W.heap.size W).alloc (Nat.le_refl _) (.map itms 8))
  have HMp := hide (heap_alloc_new W (.map itms 8))
  go_enter Tryz.func36, Tryz.ntmps36
  go_wp2_with fail
  change Calls _ _ _ (W.alloc (.map itms 8)) _
  generalize W.alloc (.map itms 8) = V at *
  clear hi0 hi1 hi2 hi3 hi4 hi5 hi6 hi7 hmm
  have HAV := hide (HA0.out.below hpb HV.out)
  have HC := hide (here_any pb j ts V (hide (H.out.cur.to HAV.out)) hts' hj)
  generalize ht : hdT (ts.drop j) = t at HC hw
  have HT0 := hide ht
  clear ht
  obtain ⟨κ, tx, ta⟩ := t
  unfold tokVal at HC
  dsimp only at HC hw
  generalize (κ : Int) = κz at HC
  generalize (ta : Int) = taz at HC
  refine (HC.out).mono ?_
  rintro e w1 ⟨rfl, hb⟩
  have HA1 := hide (HAV.out.below hpb hb)
  have hml := (Array.getElem?_eq_some_iff.1 HMp.out).1
  have HM1 := hide ((hb.block _ hml).trans HMp.out)
  clear hb HC HAV HA0 hml
  generalize hKK : (⟨tx.toArray⟩ : ByteArray) = K at *
  have HKW : Hid (K.data.toList = [99, 104, 97, 110, 110, 101, 108]) := hide (by rw [← hKK]; exact hw.out)
  clear hKK
  have hjl : j < ts.length := by
    rcases Nat.lt_or_ge j ts.length with h | h
    · exact h
    · have h1 := hw.out
      rw [hdT_end ts j h] at HT0
      have h2 := congrArg Tok.text HT0.out
      simp only at h2
      rw [← h2] at h1
      cases h1
  have HTH := hide (itm_channel hT.out j c (by rw [HT0.out]; exact hw.out))
  clear hw HT0
  have hl := run_lookG HM1.out K (.func (.func 58) #[] #[]) (by rw [HKW.out]; rfl)
  have hne := neq_funG
  go_wp2_with fail
  ((with_reducible refine (check_yes _ _ _).mono ?_); rintro e w'' ⟨rfl, rfl⟩)
  clear hl hne
  have hw3 : pb < w''.heap.size := Nat.lt_of_lt_of_le hpb HA1.out.kept.size
  have e1 : w''.cell? ⟨pb, 1, none⟩ = some (.int .i64 (j : Int)) := HA1.out.here
  have e2 := HA1.out.free
  have k1 : (j : Int) + 1 < 9223372036854775808 := by omega
  have k2 : -9223372036854775808 ≤ (j : Int) + 1 := by omega
  generalize hz : (j : Int) = z at e1 k1 k2
  have HZ := hide hz
  clear hz
  go_wp2_with fail
  have HA4 := hide (HA1.out.goto hpb (j + 1))
  rw [show ((j + 1 : Nat) : Int) = z + 1 from by have := HZ.out; omega] at HA4
  clear HA1 HM1 HMp HV e1 e2 k1 k2 hw3
  generalize w''.setCell ⟨pb, 1, none⟩ (.int .i64 (z + 1)) = V4 at *
  have HS4 := hide (H.out.to HA4.out)
  have HE4 := hide (hE.out.to hpE HA4.out)
  refine (channel_any pb (j + 1) B ts c V4 HS4 hts hjl hg HE4 hpE (by unfold CfgD.count at hfew; omega)).mono ?_
  rintro e w5 hE5
  rcases hE5.split with ⟨c5, j5, hr, hj5, hK, hP, rfl⟩ | ⟨n, jn, hr, hjn, hK, hC, rfl⟩
  rotate_left
  · have HX := hide (EndsC.mk_bad (HTH.out.trans hr) hjn (HA4.out.kp.trans hK) hC)
    clear hE5 hr hK hC
    go_wp2_with fail
    exact ⟨rfl, HX.out⟩
  have HX := hide (EndsC.mk_ok (HTH.out.trans hr) hj5 (HA4.out.kp.trans hK) hP)
  clear hE5 hr hK hP
  go_wp2_with fail
  go_end0
  exact HX.out
set_option maxRecDepth 100000 in
set_option maxHeartbeats 4000000 in
theorem item_switch (pb j B : Nat) (ts : List Tok) (c : CfgD) (W : World) (H : Hid (PSt pb ts j c B W)) (hts : ts.length ≤ 1000000) (hj : j ≤ ts.length) (hT : Hid (TokOk ts)) (hE : Hid (EnvP W)) (hpE : 3 ≤ pb) (hfew : c.count ≤ ts.length)(hw : Hid ((hdT (ts.drop j)).text = [115, 119, 105, 116, 99, 104])) :
    Calls Tryz.prog 36 #[.pointer (some ⟨pb, 0, none⟩)] W fun e W' => EndsC pb ts W B (itemP c (ts.drop j)) e W' := by
  have hpb := H.out.cur.lt
  have hts' : ts.length ≤ 1099511627776 := by omega
  have hg := hide hT.out.good
  have ft1 := field_tok1
  have hmm := @run_makeMap Tryz.prog
  have hi0 := fun (v : Value) => run_insG W W.heap.size rfl #[] 0 ⟨#[109, 111, 100, 117, 108, 101]⟩ v (by kernel_rfl)
  have hi1 := fun (v : Value) => run_insG W W.heap.size rfl #[⟨.string ⟨#[109, 111, 100, 117, 108, 101]⟩, .func (.func 57) #[] #[], 0⟩] 1 ⟨#[99, 104, 97, 110, 110, 101, 108]⟩ v (by kernel_rfl)
  have hi2 := fun (v : Value) => run_insG W W.heap.size rfl #[⟨.string ⟨#[109, 111, 100, 117, 108, 101]⟩, .func (.func 57) #[] #[], 0⟩, ⟨.string ⟨#[99, 104, 97, 110, 110, 101, 108]⟩, .func (.func 58) #[] #[], 1⟩] 2 ⟨#[115, 119, 105, 116, 99, 104]⟩ v (by kernel_rfl)
  have hi3 := fun (v : Value) => run_insG W W.heap.size rfl #[⟨.string ⟨#[109, 111, 100, 117, 108, 101]⟩, .func (.func 57) #[] #[], 0⟩, ⟨.string ⟨#[99, 104, 97, 110, 110, 101, 108]⟩, .func (.func 58) #[] #[], 1⟩, ⟨.string ⟨#[115, 119, 105, 116, 99, 104]⟩, .func (.func 59) #[] #[], 2⟩] 3 ⟨#[108, 105, 110, 107]⟩ v (by kernel_rfl)
  have hi4 := fun (v : Value) => run_insG W W.heap.size rfl #[⟨.string ⟨#[109, 111, 100, 117, 108, 101]⟩, .func (.func 57) #[] #[], 0⟩, ⟨.string ⟨#[99, 104, 97, 110, 110, 101, 108]⟩, .func (.func 58) #[] #[], 1⟩, ⟨.string ⟨#[115, 119, 105, 116, 99, 104]⟩, .func (.func 59) #[] #[], 2⟩, ⟨.string ⟨#[108, 105, 110, 107]⟩, .func (.func 60) #[] #[], 3⟩] 4 ⟨#[118, 108]⟩ v (by kernel_rfl)
  have hi5 := fun (v : Value) => run_insG W W.heap.size rfl #[⟨.string ⟨#[109, 111, 100, 117, 108, 101]⟩, .func (.func 57) #[] #[], 0⟩, ⟨.string ⟨#[99, 104, 97, 110, 110, 101, 108]⟩, .func (.func 58) #[] #[], 1⟩, ⟨.string ⟨#[115, 119, 105, 116, 99, 104]⟩, .func (.func 59) #[] #[], 2⟩, ⟨.string ⟨#[108, 105, 110, 107]⟩, .func (.func 60) #[] #[], 3⟩, ⟨.string ⟨#[118, 108]⟩, .func (.func 61) #[] #[], 4⟩] 5 ⟨#[111, 110]⟩ v (by kernel_rfl)
  have hi6 := fun (v : Value) => run_insG W W.heap.size rfl #[⟨.string ⟨#[109, 111, 100, 117, 108, 101]⟩, .func (.func 57) #[] #[], 0⟩, ⟨.string ⟨#[99, 104, 97, 110, 110, 101, 108]⟩, .func (.func 58) #[] #[], 1⟩, ⟨.string ⟨#[115, 119, 105, 116, 99, 104]⟩, .func (.func 59) #[] #[], 2⟩, ⟨.string ⟨#[108, 105, 110, 107]⟩, .func (.func 60) #[] #[], 3⟩, ⟨.string ⟨#[118, 108]⟩, .func (.func 61) #[] #[], 4⟩, ⟨.string ⟨#[111, 110]⟩, .func (.func 62) #[] #[], 5⟩] 6 ⟨#[99, 97, 117, 115, 101]⟩ v (by kernel_rfl)
  have hi7 := fun (v : Value) => run_insG W W.heap.size rfl #[⟨.string ⟨#[109, 111, 100, 117, 108, 101]⟩, .func (.func 57) #[] #[], 0⟩, ⟨.string ⟨#[99, 104, 97, 110, 110, 101, 108]⟩, .func (.func 58) #[] #[], 1⟩, ⟨.string ⟨#[115, 119, 105, 116, 99, 104]⟩, .func (.func 59) #[] #[], 2⟩, ⟨.string ⟨#[108, 105, 110, 107]⟩, .func (.func 60) #[] #[], 3⟩, ⟨.string ⟨#[118, 108]⟩, .func (.func 61) #[] #[], 4⟩, ⟨.string ⟨#[111, 110]⟩, .func (.func 62) #[] #[], 5⟩, ⟨.string ⟨#[99, 97, 117, 115, 101]⟩, .func (.func 63) #[] #[], 6⟩] 7 ⟨#[119, 111, 114, 107, 115]⟩ v (by kernel_rfl)
  have HA0 := hide (AtJ.start H.out.cur.now H.out.cur.free)
  have HV := hide ((Below.refl W.heap.size W).alloc (Nat.le_refl _) (.map itms 8))
  have HMp := hide (heap_alloc_new W (.map itms 8))
  go_enter Tryz.func36, Tryz.ntmps36
  go_wp2_with fail
  change Calls _ _ _ (W.alloc (.map itms 8)) _
  generalize W.alloc (.map itms 8) = V at *
  clear hi0 hi1 hi2 hi3 hi4 hi5 hi6 hi7 hmm
  have HAV := hide (HA0.out.below hpb HV.out)
  have HC := hide (here_any pb j ts V (hide (H.out.cur.to HAV.out)) hts' hj)
  generalize ht : hdT (ts.drop j) = t at HC hw
  have HT0 := hide ht
  clear ht
  obtain ⟨κ, tx, ta⟩ := t
  unfold tokVal at HC
  dsimp only at HC hw
  generalize (κ : Int) = κz at HC
  generalize (ta : Int) = taz at HC
  refine (HC.out).mono ?_
  rintro e w1 ⟨rfl, hb⟩
  have HA1 := hide (HAV.out.below hpb hb)
  have hml := (Array.getElem?_eq_some_iff.1 HMp.out).1
  have HM1 := hide ((hb.block _ hml).trans HMp.out)
  clear hb HC HAV HA0 hml
  generalize hKK : (⟨tx.toArray⟩ : ByteArray) = K at *
  have HKW : Hid (K.data.toList = [115, 119, 105, 116, 99, 104]) := hide (by rw [← hKK]; exact hw.out)
  clear hKK
  have hjl : j < ts.length := by
    rcases Nat.lt_or_ge j ts.length with h | h
    · exact h
    · have h1 := hw.out
      rw [hdT_end ts j h] at HT0
      have h2 := congrArg Tok.text HT0.out
      simp only at h2
      rw [← h2] at h1
      cases h1
  have HTH := hide (itm_switch hT.out j c (by rw [HT0.out]; exact hw.out))
  clear hw HT0
  have hl := run_lookG HM1.out K (.func (.func 59) #[] #[]) (by rw [HKW.out]; rfl)
  have hne := neq_funG
  go_wp2_with fail
  ((with_reducible refine (check_yes _ _ _).mono ?_); rintro e w'' ⟨rfl, rfl⟩)
  clear hl hne
  have hw3 : pb < w''.heap.size := Nat.lt_of_lt_of_le hpb HA1.out.kept.size
  have e1 : w''.cell? ⟨pb, 1, none⟩ = some (.int .i64 (j : Int)) := HA1.out.here
  have e2 := HA1.out.free
  have k1 : (j : Int) + 1 < 9223372036854775808 := by omega
  have k2 : -9223372036854775808 ≤ (j : Int) + 1 := by omega
  generalize hz : (j : Int) = z at e1 k1 k2
  have HZ := hide hz
  clear hz
  go_wp2_with fail
  have HA4 := hide (HA1.out.goto hpb (j + 1))
  rw [show ((j + 1 : Nat) : Int) = z + 1 from by have := HZ.out; omega] at HA4
  clear HA1 HM1 HMp HV e1 e2 k1 k2 hw3
  generalize w''.setCell ⟨pb, 1, none⟩ (.int .i64 (z + 1)) = V4 at *
  have HS4 := hide (H.out.to HA4.out)
  have HE4 := hide (hE.out.to hpE HA4.out)
  refine (node_any pb (j + 1) B ts c V4 HS4 hts hjl hg HE4 hpE (by unfold CfgD.count at hfew; omega)).mono ?_
  rintro e w5 hE5
  rcases hE5.split with ⟨c5, j5, hr, hj5, hK, hP, rfl⟩ | ⟨n, jn, hr, hjn, hK, hC, rfl⟩
  rotate_left
  · have HX := hide (EndsC.mk_bad (HTH.out.trans hr) hjn (HA4.out.kp.trans hK) hC)
    clear hE5 hr hK hC
    go_wp2_with fail
    exact ⟨rfl, HX.out⟩
  have HX := hide (EndsC.mk_ok (HTH.out.trans hr) hj5 (HA4.out.kp.trans hK) hP)
  clear hE5 hr hK hP
  go_wp2_with fail
  go_end0
  exact HX.out
set_option maxRecDepth 100000 in
set_option maxHeartbeats 4000000 in
theorem item_link (pb j B : Nat) (ts : List Tok) (c : CfgD) (W : World) (H : Hid (PSt pb ts j c B W)) (hts : ts.length ≤ 1000000) (hj : j ≤ ts.length) (hT : Hid (TokOk ts)) (hE : Hid (EnvP W)) (hpE : 3 ≤ pb) (hfew : c.count ≤ ts.length)(hw : Hid ((hdT (ts.drop j)).text = [108, 105, 110, 107])) :
    Calls Tryz.prog 36 #[.pointer (some ⟨pb, 0, none⟩)] W fun e W' => EndsC pb ts W B (itemP c (ts.drop j)) e W' := by
  have hpb := H.out.cur.lt
  have hts' : ts.length ≤ 1099511627776 := by omega
  have hg := hide hT.out.good
  have ft1 := field_tok1
  have hmm := @run_makeMap Tryz.prog
  have hi0 := fun (v : Value) => run_insG W W.heap.size rfl #[] 0 ⟨#[109, 111, 100, 117, 108, 101]⟩ v (by kernel_rfl)
  have hi1 := fun (v : Value) => run_insG W W.heap.size rfl #[⟨.string ⟨#[109, 111, 100, 117, 108, 101]⟩, .func (.func 57) #[] #[], 0⟩] 1 ⟨#[99, 104, 97, 110, 110, 101, 108]⟩ v (by kernel_rfl)
  have hi2 := fun (v : Value) => run_insG W W.heap.size rfl #[⟨.string ⟨#[109, 111, 100, 117, 108, 101]⟩, .func (.func 57) #[] #[], 0⟩, ⟨.string ⟨#[99, 104, 97, 110, 110, 101, 108]⟩, .func (.func 58) #[] #[], 1⟩] 2 ⟨#[115, 119, 105, 116, 99, 104]⟩ v (by kernel_rfl)
  have hi3 := fun (v : Value) => run_insG W W.heap.size rfl #[⟨.string ⟨#[109, 111, 100, 117, 108, 101]⟩, .func (.func 57) #[] #[], 0⟩, ⟨.string ⟨#[99, 104, 97, 110, 110, 101, 108]⟩, .func (.func 58) #[] #[], 1⟩, ⟨.string ⟨#[115, 119, 105, 116, 99, 104]⟩, .func (.func 59) #[] #[], 2⟩] 3 ⟨#[108, 105, 110, 107]⟩ v (by kernel_rfl)
  have hi4 := fun (v : Value) => run_insG W W.heap.size rfl #[⟨.string ⟨#[109, 111, 100, 117, 108, 101]⟩, .func (.func 57) #[] #[], 0⟩, ⟨.string ⟨#[99, 104, 97, 110, 110, 101, 108]⟩, .func (.func 58) #[] #[], 1⟩, ⟨.string ⟨#[115, 119, 105, 116, 99, 104]⟩, .func (.func 59) #[] #[], 2⟩, ⟨.string ⟨#[108, 105, 110, 107]⟩, .func (.func 60) #[] #[], 3⟩] 4 ⟨#[118, 108]⟩ v (by kernel_rfl)
  have hi5 := fun (v : Value) => run_insG W W.heap.size rfl #[⟨.string ⟨#[109, 111, 100, 117, 108, 101]⟩, .func (.func 57) #[] #[], 0⟩, ⟨.string ⟨#[99, 104, 97, 110, 110, 101, 108]⟩, .func (.func 58) #[] #[], 1⟩, ⟨.string ⟨#[115, 119, 105, 116, 99, 104]⟩, .func (.func 59) #[] #[], 2⟩, ⟨.string ⟨#[108, 105, 110, 107]⟩, .func (.func 60) #[] #[], 3⟩, ⟨.string ⟨#[118, 108]⟩, .func (.func 61) #[] #[], 4⟩] 5 ⟨#[111, 110]⟩ v (by kernel_rfl)
  have hi6 := fun (v : Value) => run_insG W W.heap.size rfl #[⟨.string ⟨#[109, 111, 100, 117, 108, 101]⟩, .func (.func 57) #[] #[], 0⟩, ⟨.string ⟨#[99, 104, 97, 110, 110, 101, 108]⟩, .func (.func 58) #[] #[], 1⟩, ⟨.string ⟨#[115, 119, 105, 116, 99, 104]⟩, .func (.func 59) #[] #[], 2⟩, ⟨.string ⟨#[108, 105, 110, 107]⟩, .func (.func 60) #[] #[], 3⟩, ⟨.string ⟨#[118, 108]⟩, .func (.func 61) #[] #[], 4⟩, ⟨.string ⟨#[111, 110]⟩, .func (.func 62) #[] #[], 5⟩] 6 ⟨#[99, 97, 117, 115, 101]⟩ v (by kernel_rfl)
  have hi7 := fun (v : Value) => run_insG W W.heap.size rfl #[⟨.string ⟨#[109, 111, 100, 117, 108, 101]⟩, .func (.func 57) #[] #[], 0⟩, ⟨.string ⟨#[99, 104, 97, 110, 110, 101, 108]⟩, .func (.func 58) #[] #[], 1⟩, ⟨.string ⟨#[115, 119, 105, 116, 99, 104]⟩, .func (.func 59) #[] #[], 2⟩, ⟨.string ⟨#[108, 105, 110, 107]⟩, .func (.func 60) #[] #[], 3⟩, ⟨.string ⟨#[118, 108]⟩, .func (.func 61) #[] #[], 4⟩, ⟨.string ⟨#[111, 110]⟩, .func (.func 62) #[] #[], 5⟩, ⟨.string ⟨#[99, 97, 117, 115, 101]⟩, .func (.func 63) #[] #[], 6⟩] 7 ⟨#[119, 111, 114, 107, 115]⟩ v (by kernel_rfl)
  have HA0 := hide (AtJ.start H.out.cur.now H.out.cur.free)
  have HV := hide ((Below.refl W.heap.size W).alloc (Nat.le_refl _) (.map itms 8))
  have HMp := hide (heap_alloc_new W (.map itms 8))
  go_enter Tryz.func36, Tryz.ntmps36
  go_wp2_with fail
  change Calls _ _ _ (W.alloc (.map itms 8)) _
  generalize W.alloc (.map itms 8) = V at *
  clear hi0 hi1 hi2 hi3 hi4 hi5 hi6 hi7 hmm
  have HAV := hide (HA0.out.below hpb HV.out)
  have HC := hide (here_any pb j ts V (hide (H.out.cur.to HAV.out)) hts' hj)
  generalize ht : hdT (ts.drop j) = t at HC hw
  have HT0 := hide ht
  clear ht
  obtain ⟨κ, tx, ta⟩ := t
  unfold tokVal at HC
  dsimp only at HC hw
  generalize (κ : Int) = κz at HC
  generalize (ta : Int) = taz at HC
  refine (HC.out).mono ?_
  rintro e w1 ⟨rfl, hb⟩
  have HA1 := hide (HAV.out.below hpb hb)
  have hml := (Array.getElem?_eq_some_iff.1 HMp.out).1
  have HM1 := hide ((hb.block _ hml).trans HMp.out)
  clear hb HC HAV HA0 hml
  generalize hKK : (⟨tx.toArray⟩ : ByteArray) = K at *
  have HKW : Hid (K.data.toList = [108, 105, 110, 107]) := hide (by rw [← hKK]; exact hw.out)
  clear hKK
  have hjl : j < ts.length := by
    rcases Nat.lt_or_ge j ts.length with h | h
    · exact h
    · have h1 := hw.out
      rw [hdT_end ts j h] at HT0
      have h2 := congrArg Tok.text HT0.out
      simp only at h2
      rw [← h2] at h1
      cases h1
  have HTH := hide (itm_link hT.out j c (by rw [HT0.out]; exact hw.out))
  clear hw HT0
  have hl := run_lookG HM1.out K (.func (.func 60) #[] #[]) (by rw [HKW.out]; rfl)
  have hne := neq_funG
  go_wp2_with fail
  ((with_reducible refine (check_yes _ _ _).mono ?_); rintro e w'' ⟨rfl, rfl⟩)
  clear hl hne
  have hw3 : pb < w''.heap.size := Nat.lt_of_lt_of_le hpb HA1.out.kept.size
  have e1 : w''.cell? ⟨pb, 1, none⟩ = some (.int .i64 (j : Int)) := HA1.out.here
  have e2 := HA1.out.free
  have k1 : (j : Int) + 1 < 9223372036854775808 := by omega
  have k2 : -9223372036854775808 ≤ (j : Int) + 1 := by omega
  generalize hz : (j : Int) = z at e1 k1 k2
  have HZ := hide hz
  clear hz
  go_wp2_with fail
  have HA4 := hide (HA1.out.goto hpb (j + 1))
  rw [show ((j + 1 : Nat) : Int) = z + 1 from by have := HZ.out; omega] at HA4
  clear HA1 HM1 HMp HV e1 e2 k1 k2 hw3
  generalize w''.setCell ⟨pb, 1, none⟩ (.int .i64 (z + 1)) = V4 at *
  have HS4 := hide (H.out.to HA4.out)
  have HE4 := hide (hE.out.to hpE HA4.out)
  refine (link_any pb (j + 1) B ts c V4 HS4 hts hjl hg HE4 hpE (by unfold CfgD.count at hfew; omega)).mono ?_
  rintro e w5 hE5
  rcases hE5.split with ⟨c5, j5, hr, hj5, hK, hP, rfl⟩ | ⟨n, jn, hr, hjn, hK, hC, rfl⟩
  rotate_left
  · have HX := hide (EndsC.mk_bad (HTH.out.trans hr) hjn (HA4.out.kp.trans hK) hC)
    clear hE5 hr hK hC
    go_wp2_with fail
    exact ⟨rfl, HX.out⟩
  have HX := hide (EndsC.mk_ok (HTH.out.trans hr) hj5 (HA4.out.kp.trans hK) hP)
  clear hE5 hr hK hP
  go_wp2_with fail
  go_end0
  exact HX.out
set_option maxRecDepth 100000 in
set_option maxHeartbeats 4000000 in
theorem item_vl (pb j B : Nat) (ts : List Tok) (c : CfgD) (W : World) (H : Hid (PSt pb ts j c B W)) (hts : ts.length ≤ 1000000) (hj : j ≤ ts.length) (hT : Hid (TokOk ts)) (hE : Hid (EnvP W)) (hpE : 3 ≤ pb) (hfew : c.count ≤ ts.length)(hw : Hid ((hdT (ts.drop j)).text = [118, 108])) :
    Calls Tryz.prog 36 #[.pointer (some ⟨pb, 0, none⟩)] W fun e W' => EndsC pb ts W B (itemP c (ts.drop j)) e W' := by
  have hpb := H.out.cur.lt
  have hts' : ts.length ≤ 1099511627776 := by omega
  have hg := hide hT.out.good
  have ft1 := field_tok1
  have hmm := @run_makeMap Tryz.prog
  have hi0 := fun (v : Value) => run_insG W W.heap.size rfl #[] 0 ⟨#[109, 111, 100, 117, 108, 101]⟩ v (by kernel_rfl)
  have hi1 := fun (v : Value) => run_insG W W.heap.size rfl #[⟨.string ⟨#[109, 111, 100, 117, 108, 101]⟩, .func (.func 57) #[] #[], 0⟩] 1 ⟨#[99, 104, 97, 110, 110, 101, 108]⟩ v (by kernel_rfl)
  have hi2 := fun (v : Value) => run_insG W W.heap.size rfl #[⟨.string ⟨#[109, 111, 100, 117, 108, 101]⟩, .func (.func 57) #[] #[], 0⟩, ⟨.string ⟨#[99, 104, 97, 110, 110, 101, 108]⟩, .func (.func 58) #[] #[], 1⟩] 2 ⟨#[115, 119, 105, 116, 99, 104]⟩ v (by kernel_rfl)
  have hi3 := fun (v : Value) => run_insG W W.heap.size rfl #[⟨.string ⟨#[109, 111, 100, 117, 108, 101]⟩, .func (.func 57) #[] #[], 0⟩, ⟨.string ⟨#[99, 104, 97, 110, 110, 101, 108]⟩, .func (.func 58) #[] #[], 1⟩, ⟨.string ⟨#[115, 119, 105, 116, 99, 104]⟩, .func (.func 59) #[] #[], 2⟩] 3 ⟨#[108, 105, 110, 107]⟩ v (by kernel_rfl)
  have hi4 := fun (v : Value) => run_insG W W.heap.size rfl #[⟨.string ⟨#[109, 111, 100, 117, 108, 101]⟩, .func (.func 57) #[] #[], 0⟩, ⟨.string ⟨#[99, 104, 97, 110, 110, 101, 108]⟩, .func (.func 58) #[] #[], 1⟩, ⟨.string ⟨#[115, 119, 105, 116, 99, 104]⟩, .func (.func 59) #[] #[], 2⟩, ⟨.string ⟨#[108, 105, 110, 107]⟩, .func (.func 60) #[] #[], 3⟩] 4 ⟨#[118, 108]⟩ v (by kernel_rfl)
  have hi5 := fun (v : Value) => run_insG W W.heap.size rfl #[⟨.string ⟨#[109, 111, 100, 117, 108, 101]⟩, .func (.func 57) #[] #[], 0⟩, ⟨.string ⟨#[99, 104, 97, 110, 110, 101, 108]⟩, .func (.func 58) #[] #[], 1⟩, ⟨.string ⟨#[115, 119, 105, 116, 99, 104]⟩, .func (.func 59) #[] #[], 2⟩, ⟨.string ⟨#[108, 105, 110, 107]⟩, .func (.func 60) #[] #[], 3⟩, ⟨.string ⟨#[118, 108]⟩, .func (.func 61) #[] #[], 4⟩] 5 ⟨#[111, 110]⟩ v (by kernel_rfl)
  have hi6 := fun (v : Value) => run_insG W W.heap.size rfl #[⟨.string ⟨#[109, 111, 100, 117, 108, 101]⟩, .func (.func 57) #[] #[], 0⟩, ⟨.string ⟨#[99, 104, 97, 110, 110, 101, 108]⟩, .func (.func 58) #[] #[], 1⟩, ⟨.string ⟨#[115, 119, 105, 116, 99, 104]⟩, .func (.func 59) #[] #[], 2⟩, ⟨.string ⟨#[108, 105, 110, 107]⟩, .func (.func 60) #[] #[], 3⟩, ⟨.string ⟨#[118, 108]⟩, .func (.func 61) #[] #[], 4⟩, ⟨.string ⟨#[111, 110]⟩, .func (.func 62) #[] #[], 5⟩] 6 ⟨#[99, 97, 117, 115, 101]⟩ v (by kernel_rfl)
  have hi7 := fun (v : Value) => run_insG W W.heap.size rfl #[⟨.string ⟨#[109, 111, 100, 117, 108, 101]⟩, .func (.func 57) #[] #[], 0⟩, ⟨.string ⟨#[99, 104, 97, 110, 110, 101, 108]⟩, .func (.func 58) #[] #[], 1⟩, ⟨.string ⟨#[115, 119, 105, 116, 99, 104]⟩, .func (.func 59) #[] #[], 2⟩, ⟨.string ⟨#[108, 105, 110, 107]⟩, .func (.func 60) #[] #[], 3⟩, ⟨.string ⟨#[118, 108]⟩, .func (.func 61) #[] #[], 4⟩, ⟨.string ⟨#[111, 110]⟩, .func (.func 62) #[] #[], 5⟩, ⟨.string ⟨#[99, 97, 117, 115, 101]⟩, .func (.func 63) #[] #[], 6⟩] 7 ⟨#[119, 111, 114, 107, 115]⟩ v (by kernel_rfl)
  have HA0 := hide (AtJ.start H.out.cur.now H.out.cur.free)
  have HV := hide ((Below.refl W.heap.size W).alloc (Nat.le_refl _) (.map itms 8))
  have HMp := hide (heap_alloc_new W (.map itms 8))
  go_enter Tryz.func36, Tryz.ntmps36
  go_wp2_with fail
  change Calls _ _ _ (W.alloc (.map itms 8)) _
  generalize W.alloc (.map itms 8) = V at *
  clear hi0 hi1 hi2 hi3 hi4 hi5 hi6 hi7 hmm
  have HAV := hide (HA0.out.below hpb HV.out)
  have HC := hide (here_any pb j ts V (hide (H.out.cur.to HAV.out)) hts' hj)
  generalize ht : hdT (ts.drop j) = t at HC hw
  have HT0 := hide ht
  clear ht
  obtain ⟨κ, tx, ta⟩ := t
  unfold tokVal at HC
  dsimp only at HC hw
  generalize (κ : Int) = κz at HC
  generalize (ta : Int) = taz at HC
  refine (HC.out).mono ?_
  rintro e w1 ⟨rfl, hb⟩
  have HA1 := hide (HAV.out.below hpb hb)
  have hml := (Array.getElem?_eq_some_iff.1 HMp.out).1
  have HM1 := hide ((hb.block _ hml).trans HMp.out)
  clear hb HC HAV HA0 hml
  generalize hKK : (⟨tx.toArray⟩ : ByteArray) = K at *
  have HKW : Hid (K.data.toList = [118, 108]) := hide (by rw [← hKK]; exact hw.out)
  clear hKK
  have hjl : j < ts.length := by
    rcases Nat.lt_or_ge j ts.length with h | h
    · exact h
    · have h1 := hw.out
      rw [hdT_end ts j h] at HT0
      have h2 := congrArg Tok.text HT0.out
      simp only at h2
      rw [← h2] at h1
      cases h1
  have HTH := hide (itm_vl hT.out j c (by rw [HT0.out]; exact hw.out))
  clear hw HT0
  have hl := run_lookG HM1.out K (.func (.func 61) #[] #[]) (by rw [HKW.out]; rfl)
  have hne := neq_funG
  go_wp2_with fail
  ((with_reducible refine (check_yes _ _ _).mono ?_); rintro e w'' ⟨rfl, rfl⟩)
  clear hl hne
  have hw3 : pb < w''.heap.size := Nat.lt_of_lt_of_le hpb HA1.out.kept.size
  have e1 : w''.cell? ⟨pb, 1, none⟩ = some (.int .i64 (j : Int)) := HA1.out.here
  have e2 := HA1.out.free
  have k1 : (j : Int) + 1 < 9223372036854775808 := by omega
  have k2 : -9223372036854775808 ≤ (j : Int) + 1 := by omega
  generalize hz : (j : Int) = z at e1 k1 k2
  have HZ := hide hz
  clear hz
  go_wp2_with fail
  have HA4 := hide (HA1.out.goto hpb (j + 1))
  rw [show ((j + 1 : Nat) : Int) = z + 1 from by have := HZ.out; omega] at HA4
  clear HA1 HM1 HMp HV e1 e2 k1 k2 hw3
  generalize w''.setCell ⟨pb, 1, none⟩ (.int .i64 (z + 1)) = V4 at *
  have HS4 := hide (H.out.to HA4.out)
  have HE4 := hide (hE.out.to hpE HA4.out)
  refine (vl_any pb (j + 1) B ts c V4 HS4 hts hjl hg HE4 hpE (by unfold CfgD.count at hfew; omega)).mono ?_
  rintro e w5 hE5
  rcases hE5.split with ⟨c5, j5, hr, hj5, hK, hP, rfl⟩ | ⟨n, jn, hr, hjn, hK, hC, rfl⟩
  rotate_left
  · have HX := hide (EndsC.mk_bad (HTH.out.trans hr) hjn (HA4.out.kp.trans hK) hC)
    clear hE5 hr hK hC
    go_wp2_with fail
    exact ⟨rfl, HX.out⟩
  have HX := hide (EndsC.mk_ok (HTH.out.trans hr) hj5 (HA4.out.kp.trans hK) hP)
  clear hE5 hr hK hP
  go_wp2_with fail
  go_end0
  exact HX.out
set_option maxRecDepth 100000 in
set_option maxHeartbeats 4000000 in
theorem item_on (pb j B : Nat) (ts : List Tok) (c : CfgD) (W : World) (H : Hid (PSt pb ts j c B W)) (hts : ts.length ≤ 1000000) (hj : j ≤ ts.length) (hT : Hid (TokOk ts)) (hE : Hid (EnvP W)) (hpE : 3 ≤ pb) (hfew : c.count ≤ ts.length)(hw : Hid ((hdT (ts.drop j)).text = [111, 110])) :
    Calls Tryz.prog 36 #[.pointer (some ⟨pb, 0, none⟩)] W fun e W' => EndsC pb ts W B (itemP c (ts.drop j)) e W' := by
  have hpb := H.out.cur.lt
  have hts' : ts.length ≤ 1099511627776 := by omega
  have hg := hide hT.out.good
  have ft1 := field_tok1
  have hmm := @run_makeMap Tryz.prog
  have hi0 := fun (v : Value) => run_insG W W.heap.size rfl #[] 0 ⟨#[109, 111, 100, 117, 108, 101]⟩ v (by kernel_rfl)
  have hi1 := fun (v : Value) => run_insG W W.heap.size rfl #[⟨.string ⟨#[109, 111, 100, 117, 108, 101]⟩, .func (.func 57) #[] #[], 0⟩] 1 ⟨#[99, 104, 97, 110, 110, 101, 108]⟩ v (by kernel_rfl)
  have hi2 := fun (v : Value) => run_insG W W.heap.size rfl #[⟨.string ⟨#[109, 111, 100, 117, 108, 101]⟩, .func (.func 57) #[] #[], 0⟩, ⟨.string ⟨#[99, 104, 97, 110, 110, 101, 108]⟩, .func (.func 58) #[] #[], 1⟩] 2 ⟨#[115, 119, 105, 116, 99, 104]⟩ v (by kernel_rfl)
  have hi3 := fun (v : Value) => run_insG W W.heap.size rfl #[⟨.string ⟨#[109, 111, 100, 117, 108, 101]⟩, .func (.func 57) #[] #[], 0⟩, ⟨.string ⟨#[99, 104, 97, 110, 110, 101, 108]⟩, .func (.func 58) #[] #[], 1⟩, ⟨.string ⟨#[115, 119, 105, 116, 99, 104]⟩, .func (.func 59) #[] #[], 2⟩] 3 ⟨#[108, 105, 110, 107]⟩ v (by kernel_rfl)
  have hi4 := fun (v : Value) => run_insG W W.heap.size rfl #[⟨.string ⟨#[109, 111, 100, 117, 108, 101]⟩, .func (.func 57) #[] #[], 0⟩, ⟨.string ⟨#[99, 104, 97, 110, 110, 101, 108]⟩, .func (.func 58) #[] #[], 1⟩, ⟨.string ⟨#[115, 119, 105, 116, 99, 104]⟩, .func (.func 59) #[] #[], 2⟩, ⟨.string ⟨#[108, 105, 110, 107]⟩, .func (.func 60) #[] #[], 3⟩] 4 ⟨#[118, 108]⟩ v (by kernel_rfl)
  have hi5 := fun (v : Value) => run_insG W W.heap.size rfl #[⟨.string ⟨#[109, 111, 100, 117, 108, 101]⟩, .func (.func 57) #[] #[], 0⟩, ⟨.string ⟨#[99, 104, 97, 110, 110, 101, 108]⟩, .func (.func 58) #[] #[], 1⟩, ⟨.string ⟨#[115, 119, 105, 116, 99, 104]⟩, .func (.func 59) #[] #[], 2⟩, ⟨.string ⟨#[108, 105, 110, 107]⟩, .func (.func 60) #[] #[], 3⟩, ⟨.string ⟨#[118, 108]⟩, .func (.func 61) #[] #[], 4⟩] 5 ⟨#[111, 110]⟩ v (by kernel_rfl)
  have hi6 := fun (v : Value) => run_insG W W.heap.size rfl #[⟨.string ⟨#[109, 111, 100, 117, 108, 101]⟩, .func (.func 57) #[] #[], 0⟩, ⟨.string ⟨#[99, 104, 97, 110, 110, 101, 108]⟩, .func (.func 58) #[] #[], 1⟩, ⟨.string ⟨#[115, 119, 105, 116, 99, 104]⟩, .func (.func 59) #[] #[], 2⟩, ⟨.string ⟨#[108, 105, 110, 107]⟩, .func (.func 60) #[] #[], 3⟩, ⟨.string ⟨#[118, 108]⟩, .func (.func 61) #[] #[], 4⟩, ⟨.string ⟨#[111, 110]⟩, .func (.func 62) #[] #[], 5⟩] 6 ⟨#[99, 97, 117, 115, 101]⟩ v (by kernel_rfl)
  have hi7 := fun (v : Value) => run_insG W W.heap.size rfl #[⟨.string ⟨#[109, 111, 100, 117, 108, 101]⟩, .func (.func 57) #[] #[], 0⟩, ⟨.string ⟨#[99, 104, 97, 110, 110, 101, 108]⟩, .func (.func 58) #[] #[], 1⟩, ⟨.string ⟨#[115, 119, 105, 116, 99, 104]⟩, .func (.func 59) #[] #[], 2⟩, ⟨.string ⟨#[108, 105, 110, 107]⟩, .func (.func 60) #[] #[], 3⟩, ⟨.string ⟨#[118, 108]⟩, .func (.func 61) #[] #[], 4⟩, ⟨.string ⟨#[111, 110]⟩, .func (.func 62) #[] #[], 5⟩, ⟨.string ⟨#[99, 97, 117, 115, 101]⟩, .func (.func 63) #[] #[], 6⟩] 7 ⟨#[119, 111, 114, 107, 115]⟩ v (by kernel_rfl)
  have HA0 := hide (AtJ.start H.out.cur.now H.out.cur.free)
  have HV := hide ((Below.refl W.heap.size W).alloc (Nat.le_refl _) (.map itms 8))
  have HMp := hide (heap_alloc_new W (.map itms 8))
  go_enter Tryz.func36, Tryz.ntmps36
  go_wp2_with fail
  change Calls _ _ _ (W.alloc (.map itms 8)) _
  generalize W.alloc (.map itms 8) = V at *
  clear hi0 hi1 hi2 hi3 hi4 hi5 hi6 hi7 hmm
  have HAV := hide (HA0.out.below hpb HV.out)
  have HC := hide (here_any pb j ts V (hide (H.out.cur.to HAV.out)) hts' hj)
  generalize ht : hdT (ts.drop j) = t at HC hw
  have HT0 := hide ht
  clear ht
  obtain ⟨κ, tx, ta⟩ := t
  unfold tokVal at HC
  dsimp only at HC hw
  generalize (κ : Int) = κz at HC
  generalize (ta : Int) = taz at HC
  refine (HC.out).mono ?_
  rintro e w1 ⟨rfl, hb⟩
  have HA1 := hide (HAV.out.below hpb hb)
  have hml := (Array.getElem?_eq_some_iff.1 HMp.out).1
  have HM1 := hide ((hb.block _ hml).trans HMp.out)
  clear hb HC HAV HA0 hml
  generalize hKK : (⟨tx.toArray⟩ : ByteArray) = K at *
  have HKW : Hid (K.data.toList = [111, 110]) := hide (by rw [← hKK]; exact hw.out)
  clear hKK
  have hjl : j < ts.length := by
    rcases Nat.lt_or_ge j ts.length with h | h
    · exact h
    · have h1 := hw.out
      rw [hdT_end ts j h] at HT0
      have h2 := congrArg Tok.text HT0.out
      simp only at h2
      rw [← h2] at h1
      cases h1
  have HTH := hide (itm_on hT.out j c (by rw [HT0.out]; exact hw.out))
  clear hw HT0
  have hl := run_lookG HM1.out K (.func (.func 62) #[] #[]) (by rw [HKW.out]; rfl)
  have hne := neq_funG
  go_wp2_with fail
  ((with_reducible refine (check_yes _ _ _).mono ?_); rintro e w'' ⟨rfl, rfl⟩)
  clear hl hne
  have hw3 : pb < w''.heap.size := Nat.lt_of_lt_of_le hpb HA1.out.kept.size
  have e1 : w''.cell? ⟨pb, 1, none⟩ = some (.int .i64 (j : Int)) := HA1.out.here
  have e2 := HA1.out.free
  have k1 : (j : Int) + 1 < 9223372036854775808 := by omega
  have k2 : -9223372036854775808 ≤ (j : Int) + 1 := by omega
  generalize hz : (j : Int) = z at e1 k1 k2
  have HZ := hide hz
  clear hz
  go_wp2_with fail
  have HA4 := hide (HA1.out.goto hpb (j + 1))
  rw [show ((j + 1 : Nat) : Int) = z + 1 from by have := HZ.out; omega] at HA4
  clear HA1 HM1 HMp HV e1 e2 k1 k2 hw3
  generalize w''.setCell ⟨pb, 1, none⟩ (.int .i64 (z + 1)) = V4 at *
  have HS4 := hide (H.out.to HA4.out)
  have HE4 := hide (hE.out.to hpE HA4.out)
  refine (health_any pb (j + 1) B ts c V4 HS4 hts hjl hg HE4 hpE (by unfold CfgD.count at hfew; omega)).mono ?_
  rintro e w5 hE5
  rcases hE5.split with ⟨c5, j5, hr, hj5, hK, hP, rfl⟩ | ⟨n, jn, hr, hjn, hK, hC, rfl⟩
  rotate_left
  · have HX := hide (EndsC.mk_bad (HTH.out.trans hr) hjn (HA4.out.kp.trans hK) hC)
    clear hE5 hr hK hC
    go_wp2_with fail
    exact ⟨rfl, HX.out⟩
  have HX := hide (EndsC.mk_ok (HTH.out.trans hr) hj5 (HA4.out.kp.trans hK) hP)
  clear hE5 hr hK hP
  go_wp2_with fail
  go_end0
  exact HX.out
set_option maxRecDepth 100000 in
set_option maxHeartbeats 4000000 in
theorem item_cause (pb j B : Nat) (ts : List Tok) (c : CfgD) (W : World) (H : Hid (PSt pb ts j c B W)) (hts : ts.length ≤ 1000000) (hj : j ≤ ts.length) (hT : Hid (TokOk ts)) (hE : Hid (EnvP W)) (hpE : 3 ≤ pb) (hfew : c.count ≤ ts.length)(hw : Hid ((hdT (ts.drop j)).text = [99, 97, 117, 115, 101])) :
    Calls Tryz.prog 36 #[.pointer (some ⟨pb, 0, none⟩)] W fun e W' => EndsC pb ts W B (itemP c (ts.drop j)) e W' := by
  have hpb := H.out.cur.lt
  have hts' : ts.length ≤ 1099511627776 := by omega
  have hg := hide hT.out.good
  have ft1 := field_tok1
  have hmm := @run_makeMap Tryz.prog
  have hi0 := fun (v : Value) => run_insG W W.heap.size rfl #[] 0 ⟨#[109, 111, 100, 117, 108, 101]⟩ v (by kernel_rfl)
  have hi1 := fun (v : Value) => run_insG W W.heap.size rfl #[⟨.string ⟨#[109, 111, 100, 117, 108, 101]⟩, .func (.func 57) #[] #[], 0⟩] 1 ⟨#[99, 104, 97, 110, 110, 101, 108]⟩ v (by kernel_rfl)
  have hi2 := fun (v : Value) => run_insG W W.heap.size rfl #[⟨.string ⟨#[109, 111, 100, 117, 108, 101]⟩, .func (.func 57) #[] #[], 0⟩, ⟨.string ⟨#[99, 104, 97, 110, 110, 101, 108]⟩, .func (.func 58) #[] #[], 1⟩] 2 ⟨#[115, 119, 105, 116, 99, 104]⟩ v (by kernel_rfl)
  have hi3 := fun (v : Value) => run_insG W W.heap.size rfl #[⟨.string ⟨#[109, 111, 100, 117, 108, 101]⟩, .func (.func 57) #[] #[], 0⟩, ⟨.string ⟨#[99, 104, 97, 110, 110, 101, 108]⟩, .func (.func 58) #[] #[], 1⟩, ⟨.string ⟨#[115, 119, 105, 116, 99, 104]⟩, .func (.func 59) #[] #[], 2⟩] 3 ⟨#[108, 105, 110, 107]⟩ v (by kernel_rfl)
  have hi4 := fun (v : Value) => run_insG W W.heap.size rfl #[⟨.string ⟨#[109, 111, 100, 117, 108, 101]⟩, .func (.func 57) #[] #[], 0⟩, ⟨.string ⟨#[99, 104, 97, 110, 110, 101, 108]⟩, .func (.func 58) #[] #[], 1⟩, ⟨.string ⟨#[115, 119, 105, 116, 99, 104]⟩, .func (.func 59) #[] #[], 2⟩, ⟨.string ⟨#[108, 105, 110, 107]⟩, .func (.func 60) #[] #[], 3⟩] 4 ⟨#[118, 108]⟩ v (by kernel_rfl)
  have hi5 := fun (v : Value) => run_insG W W.heap.size rfl #[⟨.string ⟨#[109, 111, 100, 117, 108, 101]⟩, .func (.func 57) #[] #[], 0⟩, ⟨.string ⟨#[99, 104, 97, 110, 110, 101, 108]⟩, .func (.func 58) #[] #[], 1⟩, ⟨.string ⟨#[115, 119, 105, 116, 99, 104]⟩, .func (.func 59) #[] #[], 2⟩, ⟨.string ⟨#[108, 105, 110, 107]⟩, .func (.func 60) #[] #[], 3⟩, ⟨.string ⟨#[118, 108]⟩, .func (.func 61) #[] #[], 4⟩] 5 ⟨#[111, 110]⟩ v (by kernel_rfl)
  have hi6 := fun (v : Value) => run_insG W W.heap.size rfl #[⟨.string ⟨#[109, 111, 100, 117, 108, 101]⟩, .func (.func 57) #[] #[], 0⟩, ⟨.string ⟨#[99, 104, 97, 110, 110, 101, 108]⟩, .func (.func 58) #[] #[], 1⟩, ⟨.string ⟨#[115, 119, 105, 116, 99, 104]⟩, .func (.func 59) #[] #[], 2⟩, ⟨.string ⟨#[108, 105, 110, 107]⟩, .func (.func 60) #[] #[], 3⟩, ⟨.string ⟨#[118, 108]⟩, .func (.func 61) #[] #[], 4⟩, ⟨.string ⟨#[111, 110]⟩, .func (.func 62) #[] #[], 5⟩] 6 ⟨#[99, 97, 117, 115, 101]⟩ v (by kernel_rfl)
  have hi7 := fun (v : Value) => run_insG W W.heap.size rfl #[⟨.string ⟨#[109, 111, 100, 117, 108, 101]⟩, .func (.func 57) #[] #[], 0⟩, ⟨.string ⟨#[99, 104, 97, 110, 110, 101, 108]⟩, .func (.func 58) #[] #[], 1⟩, ⟨.string ⟨#[115, 119, 105, 116, 99, 104]⟩, .func (.func 59) #[] #[], 2⟩, ⟨.string ⟨#[108, 105, 110, 107]⟩, .func (.func 60) #[] #[], 3⟩, ⟨.string ⟨#[118, 108]⟩, .func (.func 61) #[] #[], 4⟩, ⟨.string ⟨#[111, 110]⟩, .func (.func 62) #[] #[], 5⟩, ⟨.string ⟨#[99, 97, 117, 115, 101]⟩, .func (.func 63) #[] #[], 6⟩] 7 ⟨#[119, 111, 114, 107, 115]⟩ v (by kernel_rfl)
  have HA0 := hide (AtJ.start H.out.cur.now H.out.cur.free)
  have HV := hide ((Below.refl W.heap.size W).alloc (Nat.le_refl _) (.map itms 8))
  have HMp := hide (heap_alloc_new W (.map itms 8))
  go_enter Tryz.func36, Tryz.ntmps36
  go_wp2_with fail
  change Calls _ _ _ (W.alloc (.map itms 8)) _
  generalize W.alloc (.map itms 8) = V at *
  clear hi0 hi1 hi2 hi3 hi4 hi5 hi6 hi7 hmm
  have HAV := hide (HA0.out.below hpb HV.out)
  have HC := hide (here_any pb j ts V (hide (H.out.cur.to HAV.out)) hts' hj)
  generalize ht : hdT (ts.drop j) = t at HC hw
  have HT0 := hide ht
  clear ht
  obtain ⟨κ, tx, ta⟩ := t
  unfold tokVal at HC
  dsimp only at HC hw
  generalize (κ : Int) = κz at HC
  generalize (ta : Int) = taz at HC
  refine (HC.out).mono ?_
  rintro e w1 ⟨rfl, hb⟩
  have HA1 := hide (HAV.out.below hpb hb)
  have hml := (Array.getElem?_eq_some_iff.1 HMp.out).1
  have HM1 := hide ((hb.block _ hml).trans HMp.out)
  clear hb HC HAV HA0 hml
  generalize hKK : (⟨tx.toArray⟩ : ByteArray) = K at *
  have HKW : Hid (K.data.toList = [99, 97, 117, 115, 101]) := hide (by rw [← hKK]; exact hw.out)
  clear hKK
  have hjl : j < ts.length := by
    rcases Nat.lt_or_ge j ts.length with h | h
    · exact h
    · have h1 := hw.out
      rw [hdT_end ts j h] at HT0
      have h2 := congrArg Tok.text HT0.out
      simp only at h2
      rw [← h2] at h1
      cases h1
  have HTH := hide (itm_cause hT.out j c (by rw [HT0.out]; exact hw.out))
  clear hw HT0
  have hl := run_lookG HM1.out K (.func (.func 63) #[] #[]) (by rw [HKW.out]; rfl)
  have hne := neq_funG
  go_wp2_with fail
  ((with_reducible refine (check_yes _ _ _).mono ?_); rintro e w'' ⟨rfl, rfl⟩)
  clear hl hne
  have hw3 : pb < w''.heap.size := Nat.lt_of_lt_of_le hpb HA1.out.kept.size
  have e1 : w''.cell? ⟨pb, 1, none⟩ = some (.int .i64 (j : Int)) := HA1.out.here
  have e2 := HA1.out.free
  have k1 : (j : Int) + 1 < 9223372036854775808 := by omega
  have k2 : -9223372036854775808 ≤ (j : Int) + 1 := by omega
  generalize hz : (j : Int) = z at e1 k1 k2
  have HZ := hide hz
  clear hz
  go_wp2_with fail
  have HA4 := hide (HA1.out.goto hpb (j + 1))
  rw [show ((j + 1 : Nat) : Int) = z + 1 from by have := HZ.out; omega] at HA4
  clear HA1 HM1 HMp HV e1 e2 k1 k2 hw3
  generalize w''.setCell ⟨pb, 1, none⟩ (.int .i64 (z + 1)) = V4 at *
  have HS4 := hide (H.out.to HA4.out)
  have HE4 := hide (hE.out.to hpE HA4.out)
  refine (cause_any pb (j + 1) B ts c V4 HS4 hts hjl hg HE4 hpE (by unfold CfgD.count at hfew; omega)).mono ?_
  rintro e w5 hE5
  rcases hE5.split with ⟨c5, j5, hr, hj5, hK, hP, rfl⟩ | ⟨n, jn, hr, hjn, hK, hC, rfl⟩
  rotate_left
  · have HX := hide (EndsC.mk_bad (HTH.out.trans hr) hjn (HA4.out.kp.trans hK) hC)
    clear hE5 hr hK hC
    go_wp2_with fail
    exact ⟨rfl, HX.out⟩
  have HX := hide (EndsC.mk_ok (HTH.out.trans hr) hj5 (HA4.out.kp.trans hK) hP)
  clear hE5 hr hK hP
  go_wp2_with fail
  go_end0
  exact HX.out
set_option maxRecDepth 100000 in
set_option maxHeartbeats 4000000 in
theorem item_works (pb j B : Nat) (ts : List Tok) (c : CfgD) (W : World) (H : Hid (PSt pb ts j c B W)) (hts : ts.length ≤ 1000000) (hj : j ≤ ts.length) (hT : Hid (TokOk ts)) (hE : Hid (EnvP W)) (hpE : 3 ≤ pb) (hfew : c.count ≤ ts.length)(hw : Hid ((hdT (ts.drop j)).text = [119, 111, 114, 107, 115])) :
    Calls Tryz.prog 36 #[.pointer (some ⟨pb, 0, none⟩)] W fun e W' => EndsC pb ts W B (itemP c (ts.drop j)) e W' := by
  have hpb := H.out.cur.lt
  have hts' : ts.length ≤ 1099511627776 := by omega
  have hg := hide hT.out.good
  have ft1 := field_tok1
  have hmm := @run_makeMap Tryz.prog
  have hi0 := fun (v : Value) => run_insG W W.heap.size rfl #[] 0 ⟨#[109, 111, 100, 117, 108, 101]⟩ v (by kernel_rfl)
  have hi1 := fun (v : Value) => run_insG W W.heap.size rfl #[⟨.string ⟨#[109, 111, 100, 117, 108, 101]⟩, .func (.func 57) #[] #[], 0⟩] 1 ⟨#[99, 104, 97, 110, 110, 101, 108]⟩ v (by kernel_rfl)
  have hi2 := fun (v : Value) => run_insG W W.heap.size rfl #[⟨.string ⟨#[109, 111, 100, 117, 108, 101]⟩, .func (.func 57) #[] #[], 0⟩, ⟨.string ⟨#[99, 104, 97, 110, 110, 101, 108]⟩, .func (.func 58) #[] #[], 1⟩] 2 ⟨#[115, 119, 105, 116, 99, 104]⟩ v (by kernel_rfl)
  have hi3 := fun (v : Value) => run_insG W W.heap.size rfl #[⟨.string ⟨#[109, 111, 100, 117, 108, 101]⟩, .func (.func 57) #[] #[], 0⟩, ⟨.string ⟨#[99, 104, 97, 110, 110, 101, 108]⟩, .func (.func 58) #[] #[], 1⟩, ⟨.string ⟨#[115, 119, 105, 116, 99, 104]⟩, .func (.func 59) #[] #[], 2⟩] 3 ⟨#[108, 105, 110, 107]⟩ v (by kernel_rfl)
  have hi4 := fun (v : Value) => run_insG W W.heap.size rfl #[⟨.string ⟨#[109, 111, 100, 117, 108, 101]⟩, .func (.func 57) #[] #[], 0⟩, ⟨.string ⟨#[99, 104, 97, 110, 110, 101, 108]⟩, .func (.func 58) #[] #[], 1⟩, ⟨.string ⟨#[115, 119, 105, 116, 99, 104]⟩, .func (.func 59) #[] #[], 2⟩, ⟨.string ⟨#[108, 105, 110, 107]⟩, .func (.func 60) #[] #[], 3⟩] 4 ⟨#[118, 108]⟩ v (by kernel_rfl)
  have hi5 := fun (v : Value) => run_insG W W.heap.size rfl #[⟨.string ⟨#[109, 111, 100, 117, 108, 101]⟩, .func (.func 57) #[] #[], 0⟩, ⟨.string ⟨#[99, 104, 97, 110, 110, 101, 108]⟩, .func (.func 58) #[] #[], 1⟩, ⟨.string ⟨#[115, 119, 105, 116, 99, 104]⟩, .func (.func 59) #[] #[], 2⟩, ⟨.string ⟨#[108, 105, 110, 107]⟩, .func (.func 60) #[] #[], 3⟩, ⟨.string ⟨#[118, 108]⟩, .func (.func 61) #[] #[], 4⟩] 5 ⟨#[111, 110]⟩ v (by kernel_rfl)
  have hi6 := fun (v : Value) => run_insG W W.heap.size rfl #[⟨.string ⟨#[109, 111, 100, 117, 108, 101]⟩, .func (.func 57) #[] #[], 0⟩, ⟨.string ⟨#[99, 104, 97, 110, 110, 101, 108]⟩, .func (.func 58) #[] #[], 1⟩, ⟨.string ⟨#[115, 119, 105, 116, 99, 104]⟩, .func (.func 59) #[] #[], 2⟩, ⟨.string ⟨#[108, 105, 110, 107]⟩, .func (.func 60) #[] #[], 3⟩, ⟨.string ⟨#[118, 108]⟩, .func (.func 61) #[] #[], 4⟩, ⟨.string ⟨#[111, 110]⟩, .func (.func 62) #[] #[], 5⟩] 6 ⟨#[99, 97, 117, 115, 101]⟩ v (by kernel_rfl)
  have hi7 := fun (v : Value) => run_insG W W.heap.size rfl #[⟨.string ⟨#[109, 111, 100, 117, 108, 101]⟩, .func (.func 57) #[] #[], 0⟩, ⟨.string ⟨#[99, 104, 97, 110, 110, 101, 108]⟩, .func (.func 58) #[] #[], 1⟩, ⟨.string ⟨#[115, 119, 105, 116, 99, 104]⟩, .func (.func 59) #[] #[], 2⟩, ⟨.string ⟨#[108, 105, 110, 107]⟩, .func (.func 60) #[] #[], 3⟩, ⟨.string ⟨#[118, 108]⟩, .func (.func 61) #[] #[], 4⟩, ⟨.string ⟨#[111, 110]⟩, .func (.func 62) #[] #[], 5⟩, ⟨.string ⟨#[99, 97, 117, 115, 101]⟩, .func (.func 63) #[] #[], 6⟩] 7 ⟨#[119, 111, 114, 107, 115]⟩ v (by kernel_rfl)
  have HA0 := hide (AtJ.start H.out.cur.now H.out.cur.free)
  have HV := hide ((Below.refl W.heap.size W).alloc (Nat.le_refl _) (.map itms 8))
  have HMp := hide (heap_alloc_new W (.map itms 8))
  go_enter Tryz.func36, Tryz.ntmps36
  go_wp2_with fail
  change Calls _ _ _ (W.alloc (.map itms 8)) _
  generalize W.alloc (.map itms 8) = V at *
  clear hi0 hi1 hi2 hi3 hi4 hi5 hi6 hi7 hmm
  have HAV := hide (HA0.out.below hpb HV.out)
  have HC := hide (here_any pb j ts V (hide (H.out.cur.to HAV.out)) hts' hj)
  generalize ht : hdT (ts.drop j) = t at HC hw
  have HT0 := hide ht
  clear ht
  obtain ⟨κ, tx, ta⟩ := t
  unfold tokVal at HC
  dsimp only at HC hw
  generalize (κ : Int) = κz at HC
  generalize (ta : Int) = taz at HC
  refine (HC.out).mono ?_
  rintro e w1 ⟨rfl, hb⟩
  have HA1 := hide (HAV.out.below hpb hb)
  have hml := (Array.getElem?_eq_some_iff.1 HMp.out).1
  have HM1 := hide ((hb.block _ hml).trans HMp.out)
  clear hb HC HAV HA0 hml
  generalize hKK : (⟨tx.toArray⟩ : ByteArray) = K at *
  have HKW : Hid (K.data.toList = [119, 111, 114, 107, 115]) := hide (by rw [← hKK]; exact hw.out)
  clear hKK
  have hjl : j < ts.length := by
    rcases Nat.lt_or_ge j ts.length with h | h
    · exact h
    · have h1 := hw.out
      rw [hdT_end ts j h] at HT0
      have h2 := congrArg Tok.text HT0.out
      simp only at h2
      rw [← h2] at h1
      cases h1
  have HTH := hide (itm_works hT.out j c (by rw [HT0.out]; exact hw.out))
  clear hw HT0
  have hl := run_lookG HM1.out K (.func (.func 64) #[] #[]) (by rw [HKW.out]; rfl)
  have hne := neq_funG
  go_wp2_with fail
  ((with_reducible refine (check_yes _ _ _).mono ?_); rintro e w'' ⟨rfl, rfl⟩)
  clear hl hne
  have hw3 : pb < w''.heap.size := Nat.lt_of_lt_of_le hpb HA1.out.kept.size
  have e1 : w''.cell? ⟨pb, 1, none⟩ = some (.int .i64 (j : Int)) := HA1.out.here
  have e2 := HA1.out.free
  have k1 : (j : Int) + 1 < 9223372036854775808 := by omega
  have k2 : -9223372036854775808 ≤ (j : Int) + 1 := by omega
  generalize hz : (j : Int) = z at e1 k1 k2
  have HZ := hide hz
  clear hz
  go_wp2_with fail
  have HA4 := hide (HA1.out.goto hpb (j + 1))
  rw [show ((j + 1 : Nat) : Int) = z + 1 from by have := HZ.out; omega] at HA4
  clear HA1 HM1 HMp HV e1 e2 k1 k2 hw3
  generalize w''.setCell ⟨pb, 1, none⟩ (.int .i64 (z + 1)) = V4 at *
  have HS4 := hide (H.out.to HA4.out)
  have HE4 := hide (hE.out.to hpE HA4.out)
  refine (works_any pb (j + 1) B ts c V4 HS4 hts hjl hg HE4 hpE (by unfold CfgD.count at hfew; omega)).mono ?_
  rintro e w5 hE5
  rcases hE5.split with ⟨c5, j5, hr, hj5, hK, hP, rfl⟩ | ⟨n, jn, hr, hjn, hK, hC, rfl⟩
  rotate_left
  · have HX := hide (EndsC.mk_bad (HTH.out.trans hr) hjn (HA4.out.kp.trans hK) hC)
    clear hE5 hr hK hC
    go_wp2_with fail
    exact ⟨rfl, HX.out⟩
  have HX := hide (EndsC.mk_ok (HTH.out.trans hr) hj5 (HA4.out.kp.trans hK) hP)
  clear hE5 hr hK hP
  go_wp2_with fail
  go_end0
  exact HX.out
set_option maxRecDepth 100000 in
set_option maxHeartbeats 4000000 in
theorem item_bad (pb j B : Nat) (ts : List Tok) (c : CfgD) (W : World) (H : Hid (PSt pb ts j c B W)) (hts : ts.length ≤ 1000000) (hj : j ≤ ts.length) (hT : Hid (TokOk ts)) (hE : Hid (EnvP W)) (hpE : 3 ≤ pb) (hfew : c.count ≤ ts.length)(hw : Hid ((hdT (ts.drop j)).text ∉ itmWords)) :
    Calls Tryz.prog 36 #[.pointer (some ⟨pb, 0, none⟩)] W fun e W' => EndsC pb ts W B (itemP c (ts.drop j)) e W' := by
  have hpb := H.out.cur.lt
  have hts' : ts.length ≤ 1099511627776 := by omega
  have hg := hide hT.out.good
  have ft1 := field_tok1
  have hmm := @run_makeMap Tryz.prog
  have hi0 := fun (v : Value) => run_insG W W.heap.size rfl #[] 0 ⟨#[109, 111, 100, 117, 108, 101]⟩ v (by kernel_rfl)
  have hi1 := fun (v : Value) => run_insG W W.heap.size rfl #[⟨.string ⟨#[109, 111, 100, 117, 108, 101]⟩, .func (.func 57) #[] #[], 0⟩] 1 ⟨#[99, 104, 97, 110, 110, 101, 108]⟩ v (by kernel_rfl)
  have hi2 := fun (v : Value) => run_insG W W.heap.size rfl #[⟨.string ⟨#[109, 111, 100, 117, 108, 101]⟩, .func (.func 57) #[] #[], 0⟩, ⟨.string ⟨#[99, 104, 97, 110, 110, 101, 108]⟩, .func (.func 58) #[] #[], 1⟩] 2 ⟨#[115, 119, 105, 116, 99, 104]⟩ v (by kernel_rfl)
  have hi3 := fun (v : Value) => run_insG W W.heap.size rfl #[⟨.string ⟨#[109, 111, 100, 117, 108, 101]⟩, .func (.func 57) #[] #[], 0⟩, ⟨.string ⟨#[99, 104, 97, 110, 110, 101, 108]⟩, .func (.func 58) #[] #[], 1⟩, ⟨.string ⟨#[115, 119, 105, 116, 99, 104]⟩, .func (.func 59) #[] #[], 2⟩] 3 ⟨#[108, 105, 110, 107]⟩ v (by kernel_rfl)
  have hi4 := fun (v : Value) => run_insG W W.heap.size rfl #[⟨.string ⟨#[109, 111, 100, 117, 108, 101]⟩, .func (.func 57) #[] #[], 0⟩, ⟨.string ⟨#[99, 104, 97, 110, 110, 101, 108]⟩, .func (.func 58) #[] #[], 1⟩, ⟨.string ⟨#[115, 119, 105, 116, 99, 104]⟩, .func (.func 59) #[] #[], 2⟩, ⟨.string ⟨#[108, 105, 110, 107]⟩, .func (.func 60) #[] #[], 3⟩] 4 ⟨#[118, 108]⟩ v (by kernel_rfl)
  have hi5 := fun (v : Value) => run_insG W W.heap.size rfl #[⟨.string ⟨#[109, 111, 100, 117, 108, 101]⟩, .func (.func 57) #[] #[], 0⟩, ⟨.string ⟨#[99, 104, 97, 110, 110, 101, 108]⟩, .func (.func 58) #[] #[], 1⟩, ⟨.string ⟨#[115, 119, 105, 116, 99, 104]⟩, .func (.func 59) #[] #[], 2⟩, ⟨.string ⟨#[108, 105, 110, 107]⟩, .func (.func 60) #[] #[], 3⟩, ⟨.string ⟨#[118, 108]⟩, .func (.func 61) #[] #[], 4⟩] 5 ⟨#[111, 110]⟩ v (by kernel_rfl)
  have hi6 := fun (v : Value) => run_insG W W.heap.size rfl #[⟨.string ⟨#[109, 111, 100, 117, 108, 101]⟩, .func (.func 57) #[] #[], 0⟩, ⟨.string ⟨#[99, 104, 97, 110, 110, 101, 108]⟩, .func (.func 58) #[] #[], 1⟩, ⟨.string ⟨#[115, 119, 105, 116, 99, 104]⟩, .func (.func 59) #[] #[], 2⟩, ⟨.string ⟨#[108, 105, 110, 107]⟩, .func (.func 60) #[] #[], 3⟩, ⟨.string ⟨#[118, 108]⟩, .func (.func 61) #[] #[], 4⟩, ⟨.string ⟨#[111, 110]⟩, .func (.func 62) #[] #[], 5⟩] 6 ⟨#[99, 97, 117, 115, 101]⟩ v (by kernel_rfl)
  have hi7 := fun (v : Value) => run_insG W W.heap.size rfl #[⟨.string ⟨#[109, 111, 100, 117, 108, 101]⟩, .func (.func 57) #[] #[], 0⟩, ⟨.string ⟨#[99, 104, 97, 110, 110, 101, 108]⟩, .func (.func 58) #[] #[], 1⟩, ⟨.string ⟨#[115, 119, 105, 116, 99, 104]⟩, .func (.func 59) #[] #[], 2⟩, ⟨.string ⟨#[108, 105, 110, 107]⟩, .func (.func 60) #[] #[], 3⟩, ⟨.string ⟨#[118, 108]⟩, .func (.func 61) #[] #[], 4⟩, ⟨.string ⟨#[111, 110]⟩, .func (.func 62) #[] #[], 5⟩, ⟨.string ⟨#[99, 97, 117, 115, 101]⟩, .func (.func 63) #[] #[], 6⟩] 7 ⟨#[119, 111, 114, 107, 115]⟩ v (by kernel_rfl)
  have HA0 := hide (AtJ.start H.out.cur.now H.out.cur.free)
  have HV := hide ((Below.refl W.heap.size W).alloc (Nat.le_refl _) (.map itms 8))
  have HMp := hide (heap_alloc_new W (.map itms 8))
  go_enter Tryz.func36, Tryz.ntmps36
  go_wp2_with fail
  change Calls _ _ _ (W.alloc (.map itms 8)) _
  generalize W.alloc (.map itms 8) = V at *
  clear hi0 hi1 hi2 hi3 hi4 hi5 hi6 hi7 hmm
  have HAV := hide (HA0.out.below hpb HV.out)
  have HC := hide (here_any pb j ts V (hide (H.out.cur.to HAV.out)) hts' hj)
  generalize ht : hdT (ts.drop j) = t at HC hw
  have HT0 := hide ht
  clear ht
  obtain ⟨κ, tx, ta⟩ := t
  unfold tokVal at HC
  dsimp only at HC hw
  generalize (κ : Int) = κz at HC
  generalize (ta : Int) = taz at HC
  refine (HC.out).mono ?_
  rintro e w1 ⟨rfl, hb⟩
  have HA1 := hide (HAV.out.below hpb hb)
  have hml := (Array.getElem?_eq_some_iff.1 HMp.out).1
  have HM1 := hide ((hb.block _ hml).trans HMp.out)
  clear hb HC HAV HA0 hml
  generalize hKK : (⟨tx.toArray⟩ : ByteArray) = K at *
  have _ := hE
  have _ := hpE
  have _ := hfew
  have HTH := hide (itm_none hT.out j c (by rw [HT0.out]; exact hw.out))
  have hl := run_lookGN HM1.out K (by rw [← hKK]; exact hw.out)
  clear hKK hw HT0
  have hne := neq_nilG
  have HX := hide (EndsC.mk_bad (B := B) HTH.out hj HA1.out.kp (H.out.cur.to HA1.out))
  go_wp2_with fail
  ((with_reducible refine (check_no _ _ _).mono ?_); rintro e w'' ⟨rfl, rfl⟩)
  go_wp2_with fail
  exact ⟨rfl, HX.out⟩
theorem item_any (pb j B : Nat) (ts : List Tok) (c : CfgD) (W : World) (H : Hid (PSt pb ts j c B W)) (hts : ts.length ≤ 1000000) (hj : j ≤ ts.length) (hT : Hid (TokOk ts)) (hE : Hid (EnvP W)) (hpE : 3 ≤ pb) (hfew : c.count ≤ ts.length) :
    Calls Tryz.prog 36 #[.pointer (some ⟨pb, 0, none⟩)] W fun e W' => EndsC pb ts W B (itemP c (ts.drop j)) e W' := by
  by_cases h0 : (hdT (ts.drop j)).text = [109, 111, 100, 117, 108, 101]
  · exact item_module pb j B ts c W H hts hj hT hE hpE hfew h0
  by_cases h1 : (hdT (ts.drop j)).text = [99, 104, 97, 110, 110, 101, 108]
  · exact item_channel pb j B ts c W H hts hj hT hE hpE hfew h1
  by_cases h2 : (hdT (ts.drop j)).text = [115, 119, 105, 116, 99, 104]
  · exact item_switch pb j B ts c W H hts hj hT hE hpE hfew h2
  by_cases h3 : (hdT (ts.drop j)).text = [108, 105, 110, 107]
  · exact item_link pb j B ts c W H hts hj hT hE hpE hfew h3
  by_cases h4 : (hdT (ts.drop j)).text = [118, 108]
  · exact item_vl pb j B ts c W H hts hj hT hE hpE hfew h4
  by_cases h5 : (hdT (ts.drop j)).text = [111, 110]
  · exact item_on pb j B ts c W H hts hj hT hE hpE hfew h5
  by_cases h6 : (hdT (ts.drop j)).text = [99, 97, 117, 115, 101]
  · exact item_cause pb j B ts c W H hts hj hT hE hpE hfew h6
  by_cases h7 : (hdT (ts.drop j)).text = [119, 111, 114, 107, 115]
  · exact item_works pb j B ts c W H hts hj hT hE hpE hfew h7
  exact item_bad pb j B ts c W H hts hj hT hE hpE hfew (hide (by simp [itmWords, h0, h1, h2, h3, h4, h5, h6, h7]))
end Go.Proofs.YtlngbjphagnloaaGreatDoor

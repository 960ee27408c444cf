/-
  Merged texts: parse: vocabularies: number, of, net. | parse: run. | parse: the words of constants: word, Fault, Level, Action, instruction, Word, Operands. | parse: which instruction has a word.
-/
import Derived.Test.YtndpnpohdoggjaaGreatDoorPk3
import Derived.Test.YtndpnpohdoggjaaGreatDoorShelfF
import Derived.Test.YtndpnpohdoggjaaGreatDoorPk1
import Derived.Test.YtndpnpohdoggjaaGreatDoorPk5
import Derived.Test.YtndpnpohdoggjaaGreatDoorPk7
namespace Go.Proofs.YtndpnpohdoggjaaGreatDoor
open Go.RowKit
attribute [local go_sem] Later.cell
theorem gSp : Tryz.prog.globalNamed "strings.asciiSpace" = some 0 := by kernel_rfl
/-- What the parser's calls of the library ask of the world. -/
structure EnvP (w : World) : Prop where
  sp : Lib.TabIs Tryz.prog w "strings.asciiSpace" .u8 Lib.asciiSpaceTab
  mx : ∃ m, w.cell? ⟨2, 0, none⟩ = some (.int .i64 m)
  big : 3 ≤ w.heap.size
theorem EnvP.keptB {B : Nat} {w w' : World} (h : EnvP w) (hb : Below B w w') (hB : 3 ≤ B) : EnvP w' := by
  obtain ⟨m, hm⟩ := h.mx
  refine ⟨?_, ⟨m, (hb.cell (p := ⟨2, 0, none⟩) (by show 2 < B; omega)).trans hm⟩, Nat.le_trans h.big hb.size⟩
  have ht := h.sp
  unfold Lib.TabIs at ht ⊢
  exact var?_below hb gSp (by omega) ht
theorem EnvP.below {w w' : World} (h : EnvP w) (hb : Below w.heap.size w w') : EnvP w' := h.keptB hb h.big
theorem EnvP.to {pb j : Nat} {w w' : World} (h : EnvP w) (hp : 3 ≤ pb) (ha : AtJ pb j w w') : EnvP w' :=
  h.keptB (B := 3) (ha.kept.below h.big (fun i hi e => by omega)) (Nat.le_refl _)
theorem idx_find (x : List UInt8) : ∀ (l : List (List UInt8)) (i : Nat), Lib.idxFromS (l.map fun s => (⟨s.toArray⟩ : ByteArray)) ⟨x.toArray⟩ i = match l.findIdx? (· == x) with
    | some k => ((i + k : Nat) : Int)
    | none => -1
  | [], i => rfl
  | s :: l, i => by
    have ih := idx_find x l (i + 1)
    simp only [List.map_cons, Lib.idxFromS, List.findIdx?_cons]
    by_cases h : s = x
    · subst h
      simp
    · have h' : (⟨s.toArray⟩ : ByteArray) ≠ ⟨x.toArray⟩ := by
        intro e
        apply h
        have := congrArg (fun b : ByteArray => b.data.toList) e
        simpa using this
      rw [if_neg h', ih]
      have hb : (s == x) = false := by simpa using h
      rw [hb]
      cases l.findIdx? (· == x) with
      | none => rfl
      | some k =>
        show ((i + 1 + k : Nat) : Int) = ((i + (k + 1) : Nat) : Int)
        omega
theorem findN_le (l : List (List UInt8)) (s : List UInt8) : findN l s ≤ l.length := by
  unfold findN
  cases h : l.findIdx? (· == s) with
  | none => simp
  | some i =>
    have := (List.findIdx?_eq_some_iff_getElem.1 h).1
    show i + 1 ≤ _
    omega
theorem field_tok0 (W : World) (a0 a1 a2 : Value) : (Instr.field 136 (.agg #[a0, a1, a2]) 0).run Tryz.prog W = .ok a0 W := by kernel_rfl
theorem field_tok1 (W : World) (a0 a1 a2 : Value) : (Instr.field 136 (.agg #[a0, a1, a2]) 1).run Tryz.prog W = .ok a1 W := by kernel_rfl
/-- A vocabulary: its text and its words. -/
structure Voc (v : ByteArray) (ws : List (List UInt8)) : Prop where
  small : v.size < 4294967281
  ascii : v.data.toList.all (fun b => decide (b.toNat < 128)) = true
  words : Lib.fields v.data.toList = ws
  few : ws.length ≤ 200
end Go.Proofs.YtndpnpohdoggjaaGreatDoor
namespace Go.Proofs.YtndpnpohdoggjaaGreatDoor
open Go.RowKit
attribute [local go_sem] Later.cell
/-- What run yields: the parser's result if all tokens are consumed, or where the error lies and the error. -/
def runT {α : Type} (m : Ps α) (x : List Tok × Nat × Nat) (size : Nat) : Option α × Nat × Nat :=
  if x.2.2 = 0 then match m x.1 with
    | .ok a [] => (some a, 0, 0)
    | .ok _ (t :: r) => (none, atT (t :: r) size, 80)
    | .bad e r => (none, atT r size, e)
  else (none, x.2.1, x.2.2)
/-- What is asked of the function that run applies: it has one variable cb; R tells what it holds. -/
structure Does {α : Type} (df : FuncId) (cb : Nat) (m : Ps α) (R : Nat → Option α → World → Prop) : Prop where
  call : ∀ (pb B : Nat) (ts : List Tok) (W : World), Hid (PSt pb ts 0 CfgD.none B W) → Hid (TokOk ts) → ts.length ≤ 1000000 → Hid (EnvP W) → 3 ≤ pb → cb < pb → R B none W →
    Calls Tryz.prog df #[.pointer (some ⟨pb, 0, none⟩), .pointer (some ⟨cb, 0, none⟩)] W fun e W' => ∃ j, j ≤ ts.length ∧ Kept (fun b => b = pb ∨ b = cb ∨ B ≤ b) W W' ∧ Cur pb ts j W' ∧ match m ts with
      | .ok a r => r = ts.drop j ∧ e = .returned (.tuple #[]) ∧ R B (some a) W'
      | .bad n r => r = ts.drop j ∧ e = .panicked [{ v := faultV n, recovered := false }] ∧ R B none W'
  left : ∀ (ts : List Tok) (a : α) (t : Tok) (r : List Tok), m ts = .ok a (t :: r) → ∀ B W, R B (some a) W → R B none W
  enter : ∀ args w, (callFunc df args).run Tryz.prog w = .ok (.enter df args) w
  keep : ∀ B oa W W', R B oa W → Kept (fun b => b ≠ cb ∧ b < B) W W' → R B oa W'
def RunR {α : Type} (cb : Nat) (m : Ps α) (R : Nat → Option α → World → Prop) (src : ByteArray) (W : World) (e : Ending) (W' : World) : Prop :=
  ∃ B, W.heap.size ≤ B ∧ Kept (fun b => b = cb) W W' ∧ e = .returned (.tuple #[.int .i64 ((runT m (lexR src.data.toList) src.size).2.1 : Int), .int .i64 ((runT m (lexR src.data.toList) src.size).2.2 : Int)]) ∧ R B (runT m (lexR src.data.toList) src.size).1 W'
def runV0 (W : World) (src : ByteArray) : World := ((W.alloc (.cells #[.string src] 9)).alloc (.cells #[.int .i64 0] 3)).alloc (.cells #[.int .i64 0] 24)
structure RunF (W V : World) (src : ByteArray) : Prop where
  below : Below W.heap.size W V
  size : W.heap.size + 3 ≤ V.heap.size
  s : V.heap[W.heap.size]? = some (.cells #[.string src] 9 (0, 0))
  a : V.heap[W.heap.size + 1]? = some (.cells #[.int .i64 0] 3 (0, 0))
  e : V.heap[W.heap.size + 1 + 1]? = some (.cells #[.int .i64 0] 24 (0, 0))
theorem runV0_facts (W : World) (src : ByteArray) : RunF W (runV0 W src) src := by
  unfold runV0
  obtain ⟨h1, h2, h3, h4, h5⟩ := alloc3 W (.cells #[.string src] 9) (.cells #[.int .i64 0] 3) (.cells #[.int .i64 0] 24)
  exact ⟨h5, by omega, h1, h2, h3⟩
theorem leaves_tmps {P : Program} {fn : Func} {t t' : Array Value} {R : Ending → World → Prop} (h : results fn t = results fn t') : ∀ (ds : List Deferred) (u : FrameMode) (w : World), Leaves P fn t R ds u w → Leaves P fn t' R ds u w
  | [], .returning, w, ⟨v, h1, h2⟩ => ⟨v, by rw [← h]; exact h1, h2⟩
  | [], .panicking _, _, hl => hl
  | [], .run, _, hl => hl
  | d :: ds, u, w, ⟨hu, fv, cap, f, args, h1, h2, h3⟩ => ⟨hu, fv, cap, f, args, h1, h2, h3.mono (fun e u' w' he => by
      cases e with
      | returned v => exact leaves_tmps h ds _ _ he
      | panicked chain => exact leaves_tmps h ds _ _ he
      | outgrown => exact he)⟩
theorem run_results (t : Array Value) (k : Nat) (v : Value) (hk : k ≠ 4 ∧ k ≠ 5) : results Tryz.f12 (t.setIfInBounds k v) = results Tryz.f12 t := by
  have h4 : (t.setIfInBounds k v)[4]? = t[4]? := Array.getElem?_setIfInBounds_ne hk.1
  have h5 : (t.setIfInBounds k v)[5]? = t[5]? := Array.getElem?_setIfInBounds_ne hk.2
  simp only [results, Tryz.results12]
  simp [h4, h5]
theorem run_put {R : Ending → World → Prop} {a : Act} {c : List PanicEntry} {w : World} {v : Value} (k : Nat) (hk : k ≠ 4 ∧ k ≠ 5) (h : Leaves Tryz.prog Tryz.f12 (a.put (some k) v).tmps R (a.put (some k) v).defers (.panicking c) w) : Leaves Tryz.prog Tryz.f12 a.tmps R a.defers (.panicking c) w :=
  leaves_tmps (run_results _ _ _ hk) _ _ _ h
def parRow (A : Option Addr) (n c : Nat) : Obj := .cells #[Value.slice A n c, Value.int .i64 0, Value.slice none 0 0, Value.slice none 0 0, Value.slice none 0 0, Value.slice none 0 0, Value.slice none 0 0, Value.slice none 0 0, Value.slice none 0 0, Value.slice none 0 0] 79 (0, 0)
def runV2 (X : World) (A : Option Addr) (n c : Nat) : World := (X.alloc (parRow A n c)).alloc (.cells #[.pointer (some ⟨X.heap.size, 0, none⟩)] 74)
theorem runV2_facts (X : World) (A : Option Addr) (ts : List Tok) (c : Nat) (hT : TRows .u8 X A (ts.map Tok.toZ)) (hA : ∀ a, A = some a → a.block < X.heap.size) :
    Below X.heap.size X (runV2 X A ts.length c) ∧ PSt X.heap.size ts 0 CfgD.none (X.heap.size + 2) (runV2 X A ts.length c) ∧ (runV2 X A ts.length c).heap[X.heap.size + 1]? = some (.cells #[.pointer (some ⟨X.heap.size, 0, none⟩)] 74 (0, 0)) ∧ (runV2 X A ts.length c).heap.size = X.heap.size + 2 := by
  have hB : Below X.heap.size X (runV2 X A ts.length c) := ((Below.refl _ _).alloc (Nat.le_refl _) _).alloc (by simp) _
  have hz : (runV2 X A ts.length c).heap.size = X.heap.size + 2 := by simp [runV2]
  have hr : (runV2 X A ts.length c).heap[X.heap.size]? = some (parRow A ts.length c) := by
    unfold runV2
    rw [Below.heap_alloc _ _ _ (by simp)]
    exact heap_alloc_new X _
  have hq : (runV2 X A ts.length c).heap[X.heap.size + 1]? = some (.cells #[.pointer (some ⟨X.heap.size, 0, none⟩)] 74 (0, 0)) := by
    have := heap_alloc_new (X.alloc (parRow A ts.length c)) (.cells #[.pointer (some ⟨X.heap.size, 0, none⟩)] 74)
    simpa [runV2] using this
  refine ⟨hB, ⟨⟨⟨A, c, cell_of_row _ _ 0 _ _ _ hr, hT.below hB, fun a ha => by have := hA a ha; omega⟩, cell_of_row _ _ 1 _ _ _ hr, frozen_of_row _ _ 1 _ _ hr⟩, by omega, by omega, fun A' c' h a ha => ?_, ?_, fun o _ => frozen_of_row _ _ o _ _ hr⟩, hq, hz⟩
  · have h0 : (runV2 X A ts.length c).cell? ⟨X.heap.size, 0, none⟩ = some (.slice A ts.length c) := cell_of_row _ _ 0 _ _ _ hr
    rw [h0] at h
    injection h with h
    injection h with h1 _ _
    subst h1
    have := hA a ha
    omega
  · refine ⟨List.replicate 8 (.slice none 0 0), ⟨rfl, fun k r hr e he => ?_, fun k v r hv hr => ?_, fun k l u v g hu hv hug => ?_⟩, fun k v hv => ?_⟩
    · rcases (by have := (List.getElem?_eq_some_iff.1 hr).1; simp [cfgRows] at this; omega : k = 0 ∨ k = 1 ∨ k = 2 ∨ k = 3 ∨ k = 4 ∨ k = 5 ∨ k = 6 ∨ k = 7) with rfl | rfl | rfl | rfl | rfl | rfl | rfl | rfl
      all_goals
        simp [cfgRows, CfgD.none] at hr
        subst hr
        simp at he
    · have hv' : v = .slice none 0 0 := by
        have := List.mem_of_getElem? hv
        rw [List.mem_replicate] at this
        exact this.2
      subst hv'
      rcases (by have := (List.getElem?_eq_some_iff.1 hr).1; simp [cfgRows] at this; omega : k = 0 ∨ k = 1 ∨ k = 2 ∨ k = 3 ∨ k = 4 ∨ k = 5 ∨ k = 6 ∨ k = 7) with rfl | rfl | rfl | rfl | rfl | rfl | rfl | rfl
      all_goals
        simp [cfgRows, CfgD.none] at hr
        subst hr
        exact ⟨[], World.ownsRow_nil _ _ _ _, DCells.nil⟩
    · have := List.mem_of_getElem? hu
      rw [List.mem_replicate] at this
      rw [this.2] at hug
      cases hug
    · have hk := (List.getElem?_eq_some_iff.1 hv).1
      simp only [List.length_replicate] at hk
      have hv' : v = .slice none 0 0 := by
        have := List.mem_of_getElem? hv
        rw [List.mem_replicate] at this
        exact this.2
      subst hv'
      rcases (by omega : k = 0 ∨ k = 1 ∨ k = 2 ∨ k = 3 ∨ k = 4 ∨ k = 5 ∨ k = 6 ∨ k = 7) with rfl | rfl | rfl | rfl | rfl | rfl | rfl | rfl
      all_goals exact cell_of_row _ _ _ _ _ _ hr
set_option maxRecDepth 100000 in
set_option maxHeartbeats 4000000 in
theorem run_res (w : World) (tmps : Array Value) (ab eb : Nat) (za ze : Int) (h4 : tmps[4]? = some (.pointer (some ⟨ab, 0, none⟩))) (h5 : tmps[5]? = some (.pointer (some ⟨eb, 0, none⟩))) (ha : w.cell? ⟨ab, 0, none⟩ = some (.int .i64 za)) (he : w.cell? ⟨eb, 0, none⟩ = some (.int .i64 ze)) :
    (results Tryz.f12 tmps).run Tryz.prog w = .ok (.tuple #[.int .i64 za, .int .i64 ze]) w := by
  simp [results, Tryz.results12, go_sem, h4, h5, ha, he]
set_option maxRecDepth 100000 in
set_option maxHeartbeats 4000000 in
theorem run_any {α : Type} (df cb : Nat) (m : Ps α) (R : Nat → Option α → World → Prop) (hD : Hid (Does df cb m R)) (src : ByteArray) (W : World) (hE : Hid (Env W)) (hP : Hid (EnvP W)) (hcb : cb < W.heap.size) (hcp : 3 ≤ cb) (hR0 : Hid (∀ B, R B none W)) :
    Calls Tryz.prog 12 #[.string src, .func (.func df) #[] #[.pointer (some ⟨cb, 0, none⟩)]] W (RunR cb m R src W) := by
  have hmf : ∀ (fn : Fn) (first cap : Array Value) (w : World), (Instr.makeFunc fn first cap).run Tryz.prog w = .ok (.func fn first cap) w := fun _ _ _ _ => rfl
  go_enter_defers Tryz.func12, Tryz.ntmps12
  go_wp2_with fail
  change Calls _ _ _ (runV0 W src) _
  have HF := hide (runV0_facts W src)
  generalize runV0 W src = V at *
  refine (lex_any src V (hE.out.kept HF.out.below)).mono ?_
  rintro e w1 ⟨v, rfl, ho, hnil, hb⟩
  obtain ⟨A, c, rfl, hTR⟩ := trows_own (ts := (lexR src.data.toList).1.map Tok.toZ) ho (by simp)
  have hAB : ∀ a, A = some a → a.block < w1.heap.size ∧ V.heap.size ≤ a.block := fun a ha => by
    obtain ⟨g, hg⟩ : ∃ g, (Value.slice A (lexR src.data.toList).1.length c).ownBlock = some g := ⟨a.block, by rw [ha]; rfl⟩
    have h1 := own_lt ho hg
    rw [ha] at hg
    injection hg with hg
    subst hg
    exact ⟨h1.2, h1.1⟩
  have HAB := hide hAB
  have HTR := hide hTR
  obtain ⟨hT, hlen⟩ := tokok_lex src.data.toList
  have HT := hide hT
  have HB1 := hide (HF.out.below.trans (hb.mono HF.out.below.size))
  have hz1 : W.heap.size + 3 ≤ w1.heap.size := Nat.le_trans HF.out.size hb.size
  have hz1' : V.heap.size ≤ w1.heap.size := hb.size
  have hs1 := (hb.block W.heap.size (by have := HF.out.size; omega)).trans HF.out.s
  have ha1 := (hb.block (W.heap.size + 1) (by have := HF.out.size; omega)).trans HF.out.a
  have he1 := (hb.block (W.heap.size + 1 + 1) (by have := HF.out.size; omega)).trans HF.out.e
  have HS1 := hide hs1
  have HA1 := hide ha1
  have HE1 := hide he1
  have hVz := HF.out.size
  clear ho hnil hb hAB hTR hT hs1 ha1 he1 HF
  generalize hL : lexR src.data.toList = L at *
  have HL := hide hL
  clear hL
  obtain ⟨ts, ea, er⟩ := L
  dsimp only at hlen HT HTR HAB ⊢
  have c0 := cell_of_row _ _ 0 _ _ _ HA1.out
  have c1 := frozen_of_row _ _ 0 _ _ HA1.out
  have c2 := cell_of_row _ _ 0 _ _ _ HE1.out
  have c3 := frozen_of_row _ _ 0 _ _ HE1.out
  have l0 := (Array.getElem?_eq_some_iff.1 HA1.out).1
  have l1 := (Array.getElem?_eq_some_iff.1 HE1.out).1
  by_cases her : er = 0
  rotate_left
  · have HER := hide her
    have hb1 : ((er : Int) != 0) = true := by simp; omega
    have hb2 : ((er : Int) == 0) = false := by simp; omega
    clear her
    generalize hze : (er : Int) = ze at *
    generalize hza : (ea : Int) = za at *
    have HZE := hide hze
    have HZA := hide hza
    clear hze hza
    have HK := hide ((((HB1.out.setCell (p := ⟨W.heap.size + 1, 0, none⟩) (by show W.heap.size ≤ W.heap.size + 1; omega) (.int .i64 za)).setCell (p := ⟨W.heap.size + 1 + 1, 0, none⟩) (by show W.heap.size ≤ W.heap.size + 1 + 1; omega) (.int .i64 ze)).alloc (by simp [World.setCell]; omega) (.cells #[Value.slice A ts.length c] 52)))
    have ha2 := (Below.heap_setCell (w1.setCell ⟨W.heap.size + 1, 0, none⟩ (.int .i64 za)) ⟨W.heap.size + 1 + 1, 0, none⟩ (.int .i64 ze) (W.heap.size + 1) (by show W.heap.size + 1 ≠ W.heap.size + 1 + 1; omega)).trans (heap_setCell_same w1 (W.heap.size + 1) 0 _ _ _ HA1.out)
    have he2 := heap_setCell_same (w1.setCell ⟨W.heap.size + 1, 0, none⟩ (.int .i64 za)) (W.heap.size + 1 + 1) 0 _ _ (.int .i64 ze) ((Below.heap_setCell w1 ⟨W.heap.size + 1, 0, none⟩ (.int .i64 za) (W.heap.size + 1 + 1) (by show W.heap.size + 1 + 1 ≠ W.heap.size + 1; omega)).trans HE1.out)
    have HA2 := hide ((Below.heap_alloc _ (.cells #[Value.slice A ts.length c] 52) (W.heap.size + 1) (by simp [World.setCell]; omega)).trans ha2)
    have HE2 := hide ((Below.heap_alloc _ (.cells #[Value.slice A ts.length c] 52) (W.heap.size + 1 + 1) (by simp [World.setCell]; omega)).trans he2)
    clear ha2 he2
    go_wp2_with fail
    clear c0 c1 c2 c3 l0 l1
    generalize ((w1.setCell ⟨W.heap.size + 1, 0, none⟩ (.int .i64 za)).setCell ⟨W.heap.size + 1 + 1, 0, none⟩ (.int .i64 ze)).alloc (.cells #[Value.slice A ts.length c] 52) = X at *
    have c0 := cell_of_row _ _ 0 _ _ _ HA2.out
    have c1 := frozen_of_row _ _ 0 _ _ HA2.out
    have c2 := cell_of_row _ _ 0 _ _ _ HE2.out
    have c3 := frozen_of_row _ _ 0 _ _ HE2.out
    have l0 := (Array.getElem?_eq_some_iff.1 HA2.out).1
    have l1 := (Array.getElem?_eq_some_iff.1 HE2.out).1
    have HFIN := hide (((HK.out.setCell (p := ⟨W.heap.size + 1, 0, none⟩) (by show W.heap.size ≤ W.heap.size + 1; omega) (.int .i64 za)).setCell (p := ⟨W.heap.size + 1 + 1, 0, none⟩) (by show W.heap.size ≤ W.heap.size + 1 + 1; omega) (.int .i64 ze)).drew)
    have q0 : ((X.setCell ⟨W.heap.size + 1, 0, none⟩ (.int .i64 za)).setCell ⟨W.heap.size + 1 + 1, 0, none⟩ (.int .i64 ze)).drew.cell? ⟨W.heap.size + 1, 0, none⟩ = _ := cell_of_row _ _ 0 _ _ _ ((Below.heap_setCell (X.setCell ⟨W.heap.size + 1, 0, none⟩ (.int .i64 za)) ⟨W.heap.size + 1 + 1, 0, none⟩ (.int .i64 ze) (W.heap.size + 1) (by show W.heap.size + 1 ≠ W.heap.size + 1 + 1; omega)).trans (heap_setCell_same X (W.heap.size + 1) 0 _ _ (.int .i64 za) HA2.out))
    have q1 : ((X.setCell ⟨W.heap.size + 1, 0, none⟩ (.int .i64 za)).setCell ⟨W.heap.size + 1 + 1, 0, none⟩ (.int .i64 ze)).drew.cell? ⟨W.heap.size + 1 + 1, 0, none⟩ = _ := cell_of_row _ _ 0 _ _ _ (heap_setCell_same (X.setCell ⟨W.heap.size + 1, 0, none⟩ (.int .i64 za)) (W.heap.size + 1 + 1) 0 _ _ (.int .i64 ze) ((Below.heap_setCell X ⟨W.heap.size + 1, 0, none⟩ (.int .i64 za) (W.heap.size + 1 + 1) (by show W.heap.size + 1 + 1 ≠ W.heap.size + 1; omega)).trans HE2.out))
    have hRR : RunR cb m R src W (.returned (.tuple #[.int .i64 za, .int .i64 ze])) ((X.setCell ⟨W.heap.size + 1, 0, none⟩ (.int .i64 za)).setCell ⟨W.heap.size + 1 + 1, 0, none⟩ (.int .i64 ze)).drew := by
      have hT : runT m (lexR src.data.toList) src.size = (none, ea, er) := by unfold runT; rw [HL.out]; exact if_neg HER.out
      refine ⟨W.heap.size, Nat.le_refl _, Kept.of_below HFIN.out, by rw [hT, ← HZE.out, ← HZA.out], by rw [hT]; exact hD.out.keep _ _ _ _ (hR0.out _) (Kept.of_below HFIN.out)⟩
    have HRR := hide hRR
    clear hRR
    have Q0 := hide q0
    have Q1 := hide q1
    clear q0 q1
    go_region
    go_wp2_with fail
    exact ⟨_, run_res _ _ _ _ _ _ rfl rfl Q0.out Q1.out, HRR.out⟩
  · subst her
    generalize hza : (ea : Int) = za at *
    clear hza
    have HK := hide ((((HB1.out.setCell (p := ⟨W.heap.size + 1, 0, none⟩) (by show W.heap.size ≤ W.heap.size + 1; omega) (.int .i64 za)).setCell (p := ⟨W.heap.size + 1 + 1, 0, none⟩) (by show W.heap.size ≤ W.heap.size + 1 + 1; omega) (.int .i64 0)).alloc (by simp [World.setCell]; omega) (.cells #[Value.slice A ts.length c] 52)))
    have ha2 := (Below.heap_setCell (w1.setCell ⟨W.heap.size + 1, 0, none⟩ (.int .i64 za)) ⟨W.heap.size + 1 + 1, 0, none⟩ (.int .i64 0) (W.heap.size + 1) (by show W.heap.size + 1 ≠ W.heap.size + 1 + 1; omega)).trans (heap_setCell_same w1 (W.heap.size + 1) 0 _ _ (.int .i64 za) HA1.out)
    have he2 := heap_setCell_same (w1.setCell ⟨W.heap.size + 1, 0, none⟩ (.int .i64 za)) (W.heap.size + 1 + 1) 0 _ _ (.int .i64 0) ((Below.heap_setCell w1 ⟨W.heap.size + 1, 0, none⟩ (.int .i64 za) (W.heap.size + 1 + 1) (by show W.heap.size + 1 + 1 ≠ W.heap.size + 1; omega)).trans HE1.out)
    have hs2 := (Below.heap_setCell (w1.setCell ⟨W.heap.size + 1, 0, none⟩ (.int .i64 za)) ⟨W.heap.size + 1 + 1, 0, none⟩ (.int .i64 0) W.heap.size (by show W.heap.size ≠ W.heap.size + 1 + 1; omega)).trans ((Below.heap_setCell w1 ⟨W.heap.size + 1, 0, none⟩ (.int .i64 za) W.heap.size (by show W.heap.size ≠ W.heap.size + 1; omega)).trans HS1.out)
    have HA2 := hide ((Below.heap_alloc _ (.cells #[Value.slice A ts.length c] 52) (W.heap.size + 1) (by simp [World.setCell]; omega)).trans ha2)
    have HE2 := hide ((Below.heap_alloc _ (.cells #[Value.slice A ts.length c] 52) (W.heap.size + 1 + 1) (by simp [World.setCell]; omega)).trans he2)
    have HS2 := hide ((Below.heap_alloc _ (.cells #[Value.slice A ts.length c] 52) W.heap.size (by simp [World.setCell]; omega)).trans hs2)
    have hl2 := heap_alloc_new ((w1.setCell ⟨W.heap.size + 1, 0, none⟩ (.int .i64 za)).setCell ⟨W.heap.size + 1 + 1, 0, none⟩ (.int .i64 0)) (.cells #[Value.slice A ts.length c] 52)
    have hzz : ((w1.setCell ⟨W.heap.size + 1, 0, none⟩ (.int .i64 za)).setCell ⟨W.heap.size + 1 + 1, 0, none⟩ (.int .i64 0)).heap.size = w1.heap.size := by simp [World.setCell]
    rw [hzz] at hl2
    have HL2 := hide hl2
    have hzX : (((w1.setCell ⟨W.heap.size + 1, 0, none⟩ (.int .i64 za)).setCell ⟨W.heap.size + 1 + 1, 0, none⟩ (.int .i64 0)).alloc (.cells #[Value.slice A ts.length c] 52)).heap.size = w1.heap.size + 1 := by simp [World.setCell]
    have hkt : Kept (fun b => b = W.heap.size + 1 ∨ b = W.heap.size + 1 + 1) w1 (((w1.setCell ⟨W.heap.size + 1, 0, none⟩ (.int .i64 za)).setCell ⟨W.heap.size + 1 + 1, 0, none⟩ (.int .i64 0)).alloc (.cells #[Value.slice A ts.length c] 52)) := (((Kept.refl _ w1).setCell (p := ⟨W.heap.size + 1, 0, none⟩) (.inl (.inl rfl)) _).setCell (p := ⟨W.heap.size + 1 + 1, 0, none⟩) (.inl (.inr rfl)) _).alloc _
    have HTRX := hide (HTR.out.kept hkt (fun a ha => by have := HAB.out a ha; omega))
    clear ha2 he2 hs2 hl2 hzz hkt
    go_upto_region 4 with fail
    clear c0 c1 c2 c3 l0 l1
    generalize ((w1.setCell ⟨W.heap.size + 1, 0, none⟩ (.int .i64 za)).setCell ⟨W.heap.size + 1 + 1, 0, none⟩ (.int .i64 0)).alloc (.cells #[Value.slice A ts.length c] 52) = X at *
    have hzX1 : w1.heap.size < X.heap.size := by omega
    have HZX := hide hzX
    obtain ⟨lb, hlb⟩ : ∃ lb, lb = w1.heap.size := ⟨_, rfl⟩
    rw [← hlb] at HL2 ⊢
    have hlb1 : W.heap.size + 3 ≤ lb := by omega
    have hlb2 : lb < X.heap.size := by omega
    have HLB := hide hlb
    clear hzX hlb
    have hdf := hD.out.enter
    have e0 : X.cell? ⟨lb, 0, none⟩ = some (.slice A ts.length c) := cell_of_row _ _ 0 _ _ _ HL2.out
    go_wp2_with fail
    change Calls _ _ _ (runV2 X A ts.length c) _
    obtain ⟨hB2, hP2, hq2, hz2⟩ := runV2_facts X A ts c HTRX.out (fun a ha => by have := HAB.out a ha; omega)
    have HXY := hide hB2
    have HQ2 := hide hq2
    have hz2' : X.heap.size + 2 ≤ (runV2 X A ts.length c).heap.size := by omega
    generalize runV2 X A ts.length c = Y at *
    have hWY : Below W.heap.size W Y := HK.out.trans (hB2.mono HK.out.size)
    have HWY := hide hWY
    have HTRY := hide (HTRX.out.below hB2)
    clear hdf e0
    refine (hD.out.call X.heap.size (X.heap.size + 2) ts Y (hide hP2) HT (by omega) (hide (hP.out.below hWY)) (by have := hP.out.big; have := HK.out.size; omega) (by have := HK.out.size; omega) (hD.out.keep _ _ _ _ (hR0.out _) (Kept.of_below hWY))).mono ?_
    clear hB2 hP2 hq2 hz2 hWY
    rintro e w5 ⟨j, hj, hk, hC, hm⟩
    have hsz := HK.out.size
    have hkc : ∀ k, k = W.heap.size ∨ k = W.heap.size + 1 ∨ k = W.heap.size + 1 + 1 ∨ k = lb ∨ k = X.heap.size + 1 → w5.heap[k]? = Y.heap[k]? := fun k hk5 => hk.block k (by omega) (by omega)
    have hyx : ∀ k, k < X.heap.size → Y.heap[k]? = X.heap[k]? := fun k hk5 => HXY.out.block k hk5
    have hs5 := cell_of_row _ _ 0 _ _ _ ((hkc _ (.inl rfl)).trans ((hyx _ (by omega)).trans HS2.out))
    have ha5 := cell_of_row _ _ 0 _ _ _ ((hkc _ (.inr (.inl rfl))).trans ((hyx _ (by omega)).trans HA2.out))
    have hfa5 := frozen_of_row _ _ 0 _ _ ((hkc _ (.inr (.inl rfl))).trans ((hyx _ (by omega)).trans HA2.out))
    have he5 := cell_of_row _ _ 0 _ _ _ ((hkc _ (.inr (.inr (.inl rfl)))).trans ((hyx _ (by omega)).trans HE2.out))
    have hfe5 := frozen_of_row _ _ 0 _ _ ((hkc _ (.inr (.inr (.inl rfl)))).trans ((hyx _ (by omega)).trans HE2.out))
    have hl5 := cell_of_row _ _ 0 _ _ _ ((hkc _ (.inr (.inr (.inr (.inl rfl))))).trans ((hyx _ (by omega)).trans HL2.out))
    have hq5 := cell_of_row _ _ 0 _ _ _ ((hkc _ (.inr (.inr (.inr (.inr rfl))))).trans HQ2.out)
    have HTR5 := hide (HTRY.out.kept hk (fun a ha => by have := HAB.out a ha; omega))
    have hKW : ∀ w9, Kept (fun b => b = W.heap.size + 1 ∨ b = W.heap.size + 1 + 1) w5 w9 → Kept (fun b => b = cb) W w9 ∧ Kept (fun b => b ≠ cb ∧ b < X.heap.size + 2) w5 w9 := fun w9 h => ⟨(((Kept.of_below HWY.out : Kept (fun b => b = cb) W Y).trans2 hk (fun i hi hg => by omega)).trans2 h (fun i hi hg => by omega)), h.mono (fun i hi => by omega)⟩
    have HKW := hide hKW
    have HC5 := hide hC
    have hY5 := hk.size
    clear hkc hyx hKW hC hk
    cases hmt : m ts with
    | bad n r =>
      rw [hmt] at hm
      obtain ⟨hr, rfl, hR5⟩ := hm
      have HR5 := hide hR5
      have HMT := hide hmt
      have HRD := hide hr
      clear hR5 hmt hr
      have hT : runT m (lexR src.data.toList) src.size = (none, atT r src.size, n) := by unfold runT; rw [HL.out]; simp only [if_true]; rw [HMT.out]
      have HTT := hide hT
      clear hT
      go_wp2_with fail
      refine leaves_cons (f := 69) (args := #[.pointer (some ⟨W.heap.size, 0, none⟩), .pointer (some ⟨W.heap.size + 1, 0, none⟩), .pointer (some ⟨W.heap.size + 1 + 1, 0, none⟩), .pointer (some ⟨X.heap.size + 1, 0, none⟩), .pointer (some ⟨lb, 0, none⟩)]) (by simp) (by simp [go_sem]) ?_
      refine (run1_catch (W.heap.size) (W.heap.size + 1) (W.heap.size + 1 + 1) (X.heap.size + 1) lb (X.heap.size) j n src ts A c _ _ [] w5 (hide hs5) (hide hq5) (hide HC5.out.now) (hide hl5) HTR5 (hide ⟨ha5, hfa5⟩) (hide ⟨he5, hfe5⟩) (by omega) (hide (fun a ha => by have := HAB.out a ha; omega)) (by omega) hj).mono ?_
      rintro e u' w9 ⟨rfl, rfl, hK9, ha9, he9⟩
      obtain ⟨hk1, hk2⟩ := HKW.out w9 hK9
      exact ⟨_, run_res _ _ _ _ _ _ rfl rfl ha9 he9, X.heap.size + 2, by omega, hk1, by rw [HTT.out, HRD.out], by rw [HTT.out]; exact hD.out.keep _ _ _ _ HR5.out hk2⟩
    | ok a r =>
      rw [hmt] at hm
      obtain ⟨hr, rfl, hR5⟩ := hm
      have HR5 := hide hR5
      have HMT := hide hmt
      have HRD := hide hr
      clear hR5 hmt hr
      go_wp2_with fail
      refine wp_region_tail (S := fun w' => w'.heap = w5.heap) 11 (by kernel_rfl) (by kernel_rfl) rfl (fun hHeld => ?_)
      have hs5' : w5.drew.cell? ⟨W.heap.size, 0, none⟩ = _ := hs5
      have ha5' : w5.drew.cell? ⟨W.heap.size + 1, 0, none⟩ = _ := ha5
      have hfa5' : w5.drew.frozen? ⟨W.heap.size + 1, 0, none⟩ = _ := hfa5
      have he5' : w5.drew.cell? ⟨W.heap.size + 1 + 1, 0, none⟩ = _ := he5
      have hfe5' : w5.drew.frozen? ⟨W.heap.size + 1 + 1, 0, none⟩ = _ := hfe5
      have hl5' : w5.drew.cell? ⟨lb, 0, none⟩ = _ := hl5
      have hq5' : w5.drew.cell? ⟨X.heap.size + 1, 0, none⟩ = _ := hq5
      have HN5 : Hid (w5.drew.cell? ⟨X.heap.size, 1, none⟩ = some (.int .i64 (j : Int))) := hide HC5.out.now
      have HTR6 : Hid (TRows .u8 w5.drew A (ts.map Tok.toZ)) := HTR5
      have HD6 : Hid (Kept (fun b => b = W.heap.size + 1 ∨ b = W.heap.size + 1 + 1) w5 w5.drew) := hide (Kept.refl _ _).drew
      refine wpAnyT_take (i := 0) (oi := ⟨some 26, _, _, _, _, _⟩) (v := ?_) rfl (by kernel_rfl) (fun _ _ _ h => run_put 26 (by decide) h) (Or.inl ⟨by rfl, ?_⟩) hHeld ?_
      rotate_left
      · intro v hS
        have e1 := (World.cell?_of_block (w := w5) (a := ⟨X.heap.size + 1, 0, none⟩) (by rw [hS])).trans hq5
        go_simp
        with_reducible rfl
      (try simp only [Act.put, putA, putB, putC])
      refine wpAnyT_take (i := 1) (oi := ⟨some 27, _, _, _, _, _⟩) (v := ?_) rfl (by kernel_rfl) (fun _ _ _ h => run_put 27 (by decide) h) (Or.inl ⟨by rfl, ?_⟩) hHeld ?_
      rotate_left
      · intro v hS
        skip
        go_simp
        with_reducible rfl
      (try simp only [Act.put, putA, putB, putC])
      refine wpAnyT_take (i := 2) (oi := ⟨some 28, _, _, _, _, _⟩) (v := ?_) rfl (by kernel_rfl) (fun _ _ _ h => run_put 28 (by decide) h) (Or.inl ⟨by rfl, ?_⟩) hHeld ?_
      rotate_left
      · intro v hS
        skip
        go_simp
        with_reducible rfl
      (try simp only [Act.put, putA, putB, putC])
      refine wpAnyT_take (i := 3) (oi := ⟨some 29, _, _, _, _, _⟩) (v := ?_) rfl (by kernel_rfl) (fun _ _ _ h => run_put 29 (by decide) h) (Or.inl ⟨by rfl, ?_⟩) hHeld ?_
      rotate_left
      · intro v hS
        have e1 := (World.cell?_of_block (w := w5) (a := ⟨X.heap.size + 1, 0, none⟩) (by rw [hS])).trans hq5
        go_simp
        with_reducible rfl
      (try simp only [Act.put, putA, putB, putC])
      refine wpAnyT_take (i := 4) (oi := ⟨some 30, _, _, _, _, _⟩) (v := ?_) rfl (by kernel_rfl) (fun _ _ _ h => run_put 30 (by decide) h) (Or.inl ⟨by rfl, ?_⟩) hHeld ?_
      rotate_left
      · intro v hS
        skip
        go_simp
        with_reducible rfl
      (try simp only [Act.put, putA, putB, putC])
      refine wpAnyT_take (i := 5) (oi := ⟨some 31, _, _, _, _, _⟩) (v := ?_) rfl (by kernel_rfl) (fun _ _ _ h => run_put 31 (by decide) h) (Or.inl ⟨by rfl, ?_⟩) hHeld ?_
      rotate_left
      · intro v hS
        skip
        go_simp
        with_reducible rfl
      (try simp only [Act.put, putA, putB, putC])
      refine wpAnyT_take (i := 6) (oi := ⟨some 32, _, _, _, _, _⟩) (v := ?_) rfl (by kernel_rfl) (fun _ _ _ h => run_put 32 (by decide) h) (Or.inl ⟨by rfl, ?_⟩) hHeld ?_
      rotate_left
      · intro v hS
        skip
        go_simp
        with_reducible rfl
      (try simp only [Act.put, putA, putB, putC])
      refine wpAnyT_take (i := 7) (oi := ⟨some 33, _, _, _, _, _⟩) (v := ?_) rfl (by kernel_rfl) (fun _ _ _ h => run_put 33 (by decide) h) (Or.inl ⟨by rfl, ?_⟩) hHeld ?_
      rotate_left
      · intro v hS
        have e1 := (World.cell?_of_block (w := w5) (a := ⟨X.heap.size, 1, none⟩) (by rw [hS])).trans HC5.out.now
        go_simp
        with_reducible rfl
      (try simp only [Act.put, putA, putB, putC])
      refine wpAnyT_take (i := 8) (oi := ⟨some 34, _, _, _, _, _⟩) (v := ?_) rfl (by kernel_rfl) (fun _ _ _ h => run_put 34 (by decide) h) (Or.inl ⟨by rfl, ?_⟩) hHeld ?_
      rotate_left
      · intro v hS
        have e1 := (World.cell?_of_block (w := w5) (a := ⟨lb, 0, none⟩) (by rw [hS])).trans hl5
        go_simp
        with_reducible rfl
      (try simp only [Act.put, putA, putB, putC])
      refine wpAnyT_take (i := 9) (oi := ⟨some 35, _, _, _, _, _⟩) (v := ?_) rfl (by kernel_rfl) (fun _ _ _ h => run_put 35 (by decide) h) (Or.inl ⟨by rfl, ?_⟩) hHeld ?_
      rotate_left
      · intro v hS
        skip
        go_simp
        with_reducible rfl
      (try simp only [Act.put, putA, putB, putC])
      refine wpAnyT_take (i := 10) (oi := ⟨some 36, _, _, _, _, _⟩) (v := ?_) rfl (by kernel_rfl) (fun _ _ _ h => run_put 36 (by decide) h) (Or.inl ⟨by rfl, ?_⟩) hHeld ?_
      rotate_left
      · intro v hS
        skip
        go_simp
        with_reducible rfl
      (try simp only [Act.put, putA, putB, putC])
      refine wpAnyT_done (by kernel_rfl) ?_
      simp only [List.drop_succ_cons, List.drop_zero]
      clear hHeld hs5 ha5 hfa5 he5 hfe5 hl5 hq5
      have hs5 := hs5'
      have ha5 := ha5'
      have hfa5 := hfa5'
      have he5 := he5'
      have hfe5 := hfe5'
      have hl5 := hl5'
      have hq5 := hq5'
      clear hs5' ha5' hfa5' he5' hfe5' hl5' hq5'
      generalize w5.drew = V5 at *
      by_cases hjl : j = ts.length
      · have hjb : ((j : Int) == (ts.length : Int)) = true := by simp; omega
        have hre : r = [] := by rw [HRD.out, hjl, List.drop_length]
        have hT : runT m (lexR src.data.toList) src.size = (some a, 0, 0) := by unfold runT; rw [HL.out]; simp only [if_true]; rw [HMT.out, hre]
        have HTT := hide hT
        clear hT hre hjl
        have hla := cell_lt ha5
        have hle := cell_lt he5
        go_wp2_with fail
        ((with_reducible refine (check_yes _ _ _).mono ?_); rintro e w'' ⟨rfl, rfl⟩)
        have HK6 := hide (((Kept.refl (fun b => b = W.heap.size + 1 ∨ b = W.heap.size + 1 + 1) w'').setCell (p := ⟨W.heap.size + 1, 0, none⟩) (.inl (.inl rfl)) (.int .i64 0)).setCell (p := ⟨W.heap.size + 1 + 1, 0, none⟩) (.inl (.inr rfl)) (.int .i64 0))
        have hne2 : (⟨W.heap.size + 1, 0, none⟩ : Addr) ≠ ⟨W.heap.size + 1 + 1, 0, none⟩ := fun e => by injection e with e _ _; omega
        have hq6 : ((w''.setCell ⟨W.heap.size + 1, 0, none⟩ (.int .i64 0)).setCell ⟨W.heap.size + 1 + 1, 0, none⟩ (.int .i64 0)).cell? ⟨W.heap.size + 1, 0, none⟩ = some (.int .i64 0) := by
          rw [World.cell?_setCell_other _ _ _ _ (fun e => hne2 e.symm), World.cell?_setCell_same _ _ _ ha5]
        have hr6 : ((w''.setCell ⟨W.heap.size + 1, 0, none⟩ (.int .i64 0)).setCell ⟨W.heap.size + 1 + 1, 0, none⟩ (.int .i64 0)).cell? ⟨W.heap.size + 1 + 1, 0, none⟩ = some (.int .i64 0) := by
          rw [World.cell?_setCell_same _ _ _ (by rw [World.cell?_setCell_other _ _ _ _ hne2]; exact he5)]
        have HQ6 := hide hq6
        have HR6 := hide hr6
        clear hq6 hr6 hne2
        go_wp2_with fail
        generalize (w''.setCell ⟨W.heap.size + 1, 0, none⟩ (.int .i64 0)).setCell ⟨W.heap.size + 1 + 1, 0, none⟩ (.int .i64 0) = V6 at *
        refine leaves_cons (f := 69) (args := #[.pointer (some ⟨W.heap.size, 0, none⟩), .pointer (some ⟨W.heap.size + 1, 0, none⟩), .pointer (some ⟨W.heap.size + 1 + 1, 0, none⟩), .pointer (some ⟨X.heap.size + 1, 0, none⟩), .pointer (some ⟨lb, 0, none⟩)]) (by simp) (by simp [go_sem]) ?_
        refine (run1_idle _ _ _ _ _ V6).mono ?_
        rintro e u' w9 ⟨rfl, rfl, hb9⟩
        obtain ⟨hk1, hk2⟩ := HKW.out w9 (HD6.out.trans (HK6.out.trans (Kept.of_below hb9)))
        exact ⟨_, run_res _ _ _ _ _ _ rfl rfl ((hb9.cell (p := ⟨W.heap.size + 1, 0, none⟩) (cell_lt HQ6.out)).trans HQ6.out) ((hb9.cell (p := ⟨W.heap.size + 1 + 1, 0, none⟩) (cell_lt HR6.out)).trans HR6.out), X.heap.size + 2, by omega, hk1, by rw [HTT.out]; rfl, by rw [HTT.out]; exact hD.out.keep _ _ _ _ HR5.out hk2⟩
      · have hjb : ((j : Int) == (ts.length : Int)) = false := by simp; omega
        obtain ⟨t, r', hre⟩ : ∃ t r', r = t :: r' := by
          rw [HRD.out, List.drop_eq_getElem_cons (by omega)]
          exact ⟨_, _, rfl⟩
        have hT : runT m (lexR src.data.toList) src.size = (none, atT r src.size, 80) := by unfold runT; rw [HL.out]; simp only [if_true]; rw [HMT.out, hre]
        have HTT := hide hT
        have HRN := hide (hD.out.left ts a t r' (by rw [HMT.out, hre]) _ _ HR5.out)
        clear hT hre hjl
        go_wp2_with fail
        ((with_reducible refine (check_no _ _ _).mono ?_); rintro e w'' ⟨rfl, rfl⟩)
        go_wp2_with fail
        refine leaves_cons (f := 69) (args := #[.pointer (some ⟨W.heap.size, 0, none⟩), .pointer (some ⟨W.heap.size + 1, 0, none⟩), .pointer (some ⟨W.heap.size + 1 + 1, 0, none⟩), .pointer (some ⟨X.heap.size + 1, 0, none⟩), .pointer (some ⟨lb, 0, none⟩)]) (by simp) (by simp [go_sem]) ?_
        refine (run1_catch (W.heap.size) (W.heap.size + 1) (W.heap.size + 1 + 1) (X.heap.size + 1) lb (X.heap.size) j 80 src ts A c _ _ [] w'' (hide hs5) (hide hq5) (hide HN5.out) (hide hl5) HTR6 (hide ⟨ha5, hfa5⟩) (hide ⟨he5, hfe5⟩) (by omega) (hide (fun a ha => by have := HAB.out a ha; omega)) (by omega) hj).mono ?_
        rintro e u' w9 ⟨rfl, rfl, hK9, ha9, he9⟩
        obtain ⟨hk1, hk2⟩ := HKW.out w9 (HD6.out.trans hK9)
        exact ⟨_, run_res _ _ _ _ _ _ rfl rfl ha9 he9, X.heap.size + 2, by omega, hk1, by rw [HTT.out, HRD.out], by rw [HTT.out]; exact hD.out.keep _ _ _ _ HRN.out hk2⟩
end Go.Proofs.YtndpnpohdoggjaaGreatDoor
namespace Go.Proofs.YtndpnpohdoggjaaGreatDoor
open Go.RowKit
attribute [local go_sem] Later.cell
theorem wordN_at (ws : List (List UInt8)) (n : Nat) (h0 : n ≠ 0) (hn : n ≤ ws.length) : ws[n - 1]? = some (wordN ws n) := by
  unfold wordN
  rw [if_neg h0, List.getD_eq_getElem?_getD, List.getElem?_eq_getElem (by omega)]
  rfl
theorem wordN_none (ws : List (List UInt8)) (n : Nat) (h : n = 0 ∨ ws.length < n) : wordN ws n = [] := by
  unfold wordN
  rcases h with h | h
  · rw [if_pos h]
  · rw [if_neg (by omega), List.getD_eq_getElem?_getD, List.getElem?_eq_none (by omega)]
    rfl
set_option maxRecDepth 100000 in
theorem word_any (v : ByteArray) (n : Nat) (ws : List (List UInt8)) (hv : Voc v ws) (W : World) (hE : EnvP W) (hn : n ≤ 255) :
    Calls Tryz.prog 159 #[.string v, .int .u8 (n : Int)] W fun e W' => e = .returned (.string ⟨(wordN ws n).toArray⟩) ∧ Below W.heap.size W W' := by
  have ha' : ∀ (j : Nat) b, v.data.toList[j]? = some b → b.toNat < 128 := fun j b hb => by
    have := List.all_eq_true.1 hv.ascii b (List.mem_of_getElem? hb)
    simpa using this
  have HF := hide (Tryz.strings_Fields v W hv.small ha' hE.sp)
  rw [hv.words] at HF
  have hfew := hv.few
  have hcell : ∀ i, i < ws.length → (W.alloc (Obj.cells (ws.map fun l => Value.string ⟨l.toArray⟩).toArray 9)).cell? ⟨W.heap.size, i, none⟩ = some (.string ⟨(ws.getD i []).toArray⟩) := fun i hi => by
    rw [cell_of_row _ _ i _ _ _ (heap_alloc_new W _)]
    simp [hi]
  have HCl := hide hcell
  clear hcell
  generalize Obj.cells (ws.map fun l => Value.string ⟨l.toArray⟩).toArray 9 = o at *
  have HB := hide ((Below.refl W.heap.size W).alloc (Nat.le_refl _) o)
  by_cases h0 : n = 0
  · rw [wordN_none ws n (.inl h0)]
    have k0 : (n : Int) < 1 := by omega
    generalize (n : Int) = z at *
    go_enter Tryz.func159, Tryz.ntmps159
    go_wp2_with fail
    refine (HF.out).mono ?_
    rintro e w1 ⟨rfl, rfl⟩
    go_wp2_with fail
    go_ret
    exact ⟨rfl, HB.out⟩
  · have k0 : ¬ (n : Int) < 1 := by omega
    by_cases h1 : ws.length < n
    · rw [wordN_none ws n (.inr h1)]
      have k2 : ((ws.length : Int) < (n : Int)) := by omega
      have kw : wrap64 (n : Int) = (n : Int) := by unfold wrap64; omega
      have kc : ¬ (1 ≤ (n : Int) ∧ (n : Int) ≤ (ws.length : Int)) := by omega
      generalize (n : Int) = z at *
      go_enter Tryz.func159, Tryz.ntmps159
      go_wp2_with fail
      refine (HF.out).mono ?_
      rintro e w1 ⟨rfl, rfl⟩
      go_wp2_with fail
      go_ret
      exact ⟨rfl, HB.out⟩
    · have k1 : ¬ ((ws.length : Int) < (n : Int)) := by omega
      have hc := HCl.out (n - 1) (by omega)
      rw [show (ws.getD (n - 1) []) = wordN ws n from by unfold wordN; rw [if_neg h0]] at hc
      have kw : wrap64 (n : Int) = (n : Int) := by unfold wrap64; omega
      have km : ((n : Int) - 1) % 256 = ((n - 1 : Nat) : Int) := by omega
      have k3 : (0 : Int) ≤ ((n - 1 : Nat) : Int) ∧ ((n - 1 : Nat) : Int) < (ws.length : Int) := by omega
      have kc : 1 ≤ (n : Int) ∧ (n : Int) ≤ (ws.length : Int) := by omega
      have hz : (n : Int).toNat - 1 = n - 1 := by omega
      generalize (n : Int) = z at *
      go_enter Tryz.func159, Tryz.ntmps159
      go_wp2_with fail
      refine (HF.out).mono ?_
      rintro e w1 ⟨rfl, rfl⟩
      go_wp2_with fail
      go_ret
      exact ⟨rfl, HB.out⟩
theorem faultVoc : Voc ⟨#[100, 101, 97, 100, 108, 105, 110, 101, 32, 109, 101, 109, 111, 114, 121, 32, 114, 97, 105, 115, 101, 100, 32, 110, 117, 109, 101, 114, 105, 99, 32, 115, 116, 97, 99, 107, 32, 112, 111, 119, 101, 114, 32, 119, 105, 110, 100, 111, 119]⟩ faultWords := ⟨by decide, by decide, by decide, by decide⟩
theorem levelVoc : Voc ⟨#[112, 114, 111, 99, 101, 115, 115, 32, 112, 97, 114, 116, 32, 109, 111, 100, 117, 108, 101]⟩ levelWords := ⟨by decide, by decide, by decide, by decide⟩
theorem actionVoc : Voc ⟨#[105, 103, 110, 111, 114, 101, 32, 115, 116, 111, 112, 32, 114, 101, 115, 116, 97, 114, 116, 32, 119, 97, 114, 109, 32, 99, 111, 108, 100, 32, 105, 100, 108, 101, 32, 114, 101, 115, 101, 116, 32, 104, 97, 108, 116]⟩ actionWords := ⟨by decide, by decide, by decide, by decide⟩
theorem netVoc : Voc ⟨#[97, 32, 98]⟩ netWords := ⟨by decide, by decide, by decide, by decide⟩
theorem kindVoc : Voc ⟨#[115, 97, 109, 112, 108, 105, 110, 103, 32, 113, 117, 101, 117, 105, 110, 103]⟩ kindWords := ⟨by decide, by decide, by decide, by decide⟩
def insTexts : List (List UInt8) := (insWords.zip insOps).map fun p => p.1 ++ [58] ++ p.2
theorem insVoc : Voc ⟨#[119, 111, 114, 107, 58, 119, 32, 115, 101, 116, 58, 114, 118, 32, 97, 100, 100, 58, 114, 114, 32, 115, 117, 98, 58, 114, 114, 32, 108, 111, 97, 100, 58, 114, 97, 114, 32, 115, 116, 111, 114, 101, 58, 114, 97, 114, 32, 115, 101, 110, 100, 58, 111, 114, 108, 32, 114, 101, 99, 118, 58, 105, 114, 114, 32, 119, 97, 105, 116, 58, 115, 32, 115, 105, 103, 110, 97, 108, 58, 115, 32, 114, 97, 105, 115, 101, 58, 101, 32, 108, 111, 119, 101, 114, 58, 101, 32, 117, 110, 116, 105, 108, 58, 101, 32, 112, 117, 116, 58, 98, 114, 32, 103, 101, 116, 58, 98, 114, 32, 115, 104, 111, 119, 58, 100, 114, 32, 108, 111, 111, 107, 58, 100, 114, 32, 99, 108, 101, 97, 114, 58, 100, 32, 110, 101, 120, 116, 58, 32, 106, 117, 109, 112, 58, 106, 32, 122, 101, 114, 111, 58, 114, 106, 32, 108, 101, 115, 115, 58, 114, 114, 106, 32, 100, 105, 118, 58, 114, 114, 32, 102, 97, 117, 108, 116, 58, 99, 32, 115, 116, 111, 112, 58]⟩ insTexts := ⟨by decide +kernel, by decide +kernel, by decide +kernel, by decide +kernel⟩
theorem fault_any (n : Nat) (W : World) (hE : EnvP W) (hn : n ≤ 255) : Calls Tryz.prog 107 #[.int .u8 (n : Int)] W fun e W' => e = .returned (.string ⟨(wordN faultWords n).toArray⟩) ∧ Below W.heap.size W W' := by
  have HW := hide (word_any _ n _ faultVoc W hE hn)
  go_enter Tryz.func107, Tryz.ntmps107
  go_wp2_with fail
  refine (HW.out).mono ?_
  rintro e w1 ⟨rfl, hb⟩
  go_wp2_with fail
  go_ret
  exact ⟨rfl, hb⟩
theorem level_any (n : Nat) (W : World) (hE : EnvP W) (hn : n ≤ 255) : Calls Tryz.prog 108 #[.int .u8 (n : Int)] W fun e W' => e = .returned (.string ⟨(wordN levelWords n).toArray⟩) ∧ Below W.heap.size W W' := by
  have HW := hide (word_any _ n _ levelVoc W hE hn)
  go_enter Tryz.func108, Tryz.ntmps108
  go_wp2_with fail
  refine (HW.out).mono ?_
  rintro e w1 ⟨rfl, hb⟩
  go_wp2_with fail
  go_ret
  exact ⟨rfl, hb⟩
theorem action_any (n : Nat) (W : World) (hE : EnvP W) (hn : n ≤ 255) : Calls Tryz.prog 109 #[.int .u8 (n : Int)] W fun e W' => e = .returned (.string ⟨(wordN actionWords n).toArray⟩) ∧ Below W.heap.size W W' := by
  have HW := hide (word_any _ n _ actionVoc W hE hn)
  go_enter Tryz.func109, Tryz.ntmps109
  go_wp2_with fail
  refine (HW.out).mono ?_
  rintro e w1 ⟨rfl, hb⟩
  go_wp2_with fail
  go_ret
  exact ⟨rfl, hb⟩
theorem cut_ins : ∀ n, n ≤ 255 → (Lib.cut (wordN insTexts n) [58]).1 = wordN insWords n ∧ (Lib.cut (wordN insTexts n) [58]).2.1 = wordN insOps n := by
  have h : ∀ n : Fin 27, (Lib.cut (wordN insTexts n.val) [58]).1 = wordN insWords n.val ∧ (Lib.cut (wordN insTexts n.val) [58]).2.1 = wordN insOps n.val := by decide +kernel
  intro n hn
  by_cases h1 : n < 27
  · exact h ⟨n, h1⟩
  · rw [wordN_none insTexts n (.inr (by show 25 < n; omega)), wordN_none insWords n (.inr (by show 25 < n; omega)), wordN_none insOps n (.inr (by show 25 < n; omega))]
    decide +kernel
theorem wordN_size (n : Nat) : (wordN insTexts n).length ≤ 20 := by
  by_cases h1 : n < 27
  · have h : ∀ n : Fin 27, (wordN insTexts n.val).length ≤ 20 := by decide +kernel
    exact h ⟨n, h1⟩
  · rw [wordN_none insTexts n (.inr (by show 25 < n; omega))]
    exact Nat.zero_le _
theorem instruction_any (n : Nat) (W : World) (hE : Hid (EnvP W)) (hn : n ≤ 255) :
    Calls Tryz.prog 132 #[.int .u8 (n : Int)] W fun e W' => e = .returned (.tuple #[.string ⟨(wordN insWords n).toArray⟩, .string ⟨(wordN insOps n).toArray⟩]) ∧ Below W.heap.size W W' := by
  have HW := hide (word_any _ n _ insVoc W hE.out hn)
  obtain ⟨c1, c2⟩ := cut_ins n hn
  have hz := wordN_size n
  have HC := hide (fun (w : World) m (hm : w.cell? ⟨2, 0, none⟩ = some (.int .i64 m)) => Tryz.strings_Cut ⟨(wordN insTexts n).toArray⟩ ⟨#[58]⟩ m w (by show (wordN insTexts n).toArray.size < _; simp; omega) hm)
  simp only [c1, c2] at HC
  clear c1 c2 hz
  go_enter Tryz.func132, Tryz.ntmps132
  go_wp2_with fail
  refine (HW.out).mono ?_
  rintro e w1 ⟨rfl, hb⟩
  obtain ⟨m, hm⟩ := (hE.out.below hb).mx
  have HB := hide hb
  clear hb
  go_wp2_with fail
  refine (HC.out w1 m hm).mono ?_
  rintro e w2 ⟨rfl, q, rfl⟩
  go_wp2_with fail
  refine bodyPost_ret (v := .tuple #[.string ⟨(wordN insWords n).toArray⟩, .string ⟨(wordN insOps n).toArray⟩]) (by simp [results, Tryz.results132, go_sem]) rfl ?_
  exact ⟨rfl, _root_.Go.below_drewN HB.out _⟩
theorem pword_any (n : Nat) (W : World) (hE : Hid (EnvP W)) (hn : n ≤ 255) : Calls Tryz.prog 81 #[.int .u8 (n : Int)] W fun e W' => e = .returned (.string ⟨(wordN insWords n).toArray⟩) ∧ Below W.heap.size W W' := by
  have HW := hide (instruction_any n W hE hn)
  go_enter Tryz.func81, Tryz.ntmps81
  go_wp2_with fail
  refine (HW.out).mono ?_
  rintro e w1 ⟨rfl, hb⟩
  go_wp2_with fail
  go_ret
  exact ⟨rfl, hb⟩
theorem operands_any (n : Nat) (W : World) (hE : Hid (EnvP W)) (hn : n ≤ 255) : Calls Tryz.prog 76 #[.int .u8 (n : Int)] W fun e W' => e = .returned (.string ⟨(wordN insOps n).toArray⟩) ∧ Below W.heap.size W W' := by
  have HW := hide (instruction_any n W hE hn)
  go_enter Tryz.func76, Tryz.ntmps76
  go_wp2_with fail
  refine (HW.out).mono ?_
  rintro e w1 ⟨rfl, hb⟩
  go_wp2_with fail
  go_ret
  exact ⟨rfl, hb⟩
end Go.Proofs.YtndpnpohdoggjaaGreatDoor
namespace Go.Proofs.YtndpnpohdoggjaaGreatDoor
open Go.RowKit
attribute [local go_sem] Later.cell
set_option maxRecDepth 100000 in
theorem close_any (wb : Nat) (s x : ByteArray) (W : World) (hc : W.cell? ⟨wb, 0, none⟩ = some (.string x)) (hx : x.size ≤ 1099511627776) :
    Calls Tryz.prog 74 #[.string s, .pointer (some ⟨wb, 0, none⟩)] W fun e W' => e = .returned (.bool (Lib.hasPrefix s.data.toList (x.data.toList ++ [58]))) ∧ W' = W := by
  have HP := hide (Tryz.strings_HasPrefix s (x ++ ⟨#[58]⟩) W)
  rw [show (x ++ ⟨#[58]⟩ : ByteArray).data.toList = x.data.toList ++ [58] from by simp] at HP
  have k1 : x.size + 1 ≤ 9223372036854775807 := by omega
  go_enter Tryz.func74, Tryz.ntmps74
  go_wp2_with fail
  refine (HP.out).mono ?_
  rintro e w1 ⟨rfl, rfl⟩
  go_wp2_with fail
  go_ret
  exact ⟨rfl, rfl⟩
theorem pre_eq : ∀ (w o x : List UInt8), (58 : UInt8) ∉ w → (58 : UInt8) ∉ o → (x ++ [58]).isPrefixOf (w ++ [58] ++ o) = (w == x)
  | [], o, [], _, _ => by simp
  | [], o, c :: x, _, ho => by
    have : ((c :: x) ++ [58]).isPrefixOf (([] : List UInt8) ++ [58] ++ o) = false := by
      rw [Bool.eq_false_iff]
      intro h
      have h := List.isPrefixOf_iff_prefix.1 h
      obtain ⟨t, ht⟩ := h
      simp only [List.cons_append, List.nil_append, List.cons.injEq] at ht
      apply ho
      rw [← ht.2]
      simp
    rw [this]
    rfl
  | b :: w, o, [], hw, _ => by
    have hb : (58 : UInt8) ≠ b := fun e => hw (by simp [e])
    have hb' : ((58 : UInt8) == b) = false := by simpa using hb
    simp only [List.nil_append, List.cons_append, List.isPrefixOf_cons_cons, hb', Bool.false_and]
    rfl
  | b :: w, o, c :: x, hw, ho => by
    have ih := pre_eq w o x (fun h => hw (by simp [h])) ho
    simp only [List.cons_append, List.isPrefixOf_cons_cons] at ih ⊢
    rw [ih]
    by_cases h : b = c
    · subst h; simp
    · have h1 : (c == b) = false := by simpa using fun e => h e.symm
      rw [h1]
      symm
      simp [h]
/-- The index as the program counts it. -/
def idxB (l : List (List UInt8)) (x : List UInt8) : Int := match l.findIdx? (fun s => Lib.hasPrefix s (x ++ [58])) with
  | some k => (k : Int)
  | none => -1
theorem idx_zip (x : List UInt8) : ∀ (l : List (List UInt8 × List UInt8)), (∀ p ∈ l, (58 : UInt8) ∉ p.1 ∧ (58 : UInt8) ∉ p.2) →
    (l.map fun p => p.1 ++ [58] ++ p.2).findIdx? (fun s => Lib.hasPrefix s (x ++ [58])) = (l.map (·.1)).findIdx? (· == x)
  | [], _ => rfl
  | p :: l, h => by
    have ih := idx_zip x l (fun q hq => h q (by simp [hq]))
    have hp := h p (by simp)
    simp only [List.map_cons, List.findIdx?_cons]
    rw [ih, show Lib.hasPrefix (p.1 ++ [58] ++ p.2) (x ++ [58]) = (p.1 == x) from pre_eq p.1 p.2 x hp.1 hp.2]
theorem pidx_ins (x : List UInt8) : idxB insTexts x = (findN insWords x : Int) - 1 := by
  have h1 : (insWords.zip insOps).map (·.1) = insWords := by decide
  have h2 : ∀ p ∈ insWords.zip insOps, (58 : UInt8) ∉ p.1 ∧ (58 : UInt8) ∉ p.2 := by decide
  unfold idxB insTexts findN
  rw [idx_zip x _ h2, h1]
  cases insWords.findIdx? (· == x) with
  | none => rfl
  | some k =>
    show (k : Int) = ((k + 1 : Nat) : Int) - 1
    omega
theorem find_take_none {l : List (List UInt8)} {p : List UInt8 → Bool} {k : Nat} {s : List UInt8} (h : (l.take k).findIdx? p = none) (hs : l[k]? = some s) (hp : p s = false) : (l.take (k + 1)).findIdx? p = none := by
  obtain ⟨hk, rfl⟩ := List.getElem?_eq_some_iff.1 hs
  rw [List.take_succ_eq_append_getElem hk, List.findIdx?_append, h]
  simp [hp]
theorem find_take_some {l : List (List UInt8)} {p : List UInt8 → Bool} {k : Nat} {s : List UInt8} (h : (l.take k).findIdx? p = none) (hs : l[k]? = some s) (hp : p s = true) : l.findIdx? p = some k := by
  obtain ⟨hk, rfl⟩ := List.getElem?_eq_some_iff.1 hs
  rw [List.findIdx?_eq_some_iff_getElem]
  refine ⟨hk, hp, fun j hj => ?_⟩
  have := List.findIdx?_eq_none_iff.1 h l[j] (by
    rw [List.mem_take_iff_getElem]
    exact ⟨j, by omega, rfl⟩)
  simpa using this
set_option maxRecDepth 100000 in
set_option maxHeartbeats 1000000 in
theorem indexFunc_any (fb wb n c : Nat) (l : List (List UInt8)) (x : ByteArray) (W : World) (hn : Hid (l.length = n)) (hl : n ≤ 200) (hc : W.cell? ⟨wb, 0, none⟩ = some (.string x)) (hx : x.size ≤ 1099511627776)
    (hf : Hid (∀ i s, l[i]? = some s → W.cell? ⟨fb, i, none⟩ = some (.string ⟨s.toArray⟩))) :
    Calls Tryz.prog 72 #[.slice (some ⟨fb, 0, none⟩) n c, .func (.func 74) #[] #[.pointer (some ⟨wb, 0, none⟩)]] W fun e W' => e = .returned (.int .i64 (idxB l x.data.toList)) ∧ W' = W := by
  have HCL := hide (fun s => close_any wb s x W hc hx)
  go_enter Tryz.func72, Tryz.ntmps72
  go_wp2_with fail
  go_loopw [8] (fun v8 wr => ∃ k : Nat, k ≤ n ∧ v8 = .int .i64 k ∧ (l.take k).findIdx? (fun s => Lib.hasPrefix s (x.data.toList ++ [58])) = none ∧ wr = W) (fun v8 _ => n - (intOf v8).toNat)
  case atStart => exact ⟨0, by omega, rfl, rfl, rfl⟩
  case round =>
    obtain ⟨k, hk, rfl, hnone, rfl⟩ := hrel
    have HK := hide hnone
    clear hnone
    by_cases hlt : k < n
    · have hkl : k < l.length := by rw [hn.out]; exact hlt
      have hs : l[k]? = some l[k] := List.getElem?_eq_getElem hkl
      have hcell := hf.out k _ hs
      have k0 : (0 : Int) ≤ (k : Int) ∧ (k : Int) < (n : Int) := by omega
      have HC := hide (HCL.out ⟨l[k].toArray⟩)
      rw [show (⟨l[k].toArray⟩ : ByteArray).data.toList = l[k] from by simp] at HC
      cases hp : Lib.hasPrefix l[k] (x.data.toList ++ [58]) with
      | true =>
        rw [hp] at HC
        have HX := hide (find_take_some (p := fun s => Lib.hasPrefix s (x.data.toList ++ [58])) HK.out hs hp)
        clear hp hs
        go_wp2_with fail
        refine (HC.out).mono ?_
        rintro e w1 ⟨rfl, rfl⟩
        go_wp2_with fail
        go_ret
        exact ⟨by unfold idxB; rw [HX.out]; rfl, rfl⟩
      | false =>
        rw [hp] at HC
        have HX := hide (find_take_none (p := fun s => Lib.hasPrefix s (x.data.toList ++ [58])) HK.out hs hp)
        clear hp hs
        go_wp2_with fail
        refine (HC.out).mono ?_
        rintro e w1 ⟨rfl, rfl⟩
        go_wp2_with fail
        go_roundw
        case rel => exact ⟨k + 1, by omega, by go_num, HX.out, trivial⟩
        case measure => simp [intOf]; omega
    · have HX := hide (show idxB l x.data.toList = -1 by
        have := HK.out
        rw [List.take_of_length_le (by rw [hn.out]; omega)] at this
        unfold idxB
        rw [this])
      go_wp2_with fail
      go_ret
      exact ⟨by rw [HX.out]; rfl, rfl⟩
end Go.Proofs.YtndpnpohdoggjaaGreatDoor

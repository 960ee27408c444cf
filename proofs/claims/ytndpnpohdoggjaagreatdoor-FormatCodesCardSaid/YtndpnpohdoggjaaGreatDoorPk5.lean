/-
  Merged texts: parse: run: its deferred closure. | parse: the tokens of a source are well made (lexA_ind, ValidT .. valid_all, lexA_tok: as in lex/XBackP, which leans on chapter 07's own functions).
-/
import Derived.Test.YtndpnpohdoggjaaGreatDoorPk1
import Derived.Test.YtndpnpohdoggjaaGreatDoorPk4
import Derived.Recover
import Derived.Defers
import Derived.Test.YtndpnpohdoggjaaGreatDoorPk3
namespace Go.Proofs.YtndpnpohdoggjaaGreatDoor
open Go.RowKit
attribute [local go_sem] Later.cell
def faultV (n : Nat) : Value := .iface 159 (.agg #[.int .i64 (n : Int)])
theorem ta1 (w : World) : (Instr.typeAssert .nilIface 20 159 true).run Tryz.prog w = .ok (.tuple #[.agg #[.int .i64 0], .bool false]) w := by kernel_rfl
theorem ta2 (n : Int) (w : World) : (Instr.typeAssert (.iface 159 (.agg #[.int .i64 n])) 20 159 true).run Tryz.prog w = .ok (.tuple #[.agg #[.int .i64 n], .bool true]) w := by kernel_rfl
/-- wpOpsS, whose name stands: a goal's whnf does not run the program. -/
structure WS (P : Program) (ops : Array Oper) (Q : Exit → Act → List Frame → World → Prop) (l : List Nat) (a : Act) (cs : List Frame) (w : World) : Prop where
  out : wpOpsS P ops Q l a cs w
section
variable {P : Program} {ops : Array Oper} {Q : Exit → Act → List Frame → World → Prop} {i : Nat} {rest : List Nat} {a : Act} {cs : List Frame} {w w' : World} {o : Oper}
theorem WS.value {v : Value} (ho : ops[i]? = some o) (hw : Region.wanted o (yielded ops a.tmps) = true) (hr : (execOp a.eval o).run P w = .ok (.value v) w') (h : WS P ops Q rest (a.put o.dst v) cs w') : WS P ops Q (i :: rest) a cs w := ⟨by
  simp only [wpOpsS, ho, hw, if_true, hr]
  exact h.out⟩
theorem WS.skip (ho : ops[i]? = some o) (hw : Region.wanted o (yielded ops a.tmps) = true) (hr : (execOp a.eval o).run P w = .ok .skip w') (h : WS P ops Q rest (a.put o.dst undef) cs w') : WS P ops Q (i :: rest) a cs w := ⟨by
  simp only [wpOpsS, ho, hw, if_true, hr]
  exact h.out⟩
theorem WS.none (ho : ops[i]? = some o) (hw : Region.wanted o (yielded ops a.tmps) = true) (hr : (execOp a.eval o).run P w = .ok .recover w') (hc : recoverD cs = .none) (h : WS P ops Q rest (a.put o.dst .nilIface) cs w') : WS P ops Q (i :: rest) a cs w := ⟨by
  simp only [wpOpsS, ho, hw, if_true, hr, hc]
  exact h.out⟩
theorem WS.some {v : Value} {cs' : List Frame} (ho : ops[i]? = some o) (hw : Region.wanted o (yielded ops a.tmps) = true) (hr : (execOp a.eval o).run P w = .ok .recover w') (hc : recoverD cs = .some (v, cs')) (h : WS P ops Q rest (a.put o.dst v) cs' w') : WS P ops Q (i :: rest) a cs w := ⟨by
  simp only [wpOpsS, ho, hw, if_true, hr, hc]
  exact h.out⟩
theorem WS.done (h : Q .normal a cs w) : WS P ops Q [] a cs w := ⟨h⟩
theorem wpS_region_seq {id : Nat} {y : Code} (R : Act → List Frame → World → Prop) (h : ∀ QQ : Exit → Act → List Frame → World → Prop, (∀ a cs w, R a cs w → QQ .normal a cs w) → WS P ops QQ (List.range ops.size) a cs w)
    (hy : ∀ a cs w, R a cs w → y.wpS P Q a cs w) : (Code.seq (.region id ops false) y).wpS P Q a cs w := wpS_seq (wpS_region (h _ (fun a cs w hR => hy a cs w hR)).out)
/-- The rest of a deferred call that does not recover: how it ends. -/
def EndR (R : World → Prop) (e : Exit) (a : Act) (w : World) : Prop := a.defers = [] ∧ (e = .normal ∨ e = .ret) ∧ R w
theorem wpS_plain {c : Code} (R : World → Prop) (h : c.wp P (EndR R) a w) (hR : ∀ e a' w', EndR R e a' w' → Q e a' cs w') : c.wpS P Q a cs w := wpS_of_wp (fun b k cs' => let ⟨e, a', w', q, r⟩ := h b k cs'; ⟨e, a', w', hR _ _ _ q, r⟩)
theorem endR_post {fn : Func} {c₀ : Frame} {R : World → Prop} {RR : Ending → FrameMode → World → Prop} {u : FrameMode} (hres : ∀ a w, (results fn a).run P w = .ok (.tuple #[]) w) (hRR : ∀ w, R w → RR (.returned (.tuple #[])) u w) :
    ∀ e a' w', EndR R e a' w' → bodyPostS P fn c₀ cs RR e a' ({ c₀ with mode := u } :: cs) w' := by
  rintro e a' w' ⟨h1, h2, h3⟩
  rcases h2 with rfl | rfl
  · exact ⟨h1, u, rfl, _, hres _ _, hRR _ h3⟩
  · exact ⟨h1, u, rfl, _, hres _ _, hRR _ h3⟩
end
theorem run1_res (a : Array Value) (w : World) : (results Tryz.f69 a).run Tryz.prog w = .ok (.tuple #[]) w := by simp [results, Tryz.results69, go_sem]
set_option maxRecDepth 100000 in
set_option maxHeartbeats 1000000 in
theorem run1_idle (sb ab eb qb lb : Nat) (w : World) :
    CallsD Tryz.prog 69 #[.pointer (some ⟨sb, 0, none⟩), .pointer (some ⟨ab, 0, none⟩), .pointer (some ⟨eb, 0, none⟩), .pointer (some ⟨qb, 0, none⟩), .pointer (some ⟨lb, 0, none⟩)] .returning w fun e u' w' =>
      e = .returned (.tuple #[]) ∧ u' = .returning ∧ Below w.heap.size w w' := by
  refine callsD_of_wpS Tryz.func69 rfl fun c₀ cs hu => ?_
  have htm : (#[Value.pointer (some ⟨sb, 0, none⟩), Value.pointer (some ⟨ab, 0, none⟩), Value.pointer (some ⟨eb, 0, none⟩), Value.pointer (some ⟨qb, 0, none⟩), Value.pointer (some ⟨lb, 0, none⟩)] ++ Array.replicate (Tryz.f69.ntmps - (#[Value.pointer (some ⟨sb, 0, none⟩), Value.pointer (some ⟨ab, 0, none⟩), Value.pointer (some ⟨eb, 0, none⟩), Value.pointer (some ⟨qb, 0, none⟩), Value.pointer (some ⟨lb, 0, none⟩)]).size) undef : Array Value) = #[Value.pointer (some ⟨sb, 0, none⟩), Value.pointer (some ⟨ab, 0, none⟩), Value.pointer (some ⟨eb, 0, none⟩), Value.pointer (some ⟨qb, 0, none⟩), Value.pointer (some ⟨lb, 0, none⟩), undef, undef, undef, undef, undef, undef, undef, undef, undef, undef, undef, undef, undef, undef, undef, undef, undef, undef, undef, undef, undef, undef, undef, undef, undef, undef, undef, undef, undef] := by kernel_rfl
  have hrec : recoverD (c₀ :: cs) = none := by simp [recoverD, hu]
  refine wpS_region_seq (fun a' cs' w' => a' = ⟨#[Value.pointer (some ⟨sb, 0, none⟩), Value.pointer (some ⟨ab, 0, none⟩), Value.pointer (some ⟨eb, 0, none⟩), Value.pointer (some ⟨qb, 0, none⟩), Value.pointer (some ⟨lb, 0, none⟩), .pointer (some ⟨w.heap.size, 0, none⟩), .bool false, .tuple #[.agg #[.int .i64 0], .bool false], .nilIface, .tuple #[.agg #[.int .i64 0], .bool false], .agg #[.int .i64 0], .bool false, undef, undef, undef, undef, undef, undef, undef, undef, undef, undef, undef, undef, undef, undef, undef, undef, undef, undef, undef, undef, undef, undef], []⟩ ∧ cs' = c₀ :: cs ∧ w' = (w.alloc (.cells #[.int .i64 0] 159)).setCell ⟨w.heap.size, 0, none⟩ (.int .i64 0)) (fun QQ hQQ => ?_) ?_
  rotate_left
  · rintro _ _ _ ⟨rfl, rfl, rfl⟩
    have HB := hide (((Below.refl w.heap.size w).alloc (Nat.le_refl _) (.cells #[.int .i64 0] 159)))
    have hc : c₀ = { c₀ with mode := .returning } := by rw [← hu]
    rw [hc]
    refine wpS_plain (fun w' => Below w.heap.size w w') ?_ (endR_post run1_res (fun w' h => ⟨rfl, rfl, h⟩))
    go_wp2_with fail
    exact ⟨rfl, .inl rfl, HB.out⟩
  rw [htm]
  simp only [List.size_toArray, List.length_cons, List.length_nil, Nat.zero_add, Nat.reduceAdd]
  rw [show List.range 8 = [0, 1, 2, 3, 4, 5, 6, 7] from rfl]

  refine WS.none (o := ⟨some 8, _, _, _, _, _⟩) (w' := w) rfl (by rfl) (by simp [go_sem]) hrec ?_
  (try simp only [Act.put, putA, putB, putC])
  refine WS.value (o := ⟨some 9, _, _, _, _, _⟩) (v := .tuple #[.agg #[.int .i64 0], .bool false]) (w' := w) rfl (by rfl) (by simp [go_sem, ta1]) ?_
  (try simp only [Act.put, putA, putB, putC])
  refine WS.value (o := ⟨some 7, _, _, _, _, _⟩) (v := .tuple #[.agg #[.int .i64 0], .bool false]) (w' := w) rfl (by rfl) (by simp [go_sem]) ?_
  (try simp only [Act.put, putA, putB, putC])
  refine WS.value (o := ⟨some 10, _, _, _, _, _⟩) (v := .agg #[.int .i64 0]) (w' := w) rfl (by rfl) (by simp [go_sem]) ?_
  (try simp only [Act.put, putA, putB, putC])
  refine WS.value (o := ⟨some 11, _, _, _, _, _⟩) (v := .bool false) (w' := w) rfl (by rfl) (by simp [go_sem]) ?_
  (try simp only [Act.put, putA, putB, putC])
  refine WS.value (o := ⟨some 5, _, _, _, _, _⟩) (v := .pointer (some ⟨w.heap.size, 0, none⟩)) (w' := w.alloc (.cells #[.int .i64 0] 159)) rfl (by rfl) (by simp [go_sem]) ?_
  (try simp only [Act.put, putA, putB, putC])
  refine WS.skip (o := ⟨none, _, _, _, _, _⟩) (w' := (w.alloc (.cells #[.int .i64 0] 159)).setCell ⟨w.heap.size, 0, none⟩ (.int .i64 0)) rfl (by kernel_rfl) (by simp [go_sem]) ?_
  (try simp only [Act.put])
  refine WS.value (o := ⟨some 6, _, _, _, _, _⟩) (v := .bool false) (w' := (w.alloc (.cells #[.int .i64 0] 159)).setCell ⟨w.heap.size, 0, none⟩ (.int .i64 0)) rfl (by rfl) (by simp [go_sem]) ?_
  (try simp only [Act.put, putA, putB, putC])
  exact .done (hQQ _ _ _ ⟨rfl, rfl, rfl⟩)
set_option maxRecDepth 100000 in
set_option maxHeartbeats 1000000 in
theorem run1_catch (sb ab eb qb lb pb j n : Nat) (src : ByteArray) (ts : List Tok) (A : Option Addr) (c : Nat) (va ve : Value) (older : List PanicEntry) (w : World)
    (hs : Hid (w.cell? ⟨sb, 0, none⟩ = some (.string src))) (hq : Hid (w.cell? ⟨qb, 0, none⟩ = some (.pointer (some ⟨pb, 0, none⟩)))) (hn : Hid (w.cell? ⟨pb, 1, none⟩ = some (.int .i64 (j : Int)))) (hl : Hid (w.cell? ⟨lb, 0, none⟩ = some (.slice A ts.length c)))
    (hr : Hid (TRows .u8 w A (ts.map Tok.toZ))) (ha : Hid (w.cell? ⟨ab, 0, none⟩ = some va ∧ w.frozen? ⟨ab, 0, none⟩ = false)) (he : Hid (w.cell? ⟨eb, 0, none⟩ = some ve ∧ w.frozen? ⟨eb, 0, none⟩ = false))
    (hd : ab ≠ eb ∧ sb ≠ ab ∧ sb ≠ eb ∧ qb ≠ ab ∧ qb ≠ eb ∧ lb ≠ ab ∧ lb ≠ eb ∧ pb ≠ ab ∧ pb ≠ eb) (hA : Hid (∀ a, A = some a → a.block ≠ ab ∧ a.block ≠ eb)) (_hts : ts.length ≤ 1000000) (hj : j ≤ ts.length) :
    CallsD Tryz.prog 69 #[Value.pointer (some ⟨sb, 0, none⟩), Value.pointer (some ⟨ab, 0, none⟩), Value.pointer (some ⟨eb, 0, none⟩), Value.pointer (some ⟨qb, 0, none⟩), Value.pointer (some ⟨lb, 0, none⟩)] (.panicking ({ v := faultV n, recovered := false } :: older)) w fun e u' w' =>
      e = .returned (.tuple #[]) ∧ u' = .panicking ({ v := faultV n, recovered := true } :: older) ∧ Kept (fun b => b = ab ∨ b = eb) w w' ∧ w'.cell? ⟨ab, 0, none⟩ = some (.int .i64 (atT (ts.drop j) src.size : Int)) ∧ w'.cell? ⟨eb, 0, none⟩ = some (.int .i64 (n : Int)) := by
  refine callsD_of_wpS Tryz.func69 rfl fun c₀ cs hu => ?_
  have htm : (#[Value.pointer (some ⟨sb, 0, none⟩), Value.pointer (some ⟨ab, 0, none⟩), Value.pointer (some ⟨eb, 0, none⟩), Value.pointer (some ⟨qb, 0, none⟩), Value.pointer (some ⟨lb, 0, none⟩)] ++ Array.replicate (Tryz.f69.ntmps - (#[Value.pointer (some ⟨sb, 0, none⟩), Value.pointer (some ⟨ab, 0, none⟩), Value.pointer (some ⟨eb, 0, none⟩), Value.pointer (some ⟨qb, 0, none⟩), Value.pointer (some ⟨lb, 0, none⟩)]).size) undef : Array Value) = #[Value.pointer (some ⟨sb, 0, none⟩), Value.pointer (some ⟨ab, 0, none⟩), Value.pointer (some ⟨eb, 0, none⟩), Value.pointer (some ⟨qb, 0, none⟩), Value.pointer (some ⟨lb, 0, none⟩), undef, undef, undef, undef, undef, undef, undef, undef, undef, undef, undef, undef, undef, undef, undef, undef, undef, undef, undef, undef, undef, undef, undef, undef, undef, undef, undef, undef, undef] := by kernel_rfl
  have hrec : recoverD (c₀ :: cs) = some (faultV n, { c₀ with mode := .panicking ({ v := faultV n, recovered := true } :: older) } :: cs) := by simp [recoverD, hu]
  refine wpS_region_seq (fun a' cs' w' => a' = ⟨#[Value.pointer (some ⟨sb, 0, none⟩), Value.pointer (some ⟨ab, 0, none⟩), Value.pointer (some ⟨eb, 0, none⟩), Value.pointer (some ⟨qb, 0, none⟩), Value.pointer (some ⟨lb, 0, none⟩), .pointer (some ⟨w.heap.size, 0, none⟩), .bool true, .tuple #[.agg #[.int .i64 (n : Int)], .bool true], faultV n, .tuple #[.agg #[.int .i64 (n : Int)], .bool true], .agg #[.int .i64 (n : Int)], .bool true, undef, undef, undef, undef, undef, undef, undef, undef, undef, undef, undef, undef, undef, undef, undef, undef, undef, undef, undef, undef, undef, undef], []⟩ ∧ cs' = { c₀ with mode := .panicking ({ v := faultV n, recovered := true } :: older) } :: cs ∧ w' = (w.alloc (.cells #[.int .i64 0] 159)).setCell ⟨w.heap.size, 0, none⟩ (.int .i64 (n : Int))) (fun QQ hQQ => ?_) ?_
  rotate_left
  · rintro _ _ _ ⟨rfl, rfl, rfl⟩
    have HB := hide (((Below.refl w.heap.size w).alloc (Nat.le_refl _) (.cells #[.int .i64 0] 159)).setCell (p := ⟨w.heap.size, 0, none⟩) (Nat.le_refl _) (.int .i64 (n : Int)))
    have hf : ((w.alloc (.cells #[.int .i64 0] 159)).setCell ⟨w.heap.size, 0, none⟩ (.int .i64 (n : Int))).cell? ⟨w.heap.size, 0, none⟩ = some (.int .i64 (n : Int)) := by simp [go_sem]
    refine wpS_plain (fun w' => Kept (fun b => b = ab ∨ b = eb) w w' ∧ w'.cell? ⟨ab, 0, none⟩ = some (.int .i64 (atT (ts.drop j) src.size : Int)) ∧ w'.cell? ⟨eb, 0, none⟩ = some (.int .i64 (n : Int))) ?_ (endR_post run1_res (fun w' h => ⟨rfl, rfl, h⟩))
    dsimp only
    obtain ⟨d1, d2, d3, d4, d5, d6, d7, d8, d9⟩ := hd
    have es := (HB.out.cell (p := ⟨sb, 0, none⟩) (cell_lt hs.out)).trans hs.out
    have eq := (HB.out.cell (p := ⟨qb, 0, none⟩) (cell_lt hq.out)).trans hq.out
    have en := (HB.out.cell (p := ⟨pb, 1, none⟩) (cell_lt hn.out)).trans hn.out
    have el := (HB.out.cell (p := ⟨lb, 0, none⟩) (cell_lt hl.out)).trans hl.out
    have ea := (HB.out.cell (p := ⟨ab, 0, none⟩) (cell_lt ha.out.1)).trans ha.out.1
    have ee := (HB.out.cell (p := ⟨eb, 0, none⟩) (cell_lt he.out.1)).trans he.out.1
    have fa := (HB.out.frozen (p := ⟨ab, 0, none⟩) (cell_lt ha.out.1)).trans ha.out.2
    have fe := (HB.out.frozen (p := ⟨eb, 0, none⟩) (cell_lt he.out.1)).trans he.out.2
    have la := cell_lt ea
    have le := cell_lt ee
    have HR := hide (hr.out.below HB.out)
    have lw := HB.out.size
    generalize ((w.alloc (.cells #[.int .i64 0] 159)).setCell ⟨w.heap.size, 0, none⟩ (.int .i64 (n : Int))) = V at *
    obtain ⟨fb, hfb⟩ : ∃ fb, fb = w.heap.size := ⟨_, rfl⟩
    rw [← hfb] at hf ⊢
    have lfa : ab < fb := by rw [hfb]; exact cell_lt ha.out.1
    have lfe : eb < fb := by rw [hfb]; exact cell_lt he.out.1
    have HFB := hide hfb
    clear hfb
    go_wp2_with fail
    have hne : ⟨fb, 0, none⟩ ≠ (⟨ab, 0, none⟩ : Addr) := fun e => by injection e with e _ _; omega
    go_region
    have hk2 : Kept (fun b => b = ab ∨ b = eb) V ((V.setCell ⟨ab, 0, none⟩ (.int .i64 (src.size : Int))).setCell ⟨eb, 0, none⟩ (.int .i64 (n : Int))).drew := (((Kept.refl _ V).setCell (p := ⟨ab, 0, none⟩) (.inl (.inl rfl)) _).setCell (p := ⟨eb, 0, none⟩) (.inl (.inr rfl)) _).drew
    have HK2 := hide ((Kept.of_below HB.out : Kept (fun b => b = ab ∨ b = eb) w V).trans hk2)
    have eq2 := (hk2.cell (p := ⟨qb, 0, none⟩) (cell_lt eq) (by show ¬ (qb = ab ∨ qb = eb); omega)).trans eq
    have en2 := (hk2.cell (p := ⟨pb, 1, none⟩) (cell_lt en) (by show ¬ (pb = ab ∨ pb = eb); omega)).trans en
    have el2 := (hk2.cell (p := ⟨lb, 0, none⟩) (cell_lt el) (by show ¬ (lb = ab ∨ lb = eb); omega)).trans el
    have HR2 := hide (HR.out.kept hk2 (fun a ha => by have := hA.out a ha; show ¬ (a.block = ab ∨ a.block = eb); omega))
    have hne2 : (⟨ab, 0, none⟩ : Addr) ≠ ⟨eb, 0, none⟩ := fun e => by injection e with e _ _; omega
    have ea2 : ((V.setCell ⟨ab, 0, none⟩ (.int .i64 (src.size : Int))).setCell ⟨eb, 0, none⟩ (.int .i64 (n : Int))).drew.cell? ⟨ab, 0, none⟩ = some (.int .i64 (src.size : Int)) := by
      show ((V.setCell ⟨ab, 0, none⟩ (.int .i64 (src.size : Int))).setCell ⟨eb, 0, none⟩ (.int .i64 (n : Int))).cell? ⟨ab, 0, none⟩ = _
      rw [World.cell?_setCell_other _ _ _ _ (fun e => hne2 e.symm), World.cell?_setCell_same _ _ _ ea]
    have ee2 : ((V.setCell ⟨ab, 0, none⟩ (.int .i64 (src.size : Int))).setCell ⟨eb, 0, none⟩ (.int .i64 (n : Int))).drew.cell? ⟨eb, 0, none⟩ = some (.int .i64 (n : Int)) := by
      show ((V.setCell ⟨ab, 0, none⟩ (.int .i64 (src.size : Int))).setCell ⟨eb, 0, none⟩ (.int .i64 (n : Int))).cell? ⟨eb, 0, none⟩ = _
      rw [World.cell?_setCell_same _ _ _ (by rw [World.cell?_setCell_other _ _ _ _ hne2]; exact ee)]
    have fa2 : ((V.setCell ⟨ab, 0, none⟩ (.int .i64 (src.size : Int))).setCell ⟨eb, 0, none⟩ (.int .i64 (n : Int))).drew.frozen? ⟨ab, 0, none⟩ = false := by
      show ((V.setCell ⟨ab, 0, none⟩ (.int .i64 (src.size : Int))).setCell ⟨eb, 0, none⟩ (.int .i64 (n : Int))).frozen? ⟨ab, 0, none⟩ = _
      rw [World.frozen?_setCell, World.frozen?_setCell]; exact fa
    have HE2 := hide ee2
    clear es eq en el ea ee fa fe la le HR hk2 ee2 hne hf
    generalize ((V.setCell ⟨ab, 0, none⟩ (.int .i64 (src.size : Int))).setCell ⟨eb, 0, none⟩ (.int .i64 (n : Int))).drew = V2 at *
    have la2 := cell_lt ea2
    by_cases hjs : j < ts.length
    · have hL := hide (show (ts.map Tok.toZ).length = ts.length by simp)
      obtain ⟨b, off, t, rfl, hlt, ht, d0, d1, d2⟩ := trow_at (w' := V2) hL HR2 (Below.refl _ _) hjs
      have htt : t = (ts[j]).toZ := by
        have := ht.out
        simp [hjs] at this
        exact this.symm
      subst htt
      have k1 : decide (j < ts.length) = true := by simp; exact hjs
      have k2 : (0 : Int) ≤ (j : Int) ∧ (j : Int) < ((ts.length : Nat) : Int) := by omega
      have HAT : Hid (atT (ts.drop j) src.size = (ts[j]).at_) := hide (by unfold atT; rw [List.drop_eq_getElem_cons hjs]; rfl)
      simp only [Tok.toZ] at d0 d1 d2
      have hbab := hA.out _ rfl
      go_wp2_with fail
      go_quiet (fail)
      go_wp2_with fail
      go_region
      go_wp2_with fail
      have hne3 : (⟨ab, 0, none⟩ : Addr) ≠ ⟨eb, 0, none⟩ := hne2
      exact ⟨rfl, .inl rfl, (HK2.out.drewN _).setCell (p := ⟨ab, 0, none⟩) (.inl (.inl rfl)) _, by rw [HAT.out]; exact World.cell?_setCell_same (V2.drewN _) _ _ ea2, (World.cell?_setCell_other (V2.drewN _) _ _ _ hne3).trans HE2.out⟩
    · have k1 : decide (j < ts.length) = false := by simp; omega
      have HAT : Hid (atT (ts.drop j) src.size = src.size) := hide (by unfold atT; rw [List.drop_eq_nil_of_le (by omega)]; rfl)
      go_wp2_with fail
      go_quiet (fail)
      go_wp2_with fail
      exact ⟨rfl, .inl rfl, HK2.out.drewN _, by rw [HAT.out]; exact ea2, HE2.out⟩
  rw [htm]
  simp only [List.size_toArray, List.length_cons, List.length_nil, Nat.zero_add, Nat.reduceAdd]
  rw [show List.range 8 = [0, 1, 2, 3, 4, 5, 6, 7] from rfl]
  refine WS.some (o := ⟨some 8, _, _, _, _, _⟩) (w' := w) rfl (by rfl) (by simp [go_sem]) hrec ?_
  (try simp only [Act.put, putA, putB, putC])
  refine WS.value (o := ⟨some 9, _, _, _, _, _⟩) (v := .tuple #[.agg #[.int .i64 (n : Int)], .bool true]) (w' := w) rfl (by rfl) (by simp [go_sem, ta2, faultV]) ?_
  (try simp only [Act.put, putA, putB, putC])
  refine WS.value (o := ⟨some 7, _, _, _, _, _⟩) (v := .tuple #[.agg #[.int .i64 (n : Int)], .bool true]) (w' := w) rfl (by rfl) (by simp [go_sem, faultV]) ?_
  (try simp only [Act.put, putA, putB, putC])
  refine WS.value (o := ⟨some 10, _, _, _, _, _⟩) (v := .agg #[.int .i64 (n : Int)]) (w' := w) rfl (by rfl) (by simp [go_sem, faultV]) ?_
  (try simp only [Act.put, putA, putB, putC])
  refine WS.value (o := ⟨some 11, _, _, _, _, _⟩) (v := .bool true) (w' := w) rfl (by rfl) (by simp [go_sem, faultV]) ?_
  (try simp only [Act.put, putA, putB, putC])
  refine WS.value (o := ⟨some 5, _, _, _, _, _⟩) (v := .pointer (some ⟨w.heap.size, 0, none⟩)) (w' := w.alloc (.cells #[.int .i64 0] 159)) rfl (by rfl) (by simp [go_sem]) ?_
  (try simp only [Act.put, putA, putB, putC])
  refine WS.skip (o := ⟨none, _, _, _, _, _⟩) (w' := (w.alloc (.cells #[.int .i64 0] 159)).setCell ⟨w.heap.size, 0, none⟩ (.int .i64 (n : Int))) rfl (by rfl) (by simp [go_sem]) ?_
  (try simp only [Act.put])
  refine WS.value (o := ⟨some 6, _, _, _, _, _⟩) (v := .bool true) (w' := (w.alloc (.cells #[.int .i64 0] 159)).setCell ⟨w.heap.size, 0, none⟩ (.int .i64 (n : Int))) rfl (by rfl) (by simp [go_sem]) ?_
  (try simp only [Act.put, putA, putB, putC])
  exact .done (hQQ _ _ _ ⟨rfl, rfl, rfl⟩)
end Go.Proofs.YtndpnpohdoggjaaGreatDoor
namespace Go.Proofs.YtndpnpohdoggjaaGreatDoor
open Go.RowKit
theorem lexA_ind (P : Nat → List UInt8 → List Tok × Nat × Nat → Prop)
    (h0 : ∀ p l, l.drop (skipN false l) = [] → P p l ([], 0, 0))
    (h1 : ∀ p l b r, l.drop (skipN false l) = b :: r → (tokN (b :: r)).2.2 = 0 → P (p + skipN false l + (tokN (b :: r)).2.1) ((b :: r).drop (tokN (b :: r)).2.1) (lexA (p + skipN false l + (tokN (b :: r)).2.1) ((b :: r).drop (tokN (b :: r)).2.1)) →
      P p l (⟨(tokN (b :: r)).1, (b :: r).take (tokN (b :: r)).2.1, p + skipN false l⟩ :: (lexA (p + skipN false l + (tokN (b :: r)).2.1) ((b :: r).drop (tokN (b :: r)).2.1)).1, (lexA (p + skipN false l + (tokN (b :: r)).2.1) ((b :: r).drop (tokN (b :: r)).2.1)).2))
    (h2 : ∀ p l b r, l.drop (skipN false l) = b :: r → (tokN (b :: r)).2.2 ≠ 0 → P p l ([], p + skipN false l, (tokN (b :: r)).2.2)) :
    ∀ (n p : Nat) (l : List UInt8), l.length ≤ n → P p l (lexA p l)
  | n, p, l, hn => by
    rw [lexA_eq]
    have hd : (l.drop (skipN false l)).length ≤ l.length := by rw [List.length_drop]; omega
    cases h : l.drop (skipN false l) with
    | nil => exact h0 p l h
    | cons b r =>
      rw [h] at hd
      simp only [List.length_cons] at hd
      simp only
      by_cases hz : (tokN (b :: r)).2.2 = 0
      · have hp := tokN_pos b r hz
        have hl : ((b :: r).drop (tokN (b :: r)).2.1).length < l.length := by rw [List.length_drop, List.length_cons]; omega
        cases n with
        | zero => omega
        | succ n =>
          rw [if_pos hz]
          exact h1 p l b r h hz (lexA_ind P h0 h1 h2 n _ _ (by omega))
      · rw [if_neg hz]
        exact h2 p l b r h hz
def ValidT (t : Tok) : Prop := ∃ b r, t.text = b :: r ∧ blankB b = false ∧ (b == 35) = false ∧ ∀ suf : List UInt8, (∀ c s, suf = c :: s → innerB c = false) → tokN (t.text ++ suf) = (t.kind, t.text.length, 0)
theorem start_no (b : UInt8) (h : letterB b = true ∨ digitB b = true ∨ signB b = true) : blankB b = false ∧ (b == 35) = false := by
  constructor
  · rw [Bool.eq_false_iff]
    intro hs
    unfold blankB at hs
    simp only [Bool.or_eq_true, beq_iff_eq] at hs
    rcases hs with ((rfl | rfl) | rfl) | rfl <;> revert h <;> decide
  · rw [Bool.eq_false_iff]
    intro hs
    have hs' : b = 35 := by simpa using hs
    subst hs'
    revert h; decide
theorem runN_app (r suf : List UInt8) (hs : ∀ c s, suf = c :: s → innerB c = false) : runN (r.take (runN r) ++ suf) = runN r ∧ (r.take (runN r) ++ suf).take (runN r) = r.take (runN r) := by
  have e : r.take (runN r) = r.takeWhile innerB := by
    unfold runN
    exact List.prefix_iff_eq_take.1 (List.takeWhile_prefix innerB) |>.symm
  have h1 : runN (r.take (runN r) ++ suf) = runN r := by
    rw [e]
    unfold runN
    rw [List.takeWhile_append_of_pos (fun a ha => by
      have := List.all_takeWhile (l := r) (p := innerB)
      rw [List.all_eq_true] at this
      exact this a ha)]
    cases suf with
    | nil => simp
    | cons c s => rw [List.takeWhile_cons, hs c s rfl]; simp
  refine ⟨h1, ?_⟩
  have hl : (r.take (runN r)).length = runN r := by rw [List.length_take]; have := runN_le r; omega
  rw [List.take_append_of_le_length (by omega), List.take_take]
  congr 1
  omega
theorem valid_tok (b : UInt8) (r : List UInt8) (at_ : Nat) (h : (tokN (b :: r)).2.2 = 0) : ValidT ⟨(tokN (b :: r)).1, (b :: r).take (tokN (b :: r)).2.1, at_⟩ := by
  have hr := runN_le r
  by_cases h1 : letterB b = true
  · by_cases h2 : 24 < 1 + runN r
    · unfold tokN at h; simp only [h1, if_true, h2] at h; cases h
    · have e : tokN (b :: r) = (1, 1 + runN r, 0) := by unfold tokN; simp [h1, h2]
      rw [e]
      obtain ⟨n1, n2⟩ := start_no b (.inl h1)
      refine ⟨b, r.take (runN r), by simp only; rw [Nat.add_comm, List.take_succ_cons], n1, n2, fun suf hs => ?_⟩
      simp only
      obtain ⟨a1, a2⟩ := runN_app r suf hs
      have hl : ((b :: r).take (1 + runN r)).length = 1 + runN r := by rw [List.length_take, List.length_cons]; omega
      rw [hl, Nat.add_comm 1, List.take_succ_cons, List.cons_append]
      unfold tokN
      simp only
      rw [if_pos h1, a1, if_neg h2, Nat.add_comm]
  · by_cases h2 : digitB b = true
    · by_cases h3 : numB (b :: r.take (runN r)) = true
      · have e : tokN (b :: r) = (2, 1 + runN r, 0) := by unfold tokN; simp [h1, h2, h3]
        rw [e]
        obtain ⟨n1, n2⟩ := start_no b (.inr (.inl h2))
        refine ⟨b, r.take (runN r), by simp only; rw [Nat.add_comm, List.take_succ_cons], n1, n2, fun suf hs => ?_⟩
        simp only
        obtain ⟨a1, a2⟩ := runN_app r suf hs
        have hl : ((b :: r).take (1 + runN r)).length = 1 + runN r := by rw [List.length_take, List.length_cons]; omega
        rw [hl, Nat.add_comm 1, List.take_succ_cons, List.cons_append]
        unfold tokN
        simp only
        rw [if_neg h1, if_pos h2, a1, a2, if_pos h3, Nat.add_comm]
      · exfalso
        unfold tokN at h
        simp only [h1, h2, h3, if_true] at h
        simp at h
    · by_cases h3 : signB b = true
      · have e : tokN (b :: r) = (3, 1, 0) := by unfold tokN; simp [h1, h2, h3]
        rw [e]
        obtain ⟨n1, n2⟩ := start_no b (.inr (.inr h3))
        refine ⟨b, [], by simp, n1, n2, fun suf hs => ?_⟩
        simp only [List.take_succ_cons, List.take_zero, List.cons_append, List.nil_append, List.length_cons, List.length_nil]
        unfold tokN
        simp only
        rw [if_neg h1, if_neg h2, if_pos h3]
      · exfalso
        unfold tokN at h
        simp only [h1, h2, h3] at h
        simp at h
theorem valid_all (p : Nat) (l : List UInt8) : ∀ t ∈ (lexA p l).1, ValidT t := by
  refine lexA_ind (fun p l q => ∀ t ∈ q.1, ValidT t) ?_ ?_ ?_ l.length p l (Nat.le_refl _)
  · intro p l _ t ht; simp at ht
  · intro p l b r h hz ih t ht
    rcases List.mem_cons.1 ht with rfl | ht
    · exact valid_tok b r _ hz
    · exact ih t ht
  · intro p l b r _ _ t ht; simp at ht
/-- At a valid token. -/
theorem lexA_tok (p : Nat) (t : Tok) (suf : List UInt8) (hv : ValidT t) (hs : ∀ c s, suf = c :: s → innerB c = false) : lexA p (t.text ++ suf) = (⟨t.kind, t.text, p⟩ :: (lexA (p + t.text.length) suf).1, (lexA (p + t.text.length) suf).2) := by
  obtain ⟨b, r, e, h1, h2, h3⟩ := hv
  have ht := h3 suf hs
  rw [lexA_eq]
  have hz : skipN false (t.text ++ suf) = 0 := by
    rw [e, List.cons_append, skipN_f, h1, h2]; simp
  rw [hz, List.drop_zero]
  have ec : t.text ++ suf = b :: (r ++ suf) := by rw [e]; rfl
  rw [ec] at ht ⊢
  simp only [ht, if_true, Nat.add_zero]
  rw [← ec, List.take_left, List.drop_left]
/-- Which kind a valid token has. -/
theorem valid_kind {t : Tok} (h : ValidT t) : (t.kind = 1 → ∃ b r, t.text = b :: r ∧ letterB b = true) ∧ (t.kind = 2 → numB t.text = true ∧ ∃ b r, t.text = b :: r ∧ digitB b = true) := by
  obtain ⟨b, r, e, _, _, hs⟩ := h
  have h0 := hs [] (fun c s h => by cases h)
  rw [List.append_nil, e] at h0
  unfold tokN at h0
  dsimp only at h0
  by_cases hl : letterB b = true
  · rw [if_pos hl] at h0
    have hk : 1 = t.kind := by
      split at h0
      · exact congrArg (·.1) h0
      · exact congrArg (·.1) h0
    exact ⟨fun _ => ⟨b, r, e, hl⟩, fun h2 => by omega⟩
  · rw [if_neg hl] at h0
    by_cases hd : digitB b = true
    · rw [if_pos hd] at h0
      have hk : 2 = t.kind := by
        split at h0
        · exact congrArg (·.1) h0
        · exact congrArg (·.1) h0
      refine ⟨fun h1 => by omega, fun _ => ⟨?_, b, r, e, hd⟩⟩
      split at h0
      · rename_i hn
        have hlen : 1 + runN r = (b :: r).length := congrArg (·.2.1) h0
        rw [e]
        rwa [List.take_of_length_le (by simp at hlen; omega)] at hn
      · have : (72 : Nat) = 0 := congrArg (·.2.2) h0
        omega
    · rw [if_neg hd] at h0
      have hk : 3 = t.kind := by
        split at h0
        · exact congrArg (·.1) h0
        · exact congrArg (·.1) h0
      exact ⟨fun h1 => by omega, fun h1 => by omega⟩
theorem good_lex (p : Nat) (l : List UInt8) (hl : l.length ≤ 1099511627776) (hs : ∀ t ∈ (lexA p l).1, t.text.length ≤ l.length) : Good (lexA p l).1 := fun t ht hk =>
  ⟨((valid_kind (valid_all p l t ht)).2 hk).1, Nat.le_trans (hs t ht) hl⟩
end Go.Proofs.YtndpnpohdoggjaaGreatDoor

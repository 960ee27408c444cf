/-
  Merged texts: Small helper lemmas of this claim's walks. | A region that draws its order and whose last operations are a chain that waits for all the others (a store into a cell that the region loads): the loads are taken first, the others are branched over, the chain comes last. | Short names for what the walks of drawn regions say often. | 'Kept F w w'': every block of w that F does not name is in w' as it was. | The lexer as plain functions on lists of bytes. | A region that draws its order, whose operations read old cells and whose callees only make memory: one walk in the text's order. The class of worlds is 'W, and whatever has been laid since'. | lex: tests on bytes: between, among, either. | lex: either.
-/
import Derived.Test.YtndpnpohdoggjaaGreatDoorProg
import Derived.WalkKit
import Derived.WalkSpells
import Derived.WalkLawsBesides
import Derived.Handy
import Derived.BigQuiet
import Derived.Deep.QuietTactic
import Derived.OrdersHeld
import Derived.StillTail
import Derived.RegionTactic
import Derived.Deep.RegionHeld3
import Derived.Laws.Rows
import Derived.Deep.MidRow
import Derived.Deep.Draws
import Derived.Lib.Hide
import Derived.Deep.Quiet
import Derived.Conc.MuLone
namespace Go.Proofs.YtndpnpohdoggjaaGreatDoor
open Go.RowKit
theorem hide {p : Prop} (h : p) : Hid p := h
theorem ret_bool {a b : Bool} (h : a = b) : Ending.returned (.bool a) = .returned (.bool b) := by rw [h]
theorem ret_int {k : IntKind} {a b : Int} (h : a = b) : Ending.returned (.int k a) = .returned (.int k b) := by rw [h]
theorem bcell {W w1 : World} (hb : Below W.heap.size W w1) : (∀ b o, b < W.heap.size → w1.cell? ⟨b, o, none⟩ = W.cell? ⟨b, o, none⟩) ∧ (∀ b o, b < W.heap.size → w1.frozen? ⟨b, o, none⟩ = W.frozen? ⟨b, o, none⟩) :=
  ⟨fun b o h => hb.cell (p := ⟨b, o, none⟩) h, fun b o h => hb.frozen (p := ⟨b, o, none⟩) h⟩
end Go.Proofs.YtndpnpohdoggjaaGreatDoor
namespace Go.Proofs.YtndpnpohdoggjaaGreatDoor
open Go.RowKit
section
variable {P : Program} {ops : Array Oper} {md : Region.Mode} {Q : Exit → Act → World → Prop} {S : World → Prop}
/-- Whatever order the first n operations come in; S holds behind each; then L. -/
def wpAnyT (P : Program) (md : Region.Mode) (ops : Array Oper) (Q : Exit → Act → World → Prop) (S : World → Prop) (n : Nat) (L : Array Bool → Act → World → Prop) : Nat → Array Bool → Act → World → Prop
  | 0, listed, a, w => L listed a w
  | f + 1, listed, a, w => Region.ready md ops listed ≠ [] ∧ ∀ i ∈ Region.ready md ops listed, i < n ∧ wpOp P ops Q i (fun a' w' => S w' ∧ wpAnyT P md ops Q S n L f (listed.setIfInBounds i true) a' w') a w
theorem wpAny_of_T {n g : Nat} {L : Array Bool → Act → World → Prop} (hL : ∀ listed a w, L listed a w → wpAny P md ops Q g listed a w) :
    ∀ (f : Nat) (listed : Array Bool) (a : Act) (w : World), wpAnyT P md ops Q S n L f listed a w → wpAny P md ops Q (f + g) listed a w
  | 0, listed, a, w, h => by rw [Nat.zero_add]; exact hL _ _ _ h
  | f + 1, listed, a, w, h => by
    rw [show f + 1 + g = (f + g) + 1 by omega]
    exact ⟨fun h0 => absurd h0 h.1, fun i hi => wpOp_mono (fun a' w' h' => wpAny_of_T hL f _ a' w' h'.2) (h.2 i hi).2⟩
/-- HeadInv as a Bool. -/
def headB (md : Region.Mode) (ops : Array Oper) (n : Nat) (listed : Array Bool) : Bool :=
  listed.size == ops.size && (List.range ops.size).all (fun j => !listed.getD j false || ((ops[j]?).map (·.after.all fun e => !Region.binds md e || listed.getD e.on false)).getD true) && (List.range ops.size).all (fun t => decide (t < n) || !listed.getD t true)
theorem headB_spec {n : Nat} {listed : Array Bool} (h : headB md ops n listed = true) : HeadInv md ops n listed := by
  unfold headB at h
  simp only [Bool.and_eq_true, beq_iff_eq] at h
  obtain ⟨⟨h1, h2⟩, h3⟩ := h
  refine ⟨h1, fun j oj hj hl e he hb => ?_, fun t ht ht' => ?_⟩
  · have hlt : j < ops.size := (Array.getElem?_eq_some_iff.1 hj).1
    have := List.all_eq_true.1 h2 j (List.mem_range.2 hlt)
    rw [hj, hl] at this
    simp only [Bool.not_true, Bool.false_or, Option.map_some, Option.getD_some] at this
    have := (Array.all_eq_true_iff_forall_mem).1 this e he
    simpa [hb] using this
  · have := List.all_eq_true.1 h3 t (List.mem_range.2 ht')
    have h4 : decide (t < n) = false := by simpa using ht
    rw [h4] at this
    simpa using this
theorem wpAnyT_first {n i : Nat} {oi : Oper} {v : Value} {L : Array Bool → Act → World → Prop} (hi : ops[i]? = some oi) (hsel : ∀ (j : Nat) (o : Oper) cs b, ops[j]? = some o → o.op ≠ .select cs b)
    (hs : Region.sinkB md ops n = true) (hc : Region.chainB md ops n = true) (hn : n < ops.size) (hin : i < n)
    (hQ : ∀ c a w, Q (.panic c) (a.put oi.dst v) w → Q (.panic c) a w)
    (hdone : ∀ listed a w, L listed a w → ∀ j ∈ Region.ready md ops listed, n ≤ j) :
    ∀ (f : Nat) (listed : Array Bool) (a : Act) (w : World), HeadInv md ops n listed →
      (∀ j oj, ops[j]? = some oj → j ≠ i → listed.getD j true = false → (∀ e ∈ oj.after, Region.binds md e = true → e.on ≠ i) → oi.apart ops oj = true) →
      i ∈ Region.ready md ops listed → YieldsIf P ops S oi v a → S w →
      wpAnyT P md ops Q S n L f (listed.setIfInBounds i true) (a.put oi.dst v) w → wpAnyT P md ops Q S n L (f + 1) listed a w := by
  intro f
  induction f with
  | zero =>
    intro listed a w inv _ hr hy hS H
    have hun := (mem_ready.1 hr).1
    refine ⟨fun h => (by rw [h] at hr; cases hr), fun j hj => ?_⟩
    have hjn : j < n := by
      rcases Nat.lt_or_ge j n with h | h
      · exact h
      · exact absurd hj (tail_waits hs hc hn inv _ i rfl hin hun j h)
    refine ⟨hjn, ?_⟩
    by_cases hji : j = i
    · subst hji; exact hy.wpOp hi hS ⟨hS, H⟩
    · have := hdone _ _ _ H j (ready_mono hj hji)
      omega
  | succ f ih =>
    intro listed a w inv hfree hr hy hS H
    have hun := (mem_ready.1 hr).1
    refine ⟨fun h => (by rw [h] at hr; cases hr), fun j hj => ?_⟩
    have hjn : j < n := by
      rcases Nat.lt_or_ge j n with h | h
      · exact h
      · exact absurd hj (tail_waits hs hc hn inv _ i rfl hin hun j h)
    refine ⟨hjn, ?_⟩
    by_cases hji : j = i
    · subst hji; exact hy.wpOp hi hS ⟨hS, H⟩
    · have h1 := (H.2 j (ready_mono hj hji)).2
      obtain ⟨hjun, oj, hoj, hall⟩ := mem_ready.1 hj
      have hnot : ∀ e ∈ oj.after, Region.binds md e = true → e.on ≠ i := fun e he hb heq => by
        have h1 := hall e he hb
        rw [heq, getD_both hun] at h1
        cases h1
      have h2 := wpOp_putIf hoj (hfree j oj hoj hji hjun hnot) (fun cs b => hsel i oi cs b hi) (fun cs b => hsel j oj cs b hoj) hQ hy h1
      have hfree' : ∀ k ok, ops[k]? = some ok → k ≠ i → (listed.setIfInBounds j true).getD k true = false →
          (∀ e ∈ ok.after, Region.binds md e = true → e.on ≠ i) → oi.apart ops ok = true := fun k ok hk hki hun hno => by
        refine hfree k ok hk hki ?_ hno
        by_cases hjk : j = k
        · subst hjk; exact hjun
        · rw [getD_set_ne true hjk] at hun; exact hun
      refine wpOp_mono (fun a' w' h3 => ⟨h3.2.1, ih (listed.setIfInBounds j true) a' w' (inv.set hj hjn) hfree' (ready_mono hr (Ne.symm hji)) h3.1 h3.2.1 ?_⟩) h2
      rw [Array.setIfInBounds_comm _ _ hji]
      exact h3.2.2
/-- What stands at the end of the head. -/
def TailL (P : Program) (ops : Array Oper) (Q : Exit → Act → World → Prop) (n : Nat) (listed : Array Bool) (a : Act) (w : World) : Prop :=
  Region.seqB .any ops (ops.size - n) n listed = true ∧ wpList P ops Q (ops.toList.drop n) a w
theorem TailL.any {n : Nat} {listed : Array Bool} {a : Act} {w : World} (h : TailL P ops Q n listed a w) : wpAny P .any ops Q (ops.size - n) listed a w := by
  have hdl : (ops.toList.drop n).length = ops.size - n := by simp
  have := wpAny_of_seq (md := .any) (Q' := Q) (ops.toList.drop n) n listed a w (fun j => by simp [List.getElem?_drop]) (by rw [hdl]; exact h.1) h.2
  rwa [hdl] at this
theorem TailL.done {n : Nat} : ∀ listed a w, TailL P ops Q n listed a w → ∀ j ∈ Region.ready .any ops listed, n ≤ j := fun _ _ _ h => seqB_ready h.1
/-- THE BEGINNING. -/
theorem wp_region_tail {id : Nat} {a : Act} {w : World} (n : Nat) (hm : P.follows .mixedOrders = true) (hn : decide (n ≤ ops.size) = true) (hS : S w.drew)
    (h : S w.drew → wpAnyT P .any ops Q S n (TailL P ops Q n) n (Array.replicate ops.size false) a w.drew) : (Code.region id ops true).wp P Q a w := by
  refine wp_region_any hm ?_
  have hn' := of_decide_eq_true hn
  have := wpAny_of_T (fun _ _ _ h => TailL.any h) _ _ _ _ (h hS)
  rw [show n + (ops.size - n) = ops.size by omega] at this
  exact this
/-- TAKE NUMBER i FIRST. -/
theorem wpAnyT_take {n i : Nat} {oi : Oper} {v : Value} {fuel : Nat} {listed : Array Bool} {a : Act} {w : World} (hi : ops[i]? = some oi)
    (hB : (Region.noSelect ops && Region.sinkB .any ops n && Region.chainB .any ops n && decide (n < ops.size) && decide (i < n) && headB .any ops n listed && Region.free .any ops listed i && (Region.ready .any ops listed).contains i) = true)
    (hQ : ∀ c a w, Q (.panic c) (a.put oi.dst v) w → Q (.panic c) a w) (hy : YieldsIf P ops S oi v a) (hS : S w)
    (h : wpAnyT P .any ops Q S n (TailL P ops Q n) fuel (listed.setIfInBounds i true) (a.put oi.dst v) w) : wpAnyT P .any ops Q S n (TailL P ops Q n) (fuel + 1) listed a w := by
  simp only [Bool.and_eq_true, decide_eq_true_eq] at hB
  obtain ⟨⟨⟨⟨⟨⟨⟨h1, h2⟩, h3⟩, h4⟩, h5⟩, h6⟩, h7⟩, h8⟩ := hB
  exact wpAnyT_first hi (Region.noSelect_spec h1) h2 h3 h4 h5 hQ TailL.done fuel listed a w (headB_spec h6) (Region.free_spec hi h7) (by simpa using h8) hy hS h
/-- BRANCH OVER THOSE THAT MAY COME UP. -/
def AllT (P : Program) (ops : Array Oper) (Q : Exit → Act → World → Prop) (S : World → Prop) (n fuel : Nat) (listed : Array Bool) (a : Act) (w : World) (rs : List Nat) : Prop :=
  ∀ i ∈ rs, wpOp P ops Q i (fun a' w' => S w' ∧ wpAnyT P .any ops Q S n (TailL P ops Q n) fuel (listed.setIfInBounds i true) a' w') a w
theorem AllT.nil {n fuel : Nat} {listed : Array Bool} {a : Act} {w : World} : AllT P ops Q S n fuel listed a w [] := fun _ h => by cases h
theorem AllT.cons {n fuel : Nat} {listed : Array Bool} {a : Act} {w : World} {i : Nat} {o : Oper} {rs : List Nat} (ho : ops[i]? = some o)
    (h : ∀ K' : Act → World → Prop, Shut (∀ a w, S w → (S w → wpAnyT P .any ops Q S n (TailL P ops Q n) fuel (listed.setIfInBounds i true) a w) → K' a w) → if Region.wanted o (yielded ops a.tmps) = true then Oper.wp P o a w K' Q else K' (a.put o.dst undef) w)
    (hs : AllT P ops Q S n fuel listed a w rs) : AllT P ops Q S n fuel listed a w (i :: rs) := fun j hj => by
  rcases List.mem_cons.1 hj with rfl | hj
  · exact wpOp_step ho (fun K' hK => h K' (fun a w hS hW => hK a w ⟨hS, hW hS⟩))
  · exact hs j hj
theorem wpAnyT_ready {n : Nat} {rs : List Nat} {fuel : Nat} {listed : Array Bool} {a : Act} {w : World} (hr : Region.ready .any ops listed = rs) (hne : rs ≠ []) (hlt : (rs.all fun i => decide (i < n)) = true)
    (h : AllT P ops Q S n fuel listed a w rs) : wpAnyT P .any ops Q S n (TailL P ops Q n) (fuel + 1) listed a w :=
  ⟨by rw [hr]; exact hne, fun i hi => by rw [hr] at hi; exact ⟨of_decide_eq_true (List.all_eq_true.1 hlt i hi), h i hi⟩⟩
/-- THE HEAD IS DONE: the chain. -/
theorem wpAnyT_done {n : Nat} {listed : Array Bool} {a : Act} {w : World} (hB : Region.seqB .any ops (ops.size - n) n listed = true) (h : wpList P ops Q (ops.toList.drop n) a w) : wpAnyT P .any ops Q S n (TailL P ops Q n) 0 listed a w := ⟨hB, h⟩
end
end Go.Proofs.YtndpnpohdoggjaaGreatDoor
namespace Go.Proofs.YtndpnpohdoggjaaGreatDoor
section
variable {P : Program} {ops : Array Oper} {Q : Exit → Act → World → Prop} {S : World → Prop}
theorem putA {α : Type _} {l : List α} {i : Nat} {a : α} : l.toArray.setIfInBounds i a = (l.set i a).toArray := List.setIfInBounds_toArray ..
theorem putB {α : Type _} {x a : α} {xs : List α} : (x :: xs).set 0 a = a :: xs := List.set_cons_zero
theorem putC {α : Type _} {x a : α} {xs : List α} {n : Nat} : (x :: xs).set (n + 1) a = x :: xs.set n a := List.set_cons_succ
/-- Take number i, whose slot is d. -/
theorem tk (i d : Nat) {op : Op} {ty : TypeId} {pos : String} {after : Array Edge} {guard : Option (Nat × Bool)} {n : Nat} {v : Value} {fuel : Nat} {listed : Array Bool} {a : Act} {w : World} (hi : ops[i]? = some ⟨some d, op, ty, pos, after, guard⟩)
    (hB : (Region.noSelect ops && Region.sinkB .any ops n && Region.chainB .any ops n && decide (n < ops.size) && decide (i < n) && headB .any ops n listed && Region.free .any ops listed i && (Region.ready .any ops listed).contains i) = true)
    (hQ : ∀ c a w, Q (.panic c) (a.put (some d) v) w → Q (.panic c) a w) (hw : Region.wanted ⟨some d, op, ty, pos, after, guard⟩ (yielded ops a.tmps) = true) (hy : ∀ w, S w → (execOp a.eval ⟨some d, op, ty, pos, after, guard⟩).run P w = .ok (.value v) w) (hS : S w)
    (h : wpAnyT P .any ops Q S n (TailL P ops Q n) fuel (listed.setIfInBounds i true) (a.put (some d) v) w) : wpAnyT P .any ops Q S n (TailL P ops Q n) (fuel + 1) listed a w :=
  wpAnyT_take hi hB hQ (.inl ⟨hw, hy⟩) hS h
/-- The first cells of a row. -/
theorem row3 {w : World} {b : Nat} {cs : Array Value} {t : TypeId} {u0 u1 u2 : Value} {us : List Value} (h : w.heap[b]? = some (.cells cs t (0, 0))) (e : cs.toList = u0 :: u1 :: u2 :: us) :
    w.cell? ⟨b, 0, none⟩ = some u0 ∧ w.cell? ⟨b, 1, none⟩ = some u1 ∧ w.cell? ⟨b, 2, none⟩ = some u2 ∧ w.frozen? ⟨b, 0, none⟩ = false ∧ w.frozen? ⟨b, 1, none⟩ = false ∧ w.frozen? ⟨b, 2, none⟩ = false := by and_intros <;> first | exact frozen_of_row _ _ _ _ _ h | (rw [cell_of_row _ _ _ _ _ _ h, ← Array.getElem?_toList, e]; rfl)
theorem row4 {w : World} {b : Nat} {cs : Array Value} {t : TypeId} {u0 u1 u2 u3 : Value} {us : List Value} (h : w.heap[b]? = some (.cells cs t (0, 0))) (e : cs.toList = u0 :: u1 :: u2 :: u3 :: us) :
    w.cell? ⟨b, 0, none⟩ = some u0 ∧ w.cell? ⟨b, 1, none⟩ = some u1 ∧ w.cell? ⟨b, 2, none⟩ = some u2 ∧ w.cell? ⟨b, 3, none⟩ = some u3 ∧ w.frozen? ⟨b, 0, none⟩ = false ∧ w.frozen? ⟨b, 1, none⟩ = false ∧ w.frozen? ⟨b, 2, none⟩ = false ∧ w.frozen? ⟨b, 3, none⟩ = false := by and_intros <;> first | exact frozen_of_row _ _ _ _ _ h | (rw [cell_of_row _ _ _ _ _ _ h, ← Array.getElem?_toList, e]; rfl)
theorem row5 {w : World} {b : Nat} {cs : Array Value} {t : TypeId} {u0 u1 u2 u3 u4 : Value} {us : List Value} (h : w.heap[b]? = some (.cells cs t (0, 0))) (e : cs.toList = u0 :: u1 :: u2 :: u3 :: u4 :: us) :
    w.cell? ⟨b, 0, none⟩ = some u0 ∧ w.cell? ⟨b, 1, none⟩ = some u1 ∧ w.cell? ⟨b, 2, none⟩ = some u2 ∧ w.cell? ⟨b, 3, none⟩ = some u3 ∧ w.cell? ⟨b, 4, none⟩ = some u4 ∧ w.frozen? ⟨b, 0, none⟩ = false ∧ w.frozen? ⟨b, 1, none⟩ = false ∧ w.frozen? ⟨b, 2, none⟩ = false ∧ w.frozen? ⟨b, 3, none⟩ = false ∧ w.frozen? ⟨b, 4, none⟩ = false := by and_intros <;> first | exact frozen_of_row _ _ _ _ _ h | (rw [cell_of_row _ _ _ _ _ _ h, ← Array.getElem?_toList, e]; rfl)
theorem row6 {w : World} {b : Nat} {cs : Array Value} {t : TypeId} {u0 u1 u2 u3 u4 u5 : Value} {us : List Value} (h : w.heap[b]? = some (.cells cs t (0, 0))) (e : cs.toList = u0 :: u1 :: u2 :: u3 :: u4 :: u5 :: us) :
    w.cell? ⟨b, 0, none⟩ = some u0 ∧ w.cell? ⟨b, 1, none⟩ = some u1 ∧ w.cell? ⟨b, 2, none⟩ = some u2 ∧ w.cell? ⟨b, 3, none⟩ = some u3 ∧ w.cell? ⟨b, 4, none⟩ = some u4 ∧ w.cell? ⟨b, 5, none⟩ = some u5 ∧ w.frozen? ⟨b, 0, none⟩ = false ∧ w.frozen? ⟨b, 1, none⟩ = false ∧ w.frozen? ⟨b, 2, none⟩ = false ∧ w.frozen? ⟨b, 3, none⟩ = false ∧ w.frozen? ⟨b, 4, none⟩ = false ∧ w.frozen? ⟨b, 5, none⟩ = false := by and_intros <;> first | exact frozen_of_row _ _ _ _ _ h | (rw [cell_of_row _ _ _ _ _ _ h, ← Array.getElem?_toList, e]; rfl)
theorem row7 {w : World} {b : Nat} {cs : Array Value} {t : TypeId} {u0 u1 u2 u3 u4 u5 u6 : Value} {us : List Value} (h : w.heap[b]? = some (.cells cs t (0, 0))) (e : cs.toList = u0 :: u1 :: u2 :: u3 :: u4 :: u5 :: u6 :: us) :
    w.cell? ⟨b, 0, none⟩ = some u0 ∧ w.cell? ⟨b, 1, none⟩ = some u1 ∧ w.cell? ⟨b, 2, none⟩ = some u2 ∧ w.cell? ⟨b, 3, none⟩ = some u3 ∧ w.cell? ⟨b, 4, none⟩ = some u4 ∧ w.cell? ⟨b, 5, none⟩ = some u5 ∧ w.cell? ⟨b, 6, none⟩ = some u6 ∧ w.frozen? ⟨b, 0, none⟩ = false ∧ w.frozen? ⟨b, 1, none⟩ = false ∧ w.frozen? ⟨b, 2, none⟩ = false ∧ w.frozen? ⟨b, 3, none⟩ = false ∧ w.frozen? ⟨b, 4, none⟩ = false ∧ w.frozen? ⟨b, 5, none⟩ = false ∧ w.frozen? ⟨b, 6, none⟩ = false := by and_intros <;> first | exact frozen_of_row _ _ _ _ _ h | (rw [cell_of_row _ _ _ _ _ _ h, ← Array.getElem?_toList, e]; rfl)
theorem row8 {w : World} {b : Nat} {cs : Array Value} {t : TypeId} {u0 u1 u2 u3 u4 u5 u6 u7 : Value} {us : List Value} (h : w.heap[b]? = some (.cells cs t (0, 0))) (e : cs.toList = u0 :: u1 :: u2 :: u3 :: u4 :: u5 :: u6 :: u7 :: us) :
    w.cell? ⟨b, 0, none⟩ = some u0 ∧ w.cell? ⟨b, 1, none⟩ = some u1 ∧ w.cell? ⟨b, 2, none⟩ = some u2 ∧ w.cell? ⟨b, 3, none⟩ = some u3 ∧ w.cell? ⟨b, 4, none⟩ = some u4 ∧ w.cell? ⟨b, 5, none⟩ = some u5 ∧ w.cell? ⟨b, 6, none⟩ = some u6 ∧ w.cell? ⟨b, 7, none⟩ = some u7 ∧ w.frozen? ⟨b, 0, none⟩ = false ∧ w.frozen? ⟨b, 1, none⟩ = false ∧ w.frozen? ⟨b, 2, none⟩ = false ∧ w.frozen? ⟨b, 3, none⟩ = false ∧ w.frozen? ⟨b, 4, none⟩ = false ∧ w.frozen? ⟨b, 5, none⟩ = false ∧ w.frozen? ⟨b, 6, none⟩ = false ∧ w.frozen? ⟨b, 7, none⟩ = false := by and_intros <;> first | exact frozen_of_row _ _ _ _ _ h | (rw [cell_of_row _ _ _ _ _ _ h, ← Array.getElem?_toList, e]; rfl)
end
end Go.Proofs.YtndpnpohdoggjaaGreatDoor
namespace Go.Proofs.YtndpnpohdoggjaaGreatDoor
open Go.RowKit
structure Kept (F : Nat → Prop) (w w' : World) : Prop where
  os : w'.os = w.os
  tape : w'.tape = w.tape
  output : w'.output = w.output
  size : w.heap.size ≤ w'.heap.size
  block : ∀ k, k < w.heap.size → ¬ F k → w'.heap[k]? = w.heap[k]?
theorem Kept.refl (F : Nat → Prop) (w : World) : Kept F w w := ⟨rfl, rfl, rfl, Nat.le_refl _, fun _ _ _ => rfl⟩
theorem Kept.trans {F : Nat → Prop} {a b c : World} (h : Kept F a b) (k : Kept F b c) : Kept F a c :=
  ⟨k.os.trans h.os, k.tape.trans h.tape, k.output.trans h.output, Nat.le_trans h.size k.size, fun i hi hf => (k.block i (Nat.lt_of_lt_of_le hi h.size) hf).trans (h.block i hi hf)⟩
/-- Behind a step that may write what F names or what is new. -/
theorem Kept.trans2 {F G : Nat → Prop} {a b c : World} (h : Kept F a b) (k : Kept G b c) (hG : ∀ i, i < a.heap.size → G i → F i) : Kept F a c :=
  ⟨k.os.trans h.os, k.tape.trans h.tape, k.output.trans h.output, Nat.le_trans h.size k.size, fun i hi hf => (k.block i (Nat.lt_of_lt_of_le hi h.size) (fun hg => hf (hG i hi hg))).trans (h.block i hi hf)⟩
theorem Kept.mono {F G : Nat → Prop} {a b : World} (h : Kept F a b) (hG : ∀ i, F i → G i) : Kept G a b := ⟨h.os, h.tape, h.output, h.size, fun i hi hf => h.block i hi (fun hg => hf (hG i hg))⟩
theorem Kept.of_below {F : Nat → Prop} {a b : World} (h : Below a.heap.size a b) : Kept F a b := ⟨h.os, h.tape, h.output, h.size, fun i hi _ => h.block i hi⟩
theorem Kept.below {F : Nat → Prop} {a b : World} (h : Kept F a b) {B : Nat} (hB : B ≤ a.heap.size) (hF : ∀ i, i < B → ¬ F i) : Below B a b := ⟨h.os, h.tape, h.output, h.size, fun i hi => h.block i (Nat.lt_of_lt_of_le hi hB) (hF i hi)⟩
theorem Kept.drew {F : Nat → Prop} {a w : World} (h : Kept F a w) : Kept F a w.drew := ⟨h.os, h.tape, h.output, h.size, h.block⟩
theorem Kept.drewN {F : Nat → Prop} {a w : World} (h : Kept F a w) (n : Nat) : Kept F a (w.drewN n) := ⟨h.os, h.tape, h.output, h.size, h.block⟩
theorem Kept.alloc {F : Nat → Prop} {a w : World} (h : Kept F a w) (o : Obj) : Kept F a (w.alloc o) := h.trans (.of_below ((Below.refl _ _).alloc (Nat.le_refl _) o))
theorem Kept.setCell {F : Nat → Prop} {a w : World} (h : Kept F a w) {p : Addr} (hp : F p.block ∨ a.heap.size ≤ p.block) (u : Value) : Kept F a (w.setCell p u) :=
  ⟨h.os, h.tape, h.output, by simpa [World.setCell] using h.size, fun k hk hf => (Below.heap_setCell _ _ _ _ (by rintro rfl; rcases hp with hp | hp; exact hf hp; omega)).trans (h.block k hk hf)⟩
theorem Kept.setCells {F : Nat → Prop} {a : World} (b : Nat) (hp : F b ∨ a.heap.size ≤ b) : ∀ (vs : List Value) (o : Nat) (w : World), Kept F a w → Kept F a (w.setCells b o vs)
  | [], _, _, h => h
  | v :: r, o, _, h => Kept.setCells b hp r (o + 1) _ (h.setCell (p := ⟨b, o, none⟩) hp v)
theorem Kept.cell {F : Nat → Prop} {w w' : World} (h : Kept F w w') {p : Addr} (hp : p.block < w.heap.size) (hf : ¬ F p.block) : w'.cell? p = w.cell? p := World.cell?_of_block (w := w) (h.block p.block hp hf)
theorem Kept.frozen {F : Nat → Prop} {w w' : World} (h : Kept F w w') {p : Addr} (hp : p.block < w.heap.size) (hf : ¬ F p.block) : w'.frozen? p = w.frozen? p := World.frozen?_of_block (w := w) (h.block p.block hp hf)
theorem cell_lt {w : World} {p : Addr} {u : Value} (h : w.cell? p = some u) : p.block < w.heap.size := World.block_lt_of_cell? w p h
end Go.Proofs.YtndpnpohdoggjaaGreatDoor
namespace Go.Proofs.YtndpnpohdoggjaaGreatDoor
def letterB (b : UInt8) : Bool := (decide (97 ≤ b.toNat) && decide (b.toNat ≤ 122)) || (decide (65 ≤ b.toNat) && decide (b.toNat ≤ 90))
def digitB (b : UInt8) : Bool := decide (48 ≤ b.toNat) && decide (b.toNat ≤ 57)
def innerB (b : UInt8) : Bool := letterB b || digitB b || b == 95
def signB (b : UInt8) : Bool := b == 123 || b == 125 || b == 59 || b == 44 || b == 46 || b == 58
def blankB (b : UInt8) : Bool := b == 32 || b == 9 || b == 10 || b == 13
/-- How many bytes are blanks and comments (c: in a comment). -/
def skipN : Bool → List UInt8 → Nat
  | _, [] => 0
  | true, b :: r => if b == 10 then 1 + skipN false r else 1 + skipN true r
  | false, b :: r => if blankB b then 1 + skipN false r else if b == 35 then 1 + skipN true r else 0
def digV (b : UInt8) : Nat := b.toNat - 48
def numV (s : List UInt8) : Nat := s.foldl (fun n b => n * 10 + digV b) 0
/-- A valid number. -/
def numB (s : List UInt8) : Bool := s.all digitB && (match s with
  | [] => false
  | [_] => true
  | b :: _ => b != 48) && decide (numV s ≤ 1073741824)
structure Tok where
  kind : Nat
  text : List UInt8
  at_ : Nat
/-- How long a word or number is. -/
def runN (r : List UInt8) : Nat := (r.takeWhile innerB).length
/-- The token at the head: its kind and length, or the error. -/
def tokN : List UInt8 → Nat × Nat × Nat
  | [] => (0, 0, 70)
  | b :: r =>
    if letterB b then (if 24 < 1 + runN r then (1, 1 + runN r, 71) else (1, 1 + runN r, 0))
    else if digitB b then (if numB (b :: r.take (runN r)) then (2, 1 + runN r, 0) else (2, 1 + runN r, 72))
    else if signB b then (3, 1, 0)
    else (3, 0, 70)
/-- The tokens of what is left from p on: those before the first error, where it lies, the error. -/
def lexN : Nat → Nat → List UInt8 → List Tok × Nat × Nat
  | 0, _, _ => ([], 0, 0)
  | f + 1, p, l =>
    match l.drop (skipN false l) with
    | [] => ([], 0, 0)
    | b :: r =>
      let t := tokN (b :: r)
      if t.2.2 = 0 then
        let q := lexN f (p + skipN false l + t.2.1) ((b :: r).drop t.2.1)
        (⟨t.1, (b :: r).take t.2.1, p + skipN false l⟩ :: q.1, q.2)
      else ([], p + skipN false l, t.2.2)
end Go.Proofs.YtndpnpohdoggjaaGreatDoor
namespace Go.Proofs.YtndpnpohdoggjaaGreatDoor
open Go.RowKit
/-- A world that comes of W by new memory alone. -/
structure Later (W : World) where
  w : World
  below : Below W.heap.size W w
instance (W : World) : Nonempty (Later W) := ⟨⟨W, Below.refl _ _⟩⟩
theorem Later.cell {W : World} (s : Later W) (b o : Nat) (h : b < W.heap.size) : s.w.cell? ⟨b, o, none⟩ = W.cell? ⟨b, o, none⟩ := s.below.cell (p := ⟨b, o, none⟩) h
theorem Later.call {P : Program} {f : FuncId} {args : Array Value} {W : World} {s : Later W} {v : Value}
    (h : Calls P f args s.w fun e w' => e = .returned v ∧ Below s.w.heap.size s.w w') : Calls P f args s.w fun e w'' => e = .returned v ∧ ∃ s' : Later W, w'' = s'.w :=
  h.mono fun _ w' ⟨he, hb⟩ => ⟨he, ⟨w', s.below.trans (hb.mono s.below.size)⟩, rfl⟩
theorem Later.call_same {P : Program} {f : FuncId} {args : Array Value} {W : World} {s : Later W} {v : Value}
    (h : Calls P f args s.w fun e w' => e = .returned v ∧ s.w = w') : Calls P f args s.w fun e w'' => e = .returned v ∧ ∃ s' : Later W, w'' = s'.w :=
  h.mono fun _ _ ⟨he, hb⟩ => ⟨he, s, hb.symm⟩
theorem wp_region_later {P : Program} {id : Nat} {Q : Exit → Act → World → Prop} {a : Act} {W : World} {l : List Oper} (hm : P.follows .mixedOrders = true) (hB : Region.lexB .any l.toArray = true)
    (h : wpQuiet P l.toArray (fun w' => ∃ s : Later W, w' = s.w) (fun a' => ∀ w', (∃ s : Later W, w' = s.w) → Q .normal a' w') l a) : (Code.region id l.toArray true).wp P Q a W :=
  wp_region_quiet (C := fun w' => ∃ s : Later W, w' = s.w) hm hB ⟨⟨W.drew, (Below.refl _ _).drew⟩, rfl⟩ (by simpa using h)
end Go.Proofs.YtndpnpohdoggjaaGreatDoor
namespace Go.Proofs.YtndpnpohdoggjaaGreatDoor
open Go.RowKit
open Go.MuLone (run_callFunc_enter)
/-- The closure f with what it captured says p of each byte, in every world in which the blocks of F stand as in w. -/
structure IsT (F : Nat → Prop) (w : World) (f : Nat) (caps : Array Value) (p : UInt8 → Bool) : Prop where
  inn : ∀ k, F k → k < w.heap.size
  enters : ∀ (args : Array Value) (W : World), (callFunc f args).run Tryz.prog W = .ok (.enter f args) W
  says : ∀ W : World, (∀ k, F k → W.heap[k]? = w.heap[k]?) → ∀ b : UInt8, Calls Tryz.prog f (#[.int .u8 (b.toNat : Int)] ++ caps) W fun e W' => e = .returned (.bool (p b)) ∧ Below W.heap.size W W'
theorem IsT.keep {F : Nat → Prop} {w w' : World} {f : Nat} {caps : Array Value} {p : UInt8 → Bool} (h : IsT F w f caps p) (hs : w.heap.size ≤ w'.heap.size) (hk : ∀ k, F k → w'.heap[k]? = w.heap[k]?) : IsT F w' f caps p :=
  ⟨fun k hf => Nat.lt_of_lt_of_le (h.inn k hf) hs, h.enters, fun W hW b => h.says W (fun k hf => (hW k hf).trans (hk k hf)) b⟩
theorem IsT.below {F : Nat → Prop} {w w' : World} {f : Nat} {caps : Array Value} {p : UInt8 → Bool} (h : IsT F w f caps p) (hb : Below w.heap.size w w') : IsT F w' f caps p :=
  h.keep hb.size (fun k hf => hb.block k (h.inn k hf))
def btwB (lo hi : Nat) (b : UInt8) : Bool := decide (lo ≤ b.toNat) && decide (b.toNat ≤ hi)
set_option maxRecDepth 100000 in
set_option maxHeartbeats 400000 in
theorem btw_any (lo hi : Nat) (xl xh : Nat) (b : UInt8) (W : World) (h1 : Hid (W.heap[xl]? = some (.cells #[.int .u8 (lo : Int)] 5 (0, 0)))) (h2 : Hid (W.heap[xh]? = some (.cells #[.int .u8 (hi : Int)] 5 (0, 0)))) :
    Calls Tryz.prog 168 #[.int .u8 (b.toNat : Int), .pointer (some ⟨xl, 0, none⟩), .pointer (some ⟨xh, 0, none⟩)] W fun e W' => e = .returned (.bool (btwB lo hi b)) ∧ Below W.heap.size W W' := by
  have c1 := cell_of_row W xl 0 _ _ _ h1.out
  have c2 := cell_of_row W xh 0 _ _ _ h2.out
  simp only [List.getElem?_toArray, List.getElem?_cons_zero] at c1 c2
  have HB : Hid (btwB lo hi b = (decide (lo ≤ b.toNat) && decide (b.toNat ≤ hi))) := rfl
  generalize b.toNat = n at *
  by_cases g1 : lo ≤ n
  · by_cases g2 : n ≤ hi
    · have HR := hide (show btwB lo hi b = true by rw [HB.out]; simp [g1, g2])
      go_enter Tryz.func168, Tryz.ntmps168
      go_wp2_with fail
      go_ret
      exact ⟨by rw [HR.out]; rfl, Below.refl _ _⟩
    · have HR := hide (show btwB lo hi b = false by rw [HB.out]; simp [g2])
      have g2' : decide (n ≤ hi) = false := by simp; omega
      go_enter Tryz.func168, Tryz.ntmps168
      go_wp2_with fail
      go_ret
      exact ⟨by rw [HR.out]; rfl, Below.refl _ _⟩
  · have HR := hide (show btwB lo hi b = false by rw [HB.out]; simp [g1])
    have g1' : decide (lo ≤ n) = false := by simp; omega
    go_enter Tryz.func168, Tryz.ntmps168
    go_wp2_with fail
    go_ret
    exact ⟨by rw [HR.out]; rfl, Below.refl _ _⟩
set_option maxRecDepth 100000 in
set_option maxHeartbeats 400000 in
theorem between_any (lo hi : Nat) (w : World) : Calls Tryz.prog 124 #[.int .u8 (lo : Int), .int .u8 (hi : Int)] w fun e w' => ∃ caps, e = .returned (.func (.func 168) #[] caps) ∧ IsT (fun k => w.heap.size ≤ k ∧ k < w.heap.size + 2) w' 168 caps (btwB lo hi) ∧ Below w.heap.size w w' := by
  have HT : Hid (∀ w' : World, w'.heap[w.heap.size]? = some (.cells #[.int .u8 (lo : Int)] 5 (0, 0)) → w'.heap[w.heap.size + 1]? = some (.cells #[.int .u8 (hi : Int)] 5 (0, 0)) →
      IsT (fun k => w.heap.size ≤ k ∧ k < w.heap.size + 2) w' 168 #[.pointer (some ⟨w.heap.size, 0, none⟩), .pointer (some ⟨w.heap.size + 1, 0, none⟩)] (btwB lo hi)) := by
    intro w' h1 h2
    have hlt := (Array.getElem?_eq_some_iff.1 h2).1
    exact ⟨fun k hk => by omega, fun args W => run_callFunc_enter (c := ((Tryz.f168).body.getD .skip)) Tryz.func168 (by kernel_rfl) (by kernel_rfl) args W, fun W hW b => btw_any lo hi w.heap.size (w.heap.size + 1) b W ((hW _ ⟨by omega, by omega⟩).trans h1) ((hW _ ⟨by omega, by omega⟩).trans h2)⟩
  go_enter Tryz.func124, Tryz.ntmps124
  go_wp2_with fail
  go_ret
  refine ⟨_, rfl, HT.out _ ?_ ?_, ((Below.refl _ _).alloc (Nat.le_refl _) _).alloc (by simp) _⟩
  · exact (Below.heap_alloc _ _ _ (by simp)).trans (heap_alloc_new w _)
  · have := heap_alloc_new (w.alloc (.cells #[.int .u8 (lo : Int)] 5)) (.cells #[.int .u8 (hi : Int)] 5)
    rw [World.size_alloc] at this
    exact this
end Go.Proofs.YtndpnpohdoggjaaGreatDoor
namespace Go.Proofs.YtndpnpohdoggjaaGreatDoor
open Go.RowKit
open Go.MuLone (run_callFunc_enter)
structure TB where
  f : Nat
  caps : Array Value
  p : UInt8 → Bool
def TB.val (t : TB) : Value := .func (.func t.f) #[] t.caps
def anyT (ts : List TB) (b : UInt8) : Bool := ts.any fun t => t.p b
theorem anyT_take (ts : List TB) (k : Nat) (t : TB) (b : UInt8) (h : ts[k]? = some t) (h0 : anyT (ts.take k) b = false) : anyT (ts.take (k + 1)) b = t.p b := by
  obtain ⟨hk, rfl⟩ := List.getElem?_eq_some_iff.1 h
  unfold anyT at *
  rw [List.take_succ_eq_append_getElem hk, List.any_append, h0]
  simp
theorem anyT_of_take (ts : List TB) (k : Nat) (b : UInt8) (h : anyT (ts.take k) b = true) : anyT ts b = true := by
  unfold anyT at *
  rw [List.any_eq_true] at *
  obtain ⟨t, ht, hp⟩ := h
  exact ⟨t, List.mem_of_mem_take ht, hp⟩
set_option maxRecDepth 100000 in
set_option maxHeartbeats 1000000 in
theorem eitherB_any (xt xs : Nat) (ts : List TB) (F : Nat → Prop) (b : UInt8) (W : World) (hn : ts.length ≤ 100) (h1 : Hid (W.heap[xt]? = some (.cells #[.slice (some ⟨xs, 0, none⟩) ts.length ts.length] 231 (0, 0))))
    (h2 : Hid (W.heap[xs]? = some (.cells (ts.map TB.val).toArray 126 (0, 0)))) (hT : Hid (∀ t ∈ ts, IsT F W t.f t.caps t.p)) :
    Calls Tryz.prog 167 #[.int .u8 (b.toNat : Int), .pointer (some ⟨xt, 0, none⟩)] W fun e W' => e = .returned (.bool (anyT ts b)) ∧ Below W.heap.size W W' := by
  have c1 := cell_of_row W xt 0 _ _ _ h1.out
  simp only [List.getElem?_toArray, List.getElem?_cons_zero] at c1
  obtain ⟨n, hnl⟩ : ∃ n, ts.length = n := ⟨_, rfl⟩
  rw [hnl] at c1 hn
  have HN := hide hnl
  clear hnl
  go_enter Tryz.func167, Tryz.ntmps167
  go_wp2_with fail
  go_loopw [8] (fun v8 wr => ∃ k : Nat, k ≤ n ∧ v8 = .int .i64 k ∧ anyT (ts.take k) b = false ∧ Below W.heap.size W wr) (fun v8 _ => n - (intOf v8).toNat)
  case atStart => exact ⟨0, by omega, rfl, rfl, Below.refl _ _⟩
  case round =>
    obtain ⟨k, hk, rfl, ha, hbr⟩ := hrel
    have HA := hide ha
    have HBR := hide hbr
    clear ha hbr
    by_cases hlt : k < n
    · have hkl : k < ts.length := by rw [HN.out]; exact hlt
      have hx : ts[k]? = some ts[k] := List.getElem?_eq_getElem hkl
      have HS := hide (anyT_take ts k _ b hx HA.out)
      have c2 : wr.cell? ⟨xs, k, none⟩ = some ts[k].val := by
        rw [cell_of_row wr xs k _ _ _ ((HBR.out.block _ (Array.getElem?_eq_some_iff.1 h2.out).1).trans h2.out)]
        simp [hkl]
      have hTk := (hT.out _ (List.getElem_mem hkl)).below HBR.out
      have HC := hide (hTk.says wr (fun _ _ => rfl) b)
      have hen := hTk.enters
      generalize ts[k] = t at *
      obtain ⟨f, caps, p⟩ := t
      unfold TB.val at c2
      simp only at c2 HC HS hen
      clear hx hkl hTk
      have k0 : (0 : Int) ≤ (k : Int) := by omega
      have k1 : (k : Int) < (n : Int) := by omega
      cases hp : p b
      · have HS2 := hide (HS.out.trans hp)
        rw [hp] at HC
        clear hp HS
        go_wp2_with fail
        refine HC.out.mono ?_
        rintro e w1 ⟨rfl, hb1⟩
        have HB1 := hide (HBR.out.trans (hb1.mono HBR.out.size))
        clear hb1
        go_wp2_with fail
        go_roundw
        case rel => exact ⟨k + 1, by omega, by go_num, HS2.out, HB1.out⟩
        case measure => simp [intOf]; omega
      · have HS2 := hide (HS.out.trans hp)
        rw [hp] at HC
        clear hp HS
        have HR := hide (show anyT ts b = true from anyT_of_take ts (k + 1) b HS2.out)
        go_wp2_with fail
        refine HC.out.mono ?_
        rintro e w1 ⟨rfl, hb1⟩
        have HB1 := hide (HBR.out.trans (hb1.mono HBR.out.size))
        clear hb1
        go_wp2_with fail
        go_ret
        exact ⟨by rw [HR.out]; rfl, HB1.out⟩
    · have HR := hide (show anyT ts b = false by have := HA.out; rwa [List.take_of_length_le (by rw [HN.out]; omega)] at this)
      go_wp2_with fail
      go_ret
      exact ⟨by rw [HR.out]; rfl, HBR.out⟩
set_option maxRecDepth 100000 in
set_option maxHeartbeats 400000 in
theorem either_any (xs : Nat) (ts : List TB) (F : Nat → Prop) (w : World) (hn : ts.length ≤ 100) (h2 : Hid (w.heap[xs]? = some (.cells (ts.map TB.val).toArray 126 (0, 0)))) (hT : Hid (∀ t ∈ ts, IsT F w t.f t.caps t.p)) (hF : ∀ k, F k → k < w.heap.size) :
    Calls Tryz.prog 123 #[.slice (some ⟨xs, 0, none⟩) ts.length ts.length] w fun e w' => ∃ caps, e = .returned (.func (.func 167) #[] caps) ∧ IsT (fun k => F k ∨ k = xs ∨ k = w.heap.size) w' 167 caps (anyT ts) ∧ Below w.heap.size w w' := by
  have hxs := (Array.getElem?_eq_some_iff.1 h2.out).1
  have HT : Hid (∀ w' : World, Below w.heap.size w w' → w'.heap[w.heap.size]? = some (.cells #[.slice (some ⟨xs, 0, none⟩) ts.length ts.length] 231 (0, 0)) → IsT (fun k => F k ∨ k = xs ∨ k = w.heap.size) w' 167 #[.pointer (some ⟨w.heap.size, 0, none⟩)] (anyT ts)) := by
    intro w' hb h1
    have hlt := (Array.getElem?_eq_some_iff.1 h1).1
    refine ⟨fun k hk => ?_, fun args W => run_callFunc_enter (c := ((Tryz.f167).body.getD .skip)) Tryz.func167 (by kernel_rfl) (by kernel_rfl) args W, fun W hW b => ?_⟩
    · rcases hk with hk | rfl | rfl
      · exact Nat.lt_of_lt_of_le (hF k hk) hb.size
      · exact Nat.lt_of_lt_of_le hxs hb.size
      · exact hlt
    · refine eitherB_any w.heap.size xs ts F b W hn (hide ((hW _ (.inr (.inr rfl))).trans h1)) (hide ((hW _ (.inr (.inl rfl))).trans ((hb.block _ hxs).trans h2.out))) (hide fun t ht => ?_)
      have h0 := hT.out t ht
      exact ⟨fun k hk => by
        have e1 := hW k (.inl hk)
        have e2 := hb.block k (h0.inn k hk)
        have e3 : w.heap[k]? ≠ none := by rw [ne_eq, Array.getElem?_eq_none_iff]; have := h0.inn k hk; omega
        rcases Nat.lt_or_ge k W.heap.size with hh | hh
        · exact hh
        · rw [Array.getElem?_eq_none hh, e2] at e1; exact absurd e1.symm e3, h0.enters, fun W' hW' b' => h0.says W' (fun k hk => (hW' k hk).trans ((hW k (.inl hk)).trans (hb.block k (h0.inn k hk)))) b'⟩
  go_enter Tryz.func123, Tryz.ntmps123
  go_wp2_with fail
  go_ret
  exact ⟨_, rfl, HT.out _ ((Below.refl _ _).alloc (Nat.le_refl _) _) (heap_alloc_new w _), (Below.refl _ _).alloc (Nat.le_refl _) _⟩
end Go.Proofs.YtndpnpohdoggjaaGreatDoor

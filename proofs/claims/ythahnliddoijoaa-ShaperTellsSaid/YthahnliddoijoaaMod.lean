/-
  The shaper as plain functions: queues of frames, releases, the queue that is next.
-/
import Derived.Lib.Hide
namespace Go.Proofs.Ythahnliddoijoaa
/-- A frame that waits: the time of its offer, its link, network, number, payload. -/
structure It where
  time : Int
  vl : Int
  net : Int
  seq : Int
  bytes : List Int
structure AQ where
  items : List It
  bag : Int
  from_ : Int
structure AS where
  now : Int
  qs : List AQ
def AQ.zero : AQ := ⟨[], 0, 0⟩
/-- The release of the first frame (0 if none waits). -/
def AQ.rel (q : AQ) : Int := match q.items with
  | [] => 0
  | x :: _ => if x.time < q.from_ then q.from_ else x.time
def AS.at (S : AS) (i : Nat) : AQ := S.qs.getD i AQ.zero
/-- One step of the search of the queue that is next: b is the best one so far. -/
def AS.step (S : AS) (b : Option Nat) (i : Nat) : Option Nat :=
  if (S.at i).items.isEmpty then b else match b with
    | none => some i
    | some j => if (S.at i).rel < (S.at j).rel then some i else some j
def AS.bestTo (S : AS) : Nat → Option Nat
  | 0 => none
  | k + 1 => S.step (S.bestTo k) k
def AS.best (S : AS) : Option Nat := S.bestTo S.qs.length
def AS.late (S : AS) (t : Int) : Bool := decide (t < S.now) || decide (1073741824 < t)
def AS.has (S : AS) (vl : Int) : Bool := decide (0 ≤ vl) && decide (vl < S.qs.length)
def AS.put (S : AS) (k : Nat) (x : It) : AS := { S with qs := S.qs.set k { (S.at k) with items := (S.at k).items ++ [x] } }
def AS.get (S : AS) (k : Nat) (t : Int) : AS := { S with qs := S.qs.set k { (S.at k) with items := (S.at k).items.tail, from_ := t + (S.at k).bag } }
/-- Offer: the new state and the error. -/
def AS.offer (S : AS) (t : Int) (vl net seq : Int) (bytes : List Int) : AS × Int :=
  if !S.has vl || S.late t then (S, 2)
  else if (S.at vl.toNat).items.length = 16 then ({ S with now := t }, 4)
  else (({ S with now := t } : AS).put vl.toNat ⟨t, vl, net, seq, bytes⟩, 0)
/-- Next: the new state, the frame, the error. -/
def AS.next (S : AS) (t : Int) : AS × Option It × Int :=
  if S.late t then (S, none, 2)
  else match S.best with
    | none => ({ S with now := t }, none, 0)
    | some k => if t < (S.at k).rel then ({ S with now := t }, none, 0) else (({ S with now := t } : AS).get k t, (S.at k).items.head?, 0)
def AS.when (S : AS) : Option Int := match S.best with
  | none => none
  | some k => some (if (S.at k).rel < S.now then S.now else (S.at k).rel)
def AS.waiting (S : AS) (vl : Int) : Nat := if S.has vl then (S.at vl.toNat).items.length else 0
def AS.new (bags : List Int) : AS := ⟨0, bags.map fun n => ⟨[], n, 0⟩⟩
theorem AS.bestTo_spec (S : AS) (k : Nat) :
    (S.bestTo k = none ∧ ∀ i, i < k → (S.at i).items = []) ∨
    ∃ j, S.bestTo k = some j ∧ j < k ∧ (S.at j).items ≠ [] ∧ ∀ i, i < k → (S.at i).items ≠ [] → (S.at j).rel ≤ (S.at i).rel ∧ (i < j → (S.at j).rel < (S.at i).rel) := by
  induction k with
  | zero => exact .inl ⟨rfl, fun i h => by omega⟩
  | succ k ih =>
    rw [AS.bestTo]; unfold AS.step
    cases hk : (S.at k).items with
    | nil =>
      simp only [List.isEmpty_nil, if_true]
      rcases ih with ⟨h, h2⟩ | ⟨j, h, hj, hn, h2⟩
      · refine .inl ⟨h, fun i hi => ?_⟩
        rcases Nat.lt_succ_iff_lt_or_eq.1 hi with hi | rfl
        · exact h2 i hi
        · exact hk
      · refine .inr ⟨j, h, by omega, hn, fun i hi hne => ?_⟩
        rcases Nat.lt_succ_iff_lt_or_eq.1 hi with hi | rfl
        · exact h2 i hi hne
        · exact (hne hk).elim
    | cons x l =>
      simp only [List.isEmpty_cons, Bool.false_eq_true, if_false]
      have hne : (S.at k).items ≠ [] := by rw [hk]; simp
      rcases ih with ⟨h, h2⟩ | ⟨j, h, hj, hn, h2⟩
      · rw [h]
        refine .inr ⟨k, rfl, by omega, hne, fun i hi hn => ?_⟩
        rcases Nat.lt_succ_iff_lt_or_eq.1 hi with hi | rfl
        · exact (hn (h2 i hi)).elim
        · exact ⟨Int.le_refl _, fun h => by omega⟩
      · rw [h]
        simp only
        by_cases hl : (S.at k).rel < (S.at j).rel
        · rw [if_pos hl]
          refine .inr ⟨k, rfl, by omega, hne, fun i hi hn => ?_⟩
          rcases Nat.lt_succ_iff_lt_or_eq.1 hi with hi | rfl
          · have := h2 i hi hn; exact ⟨by omega, fun _ => by omega⟩
          · exact ⟨Int.le_refl _, fun h => by omega⟩
        · rw [if_neg hl]
          refine .inr ⟨j, rfl, by omega, hn, fun i hi hn => ?_⟩
          rcases Nat.lt_succ_iff_lt_or_eq.1 hi with hi | rfl
          · exact h2 i hi hn
          · exact ⟨by omega, fun h => by omega⟩
end Go.Proofs.Ythahnliddoijoaa

/-
  The queues of a shaper in memory: contracts of put and get.
-/
import Derived.Test.YthahnliddoijoaaQs
namespace Go.Proofs.Ythahnliddoijoaa
open Go.RowKit
/-- The queues, and that they may be written. -/
structure SQ (w : World) (A : Option Addr) (b n : Nat) (S : AS) (D : Nat → Nat → Value) : Prop extends QsAt w A b n S D where
  room : ∀ k, k < n * 84 → (w.cell? ⟨b, k, none⟩).isSome = true
  free : 0 < n → ∀ k, w.frozen? ⟨b, k, none⟩ = false
theorem SQ.lt {w : World} {A : Option Addr} {b n : Nat} {S : AS} {D : Nat → Nat → Value} (h : SQ w A b n S D) (hn : 0 < n) : b < w.heap.size := cell_lt (h.cell 0 hn).many
theorem SQ.frame {w w' : World} {A : Option Addr} {b n : Nat} {S : AS} {D : Nat → Nat → Value} (h : SQ w A b n S D) (hb : 0 < n → w'.heap[b]? = w.heap[b]?) : SQ w' A b n S D := by
  have hc : 0 < n → ∀ k, w'.cell? ⟨b, k, none⟩ = w.cell? ⟨b, k, none⟩ := fun hn k => World.cell?_of_block (w := w) (a := ⟨b, k, none⟩) (hb hn)
  have hf : 0 < n → ∀ k, w'.frozen? ⟨b, k, none⟩ = w.frozen? ⟨b, k, none⟩ := fun hn k => World.frozen?_of_block (w := w) (a := ⟨b, k, none⟩) (hb hn)
  exact ⟨⟨h.few, h.len, h.at_, fun i hi => (h.cell i hi).frame (fun c _ => hc (by omega) _) (fun _ _ => rfl)⟩, fun k hk => by rw [hc (by omega)]; exact h.room k hk, fun hn k => by rw [hf hn]; exact h.free hn k⟩
theorem SQ.now {w : World} {A : Option Addr} {b n : Nat} {S : AS} {D : Nat → Nat → Value} (h : SQ w A b n S D) (t : Int) : SQ w A b n { S with now := t } D :=
  ⟨⟨h.few, h.len, h.at_, fun i hi => h.cell i hi⟩, h.room, h.free⟩
def upD (D : Nat → Nat → Value) (k m : Nat) (d : Value) : Nat → Nat → Value := fun i j => if i = k ∧ j = m then d else D i j
def tailD (D : Nat → Nat → Value) (k : Nat) : Nat → Nat → Value := fun i j => if i = k then D i (j + 1) else D i j
theorem put_any {w : World} {A : Option Addr} {b n : Nat} {S : AS} {D : Nat → Nat → Value} (h : SQ w A b n S D) (k : Nat) (hk : k < n) (hr : (S.at k).items.length < 16) (x : It) (dA : Option Addr) (dn dc : Nat) :
    Calls Try.prog 25 #[.pointer (some ⟨b, k * 84, none⟩), .agg #[.int .i64 x.time, .int .i64 x.vl, .int .i64 x.net, .int .i64 x.seq, .slice dA dn dc]] w fun e w' => e = .returned (.tuple #[]) ∧
      SQ w' A b n (S.put k x) (upD D k (S.at k).items.length (.slice dA dn dc)) ∧ Kept (· = b) w w' := by
  have hq := h.cell k hk
  obtain ⟨f, hf, h0, -⟩ := hq.ring
  have hn : 0 < n := by omega
  refine (put_cells b (k * 84) f (S.at k).items.length _ x.time x.vl x.net x.seq (.slice dA dn dc) rfl w hf hr (hide rfl) h0 hq.many (hide fun c hc => h.room _ (by omega)) (h.free hn) (h.lt hn)).mono ?_
  rintro e w' ⟨he, hp⟩
  have hjl : (f + (S.at k).items.length) % 16 < 16 := Nat.mod_lt _ (by omega)
  refine ⟨he, ⟨⟨h.few, by simpa [AS.put] using h.len, h.at_, fun i hi => ?_⟩, fun c hc => ?_, fun _ => hp.free⟩, hp.kept⟩
  · unfold AS.put
    rw [AS.at_set S _ k _ i (by rw [h.len]; exact hk)]
    by_cases hik : i = k
    · subst hik
      rw [if_pos rfl]
      exact hq.put hr hf h0 hp (fun j hj => by unfold upD; rw [if_neg (by omega)]) (by unfold upD; rw [if_pos ⟨rfl, rfl⟩])
    · rw [if_neg hik]
      refine (h.cell i hi).frame (fun c hc => ?_) (fun j _ => by unfold upD; rw [if_neg (by omega)])
      generalize (f + (S.at k).items.length) % 16 = j at *
      rw [hp.cell, if_neg (by omega), if_neg (by omega)]
  · rw [hp.cell]
    split
    · rfl
    · split
      · rename_i h1 h2
        generalize (f + (S.at k).items.length) % 16 = j at *
        have : c - (k * 84 + j * 5) < 5 := by omega
        rw [List.getElem?_eq_getElem (by simpa using this)]; rfl
      · exact h.room c hc
theorem get_any {w : World} {A : Option Addr} {b n : Nat} {S : AS} {D : Nat → Nat → Value} (h : SQ w A b n S D) (k : Nat) (hk : k < n) (x : It) (l : List It) (hx : (S.at k).items = x :: l) (t : Int) (t0 : 0 ≤ t) (t1 : t ≤ 1073741824) (b0 : 0 ≤ (S.at k).bag) (b1 : (S.at k).bag ≤ 12800) (dA : Option Addr) (dn dc : Nat) (hD : D k 0 = .slice dA dn dc) :
    Calls Try.prog 42 #[.pointer (some ⟨b, k * 84, none⟩), .int .i64 t] w fun e w' => e = .returned (.agg #[.int .i64 x.time, .int .i64 x.vl, .int .i64 x.net, .int .i64 x.seq, .slice dA dn dc]) ∧
      SQ w' A b n (S.get k t) (tailD D k) ∧ Kept (· = b) w w' := by
  have hq := h.cell k hk
  obtain ⟨f, hf, h0, hi⟩ := hq.ring
  have hn : 0 < n := by omega
  obtain ⟨a0, a1, a2, a3, a4⟩ := hi 0 x (by rw [hx]; rfl)
  have e0 : (f + 0) % 16 = f := by omega
  rw [e0] at a0 a1 a2 a3 a4
  rw [hD] at a4
  have hl : (S.at k).items.length = l.length + 1 := by rw [hx]; rfl
  refine (get_cells b (k * 84) f (S.at k).items.length _ t (S.at k).bag (S.at k).from_ x.time x.vl x.net x.seq dA dn dc w hf (by omega) hq.few (hide rfl) t0 t1 b0 b1 h0 hq.many hq.bag hq.from_ a0 a1 a2 a3 a4 (hide (h.free hn)) (h.lt hn)).mono ?_
  rintro e w' ⟨he, hp⟩
  have hjl : (f + 1) % 16 < 16 := Nat.mod_lt _ (by omega)
  refine ⟨he, ⟨⟨h.few, by simpa [AS.get] using h.len, h.at_, fun i hi => ?_⟩, fun c hc => ?_, fun _ => hp.free⟩, hp.kept⟩
  · unfold AS.get
    rw [AS.at_set S _ k _ i (by rw [h.len]; exact hk)]
    by_cases hik : i = k
    · subst hik
      rw [if_pos rfl, hx]
      exact hq.get hx hf rfl h0 hp (fun j hj => by unfold tailD; rw [if_pos rfl])
    · rw [if_neg hik]
      refine (h.cell i hi).frame (fun c hc => ?_) (fun j _ => by unfold tailD; rw [if_neg (by omega)])
      rw [hp.cell, if_neg (by omega), if_neg (by omega), if_neg (by omega), if_neg (by omega)]
  · rw [hp.cell]
    split
    · rfl
    · split
      · rfl
      · split
        · rfl
        · split
          · rename_i h1 h2 h3 h4
            have : c - (k * 84 + f * 5) < 5 := by omega
            rw [List.getElem?_eq_getElem (by simpa using this)]; rfl
          · exact h.room c hc
end Go.Proofs.Ythahnliddoijoaa

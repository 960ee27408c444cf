/-
  Opening the argument 'r api.Health'.
-/
import Derived.Test.YtojmcgobihegpaaOpenAgg
import Derived.Test.YtojmcgobihegpaaRow1
namespace Go.Proofs.Ytojmcgobihegpaa
open Go.ChangeShapes Go.WideShapes Go.Deep Go.RowKit
theorem open_row {H : Type} {enc : TypeId × Value → H} {W : World} {base : Nat} {v : Value} {d : DataW H} {p : List MemPlace}
    (hv : Value.okWide Try.prog W .any base 36 v) (h : DataW.Trod enc Try.prog W 0 (fun _ => true) true 36 v d p) :
    ∃ r : HRow, v = r.val ∧ r.ok ∧ 0 ≤ r.d ∧ r.d ≤ 255 := by
  obtain ⟨v0, v1, v2, v3, v4, y0, y1, y2, y3, y4, n, rfl, -, -, t0, t1, t2, t3, t4⟩ := open_agg5 Try.underlying36 (by kernel_rfl) (by kernel_rfl) hv h
  obtain ⟨s0, e0, _, _⟩ := DataW.trod_string Try.underlying9 t0
  obtain ⟨s1, e1, _, _⟩ := DataW.trod_string Try.underlying9 t1
  obtain ⟨n2, e2, _, _⟩ := DataW.trod_int Try.underlying5 t2
  obtain ⟨n3, e3, _, w3⟩ := DataW.trod_int Try.underlying5 t3
  obtain ⟨n4, e4, _, w4⟩ := DataW.trod_int Try.underlying5 t4
  simp only [List.cons.injEq, and_true] at e0 e1 e2 e3 e4
  subst e0 e1 e2 e3 e4
  exact ⟨⟨s0, s1, n2, n3, n4⟩, rfl, u8_bd w3, u8_bd w4⟩
end Go.Proofs.Ytojmcgobihegpaa

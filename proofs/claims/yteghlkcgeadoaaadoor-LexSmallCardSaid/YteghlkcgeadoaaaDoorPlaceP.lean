/-
  Lines and columns as plain functions.
-/
import Derived.Lib.Hide
import Derived.Lib.LastIndexByte
import Derived.Lib.Bytealg
namespace Go.Proofs.YteghlkcgeadoaaaDoor
/-- Line and column behind the first k bytes of a text (from 1, 1). -/
def plN (src : ByteArray) : Nat → Nat × Nat
  | 0 => (1, 1)
  | k + 1 => if src.data[k]! == 10 then ((plN src k).1 + 1, 1) else ((plN src k).1, (plN src k).2 + 1)
theorem plN_le (src : ByteArray) : ∀ k, 1 ≤ (plN src k).1 ∧ (plN src k).1 ≤ k + 1 ∧ 1 ≤ (plN src k).2 ∧ (plN src k).2 ≤ k + 1
  | 0 => by simp [plN]
  | k + 1 => by
    have := plN_le src k
    unfold plN
    split <;> simp only <;> omega
theorem plN_yes (src : ByteArray) (k : Nat) (h : src.data[k]! = 10) : plN src (k + 1) = ((plN src k).1 + 1, 1) := by
  rw [plN, if_pos (by simp [h])]
theorem plN_no (src : ByteArray) (k : Nat) (h : ¬ src.data[k]! = 10) : plN src (k + 1) = ((plN src k).1, (plN src k).2 + 1) := by
  rw [plN, if_neg (by simpa using h)]
theorem ten_iff (b : UInt8) : ((b.toNat : Int) = 10) ↔ b = 10 := by
  rw [← UInt8.toNat_inj]
  constructor
  · intro h; show b.toNat = 10; omega
  · intro h; have : b.toNat = 10 := h; omega
theorem plN_col (src : ByteArray) : ∀ k : Nat, (k : Int) - Lib.lastIdx src 10 k = ((plN src k).2 : Int)
  | 0 => by simp [plN, Lib.lastIdx]
  | k + 1 => by
    have ih := plN_col src k
    by_cases h : src.data[k]! = 10
    · rw [plN_yes src k h, Lib.lastIdx_hit src 10 k ((ten_iff _).2 h)]; simp only; omega
    · rw [plN_no src k h, Lib.lastIdx_miss src 10 k (fun e => h ((ten_iff _).1 e))]; simp only; omega
theorem plN_line (src : ByteArray) : ∀ k : Nat, k ≤ src.size → Lib.countByte (src.data.toList.take k) 10 + 1 = (plN src k).1
  | 0, _ => by simp [plN, Lib.countByte]
  | k + 1, hk => by
    have ih := plN_line src k (by omega)
    have hl : k < src.data.toList.length := by simp; show k < src.size; omega
    have he : src.data.toList[k] = src.data[k]! := by rw [Array.getElem_toList, getElem!_pos src.data k (by simpa using hl)]
    unfold Lib.countByte at *
    rw [List.take_succ_eq_append_getElem hl, List.count_append, he]
    by_cases h : src.data[k]! = 10
    · rw [plN_yes src k h, h]; simp; omega
    · rw [plN_no src k h, List.count_singleton, if_neg (by simpa using h)]; simp; omega
theorem lastIdx_take (src : ByteArray) (m : Nat) (hm : m ≤ src.size) : ∀ k, k ≤ m → Lib.lastIdx (src.extract 0 m) 10 k = Lib.lastIdx src 10 k
  | 0, _ => rfl
  | k + 1, hk => by
    have ih := lastIdx_take src m hm k (by omega)
    have e : (src.extract 0 m).data[k]! = src.data[k]! := by
      have h1 : k < (src.extract 0 m).data.size := by show k < (src.extract 0 m).size; rw [ByteArray.size_extract]; omega
      rw [getElem!_pos _ k h1, getElem!_pos src.data k (by show k < src.size; omega)]
      simp [ByteArray.data_extract]
    unfold Lib.lastIdx
    rw [ih, e]
theorem place_nums (src : ByteArray) (m : Nat) (hm : m ≤ src.size) : (src.extract 0 m).size = m ∧ Lib.countByte (src.extract 0 m).data.toList 10 + 1 = (plN src m).1 ∧ (m : Int) - Lib.lastIndexByte (src.extract 0 m) 10 = ((plN src m).2 : Int) ∧
    Lib.countByte (src.extract 0 m).data.toList 10 ≤ m ∧ -1 ≤ Lib.lastIndexByte (src.extract 0 m) 10 ∧ Lib.lastIndexByte (src.extract 0 m) 10 ≤ m := by
  have hs : (src.extract 0 m).size = m := by rw [ByteArray.size_extract]; omega
  have hd : (src.extract 0 m).data.toList = src.data.toList.take m := by simp [ByteArray.data_extract]
  have h1 := plN_line src m hm
  have h2 := plN_col src m
  have h3 : Lib.lastIndexByte (src.extract 0 m) 10 = Lib.lastIdx src 10 m := by unfold Lib.lastIndexByte; rw [hs]; exact lastIdx_take src m hm m (Nat.le_refl _)
  have h4 := plN_le src m
  refine ⟨hs, by rw [hd]; exact h1, by rw [h3]; exact h2, by rw [hd]; omega, by rw [h3]; omega, by rw [h3]; omega⟩
def clampN (src : ByteArray) (a : Int) : Nat := min a.toNat src.size
end Go.Proofs.YteghlkcgeadoaaaDoor

/-
  parse: ParseCode returns true.
-/
import Derived.Test.YtlngbjphagnloaaGreatDoorROf
import Derived.Test.YtlngbjphagnloaaGreatDoorPk27
namespace Go.Proofs.YtlngbjphagnloaaGreatDoor
open Go.RowKit
attribute [local go_sem] Later.cell
theorem code_few : ∀ (f : Nat) (acc : List InsD) (r : List Tok) (a : List InsD) (r' : List Tok), codeLoop f acc r = .ok a r' → a.length + r'.length ≤ acc.length + r.length
  | 0, acc, r, a, r', e => by
    injection e with e1 e2
    subst e1 e2
    exact Nat.le_refl _
  | f + 1, acc, r, a, r', e => by
    unfold codeLoop at e
    split at e
    · cases hi : insP r with
      | ok x r1 =>
        have := code_few f (acc ++ [x]) r1 a r' ((bnd_ok hi).symm.trans e)
        have := ins_lt _ _ _ hi
        simp at *
        omega
      | bad n r1 => exact absurd ((bnd_bad hi).symm.trans e) (fun h => by cases h)
    · injection e with e1 e2
      subst e1 e2
      exact Nat.le_refl _
theorem codeT_few (x : List Tok × Nat × Nat) (size : Nat) : (codeT x size).1.length ≤ x.1.length := by
  unfold codeT
  split
  · unfold allCodeP
    cases h : codeP x.1 with
    | ok l r =>
      have h2 := code_few _ [] _ _ _ h
      rw [bnd_ok h]
      cases r with
      | nil => simpa [endP] using h2
      | cons t r => exact Nat.zero_le _
    | bad n r => rw [bnd_bad h]; exact Nat.zero_le _
  · exact Nat.zero_le _
set_option maxRecDepth 100000 in
set_option maxHeartbeats 4000000 in
theorem codes_any (src : ByteArray) (W : World) (hE : Hid (Env W)) (hP : Hid (EnvP W)) : Calls Tryz.prog 27 #[.string src] W fun e w' => e = .returned (.bool true) ∧ Below W.heap.size W w' := by
  have HC := hide (pcode_any src W hE hP)
  have HD := hide (fun V => rcodeall_any src V)
  have hfew := codeT_few (lexR src.data.toList) src.size
  have := (tokok_lex src.data.toList).2
  unfold CodeR at HC HD
  generalize codeT (lexR src.data.toList) src.size = R at *
  obtain ⟨l, p, er⟩ := R
  dsimp only at HC HD hfew
  have hl : l.length ≤ 1099511627776 := by omega
  clear hfew this
  go_enter Tryz.func27, Tryz.ntmps27
  go_wp2_with fail
  refine HC.out.mono ?_
  clear HC
  rintro e w1 ⟨v1, rfl, hb, ho⟩
  obtain ⟨A1, q1, rfl⟩ := own_form ho
  have HB := hide hb
  have HO := hide ho
  clear hb ho
  go_wp2_with fail
  refine (HD.out w1).mono ?_
  clear HD
  rintro e w2 ⟨v2, rfl, hb, ho⟩
  obtain ⟨A2, q2, rfl⟩ := own_form ho
  have h1 := ((own_leaf (cells := insCells) (fun _ => rfl) HO.out).mono (H := fun _ => True) (fun _ _ _ => trivial)).later hb
  have h2 := (own_leaf (cells := insCells) (fun _ => rfl) ho).mono (H := fun _ => True) (fun _ _ _ => trivial)
  have HS := hide (same_inss _ _ l l w2 (hide h1) (hide h2) hl hl)
  rw [eqB_self] at HS
  replace HB := hide (HB.out.trans (hb.mono HB.out.size))
  clear hb ho h1 h2 HO
  go_wp2_with fail
  refine HS.out.mono ?_
  rintro e w3 ⟨rfl, hb⟩
  replace HB := hide (HB.out.trans (hb.mono HB.out.size))
  clear hb HS
  go_wp2_with fail
  go_ret
  exact ⟨rfl, HB.out⟩
set_option maxRecDepth 100000 in
set_option maxHeartbeats 4000000 in
theorem parseCode_true (src : ByteArray) (n : Int) (n0 : 0 ≤ n) (n1 : n ≤ 255) (W : World) (hE : Hid (Env W)) (hP : Hid (EnvP W)) : Calls Tryz.prog 7 #[.string src, .int .u8 n] W fun e w' => e = .returned (.bool true) ∧ Below W.heap.size W w' := by
  obtain ⟨k, rfl⟩ : ∃ k : Nat, n = (k : Int) := ⟨n.toNat, by omega⟩
  have hk : k ≤ 255 := by omega
  have HA0 := hide (fun V (h : Hid (EnvP V)) => pword_any k V h hk)
  have HA1 := hide (fun V (h : Hid (EnvP V)) => operands_any k V h hk)
  have HA2 := hide (fun V (h : Hid (EnvP V)) => fault_any k V h.out hk)
  have HA3 := hide (fun V (h : Hid (EnvP V)) => level_any k V h.out hk)
  have HA4 := hide (fun V (h : Hid (EnvP V)) => action_any k V h.out hk)
  have HB0 := hide (fun V => rword_any k hk V)
  have HB1 := hide (fun V => rops_any k hk V)
  have HB2 := hide (fun V => rfault_any k hk V)
  have HB3 := hide (fun V => rlevel_any k hk V)
  have HB4 := hide (fun V => raction_any k hk V)
  generalize (⟨(wordN insWords k).toArray⟩ : ByteArray) = x0 at *
  generalize (⟨(wordN insOps k).toArray⟩ : ByteArray) = x1 at *
  generalize (⟨(wordN faultWords k).toArray⟩ : ByteArray) = x2 at *
  generalize (⟨(wordN levelWords k).toArray⟩ : ByteArray) = x3 at *
  generalize (⟨(wordN actionWords k).toArray⟩ : ByteArray) = x4 at *
  have HB := hide (Below.refl W.heap.size W)
  have HP := hP
  have HC := hide (fun V h1 h2 => codes_any src V h1 h2)
  have HW := hide (fun V h1 h2 => awake_any V h1 h2)
  by_cases hs : 5000 < src.size
  · have s1 : (5000 : Int) < (src.size : Int) := by omega
    clear hs
    go_enter Tryz.func7, Tryz.ntmps7
    go_wp2_with fail
    refine (HA0.out _ (HP)).mono ?_
    rintro e w1 ⟨rfl, hb⟩
    replace HP := hide (HP.out.below hb)
    replace HB := hide (HB.out.trans (hb.mono HB.out.size))
    clear hb
    go_wp2_with fail
    refine (HB0.out _).mono ?_
    rintro e w1 ⟨rfl, hb⟩
    replace HP := hide (HP.out.below hb)
    replace HB := hide (HB.out.trans (hb.mono HB.out.size))
    clear hb
    go_wp2_with fail
    refine (HA1.out _ (HP)).mono ?_
    rintro e w1 ⟨rfl, hb⟩
    replace HP := hide (HP.out.below hb)
    replace HB := hide (HB.out.trans (hb.mono HB.out.size))
    clear hb
    go_wp2_with fail
    refine (HB1.out _).mono ?_
    rintro e w1 ⟨rfl, hb⟩
    replace HP := hide (HP.out.below hb)
    replace HB := hide (HB.out.trans (hb.mono HB.out.size))
    clear hb
    go_wp2_with fail
    refine (HA2.out _ (HP)).mono ?_
    rintro e w1 ⟨rfl, hb⟩
    replace HP := hide (HP.out.below hb)
    replace HB := hide (HB.out.trans (hb.mono HB.out.size))
    clear hb
    go_wp2_with fail
    refine (HB2.out _).mono ?_
    rintro e w1 ⟨rfl, hb⟩
    replace HP := hide (HP.out.below hb)
    replace HB := hide (HB.out.trans (hb.mono HB.out.size))
    clear hb
    go_wp2_with fail
    refine (HA3.out _ (HP)).mono ?_
    rintro e w1 ⟨rfl, hb⟩
    replace HP := hide (HP.out.below hb)
    replace HB := hide (HB.out.trans (hb.mono HB.out.size))
    clear hb
    go_wp2_with fail
    refine (HB3.out _).mono ?_
    rintro e w1 ⟨rfl, hb⟩
    replace HP := hide (HP.out.below hb)
    replace HB := hide (HB.out.trans (hb.mono HB.out.size))
    clear hb
    go_wp2_with fail
    refine (HA4.out _ (HP)).mono ?_
    rintro e w1 ⟨rfl, hb⟩
    replace HP := hide (HP.out.below hb)
    replace HB := hide (HB.out.trans (hb.mono HB.out.size))
    clear hb
    go_wp2_with fail
    refine (HB4.out _).mono ?_
    rintro e w1 ⟨rfl, hb⟩
    replace HP := hide (HP.out.below hb)
    replace HB := hide (HB.out.trans (hb.mono HB.out.size))
    clear hb
    go_wp2_with fail
    refine (HW.out _ (hide (hE.out.kept HB.out)) HP).mono ?_
    rintro e w1 ⟨rfl, hb⟩
    replace HB := hide (HB.out.trans (hb.mono HB.out.size))
    clear hb
    go_wp2_with fail
    go_ret
    exact ⟨rfl, HB.out⟩
  · have s1 : ¬ (5000 : Int) < (src.size : Int) := by omega
    clear hs
    go_enter Tryz.func7, Tryz.ntmps7
    go_wp2_with fail
    refine (HA0.out _ (HP)).mono ?_
    rintro e w1 ⟨rfl, hb⟩
    replace HP := hide (HP.out.below hb)
    replace HB := hide (HB.out.trans (hb.mono HB.out.size))
    clear hb
    go_wp2_with fail
    refine (HB0.out _).mono ?_
    rintro e w1 ⟨rfl, hb⟩
    replace HP := hide (HP.out.below hb)
    replace HB := hide (HB.out.trans (hb.mono HB.out.size))
    clear hb
    go_wp2_with fail
    refine (HA1.out _ (HP)).mono ?_
    rintro e w1 ⟨rfl, hb⟩
    replace HP := hide (HP.out.below hb)
    replace HB := hide (HB.out.trans (hb.mono HB.out.size))
    clear hb
    go_wp2_with fail
    refine (HB1.out _).mono ?_
    rintro e w1 ⟨rfl, hb⟩
    replace HP := hide (HP.out.below hb)
    replace HB := hide (HB.out.trans (hb.mono HB.out.size))
    clear hb
    go_wp2_with fail
    refine (HA2.out _ (HP)).mono ?_
    rintro e w1 ⟨rfl, hb⟩
    replace HP := hide (HP.out.below hb)
    replace HB := hide (HB.out.trans (hb.mono HB.out.size))
    clear hb
    go_wp2_with fail
    refine (HB2.out _).mono ?_
    rintro e w1 ⟨rfl, hb⟩
    replace HP := hide (HP.out.below hb)
    replace HB := hide (HB.out.trans (hb.mono HB.out.size))
    clear hb
    go_wp2_with fail
    refine (HA3.out _ (HP)).mono ?_
    rintro e w1 ⟨rfl, hb⟩
    replace HP := hide (HP.out.below hb)
    replace HB := hide (HB.out.trans (hb.mono HB.out.size))
    clear hb
    go_wp2_with fail
    refine (HB3.out _).mono ?_
    rintro e w1 ⟨rfl, hb⟩
    replace HP := hide (HP.out.below hb)
    replace HB := hide (HB.out.trans (hb.mono HB.out.size))
    clear hb
    go_wp2_with fail
    refine (HA4.out _ (HP)).mono ?_
    rintro e w1 ⟨rfl, hb⟩
    replace HP := hide (HP.out.below hb)
    replace HB := hide (HB.out.trans (hb.mono HB.out.size))
    clear hb
    go_wp2_with fail
    refine (HB4.out _).mono ?_
    rintro e w1 ⟨rfl, hb⟩
    replace HP := hide (HP.out.below hb)
    replace HB := hide (HB.out.trans (hb.mono HB.out.size))
    clear hb
    go_wp2_with fail
    refine (HC.out _ (hide (hE.out.kept HB.out)) HP).mono ?_
    rintro e w1 ⟨rfl, hb⟩
    replace HP := hide (HP.out.below hb)
    replace HB := hide (HB.out.trans (hb.mono HB.out.size))
    clear hb
    go_wp2_with fail
    refine (HW.out _ (hide (hE.out.kept HB.out)) HP).mono ?_
    rintro e w1 ⟨rfl, hb⟩
    replace HB := hide (HB.out.trans (hb.mono HB.out.size))
    clear hb
    go_wp2_with fail
    go_ret
    exact ⟨rfl, HB.out⟩
end Go.Proofs.YtlngbjphagnloaaGreatDoor

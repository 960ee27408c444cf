/-
  parse: ParseTokens returns true.
-/
import Derived.Test.YtlngbjphagnloaaGreatDoorLexC
import Derived.Test.YtlngbjphagnloaaGreatDoorTks1
import Derived.Test.YtlngbjphagnloaaGreatDoorFit
import Derived.Test.YtlngbjphagnloaaGreatDoorJoin
namespace Go.Proofs.YtlngbjphagnloaaGreatDoor
open Go.RowKit
attribute [local go_sem] Later.cell
/-- A configuration's eight slices, their lengths by n. -/
def lensOf (c : CfgD) : Nat → Nat := fun k => match k with | 0 => c.modules.length | 1 => c.channels.length | 2 => c.switches.length | 3 => c.links.length | 4 => c.vls.length | 5 => c.health.length | 6 => c.causes.length | _ => c.versions.length
set_option maxRecDepth 100000 in
set_option maxHeartbeats 4000000 in
theorem tokens_out (src : ByteArray) (ts : List Tok) (p er : Nat) (hl : lexR src.data.toList = (ts, p, er)) (h : ((er : Int) != 0) = true ∨ er = 0 ∧ 5000 < src.size) (W : World) (hE : Hid (Env W)) (hP : Hid (EnvP W)) : Calls Tryz.prog 9 #[.string src] W fun e w' => e = .returned (.bool true) ∧ Below W.heap.size W w' := by
  have HLX := hide (fun V hE => lex_call src ts p er hl V hE)
  have hh : ((er : Int) != 0) = true ∨ er = 0 ∧ (5000 : Int) < (src.size : Int) := by
    rcases h with h | ⟨h1, h2⟩
    · exact .inl h
    · exact .inr ⟨h1, by omega⟩
  clear h hl
  rcases hh with h1 | ⟨rfl, h1⟩
  all_goals
    go_enter Tryz.func9, Tryz.ntmps9
    go_wp2_with fail
    refine (awake_any W hE hP).mono ?_
    rintro e w1 ⟨rfl, hb1⟩
    have HB1 := hide hb1
    have HE1 := hide (hE.out.kept hb1)
    clear hb1
    go_wp2_with fail
    refine (HLX.out w1 HE1).mono ?_
    rintro e w2 ⟨A, q, rfl, -, hb2⟩
    have HB2 := hide (HB1.out.trans (hb2.mono HB1.out.size))
    clear hb2
    go_wp2_with fail
    go_ret
    exact ⟨rfl, HB2.out⟩
set_option maxRecDepth 100000 in
set_option maxHeartbeats 4000000 in
theorem tokens_in (src J : ByteArray) (ts us : List Tok) (p : Nat) (c : CfgD) (a b er : Nat) (hl : lexR src.data.toList = (ts, p, 0)) (hj : lexR J.data.toList = (us, 0, 0)) (hJ : (⟨(joinT (ts.map Tok.toZ)).toArray⟩ : ByteArray) = J) (hul : us.length = ts.length) (hs : src.size ≤ 5000) (hsj : J.size ≤ 10000)
    (hp : parseT (lexR src.data.toList) src.size = (c, a, er)) (hq : parseT (lexR J.data.toList) J.size = (c, b, er)) (hsm : c.sm)
    (hR : (er = 0 ∧ a = 0 ∧ b = 0) ∨ (er ≠ 0 ∧ (a = src.size ∧ b = J.size ∨ a ≠ src.size ∧ ∃ (k : Nat) (t u : Tok), ts[k]? = some t ∧ us[k]? = some u ∧ t.at_ = a ∧ u.at_ = b ∧ ∀ (i : Nat) (v : Tok), ts[i]? = some v → v.at_ = a → i = k)))
    (W : World) (hE : Hid (Env W)) (hP : Hid (EnvP W)) : Calls Tryz.prog 9 #[.string src] W fun e w' => e = .returned (.bool true) ∧ Below W.heap.size W w' := by
  have hn := lex_len src hl
  have hjl : (joinT (ts.map Tok.toZ)).length ≤ 140737488355328 := by
    have : (joinT (ts.map Tok.toZ)).length = J.size := by rw [← hJ]; simp [ByteArray.size]
    omega
  have HJL := hide hjl
  have HJJ := hide hJ
  have HL1 := hide (fun V hE => lex_call src ts p 0 hl V hE)
  have HL2 := hide (fun V hE => lex_call J us 0 0 hj V hE)
  have HP1 := hide (fun V hE hP => parse_call src c a er hp V hE hP)
  have HP2 := hide (fun V hE hP => parse_call J c b er hq V hE hP)
  have HR := hide hR
  have HSM := hide hsm
  have HUL := hide hul
  clear hl hj hp hq hR hsm hjl hJ hul
  have s1 : (src.size : Int) ≤ 5000 := by omega
  go_enter Tryz.func9, Tryz.ntmps9
  go_wp2_with fail
  refine (awake_any W hE hP).mono ?_
  rintro e w1 ⟨rfl, hb1⟩
  have HB1 := hide hb1
  have HE1 := hide (hE.out.kept hb1)
  have HQ1 := hide (hP.out.below hb1)
  clear hb1
  go_wp2_with fail
  refine (HL1.out w1 HE1).mono ?_
  rintro e w2 ⟨A2, q2, rfl, hT2, hb2⟩
  have HB2 := hide (HB1.out.trans (hb2.mono HB1.out.size))
  have HE2 := hide (HE1.out.kept hb2)
  have HQ2 := hide (HQ1.out.below hb2)
  have HT2 := hide hT2
  clear hb2 hT2 HB1 HE1 HQ1 HL1
  go_wp2_with fail
  refine (join_any A2 ts.length q2 (ts.map Tok.toZ) w2 (hide (by simp)) (by omega) HT2 HJL).mono ?_
  rintro e w3 ⟨rfl, hb3⟩
  rw [HJJ.out]
  have HB3 := hide (HB2.out.trans (hb3.mono HB2.out.size))
  have HE3 := hide (HE2.out.kept hb3)
  have HQ3 := hide (HQ2.out.below hb3)
  have HT3 := hide (HT2.out.below hb3)
  clear hb3 HT2 HB2 HE2 HQ2 HJL HJJ
  go_wp2_with fail
  refine (HL2.out w3 HE3).mono ?_
  rintro e w4 ⟨A4, q4, rfl, hT4, hb4⟩
  have HB4 := hide (HB3.out.trans (hb4.mono HB3.out.size))
  have HE4 := hide (HE3.out.kept hb4)
  have HQ4 := hide (HQ3.out.below hb4)
  have HT3' := hide (HT3.out.below hb4)
  have HT4 := hide hT4
  clear hb4 hT4 HT3 HB3 HE3 HQ3 HL2
  go_wp2_with fail
  refine (HP1.out w4 HE4 HQ4).mono ?_
  rintro e w5 ⟨A, q, rfl, hb5, hD5⟩
  have HB5 := hide (HB4.out.trans (hb5.mono HB4.out.size))
  have HE5 := hide (HE4.out.kept hb5)
  have HQ5 := hide (HQ4.out.below hb5)
  have HT35 := hide (HT3'.out.below hb5)
  have HT45 := hide (HT4.out.below hb5)
  have HD5 := hide hD5
  clear hb5 hD5 HB4 HE4 HQ4 HT3' HT4 HP1
  obtain ⟨n, hnn⟩ : ∃ n, lensOf c = n := ⟨_, rfl⟩
  have ea : ∀ (A : Nat → Option Addr) (q : Nat → Nat), (cfgVal A q c).toArray = #[.slice (A 0) (n 0) (q 0), .slice (A 1) (n 1) (q 1), .slice (A 2) (n 2) (q 2), .slice (A 3) (n 3) (q 3), .slice (A 4) (n 4) (q 4), .slice (A 5) (n 5) (q 5), .slice (A 6) (n 6) (q 6), .slice (A 7) (n 7) (q 7)] := fun A q => by rw [← hnn]; rfl
  have el : ∀ (A : Nat → Option Addr) (q : Nat → Nat), cfgVal A q c = [.slice (A 0) (n 0) (q 0), .slice (A 1) (n 1) (q 1), .slice (A 2) (n 2) (q 2), .slice (A 3) (n 3) (q 3), .slice (A 4) (n 4) (q 4), .slice (A 5) (n 5) (q 5), .slice (A 6) (n 6) (q 6), .slice (A 7) (n 7) (q 7)] := fun A q => by rw [← hnn]; rfl
  have HEA := hide ea
  have HEL := hide el
  clear ea el hnn
  rw [HEA.out]
  go_wp2_with fail
  have hy := heap_alloc_new w5 (.cells #[.slice (A 0) (n 0) (q 0), .slice (A 1) (n 1) (q 1), .slice (A 2) (n 2) (q 2), .slice (A 3) (n 3) (q 3), .slice (A 4) (n 4) (q 4), .slice (A 5) (n 5) (q 5), .slice (A 6) (n 6) (q 6), .slice (A 7) (n 7) (q 7)] 32)
  have hby := (Below.refl w5.heap.size w5).alloc (Nat.le_refl _) (.cells #[.slice (A 0) (n 0) (q 0), .slice (A 1) (n 1) (q 1), .slice (A 2) (n 2) (q 2), .slice (A 3) (n 3) (q 3), .slice (A 4) (n 4) (q 4), .slice (A 5) (n 5) (q 5), .slice (A 6) (n 6) (q 6), .slice (A 7) (n 7) (q 7)] 32)
  have hzy := World.size_alloc w5 (.cells #[.slice (A 0) (n 0) (q 0), .slice (A 1) (n 1) (q 1), .slice (A 2) (n 2) (q 2), .slice (A 3) (n 3) (q 3), .slice (A 4) (n 4) (q 4), .slice (A 5) (n 5) (q 5), .slice (A 6) (n 6) (q 6), .slice (A 7) (n 7) (q 7)] 32)
  generalize w5.alloc (.cells #[.slice (A 0) (n 0) (q 0), .slice (A 1) (n 1) (q 1), .slice (A 2) (n 2) (q 2), .slice (A 3) (n 3) (q 3), .slice (A 4) (n 4) (q 4), .slice (A 5) (n 5) (q 5), .slice (A 6) (n 6) (q 6), .slice (A 7) (n 7) (q 7)] 32) = w6 at *
  have HE6 := hide (HE5.out.kept hby)
  have HQ6 := hide (HQ5.out.below hby)
  refine (HP2.out w6 HE6 HQ6).mono ?_
  rintro e w7 ⟨A7, q7, rfl, hb7, hD7⟩
  rw [HEA.out]
  have hb57 := hby.trans (hb7.mono hby.size)
  have hb78 := (Below.refl w7.heap.size w7).alloc (Nat.le_refl _) (.cells #[.slice (A7 0) (n 0) (q7 0), .slice (A7 1) (n 1) (q7 1), .slice (A7 2) (n 2) (q7 2), .slice (A7 3) (n 3) (q7 3), .slice (A7 4) (n 4) (q7 4), .slice (A7 5) (n 5) (q7 5), .slice (A7 6) (n 6) (q7 6), .slice (A7 7) (n 7) (q7 7)] 32)
  have hb58 := hb57.trans (hb78.mono hb57.size)
  have HB8 := hide (HB5.out.trans (hb58.mono HB5.out.size))
  have HT38 := hide (HT35.out.below hb58)
  have HT48 := hide (HT45.out.below hb58)
  have hD8 := (HD5.out.below hb58).mono (H := fun _ => True) (fun _ _ _ => trivial)
  have hD78 := (hD7.below hb78).mono (H := fun _ => True) (fun _ _ _ => trivial)
  rw [HEL.out] at hD8 hD78
  have HD8 := hide hD8
  have HD78 := hide hD78
  have hz7 : w5.heap.size < w7.heap.size := by have := hb7.size; omega
  obtain ⟨c0, c1, c2, c3, c4, c5, c6, c7, _⟩ := row8 ((hb78.block w5.heap.size hz7).trans ((hb7.block w5.heap.size (by omega)).trans hy)) rfl
  obtain ⟨d0, d1, d2, d3, d4, d5, d6, d7, _⟩ := row8 (heap_alloc_new w7 (.cells #[.slice (A7 0) (n 0) (q7 0), .slice (A7 1) (n 1) (q7 1), .slice (A7 2) (n 2) (q7 2), .slice (A7 3) (n 3) (q7 3), .slice (A7 4) (n 4) (q7 4), .slice (A7 5) (n 5) (q7 5), .slice (A7 6) (n 6) (q7 6), .slice (A7 7) (n 7) (q7 7)] 32)) rfl
  have hz8 : (w7.alloc (.cells #[.slice (A7 0) (n 0) (q7 0), .slice (A7 1) (n 1) (q7 1), .slice (A7 2) (n 2) (q7 2), .slice (A7 3) (n 3) (q7 3), .slice (A7 4) (n 4) (q7 4), .slice (A7 5) (n 5) (q7 5), .slice (A7 6) (n 6) (q7 6), .slice (A7 7) (n 7) (q7 7)] 32)).heap.size = w7.heap.size + 1 := World.size_alloc w7 _
  have hul : ((us.length : Int) != (ts.length : Int)) = false := by rw [HUL.out]; simp
  clear HB5 HE5 HQ5 HT35 HT45 HD5 HE6 HQ6 hy hby hzy hb7 hb57 hb58 hb78 hD7 hD8 hD78 HP2 HEL HEA
  rcases HR.out with ⟨rfl, rfl, rfl⟩ | ⟨her, ⟨rfl, rfl⟩ | ⟨ha, k, t, u, hk, hu, hta, hua, hun⟩⟩
  · clear HT38 HT48
    go_wp2_with fail
    refine (same_cfg c c _ _ _ _ _ _ _ _ _ _ _ _ _ _ _ _ _ HD8.out HD78.out HSM.out HSM.out).mono ?_
    rintro e w9 ⟨rfl, hb9⟩
    rw [eqB_yes rfl]
    have HB9 := hide (HB8.out.trans (hb9.mono HB8.out.size))
    clear hb9
    go_wp2_with fail
    go_ret
    exact ⟨rfl, HB9.out⟩
  · have her1 : ((er : Int) == 0) = false := by simp; omega
    clear her HT38 HT48
    go_wp2_with fail
    refine (same_cfg c c _ _ _ _ _ _ _ _ _ _ _ _ _ _ _ _ _ HD8.out HD78.out HSM.out HSM.out).mono ?_
    rintro e w9 ⟨rfl, hb9⟩
    rw [eqB_yes rfl]
    have HB9 := hide (HB8.out.trans (hb9.mono HB8.out.size))
    clear hb9
    go_wp2_with fail
    go_ret
    exact ⟨rfl, HB9.out⟩
  · have her1 : ((er : Int) == 0) = false := by simp; omega
    have ha1 : ((a : Int) == (src.size : Int)) = false := by simp; omega
    have hkl : k < ts.length := (List.getElem?_eq_some_iff.1 hk).1
    have HK := hide (And.intro hk (And.intro hu (And.intro hta (And.intro hua hun))))
    clear her ha hk hu hta hua hun
    go_wp2_with fail
    refine (same_cfg c c _ _ _ _ _ _ _ _ _ _ _ _ _ _ _ _ _ HD8.out HD78.out HSM.out HSM.out).mono ?_
    rintro e w9 ⟨rfl, hb9⟩
    rw [eqB_yes rfl]
    have HB9 := hide (HB8.out.trans (hb9.mono HB8.out.size))
    have HT39 := hide (HT38.out.below hb9)
    have HT49 := hide (HT48.out.below hb9)
    clear hb9 HT38 HT48 HB8
    go_wp2_with fail
    go_loopw [16] (fun v16 wr => ∃ i : Nat, i ≤ k ∧ v16 = .int .i64 i ∧ Below w9.heap.size w9 wr) (fun v16 _ => ts.length - (intOf v16).toNat)
    case atStart => exact ⟨0, by omega, rfl, Below.refl _ _⟩
    case round =>
      obtain ⟨i, hi, rfl, hbr⟩ := hrel
      have HBR := hide hbr
      clear hbr
      obtain ⟨b1, o1, t1, rfl, hb1, ht1, p0, p1, p2⟩ := tok_at HT39 HBR.out (show i < ts.length by omega)
      have i0 : (0 : Int) ≤ (i : Int) := by omega
      have i1 : (i : Int) < (ts.length : Int) := by omega
      by_cases hik : i = k
      · subst hik
        obtain ⟨b2, o2, t2, rfl, hb2, ht2, r0, r1, r2⟩ := tok_at HT49 HBR.out (show i < us.length by rw [HUL.out]; omega)
        have i2 : (i : Int) < (us.length : Int) := by rw [HUL.out]; omega
        have e1 : t1 = t := by have := ht1.out.symm.trans HK.out.1; injection this
        have e2 : t2 = u := by have := ht2.out.symm.trans HK.out.2.1; injection this
        rw [e1, HK.out.2.2.1] at p2
        rw [e2, HK.out.2.2.2.1] at r2
        clear e1 e2 p0 p1 r0 r1
        go_wp2_with fail
        go_ret
        exact ⟨rfl, HB9.out.trans (HBR.out.mono HB9.out.size)⟩
      · have hne : ((t1.at_ : Int) == (a : Int)) = false := by
          have : t1.at_ ≠ a := fun e => hik (HK.out.2.2.2.2 i t1 ht1.out e)
          simp
          omega
        clear p0 p1
        go_wp2_with fail
        go_roundw
        case rel => exact ⟨i + 1, by omega, by go_num, HBR.out⟩
        case measure => simp [intOf]; omega
theorem tokens_any (src : ByteArray) (W : World) (hE : Hid (Env W)) (hP : Hid (EnvP W)) : Calls Tryz.prog 9 #[.string src] W fun e w' => e = .returned (.bool true) ∧ Below W.heap.size W w' := by
  obtain ⟨⟨ts, p, er⟩, hl⟩ : ∃ x, lexR src.data.toList = x := ⟨_, rfl⟩
  by_cases her : er = 0
  · subst her
    by_cases hs : 5000 < src.size
    · exact tokens_out src ts p 0 hl (.inr ⟨rfl, hs⟩) W hE hP
    have ez : src.data.toList.length = src.size := by simp
    obtain ⟨h1, us, h2, h3, h4⟩ := tokens_plain hl (by omega)
    have eJ : (joinT (ts.map Tok.toZ)) = joinL ts := joinT_eq ts
    obtain ⟨J, hJ⟩ : ∃ J : ByteArray, ⟨(joinL ts).toArray⟩ = J := ⟨_, rfl⟩
    have eJd : J.data.toList = joinL ts := by rw [← hJ]
    have eJs : J.size = (joinL ts).length := by rw [← hJ]; simp [ByteArray.size]
    have eJl : J.data.toList.length = J.size := by simp
    rw [← eJd, ez, eJl] at h4
    rw [← eJd] at h2
    rcases h4 with ⟨c, h5, h6⟩ | ⟨a, b, e, he, h5, h6, h7⟩
    · exact tokens_in src J ts us p c 0 0 0 hl h2 (by rw [eJ]; exact hJ) h3 (by omega) (by omega) h5 h6 ((cfg_fit (lex_ok src.data.toList).count.1 (parsed_ok h5).2.1).sm (by decide)) (.inl ⟨rfl, rfl, rfl⟩) W hE hP
    · exact tokens_in src J ts us p CfgD.none a b e hl h2 (by rw [eJ]; exact hJ) h3 (by omega) (by omega) h5 h6 ((CfgD.none_fit (N := 0)).sm (by decide)) (.inr ⟨he, h7⟩) W hE hP
  · exact tokens_out src ts p er hl (.inl (by simp; omega)) W hE hP
end Go.Proofs.YtlngbjphagnloaaGreatDoor

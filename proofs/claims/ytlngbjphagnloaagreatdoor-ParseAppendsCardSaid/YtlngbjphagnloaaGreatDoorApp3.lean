/-
  parse: ParseAppends returns true (printed by tools/app.py).
-/
import Derived.Test.YtlngbjphagnloaaGreatDoorApp1
import Derived.Test.YtlngbjphagnloaaGreatDoorApp2
import Derived.Test.YtlngbjphagnloaaGreatDoorFit
namespace Go.Proofs.YtlngbjphagnloaaGreatDoor
open Go.RowKit
attribute [local go_sem] Later.cell
theorem cat_list (a b : ByteArray) : (a ++ ⟨#[10]⟩ ++ b).data.toList = a.data.toList ++ 10 :: b.data.toList := by simp [ByteArray.data_append]
theorem cat_size (a b : ByteArray) : (a ++ ⟨#[10]⟩ ++ b).size = a.size + 1 + b.size := by
  rw [ByteArray.size_append, ByteArray.size_append]
  rfl
def eightV (A : Nat → Option Addr) (n q : Nat → Nat) : List Value := [.slice (A 0) (n 0) (q 0), .slice (A 1) (n 1) (q 1), .slice (A 2) (n 2) (q 2), .slice (A 3) (n 3) (q 3), .slice (A 4) (n 4) (q 4), .slice (A 5) (n 5) (q 5), .slice (A 6) (n 6) (q 6), .slice (A 7) (n 7) (q 7)]
/-- How Parse ends: eight slices, their rows. -/
def ParseV (W : World) (c : CfgD) (at_ er : Nat) (e : Ending) (W' : World) : Prop :=
  ∃ A n q, e = .returned (.tuple #[.agg #[.slice (A 0) (n 0) (q 0), .slice (A 1) (n 1) (q 1), .slice (A 2) (n 2) (q 2), .slice (A 3) (n 3) (q 3), .slice (A 4) (n 4) (q 4), .slice (A 5) (n 5) (q 5), .slice (A 6) (n 6) (q 6), .slice (A 7) (n 7) (q 7)], .int .i64 (at_ : Int), .int .i64 (er : Int)]) ∧ Below W.heap.size W W' ∧ RowsAt W' W.heap.size (eightV A n q) (cfgRows c)
theorem parse_eight (src : ByteArray) (c : CfgD) (at_ er : Nat) (h : parseT (lexR src.data.toList) src.size = (c, at_, er)) (W : World) (hE : Hid (Env W)) (hP : Hid (EnvP W)) : Calls Tryz.prog 11 #[.string src] W (ParseV W c at_ er) := by
  refine (parse_own src c at_ er h W hE hP).mono ?_
  rintro e w' ⟨A, q, B, hB, rfl, hb, hr⟩
  exact ⟨A, fun k => match k with | 0 => c.modules.length | 1 => c.channels.length | 2 => c.switches.length | 3 => c.links.length | 4 => c.vls.length | 5 => c.health.length | 6 => c.causes.length | _ => c.versions.length, q, rfl, hb, hr.wider hB⟩
theorem cat_parse (a b : ByteArray) (ha : a.size ≤ 2500) (hb : b.size ≤ 2500) {c : CfgD} {at_ : Nat} (h : parseT (lexR a.data.toList) a.size = (c, at_, 0)) :
    (∀ d at', parseT (lexR b.data.toList) b.size = (d, at', 0) → parseT (lexR (a ++ ⟨#[10]⟩ ++ b).data.toList) (a ++ ⟨#[10]⟩ ++ b).size = (c.app d, 0, 0)) ∧
    (∀ d at' e, e ≠ 0 → parseT (lexR b.data.toList) b.size = (d, at', e) → parseT (lexR (a ++ ⟨#[10]⟩ ++ b).data.toList) (a ++ ⟨#[10]⟩ ++ b).size = (CfgD.none, at' + a.size + 1, e)) := by
  rw [cat_list, cat_size]
  have ea : a.data.toList.length = a.size := by simp
  have eb : b.data.toList.length = b.size := by simp
  have := appends_plain a.data.toList b.data.toList (by omega) (by rw [ea]; exact h)
  rw [ea, eb] at this
  exact this
theorem fit_of {l : List UInt8} {size at_ : Nat} {c : CfgD} (h : parseT (lexR l) size = (c, at_, 0)) : c.fit 65536 0 := by
  obtain ⟨_, h1, _⟩ := parsed_ok h
  exact cfg_fit (lex_ok l).count.1 h1
theorem rows_cfg (c d : CfgD) (w : World) (v0 v1 v2 v3 v4 v5 v6 v7 : Value) (h0 : DAt w (fun _ => True) v0 (.row 4 (c.modules.map ModD.cells ++ d.modules.map ModD.cells))) (h1 : DAt w (fun _ => True) v1 (.row 4 (c.channels.map ChanD.cells ++ d.channels.map ChanD.cells))) (h2 : DAt w (fun _ => True) v2 (.row 4 (c.switches.map SwD.cells ++ d.switches.map SwD.cells))) (h3 : DAt w (fun _ => True) v3 (.row 4 (c.links.map LinkD.cells ++ d.links.map LinkD.cells))) (h4 : DAt w (fun _ => True) v4 (.row 7 (c.vls.map VlD.cells ++ d.vls.map VlD.cells))) (h5 : DAt w (fun _ => True) v5 (.row 5 (c.health.map HealthD.cells ++ d.health.map HealthD.cells))) (h6 : DAt w (fun _ => True) v6 (.row 3 (c.causes.map CauseD.cells ++ d.causes.map CauseD.cells))) (h7 : DAt w (fun _ => True) v7 (.row 4 (c.versions.map VerD.cells ++ d.versions.map VerD.cells))) : DCells w (fun _ => True) [v0, v1, v2, v3, v4, v5, v6, v7] (c.app d).cells := by
  unfold CfgD.cells CfgD.app
  simp only [List.map_append]
  exact .cons h0 (.cons h1 (.cons h2 (.cons h3 (.cons h4 (.cons h5 (.cons h6 (.cons h7 .nil)))))))
set_option maxRecDepth 100000 in
set_option maxHeartbeats 4000000 in
theorem appends_long (a b : ByteArray) (h : 2500 < a.size ∨ 2500 < b.size) (W : World) (hE : Hid (Env W)) (hP : Hid (EnvP W)) : Calls Tryz.prog 3 #[.string a, .string b] W fun e w' => e = .returned (.bool true) ∧ Below W.heap.size W w' := by
  have hh : (2500 : Int) < (a.size : Int) ∨ (a.size : Int) ≤ 2500 ∧ (2500 : Int) < (b.size : Int) := by omega
  clear h
  rcases hh with h1 | ⟨h1, h2⟩
  all_goals
    go_enter Tryz.func3, Tryz.ntmps3
    go_wp2_with fail
    refine (awake_any W hE hP).mono ?_
    rintro e w1 ⟨rfl, hb1⟩
    have HB1 := hide hb1
    clear hb1
    go_wp2_with fail
    go_ret
    exact ⟨rfl, HB1.out⟩
set_option maxRecDepth 100000 in
set_option maxHeartbeats 4000000 in
theorem appends_short (a b : ByteArray) (ha : a.size ≤ 2500) (hb : b.size ≤ 2500) (c d x : CfgD) (ta e tb f tx g : Nat) (hc : parseT (lexR a.data.toList) a.size = (c, ta, e)) (hd : parseT (lexR b.data.toList) b.size = (d, tb, f)) (hx : parseT (lexR (a ++ ⟨#[10]⟩ ++ b).data.toList) (a ++ ⟨#[10]⟩ ++ b).size = (x, tx, g)) (hR : e ≠ 0 ∨ e = 0 ∧ f ≠ 0 ∧ g = f ∧ tx = tb + a.size + 1 ∨ e = 0 ∧ f = 0 ∧ g = 0 ∧ x = c.app d ∧ c.fit 65536 0 ∧ d.fit 65536 0 ∧ x.fit 65536 0) (htb : tb ≤ 65536) (W : World) (hE : Hid (Env W)) (hP : Hid (EnvP W)) : Calls Tryz.prog 3 #[.string a, .string b] W fun e w' => e = .returned (.bool true) ∧ Below W.heap.size W w' := by
  have s1 : (a.size : Int) ≤ 2500 := by omega
  have s2 : (b.size : Int) ≤ 2500 := by omega
  have s3 : ¬ 9223372036854775807 < a.size + 1 := by omega
  have s4 : ¬ 9223372036854775807 < a.size + 1 + b.size := by omega
  have HC := hide (fun V hE hP => parse_eight a c ta e hc V hE hP)
  have HD := hide (fun V hE hP => parse_eight b d tb f hd V hE hP)
  have HX := hide (fun V hE hP => parse_eight _ x tx g hx V hE hP)
  have HR := hide hR
  clear hc hd hx hR ha hb
  go_enter Tryz.func3, Tryz.ntmps3
  go_wp2_with fail
  refine (awake_any W hE hP).mono ?_
  rintro _ w1 ⟨rfl, hb1⟩
  have HEw1 := hide (hE.out.kept hb1)
  have HPw1 := hide (hP.out.below hb1)
  have HBw1 := hide hb1
  clear hb1
  go_wp2_with fail
  refine (HC.out w1 HEw1 HPw1).mono ?_
  rintro _ u1 ⟨A1, n1, q1, rfl, hb, hr⟩
  go_wp2_with fail
  have hy := heap_alloc_new u1 (.cells #[.slice (A1 0) (n1 0) (q1 0), .slice (A1 1) (n1 1) (q1 1), .slice (A1 2) (n1 2) (q1 2), .slice (A1 3) (n1 3) (q1 3), .slice (A1 4) (n1 4) (q1 4), .slice (A1 5) (n1 5) (q1 5), .slice (A1 6) (n1 6) (q1 6), .slice (A1 7) (n1 7) (q1 7)] 32)
  have hby := (Below.refl u1.heap.size u1).alloc (Nat.le_refl _) (.cells #[.slice (A1 0) (n1 0) (q1 0), .slice (A1 1) (n1 1) (q1 1), .slice (A1 2) (n1 2) (q1 2), .slice (A1 3) (n1 3) (q1 3), .slice (A1 4) (n1 4) (q1 4), .slice (A1 5) (n1 5) (q1 5), .slice (A1 6) (n1 6) (q1 6), .slice (A1 7) (n1 7) (q1 7)] 32)
  have hzw2 := World.size_alloc u1 (.cells #[.slice (A1 0) (n1 0) (q1 0), .slice (A1 1) (n1 1) (q1 1), .slice (A1 2) (n1 2) (q1 2), .slice (A1 3) (n1 3) (q1 3), .slice (A1 4) (n1 4) (q1 4), .slice (A1 5) (n1 5) (q1 5), .slice (A1 6) (n1 6) (q1 6), .slice (A1 7) (n1 7) (q1 7)] 32)
  generalize u1.alloc (.cells #[.slice (A1 0) (n1 0) (q1 0), .slice (A1 1) (n1 1) (q1 1), .slice (A1 2) (n1 2) (q1 2), .slice (A1 3) (n1 3) (q1 3), .slice (A1 4) (n1 4) (q1 4), .slice (A1 5) (n1 5) (q1 5), .slice (A1 6) (n1 6) (q1 6), .slice (A1 7) (n1 7) (q1 7)] 32) = w2 at *
  have hbw2 := hb.trans (hby.mono hb.size)
  have HEw2 := hide (HEw1.out.kept hbw2)
  have HPw2 := hide (HPw1.out.below hbw2)
  have HBw2 := hide (HBw1.out.trans (hbw2.mono HBw1.out.size))
  have HR1 := hide hr
  have HY1 := hide hy
  have HU1 := hide hby
  have HS1 := hide hb.size
  have HN1 := hide hbw2
  clear hy hby hb hr hbw2 HC
  refine (HD.out w2 HEw2 HPw2).mono ?_
  rintro _ u2 ⟨A2, n2, q2, rfl, hb, hr⟩
  go_wp2_with fail
  have hy := heap_alloc_new u2 (.cells #[.slice (A2 0) (n2 0) (q2 0), .slice (A2 1) (n2 1) (q2 1), .slice (A2 2) (n2 2) (q2 2), .slice (A2 3) (n2 3) (q2 3), .slice (A2 4) (n2 4) (q2 4), .slice (A2 5) (n2 5) (q2 5), .slice (A2 6) (n2 6) (q2 6), .slice (A2 7) (n2 7) (q2 7)] 32)
  have hby := (Below.refl u2.heap.size u2).alloc (Nat.le_refl _) (.cells #[.slice (A2 0) (n2 0) (q2 0), .slice (A2 1) (n2 1) (q2 1), .slice (A2 2) (n2 2) (q2 2), .slice (A2 3) (n2 3) (q2 3), .slice (A2 4) (n2 4) (q2 4), .slice (A2 5) (n2 5) (q2 5), .slice (A2 6) (n2 6) (q2 6), .slice (A2 7) (n2 7) (q2 7)] 32)
  have hzw3 := World.size_alloc u2 (.cells #[.slice (A2 0) (n2 0) (q2 0), .slice (A2 1) (n2 1) (q2 1), .slice (A2 2) (n2 2) (q2 2), .slice (A2 3) (n2 3) (q2 3), .slice (A2 4) (n2 4) (q2 4), .slice (A2 5) (n2 5) (q2 5), .slice (A2 6) (n2 6) (q2 6), .slice (A2 7) (n2 7) (q2 7)] 32)
  generalize u2.alloc (.cells #[.slice (A2 0) (n2 0) (q2 0), .slice (A2 1) (n2 1) (q2 1), .slice (A2 2) (n2 2) (q2 2), .slice (A2 3) (n2 3) (q2 3), .slice (A2 4) (n2 4) (q2 4), .slice (A2 5) (n2 5) (q2 5), .slice (A2 6) (n2 6) (q2 6), .slice (A2 7) (n2 7) (q2 7)] 32) = w3 at *
  have hbw3 := hb.trans (hby.mono hb.size)
  have HEw3 := hide (HEw2.out.kept hbw3)
  have HPw3 := hide (HPw2.out.below hbw3)
  have HBw3 := hide (HBw2.out.trans (hbw3.mono HBw2.out.size))
  have HR2 := hide hr
  have HY2 := hide hy
  have HU2 := hide hby
  have HS2 := hide hb.size
  have HN2 := hide hbw3
  clear hy hby hb hr hbw3 HD
  have hz21 := HN2.out.size
  refine (HX.out w3 HEw3 HPw3).mono ?_
  rintro _ u3 ⟨A3, n3, q3, rfl, hb, hr⟩
  have HBu3 := hide (HBw3.out.trans (hb.mono HBw3.out.size))
  rcases HR.out with he | ⟨rfl, hf, rfl, rfl⟩ | ⟨rfl, rfl, rfl, rfl, hfc, hfd, hfx⟩
  · have he1 : ((e : Int) != 0) = true := by simp; omega
    clear he hb hr
    go_wp2_with fail
    go_ret
    exact ⟨rfl, HBu3.out.alloc HBu3.out.size _⟩
  · have hf1 : ((g : Int) != 0) = true := by simp; omega
    have hf2 : ((tb + a.size + 1 : Nat) : Int) = (tb : Int) + (a.size : Int) + 1 := by omega
    clear hf hb hr
    rw [hf2]
    go_wp2_with fail
    go_ret
    exact ⟨rfl, HBu3.out.alloc HBu3.out.size _⟩
  obtain ⟨w4, hw4⟩ : ∃ w, w = u3.alloc (.cells #[.slice (A3 0) (n3 0) (q3 0), .slice (A3 1) (n3 1) (q3 1), .slice (A3 2) (n3 2) (q3 2), .slice (A3 3) (n3 3) (q3 3), .slice (A3 4) (n3 4) (q3 4), .slice (A3 5) (n3 5) (q3 5), .slice (A3 6) (n3 6) (q3 6), .slice (A3 7) (n3 7) (q3 7)] 32) := ⟨_, rfl⟩
  have hy : w4.heap[u3.heap.size]? = some (.cells #[.slice (A3 0) (n3 0) (q3 0), .slice (A3 1) (n3 1) (q3 1), .slice (A3 2) (n3 2) (q3 2), .slice (A3 3) (n3 3) (q3 3), .slice (A3 4) (n3 4) (q3 4), .slice (A3 5) (n3 5) (q3 5), .slice (A3 6) (n3 6) (q3 6), .slice (A3 7) (n3 7) (q3 7)] 32 (0, 0)) := by rw [hw4]; exact heap_alloc_new u3 _
  have hby : Below u3.heap.size u3 w4 := by rw [hw4]; exact (Below.refl u3.heap.size u3).alloc (Nat.le_refl _) _
  have hzw4 : w4.heap.size = u3.heap.size + 1 := by rw [hw4]; exact World.size_alloc u3 _
  have HW4 := hide hw4
  clear hw4
  have hbw4 := hb.trans (hby.mono hb.size)
  have HBw4 := hide (HBw3.out.trans (hbw4.mono HBw3.out.size))
  have HR3 := hide hr
  have HY3 := hide hy
  have HU3 := hide hby
  have HS3 := hide hb.size
  have HN3 := hide hbw4
  clear hy hby hb hr hbw4 HX HBu3
  have hz31 := HN3.out.size
  have HA2 := hide ((HN2.out.trans (HN3.out.mono HN2.out.size)))
  have hz1 : w2.heap.size = u1.heap.size + 1 := hzw2
  have hz2 : w3.heap.size = u2.heap.size + 1 := hzw3
  have hz3 : w4.heap.size = u3.heap.size + 1 := hzw4
  have hzd : w2.heap.size ≤ u2.heap.size := HS2.out
  have hzx : w3.heap.size ≤ u3.heap.size := HS3.out
  have hzc : w1.heap.size ≤ u1.heap.size := HS1.out
  have HP := hide (show Pair u1 w4 w1.heap.size u1.heap.size w2.heap.size (eightV A1 n1 q1) (cfgRows c) (eightV A2 n2 q2) (cfgRows d) from ⟨HR1.out, rfl, HU1.out.trans (HA2.out.mono (by omega)), hzc, HR2.out.below (HU2.out.trans (HN3.out.mono (by omega))), by omega⟩)
  have HX := hide (((HR3.out.cells.below HU3.out).mono (H := fun b => w3.heap.size ≤ b) (fun b hb _ => hb)))
  have HYX := hide (RowC.of HY3.out)
  have HYD := hide (RowC.of ((HN3.out.block u2.heap.size (by omega)).trans HY2.out))
  have HJ := hide (Joi.start HP.out (RowC.of ((HA2.out.block u1.heap.size (by omega)).trans HY1.out)))
  unfold eightV at HJ
  have lc := hfc.len
  have ld := hfd.len
  unfold CfgD.count at lc ld
  have HFX := hide (hfx.sm (by decide))
  have HB := hide HBw4.out
  have hWB : W.heap.size ≤ w1.heap.size := HBw1.out.size
  clear hfc hfd hfx HR1 HR2 HR3 HY1 HY2 HY3 HU1 HU2 HU3 HN1 HN2 HN3 HA2 HEw1 HPw1 HEw2 HPw2 HEw3 HPw3 HBw1 HBw2 HBw3 HBw4 HR HS1 HS2 HS3
  generalize u1.heap.size = cb at *
  generalize u2.heap.size = db at *
  have ec : w4.cell? ⟨cb, 0, none⟩ = some (.slice (A1 0) (n1 0) (q1 0)) := (HJ.out.row.2 0 _ rfl).1
  have ed : w4.cell? ⟨db, 0, none⟩ = some (.slice (A2 0) (n2 0) (q2 0)) := (HYD.out.2 0 _ rfl).1
  rw [HW4.out] at ec ed
  go_wp2_with (at_builtin; apply Hid.out)
  clear ec ed
  rw [← HW4.out]
  clear HW4
  generalize u3.heap.size = xb at *
  refine hide ?_
  obtain ⟨i0, hi0, hz0, hz1', hz2'⟩ := info_parts module_any_info
  obtain ⟨cs, ds, ho, hx, h1, hBV, hne, hnx⟩ := HJ.out.give HP.out (k := 0) rfl rfl rfl rfl (cfg_one d _ (by simp [cfgRows])) rfl rfl
  obtain ⟨hm, hrd⟩ := hx _ _ _ rfl
  have hs := HJ.out.row.2 0 _ rfl
  have hcl : cb < w4.heap.size := HJ.out.row.1
  dsimp only at hm ho hnx hrd
  have hM : (c.modules.map ModD.cells).length ≤ 65536 ∧ n2 0 ≤ 65536 := by simp at hm ⊢; omega
  have HNR := hide (hne cb (Nat.le_refl _) (by omega))
  have HO := hide ho
  have HRD := hide hrd
  have HNX := hide hnx
  have HJO := HJ
  clear ho hx hne hnx hrd HJ
  refine wpList_append_any _ rfl _ _ 23 rfl w1.heap.size 46 i0 _ 4 56 Tryz.underlying23 hi0 hz0 hz1' hz2' rfl (by decide) (.slice (A1 0) (n1 0) (q1 0)) _ cs rfl HO.out _ (A2 0) (n2 0) (q2 0) ds rfl HRD.out h1 (by unfold maxLen; omega) (by omega) hBV ?_
  intro v5 wz hown hg hat
  obtain ⟨hj, hd, hold⟩ := HNX.out v5 wz (by rw [← hm]; exact hown) hg hat
  obtain ⟨P0, Q0, rfl⟩ := own_form hown
  have e1 := (World.cell?_of_block (a := ⟨cb, 0, none⟩) (hg.block cb hcl (fun e => HNR.out e.symm))).trans hs.1
  have e2 := (World.frozen?_of_block (a := ⟨cb, 0, none⟩) (hg.block cb hcl (fun e => HNR.out e.symm))).trans hs.2
  have HJ := hide hj
  have HD0 := hide hd
  clear hd hold hown hg hat HO HRD HNX HNR HJO h1 hM hm hBV hs hcl hi0 hz0 hz1' hz2'
  generalize (c.modules.map ModD.cells).length + n2 0 = M0 at *
  have ec : (wz.setCell ⟨cb, 0, none⟩ (.slice P0 M0 Q0)).cell? ⟨cb, 1, none⟩ = some (.slice (A1 1) (n1 1) (q1 1)) := (hj.row.2 1 _ rfl).1
  have ed : (wz.setCell ⟨cb, 0, none⟩ (.slice P0 M0 Q0)).cell? ⟨db, 1, none⟩ = some (.slice (A2 1) (n2 1) (q2 1)) := ((HYD.out.keep hj.size (hj.above HP.out db (by omega) (by omega))).2 1 _ rfl).1
  clear hj
  go_wp2_with (at_builtin; apply Hid.out)
  clear ec ed e1 e2
  generalize (wz.setCell ⟨cb, 0, none⟩ (.slice P0 M0 Q0)) = V1 at *
  clear wz
  refine hide ?_
  obtain ⟨i0, hi0, hz0, hz1', hz2'⟩ := info_parts channel_any_info
  obtain ⟨cs, ds, ho, hx, h1, hBV, hne, hnx⟩ := HJ.out.give HP.out (k := 1) rfl rfl rfl rfl (cfg_one d _ (by simp [cfgRows])) rfl rfl
  obtain ⟨hm, hrd⟩ := hx _ _ _ rfl
  have hs := HJ.out.row.2 1 _ rfl
  have hcl : cb < V1.heap.size := HJ.out.row.1
  dsimp only at hm ho hnx hrd
  have hM : (c.channels.map ChanD.cells).length ≤ 65536 ∧ n2 1 ≤ 65536 := by simp at hm ⊢; omega
  have HNR := hide (hne cb (Nat.le_refl _) (by omega))
  have HO := hide ho
  have HRD := hide hrd
  have HNX := hide hnx
  have HJO := HJ
  clear ho hx hne hnx hrd HJ
  refine wpList_append_any _ rfl _ _ 24 rfl w1.heap.size 133 i0 _ 4 72 Tryz.underlying24 hi0 hz0 hz1' hz2' rfl (by decide) (.slice (A1 1) (n1 1) (q1 1)) _ cs rfl HO.out _ (A2 1) (n2 1) (q2 1) ds rfl HRD.out h1 (by unfold maxLen; omega) (by omega) hBV ?_
  intro v5 wz hown hg hat
  obtain ⟨hj, hd, hold⟩ := HNX.out v5 wz (by rw [← hm]; exact hown) hg hat
  obtain ⟨P1, Q1, rfl⟩ := own_form hown
  have e1 := (World.cell?_of_block (a := ⟨cb, 1, none⟩) (hg.block cb hcl (fun e => HNR.out e.symm))).trans hs.1
  have e2 := (World.frozen?_of_block (a := ⟨cb, 1, none⟩) (hg.block cb hcl (fun e => HNR.out e.symm))).trans hs.2
  have HJ := hide hj
  have HD1 := hide hd
  have HD0 := hide (hold 0 _ _ (by decide) HD0.out)
  clear hd hold hown hg hat HO HRD HNX HNR HJO h1 hM hm hBV hs hcl hi0 hz0 hz1' hz2'
  generalize (c.channels.map ChanD.cells).length + n2 1 = M1 at *
  have ec : (wz.setCell ⟨cb, 1, none⟩ (.slice P1 M1 Q1)).cell? ⟨cb, 2, none⟩ = some (.slice (A1 2) (n1 2) (q1 2)) := (hj.row.2 2 _ rfl).1
  have ed : (wz.setCell ⟨cb, 1, none⟩ (.slice P1 M1 Q1)).cell? ⟨db, 2, none⟩ = some (.slice (A2 2) (n2 2) (q2 2)) := ((HYD.out.keep hj.size (hj.above HP.out db (by omega) (by omega))).2 2 _ rfl).1
  clear hj
  go_wp2_with (at_builtin; apply Hid.out)
  clear ec ed e1 e2
  generalize (wz.setCell ⟨cb, 1, none⟩ (.slice P1 M1 Q1)) = V2 at *
  clear wz
  refine hide ?_
  obtain ⟨i0, hi0, hz0, hz1', hz2'⟩ := info_parts node_any_info
  obtain ⟨cs, ds, ho, hx, h1, hBV, hne, hnx⟩ := HJ.out.give HP.out (k := 2) rfl rfl rfl rfl (cfg_one d _ (by simp [cfgRows])) rfl rfl
  obtain ⟨hm, hrd⟩ := hx _ _ _ rfl
  have hs := HJ.out.row.2 2 _ rfl
  have hcl : cb < V2.heap.size := HJ.out.row.1
  dsimp only at hm ho hnx hrd
  have hM : (c.switches.map SwD.cells).length ≤ 65536 ∧ n2 2 ≤ 65536 := by simp at hm ⊢; omega
  have HNR := hide (hne cb (Nat.le_refl _) (by omega))
  have HO := hide ho
  have HRD := hide hrd
  have HNX := hide hnx
  have HJO := HJ
  clear ho hx hne hnx hrd HJ
  refine wpList_append_any _ rfl _ _ 25 rfl w1.heap.size 75 i0 _ 4 40 Tryz.underlying25 hi0 hz0 hz1' hz2' rfl (by decide) (.slice (A1 2) (n1 2) (q1 2)) _ cs rfl HO.out _ (A2 2) (n2 2) (q2 2) ds rfl HRD.out h1 (by unfold maxLen; omega) (by omega) hBV ?_
  intro v5 wz hown hg hat
  obtain ⟨hj, hd, hold⟩ := HNX.out v5 wz (by rw [← hm]; exact hown) hg hat
  obtain ⟨P2, Q2, rfl⟩ := own_form hown
  have e1 := (World.cell?_of_block (a := ⟨cb, 2, none⟩) (hg.block cb hcl (fun e => HNR.out e.symm))).trans hs.1
  have e2 := (World.frozen?_of_block (a := ⟨cb, 2, none⟩) (hg.block cb hcl (fun e => HNR.out e.symm))).trans hs.2
  have HJ := hide hj
  have HD2 := hide hd
  have HD0 := hide (hold 0 _ _ (by decide) HD0.out)
  have HD1 := hide (hold 1 _ _ (by decide) HD1.out)
  clear hd hold hown hg hat HO HRD HNX HNR HJO h1 hM hm hBV hs hcl hi0 hz0 hz1' hz2'
  generalize (c.switches.map SwD.cells).length + n2 2 = M2 at *
  have ec : (wz.setCell ⟨cb, 2, none⟩ (.slice P2 M2 Q2)).cell? ⟨cb, 3, none⟩ = some (.slice (A1 3) (n1 3) (q1 3)) := (hj.row.2 3 _ rfl).1
  have ed : (wz.setCell ⟨cb, 2, none⟩ (.slice P2 M2 Q2)).cell? ⟨db, 3, none⟩ = some (.slice (A2 3) (n2 3) (q2 3)) := ((HYD.out.keep hj.size (hj.above HP.out db (by omega) (by omega))).2 3 _ rfl).1
  clear hj
  go_wp2_with (at_builtin; apply Hid.out)
  clear ec ed e1 e2
  generalize (wz.setCell ⟨cb, 2, none⟩ (.slice P2 M2 Q2)) = V3 at *
  clear wz
  refine hide ?_
  obtain ⟨i0, hi0, hz0, hz1', hz2'⟩ := info_parts link_any_info
  obtain ⟨cs, ds, ho, hx, h1, hBV, hne, hnx⟩ := HJ.out.give HP.out (k := 3) rfl rfl rfl rfl (cfg_one d _ (by simp [cfgRows])) rfl rfl
  obtain ⟨hm, hrd⟩ := hx _ _ _ rfl
  have hs := HJ.out.row.2 3 _ rfl
  have hcl : cb < V3.heap.size := HJ.out.row.1
  dsimp only at hm ho hnx hrd
  have hM : (c.links.map LinkD.cells).length ≤ 65536 ∧ n2 3 ≤ 65536 := by simp at hm ⊢; omega
  have HNR := hide (hne cb (Nat.le_refl _) (by omega))
  have HO := hide ho
  have HRD := hide hrd
  have HNX := hide hnx
  have HJO := HJ
  clear ho hx hne hnx hrd HJ
  refine wpList_append_any _ rfl _ _ 26 rfl w1.heap.size 77 i0 _ 4 48 Tryz.underlying26 hi0 hz0 hz1' hz2' rfl (by decide) (.slice (A1 3) (n1 3) (q1 3)) _ cs rfl HO.out _ (A2 3) (n2 3) (q2 3) ds rfl HRD.out h1 (by unfold maxLen; omega) (by omega) hBV ?_
  intro v5 wz hown hg hat
  obtain ⟨hj, hd, hold⟩ := HNX.out v5 wz (by rw [← hm]; exact hown) hg hat
  obtain ⟨P3, Q3, rfl⟩ := own_form hown
  have e1 := (World.cell?_of_block (a := ⟨cb, 3, none⟩) (hg.block cb hcl (fun e => HNR.out e.symm))).trans hs.1
  have e2 := (World.frozen?_of_block (a := ⟨cb, 3, none⟩) (hg.block cb hcl (fun e => HNR.out e.symm))).trans hs.2
  have HJ := hide hj
  have HD3 := hide hd
  have HD0 := hide (hold 0 _ _ (by decide) HD0.out)
  have HD1 := hide (hold 1 _ _ (by decide) HD1.out)
  have HD2 := hide (hold 2 _ _ (by decide) HD2.out)
  clear hd hold hown hg hat HO HRD HNX HNR HJO h1 hM hm hBV hs hcl hi0 hz0 hz1' hz2'
  generalize (c.links.map LinkD.cells).length + n2 3 = M3 at *
  have ec : (wz.setCell ⟨cb, 3, none⟩ (.slice P3 M3 Q3)).cell? ⟨cb, 4, none⟩ = some (.slice (A1 4) (n1 4) (q1 4)) := (hj.row.2 4 _ rfl).1
  have ed : (wz.setCell ⟨cb, 3, none⟩ (.slice P3 M3 Q3)).cell? ⟨db, 4, none⟩ = some (.slice (A2 4) (n2 4) (q2 4)) := ((HYD.out.keep hj.size (hj.above HP.out db (by omega) (by omega))).2 4 _ rfl).1
  clear hj
  go_wp2_with (at_builtin; apply Hid.out)
  clear ec ed e1 e2
  generalize (wz.setCell ⟨cb, 3, none⟩ (.slice P3 M3 Q3)) = V4 at *
  clear wz
  refine hide ?_
  obtain ⟨i0, hi0, hz0, hz1', hz2'⟩ := info_parts vl_any_info
  obtain ⟨cs, ds, ho, hx, h1, hBV, hne, hnx⟩ := HJ.out.give HP.out (k := 4) rfl rfl rfl rfl (cfg_one d _ (by simp [cfgRows])) rfl rfl
  obtain ⟨hm, hrd⟩ := hx _ _ _ rfl
  have hs := HJ.out.row.2 4 _ rfl
  have hcl : cb < V4.heap.size := HJ.out.row.1
  dsimp only at hm ho hnx hrd
  have hM : (c.vls.map VlD.cells).length ≤ 65536 ∧ n2 4 ≤ 65536 := by simp at hm ⊢; omega
  have HNR := hide (hne cb (Nat.le_refl _) (by omega))
  have HO := hide ho
  have HRD := hide hrd
  have HNX := hide hnx
  have HJO := HJ
  clear ho hx hne hnx hrd HJ
  refine wpList_append_any _ rfl _ _ 27 rfl w1.heap.size 136 i0 _ 7 104 Tryz.underlying27 hi0 hz0 hz1' hz2' rfl (by decide) (.slice (A1 4) (n1 4) (q1 4)) _ cs rfl HO.out _ (A2 4) (n2 4) (q2 4) ds rfl HRD.out h1 (by unfold maxLen; omega) (by omega) hBV ?_
  intro v5 wz hown hg hat
  obtain ⟨hj, hd, hold⟩ := HNX.out v5 wz (by rw [← hm]; exact hown) hg hat
  obtain ⟨P4, Q4, rfl⟩ := own_form hown
  have e1 := (World.cell?_of_block (a := ⟨cb, 4, none⟩) (hg.block cb hcl (fun e => HNR.out e.symm))).trans hs.1
  have e2 := (World.frozen?_of_block (a := ⟨cb, 4, none⟩) (hg.block cb hcl (fun e => HNR.out e.symm))).trans hs.2
  have HJ := hide hj
  have HD4 := hide hd
  have HD0 := hide (hold 0 _ _ (by decide) HD0.out)
  have HD1 := hide (hold 1 _ _ (by decide) HD1.out)
  have HD2 := hide (hold 2 _ _ (by decide) HD2.out)
  have HD3 := hide (hold 3 _ _ (by decide) HD3.out)
  clear hd hold hown hg hat HO HRD HNX HNR HJO h1 hM hm hBV hs hcl hi0 hz0 hz1' hz2'
  generalize (c.vls.map VlD.cells).length + n2 4 = M4 at *
  have ec : (wz.setCell ⟨cb, 4, none⟩ (.slice P4 M4 Q4)).cell? ⟨cb, 5, none⟩ = some (.slice (A1 5) (n1 5) (q1 5)) := (hj.row.2 5 _ rfl).1
  have ed : (wz.setCell ⟨cb, 4, none⟩ (.slice P4 M4 Q4)).cell? ⟨db, 5, none⟩ = some (.slice (A2 5) (n2 5) (q2 5)) := ((HYD.out.keep hj.size (hj.above HP.out db (by omega) (by omega))).2 5 _ rfl).1
  clear hj
  go_wp2_with (at_builtin; apply Hid.out)
  clear ec ed e1 e2
  generalize (wz.setCell ⟨cb, 4, none⟩ (.slice P4 M4 Q4)) = V5 at *
  clear wz
  refine hide ?_
  obtain ⟨i0, hi0, hz0, hz1', hz2'⟩ := info_parts health_any_info
  obtain ⟨cs, ds, ho, hx, h1, hBV, hne, hnx⟩ := HJ.out.give HP.out (k := 5) rfl rfl rfl rfl (cfg_one d _ (by simp [cfgRows])) rfl rfl
  obtain ⟨hm, hrd⟩ := hx _ _ _ rfl
  have hs := HJ.out.row.2 5 _ rfl
  have hcl : cb < V5.heap.size := HJ.out.row.1
  dsimp only at hm ho hnx hrd
  have hM : (c.health.map HealthD.cells).length ≤ 65536 ∧ n2 5 ≤ 65536 := by simp at hm ⊢; omega
  have HNR := hide (hne cb (Nat.le_refl _) (by omega))
  have HO := hide ho
  have HRD := hide hrd
  have HNX := hide hnx
  have HJO := HJ
  clear ho hx hne hnx hrd HJ
  refine wpList_append_any _ rfl _ _ 28 rfl w1.heap.size 57 i0 _ 5 40 Tryz.underlying28 hi0 hz0 hz1' hz2' rfl (by decide) (.slice (A1 5) (n1 5) (q1 5)) _ cs rfl HO.out _ (A2 5) (n2 5) (q2 5) ds rfl HRD.out h1 (by unfold maxLen; omega) (by omega) hBV ?_
  intro v5 wz hown hg hat
  obtain ⟨hj, hd, hold⟩ := HNX.out v5 wz (by rw [← hm]; exact hown) hg hat
  obtain ⟨P5, Q5, rfl⟩ := own_form hown
  have e1 := (World.cell?_of_block (a := ⟨cb, 5, none⟩) (hg.block cb hcl (fun e => HNR.out e.symm))).trans hs.1
  have e2 := (World.frozen?_of_block (a := ⟨cb, 5, none⟩) (hg.block cb hcl (fun e => HNR.out e.symm))).trans hs.2
  have HJ := hide hj
  have HD5 := hide hd
  have HD0 := hide (hold 0 _ _ (by decide) HD0.out)
  have HD1 := hide (hold 1 _ _ (by decide) HD1.out)
  have HD2 := hide (hold 2 _ _ (by decide) HD2.out)
  have HD3 := hide (hold 3 _ _ (by decide) HD3.out)
  have HD4 := hide (hold 4 _ _ (by decide) HD4.out)
  clear hd hold hown hg hat HO HRD HNX HNR HJO h1 hM hm hBV hs hcl hi0 hz0 hz1' hz2'
  generalize (c.health.map HealthD.cells).length + n2 5 = M5 at *
  have ec : (wz.setCell ⟨cb, 5, none⟩ (.slice P5 M5 Q5)).cell? ⟨cb, 6, none⟩ = some (.slice (A1 6) (n1 6) (q1 6)) := (hj.row.2 6 _ rfl).1
  have ed : (wz.setCell ⟨cb, 5, none⟩ (.slice P5 M5 Q5)).cell? ⟨db, 6, none⟩ = some (.slice (A2 6) (n2 6) (q2 6)) := ((HYD.out.keep hj.size (hj.above HP.out db (by omega) (by omega))).2 6 _ rfl).1
  clear hj
  go_wp2_with (at_builtin; apply Hid.out)
  clear ec ed e1 e2
  generalize (wz.setCell ⟨cb, 5, none⟩ (.slice P5 M5 Q5)) = V6 at *
  clear wz
  refine hide ?_
  obtain ⟨i0, hi0, hz0, hz1', hz2'⟩ := info_parts cause_any_info
  obtain ⟨cs, ds, ho, hx, h1, hBV, hne, hnx⟩ := HJ.out.give HP.out (k := 6) rfl rfl rfl rfl (cfg_one d _ (by simp [cfgRows])) rfl rfl
  obtain ⟨hm, hrd⟩ := hx _ _ _ rfl
  have hs := HJ.out.row.2 6 _ rfl
  have hcl : cb < V6.heap.size := HJ.out.row.1
  dsimp only at hm ho hnx hrd
  have hM : (c.causes.map CauseD.cells).length ≤ 65536 ∧ n2 6 ≤ 65536 := by simp at hm ⊢; omega
  have HNR := hide (hne cb (Nat.le_refl _) (by omega))
  have HO := hide ho
  have HRD := hide hrd
  have HNX := hide hnx
  have HJO := HJ
  clear ho hx hne hnx hrd HJ
  refine wpList_append_any _ rfl _ _ 29 rfl w1.heap.size 82 i0 _ 3 64 Tryz.underlying29 hi0 hz0 hz1' hz2' rfl (by decide) (.slice (A1 6) (n1 6) (q1 6)) _ cs rfl HO.out _ (A2 6) (n2 6) (q2 6) ds rfl HRD.out h1 (by unfold maxLen; omega) (by omega) hBV ?_
  intro v5 wz hown hg hat
  obtain ⟨hj, hd, hold⟩ := HNX.out v5 wz (by rw [← hm]; exact hown) hg hat
  obtain ⟨P6, Q6, rfl⟩ := own_form hown
  have e1 := (World.cell?_of_block (a := ⟨cb, 6, none⟩) (hg.block cb hcl (fun e => HNR.out e.symm))).trans hs.1
  have e2 := (World.frozen?_of_block (a := ⟨cb, 6, none⟩) (hg.block cb hcl (fun e => HNR.out e.symm))).trans hs.2
  have HJ := hide hj
  have HD6 := hide hd
  have HD0 := hide (hold 0 _ _ (by decide) HD0.out)
  have HD1 := hide (hold 1 _ _ (by decide) HD1.out)
  have HD2 := hide (hold 2 _ _ (by decide) HD2.out)
  have HD3 := hide (hold 3 _ _ (by decide) HD3.out)
  have HD4 := hide (hold 4 _ _ (by decide) HD4.out)
  have HD5 := hide (hold 5 _ _ (by decide) HD5.out)
  clear hd hold hown hg hat HO HRD HNX HNR HJO h1 hM hm hBV hs hcl hi0 hz0 hz1' hz2'
  generalize (c.causes.map CauseD.cells).length + n2 6 = M6 at *
  have ec : (wz.setCell ⟨cb, 6, none⟩ (.slice P6 M6 Q6)).cell? ⟨cb, 7, none⟩ = some (.slice (A1 7) (n1 7) (q1 7)) := (hj.row.2 7 _ rfl).1
  have ed : (wz.setCell ⟨cb, 6, none⟩ (.slice P6 M6 Q6)).cell? ⟨db, 7, none⟩ = some (.slice (A2 7) (n2 7) (q2 7)) := ((HYD.out.keep hj.size (hj.above HP.out db (by omega) (by omega))).2 7 _ rfl).1
  clear hj
  go_wp2_with (at_builtin; apply Hid.out)
  clear ec ed e1 e2
  generalize (wz.setCell ⟨cb, 6, none⟩ (.slice P6 M6 Q6)) = V7 at *
  clear wz
  refine hide ?_
  obtain ⟨i0, hi0, hz0, hz1', hz2'⟩ := info_parts works_any_info
  obtain ⟨cs, ds, ho, hx, h1, hBV, hne, hnx⟩ := HJ.out.give HP.out (k := 7) rfl rfl rfl rfl (cfg_one d _ (by simp [cfgRows])) rfl rfl
  obtain ⟨hm, hrd⟩ := hx _ _ _ rfl
  have hs := HJ.out.row.2 7 _ rfl
  have hcl : cb < V7.heap.size := HJ.out.row.1
  dsimp only at hm ho hnx hrd
  have hM : (c.versions.map VerD.cells).length ≤ 65536 ∧ n2 7 ≤ 65536 := by simp at hm ⊢; omega
  have HNR := hide (hne cb (Nat.le_refl _) (by omega))
  have HO := hide ho
  have HRD := hide hrd
  have HNX := hide hnx
  have HJO := HJ
  clear ho hx hne hnx hrd HJ
  refine wpList_append_any _ rfl _ _ 30 rfl w1.heap.size 139 i0 _ 4 48 Tryz.underlying30 hi0 hz0 hz1' hz2' rfl (by decide) (.slice (A1 7) (n1 7) (q1 7)) _ cs rfl HO.out _ (A2 7) (n2 7) (q2 7) ds rfl HRD.out h1 (by unfold maxLen; omega) (by omega) hBV ?_
  intro v5 wz hown hg hat
  obtain ⟨hj, hd, hold⟩ := HNX.out v5 wz (by rw [← hm]; exact hown) hg hat
  obtain ⟨P7, Q7, rfl⟩ := own_form hown
  have e1 := (World.cell?_of_block (a := ⟨cb, 7, none⟩) (hg.block cb hcl (fun e => HNR.out e.symm))).trans hs.1
  have e2 := (World.frozen?_of_block (a := ⟨cb, 7, none⟩) (hg.block cb hcl (fun e => HNR.out e.symm))).trans hs.2
  have HJ := hide hj
  have HD7 := hide hd
  have HD0 := hide (hold 0 _ _ (by decide) HD0.out)
  have HD1 := hide (hold 1 _ _ (by decide) HD1.out)
  have HD2 := hide (hold 2 _ _ (by decide) HD2.out)
  have HD3 := hide (hold 3 _ _ (by decide) HD3.out)
  have HD4 := hide (hold 4 _ _ (by decide) HD4.out)
  have HD5 := hide (hold 5 _ _ (by decide) HD5.out)
  have HD6 := hide (hold 6 _ _ (by decide) HD6.out)
  clear hd hold hown hg hat HO HRD HNX HNR HJO h1 hM hm hBV hs hcl hi0 hz0 hz1' hz2'
  generalize (c.versions.map VerD.cells).length + n2 7 = M7 at *
  have HXK := hide (HYX.out.keep hj.size (hj.above HP.out xb (by omega) (by omega)))
  have HDX := hide (HX.out.keep (G := fun b => w3.heap.size ≤ b) (w' := (wz.setCell ⟨cb, 7, none⟩ (.slice P7 M7 Q7))) hj.size (fun b hb hl => hj.above HP.out b (by omega) hl))
  have HBX := hide (HB.out.trans (hj.below.mono hWB))
  have c0 : (wz.setCell ⟨cb, 7, none⟩ (.slice P7 M7 Q7)).cell? ⟨cb, 0, none⟩ = some (.slice P0 M0 Q0) := (hj.row.2 0 _ rfl).1
  have c1 : (wz.setCell ⟨cb, 7, none⟩ (.slice P7 M7 Q7)).cell? ⟨cb, 1, none⟩ = some (.slice P1 M1 Q1) := (hj.row.2 1 _ rfl).1
  have c2 : (wz.setCell ⟨cb, 7, none⟩ (.slice P7 M7 Q7)).cell? ⟨cb, 2, none⟩ = some (.slice P2 M2 Q2) := (hj.row.2 2 _ rfl).1
  have c3 : (wz.setCell ⟨cb, 7, none⟩ (.slice P7 M7 Q7)).cell? ⟨cb, 3, none⟩ = some (.slice P3 M3 Q3) := (hj.row.2 3 _ rfl).1
  have c4 : (wz.setCell ⟨cb, 7, none⟩ (.slice P7 M7 Q7)).cell? ⟨cb, 4, none⟩ = some (.slice P4 M4 Q4) := (hj.row.2 4 _ rfl).1
  have c5 : (wz.setCell ⟨cb, 7, none⟩ (.slice P7 M7 Q7)).cell? ⟨cb, 5, none⟩ = some (.slice P5 M5 Q5) := (hj.row.2 5 _ rfl).1
  have c6 : (wz.setCell ⟨cb, 7, none⟩ (.slice P7 M7 Q7)).cell? ⟨cb, 6, none⟩ = some (.slice P6 M6 Q6) := (hj.row.2 6 _ rfl).1
  have c7 : (wz.setCell ⟨cb, 7, none⟩ (.slice P7 M7 Q7)).cell? ⟨cb, 7, none⟩ = some (.slice P7 M7 Q7) := (hj.row.2 7 _ rfl).1
  have x0 : (wz.setCell ⟨cb, 7, none⟩ (.slice P7 M7 Q7)).cell? ⟨xb, 0, none⟩ = some (.slice (A3 0) (n3 0) (q3 0)) := (HXK.out.2 0 _ rfl).1
  have x1 : (wz.setCell ⟨cb, 7, none⟩ (.slice P7 M7 Q7)).cell? ⟨xb, 1, none⟩ = some (.slice (A3 1) (n3 1) (q3 1)) := (HXK.out.2 1 _ rfl).1
  have x2 : (wz.setCell ⟨cb, 7, none⟩ (.slice P7 M7 Q7)).cell? ⟨xb, 2, none⟩ = some (.slice (A3 2) (n3 2) (q3 2)) := (HXK.out.2 2 _ rfl).1
  have x3 : (wz.setCell ⟨cb, 7, none⟩ (.slice P7 M7 Q7)).cell? ⟨xb, 3, none⟩ = some (.slice (A3 3) (n3 3) (q3 3)) := (HXK.out.2 3 _ rfl).1
  have x4 : (wz.setCell ⟨cb, 7, none⟩ (.slice P7 M7 Q7)).cell? ⟨xb, 4, none⟩ = some (.slice (A3 4) (n3 4) (q3 4)) := (HXK.out.2 4 _ rfl).1
  have x5 : (wz.setCell ⟨cb, 7, none⟩ (.slice P7 M7 Q7)).cell? ⟨xb, 5, none⟩ = some (.slice (A3 5) (n3 5) (q3 5)) := (HXK.out.2 5 _ rfl).1
  have x6 : (wz.setCell ⟨cb, 7, none⟩ (.slice P7 M7 Q7)).cell? ⟨xb, 6, none⟩ = some (.slice (A3 6) (n3 6) (q3 6)) := (HXK.out.2 6 _ rfl).1
  have x7 : (wz.setCell ⟨cb, 7, none⟩ (.slice P7 M7 Q7)).cell? ⟨xb, 7, none⟩ = some (.slice (A3 7) (n3 7) (q3 7)) := (HXK.out.2 7 _ rfl).1
  clear hj
  go_wp2_with fail
  generalize (wz.setCell ⟨cb, 7, none⟩ (.slice P7 M7 Q7)) = V8 at *
  refine (same_cfg (c.app d) (c.app d) _ _ _ _ _ _ _ _ _ _ _ _ _ _ _ _ V8 (HDX.out.mono (fun _ _ _ => trivial)) (rows_cfg c d V8 _ _ _ _ _ _ _ _ (HD0.out.mono (fun _ _ _ => trivial)) (HD1.out.mono (fun _ _ _ => trivial)) (HD2.out.mono (fun _ _ _ => trivial)) (HD3.out.mono (fun _ _ _ => trivial)) (HD4.out.mono (fun _ _ _ => trivial)) (HD5.out.mono (fun _ _ _ => trivial)) (HD6.out.mono (fun _ _ _ => trivial)) (HD7.out.mono (fun _ _ _ => trivial))) HFX.out HFX.out).mono ?_
  rintro _ w9 ⟨rfl, hb9⟩
  rw [eqB_yes rfl]
  have HB9 := hide (HBX.out.trans (hb9.mono HBX.out.size))
  clear hb9
  go_wp2_with fail
  go_ret
  exact ⟨rfl, HB9.out⟩
theorem parsed_at {l : List UInt8} {at_ er : Nat} {c : CfgD} (h : parseT (lexR l) l.length = (c, at_, er)) (hl : l.length ≤ 65536) : at_ ≤ 65536 := by
  have hk := lex_ok l
  rcases parsed_cases (lexR l) l.length with ⟨c', g0, g1, g2⟩ | ⟨a, f, g0, g1, ⟨g2, g3, _⟩ | ⟨g2, r, g3, g4⟩⟩
  · rw [g2] at h
    injection h with _ h
    injection h with h _
    omega
  · rw [g1] at h
    injection h with _ h
    injection h with h _
    have := hk.at_.1
    omega
  · rw [g1] at h
    injection h with _ h
    injection h with h _
    rcases (cfg_nat (R := (lexR l).1) (S := (lexR l).1) (lexR l).1 (lexR l).1 ⟨rfl, 0, rfl, rfl⟩).cases with ⟨_, _, _, e1, _, _⟩ | ⟨_, _, _, e1, _, _, _, k, e2, _⟩
    · rw [g3] at e1
      cases e1
    · rw [g3] at e1
      injection e1 with _ e1
      rw [← h, g4, e1, e2]
      unfold atT
      rcases Nat.lt_or_ge k (lexR l).1.length with hk2 | hk2
      · rw [List.drop_eq_getElem_cons hk2]
        have := hk.texts _ (List.getElem_mem hk2)
        show ((lexR l).1[k]).at_ ≤ 65536
        omega
      · rw [List.drop_eq_nil_of_le hk2]
        exact hl
theorem appends_any (a b : ByteArray) (W : World) (hE : Hid (Env W)) (hP : Hid (EnvP W)) : Calls Tryz.prog 3 #[.string a, .string b] W fun e w' => e = .returned (.bool true) ∧ Below W.heap.size W w' := by
  by_cases ha : 2500 < a.size
  · exact appends_long a b (.inl ha) W hE hP
  by_cases hb : 2500 < b.size
  · exact appends_long a b (.inr hb) W hE hP
  obtain ⟨⟨c, ta, e⟩, hc⟩ : ∃ x, parseT (lexR a.data.toList) a.size = x := ⟨_, rfl⟩
  obtain ⟨⟨d, tb, f⟩, hd⟩ : ∃ x, parseT (lexR b.data.toList) b.size = x := ⟨_, rfl⟩
  obtain ⟨⟨x, tx, g⟩, hx⟩ : ∃ x, parseT (lexR (a ++ ⟨#[10]⟩ ++ b).data.toList) (a ++ ⟨#[10]⟩ ++ b).size = x := ⟨_, rfl⟩
  have eb : b.data.toList.length = b.size := by simp
  have htb : tb ≤ 65536 := parsed_at (l := b.data.toList) (by rw [eb]; exact hd) (by omega)
  refine appends_short a b (by omega) (by omega) c d x ta e tb f tx g hc hd hx ?_ htb W hE hP
  by_cases he : e = 0
  · subst he
    obtain ⟨h1, h2⟩ := cat_parse a b (by omega) (by omega) hc
    by_cases hf : f = 0
    · subst hf
      have h3 := h1 d tb hd
      rw [hx] at h3
      injection h3 with h3 h4
      injection h4 with h4 h5
      subst h3 h4 h5
      exact .inr (.inr ⟨rfl, rfl, rfl, rfl, fit_of hc, fit_of hd, fit_of hx⟩)
    · have h3 := h2 d tb f hf hd
      rw [hx] at h3
      injection h3 with h3 h4
      injection h4 with h4 h5
      exact .inr (.inl ⟨rfl, hf, h5, h4⟩)
  · exact .inl he
end Go.Proofs.YtlngbjphagnloaaGreatDoor

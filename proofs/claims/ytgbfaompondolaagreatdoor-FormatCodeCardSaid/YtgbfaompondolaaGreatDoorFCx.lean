/-
  nacellelaw09: codes, FormatCode.
-/
import Derived.Test.YtgbfaompondolaaGreatDoorFLv
import Derived.Test.YtgbfaompondolaaGreatDoorPk17
namespace Go.Proofs.YtgbfaompondolaaGreatDoor
open Go.RowKit
attribute [local go_sem] Later.cell
theorem lent_ins_dat {w : World} {B g c : Nat} {l ms : List InsD} (ho : w.ownsRow B 78 4 (.slice (some ⟨g, 0, none⟩) (l.length + 12) c) (l.length + 12) (insR (l ++ ms))) (hc : l.length ≤ c) : DAt w (fun _ => True) (.slice (some ⟨g, 0, none⟩) l.length c) (.row 4 (l.map InsD.cells)) := by
  have hg : g < w.heap.size := (own_lt ho rfl).2
  have hcell : ∀ i j e d, (l.map InsD.cells)[i]? = some e → e[j]? = some d → ∃ u, w.cell? ⟨g, i * 4 + j, none⟩ = some u ∧ d = .leaf u := by
    intro i j e d he hd
    rw [List.getElem?_map] at he
    obtain ⟨x, hx, rfl⟩ := Option.map_eq_some_iff.1 he
    have hil : i < l.length := (List.getElem?_eq_some_iff.1 hx).1
    have hj : j < 4 := (List.getElem?_eq_some_iff.1 hd).1
    rw [show InsD.cells x = (insVs x).map Dat.leaf from rfl, List.getElem?_map] at hd
    obtain ⟨u, hu, rfl⟩ := Option.map_eq_some_iff.1 hd
    exact ⟨u, own4_at ho (by omega) (by rw [List.getElem?_append_left hil]; exact hx) hj hu, rfl⟩
  refine .row g 0 c 4 l.length _ (fun i j => (w.cell? ⟨g, i * 4 + j, none⟩).getD (.bool false)) (by simp) trivial hg (fun i j e d he hd => ?_) (fun i j e d he hd => ?_) hc
  · obtain ⟨u, hu, -⟩ := hcell i j e d he hd
    rw [Nat.zero_add, hu]
    rfl
  · obtain ⟨u, hu, rfl⟩ := hcell i j e d he hd
    rw [hu]
    exact .leaf _
theorem codeE_pair (l : List InsD) : ∃ p q, codeE l = .tuple #[.string p, .int .i64 q] := by
  unfold codeE fitsE
  split
  · split
    · exact ⟨_, _, rfl⟩
    · exact ⟨_, _, rfl⟩
  · exact ⟨_, _, rfl⟩
set_option maxRecDepth 100000 in
set_option maxHeartbeats 4000000 in
theorem codes_any (v : Value) (l : List InsD) (W : World) (hv : Hid (DAt W (fun _ => True) v (.row 4 (l.map InsD.cells)))) (hop : ∀ x ∈ l, x.op ≤ 255) (hn : l.length ≤ 1000000) (hE : Hid (Env W)) (hP : Hid (EnvP W)) :
    Calls Tryz.prog 11 #[v] W fun e w' => e = .returned (.bool true) ∧ Below W.heap.size W w' := by
  have HL := hide (lentInss_any v l W hv hn)
  have HC := hide (fun v V hv hE hP => codesrc_any v l V hv hop hn hE hP)
  have HR := hide (fun V hv => rcode9_any v l V hv hop hn)
  obtain ⟨p, q, hpq⟩ := codeE_pair l
  rw [hpq] at HC HR
  have HK := hide (fun g c V hv ho => keptInss_any v W.heap.size g c l V hv hn ho)
  clear hpq hop
  have hpp : (p == p) = true := by show (p.data == p.data) = true; simp
  have hqq : (q == q) = true := by simp
  go_enter Tryz.func11, Tryz.ntmps11
  go_wp2_with fail
  refine HL.out.mono ?_
  rintro e w1 ⟨g, c, rfl, hown, hgc, hb⟩
  have HO := hide hown
  have HB1 := hide hb
  clear hown hb HL
  have HD1 := hide (lent_ins_dat HO.out (by omega))
  go_wp2_with fail
  refine (HC.out _ w1 HD1 (hide (hE.out.kept HB1.out)) (hide (hP.out.below HB1.out))).mono ?_
  rintro e w2 ⟨rfl, hb⟩
  have HO2 := hide (own_keep HO.out (fun g hg hbg => hb.block g (own_lt HO.out hg).2))
  have HB2 := hide (HB1.out.trans (hb.mono HB1.out.size))
  clear hb HC HD1 HO
  go_wp2_with fail
  refine (HR.out w2 (hide (hv.out.later HB2.out))).mono ?_
  rintro e w3 ⟨rfl, hb⟩
  have HO3 := hide (own_keep HO2.out (fun g hg hbg => hb.block g (own_lt HO2.out hg).2))
  have HB3 := hide (HB2.out.trans (hb.mono HB2.out.size))
  clear hb HR HO2
  go_wp2_with fail
  refine (HK.out g c _ (hide (hv.out.later HB3.out)) HO3).mono ?_
  rintro e w4 ⟨rfl, hb⟩
  have HB4 := hide (HB3.out.trans (hb.mono HB3.out.size))
  clear hb
  go_wp2_with fail
  go_ret
  exact ⟨rfl, HB4.out⟩
set_option maxRecDepth 100000 in
set_option maxHeartbeats 4000000 in
theorem formatCode_true (A : Option Addr) (n c : Nat) (l : List InsD) (W : World) (hln : l.length = n) (hv : Hid (DAt W (fun _ => True) (.slice A n c) (.row 4 (l.map InsD.cells)))) (hop : ∀ x ∈ l, x.op ≤ 255) (hE : Hid (Env W)) (hP : Hid (EnvP W)) :
    Calls Tryz.prog 4 #[.slice A n c] W fun e w' => e = .returned (.bool true) ∧ Below W.heap.size W w' := by
  have HA := hide (fun V hE hP => awake_any V hE hP)
  by_cases h : 100 < n
  · have h1 : (100 : Int) < (n : Int) := by omega
    clear h hv hln
    go_enter Tryz.func4, Tryz.ntmps4
    go_wp2_with fail
    refine (HA.out _ hE hP).mono ?_
    rintro e w1 ⟨rfl, hb⟩
    have HB := hide hb
    clear hb
    go_wp2_with fail
    go_ret
    exact ⟨rfl, HB.out⟩
  · have h1 : ¬ (100 : Int) < (n : Int) := by omega
    have HC := hide (codes_any (.slice A n c) l W hv hop (by omega) hE hP)
    clear h hv hln hop
    go_enter Tryz.func4, Tryz.ntmps4
    go_wp2_with fail
    refine HC.out.mono ?_
    rintro e w1 ⟨rfl, hb⟩
    have HB := hide hb
    clear hb HC
    go_wp2_with fail
    refine (HA.out _ (hide (hE.out.kept HB.out)) (hide (hP.out.below HB.out))).mono ?_
    rintro e w2 ⟨rfl, hb⟩
    have HB2 := hide (HB.out.trans (hb.mono HB.out.size))
    clear hb
    go_wp2_with fail
    go_ret
    exact ⟨rfl, HB2.out⟩
end Go.Proofs.YtgbfaompondolaaGreatDoor

/-
  drain: all frames leave that may leave at a time.
-/
import Derived.Test.YtdfhnbkmppdplaaTab
import Derived.Deep.AppendLies
import Derived.Deep.RegionHeld3
namespace Go.Proofs.Ytdfhnbkmppdplaa
open Go.RowKit
structure Mem (B : Nat) (w0 w : World) (a tb n : Nat) (S : AS) (L : Nat → List Ev) (P Q : Nat → Prop) : Prop where
  sh : OwnSh B w0 w a S P
  tab : Tab w B tb n L Q
  dis : ∀ k, P k → ¬ Q k
  bs : B ≤ w.heap.size
theorem SI.up {bs : List Int} {S : AS} {O L : Nat → List Ev} {t u u' Tf : Int} (h : SI bs S O L t u Tf) (hu : u ≤ u') : SI bs S O L t u' Tf :=
  ⟨h.len, fun i hi => by
    have := h.qi i hi
    exact ⟨this.bag_, this.b1, this.b2, this.split, this.vl, this.from_, this.wait, fun y hy => by have := this.past y hy; omega, this.pos, this.ord, this.few⟩, h.now⟩
theorem QI.len {bag : Int} {q : AQ} {O L : List Ev} {i : Nat} {t u Tf : Int} (h : QI bag q O L i t u Tf) : L.length ≤ O.length := by
  obtain ⟨H, h1, h2, _⟩ := h.split
  have := congrArg List.length h2
  simp only [List.length_map] at this
  rw [h1, List.length_append]; omega
theorem Mem.push {B : Nat} {w0 W w3 : World} {a tb n : Nat} {S : AS} {L : Nat → List Ev} {P Q : Nat → Prop} {V : Nat → Value} (sh : OwnSh B w0 W a S P) (hV : TB W B tb n L Q V) (dis : ∀ k, P k → ¬ Q k) {i : Nat} (hi : i < n) (e : Ev) {o : Obj} {g cap m : Nat} {xs : List Value} (hm : m = (L i).length + 1) (hxs : xs = evs (L i ++ [e]))
    (hown : w3.ownsRow B 33 2 (.slice (some ⟨g, 0, none⟩) m cap) m xs) (hgr : ((W.alloc o).drew).grownBy w3 (V i).ownBlock) (hat : (V i).ownBlock = some g ∨ g = (W.alloc o).drew.heap.size) (hlt : g < w3.heap.size) (hB : B ≤ W.heap.size) :
    Mem B w0 (w3.setCell ⟨tb, i, none⟩ (.slice (some ⟨g, 0, none⟩) m cap)) a tb n S (upd L i (L i ++ [e])) P (fun k => Q k ∨ k = g) ∧ Kept Q W (w3.setCell ⟨tb, i, none⟩ (.slice (some ⟨g, 0, none⟩) m cap)) ∧ (Q g ∨ W.heap.size ≤ g) := by
  have hsz : (W.alloc o).drew.heap.size = W.heap.size + 1 := by show (W.alloc o).heap.size = _; simp
  obtain ⟨h1, h2⟩ := (hV.alloc o).drew.push hi e hm hxs hown hgr (hat.imp id (fun h => by rw [h]; exact Nat.le_refl _)) hlt (by rw [hsz]; omega)
  have hk : Kept Q W (w3.setCell ⟨tb, i, none⟩ (.slice (some ⟨g, 0, none⟩) m cap)) := (((Kept.refl Q W).alloc o).drew).trans h2
  have hg : Q g ∨ W.heap.size ≤ g := by
    rcases hat with hat | hat
    · exact .inl (hV.foot i hi g hat).1
    · right; rw [hat, hsz]; omega
  refine ⟨⟨⟨sh.at_.frame hk (fun k hp => dis k hp), sh.own, sh.bel.trans (hk.below hB (fun k hk hq => by have := hV.low k hq; omega))⟩, ⟨_, h1⟩, fun k hp hq => ?_, Nat.le_trans hB hk.size⟩, hk, hg⟩
  rcases hq with hq | rfl
  · exact dis k hp hq
  · rcases hg with hg | hg
    · exact dis k hp hg
    · have := sh.at_.inn k hp; omega
/-- What drain leaves. -/
def Drained (B : Nat) (w0 w w' : World) (a tb n : Nat) (bs : List Int) (O : Nat → List Ev) (t Tf : Int) (P Q : Nat → Prop) : Prop :=
  ∃ S L P' Q', Mem B w0 w' a tb n S L P' Q' ∧ SI bs S O L (t + 1) (t + 1) Tf ∧ Kept (fun k => P k ∨ Q k) w w' ∧ (∀ k, P' k → P k ∨ w.heap.size ≤ k) ∧ (∀ k, Q' k → Q k ∨ w.heap.size ≤ k)
set_option maxRecDepth 100000 in
set_option maxHeartbeats 2000000 in
theorem drain_any (B : Nat) (w0 w : World) (a tb n : Nat) (bs : List Int) (S : AS) (O L : Nat → List Ev) (P Q : Nat → Prop) (t Tf : Int) (hn : Hid (bs.length = n)) (hn6 : n ≤ 16) (t0 : 0 ≤ t) (ht : t ≤ 1000000)
    (hM : Hid (Mem B w0 w a tb n S L P Q)) (hS : Hid (SI bs S O L t t Tf)) (hF : Hid (∀ i, i < n → (O i).length ≤ 60)) :
    Calls Try.prog 30 #[.pointer (some ⟨a, 0, none⟩), .int .i64 t, .slice (some ⟨tb, 0, none⟩) n n] w fun e w' => e = .returned (.bool true) ∧ Drained B w0 w w' a tb n bs O t Tf P Q := by
  obtain ⟨i0, hi0, hz0, hz1, hz2⟩ := info_parts evInfo
  go_enter Try.func30, Try.ntmps30
  go_wp2_with fail
  go_loopw [7] (fun v7 wr => ∃ (j : Nat) (S' : AS) (L' : Nat → List Ev) (P' Q' : Nat → Prop), v7 = .int .i64 j ∧ j + pend S' t n ≤ n ∧ Mem B w0 wr a tb n S' L' P' Q' ∧ SI bs S' O L' t (t + 1) Tf ∧ Kept (fun k => P k ∨ Q k) w wr ∧ (∀ k, P' k → P k ∨ w.heap.size ≤ k) ∧ (∀ k, Q' k → Q k ∨ w.heap.size ≤ k)) (fun v7 _ => n - (intOf v7).toNat)
  case atStart => exact ⟨0, S, L, P, Q, rfl, by have := pend_le S t n; omega, hM.out, hS.out.up (by omega), Kept.refl _ _, fun _ h => .inl h, fun _ h => .inl h⟩
  case round =>
    obtain ⟨j, S1, L1, P1, Q1, rfl, hj, hm, hs, hk, hp, hq⟩ := hrel
    have hjn : j ≤ n := by omega
    have HJ := hide hj
    have HM := hide hm
    have HK := hide hk
    have HP := hide hp
    have HQ := hide hq
    have hj0 : (0 : Int) ≤ (j : Int) := by omega
    have hj1 : (j : Int) < 100 := by omega
    clear hj hm hk hp hq
    rcases hs.step (Int.le_refl _) (by omega) with ⟨hnx, hsi⟩ | ⟨k, x, S2, hkn, hnx, hxv, hsi, hpd⟩
    · have HN := hide hnx
      have HSI := hide hsi
      clear hnx hsi hs
      go_wp2_with fail
      refine (next_no a S1 P1 t wr (hide HM.out.sh.at_) (hide (by rw [HN.out]))).mono ?_
      rw [HN.out]
      unfold zeroFrame
      rintro e w1 ⟨rfl, hs1, hk1⟩
      have HS1 := hide hs1
      have HK1 := hide hk1
      clear hs1 hk1
      go_wp2_with fail
      go_ret
      have hb := (Below.refl w1.heap.size w1).alloc (Nat.le_refl _) (.cells #[.int .i64 0, .int .i64 0, .int .i64 0, .slice none 0 0] 42)
      refine ⟨rfl, _, _, P1, Q1, ⟨(HM.out.sh.kept HM.out.bs HK1.out HS1.out (fun _ h => .inl h)).next (Nat.le_trans HM.out.bs HK1.out.size) hb, (HM.out.tab.frame HK1.out (fun k hq hp => HM.out.dis k hp hq)).below hb, HM.out.dis, Nat.le_trans (Nat.le_trans HM.out.bs HK1.out.size) hb.size⟩, HSI.out, (HK.out.trans2 HK1.out (fun i hi hp => (HP.out i hp).imp id (fun h => by omega))).trans (.of_below hb), HP.out, HQ.out⟩
    · rw [hn.out] at hkn hpd
      have HN := hide hnx
      have HSI := hide hsi
      have HPD := hide hpd
      obtain ⟨xt, xv, xn, xs, xb⟩ := x
      change xv = (k : Int) at hxv
      subst hxv
      have HLE := hide ((hs.qi k (by rw [hn.out]; exact hkn)).len)
      clear hnx hsi hpd hs
      have hjn2 : j < n := by have := HPD.out; have := HJ.out; omega
      have hk0 : (0 : Int) ≤ (k : Int) := by omega
      have hk1 : (k : Int) < (n : Int) := by omega
      go_wp2_with fail
      refine (next_yes a S1 P1 t ⟨xt, k, xn, xs, xb⟩ wr (hide HM.out.sh.at_) (hide (by rw [HN.out]))).mono ?_
      rw [HN.out]
      rintro e w1 ⟨gg, rfl, hpg, hgb, hs1, hk1⟩
      have hsh := hide (HM.out.sh.kept HM.out.bs hk1 hs1 (fun k hk => .inl hk.1))
      have htb := hide (HM.out.tab.frame hk1 (fun k hq hp => HM.out.dis k hp hq))
      have HK1 := hide (HK.out.trans2 hk1 (fun i hi hp => (HP.out i hp).imp id (fun h => by omega)))
      have HBS := hide (Nat.le_trans HM.out.bs hk1.size)
      have HSZ := hide hk1.size
      clear hpg hgb hs1 hk1
      go_wp2_with fail
      have hbW := (Below.refl w1.heap.size w1).alloc (Nat.le_refl _) (.cells #[.int .i64 k, .int .i64 xn, .int .i64 xs, .slice (some ⟨gg, 0, none⟩) xb.length xb.length] 42)
      have bx := heap_alloc_new w1 (.cells #[.int .i64 k, .int .i64 xn, .int .i64 xs, .slice (some ⟨gg, 0, none⟩) xb.length xb.length] 42)
      have hlW : w1.heap.size < (w1.alloc (.cells #[.int .i64 k, .int .i64 xn, .int .i64 xs, .slice (some ⟨gg, 0, none⟩) xb.length xb.length] 42)).heap.size := by simp
      generalize w1.alloc (.cells #[.int .i64 k, .int .i64 xn, .int .i64 xs, .slice (some ⟨gg, 0, none⟩) xb.length xb.length] 42) = W at *
      have x0 := cell_of_row W w1.heap.size 0 _ _ _ bx
      have x2 := cell_of_row W w1.heap.size 2 _ _ _ bx
      simp only [List.getElem?_toArray, List.getElem?_cons_succ, List.getElem?_cons_zero] at x0 x2
      clear bx
      have HSH := hide (hsh.out.next HBS.out hbW)
      have HKW := hide (HK1.out.trans (.of_below hbW))
      obtain ⟨V, hV1⟩ := htb.out
      have hne : some w1.heap.size ≠ (V k).ownBlock := fun e => by have := hV1.inn _ (hV1.foot k hkn _ e.symm).1; omega
      have hV := hV1.frame (F := fun _ => False) (.of_below hbW) (fun _ _ h => h)
      clear hV1
      have HV := hide hV
      have cV := hV.cell hkn
      have fV := hV.frozen k
      have rV := hV.row k hkn
      have tl := hV.inn tb hV.qt
      have hlen : (L1 k).length ≤ 60 := Nat.le_trans HLE.out (hF.out k hkn)
      have hBW : B ≤ W.heap.size := HSH.out.at_.inn a (by obtain ⟨_, _, _, _, _, h⟩ := HSH.out.at_; exact h.pa) |> fun h => by have := HBS.out; omega
      have HBW := hide hbW
      have HR := hide rV
      clear hV hsh htb HK1 hbW rV
      go_region_law (refine step_append_lies (o := ⟨some 49, _, _, _, _, _⟩) _ rfl (.tmp 43) (.tmp 48) 31 rfl B 33 i0 _ 2 16 Try.underlying31 hi0 hz0 hz1 hz2 rfl (by decide) (V k) (L1 k).length (evs (L1 k)) rfl (HR.out.alloc _) ⟨W.heap.size, 0, none⟩ 1 1 [.int .i64 t, .int .i64 xs] rfl rfl (news2 _ _ _ _) (by simp [Value.oneCell']) (by decide) (by unfold maxLen; omega) (by omega) (by simp; omega) _ rfl ?_; intro g cap w3 hown hgrow hat hlt; obtain ⟨c3, f3, l3⟩ := ((HV.out.alloc _).drew).after hkn hgrow; have x3 := far3 hgrow x0 hne)
      all_goals
        obtain ⟨hm3, hk3, hg3⟩ := Mem.push HSH.out HV.out (fun q hp => HM.out.dis q hp.1) hkn (t, xs) rfl (evs_snoc _ _) hown hgrow hat hlt hBW
        have HM3 := hide hm3
        have HK3 := hide hk3
        have HG3 := hide hg3
        clear hm3 hk3 hg3 hown hgrow hat hlt
        go_wp2_with fail
        go_roundw
        case rel => exact ⟨j + 1, S2, _, _, _, by go_num, by have := HPD.out; have := HJ.out; omega, HM3.out, HSI.out, HKW.out.trans2 HK3.out (fun i hi hq => (HQ.out i hq).elim .inr (fun h => by omega)), (fun q hq => HP.out q hq.1), fun q hq => hq.elim (HQ.out q) (fun e => by subst e; exact HG3.out.elim (HQ.out _) (fun h => .inr (by have := HKW.out.size; omega)))⟩
        case measure => simp [intOf]; omega
end Go.Proofs.Ytdfhnbkmppdplaa

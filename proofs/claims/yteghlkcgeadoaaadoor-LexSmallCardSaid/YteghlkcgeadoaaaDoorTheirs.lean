/-
  lex: theirs: tokens converted to those of the reference.
-/
import Derived.Test.YteghlkcgeadoaaaDoorTokR
import Derived.Deep.RegionHeld3
import Derived.Deep.DeepMust
import Derived.Test.YteghlkcgeadoaaaDoorAppAny
import Derived.IntWalk
namespace Go.Proofs.YteghlkcgeadoaaaDoor
open Go.RowKit
def KindOk (ts : List TokZ) : Prop := ∀ t ∈ ts, 0 ≤ t.kind ∧ t.kind ≤ 255
theorem news_of_drew {W : World} {t : TypeId} {cs : Array Value} {b : Nat} (hb : b = W.heap.size) : ∀ j u, cs.toList[j]? = some u → (W.alloc (.cells cs t)).drew.cell? ((⟨b, 0, none⟩ : Addr).add j) = some u := by
  subst hb
  exact World.news_of_block (cs := cs) (t := t) (fr := (0, 0)) (heap_alloc_new W _)
theorem own_drew {w : World} {base e size n : Nat} {v : Value} {xs : List Value} (h : w.ownsRow base e size v n xs) : w.drew.ownsRow base e size v n xs := h
set_option maxRecDepth 100000 in
set_option maxHeartbeats 1000000 in
theorem theirs_any (A : Option Addr) (n cap : Nat) (ts : List TokZ) (w : World) (HL : Hid (ts.length = n)) (hn : n ≤ 1048576) (hR : Hid (TRows .u8 w A ts)) (hK : Hid (KindOk ts)) :
    Calls Tryd.prog 10 #[.slice A n cap] w fun e w' => ∃ a c, e = .returned (.slice a n c) ∧ TRows .i64 w' a ts ∧ Below w.heap.size w w' := by
  obtain ⟨i0, hi0, hz0, hz1, hz2⟩ := info_parts rtokInfo
  go_enter Tryd.func10, Tryd.ntmps10
  go_wp2_with fail
  go_loopw [3, 4] (fun v3 v4 wr => ∃ k : Nat, k ≤ n ∧ v4 = .int .i64 k ∧ wr.ownsRow w.heap.size 40 3 v3 k (flatT .i64 (ts.take k)) ∧ Below w.heap.size w wr) (fun _ v4 _ => n - (intOf v4).toNat)
  case atStart => exact ⟨0, by omega, rfl, World.ownsRow_nil _ _ _ _, Below.refl _ _⟩
  case round =>
    obtain ⟨k, hk, rfl, hown, hbr⟩ := hrel
    have HOW := hide hown
    have HBR := hide hbr
    have hz := hbr.size
    clear hown hbr
    by_cases hlt : k < n
    case neg =>
      obtain rfl : k = n := by omega
      have HO : Hid (∃ a c, u3 = .slice a k c ∧ TRows .i64 wr a ts) := by
        have := HOW.out
        rw [List.take_of_length_le (by rw [HL.out]; omega)] at this
        exact trows_own this HL.out
      obtain ⟨a, c, hu, hT⟩ := HO.out
      have HT := hide hT
      subst hu
      clear hT HOW HO
      go_wp2_with fail
      go_ret
      exact ⟨_, _, rfl, HT.out, HBR.out⟩
    case pos =>
      obtain ⟨b, off, t, rfl, hbb, ht, q0, q1, q2⟩ := trow_at HL hR HBR.out hlt
      have hbr' : b < wr.heap.size := by omega
      obtain ⟨kd0, kd1⟩ := hK.out t (List.mem_of_getElem? ht.out)
      have HS := hide (flatT_step .i64 ts k t ht.out)
      obtain ⟨tk, tx, ta⟩ := t
      simp only at q0 q1 q2 kd0 kd1
      simp only [TokZ.cells] at HS
      have k0 : (0 : Int) ≤ (k : Int) := by omega
      have k1 : (k : Int) < (n : Int) := by omega
      have ew : IntKind.i64.wrap tk = tk := IntWalk.i64_in _ (by omega)
      go_wp2_with fail
      go_region_held3 (fun w' => w'.cell? ⟨b, off + k * 3, none⟩ = some (.int .u8 tk) ∧ w'.cell? ⟨b, off + k * 3 + 1, none⟩ = some (.string tx) ∧ w'.cell? ⟨b, off + k * 3 + 2, none⟩ = some (.int .i64 ta)) (go_keep)
        (first
          | (go_split_ands; refine step_append_any (o := ⟨some 30, _, _, _, _, _⟩) _ rfl (.tmp 11) (.tmp 29) 33 rfl w.heap.size 40 i0 _ 3 32 Tryd.underlying33 hi0 hz0 hz1 hz2 rfl (by decide) u3 k (flatT .i64 (ts.take k)) rfl (own_drew (HOW.out.alloc _)) (wr.heap.size + 1) (some ⟨wr.heap.size, 0, none⟩) 1 1 [.int .i64 tk, .string tx, .int .i64 ta] rfl ⟨rfl, fun _ => ⟨_, rfl, by simp, news_of_drew rfl⟩⟩ (by simp [Value.oneCell']) (by unfold maxLen; omega) (by omega) (by simp; omega) ?_; intro v1 w1 hown1 hg1 hat1; have HG : Hid (Below w.heap.size wr w1) := hide (Below.grown (((Below.refl _ wr).alloc (by omega) _).drew) hg1 (by simp; omega) (fun g hg => (HOW.out.lt g hg).1)); have r0 := (HG.out.cell (p := ⟨b, off + k * 3, none⟩) hbb).trans q0; have r1 := (HG.out.cell (p := ⟨b, off + k * 3 + 1, none⟩) hbb).trans q1; have r2 := (HG.out.cell (p := ⟨b, off + k * 3 + 2, none⟩) hbb).trans q2; rw [HS.out] at hown1; have HO := hide hown1; clear hown1 hg1 hat1))
      clear r0 r1 r2
      go_wp2_with fail
      go_roundw
      case rel => exact ⟨k + 1, by omega, by go_num, HO.out, HBR.out.trans HG.out⟩
      case measure => simp [intOf]; omega
end Go.Proofs.YteghlkcgeadoaaaDoor

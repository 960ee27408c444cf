/-
  ShaperTells: one operation: the state, the tail.
-/
import Derived.Test.YthahnliddoijoaaRefF
import Derived.Test.YthahnliddoijoaaLater
import Derived.Test.YthahnliddoijoaaAwake
namespace Go.Proofs.Ythahnliddoijoaa
open Go.RowKit
/-- The shaper at block a, the reference's state in the variable at block rb. -/
structure St (w : World) (a rb B : Nat) (S : AS) (R : RS) (P : Nat → Prop) (bA lA iA : Option Addr) (bc lc ic : Nat) (ps : List (It × Value)) : Prop where
  sh : SAt w a S P
  var : w.heap[rb]? = some (.cells #[.slice bA R.bags.length bc, .int .i64 R.clock, .slice lA R.left.length lc, .slice iA R.items.length ic] 45 (0, 0))
  at_ : RAt w R bA lA iA ps (fun k => P k ∨ k = rb)
  cap : R.items.length ≤ ic
  sim : Sim S R
  rp : ¬ P rb
  low : ∀ k, P k → B ≤ k
  rlow : B ≤ rb
  pin : ∀ k, P k → k < w.heap.size
  sml : ∀ x ∈ R.items, x.bytes.length ≤ 1000
def StE (w : World) (a rb B m : Nat) : Prop := ∃ S R P bA lA iA bc lc ic ps, St w a rb B S R P bA lA iA bc lc ic ps ∧ R.items.length ≤ m
theorem St.rin {w : World} {a rb B : Nat} {S : AS} {R : RS} {P : Nat → Prop} {bA lA iA : Option Addr} {bc lc ic : Nat} {ps : List (It × Value)} (h : St w a rb B S R P bA lA iA bc lc ic ps) : rb < w.heap.size := blk_in h.var
theorem St.below {w w' : World} {a rb B : Nat} {S : AS} {R : RS} {P : Nat → Prop} {bA lA iA : Option Addr} {bc lc ic : Nat} {ps : List (It × Value)} (h : St w a rb B S R P bA lA iA bc lc ic ps) (hb : Below w.heap.size w w') : St w' a rb B S R P bA lA iA bc lc ic ps :=
  ⟨h.sh.below hb, keep h.var hb, h.at_.below hb, h.cap, h.sim, h.rp, h.low, h.rlow, fun k hk => Nat.lt_of_lt_of_le (h.pin k hk) hb.size, h.sml⟩
theorem sat_inn {w : World} {a : Nat} {S : AS} {P : Nat → Prop} (h : SAt w a S P) : ∀ k, P k → k < w.heap.size := by
  obtain ⟨A, b, cap, D, G, h⟩ := h
  exact h.inn
theorem whenV_pair (o : Option Int) : ∃ t b, whenV o = .tuple #[.int .i64 t, .bool b] := by cases o <;> exact ⟨_, _, rfl⟩
theorem StE.of {w w' : World} {a rb B m : Nat} {S : AS} {R : RS} {P : Nat → Prop} {bA lA iA : Option Addr} {bc lc ic : Nat} {ps : List (It × Value)} (h : St w a rb B S R P bA lA iA bc lc ic ps) (hm : R.items.length ≤ m) (hb : Below w.heap.size w w') : StE w' a rb B m := ⟨S, R, P, bA, lA, iA, bc, lc, ic, ps, h.below hb, hm⟩
/-- What the tail of an operation leaves. -/
def StepR (w w' : World) (a rb B m : Nat) (e : Ending) : Prop := e = .returned (.bool true) ∧ StE w' a rb B m ∧ Below B w w'
attribute [local go_sem] Later.cell
set_option maxRecDepth 100000 in
set_option maxHeartbeats 1000000 in
theorem step_when (a rb B m : Nat) (w : World) (h : Hid (StE w a rb B m)) (kind t vl tag : Int) (k0 : ¬ kind = 0) (k1 : ¬ kind = 1) (k2 : ¬ kind = 2) :
    Calls Try.prog 18 #[.pointer (some ⟨a, 0, none⟩), .pointer (some ⟨rb, 0, none⟩), .int .i64 kind, .int .i64 t, .int .i64 vl, .int .u8 tag] w fun e w' => StepR w w' a rb B (m + 1) e := by
  obtain ⟨S, R, P, bA, lA, iA, bc, lc, ic, ps, hs, hm⟩ := h.out
  have HS := hide hs
  have HMM := hide (show R.items.length ≤ m + 1 by omega)
  have HBB := hide (Below.refl B w)
  clear hs h hm
  go_enter Try.func18, Try.ntmps18
  go_wp2_with fail
  -- HS : Hid (St w ..), HMM : Hid (R.items.length ≤ _), HBB : Hid (Below B w w)
  have hBl : B ≤ w.heap.size := by have h1 := HS.out.rlow; have h2 := HS.out.rin; omega
  have HFIN : Hid (∀ w', Below w.heap.size w w' → StepR w w' a rb B (m + 1) (.returned (.bool true))) := fun w' hb => ⟨rfl, StE.of HS.out HMM.out hb, HBB.out.trans (hb.mono hBl)⟩
  have HW1 := hide (fun W (hb : Below w.heap.size w W) => when_any a _ _ W (hide (HS.out.sh.below hb)))
  have HW2 := hide (fun W (hb : Below w.heap.size w W) => when_r _ _ _ _ bc lc ic _ _ W (hide (HS.out.at_.below hb)))
  have HW3 := hide (fun W (hb : Below w.heap.size w W) => waiting_any a _ _ vl W (hide (HS.out.sh.below hb)))
  have HW4 := hide (fun W (hb : Below w.heap.size w W) => rwaiting_any _ _ _ _ bc lc ic _ _ vl W (hide (HS.out.at_.below hb)))
  rw [HS.out.sim.when] at HW2
  rw [HS.out.sim.waiting] at HW4
  obtain ⟨tw, bw, HWV⟩ := whenV_pair (AS.when S)
  rw [HWV] at HW1 HW2
  unfold RSV at HW2 HW4
  generalize AS.waiting S vl = wt at *
  have HV := hide HS.out.var
  have hrin := HS.out.rin
  clear HWV HS HMM HBB
  generalize (RS.bags R).length = nb at *
  generalize (RS.left R).length = nl at *
  generalize RS.clock R = ck at *
  generalize (RS.items R).length = ni at *
  obtain ⟨x0, x1, x2, x3, xl⟩ := four_of HV.out
  go_wp2_with fail
  refine (HW1.out _ (Below.refl _ _)).mono ?_
  rintro e w' ⟨rfl, d, rfl⟩
  go_wp2_with fail
  refine (HW2.out _ (below_drewN (Below.refl _ _) d)).mono ?_
  rintro e wz ⟨rfl, hbz⟩
  have HBZ := hide ((below_drewN (Below.refl w.heap.size w) d).trans hbz)
  have hzl := HBZ.out.size
  have HVZ := hide (keep HV.out HBZ.out)
  clear hbz x0 x1 x2 x3 xl
  obtain ⟨x0, x1, x2, x3, xl⟩ := four_of HVZ.out
  have hrz : rb < wz.heap.size := by omega
  have HW3' := hide (fun s : Later wz => HW3.out s.w (HBZ.out.trans (s.below.mono hzl)))
  have HW4' := hide (fun s : Later wz => HW4.out s.w (HBZ.out.trans (s.below.mono hzl)))
  clear HW1 HW2 HW3 HW4
  go_wp2_with fail
  refine wp_region_later (W := wz) (by kernel_rfl) (by kernel_rfl) ?_
  iterate 20 (go_big_quiet_step ((first
    | (go_at_call 12; exact Later.call_same ((HW3'.out _).mono fun e w' h => ⟨h.1, h.2⟩))
    | (go_at_call 40; exact Later.call (HW4'.out _)))))
  refine wpQuiet_nil ?_
  rintro _ ⟨s, rfl⟩
  go_wp2_with fail
  go_ret
  exact HFIN.out _ (HBZ.out.trans (s.below.mono hzl))
end Go.Proofs.Ythahnliddoijoaa

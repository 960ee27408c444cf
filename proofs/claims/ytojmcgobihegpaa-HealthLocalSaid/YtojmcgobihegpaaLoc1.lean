/-
  HealthLocal: the walk.
-/
import Derived.Test.YtojmcgobihegpaaOrd1
import Derived.Test.YtojmcgobihegpaaAppAny
import Derived.Deep.RegionHeld3
import Derived.Deep.DeepCutAuto
namespace Go.Proofs.Ytojmcgobihegpaa
open Go.RowKit
theorem hrows_reads {B n : Nat} {w : World} {A : Option Addr} {rs : List HRow} (h : HRows B w A rs) (hl : rs.length = n) : Reads w B 5 A n (flat rs) := by
  have hfl : ∀ l : List HRow, (flat l).length = l.length * 5 := by
    intro l; induction l with
    | nil => rfl
    | cons x l ih => show (x.cells.toList ++ flat l).length = _; rw [List.length_append, ih]; simp only [List.length_cons]; have : x.cells.toList.length = 5 := rfl; omega
  refine ⟨by rw [hfl, hl], fun hn => ?_⟩
  rcases h with h | ⟨b, off, rfl, hb, hc⟩
  · rw [h] at hl; simp at hl; omega
  · refine ⟨⟨b, off, none⟩, rfl, hb, fun j u hu => ?_⟩
    have hj : j < rs.length * 5 := by rw [← hfl]; exact (List.getElem?_eq_some_iff.1 hu).1
    have hi : j / 5 < rs.length := by omega
    have hr : rs[j / 5]? = some rs[j / 5] := List.getElem?_eq_getElem hi
    generalize rs[j / 5] = r at hr
    have hf := flat_at rs (j / 5) r hr (j % 5) (by omega)
    have hjj : j / 5 * 5 + j % 5 = j := by omega
    rw [hjj, hu] at hf
    obtain ⟨_, c0, c1, c2, c3, c4⟩ := hc _ r hr
    have hadd : (Addr.add ⟨b, off, none⟩ j) = ⟨b, off + j, none⟩ := by
      unfold Addr.add; split
      · rename_i h0; subst h0; rfl
      · rfl
    rw [hadd]
    have h5 : j % 5 = 0 ∨ j % 5 = 1 ∨ j % 5 = 2 ∨ j % 5 = 3 ∨ j % 5 = 4 := by omega
    rcases h5 with h | h | h | h | h <;> rw [h] at hf <;> simp [HRow.cells] at hf <;> subst hf
    · rw [← c0]; congr 2; omega
    · rw [← c1]; congr 2; omega
    · rw [← c2]; congr 2; omega
    · rw [← c3]; congr 2; omega
    · rw [← c4]; congr 2; omega
theorem hrows_take {B : Nat} {w : World} {A : Option Addr} {rs : List HRow} (h : HRows B w A rs) (k : Nat) : HRows B w A (rs.take k) := by
  rcases h with h | ⟨b, off, rfl, hb, hc⟩
  · exact .inl (by rw [h]; simp)
  · exact .inr ⟨b, off, rfl, hb, fun i r hr => hc i r (by rw [List.getElem?_take] at hr; split at hr; exact hr; simp at hr)⟩
theorem hrows_drop {B : Nat} {w : World} {A : Option Addr} {rs : List HRow} (h : HRows B w A rs) (k : Nat) : HRows B w (A.map (·.add (k * 5))) (rs.drop k) := by
  rcases h with h | ⟨b, off, rfl, hb, hc⟩
  · exact .inl (by rw [h]; simp)
  · refine .inr ⟨b, off + k * 5, ?_, hb, fun i r hr => ?_⟩
    · simp only [Option.map_some, Option.some.injEq]
      unfold Addr.add; split
      · rename_i h0; rw [h0]; rfl
      · rfl
    · rw [List.getElem?_drop] at hr
      have := hc _ r hr
      have e : off + (k + i) * 5 = off + k * 5 + i * 5 := by omega
      rw [e] at this
      exact this
theorem own_empty {w : World} {base g : Nat} {t : TypeId} (h : w.heap[g]? = some (.cells #[] t (0, 0))) (hb : base ≤ g) : w.ownsRow base t 5 (.slice (some ⟨g, 0, none⟩) 0 0) 0 [] :=
  ⟨rfl, .inr ⟨g, 0, #[], rfl, hb, h, Nat.le_refl _, by unfold maxLen; omega, rfl, rfl⟩⟩
theorem reads_blk {w : World} {g : Nat} {t : TypeId} {c0 c1 c2 c3 c4 : Value} (h : Blk w g t #[c0, c1, c2, c3, c4]) : Reads w w.heap.size 5 (some ⟨g, 0, none⟩) 1 [c0, c1, c2, c3, c4] :=
  ⟨rfl, fun _ => ⟨⟨g, 0, none⟩, rfl, blk_lt h, World.news_of_block (cs := #[c0, c1, c2, c3, c4]) (t := t) (fr := (0, 0)) h⟩⟩
theorem sfrom {b : Nat} {W0 w' : World} {c0 c1 c2 c3 c4 : Value} (h0 : W0.cell? ⟨b, 0, none⟩ = some c0) (h1 : W0.cell? ⟨b, 1, none⟩ = some c1) (h2 : W0.cell? ⟨b, 2, none⟩ = some c2) (h3 : W0.cell? ⟨b, 3, none⟩ = some c3) (h4 : W0.cell? ⟨b, 4, none⟩ = some c4)
    (hB : Below (b + 1) W0 w') : Below (b + 1) W0 w' ∧ w'.cell? ⟨b, 0, none⟩ = some c0 ∧ w'.cell? ⟨b, 1, none⟩ = some c1 ∧ w'.cell? ⟨b, 2, none⟩ = some c2 ∧ w'.cell? ⟨b, 3, none⟩ = some c3 ∧ w'.cell? ⟨b, 4, none⟩ = some c4 :=
  ⟨hB, (hB.cell (p := ⟨b, 0, none⟩) (by simp)).trans h0, (hB.cell (p := ⟨b, 1, none⟩) (by simp)).trans h1, (hB.cell (p := ⟨b, 2, none⟩) (by simp)).trans h2, (hB.cell (p := ⟨b, 3, none⟩) (by simp)).trans h3, (hB.cell (p := ⟨b, 4, none⟩) (by simp)).trans h4⟩
theorem heapA (W : World) (o : Obj) : (W.alloc o).drew.heap[W.heap.size]? = some o := heap_alloc_new W o
theorem heapB (W : World) (o o' : Obj) : ((W.alloc o).alloc o').drew.heap[W.heap.size]? = some o := (Below.heap_alloc (W.alloc o) o' W.heap.size (by simp)).trans (heap_alloc_new W o)
theorem heapC (W : World) (o o' : Obj) : ((W.alloc o).alloc o').drew.heap[W.heap.size + 1]? = some o' := by
  have := heap_alloc_new (W.alloc o) o'
  rw [World.size_alloc] at this
  exact this
theorem flat_one (rs : List HRow) : ∀ u ∈ flat rs, u.oneCell' = true := by
  intro u hu
  obtain ⟨r, _, hr⟩ := List.mem_flatMap.1 hu
  simp [HRow.cells] at hr
  rcases hr with rfl | rfl | rfl | rfl | rfl <;> rfl
theorem flat_len (l : List HRow) : (flat l).length = l.length * 5 := by
  induction l with
  | nil => rfl
  | cons x l ih => show (x.cells.toList ++ flat l).length = _; rw [List.length_append, ih]; simp only [List.length_cons]; have : x.cells.toList.length = 5 := rfl; omega
theorem flat_drop (l : List HRow) (k : Nat) : (flat l).drop (k * 5) = flat (l.drop k) := by
  have h : flat l = flat (l.take k) ++ flat (l.drop k) := by unfold flat; rw [← List.flatMap_append, List.take_append_drop]
  rcases Nat.lt_or_ge k l.length with hk | hk
  · rw [h, List.drop_append_of_le_length (by rw [flat_len, List.length_take]; omega), List.drop_eq_nil_of_le (by rw [flat_len, List.length_take]; omega)]; rfl
  · rw [List.drop_eq_nil_of_le (by rw [flat_len]; omega), List.drop_eq_nil_of_le hk]; rfl
set_option maxRecDepth 100000 in
set_option maxHeartbeats 6000000 in
theorem loc_main (A : Option Addr) (n cap : Nat) (rs : List HRow) (r : HRow) (at_ : Int) (m p : ByteArray) (f : Int) (w : World) (hn : n ≤ 9223372036854775807) (HL : Hid (rs.length = n)) (hR : Hid (HRows w.heap.size w A rs)) (hf : n ≤ 64) (hcap : n ≤ cap)
    (ho : r.ok) (a0 : 0 ≤ at_) (a1 : at_ ≤ 255) :
    Calls Try.prog 5 #[.slice A n cap, r.val, .int .u8 at_, .string m, .string p, .int .u8 f] w fun e w' => e = .returned (.bool true) ∧ Below w.heap.size w w' := by
  obtain ⟨i0, hi0, hz0, hz1, hz2⟩ := info_parts rowInfo
  obtain ⟨k, hk, hkn⟩ : ∃ k : Nat, at_.tmod ((n : Int) + 1) = k ∧ k ≤ n := by
    refine ⟨(at_.tmod ((n : Int) + 1)).toNat, ?_, ?_⟩
    · have := Int.tmod_nonneg ((n : Int) + 1) a0; omega
    · have := Int.tmod_lt_of_pos at_ (show (0 : Int) < (n : Int) + 1 by omega); omega
  have hk' : at_ % ((n : Int) + 1) = k := by rw [← hk, Int.tmod_eq_emod_of_nonneg a0]
  have HRt := hide (hrows_reads (hrows_take hR.out k) (show (rs.take k).length = k by rw [List.length_take, HL.out]; omega))
  have HRn := hide (hrows_reads hR.out HL.out)
  have hM := hide (show flat (rs.take k) ++ r.cells.toList ++ (flat rs).drop (k * 5) = flat (rs.take k ++ [r] ++ rs.drop k) by
    rw [flat_drop, ← flat_snoc]; unfold flat; rw [← List.flatMap_append])
  have hMl := hide (show (rs.take k ++ [r] ++ rs.drop k).length = n + 1 by simp only [List.length_append, List.length_take, List.length_drop, List.length_cons, List.length_nil, HL.out]; omega)
  have hMo : Hid (∀ x ∈ rs.take k ++ [r] ++ rs.drop k, x.ok) := by
    have hsub : ∀ r ∈ rs, r.ok := by
      intro r0 hr0
      obtain ⟨i, hi, he⟩ := List.getElem_of_mem hr0
      rcases hR.out with h | ⟨bl, off, _, _, hc⟩
      · rw [h] at hr0; simp at hr0
      · exact (hc i r0 (by rw [List.getElem?_eq_getElem hi, he])).1
    intro x hx
    simp only [List.mem_append, List.mem_singleton] at hx
    rcases hx with (hx | hx) | hx
    · exact hsub x (List.mem_of_mem_take hx)
    · rw [hx]; exact ho
    · exact hsub x (List.mem_of_mem_drop hx)
  have hDS := hide (fun (h : concernsB r m p f = false) => dec_same (decR_same (fun j => ofRank_insert (rs := rs) k h j)))
  have hCN := hide (show concernsB r m p f = true → (r.m.toList.isEmpty = true ∨ (r.m.toList == m.toList) = true) ∧ (r.p.toList.isEmpty = true ∨ (r.p.toList == p.toList) = true) by
    intro h; unfold concernsB nameB at h; simp only [Bool.and_eq_true, Bool.or_eq_true] at h; exact ⟨h.1.2, h.2⟩)
  have hco := hide (fun w => lconcerns_any r m p f w ho)
  obtain ⟨cb, hcb⟩ : ∃ cb, concernsB r m p f = cb := ⟨_, rfl⟩
  rw [hcb] at hco hDS hCN
  clear hcb
  obtain ⟨M, hMM⟩ : ∃ M, M = rs.take k ++ [r] ++ rs.drop k := ⟨_, rfl⟩
  rw [← hMM] at hM hMl hMo hDS
  clear hMM
  obtain ⟨rm, rp, rf, rl, rd⟩ := r
  simp only [HRow.val, HRow.cells] at hM hco hCN
  unfold HRow.val
  simp only
  go_enter Try.func5, Try.ntmps5
  go_wp2_with (go_at_call 10; refine (few_any _ _ _ _).mono ?_; rintro e w' ⟨rfl, rfl⟩)
  have bx := Blk.new w 36 #[.string rm, .string rp, .int .u8 rf, .int .u8 rl, .int .u8 rd]
  have hW0 := (Below.refl w.heap.size w).alloc (Nat.le_refl _) (.cells #[.string rm, .string rp, .int .u8 rf, .int .u8 rl, .int .u8 rd] 36)
  have hsz : (w.alloc (.cells #[.string rm, .string rp, .int .u8 rf, .int .u8 rl, .int .u8 rd] 36)).heap.size = w.heap.size + 1 := by simp
  obtain ⟨W0, hW⟩ : ∃ W0, w.alloc (.cells #[.string rm, .string rp, .int .u8 rf, .int .u8 rl, .int .u8 rd] 36) = W0 := ⟨_, rfl⟩
  rw [hW] at bx hW0 hsz ⊢
  clear hW
  obtain ⟨x0, x1, x2, x3, x4⟩ := bl5 bx
  have hle : w.heap.size + 1 ≤ W0.heap.size := by omega
  have HZ := hide hsz
  clear hsz
  have hkc : (k : Int) ≤ (cap : Int) := by omega
  have hkc' : k ≤ cap := by omega
  have hk0 : (0 : Int) ≤ (k : Int) := by omega
  have tok1 : True := trivial
  have tok2 : True := trivial
  have tok3 : True := trivial
  go_upto_region 5 with fail
  go_cut [14] (fun s14 wx => ∃ a3 cap3, s14 = .slice a3 (n + 1) cap3 ∧ Hid (HRows wx.heap.size wx a3 M) ∧ Hid (Below (w.heap.size + 1) W0 wx))
  case first =>
    go_region_held3 (fun w' => Below (w.heap.size + 1) W0 w' ∧ w'.cell? ⟨w.heap.size, 0, none⟩ = some (.string rm) ∧ w'.cell? ⟨w.heap.size, 1, none⟩ = some (.string rp) ∧ w'.cell? ⟨w.heap.size, 2, none⟩ = some (.int .u8 rf) ∧ w'.cell? ⟨w.heap.size, 3, none⟩ = some (.int .u8 rl) ∧ w'.cell? ⟨w.heap.size, 4, none⟩ = some (.int .u8 rd))
      (first | assumption | exact sfrom x0 x1 x2 x3 x4 (by first | assumption | go_grown))
      (first
        | (have _t := tok1; go_split_ands; refine step_append_any (o := ⟨some 36, _, _, _, _, _⟩) _ rfl (.tmp 32) (.tmp 35) 22 rfl (w.heap.size + 1) 36 i0 _ 5 40 Try.underlying22 hi0 hz0 hz1 hz2 rfl (by decide) (.slice (some ⟨_, 0, none⟩) 0 0) 0 [] rfl (own_empty (by first | with_reducible exact heapA _ _ | with_reducible exact heapB _ _ _ | with_reducible exact heapC _ _ _) (by omega)) w.heap.size A k cap (flat (rs.take k)) rfl (HRt.out.below (hW0.trans (Below.mono (by assumption : Below (w.heap.size + 1) W0 _) (by omega)))) (flat_one _) (by unfold maxLen; omega) (by omega) (Nat.le_trans hle (Below.size (by assumption : Below (w.heap.size + 1) W0 _))) ?_; intro v1 w1 hown1 hg1 hat1; have hB1 : Below (w.heap.size + 1) W0 w1 := Below.grown (by assumption) hg1 (Nat.le_trans hle (Below.size (by assumption : Below (w.heap.size + 1) W0 _))) (fun g hg => by simp [Value.ownBlock] at hg; omega); have hs1 := Nat.le_trans hle hB1.size; first | have hb6 := blk_grown (heapC W0 _ (.cells #[.string rm, .string rp, .int .u8 rf, .int .u8 rl, .int .u8 rd] 36)) hg1 (by simp [Value.ownBlock]) | have hb6 := blk_grown (heapB W0 (.cells #[.string rm, .string rp, .int .u8 rf, .int .u8 rl, .int .u8 rd] 36) _) hg1 (by simp [Value.ownBlock]) | skip; clear tok1)
        | (have _t := tok2; go_split_ands; refine step_append_any (o := ⟨some 39, _, _, _, _, _⟩) _ rfl (.tmp 36) (.tmp 38) 22 rfl (w.heap.size + 1) 36 i0 _ 5 40 Try.underlying22 hi0 hz0 hz1 hz2 rfl (by decide) v1 (0 + k) ([] ++ flat (rs.take k)) rfl (by first | with_reducible exact hown1 | with_reducible exact hown1.alloc _) _ (some ⟨_, 0, none⟩) 1 1 [.string rm, .string rp, .int .u8 rf, .int .u8 rl, .int .u8 rd] rfl (by first | with_reducible exact reads_blk hb6 | with_reducible exact reads_blk (Blk.new _ _ _)) (by simp [Value.oneCell']) (by unfold maxLen; omega) (by omega) (Nat.le_trans hle (Below.size (by assumption : Below (w.heap.size + 1) W0 _))) ?_; intro v2 w2 hown2 hg2 hat2; have hB2 : Below (w.heap.size + 1) W0 w2 := Below.grown (by assumption) hg2 (Nat.le_trans hle (Below.size (by assumption : Below (w.heap.size + 1) W0 _))) (fun g hg => (hown1.lt g hg).1); have hs2 := Nat.le_trans hle hB2.size; clear tok2)
        | (have _t := tok3; go_split_ands; refine step_append_any (o := ⟨some 43, _, _, _, _, _⟩) _ rfl (.tmp 39) (.tmp 42) 22 rfl (w.heap.size + 1) 36 i0 _ 5 40 Try.underlying22 hi0 hz0 hz1 hz2 rfl (by decide) v2 (0 + k + 1) ([] ++ flat (rs.take k) ++ [.string rm, .string rp, .int .u8 rf, .int .u8 rl, .int .u8 rd]) rfl hown2 w.heap.size _ (n - k) (cap - k) ((flat rs).drop (k * 5)) rfl ((HRn.out.below (hW0.trans (Below.mono (by assumption : Below (w.heap.size + 1) W0 _) (by omega)))).cut hkn hcap) (fun u hu => flat_one rs u (List.mem_of_mem_drop hu)) (by unfold maxLen; omega) (by omega) (Nat.le_trans hle (Below.size (by assumption : Below (w.heap.size + 1) W0 _))) ?_; intro v3 w3 hown3 hg3 hat3; have hB3 : Below (w.heap.size + 1) W0 w3 := Below.grown (by assumption) hg3 (Nat.le_trans hle (Below.size (by assumption : Below (w.heap.size + 1) W0 _))) (fun g hg => (hown2.lt g hg).1); have hs3 := Nat.le_trans hle hB3.size; clear tok3))
    all_goals
      have hw3 : Hid (∃ a3 cap3, v3 = .slice a3 (n + 1) cap3 ∧ Hid (HRows w3.heap.size w3 a3 M)) := by
        have e1 : 0 + k + 1 + (n - k) = n + 1 := by omega
        rw [e1] at hown3
        simp only [List.nil_append] at hown3
        refine hrows_own (base := w.heap.size + 1) (n := n + 1) ?_ hMl.out hMo.out
        rw [← hM.out]
        exact hown3
      obtain ⟨a3, cap3, hv3, HR3⟩ := hw3.out
      have B3 := hide hB3
      clear hw3 hown1 hown2 hown3 hg1 hg2 hg3 hat1 hat2 hat3 hB1 hB2 hB3
      rw [hv3]
      clear hv3
      first | apply_assumption | (refine Met.intro ?_; apply_assumption)
      refine Met.intro ?_
      apply_assumption
      repeat apply Exists.intro
      exact ⟨⟨a3, cap3, rfl, HR3, B3⟩, rfl⟩
  case rest =>
    obtain ⟨a3, cap3, rfl, HR3, B3⟩ := hcut
    have hs3 := hide (Nat.le_trans hle B3.out.size)
    have C3 := hide (hW0.trans (B3.out.mono (by omega)))
    go_wp2_with fail
    refine (decide_any _ n cap rs m p f wc hn HL (HRows.next hR C3.out)).mono ?_
    rintro e w4 ⟨rfl, hb4⟩
    have HR4 := HRows.next HR3 hb4
    have B4 := hide (B3.out.trans (hb4.mono hs3.out))
    clear hb4
    have e1 := Nat.le_trans hle B4.out.size
    go_wp2_with fail
    refine (decide_any _ (n + 1) cap3 M m p f w4 (by omega) hMl HR4).mono ?_
    rintro e w5 ⟨rfl, hb5⟩
    have B5 := hide (B4.out.trans (hb5.mono e1))
    have e2 := Nat.le_trans hle B5.out.size
    clear hb5
    obtain ⟨z0, z1, z2, z3, z4⟩ := (sfrom x0 x1 x2 x3 x4 B5.out).2
    clear x0 x1 x2 x3 x4 e1
    have hcc : Hid (cb = false → decL M m p f = decL rs m p f ∧ decD M m p f = decD rs m p f) := hDS
    have key : (cb = false ∧ decL M m p f = decL rs m p f ∧ decD M m p f = decD rs m p f) ∨ (cb = true ∧ (rm.toList.isEmpty = true ∨ (rm.toList == m.toList) = true) ∧ (rp.toList.isEmpty = true ∨ (rp.toList == p.toList) = true)) := by
      cases cb
      · exact .inl ⟨rfl, hDS.out rfl⟩
      · exact .inr ⟨rfl, hCN.out rfl⟩
    clear hcc hDS hCN
    rcases key with ⟨rfl, d1, d2⟩ | ⟨rfl, c1, c2⟩
    · rw [d1, d2]
      clear d1 d2
      go_wp2_with fail
      refine (hco.out _).mono ?_
      rintro e w6 ⟨rfl, hb6⟩
      obtain ⟨y0, y1, y2, y3, y4⟩ := (sfrom z0 z1 z2 z3 z4 (hb6.mono e2)).2
      have B6 := hide (B5.out.trans (hb6.mono e2))
      clear hb6 z0 z1 z2 z3 z4
      go_wp2_with fail
      all_goals (first
      | (exfalso; grind)
      | (refine (awake_any _).mono ?_; rintro e w7 ⟨rfl, hb7⟩; have B7 := hide (B6.out.trans (hb7.mono (Nat.le_trans hle B6.out.size))); clear hb7; go_wp2_with fail; go_ret; exact ⟨rfl, hW0.trans (B7.out.mono (by omega))⟩))
    · go_wp2_with fail
      all_goals
        refine (hco.out _).mono ?_
        rintro e w6 ⟨rfl, hb6⟩
        obtain ⟨y0, y1, y2, y3, y4⟩ := (sfrom z0 z1 z2 z3 z4 (hb6.mono e2)).2
        have B6 := hide (B5.out.trans (hb6.mono e2))
        clear hb6 z0 z1 z2 z3 z4
        go_wp2_with fail
      all_goals (first
      | (exfalso; grind)
      | (refine (awake_any _).mono ?_; rintro e w7 ⟨rfl, hb7⟩; have B7 := hide (B6.out.trans (hb7.mono (Nat.le_trans hle B6.out.size))); clear hb7; go_wp2_with fail; go_ret; exact ⟨rfl, hW0.trans (B7.out.mono (by omega))⟩))
end Go.Proofs.Ytojmcgobihegpaa

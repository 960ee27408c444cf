/-
  parse: what stands behind the tokens that were taken makes no difference; one configuration behind another.
-/
import Derived.Test.YtlngbjphagnloaaGreatDoorParN
namespace Go.Proofs.YtlngbjphagnloaaGreatDoor
/-- Whatever follows, if something is left. -/
def Loc {α : Type} (m : Ps α) : Prop := ∀ r a r' s, m r = .ok a r' → r' ≠ [] → m (r ++ s) = .ok a (r' ++ s)
/-- Whatever follows. -/
def Str {α : Type} (m : Ps α) : Prop := ∀ r a r' s, m r = .ok a r' → m (r ++ s) = .ok a (r' ++ s)
def Need {α : Type} (m : Ps α) : Prop := ∀ a r', m [] ≠ .ok a r'
theorem Str.loc {α : Type} {m : Ps α} (h : Str m) : Loc m := fun r a r' s e _ => h r a r' s e
theorem Str.ret {α : Type} (a : α) : Str (pure a : Ps α) := fun r b r' s e => by
  have e : Res.ok a r = .ok b r' := e
  injection e with h1 h2
  subst h1 h2
  rfl
theorem Str.bind {α β : Type} {m : Ps α} {f : α → Ps β} (h : Str m) (k : ∀ a, Str (f a)) : Str (m >>= f) := fun r b r' s e => by
  obtain ⟨a, r1, h1, h2⟩ := bnd_inv e
  rw [bnd_ok (h _ _ _ s h1)]
  exact k a _ _ _ s h2
theorem Str.bindL {α β : Type} {m : Ps α} {f : α → Ps β} (h : Str m) (k : ∀ a, Loc (f a)) : Loc (m >>= f) := fun r b r' s e hn => by
  obtain ⟨a, r1, h1, h2⟩ := bnd_inv e
  rw [bnd_ok (h _ _ _ s h1)]
  exact k a _ _ _ s h2 hn
theorem Loc.bind {α β : Type} {m : Ps α} {f : α → Ps β} (h : Loc m) (k : ∀ a, Loc (f a)) (ni : ∀ a, NI (f a)) : Loc (m >>= f) := fun r b r' s e hn => by
  obtain ⟨a, r1, h1, h2⟩ := bnd_inv e
  have hl := ni a _ _ _ h2
  have h3 : r1 ≠ [] := by
    rintro rfl
    exact hn (List.eq_nil_of_length_eq_zero (Nat.le_zero.1 hl))
  rw [bnd_ok (h _ _ _ s h1 h3)]
  exact k a _ _ _ s h2 hn
/-- Where what follows asks for a token. -/
theorem Loc.need {α β : Type} {m : Ps α} {f : α → Ps β} (h : Loc m) (k : ∀ a, Str (f a)) (n : ∀ a, Need (f a)) : Str (m >>= f) := fun r b r' s e => by
  obtain ⟨a, r1, h1, h2⟩ := bnd_inv e
  have h3 : r1 ≠ [] := by rintro rfl; exact n a _ _ h2
  rw [bnd_ok (h _ _ _ s h1 h3)]
  exact k a _ _ _ s h2
theorem Need.bind {α β : Type} {m : Ps α} {f : α → Ps β} (h : Need m) : Need (m >>= f) := fun b r' e => by
  obtain ⟨a, r1, h1, _⟩ := bnd_inv e
  exact h a r1 h1
theorem Need.behind {α β : Type} {m : Ps α} {f : α → Ps β} (h : NI m) (k : ∀ a, Need (f a)) : Need (m >>= f) := fun b r' e => by
  obtain ⟨a, r1, h1, h2⟩ := bnd_inv e
  have hl := h _ _ _ h1
  obtain rfl := List.eq_nil_of_length_eq_zero (Nat.le_zero.1 hl)
  exact k a _ _ h2
theorem LT.need {α : Type} {m : Ps α} (h : LT m) : Need m := fun a r' e => by have := h _ _ _ e; simp at this
theorem hd_app {r : List Tok} (h : r ≠ []) (s : List Tok) : hdT (r ++ s) = hdT r := by
  cases r with
  | nil => exact absurd rfl h
  | cons t r => rfl
theorem sees_app {r : List Tok} (h : r ≠ []) (s : List Tok) (t : List UInt8) : seesB t (r ++ s) = seesB t r := by unfold seesB; rw [hd_app h]
theorem tail_app {r : List Tok} (h : r ≠ []) (s : List Tok) : (r ++ s).tail = r.tail ++ s := by
  cases r with
  | nil => exact absurd rfl h
  | cons t r => rfl
theorem takes_loc (t : List UInt8) : Loc (takesP t) := fun r a r' s e hn => by
  unfold takesP at e ⊢
  by_cases hs : seesB t r = true
  · have hr := sees_ne hs
    rw [hs] at e
    injection e with e1 e2
    rw [sees_app hr, hs, tail_app hr, ← e1, ← e2]; rfl
  · have hs' : seesB t r = false := by simpa using hs
    rw [hs'] at e
    injection e with e1 e2
    subst e2
    rw [sees_app hn, hs', ← e1]; rfl
theorem must_str (t : List UInt8) : Str (mustP t) := fun r a r' s e => by
  unfold mustP at e ⊢
  by_cases hs : seesB t r = true
  · have hr := sees_ne hs
    rw [hs] at e
    injection e with e1 e2
    rw [sees_app hr, hs, tail_app hr, ← e1, ← e2]; rfl
  · have hs' : seesB t r = false := by simpa using hs
    rw [hs'] at e
    cases e
theorem next_str (k : Nat) (hk : k ≠ 0) : Str (nextP k) := fun r a r' s e => by
  unfold nextP at e ⊢
  by_cases hs : ((hdT r).kind == k) = true
  · have hr := kind_ne hs hk
    rw [hs] at e
    injection e with e1 e2
    rw [hd_app hr, hs, tail_app hr, ← e1, ← e2]; rfl
  · have hs' : ((hdT r).kind == k) = false := by simpa using hs
    rw [hs'] at e
    cases e
theorem name_str : Str nameP := next_str 1 (by decide)
theorem num_str : Str numP := (next_str 2 (by decide)).bind fun _ => .ret _
theorem after_str (t : List UInt8) : Str (afterP t) := (must_str t).bind fun _ => num_str
theorem of_str (l : List (List UInt8)) : Str (ofP l) := fun r a r' s e => by
  unfold ofP at e ⊢
  by_cases hs : (findN l (hdT r).text != 0 && (hdT r).kind == 1) = true
  · have hr : r ≠ [] := kind_ne (k := 1) (by simp only [Bool.and_eq_true] at hs; exact hs.2) (by decide)
    rw [hs] at e
    injection e with e1 e2
    rw [hd_app hr, hs, tail_app hr, ← e1, ← e2]; rfl
  · have hs' : (findN l (hdT r).text != 0 && (hdT r).kind == 1) = false := by simpa using hs
    rw [hs'] at e
    cases e
theorem more_loc {α : Type} {x : Ps α} (h : Str x) (hn : NI x) : ∀ (f : Nat) (acc : List α), Loc (moreP x f acc)
  | 0, acc => (Str.ret acc).loc
  | f + 1, acc => (takes_loc _).bind (fun b => by
      cases b
      · exact (Str.ret acc).loc
      · exact h.bindL fun a => more_loc h hn f (acc ++ [a])) (fun b => by
      cases b
      · exact .ret acc
      · exact hn.bind fun a => more_ni hn f (acc ++ [a]))
/-- A loop whose fuel is what is left. -/
theorem Loc.dep {α : Type} {m : Nat → Ps α} (h : ∀ n, Loc (m n)) (fu : ∀ f g r, r.length < f → r.length < g → m f r = m g r) : Loc (fun r => m (r.length + 1) r) := fun r a r' s e hn => by
  show m ((r ++ s).length + 1) (r ++ s) = _
  have e : m (r.length + 1) r = .ok a r' := e
  rw [fu (r.length + 1) ((r ++ s).length + 1) r (by omega) (by rw [List.length_append]; omega)] at e
  exact h _ _ _ _ s e hn
theorem Str.dep {α : Type} {m : Nat → Ps α} (h : ∀ n, Str (m n)) (fu : ∀ f g r, r.length < f → r.length < g → m f r = m g r) : Str (fun r => m (r.length + 1) r) := fun r a r' s e => by
  show m ((r ++ s).length + 1) (r ++ s) = _
  have e : m (r.length + 1) r = .ok a r' := e
  rw [fu (r.length + 1) ((r ++ s).length + 1) r (by omega) (by rw [List.length_append]; omega)] at e
  exact h _ _ _ _ s e
theorem list_loc {α : Type} {x : Ps α} (h : Str x) (hn : NI x) : Loc (listP x) :=
  h.bindL fun a => Loc.dep (m := fun n => moreP x n [a]) (fun n => more_loc h hn n [a]) (fun f g r hf hg => more_fuel hn f g [a] r hf hg)
theorem ref_str : Str refP := name_str.bind fun _ => (must_str _).bind fun _ => name_str.bind fun _ => (must_str _).bind fun _ => name_str.bind fun _ => .ret _
theorem net_str : Str netP := (must_str _).bind fun _ => (of_str _).bind fun _ => .ret _
theorem ops_str : ∀ n, Str (opsP n)
  | 0 => .ret _
  | n + 1 => num_str.bind fun _ => (ops_str n).bind fun _ => .ret _
theorem ins_str : Str insP := (of_str _).bind fun _ => (ops_str _).bind fun _ => (must_str _).bind fun _ => .ret _
theorem code_loop_loc : ∀ (f : Nat) (acc : List InsD), Loc (codeLoop f acc)
  | 0, acc => (Str.ret acc).loc
  | f + 1, acc => fun r a r' s e hn => by
    unfold codeLoop at e ⊢
    by_cases hk : ((hdT r).kind == 1) = true
    · have hr := kind_ne hk (by decide)
      rw [if_pos hk] at e
      rw [hd_app hr, if_pos hk]
      exact (ins_str.bindL fun x => code_loop_loc f (acc ++ [x])) r a r' s e hn
    · rw [if_neg hk] at e
      injection e with e1 e2
      subst e2
      rw [hd_app hn, if_neg hk, e1]
theorem code_fuel : ∀ (f g : Nat) (acc : List InsD) (r : List Tok), r.length < f → r.length < g → codeLoop f acc r = codeLoop g acc r
  | 0, g, acc, r, hf, _ => by omega
  | f + 1, 0, acc, r, _, hg => by omega
  | f + 1, g + 1, acc, r, hf, hg => by
    unfold codeLoop
    split
    · cases hx : insP r with
      | ok a r2 =>
        have hl := ins_lt _ _ _ hx
        rw [bnd_ok hx, bnd_ok hx]
        exact code_fuel f g _ r2 (by omega) (by omega)
      | bad e r2 => rw [bnd_bad hx, bnd_bad hx]
    · rfl
theorem code_loc : Loc codeP := Loc.dep (m := fun n => codeLoop n []) (fun n => code_loop_loc n []) (fun f g r hf hg => code_fuel f g [] r hf hg)
theorem way_str : Str wayP := fun r a r' s e => by
  unfold wayP at e ⊢
  by_cases h1 : seesB [105, 110] r = true
  · have hr := sees_ne h1
    rw [h1] at e
    injection e with e1 e2
    rw [sees_app hr, h1, tail_app hr, ← e1, ← e2]; rfl
  · have h1' : seesB [105, 110] r = false := by simpa using h1
    rw [h1'] at e
    by_cases h2 : seesB [111, 117, 116] r = true
    · have hr := sees_ne h2
      rw [h2] at e
      injection e with e1 e2
      rw [sees_app hr, sees_app hr, h1', h2, tail_app hr, ← e1, ← e2]; rfl
    · have h2' : seesB [111, 117, 116] r = false := by simpa using h2
      rw [h2'] at e
      cases e
theorem port_str : Str portP := way_str.bind fun _ => name_str.bind fun _ => (of_str _).bind fun kind => (after_str _).bind fun _ => by
  by_cases hk : kind = 1
  · simp only [hk, if_true]
    exact (after_str _).bind fun _ => (must_str _).bind fun _ => .ret _
  · simp only [hk, if_false]
    exact (after_str _).bind fun _ => (must_str _).bind fun _ => .ret _
theorem must_need {α : Type} (t : List UInt8) {f : Unit → Ps α} : Need (mustP t >>= f) := (must_lt t).need.bind
theorem proc_str : Str procP := name_str.bind fun _ => (after_str _).bind fun _ => (after_str _).bind fun _ => (after_str _).bind fun _ => (must_str _).bind fun _ =>
  code_loc.need (fun _ => (must_str _).bind fun _ => .ret _) (fun _ => must_need _)
theorem skip_str {α : Type} {m : Ps α} (h : Str m) {r r' : List Tok} {a : α} (hr : r ≠ []) (s : List Tok) (e : (do skipP; m : Ps α) r = .ok a r') : (do skipP; m : Ps α) (r ++ s) = .ok a (r' ++ s) := by
  have e : m r.tail = .ok a r' := e
  show m (r ++ s).tail = _
  rw [tail_app hr]
  exact h _ _ _ s e
theorem once_str (w : List UInt8) (b : BuildD) {x : Ps PartD} (h : Loc x) {r r' : List Tok} {a : BuildD} (hr : r ≠ []) (s : List Tok) (e : onceP w b x r = .ok a r') : onceP w b x (r ++ s) = .ok a (r' ++ s) := by
  unfold onceP at e ⊢
  split at e
  · cases e
  · rename_i hc
    rw [if_neg hc]
    exact skip_str (h.need (fun _ => (must_str _).bind fun _ => .ret _) (fun _ => must_need _)) hr s e
theorem nums_loc : Loc (listP numP) := list_loc num_str num_lt.ni
theorem thing_str (b : BuildD) : Str (thingP b) := fun r a r' s e => by
  have hr : r ≠ [] := by rintro rfl; exact (thing_lt b).need _ _ e
  unfold thingP at e ⊢
  simp only [sees_app hr]
  by_cases h1 : seesB [115, 101, 109, 97, 115] r = true
  · simp only [h1, if_true] at e ⊢
    exact once_str _ b (nums_loc.bind (fun _ => (Str.ret _).loc) (fun _ => .ret _)) hr s e
  · simp only [h1] at e ⊢
    by_cases h2 : seesB [98, 117, 102, 115] r = true
    · simp only [h2, if_true] at e ⊢
      exact once_str _ b (nums_loc.bind (fun _ => (Str.ret _).loc) (fun _ => .ret _)) hr s e
    · simp only [h2] at e ⊢
      by_cases h3 : seesB [101, 118, 101, 110, 116, 115] r = true
      · simp only [h3, if_true] at e ⊢
        exact once_str _ b (num_str.bind fun _ => .ret _).loc hr s e
      · simp only [h3] at e ⊢
        by_cases h4 : seesB [98, 111, 97, 114, 100, 115] r = true
        · simp only [h4, if_true] at e ⊢
          exact once_str _ b (num_str.bind fun _ => .ret _).loc hr s e
        · simp only [h4] at e ⊢
          by_cases h5 : seesB [112, 114, 111, 99] r = true
          · simp only [h5, if_true] at e ⊢
            exact skip_str (proc_str.bind fun _ => .ret _) hr s e
          · simp only [h5] at e ⊢
            exact (port_str.bind fun _ => .ret _) r a r' s e
theorem things_str : ∀ (f : Nat) (b : BuildD), Str (thingsLoop f b)
  | 0, b => .ret b
  | f + 1, b => fun r a r' s e => by
    unfold thingsLoop at e ⊢
    by_cases h1 : seesB [125] r = true
    · have hr := sees_ne h1
      rw [if_pos h1] at e
      injection e with e1 e2
      rw [sees_app hr, if_pos h1, tail_app hr, ← e1, ← e2]
    · rw [if_neg h1] at e
      have hr : r ≠ [] := by
        rintro rfl
        exact (thing_lt b).need.bind _ _ e
      rw [sees_app hr, if_neg h1]
      exact ((thing_str b).bind fun b' => things_str f b') r a r' s e
theorem things_fuel : ∀ (f g : Nat) (b : BuildD) (r : List Tok), r.length < f → r.length < g → thingsLoop f b r = thingsLoop g b r
  | 0, g, b, r, hf, _ => by omega
  | f + 1, 0, b, r, _, hg => by omega
  | f + 1, g + 1, b, r, hf, hg => by
    unfold thingsLoop
    split
    · rfl
    · cases hx : thingP b r with
      | ok a r2 =>
        have hl := thing_lt b _ _ _ hx
        rw [bnd_ok hx, bnd_ok hx]
        exact things_fuel f g _ r2 (by omega) (by omega)
      | bad e r2 => rw [bnd_bad hx, bnd_bad hx]
theorem part_str : Str partP := name_str.bind fun name => (after_str _).bind fun period => (after_str _).bind fun length => (after_str _).bind fun mem => (must_str _).bind fun _ =>
  (Str.dep (m := fun n => thingsLoop n ⟨⟨name, period, length, mem, [], 0, 0, [], [], []⟩, []⟩) (fun n => things_str n _) (fun f g r hf hg => things_fuel f g _ r hf hg)).bind fun _ => .ret _
theorem parts_loc : ∀ (f : Nat) (acc : List PartD), Loc (partsLoop f acc)
  | 0, acc => (Str.ret acc).loc
  | f + 1, acc => (takes_loc _).bind (fun b => by
      cases b
      · exact (Str.ret acc).loc
      · exact part_str.bindL fun a => parts_loc f (acc ++ [a])) (fun b => by
      cases b
      · exact .ret acc
      · exact part_lt.ni.bind fun a => parts_ni f (acc ++ [a]))
theorem parts_fuel : ∀ (f g : Nat) (acc : List PartD) (r : List Tok), r.length < f → r.length < g → partsLoop f acc r = partsLoop g acc r
  | 0, g, acc, r, hf, _ => by omega
  | f + 1, 0, acc, r, _, hg => by omega
  | f + 1, g + 1, acc, r, hf, hg => by
    by_cases hs : seesB [112, 97, 114, 116] r = true
    · have ht : takesP [112, 97, 114, 116] r = .ok true r.tail := by unfold takesP; rw [hs]; rfl
      have e : ∀ k, partsLoop (k + 1) acc r = (do let x ← partP; partsLoop k (acc ++ [x]) : Ps (List PartD)) r.tail := fun k => bnd_ok ht
      have hl := tail_lt (sees_ne hs)
      rw [e f, e g]
      cases hx : partP r.tail with
      | ok a r2 =>
        have hn := part_lt _ _ _ hx
        rw [bnd_ok hx, bnd_ok hx]
        exact parts_fuel f g _ r2 (by omega) (by omega)
      | bad e2 r2 => rw [bnd_bad hx, bnd_bad hx]
    · have hs' : seesB [112, 97, 114, 116] r = false := by simpa using hs
      have ht : takesP [112, 97, 114, 116] r = .ok false r := by unfold takesP; rw [hs']; rfl
      have e : ∀ k, partsLoop (k + 1) acc r = .ok acc r := fun k => bnd_ok ht
      rw [e f, e g]
theorem mod_str : Str modP := name_str.bind fun _ => (after_str _).bind fun _ => (after_str _).bind fun _ => (must_str _).bind fun _ =>
  (Loc.dep (m := fun n => partsLoop n []) (fun n => parts_loc n []) (fun f g r hf hg => parts_fuel f g [] r hf hg)).need (fun _ => (must_str _).bind fun _ => .ret _) (fun _ => must_need _)
theorem refs_loc : Loc (listP refP) := list_loc ref_str ref_lt.ni
theorem chan_str : Str chanP := ref_str.bind fun _ => (must_str _).bind fun _ => refs_loc.need (fun _ => (must_str _).bind fun _ => .ret _) (fun _ => must_need _)
theorem sw_str : Str swP := name_str.bind fun _ => net_str.bind fun _ => (after_str _).bind fun _ => (after_str _).bind fun _ => (must_str _).bind fun _ => .ret _
theorem link_str : Str linkP := name_str.bind fun _ => name_str.bind fun _ => net_str.bind fun _ => (after_str _).bind fun _ => (must_str _).bind fun _ => .ret _
theorem vl_str : Str vlP := name_str.bind fun _ => (must_str _).bind fun _ => ref_str.bind fun _ => (after_str _).bind fun _ => (after_str _).bind fun _ => (must_str _).bind fun _ => refs_loc.need (fun _ => (must_str _).bind fun _ => .ret _) (fun _ => must_need _)
theorem opt_loc (t : List UInt8) : Loc (optP t) := (takes_loc t).bind (fun b => by
  cases b
  · exact (Str.ret _).loc
  · exact name_str.loc) (fun b => by
  cases b
  · exact .ret _
  · exact name_lt.ni)
theorem health_str : Str healthP := (of_str _).bind fun _ => (opt_loc _).need (fun _ => (opt_loc _).need (fun _ => (must_str _).bind fun _ => (of_str _).bind fun _ => (must_str _).bind fun _ => (of_str _).bind fun _ => (must_str _).bind fun _ => .ret _) (fun _ => must_need _)) (fun _ => Need.behind (opt_ni _) fun _ => must_need _)
theorem rep_str : Str repP := name_str.bind fun _ => (must_str _).bind fun _ => num_str.bind fun _ => .ret _
theorem unless_loc : Loc unlessP := (takes_loc _).bind (fun b => by
  cases b
  · exact (Str.ret _).loc
  · exact list_loc name_str name_lt.ni) (fun b => by
  cases b
  · exact .ret _
  · exact list_ni name_lt.ni)
theorem cause_str : Str causeP := name_str.bind fun _ => (must_str _).bind fun _ =>
  (list_loc rep_str rep_lt.ni).need (fun _ => unless_loc.need (fun _ => (must_str _).bind fun _ => .ret _) (fun _ => must_need _)) (fun _ => Need.behind unless_ni fun _ => must_need _)
theorem works_str : Str worksP := name_str.bind fun _ => num_str.bind fun _ => (must_str _).bind fun _ => name_str.bind fun _ => num_str.bind fun _ => (must_str _).bind fun _ => .ret _
theorem item_str (c : CfgD) : Str (itemP c) := fun r a r' s e => by
  have hr : r ≠ [] := by rintro rfl; exact (item_lt c).need _ _ e
  unfold itemP at e ⊢
  simp only [sees_app hr]
  by_cases h1 : seesB [109, 111, 100, 117, 108, 101] r = true
  · simp only [h1, if_true] at e ⊢
    exact skip_str (mod_str.bind fun _ => .ret _) hr s e
  · simp only [h1] at e ⊢
    by_cases h2 : seesB [99, 104, 97, 110, 110, 101, 108] r = true
    · simp only [h2, if_true] at e ⊢
      exact skip_str (chan_str.bind fun _ => .ret _) hr s e
    · simp only [h2] at e ⊢
      by_cases h3 : seesB [115, 119, 105, 116, 99, 104] r = true
      · simp only [h3, if_true] at e ⊢
        exact skip_str (sw_str.bind fun _ => .ret _) hr s e
      · simp only [h3] at e ⊢
        by_cases h4 : seesB [108, 105, 110, 107] r = true
        · simp only [h4, if_true] at e ⊢
          exact skip_str (link_str.bind fun _ => .ret _) hr s e
        · simp only [h4] at e ⊢
          by_cases h5 : seesB [118, 108] r = true
          · simp only [h5, if_true] at e ⊢
            exact skip_str (vl_str.bind fun _ => .ret _) hr s e
          · simp only [h5] at e ⊢
            by_cases h6 : seesB [111, 110] r = true
            · simp only [h6, if_true] at e ⊢
              exact skip_str (health_str.bind fun _ => .ret _) hr s e
            · simp only [h6] at e ⊢
              by_cases h7 : seesB [99, 97, 117, 115, 101] r = true
              · simp only [h7, if_true] at e ⊢
                exact skip_str (cause_str.bind fun _ => .ret _) hr s e
              · simp only [h7] at e ⊢
                by_cases h8 : seesB [119, 111, 114, 107, 115] r = true
                · simp only [h8, if_true] at e ⊢
                  exact skip_str (works_str.bind fun _ => .ret _) hr s e
                · simp only [h8] at e
                  cases e
theorem items_fuel : ∀ (f g : Nat) (c : CfgD) (r : List Tok), r.length < f → r.length < g → itemsLoop f c r = itemsLoop g c r
  | 0, g, c, r, hf, _ => by omega
  | f + 1, 0, c, r, _, hg => by omega
  | f + 1, g + 1, c, r, hf, hg => by
    cases r with
    | nil => rfl
    | cons t r =>
      show (do let c' ← itemP c; itemsLoop f c' : Ps CfgD) (t :: r) = (do let c' ← itemP c; itemsLoop g c' : Ps CfgD) (t :: r)
      cases hx : itemP c (t :: r) with
      | ok a r2 =>
        have hl := item_lt c _ _ _ hx
        rw [bnd_ok hx, bnd_ok hx]
        exact items_fuel f g _ r2 (by omega) (by omega)
      | bad e r2 => rw [bnd_bad hx, bnd_bad hx]
/-- The items of two lists of tokens. -/
theorem items_app : ∀ (f : Nat) (c : CfgD) (r : List Tok) (c' : CfgD) (r' s : List Tok), r.length < f → itemsLoop f c r = .ok c' r' → itemsLoop ((r ++ s).length + 1) c (r ++ s) = itemsLoop (s.length + 1) c' s
  | 0, c, r, c', r', s, hf, _ => by omega
  | f + 1, c, [], c', r', s, hf, e => by
    have e : Res.ok c [] = .ok c' r' := e
    injection e with e1 e2
    subst e1
    rfl
  | f + 1, c, t :: r, c', r', s, hf, e => by
    have e : (do let c' ← itemP c; itemsLoop f c' : Ps CfgD) (t :: r) = .ok c' r' := e
    obtain ⟨c1, r1, h1, h2⟩ := bnd_inv e
    have hl := item_lt c _ _ _ h1
    have h3 := item_str c _ _ _ s h1
    show (do let c' ← itemP c; itemsLoop (t :: r ++ s).length c' : Ps CfgD) (t :: r ++ s) = _
    rw [bnd_ok h3, ← items_app f c1 r1 c' r' s (by omega) h2]
    refine items_fuel _ _ _ _ ?_ (by omega)
    rw [List.length_append, List.length_append]
    omega
def CfgD.app (c d : CfgD) : CfgD := ⟨c.modules ++ d.modules, c.channels ++ d.channels, c.switches ++ d.switches, c.links ++ d.links, c.vls ++ d.vls, c.health ++ d.health, c.causes ++ d.causes, c.versions ++ d.versions⟩
theorem CfgD.app_none (c : CfgD) : c.app CfgD.none = c := by unfold CfgD.app CfgD.none; simp
def Res.map {α β : Type} (g : α → β) : Res α → Res β
  | .ok a r => .ok (g a) r
  | .bad e r => .bad e r
theorem bnd_map {α β γ : Type} (m : Ps α) (f : α → Ps β) (g : α → Ps γ) (k : β → γ) (h : ∀ a r, g a r = (f a r).map k) (r : List Tok) : (m >>= g) r = ((m >>= f) r).map k := by
  cases hm : m r with
  | ok a r1 => rw [bnd_ok hm, bnd_ok hm]; exact h a r1
  | bad e r1 => rw [bnd_bad hm, bnd_bad hm]; rfl
theorem item_app (c d : CfgD) (r : List Tok) : itemP (c.app d) r = (itemP d r).map (c.app ·) := by
  unfold itemP
  by_cases h1 : seesB [109, 111, 100, 117, 108, 101] r = true
  · simp only [h1, if_true]
    exact bnd_map skipP _ _ _ (fun _ r => bnd_map modP _ _ _ (fun x r => by show Res.ok _ _ = Res.ok _ _; unfold CfgD.app; simp) r) r
  · simp only [h1]
    by_cases h2 : seesB [99, 104, 97, 110, 110, 101, 108] r = true
    · simp only [h2, if_true]
      exact bnd_map skipP _ _ _ (fun _ r => bnd_map chanP _ _ _ (fun x r => by show Res.ok _ _ = Res.ok _ _; unfold CfgD.app; simp) r) r
    · simp only [h2]
      by_cases h3 : seesB [115, 119, 105, 116, 99, 104] r = true
      · simp only [h3, if_true]
        exact bnd_map skipP _ _ _ (fun _ r => bnd_map swP _ _ _ (fun x r => by show Res.ok _ _ = Res.ok _ _; unfold CfgD.app; simp) r) r
      · simp only [h3]
        by_cases h4 : seesB [108, 105, 110, 107] r = true
        · simp only [h4, if_true]
          exact bnd_map skipP _ _ _ (fun _ r => bnd_map linkP _ _ _ (fun x r => by show Res.ok _ _ = Res.ok _ _; unfold CfgD.app; simp) r) r
        · simp only [h4]
          by_cases h5 : seesB [118, 108] r = true
          · simp only [h5, if_true]
            exact bnd_map skipP _ _ _ (fun _ r => bnd_map vlP _ _ _ (fun x r => by show Res.ok _ _ = Res.ok _ _; unfold CfgD.app; simp) r) r
          · simp only [h5]
            by_cases h6 : seesB [111, 110] r = true
            · simp only [h6, if_true]
              exact bnd_map skipP _ _ _ (fun _ r => bnd_map healthP _ _ _ (fun x r => by show Res.ok _ _ = Res.ok _ _; unfold CfgD.app; simp) r) r
            · simp only [h6]
              by_cases h7 : seesB [99, 97, 117, 115, 101] r = true
              · simp only [h7, if_true]
                exact bnd_map skipP _ _ _ (fun _ r => bnd_map causeP _ _ _ (fun x r => by show Res.ok _ _ = Res.ok _ _; unfold CfgD.app; simp) r) r
              · simp only [h7]
                by_cases h8 : seesB [119, 111, 114, 107, 115] r = true
                · simp only [h8, if_true]
                  exact bnd_map skipP _ _ _ (fun _ r => bnd_map worksP _ _ _ (fun x r => by show Res.ok _ _ = Res.ok _ _; unfold CfgD.app; simp) r) r
                · simp only [h8]; rfl
theorem items_map (c : CfgD) : ∀ (f : Nat) (d : CfgD) (r : List Tok), itemsLoop f (c.app d) r = (itemsLoop f d r).map (c.app ·)
  | 0, d, r => rfl
  | f + 1, d, [] => rfl
  | f + 1, d, t :: r => by
    show (do let c' ← itemP (c.app d); itemsLoop f c' : Ps CfgD) (t :: r) = ((do let c' ← itemP d; itemsLoop f c' : Ps CfgD) (t :: r)).map _
    have h := item_app c d (t :: r)
    cases hx : itemP d (t :: r) with
    | ok a r1 =>
      rw [hx] at h
      rw [bnd_ok h, bnd_ok hx]
      exact items_map c f a r1
    | bad e r1 =>
      rw [hx] at h
      rw [bnd_bad h, bnd_bad hx]
      rfl
/-- The source of one configuration followed by that of another one. -/
theorem cfg_app {r s r' : List Tok} {c : CfgD} (h : cfgP r = .ok c r') : cfgP (r ++ s) = (cfgP s).map (c.app ·) := by
  unfold cfgP at h ⊢
  rw [items_app _ _ _ _ _ s (Nat.lt_succ_self _) h, ← items_map, CfgD.app_none]
end Go.Proofs.YtlngbjphagnloaaGreatDoor

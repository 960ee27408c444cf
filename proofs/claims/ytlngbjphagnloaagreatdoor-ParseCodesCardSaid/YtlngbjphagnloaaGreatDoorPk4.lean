/-
  Merged texts: parse: what is left never grows; the loops' fuel does not matter. | parse: configurations as data in memory. | Appending what a slice that came in holds onto a slice of the call's own. | parse: what parsing a source yields. | parse: the tokens of a source are well made (lexA_ind, ValidT .. valid_all, lexA_tok: as in lex/XBackP, which leans on chapter 07's own functions).
-/
import Derived.Test.YtlngbjphagnloaaGreatDoorPk2
import Derived.Test.YtlngbjphagnloaaGreatDoorPk3
import Derived.Test.YtlngbjphagnloaaGreatDoorPk1
import Derived.Below
import Derived.Laws.OwnMore
import Derived.Deep.Draws
import Derived.Laws.Rows
import Derived.Maps.AppendAt
import Derived.Deep.AppendLies
import Derived.RegionTactic
import Derived.OwnWalk
namespace Go.Proofs.YtlngbjphagnloaaGreatDoor
def NI {α : Type} (m : Ps α) : Prop := ∀ r a r', m r = .ok a r' → r'.length ≤ r.length
def LT {α : Type} (m : Ps α) : Prop := ∀ r a r', m r = .ok a r' → r'.length < r.length
theorem LT.ni {α : Type} {m : Ps α} (h : LT m) : NI m := fun r a r' e => Nat.le_of_lt (h r a r' e)
theorem bnd_inv {α β : Type} {m : Ps α} {f : α → Ps β} {r r' : List Tok} {b : β} (h : (m >>= f) r = .ok b r') : ∃ a r1, m r = .ok a r1 ∧ f a r1 = .ok b r' := by
  have h : Ps.bnd m f r = .ok b r' := h
  unfold Ps.bnd at h
  cases hm : m r with
  | ok a r1 => rw [hm] at h; exact ⟨a, r1, rfl, h⟩
  | bad e r1 => rw [hm] at h; cases h
theorem NI.ret {α : Type} (a : α) : NI (pure a : Ps α) := fun r b r' h => by
  have h : Res.ok a r = .ok b r' := h
  injection h with _ h2
  rw [h2]
  exact Nat.le_refl _
theorem NI.bind {α β : Type} {m : Ps α} {f : α → Ps β} (h : NI m) (k : ∀ a, NI (f a)) : NI (m >>= f) := fun r b r' e => by
  obtain ⟨a, r1, h1, h2⟩ := bnd_inv e
  exact Nat.le_trans (k a _ _ _ h2) (h _ _ _ h1)
theorem LT.bind {α β : Type} {m : Ps α} {f : α → Ps β} (h : LT m) (k : ∀ a, NI (f a)) : LT (m >>= f) := fun r b r' e => by
  obtain ⟨a, r1, h1, h2⟩ := bnd_inv e
  exact Nat.lt_of_le_of_lt (k a _ _ _ h2) (h _ _ _ h1)
theorem tail_lt {r : List Tok} (h : r ≠ []) : r.tail.length < r.length := by
  cases r with
  | nil => exact absurd rfl h
  | cons t r => simp
theorem sees_ne {t : List UInt8} {r : List Tok} (h : seesB t r = true) : r ≠ [] := by
  rintro rfl
  unfold seesB hdT at h
  simp at h
theorem kind_ne {r : List Tok} {k : Nat} (h : ((hdT r).kind == k) = true) (hk : k ≠ 0) : r ≠ [] := by
  rintro rfl
  unfold hdT at h
  have : (0 : Nat) = k := by simpa using h
  omega
theorem takes_ni (t : List UInt8) : NI (takesP t) := fun r a r' h => by
  unfold takesP at h
  split at h
  · injection h with _ h2; rw [← h2]; simp
  · injection h with _ h2; rw [← h2]; exact Nat.le_refl _
theorem must_lt (t : List UInt8) : LT (mustP t) := fun r a r' h => by
  unfold mustP at h
  split at h
  · rename_i hs; injection h with _ h2; rw [← h2]; exact tail_lt (sees_ne hs)
  · cases h
theorem next_lt (k : Nat) (hk : k ≠ 0) : LT (nextP k) := fun r a r' h => by
  unfold nextP at h
  split at h
  · rename_i hs; injection h with _ h2; rw [← h2]; exact tail_lt (kind_ne hs hk)
  · cases h
theorem name_lt : LT nameP := next_lt 1 (by decide)
theorem num_lt : LT numP := (next_lt 2 (by decide)).bind fun _ => .ret _
theorem after_lt (t : List UInt8) : LT (afterP t) := (must_lt t).bind fun _ => num_lt.ni
theorem of_lt (l : List (List UInt8)) : LT (ofP l) := fun r a r' h => by
  unfold ofP at h
  split at h
  · rename_i hs
    injection h with _ h2
    rw [← h2]
    refine tail_lt (kind_ne (k := 1) ?_ (by decide))
    simp only [Bool.and_eq_true] at hs
    exact hs.2
  · cases h
theorem more_ni {α : Type} {x : Ps α} (h : NI x) : ∀ (f : Nat) (acc : List α), NI (moreP x f acc)
  | 0, acc => .ret acc
  | f + 1, acc => (takes_ni _).bind fun b => by
    cases b
    · exact .ret acc
    · exact h.bind fun a => more_ni h f (acc ++ [a])
theorem list_ni {α : Type} {x : Ps α} (h : NI x) : NI (listP x) := h.bind fun _a r b r' e => more_ni h _ _ r b r' e
theorem list_lt {α : Type} {x : Ps α} (h : LT x) : LT (listP x) := h.bind fun _a r b r' e => more_ni h.ni _ _ r b r' e
theorem ref_lt : LT refP := name_lt.bind fun _ => (must_lt _).ni.bind fun _ => name_lt.ni.bind fun _ => (must_lt _).ni.bind fun _ => name_lt.ni.bind fun _ => .ret _
theorem net_lt : LT netP := (must_lt _).bind fun _ => (of_lt _).ni.bind fun _ => .ret _
theorem ops_ni : ∀ n, NI (opsP n)
  | 0 => .ret _
  | n + 1 => num_lt.ni.bind fun _ => (ops_ni n).bind fun _ => .ret _
theorem ins_lt : LT insP := (of_lt _).bind fun _ => (ops_ni _).bind fun _ => (must_lt _).ni.bind fun _ => .ret _
theorem code_loop_ni : ∀ (f : Nat) (acc : List InsD), NI (codeLoop f acc)
  | 0, acc => .ret acc
  | f + 1, acc => fun r a r' h => by
    unfold codeLoop at h
    split at h
    · exact (ins_lt.ni.bind fun x => code_loop_ni f (acc ++ [x])) r a r' h
    · injection h with _ h2; rw [h2]; exact Nat.le_refl _
theorem code_ni : NI codeP := fun r a r' h => code_loop_ni _ _ r a r' h
theorem way_lt : LT wayP := fun r a r' h => by
  unfold wayP at h
  split at h
  · rename_i hs; injection h with _ h2; rw [← h2]; exact tail_lt (sees_ne hs)
  · split at h
    · rename_i hs; injection h with _ h2; rw [← h2]; exact tail_lt (sees_ne hs)
    · cases h
theorem port_lt : LT portP := way_lt.bind fun _ => name_lt.ni.bind fun _ => (of_lt _).ni.bind fun kind => (after_lt _).ni.bind fun _ => by
  by_cases hk : kind = 1
  · simp only [hk, if_true]
    exact (after_lt _).ni.bind fun _ => (must_lt _).ni.bind fun _ => .ret _
  · simp only [hk, if_false]
    exact (after_lt _).ni.bind fun _ => (must_lt _).ni.bind fun _ => .ret _
theorem proc_lt : LT procP := name_lt.bind fun _ => (after_lt _).ni.bind fun _ => (after_lt _).ni.bind fun _ => (after_lt _).ni.bind fun _ => (must_lt _).ni.bind fun _ => code_ni.bind fun _ => (must_lt _).ni.bind fun _ => .ret _
theorem skip_ni : NI skipP := fun r a r' h => by
  unfold skipP at h
  injection h with _ h2; rw [← h2]; simp
/-- Behind a first token that is taken. -/
theorem skip_lt {α : Type} {m : Ps α} (h : NI m) {r r' : List Tok} {a : α} (hr : r ≠ []) (e : (do skipP; m : Ps α) r = .ok a r') : r'.length < r.length := by
  obtain ⟨u, r1, h1, h2⟩ := bnd_inv e
  unfold skipP at h1
  injection h1 with _ h3
  rw [← h3] at h2
  exact Nat.lt_of_le_of_lt (h _ _ _ h2) (tail_lt hr)
theorem once_lt (w : List UInt8) (b : BuildD) {x : Ps PartD} (h : NI x) {r r' : List Tok} {a : BuildD} (hs : seesB w r = true) (e : onceP w b x r = .ok a r') : r'.length < r.length := by
  unfold onceP at e
  split at e
  · cases e
  · exact skip_lt (h.bind fun _ => (must_lt _).ni.bind fun _ => .ret _) (sees_ne hs) e
theorem thing_lt (b : BuildD) : LT (thingP b) := fun r a r' h => by
  unfold thingP at h
  split at h
  · rename_i hs; exact once_lt _ b ((list_ni num_lt.ni).bind fun _ => .ret _) hs h
  · split at h
    · rename_i hs; exact once_lt _ b ((list_ni num_lt.ni).bind fun _ => .ret _) hs h
    · split at h
      · rename_i hs; exact once_lt _ b (num_lt.ni.bind fun _ => .ret _) hs h
      · split at h
        · rename_i hs; exact once_lt _ b (num_lt.ni.bind fun _ => .ret _) hs h
        · split at h
          · rename_i hs; exact skip_lt (proc_lt.ni.bind fun _ => .ret _) (sees_ne hs) h
          · exact (port_lt.bind fun _ => .ret _) r a r' h
theorem things_ni : ∀ (f : Nat) (b : BuildD), NI (thingsLoop f b)
  | 0, b => .ret b
  | f + 1, b => fun r a r' h => by
    unfold thingsLoop at h
    split at h
    · injection h with _ h2; rw [← h2]; simp
    · exact ((thing_lt b).ni.bind fun b' => things_ni f b') r a r' h
theorem part_lt : LT partP := name_lt.bind fun _ => (after_lt _).ni.bind fun _ => (after_lt _).ni.bind fun _ => (after_lt _).ni.bind fun _ => (must_lt _).ni.bind fun _ =>
  NI.bind (fun r a r' h => things_ni _ _ r a r' h) fun _ => .ret _
theorem parts_ni : ∀ (f : Nat) (acc : List PartD), NI (partsLoop f acc)
  | 0, acc => .ret acc
  | f + 1, acc => (takes_ni _).bind fun b => by
    cases b
    · exact .ret acc
    · exact part_lt.ni.bind fun a => parts_ni f (acc ++ [a])
theorem mod_lt : LT modP := name_lt.bind fun _ => (after_lt _).ni.bind fun _ => (after_lt _).ni.bind fun _ => (must_lt _).ni.bind fun _ =>
  NI.bind (fun r a r' h => parts_ni _ _ r a r' h) fun _ => (must_lt _).ni.bind fun _ => .ret _
theorem chan_lt : LT chanP := ref_lt.bind fun _ => (must_lt _).ni.bind fun _ => (list_ni ref_lt.ni).bind fun _ => (must_lt _).ni.bind fun _ => .ret _
theorem sw_lt : LT swP := name_lt.bind fun _ => net_lt.ni.bind fun _ => (after_lt _).ni.bind fun _ => (after_lt _).ni.bind fun _ => (must_lt _).ni.bind fun _ => .ret _
theorem link_lt : LT linkP := name_lt.bind fun _ => name_lt.ni.bind fun _ => net_lt.ni.bind fun _ => (after_lt _).ni.bind fun _ => (must_lt _).ni.bind fun _ => .ret _
theorem vl_lt : LT vlP := name_lt.bind fun _ => (must_lt _).ni.bind fun _ => ref_lt.ni.bind fun _ => (after_lt _).ni.bind fun _ => (after_lt _).ni.bind fun _ => (must_lt _).ni.bind fun _ => (list_ni ref_lt.ni).bind fun _ => (must_lt _).ni.bind fun _ => .ret _
theorem opt_ni (t : List UInt8) : NI (optP t) := (takes_ni t).bind fun b => by
  cases b
  · exact .ret _
  · exact name_lt.ni
theorem health_lt : LT healthP := (of_lt _).bind fun _ => (opt_ni _).bind fun _ => (opt_ni _).bind fun _ => (must_lt _).ni.bind fun _ => (of_lt _).ni.bind fun _ => (must_lt _).ni.bind fun _ => (of_lt _).ni.bind fun _ => (must_lt _).ni.bind fun _ => .ret _
theorem rep_lt : LT repP := name_lt.bind fun _ => (must_lt _).ni.bind fun _ => num_lt.ni.bind fun _ => .ret _
theorem unless_ni : NI unlessP := (takes_ni _).bind fun b => by
  cases b
  · exact .ret _
  · exact list_ni name_lt.ni
theorem cause_lt : LT causeP := name_lt.bind fun _ => (must_lt _).ni.bind fun _ => (list_ni rep_lt.ni).bind fun _ => unless_ni.bind fun _ => (must_lt _).ni.bind fun _ => .ret _
theorem works_lt : LT worksP := name_lt.bind fun _ => num_lt.ni.bind fun _ => (must_lt _).ni.bind fun _ => name_lt.ni.bind fun _ => num_lt.ni.bind fun _ => (must_lt _).ni.bind fun _ => .ret _
theorem item_lt (c : CfgD) : LT (itemP c) := fun r a r' h => by
  unfold itemP at h
  split at h
  · rename_i hs; exact skip_lt (mod_lt.ni.bind fun _ => .ret _) (sees_ne hs) h
  · split at h
    · rename_i hs; exact skip_lt (chan_lt.ni.bind fun _ => .ret _) (sees_ne hs) h
    · split at h
      · rename_i hs; exact skip_lt (sw_lt.ni.bind fun _ => .ret _) (sees_ne hs) h
      · split at h
        · rename_i hs; exact skip_lt (link_lt.ni.bind fun _ => .ret _) (sees_ne hs) h
        · split at h
          · rename_i hs; exact skip_lt (vl_lt.ni.bind fun _ => .ret _) (sees_ne hs) h
          · split at h
            · rename_i hs; exact skip_lt (health_lt.ni.bind fun _ => .ret _) (sees_ne hs) h
            · split at h
              · rename_i hs; exact skip_lt (cause_lt.ni.bind fun _ => .ret _) (sees_ne hs) h
              · split at h
                · rename_i hs; exact skip_lt (works_lt.ni.bind fun _ => .ret _) (sees_ne hs) h
                · cases h
/-- The loops, by their rounds. -/
theorem more_fuel {α : Type} {x : Ps α} (h : NI x) : ∀ (f g : Nat) (acc : List α) (r : List Tok), r.length < f → r.length < g → moreP x f acc r = moreP x g acc r
  | 0, g, acc, r, hf, _ => by omega
  | f + 1, 0, acc, r, _, hg => by omega
  | f + 1, g + 1, acc, r, hf, hg => by
    have hu : ∀ k, moreP x (k + 1) acc r = if seesB [44] r then (do let a ← x; moreP x k (acc ++ [a]) : Ps (List α)) r.tail else .ok acc r := fun k => by
      have e : moreP x (k + 1) acc r = ((takesP [44]) >>= fun b => if b then (do let a ← x; moreP x k (acc ++ [a]) : Ps (List α)) else pure acc) r := rfl
      rw [e]
      by_cases hs : seesB [44] r = true
      · rw [bnd_ok (a := true) (r' := r.tail) (by unfold takesP; rw [hs]; rfl), hs]; rfl
      · have hs' : seesB [44] r = false := by simpa using hs
        rw [bnd_ok (a := false) (r' := r) (by unfold takesP; rw [hs']; rfl), hs']; rfl
    rw [hu f, hu g]
    by_cases hs : seesB [44] r = true
    · rw [hs, if_pos rfl, if_pos rfl]
      have hl := tail_lt (sees_ne hs)
      cases hx : x r.tail with
      | ok a r2 =>
        have hn := h _ _ _ hx
        rw [bnd_ok hx, bnd_ok hx]
        exact more_fuel h f g _ r2 (by omega) (by omega)
      | bad e r2 => rw [bnd_bad hx, bnd_bad hx]
    · have hs' : seesB [44] r = false := by simpa using hs
      rw [hs']; rfl
end Go.Proofs.YtlngbjphagnloaaGreatDoor
namespace Go.Proofs.YtlngbjphagnloaaGreatDoor
open Go.RowKit
def strV (l : List UInt8) : Value := .string ⟨l.toArray⟩
def lS (l : List UInt8) : Dat := .leaf (strV l)
def lI (n : Int) : Dat := .leaf (.int .i64 n)
def lU (n : Nat) : Dat := .leaf (.int .u8 (n : Int))
def lB (b : Bool) : Dat := .leaf (.bool b)
def RefD.cells (x : RefD) : List Dat := [lS x.m, lS x.p, lS x.o]
def InsD.cells (x : InsD) : List Dat := [lU x.op, lI x.a, lI x.b, lI x.c]
def PortD.cells (x : PortD) : List Dat := [lS x.name, lU x.kind, lB x.out, lI x.size, lI x.depth, lI x.refresh]
def ProcD.cells (x : ProcD) : List Dat := [lS x.name, lI x.prio, lI x.period, lI x.limit, .row 4 (x.code.map InsD.cells)]
def intRows (l : List Int) : List (List Dat) := l.map fun n => [lI n]
def strRows (l : List (List UInt8)) : List (List Dat) := l.map fun s => [lS s]
def PartD.cells (x : PartD) : List Dat := [lS x.name, lI x.period, lI x.length, lI x.mem, .row 1 (intRows x.semas), lI x.events, lI x.boards, .row 1 (intRows x.bufs), .row 6 (x.ports.map PortD.cells), .row 5 (x.procs.map ProcD.cells)]
def ModD.cells (x : ModD) : List Dat := [lS x.name, lI x.mem, lI x.frame, .row 10 (x.parts.map PartD.cells)]
def ChanD.cells (x : ChanD) : List Dat := x.from_.cells ++ [.row 3 (x.to.map RefD.cells)]
def SwD.cells (x : SwD) : List Dat := [lS x.name, lI x.net, lI x.delay, lI x.store]
def LinkD.cells (x : LinkD) : List Dat := [lS x.a, lS x.b, lI x.net, lI x.slow]
def VlD.cells (x : VlD) : List Dat := lS x.name :: x.from_.cells ++ [lI x.bag, lI x.max, .row 3 (x.to.map RefD.cells)]
def HealthD.cells (x : HealthD) : List Dat := [lS x.module, lS x.part, lU x.fault, lU x.level, lU x.do_]
def RepD.cells (x : RepD) : List Dat := [lS x.unit, lI x.code]
def CauseD.cells (x : CauseD) : List Dat := [lS x.unit, .row 2 (x.needs.map RepD.cells), .row 1 (strRows x.but)]
def VerD.cells (x : VerD) : List Dat := [lS x.a, lI x.va, lS x.b, lI x.vb]
def CfgD.cells (x : CfgD) : List Dat := [.row 4 (x.modules.map ModD.cells), .row 4 (x.channels.map ChanD.cells), .row 4 (x.switches.map SwD.cells), .row 4 (x.links.map LinkD.cells), .row 7 (x.vls.map VlD.cells), .row 5 (x.health.map HealthD.cells), .row 3 (x.causes.map CauseD.cells), .row 4 (x.versions.map VerD.cells)]
end Go.Proofs.YtlngbjphagnloaaGreatDoor
namespace Go.Proofs.YtlngbjphagnloaaGreatDoor
open Go.RowKit
theorem block_of_add (a : Addr) (n : Nat) : (a.add n).block = a.block := by unfold Addr.add; split <;> rfl
theorem add_of_add (a : Addr) (i j : Nat) : (a.add i).add j = a.add (i + j) := by
  unfold Addr.add
  by_cases hi : i = 0 <;> by_cases hj : j = 0 <;> simp [hi, hj, Nat.add_assoc]

def Reads (w : World) (B size : Nat) (A : Option Addr) (n : Nat) (xs : List Value) : Prop :=
  xs.length = n * size ∧ (0 < n → ∃ ad, A = some ad ∧ ad.block < B ∧ ∀ j u, xs[j]? = some u → w.cell? (ad.add j) = some u)

section
variable {w w' : World} {B B' size n : Nat} {A : Option Addr} {xs : List Value}
theorem Reads.none_ : Reads w B size A 0 [] := ⟨by simp, fun h => absurd h (by omega)⟩
theorem Reads.at_ {k : Nat} (h : Reads w B 1 A n xs) (hk : k < n) : ∃ ad u, A = some ad ∧ ad.block < B ∧ xs[k]? = some u ∧ w.cell? (ad.add k) = some u := by
  obtain ⟨ad, e, hb, hc⟩ := h.2 (by omega)
  have hl : k < xs.length := by have := h.1; omega
  exact ⟨ad, xs[k], e, hb, List.getElem?_eq_getElem hl, hc k _ (List.getElem?_eq_getElem hl)⟩
theorem Reads.keep (h : Reads w B size A n xs) (hk : ∀ p : Addr, p.block < B → w'.cell? p = w.cell? p) : Reads w' B size A n xs :=
  ⟨h.1, fun hn => by
    obtain ⟨ad, e, hb, hc⟩ := h.2 hn
    exact ⟨ad, e, hb, fun j u hu => (hk _ (by rw [block_of_add]; exact hb)).trans (hc j u hu)⟩⟩
theorem Reads.more (h : Reads w B size A n xs) (hB : B ≤ B') : Reads w B' size A n xs :=
  ⟨h.1, fun hn => by
    obtain ⟨ad, e, hb, hc⟩ := h.2 hn
    exact ⟨ad, e, by omega, hc⟩⟩
theorem Reads.below (h : Reads w B size A n xs) (hb : Below B w w') : Reads w' B size A n xs := h.keep fun _ hp => hb.cell hp
theorem Reads.drew (h : Reads w B size A n xs) : Reads w.drew B size A n xs := h
theorem Reads.drewN (h : Reads w B size A n xs) (k : Nat) : Reads (w.drewN k) B size A n xs := h
theorem Reads.alloc (h : Reads w B size A n xs) (hB : B ≤ w.heap.size) (o : Obj) : Reads (w.alloc o) B size A n xs := h.keep fun p hp => World.cell?_alloc_lt w o p (by omega)
theorem Reads.setCell (h : Reads w B size A n xs) {p : Addr} (hB : B ≤ p.block) (u : Value) : Reads (w.setCell p u) B size A n xs :=
  h.keep fun q hq => World.cell?_setCell_other w p q u (fun e => by subst e; omega)
theorem Reads.grown (h : Reads w B size A n xs) {row : Option Nat} (hg : w.grownBy w' row) (hB : B ≤ w.heap.size) (hr : ∀ g, row = some g → B ≤ g) : Reads w' B size A n xs :=
  h.keep fun p hp => World.cell?_of_block (hg.block p.block (by omega) (fun e => by have := hr _ e.symm; omega))
theorem Reads.cut (h : Reads w B size A n xs) {k cap : Nat} (hk : k ≤ n) (hc : n ≤ cap) :
    Reads w B size (if cap = k then A else A.map (·.add (k * size))) (n - k) (xs.drop (k * size)) := by
  refine ⟨by rw [List.length_drop, h.1, Nat.sub_mul], fun hn => ?_⟩
  obtain ⟨ad, rfl, hb, hcell⟩ := h.2 (by omega)
  rw [if_neg (by omega)]
  refine ⟨ad.add (k * size), rfl, by rw [block_of_add]; exact hb, fun j u hu => ?_⟩
  rw [add_of_add]
  exact hcell _ u (by rw [← hu, List.getElem?_drop])
theorem Reads.of_own {base : Nat} {e : TypeId} {c : Nat} (h : w.ownsRow base e size (.slice A n c) n xs) : Reads w w.heap.size size A n xs := by
  refine ⟨h.1, fun hn => ?_⟩
  obtain ⟨g, cap, hv, _, hlt⟩ := h.form hn
  have hA : A = some ⟨g, 0, none⟩ := by injection hv
  subst hA
  exact ⟨_, rfl, hlt, h.cells (g := g) rfl⟩
end
section
variable {P : Program} (w : World)

theorem run_append_of_nil (base : Nat) (t ty e : TypeId) (i : TypeInfo) (size : Nat) (ht : P.underlying t = some (.slice e)) (hi : P.info? e = some i)
    (v : Value) (n : Nat) (xs : List Value) (hown : w.ownsRow base e size v n xs) (c : Nat) : (Builtin.append_ #[t, t] ty #[v, .slice none 0 c]).run P w = .ok v w := by
  rcases hown.2 with ⟨rfl, rfl⟩ | ⟨g, cap, cur, rfl, _, _, hnc, _⟩
  · simp [Builtin.append_, run_underlying ht, sizeOf, typeInfo, hi, Builtin.lenOf, Builtin.firstCells]
  · simp [Builtin.append_, run_underlying ht, sizeOf, typeInfo, hi, Builtin.lenOf, Builtin.firstCells, hnc, storeCells]

theorem run_append_any (base : Nat) (t ty e : TypeId) (i : TypeInfo) (z : Value) (size bytes : Nat) (ht : P.underlying t = some (.slice e)) (hi : P.info? e = some i) (hz : i.zero = some z)
    (hsize : i.size = size) (hby : i.bytes = bytes) (hzs : z.cells.size = size) (hsz : 0 < size)
    (v : Value) (n : Nat) (xs : List Value) (hown : w.ownsRow base e size v n xs)
    (B : Nat) (A : Option Addr) (m c : Nat) (news : List Value) (hr : Reads w B size A m news) (h1 : ∀ u ∈ news, u.oneCell' = true)
    (h63 : n + m ≤ maxLen) (hbytes : (n + m) * bytes ≤ 140737488355328) (hbase : base ≤ w.heap.size) :
    ∃ v' w', (Builtin.append_ #[t, t] ty #[v, .slice A m c]).run P w = .ok v' w' ∧ w'.ownsRow base e size v' (n + m) (xs ++ news) ∧ w.grownBy w' v.ownBlock ∧
      (v'.ownBlock = v.ownBlock ∨ v'.ownBlock = some w.heap.size) := by
  rcases A with _ | ad
  · have hm : m = 0 := by
      rcases Nat.eq_zero_or_pos m with h0 | h0
      · exact h0
      · obtain ⟨ad, h, _⟩ := hr.2 h0
        cases h
    subst hm
    have hn : news = [] := List.eq_nil_of_length_eq_zero (by simpa using hr.1)
    subst hn
    exact ⟨v, w, run_append_of_nil w base t ty e i size ht hi v n xs hown c, by simpa using hown, World.grownBy.refl w _, .inl rfl⟩
  · have hcells : ∀ j u, news[j]? = some u → w.cell? (ad.add j) = some u := by
      intro j u hu
      rcases Nat.eq_zero_or_pos m with h0 | h0
      · subst h0
        have hn : news = [] := List.eq_nil_of_length_eq_zero (by simpa using hr.1)
        subst hn
        simp at hu
      · obtain ⟨ad', h, _, hc⟩ := hr.2 h0
        injection h with h
        subst h
        exact hc j u hu
    obtain ⟨v', w', hrun, h2, h3, _, h5⟩ := run_append_own_at (P := P) w base t ty e i z size bytes ht hi hz hsize hby hzs hsz v n xs hown ad m c news hr.1 hcells h1 h63 hbytes hbase
    exact ⟨v', w', hrun, h2, h3, h5⟩

theorem wp_append_any {o : Oper} {a : Act} {K : Act → World → Prop} {Q : Exit → Act → World → Prop} (s x : Operand) (t : TypeId)
    (ho : o.op = .call { callee := .builtin .append, args := #[s, x], argTypes := #[t, t] })
    (base : Nat) (e : TypeId) (i : TypeInfo) (z : Value) (size bytes : Nat) (ht : P.underlying t = some (.slice e)) (hi : P.info? e = some i) (hz : i.zero = some z)
    (hsize : i.size = size) (hby : i.bytes = bytes) (hzs : z.cells.size = size) (hsz : 0 < size)
    (v : Value) (n : Nat) (xs : List Value) (hs : a.eval s = v) (hown : w.ownsRow base e size v n xs)
    (B : Nat) (A : Option Addr) (m c : Nat) (news : List Value) (hx : a.eval x = .slice A m c) (hr : Reads w B size A m news) (h1 : ∀ u ∈ news, u.oneCell' = true)
    (h63 : n + m ≤ maxLen) (hbytes : (n + m) * bytes ≤ 140737488355328) (hbase : base ≤ w.heap.size)
    (h : ∀ v' w', w'.ownsRow base e size v' (n + m) (xs ++ news) → w.grownBy w' v.ownBlock → (v'.ownBlock = v.ownBlock ∨ v'.ownBlock = some w.heap.size) → K (a.put o.dst v') w') : o.wp P a w K Q := by
  obtain ⟨v', w', hrun, h2, h3, h4⟩ := run_append_any (P := P) w base t o.type e i z size bytes ht hi hz hsize hby hzs hsz v n xs hown B A m c news hr h1 h63 hbytes hbase
  unfold Oper.wp execOp
  simp only [ho, resolve, invoke, builtin, Sem.run_bind, Sem.run_pure, Result.andThen_ok, List.map_toArray, List.map_cons, List.map_nil, hs, hx, hrun]
  exact h v' w' h2 h3 h4

theorem wpList_append_any {ops : Array Oper} {rest : List Oper} {o : Oper} {a : Act} {Q : Exit → Act → World → Prop} (hgd : o.guard = none) (s x : Operand) (t : TypeId)
    (ho : o.op = .call { callee := .builtin .append, args := #[s, x], argTypes := #[t, t] })
    (base : Nat) (e : TypeId) (i : TypeInfo) (z : Value) (size bytes : Nat) (ht : P.underlying t = some (.slice e)) (hi : P.info? e = some i) (hz : i.zero = some z)
    (hsize : i.size = size) (hby : i.bytes = bytes) (hzs : z.cells.size = size) (hsz : 0 < size)
    (v : Value) (n : Nat) (xs : List Value) (hs : a.eval s = v) (hown : w.ownsRow base e size v n xs)
    (B : Nat) (A : Option Addr) (m c : Nat) (news : List Value) (hx : a.eval x = .slice A m c) (hr : Reads w B size A m news) (h1 : ∀ u ∈ news, u.oneCell' = true)
    (h63 : n + m ≤ maxLen) (hbytes : (n + m) * bytes ≤ 140737488355328) (hbase : base ≤ w.heap.size)
    (h : ∀ v' w', w'.ownsRow base e size v' (n + m) (xs ++ news) → w.grownBy w' v.ownBlock → (v'.ownBlock = v.ownBlock ∨ v'.ownBlock = some w.heap.size) → wpList P ops Q rest (a.put o.dst v') w') : wpList P ops Q (o :: rest) a w :=
  wpList_plain hgd fun _ hK => wp_append_any w s x t ho base e i z size bytes ht hi hz hsize hby hzs hsz v n xs hs hown B A m c news hx hr h1 h63 hbytes hbase fun v' w' h2 h3 h4 => hK _ _ (h v' w' h2 h3 h4)

theorem step_append_any {ops : Array Oper} {o : Oper} {a : Act} {K : Act → World → Prop} {Q : Exit → Act → World → Prop} {E : Prop} (hgd : o.guard = none) (s x : Operand) (t : TypeId)
    (ho : o.op = .call { callee := .builtin .append, args := #[s, x], argTypes := #[t, t] })
    (base : Nat) (e : TypeId) (i : TypeInfo) (z : Value) (size bytes : Nat) (ht : P.underlying t = some (.slice e)) (hi : P.info? e = some i) (hz : i.zero = some z)
    (hsize : i.size = size) (hby : i.bytes = bytes) (hzs : z.cells.size = size) (hsz : 0 < size)
    (v : Value) (n : Nat) (xs : List Value) (hs : a.eval s = v) (hown : w.ownsRow base e size v n xs)
    (B : Nat) (A : Option Addr) (m c : Nat) (news : List Value) (hx : a.eval x = .slice A m c) (hr : Reads w B size A m news) (h1 : ∀ u ∈ news, u.oneCell' = true)
    (h63 : n + m ≤ maxLen) (hbytes : (n + m) * bytes ≤ 140737488355328) (hbase : base ≤ w.heap.size)
    (h : ∀ v' w', w'.ownsRow base e size v' (n + m) (xs ++ news) → w.grownBy w' v.ownBlock → (v'.ownBlock = v.ownBlock ∨ v'.ownBlock = some w.heap.size) → K (a.put o.dst v') w') :
    if Region.wanted o (yielded ops a.tmps) = true then Oper.wp P o a w K Q else E := by
  have hw : Region.wanted o (yielded ops a.tmps) = true := by simp [Region.wanted, hgd]
  rw [if_pos hw]
  exact wp_append_any w s x t ho base e i z size bytes ht hi hz hsize hby hzs hsz v n xs hs hown B A m c news hx hr h1 h63 hbytes hbase h
end
end Go.Proofs.YtlngbjphagnloaaGreatDoor
namespace Go.Proofs.YtlngbjphagnloaaGreatDoor
/-- What parsing a source yields: the configuration, or where the error lies and the error. -/
def atT (r : List Tok) (size : Nat) : Nat := (r.headD ⟨0, [], size⟩).at_
def parseT (x : List Tok × Nat × Nat) (size : Nat) : CfgD × Nat × Nat :=
  if x.2.2 = 0 then match cfgP x.1 with
    | .ok c _ => (c, 0, 0)
    | .bad e r => (CfgD.none, atT r size, e)
  else (CfgD.none, x.2.1, x.2.2)
/-- Code: all tokens are consumed. -/
def endP (l : List InsD) : Ps (List InsD) := fun r => match r with
  | [] => .ok l []
  | t :: r => .bad 80 (t :: r)
def allCodeP : Ps (List InsD) := do
  let l ← codeP
  endP l
def codeT (x : List Tok × Nat × Nat) (size : Nat) : List InsD × Nat × Nat :=
  if x.2.2 = 0 then match allCodeP x.1 with
    | .ok c _ => (c, 0, 0)
    | .bad e r => ([], atT r size, e)
  else ([], x.2.1, x.2.2)
def CfgD.count (c : CfgD) : Nat := c.modules.length + c.channels.length + c.switches.length + c.links.length + c.vls.length + c.health.length + c.causes.length + c.versions.length
end Go.Proofs.YtlngbjphagnloaaGreatDoor
namespace Go.Proofs.YtlngbjphagnloaaGreatDoor
open Go.RowKit
theorem lexA_ind (P : Nat → List UInt8 → List Tok × Nat × Nat → Prop)
    (h0 : ∀ p l, l.drop (skipN false l) = [] → P p l ([], 0, 0))
    (h1 : ∀ p l b r, l.drop (skipN false l) = b :: r → (tokN (b :: r)).2.2 = 0 → P (p + skipN false l + (tokN (b :: r)).2.1) ((b :: r).drop (tokN (b :: r)).2.1) (lexA (p + skipN false l + (tokN (b :: r)).2.1) ((b :: r).drop (tokN (b :: r)).2.1)) →
      P p l (⟨(tokN (b :: r)).1, (b :: r).take (tokN (b :: r)).2.1, p + skipN false l⟩ :: (lexA (p + skipN false l + (tokN (b :: r)).2.1) ((b :: r).drop (tokN (b :: r)).2.1)).1, (lexA (p + skipN false l + (tokN (b :: r)).2.1) ((b :: r).drop (tokN (b :: r)).2.1)).2))
    (h2 : ∀ p l b r, l.drop (skipN false l) = b :: r → (tokN (b :: r)).2.2 ≠ 0 → P p l ([], p + skipN false l, (tokN (b :: r)).2.2)) :
    ∀ (n p : Nat) (l : List UInt8), l.length ≤ n → P p l (lexA p l)
  | n, p, l, hn => by
    rw [lexA_eq]
    have hd : (l.drop (skipN false l)).length ≤ l.length := by rw [List.length_drop]; omega
    cases h : l.drop (skipN false l) with
    | nil => exact h0 p l h
    | cons b r =>
      rw [h] at hd
      simp only [List.length_cons] at hd
      simp only
      by_cases hz : (tokN (b :: r)).2.2 = 0
      · have hp := tokN_pos b r hz
        have hl : ((b :: r).drop (tokN (b :: r)).2.1).length < l.length := by rw [List.length_drop, List.length_cons]; omega
        cases n with
        | zero => omega
        | succ n =>
          rw [if_pos hz]
          exact h1 p l b r h hz (lexA_ind P h0 h1 h2 n _ _ (by omega))
      · rw [if_neg hz]
        exact h2 p l b r h hz
def ValidT (t : Tok) : Prop := ∃ b r, t.text = b :: r ∧ blankB b = false ∧ (b == 35) = false ∧ ∀ suf : List UInt8, (∀ c s, suf = c :: s → innerB c = false) → tokN (t.text ++ suf) = (t.kind, t.text.length, 0)
theorem start_no (b : UInt8) (h : letterB b = true ∨ digitB b = true ∨ signB b = true) : blankB b = false ∧ (b == 35) = false := by
  constructor
  · rw [Bool.eq_false_iff]
    intro hs
    unfold blankB at hs
    simp only [Bool.or_eq_true, beq_iff_eq] at hs
    rcases hs with ((rfl | rfl) | rfl) | rfl <;> revert h <;> decide
  · rw [Bool.eq_false_iff]
    intro hs
    have hs' : b = 35 := by simpa using hs
    subst hs'
    revert h; decide
theorem runN_app (r suf : List UInt8) (hs : ∀ c s, suf = c :: s → innerB c = false) : runN (r.take (runN r) ++ suf) = runN r ∧ (r.take (runN r) ++ suf).take (runN r) = r.take (runN r) := by
  have e : r.take (runN r) = r.takeWhile innerB := by
    unfold runN
    exact List.prefix_iff_eq_take.1 (List.takeWhile_prefix innerB) |>.symm
  have h1 : runN (r.take (runN r) ++ suf) = runN r := by
    rw [e]
    unfold runN
    rw [List.takeWhile_append_of_pos (fun a ha => by
      have := List.all_takeWhile (l := r) (p := innerB)
      rw [List.all_eq_true] at this
      exact this a ha)]
    cases suf with
    | nil => simp
    | cons c s => rw [List.takeWhile_cons, hs c s rfl]; simp
  refine ⟨h1, ?_⟩
  have hl : (r.take (runN r)).length = runN r := by rw [List.length_take]; have := runN_le r; omega
  rw [List.take_append_of_le_length (by omega), List.take_take]
  congr 1
  omega
theorem valid_tok (b : UInt8) (r : List UInt8) (at_ : Nat) (h : (tokN (b :: r)).2.2 = 0) : ValidT ⟨(tokN (b :: r)).1, (b :: r).take (tokN (b :: r)).2.1, at_⟩ := by
  have hr := runN_le r
  by_cases h1 : letterB b = true
  · by_cases h2 : 24 < 1 + runN r
    · unfold tokN at h; simp only [h1, if_true, h2] at h; cases h
    · have e : tokN (b :: r) = (1, 1 + runN r, 0) := by unfold tokN; simp [h1, h2]
      rw [e]
      obtain ⟨n1, n2⟩ := start_no b (.inl h1)
      refine ⟨b, r.take (runN r), by simp only; rw [Nat.add_comm, List.take_succ_cons], n1, n2, fun suf hs => ?_⟩
      simp only
      obtain ⟨a1, a2⟩ := runN_app r suf hs
      have hl : ((b :: r).take (1 + runN r)).length = 1 + runN r := by rw [List.length_take, List.length_cons]; omega
      rw [hl, Nat.add_comm 1, List.take_succ_cons, List.cons_append]
      unfold tokN
      simp only
      rw [if_pos h1, a1, if_neg h2, Nat.add_comm]
  · by_cases h2 : digitB b = true
    · by_cases h3 : numB (b :: r.take (runN r)) = true
      · have e : tokN (b :: r) = (2, 1 + runN r, 0) := by unfold tokN; simp [h1, h2, h3]
        rw [e]
        obtain ⟨n1, n2⟩ := start_no b (.inr (.inl h2))
        refine ⟨b, r.take (runN r), by simp only; rw [Nat.add_comm, List.take_succ_cons], n1, n2, fun suf hs => ?_⟩
        simp only
        obtain ⟨a1, a2⟩ := runN_app r suf hs
        have hl : ((b :: r).take (1 + runN r)).length = 1 + runN r := by rw [List.length_take, List.length_cons]; omega
        rw [hl, Nat.add_comm 1, List.take_succ_cons, List.cons_append]
        unfold tokN
        simp only
        rw [if_neg h1, if_pos h2, a1, a2, if_pos h3, Nat.add_comm]
      · exfalso
        unfold tokN at h
        simp only [h1, h2, h3, if_true] at h
        simp at h
    · by_cases h3 : signB b = true
      · have e : tokN (b :: r) = (3, 1, 0) := by unfold tokN; simp [h1, h2, h3]
        rw [e]
        obtain ⟨n1, n2⟩ := start_no b (.inr (.inr h3))
        refine ⟨b, [], by simp, n1, n2, fun suf hs => ?_⟩
        simp only [List.take_succ_cons, List.take_zero, List.cons_append, List.nil_append, List.length_cons, List.length_nil]
        unfold tokN
        simp only
        rw [if_neg h1, if_neg h2, if_pos h3]
      · exfalso
        unfold tokN at h
        simp only [h1, h2, h3] at h
        simp at h
theorem valid_all (p : Nat) (l : List UInt8) : ∀ t ∈ (lexA p l).1, ValidT t := by
  refine lexA_ind (fun p l q => ∀ t ∈ q.1, ValidT t) ?_ ?_ ?_ l.length p l (Nat.le_refl _)
  · intro p l _ t ht; simp at ht
  · intro p l b r h hz ih t ht
    rcases List.mem_cons.1 ht with rfl | ht
    · exact valid_tok b r _ hz
    · exact ih t ht
  · intro p l b r _ _ t ht; simp at ht
/-- At a valid token. -/
theorem lexA_tok (p : Nat) (t : Tok) (suf : List UInt8) (hv : ValidT t) (hs : ∀ c s, suf = c :: s → innerB c = false) : lexA p (t.text ++ suf) = (⟨t.kind, t.text, p⟩ :: (lexA (p + t.text.length) suf).1, (lexA (p + t.text.length) suf).2) := by
  obtain ⟨b, r, e, h1, h2, h3⟩ := hv
  have ht := h3 suf hs
  rw [lexA_eq]
  have hz : skipN false (t.text ++ suf) = 0 := by
    rw [e, List.cons_append, skipN_f, h1, h2]; simp
  rw [hz, List.drop_zero]
  have ec : t.text ++ suf = b :: (r ++ suf) := by rw [e]; rfl
  rw [ec] at ht ⊢
  simp only [ht, if_true, Nat.add_zero]
  rw [← ec, List.take_left, List.drop_left]
/-- Which kind a valid token has. -/
theorem valid_kind {t : Tok} (h : ValidT t) : (t.kind = 1 → ∃ b r, t.text = b :: r ∧ letterB b = true) ∧ (t.kind = 2 → numB t.text = true ∧ ∃ b r, t.text = b :: r ∧ digitB b = true) := by
  obtain ⟨b, r, e, _, _, hs⟩ := h
  have h0 := hs [] (fun c s h => by cases h)
  rw [List.append_nil, e] at h0
  unfold tokN at h0
  dsimp only at h0
  by_cases hl : letterB b = true
  · rw [if_pos hl] at h0
    have hk : 1 = t.kind := by
      split at h0
      · exact congrArg (·.1) h0
      · exact congrArg (·.1) h0
    exact ⟨fun _ => ⟨b, r, e, hl⟩, fun h2 => by omega⟩
  · rw [if_neg hl] at h0
    by_cases hd : digitB b = true
    · rw [if_pos hd] at h0
      have hk : 2 = t.kind := by
        split at h0
        · exact congrArg (·.1) h0
        · exact congrArg (·.1) h0
      refine ⟨fun h1 => by omega, fun _ => ⟨?_, b, r, e, hd⟩⟩
      split at h0
      · rename_i hn
        have hlen : 1 + runN r = (b :: r).length := congrArg (·.2.1) h0
        rw [e]
        rwa [List.take_of_length_le (by simp at hlen; omega)] at hn
      · have : (72 : Nat) = 0 := congrArg (·.2.2) h0
        omega
    · rw [if_neg hd] at h0
      have hk : 3 = t.kind := by
        split at h0
        · exact congrArg (·.1) h0
        · exact congrArg (·.1) h0
      exact ⟨fun h1 => by omega, fun h1 => by omega⟩
theorem good_lex (p : Nat) (l : List UInt8) (hl : l.length ≤ 1099511627776) (hs : ∀ t ∈ (lexA p l).1, t.text.length ≤ l.length) : Good (lexA p l).1 := fun t ht hk =>
  ⟨((valid_kind (valid_all p l t ht)).2 hk).1, Nat.le_trans (hs t ht) hl⟩
end Go.Proofs.YtlngbjphagnloaaGreatDoor

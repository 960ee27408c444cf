/-
  Merged texts: format: what the printer prints, as plain text, and how long it is. | format: rows in blocks that are kept; the slice of any; line. | format: joined, strings.Join (printed by tools/mkjoin.py). | format: a printable configuration's source is not longer than its size allows. | format: code, Code. | format: Code.
-/
import Derived.Test.YtndpnpohdoggjaaGreatDoorPk16
import Derived.Lib.Repeat
import Derived.Lib.Join
import Derived.Lib.ItoaLen
import Derived.Test.YtndpnpohdoggjaaGreatDoorPk9
import Derived.Test.YtndpnpohdoggjaaGreatDoorPk14
namespace Go.Proofs.YtndpnpohdoggjaaGreatDoor
def catT {α : Type} (f : α → List UInt8) (l : List α) : List UInt8 := (l.map f).flatten
theorem catT_step {α : Type} {f : α → List UInt8} {l : List α} {k : Nat} {x : α} (h : l[k]? = some x) : catT f (l.take (k + 1)) = catT f (l.take k) ++ f x := by
  unfold catT
  rw [List.take_add_one, h]
  simp
theorem catT_zero {α : Type} {f : α → List UInt8} {l : List α} : catT f (l.take 0) = [] := by simp [catT]
theorem catT_le {α : Type} {f : α → List UInt8} {l : List α} {k : Nat} : (catT f (l.take k)).length ≤ (catT f l).length := by
  have e : catT f l = catT f (l.take k) ++ catT f (l.drop k) := by
    unfold catT
    rw [← List.flatten_append, ← List.map_append, List.take_append_drop]
  rw [e, List.length_append]
  omega
theorem catT_room {α : Type} {f : α → List UInt8} {l : List α} {k : Nat} {x : α} (h : l[k]? = some x) : (catT f (l.take k)).length + (f x).length ≤ (catT f l).length := by
  have := catT_le (f := f) (l := l) (k := k + 1)
  rw [catT_step h, List.length_append] at this
  exact this
def lnT (t : Nat) (en : List UInt8) (l : List Arg) : List UInt8 := Lib.repeatL [9] t ++ sayT l ++ (en ++ [10])
def sepT : List UInt8 := [44, 32]
def numsT (l : List Int) : List UInt8 := Lib.join (l.map Lib.itoa) sepT
def refsT (l : List RefD) : List UInt8 := Lib.join (l.map refT) sepT
def repT (x : RepD) : List UInt8 := x.unit ++ [58] ++ Lib.itoa x.code
def repsT (l : List RepD) : List UInt8 := Lib.join (l.map repT) sepT
def opsOf (x : InsD) : List Int := [x.a, x.b, x.c].take (wordN insOps x.op).length
def insT (x : InsD) : List UInt8 := wordN insWords x.op ++ catT (fun n => 32 :: Lib.itoa n) (opsOf x) ++ [59]
def chanT (x : ChanD) : List UInt8 := lnT 0 [59] [.s [99, 104, 97, 110, 110, 101, 108], .s (refT x.from_), .s [116, 111], .s (refsT x.to)]
def swT (x : SwD) : List UInt8 := lnT 0 [59] [.s [115, 119, 105, 116, 99, 104], .s x.name, .s [110, 101, 116], .s (netT x.net), .s [100, 101, 108, 97, 121], .n x.delay, .s [115, 116, 111, 114, 101], .n x.store]
def linkT (x : LinkD) : List UInt8 := lnT 0 [59] [.s [108, 105, 110, 107], .s x.a, .s x.b, .s [110, 101, 116], .s (netT x.net), .s [115, 108, 111, 119], .n x.slow]
def vlT (x : VlD) : List UInt8 := lnT 0 [59] [.s [118, 108], .s x.name, .s [102, 114, 111, 109], .s (refT x.from_), .s [98, 97, 103], .n x.bag, .s [109, 97, 120], .n x.max, .s [116, 111], .s (refsT x.to)]
def healthA (x : HealthD) : List Arg := [.s [111, 110], .s (wordN faultWords x.fault)] ++ (if x.module = [] then [] else [.s [109, 111, 100, 117, 108, 101], .s x.module]) ++ (if x.part = [] then [] else [.s [112, 97, 114, 116], .s x.part]) ++ [.s [108, 101, 118, 101, 108], .s (wordN levelWords x.level), .s [100, 111], .s (wordN actionWords x.do_)]
def healthT (x : HealthD) : List UInt8 := lnT 0 [59] (healthA x)
def causeA (x : CauseD) : List Arg := [.s [99, 97, 117, 115, 101], .s x.unit, .s [110, 101, 101, 100, 115], .s (repsT x.needs)] ++ (if x.but = [] then [] else [.s [117, 110, 108, 101, 115, 115], .s (Lib.join x.but sepT)])
def causeT (x : CauseD) : List UInt8 := lnT 0 [59] (causeA x)
def verT (x : VerD) : List UInt8 := lnT 0 [59] [.s [119, 111, 114, 107, 115], .s x.a, .n x.va, .s [119, 105, 116, 104], .s x.b, .n x.vb]
def wayT (x : PortD) : List UInt8 := if x.out then [111, 117, 116] else [105, 110]
def portT (x : PortD) : List UInt8 := if x.kind = 1 then lnT 2 [59] [.s (wayT x), .s x.name, .s [115, 97, 109, 112, 108, 105, 110, 103, 32, 115, 105, 122, 101], .n x.size, .s [114, 101, 102, 114, 101, 115, 104], .n x.refresh] else lnT 2 [59] [.s (wayT x), .s x.name, .s [113, 117, 101, 117, 105, 110, 103, 32, 115, 105, 122, 101], .n x.size, .s [100, 101, 112, 116, 104], .n x.depth]
def procH (x : ProcD) : List UInt8 := lnT 2 [32, 123] [.s [112, 114, 111, 99], .s x.name, .s [112, 114, 105, 111], .n x.prio, .s [112, 101, 114, 105, 111, 100], .n x.period, .s [108, 105, 109, 105, 116], .n x.limit]
def codeT (x : InsD) : List UInt8 := lnT 3 [] [.s (insT x)]
def procT (x : ProcD) : List UInt8 := procH x ++ catT codeT x.code ++ lnT 2 [125] []
def partH (x : PartD) : List UInt8 := lnT 1 [32, 123] [.s [112, 97, 114, 116], .s x.name, .s [112, 101, 114, 105, 111, 100], .n x.period, .s [108, 101, 110, 103, 116, 104], .n x.length, .s [109, 101, 109], .n x.mem]
def semasT (x : PartD) : List UInt8 := if x.semas = [] then [] else lnT 2 [59] [.s [115, 101, 109, 97, 115], .s (numsT x.semas)]
def eventsT (x : PartD) : List UInt8 := if 0 < x.events then lnT 2 [59] [.s [101, 118, 101, 110, 116, 115], .n x.events] else []
def boardsT (x : PartD) : List UInt8 := if 0 < x.boards then lnT 2 [59] [.s [98, 111, 97, 114, 100, 115], .n x.boards] else []
def bufsT (x : PartD) : List UInt8 := if x.bufs = [] then [] else lnT 2 [59] [.s [98, 117, 102, 115], .s (numsT x.bufs)]
def partT (x : PartD) : List UInt8 := partH x ++ semasT x ++ eventsT x ++ boardsT x ++ bufsT x ++ catT portT x.ports ++ catT procT x.procs ++ lnT 1 [125] []
def modH (x : ModD) : List UInt8 := lnT 0 [32, 123] [.s [109, 111, 100, 117, 108, 101], .s x.name, .s [109, 101, 109], .n x.mem, .s [102, 114, 97, 109, 101], .n x.frame]
def modT (x : ModD) : List UInt8 := modH x ++ catT partT x.parts ++ lnT 0 [125] []
def cfgT (x : CfgD) : List UInt8 := catT modT x.modules ++ catT chanT x.channels ++ catT swT x.switches ++ catT linkT x.links ++ catT vlT x.vls ++ catT healthT x.health ++ catT causeT x.causes ++ catT verT x.versions
theorem join_many (l : List (List UInt8)) : l.length ≤ (Lib.join l sepT).length + 1 := by
  cases l with
  | nil => simp
  | cons a l =>
    rw [Lib.join_length]
    simp [sepT]
    omega
theorem lens_mem {l : List (List UInt8)} {x : List UInt8} (h : x ∈ l) : x.length ≤ Lib.lens l := by
  induction l with
  | nil => simp at h
  | cons a l ih =>
    simp only [Lib.lens, List.map_cons, List.sum_cons] at ih ⊢
    rcases List.mem_cons.1 h with rfl | h
    · omega
    · have := ih h
      omega
theorem join_mem {l : List (List UInt8)} {x : List UInt8} (h : x ∈ l) : x.length ≤ (Lib.join l sepT).length := by
  cases l with
  | nil => simp at h
  | cons a l =>
    rw [Lib.join_length]
    have := lens_mem h
    omega
end Go.Proofs.YtndpnpohdoggjaaGreatDoor
namespace Go.Proofs.YtndpnpohdoggjaaGreatDoor
open Go.RowKit
attribute [local go_sem] Later.cell
def DRowG (w : World) (G : Nat → Prop) (A : Option Addr) (size : Nat) (es : List (List Dat)) : Prop :=
  es = [] ∨ ∃ b off, A = some ⟨b, off, none⟩ ∧ G b ∧ b < w.heap.size ∧ ∀ (i j : Nat) e d, es[i]? = some e → e[j]? = some d → ∃ u, w.cell? ⟨b, off + i * size + j, none⟩ = some u ∧ DAt w G u d
theorem DAt.sliceG {w : World} {G : Nat → Prop} {v : Value} {size : Nat} {es : List (List Dat)} (h : DAt w G v (.row size es)) : ∃ A c, v = .slice A es.length c ∧ DRowG w G A size es := by
  generalize hd : Dat.row size es = d at h
  cases h with
  | leaf v => cases hd
  | nil A c size' =>
    injection hd with h1 h2
    subst h2
    exact ⟨A, c, rfl, .inl rfl⟩
  | row b off c size' n es' val hn hG hb hc hdd =>
    injection hd with h1 h2
    subst h1 h2
    exact ⟨_, c, by rw [hn], .inr ⟨b, off, rfl, hG, hb, fun i j e d he hd => ⟨_, hc i j e d he hd, hdd i j e d he hd⟩⟩⟩
theorem DAt.cap {w : World} {G : Nat → Prop} {A : Option Addr} {n c size : Nat} {es : List (List Dat)} (h : DAt w G (.slice A n c) (.row size es)) : n ≤ c := by
  generalize hd : Dat.row size es = d at h
  generalize hv : Value.slice A n c = v at h
  cases h with
  | leaf v => cases hd
  | nil A' c' size' =>
    injection hv with _ h2 _
    omega
  | row b off c' size' n' es' val hn hG hb hc hdd hcap =>
    injection hv with _ h2 h3
    omega
theorem DRowG.at_ {α : Type} {w : World} {G : Nat → Prop} {A : Option Addr} {size k : Nat} {l : List α} {cells : α → List Dat} {x : α} (h : DRowG w G A size (l.map cells)) (hx : l[k]? = some x) :
    ∃ b off, A = some ⟨b, off, none⟩ ∧ G b ∧ b < w.heap.size ∧ ∀ (j : Nat) d, (cells x)[j]? = some d → ∃ u, w.cell? ⟨b, off + k * size + j, none⟩ = some u ∧ DAt w G u d := by
  rcases h with h | ⟨b, off, h1, hG, h2, h3⟩
  · rw [List.map_eq_nil_iff] at h
    subst h
    simp at hx
  · exact ⟨b, off, h1, hG, h2, fun j d hd => h3 k j (cells x) d (by rw [List.getElem?_map, hx]; rfl) hd⟩
theorem DRowG.keep {w w' : World} {B : Nat} {A : Option Addr} {size : Nat} {es : List (List Dat)} (h : DRowG w (fun g => g < B) A size es) (hb : Below B w w') : DRowG w' (fun g => g < B) A size es := by
  rcases h with h | ⟨b, off, h1, hG, h2, h3⟩
  · exact .inl h
  · refine .inr ⟨b, off, h1, hG, Nat.lt_of_lt_of_le h2 hb.size, fun i j e d he hd => ?_⟩
    obtain ⟨u, hu, hdu⟩ := h3 i j e d he hd
    exact ⟨u, (World.cell?_of_block (hb.block b hG)).trans hu, hdu.keep hb.size (fun g hg _ => hb.block g hg)⟩
theorem DAt.lateG {w w' : World} {B : Nat} {v : Value} {d : Dat} (h : DAt w (fun g => g < B) v d) (hb : Below B w w') : DAt w' (fun g => g < B) v d := h.keep hb.size (fun g hg _ => hb.block g hg)
theorem leafG {w : World} {G : Nat → Prop} {p : Addr} {v : Value} (h : ∃ u, w.cell? p = some u ∧ DAt w G u (.leaf v)) : w.cell? p = some v := by
  obtain ⟨u, h1, h2⟩ := h
  rw [h1, h2.leaf_eq]
theorem any_keep {b : Nat} {w w' : World} {v : Value} {d : Dat} (h : DAt w (fun g => g ≠ b ∧ Oth w g) v d) (k : PrK b w w') : DAt w' (fun g => g ≠ b ∧ Oth w' g) v d := by
  refine (h.keep k.size (fun g hg _ => k.block g hg.1 hg.2)).mono (fun g hg _ => ⟨hg.1, ?_⟩)
  obtain ⟨cs, T, fr, h1, h2⟩ := hg.2
  exact ⟨cs, T, fr, (k.block g hg.1 hg.2).trans h1, h2⟩
theorem any_new (w : World) (l : List Arg) {b : Nat} (hb : b < w.heap.size) : DAt (w.alloc (.cells (l.map Arg.val).toArray 20)) (fun g => g ≠ b ∧ Oth (w.alloc (.cells (l.map Arg.val).toArray 20)) g) (.slice (some ⟨w.heap.size, 0, none⟩) l.length l.length) (.row 1 (anyRows l)) := by
  refine DAt.block (heap_alloc_new w _) (by simp [anyRows]) (fun e he => ?_) ?_ ⟨by omega, _, _, _, heap_alloc_new w _, by decide⟩
  · unfold anyRows at he
    obtain ⟨s, _, rfl⟩ := List.mem_map.1 he
    rfl
  · have hf : (anyRows l).flatten = (l.map Arg.val).map Dat.leaf := flat_one Arg.val l
    rw [hf]
    exact dcells_leaves _
set_option maxRecDepth 100000 in
set_option maxHeartbeats 4000000 in
theorem ln_any (B b : Nat) (k8 : C8) (L : List UInt8) (t : Nat) (en : List UInt8) (v : Value) (l : List Arg) (W : World) (h : Hid (PrAt B b k8 L W)) (hv : Hid (DAt W (fun g => g ≠ b ∧ Oth W g) v (.row 1 (anyRows l)))) (hok : Hid (∀ a ∈ l, a.ok)) (hl : l.length ≤ 1000) (ht : t ≤ 1000) (hen : en.length ≤ 1000) (hlen : L.length + (sayT l).length ≤ 100000000000) (hBw : B ≤ W.heap.size) (hGB : 6 ≤ B) (hE : Hid (Env W)) :
    Calls Tryz.prog 116 #[.pointer (some ⟨b, 0, none⟩), .int .i64 t, .string ⟨en.toArray⟩, v] W fun e w' => e = .returned (.tuple #[]) ∧ PrAt B b k8 (L ++ lnT t en l) w' ∧ Below B W w' ∧ PrK b W w' := by
  have k1 : ¬ 9223372036854775807 < en.length + 1 := by omega
  have hrl := Lib.repeatL_length [9] t
  simp only [List.length_cons, List.length_nil] at hrl
  have HR := hide (fun V => Tryz.strings_Repeat ⟨#[9]⟩ t V (by omega) (by show 1 * t ≤ _; omega))
  go_enter Tryz.func116, Tryz.ntmps116
  go_wp2_with fail
  refine wp_region_tail (S := fun w' => Below W.heap.size W w') 5 (by kernel_rfl) (by kernel_rfl) (Below.refl _ _).drew (fun hHeld => ?_)
  generalize W.drew = U at *
  refine tk 0 8 rfl (by kernel_rfl) (fun _ _ _ h => h) rfl (fun _ _ => by go_simp; with_reducible rfl) hHeld ?_
  (try simp only [Act.put, putA, putB, putC])
  refine tk 1 9 rfl (by kernel_rfl) (fun _ _ _ h => h) rfl (fun _ _ => by go_simp; with_reducible rfl) hHeld ?_
  (try simp only [Act.put, putA, putB, putC])
  refine tk 2 10 rfl (by kernel_rfl) (fun _ _ _ h => h) rfl (fun _ _ => by go_simp; with_reducible rfl) hHeld ?_
  (try simp only [Act.put, putA, putB, putC])
  refine tk 3 11 rfl (by kernel_rfl) (fun _ _ _ h => h) rfl (fun _ _ => by go_simp; with_reducible rfl) hHeld ?_
  (try simp only [Act.put, putA, putB, putC])
  refine wpAnyT_ready (rs := [4]) (by kernel_rfl) (by simp) (by rfl) (AllT.cons rfl (fun K hK => ?_) AllT.nil)
  go_simp
  refine (HR.out U).mono ?_
  rintro e w1 ⟨rfl, h1⟩
  have hS := hHeld.trans (h1.mono hHeld.size)
  have HP1 := hide (h.out.later hS)
  have HB1 := hide (hS.mono hBw)
  have HK1 := hide (PrK.later (b := b) hS)
  clear h1 HR hHeld
  go_wp2_with fail
  refine hK.out _ _ hS (fun hHeld => ?_)
  clear hK K hS hHeld
  (try simp only [Act.put, putA, putB, putC])
  refine wpAnyT_done (by kernel_rfl) ?_
  simp only [List.drop_succ_cons, List.drop_zero]
  go_wp2_with fail
  have HC := hide (pr_str B b k8 _ ⟨(Lib.repeatL [9] t).toArray⟩ w1 HP1 (by show _ + (Lib.repeatL [9] t).length ≤ _; omega) (Nat.le_trans hBw HB1.out.size))
  refine HC.out.mono ?_
  rintro e w2 ⟨rfl, h1, h2, h3⟩
  have HP2 := hide h1
  have HB2 := hide (HB1.out.trans h2)
  have HK2 := hide (HK1.out.trans h3)
  clear h1 h2 h3 HC
  go_wp2_with fail
  have HC := hide (say_any B b k8 _ v l w2 HP2 (hide (any_keep hv.out HK2.out)) hok hl (by rw [List.length_append]; show _ + (Lib.repeatL [9] t).length + _ ≤ _; omega) (Nat.le_trans hBw HB2.out.size) hGB (hide (hE.out.keptB HB2.out hGB)))
  refine HC.out.mono ?_
  rintro e w3 ⟨rfl, h1, h2, h3⟩
  have HP3 := hide h1
  have HB3 := hide (HB2.out.trans h2)
  have HK3 := hide (HK2.out.trans h3)
  clear h1 h2 h3 HC
  go_wp2_with fail
  have HT : (⟨en.toArray⟩ ++ ⟨#[10]⟩ : ByteArray) = ⟨(en ++ [10]).toArray⟩ := by
    apply ByteArray.ext
    simp [ByteArray.data_append]
  rw [HT]
  have HC := hide (pr_str B b k8 _ ⟨(en ++ [10]).toArray⟩ w3 HP3 (by simp only [List.length_append]; show _ + (Lib.repeatL [9] t).length + _ + (en ++ [10]).length ≤ _; simp; omega) (Nat.le_trans hBw HB3.out.size))
  refine HC.out.mono ?_
  rintro e w4 ⟨rfl, h1, h2, h3⟩
  have HP4 := hide h1
  have HB4 := hide (HB3.out.trans h2)
  have HK4 := hide (HK3.out.trans h3)
  clear h1 h2 h3 HC
  go_wp2_with fail
  go_end0
  refine ⟨rfl, ?_, HB4.out, HK4.out⟩
  have := HP4.out
  simpa only [lnT, List.append_assoc] using this
end Go.Proofs.YtndpnpohdoggjaaGreatDoor
namespace Go.Proofs.YtndpnpohdoggjaaGreatDoor
open Go.RowKit
attribute [local go_sem] Later.cell
theorem txtF_step {α : Type} {f : α → List UInt8} {l : List α} {k : Nat} {x : α} (h : l[k]? = some x) : txtF ((l.take (k + 1)).map f) = txtF ((l.take k).map f) ++ [.string ⟨(f x).toArray⟩] := by
  rw [List.take_add_one, h]
  simp [txtF]
theorem join_dat {w : World} {v : Value} {l : List (List UInt8)} (sep : List UInt8) (h : DAt w (fun _ => True) v (.row 1 (strRows l))) (hn : l.length ≤ 140737488355328) (hlen : (Lib.join l sep).length ≤ 140737488355328) :
    Calls Tryz.prog 19 #[v, .string ⟨sep.toArray⟩] w fun e w' => e = .returned (.string ⟨(Lib.join l sep).toArray⟩) ∧ Below w.heap.size w w' := by
  obtain ⟨A, c, rfl, hr⟩ := h.slice
  have hcap := h.cap
  rw [show (strRows l).length = l.length by simp [strRows]] at hcap ⊢
  rcases hr with hr | ⟨b, off, rfl, hb, hc⟩
  · have : l = [] := by simpa [strRows] using hr
    subst this
    exact (Tryz.strings_Join_none A c ⟨sep.toArray⟩ w).mono fun e w' ⟨he, hw⟩ => ⟨he, hw ▸ Below.refl _ _⟩
  · have e1 : (l.map fun s => (⟨s.toArray⟩ : ByteArray)).map (·.data.toList) = l := by simp [Function.comp_def]
    have := Tryz.strings_Join b off c (l.map fun s => (⟨s.toArray⟩ : ByteArray)) ⟨sep.toArray⟩ w (fun j x hx => by
      rw [List.getElem?_map] at hx
      obtain ⟨s, hs, rfl⟩ := Option.map_eq_some_iff.1 hx
      obtain ⟨u, h1, h2⟩ := hc j 0 [lS s] (lS s) (by unfold strRows; rw [List.getElem?_map, hs]; rfl) rfl
      rw [Nat.mul_one, Nat.add_zero] at h1
      rw [h1, h2.leaf_eq]
      rfl) hb (by simpa using hn) (by simpa using hcap) (by rw [e1]; exact hlen)
    rw [e1, List.length_map] at this
    exact this
theorem refT_room {x : RefD} (h : (refT x).length ≤ 1000000) : x.m.length ≤ 1000000 ∧ x.p.length ≤ 1000000 ∧ x.o.length ≤ 1000000 := by
  simp [refT] at h
  omega
set_option maxRecDepth 100000 in
theorem rep_text (x : RepD) (W : World) (hl : (repT x).length ≤ 1000000) (hn : -9223372036854775808 ≤ x.code ∧ x.code ≤ 9223372036854775807) (_hGB : 6 ≤ W.heap.size) (hE : Hid (Env W)) :
    Calls Tryz.prog 122 #[.agg #[.string ⟨x.unit.toArray⟩, .int .i64 x.code]] W fun e w' => e = .returned (.string ⟨(repT x).toArray⟩) ∧ Below W.heap.size W w' := by
  have HB := hide ((Below.refl W.heap.size W).alloc (Nat.le_refl _) (.cells #[.string ⟨x.unit.toArray⟩, .int .i64 x.code] 64))
  have HXb := hide (heap_alloc_new W (.cells #[.string ⟨x.unit.toArray⟩, .int .i64 x.code] 64))
  have hxl : W.heap.size < (W.alloc (.cells #[.string ⟨x.unit.toArray⟩, .int .i64 x.code] 64)).heap.size := by simp
  have HT : (⟨x.unit.toArray⟩ ++ ⟨#[58]⟩ ++ ⟨(Lib.itoa x.code).toArray⟩ : ByteArray) = ⟨(repT x).toArray⟩ := by
    apply ByteArray.ext
    simp [repT, ByteArray.data_append]
  have hl2 : x.unit.length + 1 + (Lib.itoa x.code).length ≤ 1000000 := by simp [repT] at hl; omega
  have k1 : ¬ 9223372036854775807 < x.unit.length + 1 := by omega
  have k2 : ¬ 9223372036854775807 < x.unit.length + 1 + (Lib.itoa x.code).length := by omega
  go_enter Tryz.func122, Tryz.ntmps122
  go_wp2_with fail
  generalize W.alloc (.cells #[.string ⟨x.unit.toArray⟩, .int .i64 x.code] 64) = w0 at *
  have x0 := cell_of_row _ _ 0 _ _ _ HXb.out
  have x1 := cell_of_row _ _ 1 _ _ _ HXb.out
  refine wp_region_tail (S := fun w' => Below w0.heap.size w0 w') 6 (by kernel_rfl) (by kernel_rfl) (Below.refl _ _).drew (fun hHeld => ?_)
  generalize w0.drew = U at *
  refine tk 0 3 rfl (by kernel_rfl) (fun _ _ _ h => h) rfl (fun _ _ => by go_simp; with_reducible rfl) hHeld ?_
  (try simp only [Act.put, putA, putB, putC])
  refine wpAnyT_take (i := 1) (oi := ⟨some 4, _, _, _, _, _⟩) (v := ?_) rfl (by kernel_rfl) (fun _ _ _ h => h) (Or.inl ⟨by rfl, ?_⟩) hHeld ?_
  rotate_left
  · intro v hS
    have e0 := (hS.cell (p := ⟨W.heap.size, 0, none⟩) hxl).trans x0
    go_simp
    with_reducible rfl
  (try simp only [Act.put, putA, putB, putC])
  refine tk 2 5 rfl (by kernel_rfl) (fun _ _ _ h => h) rfl (fun _ _ => by go_simp; with_reducible rfl) hHeld ?_
  (try simp only [Act.put, putA, putB, putC])
  refine tk 3 6 rfl (by kernel_rfl) (fun _ _ _ h => h) rfl (fun _ _ => by go_simp; with_reducible rfl) hHeld ?_
  (try simp only [Act.put, putA, putB, putC])
  refine wpAnyT_take (i := 4) (oi := ⟨some 7, _, _, _, _, _⟩) (v := ?_) rfl (by kernel_rfl) (fun _ _ _ h => h) (Or.inl ⟨by rfl, ?_⟩) hHeld ?_
  rotate_left
  · intro v hS
    have e0 := (hS.cell (p := ⟨W.heap.size, 1, none⟩) hxl).trans x1
    go_simp
    with_reducible rfl
  (try simp only [Act.put, putA, putB, putC])
  refine wpAnyT_ready (rs := [5]) (by kernel_rfl) (by simp) (by rfl) (AllT.cons rfl (fun K hK => ?_) AllT.nil)
  go_simp
  have HI := hide (itoa_any x.code U (hE.out.kept (HB.out.trans (hHeld.mono HB.out.size))) hn.1 hn.2)
  refine HI.out.mono ?_
  rintro e w2 ⟨rfl, hb⟩
  have hS := hHeld.trans (hb.mono hHeld.size)
  have HB2 := hide (HB.out.trans (hS.mono HB.out.size))
  clear hb HI hHeld
  go_wp2_with fail
  refine hK.out _ _ hS (fun hHeld => ?_)
  clear hK K hS hHeld
  (try simp only [Act.put, putA, putB, putC])
  refine wpAnyT_done (by kernel_rfl) ?_
  simp only [List.drop_succ_cons, List.drop_zero]
  go_wp2_with fail
  go_ret
  exact ⟨by rw [← HT]; rfl, HB2.out⟩
set_option maxRecDepth 100000 in
set_option maxHeartbeats 4000000 in
theorem join_refs (v : Value) (l : List RefD) (W : World) (hv : Hid (DAt W (fun _ => True) v (.row 3 (l.map RefD.cells)))) (hlen : (refsT l).length ≤ 1000000) :
    Calls Tryz.prog 119 #[v, .func (.func 118) #[] #[]] W fun e w' => e = .returned (.string ⟨(refsT l).toArray⟩) ∧ Below W.heap.size W w' := by
  obtain ⟨i0, hi0, hz0, hz1, hz2⟩ := info_parts str_any_info
  have hnl : l.length ≤ 1000001 := by
    have := join_many (l.map refT)
    rw [List.length_map] at this
    have h2 : Lib.join (l.map refT) sepT = refsT l := rfl
    rw [h2] at this
    omega
  obtain ⟨A, c, rfl, hA⟩ := hv.out.slice
  have HA := hide hA
  clear hA hv
  rw [List.length_map]
  go_enter Tryz.func119, Tryz.ntmps119
  go_wp2_with fail
  go_loopw [5, 10] (fun v5 v10 wr => ∃ k : Nat, k ≤ l.length ∧ v10 = .int .i64 k ∧ wr.ownsRow W.heap.size 9 1 v5 k (txtF ((l.take k).map refT)) ∧ Below W.heap.size W wr) (fun _ v10 _ => l.length - (intOf v10).toNat)
  case atStart => exact ⟨0, by omega, rfl, World.ownsRow_nil _ _ _ _, Below.refl _ _⟩
  case round =>
    obtain ⟨k, hk, rfl, ho, hbr⟩ := hrel
    have HO := hide ho
    have HBR := hide hbr
    clear ho hbr
    by_cases hlt : k < l.length
    rotate_left
    · obtain rfl : k = l.length := by omega
      rw [List.take_length] at HO
      have HJ := hide (join_dat sepT (own_txt HO.out) (by rw [List.length_map]; omega) (by show (refsT l).length ≤ _; omega))
      clear hlt
      go_wp2_with fail
      refine HJ.out.mono ?_
      rintro e w2 ⟨rfl, hb⟩
      have HB2 := hide (HBR.out.trans (hb.mono HBR.out.size))
      clear hb HJ
      go_wp2_with fail
      go_ret
      exact ⟨rfl, HB2.out⟩
    obtain ⟨x, hx⟩ : ∃ x, l[k]? = some x := ⟨_, List.getElem?_eq_getElem hlt⟩
    obtain ⟨b, off, rfl, hb, hca⟩ := HA.out.at_ hx
    obtain ⟨u0, c0, g0⟩ := hca 0 _ rfl
    obtain ⟨u1, c1, g1⟩ := hca 1 _ rfl
    obtain ⟨u2, c2, g2⟩ := hca 2 _ rfl
    clear hca
    obtain rfl := g0.leaf_eq
    obtain rfl := g1.leaf_eq
    obtain rfl := g2.leaf_eq
    have c0 := (HBR.out.cell (p := ⟨b, off + k * 3, none⟩) hb).trans c0
    have c1 := (HBR.out.cell (p := ⟨b, off + k * 3 + 1, none⟩) hb).trans c1
    have c2 := (HBR.out.cell (p := ⟨b, off + k * 3 + 2, none⟩) hb).trans c2
    simp only [strV] at c0 c1 c2
    have k0 : (0 : Int) ≤ (k : Int) ∧ (k : Int) < ((l.length : Nat) : Int) := by omega
    have HX := hide hx
    have HS := hide (txtF_step (f := refT) hx)
    have hlx : (refT x).length ≤ 1000000 := Nat.le_trans (join_mem (List.mem_map.2 ⟨x, List.mem_of_getElem? hx, rfl⟩)) hlen
    clear hx
    have HBA := hide (HBR.out.alloc HBR.out.size (.cells #[.string ⟨x.m.toArray⟩, .string ⟨x.p.toArray⟩, .string ⟨x.o.toArray⟩] 57))
    have HBX := hide ((Below.refl wr.heap.size wr).alloc (Nat.le_refl _) (.cells #[.string ⟨x.m.toArray⟩, .string ⟨x.p.toArray⟩, .string ⟨x.o.toArray⟩] 57))
    have r0 := refT_room (x := x) hlx
    go_wp2_with fail
    have HC := hide (ref_text x [.string ⟨x.m.toArray⟩, .string ⟨x.p.toArray⟩, .string ⟨x.o.toArray⟩] (wr.alloc (.cells #[.string ⟨x.m.toArray⟩, .string ⟨x.p.toArray⟩, .string ⟨x.o.toArray⟩] 57)) r0.1 r0.2.1 r0.2.2 (hide (DCells.cons (.leaf _) (DCells.cons (.leaf _) (DCells.cons (.leaf _) DCells.nil)))))
    refine HC.out.mono ?_
    rintro e w3 ⟨rfl, hb3⟩
    have HB3 := hide (HBA.out.trans (hb3.mono HBA.out.size))
    have HO3 := hide (own_keep HO.out (fun g hg hbg => ((HBX.out.trans (hb3.mono HBX.out.size)).block g (own_lt HO.out hg).2)))
    have hz3 := HB3.out.size
    clear hb3 HC
    go_wp2_with (first
      | (at_builtin; refine wpList_append_own _ rfl _ _ 66 rfl W.heap.size 9 i0 (.string ⟨#[]⟩) 1 16 Tryz.underlying66 hi0 hz0 hz1 hz2 rfl (by decide) _ _ _ rfl (HO3.out.alloc _) ⟨w3.heap.size, 0, none⟩ 1 1 [.string ⟨(refT x).toArray⟩] rfl rfl (news_of (by simp)) (by simp [Value.oneCell']) (by unfold maxLen; omega) (by omega) (by simp; exact Nat.le_succ_of_le hz3) ?_; intro v' w5 hown' hgrow _))
    have HB5 := hide (HB3.out.trans (Below.grown ((Below.refl _ w3).alloc hz3 _) hgrow (by simp; exact Nat.le_succ_of_le hz3) (fun g hg => (own_lt HO3.out hg).1)))
    have HO5 := hide hown'
    clear hown' hgrow
    go_wp2_with fail
    go_roundw
    case rel => exact ⟨k + 1, by omega, by go_num, by rw [HS.out]; exact HO5.out, HB5.out⟩
    case measure => simp [intOf]; omega
set_option maxRecDepth 100000 in
set_option maxHeartbeats 4000000 in
theorem join_reps (v : Value) (l : List RepD) (W : World) (hv : Hid (DAt W (fun _ => True) v (.row 2 (l.map RepD.cells)))) (hlen : (repsT l).length ≤ 1000000) (hF : Hid (l.all repF = true)) (hGB : 6 ≤ W.heap.size) (hE : Hid (Env W)) :
    Calls Tryz.prog 121 #[v, .func (.func 122) #[] #[]] W fun e w' => e = .returned (.string ⟨(repsT l).toArray⟩) ∧ Below W.heap.size W w' := by
  obtain ⟨i0, hi0, hz0, hz1, hz2⟩ := info_parts str_any_info
  have hnl : l.length ≤ 1000001 := by
    have := join_many (l.map repT)
    rw [List.length_map] at this
    have h2 : Lib.join (l.map repT) sepT = repsT l := rfl
    rw [h2] at this
    omega
  obtain ⟨A, c, rfl, hA⟩ := hv.out.slice
  have HA := hide hA
  clear hA hv
  rw [List.length_map]
  go_enter Tryz.func121, Tryz.ntmps121
  go_wp2_with fail
  go_loopw [5, 10] (fun v5 v10 wr => ∃ k : Nat, k ≤ l.length ∧ v10 = .int .i64 k ∧ wr.ownsRow W.heap.size 9 1 v5 k (txtF ((l.take k).map repT)) ∧ Below W.heap.size W wr) (fun _ v10 _ => l.length - (intOf v10).toNat)
  case atStart => exact ⟨0, by omega, rfl, World.ownsRow_nil _ _ _ _, Below.refl _ _⟩
  case round =>
    obtain ⟨k, hk, rfl, ho, hbr⟩ := hrel
    have HO := hide ho
    have HBR := hide hbr
    clear ho hbr
    by_cases hlt : k < l.length
    rotate_left
    · obtain rfl : k = l.length := by omega
      rw [List.take_length] at HO
      have HJ := hide (join_dat sepT (own_txt HO.out) (by rw [List.length_map]; omega) (by show (repsT l).length ≤ _; omega))
      clear hlt
      go_wp2_with fail
      refine HJ.out.mono ?_
      rintro e w2 ⟨rfl, hb⟩
      have HB2 := hide (HBR.out.trans (hb.mono HBR.out.size))
      clear hb HJ
      go_wp2_with fail
      go_ret
      exact ⟨rfl, HB2.out⟩
    obtain ⟨x, hx⟩ : ∃ x, l[k]? = some x := ⟨_, List.getElem?_eq_getElem hlt⟩
    obtain ⟨b, off, rfl, hb, hca⟩ := HA.out.at_ hx
    obtain ⟨u0, c0, g0⟩ := hca 0 _ rfl
    obtain ⟨u1, c1, g1⟩ := hca 1 _ rfl
    clear hca
    obtain rfl := g0.leaf_eq
    obtain rfl := g1.leaf_eq
    have c0 := (HBR.out.cell (p := ⟨b, off + k * 2, none⟩) hb).trans c0
    have c1 := (HBR.out.cell (p := ⟨b, off + k * 2 + 1, none⟩) hb).trans c1
    simp only [strV] at c0 c1
    have k0 : (0 : Int) ≤ (k : Int) ∧ (k : Int) < ((l.length : Nat) : Int) := by omega
    have HX := hide hx
    have HS := hide (txtF_step (f := repT) hx)
    have hlx : (repT x).length ≤ 1000000 := Nat.le_trans (join_mem (List.mem_map.2 ⟨x, List.mem_of_getElem? hx, rfl⟩)) hlen
    clear hx
    have HBA := hide (HBR.out.alloc HBR.out.size (.cells #[.string ⟨x.unit.toArray⟩, .int .i64 x.code] 64))
    have HBX := hide ((Below.refl wr.heap.size wr).alloc (Nat.le_refl _) (.cells #[.string ⟨x.unit.toArray⟩, .int .i64 x.code] 64))
    have hnx : -9223372036854775808 ≤ x.code ∧ x.code ≤ 9223372036854775807 := by
      have := List.all_eq_true.1 hF.out x (List.mem_of_getElem? HX.out)
      simp [repF, numF] at this
      omega
    go_wp2_with fail
    have HC := hide (rep_text x (wr.alloc (.cells #[.string ⟨x.unit.toArray⟩, .int .i64 x.code] 64)) hlx hnx (Nat.le_trans hGB HBA.out.size) (hide (hE.out.kept HBA.out)))
    refine HC.out.mono ?_
    rintro e w3 ⟨rfl, hb3⟩
    have HB3 := hide (HBA.out.trans (hb3.mono HBA.out.size))
    have HO3 := hide (own_keep HO.out (fun g hg hbg => ((HBX.out.trans (hb3.mono HBX.out.size)).block g (own_lt HO.out hg).2)))
    have hz3 := HB3.out.size
    clear hb3 HC
    go_wp2_with (first
      | (at_builtin; refine wpList_append_own _ rfl _ _ 66 rfl W.heap.size 9 i0 (.string ⟨#[]⟩) 1 16 Tryz.underlying66 hi0 hz0 hz1 hz2 rfl (by decide) _ _ _ rfl (HO3.out.alloc _) ⟨w3.heap.size, 0, none⟩ 1 1 [.string ⟨(repT x).toArray⟩] rfl rfl (news_of (by simp)) (by simp [Value.oneCell']) (by unfold maxLen; omega) (by omega) (by simp; exact Nat.le_succ_of_le hz3) ?_; intro v' w5 hown' hgrow _))
    have HB5 := hide (HB3.out.trans (Below.grown ((Below.refl _ w3).alloc hz3 _) hgrow (by simp; exact Nat.le_succ_of_le hz3) (fun g hg => (own_lt HO3.out hg).1)))
    have HO5 := hide hown'
    clear hown' hgrow
    go_wp2_with fail
    go_roundw
    case rel => exact ⟨k + 1, by omega, by go_num, by rw [HS.out]; exact HO5.out, HB5.out⟩
    case measure => simp [intOf]; omega
set_option maxRecDepth 100000 in
set_option maxHeartbeats 4000000 in
theorem join_nums (v : Value) (l : List Int) (W : World) (hv : Hid (DAt W (fun _ => True) v (.row 1 (intRows l)))) (hlen : (numsT l).length ≤ 1000000) (hF : Hid (l.all numF = true)) (_hGB : 6 ≤ W.heap.size) (hE : Hid (Env W)) :
    Calls Tryz.prog 166 #[v, .func (.func 86) #[] #[]] W fun e w' => e = .returned (.string ⟨(numsT l).toArray⟩) ∧ Below W.heap.size W w' := by
  obtain ⟨i0, hi0, hz0, hz1, hz2⟩ := info_parts str_any_info
  have hnl : l.length ≤ 1000001 := by
    have := join_many (l.map Lib.itoa)
    rw [List.length_map] at this
    have h2 : Lib.join (l.map Lib.itoa) sepT = numsT l := rfl
    rw [h2] at this
    omega
  obtain ⟨A, c, rfl, hA⟩ := hv.out.slice
  have HA := hide hA
  clear hA hv
  rw [show (intRows l).length = l.length by simp [intRows]]
  go_enter Tryz.func166, Tryz.ntmps166
  go_wp2_with fail
  go_loopw [5, 10] (fun v5 v10 wr => ∃ k : Nat, k ≤ l.length ∧ v10 = .int .i64 k ∧ wr.ownsRow W.heap.size 9 1 v5 k (txtF ((l.take k).map Lib.itoa)) ∧ Below W.heap.size W wr) (fun _ v10 _ => l.length - (intOf v10).toNat)
  case atStart => exact ⟨0, by omega, rfl, World.ownsRow_nil _ _ _ _, Below.refl _ _⟩
  case round =>
    obtain ⟨k, hk, rfl, ho, hbr⟩ := hrel
    have HO := hide ho
    have HBR := hide hbr
    clear ho hbr
    by_cases hlt : k < l.length
    rotate_left
    · obtain rfl : k = l.length := by omega
      rw [List.take_length] at HO
      have HJ := hide (join_dat sepT (own_txt HO.out) (by rw [List.length_map]; omega) (by show (numsT l).length ≤ _; omega))
      clear hlt
      go_wp2_with fail
      refine HJ.out.mono ?_
      rintro e w2 ⟨rfl, hb⟩
      have HB2 := hide (HBR.out.trans (hb.mono HBR.out.size))
      clear hb HJ
      go_wp2_with fail
      go_ret
      exact ⟨rfl, HB2.out⟩
    obtain ⟨x, hx⟩ : ∃ x, l[k]? = some x := ⟨_, List.getElem?_eq_getElem hlt⟩
    obtain ⟨b, off, rfl, hb, hca⟩ := HA.out.at_ (cells := fun n : Int => [lI n]) hx
    obtain ⟨u0, c0, g0⟩ := hca 0 _ rfl
    clear hca
    obtain rfl := g0.leaf_eq
    rw [Nat.mul_one, Nat.add_zero] at c0
    have c0 := (HBR.out.cell (p := ⟨b, off + k, none⟩) hb).trans c0
    have k0 : (0 : Int) ≤ (k : Int) ∧ (k : Int) < ((l.length : Nat) : Int) := by omega
    have HX := hide hx
    have HS := hide (txtF_step (f := Lib.itoa) hx)
    have hlx : (Lib.itoa x).length ≤ 1000000 := Nat.le_trans (join_mem (List.mem_map.2 ⟨x, List.mem_of_getElem? hx, rfl⟩)) hlen
    clear hx
    have HBA := HBR
    have HBX := hide (Below.refl wr.heap.size wr)
    have hnx : -9223372036854775808 ≤ x ∧ x ≤ 9223372036854775807 := by
      have := List.all_eq_true.1 hF.out x (List.mem_of_getElem? HX.out)
      simp [numF] at this
      omega
    go_wp2_with fail
    have HC := hide (itoa_any x wr (hide (hE.out.kept HBR.out)).out hnx.1 hnx.2)
    refine HC.out.mono ?_
    rintro e w3 ⟨rfl, hb3⟩
    have HB3 := hide (HBA.out.trans (hb3.mono HBA.out.size))
    have HO3 := hide (own_keep HO.out (fun g hg hbg => ((HBX.out.trans (hb3.mono HBX.out.size)).block g (own_lt HO.out hg).2)))
    have hz3 := HB3.out.size
    clear hb3 HC
    go_wp2_with (first
      | (at_builtin; refine wpList_append_own _ rfl _ _ 66 rfl W.heap.size 9 i0 (.string ⟨#[]⟩) 1 16 Tryz.underlying66 hi0 hz0 hz1 hz2 rfl (by decide) _ _ _ rfl (HO3.out.alloc _) ⟨w3.heap.size, 0, none⟩ 1 1 [.string ⟨(Lib.itoa x).toArray⟩] rfl rfl (news_of (by simp)) (by simp [Value.oneCell']) (by unfold maxLen; omega) (by omega) (by simp; exact Nat.le_succ_of_le hz3) ?_; intro v' w5 hown' hgrow _))
    have HB5 := hide (HB3.out.trans (Below.grown ((Below.refl _ w3).alloc hz3 _) hgrow (by simp; exact Nat.le_succ_of_le hz3) (fun g hg => (own_lt HO3.out hg).1)))
    have HO5 := hide hown'
    clear hown' hgrow
    go_wp2_with fail
    go_roundw
    case rel => exact ⟨k + 1, by omega, by go_num, by rw [HS.out]; exact HO5.out, HB5.out⟩
    case measure => simp [intOf]; omega
end Go.Proofs.YtndpnpohdoggjaaGreatDoor
namespace Go.Proofs.YtndpnpohdoggjaaGreatDoor
theorem nd_le : ∀ (k u : Nat), u < 10 ^ (k + 1) → Lib.nDigits u ≤ k + 1
  | 0, u, h => by
    rw [Lib.nDigits_small (by simpa using h)]
    omega
  | k + 1, u, h => by
    by_cases h1 : u < 10
    · rw [Lib.nDigits_small h1]
      omega
    · rw [Lib.nDigits_big h1]
      have := nd_le k (u / 10) (by rw [Nat.pow_succ] at h; omega)
      omega
theorem dig10 {n : Int} (h : numF n = true) : (Lib.itoa n).length ≤ 10 := by
  simp [numF] at h
  obtain ⟨u, rfl⟩ : ∃ u : Nat, n = u := ⟨n.toNat, by omega⟩
  rw [Lib.itoa_nonneg, Lib.decDigits_length]
  exact nd_le 9 u (by omega)
theorem word_le {k : Nat} {l : List (List UInt8)} (h : (l.all fun s => decide (s.length ≤ k)) = true) (n : Nat) : (wordN l n).length ≤ k := by
  unfold wordN
  split
  · simp
  · rw [List.getD_eq_getElem?_getD]
    cases e : l[n - 1]? with
    | none => simp
    | some s => simpa using List.all_eq_true.1 h s (List.mem_of_getElem? e)
theorem lnT_len (t : Nat) (en : List UInt8) (l : List Arg) : (lnT t en l).length = t + (sayT l).length + (en.length + 1) := by
  simp [lnT, Lib.repeatL_length]
  omega
theorem catLe {α : Type} (f : α → List UInt8) (c n : α → Nat) (K : Nat) (l : List α) (h : ∀ x ∈ l, (f x).length ≤ c x + K * n x) : (catT f l).length ≤ (l.map c).sum + K * (l.map n).sum := by
  induction l with
  | nil => simp [catT]
  | cons a l ih =>
    have h1 := h a (by simp)
    have h2 := ih (fun x hx => h x (by simp [hx]))
    simp only [catT, List.map_cons, List.flatten_cons, List.length_append, List.sum_cons, Nat.mul_add] at h2 ⊢
    omega
theorem lensLe {α : Type} (f : α → List UInt8) (c : α → Nat) (k : Nat) (l : List α) (h : ∀ x ∈ l, (f x).length ≤ c x + k) : Lib.lens (l.map f) ≤ (l.map c).sum + k * l.length := by
  induction l with
  | nil => simp [Lib.lens]
  | cons a l ih =>
    have h1 := h a (by simp)
    have h2 := ih (fun x hx => h x (by simp [hx]))
    simp only [Lib.lens, List.map_cons, List.sum_cons, List.length_cons, Nat.mul_add, Nat.mul_one] at h2 ⊢
    omega
theorem joinLe {α : Type} (f : α → List UInt8) (c : α → Nat) (k : Nat) (l : List α) (h : ∀ x ∈ l, (f x).length ≤ c x + k) : (Lib.join (l.map f) sepT).length ≤ (l.map c).sum + k * l.length + 2 * l.length := by
  have h1 := lensLe f c k l h
  cases l with
  | nil => simp [Lib.join_nil]
  | cons a l =>
    rw [List.map_cons, Lib.join_length, List.length_map] 
    rw [List.map_cons] at h1
    have h3 : sepT.length = 2 := rfl
    rw [h3]
    simp only [List.length_cons] at h1 ⊢
    omega
theorem sum_const {α : Type} (k : Nat) (l : List α) : (l.map fun _ => k).sum = k * l.length := by
  induction l with
  | nil => simp
  | cons a l ih =>
    simp only [List.map_cons, List.sum_cons, List.length_cons, Nat.mul_add, Nat.mul_one] at ih ⊢
    omega
def refC (x : RefD) : Nat := x.m.length + x.p.length + x.o.length
def refsC (l : List RefD) : Nat := (l.map refC).sum
theorem refT_len (x : RefD) : (refT x).length = refC x + 2 := by
  simp [refT, refC]
  omega
theorem refsT_len (l : List RefD) : (refsT l).length ≤ refsC l + 2 * l.length + 2 * l.length := joinLe refT refC 2 l (fun x _ => by rw [refT_len]; omega)
theorem numsT_len {l : List Int} (h : l.all numF = true) : (numsT l).length ≤ 12 * l.length := by
  have := joinLe Lib.itoa (fun _ => 0) 10 l (fun x hx => by have := dig10 (List.all_eq_true.1 h x hx); omega)
  rw [sum_const] at this
  unfold numsT
  omega
def sumLen {α : Type} (f : α → List UInt8) (l : List α) : Nat := (l.map fun x => (f x).length).sum
def procN (x : ProcD) : Nat := 2 + x.code.length
def partN (x : PartD) : Nat := 2 + x.semas.length + x.bufs.length + 2 * x.ports.length + (x.procs.map procN).sum
def partC (x : PartD) : Nat := x.name.length + sumLen PortD.name x.ports + sumLen ProcD.name x.procs
def modN (x : ModD) : Nat := 1 + (x.parts.map partN).sum
def modC (x : ModD) : Nat := x.name.length + (x.parts.map partC).sum
def chanN (x : ChanD) : Nat := 2 + 2 * x.to.length
def chanC (x : ChanD) : Nat := refC x.from_ + refsC x.to
def vlN (x : VlD) : Nat := 3 + 2 * x.to.length
def vlC (x : VlD) : Nat := x.name.length + (refC x.from_ + refsC x.to)
def causeN (x : CauseD) : Nat := 1 + 2 * x.needs.length + x.but.length
def causeC (x : CauseD) : Nat := x.unit.length + sumLen RepD.unit x.needs + sumLen id x.but
def linkC (x : LinkD) : Nat := x.a.length + x.b.length
def healthC (x : HealthD) : Nat := x.module.length + x.part.length
def verC (x : VerD) : Nat := x.a.length + x.b.length
def cfgN (x : CfgD) : Nat := x.links.length * 3 + x.switches.length * 2 + x.versions.length * 3 + x.health.length * 3 + (x.modules.map modN).sum + (x.channels.map chanN).sum + (x.vls.map vlN).sum + (x.causes.map causeN).sum
def cfgC (x : CfgD) : Nat := (x.modules.map modC).sum + (x.channels.map chanC).sum + (x.vls.map vlC).sum + (x.causes.map causeC).sum + sumLen SwD.name x.switches + (x.links.map linkC).sum + (x.health.map healthC).sum + (x.versions.map verC).sum
theorem netT_len (n : Int) : (netT n).length = 1 := by
  unfold netT
  split <;> rfl
theorem swT_len {x : SwD} (h : swF x = true) : (swT x).length ≤ x.name.length + 160 * 2 := by
  simp [swF] at h
  have h1 := dig10 h.2.2.1
  have h2 := dig10 h.2.2.2
  have h3 := netT_len x.net
  rw [swT, lnT_len]
  simp [sayT, Arg.txt]
  omega
theorem linkT_len {x : LinkD} (h : linkF x = true) : (linkT x).length ≤ linkC x + 160 * 3 := by
  simp [linkF] at h
  have h1 := dig10 h.2.2
  have h3 := netT_len x.net
  rw [linkT, lnT_len]
  simp [sayT, Arg.txt, linkC]
  omega
theorem verT_len {x : VerD} (h : verF x = true) : (verT x).length ≤ verC x + 160 * 3 := by
  simp [verF] at h
  have h1 := dig10 h.2.1
  have h2 := dig10 h.2.2
  rw [verT, lnT_len]
  simp [sayT, Arg.txt, verC]
  omega
theorem chanT_len {x : ChanD} : (chanT x).length ≤ chanC x + 160 * chanN x := by
  have h1 := refT_len x.from_
  have h2 := refsT_len x.to
  rw [chanT, lnT_len]
  simp [sayT, Arg.txt, chanC, chanN]
  omega
theorem vlT_len {x : VlD} (h : vlF x = true) : (vlT x).length ≤ vlC x + 160 * vlN x := by
  simp [vlF] at h
  have h1 := refT_len x.from_
  have h2 := refsT_len x.to
  have h3 := dig10 h.2.2.1
  have h4 := dig10 h.2.2.2
  rw [vlT, lnT_len]
  simp [sayT, Arg.txt, vlC, vlN]
  omega
theorem healthT_len {x : HealthD} : (healthT x).length ≤ healthC x + 160 * 3 := by
  have h1 := word_le (k := 8) (l := faultWords) (by decide) x.fault
  have h2 := word_le (k := 8) (l := levelWords) (by decide) x.level
  have h3 := word_le (k := 8) (l := actionWords) (by decide) x.do_
  rw [healthT, lnT_len]
  unfold healthA healthC
  split <;> split <;> simp [sayT, Arg.txt] <;> omega
theorem causeT_len {x : CauseD} (h : causeF x = true) : (causeT x).length ≤ causeC x + 160 * causeN x := by
  simp only [causeF, Bool.and_eq_true, List.all_eq_true] at h
  have h1 : (repsT x.needs).length ≤ sumLen RepD.unit x.needs + 11 * x.needs.length + 2 * x.needs.length := joinLe repT (fun r => r.unit.length) 11 x.needs (fun r hr => by
    have h4 := h.2.2 r hr
    simp [repF] at h4
    have := dig10 h4.2
    simp [repT]
    omega)
  have h2 : (Lib.join x.but sepT).length ≤ sumLen id x.but + 0 * x.but.length + 2 * x.but.length := by
    have := joinLe id (fun r : List UInt8 => r.length) 0 x.but (fun r _ => by simp)
    rw [List.map_id] at this
    exact this
  rw [causeT, lnT_len]
  unfold causeA causeC causeN
  split <;> simp [sayT, Arg.txt] <;> omega
theorem portT_len {x : PortD} (h : portF x = true) : (portT x).length ≤ x.name.length + 160 * 2 := by
  simp [portF] at h
  have h1 := dig10 h.2.2.1
  have h2 := dig10 h.2.2.2.1
  have h3 := dig10 h.2.2.2.2
  have h4 : (wayT x).length ≤ 3 := by unfold wayT; split <;> decide
  unfold portT
  split <;> rw [lnT_len] <;> simp [sayT, Arg.txt] <;> omega
theorem insT_len {x : InsD} (h : insF x = true) : (insT x).length ≤ 50 := by
  simp only [insF, Bool.and_eq_true] at h
  have h1 := word_le (k := 6) (l := insWords) (by decide) x.op
  have h2 := catLe (fun n : Int => 32 :: Lib.itoa n) (fun _ => 0) (fun _ => 1) 11 (opsOf x) (fun n hn => by
    have := dig10 (List.all_eq_true.1 h.2.1 n hn)
    simp
    omega)
  rw [sum_const, sum_const] at h2
  have h3 : (opsOf x).length ≤ 3 := by
    unfold opsOf
    rw [List.length_take]
    simp
    omega
  simp [insT]
  omega
theorem codeT_len {x : InsD} (h : insF x = true) : (codeT x).length ≤ 0 + 160 * 1 := by
  have h1 := insT_len h
  rw [codeT, lnT_len]
  simp [sayT, Arg.txt]
  omega
theorem procT_len {x : ProcD} (h : procF x = true) : (procT x).length ≤ x.name.length + 160 * procN x := by
  simp only [procF, Bool.and_eq_true, List.all_eq_true] at h
  have h1 := dig10 (h.2.1 x.prio (by simp))
  have h2 := dig10 (h.2.1 x.period (by simp))
  have h3 := dig10 (h.2.1 x.limit (by simp))
  have h4 := catLe codeT (fun _ => 0) (fun _ => 1) 160 x.code (fun z hz => codeT_len (h.2.2 z hz))
  rw [sum_const, sum_const] at h4
  rw [procT, procH, List.length_append, List.length_append, lnT_len, lnT_len]
  simp [sayT, Arg.txt, procN]
  omega
theorem partT_len {x : PartD} (h : partF x = true) : (partT x).length ≤ partC x + 160 * partN x := by
  simp only [partF, Bool.and_eq_true] at h
  obtain ⟨-, hn, hs, hb, hp, hq⟩ := h
  simp only [List.all_eq_true] at hn hp hq
  have h1 := dig10 (hn x.period (by simp))
  have h2 := dig10 (hn x.length (by simp))
  have h3 := dig10 (hn x.mem (by simp))
  have h4 := dig10 (hn x.events (by simp))
  have h5 := dig10 (hn x.boards (by simp))
  have h6 := numsT_len hs
  have h7 := numsT_len hb
  have h8 := catLe portT (fun y => y.name.length) (fun _ => 2) 160 x.ports (fun z hz => portT_len (hp z hz))
  have h9 := catLe procT (fun y => y.name.length) procN 160 x.procs (fun z hz => procT_len (hq z hz))
  rw [sum_const] at h8
  have a1 : (semasT x).length ≤ 20 + 12 * x.semas.length := by
    unfold semasT
    split
    · simp
    · rw [lnT_len]; simp [sayT, Arg.txt]; omega
  have a2 : (bufsT x).length ≤ 20 + 12 * x.bufs.length := by
    unfold bufsT
    split
    · simp
    · rw [lnT_len]; simp [sayT, Arg.txt]; omega
  have a3 : (eventsT x).length ≤ 30 := by
    unfold eventsT
    split
    · rw [lnT_len]; simp [sayT, Arg.txt]; omega
    · simp
  have a4 : (boardsT x).length ≤ 30 := by
    unfold boardsT
    split
    · rw [lnT_len]; simp [sayT, Arg.txt]; omega
    · simp
  have a5 : (partH x).length ≤ 80 + x.name.length := by
    rw [partH, lnT_len]; simp [sayT, Arg.txt]; omega
  have a6 : (lnT 1 [125] []).length = 3 := by rw [lnT_len]; rfl
  unfold partT partC partN sumLen
  simp only [List.length_append]
  omega
theorem modT_len {x : ModD} (h : modF x = true) : (modT x).length ≤ modC x + 160 * modN x := by
  simp only [modF, Bool.and_eq_true, List.all_eq_true] at h
  obtain ⟨-, hn, hp⟩ := h
  have h1 := dig10 (hn x.mem (by simp))
  have h2 := dig10 (hn x.frame (by simp))
  have h3 := catLe partT partC partN 160 x.parts (fun z hz => partT_len (hp z hz))
  have a5 : (modH x).length ≤ 60 + x.name.length := by
    rw [modH, lnT_len]; simp [sayT, Arg.txt]; omega
  have a6 : (lnT 0 [125] []).length = 2 := by rw [lnT_len]; rfl
  unfold modT modC modN
  simp only [List.length_append]
  omega
theorem cfgT_len {x : CfgD} (h : cfgF x = true) : (cfgT x).length ≤ cfgC x + 160 * cfgN x := by
  simp only [cfgF, Bool.and_eq_true, List.all_eq_true] at h
  obtain ⟨h1, h2, h3, h4, h5, h6, h7, h8⟩ := h
  have k1 := catLe modT modC modN 160 x.modules (fun z hz => modT_len (h1 z hz))
  have k2 := catLe chanT chanC chanN 160 x.channels (fun z hz => chanT_len)
  have k3 := catLe swT (fun y => y.name.length) (fun _ => 2) 160 x.switches (fun z hz => swT_len (h3 z hz))
  have k4 := catLe linkT linkC (fun _ => 3) 160 x.links (fun z hz => linkT_len (h4 z hz))
  have k5 := catLe vlT vlC vlN 160 x.vls (fun z hz => vlT_len (h5 z hz))
  have k6 := catLe healthT healthC (fun _ => 3) 160 x.health (fun z hz => healthT_len)
  have k7 := catLe causeT causeC causeN 160 x.causes (fun z hz => causeT_len (h7 z hz))
  have k8 := catLe verT verC (fun _ => 3) 160 x.versions (fun z hz => verT_len (h8 z hz))
  rw [sum_const] at k3 k4 k6 k8
  unfold cfgT cfgC cfgN sumLen
  simp only [List.length_append]
  omega
/-- A printable configuration of size at most 400 has a source that fits. -/
theorem cfgT_fits {x : CfgD} (h : cfgF x = true) (hs : cfgN x + cfgC x / 8 ≤ 400) : (cfgT x).length ≤ 65536 := by
  have := cfgT_len h
  omega
end Go.Proofs.YtndpnpohdoggjaaGreatDoor
namespace Go.Proofs.YtndpnpohdoggjaaGreatDoor
open Go.RowKit
attribute [local go_sem] Later.cell
def opT (n : Int) : List UInt8 := 32 :: Lib.itoa n
theorem insT_eq (x : InsD) : insT x = wordN insWords x.op ++ catT opT (opsOf x) ++ [59] := rfl
set_option maxRecDepth 100000 in
set_option maxHeartbeats 4000000 in
theorem code_any (x : InsD) (hop : x.op ≤ 255) (W : World) (hF : insF x = true) (hE : Hid (Env W)) (hP : Hid (EnvP W)) :
    Calls Tryz.prog 17 #[.agg #[.int .u8 (x.op : Int), .int .i64 x.a, .int .i64 x.b, .int .i64 x.c]] W fun e w' => e = .returned (.string ⟨(insT x).toArray⟩) ∧ Below W.heap.size W w' := by
  have hnum : ∀ z ∈ opsOf x, numF z = true := by
    simp only [insF, Bool.and_eq_true] at hF
    exact List.all_eq_true.1 hF.2.1
  have HN := hide hnum
  have h3 := ops_three x.op hop
  have hol : (wordN insOps x.op).length = (opsOf x).length := by
    unfold opsOf
    rw [List.length_take]
    simp
    omega
  have hil := insT_len hF
  rw [insT_eq, List.length_append, List.length_append] at hil
  simp only [List.length_cons, List.length_nil] at hil
  rw [hol] at h3
  clear hnum hF
  have HW := hide (fun V h => pword_any x.op V h hop)
  have HOP := hide (fun V h => operands_row x hop V h)
  rw [hol] at HOP
  clear hol
  have hget : ∀ (k : Nat) z, (opsOf x)[k]? = some z → (#[Value.int .i64 x.a, .int .i64 x.b, .int .i64 x.c])[k]? = some (.int .i64 z) := by
    intro k z h
    unfold opsOf at h
    rw [List.getElem?_take] at h
    split at h
    · match k, h with
      | 0, h => simpa using h
      | 1, h => simpa using h
      | 2, h => simpa using h
      | k + 3, h => simp at h
    · cases h
  have HG := hide hget
  clear hget
  have HB := hide ((Below.refl W.heap.size W).alloc (Nat.le_refl _) (.cells #[.int .u8 (x.op : Int), .int .i64 x.a, .int .i64 x.b, .int .i64 x.c] 70))
  have HX := hide (heap_alloc_new W (.cells #[.int .u8 (x.op : Int), .int .i64 x.a, .int .i64 x.b, .int .i64 x.c] 70))
  go_enter Tryz.func17, Tryz.ntmps17
  go_wp2_with fail
  generalize W.alloc (.cells #[.int .u8 (x.op : Int), .int .i64 x.a, .int .i64 x.b, .int .i64 x.c] 70) = w0 at *
  refine (HW.out w0 (hide (hP.out.below HB.out))).mono ?_
  rintro e w1 ⟨rfl, hb⟩
  have HB1 := hide (HB.out.trans (hb.mono HB.out.size))
  have HX1 := hide ((hb.block _ (Array.getElem?_eq_some_iff.1 HX.out).1).trans HX.out)
  clear hb HX HB HW
  have c0 := cell_of_row _ _ 0 _ _ _ HX1.out
  have c1 := cell_of_row _ _ 1 _ _ _ HX1.out
  have c2 := cell_of_row _ _ 2 _ _ _ HX1.out
  have c3 := cell_of_row _ _ 3 _ _ _ HX1.out
  go_wp2_with fail
  clear c0 c1 c2 c3
  refine (HOP.out w1 (hide (hP.out.below HB1.out))).mono ?_
  rintro e w2 ⟨ob, rfl, ho, hb⟩
  have HB2 := hide (HB1.out.trans (hb.mono HB1.out.size))
  have HO := hide ho
  have hob := (Array.getElem?_eq_some_iff.1 ho).1
  clear ho hb HOP HX1
  go_wp2_with fail
  go_loopw [3, 12] (fun v3 v12 wr => ∃ (k : Nat) (S : ByteArray), k ≤ (opsOf x).length ∧ v12 = .int .i64 k ∧ v3 = .string S ∧ S.data.toList = wordN insWords x.op ++ catT opT ((opsOf x).take k) ∧ Below W.heap.size W wr ∧ wr.heap[ob]? = w2.heap[ob]?) (fun _ v12 _ => (opsOf x).length - (intOf v12).toNat)
  case atStart => exact ⟨0, _, by omega, rfl, rfl, by rw [catT_zero, List.append_nil], HB2.out, rfl⟩
  case round =>
    obtain ⟨k, S, hk, rfl, rfl, hS, hbr, hor⟩ := hrel
    have HS := hide hS
    have HBR := hide hbr
    have HOR := hide hor
    have hsz : S.size ≤ 60 := by
      have e : S.size = S.data.toList.length := by simp
      have := catT_le (f := opT) (l := opsOf x) (k := k)
      rw [e, hS, List.length_append]
      omega
    clear hS hbr hor
    by_cases hlt : k < (opsOf x).length
    rotate_left
    · obtain rfl : k = (opsOf x).length := by omega
      rw [List.take_length] at HS
      have k1 : ¬ 9223372036854775807 < S.size + 1 := by omega
      have HT : (S ++ ⟨#[59]⟩ : ByteArray) = ⟨(insT x).toArray⟩ := by
        apply ByteArray.ext
        rw [ByteArray.data_append]
        apply Array.toList_inj.1
        rw [Array.toList_append, HS.out]
        simp [insT_eq]
      clear hlt
      go_wp2_with fail
      go_ret
      exact ⟨by first | rfl | (rw [← HT]; rfl), HBR.out⟩
    obtain ⟨z, hz⟩ : ∃ z, (opsOf x)[k]? = some z := ⟨_, List.getElem?_eq_getElem hlt⟩
    have cz : wr.cell? ⟨ob, k, none⟩ = some (.int .i64 z) := by
      rw [cell_of_row _ _ k _ _ _ (HOR.out.trans HO.out)]
      exact HG.out k z hz
    have hd := dig10 (HN.out z (List.mem_of_getElem? hz))
    have hnz := HN.out z (List.mem_of_getElem? hz)
    simp only [numF, Bool.and_eq_true, decide_eq_true_eq] at hnz
    have k0 : (0 : Int) ≤ (k : Int) ∧ (k : Int) < (((opsOf x).length : Nat) : Int) := by omega
    have k1 : ¬ 9223372036854775807 < 1 + (Lib.itoa z).length := by omega
    have k2 : ¬ 9223372036854775807 < S.size + (1 + (Lib.itoa z).length) := by omega
    have HZ := hide (catT_step (f := opT) hz)
    have HI := hide (itoa_any z wr (hE.out.kept HBR.out) (by omega) (by omega))
    clear hz hd hnz
    go_wp2_with fail
    refine HI.out.mono ?_
    rintro e w3 ⟨rfl, hb⟩
    have HB3 := hide (HBR.out.trans (hb.mono HBR.out.size))
    have HO3 := hide ((hb.block ob (by have := (Array.getElem?_eq_some_iff.1 (HOR.out.trans HO.out)).1; exact this)).trans HOR.out)
    have HT : (S ++ (⟨#[32]⟩ ++ ⟨(Lib.itoa z).toArray⟩) : ByteArray).data.toList = wordN insWords x.op ++ catT opT ((opsOf x).take (k + 1)) := by
      rw [ByteArray.data_append, Array.toList_append, HS.out, HZ.out]
      simp [opT, ByteArray.data_append]
    have HTT := hide HT
    clear hb HI cz HT
    go_wp2_with fail
    go_roundw
    case rel => exact ⟨k + 1, _, by omega, by go_num, rfl, HTT.out, HB3.out, HO3.out⟩
    case measure => simp [intOf]; omega
end Go.Proofs.YtndpnpohdoggjaaGreatDoor
namespace Go.Proofs.YtndpnpohdoggjaaGreatDoor
open Go.RowKit
attribute [local go_sem] Later.cell
def codesT (l : List InsD) : List UInt8 := Lib.join (l.map insT) [32]
noncomputable def codeE (l : List InsD) : Value := if l.all insF = true then fitsE ⟨(codesT l).toArray⟩ else .tuple #[.string ⟨#[]⟩, .int .i64 2]
theorem codesT_len {l : List InsD} (h : l.all insF = true) : (codesT l).length ≤ 51 * l.length := by
  have h1 := lensLe insT (fun _ => 0) 50 l (fun x hx => by have := insT_len (List.all_eq_true.1 h x hx); omega)
  rw [sum_const] at h1
  unfold codesT
  cases l with
  | nil => simp [Lib.join_nil]
  | cons a l =>
    rw [List.map_cons] at h1 ⊢
    rw [Lib.join_length, List.length_map]
    simp only [List.length_cons, List.length_nil] at h1 ⊢
    omega
set_option maxRecDepth 100000 in
set_option maxHeartbeats 4000000 in
theorem codesrc_any (v : Value) (l : List InsD) (W : World) (hv : Hid (DAt W (fun _ => True) v (.row 4 (l.map InsD.cells)))) (hop : ∀ x ∈ l, x.op ≤ 255) (hn : l.length ≤ 1000000) (hE : Hid (Env W)) (hP : Hid (EnvP W)) :
    Calls Tryz.prog 6 #[v] W fun e w' => e = .returned (codeE l) ∧ Below W.heap.size W w' := by
  obtain ⟨i0, hi0, hz0, hz1, hz2⟩ := info_parts str_any_info
  have HAL := hide (all_ins v l insF W hv (by omega) (hide (fun x hx us w' hb hd => f_ins x (hop x hx) us w' (hide (hP.out.below hb)) (hide hd))))
  obtain ⟨A, c, rfl, hA⟩ := hv.out.slice
  have HA := hide hA
  clear hA hv
  rw [List.length_map] at HAL ⊢
  go_enter Tryz.func6, Tryz.ntmps6
  go_wp2_with fail
  cases hz : l.all insF with
  | false =>
    have HX := hide (show codeE l = .tuple #[.string ⟨#[]⟩, .int .i64 2] by unfold codeE; rw [hz]; rfl)
    rw [hz] at HAL
    clear hz
    refine HAL.out.mono ?_
    rintro e w1 ⟨rfl, hb⟩
    have HB1 := hide hb
    clear hb HAL
    go_wp2_with fail
    go_ret2
    exact ⟨by rw [HX.out]; rfl, HB1.out⟩
  | true =>
    have HX := hide (show codeE l = fitsE ⟨(codesT l).toArray⟩ by unfold codeE; rw [hz]; rfl)
    have HF := hide hz
    have HLN := hide (codesT_len hz)
    rw [hz] at HAL
    clear hz
    refine HAL.out.mono ?_
    rintro e w1 ⟨rfl, hb⟩
    have HB1 := hide hb
    clear hb HAL
    go_wp2_with fail
    go_loopw [4, 12] (fun v4 v12 wr => ∃ k : Nat, k ≤ l.length ∧ v12 = .int .i64 k ∧ wr.ownsRow W.heap.size 9 1 v4 k (txtF ((l.take k).map insT)) ∧ Below W.heap.size W wr) (fun _ v12 _ => l.length - (intOf v12).toNat)
    case atStart => exact ⟨0, by omega, rfl, World.ownsRow_nil _ _ _ _, HB1.out⟩
    case round =>
      obtain ⟨k, hk, rfl, ho, hbr⟩ := hrel
      have HO := hide ho
      have HBR := hide hbr
      clear ho hbr
      by_cases hlt : k < l.length
      rotate_left
      · obtain rfl : k = l.length := by omega
        rw [List.take_length] at HO
        have hL := HLN.out
        have HJ := hide (join_dat [32] (own_txt HO.out) (by rw [List.length_map]; omega) (by show (codesT l).length ≤ _; omega))
        clear hlt
        go_wp2_with fail
        refine HJ.out.mono ?_
        rintro e w2 ⟨rfl, hb⟩
        have HB2 := hide (HBR.out.trans (hb.mono HBR.out.size))
        clear hb HJ
        go_wp2_with fail
        refine (fits_any ⟨(codesT l).toArray⟩ w2 (by show (codesT l).length ≤ _; omega)).mono ?_
        rintro e w5 ⟨rfl, rfl⟩
        rcases (by unfold fitsE; split <;> exact ⟨_, _, rfl⟩ : ∃ p q, fitsE ⟨(codesT l).toArray⟩ = .tuple #[p, q]) with ⟨p, q, hpq⟩
        have HE := hide (HX.out.trans hpq)
        rw [hpq]
        clear hpq
        go_wp2_with fail
        go_ret2
        exact ⟨by rw [HE.out]; rfl, HB2.out⟩
      obtain ⟨x, hx⟩ : ∃ x, l[k]? = some x := ⟨_, List.getElem?_eq_getElem hlt⟩
      obtain ⟨b, off, rfl, hb, hca⟩ := HA.out.at_ hx
      obtain ⟨u0, c0, g0⟩ := hca 0 _ rfl
      obtain ⟨u1, c1, g1⟩ := hca 1 _ rfl
      obtain ⟨u2, c2, g2⟩ := hca 2 _ rfl
      obtain ⟨u3, c3, g3⟩ := hca 3 _ rfl
      clear hca
      obtain rfl := g0.leaf_eq
      obtain rfl := g1.leaf_eq
      obtain rfl := g2.leaf_eq
      obtain rfl := g3.leaf_eq
      have c0 := (HBR.out.cell (p := ⟨b, off + k * 4, none⟩) hb).trans c0
      have c1 := (HBR.out.cell (p := ⟨b, off + k * 4 + 1, none⟩) hb).trans c1
      have c2 := (HBR.out.cell (p := ⟨b, off + k * 4 + 2, none⟩) hb).trans c2
      have c3 := (HBR.out.cell (p := ⟨b, off + k * 4 + 3, none⟩) hb).trans c3
      have k0 : (0 : Int) ≤ (k : Int) ∧ (k : Int) < ((l.length : Nat) : Int) := by omega
      have hmem := List.mem_of_getElem? hx
      have hFx := List.all_eq_true.1 HF.out x hmem
      have HS := hide (txtF_step (f := insT) hx)
      have HBA := hide (HBR.out.alloc HBR.out.size (.cells #[.int .u8 (x.op : Int), .int .i64 x.a, .int .i64 x.b, .int .i64 x.c] 70))
      have HBX := hide ((Below.refl wr.heap.size wr).alloc (Nat.le_refl _) (.cells #[.int .u8 (x.op : Int), .int .i64 x.a, .int .i64 x.b, .int .i64 x.c] 70))
      have HC := hide (code_any x (hop x hmem) (wr.alloc (.cells #[.int .u8 (x.op : Int), .int .i64 x.a, .int .i64 x.b, .int .i64 x.c] 70)) hFx (hide (hE.out.kept HBA.out)) (hide (hP.out.below HBA.out)))
      clear hx hmem hFx
      go_wp2_with fail
      refine HC.out.mono ?_
      rintro e w3 ⟨rfl, hb3⟩
      have HB3 := hide (HBA.out.trans (hb3.mono HBA.out.size))
      have HO3 := hide (own_keep HO.out (fun g hg hbg => ((HBX.out.trans (hb3.mono HBX.out.size)).block g (own_lt HO.out hg).2)))
      have hz3 := HB3.out.size
      clear hb3 HC
      go_wp2_with (first
        | (at_builtin; refine wpList_append_own _ rfl _ _ 66 rfl W.heap.size 9 i0 (.string ⟨#[]⟩) 1 16 Tryz.underlying66 hi0 hz0 hz1 hz2 rfl (by decide) _ _ _ rfl (HO3.out.alloc _) ⟨w3.heap.size, 0, none⟩ 1 1 [.string ⟨(insT x).toArray⟩] rfl rfl (news_of (by simp)) (by simp [Value.oneCell']) (by unfold maxLen; omega) (by omega) (by simp; exact Nat.le_succ_of_le hz3) ?_; intro v' w5 hown' hgrow _))
      have HB5 := hide (HB3.out.trans (Below.grown ((Below.refl _ w3).alloc hz3 _) hgrow (by simp; exact Nat.le_succ_of_le hz3) (fun g hg => (own_lt HO3.out hg).1)))
      have HO5 := hide hown'
      clear hown' hgrow
      go_wp2_with fail
      go_roundw
      case rel => exact ⟨k + 1, by omega, by go_num, by rw [HS.out]; exact HO5.out, HB5.out⟩
      case measure => simp [intOf]; omega
end Go.Proofs.YtndpnpohdoggjaaGreatDoor

/- Worlds, what is frozen in them, slices; laws for single operations. No program text. -/
import Derived.Test.YtiggfalelcepbaaGreatDoorK0
namespace Go.Proofs.YtiggfalelcepbaaGreatDoor
open Go

/-! ### Worlds -/
abbrev Ctx := Nat → Option (List Value)
def Bk (w : World) (b : Nat) (L : List Value) : Prop := ∃ T fr, w.heap[b]? = some (.cells L.toArray T fr)
def Ag (m : Ctx) (w : World) : Prop := ∀ b L, m b = some L → Bk w b L
def Mu (m : Ctx) (w : World) (b : Nat) (T : TypeId) (L : List Value) : Prop := w.heap[b]? = some (.cells L.toArray T (0, 0)) ∧ m b = none
def cput (m : Ctx) (b : Nat) (L : List Value) : Ctx := fun i => if i = b then some L else m i
def no : Nat → Prop := fun _ => False
def on (b : Nat) : Nat → Prop := fun i => i = b
structure Fr (S : Nat → Prop) (m : Ctx) (w : World) (m' : Ctx) (w' : World) : Prop where
  ag : Ag m' w'
  le : ∀ b L, m b = some L → m' b = some L
  size : w.heap.size ≤ w'.heap.size
  blk : ∀ b, b < w.heap.size → ¬ S b → w'.heap[b]? = w.heap[b]? ∧ m' b = m b
  tape : w'.tape = w.tape
  os : w'.os = w.os
  output : w'.output = w.output
section
variable {S S' : Nat → Prop} {m m1 m2 : Ctx} {w w1 w2 : World} {b c : Nat} {T : TypeId} {L : List Value}
theorem lt_of_some {o : Obj} (h : w.heap[b]? = some o) : b < w.heap.size := (Array.getElem?_eq_some_iff.1 h).1
theorem Bk.lt (h : Bk w b L) : b < w.heap.size := by obtain ⟨T, fr, h⟩ := h; exact lt_of_some h
theorem Mu.lt (h : Mu m w b T L) : b < w.heap.size := lt_of_some h.1
theorem Mu.bk (h : Mu m w b T L) : Bk w b L := ⟨T, _, h.1⟩
theorem Ag.lt (h : Ag m w) (hb : m b = some L) : b < w.heap.size := (h b L hb).lt
theorem Ag.new (h : Ag m w) (hb : w.heap.size ≤ b) : m b = none := by
  cases e : m b with
  | none => rfl
  | some L => have := h.lt e; omega
theorem Fr.refl (h : Ag m w) : Fr S m w m w := ⟨h, fun _ _ h => h, Nat.le_refl _, fun _ _ _ => ⟨rfl, rfl⟩, rfl, rfl, rfl⟩
theorem Fr.tr (h1 : Fr S m w m1 w1) (h2 : Fr S' m1 w1 m2 w2) (hs : ∀ x, S' x → w.heap.size ≤ x ∨ S x) : Fr S m w m2 w2 :=
  ⟨h2.ag, fun b L h => h2.le b L (h1.le b L h), Nat.le_trans h1.size h2.size,
   fun b hb hn => by
     have a1 := h1.blk b hb hn
     have a2 := h2.blk b (Nat.lt_of_lt_of_le hb h1.size) (fun h => by rcases hs b h with h | h; omega; exact hn h)
     exact ⟨a2.1.trans a1.1, a2.2.trans a1.2⟩,
   h2.tape.trans h1.tape, h2.os.trans h1.os, h2.output.trans h1.output⟩
theorem Fr.t0 (h1 : Fr S m w m1 w1) (h2 : Fr no m1 w1 m2 w2) : Fr S m w m2 w2 := h1.tr h2 fun _ h => h.elim
theorem Fr.t1 (h1 : Fr S m w m1 w1) (h2 : Fr (on b) m1 w1 m2 w2) (hb : w.heap.size ≤ b ∨ S b) : Fr S m w m2 w2 := h1.tr h2 fun x h => by cases h; exact hb
theorem Fr.wk (h1 : Fr S m w m1 w1) (hs : ∀ x, S x → x < w.heap.size → S' x) : Fr S' m w m1 w1 :=
  ⟨h1.ag, h1.le, h1.size, fun b hb hn => h1.blk b hb (fun h => hn (hs b h hb)), h1.tape, h1.os, h1.output⟩
theorem Fr.ex (h1 : Fr S m w m1 w1) (hb : Bk w b L) (hn : ¬ S b) : Bk w1 b L := by
  have := (h1.blk b hb.lt hn).1
  obtain ⟨T, fr, hb⟩ := hb
  exact ⟨T, fr, this.trans hb⟩
theorem Mu.fs (h : Mu m w b T L) (hf : Fr S m w m1 w1) (hn : ¬ S b) : Mu m1 w1 b T L := by
  have := hf.blk b h.lt hn
  exact ⟨this.1.trans h.1, this.2.trans h.2⟩
theorem Mu.f0 (h : Mu m w b T L) (hf : Fr no m w m1 w1) : Mu m1 w1 b T L := h.fs hf id
theorem Mu.f1 (h : Mu m w b T L) (hf : Fr (on c) m w m1 w1) (hn : b ≠ c) : Mu m1 w1 b T L := h.fs hf hn
theorem Mu.ne (h : Mu m w b T L) (hc : w.heap.size ≤ c) : b ≠ c := by have := h.lt; omega
theorem Mu.no (h : Mu m w b T L) {x : List Value} (hc : m c = some x) : c ≠ b := by rintro rfl; rw [h.2] at hc; cases hc
/-- What was written for the last time is frozen. -/
theorem Mu.fz (h : Mu m w b T L) (ha : Ag m w) : Fr (on b) m w (cput m b L) w ∧ cput m b L b = some L :=
  ⟨⟨fun x X hx => by
      unfold cput at hx
      split at hx
      · rename_i e; subst e; cases hx; exact h.bk
      · exact ha x X hx,
    fun x X hx => by
      unfold cput
      split
      · rename_i e; subst e; rw [h.2] at hx; cases hx
      · exact hx,
    Nat.le_refl _, fun x _ hn => ⟨rfl, by unfold cput; rw [if_neg (show ¬ x = b from hn)]⟩, rfl, rfl, rfl⟩, by simp [cput]⟩
theorem heap_drew' (w : World) : w.drew.heap = w.heap := rfl
theorem Fr.drw (ha : Ag m w) : Fr S m w m { w with drawn := w.drawn + 1 } := ⟨ha, fun _ _ h => h, Nat.le_refl _, fun _ _ _ => ⟨rfl, rfl⟩, rfl, rfl, rfl⟩
theorem Fr.alloc (ha : Ag m w) (o : Obj) : Fr S m w m (w.alloc o) :=
  ⟨fun b L h => by
     obtain ⟨T, fr, hb⟩ := ha b L h
     exact ⟨T, fr, (heap_alloc_old w o b (lt_of_some hb)).trans hb⟩,
   fun _ _ h => h, by simp, fun b hb _ => ⟨heap_alloc_old w o b hb, rfl⟩, rfl, rfl, rfl⟩
theorem Mu.alloc (ha : Ag m w) (T : TypeId) (L : List Value) : Mu m (w.alloc (.cells L.toArray T)) w.heap.size T L :=
  ⟨heap_alloc_new w _, ha.new (Nat.le_refl _)⟩
end

/-! ### Values -/
abbrev u8 (x : UInt8) : Value := .int .u8 (x.toNat : Int)
abbrev u32 (x : UInt32) : Value := .int .u32 (x.toNat : Int)
abbrev u64 (x : UInt64) : Value := .int .u64 (x.toNat : Int)
abbrev nn (n : Nat) : Value := .int .i64 (n : Int)
abbrev Bytes := List UInt8
def bv (l : Bytes) : List Value := l.map u8
def hc (l : Bytes) : List Value := (List.range 32).map fun i => u8 (l.getD i 0)
def us (l : List UInt32) : List Value := l.map u32
def ns (l : List Nat) : List Value := l.map nn
abbrev H (l : Bytes) : Value := .agg (hc l).toArray
def hcs (l : List Bytes) : List Value := l.flatMap hc
theorem hc_length (l : Bytes) : (hc l).length = 32 := rfl
theorem bv_length (l : Bytes) : (bv l).length = l.length := by simp [bv]
theorem us_length (l : List UInt32) : (us l).length = l.length := by simp [us]
theorem ns_length (l : List Nat) : (ns l).length = l.length := by simp [ns]
theorem hcs_length (l : List Bytes) : (hcs l).length = l.length * 32 := by
  induction l with
  | nil => rfl
  | cons x l ih => simp only [hcs, List.flatMap_cons, List.length_append, hc_length, List.length_cons] at *; omega
theorem hcs_append (l k : List Bytes) : hcs (l ++ k) = hcs l ++ hcs k := by simp [hcs]
theorem bv_append (l k : Bytes) : bv (l ++ k) = bv l ++ bv k := by simp [bv]
theorem us_append (l k : List UInt32) : us (l ++ k) = us l ++ us k := by simp [us]
theorem hc_eq {l : Bytes} (h : l.length = 32) : hc l = bv l := by
  apply List.ext_getElem
  · simp [hc, bv, h]
  · intro i h1 h2
    simp only [hc, List.length_map, List.length_range] at h1
    simp [hc, bv, List.getD, h, h1]
theorem hc_inj {l k : Bytes} (hl : l.length = 32) (hk : k.length = 32) (h : hc l = hc k) : l = k := by
  rw [hc_eq hl, hc_eq hk] at h
  unfold bv at h
  refine List.map_inj_right (fun a b hab => ?_) |>.1 h
  simp only [Value.int.injEq, true_and] at hab
  exact UInt8.toNat_inj.1 (by omega)
theorem hc_getElem {l : Bytes} (h : l.length = 32) (i : Nat) (hi : i < l.length) : (hc l)[i]? = some (u8 l[i]) := by
  rw [hc_eq h]; simp [bv, hi]
/-- n cells from place o on. -/
def rdL (L : List Value) (o n : Nat) : List Value := (L.drop o).take n
def wrL (L : List Value) (o : Nat) (cs : List Value) : List Value := L.take o ++ (cs ++ L.drop (o + cs.length))

/-! ### Slices -/
/-- A slice value whose first elements are these cells, for good. -/
def Sl (m : Ctx) (A : Option Addr) (n c sz : Nat) (L : List Value) : Prop :=
  L.length = n * sz ∧ n ≤ c ∧ c ≤ maxLen ∧ ((A = none ∧ n = 0 ∧ c = 0) ∨ ∃ b off LL, A = some ⟨b, off, none⟩ ∧ m b = some LL ∧ rdL LL off (n * sz) = L)
/-- A slice value that begins a block of its own, from block β on, which may be appended to. -/
def Own (m : Ctx) (w : World) (β : Nat) (A : Option Addr) (n c : Nat) (e : TypeId) (sz : Nat) (L : List Value) : Prop :=
  L.length = n * sz ∧ n ≤ c ∧ c ≤ maxLen ∧ ((A = none ∧ n = 0 ∧ c = 0) ∨ ∃ g cur, A = some ⟨g, 0, none⟩ ∧ β ≤ g ∧ Mu m w g e cur ∧ cur.length = c * sz ∧ cur.take (n * sz) = L)
def onA (A : Option Addr) : Nat → Prop := fun b => ∃ a, A = some a ∧ a.block = b
section
variable {S : Nat → Prop} {m m1 m2 : Ctx} {w w1 w2 : World} {b β n c sz : Nat} {e : TypeId} {A : Option Addr} {L : List Value}
theorem Sl.up (h : Sl m A n c sz L) (hf : Fr S m w m1 w1) : Sl m1 A n c sz L := by
  obtain ⟨h1, h2, h3, h4⟩ := h
  refine ⟨h1, h2, h3, ?_⟩
  rcases h4 with h | ⟨b, off, LL, hA, hb, hr⟩
  · exact .inl h
  · exact .inr ⟨b, off, LL, hA, hf.le _ _ hb, hr⟩
theorem Own.fs (h : Own m w β A n c e sz L) (hf : Fr S m w m1 w1) (hn : ∀ g, β ≤ g → ¬ S g) : Own m1 w1 β A n c e sz L := by
  obtain ⟨h1, h2, h3, h4⟩ := h
  refine ⟨h1, h2, h3, ?_⟩
  rcases h4 with h | ⟨g, cur, hA, hb, hm, hr⟩
  · exact .inl h
  · exact .inr ⟨g, cur, hA, hb, hm.fs hf (hn g hb), hr⟩
theorem Own.f0 (h : Own m w β A n c e sz L) (hf : Fr no m w m1 w1) : Own m1 w1 β A n c e sz L := h.fs hf fun _ _ h => h
theorem Own.f1 (h : Own m w β A n c e sz L) (hf : Fr (on b) m w m1 w1) (hb : b < β) : Own m1 w1 β A n c e sz L := h.fs hf fun g hg e => by cases e; omega
/-- The other way about: the block was laid behind the row. -/
theorem Own.fn (h : Own m w β A n c e sz L) (hf : Fr (on b) m w m1 w1) (hb : ∀ a, A = some a → a.block ≠ b) : Own m1 w1 β A n c e sz L := by
  obtain ⟨h1, h2, h3, h4⟩ := h
  refine ⟨h1, h2, h3, ?_⟩
  rcases h4 with h | ⟨g, cur, hA, hg, hm, hr⟩
  · exact .inl h
  · exact .inr ⟨g, cur, hA, hg, hm.f1 hf (hb _ hA), hr⟩
theorem Own.ne (h : Own m w β A n c e sz L) (hb : w.heap.size ≤ b) : ∀ a, A = some a → a.block ≠ b := by
  intro a ha
  rcases h.2.2.2 with ⟨rfl, _⟩ | ⟨g, cur, rfl, _, hm, _⟩
  · cases ha
  · cases ha; have := hm.lt; show g ≠ b; omega
theorem Own.wk (h : Own m w β A n c e sz L) {β' : Nat} (hb : β' ≤ β) : Own m w β' A n c e sz L := by
  obtain ⟨h1, h2, h3, h4⟩ := h
  refine ⟨h1, h2, h3, ?_⟩
  rcases h4 with h | ⟨g, cur, hA, hg, hm, hr⟩
  · exact .inl h
  · exact .inr ⟨g, cur, hA, Nat.le_trans hb hg, hm, hr⟩
theorem Own.at (h : Own m w β A n c e sz L) : ∀ g, onA A g → β ≤ g := by
  rintro g ⟨a, rfl, rfl⟩
  rcases h.2.2.2 with ⟨h, _⟩ | ⟨g, cur, h, hb, _⟩
  · cases h
  · cases h; exact hb
theorem Own.nil (m : Ctx) (w : World) (β : Nat) (e : TypeId) (sz : Nat) : Own m w β none 0 0 e sz [] := ⟨by simp, Nat.le_refl _, Nat.zero_le _, .inl ⟨rfl, rfl, rfl⟩⟩
theorem Sl.nil (m : Ctx) (sz : Nat) : Sl m none 0 0 sz [] := ⟨by simp, Nat.le_refl _, Nat.zero_le _, .inl ⟨rfl, rfl, rfl⟩⟩
theorem maxLen_eq : maxLen = 9223372036854775807 := rfl
/-- It is not appended to any more. -/
theorem Own.fz (h : Own m w β A n c e sz L) (ha : Ag m w) : ∃ m', Fr (onA A) m w m' w ∧ Sl m' A n c sz L := by
  obtain ⟨h1, h2, h3, h4⟩ := h
  rcases h4 with ⟨rfl, rfl, rfl⟩ | ⟨g, cur, rfl, hb, hm, hc, ht⟩
  · exact ⟨m, Fr.refl ha, h1, h2, h3, .inl ⟨rfl, rfl, rfl⟩⟩
  · obtain ⟨f, hp⟩ := hm.fz ha
    exact ⟨_, f.wk (fun x hx _ => ⟨_, rfl, hx.symm⟩), h1, h2, h3, .inr ⟨g, 0, cur, rfl, hp, by simpa [rdL] using ht⟩⟩
theorem Own.row (h : Own m w β A n c e sz L) : w.ownsRow β e sz (.slice A n c) n L := by
  obtain ⟨h1, h2, h3, h4⟩ := h
  refine ⟨h1, ?_⟩
  rcases h4 with ⟨rfl, rfl, rfl⟩ | ⟨g, cur, rfl, hb, hm, hc, ht⟩
  · exact .inl ⟨rfl, rfl⟩
  · exact .inr ⟨g, c, cur.toArray, rfl, hb, hm.1, h2, h3, by simpa using hc, by simpa using ht⟩
theorem Own.of_row {v : Value} {n' : Nat} (h : w.ownsRow β e sz v n L) (hm : ∀ g, v.ownBlock = some g → m g = none) (hv : v = .slice A n' c) : Own m w β A n c e sz L ∧ n' = n := by
  obtain ⟨h1, h2⟩ := h
  rcases h2 with ⟨rfl, rfl⟩ | ⟨g, cap, cur, rfl, hb, hg, hn, hc, hs, ht⟩
  · cases hv
    exact ⟨⟨h1, Nat.le_refl _, Nat.zero_le _, .inl ⟨rfl, rfl, rfl⟩⟩, rfl⟩
  · cases hv
    exact ⟨⟨h1, hn, hc, .inr ⟨g, cur.toList, rfl, hb, ⟨by simpa using hg, hm g rfl⟩, by simpa using hs, ht⟩⟩, rfl⟩
/-- The cells that an append or a copy reads. -/
def Src (w : World) (A : Option Addr) (n : Nat) (L : List Value) : Prop := (A = none ∧ n = 0 ∧ L = []) ∨ ∃ a, A = some a ∧ ∀ j u, L[j]? = some u → w.cell? (a.add j) = some u
theorem add_off (b o j : Nat) : (⟨b, o, none⟩ : Addr).add j = ⟨b, o + j, none⟩ := by unfold Addr.add; split <;> simp_all
theorem Bk.cell {b : Nat} (h : Bk w b L) (j : Nat) : w.cell? ⟨b, j, none⟩ = L[j]? := by
  obtain ⟨T, fr, h⟩ := h
  rw [cell_of_row w b j _ T fr h]
  simp
theorem rdL_get {L : List Value} {o n j : Nat} {u : Value} (h : (rdL L o n)[j]? = some u) : L[o + j]? = some u := by
  unfold rdL at h
  rw [List.getElem?_take] at h
  split at h
  · simpa using h
  · cases h
theorem Bk.src {LL : List Value} {b o k : Nat} (h : Bk w b LL) (hr : rdL LL o k = L) : Src w (some ⟨b, o, none⟩) n L :=
  .inr ⟨_, rfl, fun j u hj => by rw [add_off, h.cell]; subst hr; exact rdL_get hj⟩
theorem Sl.src (h : Sl m A n c sz L) (ha : Ag m w) : Src w A n L := by
  obtain ⟨h1, h2, h3, h4⟩ := h
  rcases h4 with ⟨rfl, rfl, rfl⟩ | ⟨b, off, LL, rfl, hb, hr⟩
  · exact .inl ⟨rfl, rfl, List.eq_nil_of_length_eq_zero (by simpa using h1)⟩
  · exact (ha b LL hb).src hr
theorem Own.src (h : Own m w β A n c e sz L) : Src w A n L := by
  obtain ⟨h1, h2, h3, h4⟩ := h
  rcases h4 with ⟨rfl, rfl, rfl⟩ | ⟨g, cur, rfl, hb, hm, hc, ht⟩
  · exact .inl ⟨rfl, rfl, List.eq_nil_of_length_eq_zero (by simpa using h1)⟩
  · exact hm.bk.src (o := 0) (k := n * sz) (by simpa [rdL] using ht)
/-- An element of such a slice lies at an address. -/
theorem Sl.elem (h : Sl m A n c sz L) (hn : 0 < n) : ∃ b off LL, A = some ⟨b, off, none⟩ ∧ m b = some LL ∧ rdL LL off (n * sz) = L := by
  rcases h.2.2.2 with ⟨_, h0, _⟩ | h
  · omega
  · exact h
end
end Go.Proofs.YtiggfalelcepbaaGreatDoor

/- Digests' cells as rows of bytes of any length; a few more laws of single operations. No program text. -/
import Derived.Test.YtiggfalelcepbaaGreatDoorK4
namespace Go.Proofs.YtiggfalelcepbaaGreatDoor
open Go
def n32 (x : Bytes) : Bytes := (List.range 32).map fun i => x.getD i 0
theorem n32_len (x : Bytes) : (n32 x).length = 32 := by simp [n32]
theorem hc_n32 (x : Bytes) : hc x = bv (n32 x) := by simp [hc, bv, n32]
theorem n32_eq {x : Bytes} (h : x.length = 32) : n32 x = x := by
  apply List.ext_getElem
  · simp [n32, h]
  · intro i h1 h2
    simp [n32, List.getD, h2]
theorem hc_hc (x : Bytes) : hc (n32 x) = hc x := by rw [hc_n32 x, hc_eq (n32_len x)]
theorem H_n32 (x : Bytes) : H x = H (n32 x) := congrArg (fun l => Value.agg (List.toArray l)) (hc_hc x).symm
theorem hcs_one (x : Bytes) : hcs [x] = hc x := by simp [hcs]
section
variable {P : Program} {ρ : Operand → Value} {w : World} {dst : Option Tmp} {ty T U : TypeId} {pos : String} {af : Array Edge} {g : Option (Nat × Bool)} {x y : Operand}
theorem r_max0 {i : Nat} {at' : Array TypeId} (hx : ρ x = nn i) (hy : ρ y = nn 0) : (execOp ρ ⟨dst, .call ⟨.builtin .max, #[x, y], at'⟩, ty, pos, af, g⟩).run P w = .ok (.value (nn i)) w := by
  have := r_max (P := P) (ρ := ρ) (w := w) (dst := dst) (ty := ty) (pos := pos) (af := af) (g := g) (at' := at') hx hy
  rw [Nat.max_eq_left (Nat.zero_le i)] at this
  exact this
theorem r_eqlN {a b : Bytes} (hx : ρ x = H a) (hy : ρ y = H b) (hq : qhash P T = true) : (execOp ρ ⟨dst, .binOp .eql T x y U, ty, pos, af, g⟩).run P w = .ok (.value (.bool (decide (n32 a = n32 b)))) w :=
  r_eqlH (a := n32 a) (b := n32 b) (hx.trans (H_n32 a)) (hy.trans (H_n32 b)) (n32_len _) (n32_len _) hq
theorem r_neqN {a b : Bytes} (hx : ρ x = H a) (hy : ρ y = H b) (hq : qhash P T = true) : (execOp ρ ⟨dst, .binOp .neq T x y U, ty, pos, af, g⟩).run P w = .ok (.value (.bool (decide (n32 a ≠ n32 b)))) w :=
  r_neqH (a := n32 a) (b := n32 b) (hx.trans (H_n32 a)) (hy.trans (H_n32 b)) (n32_len _) (n32_len _) hq
end
section
variable {m m1 m2 : Ctx} {w w1 w2 : World} {β n c sz b : Nat} {e : TypeId} {A : Option Addr} {L : List Value}
theorem Own.lt (h : Own m w β A n c e sz L) : ∀ a, A = some a → a.block < w.heap.size := by
  intro a ha
  rcases h.2.2.2 with ⟨rfl, _⟩ | ⟨g, cur, rfl, _, hm, _⟩
  · cases ha
  · cases ha; exact hm.lt
/-- What is written lies behind the row. -/
theorem Own.fg (h : Own m1 w1 β A n c e sz L) (hf : Fr (ge b) m1 w1 m2 w2) (hl : ∀ a, A = some a → a.block < b) : Own m2 w2 β A n c e sz L := by
  obtain ⟨h1, h2, h3, h4⟩ := h
  refine ⟨h1, h2, h3, ?_⟩
  rcases h4 with h | ⟨g, cur, hA, hg, hm, hr⟩
  · exact .inl h
  · refine .inr ⟨g, cur, hA, hg, hm.fs hf (fun hx => ?_), hr⟩
    have h5 := hl _ hA
    have h6 : b ≤ g := hx
    exact absurd h5 (Nat.not_lt.2 h6)
end
theorem yielded_o2 {ops : Array Oper} {a : Act} {L : List (Nat × Value)} {n j t : Nat} {b : Bool} (hB : a.tmps.size = n) (hj : (ops.toList[j]?).bind Oper.dst = some t) (ht : decide (t < n) = true)
    (hv : (ov a L).eval (.tmp t) = .bool b) : yielded ops (ov a L).tmps j = some b := by
  cases h : ops.toList[j]? with
  | none => rw [h] at hj; cases hj
  | some o' =>
    rw [h] at hj
    exact yielded_ov hB (by rw [← h]; simp) hj ht hv
section
variable {m m1 m2 : Ctx} {w w1 w2 : World} {β n c sz b : Nat} {e : TypeId} {A : Option Addr} {x : Bytes}
theorem Own.blen (h : Own m w β A n c e 1 (bv x)) : x.length = n := by have := h.1; rwa [bv_length, Nat.mul_one] at this
theorem Sl.blen (h : Sl m A n c 1 (bv x)) : x.length = n := by have := h.1; rwa [bv_length, Nat.mul_one] at this
theorem Sl.isN {L : List Value} (h : Sl m A n c sz L) (hn : 0 < n) : A.isNone = false := by
  rcases h.2.2.2 with ⟨_, h0, _⟩ | ⟨b, off, LL, rfl, _⟩
  · omega
  · rfl
variable {P : Program} {ρ : Operand → Value} {dst : Option Tmp} {ty T U : TypeId} {pos : String} {af : Array Edge} {g : Option (Nat × Bool)} {p q : Operand}
theorem r_minl {i j : Nat} {at' : Array TypeId} (hx : ρ p = nn i) (hy : ρ q = nn j) (h : i ≤ j) : (execOp ρ ⟨dst, .call ⟨.builtin .min, #[p, q], at'⟩, ty, pos, af, g⟩).run P w = .ok (.value (nn i)) w := by
  have := r_min (P := P) (ρ := ρ) (w := w) (dst := dst) (ty := ty) (pos := pos) (af := af) (g := g) (at' := at') hx hy
  rw [Nat.min_eq_left h] at this
  exact this
theorem r_maxr {i j : Nat} {at' : Array TypeId} (hx : ρ p = nn i) (hy : ρ q = nn j) (h : i ≤ j) : (execOp ρ ⟨dst, .call ⟨.builtin .max, #[p, q], at'⟩, ty, pos, af, g⟩).run P w = .ok (.value (nn j)) w := by
  have := r_max (P := P) (ρ := ρ) (w := w) (dst := dst) (ty := ty) (pos := pos) (af := af) (g := g) (at' := at') hx hy
  rw [Nat.max_eq_right h] at this
  exact this
end
section
variable {P : Program} {ρ : Operand → Value} {w : World} {K : Value → World → Prop} {m : Ctx}
variable {dst : Option Tmp} {ty T U : TypeId} {pos : String} {af : Array Edge} {g : Option (Nat × Bool)} {x y : Operand}
theorem r_strLo {t lo : Nat} {k : IntKind} {s s' : ByteArray} (hx : ρ x = .string s) (hy : ρ y = .int k (lo : Int)) (hu : qund P t = some .string) (hl : lo ≤ s.size) (he : s.extract lo s.size = s') :
    (execOp ρ ⟨dst, .slice t x (some y) none none, ty, pos, af, g⟩).run P w = .ok (.value (.string s')) w := by
  subst he
  have hu : P.underlying t = some .string := hu
  simp [execOp, hx, hy, Instr.sliceAt, Instr.slice, Instr.sliceBounds, Instr.sliceBound, asIntOf, run_underlying hu, hl]
theorem r_strHi {t hi : Nat} {k : IntKind} {s s' : ByteArray} (hx : ρ x = .string s) (hy : ρ y = .int k (hi : Int)) (hu : qund P t = some .string) (hl : hi ≤ s.size) (he : s.extract 0 hi = s') :
    (execOp ρ ⟨dst, .slice t x none (some y) none, ty, pos, af, g⟩).run P w = .ok (.value (.string s')) w := by
  subst he
  have hu : P.underlying t = some .string := hu
  simp [execOp, hx, hy, Instr.sliceAt, Instr.slice, Instr.sliceBounds, Instr.sliceBound, asIntOf, run_underlying hu, hl]
/-- An append to what is empty. -/
theorem k_append0 {base : Nat} {t e k c c' sz by_ : Nat} {A B : Option Addr} {N zl : List Value} (ag : Ag m w) (hx : ρ x = .slice A 0 c) (hy : ρ y = .slice B k c') (hq : qsl P t = some (e, sz, by_)) (hz : qzero P e = some zl)
    (ho : Own m w base A 0 c e sz []) (hs : Src w B k N) (hc' : B = none → c' = 0) (hk : N.length = k * sz) (h1 : N.all (·.oneCell') = true) (hbb : base ≤ w.heap.size) (hz2 : (zl.length == sz && decide (0 < sz)) = true)
    (hb1 : k ≤ maxLen) (hb2 : k * by_ ≤ 140737488355328)
    (h : ∀ A' c'' w', Own m w' base A' k c'' e sz N → Fr (ge base) m w m w' → K (.slice A' k c'') w') : opk P ρ ⟨dst, .call ⟨.builtin .append, #[x, y], #[t, t]⟩, ty, pos, af, g⟩ w K :=
  k_append ag hx hy hq hz ho hs hc' hk h1 hbb hz2 (by rw [Nat.zero_add]; exact hb1) (by rw [Nat.zero_add]; exact hb2)
    (fun A' c'' w' hO hF => by rw [Nat.zero_add] at hO ⊢; exact h A' c'' w' hO hF)
end
def bz (l : List Bool) : List Value := l.map .bool
theorem bz_length (l : List Bool) : (bz l).length = l.length := by simp [bz]
theorem bz_set {L : List Bool} {i : Nat} {x : Bool} : (bz L).set i (.bool x) = bz (L.set i x) := by simp [bz, List.map_set]
theorem one_bz (l : List Bool) : (bz l).all (·.oneCell') = true := by simp [bz, Value.oneCell']
theorem lt_bz {l : List Bool} {i n : Nat} (h : l.length = n) (hi : i < n) : i < (bz l).length := by rw [bz_length, h]; exact hi
theorem bz_get {L : List Bool} {n i : Nat} (hl : L.length = n) (hi : i < n) : (bz L)[i]? = some (.bool (L.getD i false)) := by
  subst hl
  simp [bz, List.getD, hi]
/-! ### Short forms: what can be reckoned is left to the kernel -/
section
variable {P : Program} {ops : Array Oper} {Q : Exit → Act → World → Prop} {a : Act} {L : List (Nat × Value)} {w : World} {rest : List Oper} {o : Oper} {d n j t i k fuel : Nat} {b : Bool} {listed : Array Bool} {S0 S1 : World → Prop} {v : Value}
theorem eb {p : Bool} (hB : a.tmps.size = n) (h : look n L t = some (.bool p)) (hp : p = b) : (ov a L).eval (.tmp t) = .bool b := by rw [← hp]; exact eh hB h
theorem mb {p : Bool} (hB : a.tmps.size = n) (h : L.lookup t = none) (ht : decide (t < n) = true) (hv : a.tmps.getD t undef = .bool p) (hp : p = b) : (ov a L).eval (.tmp t) = .bool b := by rw [← hp]; exact em hB h ht hv
theorem sg (hg : o.guard = some (j, b)) (hd : o.dst = some d) (hB : a.tmps.size = n) (hv : (ov a L).eval (.tmp t) = .bool b) (h : opk P (ov a L).eval o w (fun v w' => WL P ops Q rest (ov a ((d, v) :: L)) w'))
    (hj : (ops.toList[j]?).bind Oper.dst = some t := by kernel_rfl) (ht : decide (t < n) = true := by kernel_rfl) : WL P ops Q (o :: rest) (ov a L) w := sy (wanted_yes hg (yielded_o2 hB hj ht hv)) hd h
theorem sf {c : Bool} (hg : o.guard = some (j, b)) (hd : o.dst = some d) (hB : a.tmps.size = n) (hv : (ov a L).eval (.tmp t) = .bool c) (h : WL P ops Q rest (ov a ((d, undef) :: L)) w)
    (hne : (c == b) = false := by rfl) (hj : (ops.toList[j]?).bind Oper.dst = some t := by kernel_rfl) (ht : decide (t < n) = true := by kernel_rfl) : WL P ops Q (o :: rest) (ov a L) w := sn (wanted_no hg (yielded_o2 hB hj ht hv) hne) hd h
theorem wg (hg : o.guard = some (j, b)) (hB : a.tmps.size = n) (hv : (ov a L).eval (.tmp t) = .bool b) (hj : (ops.toList[j]?).bind Oper.dst = some t := by kernel_rfl) (ht : decide (t < n) = true := by kernel_rfl) :
    Region.wanted o (yielded ops (ov a L).tmps) = true := wanted_yes hg (yielded_o2 hB hj ht hv)
theorem wn {c : Bool} (hg : o.guard = some (j, b)) (hB : a.tmps.size = n) (hv : (ov a L).eval (.tmp t) = .bool c) (hne : (c == b) = false := by rfl) (hj : (ops.toList[j]?).bind Oper.dst = some t := by kernel_rfl)
    (ht : decide (t < n) = true := by kernel_rfl) : Region.wanted o (yielded ops (ov a L).tmps) = false := wanted_no hg (yielded_o2 hB hj ht hv) hne
theorem tkk (hi : ops[i]? = some o) (hd : o.dst = some d) (hy : ∀ w, S1 w → (execOp (ov a L).eval o).run P w = .ok (.value v) w) (hS : S1 w)
    (h : wpAnyT P ops Q (tb S1 S1) k fuel (listed.setIfInBounds i true) (ov a ((d, v) :: L)) w)
    (hw : Region.wanted o (yielded ops (ov a L).tmps) = true := by exact wanted_free rfl) (hs : Region.noSelect ops = true := by kernel_rfl) (hf : Region.free .any ops listed i = true := by kernel_rfl)
    (hr : (Region.ready .any ops listed).contains i = true := by kernel_rfl) (hQ : ∀ c a w, Q (.panic c) (a.put o.dst v) w → Q (.panic c) a w := by exact fun _ _ _ h => h)
    (hki : (k == i) = false := by rfl) : wpAnyT P ops Q (tb S1 S1) k (fuel + 1) listed (ov a L) w :=
  tk (b := listed.getD k true) hi hs hf hr (fun _ h => h) hQ hd hw hki rfl hy (by cases listed.getD k true <;> exact hS) h
theorem tk1 (hi : ops[i]? = some o) (hd : o.dst = some d) (hm : ∀ w, S0 w → S1 w) (hy : ∀ w, S1 w → (execOp (ov a L).eval o).run P w = .ok (.value v) w) (hS : tb S0 S1 b w)
    (h : wpAnyT P ops Q (tb S0 S1) k fuel (listed.setIfInBounds i true) (ov a ((d, v) :: L)) w)
    (hw : Region.wanted o (yielded ops (ov a L).tmps) = true := by exact wanted_free rfl) (hs : Region.noSelect ops = true := by kernel_rfl) (hf : Region.free .any ops listed i = true := by kernel_rfl)
    (hr : (Region.ready .any ops listed).contains i = true := by kernel_rfl) (hQ : ∀ c a w, Q (.panic c) (a.put o.dst v) w → Q (.panic c) a w := by exact fun _ _ _ h => h)
    (hki : (k == i) = false := by rfl) (hb : listed.getD k true = b := by kernel_rfl) : wpAnyT P ops Q (tb S0 S1) k (fuel + 1) listed (ov a L) w :=
  tk hi hs hf hr hm hQ hd hw hki hb hy hS h
theorem tk2 (hi : ops[i]? = some o) (hd : o.dst = some d) (hy : ∀ w, S0 w → (execOp (ov a L).eval o).run P w = .ok (.value v) w) (hS : S0 w)
    (h : wpAnyT P ops Q (tb S0 S1) k fuel (listed.setIfInBounds i true) (ov a ((d, v) :: L)) w)
    (hw : Region.wanted o (yielded ops (ov a L).tmps) = true := by exact wanted_free rfl) (hs : Region.noSelect ops = true := by kernel_rfl) (hf : Region.free .any ops listed i = true := by kernel_rfl)
    (hr : (Region.ready .any ops listed).contains i = true := by kernel_rfl) (hQ : ∀ c a w, Q (.panic c) (a.put o.dst v) w → Q (.panic c) a w := by exact fun _ _ _ h => h)
    (hki : (k == i) = false := by rfl) (hb : listed.getD k true = false := by kernel_rfl) (hwt : waits ops k i = true := by kernel_rfl) : wpAnyT P ops Q (tb S0 S1) k (fuel + 1) listed (ov a L) w :=
  tk0 hi hs hf hr hQ hd hw hki hb hwt hy hS h
theorem tnn (hi : ops[i]? = some o) (hd : o.dst = some d) (hm : ∀ w, S0 w → S1 w) (hw : Region.wanted o (yielded ops (ov a L).tmps) = false) (hS : tb S0 S1 b w)
    (h : wpAnyT P ops Q (tb S0 S1) k fuel (listed.setIfInBounds i true) (ov a ((d, undef) :: L)) w)
    (hs : Region.noSelect ops = true := by kernel_rfl) (hf : Region.free .any ops listed i = true := by kernel_rfl)
    (hr : (Region.ready .any ops listed).contains i = true := by kernel_rfl) (hQ : ∀ c a w, Q (.panic c) (a.put o.dst undef) w → Q (.panic c) a w := by exact fun _ _ _ h => h)
    (hki : (k == i) = false := by rfl) (hb : listed.getD k true = b := by kernel_rfl) : wpAnyT P ops Q (tb S0 S1) k (fuel + 1) listed (ov a L) w :=
  tn hi hs hf hr hm hQ hd hw hki hb hS h
theorem ann (hi : ops[i]? = some o) (hd : o.dst = some d) (h : opk P (ov a L).eval o w (fun v w' => tb S0 S1 b w' ∧ wpAnyT P ops Q (tb S0 S1) k fuel (listed.setIfInBounds i true) (ov a ((d, v) :: L)) w'))
    (hg : o.guard = none := by rfl) (hr : Region.ready .any ops listed = [i] := by kernel_rfl) (hb : (listed.setIfInBounds i true).getD k true = b := by kernel_rfl) : wpAnyT P ops Q (tb S0 S1) k (fuel + 1) listed (ov a L) w := an hi hr hg hd hb h
theorem an00 (hi : ops[i]? = some o) (hd : o.dst = none) (h : opk P (ov a L).eval o w (fun _ w' => tb S0 S1 b w' ∧ wpAnyT P ops Q (tb S0 S1) k fuel (listed.setIfInBounds i true) (ov a L) w'))
    (hg : o.guard = none := by rfl) (hr : Region.ready .any ops listed = [i] := by kernel_rfl) (hb : (listed.setIfInBounds i true).getD k true = b := by kernel_rfl) : wpAnyT P ops Q (tb S0 S1) k (fuel + 1) listed (ov a L) w := an0 hi hr hg hd hb h
theorem ayy (hi : ops[i]? = some o) (hd : o.dst = some d) (hw : Region.wanted o (yielded ops (ov a L).tmps) = true) (h : opk P (ov a L).eval o w (fun v w' => tb S0 S1 b w' ∧ wpAnyT P ops Q (tb S0 S1) k fuel (listed.setIfInBounds i true) (ov a ((d, v) :: L)) w'))
    (hr : Region.ready .any ops listed = [i] := by kernel_rfl) (hb : (listed.setIfInBounds i true).getD k true = b := by kernel_rfl) : wpAnyT P ops Q (tb S0 S1) k (fuel + 1) listed (ov a L) w := ay hi hr hw hd hb h
theorem sv {w1 : World} (hg : o.guard = none) (hd : o.dst = some d) (hr : (execOp (ov a L).eval o).run P w = .ok (.value v) w1) (h : WL P ops Q rest (ov a ((d, v) :: L)) w1) : WL P ops Q (o :: rest) (ov a L) w := st hg hd (kv hr h)
end
section
variable {P : Program} {ρ : Operand → Value} {w : World} {K : Value → World → Prop} {m : Ctx}
variable {dst : Option Tmp} {ty T U : TypeId} {pos : String} {af : Array Edge} {g : Option (Nat × Bool)} {x y : Operand} {v : Value}
theorem k_st {b off t : Nat} {L L' cs : List Value} (ag : Ag m w) (hx : ρ x = .pointer (some ⟨b, off, none⟩)) (hy : ρ y = v) (hm : Mu m w b T L) (hs : qsz P t = some cs.length)
    (h : ∀ w', Mu m w' b T L' → Fr (on b) m w m w' → K undef w') (hc : v.cells.toList = cs := by kernel_rfl) (h1 : cs.all (·.oneCell') = true := by kernel_rfl)
    (hl : off + cs.length ≤ L.length := by exact of_decide_eq_true (by kernel_rfl)) (hw : wrL L off cs = L' := by kernel_rfl) : opk P ρ ⟨dst, .store t x y, ty, pos, af, g⟩ w K := k_store ag hx hy hm hc hs h1 hl hw h
end
section
variable {P : Program} {ρ : Operand → Value} {w : World} {K : Value → World → Prop} {dst : Option Tmp} {ty : TypeId} {pos : String} {af : Array Edge} {g : Option (Nat × Bool)} {f : FuncId} {args : Array Operand} {at' : Array TypeId}
theorem k_cl {vs : List Value} {R : Value → World → Prop} (hc : Calls P f vs.toArray w (Ret R)) (hf : ρ (.func f) = .func (.func f) #[] #[]) (hq : qfn P f = true) (ha : args.toList.map ρ = vs)
    (h : ∀ v w', R v w' → K v w') : opk P ρ ⟨dst, .call ⟨.value (.func f), args, at'⟩, ty, pos, af, g⟩ w K := k_call hf hq ha hc h
end
theorem len_app {α : Type} {a b : List α} {n k : Nat} (h : a.length = n) (h2 : b.length = k) : (a ++ b).length = n + k := by rw [List.length_append, h, h2]
section
variable {P : Program} {ops : Array Oper} {Q : Exit → Act → World → Prop} {a : Act} {L : List (Nat × Value)} {w : World} {rest : List Oper} {o : Oper} {d n j t : Nat} {b : Bool}
theorem yielded_u (hB : a.tmps.size = n) (hj : (ops.toList[j]?).bind Oper.dst = some t) (ht : decide (t < n) = true) (hv : (ov a L).eval (.tmp t) = undef) : yielded ops (ov a L).tmps j = none := by
  have ht : t < n := by simpa using ht
  have hs : t < (ov a L).tmps.size := by rw [ov_size]; omega
  have hv : (ov a L).tmps.getD t undef = undef := hv
  have e : (ov a L).tmps[t]? = some undef := by
    rw [Array.getElem?_eq_getElem hs]
    rw [Array.getD_eq_getD_getElem?, Array.getElem?_eq_getElem hs] at hv
    simpa using hv
  unfold yielded
  rw [show ops[j]? = ops.toList[j]? by simp, hj]
  simp only [Option.bind_some, e]
  rfl
theorem wnu (hg : o.guard = some (j, b)) (hB : a.tmps.size = n) (hv : (ov a L).eval (.tmp t) = undef) (hj : (ops.toList[j]?).bind Oper.dst = some t := by kernel_rfl) (ht : decide (t < n) = true := by kernel_rfl) :
    Region.wanted o (yielded ops (ov a L).tmps) = false := by
  simp [Region.wanted, hg, yielded_u hB hj ht hv]
theorem sfu (hg : o.guard = some (j, b)) (hd : o.dst = some d) (hB : a.tmps.size = n) (hv : (ov a L).eval (.tmp t) = undef) (h : WL P ops Q rest (ov a ((d, undef) :: L)) w)
    (hj : (ops.toList[j]?).bind Oper.dst = some t := by kernel_rfl) (ht : decide (t < n) = true := by kernel_rfl) : WL P ops Q (o :: rest) (ov a L) w := sn (wnu hg hB hv hj ht) hd h
end
end Go.Proofs.YtiggfalelcepbaaGreatDoor

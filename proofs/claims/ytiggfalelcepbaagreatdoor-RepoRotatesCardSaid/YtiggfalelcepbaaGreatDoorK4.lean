/- Laws for single operations: new memory, stores, append, copy, conversions of strings, comparisons, calls. No program text. -/
import Derived.Test.YtiggfalelcepbaaGreatDoorK3
import Derived.Stop.BytesEq
import Derived.Laws.Pointers
import Derived.Laws.Cover3
import Derived.Lib.Strings
import Derived.WideShapes
namespace Go.Proofs.YtiggfalelcepbaaGreatDoor
open Go
/-- The row that a slice literal lays. -/
def qlit (P : Program) (t : TypeId) (len : Nat) (pv : List (Nat × Value)) : Option (TypeId × List Value) :=
  match P.underlying t with
  | some (.slice e) => (P.info? e).bind fun i =>
    if len * i.size > 2 ^ 24 then none
    else if len * i.size = 0 then (if pv.isEmpty then some (e, []) else none)
    else i.zero.bind fun z => (Instr.fill (fun k => some (k * i.size, i.size)) ((Array.range (len * i.size)).map (z.cells[· % z.cells.size]!)) pv).map fun cs => (e, cs.toList)
  | _ => none
def qfn (P : Program) (f : FuncId) : Bool := match P.funcs[f]? with | some fn => !(fn.name == "runtime.NumGoroutine") && fn.body.isSome | none => false
def ge (β : Nat) : Nat → Prop := fun b => β ≤ b
theorem oneCells_mem {cs : List Value} (h : cs.all (·.oneCell') = true) : ∀ v ∈ cs, v.oneCell' = true := fun v hv => List.all_eq_true.1 h v hv
theorem one_bv (l : Bytes) : (bv l).all (·.oneCell') = true := by simp [bv, Value.oneCell']
theorem one_hc (l : Bytes) : (hc l).all (·.oneCell') = true := rfl
theorem one_hcs (l : List Bytes) : (hcs l).all (·.oneCell') = true := by
  induction l with
  | nil => rfl
  | cons x l ih => simp only [hcs, List.flatMap_cons, List.all_append, one_hc, Bool.true_and] at *; exact ih
theorem one_us (l : List UInt32) : (us l).all (·.oneCell') = true := by simp [us, Value.oneCell']
theorem one_ns (l : List Nat) : (ns l).all (·.oneCell') = true := by simp [ns, Value.oneCell']
theorem str_inj {s t : ByteArray} : s.toList = t.toList ↔ s = t := by
  rw [Lib.toList_data, Lib.toList_data]
  exact ⟨WideShapes.bytes_inj, fun h => by rw [h]⟩
section
variable {P : Program} {ρ : Operand → Value} {w : World} {K : Value → World → Prop} {m : Ctx}
variable {dst : Option Tmp} {ty T : TypeId} {pos : String} {af : Array Edge} {g : Option (Nat × Bool)} {x y : Operand} {v : Value}
theorem k_alloc {L : List Value} (ag : Ag m w) (hq : qzero P T = some L)
    (h : ∀ w' b, Mu m w' b T L → Fr no m w m w' → w.heap.size ≤ b → K (.pointer (some ⟨b, 0, none⟩)) w') : opk P ρ ⟨dst, .alloc T, ty, pos, af, g⟩ w K := by
  unfold qzero at hq
  cases hi : P.info? T with
  | none => simp [hi] at hq
  | some i =>
    cases hz : i.zero with
    | none => simp [hi, hz] at hq
    | some z =>
      simp only [hi, hz, Option.bind_some, Option.map_some, Option.some.injEq] at hq
      have hr : (execOp ρ ⟨dst, .alloc T, ty, pos, af, g⟩).run P w = .ok (.value (.pointer (some ⟨w.heap.size, 0, none⟩))) (w.alloc (.cells L.toArray T)) := by
        subst hq
        simp [execOp, Instr.alloc, zeroValue, typeInfo, hi, hz, newVar, newRow]
      exact kv hr (h _ _ (Mu.alloc ag T L) (Fr.alloc ag _) (Nat.le_refl _))
theorem k_box {L : List Value} (ag : Ag m w) (hx : ρ x = v) (hL : v.cells.toList = L)
    (h : ∀ w' b, Mu m w' b T L → Fr no m w m w' → w.heap.size ≤ b → K (.pointer (some ⟨b, 0, none⟩)) w') : opk P ρ ⟨dst, .box T x, ty, pos, af, g⟩ w K := by
  have hr : (execOp ρ ⟨dst, .box T x, ty, pos, af, g⟩).run P w = .ok (.value (.pointer (some ⟨w.heap.size, 0, none⟩))) (w.alloc (.cells L.toArray T)) := by
    subst hL
    simp [execOp, hx, Instr.box, newVar, newRow]
  exact kv hr (h _ _ (Mu.alloc ag T L) (Fr.alloc ag _) (Nat.le_refl _))
theorem k_lit {len : Nat} {parts : Array (Nat × Operand)} {pv : List (Nat × Value)} {e : TypeId} {L : List Value} (ag : Ag m w)
    (hp : parts.toList.map (fun q => (q.1, ρ q.2)) = pv) (hq : qlit P T len pv = some (e, L))
    (h : ∀ w' b, Mu m w' b e L → Fr no m w m w' → w.heap.size ≤ b → K (.slice (some ⟨b, 0, none⟩) len len) w') : opk P ρ ⟨dst, .buildSlice T len parts, ty, pos, af, g⟩ w K := by
  have ep : (parts.map fun (i, x) => (i, ρ x)) = pv.toArray := by rw [← hp]; apply Array.toList_inj.1; simp
  have hr : (execOp ρ ⟨dst, .buildSlice T len parts, ty, pos, af, g⟩).run P w = .ok (.value (.slice (some ⟨w.heap.size, 0, none⟩) len len)) (w.alloc (.cells L.toArray e)) := by
    unfold qlit at hq
    cases hu : P.underlying T with
    | none => simp [hu] at hq
    | some d =>
      cases d <;> simp only [hu] at hq <;> try cases hq
      rename_i e'
      cases hi : P.info? e' with
      | none => simp [hi] at hq
      | some i =>
        simp only [hi, Option.bind_some] at hq
        split at hq
        · cases hq
        · rename_i hs
          split at hq
          · rename_i h0
            split at hq
            · rename_i hpv
              have hpv : pv = [] := by simpa using hpv
              subst hpv
              cases hq
              simp [execOp, ep, Instr.buildSlice, run_underlying hu, sizeOf, typeInfo, hi, h0, Instr.fill, newRow, Array.range_zero']
            · cases hq
          · rename_i h0
            cases hz : i.zero with
            | none => simp [hz] at hq
            | some z =>
              simp only [hz, Option.bind_some] at hq
              cases hf : Instr.fill (fun k => some (k * i.size, i.size)) ((Array.range (len * i.size)).map (z.cells[· % z.cells.size]!)) pv with
              | none => rw [hf] at hq; cases hq
              | some cs =>
                rw [hf] at hq
                cases hq
                have := run_buildSlice (P := P) w T _ len pv.toArray cs i z hu hi hz hs h0 (by simpa using hf)
                simp [execOp, ep, this]
  exact kv hr (h _ _ (Mu.alloc ag e L) (Fr.alloc ag _) (Nat.le_refl _))

/-! ### Stores -/
theorem wrL_length {L cs : List Value} {o : Nat} (h : o + cs.length ≤ L.length) : (wrL L o cs).length = L.length := by
  simp [wrL]; omega
theorem setRow_frame (w : World) (b : Nat) (L L' : List Value) (T : TypeId) (hm : Mu m w b T L) (ag : Ag m w) :
    Mu m (w.setRow b L'.toArray) b T L' ∧ Fr (on b) m w m (w.setRow b L'.toArray) := by
  refine ⟨⟨setRow_heap w b _ _ T _ hm.1, hm.2⟩, ⟨fun c X hc => ?_, fun _ _ h => h, by simp, fun c _ hn => ⟨setRow_other w b c _ hn, rfl⟩, rfl, rfl, rfl⟩⟩
  have hne : c ≠ b := hm.no hc
  obtain ⟨T', fr, hb⟩ := ag c X hc
  exact ⟨T', fr, (setRow_other w b c _ hne).trans hb⟩
theorem k_store {b off t : Nat} {L L' cs : List Value} (ag : Ag m w) (hx : ρ x = .pointer (some ⟨b, off, none⟩)) (hy : ρ y = v) (hm : Mu m w b T L)
    (hc : v.cells.toList = cs) (hs : qsz P t = some cs.length) (h1 : cs.all (·.oneCell') = true) (hl : off + cs.length ≤ L.length) (hw : wrL L off cs = L')
    (h : ∀ w', Mu m w' b T L' → Fr (on b) m w m w' → K undef w') : opk P ρ ⟨dst, .store t x y, ty, pos, af, g⟩ w K := by
  have hst := run_storeCells_at P b off T cs 0 L.toArray w hm.1 (by simpa using hl) (oneCells_mem h1)
  simp only [Nat.add_zero] at hst
  unfold qsz at hs
  cases hi : P.info? t with
  | none => simp [hi] at hs
  | some i =>
    have hsz : v.cells.size = i.size := by
      simp only [hi, Option.map_some, Option.some.injEq] at hs
      rw [hs, ← hc]; simp
    have hr : (execOp ρ ⟨dst, .store t x y, ty, pos, af, g⟩).run P w = .ok .skip (w.setRow b L'.toArray) := by
      have e : (L.toArray.toList.take off ++ cs ++ L.toArray.toList.drop (off + cs.length)) = L' := by rw [← hw]; simp [wrL]
      rw [e] at hst
      rw [← hc] at hst
      simp [execOp, hx, hy, Instr.storeAt, Instr.sureAddr, storeVar, sizeOf, typeInfo, hi, hsz, hst]
    obtain ⟨f1, f2⟩ := setRow_frame w b L L' T hm ag
    exact ks hr (h _ f1 f2)
theorem wrL_one (L : List Value) (o : Nat) (v : Value) (h : o < L.length) : wrL L o [v] = L.set o v := by
  unfold wrL
  rw [List.set_eq_take_append_cons_drop, if_pos h]
  rfl
/-- One cell, at a place that is reckoned. -/
theorem k_store1 {b off t : Nat} {L L' : List Value} (ag : Ag m w) (hx : ρ x = .pointer (some ⟨b, off, none⟩)) (hy : ρ y = v) (hm : Mu m w b T L)
    (hs : qsz P t = some 1) (h1 : v.oneCell' = true) (hl : off < L.length) (hw : L.set off v = L')
    (h : ∀ w', Mu m w' b T L' → Fr (on b) m w m w' → K undef w') : opk P ρ ⟨dst, .store t x y, ty, pos, af, g⟩ w K := by
  have hc : v.cells.toList = [v] := by cases v <;> first | rfl | cases h1
  exact k_store ag hx hy hm hc hs (by simp [h1]) (by simp only [List.length_cons, List.length_nil]; omega) (by rw [wrL_one _ _ _ hl]; exact hw) h

/-! ### append, copy -/
theorem grown_own {base e n k c sz : Nat} {L N : List Value} {z : Value} (ag : Ag m w) (hzs : z.cells.size = sz) (hL : L.length = n * sz) (hN : N.length = k * sz) (hb1 : n + k ≤ maxLen) (hb : base ≤ w.heap.size) :
    Own m (w.drew.alloc (.cells (L.toArray ++ N.toArray ++ Builtin.zeroCells z.cells (grownCap w (n + k) c e - (n + k))) e)) base (some ⟨w.heap.size, 0, none⟩) (n + k) (grownCap w (n + k) c e) e sz (L ++ N) ∧
    Fr no m w m (w.drew.alloc (.cells (L.toArray ++ N.toArray ++ Builtin.zeroCells z.cells (grownCap w (n + k) c e - (n + k))) e)) := by
  have hcap := grownCap_ge w (n + k) c e
  have hcm := grownCap_le_maxLen w (n + k) c e hb1
  have hlen : (L ++ N).length = (n + k) * sz := by rw [List.length_append, hL, hN, Nat.add_mul]
  refine ⟨⟨hlen, hcap, hcm, .inr ⟨w.heap.size, (L.toArray ++ N.toArray ++ Builtin.zeroCells z.cells (grownCap w (n + k) c e - (n + k))).toList, rfl, hb, ⟨heap_alloc_new w.drew _, ag.new (Nat.le_refl _)⟩, ?_, ?_⟩⟩, ?_⟩
  · have hz : (Builtin.zeroCells z.cells (grownCap w (n + k) c e - (n + k))).toList.length = (grownCap w (n + k) c e - (n + k)) * sz := by rw [Array.length_toList, size_zeroCells, hzs]
    simp only [Array.toList_append, List.length_append, hz, hL, hN]
    rw [← Nat.add_mul, ← Nat.add_mul]; congr 1; omega
  · simp only [Array.toList_append]
    rw [← hlen]; exact List.take_left
  · exact (Fr.drw ag (S := no)).t0 (Fr.alloc (w := w.drew) (show Ag m w.drew from ag) _)
theorem append_run {base : Nat} {t e n k c c' sz by_ : Nat} {A B : Option Addr} {L N zl : List Value} (ag : Ag m w) (hq : qsl P t = some (e, sz, by_)) (hz : qzero P e = some zl) (hzl : zl.length = sz) (hsz : 0 < sz)
    (ho : Own m w base A n c e sz L) (hs : Src w B k N) (hk : N.length = k * sz) (h1 : N.all (·.oneCell') = true) (hb1 : n + k ≤ maxLen) (hb2 : (n + k) * by_ ≤ 140737488355328) (hb : base ≤ w.heap.size) (hc' : B = none → c' = 0) :
    ∃ A' c'' w', (Builtin.append_ #[t, t] ty #[.slice A n c, .slice B k c']).run P w = .ok (.slice A' (n + k) c'') w' ∧ Own m w' base A' (n + k) c'' e sz (L ++ N) ∧ Fr (onA A) m w m w' := by
  unfold qsl at hq
  cases hu : P.underlying t with
  | none => simp [hu] at hq
  | some d =>
    cases d <;> simp only [hu] at hq <;> try cases hq
    rename_i e'
    cases hi : P.info? e' with
    | none => simp [hi] at hq
    | some i =>
      simp only [hi, Option.map_some, Option.some.injEq, Prod.mk.injEq] at hq
      obtain ⟨rfl, rfl, rfl⟩ := hq
      rcases hs with ⟨rfl, rfl, rfl⟩ | ⟨a, rfl, hsrc⟩
      · obtain rfl := hc' rfl
        have hr := run_append_owned_none (P := P) w base t ty e' i i.size hu hi _ n L ho.row
        exact ⟨A, c, w, hr, by simpa using ho, Fr.refl ag⟩
      · unfold qzero at hz
        cases hzz : i.zero with
        | none => simp [hi, hzz] at hz
        | some z =>
          simp only [hi, hzz, Option.bind_some, Option.map_some, Option.some.injEq] at hz
          have hzs : z.cells.size = i.size := by rw [← hzl, ← hz]; simp
          rcases ho.2.2.2 with ⟨rfl, rfl, rfl⟩ | ⟨g0, cur, rfl, hb0, hm0, hcc, htt⟩
          · have hL0 : L = [] := List.eq_nil_of_length_eq_zero (by simpa using ho.1)
            subst hL0
            by_cases hk0 : k = 0
            · subst hk0
              have hN : N = [] := List.eq_nil_of_length_eq_zero (by simpa using hk)
              subst hN
              have h2 : (Builtin.append_ #[t, t] ty #[.slice none 0 0, .slice (some a) 0 c']).run P w = .ok (.slice none 0 0) w := by
                simp [Builtin.append_, run_underlying hu, sizeOf, typeInfo, hi, Builtin.lenOf, Builtin.firstCells, loadCells, loadCellsFrom]
              exact ⟨none, 0, w, h2, by simpa using ho, Fr.refl ag⟩
            · have h2 := run_append_nil (P := P) w t ty e' i z hu hi hzz a k c' N hk hsrc (by omega) (by rw [maxLen_eq] at hb1; omega) (by simp only [Nat.zero_add] at hb2; omega)
              obtain ⟨h3, h4⟩ := grown_own (m := m) (w := w) (base := base) (e := e') (n := 0) (k := k) (c := 0) (L := []) (N := N) (z := z) ag hzs (by simp) hk hb1 hb
              simp only [Nat.zero_add, List.nil_append, Array.empty_append] at h3 h4 ⊢
              exact ⟨_, _, _, h2, h3, h4.wk fun _ h _ => h.elim⟩
          · by_cases hroom : n + k ≤ c
            · have hfit : n * i.size + N.length ≤ cur.toArray.size := by rw [hk, ← Nat.add_mul]; simp only [List.size_toArray, hcc]; exact Nat.mul_le_mul_right _ hroom
              have h2 := run_append_room (P := P) w t ty e' i hu hi g0 n c cur.toArray hm0.1 a k c' N hk hsrc (oneCells_mem h1) hroom hfit
              obtain ⟨f1, f2⟩ := setRow_frame w g0 cur (cur.take (n * i.size) ++ N ++ cur.drop (n * i.size + N.length)) e' hm0 ag
              have hlen : (L ++ N).length = (n + k) * i.size := by rw [List.length_append, ho.1, hk, Nat.add_mul]
              refine ⟨_, _, _, h2, ⟨hlen, hroom, ho.2.2.1, .inr ⟨g0, _, rfl, hb0, f1, ?_, ?_⟩⟩, f2.wk fun x hx _ => ⟨_, rfl, hx.symm⟩⟩
              · simp only [List.size_toArray] at hfit
                simp only [List.length_append, List.length_take, List.length_drop]
                omega
              · rw [htt, ← hlen]; exact List.take_left
            · have holds : ∀ j u, L[j]? = some u → w.cell? ((⟨g0, 0, none⟩ : Addr).add j) = some u := ho.row.cells (g := g0) rfl
              have h2 := run_append_grow (P := P) w t ty e' i z hu hi hzz ⟨g0, 0, none⟩ n c L ho.1 holds a k c' N hk hsrc (by omega) (by rw [maxLen_eq] at hb1; omega) (growslice_fits (by omega) hb2)
              obtain ⟨h3, h4⟩ := grown_own (m := m) (w := w) (base := base) (e := e') (n := n) (k := k) (c := c) (L := L) (N := N) (z := z) ag hzs ho.1 hk hb1 hb
              exact ⟨_, _, _, h2, h3, h4.wk fun _ h _ => h.elim⟩
theorem k_append {base : Nat} {t e n k c c' sz by_ : Nat} {A B : Option Addr} {L N zl : List Value} (ag : Ag m w) (hx : ρ x = .slice A n c) (hy : ρ y = .slice B k c') (hq : qsl P t = some (e, sz, by_)) (hz : qzero P e = some zl)
    (ho : Own m w base A n c e sz L) (hs : Src w B k N) (hc' : B = none → c' = 0) (hk : N.length = k * sz) (h1 : N.all (·.oneCell') = true) (hbb : base ≤ w.heap.size) (hz2 : (zl.length == sz && decide (0 < sz)) = true)
    (hb1 : n + k ≤ maxLen) (hb2 : (n + k) * by_ ≤ 140737488355328)
    (h : ∀ A' c'' w', Own m w' base A' (n + k) c'' e sz (L ++ N) → Fr (ge base) m w m w' → K (.slice A' (n + k) c'') w') : opk P ρ ⟨dst, .call ⟨.builtin .append, #[x, y], #[t, t]⟩, ty, pos, af, g⟩ w K := by
  simp only [Bool.and_eq_true, beq_iff_eq, decide_eq_true_eq] at hz2
  obtain ⟨A', c'', w', hr, hO, hF⟩ := append_run (ty := ty) ag hq hz hz2.1 hz2.2 ho hs hk h1 hb1 hb2 hbb hc'
  have hr' : (execOp ρ ⟨dst, .call ⟨.builtin .append, #[x, y], #[t, t]⟩, ty, pos, af, g⟩).run P w = .ok (.value (.slice A' (n + k) c'')) w' := by
    simp [execOp, resolve, invoke, builtin, hx, hy, hr]
  exact kv hr' (h _ _ _ hO (hF.wk fun b hb _ => ho.at b hb))
/-- An append to what is full: a row of its own. -/
theorem k_appgrow {t e n k c c' sz by_ : Nat} {a b : Addr} {L N zl : List Value} (ag : Ag m w) (hx : ρ x = .slice (some a) n c) (hy : ρ y = .slice (some b) k c') (hq : qsl P t = some (e, sz, by_)) (hz : qzero P e = some zl)
    (hd : Src w (some a) n L) (hL : L.length = n * sz) (hs : Src w (some b) k N) (hk : N.length = k * sz) (hz2 : (zl.length == sz && decide (0 < sz)) = true) (hgr : c < n + k)
    (hb1 : n + k ≤ maxLen) (hb2 : (n + k) * by_ ≤ 140737488355328)
    (h : ∀ A' c'' w', Own m w' w.heap.size A' (n + k) c'' e sz (L ++ N) → Fr no m w m w' → K (.slice A' (n + k) c'') w') : opk P ρ ⟨dst, .call ⟨.builtin .append, #[x, y], #[t, t]⟩, ty, pos, af, g⟩ w K := by
  simp only [Bool.and_eq_true, beq_iff_eq, decide_eq_true_eq] at hz2
  unfold qsl at hq
  cases hu : P.underlying t with
  | none => simp [hu] at hq
  | some d =>
    cases d <;> simp only [hu] at hq <;> try cases hq
    rename_i e'
    cases hi : P.info? e' with
    | none => simp [hi] at hq
    | some i =>
      simp only [hi, Option.map_some, Option.some.injEq, Prod.mk.injEq] at hq
      obtain ⟨rfl, rfl, rfl⟩ := hq
      unfold qzero at hz
      cases hzz : i.zero with
      | none => simp [hi, hzz] at hz
      | some z =>
        simp only [hi, hzz, Option.bind_some, Option.map_some, Option.some.injEq] at hz
        have hzs : z.cells.size = i.size := by rw [← hz2.1, ← hz]; simp
        rcases hd with ⟨h0, _⟩ | ⟨a0, h0, holds⟩
        · cases h0
        cases h0
        rcases hs with ⟨h0, _⟩ | ⟨b0, h0, hsrc⟩
        · cases h0
        cases h0
        have hr := run_append_grow (P := P) w t ty e' i z hu hi hzz a n c L hL holds b k c' N hk hsrc hgr (by rw [maxLen_eq] at hb1; omega) (growslice_fits hgr hb2)
        obtain ⟨h3, h4⟩ := grown_own (m := m) (w := w) (base := w.heap.size) (e := e') (n := n) (k := k) (c := c) (L := L) (N := N) (z := z) ag hzs hL hk hb1 (Nat.le_refl _)
        have hrr : (execOp ρ ⟨dst, .call ⟨.builtin .append, #[x, y], #[t, t]⟩, ty, pos, af, g⟩).run P w = .ok (.value (.slice (some ⟨w.heap.size, 0, none⟩) (n + k) (grownCap w (n + k) c e')))
            (w.drew.alloc (.cells (L.toArray ++ N.toArray ++ Builtin.zeroCells z.cells (grownCap w (n + k) c e' - (n + k))) e')) := by
          simp only [execOp, resolve, invoke, builtin, hx, hy, Sem.run_bind, Sem.run_pure, Result.andThen_ok, List.map_toArray, List.map_cons, List.map_nil, hr]
        exact kv hrr (h _ _ _ h3 h4)
/-- A copy into a variable's cells. -/
theorem k_copy {b o dL dc t e by_ k c' n : Nat} {B : Option Addr} {L L' N : List Value} (ag : Ag m w) (hx : ρ x = .slice (some ⟨b, o, none⟩) dL dc) (hy : ρ y = .slice B k c') (hq : qsl P t = some (e, 1, by_))
    (hm : Mu m w b T L) (hs : Src w B k N) (hk : N.length = k) (h1 : N.all (·.oneCell') = true) (hn : min k dL = n) (hl : o + n ≤ L.length) (hw : wrL L o (N.take n) = L')
    (h : ∀ w', Mu m w' b T L' → Fr (on b) m w m w' → K (nn n) w') : opk P ρ ⟨dst, .call ⟨.builtin .copy, #[x, y], #[t, t]⟩, ty, pos, af, g⟩ w K := by
  unfold qsl at hq
  cases hu : P.underlying t with
  | none => simp [hu] at hq
  | some d =>
    cases d <;> simp only [hu] at hq <;> try cases hq
    rename_i e'
    cases hi : P.info? e' with
    | none => simp [hi] at hq
    | some i =>
      simp only [hi, Option.map_some, Option.some.injEq, Prod.mk.injEq] at hq
      obtain ⟨rfl, hsz, rfl⟩ := hq
      obtain ⟨f1, f2⟩ := setRow_frame w b L L' T hm ag
      rcases hs with ⟨rfl, rfl, rfl⟩ | ⟨a, rfl, hsrc⟩
      · have hn0 : n = 0 := by rw [← hn]; simp
        subst hn0
        have hL' : L' = L := by rw [← hw]; simp [wrL]
        subst hL'
        have hr := run_copy_none (P := P) w t t ty e' (some ⟨b, o, none⟩) none dL dc 0 c' hu (by simp [hi, hsz]) (by simp)
        have hrr : (execOp ρ ⟨dst, .call ⟨.builtin .copy, #[x, y], #[t, t]⟩, ty, pos, af, g⟩).run P w = .ok (.value (nn 0)) w := by
          simp [execOp, resolve, invoke, builtin, hx, hy, hr, goInt]
        exact kv hrr (h _ hm (Fr.refl ag))
      · have hl2 : (N.take n).length = n := by simp; omega
        have hr := run_copy_row (P := P) w t t ty e' b o dL dc a k c' L.toArray T (N.take n) hu (by simp [hi, hsz]) hm.1 (by rw [hl2, ← hn])
          (fun j u hj => hsrc j u (by rw [List.getElem?_take] at hj; split at hj; exact hj; cases hj)) (by rw [hl2]; simpa using hl)
          (fun u hu => oneCells_mem h1 u (List.mem_of_mem_take hu))
        have e : (L.toArray.toList.take o ++ N.take n ++ L.toArray.toList.drop (o + (N.take n).length)) = L' := by rw [← hw]; simp [wrL]
        rw [e, hl2] at hr
        have hrr : (execOp ρ ⟨dst, .call ⟨.builtin .copy, #[x, y], #[t, t]⟩, ty, pos, af, g⟩).run P w = .ok (.value (nn n)) (w.setRow b L'.toArray) := by
          simp [execOp, resolve, invoke, builtin, hx, hy, hr, goInt]
        exact kv hrr (h _ f1 f2)

/-! ### Strings -/
theorem k_s2b {src dt e : TypeId} {s : ByteArray} {d : TypeDesc} (ag : Ag m w) (hx : ρ x = .string s) (hs : qund P src = some d) (hd : qund P dt = some (.slice e)) (he : qund P e = some (.int .u8)) (hl : s.size ≤ maxLen)
    (h : ∀ m' w' A c, Sl m' A s.size c 1 (bv s.data.toList) → Fr no m w m' w' → K (.slice A s.size c) w') : opk P ρ ⟨dst, .convert src dt x, ty, pos, af, g⟩ w K := by
  have hr := Lib.run_convert_string_bytes (P := P) w src dt e s hs hd he
  have hrr : (execOp ρ ⟨dst, .convert src dt x, ty, pos, af, g⟩).run P w = .ok (.value (.slice (some ⟨w.heap.size, 0, none⟩) s.size (grownCap w s.size 0 e))) (Lib.bytesWorld w e s) := by
    simp [execOp, hx, hr]
  have hsz := Lib.bytesWorld_size w e s
  have hcap := grownCap_ge w s.size 0 e
  refine kv hrr (h (cput m w.heap.size (Lib.bytesCells w e s).toList) _ _ _ ⟨by simp [bv_length], hcap, grownCap_le_maxLen w s.size 0 e hl, .inr ⟨w.heap.size, 0, (Lib.bytesCells w e s).toList, rfl, by simp [cput], ?_⟩⟩ ?_)
  · unfold rdL Lib.bytesCells bv
    simp only [List.drop_zero, Nat.mul_one, Array.toList_append, Array.toList_map]
    rw [List.take_left' (by simp)]
  · refine ⟨fun b L hb => ?_, fun b L hb => ?_, by omega, fun b hb _ => ⟨Lib.bytesWorld_at_old w e s b hb, ?_⟩, rfl, rfl, rfl⟩
    · unfold cput at hb
      split at hb
      · rename_i e1; subst e1; cases hb
        exact ⟨e, _, Lib.bytesWorld_at_new w e s⟩
      · obtain ⟨T', fr, hb'⟩ := ag b L hb
        exact ⟨T', fr, (Lib.bytesWorld_at_old w e s b (lt_of_some hb')).trans hb'⟩
    · unfold cput; rw [if_neg (by have := ag.lt hb; omega)]; exact hb
    · unfold cput; rw [if_neg (by omega)]
theorem foldl_push (l : Bytes) (s : ByteArray) : (l.map fun c => (c.toNat : Int)).foldl (fun r n => r.push (UInt8.ofNat n.toNat)) s = ⟨s.data ++ l.toArray⟩ := by
  induction l generalizing s with
  | nil => cases s; simp
  | cons c l ih =>
    rw [List.map_cons, List.foldl_cons, ih]
    congr 1
    apply Array.toList_inj.1
    simp [ByteArray.push]
theorem r_b2s {src dt e n c : Nat} {A : Option Addr} {l : Bytes} (hx : ρ x = .slice A n c) (hs : qund P src = some (.slice e)) (he : qund P e = some (.int .u8)) (hd : qund P dt = some .string)
    (hsrc : Src w A n (bv l)) (hl : l.length = n) : (execOp ρ ⟨dst, .convert src dt x, ty, pos, af, g⟩).run P w = .ok (.value (.string ⟨l.toArray⟩)) w := by
  have h1 := run_convert_bytes_string (P := P) w src dt e A n c hs he hd
  rcases hsrc with ⟨rfl, rfl, hN⟩ | ⟨a, rfl, hsrc⟩
  · have : l = [] := by simpa using hl
    subst this
    simp only [execOp, hx, h1, Conv.bytesToString, Sem.run_bind, Sem.run_pure, Result.andThen_ok]; rfl
  · have h2 := run_bytesToString (P := P) w a n c (l.map fun c => (c.toNat : Int)) (by
      have := run_loadCells_list (P := P) w a (bv l) hsrc
      rw [bv_length, hl] at this
      rw [this]; simp [bv])
    rw [foldl_push] at h2
    have e0 : ByteArray.empty.data ++ l.toArray = l.toArray := Array.empty_append
    rw [e0] at h2
    simp only [execOp, hx, h1, h2, Sem.run_bind, Sem.run_pure, Result.andThen_ok]

/-! ### Comparisons -/
theorem r_eqlStr {T U : TypeId} {s t : ByteArray} (hx : ρ x = .string s) (hy : ρ y = .string t) : (execOp ρ ⟨dst, .binOp .eql T x y U, ty, pos, af, g⟩).run P w = .ok (.value (.bool (decide (s = t)))) w := by
  have e : (s.toList == t.toList) = decide (s = t) := by rw [Bool.eq_iff_iff]; simp [str_inj]
  simp [execOp, hx, hy, eqGuard, binOp, Op.stringOp, e]
theorem r_neqStr {T U : TypeId} {s t : ByteArray} (hx : ρ x = .string s) (hy : ρ y = .string t) : (execOp ρ ⟨dst, .binOp .neq T x y U, ty, pos, af, g⟩).run P w = .ok (.value (.bool (decide (s ≠ t)))) w := by
  have e : (s.toList == t.toList) = decide (s = t) := by rw [Bool.eq_iff_iff]; simp [str_inj]
  simp [execOp, hx, hy, eqGuard, binOp, Op.stringOp, e]
theorem r_eqlNil {T U e : TypeId} {p : Option Addr} (hx : ρ x = .pointer p) (hy : ρ y = .pointer none) (hq : qund P T = some (.pointer e)) : (execOp ρ ⟨dst, .binOp .eql T x y U, ty, pos, af, g⟩).run P w = .ok (.value (.bool p.isNone)) w := by
  unfold qund at hq
  have h : (Op.equal T (.pointer p) (.pointer none)).run P w = .ok p.isNone w := by
    unfold Op.equal Op.maxDepth Op.equalIn
    simp only [Sem.run_bind, run_underlying hq, Result.andThen_ok]
    cases p <;> rfl
  simp only [execOp, hx, hy, eqGuard, binOp, Sem.run_bind, h, Sem.run_pure, Result.andThen_ok]
  simp [h]
theorem r_neqNil {T U e : TypeId} {p : Option Addr} (hx : ρ x = .pointer p) (hy : ρ y = .pointer none) (hq : qund P T = some (.pointer e)) : (execOp ρ ⟨dst, .binOp .neq T x y U, ty, pos, af, g⟩).run P w = .ok (.value (.bool (!p.isNone))) w := by
  unfold qund at hq
  have h : (Op.equal T (.pointer p) (.pointer none)).run P w = .ok p.isNone w := by
    unfold Op.equal Op.maxDepth Op.equalIn
    simp only [Sem.run_bind, run_underlying hq, Result.andThen_ok]
    cases p <;> rfl
  simp only [execOp, hx, hy, eqGuard, binOp, Sem.run_bind, h, Sem.run_pure, Result.andThen_ok]
  simp [h]
theorem r_eqlSNil {T U e : TypeId} {A : Option Addr} {n c : Nat} (hx : ρ x = .slice A n c) (hy : ρ y = .slice none 0 0) (hq : qund P T = some (.slice e)) : (execOp ρ ⟨dst, .binOp .eql T x y U, ty, pos, af, g⟩).run P w = .ok (.value (.bool A.isNone)) w := by
  unfold qund at hq
  have h : (Op.equal T (.slice A n c) (.slice none 0 0)).run P w = .ok A.isNone w := by
    unfold Op.equal Op.maxDepth Op.equalIn
    simp only [Sem.run_bind, run_underlying hq, Result.andThen_ok]
    cases A <;> rfl
  simp only [execOp, hx, hy, eqGuard, binOp, Sem.run_bind, h, Sem.run_pure, Result.andThen_ok]
  simp [h]
/-- An array of 32 bytes. -/
def qhash (P : Program) (t : TypeId) : Bool :=
  match P.underlying t with
  | some (.array n e) => n == 32 && (match P.underlying e with | some (.int .u8) => true | _ => false) && (match P.info? e with | some i => i.size == 1 | _ => false) && !(P.eqGuardType P.depth t)
  | _ => false
theorem qhash_spec {t : TypeId} (h : qhash P t = true) : ∃ e, P.underlying t = some (.array 32 e) ∧ P.underlying e = some (.int .u8) ∧ (∀ w, (sizeOf e).run P w = .ok 1 w) ∧ P.eqGuardType P.depth t = false := by
  unfold qhash at h
  split at h
  · rename_i n e hu
    simp only [Bool.and_eq_true, beq_iff_eq, Bool.not_eq_true'] at h
    obtain ⟨⟨⟨rfl, h2⟩, h3⟩, h4⟩ := h
    refine ⟨e, hu, ?_, ?_, h4⟩
    · split at h2
      · rename_i h; exact h
      · cases h2
    · intro w
      split at h3
      · rename_i i hi
        have : i.size = 1 := by simpa using h3
        simp [sizeOf, typeInfo, hi, this]
      · cases h3
  · cases h
theorem hash_eq {t : TypeId} {a b : Bytes} (ha : a.length = 32) (hb : b.length = 32) (hq : qhash P t = true) (w : World) :
    (Op.equal t (H a) (H b)).run P w = .ok (decide (a = b)) w := by
  obtain ⟨e, hu, he, hsz, _⟩ := qhash_spec hq
  have h := run_equalIn_bytes (P := P) w 9998 t e 32 hu he hsz a b ha hb
  have e1 : (hc a) = a.map Extern.Stop.cell := by rw [hc_eq ha]; rfl
  have e2 : (hc b) = b.map Extern.Stop.cell := by rw [hc_eq hb]; rfl
  have e3 : (a == b) = decide (a = b) := by rw [Bool.eq_iff_iff]; simp
  show (Op.equalIn 10000 t (.agg (hc a).toArray) (.agg (hc b).toArray)).run P w = _
  rw [e1, e2, h, e3]
theorem r_eqlH {T U : TypeId} {a b : Bytes} (hx : ρ x = H a) (hy : ρ y = H b) (ha : a.length = 32) (hb : b.length = 32) (hq : qhash P T = true) :
    (execOp ρ ⟨dst, .binOp .eql T x y U, ty, pos, af, g⟩).run P w = .ok (.value (.bool (decide (a = b)))) w := by
  obtain ⟨e, _, _, _, hg⟩ := qhash_spec hq
  have := hash_eq ha hb hq w
  simp [execOp, hx, hy, eqGuard, binOp, hg, this]
theorem r_neqH {T U : TypeId} {a b : Bytes} (hx : ρ x = H a) (hy : ρ y = H b) (ha : a.length = 32) (hb : b.length = 32) (hq : qhash P T = true) :
    (execOp ρ ⟨dst, .binOp .neq T x y U, ty, pos, af, g⟩).run P w = .ok (.value (.bool (decide (a ≠ b)))) w := by
  obtain ⟨e, _, _, _, hg⟩ := qhash_spec hq
  have := hash_eq ha hb hq w
  simp [execOp, hx, hy, eqGuard, binOp, hg, this]

/-! ### Calls -/
theorem qfn_spec {f : FuncId} (h : qfn P f = true) : ∃ fn, P.funcs[f]? = some fn ∧ (fn.name == "runtime.NumGoroutine") = false ∧ fn.body.isNone = false := by
  unfold qfn at h
  split at h
  · rename_i fn hf
    simp only [Bool.and_eq_true, Bool.not_eq_true'] at h
    exact ⟨fn, hf, h.1, by cases hb : fn.body <;> simp_all⟩
  · cases h
theorem callFunc_run {f : FuncId} (h : qfn P f = true) (args : Array Value) : (callFunc f args).run P w = .ok (.enter f args) w := by
  obtain ⟨fn, hf, hn, hb⟩ := qfn_spec h
  simp only [callFunc, Sem.run_bind, run_program, Result.andThen_ok, hf, hn, hb, Bool.false_eq_true, if_false, Sem.run_pure]
theorem k_call {f : FuncId} {args : Array Operand} {at' : Array TypeId} {vs : List Value} {R : Value → World → Prop} (hf : ρ (.func f) = .func (.func f) #[] #[]) (hq : qfn P f = true) (ha : args.toList.map ρ = vs)
    (hc : Calls P f vs.toArray w (Ret R)) (h : ∀ v w', R v w' → K v w') : opk P ρ ⟨dst, .call ⟨.value (.func f), args, at'⟩, ty, pos, af, g⟩ w K := by
  have e : args.map ρ = vs.toArray := by rw [← ha]; apply Array.toList_inj.1; simp
  refine .inr (.inr ⟨f, vs.toArray, w, ?_, hc.mono fun en w' ⟨v, he, hr⟩ => ⟨v, he, h v w' hr⟩⟩)
  have := callFunc_run (w := w) hq vs.toArray
  simp [execOp, resolve, Deferred.ofValue, hf, invoke, e, this]
theorem k_callv {f : FuncId} {args : Array Operand} {at' : Array TypeId} {c : Operand} {fv cv vs : List Value} {R : Value → World → Prop} (hf : ρ c = .func (.func f) fv.toArray cv.toArray) (hq : qfn P f = true) (ha : args.toList.map ρ = vs)
    (hc : Calls P f (fv ++ vs ++ cv).toArray w (Ret R)) (h : ∀ v w', R v w' → K v w') : opk P ρ ⟨dst, .call ⟨.value c, args, at'⟩, ty, pos, af, g⟩ w K := by
  have e : args.map ρ = vs.toArray := by rw [← ha]; apply Array.toList_inj.1; simp
  refine .inr (.inr ⟨f, (fv ++ vs ++ cv).toArray, w, ?_, hc.mono fun en w' ⟨v, he, hr⟩ => ⟨v, he, h v w' hr⟩⟩)
  have := callFunc_run (w := w) hq (fv ++ vs ++ cv).toArray
  have e2 : fv.toArray ++ vs.toArray ++ cv.toArray = (fv ++ vs ++ cv).toArray := by simp
  simp only [execOp, resolve, Deferred.ofValue, hf, invoke, e, e2, this, Sem.run_bind, Sem.run_pure, Result.andThen_ok]
end
/-! ### Elements, parts of slices -/
theorem us_get {L : List UInt32} {n i : Nat} (hl : L.length = n) (hi : i < n) : (us L)[i]? = some (u32 (L.getD i 0)) := by
  have h : i < L.length := by omega
  simp [us, List.getD, h]
theorem ns_get {L : List Nat} {n i : Nat} (hl : L.length = n) (hi : i < n) : (ns L)[i]? = some (nn (L.getD i 0)) := by
  have h : i < L.length := by omega
  simp [ns, List.getD, h]
theorem bv_get {L : Bytes} {n i : Nat} (hl : L.length = n) (hi : i < n) : (bv L)[i]? = some (u8 (L.getD i 0)) := by
  have h : i < L.length := by omega
  simp [bv, List.getD, h]
theorem hc_get {l : Bytes} {i : Nat} (hi : i < 32) : (hc l)[i]? = some (u8 (l.getD i 0)) := by
  simp [hc, hi]
theorem us_set {L : List UInt32} {i : Nat} {x : UInt32} : (us L).set i (u32 x) = us (L.set i x) := by simp [us, List.map_set]
theorem ns_set {L : List Nat} {i x : Nat} : (ns L).set i (nn x) = ns (L.set i x) := by simp [ns, List.map_set]
theorem bv_set {L : Bytes} {i : Nat} {x : UInt8} : (bv L).set i (u8 x) = bv (L.set i x) := by simp [bv, List.map_set]
theorem hcs_get {L : List Bytes} {n i : Nat} (hl : L.length = n) (hi : i < n) : rdL (hcs L) (i * 32) 32 = hc (L.getD i []) := by
  subst hl
  induction L generalizing i with
  | nil => cases hi
  | cons x L ih =>
    cases i with
    | zero => simp only [hcs, List.flatMap_cons, rdL, Nat.zero_mul, List.drop_zero]; exact List.take_left' (hc_length x)
    | succ i =>
      have := ih (i := i) (by simpa using hi)
      simp only [List.getD_cons_succ]
      rw [← this]
      unfold rdL
      rw [show (i + 1) * 32 = (hc x).length + i * 32 by rw [hc_length]; omega]
      simp only [hcs, List.flatMap_cons, List.drop_append]
      rw [← List.drop_drop, List.drop_length, List.drop_nil, List.nil_append]
      congr 2
      omega
theorem rd_sub {LL L : List Value} {o N k s : Nat} (h : rdL LL o N = L) (hk : k + s ≤ N) : rdL LL (o + k) s = rdL L k s := by
  subst h
  unfold rdL
  rw [List.drop_take, List.drop_drop, List.take_take, Nat.min_eq_left (by omega)]
theorem at_sub {LL L : List Value} {o N k : Nat} {v : Value} (h : rdL LL o N = L) (hv : L[k]? = some v) : LL[o + k]? = some v := by
  subst h; exact rdL_get hv
section
variable {m : Ctx} {A : Option Addr} {n c sz : Nat} {L : List Value}
theorem Sl.lo (h : Sl m A n c sz L) {lo : Nat} (hl : lo ≤ n) : Sl m (sA A c lo sz) (n - lo) (c - lo) sz (L.drop (lo * sz)) := by
  obtain ⟨h1, h2, h3, h4⟩ := h
  refine ⟨by rw [List.length_drop, h1, Nat.sub_mul], by omega, by omega, ?_⟩
  rcases h4 with ⟨rfl, rfl, rfl⟩ | ⟨b, off, LL, rfl, hb, hr⟩
  · obtain rfl : lo = 0 := by omega
    exact .inl ⟨by simp [sA], rfl, rfl⟩
  · by_cases hc : c = lo
    · have hn : n = lo := by omega
      refine .inr ⟨b, off, LL, by simp [sA, hc], hb, ?_⟩
      subst hn
      rw [show (n - n) * sz = 0 by simp]
      unfold rdL
      rw [List.take_zero, List.drop_eq_nil_of_le (by omega)]
    · refine .inr ⟨b, off + lo * sz, LL, by simp [sA, hc, add_off], hb, ?_⟩
      rw [← hr]
      unfold rdL
      rw [List.drop_take, List.drop_drop, Nat.sub_mul]
theorem Sl.hi (h : Sl m A n c sz L) {hi : Nat} (hl : hi ≤ n) : Sl m A hi c sz (L.take (hi * sz)) := by
  obtain ⟨h1, h2, h3, h4⟩ := h
  have hm : hi * sz ≤ n * sz := Nat.mul_le_mul_right _ hl
  refine ⟨by rw [List.length_take, h1]; omega, by omega, h3, ?_⟩
  rcases h4 with ⟨rfl, rfl, rfl⟩ | ⟨b, off, LL, rfl, hb, hr⟩
  · exact .inl ⟨rfl, by omega, rfl⟩
  · refine .inr ⟨b, off, LL, rfl, hb, ?_⟩
    rw [← hr]
    unfold rdL
    rw [List.take_take, Nat.min_eq_left hm]
theorem Sl.lh (h : Sl m A n c sz L) {lo hi : Nat} (hl : lo ≤ hi) (hh : hi ≤ n) : Sl m (sA A c lo sz) (hi - lo) (c - lo) sz ((L.take (hi * sz)).drop (lo * sz)) :=
  (h.hi hh).lo hl
/-- A frozen block's cells as a slice. -/
theorem Sl.of {b o k : Nat} {LL : List Value} (hb : m b = some LL) (hr : rdL LL o (n * sz) = L) (hL : L.length = n * sz) (hc : n ≤ c) (hm : c ≤ maxLen) : Sl m (some ⟨b, o, none⟩) n c sz L :=
  ⟨hL, hc, hm, .inr ⟨b, o, LL, rfl, hb, hr⟩⟩
theorem Sl.cap (h : Sl m A n c sz L) : n ≤ c := h.2.1
theorem Sl.len (h : Sl m A n c sz L) : L.length = n * sz := h.1
theorem Sl.max (h : Sl m A n c sz L) : n ≤ maxLen := Nat.le_trans h.2.1 h.2.2.1
theorem Sl.nilc (h : Sl m A n c sz L) : A = none → c = 0 := by
  rintro rfl
  rcases h.2.2.2 with ⟨_, _, h⟩ | ⟨_, _, _, h, _⟩
  · exact h
  · cases h
end
theorem loop_back {σ : Type} {I : σ → Act → World → Prop} {μ : σ → Nat} {s : σ} {Q : Exit → Act → World → Prop} {a : Act} {w : World} (h : ∃ s', μ s' < μ s ∧ I s' a w) : Exit.then (fun a' w' => ∃ s', μ s' < μ s ∧ I s' a' w') Q .normal a w := h
theorem bv_drop (l : Bytes) (k : Nat) : (bv l).drop (k * 1) = bv (l.drop k) := by simp [bv, List.map_drop]
theorem bv_take (l : Bytes) (k : Nat) : (bv l).take (k * 1) = bv (l.take k) := by simp [bv, List.map_take]
theorem us_drop (l : List UInt32) (k : Nat) : (us l).drop (k * 1) = us (l.drop k) := by simp [us, List.map_drop]
theorem us_take (l : List UInt32) (k : Nat) : (us l).take (k * 1) = us (l.take k) := by simp [us, List.map_take]
theorem ns_drop (l : List Nat) (k : Nat) : (ns l).drop (k * 1) = ns (l.drop k) := by simp [ns, List.map_drop]
theorem ns_take (l : List Nat) (k : Nat) : (ns l).take (k * 1) = ns (l.take k) := by simp [ns, List.map_take]
theorem hcs_drop (l : List Bytes) (k : Nat) : (hcs l).drop (k * 32) = hcs (l.drop k) := by
  induction k generalizing l with
  | zero => simp
  | succ k ih =>
    cases l with
    | nil => simp [hcs]
    | cons x l =>
      have h : hcs (x :: l) = hc x ++ hcs l := by simp [hcs]
      rw [List.drop_succ_cons, ← ih l, h, show (k + 1) * 32 = (hc x).length + k * 32 by rw [hc_length]; omega, ← List.drop_drop, List.drop_left]
theorem hcs_take (l : List Bytes) (k : Nat) : (hcs l).take (k * 32) = hcs (l.take k) := by
  induction k generalizing l with
  | zero => simp [hcs]
  | succ k ih =>
    cases l with
    | nil => simp [hcs]
    | cons x l =>
      have h : hcs (x :: l) = hc x ++ hcs l := by simp [hcs]
      have h2 : hcs (x :: l.take k) = hc x ++ hcs (l.take k) := by simp [hcs]
      rw [List.take_succ_cons, h2, ← ih l, h, show (k + 1) * 32 = (hc x).length + k * 32 by rw [hc_length]; omega, List.take_length_add_append]
theorem Own.nilc {m : Ctx} {w : World} {β : Nat} {A : Option Addr} {n c : Nat} {e : TypeId} {sz : Nat} {L : List Value} (h : Own m w β A n c e sz L) : A = none → c = 0 := by
  rintro rfl
  rcases h.2.2.2 with ⟨_, _, h⟩ | ⟨_, _, h, _⟩
  · exact h
  · cases h
theorem Own.of_mu {m : Ctx} {w : World} {β b n : Nat} {e : TypeId} {sz : Nat} {L : List Value} (h : Mu m w b e L) (hb : β ≤ b) (hl : L.length = n * sz) (hm : n ≤ maxLen) : Own m w β (some ⟨b, 0, none⟩) n n e sz L :=
  ⟨hl, Nat.le_refl _, hm, .inr ⟨b, L, rfl, hb, h, hl, List.take_of_length_le (by omega)⟩⟩
def orS (S S' : Nat → Prop) : Nat → Prop := fun x => S x ∨ S' x
theorem rd_all {L : List Value} {n : Nat} (h : L.length = n) : rdL L 0 n = L := by subst h; simp [rdL]
theorem wr_all {L cs : List Value} (h : L.length = cs.length) : wrL L 0 cs = cs := by simp [wrL, h]
theorem sz_eq {P : Program} {t n : Nat} {cs : List Value} (h : qsz P t = some n) (hl : cs.length = n) : qsz P t = some cs.length := by rw [hl]; exact h
theorem wr_bv {x q : Bytes} {k : Nat} (hq : q.length = k) : wrL (bv x) 0 ((bv q).take k) = bv (q ++ x.drop k) := by
  subst hq
  simp [wrL, bv, List.take_of_length_le, List.map_drop]
theorem rd_bv {x : Bytes} {o n : Nat} (h : x.length = o + n) : rdL (bv x) o n = bv (x.drop o) := by
  simp only [rdL, bv, ← List.map_drop, ← List.map_take]
  rw [List.take_of_length_le (by rw [List.length_drop]; omega)]
section
variable {P : Program} {ρ : Operand → Value} {w : World} {dst : Option Tmp} {ty T U : TypeId} {pos : String} {af : Array Edge} {g : Option (Nat × Bool)} {x y : Operand}
theorem r_sub01 (hx : ρ x = nn 0) (hy : ρ y = nn 1) : (execOp ρ ⟨dst, .binOp .sub T x y U, ty, pos, af, g⟩).run P w = .ok (.value (.int .i64 (-1))) w := by
  have h : IntKind.i64.wrap (-1) = -1 := by decide
  simp [execOp, hx, hy, eqGuard, binOp, Op.intArith, h]
theorem r_geqz0 (hx : ρ x = .int .i64 (-1)) (hy : ρ y = nn 0) : (execOp ρ ⟨dst, .binOp .geq T x y U, ty, pos, af, g⟩).run P w = .ok (.value (.bool false)) w := by
  simp [execOp, hx, hy, eqGuard, binOp, Op.intCmp]
end
theorem wr_hc {y q : Bytes} (hq : q.length = 32) : wrL (hc y) 0 ((bv q).take 32) = bv q := by
  have h : (bv q).length = 32 := by rw [bv_length, hq]
  rw [List.take_of_length_le (by omega)]
  exact wr_all (by rw [h]; rfl)
theorem lt_bv {l : Bytes} {i n : Nat} (h : l.length = n) (hi : i < n) : i < (bv l).length := by rw [bv_length, h]; exact hi
theorem lt_us {l : List UInt32} {i n : Nat} (h : l.length = n) (hi : i < n) : i < (us l).length := by rw [us_length, h]; exact hi
theorem lt_ns {l : List Nat} {i n : Nat} (h : l.length = n) (hi : i < n) : i < (ns l).length := by rw [ns_length, h]; exact hi
theorem len_set {α : Type} {l : List α} {i n : Nat} {v : α} (h : l.length = n) : (l.set i v).length = n := by rw [List.length_set]; exact h
theorem le_all {L cs : List Value} {n : Nat} (h : L.length = n) (hc : cs.length = n) : 0 + cs.length ≤ L.length := by omega
end Go.Proofs.YtiggfalelcepbaaGreatDoor

/- Steps of a walk: frames as overlays, one operation at a time, worlds and what is frozen in them. No program text. -/
import Derived.Test.YtiggfalelcepbaaGreatDoorProg
import Derived.OrdersHeld
import Derived.Deep.MidRow
import Derived.Laws.OwnMore
import Derived.KernelRfl
import Derived.ChangeMaps5
namespace Go.Proofs.YtiggfalelcepbaaGreatDoor
open Go

/-! ### Frames -/
/-- Slots written on top of a frame, the newest first. -/
def ov (a : Act) : List (Nat × Value) → Act
  | [] => a
  | (d, v) :: L => (ov a L).put (some d) v
def look (n : Nat) (L : List (Nat × Value)) (t : Nat) : Option Value := if t < n then L.lookup t else none
theorem ov_size (a : Act) (L : List (Nat × Value)) : (ov a L).tmps.size = a.tmps.size := by
  induction L with
  | nil => rfl
  | cons x L ih => obtain ⟨d, v⟩ := x; simp [ov, Act.put, ih]
theorem ov_defers (a : Act) (L : List (Nat × Value)) : (ov a L).defers = a.defers := by
  induction L with
  | nil => rfl
  | cons x L ih => obtain ⟨d, v⟩ := x; simp [ov, Act.put, ih]
theorem ov_getD (a : Act) (L : List (Nat × Value)) (t : Nat) (h : t < a.tmps.size) :
    (ov a L).tmps.getD t undef = (L.lookup t).getD (a.tmps.getD t undef) := by
  induction L with
  | nil => rfl
  | cons x L ih =>
    obtain ⟨d, v⟩ := x
    by_cases e : t = d
    · subst e
      have h' : t < (ov a L).tmps.size := by rw [ov_size]; exact h
      simp [ov, Act.put, List.lookup, h']
    · have hb : (t == d) = false := by simpa using e
      simp only [ov, Act.put, List.lookup, hb]
      rw [← ih]
      simp [Array.getElem?_setIfInBounds, Ne.symm e]
/-- A slot that was written. -/
theorem eh {a : Act} {L : List (Nat × Value)} {n t : Nat} {v : Value} (hB : a.tmps.size = n) (h : look n L t = some v) : (ov a L).eval (.tmp t) = v := by
  unfold look at h
  split at h
  · rename_i ht
    show (ov a L).tmps.getD t undef = v
    rw [ov_getD a L t (by omega), h]; rfl
  · cases h
/-- A slot that was not: as the frame below has it. -/
theorem em {a : Act} {L : List (Nat × Value)} {n t : Nat} {v : Value} (hB : a.tmps.size = n) (h : L.lookup t = none) (ht : decide (t < n) = true) (hv : a.tmps.getD t undef = v) : (ov a L).eval (.tmp t) = v := by
  have ht : t < n := by simpa using ht
  show (ov a L).tmps.getD t undef = v
  rw [ov_getD a L t (by omega), h]; exact hv
theorem gh {a : Act} {L : List (Nat × Value)} {n t : Nat} {v : Value} (hB : a.tmps.size = n) (h : look n L t = some v) : (ov a L).tmps.getD t undef = v := eh hB h
theorem gm {a : Act} {L : List (Nat × Value)} {n t : Nat} {v : Value} (hB : a.tmps.size = n) (h : L.lookup t = none) (ht : decide (t < n) = true) (hv : a.tmps.getD t undef = v) : (ov a L).tmps.getD t undef = v := em hB h ht hv

/-! ### What is asked of one operation -/
/-- One operation in a frame: it yields a value, or nothing, or calls a function that comes back. -/
def opk (P : Program) (ρ : Operand → Value) (o : Oper) (w : World) (K : Value → World → Prop) : Prop :=
  (∃ v w', (execOp ρ o).run P w = .ok (.value v) w' ∧ K v w') ∨ (∃ w', (execOp ρ o).run P w = .ok .skip w' ∧ K undef w') ∨
  (∃ f args w', (execOp ρ o).run P w = .ok (.enter f args) w' ∧ Calls P f args w' (fun e w'' => ∃ v, e = .returned v ∧ K v w''))
theorem opk_wp {P : Program} {o : Oper} {a : Act} {w : World} {K : Act → World → Prop} {Q : Exit → Act → World → Prop}
    (h : opk P a.eval o w (fun v w' => K (a.put o.dst v) w')) : o.wp P a w K Q := by
  unfold Oper.wp
  rcases h with ⟨v, w', hr, hk⟩ | ⟨w', hr, hk⟩ | ⟨f, args, w', hr, hc⟩
  · rw [hr]; exact hk
  · rw [hr]; exact hk
  · rw [hr]
    exact hc.mono fun e w'' ⟨v, he, hk⟩ => by subst he; exact hk
section
variable {P : Program} {ops : Array Oper} {Q : Exit → Act → World → Prop} {a : Act} {L : List (Nat × Value)} {w : World} {rest : List Oper} {o : Oper} {d : Nat}
/-- The next operation, unguarded, that writes a slot. -/
theorem st' (hg : o.guard = none) (hd : o.dst = some d) (h : opk P (ov a L).eval o w (fun v w' => wpList P ops Q rest (ov a ((d, v) :: L)) w')) :
    wpList P ops Q (o :: rest) (ov a L) w :=
  wpList_plain hg fun _ hK => opk_wp (by
    rw [hd]
    rcases h with ⟨v, w', hr, hk⟩ | ⟨w', hr, hk⟩ | ⟨f, args, w', hr, hc⟩
    · exact .inl ⟨v, w', hr, hK _ _ hk⟩
    · exact .inr (.inl ⟨w', hr, hK _ _ hk⟩)
    · exact .inr (.inr ⟨f, args, w', hr, hc.mono fun e w'' ⟨v, he, hk⟩ => ⟨v, he, hK _ _ hk⟩⟩))
/-- The next operation, unguarded, that writes none. -/
theorem st0' (hg : o.guard = none) (hd : o.dst = none) (h : opk P (ov a L).eval o w (fun _ w' => wpList P ops Q rest (ov a L) w')) :
    wpList P ops Q (o :: rest) (ov a L) w :=
  wpList_plain hg fun _ hK => opk_wp (by
    rw [hd]
    rcases h with ⟨v, w', hr, hk⟩ | ⟨w', hr, hk⟩ | ⟨f, args, w', hr, hc⟩
    · exact .inl ⟨v, w', hr, hK _ _ hk⟩
    · exact .inr (.inl ⟨w', hr, hK _ _ hk⟩)
    · exact .inr (.inr ⟨f, args, w', hr, hc.mono fun e w'' ⟨v, he, hk⟩ => ⟨v, he, hK _ _ hk⟩⟩))
theorem yielded_ov {n j t : Nat} {o' : Oper} {b : Bool} (hB : a.tmps.size = n) (hj : ops[j]? = some o') (hd : o'.dst = some t) (ht : decide (t < n) = true)
    (hv : (ov a L).eval (.tmp t) = .bool b) : yielded ops (ov a L).tmps j = some b := by
  have ht : t < n := by simpa using ht
  have hs : t < (ov a L).tmps.size := by rw [ov_size]; omega
  have hv : (ov a L).tmps.getD t undef = .bool b := hv
  unfold yielded
  rw [hj]
  simp only [Option.bind_some, hd]
  have : (ov a L).tmps[t]? = some (.bool b) := by
    rw [Array.getElem?_eq_getElem hs]
    rw [Array.getD_eq_getD_getElem?, Array.getElem?_eq_getElem hs] at hv
    simpa using hv
  rw [this]
theorem wanted_yes {j : Nat} {b : Bool} (hg : o.guard = some (j, b)) (hy : yielded ops (ov a L).tmps j = some b) : Region.wanted o (yielded ops (ov a L).tmps) = true := by
  simp [Region.wanted, hg, hy]
theorem wanted_no {j : Nat} {b c : Bool} (hg : o.guard = some (j, b)) (hy : yielded ops (ov a L).tmps j = some c) (hne : (c == b) = false) : Region.wanted o (yielded ops (ov a L).tmps) = false := by
  have : (some c == some b) = false := by simpa using hne
  simp only [Region.wanted, hg, hy, this]
theorem wanted_free (hg : o.guard = none) : Region.wanted o (yielded ops (ov a L).tmps) = true := by simp [Region.wanted, hg]
/-- The next operation, its guard says yes. -/
theorem sy' (hw : Region.wanted o (yielded ops (ov a L).tmps) = true) (hd : o.dst = some d) (h : opk P (ov a L).eval o w (fun v w' => wpList P ops Q rest (ov a ((d, v) :: L)) w')) :
    wpList P ops Q (o :: rest) (ov a L) w :=
  wpList_step fun _ hK => by
    rw [if_pos hw]
    exact opk_wp (by
      rw [hd]
      rcases h with ⟨v, w', hr, hk⟩ | ⟨w', hr, hk⟩ | ⟨f, args, w', hr, hc⟩
      · exact .inl ⟨v, w', hr, hK _ _ hk⟩
      · exact .inr (.inl ⟨w', hr, hK _ _ hk⟩)
      · exact .inr (.inr ⟨f, args, w', hr, hc.mono fun e w'' ⟨v, he, hk⟩ => ⟨v, he, hK _ _ hk⟩⟩))
/-- The next operation, its guard says no. -/
theorem sn' (hw : Region.wanted o (yielded ops (ov a L).tmps) = false) (hd : o.dst = some d) (h : wpList P ops Q rest (ov a ((d, undef) :: L)) w) :
    wpList P ops Q (o :: rest) (ov a L) w :=
  wpList_step fun _ hK => by
    rw [if_neg (by rw [hw]; simp), hd]
    exact hK _ _ h

/-- What is left of a region to be carried out, one operation behind the other. -/
structure WL (P : Program) (ops : Array Oper) (Q : Exit → Act → World → Prop) (rest : List Oper) (a : Act) (w : World) : Prop where
  h : wpList P ops Q rest a w
theorem opk_mono {P : Program} {ρ : Operand → Value} {o : Oper} {w : World} {K K' : Value → World → Prop} (h : opk P ρ o w K) (hk : ∀ v w', K v w' → K' v w') : opk P ρ o w K' := by
  rcases h with ⟨v, w', hr, h⟩ | ⟨w', hr, h⟩ | ⟨f, args, w', hr, hc⟩
  · exact .inl ⟨v, w', hr, hk _ _ h⟩
  · exact .inr (.inl ⟨w', hr, hk _ _ h⟩)
  · exact .inr (.inr ⟨f, args, w', hr, hc.mono fun e w'' ⟨v, he, h⟩ => ⟨v, he, hk _ _ h⟩⟩)
theorem st (hg : o.guard = none) (hd : o.dst = some d) (h : opk P (ov a L).eval o w (fun v w' => WL P ops Q rest (ov a ((d, v) :: L)) w')) :
    WL P ops Q (o :: rest) (ov a L) w := ⟨st' hg hd (opk_mono h fun _ _ h => h.h)⟩
theorem st0 (hg : o.guard = none) (hd : o.dst = none) (h : opk P (ov a L).eval o w (fun _ w' => WL P ops Q rest (ov a L) w')) :
    WL P ops Q (o :: rest) (ov a L) w := ⟨st0' hg hd (opk_mono h fun _ _ h => h.h)⟩
theorem sy (hw : Region.wanted o (yielded ops (ov a L).tmps) = true) (hd : o.dst = some d) (h : opk P (ov a L).eval o w (fun v w' => WL P ops Q rest (ov a ((d, v) :: L)) w')) :
    WL P ops Q (o :: rest) (ov a L) w := ⟨sy' hw hd (opk_mono h fun _ _ h => h.h)⟩
theorem sn (hw : Region.wanted o (yielded ops (ov a L).tmps) = false) (hd : o.dst = some d) (h : WL P ops Q rest (ov a ((d, undef) :: L)) w) :
    WL P ops Q (o :: rest) (ov a L) w := ⟨sn' hw hd h.h⟩
theorem wl_region {id : Nat} {l : List Oper} (h : WL P l.toArray Q l (ov a L) w) : (Code.region id l.toArray false).wp P Q (ov a L) w := wp_region_lit h.h
theorem wl_nil (h : Q .normal a w) : WL P ops Q [] a w := ⟨wpList_nil h⟩
/-! ### Regions that draw their order: what holds behind every operation may change with number k -/
def wpAnyT (P : Program) (ops : Array Oper) (Q : Exit → Act → World → Prop) (T : Bool → World → Prop) (k : Nat) : Nat → Array Bool → Act → World → Prop
  | 0, listed, a, w => Region.ready .any ops listed = [] ∧ Q .normal a w
  | fuel + 1, listed, a, w =>
    (Region.ready .any ops listed = [] → Q .normal a w) ∧
    ∀ i ∈ Region.ready .any ops listed, wpOp P ops Q i (fun a' w' => T ((listed.setIfInBounds i true).getD k true) w' ∧ wpAnyT P ops Q T k fuel (listed.setIfInBounds i true) a' w') a w
theorem wpAny_of_T {P : Program} {ops : Array Oper} {Q : Exit → Act → World → Prop} {T : Bool → World → Prop} {k : Nat} : ∀ (fuel : Nat) (listed : Array Bool) (a : Act) (w : World), wpAnyT P ops Q T k fuel listed a w → wpAny P .any ops Q fuel listed a w
  | 0, _, _, _, h => h
  | fuel + 1, _, _, _, h => ⟨h.1, fun i hi => wpOp_mono (fun a' w' h' => wpAny_of_T fuel _ a' w' h'.2) (h.2 i hi)⟩
theorem getD_set' {l : Array Bool} {i k : Nat} (h : k ≠ i) : (l.setIfInBounds i true).getD k true = l.getD k true := by
  simp [Array.getElem?_setIfInBounds, Ne.symm h]
theorem wpAnyT_first {P : Program} {ops : Array Oper} {Q : Exit → Act → World → Prop} {T : Bool → World → Prop} {k : Nat} {S : World → Prop} {i : Nat} {oi : Oper} {v : Value} (hi : ops[i]? = some oi)
    (hsel : ∀ (j : Nat) (o : Oper) cs b, ops[j]? = some o → o.op ≠ .select cs b) (hki : k ≠ i)
    (hQ : ∀ c a w, Q (.panic c) (a.put oi.dst v) w → Q (.panic c) a w) :
    ∀ (fuel : Nat) (listed : Array Bool) (a : Act) (w : World),
      ((∀ b w, T b w → S w) ∨ ((∀ w, T false w → S w) ∧ listed.getD k true = false ∧ ∃ ok, ops[k]? = some ok ∧ ∃ e ∈ ok.after, Region.binds .any e = true ∧ e.on = i)) →
      (∀ j oj, ops[j]? = some oj → j ≠ i → listed.getD j true = false → (∀ e ∈ oj.after, Region.binds .any e = true → e.on ≠ i) → oi.apart ops oj = true) →
      i ∈ Region.ready .any ops listed → YieldsIf P ops S oi v a → T (listed.getD k true) w → S w →
      wpAnyT P ops Q T k fuel (listed.setIfInBounds i true) (a.put oi.dst v) w → wpAnyT P ops Q T k (fuel + 1) listed a w := by
  intro fuel
  induction fuel with
  | zero =>
    intro listed a w _ _ hr hy hT hS H
    refine ⟨fun h => (by rw [h] at hr; cases hr), fun j hj => ?_⟩
    by_cases hji : j = i
    · subst hji; exact hy.wpOp hi hS ⟨by rw [getD_set' hki]; exact hT, H⟩
    · have := ready_mono hj hji
      rw [H.1] at this
      cases this
  | succ fuel ih =>
    intro listed a w hc hfree hr hy hT hS H
    refine ⟨fun h => (by rw [h] at hr; cases hr), fun j hj => ?_⟩
    by_cases hji : j = i
    · subst hji; exact hy.wpOp hi hS ⟨by rw [getD_set' hki]; exact hT, H⟩
    · have h1 := H.2 j (ready_mono hj hji)
      obtain ⟨hjun, oj, hoj, hall⟩ := mem_ready.1 hj
      have hnot : ∀ e ∈ oj.after, Region.binds .any e = true → e.on ≠ i := fun e he hb heq => by
        have h1 := hall e he hb
        have h0 := (mem_ready.1 hr).1
        rw [heq] at h1
        rcases Nat.lt_or_ge i listed.size with h' | h'
        · simp [h'] at h0 h1; rw [h0] at h1; cases h1
        · simp [Array.getElem?_eq_none h'] at h1
      have h2 := wpOp_putIf hoj (hfree j oj hoj hji hjun hnot) (fun cs b => hsel i oi cs b hi) (fun cs b => hsel j oj cs b hoj) hQ hy h1
      have hfree' : ∀ k ok, ops[k]? = some ok → k ≠ i → (listed.setIfInBounds j true).getD k true = false →
          (∀ e ∈ ok.after, Region.binds .any e = true → e.on ≠ i) → oi.apart ops ok = true := fun k ok hk hki hun hno => by
        refine hfree k ok hk hki ?_ hno
        by_cases hjk : j = k
        · subst hjk; exact hjun
        · rw [getD_set' (Ne.symm hjk)] at hun; exact hun
      have hc' : (∀ b w, T b w → S w) ∨ ((∀ w, T false w → S w) ∧ (listed.setIfInBounds j true).getD k true = false ∧ ∃ ok, ops[k]? = some ok ∧ ∃ e ∈ ok.after, Region.binds .any e = true ∧ e.on = i) := by
        rcases hc with h | ⟨h, hl, ok, hok, e, he, hb, heq⟩
        · exact .inl h
        · refine .inr ⟨h, ?_, ok, hok, e, he, hb, heq⟩
          have hkj : k ≠ j := by
            rintro rfl
            rw [hok] at hoj; cases hoj
            exact hnot e he hb heq
          rw [getD_set' hkj]; exact hl
      refine wpOp_mono (fun a' w' h3 => ?_) h2
      have e1 : ((listed.setIfInBounds i true).setIfInBounds j true).getD k true = (listed.setIfInBounds j true).getD k true := by
        rw [Array.setIfInBounds_comm _ _ (Ne.symm hji), getD_set' hki]
      have hT' : T ((listed.setIfInBounds j true).getD k true) w' := by rw [← e1]; exact h3.2.1
      have hS' : S w' := by
        rcases hc' with h | ⟨h, hl, _⟩
        · exact h _ _ hT'
        · rw [hl] at hT'; exact h _ hT'
      refine ⟨hT', ih (listed.setIfInBounds j true) a' w' hc' hfree' (ready_mono hr (Ne.symm hji)) h3.1 hT' hS' ?_⟩
      rw [Array.setIfInBounds_comm _ _ hji]
      exact h3.2.2
/-- Does number k wait for number i? -/
def waits (ops : Array Oper) (k i : Nat) : Bool := match ops[k]? with | some ok => ok.after.any (fun e => Region.binds .any e && e.on == i) | none => false
theorem waits_spec {ops : Array Oper} {k i : Nat} (h : waits ops k i = true) : ∃ ok, ops[k]? = some ok ∧ ∃ e ∈ ok.after, Region.binds .any e = true ∧ e.on = i := by
  unfold waits at h
  split at h
  · rename_i ok hok
    refine ⟨ok, hok, ?_⟩
    rw [Array.any_eq_true'] at h
    obtain ⟨e, he, h⟩ := h
    simp only [Bool.and_eq_true, beq_iff_eq] at h
    exact ⟨e, he, h⟩
  · cases h
def tb (S0 S1 : World → Prop) : Bool → World → Prop
  | false => S0
  | true => S1
theorem tbT {S0 S1 : World → Prop} {w : World} (h : S1 w) : tb S0 S1 true w := h
theorem tbF {S0 S1 : World → Prop} {w : World} (h : S0 w) : tb S0 S1 false w := h
variable {S0 S1 : World → Prop} {k i fuel : Nat} {listed : Array Bool} {b : Bool}
theorem wp_region_T {id : Nat} (hm : P.follows .mixedOrders = true) (S0 S1 : World → Prop) (k : Nat)
    (h : wpAnyT P ops Q (tb S0 S1) k ops.size (Array.replicate ops.size false) (ov a L) { w with drawn := w.drawn + 1 }) : (Code.region id ops true).wp P Q (ov a L) w :=
  wp_region_any hm (wpAny_of_T _ _ _ _ h)
theorem anyT_all {rs : List Nat} (hr : Region.ready .any ops listed = rs) (hne : rs ≠ [])
    (h : ∀ i ∈ rs, wpOp P ops Q i (fun a' w' => tb S0 S1 ((listed.setIfInBounds i true).getD k true) w' ∧ wpAnyT P ops Q (tb S0 S1) k fuel (listed.setIfInBounds i true) a' w') a w) : wpAnyT P ops Q (tb S0 S1) k (fuel + 1) listed a w :=
  ⟨fun h0 => absurd (hr ▸ h0) hne, hr ▸ h⟩
theorem anyT_done (hr : Region.ready .any ops listed = []) (h : Q .normal a w) : ∀ fuel, wpAnyT P ops Q (tb S0 S1) k fuel listed a w
  | 0 => ⟨hr, h⟩
  | _ + 1 => ⟨fun _ => h, by rw [hr]; simp⟩
/-- Several can: one of them, as a goal of its own. -/
theorem ao (hi : ops[i]? = some o) (hg : o.guard = none) (hd : o.dst = some d) (hb : (listed.setIfInBounds i true).getD k true = b)
    (h : opk P (ov a L).eval o w (fun v w' => tb S0 S1 b w' ∧ wpAnyT P ops Q (tb S0 S1) k fuel (listed.setIfInBounds i true) (ov a ((d, v) :: L)) w')) :
    wpOp P ops Q i (fun a' w' => tb S0 S1 ((listed.setIfInBounds i true).getD k true) w' ∧ wpAnyT P ops Q (tb S0 S1) k fuel (listed.setIfInBounds i true) a' w') (ov a L) w := by
  subst hb
  unfold wpOp
  simp only [hi, wanted_free (ops := ops) (a := a) (L := L) hg, if_true]
  exact .inl (opk_wp (by rw [hd]; exact h))
theorem ao0 (hi : ops[i]? = some o) (hg : o.guard = none) (hd : o.dst = none) (hb : (listed.setIfInBounds i true).getD k true = b)
    (h : opk P (ov a L).eval o w (fun _ w' => tb S0 S1 b w' ∧ wpAnyT P ops Q (tb S0 S1) k fuel (listed.setIfInBounds i true) (ov a L) w')) :
    wpOp P ops Q i (fun a' w' => tb S0 S1 ((listed.setIfInBounds i true).getD k true) w' ∧ wpAnyT P ops Q (tb S0 S1) k fuel (listed.setIfInBounds i true) a' w') (ov a L) w := by
  subst hb
  unfold wpOp
  simp only [hi, wanted_free (ops := ops) (a := a) (L := L) hg, if_true]
  exact .inl (opk_wp (by rw [hd]; exact h))
theorem aoy (hi : ops[i]? = some o) (hw : Region.wanted o (yielded ops (ov a L).tmps) = true) (hd : o.dst = some d) (hb : (listed.setIfInBounds i true).getD k true = b)
    (h : opk P (ov a L).eval o w (fun v w' => tb S0 S1 b w' ∧ wpAnyT P ops Q (tb S0 S1) k fuel (listed.setIfInBounds i true) (ov a ((d, v) :: L)) w')) :
    wpOp P ops Q i (fun a' w' => tb S0 S1 ((listed.setIfInBounds i true).getD k true) w' ∧ wpAnyT P ops Q (tb S0 S1) k fuel (listed.setIfInBounds i true) a' w') (ov a L) w := by
  subst hb
  unfold wpOp
  simp only [hi, hw, if_true]
  exact .inl (opk_wp (by rw [hd]; exact h))
/-- Number i comes up, and no other can: it is carried out. -/
theorem an (hi : ops[i]? = some o) (hr : Region.ready .any ops listed = [i]) (hg : o.guard = none) (hd : o.dst = some d) (hb : (listed.setIfInBounds i true).getD k true = b)
    (h : opk P (ov a L).eval o w (fun v w' => tb S0 S1 b w' ∧ wpAnyT P ops Q (tb S0 S1) k fuel (listed.setIfInBounds i true) (ov a ((d, v) :: L)) w')) :
    wpAnyT P ops Q (tb S0 S1) k (fuel + 1) listed (ov a L) w :=
  anyT_all hr (by simp) fun j hj => by
    obtain rfl : j = i := by simpa using hj
    exact ao hi hg hd hb h
theorem an0 (hi : ops[i]? = some o) (hr : Region.ready .any ops listed = [i]) (hg : o.guard = none) (hd : o.dst = none) (hb : (listed.setIfInBounds i true).getD k true = b)
    (h : opk P (ov a L).eval o w (fun _ w' => tb S0 S1 b w' ∧ wpAnyT P ops Q (tb S0 S1) k fuel (listed.setIfInBounds i true) (ov a L) w')) :
    wpAnyT P ops Q (tb S0 S1) k (fuel + 1) listed (ov a L) w :=
  anyT_all hr (by simp) fun j hj => by
    obtain rfl : j = i := by simpa using hj
    exact ao0 hi hg hd hb h
theorem ay (hi : ops[i]? = some o) (hr : Region.ready .any ops listed = [i]) (hw : Region.wanted o (yielded ops (ov a L).tmps) = true) (hd : o.dst = some d) (hb : (listed.setIfInBounds i true).getD k true = b)
    (h : opk P (ov a L).eval o w (fun v w' => tb S0 S1 b w' ∧ wpAnyT P ops Q (tb S0 S1) k fuel (listed.setIfInBounds i true) (ov a ((d, v) :: L)) w')) :
    wpAnyT P ops Q (tb S0 S1) k (fuel + 1) listed (ov a L) w :=
  anyT_all hr (by simp) fun j hj => by
    obtain rfl : j = i := by simpa using hj
    exact aoy hi hw hd hb h
/-- Number i may come up now and yields v in every world that meets S1: it is taken first. -/
theorem tk {v : Value} (hi : ops[i]? = some o) (hs : Region.noSelect ops = true) (hf : Region.free .any ops listed i = true) (hr : (Region.ready .any ops listed).contains i = true) (hm : ∀ w, S0 w → S1 w)
    (hQ : ∀ c a w, Q (.panic c) (a.put o.dst v) w → Q (.panic c) a w) (hd : o.dst = some d) (hw : Region.wanted o (yielded ops (ov a L).tmps) = true) (hki : (k == i) = false) (hb : listed.getD k true = b)
    (hy : ∀ w, S1 w → (execOp (ov a L).eval o).run P w = .ok (.value v) w) (hS : tb S0 S1 b w)
    (h : wpAnyT P ops Q (tb S0 S1) k fuel (listed.setIfInBounds i true) (ov a ((d, v) :: L)) w) : wpAnyT P ops Q (tb S0 S1) k (fuel + 1) listed (ov a L) w :=
  wpAnyT_first (S := S1) hi (Region.noSelect_spec hs) (by simpa using hki) hQ fuel listed (ov a L) w (.inl fun b w h => by cases b; exact hm _ h; exact h) (Region.free_spec hi hf) (by simpa using hr) (.inl ⟨hw, hy⟩)
    (by rw [hb]; exact hS) (by cases b; exact hm _ hS; exact hS) (by rw [hd]; exact h)
/-- The same under S0, while number k is to come and waits for it. -/
theorem tk0 {v : Value} (hi : ops[i]? = some o) (hs : Region.noSelect ops = true) (hf : Region.free .any ops listed i = true) (hr : (Region.ready .any ops listed).contains i = true)
    (hQ : ∀ c a w, Q (.panic c) (a.put o.dst v) w → Q (.panic c) a w) (hd : o.dst = some d) (hw : Region.wanted o (yielded ops (ov a L).tmps) = true) (hki : (k == i) = false) (hb : listed.getD k true = false) (hwt : waits ops k i = true)
    (hy : ∀ w, S0 w → (execOp (ov a L).eval o).run P w = .ok (.value v) w) (hS : S0 w)
    (h : wpAnyT P ops Q (tb S0 S1) k fuel (listed.setIfInBounds i true) (ov a ((d, v) :: L)) w) : wpAnyT P ops Q (tb S0 S1) k (fuel + 1) listed (ov a L) w :=
  wpAnyT_first (S := S0) hi (Region.noSelect_spec hs) (by simpa using hki) hQ fuel listed (ov a L) w (.inr ⟨fun _ h => h, hb, waits_spec hwt⟩) (Region.free_spec hi hf) (by simpa using hr) (.inl ⟨hw, hy⟩)
    (by rw [hb]; exact hS) hS (by rw [hd]; exact h)
/-- Its guard says no: it is passed over first. -/
theorem tn (hi : ops[i]? = some o) (hs : Region.noSelect ops = true) (hf : Region.free .any ops listed i = true) (hr : (Region.ready .any ops listed).contains i = true) (hm : ∀ w, S0 w → S1 w)
    (hQ : ∀ c a w, Q (.panic c) (a.put o.dst undef) w → Q (.panic c) a w) (hd : o.dst = some d) (hw : Region.wanted o (yielded ops (ov a L).tmps) = false) (hki : (k == i) = false) (hb : listed.getD k true = b) (hS : tb S0 S1 b w)
    (h : wpAnyT P ops Q (tb S0 S1) k fuel (listed.setIfInBounds i true) (ov a ((d, undef) :: L)) w) : wpAnyT P ops Q (tb S0 S1) k (fuel + 1) listed (ov a L) w :=
  wpAnyT_first (S := S1) hi (Region.noSelect_spec hs) (by simpa using hki) hQ fuel listed (ov a L) w (.inl fun b w h => by cases b; exact hm _ h; exact h) (Region.free_spec hi hf) (by simpa using hr) (.inr ⟨hw, rfl⟩)
    (by rw [hb]; exact hS) (by cases b; exact hm _ hS; exact hS) (by rw [hd]; exact h)
end
/-! ### Endings -/
/-- The call comes back, with this. -/
def Ret (R : Value → World → Prop) (e : Ending) (w : World) : Prop := ∃ v, e = .returned v ∧ R v w
theorem ret_of {P : Program} {fn : Func} {R : Value → World → Prop} {a : Act} {w : World} {v : Value} (hr : (results fn a.tmps).run P w = .ok v w) (hd : a.defers = []) (hR : R v w) :
    bodyPost P fn (Ret R) .ret a w := ⟨hd, v, hr, v, rfl, hR⟩
theorem end_of {P : Program} {fn : Func} {R : Value → World → Prop} {a : Act} {w : World} {v : Value} (hr : (results fn a.tmps).run P w = .ok v w) (hd : a.defers = []) (hR : R v w) :
    bodyPost P fn (Ret R) .normal a w := ⟨hd, v, hr, v, rfl, hR⟩
theorem res0 {fn : Func} (h : fn.results = #[]) (tmps : Array Value) (P : Program) (w : World) : (results fn tmps).run P w = .ok (.tuple #[]) w := results_none h tmps P w
theorem res1 {fn : Func} {t : Tmp} {tmps : Array Value} {v : Value} (h : fn.results = #[.tmp t]) (P : Program) (w : World) (hv : tmps.getD t undef = v) :
    (results fn tmps).run P w = .ok v w := by rw [← hv]; exact results_tmp h tmps P w
theorem res2 {fn : Func} {t u : Tmp} {tmps : Array Value} {v x : Value} (h : fn.results = #[.tmp t, .tmp u]) (P : Program) (w : World) (hv : tmps.getD t undef = v) (hx : tmps.getD u undef = x) :
    (results fn tmps).run P w = .ok (.tuple #[v, x]) w := by rw [← hv, ← hx]; exact results_tmp2 h tmps P w

/-! ### Loops -/
/-- A loop over a ghost state: each round that goes on turns the state and lowers its measure. -/
theorem wp_loop_s {P : Program} {σ : Type} {c : Code} {Q : Exit → Act → World → Prop} {a : Act} {w : World} (I : σ → Act → World → Prop) (μ : σ → Nat) (s₀ : σ) (h₀ : I s₀ a w)
    (round : ∀ s a w, I s a w → c.wp P (Exit.then (fun a' w' => ∃ s', μ s' < μ s ∧ I s' a' w') Q) a w) : (Code.loop c).wp P Q a w := by
  intro b k cs
  have key : ∀ n s a w, μ s = n → I s a w → ∃ e a' w', Q e a' w' ∧ Arrives P (lone (b.at a (.code c :: .inLoop c :: k)) cs w) b k cs e a' w' := by
    intro n
    induction n using Nat.strongRecOn with
    | _ n ih =>
      intro s a w hn hI
      obtain ⟨e, a₁, w₁, hq, harr⟩ := round s a w hI b (.inLoop c :: k) cs
      cases e with
      | normal =>
        obtain ⟨s', hlt, hI₁⟩ := hq
        obtain ⟨e₂, a₂, w₂, hq₂, harr₂⟩ := ih (μ s') (hn ▸ hlt) s' a₁ w₁ rfl hI₁
        exact ⟨e₂, a₂, w₂, hq₂, .of_steps (Steps.trans harr (.one step_inLoop)) harr₂⟩
      | exit id => exact ⟨_, a₁, w₁, hq, .pass (x := .inLoop c) rfl (fun _ _ => .inl (by simp)) harr⟩
      | goto l => exact ⟨_, a₁, w₁, hq, .pass (x := .inLoop c) rfl (fun _ _ => .inl (by simp)) harr⟩
      | ret => exact ⟨_, a₁, w₁, hq, .pass (x := .inLoop c) rfl (fun _ _ => .inl (by simp)) harr⟩
      | panic ch => exact ⟨_, a₁, w₁, hq, .pass (x := .inLoop c) rfl (fun _ _ => .inl (by simp)) harr⟩
      | outgrown => exact ⟨_, a₁, w₁, hq, .pass (x := .inLoop c) rfl (fun _ _ => .inl (by simp)) harr⟩
  obtain ⟨e, a', w', hq, harr⟩ := key _ s₀ a w rfl h₀
  exact ⟨e, a', w', hq, .of_steps (.one step_loop) harr⟩
/-- So many rounds at most. -/
def Un (P : Program) (c : Code) (Q : Exit → Act → World → Prop) : Nat → Act → World → Prop
  | 0 => fun _ _ => False
  | n + 1 => fun a w => c.wp P (Exit.then (Un P c Q n) Q) a w
theorem wp_unroll {P : Program} {c : Code} {Q : Exit → Act → World → Prop} {a : Act} {w : World} {n : Nat} (h : Un P c Q n a w) : (Code.loop c).wp P Q a w := by
  refine wp_loop_s (fun n a w => Un P c Q n a w) (fun n => n) n h ?_
  intro s a w h
  cases s with
  | zero => exact h.elim
  | succ s => exact Code.wp_mono (fun e a w q => by cases e <;> first | exact ⟨s, Nat.lt_succ_self s, q⟩ | exact q) h
theorem un_step {P : Program} {c : Code} {Q : Exit → Act → World → Prop} {a : Act} {w : World} {n : Nat} (h : c.wp P (Exit.then (Un P c Q n) Q) a w) : Un P c Q (n + 1) a w := h
theorem un_next {P : Program} {c : Code} {Q : Exit → Act → World → Prop} {a : Act} {w : World} {n : Nat} (h : Un P c Q n a w) : Exit.then (Un P c Q n) Q .normal a w := h
theorem in_blk {id : Nat} {Q : Exit → Act → World → Prop} {a : Act} {w : World} (h : Q .normal a w) : Exit.inBlock id Q .normal a w := h
theorem of_ov {P : Program} {c : Code} {Q : Exit → Act → World → Prop} {a : Act} {w : World} (h : c.wp P Q (ov a []) w) : c.wp P Q a w := h
/-- Two pieces with a mark between them. -/
theorem wp_mid {P : Program} {x y : Code} {Q : Exit → Act → World → Prop} {a : Act} {w : World} (J : Act → World → Prop) (hx : x.wp P (Exit.then J Q) a w) (hy : ∀ a w, J a w → y.wp P Q a w) :
    (Code.seq x y).wp P Q a w :=
  wp_seq (Code.wp_mono (fun e a w q => by cases e <;> first | exact hy _ _ q | exact q) hx)
/-- A function's body from its first frame. -/
theorem enter {P : Program} {f : FuncId} {fn : Func} {c : Code} {args : Array Value} {w : World} {R : Ending → World → Prop} (hf : P.funcs[f]? = some fn) (hb : fn.body = some c)
    (h : ∀ a : Act, a.tmps = args ++ Array.replicate (fn.ntmps - args.size) undef → a.defers = [] → c.wp P (bodyPost P fn R) (ov a []) w) : Calls P f args w R :=
  calls_of_wp hf hb (h _ rfl rfl)
end Go.Proofs.YtiggfalelcepbaaGreatDoor

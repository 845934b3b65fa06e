/- Rows that a function is handed and may append to; what lies apart because it is of another kind. No program text. -/
import Derived.Test.YtiggfalelcepbaaGreatDoorK5
namespace Go.Proofs.YtiggfalelcepbaaGreatDoor
open Go
section
variable {S : Nat → Prop} {m m1 m2 : Ctx} {w w1 w2 : World} {β β' n n' c c' sz sz' b : Nat} {e e' T : TypeId} {A A' : Option Addr} {L L' : List Value}
theorem Own.tne (h : Own m w β A n c e sz L) (hm : Mu m w b T L') (ht : (e == T) = false) : ∀ a, A = some a → a.block ≠ b := by
  intro a ha hb
  rcases h.2.2.2 with ⟨rfl, _⟩ | ⟨g, cur, rfl, _, h1, _⟩
  · cases ha
  · cases ha
    obtain rfl : g = b := hb
    have h2 := h1.1.symm.trans hm.1
    simp only [Option.some.injEq, Obj.cells.injEq] at h2
    rw [h2.2.1] at ht
    simp at ht
theorem Mu.nA (hm : Mu m w b T L') (h : Own m w β A n c e sz L) (ht : (e == T) = false) : ¬ onA A b := fun ⟨a, ha, hb⟩ => h.tne hm ht a ha hb
theorem Own.tA (h : Own m w β A n c e sz L) (h2 : Own m w β' A' n' c' e' sz' L') (ht : (e == e') = false) : ∀ a, A = some a → ¬ onA A' a.block := by
  rintro a ha ⟨a2, ha2, hb⟩
  rcases h2.2.2.2 with ⟨rfl, _⟩ | ⟨g, cur, rfl, _, h1, _⟩
  · cases ha2
  · cases ha2
    exact h.tne h1 ht a ha hb.symm
theorem Own.fa (h : Own m w β A n c e sz L) (hf : Fr S m w m1 w1) (hn : ∀ a, A = some a → ¬ S a.block) : Own m1 w1 β A n c e sz L := by
  obtain ⟨h1, h2, h3, h4⟩ := h
  refine ⟨h1, h2, h3, ?_⟩
  rcases h4 with h | ⟨g, cur, hA, hg, hm, hr⟩
  · exact .inl h
  · exact .inr ⟨g, cur, hA, hg, hm.fs hf (hn _ hA), hr⟩
/-- A row of its own, opened: its block, with what lies behind the row. -/
theorem Own.opn (h : Own m w β A n c e sz L) (hn : 0 < n) : ∃ g R, A = some ⟨g, 0, none⟩ ∧ Mu m w g e (L ++ R) := by
  rcases h.2.2.2 with ⟨_, h0, _⟩ | ⟨g, cur, rfl, _, hm, _, ht⟩
  · omega
  · refine ⟨g, cur.drop (n * sz), rfl, ?_⟩
    rw [← ht, List.take_append_drop]
    exact hm
theorem Own.c2 (h : Own m w β A n c e sz L) : n ≤ c ∧ c ≤ maxLen := ⟨h.2.1, h.2.2.1⟩
theorem Fr.le' (h : Fr S m w m1 w1) : ∀ b L, m b = some L → m1 b = some L := h.le
theorem Sl.le (h : Sl m A n c sz L) (hl : ∀ b L, m b = some L → m1 b = some L) : Sl m1 A n c sz L := by
  obtain ⟨h1, h2, h3, h4⟩ := h
  refine ⟨h1, h2, h3, ?_⟩
  rcases h4 with h | ⟨b, off, LL, hA, hb, hr⟩
  · exact .inl h
  · exact .inr ⟨b, off, LL, hA, hl _ _ hb, hr⟩
end
section
variable {P : Program} {ρ : Operand → Value} {w : World} {K : Value → World → Prop} {m : Ctx}
variable {dst : Option Tmp} {ty T U : TypeId} {pos : String} {af : Array Edge} {g : Option (Nat × Bool)} {x y : Operand} {v : Value}
/-- An append to a row that was handed in: only its own block is written. -/
theorem k_appendA {base : Nat} {t e n k c c' sz by_ : Nat} {A B : Option Addr} {L N zl : List Value} (ag : Ag m w) (hx : ρ x = .slice A n c) (hy : ρ y = .slice B k c') (hq : qsl P t = some (e, sz, by_)) (hz : qzero P e = some zl)
    (ho : Own m w base A n c e sz L) (hs : Src w B k N) (hc' : B = none → c' = 0) (hk : N.length = k * sz) (h1 : N.all (·.oneCell') = true) (hbb : base ≤ w.heap.size) (hz2 : (zl.length == sz && decide (0 < sz)) = true)
    (hb1 : n + k ≤ maxLen) (hb2 : (n + k) * by_ ≤ 140737488355328)
    (h : ∀ A' c'' w', Own m w' base A' (n + k) c'' e sz (L ++ N) → Fr (onA A) m w m w' → K (.slice A' (n + k) c'') w') : opk P ρ ⟨dst, .call ⟨.builtin .append, #[x, y], #[t, t]⟩, ty, pos, af, g⟩ w K := by
  simp only [Bool.and_eq_true, beq_iff_eq, decide_eq_true_eq] at hz2
  obtain ⟨A', c'', w', hr, hO, hF⟩ := append_run (ty := ty) ag hq hz hz2.1 hz2.2 ho hs hk h1 hb1 hb2 hbb hc'
  have hr' : (execOp ρ ⟨dst, .call ⟨.builtin .append, #[x, y], #[t, t]⟩, ty, pos, af, g⟩).run P w = .ok (.value (.slice A' (n + k) c'')) w' := by
    simp [execOp, resolve, invoke, builtin, hx, hy, hr]
  exact kv hr' (h _ _ _ hO hF)
end
section
variable {P : Program} {ρ : Operand → Value} {w : World} {dst : Option Tmp} {ty T U : TypeId} {pos : String} {af : Array Edge} {g : Option (Nat × Bool)} {x y : Operand} {i : Int} {j : Nat}
theorem r_lssI (hx : ρ x = .int .i64 i) (hy : ρ y = nn j) : (execOp ρ ⟨dst, .binOp .lss T x y U, ty, pos, af, g⟩).run P w = .ok (.value (.bool (decide (i < (j : Int))))) w := by
  simp [execOp, hx, hy, eqGuard, binOp, Op.intCmp]
theorem r_gtrI (hx : ρ x = .int .i64 i) (hy : ρ y = nn j) : (execOp ρ ⟨dst, .binOp .gtr T x y U, ty, pos, af, g⟩).run P w = .ok (.value (.bool (decide ((j : Int) < i)))) w := by
  simp [execOp, hx, hy, eqGuard, binOp, Op.intCmp]
end
/-- Cells as they are. -/
def vs (l : List Value) : List Value := l
theorem vs_length (l : List Value) : (vs l).length = l.length := rfl
theorem vs_append (l k : List Value) : vs (l ++ k) = vs l ++ vs k := rfl
theorem Own.vlen {m : Ctx} {w : World} {β n c : Nat} {e : TypeId} {sz : Nat} {A : Option Addr} {L : List Value} (h : Own m w β A n c e sz (vs L)) : (vs L).length = n * sz := h.1
theorem Sl.vlen {m : Ctx} {n c sz : Nat} {A : Option Addr} {L : List Value} (h : Sl m A n c sz (vs L)) : (vs L).length = n * sz := h.1
theorem ones_app {a b : List Value} (ha : a.all (·.oneCell') = true) (hb : b.all (·.oneCell') = true) : (vs (a ++ b)).all (·.oneCell') = true := by
  unfold vs; rw [List.all_append, ha, hb]; rfl
end Go.Proofs.YtiggfalelcepbaaGreatDoor

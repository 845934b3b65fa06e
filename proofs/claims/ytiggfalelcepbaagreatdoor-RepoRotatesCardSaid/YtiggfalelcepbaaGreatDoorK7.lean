/- Short forms of the laws of steps. No program text. -/
import Derived.Test.YtiggfalelcepbaaGreatDoorK6
namespace Go.Proofs.YtiggfalelcepbaaGreatDoor
open Go
section
variable {P : Program} {ops : Array Oper} {Q : Exit → Act → World → Prop} {a : Act} {L : List (Nat × Value)} {w : World} {rest : List Oper} {op : Op} {d n j t i k fuel : Nat} {b : Bool} {v : Value}
variable {ty : TypeId} {pos : String} {af : Array Edge}
theorem gv {w1 : World} (hr : (execOp (ov a L).eval ⟨some d, op, ty, pos, af, none⟩).run P w = .ok (.value v) w1) (h : WL P ops Q rest (ov a ((d, v) :: L)) w1) : WL P ops Q (⟨some d, op, ty, pos, af, none⟩ :: rest) (ov a L) w := sv rfl rfl hr h
theorem gk (h : opk P (ov a L).eval ⟨some d, op, ty, pos, af, none⟩ w (fun v w' => WL P ops Q rest (ov a ((d, v) :: L)) w')) : WL P ops Q (⟨some d, op, ty, pos, af, none⟩ :: rest) (ov a L) w := st rfl rfl h
theorem gz (h : opk P (ov a L).eval ⟨none, op, ty, pos, af, none⟩ w (fun _ w' => WL P ops Q rest (ov a L) w')) : WL P ops Q (⟨none, op, ty, pos, af, none⟩ :: rest) (ov a L) w := st0 rfl rfl h
theorem mv (hB : a.tmps.size = n) (hl : look n L t = some v) (h : WL P ops Q rest (ov a ((d, v) :: L)) w) : WL P ops Q (⟨some d, .move (.tmp t), ty, pos, af, none⟩ :: rest) (ov a L) w := sv rfl rfl (r_move (eh hB hl)) h
theorem ms (hB : a.tmps.size = n) (hl : look n L t = some v) (h : WL P ops Q rest (ov a ((d, v) :: L)) w) : WL P ops Q (⟨some d, .assign (.tmp t), ty, pos, af, none⟩ :: rest) (ov a L) w := sv rfl rfl (r_assign (eh hB hl)) h
theorem mw (hB : a.tmps.size = n) (hv : a.tmps.getD t undef = v) (h : WL P ops Q rest (ov a ((d, v) :: L)) w) (hl : L.lookup t = none := by rfl) (ht : decide (t < n) = true := by rfl) : WL P ops Q (⟨some d, .move (.tmp t), ty, pos, af, none⟩ :: rest) (ov a L) w := sv rfl rfl (r_move (em hB hl ht hv)) h
theorem nc {A : Addr} (hB : a.tmps.size = n) (hl : look n L t = some (.pointer (some A))) (h : WL P ops Q rest (ov a ((d, .pointer (some A)) :: L)) w) : WL P ops Q (⟨some d, .nilCheck (.tmp t), ty, pos, af, none⟩ :: rest) (ov a L) w := sv rfl rfl (r_nilCheck (eh hB hl)) h
theorem sk {x y : Code} (h : ∀ K : Act → World → Prop, (∀ {a w}, y.wp P Q a w → K a w) → x.wp P (Exit.then K Q) (ov a L) w) : (Code.seq x y).wp P Q (ov a L) w := wp_seq_k fun K hK => h K fun {_ _} => hK _ _
theorem rn {id : Nat} {l : List Oper} (h : WL P l.toArray Q l (ov a L) w) : (Code.region id l.toArray false).wp P Q (ov a L) w := wl_region h
theorem nl (h : Q .normal a w) : WL P ops Q [] a w := wl_nil h
theorem bl {id : Nat} {c : Code} (h : c.wp P (Exit.inBlock id Q) (ov a L) w) : (Code.block id c).wp P Q (ov a L) w := wp_block h
theorem ct {c : Operand} {x y : Code} (hc : (ov a L).eval c = .bool true) (h : x.wp P Q (ov a L) w) : (Code.cond c x y).wp P Q (ov a L) w := wp_cond_true hc h
theorem cf {c : Operand} {x y : Code} (hc : (ov a L).eval c = .bool false) (h : y.wp P Q (ov a L) w) : (Code.cond c x y).wp P Q (ov a L) w := wp_cond_false hc h
theorem cd {x y : Code} {p : Bool} (hB : a.tmps.size = n) (h : look n L t = some (.bool p)) (hk : x.wp P Q (ov a L) w) (hp : p = true := by decide) : (Code.cond (.tmp t) x y).wp P Q (ov a L) w := wp_cond_true (eb hB h hp) hk
theorem ce {x y : Code} {p : Bool} (hB : a.tmps.size = n) (h : look n L t = some (.bool p)) (hk : y.wp P Q (ov a L) w) (hp : p = false := by decide) : (Code.cond (.tmp t) x y).wp P Q (ov a L) w := wp_cond_false (eb hB h hp) hk
theorem ws (h : Q .normal (ov a L) w) : Code.skip.wp P Q (ov a L) w := wp_skip h
theorem we {id : Nat} (h : Q (.exit id) (ov a L) w) : (Code.exit id).wp P Q (ov a L) w := wp_exit h
end
section
variable {P : Program} {ρ : Operand → Value} {w : World} {K : Value → World → Prop} {m : Ctx}
variable {dst : Option Tmp} {ty T U : TypeId} {pos : String} {af : Array Edge} {g : Option (Nat × Bool)} {x y : Operand} {v : Value}
/-- A load, a store: what lies at known places is left to the kernel. -/
theorem la {t b off : Nat} {L : List Value} (hx : ρ x = .pointer (some ⟨b, off, none⟩)) (hb : Bk w b L) (hq : qrow P t = some false) (hv : L[off]? = some v := by kernel_rfl) : (execOp ρ ⟨dst, .load t x, ty, pos, af, g⟩).run P w = .ok (.value v) w := r_load1 hx hb hv hq
theorem lb {t b off n : Nat} {L cs : List Value} (hx : ρ x = .pointer (some ⟨b, off, none⟩)) (hb : Bk w b L) (hq : qrow P t = some true) (hs : qsz P t = some n) (hv : rdL L off n = cs := by kernel_rfl) (hl : cs.length = n := by kernel_rfl) :
    (execOp ρ ⟨dst, .load t x, ty, pos, af, g⟩).run P w = .ok (.value (.agg cs.toArray)) w := r_loadN hx hb hv hl hq hs
theorem kt {b off t n : Nat} {L L' : List Value} (ag : Ag m w) (hx : ρ x = .pointer (some ⟨b, off, none⟩)) (hy : ρ y = v) (hm : Mu m w b T L) (hs : qsz P t = some n)
    (h : ∀ w', Mu m w' b T L' → Fr (on b) m w m w' → K undef w') (hn : v.cells.toList.length = n := by kernel_rfl) (h1 : v.cells.toList.all (·.oneCell') = true := by kernel_rfl)
    (hl : off + n ≤ L.length := by exact of_decide_eq_true (by kernel_rfl)) (hw : wrL L off v.cells.toList = L' := by kernel_rfl) : opk P ρ ⟨dst, .store t x y, ty, pos, af, g⟩ w K := by
  subst hn
  exact k_store ag hx hy hm rfl hs h1 hl hw h
end
section
variable {S S' : Nat → Prop} {m m1 m2 : Ctx} {w w1 w2 : World} {b β : Nat}
/-- What was laid since is written. -/
theorem Fr.tn (h1 : Fr S m w m1 w1) (h2 : Fr (on b) m1 w1 m2 w2) (hb : w.heap.size ≤ b) : Fr S m w m2 w2 := h1.tr h2 fun x hx => .inl (by have h_ : x = b := hx; omega)
theorem Fr.tg (h1 : Fr S m w m1 w1) (h2 : Fr (ge β) m1 w1 m2 w2) (hb : w.heap.size ≤ β) : Fr S m w m2 w2 := h1.tr h2 fun x hx => .inl (by have h_ : β ≤ x := hx; omega)
theorem Fr.ll (h1 : ∀ b L, m b = some L → m1 b = some L) (h2 : Fr S m1 w1 m2 w2) : ∀ b L, m b = some L → m2 b = some L := fun b L h => h2.le b L (h1 b L h)
theorem Fr.l2 (h1 : Fr S m w m1 w1) (h2 : Fr S' m1 w1 m2 w2) : ∀ b L, m b = some L → m2 b = some L := fun b L h => h2.le b L (h1.le b L h)
end
end Go.Proofs.YtiggfalelcepbaaGreatDoor

/- Laws for single operations: values, addresses, loads. No program text. -/
import Derived.Test.YtiggfalelcepbaaGreatDoorK1
import Derived.Great.BuildSlice
import Derived.Laws.BytesString
import Derived.Lib.ConvBytes
namespace Go.Proofs.YtiggfalelcepbaaGreatDoor
open Go

/-! ### What is asked of a program's tables -/
def qsz (P : Program) (t : TypeId) : Option Nat := (P.info? t).map (·.size)
def qrow (P : Program) (t : TypeId) : Option Bool := (P.underlying t).map fun | .struct _ | .array _ _ => true | _ => false
/-- Where a field lies that has a cell. -/
def qfld (P : Program) (s f : Nat) : Option Nat :=
  match P.underlying s with
  | some (.struct fs) => (fs[f]?).bind fun d => (P.info? d.type).bind fun i => if i.size = 0 then none else some d.offset
  | _ => none
/-- A field of a value: its offset and type. -/
def qpart (P : Program) (s f : Nat) : Option (Nat × TypeId) :=
  match P.underlying s with
  | some (.struct fs) => (fs[f]?).map fun d => (d.offset, d.type)
  | _ => none
/-- An array's length and its elements' type and size. -/
def qarr (P : Program) (t : TypeId) : Option (Nat × TypeId × Nat) :=
  match P.underlying t with
  | some (.array n e) => (P.info? e).map fun i => (n, e, i.size)
  | _ => none
/-- A slice's elements' type, size in cells, in bytes. -/
def qsl (P : Program) (t : TypeId) : Option (TypeId × Nat × Nat) :=
  match P.underlying t with
  | some (.slice e) => (P.info? e).map fun i => (e, i.size, i.bytes)
  | _ => none
def qzero (P : Program) (t : TypeId) : Option (List Value) := ((P.info? t).bind (·.zero)).map (·.cells.toList)
def qund (P : Program) (t : TypeId) : Option TypeDesc := P.underlying t

section
variable {P : Program} {ρ : Operand → Value} {w w' : World} {K : Value → World → Prop} {o : Oper}
/-- It yields a value. -/
theorem kv {v : Value} (hr : (execOp ρ o).run P w = .ok (.value v) w') (hk : K v w') : opk P ρ o w K := .inl ⟨v, w', hr, hk⟩
theorem ks (hr : (execOp ρ o).run P w = .ok .skip w') (hk : K undef w') : opk P ρ o w K := .inr (.inl ⟨w', hr, hk⟩)

variable {dst : Option Tmp} {ty : TypeId} {pos : String} {af : Array Edge} {g : Option (Nat × Bool)} {x y z : Operand} {v u : Value}
theorem r_move (hx : ρ x = v) : (execOp ρ ⟨dst, .move x, ty, pos, af, g⟩).run P w = .ok (.value v) w := by rw [← hx]; rfl
theorem r_assign (hx : ρ x = v) : (execOp ρ ⟨dst, .assign x, ty, pos, af, g⟩).run P w = .ok (.value v) w := by rw [← hx]; rfl
theorem r_pick_t (hc : ρ z = .bool true) (hx : ρ x = v) : (execOp ρ ⟨dst, .pick z x y, ty, pos, af, g⟩).run P w = .ok (.value v) w := by
  simp only [execOp, hc, hx, asBool, Sem.run_bind, Sem.run_pure, Result.andThen_ok, if_true]
theorem r_pick_f (hc : ρ z = .bool false) (hy : ρ y = v) : (execOp ρ ⟨dst, .pick z x y, ty, pos, af, g⟩).run P w = .ok (.value v) w := by
  simp only [execOp, hc, hy, asBool, Sem.run_bind, Sem.run_pure, Result.andThen_ok, Bool.false_eq_true, if_false]
theorem r_nilCheck {a : Addr} (hx : ρ x = .pointer (some a)) : (execOp ρ ⟨dst, .nilCheck x, ty, pos, af, g⟩).run P w = .ok (.value (.pointer (some a))) w := by
  simp only [execOp, hx]; rfl
theorem r_extract {vs : Array Value} {k : Nat} (hx : ρ x = .tuple vs) (hv : vs[k]? = some v) : (execOp ρ ⟨dst, .extract x k, ty, pos, af, g⟩).run P w = .ok (.value v) w := by
  simp only [execOp, hx, Instr.extract, hv, Sem.run_bind, Sem.run_pure, Result.andThen_ok]
theorem r_makeFunc {fn : Fn} {first cap : Array Operand} {fv cv : List Value} (hf : first.toList.map ρ = fv) (hc : cap.toList.map ρ = cv) :
    (execOp ρ ⟨dst, .makeFunc fn first cap, ty, pos, af, g⟩).run P w = .ok (.value (.func fn fv.toArray cv.toArray)) w := by
  have e1 : first.map ρ = fv.toArray := by rw [← hf]; apply Array.toList_inj.1; simp
  have e2 : cap.map ρ = cv.toArray := by rw [← hc]; apply Array.toList_inj.1; simp
  simp only [execOp, Instr.makeFunc, e1, e2, Sem.run_bind, Sem.run_pure, Result.andThen_ok]

/-! ### Addresses -/
theorem r_field {s f b off fo o' : Nat} (hx : ρ x = .pointer (some ⟨b, off, none⟩)) (hq : qfld P s f = some fo) (ho : off + fo = o') :
    (execOp ρ ⟨dst, .fieldAddr s x f, ty, pos, af, g⟩).run P w = .ok (.value (.pointer (some ⟨b, o', none⟩))) w := by
  subst ho
  unfold qfld at hq
  cases hu : P.underlying s with
  | none => simp [hu] at hq
  | some d =>
    cases d <;> simp only [hu] at hq <;> try cases hq
    rename_i fs
    cases hf : fs[f]? with
    | none => simp [hf] at hq
    | some d =>
      simp only [hf, Option.bind_some] at hq
      cases hi : P.info? d.type with
      | none => simp [hi] at hq
      | some i =>
        simp only [hi, Option.bind_some] at hq
        split at hq
        · cases hq
        · rename_i h0
          cases hq
          simp [execOp, hx, Instr.fieldAt, run_underlying hu, hf, Instr.sureAddr, fieldPlace, sizeOf, typeInfo, hi, h0, add_off]
theorem r_idxA {t b off n e sz i o' : Nat} {k : IntKind} (hx : ρ x = .pointer (some ⟨b, off, none⟩)) (hy : ρ y = .int k (i : Int)) (hq : qarr P t = some (n, e, sz)) (hi : i < n) (ho : off + i * sz = o') :
    (execOp ρ ⟨dst, .indexAddr t x y, ty, pos, af, g⟩).run P w = .ok (.value (.pointer (some ⟨b, o', none⟩))) w := by
  subst ho
  unfold qarr at hq
  cases hu : P.underlying t with
  | none => simp [hu] at hq
  | some d =>
    cases d <;> simp only [hu] at hq <;> try cases hq
    rename_i n' e'
    cases hq' : P.info? e' with
    | none => simp [hq'] at hq
    | some inf =>
      simp only [hq', Option.map_some, Option.some.injEq, Prod.mk.injEq] at hq
      obtain ⟨rfl, rfl, rfl⟩ := hq
      simp [execOp, hx, hy, Instr.indexAt, asIntOf, run_underlying hu, Instr.sureAddr, sizeOf, typeInfo, hq', hi, add_off]
theorem r_idxS {t b off n c e sz by_ i o' : Nat} {k : IntKind} (hx : ρ x = .slice (some ⟨b, off, none⟩) n c) (hy : ρ y = .int k (i : Int)) (hq : qsl P t = some (e, sz, by_)) (hi : i < n) (ho : off + i * sz = o') :
    (execOp ρ ⟨dst, .indexAddr t x y, ty, pos, af, g⟩).run P w = .ok (.value (.pointer (some ⟨b, o', none⟩))) w := by
  subst ho
  unfold qsl at hq
  cases hu : P.underlying t with
  | none => simp [hu] at hq
  | some d =>
    cases d <;> simp only [hu] at hq <;> try cases hq
    rename_i e'
    cases hq' : P.info? e' with
    | none => simp [hq'] at hq
    | some inf =>
      simp only [hq', Option.map_some, Option.some.injEq, Prod.mk.injEq] at hq
      obtain ⟨rfl, rfl, rfl⟩ := hq
      simp [execOp, hx, hy, Instr.indexAt, asIntOf, run_underlying hu, sizeOf, typeInfo, hq', hi, add_off]
/-- The whole of an array's variable as a slice. -/
theorem r_sliceA {t b off n e sz : Nat} (hx : ρ x = .pointer (some ⟨b, off, none⟩)) (hq : qarr P t = some (n, e, sz)) :
    (execOp ρ ⟨dst, .slice t x none none none, ty, pos, af, g⟩).run P w = .ok (.value (.slice (some ⟨b, off, none⟩) n n)) w := by
  unfold qarr at hq
  cases hu : P.underlying t with
  | none => simp [hu] at hq
  | some d =>
    cases d <;> simp only [hu] at hq <;> try cases hq
    rename_i n' e'
    cases hq' : P.info? e' with
    | none => simp [hq'] at hq
    | some inf =>
      simp only [hq', Option.map_some, Option.some.injEq, Prod.mk.injEq] at hq
      obtain ⟨rfl, rfl, rfl⟩ := hq
      simp [execOp, hx, Instr.sliceAt, Instr.sliceBounds, run_underlying hu, Instr.sureAddr, sizeOf, typeInfo, hq', Addr.add]
/-- An array's variable from a place on. -/
theorem r_sliceAlo {t b off n e sz lo o' : Nat} {k : IntKind} (hx : ρ x = .pointer (some ⟨b, off, none⟩)) (hy : ρ y = .int k (lo : Int)) (hq : qarr P t = some (n, e, sz)) (hl : lo < n) (ho : off + lo * sz = o') :
    (execOp ρ ⟨dst, .slice t x (some y) none none, ty, pos, af, g⟩).run P w = .ok (.value (.slice (some ⟨b, o', none⟩) (n - lo) (n - lo))) w := by
  subst ho
  unfold qarr at hq
  cases hu : P.underlying t with
  | none => simp [hu] at hq
  | some d =>
    cases d <;> simp only [hu] at hq <;> try cases hq
    rename_i n' e'
    cases hq' : P.info? e' with
    | none => simp [hq'] at hq
    | some inf =>
      simp only [hq', Option.map_some, Option.some.injEq, Prod.mk.injEq] at hq
      obtain ⟨rfl, rfl, rfl⟩ := hq
      have h1 : lo ≤ n' := by omega
      have h2 : ¬ n' = lo := by omega
      simp [execOp, hx, hy, Instr.sliceAt, Instr.sliceBounds, Instr.sliceBound, asIntOf, run_underlying hu, Instr.sureAddr, sizeOf, typeInfo, hq', h1, h2, add_off]
/-- Where the rest of a slice begins. -/
def sA (A : Option Addr) (c lo sz : Nat) : Option Addr := if c = lo then A else A.map (·.add (lo * sz))
/-- A slice of a slice, from a place on. -/
theorem r_sliceLo {t n c e sz by_ lo : Nat} {A : Option Addr} {k : IntKind} (hx : ρ x = .slice A n c) (hy : ρ y = .int k (lo : Int)) (hq : qsl P t = some (e, sz, by_)) (hl : lo ≤ n) (hc : n ≤ c) :
    (execOp ρ ⟨dst, .slice t x (some y) none none, ty, pos, af, g⟩).run P w = .ok (.value (.slice (sA A c lo sz) (n - lo) (c - lo))) w := by
  unfold qsl at hq
  cases hu : P.underlying t with
  | none => simp [hu] at hq
  | some d =>
    cases d <;> simp only [hu] at hq <;> try cases hq
    rename_i e'
    cases hq' : P.info? e' with
    | none => simp [hq'] at hq
    | some inf =>
      simp only [hq', Option.map_some, Option.some.injEq, Prod.mk.injEq] at hq
      obtain ⟨rfl, rfl, rfl⟩ := hq
      simp [execOp, hx, hy, Instr.sliceAt, Instr.slice, Instr.sliceBounds, Instr.sliceBound, asIntOf, run_underlying hu, sizeOf, typeInfo, hq', hl, sA]
/-- A slice of a slice, up to a place. -/
theorem r_sliceHi {t n c e sz by_ hi : Nat} {A : Option Addr} {k : IntKind} (hx : ρ x = .slice A n c) (hy : ρ y = .int k (hi : Int)) (hq : qsl P t = some (e, sz, by_)) (hl : hi ≤ c) :
    (execOp ρ ⟨dst, .slice t x none (some y) none, ty, pos, af, g⟩).run P w = .ok (.value (.slice A hi c)) w := by
  unfold qsl at hq
  cases hu : P.underlying t with
  | none => simp [hu] at hq
  | some d =>
    cases d <;> simp only [hu] at hq <;> try cases hq
    rename_i e'
    cases hq' : P.info? e' with
    | none => simp [hq'] at hq
    | some inf =>
      simp only [hq', Option.map_some, Option.some.injEq, Prod.mk.injEq] at hq
      obtain ⟨rfl, rfl, rfl⟩ := hq
      have ha : ∀ a : Addr, a.add 0 = a := fun a => by simp [Addr.add]
      cases A <;>
        simp [execOp, hx, hy, Instr.sliceAt, Instr.slice, Instr.sliceBounds, Instr.sliceBound, asIntOf, run_underlying hu, sizeOf, typeInfo, hq', hl, ha]
/-- Both bounds. -/
theorem r_sliceLH {t n c e sz by_ lo hi : Nat} {A : Option Addr} {k k' : IntKind} (hx : ρ x = .slice A n c) (hy : ρ y = .int k (lo : Int)) (hz : ρ z = .int k' (hi : Int)) (hq : qsl P t = some (e, sz, by_)) (hl : lo ≤ hi) (hh : hi ≤ c) :
    (execOp ρ ⟨dst, .slice t x (some y) (some z) none, ty, pos, af, g⟩).run P w = .ok (.value (.slice (sA A c lo sz) (hi - lo) (c - lo))) w := by
  unfold qsl at hq
  cases hu : P.underlying t with
  | none => simp [hu] at hq
  | some d =>
    cases d <;> simp only [hu] at hq <;> try cases hq
    rename_i e'
    cases hq' : P.info? e' with
    | none => simp [hq'] at hq
    | some inf =>
      simp only [hq', Option.map_some, Option.some.injEq, Prod.mk.injEq] at hq
      obtain ⟨rfl, rfl, rfl⟩ := hq
      simp [execOp, hx, hy, hz, Instr.sliceAt, Instr.slice, Instr.sliceBounds, Instr.sliceBound, asIntOf, run_underlying hu, sizeOf, typeInfo, hq', hl, hh, sA]

/-! ### Loads -/
theorem r_load1 {t b off : Nat} {L : List Value} (hx : ρ x = .pointer (some ⟨b, off, none⟩)) (hb : Bk w b L) (hv : L[off]? = some v) (hq : qrow P t = some false) :
    (execOp ρ ⟨dst, .load t x, ty, pos, af, g⟩).run P w = .ok (.value v) w := by
  unfold qrow at hq
  cases hu : P.underlying t with
  | none => simp [hu] at hq
  | some d =>
    have hc : w.cell? ⟨b, off, none⟩ = some v := by rw [hb.cell]; exact hv
    have ha : (isAgg t).run P w = .ok false w := by
      unfold isAgg
      rw [Sem.run_bind, run_underlying hu w]
      cases d <;> simp_all
    have hl : (load ⟨b, off, none⟩).run P w = .ok v w := by simp [load, Sem.run, hc]
    simp only [execOp, hx, Instr.loadAt, Instr.sureAddr, loadVar, Sem.run_bind, Sem.run_pure, Result.andThen_ok, ha, hl, Bool.false_eq_true, if_false]
theorem r_loadN {t b off n : Nat} {L cs : List Value} (hx : ρ x = .pointer (some ⟨b, off, none⟩)) (hb : Bk w b L) (hv : rdL L off n = cs) (hl : cs.length = n) (hq : qrow P t = some true) (hs : qsz P t = some n) :
    (execOp ρ ⟨dst, .load t x, ty, pos, af, g⟩).run P w = .ok (.value (.agg cs.toArray)) w := by
  unfold qrow at hq
  cases hu : P.underlying t with
  | none => simp [hu] at hq
  | some d =>
    have hd : d.isRow = true := by cases d <;> simp_all [TypeDesc.isRow]
    have hr : w.rangeAt b off cs := fun j u hj => by rw [hb.cell]; subst hv; exact rdL_get hj
    have := run_loadAt_mid w b off t cs d hr hu hd (by rw [hl]; exact hs)
    simp [execOp, hx, this]

/-- A result that lies in memory. -/
theorem res1c {fn : Func} {p : Tmp} {t b n : Nat} {tmps : Array Value} {L cs : List Value} (h : fn.results = #[.cell p t]) (P : Program) (w : World) (hv : tmps.getD p undef = .pointer (some ⟨b, 0, none⟩)) (hb : Bk w b L) (hr : rdL L 0 n = cs) (hl : cs.length = n) (hq : qrow P t = some true) (hs : qsz P t = some n) :
    (results fn tmps).run P w = .ok (.agg cs.toArray) w := by
  unfold qrow at hq
  cases hu : P.underlying t with
  | none => simp [hu] at hq
  | some d =>
    have hd : d.isRow = true := by cases d <;> simp_all [TypeDesc.isRow]
    have hrr : w.rangeAt b 0 cs := fun j u hj => by rw [hb.cell]; subst hr; exact rdL_get hj
    have := run_loadVar_mid w b 0 t cs d hrr hu hd (by rw [hl]; exact hs)
    have hv' : tmps[p]?.getD undef = .pointer (some ⟨b, 0, none⟩) := by simpa using hv
    simp [results, h, hv', asAddr, this]
theorem res2ct {fn : Func} {p q : Tmp} {t b n : Nat} {tmps : Array Value} {L cs : List Value} {u : Value} (h : fn.results = #[.cell p t, .tmp q]) (P : Program) (w : World) (hv : tmps.getD p undef = .pointer (some ⟨b, 0, none⟩)) (hu' : tmps.getD q undef = u) (hb : Bk w b L) (hr : rdL L 0 n = cs) (hl : cs.length = n) (hq : qrow P t = some true) (hs : qsz P t = some n) :
    (results fn tmps).run P w = .ok (.tuple #[.agg cs.toArray, u]) w := by
  unfold qrow at hq
  cases hu : P.underlying t with
  | none => simp [hu] at hq
  | some d =>
    have hd : d.isRow = true := by cases d <;> simp_all [TypeDesc.isRow]
    have hrr : w.rangeAt b 0 cs := fun j u hj => by rw [hb.cell]; subst hr; exact rdL_get hj
    have := run_loadVar_mid w b 0 t cs d hrr hu hd (by rw [hl]; exact hs)
    have hv' : tmps[p]?.getD undef = .pointer (some ⟨b, 0, none⟩) := by simpa using hv
    have hu'' : tmps[q]?.getD undef = u := by simpa using hu'
    simp [results, h, hv', hu'', asAddr, this]

/-! ### Values -/
theorem map_nil {α : Type} {f : α → Value} : List.map f [] = [] := rfl
theorem map_cons {α : Type} {f : α → Value} {a : α} {l : List α} {v : Value} {lv : List Value} (h : f a = v) (hl : l.map f = lv) : (a :: l).map f = v :: lv := by rw [List.map_cons, h, hl]
theorem pm_nil {f : Operand → Value} : List.map (fun q : Nat × Operand => (q.1, f q.2)) [] = [] := rfl
theorem pm_cons {f : Operand → Value} {i : Nat} {a : Operand} {l : List (Nat × Operand)} {v : Value} {lv : List (Nat × Value)} (h : f a = v) (hl : l.map (fun q : Nat × Operand => (q.1, f q.2)) = lv) :
    ((i, a) :: l).map (fun q : Nat × Operand => (q.1, f q.2)) = (i, v) :: lv := by rw [List.map_cons, hl]; simp [h]
theorem r_build {t : TypeId} {parts : Array (Nat × Operand)} {pv : List (Nat × Value)} {cs : List Value} (hp : parts.toList.map (fun q => (q.1, ρ q.2)) = pv) (hb : P.built t pv = some cs.toArray) :
    (execOp ρ ⟨dst, .build t parts, ty, pos, af, g⟩).run P w = .ok (.value (.agg cs.toArray)) w := by
  have e : (parts.map fun (i, x) => (i, ρ x)) = pv.toArray := by rw [← hp]; apply Array.toList_inj.1; simp
  have := run_build (P := P) w t pv.toArray cs.toArray (by simpa using hb)
  simp [execOp, e, this]
theorem r_fieldV {s f fo t n : Nat} {cs L : List Value} (hx : ρ x = .agg L.toArray) (hq : qpart P s f = some (fo, t)) (hr : qrow P t = some true) (hs : qsz P t = some n) (hv : rdL L fo n = cs) :
    (execOp ρ ⟨dst, .field s x f, ty, pos, af, g⟩).run P w = .ok (.value (.agg cs.toArray)) w := by
  unfold qpart at hq
  cases hu : P.underlying s with
  | none => simp [hu] at hq
  | some d =>
    cases d <;> simp only [hu] at hq <;> try cases hq
    rename_i fs
    cases hf : fs[f]? with
    | none => simp [hf] at hq
    | some d =>
      simp only [hf, Option.map_some, Option.some.injEq, Prod.mk.injEq] at hq
      obtain ⟨rfl, rfl⟩ := hq
      have ha : (isAgg d.type).run P w = .ok true w := by
        unfold qrow at hr
        cases hu' : P.underlying d.type with
        | none => simp [hu'] at hr
        | some d' => unfold isAgg; rw [Sem.run_bind, run_underlying hu' w]; cases d' <;> simp_all
      have hs' : (sizeOf d.type).run P w = .ok n w := by
        unfold qsz at hs
        cases hi : P.info? d.type with
        | none => simp [hi] at hs
        | some i => simp [sizeOf, typeInfo, hi] at hs ⊢; exact hs
      subst hv
      simp [execOp, hx, Instr.field, run_underlying hu, hf, part, asAgg, ha, hs', rdL]
theorem r_field1 {s f fo t : Nat} {L : List Value} (hx : ρ x = .agg L.toArray) (hq : qpart P s f = some (fo, t)) (hr : qrow P t = some false) (hv : L[fo]? = some v) :
    (execOp ρ ⟨dst, .field s x f, ty, pos, af, g⟩).run P w = .ok (.value v) w := by
  unfold qpart at hq
  cases hu : P.underlying s with
  | none => simp [hu] at hq
  | some d =>
    cases d <;> simp only [hu] at hq <;> try cases hq
    rename_i fs
    cases hf : fs[f]? with
    | none => simp [hf] at hq
    | some d =>
      simp only [hf, Option.map_some, Option.some.injEq, Prod.mk.injEq] at hq
      obtain ⟨rfl, rfl⟩ := hq
      have ha : (isAgg d.type).run P w = .ok false w := by
        unfold qrow at hr
        cases hu' : P.underlying d.type with
        | none => simp [hu'] at hr
        | some d' => unfold isAgg; rw [Sem.run_bind, run_underlying hu' w]; cases d' <;> simp_all
      simp [execOp, hx, Instr.field, run_underlying hu, hf, part, asAgg, ha, hv]
/-- An element of one cell out of an array's value. -/
theorem r_index1 {t n e i : Nat} {k : IntKind} {L : List Value} (hx : ρ x = .agg L.toArray) (hy : ρ y = .int k (i : Int)) (hq : qarr P t = some (n, e, 1)) (hr : qrow P e = some false) (hi : i < n) (hv : L[i]? = some v) :
    (execOp ρ ⟨dst, .index t x y, ty, pos, af, g⟩).run P w = .ok (.value v) w := by
  unfold qarr at hq
  cases hu : P.underlying t with
  | none => simp [hu] at hq
  | some d =>
    cases d <;> simp only [hu] at hq <;> try cases hq
    rename_i n' e'
    cases hq' : P.info? e' with
    | none => simp [hq'] at hq
    | some inf =>
      simp only [hq', Option.map_some, Option.some.injEq, Prod.mk.injEq] at hq
      obtain ⟨rfl, rfl, hsz⟩ := hq
      have ha : (isAgg e').run P w = .ok false w := by
        unfold qrow at hr
        cases hu' : P.underlying e' with
        | none => simp [hu'] at hr
        | some d' => unfold isAgg; rw [Sem.run_bind, run_underlying hu' w]; cases d' <;> simp_all
      simp [execOp, hx, hy, Instr.index, asIntOf, run_underlying hu, hi, sizeOf, typeInfo, hq', hsz, part, ha, hv]
/-- An element of several cells out of an array's value. -/
theorem r_indexN {t n e sz i : Nat} {k : IntKind} {L cs : List Value} (hx : ρ x = .agg L.toArray) (hy : ρ y = .int k (i : Int)) (hq : qarr P t = some (n, e, sz)) (hr : qrow P e = some true) (hi : i < n) (hv : rdL L (i * sz) sz = cs) :
    (execOp ρ ⟨dst, .index t x y, ty, pos, af, g⟩).run P w = .ok (.value (.agg cs.toArray)) w := by
  unfold qarr at hq
  cases hu : P.underlying t with
  | none => simp [hu] at hq
  | some d =>
    cases d <;> simp only [hu] at hq <;> try cases hq
    rename_i n' e'
    cases hq' : P.info? e' with
    | none => simp [hq'] at hq
    | some inf =>
      simp only [hq', Option.map_some, Option.some.injEq, Prod.mk.injEq] at hq
      obtain ⟨rfl, rfl, hsz⟩ := hq
      have ha : (isAgg e').run P w = .ok true w := by
        unfold qrow at hr
        cases hu' : P.underlying e' with
        | none => simp [hu'] at hr
        | some d' => unfold isAgg; rw [Sem.run_bind, run_underlying hu' w]; cases d' <;> simp_all
      subst hv
      simp [execOp, hx, hy, Instr.index, asIntOf, run_underlying hu, hi, sizeOf, typeInfo, hq', hsz, part, ha, rdL]
theorem r_indexStr {t i : Nat} {k : IntKind} {s : ByteArray} {c : UInt8} (hx : ρ x = .string s) (hy : ρ y = .int k (i : Int)) (hu : P.underlying t = some .string) (hv : s[i]? = some c) :
    (execOp ρ ⟨dst, .index t x y, ty, pos, af, g⟩).run P w = .ok (.value (u8 c)) w := by
  simp [execOp, hx, hy, Instr.index, asIntOf, run_underlying hu, hv]
theorem r_lenS {t n c : Nat} {A : Option Addr} {e : TypeId} {at' : Array TypeId} (hx : ρ x = .slice A n c) (ha : at'[0]? = some t) (hu : P.underlying t = some (.slice e)) :
    (execOp ρ ⟨dst, .call ⟨.builtin .len, #[x], at'⟩, ty, pos, af, g⟩).run P w = .ok (.value (nn n)) w := by
  simp [execOp, resolve, invoke, builtin, Builtin.len_, hx, ha, run_underlying hu, goInt]
theorem r_lenStr {t : TypeId} {s : ByteArray} {at' : Array TypeId} (hx : ρ x = .string s) (ha : at'[0]? = some t) (hu : P.underlying t = some .string) :
    (execOp ρ ⟨dst, .call ⟨.builtin .len, #[x], at'⟩, ty, pos, af, g⟩).run P w = .ok (.value (nn s.size)) w := by
  simp [execOp, resolve, invoke, builtin, Builtin.len_, hx, ha, run_underlying hu, goInt]
theorem r_min {i j : Nat} {at' : Array TypeId} (hx : ρ x = nn i) (hy : ρ y = nn j) :
    (execOp ρ ⟨dst, .call ⟨.builtin .min, #[x, y], at'⟩, ty, pos, af, g⟩).run P w = .ok (.value (nn (min i j))) w := by
  have e : (if j < i then (j : Int) else i) = ((min i j : Nat) : Int) := by split <;> omega
  simp [execOp, resolve, invoke, builtin, Builtin.min_, Builtin.min2, hx, hy, e]
theorem r_max {i j : Nat} {at' : Array TypeId} (hx : ρ x = nn i) (hy : ρ y = nn j) :
    (execOp ρ ⟨dst, .call ⟨.builtin .max, #[x, y], at'⟩, ty, pos, af, g⟩).run P w = .ok (.value (nn (max i j))) w := by
  have e : (if i < j then (j : Int) else i) = ((max i j : Nat) : Int) := by split <;> omega
  simp [execOp, resolve, invoke, builtin, Builtin.max_, Builtin.max2, hx, hy, e]
end
end Go.Proofs.YtiggfalelcepbaaGreatDoor

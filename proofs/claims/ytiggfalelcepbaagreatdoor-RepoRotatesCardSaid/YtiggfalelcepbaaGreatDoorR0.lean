/- RepoRotates: for every seed and every number the law's call returns true and leaves its arguments as they read. The conditions are the row's own: the two listed tables of the library hold what their text lays; the card ties them. -/
import Derived.Test.YtiggfalelcepbaaGreatDoorRows
import Derived.Test.YtiggfalelcepbaaGreatDoorTie
import Derived.Test.YtiggfalelcepbaaGreatDoorCards
import Derived.Test.YtiggfalelcepbaaGreatDoorW23
import Derived.ProofKit
import Derived.OpenShut
import Derived.Lay
import Derived.LaidOnce
import Derived.SevenTiedAt
namespace Go.Proofs.YtiggfalelcepbaaGreatDoor
open Go Go.RowKit Go.ChangeShapes Go.WideShapes Go.ChangeAt
set_option maxRecDepth 100000
set_option maxHeartbeats 4000000
/-- The walk, for every number. -/
theorem walked {m : Ctx} {w : World} (ag : Ag m w) (s : Bytes) (z : Int) : Calls Tryz.prog 3 #[H s, .int .i64 z] w (Ret fun v w' => ∃ m', v = .bool true ∧ Fr no m w m' w') := by
  by_cases h : z < 1 ∨ 4 < z
  · exact f3_0 ag h
  · obtain ⟨n, rfl⟩ : ∃ n : Nat, z = n := ⟨z.toNat, by omega⟩
    exact f3_1 ag (by omega) (by omega)
section
variable {Hd : Type} {enc : TypeId × Value → Hd} {P : Program} {w w' : World} {base base' : Nat} {spare spare' : Nat → Bool} {held held' : Bool} {fuel : Nat} {t e : TypeId} {k : IntKind} {cs : List Value}
theorem trod_int_any (he : P.underlying e = some (.int k)) : DataW.trod enc P w base spare held fuel e cs = DataW.trod enc P w' base' spare' held' fuel e cs := by
  cases fuel with
  | zero => rfl
  | succ f =>
    unfold DataW.trod
    rw [he]
    split <;> simp_all
theorem trod_array_any {n : Nat} (ht : P.underlying t = some (.array n e)) (he : P.underlying e = some (.int k)) : DataW.trod enc P w base spare held fuel t cs = DataW.trod enc P w' base' spare' held' fuel t cs := by
  cases fuel with
  | zero => rfl
  | succ f =>
    unfold DataW.trod
    rw [ht]
    have h1 : (fun i => DataW.trod enc P w base spare held f e ((cs.drop (i * P.cellsOf e)).take (P.cellsOf e))) = (fun i => DataW.trod enc P w' base' spare' held' f e ((cs.drop (i * P.cellsOf e)).take (P.cellsOf e))) := by
      funext i; exact trod_int_any he
    simp only [h1]
/-- A digest, opened: its cells are those of 32 bytes. -/
theorem open_hash {v : Value} {d : DataW Hd} {ps : List MemPlace} (ht : P.underlying t = some (.array 32 e)) (he : P.underlying e = some (.int .u8)) (hc : P.cellsOf e = 1) (hct : P.cellsOf t = 32)
    (hval : ∃ xs, v = .agg xs ∧ xs.size = P.cellsOf t) (hd : DataW.Trod enc P w base spare held t v d ps) : ∃ s : Bytes, v = H s ∧ ps = [] := by
  obtain ⟨xs, rfl, hx⟩ := hval
  rw [hct] at hx
  obtain ⟨f, hf⟩ := hd
  obtain ⟨ys, m, rfl, hy, hl, hn, hel⟩ := DataW.trod_array ht hf
  simp only [Value.cells] at hl hel
  rw [hc] at hel
  have hlen : xs.toList.length = 32 := by simpa using hx
  have hget : ∀ i, (hi : i < 32) → ∃ n : UInt8, xs.toList[i]? = some (u8 n) ∧ (ys[i]?.map (·.2)) = some [] := by
    intro i hi
    have h := hel i hi
    have hyi : i < ys.length := by omega
    rw [List.getElem?_eq_getElem hyi] at h
    rw [Nat.mul_one] at h
    obtain ⟨n, h1, h2, h3⟩ := DataW.trod_int he h
    have hxi : i < xs.toList.length := by omega
    have h4 : (xs.toList.drop i).take 1 = [xs.toList[i]] := by
      rw [List.drop_eq_getElem_cons hxi]; rfl
    rw [h4] at h1
    have hb : 0 ≤ n ∧ n ≤ 255 := by simpa [Lit.wf, IntKind.min, IntKind.max, IntKind.signed, IntKind.bits] using h3
    refine ⟨UInt8.ofNat n.toNat, ?_, ?_⟩
    · rw [List.getElem?_eq_getElem hxi]
      simp only [List.cons.injEq, and_true] at h1
      rw [h1]
      have : (UInt8.ofNat n.toNat).toNat = n.toNat := by simp; omega
      rw [show u8 (UInt8.ofNat n.toNat) = .int .u8 ((UInt8.ofNat n.toNat).toNat : Int) from rfl, this]
      congr 2
      omega
    · rw [List.getElem?_eq_getElem hyi]
      simp [h2]
  let s : Bytes := (List.range 32).map fun i => if h : i < 32 then (hget i h).choose else 0
  have hs : ∀ i, (hi : i < 32) → xs.toList[i]? = some (u8 (s.getD i 0)) := by
    intro i hi
    have := (hget i hi).choose_spec.1
    rw [this]
    simp [s, List.getD, hi]
  refine ⟨s, ?_, ?_⟩
  · have h2 : xs.toList = Go.Proofs.YtiggfalelcepbaaGreatDoor.hc s := by
      apply List.ext_getElem?
      intro i
      by_cases hi : i < 32
      · rw [hs i hi]; exact (hc_get hi).symm
      · rw [List.getElem?_eq_none (by omega), List.getElem?_eq_none (by show 32 ≤ i; omega)]
    show Value.agg xs = Value.agg (Go.Proofs.YtiggfalelcepbaaGreatDoor.hc s).toArray
    rw [← h2]
  · simp only [Prod.mk.injEq] at hy
    rw [hy.2]
    apply List.flatMap_eq_nil_iff.2
    intro y hy'
    obtain ⟨i, hi, rfl⟩ := List.mem_iff_getElem.1 hy'
    have := (hget i (by omega)).choose_spec.2
    rw [List.getElem?_eq_getElem hi] at this
    simpa using this
end
theorem Fr.below {m m' : Ctx} {w w' : World} (h : Fr no m w m' w') : Below w.heap.size w w' := ⟨h.os, h.tape, h.output, h.size, fun k hk => (h.blk k hk (fun e => e)).1⟩
theorem own : ownKnob Tryz.prog.godebug = none := by kernel_rfl
abbrev laidL : List (String × DataW Unit) := Rows.repoRotatesRow.laid
theorem ct23 : Tryz.prog.cellsOf 23 = 32 := by kernel_rfl
theorem ct5 : Tryz.prog.cellsOf 5 = 1 := by kernel_rfl
theorem lifted (os : Os) (started : os.Started) (Hd : Type) (enc : TypeId × Value → Hd) :
    ReturnsInHanded {} Tryz.checked os 3 .any (fun w args => (Rows.repoRotatesSpec.pre enc Tryz.prog Tryz.f3 [] false w args ∧ laidMetH Tryz.prog laidL w) ∧ sizedMet enc Tryz.prog Tryz.f3 (OpenSpec.ofChange Rows.repoRotatesSpec) false w args)
      (Rows.repoRotatesSpec.post enc Tryz.prog Tryz.f3 false true false false) := by
  refine returnsInHanded_of_change_and (C := Tryz.checked) (X := fun w _ => laidMetH Tryz.prog laidL w) (fun _ _ _ hh h => h.of_heap hh) own started (by kernel_rfl) Tryz.func3
    (ChangeSpec.witness_shaped (enc := enc) (C := Tryz.checked) (os := os) (X := fun w _ => laidMetH Tryz.prog laidL w) false (World.laidAll Tryz.prog os laidL) #[.agg (List.replicate 32 (.int .u8 0)).toArray, .int .i64 0] 8 (World.laidAll_os _ _ _)
      (World.shaped_of_ZipB (by kernel_rfl) (by kernel_rfl)) (by kernel_rfl) (by kernel_rfl) (by kernel_rfl)
      (by rw [MakeChecks.laidMetH_plain _ _ _ (by kernel_rfl)]; exact laidMet_laidAll _ (by kernel_rfl) (by kernel_rfl))) ?_
  intro W base args ds gs before hval0 hW _ _ hL _
  have hval : ∀ (j : Nat) t v, Tryz.f3.params[j]? = some t → args[j]? = some v → Value.okWide Tryz.prog W .any base t v := hval0
  have hW' := hW
  obtain ⟨p, q, hA0, hV, rfl, _, _⟩ := hW
  have hA : DataW.TrodAll enc Tryz.prog W 0 (fun _ => true) true Tryz.f3.params.toList args.toList ds p := hA0
  rw [Tryz.params3] at hA hval
  obtain ⟨v0, v1, d0, d1, p0, p1, rfl, rfl, rfl, h0, h1⟩ := trodAll_two hA
  obtain ⟨rfl, rfl⟩ := trodVars_none hV
  obtain ⟨z, rfl, rfl, rfl, wz⟩ := open_int Tryz.underlying3 (hval 1 3 v1 rfl rfl) h1
  have hv0 : ∃ xs, v0 = .agg xs ∧ xs.size = Tryz.prog.cellsOf 23 := by
    have h := hval 0 23 v0 rfl rfl
    unfold Value.okWide at h
    rw [Tryz.underlying23] at h
    obtain ⟨xs, h1, h2, _⟩ := h
    exact ⟨xs, h1, h2⟩
  obtain ⟨s, rfl, rfl⟩ := open_hash Tryz.underlying23 Tryz.underlying5 ct5 ct23 hv0 h0
  simp only [List.append_nil] at hW'
  refine (walked (m := fun _ => none) (w := W) (fun b L h => by cases h) s z).mono fun e W' he => ?_
  obtain ⟨v, rfl, m', rfl, hf⟩ := he
  have h0' : DataW.Trod enc Tryz.prog W' 0 (fun b => decide (b < W.heap.size)) true 23 (H s) d0 [] := by
    obtain ⟨f, hf0⟩ := h0
    exact ⟨f, by rw [← hf0]; exact trod_array_any Tryz.underlying23 Tryz.underlying5⟩
  exact ⟨_, rfl, _, _, _, [], [], [], hW', trodAll_mk1 (shut_bool Tryz.underlying4 _), trodAll_mk2 h0' (shut_int Tryz.underlying3 wz), rfl, hf.below.frame _, fun h => by cases h⟩
theorem repoRotates_holds : Rows.RepoRotatesSaid :=
  OpenClaim.holds_of_wide 3 Tryz.f3 rfl rfl rfl rfl rfl rfl rfl ⟨rfl, rfl, rfl, rfl, rfl⟩ rfl rfl rfl rfl rfl (by kernel_rfl) Tryz.func3 (by kernel_rfl)
    (of_decide_eq_true (by kernel_rfl)) (by unfold Func.isWrapper; first | (rw [if_pos (by decide +kernel)]; kernel_rfl) | (rw [if_neg (by decide +kernel)]; exact ⟨rfl, rfl⟩))
    (fun os started Hd enc _ => lifted os started Hd enc)
theorem repoRotates_card : Rows.RepoRotatesCardSaid :=
  Claim7.holds_tied_plain_at .later [] [.data, .pinned] true (true, "fc3b69b202fac060632d64dfe469805fdca05e52983974ef09ff60557b3ef703") false
    repoRotates_holds (fun _ h => by cases h) (by kernel_rfl) (fun _ h => by cases h) repoRotates_row_tie rfl ⟨rfl, rfl⟩ (by kernel_rfl) rfl
    (fun f fn hf hfn => by
      obtain rfl : f = 3 := Option.some.inj ((show Tryz.prog.funcNamed "ostler/ostlerlaw16.RepoRotates" = some 3 by kernel_rfl).symm.trans hf) |>.symm
      obtain rfl : fn = Tryz.f3 := (Option.some.inj (Tryz.func3.symm.trans hfn)).symm
      exact ⟨by kernel_rfl, fun j t ht => by
        rw [Tryz.params3] at ht
        have hm : t ∈ [23, 3] := by simpa using Array.mem_of_getElem? ht
        have hall : ([23, 3].all fun u => !Tryz.prog.wantsStandIn u) = true := by kernel_rfl
        exact (show Tryz.prog.wantsStandIn t = false by simpa using List.all_eq_true.1 hall t hm)⟩)
    (by kernel_rfl)
#print axioms repoRotates_card
end Go.Proofs.YtiggfalelcepbaaGreatDoor

/- The walks of the Writer of chapter 1 and of the records' parts of chapter 6. -/
import Derived.Test.YtiggfalelcepbaaGreatDoorK7
import Derived.Test.YtiggfalelcepbaaGreatDoorSX
import Derived.Test.YtiggfalelcepbaaGreatDoorW8
import Derived.Test.YtiggfalelcepbaaGreatDoorTX
namespace Go.Proofs.YtiggfalelcepbaaGreatDoor
open Go
set_option maxRecDepth 100000
set_option maxHeartbeats 4000000
theorem f52_s {m : Ctx} {w : World} (ag : Ag m w) {wb β N0 c0 : Nat} {A0 : Option Addr} {X0 : Bytes} {a1 vc : Nat} {V : Option Addr} (hmW : Mu m w wb 125 [.slice A0 N0 c0]) (how : Own m w β A0 N0 c0 5 1 (bv X0)) (hwb : wb < β) (hbe : β ≤ w.heap.size) (hn0 : N0 < 2 ^ 20) (hV : Sl m V 1 vc 1 [nn a1]) (ha1 : a1 < 128) : Calls Tryz.prog 52 #[.pointer (some ⟨wb, 0, none⟩), .slice V 1 vc] w (Ret fun v w' => ∃ m' A' c', Fr (orS (on wb) (ge β)) m w m' w' ∧ Mu m' w' wb 125 [.slice A' (N0 + 1) c'] ∧ Own m' w' β A' (N0 + 1) c' 5 1 (bv (X0 ++ ([UInt8.ofNat a1])))) := by
 refine enter Tryz.func52 rfl (fun g0 hT n0 => ?_)
 have b0 : g0.tmps.size = 47 := by rw [hT]; kernel_rfl
 have j0 : g0.tmps.getD 0 undef = .pointer (some ⟨wb, 0, none⟩) := by rw [hT]; kernel_rfl
 have J0 : g0.tmps.getD 1 undef = .slice V 1 vc := by rw [hT]; kernel_rfl
 clear hT
 have cu0 : Fr (orS (on wb) (ge β)) m w m w := Fr.refl ag
 have lt_wb := hmW.lt
 refine sk fun _ o0 => sk fun _ s0 => rn <| mw b0 j0 <| gv (r_eqlNil (eh b0 rfl) rfl qu_191) <| nl <| s0 <| cf (eh b0 rfl) <| ws <| o0 <| sk fun _ u0 => rn <| mw b0 J0 <| gv (r_lenS (eh b0 rfl) rfl qu_178) <| gv (r_move (v := nn 0) rfl) <| nl <| u0 <| bl <| wp_unroll (n := 8) <| un_step (n := 7) <| sk fun _ w0 => rn <| gv (r_lss (eh b0 rfl) (eh b0 rfl)) <| nl <| w0 <| sk fun _ x0 => cd b0 rfl <| ws <| x0 <| sk fun _ y0 => bl <| sk fun _ z0 => rn ?_
 obtain ⟨M0, I0, K0, rfl, E0, F0⟩ := hV.elem (by omega)
 refine gv (r_idxS (o' := I0 + 0) (eh b0 rfl) (eh b0 rfl) qs_178 (by decide) (by omega)) <| gv (r_load1 (v := nn a1) (eh b0 rfl) (ag _ _ E0) (at_sub F0 (by kernel_rfl)) qr_3) <| ms b0 rfl <| nl <| z0 <| sk fun _ p0 => rn <| mv b0 rfl <| gv (r_minl (i := a1) (j := 4611686018427387904) (eh b0 rfl) rfl (by omega)) <| gv (r_maxr (i := 0) (j := a1) rfl (eh b0 rfl) (by omega)) <| gv (r_cv_n_u (i := a1) (eh b0 rfl) qu_3 qu_151 (by omega)) <| ms b0 rfl <| nl <| p0 <| sk fun _ q0 => bl <| wp_unroll (n := 8) <| un_step (n := 7) <| sk fun _ O0 => sk fun _ r0 => rn <| mv b0 rfl <| gv (r_geqU (j := 128) (eh b0 rfl) rfl) <| nl <| r0 ?_
 have C0 : (decide (128 ≤ a1)) = false := (decide_eq_false (by omega))
 refine cf (eb b0 rfl C0) <| we <| q0 <| rn <| mw b0 j0 <| mw b0 j0 <| nc b0 rfl <| gv (r_field (o' := 0) (eh b0 rfl) fo_123_0 (by rfl)) <| gv (la (v := .slice A0 N0 c0) (eh b0 rfl) hmW.bk qr_38) <| mv b0 rfl <| gv (r_cv_u_8 (i := a1) (eh b0 rfl) qu_151 qu_5) <| gk (k_lit (e := 5) (L := bv ([UInt8.ofNat a1])) ag (pm_cons (eh b0 rfl) pm_nil) (by kernel_rfl) (fun Y0 L0 m0 d0 R0 => ?_))
 have U0 := d0.size
 have S0 := m0.lt
 have G0 := (how.f0 d0)
 have Q0 : (X0 ++ ([UInt8.ofNat a1]) : List UInt8).length = N0 + 1 := (len_app (Own.blen how) rfl)
 refine gk (k_append (base := β) (L := bv X0) (N := bv ([UInt8.ofNat a1])) d0.ag (eh b0 rfl) (eh b0 rfl) qs_38 qz_5 G0 (m0.bk.src (L := bv ([UInt8.ofNat a1])) (n := 1) (o := 0) (k := 1) (by kernel_rfl)) (fun h => by cases h) (by rw [bv_length, show ([UInt8.ofNat a1] : List UInt8).length = 1 from rfl, Nat.mul_one]) (one_bv _) (by omega) (by decide) (by rw [maxLen_eq]; omega) (by omega) (fun k0 l0 Z0 i0 e0 => ?_))
 have V0 := e0.size
 rw [← bv_append] at i0
 have T0 := i0.nilc
 refine nc b0 rfl <| gv (r_field (o' := 0) (eh b0 rfl) fo_123_0 (by rfl)) ?_
 have B0 := ((hmW.f0 d0).fs e0 (show ¬ β ≤ wb from by omega))
 refine gz (kt (L' := [.slice k0 (N0 + 1) l0]) e0.ag (eh b0 rfl) (eh b0 rfl) B0 sz_38 (fun b1 D0 h0 => ?_))
 have W0 := h0.size
 refine nl <| y0 <| rn <| gv (r_add (j := 1) (eh b0 rfl) rfl (by decide)) <| mv b0 rfl <| nl <| un_next <| un_step (n := 6) <| sk fun _ v0 => rn <| gv (r_lss (eh b0 rfl) (eh b0 rfl)) <| nl <| v0 <| sk fun _ P0 => ce b0 rfl <| we <| end_of (res0 rfl _ _ _) ((ov_defers _ _).trans n0) ?_
 have H0 := (i0.f1 h0 (by omega))
 exact ⟨m, k0, l0, (((cu0.t0 d0).tr e0 (fun x hx => .inr (by have h_ : β ≤ x := hx; exact (.inr h_)))).tr h0 (fun x hx => (by cases hx; exact .inr (.inl rfl)))), D0, H0⟩

theorem f52_ss {m : Ctx} {w : World} (ag : Ag m w) {wb β N0 c0 : Nat} {A0 : Option Addr} {X0 : Bytes} {a1 a2 vc : Nat} {V : Option Addr} (hmW : Mu m w wb 125 [.slice A0 N0 c0]) (how : Own m w β A0 N0 c0 5 1 (bv X0)) (hwb : wb < β) (hbe : β ≤ w.heap.size) (hn0 : N0 < 2 ^ 20) (hV : Sl m V 2 vc 1 [nn a1, nn a2]) (ha1 : a1 < 128) (ha2 : a2 < 128) : Calls Tryz.prog 52 #[.pointer (some ⟨wb, 0, none⟩), .slice V 2 vc] w (Ret fun v w' => ∃ m' A' c', Fr (orS (on wb) (ge β)) m w m' w' ∧ Mu m' w' wb 125 [.slice A' (N0 + 1 + 1) c'] ∧ Own m' w' β A' (N0 + 1 + 1) c' 5 1 (bv ((X0 ++ ([UInt8.ofNat a1])) ++ ([UInt8.ofNat a2])))) := by
 refine enter Tryz.func52 rfl (fun k0 hT z0 => ?_)
 have b0 : k0.tmps.size = 47 := by rw [hT]; kernel_rfl
 have i0 : k0.tmps.getD 0 undef = .pointer (some ⟨wb, 0, none⟩) := by rw [hT]; kernel_rfl
 have i1 : k0.tmps.getD 1 undef = .slice V 2 vc := by rw [hT]; kernel_rfl
 clear hT
 have cu0 : Fr (orS (on wb) (ge β)) m w m w := Fr.refl ag
 have lt_wb := hmW.lt
 refine sk fun _ B0 => sk fun _ F0 => rn <| mw b0 i0 <| gv (r_eqlNil (eh b0 rfl) rfl qu_191) <| nl <| F0 <| cf (eh b0 rfl) <| ws <| B0 <| sk fun _ G0 => rn <| mw b0 i1 <| gv (r_lenS (eh b0 rfl) rfl qu_178) <| gv (r_move (v := nn 0) rfl) <| nl <| G0 <| bl <| wp_unroll (n := 8) <| un_step (n := 7) <| sk fun _ K0 => rn <| gv (r_lss (eh b0 rfl) (eh b0 rfl)) <| nl <| K0 <| sk fun _ Q0 => cd b0 rfl <| ws <| Q0 <| sk fun _ R0 => bl <| sk fun _ T0 => rn ?_
 obtain ⟨m1, y0, j1, rfl, w0, x0⟩ := hV.elem (by omega)
 refine gv (r_idxS (o' := y0 + 0) (eh b0 rfl) (eh b0 rfl) qs_178 (by decide) (by omega)) <| gv (r_load1 (v := nn a1) (eh b0 rfl) (ag _ _ w0) (at_sub x0 (by kernel_rfl)) qr_3) <| ms b0 rfl <| nl <| T0 <| sk fun _ C0 => rn <| mv b0 rfl <| gv (r_minl (i := a1) (j := 4611686018427387904) (eh b0 rfl) rfl (by omega)) <| gv (r_maxr (i := 0) (j := a1) rfl (eh b0 rfl) (by omega)) <| gv (r_cv_n_u (i := a1) (eh b0 rfl) qu_3 qu_151 (by omega)) <| ms b0 rfl <| nl <| C0 <| sk fun _ D0 => bl <| wp_unroll (n := 8) <| un_step (n := 7) <| sk fun _ n1 => sk fun _ E0 => rn <| mv b0 rfl <| gv (r_geqU (j := 128) (eh b0 rfl) rfl) <| nl <| E0 ?_
 have Y0 : (decide (128 ≤ a1)) = false := (decide_eq_false (by omega))
 refine cf (eb b0 rfl Y0) <| we <| D0 <| rn <| mw b0 i0 <| mw b0 i0 <| nc b0 rfl <| gv (r_field (o' := 0) (eh b0 rfl) fo_123_0 (by rfl)) <| gv (la (v := .slice A0 N0 c0) (eh b0 rfl) hmW.bk qr_38) <| mv b0 rfl <| gv (r_cv_u_8 (i := a1) (eh b0 rfl) qu_151 qu_5) <| gk (k_lit (e := 5) (L := bv ([UInt8.ofNat a1])) ag (pm_cons (eh b0 rfl) pm_nil) (by kernel_rfl) (fun D1 k1 s0 d0 r1 => ?_))
 have x1 := d0.size
 have t1 := s0.lt
 have d1 := (how.f0 d0)
 have b1 : (X0 ++ ([UInt8.ofNat a1]) : List UInt8).length = N0 + 1 := (len_app (Own.blen how) rfl)
 refine gk (k_append (base := β) (L := bv X0) (N := bv ([UInt8.ofNat a1])) d0.ag (eh b0 rfl) (eh b0 rfl) qs_38 qz_5 d1 (s0.bk.src (L := bv ([UInt8.ofNat a1])) (n := 1) (o := 0) (k := 1) (by kernel_rfl)) (fun h => by cases h) (by rw [bv_length, show ([UInt8.ofNat a1] : List UInt8).length = 1 from rfl, Nat.mul_one]) (one_bv _) (by omega) (by decide) (by rw [maxLen_eq]; omega) (by omega) (fun o0 q0 E1 m0 g0 => ?_))
 have y1 := g0.size
 rw [← bv_append] at m0
 have v1 := m0.nilc
 refine nc b0 rfl <| gv (r_field (o' := 0) (eh b0 rfl) fo_123_0 (by rfl)) ?_
 have U0 := ((hmW.f0 d0).fs g0 (show ¬ β ≤ wb from by omega))
 refine gz (kt (L' := [.slice o0 (N0 + 1) q0]) g0.ag (eh b0 rfl) (eh b0 rfl) U0 sz_38 (fun F1 u0 e0 => ?_))
 have z1 := e0.size
 refine nl <| R0 <| rn <| gv (r_add (j := 1) (eh b0 rfl) rfl (by decide)) <| mv b0 rfl <| nl <| un_next <| un_step (n := 6) <| sk fun _ H0 => rn <| gv (r_lss (eh b0 rfl) (eh b0 rfl)) <| nl <| H0 <| sk fun _ I0 => cd b0 rfl <| ws <| I0 <| sk fun _ J0 => bl <| sk fun _ L0 => rn <| gv (r_idxS (o' := y0 + 1) (eh b0 rfl) (eh b0 rfl) qs_178 (by decide) (by omega)) ?_
 have h1 := Fr.ll (Fr.l2 d0 g0) e0
 have V0 := (h1 _ _ w0)
 refine gv (r_load1 (v := nn a2) (eh b0 rfl) (e0.ag _ _ V0) (at_sub x0 (by kernel_rfl)) qr_3) <| ms b0 rfl <| nl <| L0 <| sk fun _ M0 => rn <| mv b0 rfl <| gv (r_minl (i := a2) (j := 4611686018427387904) (eh b0 rfl) rfl (by omega)) <| gv (r_maxr (i := 0) (j := a2) rfl (eh b0 rfl) (by omega)) <| gv (r_cv_n_u (i := a2) (eh b0 rfl) qu_3 qu_151 (by omega)) <| ms b0 rfl <| nl <| M0 <| sk fun _ O0 => bl <| wp_unroll (n := 8) <| un_step (n := 7) <| sk fun _ o1 => sk fun _ P0 => rn <| mv b0 rfl <| gv (r_geqU (j := 128) (eh b0 rfl) rfl) <| nl <| P0 ?_
 have Z0 : (decide (128 ≤ a2)) = false := (decide_eq_false (by omega))
 refine cf (eb b0 rfl Z0) <| we <| O0 <| rn <| mw b0 i0 <| mw b0 i0 <| nc b0 rfl <| gv (r_field (o' := 0) (eh b0 rfl) fo_123_0 (by rfl)) <| gv (la (v := .slice o0 (N0 + 1) q0) (eh b0 rfl) u0.bk qr_38) <| mv b0 rfl <| gv (r_cv_u_8 (i := a2) (eh b0 rfl) qu_151 qu_5) <| gk (k_lit (e := 5) (L := bv ([UInt8.ofNat a2])) e0.ag (pm_cons (eh b0 rfl) pm_nil) (by kernel_rfl) (fun G1 l1 v0 h0 s1 => ?_))
 have A1 := h0.size
 have u1 := v0.lt
 have e1 := ((m0.f1 e0 (by omega)).f0 h0)
 have q1 : ((X0 ++ ([UInt8.ofNat a1])) ++ ([UInt8.ofNat a2]) : List UInt8).length = N0 + 1 + 1 := (len_app b1 rfl)
 refine gk (k_append (base := β) (L := bv (X0 ++ ([UInt8.ofNat a1]))) (N := bv ([UInt8.ofNat a2])) h0.ag (eh b0 rfl) (eh b0 rfl) qs_38 qz_5 e1 (v0.bk.src (L := bv ([UInt8.ofNat a2])) (n := 1) (o := 0) (k := 1) (by kernel_rfl)) (fun h => by cases h) (by rw [bv_length, show ([UInt8.ofNat a2] : List UInt8).length = 1 from rfl, Nat.mul_one]) (one_bv _) (by omega) (by decide) (by rw [maxLen_eq]; omega) (by omega) (fun p0 r0 H1 n0 j0 => ?_))
 have B1 := j0.size
 rw [← bv_append] at n0
 have w1 := n0.nilc
 refine nc b0 rfl <| gv (r_field (o' := 0) (eh b0 rfl) fo_123_0 (by rfl)) ?_
 have W0 := ((u0.f0 h0).fs j0 (show ¬ β ≤ wb from by omega))
 refine gz (kt (L' := [.slice p0 (N0 + 1 + 1) r0]) j0.ag (eh b0 rfl) (eh b0 rfl) W0 sz_38 (fun I1 c1 l0 => ?_))
 have C1 := l0.size
 refine nl <| J0 <| rn <| gv (r_add (j := 1) (eh b0 rfl) rfl (by decide)) <| mv b0 rfl <| nl <| un_next <| un_step (n := 5) <| sk fun _ S0 => rn <| gv (r_lss (eh b0 rfl) (eh b0 rfl)) <| nl <| S0 <| sk fun _ p1 => ce b0 rfl <| we <| end_of (res0 rfl _ _ _) ((ov_defers _ _).trans z0) ?_
 have g1 := (n0.f1 l0 (by omega))
 exact ⟨m, p0, r0, ((((((cu0.t0 d0).tr g0 (fun x hx => .inr (by have h_ : β ≤ x := hx; exact (.inr h_)))).tr e0 (fun x hx => (by cases hx; exact .inr (.inl rfl)))).t0 h0).tr j0 (fun x hx => .inr (by have h_ : β ≤ x := hx; exact (.inr h_)))).tr l0 (fun x hx => (by cases hx; exact .inr (.inl rfl)))), c1, g1⟩

theorem f52_sss {m : Ctx} {w : World} (ag : Ag m w) {wb β N0 c0 : Nat} {A0 : Option Addr} {X0 : Bytes} {a1 a2 a3 vc : Nat} {V : Option Addr} (hmW : Mu m w wb 125 [.slice A0 N0 c0]) (how : Own m w β A0 N0 c0 5 1 (bv X0)) (hwb : wb < β) (hbe : β ≤ w.heap.size) (hn0 : N0 < 2 ^ 20) (hV : Sl m V 3 vc 1 [nn a1, nn a2, nn a3]) (ha1 : a1 < 128) (ha2 : a2 < 128) (ha3 : a3 < 128) : Calls Tryz.prog 52 #[.pointer (some ⟨wb, 0, none⟩), .slice V 3 vc] w (Ret fun v w' => ∃ m' A' c', Fr (orS (on wb) (ge β)) m w m' w' ∧ Mu m' w' wb 125 [.slice A' (N0 + 1 + 1 + 1) c'] ∧ Own m' w' β A' (N0 + 1 + 1 + 1) c' 5 1 (bv (((X0 ++ ([UInt8.ofNat a1])) ++ ([UInt8.ofNat a2])) ++ ([UInt8.ofNat a3])))) := by
 refine enter Tryz.func52 rfl (fun n0 hT J0 => ?_)
 have b0 : n0.tmps.size = 47 := by rw [hT]; kernel_rfl
 have d0 : n0.tmps.getD 0 undef = .pointer (some ⟨wb, 0, none⟩) := by rw [hT]; kernel_rfl
 have D1 : n0.tmps.getD 1 undef = .slice V 3 vc := by rw [hT]; kernel_rfl
 clear hT
 have cu0 : Fr (orS (on wb) (ge β)) m w m w := Fr.refl ag
 have lt_wb := hmW.lt
 refine sk fun _ K0 => sk fun _ P0 => rn <| mw b0 d0 <| gv (r_eqlNil (eh b0 rfl) rfl qu_191) <| nl <| P0 <| cf (eh b0 rfl) <| ws <| K0 <| sk fun _ Q0 => rn <| mw b0 D1 <| gv (r_lenS (eh b0 rfl) rfl qu_178) <| gv (r_move (v := nn 0) rfl) <| nl <| Q0 <| bl <| wp_unroll (n := 8) <| un_step (n := 7) <| sk fun _ U0 => rn <| gv (r_lss (eh b0 rfl) (eh b0 rfl)) <| nl <| U0 <| sk fun _ b1 => cd b0 rfl <| ws <| b1 <| sk fun _ c1 => bl <| sk fun _ h1 => rn ?_
 obtain ⟨I1, u0, E1, rfl, I0, s0⟩ := hV.elem (by omega)
 refine gv (r_idxS (o' := u0 + 0) (eh b0 rfl) (eh b0 rfl) qs_178 (by decide) (by omega)) <| gv (r_load1 (v := nn a1) (eh b0 rfl) (ag _ _ I0) (at_sub s0 (by kernel_rfl)) qr_3) <| ms b0 rfl <| nl <| h1 <| sk fun _ L0 => rn <| mv b0 rfl <| gv (r_minl (i := a1) (j := 4611686018427387904) (eh b0 rfl) rfl (by omega)) <| gv (r_maxr (i := 0) (j := a1) rfl (eh b0 rfl) (by omega)) <| gv (r_cv_n_u (i := a1) (eh b0 rfl) qu_3 qu_151 (by omega)) <| ms b0 rfl <| nl <| L0 <| sk fun _ M0 => bl <| wp_unroll (n := 8) <| un_step (n := 7) <| sk fun _ J1 => sk fun _ O0 => rn <| mv b0 rfl <| gv (r_geqU (j := 128) (eh b0 rfl) rfl) <| nl <| O0 ?_
 have r1 : (decide (128 ≤ a1)) = false := (decide_eq_false (by omega))
 refine cf (eb b0 rfl r1) <| we <| M0 <| rn <| mw b0 d0 <| mw b0 d0 <| nc b0 rfl <| gv (r_field (o' := 0) (eh b0 rfl) fo_123_0 (by rfl)) <| gv (la (v := .slice A0 N0 c0) (eh b0 rfl) hmW.bk qr_38) <| mv b0 rfl <| gv (r_cv_u_8 (i := a1) (eh b0 rfl) qu_151 qu_5) <| gk (k_lit (e := 5) (L := bv ([UInt8.ofNat a1])) ag (pm_cons (eh b0 rfl) pm_nil) (by kernel_rfl) (fun i2 F1 D0 e0 O1 => ?_))
 have X1 := e0.size
 have R1 := D0.lt
 have x1 := (how.f0 e0)
 have u1 : (X0 ++ ([UInt8.ofNat a1]) : List UInt8).length = N0 + 1 := (len_app (Own.blen how) rfl)
 refine gk (k_append (base := β) (L := bv X0) (N := bv ([UInt8.ofNat a1])) e0.ag (eh b0 rfl) (eh b0 rfl) qs_38 qz_5 x1 (D0.bk.src (L := bv ([UInt8.ofNat a1])) (n := 1) (o := 0) (k := 1) (by kernel_rfl)) (fun h => by cases h) (by rw [bv_length, show ([UInt8.ofNat a1] : List UInt8).length = 1 from rfl, Nat.mul_one]) (one_bv _) (by omega) (by decide) (by rw [maxLen_eq]; omega) (by omega) (fun v0 y0 j2 p0 j0 => ?_))
 have Y1 := j0.size
 rw [← bv_append] at p0
 have U1 := p0.nilc
 refine nc b0 rfl <| gv (r_field (o' := 0) (eh b0 rfl) fo_123_0 (by rfl)) ?_
 have n1 := ((hmW.f0 e0).fs j0 (show ¬ β ≤ wb from by omega))
 refine gz (kt (L' := [.slice v0 (N0 + 1) y0]) j0.ag (eh b0 rfl) (eh b0 rfl) n1 sz_38 (fun k2 E0 g0 => ?_))
 have Z1 := g0.size
 refine nl <| c1 <| rn <| gv (r_add (j := 1) (eh b0 rfl) rfl (by decide)) <| mv b0 rfl <| nl <| un_next <| un_step (n := 6) <| sk fun _ R0 => rn <| gv (r_lss (eh b0 rfl) (eh b0 rfl)) <| nl <| R0 <| sk fun _ S0 => cd b0 rfl <| ws <| S0 <| sk fun _ T0 => bl <| sk fun _ V0 => rn <| gv (r_idxS (o' := u0 + 1) (eh b0 rfl) (eh b0 rfl) qs_178 (by decide) (by omega)) ?_
 have B1 := Fr.ll (Fr.l2 e0 j0) g0
 have C0 := (B1 _ _ I0)
 refine gv (r_load1 (v := nn a2) (eh b0 rfl) (g0.ag _ _ C0) (at_sub s0 (by kernel_rfl)) qr_3) <| ms b0 rfl <| nl <| V0 <| sk fun _ W0 => rn <| mv b0 rfl <| gv (r_minl (i := a2) (j := 4611686018427387904) (eh b0 rfl) rfl (by omega)) <| gv (r_maxr (i := 0) (j := a2) rfl (eh b0 rfl) (by omega)) <| gv (r_cv_n_u (i := a2) (eh b0 rfl) qu_3 qu_151 (by omega)) <| ms b0 rfl <| nl <| W0 <| sk fun _ Y0 => bl <| wp_unroll (n := 8) <| un_step (n := 7) <| sk fun _ K1 => sk fun _ Z0 => rn <| mv b0 rfl <| gv (r_geqU (j := 128) (eh b0 rfl) rfl) <| nl <| Z0 ?_
 have s1 : (decide (128 ≤ a2)) = false := (decide_eq_false (by omega))
 refine cf (eb b0 rfl s1) <| we <| Y0 <| rn <| mw b0 d0 <| mw b0 d0 <| nc b0 rfl <| gv (r_field (o' := 0) (eh b0 rfl) fo_123_0 (by rfl)) <| gv (la (v := .slice v0 (N0 + 1) y0) (eh b0 rfl) E0.bk qr_38) <| mv b0 rfl <| gv (r_cv_u_8 (i := a2) (eh b0 rfl) qu_151 qu_5) <| gk (k_lit (e := 5) (L := bv ([UInt8.ofNat a2])) g0.ag (pm_cons (eh b0 rfl) pm_nil) (by kernel_rfl) (fun m2 G1 F0 h0 P1 => ?_))
 have b2 := h0.size
 have S1 := F0.lt
 have y1 := ((p0.f1 g0 (by omega)).f0 h0)
 have v1 : ((X0 ++ ([UInt8.ofNat a1])) ++ ([UInt8.ofNat a2]) : List UInt8).length = N0 + 1 + 1 := (len_app u1 rfl)
 refine gk (k_append (base := β) (L := bv (X0 ++ ([UInt8.ofNat a1]))) (N := bv ([UInt8.ofNat a2])) h0.ag (eh b0 rfl) (eh b0 rfl) qs_38 qz_5 y1 (F0.bk.src (L := bv ([UInt8.ofNat a2])) (n := 1) (o := 0) (k := 1) (by kernel_rfl)) (fun h => by cases h) (by rw [bv_length, show ([UInt8.ofNat a2] : List UInt8).length = 1 from rfl, Nat.mul_one]) (one_bv _) (by omega) (by decide) (by rw [maxLen_eq]; omega) (by omega) (fun w0 z0 n2 q0 k0 => ?_))
 have c2 := k0.size
 rw [← bv_append] at q0
 have V1 := q0.nilc
 refine nc b0 rfl <| gv (r_field (o' := 0) (eh b0 rfl) fo_123_0 (by rfl)) ?_
 have o1 := ((E0.f0 h0).fs k0 (show ¬ β ≤ wb from by omega))
 refine gz (kt (L' := [.slice w0 (N0 + 1 + 1) z0]) k0.ag (eh b0 rfl) (eh b0 rfl) o1 sz_38 (fun o2 G0 i0 => ?_))
 have d2 := i0.size
 refine nl <| T0 <| rn <| gv (r_add (j := 1) (eh b0 rfl) rfl (by decide)) <| mv b0 rfl <| nl <| un_next <| un_step (n := 5) <| sk fun _ d1 => rn <| gv (r_lss (eh b0 rfl) (eh b0 rfl)) <| nl <| d1 <| sk fun _ e1 => cd b0 rfl <| ws <| e1 <| sk fun _ g1 => bl <| sk fun _ i1 => rn <| gv (r_idxS (o' := u0 + 2) (eh b0 rfl) (eh b0 rfl) qs_178 (by decide) (by omega)) ?_
 have C1 := Fr.ll (Fr.l2 h0 k0) i0
 have p1 := (C1 _ _ C0)
 refine gv (r_load1 (v := nn a3) (eh b0 rfl) (i0.ag _ _ p1) (at_sub s0 (by kernel_rfl)) qr_3) <| ms b0 rfl <| nl <| i1 <| sk fun _ j1 => rn <| mv b0 rfl <| gv (r_minl (i := a3) (j := 4611686018427387904) (eh b0 rfl) rfl (by omega)) <| gv (r_maxr (i := 0) (j := a3) rfl (eh b0 rfl) (by omega)) <| gv (r_cv_n_u (i := a3) (eh b0 rfl) qu_3 qu_151 (by omega)) <| ms b0 rfl <| nl <| j1 <| sk fun _ k1 => bl <| wp_unroll (n := 8) <| un_step (n := 7) <| sk fun _ L1 => sk fun _ l1 => rn <| mv b0 rfl <| gv (r_geqU (j := 128) (eh b0 rfl) rfl) <| nl <| l1 ?_
 have t1 : (decide (128 ≤ a3)) = false := (decide_eq_false (by omega))
 refine cf (eb b0 rfl t1) <| we <| k1 <| rn <| mw b0 d0 <| mw b0 d0 <| nc b0 rfl <| gv (r_field (o' := 0) (eh b0 rfl) fo_123_0 (by rfl)) <| gv (la (v := .slice w0 (N0 + 1 + 1) z0) (eh b0 rfl) G0.bk qr_38) <| mv b0 rfl <| gv (r_cv_u_8 (i := a3) (eh b0 rfl) qu_151 qu_5) <| gk (k_lit (e := 5) (L := bv ([UInt8.ofNat a3])) i0.ag (pm_cons (eh b0 rfl) pm_nil) (by kernel_rfl) (fun p2 H1 H0 l0 Q1 => ?_))
 have e2 := l0.size
 have T1 := H0.lt
 have z1 := ((q0.f1 i0 (by omega)).f0 l0)
 have N1 : (((X0 ++ ([UInt8.ofNat a1])) ++ ([UInt8.ofNat a2])) ++ ([UInt8.ofNat a3]) : List UInt8).length = N0 + 1 + 1 + 1 := (len_app v1 rfl)
 refine gk (k_append (base := β) (L := bv ((X0 ++ ([UInt8.ofNat a1])) ++ ([UInt8.ofNat a2]))) (N := bv ([UInt8.ofNat a3])) l0.ag (eh b0 rfl) (eh b0 rfl) qs_38 qz_5 z1 (H0.bk.src (L := bv ([UInt8.ofNat a3])) (n := 1) (o := 0) (k := 1) (by kernel_rfl)) (fun h => by cases h) (by rw [bv_length, show ([UInt8.ofNat a3] : List UInt8).length = 1 from rfl, Nat.mul_one]) (one_bv _) (by omega) (by decide) (by rw [maxLen_eq]; omega) (by omega) (fun x0 B0 q2 r0 m0 => ?_))
 have g2 := m0.size
 rw [← bv_append] at r0
 have W1 := r0.nilc
 refine nc b0 rfl <| gv (r_field (o' := 0) (eh b0 rfl) fo_123_0 (by rfl)) ?_
 have q1 := ((G0.f0 l0).fs m0 (show ¬ β ≤ wb from by omega))
 refine gz (kt (L' := [.slice x0 (N0 + 1 + 1 + 1) B0]) m0.ag (eh b0 rfl) (eh b0 rfl) q1 sz_38 (fun r2 w1 o0 => ?_))
 have h2 := o0.size
 refine nl <| g1 <| rn <| gv (r_add (j := 1) (eh b0 rfl) rfl (by decide)) <| mv b0 rfl <| nl <| un_next <| un_step (n := 4) <| sk fun _ m1 => rn <| gv (r_lss (eh b0 rfl) (eh b0 rfl)) <| nl <| m1 <| sk fun _ M1 => ce b0 rfl <| we <| end_of (res0 rfl _ _ _) ((ov_defers _ _).trans J0) ?_
 have A1 := (r0.f1 o0 (by omega))
 exact ⟨m, x0, B0, (((((((((cu0.t0 e0).tr j0 (fun x hx => .inr (by have h_ : β ≤ x := hx; exact (.inr h_)))).tr g0 (fun x hx => (by cases hx; exact .inr (.inl rfl)))).t0 h0).tr k0 (fun x hx => .inr (by have h_ : β ≤ x := hx; exact (.inr h_)))).tr i0 (fun x hx => (by cases hx; exact .inr (.inl rfl)))).t0 l0).tr m0 (fun x hx => .inr (by have h_ : β ≤ x := hx; exact (.inr h_)))).tr o0 (fun x hx => (by cases hx; exact .inr (.inl rfl)))), w1, A1⟩

theorem f52_sb {m : Ctx} {w : World} (ag : Ag m w) {wb β N0 c0 : Nat} {A0 : Option Addr} {X0 : Bytes} {a1 vc : Nat} {V : Option Addr} (hmW : Mu m w wb 125 [.slice A0 N0 c0]) (how : Own m w β A0 N0 c0 5 1 (bv X0)) (hwb : wb < β) (hbe : β ≤ w.heap.size) (hn0 : N0 < 2 ^ 20) (hV : Sl m V 2 vc 1 [nn a1, nn 1073741824]) (ha1 : a1 < 128) : Calls Tryz.prog 52 #[.pointer (some ⟨wb, 0, none⟩), .slice V 2 vc] w (Ret fun v w' => ∃ m' A' c', Fr (orS (on wb) (ge β)) m w m' w' ∧ Mu m' w' wb 125 [.slice A' (N0 + 1 + 1 + 1 + 1 + 1 + 1) c'] ∧ Own m' w' β A' (N0 + 1 + 1 + 1 + 1 + 1 + 1) c' 5 1 (bv ((((((X0 ++ ([UInt8.ofNat a1])) ++ ([0 ||| 128])) ++ ([0 ||| 128])) ++ ([0 ||| 128])) ++ ([0 ||| 128])) ++ ([4])))) := by
 refine enter Tryz.func52 rfl (fun x0 hT k1 => ?_)
 have b0 : x0.tmps.size = 47 := by rw [hT]; kernel_rfl
 have d0 : x0.tmps.getD 0 undef = .pointer (some ⟨wb, 0, none⟩) := by rw [hT]; kernel_rfl
 have n2 : x0.tmps.getD 1 undef = .slice V 2 vc := by rw [hT]; kernel_rfl
 clear hT
 have cu0 : Fr (orS (on wb) (ge β)) m w m w := Fr.refl ag
 have lt_wb := hmW.lt
 refine sk fun _ l1 => sk fun _ u1 => rn <| mw b0 d0 <| gv (r_eqlNil (eh b0 rfl) rfl qu_191) <| nl <| u1 <| cf (eh b0 rfl) <| ws <| l1 <| sk fun _ v1 => rn <| mw b0 n2 <| gv (r_lenS (eh b0 rfl) rfl qu_178) <| gv (r_move (v := nn 0) rfl) <| nl <| v1 <| bl <| wp_unroll (n := 8) <| un_step (n := 7) <| sk fun _ z1 => rn <| gv (r_lss (eh b0 rfl) (eh b0 rfl)) <| nl <| z1 <| sk fun _ G1 => cd b0 rfl <| ws <| G1 <| sk fun _ H1 => bl <| sk fun _ L1 => rn ?_
 obtain ⟨u2, j1, o2, rfl, h1, i1⟩ := hV.elem (by omega)
 refine gv (r_idxS (o' := j1 + 0) (eh b0 rfl) (eh b0 rfl) qs_178 (by decide) (by omega)) <| gv (r_load1 (v := nn a1) (eh b0 rfl) (ag _ _ h1) (at_sub i1 (by kernel_rfl)) qr_3) <| ms b0 rfl <| nl <| L1 <| sk fun _ p1 => rn <| mv b0 rfl <| gv (r_minl (i := a1) (j := 4611686018427387904) (eh b0 rfl) rfl (by omega)) <| gv (r_maxr (i := 0) (j := a1) rfl (eh b0 rfl) (by omega)) <| gv (r_cv_n_u (i := a1) (eh b0 rfl) qu_3 qu_151 (by omega)) <| ms b0 rfl <| nl <| p1 <| sk fun _ r1 => bl <| wp_unroll (n := 8) <| un_step (n := 7) <| sk fun _ x2 => sk fun _ t1 => rn <| mv b0 rfl <| gv (r_geqU (j := 128) (eh b0 rfl) rfl) <| nl <| t1 ?_
 have W1 : (decide (128 ≤ a1)) = false := (decide_eq_false (by omega))
 refine cf (eb b0 rfl W1) <| we <| r1 <| rn <| mw b0 d0 <| mw b0 d0 <| nc b0 rfl <| gv (r_field (o' := 0) (eh b0 rfl) fo_123_0 (by rfl)) <| gv (la (v := .slice A0 N0 c0) (eh b0 rfl) hmW.bk qr_38) <| mv b0 rfl <| gv (r_cv_u_8 (i := a1) (eh b0 rfl) qu_151 qu_5) <| gk (k_lit (e := 5) (L := bv ([UInt8.ofNat a1])) ag (pm_cons (eh b0 rfl) pm_nil) (by kernel_rfl) (fun t3 r2 Y0 e0 C2 => ?_))
 have a3 := e0.size
 have I2 := Y0.lt
 have h2 := (how.f0 e0)
 have Y1 : (X0 ++ ([UInt8.ofNat a1]) : List UInt8).length = N0 + 1 := (len_app (Own.blen how) rfl)
 refine gk (k_append (base := β) (L := bv X0) (N := bv ([UInt8.ofNat a1])) e0.ag (eh b0 rfl) (eh b0 rfl) qs_38 qz_5 h2 (Y0.bk.src (L := bv ([UInt8.ofNat a1])) (n := 1) (o := 0) (k := 1) (by kernel_rfl)) (fun h => by cases h) (by rw [bv_length, show ([UInt8.ofNat a1] : List UInt8).length = 1 from rfl, Nat.mul_one]) (one_bv _) (by omega) (by decide) (by rw [maxLen_eq]; omega) (by omega) (fun J0 Q0 u3 D0 j0 => ?_))
 have b3 := j0.size
 rw [← bv_append] at D0
 have P2 := D0.nilc
 refine nc b0 rfl <| gv (r_field (o' := 0) (eh b0 rfl) fo_123_0 (by rfl)) ?_
 have S1 := ((hmW.f0 e0).fs j0 (show ¬ β ≤ wb from by omega))
 refine gz (kt (L' := [.slice J0 (N0 + 1) Q0]) j0.ag (eh b0 rfl) (eh b0 rfl) S1 sz_38 (fun v3 Z0 g0 => ?_))
 have c3 := g0.size
 refine nl <| H1 <| rn <| gv (r_add (j := 1) (eh b0 rfl) rfl (by decide)) <| mv b0 rfl <| nl <| un_next <| un_step (n := 6) <| sk fun _ w1 => rn <| gv (r_lss (eh b0 rfl) (eh b0 rfl)) <| nl <| w1 <| sk fun _ x1 => cd b0 rfl <| ws <| x1 <| sk fun _ y1 => bl <| sk fun _ A1 => rn <| gv (r_idxS (o' := j1 + 1) (eh b0 rfl) (eh b0 rfl) qs_178 (by decide) (by omega)) ?_
 have m2 := Fr.ll (Fr.l2 e0 j0) g0
 have T1 := (m2 _ _ h1)
 refine gv (r_load1 (v := nn 1073741824) (eh b0 rfl) (g0.ag _ _ T1) (at_sub i1 (by kernel_rfl)) qr_3) <| ms b0 rfl <| nl <| A1 <| sk fun _ B1 => rn <| mv b0 rfl <| gv (r_min (i := 1073741824) (j := 4611686018427387904) (eh b0 rfl) rfl) <| gv (r_max (i := 0) (j := 1073741824) rfl (eh b0 rfl)) <| gv (r_cv_n_u (i := 1073741824) (eh b0 rfl) qu_3 qu_151 (by decide)) <| ms b0 rfl <| nl <| B1 <| sk fun _ C1 => bl <| wp_unroll (n := 8) <| un_step (n := 7) <| sk fun _ D1 => sk fun _ E1 => rn <| mv b0 rfl <| gv (r_geqU (j := 128) (eh b0 rfl) rfl) <| nl <| E1 <| cd b0 rfl <| ws <| D1 <| sk fun _ F1 => bl <| rn <| mw b0 d0 <| mw b0 d0 <| nc b0 rfl <| gv (r_field (o' := 0) (eh b0 rfl) fo_123_0 (by rfl)) <| gv (la (v := .slice J0 (N0 + 1) Q0) (eh b0 rfl) Z0.bk qr_38) <| mv b0 rfl <| gv (r_cv_u_8 (i := 1073741824) (eh b0 rfl) qu_151 qu_5) <| gv (r_or8 (e := 128) (eh b0 rfl) rfl) <| gk (k_lit (e := 5) (L := bv ([0 ||| 128])) g0.ag (pm_cons (eh b0 rfl) pm_nil) (by kernel_rfl) (fun w3 s2 b1 k0 D2 => ?_))
 have d3 := k0.size
 have J2 := b1.lt
 have i2 := ((D0.f1 g0 (by omega)).f0 k0)
 have Z1 : ((X0 ++ ([UInt8.ofNat a1])) ++ ([0 ||| 128]) : List UInt8).length = N0 + 1 + 1 := (len_app Y1 rfl)
 refine gk (k_append (base := β) (L := bv (X0 ++ ([UInt8.ofNat a1]))) (N := bv ([0 ||| 128])) k0.ag (eh b0 rfl) (eh b0 rfl) qs_38 qz_5 i2 (b1.bk.src (L := bv ([0 ||| 128])) (n := 1) (o := 0) (k := 1) (by kernel_rfl)) (fun h => by cases h) (by rw [bv_length, show ([0 ||| 128] : List UInt8).length = 1 from rfl, Nat.mul_one]) (one_bv _) (by omega) (by decide) (by rw [maxLen_eq]; omega) (by omega) (fun K0 R0 x3 E0 s0 => ?_))
 have e3 := s0.size
 rw [← bv_append] at E0
 have Q2 := E0.nilc
 refine nc b0 rfl <| gv (r_field (o' := 0) (eh b0 rfl) fo_123_0 (by rfl)) ?_
 have U1 := ((Z0.f0 k0).fs s0 (show ¬ β ≤ wb from by omega))
 refine gz (kt (L' := [.slice K0 (N0 + 1 + 1) R0]) s0.ag (eh b0 rfl) (eh b0 rfl) U1 sz_38 (fun y3 c1 u0 => ?_))
 have g3 := u0.size
 refine nl <| F1 <| rn <| mv b0 rfl <| gv (r_shrU (j := 7) (eh b0 rfl) rfl (by decide)) <| ms b0 rfl <| nl <| un_next <| un_step (n := 6) <| sk fun _ I1 => sk fun _ J1 => rn <| mv b0 rfl <| gv (r_geqU (j := 128) (eh b0 rfl) rfl) <| nl <| J1 <| cd b0 rfl <| ws <| I1 <| sk fun _ K1 => bl <| rn <| mw b0 d0 <| mw b0 d0 <| nc b0 rfl <| gv (r_field (o' := 0) (eh b0 rfl) fo_123_0 (by rfl)) <| gv (la (v := .slice K0 (N0 + 1 + 1) R0) (eh b0 rfl) c1.bk qr_38) <| mv b0 rfl <| gv (r_cv_u_8 (i := 8388608) (eh b0 rfl) qu_151 qu_5) <| gv (r_or8 (e := 128) (eh b0 rfl) rfl) <| gk (k_lit (e := 5) (L := bv ([0 ||| 128])) u0.ag (pm_cons (eh b0 rfl) pm_nil) (by kernel_rfl) (fun z3 t2 d1 l0 E2 => ?_))
 have h3 := l0.size
 have K2 := d1.lt
 have j2 := ((E0.f1 u0 (by omega)).f0 l0)
 have a2 : (((X0 ++ ([UInt8.ofNat a1])) ++ ([0 ||| 128])) ++ ([0 ||| 128]) : List UInt8).length = N0 + 1 + 1 + 1 := (len_app Z1 rfl)
 refine gk (k_append (base := β) (L := bv ((X0 ++ ([UInt8.ofNat a1])) ++ ([0 ||| 128]))) (N := bv ([0 ||| 128])) l0.ag (eh b0 rfl) (eh b0 rfl) qs_38 qz_5 j2 (d1.bk.src (L := bv ([0 ||| 128])) (n := 1) (o := 0) (k := 1) (by kernel_rfl)) (fun h => by cases h) (by rw [bv_length, show ([0 ||| 128] : List UInt8).length = 1 from rfl, Nat.mul_one]) (one_bv _) (by omega) (by decide) (by rw [maxLen_eq]; omega) (by omega) (fun L0 S0 A3 F0 v0 => ?_))
 have i3 := v0.size
 rw [← bv_append] at F0
 have R2 := F0.nilc
 refine nc b0 rfl <| gv (r_field (o' := 0) (eh b0 rfl) fo_123_0 (by rfl)) ?_
 have V1 := ((c1.f0 l0).fs v0 (show ¬ β ≤ wb from by omega))
 refine gz (kt (L' := [.slice L0 (N0 + 1 + 1 + 1) S0]) v0.ag (eh b0 rfl) (eh b0 rfl) V1 sz_38 (fun B3 e1 w0 => ?_))
 have j3 := w0.size
 refine nl <| K1 <| rn <| mv b0 rfl <| gv (r_shrU (j := 7) (eh b0 rfl) rfl (by decide)) <| ms b0 rfl <| nl <| un_next <| un_step (n := 5) <| sk fun _ M1 => sk fun _ N1 => rn <| mv b0 rfl <| gv (r_geqU (j := 128) (eh b0 rfl) rfl) <| nl <| N1 <| cd b0 rfl <| ws <| M1 <| sk fun _ O1 => bl <| rn <| mw b0 d0 <| mw b0 d0 <| nc b0 rfl <| gv (r_field (o' := 0) (eh b0 rfl) fo_123_0 (by rfl)) <| gv (la (v := .slice L0 (N0 + 1 + 1 + 1) S0) (eh b0 rfl) e1.bk qr_38) <| mv b0 rfl <| gv (r_cv_u_8 (i := 65536) (eh b0 rfl) qu_151 qu_5) <| gv (r_or8 (e := 128) (eh b0 rfl) rfl) <| gk (k_lit (e := 5) (L := bv ([0 ||| 128])) w0.ag (pm_cons (eh b0 rfl) pm_nil) (by kernel_rfl) (fun C3 v2 g1 m0 F2 => ?_))
 have k3 := m0.size
 have L2 := g1.lt
 have k2 := ((F0.f1 w0 (by omega)).f0 m0)
 have b2 : ((((X0 ++ ([UInt8.ofNat a1])) ++ ([0 ||| 128])) ++ ([0 ||| 128])) ++ ([0 ||| 128]) : List UInt8).length = N0 + 1 + 1 + 1 + 1 := (len_app a2 rfl)
 refine gk (k_append (base := β) (L := bv (((X0 ++ ([UInt8.ofNat a1])) ++ ([0 ||| 128])) ++ ([0 ||| 128]))) (N := bv ([0 ||| 128])) m0.ag (eh b0 rfl) (eh b0 rfl) qs_38 qz_5 k2 (g1.bk.src (L := bv ([0 ||| 128])) (n := 1) (o := 0) (k := 1) (by kernel_rfl)) (fun h => by cases h) (by rw [bv_length, show ([0 ||| 128] : List UInt8).length = 1 from rfl, Nat.mul_one]) (one_bv _) (by omega) (by decide) (by rw [maxLen_eq]; omega) (by omega) (fun G0 M0 l3 z0 n0 => ?_))
 have S2 := n0.size
 rw [← bv_append] at z0
 have M2 := z0.nilc
 refine nc b0 rfl <| gv (r_field (o' := 0) (eh b0 rfl) fo_123_0 (by rfl)) ?_
 have P1 := ((e1.f0 m0).fs n0 (show ¬ β ≤ wb from by omega))
 refine gz (kt (L' := [.slice G0 (N0 + 1 + 1 + 1 + 1) M0]) n0.ag (eh b0 rfl) (eh b0 rfl) P1 sz_38 (fun m3 T0 o0 => ?_))
 have T2 := o0.size
 refine nl <| O1 <| rn <| mv b0 rfl <| gv (r_shrU (j := 7) (eh b0 rfl) rfl (by decide)) <| ms b0 rfl <| nl <| un_next <| un_step (n := 4) <| sk fun _ m1 => sk fun _ n1 => rn <| mv b0 rfl <| gv (r_geqU (j := 128) (eh b0 rfl) rfl) <| nl <| n1 <| cd b0 rfl <| ws <| m1 <| sk fun _ o1 => bl <| rn <| mw b0 d0 <| mw b0 d0 <| nc b0 rfl <| gv (r_field (o' := 0) (eh b0 rfl) fo_123_0 (by rfl)) <| gv (la (v := .slice G0 (N0 + 1 + 1 + 1 + 1) M0) (eh b0 rfl) T0.bk qr_38) <| mv b0 rfl <| gv (r_cv_u_8 (i := 512) (eh b0 rfl) qu_151 qu_5) <| gv (r_or8 (e := 128) (eh b0 rfl) rfl) <| gk (k_lit (e := 5) (L := bv ([0 ||| 128])) o0.ag (pm_cons (eh b0 rfl) pm_nil) (by kernel_rfl) (fun n3 p2 U0 h0 A2 => ?_))
 have U2 := h0.size
 have G2 := U0.lt
 have d2 := ((z0.f1 o0 (by omega)).f0 h0)
 have X1 : (((((X0 ++ ([UInt8.ofNat a1])) ++ ([0 ||| 128])) ++ ([0 ||| 128])) ++ ([0 ||| 128])) ++ ([0 ||| 128]) : List UInt8).length = N0 + 1 + 1 + 1 + 1 + 1 := (len_app b2 rfl)
 refine gk (k_append (base := β) (L := bv ((((X0 ++ ([UInt8.ofNat a1])) ++ ([0 ||| 128])) ++ ([0 ||| 128])) ++ ([0 ||| 128]))) (N := bv ([0 ||| 128])) h0.ag (eh b0 rfl) (eh b0 rfl) qs_38 qz_5 d2 (U0.bk.src (L := bv ([0 ||| 128])) (n := 1) (o := 0) (k := 1) (by kernel_rfl)) (fun h => by cases h) (by rw [bv_length, show ([0 ||| 128] : List UInt8).length = 1 from rfl, Nat.mul_one]) (one_bv _) (by omega) (by decide) (by rw [maxLen_eq]; omega) (by omega) (fun H0 O0 o3 B0 p0 => ?_))
 have V2 := p0.size
 rw [← bv_append] at B0
 have N2 := B0.nilc
 refine nc b0 rfl <| gv (r_field (o' := 0) (eh b0 rfl) fo_123_0 (by rfl)) ?_
 have Q1 := ((T0.f0 h0).fs p0 (show ¬ β ≤ wb from by omega))
 refine gz (kt (L' := [.slice H0 (N0 + 1 + 1 + 1 + 1 + 1) O0]) p0.ag (eh b0 rfl) (eh b0 rfl) Q1 sz_38 (fun p3 V0 q0 => ?_))
 have W2 := q0.size
 refine nl <| o1 <| rn <| mv b0 rfl <| gv (r_shrU (j := 7) (eh b0 rfl) rfl (by decide)) <| ms b0 rfl <| nl <| un_next <| un_step (n := 3) <| sk fun _ w2 => sk fun _ q1 => rn <| mv b0 rfl <| gv (r_geqU (j := 128) (eh b0 rfl) rfl) <| nl <| q1 <| ce b0 rfl <| we <| C1 <| rn <| mw b0 d0 <| mw b0 d0 <| nc b0 rfl <| gv (r_field (o' := 0) (eh b0 rfl) fo_123_0 (by rfl)) <| gv (la (v := .slice H0 (N0 + 1 + 1 + 1 + 1 + 1) O0) (eh b0 rfl) V0.bk qr_38) <| mv b0 rfl <| gv (r_cv_u_8 (i := 4) (eh b0 rfl) qu_151 qu_5) <| gk (k_lit (e := 5) (L := bv ([4])) q0.ag (pm_cons (eh b0 rfl) pm_nil) (by kernel_rfl) (fun q3 q2 W0 i0 B2 => ?_))
 have X2 := i0.size
 have H2 := W0.lt
 have e2 := ((B0.f1 q0 (by omega)).f0 i0)
 have z2 : ((((((X0 ++ ([UInt8.ofNat a1])) ++ ([0 ||| 128])) ++ ([0 ||| 128])) ++ ([0 ||| 128])) ++ ([0 ||| 128])) ++ ([4]) : List UInt8).length = N0 + 1 + 1 + 1 + 1 + 1 + 1 := (len_app X1 rfl)
 refine gk (k_append (base := β) (L := bv (((((X0 ++ ([UInt8.ofNat a1])) ++ ([0 ||| 128])) ++ ([0 ||| 128])) ++ ([0 ||| 128])) ++ ([0 ||| 128]))) (N := bv ([4])) i0.ag (eh b0 rfl) (eh b0 rfl) qs_38 qz_5 e2 (W0.bk.src (L := bv ([4])) (n := 1) (o := 0) (k := 1) (by kernel_rfl)) (fun h => by cases h) (by rw [bv_length, show ([4] : List UInt8).length = 1 from rfl, Nat.mul_one]) (one_bv _) (by omega) (by decide) (by rw [maxLen_eq]; omega) (by omega) (fun I0 P0 r3 C0 r0 => ?_))
 have Y2 := r0.size
 rw [← bv_append] at C0
 have O2 := C0.nilc
 refine nc b0 rfl <| gv (r_field (o' := 0) (eh b0 rfl) fo_123_0 (by rfl)) ?_
 have R1 := ((V0.f0 i0).fs r0 (show ¬ β ≤ wb from by omega))
 refine gz (kt (L' := [.slice I0 (N0 + 1 + 1 + 1 + 1 + 1 + 1) P0]) r0.ag (eh b0 rfl) (eh b0 rfl) R1 sz_38 (fun s3 c2 y0 => ?_))
 have Z2 := y0.size
 refine nl <| y1 <| rn <| gv (r_add (j := 1) (eh b0 rfl) rfl (by decide)) <| mv b0 rfl <| nl <| un_next <| un_step (n := 5) <| sk fun _ s1 => rn <| gv (r_lss (eh b0 rfl) (eh b0 rfl)) <| nl <| s1 <| sk fun _ y2 => ce b0 rfl <| we <| end_of (res0 rfl _ _ _) ((ov_defers _ _).trans k1) ?_
 have g2 := (C0.f1 y0 (by omega))
 exact ⟨m, I0, P0, ((((((((((((((((((cu0.t0 e0).tr j0 (fun x hx => .inr (by have h_ : β ≤ x := hx; exact (.inr h_)))).tr g0 (fun x hx => (by cases hx; exact .inr (.inl rfl)))).t0 k0).tr s0 (fun x hx => .inr (by have h_ : β ≤ x := hx; exact (.inr h_)))).tr u0 (fun x hx => (by cases hx; exact .inr (.inl rfl)))).t0 l0).tr v0 (fun x hx => .inr (by have h_ : β ≤ x := hx; exact (.inr h_)))).tr w0 (fun x hx => (by cases hx; exact .inr (.inl rfl)))).t0 m0).tr n0 (fun x hx => .inr (by have h_ : β ≤ x := hx; exact (.inr h_)))).tr o0 (fun x hx => (by cases hx; exact .inr (.inl rfl)))).t0 h0).tr p0 (fun x hx => .inr (by have h_ : β ≤ x := hx; exact (.inr h_)))).tr q0 (fun x hx => (by cases hx; exact .inr (.inl rfl)))).t0 i0).tr r0 (fun x hx => .inr (by have h_ : β ≤ x := hx; exact (.inr h_)))).tr y0 (fun x hx => (by cases hx; exact .inr (.inl rfl)))), c2, g2⟩

theorem f110 {m : Ctx} {w : World} (ag : Ag m w) {wb β N0 c0 : Nat} {A0 : Option Addr} {X0 : Bytes} {k kc : Nat} {P : Option Addr} {q : Bytes} (hmW : Mu m w wb 125 [.slice A0 N0 c0]) (how : Own m w β A0 N0 c0 5 1 (bv X0)) (hwb : wb < β) (hbe : β ≤ w.heap.size) (hn0 : N0 < 2 ^ 20) (hP : Sl m P k kc 1 (bv q)) (hk : q.length = k) (hk2 : k < 65536) : Calls Tryz.prog 110 #[.pointer (some ⟨wb, 0, none⟩), .slice P k kc] w (Ret fun v w' => ∃ m' A' c', Fr (orS (on wb) (ge β)) m w m' w' ∧ Mu m' w' wb 125 [.slice A' (N0 + k) c'] ∧ Own m' w' β A' (N0 + k) c' 5 1 (bv (X0 ++ q))) := by
 refine enter Tryz.func110 rfl (fun e0 hT l0 => ?_)
 have b0 : e0.tmps.size = 15 := by rw [hT]; kernel_rfl
 have i0 : e0.tmps.getD 0 undef = .pointer (some ⟨wb, 0, none⟩) := by rw [hT]; kernel_rfl
 have q0 : e0.tmps.getD 1 undef = .slice P k kc := by rw [hT]; kernel_rfl
 clear hT
 have cu0 : Fr (orS (on wb) (ge β)) m w m w := Fr.refl ag
 have lt_wb := hmW.lt
 refine sk fun _ m0 => rn <| mw b0 i0 <| gv (r_neqNil (eh b0 rfl) rfl qu_191) <| nl <| m0 <| ct (eh b0 rfl) <| rn <| mw b0 i0 <| mw b0 i0 <| nc b0 rfl <| gv (r_field (o' := 0) (eh b0 rfl) fo_123_0 (by rfl)) <| gv (la (v := .slice A0 N0 c0) (eh b0 rfl) hmW.bk qr_38) <| mw b0 q0 ?_
 have r0 : (X0 ++ q : List UInt8).length = N0 + k := (len_app (Own.blen how) hk)
 refine gk (k_append (base := β) (L := bv X0) (N := bv q) ag (eh b0 rfl) (eh b0 rfl) qs_38 qz_5 how (hP.src ag) (hP.nilc) (by rw [bv_length, hk, Nat.mul_one]) (one_bv _) (by omega) (by decide) (by rw [maxLen_eq]; omega) (by omega) (fun j0 k0 w0 h0 d0 => ?_))
 have u0 := d0.size
 rw [← bv_append] at h0
 have s0 := h0.nilc
 refine nc b0 rfl <| gv (r_field (o' := 0) (eh b0 rfl) fo_123_0 (by rfl)) ?_
 have n0 := (hmW.fs d0 (show ¬ β ≤ wb from by omega))
 refine gz (kt (L' := [.slice j0 (N0 + k) k0]) d0.ag (eh b0 rfl) (eh b0 rfl) n0 sz_38 (fun v0 o0 g0 => ?_))
 have t0 := g0.size
 refine nl <| end_of (res0 rfl _ _ _) ((ov_defers _ _).trans l0) ?_
 have p0 := (h0.f1 g0 (by omega))
 exact ⟨m, j0, k0, ((cu0.tr d0 (fun x hx => .inr (by have h_ : β ≤ x := hx; exact (.inr h_)))).tr g0 (fun x hx => (by cases hx; exact .inr (.inl rfl)))), o0, p0⟩

theorem f63 {m : Ctx} {w : World} (ag : Ag m w) {wb β N0 c0 : Nat} {A0 : Option Addr} {X0 : Bytes} {h1 : Bytes} (hmW : Mu m w wb 125 [.slice A0 N0 c0]) (how : Own m w β A0 N0 c0 5 1 (bv X0)) (hwb : wb < β) (hbe : β ≤ w.heap.size) (hn0 : N0 < 2 ^ 19) : Calls Tryz.prog 63 #[.pointer (some ⟨wb, 0, none⟩), H h1] w (Ret fun v w' => ∃ m' A' c', Fr (orS (on wb) (ge β)) m w m' w' ∧ Mu m' w' wb 125 [.slice A' (N0 + 32) c'] ∧ Own m' w' β A' (N0 + 32) c' 5 1 (bv (X0 ++ (n32 h1)))) := by
 refine enter Tryz.func63 rfl (fun l0 hT w0 => ?_)
 have e0 : l0.tmps.size = 9 := by rw [hT]; kernel_rfl
 have L0 : l0.tmps.getD 0 undef = .pointer (some ⟨wb, 0, none⟩) := by rw [hT]; kernel_rfl
 have M0 : l0.tmps.getD 1 undef = H h1 := by rw [hT]; kernel_rfl
 clear hT
 have cu0 : Fr (orS (on wb) (ge β)) m w m w := Fr.refl ag
 have lt_wb := hmW.lt
 refine sk fun _ x0 => rn <| gk (k_box (L := hc h1) ag (em e0 rfl rfl M0) (by kernel_rfl) (fun k0 h0 o0 i0 F0 => ?_))
 have S0 := i0.size
 have P0 := o0.lt
 refine nl <| x0 ?_
 have b0 : Fr no m k0 m { k0 with drawn := k0.drawn + 1 } := Fr.drw i0.ag
 obtain ⟨g0, r0⟩ : ∃ w_, w_ = ({ k0 with drawn := k0.drawn + 1 } : World) := ⟨_, rfl⟩
 rw [← r0] at b0
 have T0 := b0.size
 refine wp_region_T mixed (fun wz => ∃ mz, Fr (no) m g0 mz wz) (fun wz => ∃ mz, Fr (orS (orS (on h0) (on wb)) (ge β)) m g0 mz wz) 4 ?_
 rw [← r0]
 show wpAnyT _ _ _ _ _ 5 _ _ _
 have j0 : Fr (no) m g0 m g0 := Fr.refl b0.ag
 have p0 : ∀ wz, (∃ mz, Fr (no) m g0 mz wz) → ∃ mz, Fr (orS (orS (on h0) (on wb)) (ge β)) m g0 mz wz := fun wz ⟨mz, hz⟩ => ⟨mz, hz.wk (fun x hx _ => hx.elim)⟩
 refine tk1 (i := 0) (b := false) rfl rfl p0 (fun _ _ => r_move (em e0 rfl rfl L0)) (tbF ⟨_, j0⟩) <| tk1 (i := 1) (b := false) rfl rfl p0 (fun _ _ => r_nilCheck (eh e0 rfl)) (tbF ⟨_, j0⟩) <| tk2 (i := 2) rfl rfl (fun _ _ => r_field (o' := 0) (eh e0 rfl) fo_125_0 (by rfl)) ⟨_, j0⟩ <| tk2 (i := 3) rfl rfl (fun _ _ => r_sliceA (eh e0 rfl) qa_23) ⟨_, j0⟩ ?_
 have J0 : Fr (orS (orS (on h0) (on wb)) (ge β)) _ _ _ _ := j0.wk (fun x hx _ => hx.elim)
 have y0 := (o0.f0 b0)
 obtain ⟨d0, q0⟩ := y0.fz b0.ag
 generalize cput m h0 _ = G0 at d0 q0
 have U0 := d0.size
 have K0 := J0.tr d0 (fun x hx => .inr (by cases hx; exact (.inl (.inl rfl))))
 have D0 : Sl G0 (some ⟨h0, 0, none⟩) 32 32 1 (hc h1) := Sl.of (k := 32) q0 (by kernel_rfl) (by kernel_rfl) (by decide) (by decide)
 have E0 := (((how.f0 i0).f0 b0).fn d0 (how.ne F0))
 have v0 := i0.t0 b0
 have z0 := ((hmW.f0 v0).f1 d0 (by omega))
 refine ann (i := 4) (b := true) rfl rfl (k_cl (f110 d0.ag (β := β) (X0 := X0) z0 E0 (by omega) (by omega) (by omega) (q := n32 h1) (by have h_ := D0; rw [hc_n32] at h_; exact h_) (n32_len _) (by omega)) rfl fn_110 (map_cons (eh e0 rfl) (map_cons (eh e0 rfl) map_nil)) (fun V0 W0 C0 => ?_))
 obtain ⟨H0, s0, u0, m0, B0, n0⟩ := C0
 have R0 := m0.size
 have I0 := K0.tr m0 (fun x hx => hx.elim (fun h1 => .inr (by cases h1; exact (.inl (.inr rfl)))) (fun h1 => .inr (by have h_ : β ≤ x := h1; exact (.inr h_))))
 have O0 : (X0 ++ (n32 h1) : List UInt8).length = N0 + 32 := (Own.blen n0)
 have Q0 := n0.nilc
 refine ⟨(tbT ⟨_, I0⟩), ?_⟩
 refine anyT_done (by kernel_rfl) ?_ _
 refine end_of (res0 rfl _ _ _) ((ov_defers _ _).trans w0) ?_
 exact ⟨H0, s0, u0, ((((cu0.t0 i0).t0 b0).tn d0 (by omega)).tr m0 (fun x hx => hx.elim (fun h1 => (by cases h1; exact .inr (.inl rfl))) (fun h1 => .inr (by have h_ : β ≤ x := h1; exact (.inr h_))))), B0, n0⟩

theorem f109 {m : Ctx} {w : World} (ag : Ag m w) {wb β N0 c0 : Nat} {A0 : Option Addr} {X0 : Bytes} {k kc vc : Nat} {P V : Option Addr} {q : Bytes} (hmW : Mu m w wb 125 [.slice A0 N0 c0]) (how : Own m w β A0 N0 c0 5 1 (bv X0)) (hwb : wb < β) (hbe : β ≤ w.heap.size) (hn0 : N0 < 2 ^ 19) (hV : Sl m V 1 vc 1 [.slice P k kc]) (hP : Sl m P k kc 1 (bv q)) (hk : q.length = k) (hk2 : k < 128) : Calls Tryz.prog 109 #[.pointer (some ⟨wb, 0, none⟩), .slice V 1 vc] w (Ret fun v w' => ∃ m' A' c', Fr (orS (on wb) (ge β)) m w m' w' ∧ Mu m' w' wb 125 [.slice A' ((N0 + 1) + k) c'] ∧ Own m' w' β A' ((N0 + 1) + k) c' 5 1 (bv ((X0 ++ ([UInt8.ofNat k])) ++ q))) := by
 refine enter Tryz.func109 rfl (fun h0 hT r0 => ?_)
 have b0 : h0.tmps.size = 21 := by rw [hT]; kernel_rfl
 have o0 : h0.tmps.getD 0 undef = .pointer (some ⟨wb, 0, none⟩) := by rw [hT]; kernel_rfl
 have R0 : h0.tmps.getD 1 undef = .slice V 1 vc := by rw [hT]; kernel_rfl
 clear hT
 have cu0 : Fr (orS (on wb) (ge β)) m w m w := Fr.refl ag
 have lt_wb := hmW.lt
 refine sk fun _ s0 => rn <| mw b0 R0 <| gv (r_lenS (eh b0 rfl) rfl qu_217) <| gv (r_move (v := nn 0) rfl) <| nl <| s0 <| bl <| wp_unroll (n := 2) <| un_step (n := 1) <| sk fun _ v0 => rn <| gv (r_lss (eh b0 rfl) (eh b0 rfl)) <| nl <| v0 <| sk fun _ w0 => cd b0 rfl <| ws <| w0 <| sk fun _ x0 => bl <| sk fun _ z0 => rn ?_
 obtain ⟨U0, Q0, T0, rfl, G0, H0⟩ := hV.elem (by omega)
 refine gv (r_idxS (o' := Q0 + 0) (eh b0 rfl) (eh b0 rfl) qs_217 (by decide) (by omega)) <| gv (r_load1 (v := .slice P k kc) (eh b0 rfl) (ag _ _ G0) (at_sub H0 (by kernel_rfl)) qr_38) <| ms b0 rfl <| nl <| z0 <| sk fun _ u0 => rn <| mw b0 o0 <| mv b0 rfl <| gv (r_lenS (eh b0 rfl) rfl qu_38) <| gk (k_lit (e := 3) (L := [nn k]) ag (pm_cons (eh b0 rfl) pm_nil) (by kernel_rfl) (fun m1 k0 m0 e0 M0 => ?_))
 have e1 := e0.size
 have a1 := m0.lt
 obtain ⟨d0, n0⟩ := m0.fz e0.ag
 generalize cput m k0 _ = O0 at d0 n0
 have g1 := d0.size
 have I0 : Sl O0 (some ⟨k0, 0, none⟩) 1 1 1 ([nn k]) := Sl.of (k := 1) n0 (by kernel_rfl) (by kernel_rfl) (by decide) (by decide)
 have J0 := ((how.f0 e0).fn d0 (how.ne M0))
 have B0 := ((hmW.f0 e0).f1 d0 (by omega))
 refine gk (k_cl (f52_s d0.ag (β := β) (X0 := X0) B0 J0 (by omega) (by omega) (by omega) I0 (by omega)) rfl fn_52 (map_cons (eh b0 rfl) (map_cons (eh b0 rfl) map_nil)) (fun k1 n1 E0 => ?_))
 obtain ⟨b1, S0, V0, g0, C0, i0⟩ := E0
 have i1 := g0.size
 have Y0 : (X0 ++ ([UInt8.ofNat k]) : List UInt8).length = N0 + 1 := (Own.blen i0)
 have c1 := i0.nilc
 refine nl <| u0 <| rn <| mw b0 o0 <| mv b0 rfl ?_
 have L0 := Fr.ll (Fr.l2 e0 d0) g0
 have K0 := hP.le L0
 refine gk (k_cl (f110 g0.ag (β := β) (X0 := X0 ++ ([UInt8.ofNat k])) C0 i0 (by omega) (by omega) (by omega) (q := q) K0 hk (by omega)) rfl fn_110 (map_cons (eh b0 rfl) (map_cons (eh b0 rfl) map_nil)) (fun l1 o1 F0 => ?_))
 obtain ⟨P0, p0, q0, l0, D0, j0⟩ := F0
 have j1 := l0.size
 have Z0 : ((X0 ++ ([UInt8.ofNat k])) ++ q : List UInt8).length = (N0 + 1) + k := (Own.blen j0)
 have d1 := j0.nilc
 refine nl <| x0 <| rn <| gv (r_add (j := 1) (eh b0 rfl) rfl (by decide)) <| mv b0 rfl <| nl <| un_next <| un_step (n := 0) <| sk fun _ y0 => rn <| gv (r_lss (eh b0 rfl) (eh b0 rfl)) <| nl <| y0 <| sk fun _ W0 => ce b0 rfl <| we <| end_of (res0 rfl _ _ _) ((ov_defers _ _).trans r0) ?_
 exact ⟨P0, p0, q0, ((((cu0.t0 e0).tn d0 (by omega)).tr g0 (fun x hx => hx.elim (fun h1 => (by cases h1; exact .inr (.inl rfl))) (fun h1 => .inr (by have h_ : β ≤ x := h1; exact (.inr h_))))).tr l0 (fun x hx => hx.elim (fun h1 => (by cases h1; exact .inr (.inl rfl))) (fun h1 => .inr (by have h_ : β ≤ x := h1; exact (.inr h_))))), D0, j0⟩

theorem f51 {m : Ctx} {w : World} (ag : Ag m w) {wb β N0 c0 : Nat} {A0 : Option Addr} {X0 : Bytes} (hmW : Mu m w wb 125 [.slice A0 N0 c0]) (how : Own m w β A0 N0 c0 5 1 (bv X0)) (hwb : wb < β) (hbe : β ≤ w.heap.size) (hn0 : N0 < 2 ^ 18) : Calls Tryz.prog 51 #[.pointer (some ⟨wb, 0, none⟩), .string (⟨#[116, 111, 112]⟩ : ByteArray)] w (Ret fun v w' => ∃ m' A' c', Fr (orS (on wb) (ge β)) m w m' w' ∧ Mu m' w' wb 125 [.slice A' ((N0 + 1) + 3) c'] ∧ Own m' w' β A' ((N0 + 1) + 3) c' 5 1 (bv ((X0 ++ ([UInt8.ofNat 3])) ++ ([116, 111, 112])))) := by
 refine enter Tryz.func51 rfl (fun i0 hT u0 => ?_)
 have b0 : i0.tmps.size = 11 := by rw [hT]; kernel_rfl
 have H0 : i0.tmps.getD 0 undef = .pointer (some ⟨wb, 0, none⟩) := by rw [hT]; kernel_rfl
 have I0 : i0.tmps.getD 1 undef = .string (⟨#[116, 111, 112]⟩ : ByteArray) := by rw [hT]; kernel_rfl
 clear hT
 have cu0 : Fr (orS (on wb) (ge β)) m w m w := Fr.refl ag
 have lt_wb := hmW.lt
 refine rn <| mw b0 H0 <| nc b0 rfl <| gv (r_field (o' := 0) (eh b0 rfl) fo_125_0 (by rfl)) <| mw b0 I0 <| gk (k_s2b (s := ⟨#[116, 111, 112]⟩) ag (eh b0 rfl) qu_9 qu_38 qu_5 (by decide) (fun p0 T0 h0 j0 C0 g0 => ?_))
 have Q0 := g0.size
 have D0 : Sl p0 h0 3 j0 1 (bv [116, 111, 112]) := C0
 refine gk (k_lit (e := 38) (L := [.slice h0 3 j0]) g0.ag (pm_cons (eh b0 rfl) pm_nil) (by kernel_rfl) (fun U0 l0 n0 e0 E0 => ?_))
 have M0 := e0.size
 have K0 := n0.lt
 obtain ⟨d0, o0⟩ := n0.fz e0.ag
 generalize cput p0 l0 _ = F0 at d0 o0
 have O0 := d0.size
 have y0 : Sl F0 (some ⟨l0, 0, none⟩) 1 1 1 ([.slice h0 3 j0]) := Sl.of (k := 1) o0 (by kernel_rfl) (by kernel_rfl) (by decide) (by decide)
 have z0 := ((D0.up e0).up d0)
 have B0 := (((how.f0 g0).f0 e0).fn d0 ((how.f0 g0).ne E0))
 have s0 := g0.t0 e0
 have v0 := ((hmW.f0 s0).f1 d0 (by omega))
 refine gk (k_cl (f109 d0.ag (β := β) (X0 := X0) v0 B0 (by omega) (by omega) (by omega) (q := [116, 111, 112]) y0 z0 rfl (by omega)) rfl fn_109 (map_cons (eh b0 rfl) (map_cons (eh b0 rfl) map_nil)) (fun R0 S0 x0 => ?_))
 obtain ⟨G0, q0, r0, m0, w0, k0⟩ := x0
 have P0 := m0.size
 have J0 : ((X0 ++ ([UInt8.ofNat 3])) ++ ([116, 111, 112]) : List UInt8).length = (N0 + 1) + 3 := (Own.blen k0)
 have L0 := k0.nilc
 refine nl <| end_of (res0 rfl _ _ _) ((ov_defers _ _).trans u0) ?_
 exact ⟨G0, q0, r0, ((((cu0.t0 g0).t0 e0).tn d0 (by omega)).tr m0 (fun x hx => hx.elim (fun h1 => (by cases h1; exact .inr (.inl rfl))) (fun h1 => .inr (by have h_ : β ≤ x := h1; exact (.inr h_))))), w0, k0⟩

theorem f123 {m : Ctx} {w : World} (ag : Ag m w) {wb β N0 c0 : Nat} {A0 : Option Addr} {X0 : Bytes} {k1 : Bytes} {L : Option Addr} {lc : Nat} (hmW : Mu m w wb 125 [.slice A0 N0 c0]) (how : Own m w β A0 N0 c0 5 1 (bv X0)) (hwb : wb < β) (hbe : β ≤ w.heap.size) (hn0 : N0 < 2 ^ 18) (hL : Sl m L 1 lc 32 (hc k1)) : Calls Tryz.prog 123 #[.pointer (some ⟨wb, 0, none⟩), .func (.func 63) #[] #[], .slice L 1 lc] w (Ret fun v w' => ∃ m' A' c', Fr (orS (on wb) (ge β)) m w m' w' ∧ Mu m' w' wb 125 [.slice A' ((N0 + 1) + 32) c'] ∧ Own m' w' β A' ((N0 + 1) + 32) c' 5 1 (bv ((X0 ++ ([UInt8.ofNat 1])) ++ (n32 k1)))) := by
 refine enter Tryz.func123 rfl (fun j0 hT w0 => ?_)
 have b0 : j0.tmps.size = 26 := by rw [hT]; kernel_rfl
 have r0 : j0.tmps.getD 0 undef = .pointer (some ⟨wb, 0, none⟩) := by rw [hT]; kernel_rfl
 have a1 : j0.tmps.getD 1 undef = .func (.func 63) #[] #[] := by rw [hT]; kernel_rfl
 have s0 : j0.tmps.getD 2 undef = .slice L 1 lc := by rw [hT]; kernel_rfl
 clear hT
 have cu0 : Fr (orS (on wb) (ge β)) m w m w := Fr.refl ag
 have lt_wb := hmW.lt
 refine sk fun _ x0 => rn <| mw b0 r0 <| nc b0 rfl <| gv (r_field (o' := 0) (eh b0 rfl) fo_125_0 (by rfl)) <| mw b0 s0 <| gv (r_lenS (eh b0 rfl) rfl qu_27) <| gk (k_lit (e := 3) (L := [nn 1]) ag (pm_cons (eh b0 rfl) pm_nil) (by kernel_rfl) (fun z1 m0 o0 e0 V0 => ?_))
 have w1 := e0.size
 have m1 := o0.lt
 obtain ⟨d0, q0⟩ := o0.fz e0.ag
 generalize cput m m0 _ = W0 at d0 q0
 have r1 := d0.size
 have P0 : Sl W0 (some ⟨m0, 0, none⟩) 1 1 1 ([nn 1]) := Sl.of (k := 1) q0 (by kernel_rfl) (by kernel_rfl) (by decide) (by decide)
 have Q0 := ((how.f0 e0).fn d0 (how.ne V0))
 have F0 := ((hmW.f0 e0).f1 d0 (by omega))
 refine gk (k_cl (f52_s d0.ag (β := β) (X0 := X0) F0 Q0 (by omega) (by omega) (by omega) P0 (by omega)) rfl fn_52 (map_cons (eh b0 rfl) (map_cons (eh b0 rfl) map_nil)) (fun y1 D1 K0 => ?_))
 obtain ⟨o1, b1, g1, g0, H0, k0⟩ := K0
 have s1 := g0.size
 have j1 : (X0 ++ ([UInt8.ofNat 1]) : List UInt8).length = N0 + 1 := (Own.blen k0)
 have p1 := k0.nilc
 refine nl <| x0 <| sk fun _ y0 => rn <| mw b0 s0 <| gv (r_lenS (eh b0 rfl) rfl qu_27) <| gv (r_move (v := nn 0) rfl) <| nl <| y0 <| bl <| wp_unroll (n := 2) <| un_step (n := 1) <| sk fun _ z0 => rn <| gv (r_lss (eh b0 rfl) (eh b0 rfl)) <| nl <| z0 <| sk fun _ B0 => cd b0 rfl <| ws <| B0 <| sk fun _ C0 => bl <| sk fun _ D0 => rn ?_
 have T0 := Fr.ll (Fr.l2 e0 d0) g0
 have R0 := hL.le T0
 obtain ⟨d1, Z0, c1, rfl, L0, O0⟩ := R0.elem (by omega)
 refine gv (r_idxS (o' := Z0 + 0) (eh b0 rfl) (eh b0 rfl) qs_27 (by decide) (by omega)) <| gv (r_loadN (cs := hc k1) (eh b0 rfl) (g0.ag _ _ L0) (Eq.trans (rd_sub O0 (by omega)) (by kernel_rfl)) (by kernel_rfl) qr_23 sz_23) <| gk (k_alloc g0.ag qz_23 (fun A1 e1 p0 h0 U0 => ?_))
 have t1 := h0.size
 have n1 := p0.lt
 refine gz (kt (L' := hc k1) h0.ag (eh b0 rfl) (eh b0 rfl) p0 sz_23 (fun B1 J0 i0 => ?_))
 have u1 := i0.size
 refine nl <| D0 <| rn <| mw b0 a1 <| mw b0 r0 <| gv (lb (cs := hc k1) (eh b0 rfl) J0.bk qr_23 sz_23) ?_
 have S0 := ((k0.f0 h0).fn i0 (k0.ne U0))
 have G0 := ((H0.f0 h0).f1 i0 (by omega))
 refine gk (k_callv (eh b0 rfl) fn_63 (map_cons (eh b0 rfl) (map_cons (eh b0 rfl) map_nil)) (f63 i0.ag (β := β) (X0 := X0 ++ ([UInt8.ofNat 1])) G0 S0 (by omega) (by omega) (by omega)) (fun x1 C1 M0 => ?_))
 obtain ⟨Y0, u0, v0, n0, I0, l0⟩ := M0
 have v1 := n0.size
 have l1 : ((X0 ++ ([UInt8.ofNat 1])) ++ (n32 k1) : List UInt8).length = (N0 + 1) + 32 := (Own.blen l0)
 have q1 := l0.nilc
 refine nl <| C0 <| rn <| gv (r_add (j := 1) (eh b0 rfl) rfl (by decide)) <| mv b0 rfl <| nl <| un_next <| un_step (n := 0) <| sk fun _ E0 => rn <| gv (r_lss (eh b0 rfl) (eh b0 rfl)) <| nl <| E0 <| sk fun _ i1 => ce b0 rfl <| we <| end_of (res0 rfl _ _ _) ((ov_defers _ _).trans w0) ?_
 exact ⟨Y0, u0, v0, ((((((cu0.t0 e0).tn d0 (by omega)).tr g0 (fun x hx => hx.elim (fun h1 => (by cases h1; exact .inr (.inl rfl))) (fun h1 => .inr (by have h_ : β ≤ x := h1; exact (.inr h_))))).t0 h0).tn i0 (by omega)).tr n0 (fun x hx => hx.elim (fun h1 => (by cases h1; exact .inr (.inl rfl))) (fun h1 => .inr (by have h_ : β ≤ x := h1; exact (.inr h_))))), I0, l0⟩

theorem f73 {m : Ctx} {w : World} (ag : Ag m w) {wb β N0 c0 : Nat} {A0 : Option Addr} {X0 : Bytes} {k1 : Bytes} {L : Option Addr} {lc : Nat} (hmW : Mu m w wb 125 [.slice A0 N0 c0]) (how : Own m w β A0 N0 c0 5 1 (bv X0)) (hwb : wb < β) (hbe : β ≤ w.heap.size) (hn0 : N0 < 2 ^ 17) (hL : Sl m L 1 lc 32 (hc k1)) : Calls Tryz.prog 73 #[.pointer (some ⟨wb, 0, none⟩), .agg ([.slice L 1 lc, nn 1]).toArray] w (Ret fun v w' => ∃ m' A' c', Fr (orS (on wb) (ge β)) m w m' w' ∧ Mu m' w' wb 125 [.slice A' (((N0 + 1) + 32) + 1) c'] ∧ Own m' w' β A' (((N0 + 1) + 32) + 1) c' 5 1 (bv (((X0 ++ ([UInt8.ofNat 1])) ++ (n32 k1)) ++ ([UInt8.ofNat 1])))) := by
 refine enter Tryz.func73 rfl (fun q0 hT H0 => ?_)
 have b0 : q0.tmps.size = 15 := by rw [hT]; kernel_rfl
 have C0 : q0.tmps.getD 0 undef = .pointer (some ⟨wb, 0, none⟩) := by rw [hT]; kernel_rfl
 have e1 : q0.tmps.getD 1 undef = .agg ([.slice L 1 lc, nn 1]).toArray := by rw [hT]; kernel_rfl
 clear hT
 have cu0 : Fr (orS (on wb) (ge β)) m w m w := Fr.refl ag
 have lt_wb := hmW.lt
 refine sk fun _ I0 => rn <| gk (k_box (L := [.slice L 1 lc, nn 1]) ag (em b0 rfl rfl e1) (by kernel_rfl) (fun C1 E0 u0 j0 Y0 => ?_))
 have w1 := j0.size
 have n1 := u0.lt
 refine nl <| I0 <| sk fun _ J0 => rn <| mw b0 C0 <| gv (r_field (o' := 0) (eh b0 rfl) fo_32_0 (by rfl)) <| gv (la (v := .slice L 1 lc) (eh b0 rfl) u0.bk qr_27) ?_
 obtain ⟨h0, x0⟩ := u0.fz j0.ag
 generalize cput m E0 _ = o1 at h0 x0
 have t1 := h0.size
 have U0 := ((hL.up j0).up h0)
 have V0 := ((how.f0 j0).fn h0 (how.ne Y0))
 have L0 := ((hmW.f0 j0).f1 h0 (by omega))
 refine gk (k_cl (f123 h0.ag (β := β) (X0 := X0) L0 V0 (by omega) (by omega) (by omega) U0) rfl fn_123 (map_cons (eh b0 rfl) (map_cons (v := .func (.func 63) #[] #[]) rfl (map_cons (eh b0 rfl) map_nil))) (fun z1 m0 R0 => ?_))
 obtain ⟨e0, g1, i1, n0, P0, o0⟩ := R0
 have v1 := n0.size
 have l1 : ((X0 ++ ([UInt8.ofNat 1])) ++ (n32 k1) : List UInt8).length = (N0 + 1) + 32 := (Own.blen o0)
 have q1 := o0.nilc
 refine nl <| J0 ?_
 have d0 : Fr no e0 m0 e0 { m0 with drawn := m0.drawn + 1 } := Fr.drw n0.ag
 obtain ⟨l0, z0⟩ : ∃ w_, w_ = ({ m0 with drawn := m0.drawn + 1 } : World) := ⟨_, rfl⟩
 rw [← z0] at d0
 have x1 := d0.size
 refine wp_region_T mixed (fun wz => ∃ mz, Fr (no) e0 l0 mz wz) (fun wz => ∃ mz, Fr (orS (on wb) (ge β)) e0 l0 mz wz) 6 ?_
 rw [← z0]
 show wpAnyT _ _ _ _ _ 7 _ _ _
 have k0 : Fr (no) e0 l0 e0 l0 := Fr.refl d0.ag
 have p0 : ∀ wz, (∃ mz, Fr (no) e0 l0 mz wz) → ∃ mz, Fr (orS (on wb) (ge β)) e0 l0 mz wz := fun wz ⟨mz, hz⟩ => ⟨mz, hz.wk (fun x hx _ => hx.elim)⟩
 refine tk1 (i := 0) (b := false) rfl rfl p0 (fun _ _ => r_move (em b0 rfl rfl C0)) (tbF ⟨_, k0⟩) <| tk1 (i := 1) (b := false) rfl rfl p0 (fun _ _ => r_nilCheck (eh b0 rfl)) (tbF ⟨_, k0⟩) <| tk2 (i := 2) rfl rfl (fun _ _ => r_field (o' := 0) (eh b0 rfl) fo_125_0 (by rfl)) ⟨_, k0⟩ <| tk1 (i := 3) (b := false) rfl rfl p0 (fun _ _ => r_field (o' := 1) (eh b0 rfl) fo_32_1 (by rfl)) (tbF ⟨_, k0⟩) ?_
 have M0 := (d0.le _ _ (n0.le _ _ x0))
 refine tk1 (i := 4) (b := false) rfl rfl p0 (fun wz ⟨mz, hz⟩ => la (v := nn 1) (eh b0 rfl) (hz.ag _ _ (hz.le _ _ M0)) qr_3) (tbF ⟨_, k0⟩) <| ann (i := 5) (b := false) rfl rfl (k_lit (e := 3) (L := [nn 1]) d0.ag (pm_cons (eh b0 rfl) pm_nil) (by kernel_rfl) (fun A1 v0 w0 i0 W0 => ?_))
 have r1 := i0.size
 have B0 := k0.t0 i0
 have m1 := w0.lt
 refine ⟨(tbF ⟨_, B0⟩), ?_⟩
 have b1 : Fr (orS (on wb) (ge β)) _ _ _ _ := B0.wk (fun x hx _ => hx.elim)
 obtain ⟨g0, y0⟩ := w0.fz i0.ag
 generalize cput e0 v0 _ = Z0 at g0 y0
 have s1 := g0.size
 have c1 := b1.tn g0 (by omega)
 have S0 : Sl Z0 (some ⟨v0, 0, none⟩) 1 1 1 ([nn 1]) := Sl.of (k := 1) y0 (by kernel_rfl) (by kernel_rfl) (by decide) (by decide)
 have T0 := (((o0.f0 d0).f0 i0).fn g0 ((o0.f0 d0).ne W0))
 have G0 := d0.t0 i0
 have K0 := ((P0.f0 G0).f1 g0 (by omega))
 refine ann (i := 6) (b := true) rfl rfl (k_cl (f52_s g0.ag (β := β) (X0 := (X0 ++ ([UInt8.ofNat 1])) ++ (n32 k1)) K0 T0 (by omega) (by omega) (by omega) S0 (by omega)) rfl fn_52 (map_cons (eh b0 rfl) (map_cons (eh b0 rfl) map_nil)) (fun y1 B1 Q0 => ?_))
 obtain ⟨a1, D0, F0, r0, O0, s0⟩ := Q0
 have u1 := r0.size
 have d1 := c1.tr r0 (fun x hx => hx.elim (fun h1 => .inr (by cases h1; exact (.inl rfl))) (fun h1 => .inr (by have h_ : β ≤ x := h1; exact (.inr h_))))
 have j1 : (((X0 ++ ([UInt8.ofNat 1])) ++ (n32 k1)) ++ ([UInt8.ofNat 1]) : List UInt8).length = ((N0 + 1) + 32) + 1 := (Own.blen s0)
 have p1 := s0.nilc
 refine ⟨(tbT ⟨_, d1⟩), ?_⟩
 refine anyT_done (by kernel_rfl) ?_ _
 refine end_of (res0 rfl _ _ _) ((ov_defers _ _).trans H0) ?_
 exact ⟨a1, D0, F0, (((((((cu0.t0 j0).tn h0 (by omega)).tr n0 (fun x hx => hx.elim (fun h1 => (by cases h1; exact .inr (.inl rfl))) (fun h1 => .inr (by have h_ : β ≤ x := h1; exact (.inr h_))))).t0 d0).t0 i0).tn g0 (by omega)).tr r0 (fun x hx => hx.elim (fun h1 => (by cases h1; exact .inr (.inl rfl))) (fun h1 => .inr (by have h_ : β ≤ x := h1; exact (.inr h_))))), O0, s0⟩

theorem f60 {m : Ctx} {w : World} (ag : Ag m w) {wb β N0 c0 : Nat} {A0 : Option Addr} {X0 : Bytes} {v1 : Nat} (hmW : Mu m w wb 125 [.slice A0 N0 c0]) (how : Own m w β A0 N0 c0 5 1 (bv X0)) (hwb : wb < β) (hbe : β ≤ w.heap.size) (hn0 : N0 < 2 ^ 17) (hv : v1 < 128) : Calls Tryz.prog 60 #[.pointer (some ⟨wb, 0, none⟩), .agg ([.string (⟨#[116, 111, 112]⟩ : ByteArray), nn v1]).toArray] w (Ret fun v w' => ∃ m' A' c', Fr (orS (on wb) (ge β)) m w m' w' ∧ Mu m' w' wb 125 [.slice A' (((N0 + 1) + 3) + 1) c'] ∧ Own m' w' β A' (((N0 + 1) + 3) + 1) c' 5 1 (bv (((X0 ++ ([UInt8.ofNat 3])) ++ ([116, 111, 112])) ++ ([UInt8.ofNat v1])))) := by
 refine enter Tryz.func60 rfl (fun q0 hT H0 => ?_)
 have b0 : q0.tmps.size = 15 := by rw [hT]; kernel_rfl
 have C0 : q0.tmps.getD 0 undef = .pointer (some ⟨wb, 0, none⟩) := by rw [hT]; kernel_rfl
 have d1 : q0.tmps.getD 1 undef = .agg ([.string (⟨#[116, 111, 112]⟩ : ByteArray), nn v1]).toArray := by rw [hT]; kernel_rfl
 clear hT
 have cu0 : Fr (orS (on wb) (ge β)) m w m w := Fr.refl ag
 have lt_wb := hmW.lt
 refine sk fun _ I0 => rn <| gk (k_box (L := [.string (⟨#[116, 111, 112]⟩ : ByteArray), nn v1]) ag (em b0 rfl rfl d1) (by kernel_rfl) (fun A1 E0 u0 l0 W0 => ?_))
 have u1 := l0.size
 have l1 := u0.lt
 refine nl <| I0 <| sk fun _ J0 => rn <| mw b0 C0 <| gv (r_field (o' := 0) (eh b0 rfl) fo_85_0 (by rfl)) <| gv (la (v := .string (⟨#[116, 111, 112]⟩ : ByteArray)) (eh b0 rfl) u0.bk qr_9) ?_
 obtain ⟨i0, x0⟩ := u0.fz l0.ag
 generalize cput m E0 _ = m1 at i0 x0
 have r1 := i0.size
 have U0 := ((how.f0 l0).fn i0 (how.ne W0))
 have L0 := ((hmW.f0 l0).f1 i0 (by omega))
 refine gk (k_cl (f51 i0.ag (β := β) (X0 := X0) L0 U0 (by omega) (by omega) (by omega)) rfl fn_51 (map_cons (eh b0 rfl) (map_cons (eh b0 rfl) map_nil)) (fun y1 m0 R0 => ?_))
 obtain ⟨e0, e1, g1, n0, P0, o0⟩ := R0
 have t1 := n0.size
 have j1 : ((X0 ++ ([UInt8.ofNat 3])) ++ ([116, 111, 112]) : List UInt8).length = (N0 + 1) + 3 := (Own.blen o0)
 have o1 := o0.nilc
 refine nl <| J0 ?_
 have d0 : Fr no e0 m0 e0 { m0 with drawn := m0.drawn + 1 } := Fr.drw n0.ag
 obtain ⟨k0, z0⟩ : ∃ w_, w_ = ({ m0 with drawn := m0.drawn + 1 } : World) := ⟨_, rfl⟩
 rw [← z0] at d0
 have w1 := d0.size
 refine wp_region_T mixed (fun wz => ∃ mz, Fr (no) e0 k0 mz wz) (fun wz => ∃ mz, Fr (orS (on wb) (ge β)) e0 k0 mz wz) 6 ?_
 rw [← z0]
 show wpAnyT _ _ _ _ _ 7 _ _ _
 have j0 : Fr (no) e0 k0 e0 k0 := Fr.refl d0.ag
 have p0 : ∀ wz, (∃ mz, Fr (no) e0 k0 mz wz) → ∃ mz, Fr (orS (on wb) (ge β)) e0 k0 mz wz := fun wz ⟨mz, hz⟩ => ⟨mz, hz.wk (fun x hx _ => hx.elim)⟩
 refine tk1 (i := 0) (b := false) rfl rfl p0 (fun _ _ => r_move (em b0 rfl rfl C0)) (tbF ⟨_, j0⟩) <| tk1 (i := 1) (b := false) rfl rfl p0 (fun _ _ => r_nilCheck (eh b0 rfl)) (tbF ⟨_, j0⟩) <| tk2 (i := 2) rfl rfl (fun _ _ => r_field (o' := 0) (eh b0 rfl) fo_125_0 (by rfl)) ⟨_, j0⟩ <| tk1 (i := 3) (b := false) rfl rfl p0 (fun _ _ => r_field (o' := 1) (eh b0 rfl) fo_85_1 (by rfl)) (tbF ⟨_, j0⟩) ?_
 have M0 := (d0.le _ _ (n0.le _ _ x0))
 refine tk1 (i := 4) (b := false) rfl rfl p0 (fun wz ⟨mz, hz⟩ => la (v := nn v1) (eh b0 rfl) (hz.ag _ _ (hz.le _ _ M0)) qr_3) (tbF ⟨_, j0⟩) <| ann (i := 5) (b := false) rfl rfl (k_lit (e := 3) (L := [nn v1]) d0.ag (pm_cons (eh b0 rfl) pm_nil) (by kernel_rfl) (fun B1 v0 w0 h0 V0 => ?_))
 have p1 := h0.size
 have B0 := j0.t0 h0
 have k1 := w0.lt
 refine ⟨(tbF ⟨_, B0⟩), ?_⟩
 have a1 : Fr (orS (on wb) (ge β)) _ _ _ _ := B0.wk (fun x hx _ => hx.elim)
 obtain ⟨g0, y0⟩ := w0.fz h0.ag
 generalize cput e0 v0 _ = Y0 at g0 y0
 have q1 := g0.size
 have b1 := a1.tn g0 (by omega)
 have S0 : Sl Y0 (some ⟨v0, 0, none⟩) 1 1 1 ([nn v1]) := Sl.of (k := 1) y0 (by kernel_rfl) (by kernel_rfl) (by decide) (by decide)
 have T0 := (((o0.f0 d0).f0 h0).fn g0 ((o0.f0 d0).ne V0))
 have G0 := d0.t0 h0
 have K0 := ((P0.f0 G0).f1 g0 (by omega))
 refine ann (i := 6) (b := true) rfl rfl (k_cl (f52_s g0.ag (β := β) (X0 := (X0 ++ ([UInt8.ofNat 3])) ++ ([116, 111, 112])) K0 T0 (by omega) (by omega) (by omega) S0 (by omega)) rfl fn_52 (map_cons (eh b0 rfl) (map_cons (eh b0 rfl) map_nil)) (fun x1 z1 Q0 => ?_))
 obtain ⟨Z0, D0, F0, r0, O0, s0⟩ := Q0
 have s1 := r0.size
 have c1 := b1.tr r0 (fun x hx => hx.elim (fun h1 => .inr (by cases h1; exact (.inl rfl))) (fun h1 => .inr (by have h_ : β ≤ x := h1; exact (.inr h_))))
 have i1 : (((X0 ++ ([UInt8.ofNat 3])) ++ ([116, 111, 112])) ++ ([UInt8.ofNat v1]) : List UInt8).length = ((N0 + 1) + 3) + 1 := (Own.blen s0)
 have n1 := s0.nilc
 refine ⟨(tbT ⟨_, c1⟩), ?_⟩
 refine anyT_done (by kernel_rfl) ?_ _
 refine end_of (res0 rfl _ _ _) ((ov_defers _ _).trans H0) ?_
 exact ⟨Z0, D0, F0, (((((((cu0.t0 l0).tn i0 (by omega)).tr n0 (fun x hx => hx.elim (fun h1 => (by cases h1; exact .inr (.inl rfl))) (fun h1 => .inr (by have h_ : β ≤ x := h1; exact (.inr h_))))).t0 d0).t0 h0).tn g0 (by omega)).tr r0 (fun x hx => hx.elim (fun h1 => (by cases h1; exact .inr (.inl rfl))) (fun h1 => .inr (by have h_ : β ≤ x := h1; exact (.inr h_))))), O0, s0⟩

theorem f59 {m : Ctx} {w : World} (ag : Ag m w) {wb β N0 c0 : Nat} {A0 : Option Addr} {X0 : Bytes} {v1 lc : Nat} {L : Option Addr} (hmW : Mu m w wb 125 [.slice A0 N0 c0]) (how : Own m w β A0 N0 c0 5 1 (bv X0)) (hwb : wb < β) (hbe : β ≤ w.heap.size) (hn0 : N0 < 2 ^ 16) (hL : Sl m L 1 lc 2 [.string (⟨#[116, 111, 112]⟩ : ByteArray), nn v1]) (hv : v1 < 128) : Calls Tryz.prog 59 #[.pointer (some ⟨wb, 0, none⟩), .func (.func 60) #[] #[], .slice L 1 lc] w (Ret fun v w' => ∃ m' A' c', Fr (orS (on wb) (ge β)) m w m' w' ∧ Mu m' w' wb 125 [.slice A' ((((N0 + 1) + 1) + 3) + 1) c'] ∧ Own m' w' β A' ((((N0 + 1) + 1) + 3) + 1) c' 5 1 (bv ((((X0 ++ ([UInt8.ofNat 1])) ++ ([UInt8.ofNat 3])) ++ ([116, 111, 112])) ++ ([UInt8.ofNat v1])))) := by
 refine enter Tryz.func59 rfl (fun j0 hT w0 => ?_)
 have b0 : j0.tmps.size = 26 := by rw [hT]; kernel_rfl
 have r0 : j0.tmps.getD 0 undef = .pointer (some ⟨wb, 0, none⟩) := by rw [hT]; kernel_rfl
 have a1 : j0.tmps.getD 1 undef = .func (.func 60) #[] #[] := by rw [hT]; kernel_rfl
 have s0 : j0.tmps.getD 2 undef = .slice L 1 lc := by rw [hT]; kernel_rfl
 clear hT
 have cu0 : Fr (orS (on wb) (ge β)) m w m w := Fr.refl ag
 have lt_wb := hmW.lt
 refine sk fun _ x0 => rn <| mw b0 r0 <| nc b0 rfl <| gv (r_field (o' := 0) (eh b0 rfl) fo_125_0 (by rfl)) <| mw b0 s0 <| gv (r_lenS (eh b0 rfl) rfl qu_54) <| gk (k_lit (e := 3) (L := [nn 1]) ag (pm_cons (eh b0 rfl) pm_nil) (by kernel_rfl) (fun z1 m0 o0 e0 V0 => ?_))
 have w1 := e0.size
 have l1 := o0.lt
 obtain ⟨d0, q0⟩ := o0.fz e0.ag
 generalize cput m m0 _ = W0 at d0 q0
 have q1 := d0.size
 have P0 : Sl W0 (some ⟨m0, 0, none⟩) 1 1 1 ([nn 1]) := Sl.of (k := 1) q0 (by kernel_rfl) (by kernel_rfl) (by decide) (by decide)
 have Q0 := ((how.f0 e0).fn d0 (how.ne V0))
 have F0 := ((hmW.f0 e0).f1 d0 (by omega))
 refine gk (k_cl (f52_s d0.ag (β := β) (X0 := X0) F0 Q0 (by omega) (by omega) (by omega) P0 (by omega)) rfl fn_52 (map_cons (eh b0 rfl) (map_cons (eh b0 rfl) map_nil)) (fun y1 D1 K0 => ?_))
 obtain ⟨n1, b1, g1, g0, H0, k0⟩ := K0
 have r1 := g0.size
 have j1 : (X0 ++ ([UInt8.ofNat 1]) : List UInt8).length = N0 + 1 := (Own.blen k0)
 have o1 := k0.nilc
 refine nl <| x0 <| sk fun _ y0 => rn <| mw b0 s0 <| gv (r_lenS (eh b0 rfl) rfl qu_54) <| gv (r_move (v := nn 0) rfl) <| nl <| y0 <| bl <| wp_unroll (n := 2) <| un_step (n := 1) <| sk fun _ z0 => rn <| gv (r_lss (eh b0 rfl) (eh b0 rfl)) <| nl <| z0 <| sk fun _ B0 => cd b0 rfl <| ws <| B0 <| sk fun _ C0 => bl <| sk fun _ D0 => rn ?_
 have T0 := Fr.ll (Fr.l2 e0 d0) g0
 have R0 := hL.le T0
 obtain ⟨d1, Z0, c1, rfl, L0, O0⟩ := R0.elem (by omega)
 refine gv (r_idxS (o' := Z0 + 0) (eh b0 rfl) (eh b0 rfl) qs_54 (by decide) (by omega)) <| gv (r_loadN (cs := [.string (⟨#[116, 111, 112]⟩ : ByteArray), nn v1]) (eh b0 rfl) (g0.ag _ _ L0) (Eq.trans (rd_sub O0 (by omega)) (by kernel_rfl)) (by kernel_rfl) qr_85 sz_85) <| gk (k_alloc g0.ag qz_85 (fun A1 e1 p0 h0 U0 => ?_))
 have s1 := h0.size
 have m1 := p0.lt
 refine gz (kt (L' := [.string (⟨#[116, 111, 112]⟩ : ByteArray), nn v1]) h0.ag (eh b0 rfl) (eh b0 rfl) p0 sz_85 (fun B1 J0 i0 => ?_))
 have t1 := i0.size
 refine nl <| D0 <| rn <| mw b0 a1 <| mw b0 r0 <| gv (lb (cs := [.string (⟨#[116, 111, 112]⟩ : ByteArray), nn v1]) (eh b0 rfl) J0.bk qr_85 sz_85) ?_
 have S0 := ((k0.f0 h0).fn i0 (k0.ne U0))
 have G0 := ((H0.f0 h0).f1 i0 (by omega))
 refine gk (k_callv (eh b0 rfl) fn_60 (map_cons (eh b0 rfl) (map_cons (eh b0 rfl) map_nil)) (f60 i0.ag (β := β) (X0 := X0 ++ ([UInt8.ofNat 1])) G0 S0 (by omega) (by omega) (by omega) (by omega)) (fun x1 C1 M0 => ?_))
 obtain ⟨Y0, u0, v0, n0, I0, l0⟩ := M0
 have u1 := n0.size
 have k1 : ((((X0 ++ ([UInt8.ofNat 1])) ++ ([UInt8.ofNat 3])) ++ ([116, 111, 112])) ++ ([UInt8.ofNat v1]) : List UInt8).length = (((N0 + 1) + 1) + 3) + 1 := (Own.blen l0)
 have p1 := l0.nilc
 refine nl <| C0 <| rn <| gv (r_add (j := 1) (eh b0 rfl) rfl (by decide)) <| mv b0 rfl <| nl <| un_next <| un_step (n := 0) <| sk fun _ E0 => rn <| gv (r_lss (eh b0 rfl) (eh b0 rfl)) <| nl <| E0 <| sk fun _ i1 => ce b0 rfl <| we <| end_of (res0 rfl _ _ _) ((ov_defers _ _).trans w0) ?_
 exact ⟨Y0, u0, v0, ((((((cu0.t0 e0).tn d0 (by omega)).tr g0 (fun x hx => hx.elim (fun h1 => (by cases h1; exact .inr (.inl rfl))) (fun h1 => .inr (by have h_ : β ≤ x := h1; exact (.inr h_))))).t0 h0).tn i0 (by omega)).tr n0 (fun x hx => hx.elim (fun h1 => (by cases h1; exact .inr (.inl rfl))) (fun h1 => .inr (by have h_ : β ≤ x := h1; exact (.inr h_))))), I0, l0⟩

theorem f53 {m : Ctx} {w : World} (ag : Ag m w) {wb β N0 c0 : Nat} {A0 : Option Addr} {X0 : Bytes} (hmW : Mu m w wb 125 [.slice A0 N0 c0]) (how : Own m w β A0 N0 c0 5 1 (bv X0)) (hwb : wb < β) (hbe : β ≤ w.heap.size) (hn0 : N0 < 2 ^ 16) : Calls Tryz.prog 53 #[.pointer (some ⟨wb, 0, none⟩), .func (.func 54) #[] #[], .slice none 0 0] w (Ret fun v w' => ∃ m' A' c', Fr (orS (on wb) (ge β)) m w m' w' ∧ Mu m' w' wb 125 [.slice A' (N0 + 1) c'] ∧ Own m' w' β A' (N0 + 1) c' 5 1 (bv (X0 ++ ([UInt8.ofNat 0])))) := by
 refine enter Tryz.func53 rfl (fun g0 hT p0 => ?_)
 have b0 : g0.tmps.size = 26 := by rw [hT]; kernel_rfl
 have D0 : g0.tmps.getD 0 undef = .pointer (some ⟨wb, 0, none⟩) := by rw [hT]; kernel_rfl
 have I0 : g0.tmps.getD 1 undef = .func (.func 54) #[] #[] := by rw [hT]; kernel_rfl
 have m0 : g0.tmps.getD 2 undef = .slice none 0 0 := by rw [hT]; kernel_rfl
 clear hT
 have cu0 : Fr (orS (on wb) (ge β)) m w m w := Fr.refl ag
 have lt_wb := hmW.lt
 refine sk fun _ q0 => rn <| mw b0 D0 <| nc b0 rfl <| gv (r_field (o' := 0) (eh b0 rfl) fo_125_0 (by rfl)) <| mw b0 m0 <| gv (r_lenS (eh b0 rfl) rfl qu_36) <| gk (k_lit (e := 3) (L := [nn 0]) ag (pm_cons (eh b0 rfl) pm_nil) (by kernel_rfl) (fun O0 i0 k0 e0 z0 => ?_))
 have L0 := e0.size
 have G0 := k0.lt
 obtain ⟨d0, l0⟩ := k0.fz e0.ag
 generalize cput m i0 _ = B0 at d0 l0
 have J0 := d0.size
 have x0 : Sl B0 (some ⟨i0, 0, none⟩) 1 1 1 ([nn 0]) := Sl.of (k := 1) l0 (by kernel_rfl) (by kernel_rfl) (by decide) (by decide)
 have y0 := ((how.f0 e0).fn d0 (how.ne z0))
 have u0 := ((hmW.f0 e0).f1 d0 (by omega))
 refine gk (k_cl (f52_s d0.ag (β := β) (X0 := X0) u0 y0 (by omega) (by omega) (by omega) x0 (by omega)) rfl fn_52 (map_cons (eh b0 rfl) (map_cons (eh b0 rfl) map_nil)) (fun M0 P0 w0 => ?_))
 obtain ⟨C0, n0, o0, j0, v0, h0⟩ := w0
 have K0 := j0.size
 have F0 : (X0 ++ ([UInt8.ofNat 0]) : List UInt8).length = N0 + 1 := (Own.blen h0)
 have H0 := h0.nilc
 refine nl <| q0 <| sk fun _ r0 => rn <| mw b0 m0 <| gv (r_lenS (eh b0 rfl) rfl qu_36) <| gv (r_move (v := nn 0) rfl) <| nl <| r0 <| bl <| wp_unroll (n := 1) <| un_step (n := 0) <| sk fun _ s0 => rn <| gv (r_lss (eh b0 rfl) (eh b0 rfl)) <| nl <| s0 <| sk fun _ E0 => ce b0 rfl <| we <| end_of (res0 rfl _ _ _) ((ov_defers _ _).trans p0) ?_
 exact ⟨C0, n0, o0, (((cu0.t0 e0).tn d0 (by omega)).tr j0 (fun x hx => hx.elim (fun h1 => (by cases h1; exact .inr (.inl rfl))) (fun h1 => .inr (by have h_ : β ≤ x := h1; exact (.inr h_))))), v0, h0⟩

theorem f55 {m : Ctx} {w : World} (ag : Ag m w) {wb β N0 c0 : Nat} {A0 : Option Addr} {X0 : Bytes} (hmW : Mu m w wb 125 [.slice A0 N0 c0]) (how : Own m w β A0 N0 c0 5 1 (bv X0)) (hwb : wb < β) (hbe : β ≤ w.heap.size) (hn0 : N0 < 2 ^ 16) : Calls Tryz.prog 55 #[.pointer (some ⟨wb, 0, none⟩), .func (.func 56) #[] #[], .slice none 0 0] w (Ret fun v w' => ∃ m' A' c', Fr (orS (on wb) (ge β)) m w m' w' ∧ Mu m' w' wb 125 [.slice A' (N0 + 1) c'] ∧ Own m' w' β A' (N0 + 1) c' 5 1 (bv (X0 ++ ([UInt8.ofNat 0])))) := by
 refine enter Tryz.func55 rfl (fun g0 hT p0 => ?_)
 have b0 : g0.tmps.size = 26 := by rw [hT]; kernel_rfl
 have D0 : g0.tmps.getD 0 undef = .pointer (some ⟨wb, 0, none⟩) := by rw [hT]; kernel_rfl
 have I0 : g0.tmps.getD 1 undef = .func (.func 56) #[] #[] := by rw [hT]; kernel_rfl
 have m0 : g0.tmps.getD 2 undef = .slice none 0 0 := by rw [hT]; kernel_rfl
 clear hT
 have cu0 : Fr (orS (on wb) (ge β)) m w m w := Fr.refl ag
 have lt_wb := hmW.lt
 refine sk fun _ q0 => rn <| mw b0 D0 <| nc b0 rfl <| gv (r_field (o' := 0) (eh b0 rfl) fo_125_0 (by rfl)) <| mw b0 m0 <| gv (r_lenS (eh b0 rfl) rfl qu_80) <| gk (k_lit (e := 3) (L := [nn 0]) ag (pm_cons (eh b0 rfl) pm_nil) (by kernel_rfl) (fun O0 i0 k0 e0 z0 => ?_))
 have L0 := e0.size
 have G0 := k0.lt
 obtain ⟨d0, l0⟩ := k0.fz e0.ag
 generalize cput m i0 _ = B0 at d0 l0
 have J0 := d0.size
 have x0 : Sl B0 (some ⟨i0, 0, none⟩) 1 1 1 ([nn 0]) := Sl.of (k := 1) l0 (by kernel_rfl) (by kernel_rfl) (by decide) (by decide)
 have y0 := ((how.f0 e0).fn d0 (how.ne z0))
 have u0 := ((hmW.f0 e0).f1 d0 (by omega))
 refine gk (k_cl (f52_s d0.ag (β := β) (X0 := X0) u0 y0 (by omega) (by omega) (by omega) x0 (by omega)) rfl fn_52 (map_cons (eh b0 rfl) (map_cons (eh b0 rfl) map_nil)) (fun M0 P0 w0 => ?_))
 obtain ⟨C0, n0, o0, j0, v0, h0⟩ := w0
 have K0 := j0.size
 have F0 : (X0 ++ ([UInt8.ofNat 0]) : List UInt8).length = N0 + 1 := (Own.blen h0)
 have H0 := h0.nilc
 refine nl <| q0 <| sk fun _ r0 => rn <| mw b0 m0 <| gv (r_lenS (eh b0 rfl) rfl qu_80) <| gv (r_move (v := nn 0) rfl) <| nl <| r0 <| bl <| wp_unroll (n := 1) <| un_step (n := 0) <| sk fun _ s0 => rn <| gv (r_lss (eh b0 rfl) (eh b0 rfl)) <| nl <| s0 <| sk fun _ E0 => ce b0 rfl <| we <| end_of (res0 rfl _ _ _) ((ov_defers _ _).trans p0) ?_
 exact ⟨C0, n0, o0, (((cu0.t0 e0).tn d0 (by omega)).tr j0 (fun x hx => hx.elim (fun h1 => (by cases h1; exact .inr (.inl rfl))) (fun h1 => .inr (by have h_ : β ≤ x := h1; exact (.inr h_))))), v0, h0⟩

theorem f72 {m : Ctx} {w : World} (ag : Ag m w) {wb β N0 c0 : Nat} {A0 : Option Addr} {X0 : Bytes} {q0 q1 q2 q3 : Bytes} {L0 L1 L2 L3 : Option Addr} {l0 l1 l2 l3 v1 : Nat} {xb : Nat} (hmW : Mu m w wb 125 [.slice A0 N0 c0]) (how : Own m w β A0 N0 c0 5 1 (bv X0)) (hwb : wb < β) (hbe : β ≤ w.heap.size) (hn0 : N0 < 2 ^ 15) (hmX : Mu m w xb 35 ([nn v1, nn 1073741824, .slice L0 1 l0, nn 1, .slice L1 1 l1, nn 1, .slice L2 1 l2, nn 1, .slice L3 1 l3, nn 1])) (hxb : xb < β) (hne : xb ≠ wb) (hL0 : Sl m L0 1 l0 32 (hc q0)) (hL1 : Sl m L1 1 l1 32 (hc q1)) (hL2 : Sl m L2 1 l2 32 (hc q2)) (hL3 : Sl m L3 1 l3 32 (hc q3)) (hv : v1 < 128) : Calls Tryz.prog 72 #[.pointer (some ⟨wb, 0, none⟩), .pointer (some ⟨xb, 0, none⟩)] w (Ret fun v w' => ∃ m' A' c', Fr (orS (on wb) (ge β)) m w m' w' ∧ Mu m' w' wb 125 [.slice A' (((((((((((((N0 + 1 + 1 + 1 + 1 + 1 + 1) + 1) + 32) + 1) + 1) + 32) + 1) + 1) + 32) + 1) + 1) + 32) + 1) c'] ∧ Own m' w' β A' (((((((((((((N0 + 1 + 1 + 1 + 1 + 1 + 1) + 1) + 32) + 1) + 1) + 32) + 1) + 1) + 32) + 1) + 1) + 32) + 1) c' 5 1 (bv ((((((((((((((((((X0 ++ ([UInt8.ofNat v1])) ++ ([0 ||| 128])) ++ ([0 ||| 128])) ++ ([0 ||| 128])) ++ ([0 ||| 128])) ++ ([4])) ++ ([UInt8.ofNat 1])) ++ (n32 q0)) ++ ([UInt8.ofNat 1])) ++ ([UInt8.ofNat 1])) ++ (n32 q1)) ++ ([UInt8.ofNat 1])) ++ ([UInt8.ofNat 1])) ++ (n32 q2)) ++ ([UInt8.ofNat 1])) ++ ([UInt8.ofNat 1])) ++ (n32 q3)) ++ ([UInt8.ofNat 1])))) := by
 refine enter Tryz.func72 rfl (fun F0 hT c1 => ?_)
 have b0 : F0.tmps.size = 23 := by rw [hT]; kernel_rfl
 have w0 : F0.tmps.getD 0 undef = .pointer (some ⟨wb, 0, none⟩) := by rw [hT]; kernel_rfl
 have I0 : F0.tmps.getD 1 undef = .pointer (some ⟨xb, 0, none⟩) := by rw [hT]; kernel_rfl
 clear hT
 have cu0 : Fr (orS (on wb) (ge β)) m w m w := Fr.refl ag
 have lt_wb := hmW.lt
 have lt_xb := hmX.lt
 refine sk fun _ d1 => ?_
 have d0 : Fr no m w m { w with drawn := w.drawn + 1 } := Fr.drw ag
 obtain ⟨v0, T0⟩ : ∃ w_, w_ = ({ w with drawn := w.drawn + 1 } : World) := ⟨_, rfl⟩
 rw [← T0] at d0
 have s3 := d0.size
 refine wp_region_T mixed (fun wz => ∃ mz, Fr (no) m v0 mz wz) (fun wz => ∃ mz, Fr (orS (on wb) (ge β)) m v0 mz wz) 8 ?_
 rw [← T0]
 show wpAnyT _ _ _ _ _ 9 _ _ _
 have h0 : Fr (no) m v0 m v0 := Fr.refl d0.ag
 have u0 : ∀ wz, (∃ mz, Fr (no) m v0 mz wz) → ∃ mz, Fr (orS (on wb) (ge β)) m v0 mz wz := fun wz ⟨mz, hz⟩ => ⟨mz, hz.wk (fun x hx _ => hx.elim)⟩
 refine tk1 (i := 0) (b := false) rfl rfl u0 (fun _ _ => r_move (em b0 rfl rfl w0)) (tbF ⟨_, h0⟩) <| tk1 (i := 1) (b := false) rfl rfl u0 (fun _ _ => r_nilCheck (eh b0 rfl)) (tbF ⟨_, h0⟩) <| tk2 (i := 2) rfl rfl (fun _ _ => r_field (o' := 0) (eh b0 rfl) fo_125_0 (by rfl)) ⟨_, h0⟩ <| tk1 (i := 3) (b := false) rfl rfl u0 (fun _ _ => r_field (o' := 0) (em b0 rfl rfl I0) fo_35_0 (by rfl)) (tbF ⟨_, h0⟩) ?_
 have G0 := (hmX.f0 d0)
 refine tk1 (i := 4) (b := false) rfl rfl u0 (fun wz ⟨mz, hz⟩ => la (v := nn v1) (eh b0 rfl) (hz.ex G0.bk (fun h => h.elim (show xb ≠ wb from by omega) (show ¬ β ≤ xb from by omega))) qr_3) (tbF ⟨_, h0⟩) <| tk1 (i := 5) (b := false) rfl rfl u0 (fun _ _ => r_field (o' := 1) (em b0 rfl rfl I0) fo_35_1 (by rfl)) (tbF ⟨_, h0⟩) <| tk1 (i := 6) (b := false) rfl rfl u0 (fun wz ⟨mz, hz⟩ => la (v := nn 1073741824) (eh b0 rfl) (hz.ex G0.bk (fun h => h.elim (show xb ≠ wb from by omega) (show ¬ β ≤ xb from by omega))) qr_3) (tbF ⟨_, h0⟩) <| ann (i := 7) (b := false) rfl rfl (k_lit (e := 3) (L := [nn v1, nn 1073741824]) d0.ag (pm_cons (eh b0 rfl) (pm_cons (eh b0 rfl) pm_nil)) (by kernel_rfl) (fun N3 J0 R0 g0 o2 => ?_))
 have t3 := g0.size
 have Y0 := h0.t0 g0
 have S2 := R0.lt
 refine ⟨(tbF ⟨_, Y0⟩), ?_⟩
 have t2 : Fr (orS (on wb) (ge β)) _ _ _ _ := Y0.wk (fun x hx _ => hx.elim)
 obtain ⟨e0, S0⟩ := R0.fz g0.ag
 generalize cput m J0 _ = r2 at e0 S0
 have u3 := e0.size
 have u2 := t2.tn e0 (by omega)
 have g2 : Sl r2 (some ⟨J0, 0, none⟩) 2 2 1 ([nn v1, nn 1073741824]) := Sl.of (k := 2) S0 (by kernel_rfl) (by kernel_rfl) (by decide) (by decide)
 have h2 := (((how.f0 d0).f0 g0).fn e0 ((how.f0 d0).ne o2))
 have b1 := d0.t0 g0
 have H1 := ((hmW.f0 b1).f1 e0 (by omega))
 refine ann (i := 8) (b := true) rfl rfl (k_cl (f52_sb e0.ag (β := β) (X0 := X0) H1 h2 (by omega) (by omega) (by omega) g2 (by omega)) rfl fn_52 (map_cons (eh b0 rfl) (map_cons (eh b0 rfl) map_nil)) (fun z3 O3 W1 => ?_))
 obtain ⟨W2, y2, G2, s0, N1, B0⟩ := W1
 have c3 := s0.size
 have s2 := u2.tr s0 (fun x hx => hx.elim (fun h1 => .inr (by cases h1; exact (.inl rfl))) (fun h1 => .inr (by have h_ : β ≤ x := h1; exact (.inr h_))))
 have I2 : ((((((X0 ++ ([UInt8.ofNat v1])) ++ ([0 ||| 128])) ++ ([0 ||| 128])) ++ ([0 ||| 128])) ++ ([0 ||| 128])) ++ ([4]) : List UInt8).length = N0 + 1 + 1 + 1 + 1 + 1 + 1 := (Own.blen B0)
 have b3 := B0.nilc
 refine ⟨(tbT ⟨_, s2⟩), ?_⟩
 refine anyT_done (by kernel_rfl) ?_ _
 refine d1 <| sk fun _ e1 => rn <| gv (r_field (o' := 2) (em b0 rfl rfl I0) fo_35_2 (by rfl)) ?_
 have B1 := ((G0.f0 g0).f1 e0 (by omega)).fs s0 (fun h => h.elim (show xb ≠ wb from by omega) (show ¬ β ≤ xb from by omega))
 have C1 := B1
 refine gv (lb (cs := [.slice L0 1 l0, nn 1, .slice L1 1 l1, nn 1, .slice L2 1 l2, nn 1, .slice L3 1 l3, nn 1]) (eh b0 rfl) C1.bk qr_33 sz_33) <| gv (r_move (v := nn 0) rfl) <| nl <| e1 <| bl <| wp_unroll (n := 5) <| un_step (n := 4) <| sk fun _ g1 => rn <| gv (r_lss (j := 4) (eh b0 rfl) rfl) <| nl <| g1 <| sk fun _ i1 => cd b0 rfl <| ws <| i1 <| sk fun _ j1 => bl <| sk fun _ k1 => rn <| gv (r_indexN (cs := [.slice L0 1 l0, nn 1]) (i := 0) (eh b0 rfl) (eh b0 rfl) qa_33 qr_32 (by decide) (by kernel_rfl)) <| gk (k_alloc s0.ag qz_32 (fun A3 z2 M0 i0 j2 => ?_))
 have d3 := i0.size
 have O2 := M0.lt
 refine gz (kt (L' := [.slice L0 1 l0, nn 1]) i0.ag (eh b0 rfl) (eh b0 rfl) M0 sz_32 (fun B3 O1 j0 => ?_))
 have e3 := j0.size
 refine nl <| k1 <| rn <| mw b0 w0 <| gv (lb (cs := [.slice L0 1 l0, nn 1]) (eh b0 rfl) O1.bk qr_32 sz_32) ?_
 have U0 := Fr.ll (Fr.ll (Fr.ll (Fr.ll (Fr.l2 d0 g0) e0) s0) i0) j0
 have X1 := hL0.le U0
 have Y1 := ((B0.f0 i0).fn j0 (B0.ne j2))
 have D1 := ((N1.f0 i0).f1 j0 (by omega))
 refine gk (k_cl (f73 j0.ag (β := β) (X0 := (((((X0 ++ ([UInt8.ofNat v1])) ++ ([0 ||| 128])) ++ ([0 ||| 128])) ++ ([0 ||| 128])) ++ ([0 ||| 128])) ++ ([4])) D1 Y1 (by omega) (by omega) (by omega) X1) rfl fn_73 (map_cons (eh b0 rfl) (map_cons (eh b0 rfl) map_nil)) (fun v3 C3 S1 => ?_))
 obtain ⟨T2, v2, D2, x0, I1, C0⟩ := S1
 have g3 := x0.size
 have J2 : (((((((((X0 ++ ([UInt8.ofNat v1])) ++ ([0 ||| 128])) ++ ([0 ||| 128])) ++ ([0 ||| 128])) ++ ([0 ||| 128])) ++ ([4])) ++ ([UInt8.ofNat 1])) ++ (n32 q0)) ++ ([UInt8.ofNat 1]) : List UInt8).length = (((N0 + 1 + 1 + 1 + 1 + 1 + 1) + 1) + 32) + 1 := (Own.blen C0)
 have X2 := C0.nilc
 refine nl <| j1 <| rn <| gv (r_add (j := 1) (eh b0 rfl) rfl (by decide)) <| mv b0 rfl <| nl <| un_next <| un_step (n := 3) <| sk fun _ m1 => rn <| gv (r_lss (j := 4) (eh b0 rfl) rfl) <| nl <| m1 <| sk fun _ n1 => cd b0 rfl <| ws <| n1 <| sk fun _ o1 => bl <| sk fun _ p1 => rn <| gv (r_indexN (cs := [.slice L1 1 l1, nn 1]) (i := 1) (eh b0 rfl) (eh b0 rfl) qa_33 qr_32 (by decide) (by kernel_rfl)) <| gk (k_alloc x0.ag qz_32 (fun D3 A2 O0 k0 k2 => ?_))
 have h3 := k0.size
 have P2 := O0.lt
 refine gz (kt (L' := [.slice L1 1 l1, nn 1]) k0.ag (eh b0 rfl) (eh b0 rfl) O0 sz_32 (fun E3 P1 m0 => ?_))
 have i3 := m0.size
 refine nl <| p1 <| rn <| mw b0 w0 <| gv (lb (cs := [.slice L1 1 l1, nn 1]) (eh b0 rfl) P1.bk qr_32 sz_32) ?_
 have V0 := Fr.ll (Fr.ll (Fr.ll U0 x0) k0) m0
 have Z1 := hL1.le V0
 have a2 := ((C0.f0 k0).fn m0 (C0.ne k2))
 have E1 := ((I1.f0 k0).f1 m0 (by omega))
 refine gk (k_cl (f73 m0.ag (β := β) (X0 := ((((((((X0 ++ ([UInt8.ofNat v1])) ++ ([0 ||| 128])) ++ ([0 ||| 128])) ++ ([0 ||| 128])) ++ ([0 ||| 128])) ++ ([4])) ++ ([UInt8.ofNat 1])) ++ (n32 q0)) ++ ([UInt8.ofNat 1])) E1 a2 (by omega) (by omega) (by omega) Z1) rfl fn_73 (map_cons (eh b0 rfl) (map_cons (eh b0 rfl) map_nil)) (fun w3 F3 T1 => ?_))
 obtain ⟨U2, w2, E2, y0, J1, D0⟩ := T1
 have j3 := y0.size
 have K2 : ((((((((((((X0 ++ ([UInt8.ofNat v1])) ++ ([0 ||| 128])) ++ ([0 ||| 128])) ++ ([0 ||| 128])) ++ ([0 ||| 128])) ++ ([4])) ++ ([UInt8.ofNat 1])) ++ (n32 q0)) ++ ([UInt8.ofNat 1])) ++ ([UInt8.ofNat 1])) ++ (n32 q1)) ++ ([UInt8.ofNat 1]) : List UInt8).length = ((((((N0 + 1 + 1 + 1 + 1 + 1 + 1) + 1) + 32) + 1) + 1) + 32) + 1 := (Own.blen D0)
 have Y2 := D0.nilc
 refine nl <| o1 <| rn <| gv (r_add (j := 1) (eh b0 rfl) rfl (by decide)) <| mv b0 rfl <| nl <| un_next <| un_step (n := 2) <| sk fun _ r1 => rn <| gv (r_lss (j := 4) (eh b0 rfl) rfl) <| nl <| r1 <| sk fun _ s1 => cd b0 rfl <| ws <| s1 <| sk fun _ t1 => bl <| sk fun _ u1 => rn <| gv (r_indexN (cs := [.slice L2 1 l2, nn 1]) (i := 2) (eh b0 rfl) (eh b0 rfl) qa_33 qr_32 (by decide) (by kernel_rfl)) <| gk (k_alloc y0.ag qz_32 (fun G3 B2 P0 n0 m2 => ?_))
 have k3 := n0.size
 have Q2 := P0.lt
 refine gz (kt (L' := [.slice L2 1 l2, nn 1]) n0.ag (eh b0 rfl) (eh b0 rfl) P0 sz_32 (fun H3 Q1 o0 => ?_))
 have m3 := o0.size
 refine nl <| u1 <| rn <| mw b0 w0 <| gv (lb (cs := [.slice L2 1 l2, nn 1]) (eh b0 rfl) Q1.bk qr_32 sz_32) ?_
 have W0 := Fr.ll (Fr.ll (Fr.ll V0 y0) n0) o0
 have b2 := hL2.le W0
 have c2 := ((D0.f0 n0).fn o0 (D0.ne m2))
 have F1 := ((J1.f0 n0).f1 o0 (by omega))
 refine gk (k_cl (f73 o0.ag (β := β) (X0 := (((((((((((X0 ++ ([UInt8.ofNat v1])) ++ ([0 ||| 128])) ++ ([0 ||| 128])) ++ ([0 ||| 128])) ++ ([0 ||| 128])) ++ ([4])) ++ ([UInt8.ofNat 1])) ++ (n32 q0)) ++ ([UInt8.ofNat 1])) ++ ([UInt8.ofNat 1])) ++ (n32 q1)) ++ ([UInt8.ofNat 1])) F1 c2 (by omega) (by omega) (by omega) b2) rfl fn_73 (map_cons (eh b0 rfl) (map_cons (eh b0 rfl) map_nil)) (fun x3 I3 U1 => ?_))
 obtain ⟨V2, x2, F2, z0, K1, E0⟩ := U1
 have n3 := z0.size
 have M2 : (((((((((((((((X0 ++ ([UInt8.ofNat v1])) ++ ([0 ||| 128])) ++ ([0 ||| 128])) ++ ([0 ||| 128])) ++ ([0 ||| 128])) ++ ([4])) ++ ([UInt8.ofNat 1])) ++ (n32 q0)) ++ ([UInt8.ofNat 1])) ++ ([UInt8.ofNat 1])) ++ (n32 q1)) ++ ([UInt8.ofNat 1])) ++ ([UInt8.ofNat 1])) ++ (n32 q2)) ++ ([UInt8.ofNat 1]) : List UInt8).length = (((((((((N0 + 1 + 1 + 1 + 1 + 1 + 1) + 1) + 32) + 1) + 1) + 32) + 1) + 1) + 32) + 1 := (Own.blen E0)
 have Z2 := E0.nilc
 refine nl <| t1 <| rn <| gv (r_add (j := 1) (eh b0 rfl) rfl (by decide)) <| mv b0 rfl <| nl <| un_next <| un_step (n := 1) <| sk fun _ w1 => rn <| gv (r_lss (j := 4) (eh b0 rfl) rfl) <| nl <| w1 <| sk fun _ x1 => cd b0 rfl <| ws <| x1 <| sk fun _ y1 => bl <| sk fun _ z1 => rn <| gv (r_indexN (cs := [.slice L3 1 l3, nn 1]) (i := 3) (eh b0 rfl) (eh b0 rfl) qa_33 qr_32 (by decide) (by kernel_rfl)) <| gk (k_alloc z0.ag qz_32 (fun J3 C2 Q0 p0 n2 => ?_))
 have o3 := p0.size
 have R2 := Q0.lt
 refine gz (kt (L' := [.slice L3 1 l3, nn 1]) p0.ag (eh b0 rfl) (eh b0 rfl) Q0 sz_32 (fun K3 R1 r0 => ?_))
 have p3 := r0.size
 refine nl <| z1 <| rn <| mw b0 w0 <| gv (lb (cs := [.slice L3 1 l3, nn 1]) (eh b0 rfl) R1.bk qr_32 sz_32) ?_
 have i2 := Fr.ll (Fr.ll (Fr.ll W0 z0) p0) r0
 have d2 := hL3.le i2
 have e2 := ((E0.f0 p0).fn r0 (E0.ne n2))
 have G1 := ((K1.f0 p0).f1 r0 (by omega))
 refine gk (k_cl (f73 r0.ag (β := β) (X0 := ((((((((((((((X0 ++ ([UInt8.ofNat v1])) ++ ([0 ||| 128])) ++ ([0 ||| 128])) ++ ([0 ||| 128])) ++ ([0 ||| 128])) ++ ([4])) ++ ([UInt8.ofNat 1])) ++ (n32 q0)) ++ ([UInt8.ofNat 1])) ++ ([UInt8.ofNat 1])) ++ (n32 q1)) ++ ([UInt8.ofNat 1])) ++ ([UInt8.ofNat 1])) ++ (n32 q2)) ++ ([UInt8.ofNat 1])) G1 e2 (by omega) (by omega) (by omega) d2) rfl fn_73 (map_cons (eh b0 rfl) (map_cons (eh b0 rfl) map_nil)) (fun y3 M3 V1 => ?_))
 obtain ⟨p2, Z0, a1, K0, M1, H0⟩ := V1
 have r3 := K0.size
 have N2 : ((((((((((((((((((X0 ++ ([UInt8.ofNat v1])) ++ ([0 ||| 128])) ++ ([0 ||| 128])) ++ ([0 ||| 128])) ++ ([0 ||| 128])) ++ ([4])) ++ ([UInt8.ofNat 1])) ++ (n32 q0)) ++ ([UInt8.ofNat 1])) ++ ([UInt8.ofNat 1])) ++ (n32 q1)) ++ ([UInt8.ofNat 1])) ++ ([UInt8.ofNat 1])) ++ (n32 q2)) ++ ([UInt8.ofNat 1])) ++ ([UInt8.ofNat 1])) ++ (n32 q3)) ++ ([UInt8.ofNat 1]) : List UInt8).length = ((((((((((((N0 + 1 + 1 + 1 + 1 + 1 + 1) + 1) + 32) + 1) + 1) + 32) + 1) + 1) + 32) + 1) + 1) + 32) + 1 := (Own.blen H0)
 have a3 := H0.nilc
 refine nl <| y1 <| rn <| gv (r_add (j := 1) (eh b0 rfl) rfl (by decide)) <| mv b0 rfl <| nl <| un_next <| un_step (n := 0) <| sk fun _ A1 => rn <| gv (r_lss (j := 4) (eh b0 rfl) rfl) <| nl <| A1 <| sk fun _ H2 => ce b0 rfl <| we <| end_of (res0 rfl _ _ _) ((ov_defers _ _).trans c1) ?_
 exact ⟨p2, Z0, a1, ((((((((((((((((cu0.t0 d0).t0 g0).tn e0 (by omega)).tr s0 (fun x hx => hx.elim (fun h1 => (by cases h1; exact .inr (.inl rfl))) (fun h1 => .inr (by have h_ : β ≤ x := h1; exact (.inr h_))))).t0 i0).tn j0 (by omega)).tr x0 (fun x hx => hx.elim (fun h1 => (by cases h1; exact .inr (.inl rfl))) (fun h1 => .inr (by have h_ : β ≤ x := h1; exact (.inr h_))))).t0 k0).tn m0 (by omega)).tr y0 (fun x hx => hx.elim (fun h1 => (by cases h1; exact .inr (.inl rfl))) (fun h1 => .inr (by have h_ : β ≤ x := h1; exact (.inr h_))))).t0 n0).tn o0 (by omega)).tr z0 (fun x hx => hx.elim (fun h1 => (by cases h1; exact .inr (.inl rfl))) (fun h1 => .inr (by have h_ : β ≤ x := h1; exact (.inr h_))))).t0 p0).tn r0 (by omega)).tr K0 (fun x hx => hx.elim (fun h1 => (by cases h1; exact .inr (.inl rfl))) (fun h1 => .inr (by have h_ : β ≤ x := h1; exact (.inr h_))))), M1, H0⟩

theorem f58 {m : Ctx} {w : World} (ag : Ag m w) {wb β N0 c0 : Nat} {A0 : Option Addr} {X0 : Bytes} {v1 v2 e1 lc : Nat} {L : Option Addr} {xb : Nat} (hmW : Mu m w wb 125 [.slice A0 N0 c0]) (how : Own m w β A0 N0 c0 5 1 (bv X0)) (hwb : wb < β) (hbe : β ≤ w.heap.size) (hn0 : N0 < 2 ^ 15) (hmX : Mu m w xb 56 ([nn v1, nn e1, .slice L 1 lc])) (hxb : xb < β) (hne : xb ≠ wb) (hL : Sl m L 1 lc 2 [.string (⟨#[116, 111, 112]⟩ : ByteArray), nn v2]) (hv : v1 < 128) (hv2 : v2 < 128) (he : e1 < 128) : Calls Tryz.prog 58 #[.pointer (some ⟨wb, 0, none⟩), .pointer (some ⟨xb, 0, none⟩)] w (Ret fun v w' => ∃ m' A' c', Fr (orS (on wb) (ge β)) m w m' w' ∧ Mu m' w' wb 125 [.slice A' (((((N0 + 1 + 1) + 1) + 1) + 3) + 1) c'] ∧ Own m' w' β A' (((((N0 + 1 + 1) + 1) + 1) + 3) + 1) c' 5 1 (bv ((((((X0 ++ ([UInt8.ofNat v1])) ++ ([UInt8.ofNat e1])) ++ ([UInt8.ofNat 1])) ++ ([UInt8.ofNat 3])) ++ ([116, 111, 112])) ++ ([UInt8.ofNat v2])))) := by
 refine enter Tryz.func58 rfl (fun l0 hT C0 => ?_)
 have b0 : l0.tmps.size = 16 := by rw [hT]; kernel_rfl
 have x0 : l0.tmps.getD 0 undef = .pointer (some ⟨wb, 0, none⟩) := by rw [hT]; kernel_rfl
 have p0 : l0.tmps.getD 1 undef = .pointer (some ⟨xb, 0, none⟩) := by rw [hT]; kernel_rfl
 clear hT
 have cu0 : Fr (orS (on wb) (ge β)) m w m w := Fr.refl ag
 have lt_wb := hmW.lt
 have lt_xb := hmX.lt
 refine sk fun _ D0 => ?_
 have d0 : Fr no m w m { w with drawn := w.drawn + 1 } := Fr.drw ag
 obtain ⟨k0, v0⟩ : ∃ w_, w_ = ({ w with drawn := w.drawn + 1 } : World) := ⟨_, rfl⟩
 rw [← v0] at d0
 have k1 := d0.size
 refine wp_region_T mixed (fun wz => ∃ mz, Fr (no) m k0 mz wz) (fun wz => ∃ mz, Fr (orS (on wb) (ge β)) m k0 mz wz) 8 ?_
 rw [← v0]
 show wpAnyT _ _ _ _ _ 9 _ _ _
 have h0 : Fr (no) m k0 m k0 := Fr.refl d0.ag
 have j0 : ∀ wz, (∃ mz, Fr (no) m k0 mz wz) → ∃ mz, Fr (orS (on wb) (ge β)) m k0 mz wz := fun wz ⟨mz, hz⟩ => ⟨mz, hz.wk (fun x hx _ => hx.elim)⟩
 refine tk1 (i := 0) (b := false) rfl rfl j0 (fun _ _ => r_move (em b0 rfl rfl x0)) (tbF ⟨_, h0⟩) <| tk1 (i := 1) (b := false) rfl rfl j0 (fun _ _ => r_nilCheck (eh b0 rfl)) (tbF ⟨_, h0⟩) <| tk2 (i := 2) rfl rfl (fun _ _ => r_field (o' := 0) (eh b0 rfl) fo_125_0 (by rfl)) ⟨_, h0⟩ <| tk1 (i := 3) (b := false) rfl rfl j0 (fun _ _ => r_field (o' := 0) (em b0 rfl rfl p0) fo_56_0 (by rfl)) (tbF ⟨_, h0⟩) ?_
 have m0 := (hmX.f0 d0)
 refine tk1 (i := 4) (b := false) rfl rfl j0 (fun wz ⟨mz, hz⟩ => la (v := nn v1) (eh b0 rfl) (hz.ex m0.bk (fun h => h.elim (show xb ≠ wb from by omega) (show ¬ β ≤ xb from by omega))) qr_3) (tbF ⟨_, h0⟩) <| tk1 (i := 5) (b := false) rfl rfl j0 (fun _ _ => r_field (o' := 1) (em b0 rfl rfl p0) fo_56_1 (by rfl)) (tbF ⟨_, h0⟩) <| tk1 (i := 6) (b := false) rfl rfl j0 (fun wz ⟨mz, hz⟩ => la (v := nn e1) (eh b0 rfl) (hz.ex m0.bk (fun h => h.elim (show xb ≠ wb from by omega) (show ¬ β ≤ xb from by omega))) qr_3) (tbF ⟨_, h0⟩) <| ann (i := 7) (b := false) rfl rfl (k_lit (e := 3) (L := [nn v1, nn e1]) d0.ag (pm_cons (eh b0 rfl) (pm_cons (eh b0 rfl) pm_nil)) (by kernel_rfl) (fun q1 q0 s0 g0 Q0 => ?_))
 have l1 := g0.size
 have w0 := h0.t0 g0
 have b1 := s0.lt
 refine ⟨(tbF ⟨_, w0⟩), ?_⟩
 have U0 : Fr (orS (on wb) (ge β)) _ _ _ _ := w0.wk (fun x hx _ => hx.elim)
 obtain ⟨e0, u0⟩ := s0.fz g0.ag
 generalize cput m q0 _ = S0 at e0 u0
 have m1 := e0.size
 have V0 := U0.tn e0 (by omega)
 have M0 : Sl S0 (some ⟨q0, 0, none⟩) 2 2 1 ([nn v1, nn e1]) := Sl.of (k := 2) u0 (by kernel_rfl) (by kernel_rfl) (by decide) (by decide)
 have O0 := (((how.f0 d0).f0 g0).fn e0 ((how.f0 d0).ne Q0))
 have B0 := d0.t0 g0
 have G0 := ((hmW.f0 B0).f1 e0 (by omega))
 refine ann (i := 8) (b := true) rfl rfl (k_cl (f52_ss e0.ag (β := β) (X0 := X0) G0 O0 (by omega) (by omega) (by omega) M0 (by omega) (by omega)) rfl fn_52 (map_cons (eh b0 rfl) (map_cons (eh b0 rfl) map_nil)) (fun o1 r1 K0 => ?_))
 obtain ⟨c1, W0, Y0, i0, I0, n0⟩ := K0
 have i1 := i0.size
 have T0 := V0.tr i0 (fun x hx => hx.elim (fun h1 => .inr (by cases h1; exact (.inl rfl))) (fun h1 => .inr (by have h_ : β ≤ x := h1; exact (.inr h_))))
 have Z0 : ((X0 ++ ([UInt8.ofNat v1])) ++ ([UInt8.ofNat e1]) : List UInt8).length = N0 + 1 + 1 := (Own.blen n0)
 have g1 := n0.nilc
 refine ⟨(tbT ⟨_, T0⟩), ?_⟩
 refine anyT_done (by kernel_rfl) ?_ _
 refine D0 <| rn <| mw b0 x0 <| gv (r_field (o' := 2) (em b0 rfl rfl p0) fo_56_2 (by rfl)) ?_
 have E0 := ((m0.f0 g0).f1 e0 (by omega)).fs i0 (fun h => h.elim (show xb ≠ wb from by omega) (show ¬ β ≤ xb from by omega))
 have F0 := E0
 refine gv (la (v := .slice L 1 lc) (eh b0 rfl) F0.bk qr_54) ?_
 have P0 := Fr.ll (Fr.ll (Fr.l2 d0 g0) e0) i0
 have L0 := hL.le P0
 refine gk (k_cl (f59 i0.ag (β := β) (X0 := (X0 ++ ([UInt8.ofNat v1])) ++ ([UInt8.ofNat e1])) I0 n0 (by omega) (by omega) (by omega) L0 (by omega)) rfl fn_59 (map_cons (eh b0 rfl) (map_cons (v := .func (.func 60) #[] #[]) rfl (map_cons (eh b0 rfl) map_nil))) (fun n1 p1 J0 => ?_))
 obtain ⟨R0, y0, z0, r0, H0, o0⟩ := J0
 have j1 := r0.size
 have a1 : ((((((X0 ++ ([UInt8.ofNat v1])) ++ ([UInt8.ofNat e1])) ++ ([UInt8.ofNat 1])) ++ ([UInt8.ofNat 3])) ++ ([116, 111, 112])) ++ ([UInt8.ofNat v2]) : List UInt8).length = ((((N0 + 1 + 1) + 1) + 1) + 3) + 1 := (Own.blen o0)
 have d1 := o0.nilc
 refine nl <| end_of (res0 rfl _ _ _) ((ov_defers _ _).trans C0) ?_
 exact ⟨R0, y0, z0, (((((cu0.t0 d0).t0 g0).tn e0 (by omega)).tr i0 (fun x hx => hx.elim (fun h1 => (by cases h1; exact .inr (.inl rfl))) (fun h1 => .inr (by have h_ : β ≤ x := h1; exact (.inr h_))))).tr r0 (fun x hx => hx.elim (fun h1 => (by cases h1; exact .inr (.inl rfl))) (fun h1 => .inr (by have h_ : β ≤ x := h1; exact (.inr h_))))), H0, o0⟩

theorem f62 {m : Ctx} {w : World} (ag : Ag m w) {wb β N0 c0 : Nat} {A0 : Option Addr} {X0 : Bytes} {v1 e1 s1 : Nat} {h1 : Bytes} {xb : Nat} (hmW : Mu m w wb 125 [.slice A0 N0 c0]) (how : Own m w β A0 N0 c0 5 1 (bv X0)) (hwb : wb < β) (hbe : β ≤ w.heap.size) (hn0 : N0 < 2 ^ 15) (hmX : Mu m w xb 53 ([nn v1, nn e1, nn s1] ++ (hc h1))) (hxb : xb < β) (hne : xb ≠ wb) (hv : v1 < 128) (he : e1 < 128) (hs : s1 < 128) : Calls Tryz.prog 62 #[.pointer (some ⟨wb, 0, none⟩), .pointer (some ⟨xb, 0, none⟩)] w (Ret fun v w' => ∃ m' A' c', Fr (orS (on wb) (ge β)) m w m' w' ∧ Mu m' w' wb 125 [.slice A' ((N0 + 1 + 1 + 1) + 32) c'] ∧ Own m' w' β A' ((N0 + 1 + 1 + 1) + 32) c' 5 1 (bv ((((X0 ++ ([UInt8.ofNat v1])) ++ ([UInt8.ofNat e1])) ++ ([UInt8.ofNat s1])) ++ (n32 h1)))) := by
 refine enter Tryz.func62 rfl (fun n0 hT C0 => ?_)
 have b0 : n0.tmps.size = 18 := by rw [hT]; kernel_rfl
 have x0 : n0.tmps.getD 0 undef = .pointer (some ⟨wb, 0, none⟩) := by rw [hT]; kernel_rfl
 have m0 : n0.tmps.getD 1 undef = .pointer (some ⟨xb, 0, none⟩) := by rw [hT]; kernel_rfl
 clear hT
 have cu0 : Fr (orS (on wb) (ge β)) m w m w := Fr.refl ag
 have lt_wb := hmW.lt
 have lt_xb := hmX.lt
 refine sk fun _ D0 => ?_
 have e0 : Fr no m w m { w with drawn := w.drawn + 1 } := Fr.drw ag
 obtain ⟨j0, v0⟩ : ∃ w_, w_ = ({ w with drawn := w.drawn + 1 } : World) := ⟨_, rfl⟩
 rw [← v0] at e0
 have i1 := e0.size
 refine wp_region_T mixed (fun wz => ∃ mz, Fr (no) m j0 mz wz) (fun wz => ∃ mz, Fr (orS (on wb) (ge β)) m j0 mz wz) 10 ?_
 rw [← v0]
 show wpAnyT _ _ _ _ _ 11 _ _ _
 have d0 : Fr (no) m j0 m j0 := Fr.refl e0.ag
 have h0 : ∀ wz, (∃ mz, Fr (no) m j0 mz wz) → ∃ mz, Fr (orS (on wb) (ge β)) m j0 mz wz := fun wz ⟨mz, hz⟩ => ⟨mz, hz.wk (fun x hx _ => hx.elim)⟩
 refine tk1 (i := 0) (b := false) rfl rfl h0 (fun _ _ => r_move (em b0 rfl rfl x0)) (tbF ⟨_, d0⟩) <| tk1 (i := 1) (b := false) rfl rfl h0 (fun _ _ => r_nilCheck (eh b0 rfl)) (tbF ⟨_, d0⟩) <| tk2 (i := 2) rfl rfl (fun _ _ => r_field (o' := 0) (eh b0 rfl) fo_125_0 (by rfl)) ⟨_, d0⟩ <| tk1 (i := 3) (b := false) rfl rfl h0 (fun _ _ => r_field (o' := 0) (em b0 rfl rfl m0) fo_53_0 (by rfl)) (tbF ⟨_, d0⟩) ?_
 have l0 := (hmX.f0 e0)
 refine tk1 (i := 4) (b := false) rfl rfl h0 (fun wz ⟨mz, hz⟩ => la (v := nn v1) (eh b0 rfl) (hz.ex l0.bk (fun h => h.elim (show xb ≠ wb from by omega) (show ¬ β ≤ xb from by omega))) qr_3) (tbF ⟨_, d0⟩) <| tk1 (i := 5) (b := false) rfl rfl h0 (fun _ _ => r_field (o' := 1) (em b0 rfl rfl m0) fo_53_1 (by rfl)) (tbF ⟨_, d0⟩) <| tk1 (i := 6) (b := false) rfl rfl h0 (fun wz ⟨mz, hz⟩ => la (v := nn e1) (eh b0 rfl) (hz.ex l0.bk (fun h => h.elim (show xb ≠ wb from by omega) (show ¬ β ≤ xb from by omega))) qr_3) (tbF ⟨_, d0⟩) <| tk1 (i := 7) (b := false) rfl rfl h0 (fun _ _ => r_field (o' := 2) (em b0 rfl rfl m0) fo_53_2 (by rfl)) (tbF ⟨_, d0⟩) <| tk1 (i := 8) (b := false) rfl rfl h0 (fun wz ⟨mz, hz⟩ => la (v := nn s1) (eh b0 rfl) (hz.ex l0.bk (fun h => h.elim (show xb ≠ wb from by omega) (show ¬ β ≤ xb from by omega))) qr_3) (tbF ⟨_, d0⟩) <| ann (i := 9) (b := false) rfl rfl (k_lit (e := 3) (L := [nn v1, nn e1, nn s1]) e0.ag (pm_cons (eh b0 rfl) (pm_cons (eh b0 rfl) (pm_cons (eh b0 rfl) pm_nil))) (by kernel_rfl) (fun o1 q0 s0 i0 O0 => ?_))
 have j1 := i0.size
 have w0 := d0.t0 i0
 have Z0 := s0.lt
 refine ⟨(tbF ⟨_, w0⟩), ?_⟩
 have S0 : Fr (orS (on wb) (ge β)) _ _ _ _ := w0.wk (fun x hx _ => hx.elim)
 obtain ⟨g0, u0⟩ := s0.fz i0.ag
 generalize cput m q0 _ = Q0 at g0 u0
 have k1 := g0.size
 have T0 := S0.tn g0 (by omega)
 have L0 : Sl Q0 (some ⟨q0, 0, none⟩) 3 3 1 ([nn v1, nn e1, nn s1]) := Sl.of (k := 3) u0 (by kernel_rfl) (by kernel_rfl) (by decide) (by decide)
 have M0 := (((how.f0 e0).f0 i0).fn g0 ((how.f0 e0).ne O0))
 have B0 := e0.t0 i0
 have G0 := ((hmW.f0 B0).f1 g0 (by omega))
 refine ann (i := 10) (b := true) rfl rfl (k_cl (f52_sss g0.ag (β := β) (X0 := X0) G0 M0 (by omega) (by omega) (by omega) L0 (by omega) (by omega) (by omega)) rfl fn_52 (map_cons (eh b0 rfl) (map_cons (eh b0 rfl) map_nil)) (fun m1 p1 K0 => ?_))
 obtain ⟨a1, U0, V0, k0, I0, o0⟩ := K0
 have d1 := k0.size
 have R0 := T0.tr k0 (fun x hx => hx.elim (fun h1 => .inr (by cases h1; exact (.inl rfl))) (fun h1 => .inr (by have h_ : β ≤ x := h1; exact (.inr h_))))
 have W0 : (((X0 ++ ([UInt8.ofNat v1])) ++ ([UInt8.ofNat e1])) ++ ([UInt8.ofNat s1]) : List UInt8).length = N0 + 1 + 1 + 1 := (Own.blen o0)
 have c1 := o0.nilc
 refine ⟨(tbT ⟨_, R0⟩), ?_⟩
 refine anyT_done (by kernel_rfl) ?_ _
 refine D0 <| rn <| mw b0 x0 <| gv (r_field (o' := 3) (em b0 rfl rfl m0) fo_53_3 (by rfl)) ?_
 have E0 := ((l0.f0 i0).f1 g0 (by omega)).fs k0 (fun h => h.elim (show xb ≠ wb from by omega) (show ¬ β ≤ xb from by omega))
 have F0 := E0
 refine gv (lb (cs := hc h1) (eh b0 rfl) F0.bk qr_23 sz_23) <| gk (k_cl (f63 k0.ag (β := β) (X0 := ((X0 ++ ([UInt8.ofNat v1])) ++ ([UInt8.ofNat e1])) ++ ([UInt8.ofNat s1])) I0 o0 (by omega) (by omega) (by omega)) rfl fn_63 (map_cons (eh b0 rfl) (map_cons (eh b0 rfl) map_nil)) (fun l1 n1 J0 => ?_))
 obtain ⟨P0, y0, z0, r0, H0, p0⟩ := J0
 have g1 := r0.size
 have Y0 : ((((X0 ++ ([UInt8.ofNat v1])) ++ ([UInt8.ofNat e1])) ++ ([UInt8.ofNat s1])) ++ (n32 h1) : List UInt8).length = (N0 + 1 + 1 + 1) + 32 := (Own.blen p0)
 have b1 := p0.nilc
 refine nl <| end_of (res0 rfl _ _ _) ((ov_defers _ _).trans C0) ?_
 exact ⟨P0, y0, z0, (((((cu0.t0 e0).t0 i0).tn g0 (by omega)).tr k0 (fun x hx => hx.elim (fun h1 => (by cases h1; exact .inr (.inl rfl))) (fun h1 => .inr (by have h_ : β ≤ x := h1; exact (.inr h_))))).tr r0 (fun x hx => hx.elim (fun h1 => (by cases h1; exact .inr (.inl rfl))) (fun h1 => .inr (by have h_ : β ≤ x := h1; exact (.inr h_))))), H0, p0⟩

theorem f50 {m : Ctx} {w : World} (ag : Ag m w) {wb β N0 c0 : Nat} {A0 : Option Addr} {X0 : Bytes} {v1 e1 : Nat} {xb : Nat} (hmW : Mu m w wb 125 [.slice A0 N0 c0]) (how : Own m w β A0 N0 c0 5 1 (bv X0)) (hwb : wb < β) (hbe : β ≤ w.heap.size) (hn0 : N0 < 2 ^ 15) (hmX : Mu m w xb 82 ([.string (⟨#[116, 111, 112]⟩ : ByteArray), nn v1, nn e1, .slice none 0 0, .slice none 0 0])) (hxb : xb < β) (hne : xb ≠ wb) (hv : v1 < 128) (he : e1 < 128) : Calls Tryz.prog 50 #[.pointer (some ⟨wb, 0, none⟩), .pointer (some ⟨xb, 0, none⟩)] w (Ret fun v w' => ∃ m' A' c', Fr (orS (on wb) (ge β)) m w m' w' ∧ Mu m' w' wb 125 [.slice A' (((((N0 + 1) + 3) + 1 + 1) + 1) + 1) c'] ∧ Own m' w' β A' (((((N0 + 1) + 3) + 1 + 1) + 1) + 1) c' 5 1 (bv ((((((X0 ++ ([UInt8.ofNat 3])) ++ ([116, 111, 112])) ++ ([UInt8.ofNat v1])) ++ ([UInt8.ofNat e1])) ++ ([UInt8.ofNat 0])) ++ ([UInt8.ofNat 0])))) := by
 refine enter Tryz.func50 rfl (fun s0 hT J0 => ?_)
 have b0 : s0.tmps.size = 24 := by rw [hT]; kernel_rfl
 have r0 : s0.tmps.getD 0 undef = .pointer (some ⟨wb, 0, none⟩) := by rw [hT]; kernel_rfl
 have m0 : s0.tmps.getD 1 undef = .pointer (some ⟨xb, 0, none⟩) := by rw [hT]; kernel_rfl
 clear hT
 have cu0 : Fr (orS (on wb) (ge β)) m w m w := Fr.refl ag
 have lt_wb := hmW.lt
 have lt_xb := hmX.lt
 refine sk fun _ K0 => rn <| mw b0 r0 <| gv (r_field (o' := 0) (em b0 rfl rfl m0) fo_82_0 (by rfl)) <| gv (la (v := .string (⟨#[116, 111, 112]⟩ : ByteArray)) (eh b0 rfl) hmX.bk qr_9) <| gk (k_cl (f51 ag (β := β) (X0 := X0) hmW how (by omega) (by omega) (by omega)) rfl fn_51 (map_cons (eh b0 rfl) (map_cons (eh b0 rfl) map_nil)) (fun N1 n0 Z0 => ?_))
 obtain ⟨e0, o1, r1, p0, V0, q0⟩ := Z0
 have F1 := p0.size
 have t1 : ((X0 ++ ([UInt8.ofNat 3])) ++ ([116, 111, 112]) : List UInt8).length = (N0 + 1) + 3 := (Own.blen q0)
 have D1 := q0.nilc
 refine nl <| K0 <| sk fun _ M0 => ?_
 have d0 : Fr no e0 n0 e0 { n0 with drawn := n0.drawn + 1 } := Fr.drw p0.ag
 obtain ⟨k0, E0⟩ : ∃ w_, w_ = ({ n0 with drawn := n0.drawn + 1 } : World) := ⟨_, rfl⟩
 rw [← E0] at d0
 have J1 := d0.size
 refine wp_region_T mixed (fun wz => ∃ mz, Fr (no) e0 k0 mz wz) (fun wz => ∃ mz, Fr (orS (on wb) (ge β)) e0 k0 mz wz) 8 ?_
 rw [← E0]
 show wpAnyT _ _ _ _ _ 9 _ _ _
 have h0 : Fr (no) e0 k0 e0 k0 := Fr.refl d0.ag
 have j0 : ∀ wz, (∃ mz, Fr (no) e0 k0 mz wz) → ∃ mz, Fr (orS (on wb) (ge β)) e0 k0 mz wz := fun wz ⟨mz, hz⟩ => ⟨mz, hz.wk (fun x hx _ => hx.elim)⟩
 refine tk1 (i := 0) (b := false) rfl rfl j0 (fun _ _ => r_move (em b0 rfl rfl r0)) (tbF ⟨_, h0⟩) <| tk1 (i := 1) (b := false) rfl rfl j0 (fun _ _ => r_nilCheck (eh b0 rfl)) (tbF ⟨_, h0⟩) <| tk2 (i := 2) rfl rfl (fun _ _ => r_field (o' := 0) (eh b0 rfl) fo_125_0 (by rfl)) ⟨_, h0⟩ <| tk1 (i := 3) (b := false) rfl rfl j0 (fun _ _ => r_field (o' := 1) (em b0 rfl rfl m0) fo_82_1 (by rfl)) (tbF ⟨_, h0⟩) ?_
 have u0 := ((hmX.fs p0 (fun h => h.elim (show xb ≠ wb from by omega) (show ¬ β ≤ xb from by omega))).f0 d0)
 refine tk1 (i := 4) (b := false) rfl rfl j0 (fun wz ⟨mz, hz⟩ => la (v := nn v1) (eh b0 rfl) (hz.ex u0.bk (fun h => h.elim (show xb ≠ wb from by omega) (show ¬ β ≤ xb from by omega))) qr_3) (tbF ⟨_, h0⟩) <| tk1 (i := 5) (b := false) rfl rfl j0 (fun _ _ => r_field (o' := 2) (em b0 rfl rfl m0) fo_82_2 (by rfl)) (tbF ⟨_, h0⟩) <| tk1 (i := 6) (b := false) rfl rfl j0 (fun wz ⟨mz, hz⟩ => la (v := nn e1) (eh b0 rfl) (hz.ex u0.bk (fun h => h.elim (show xb ≠ wb from by omega) (show ¬ β ≤ xb from by omega))) qr_3) (tbF ⟨_, h0⟩) <| ann (i := 7) (b := false) rfl rfl (k_lit (e := 3) (L := [nn v1, nn e1]) d0.ag (pm_cons (eh b0 rfl) (pm_cons (eh b0 rfl) pm_nil)) (by kernel_rfl) (fun R1 y0 C0 i0 d1 => ?_))
 have K1 := i0.size
 have F0 := h0.t0 i0
 have x1 := C0.lt
 refine ⟨(tbF ⟨_, F0⟩), ?_⟩
 have l1 : Fr (orS (on wb) (ge β)) _ _ _ _ := F0.wk (fun x hx _ => hx.elim)
 obtain ⟨g0, D0⟩ := C0.fz i0.ag
 generalize cput e0 y0 _ = g1 at g0 D0
 have E1 := g0.size
 have j1 := l1.tn g0 (by omega)
 have b1 : Sl g1 (some ⟨y0, 0, none⟩) 2 2 1 ([nn v1, nn e1]) := Sl.of (k := 2) D0 (by kernel_rfl) (by kernel_rfl) (by decide) (by decide)
 have c1 := (((q0.f0 d0).f0 i0).fn g0 ((q0.f0 d0).ne d1))
 have I0 := d0.t0 i0
 have O0 := ((V0.f0 I0).f1 g0 (by omega))
 refine ann (i := 8) (b := true) rfl rfl (k_cl (f52_ss g0.ag (β := β) (X0 := (X0 ++ ([UInt8.ofNat 3])) ++ ([116, 111, 112])) O0 c1 (by omega) (by omega) (by omega) b1 (by omega) (by omega)) rfl fn_52 (map_cons (eh b0 rfl) (map_cons (eh b0 rfl) map_nil)) (fun O1 S1 a1 => ?_))
 obtain ⟨y1, m1, p1, l0, S0, v0⟩ := a1
 have G1 := l0.size
 have k1 := j1.tr l0 (fun x hx => hx.elim (fun h1 => .inr (by cases h1; exact (.inl rfl))) (fun h1 => .inr (by have h_ : β ≤ x := h1; exact (.inr h_))))
 have s1 : ((((X0 ++ ([UInt8.ofNat 3])) ++ ([116, 111, 112])) ++ ([UInt8.ofNat v1])) ++ ([UInt8.ofNat e1]) : List UInt8).length = ((N0 + 1) + 3) + 1 + 1 := (Own.blen v0)
 have A1 := v0.nilc
 refine ⟨(tbT ⟨_, k1⟩), ?_⟩
 refine anyT_done (by kernel_rfl) ?_ _
 refine M0 <| sk fun _ L0 => rn <| mw b0 r0 <| gv (r_field (o' := 3) (em b0 rfl rfl m0) fo_82_3 (by rfl)) ?_
 have P0 := ((u0.f0 i0).f1 g0 (by omega)).fs l0 (fun h => h.elim (show xb ≠ wb from by omega) (show ¬ β ≤ xb from by omega))
 have B0 := P0
 refine gv (la (v := .slice none 0 0) (eh b0 rfl) B0.bk qr_36) <| gk (k_cl (f53 l0.ag (β := β) (X0 := (((X0 ++ ([UInt8.ofNat 3])) ++ ([116, 111, 112])) ++ ([UInt8.ofNat v1])) ++ ([UInt8.ofNat e1])) S0 v0 (by omega) (by omega) (by omega)) rfl fn_53 (map_cons (eh b0 rfl) (map_cons (v := .func (.func 54) #[] #[]) rfl (map_cons (eh b0 rfl) map_nil))) (fun L1 P1 W0 => ?_))
 obtain ⟨z1, n1, q1, o0, T0, w0⟩ := W0
 have H1 := o0.size
 have u1 : (((((X0 ++ ([UInt8.ofNat 3])) ++ ([116, 111, 112])) ++ ([UInt8.ofNat v1])) ++ ([UInt8.ofNat e1])) ++ ([UInt8.ofNat 0]) : List UInt8).length = (((N0 + 1) + 3) + 1 + 1) + 1 := (Own.blen w0)
 have B1 := w0.nilc
 refine nl <| L0 <| rn <| mw b0 r0 <| gv (r_field (o' := 4) (em b0 rfl rfl m0) fo_82_4 (by rfl)) ?_
 have Q0 := B0.fs o0 (fun h => h.elim (show xb ≠ wb from by omega) (show ¬ β ≤ xb from by omega))
 have R0 := Q0
 refine gv (la (v := .slice none 0 0) (eh b0 rfl) R0.bk qr_80) <| gk (k_cl (f55 o0.ag (β := β) (X0 := ((((X0 ++ ([UInt8.ofNat 3])) ++ ([116, 111, 112])) ++ ([UInt8.ofNat v1])) ++ ([UInt8.ofNat e1])) ++ ([UInt8.ofNat 0])) T0 w0 (by omega) (by omega) (by omega)) rfl fn_55 (map_cons (eh b0 rfl) (map_cons (v := .func (.func 56) #[] #[]) rfl (map_cons (eh b0 rfl) map_nil))) (fun M1 Q1 Y0 => ?_))
 obtain ⟨i1, G0, H0, z0, U0, x0⟩ := Y0
 have I1 := z0.size
 have w1 : ((((((X0 ++ ([UInt8.ofNat 3])) ++ ([116, 111, 112])) ++ ([UInt8.ofNat v1])) ++ ([UInt8.ofNat e1])) ++ ([UInt8.ofNat 0])) ++ ([UInt8.ofNat 0]) : List UInt8).length = ((((N0 + 1) + 3) + 1 + 1) + 1) + 1 := (Own.blen x0)
 have C1 := x0.nilc
 refine nl <| end_of (res0 rfl _ _ _) ((ov_defers _ _).trans J0) ?_
 exact ⟨i1, G0, H0, (((((((cu0.tr p0 (fun x hx => hx.elim (fun h1 => (by cases h1; exact .inr (.inl rfl))) (fun h1 => .inr (by have h_ : β ≤ x := h1; exact (.inr h_))))).t0 d0).t0 i0).tn g0 (by omega)).tr l0 (fun x hx => hx.elim (fun h1 => (by cases h1; exact .inr (.inl rfl))) (fun h1 => .inr (by have h_ : β ≤ x := h1; exact (.inr h_))))).tr o0 (fun x hx => hx.elim (fun h1 => (by cases h1; exact .inr (.inl rfl))) (fun h1 => .inr (by have h_ : β ≤ x := h1; exact (.inr h_))))).tr z0 (fun x hx => hx.elim (fun h1 => (by cases h1; exact .inr (.inl rfl))) (fun h1 => .inr (by have h_ : β ≤ x := h1; exact (.inr h_))))), U0, x0⟩

end Go.Proofs.YtiggfalelcepbaaGreatDoor

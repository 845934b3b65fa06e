/- The walks of the reference encoders. -/
import Derived.Test.YtiggfalelcepbaaGreatDoorK7
import Derived.Test.YtiggfalelcepbaaGreatDoorSX
import Derived.Test.YtiggfalelcepbaaGreatDoorW13
import Derived.Test.YtiggfalelcepbaaGreatDoorTX
namespace Go.Proofs.YtiggfalelcepbaaGreatDoor
open Go
set_option maxRecDepth 100000
set_option maxHeartbeats 4000000
theorem f95_s {m : Ctx} {w : World} (ag : Ag m w) {v : Nat} (h1 : 1 ≤ v) (hv : v < 128) : Calls Tryz.prog 95 #[nn v] w (Ret fun x w' => ∃ m' A c, x = .slice A 1 c ∧ Fr no m w m' w' ∧ Own m' w' w.heap.size A 1 c 5 1 (bv [UInt8.ofNat v])) := by
 refine enter Tryz.func95 rfl (fun g0 hT m0 => ?_)
 have b0 : g0.tmps.size = 27 := by rw [hT]; kernel_rfl
 have d0 : g0.tmps.getD 0 undef = nn v := by rw [hT]; kernel_rfl
 clear hT
 have cu0 : Fr (no) m w m w := Fr.refl ag
 refine sk fun _ n0 => rn <| gv (r_assign (v := .slice none 0 0) rfl) <| nl <| n0 <| sk fun _ q0 => rn <| gv (r_assign (v := nu 0) rfl) <| nl <| q0 <| sk fun _ r0 => sk fun _ s0 => rn <| mw b0 d0 <| gv (r_gtr (j := 4611686018427387904) (eh b0 rfl) rfl) <| nl <| s0 ?_
 have y0 : (decide (4611686018427387904 < v)) = false := (decide_eq_false (by omega))
 refine cf (eb b0 rfl y0) <| sk fun _ u0 => rn <| mw b0 d0 <| gv (r_gtr (j := 0) (eh b0 rfl) rfl) <| nl <| u0 ?_
 have z0 : (decide (0 < v)) = true := (decide_eq_true (by omega))
 refine ct (eb b0 rfl z0) <| rn <| mw b0 d0 <| gv (r_cv_n_u (i := v) (eh b0 rfl) qu_3 qu_151 (by omega)) <| ms b0 rfl <| nl <| r0 <| sk fun _ v0 => rn <| gv (r_assign (v := .slice none 0 0) rfl) <| nl <| v0 <| sk fun _ w0 => bl <| wp_unroll (n := 2) <| un_step (n := 1) <| sk fun _ B0 => sk fun _ o0 => rn <| mv b0 rfl <| gv (r_geqU (j := 128) (eh b0 rfl) rfl) <| nl <| o0 ?_
 have x0 : (decide (128 ≤ v)) = false := (decide_eq_false (by omega))
 refine cf (eb b0 rfl x0) <| we <| w0 <| sk fun _ p0 => rn <| mv b0 rfl <| mv b0 rfl <| gv (r_cv_u_8 (i := v) (eh b0 rfl) qu_151 qu_5) <| gk (k_lit (e := 5) (L := bv ([UInt8.ofNat v])) ag (pm_cons (eh b0 rfl) pm_nil) (by kernel_rfl) (fun e0 A0 i0 c0 C0 => ?_))
 have F0 := c0.size
 have D0 := i0.lt
 refine gk (k_append0 (base := e0.heap.size) (N := bv ([UInt8.ofNat v])) c0.ag (eh b0 rfl) (eh b0 rfl) qs_38 qz_5 (Own.nil m e0 (e0.heap.size) 5 1) (i0.bk.src (L := bv ([UInt8.ofNat v])) (n := 1) (o := 0) (k := 1) (by kernel_rfl)) (fun h => by cases h) (by rw [bv_length, show ([UInt8.ofNat v] : List UInt8).length = 1 from rfl, Nat.mul_one]) (one_bv _) (by omega) (by decide) (by rw [maxLen_eq]; omega) (by omega) (fun k0 l0 H0 j0 h0 => ?_))
 have G0 := h0.size
 have E0 := j0.nilc
 refine ms b0 rfl <| nl <| p0 <| wp_ret <| ret_of (res1 rfl _ _ (gh b0 rfl)) ((ov_defers _ _).trans m0) ?_
 exact ⟨m, k0, l0, rfl, ((cu0.t0 c0).tg h0 (by omega)), (j0).wk (by omega)⟩

theorem f95_0 {m : Ctx} {w : World} (ag : Ag m w) : Calls Tryz.prog 95 #[nn 0] w (Ret fun x w' => ∃ m' A c, x = .slice A 1 c ∧ Fr no m w m' w' ∧ Own m' w' w.heap.size A 1 c 5 1 (bv [UInt8.ofNat 0])) := by
 refine enter Tryz.func95 rfl (fun e0 hT m0 => ?_)
 have b0 : e0.tmps.size = 27 := by rw [hT]; kernel_rfl
 have j0 : e0.tmps.getD 0 undef = nn 0 := by rw [hT]; kernel_rfl
 clear hT
 have cu0 : Fr (no) m w m w := Fr.refl ag
 refine sk fun _ n0 => rn <| gv (r_assign (v := .slice none 0 0) rfl) <| nl <| n0 <| sk fun _ p0 => rn <| gv (r_assign (v := nu 0) rfl) <| nl <| p0 <| sk fun _ q0 => sk fun _ r0 => rn <| mw b0 j0 <| gv (r_gtr (j := 4611686018427387904) (eh b0 rfl) rfl) <| nl <| r0 <| ce b0 rfl <| sk fun _ s0 => rn <| mw b0 j0 <| gv (r_gtr (j := 0) (eh b0 rfl) rfl) <| nl <| s0 <| ce b0 rfl <| ws <| q0 <| sk fun _ u0 => rn <| gv (r_assign (v := .slice none 0 0) rfl) <| nl <| u0 <| sk fun _ v0 => bl <| wp_unroll (n := 2) <| un_step (n := 1) <| sk fun _ y0 => sk fun _ w0 => rn <| mv b0 rfl <| gv (r_geqU (j := 128) (eh b0 rfl) rfl) <| nl <| w0 <| ce b0 rfl <| we <| v0 <| sk fun _ o0 => rn <| mv b0 rfl <| mv b0 rfl <| gv (r_cv_u_8 (i := 0) (eh b0 rfl) qu_151 qu_5) <| gk (k_lit (e := 5) (L := bv ([0])) ag (pm_cons (eh b0 rfl) pm_nil) (by kernel_rfl) (fun d0 x0 h0 c0 z0 => ?_))
 have C0 := c0.size
 have A0 := h0.lt
 refine gk (k_append0 (base := d0.heap.size) (N := bv ([0])) c0.ag (eh b0 rfl) (eh b0 rfl) qs_38 qz_5 (Own.nil m d0 (d0.heap.size) 5 1) (h0.bk.src (L := bv ([0])) (n := 1) (o := 0) (k := 1) (by kernel_rfl)) (fun h => by cases h) (by rw [bv_length, show ([0] : List UInt8).length = 1 from rfl, Nat.mul_one]) (one_bv _) (by omega) (by decide) (by rw [maxLen_eq]; omega) (by omega) (fun k0 l0 E0 i0 g0 => ?_))
 have D0 := g0.size
 have B0 := i0.nilc
 refine ms b0 rfl <| nl <| o0 <| wp_ret <| ret_of (res1 rfl _ _ (gh b0 rfl)) ((ov_defers _ _).trans m0) ?_
 exact ⟨m, k0, l0, rfl, ((cu0.t0 c0).tg g0 (by omega)), (i0).wk (by omega)⟩

theorem f95_b {m : Ctx} {w : World} (ag : Ag m w) : Calls Tryz.prog 95 #[nn 1073741824] w (Ret fun x w' => ∃ m' A c, x = .slice A (5) c ∧ Fr no m w m' w' ∧ Own m' w' w.heap.size A (5) c 5 1 (bv ((((([0 ||| 128]) ++ ([0 ||| 128])) ++ ([0 ||| 128])) ++ ([0 ||| 128])) ++ ([4])))) := by
 refine enter Tryz.func95 rfl (fun s0 hT D0 => ?_)
 have b0 : s0.tmps.size = 27 := by rw [hT]; kernel_rfl
 have r0 : s0.tmps.getD 0 undef = nn 1073741824 := by rw [hT]; kernel_rfl
 clear hT
 have cu0 : Fr (no) m w m w := Fr.refl ag
 refine sk fun _ E0 => rn <| gv (r_assign (v := .slice none 0 0) rfl) <| nl <| E0 <| sk fun _ G0 => rn <| gv (r_assign (v := nu 0) rfl) <| nl <| G0 <| sk fun _ K0 => sk fun _ L0 => rn <| mw b0 r0 <| gv (r_gtr (j := 4611686018427387904) (eh b0 rfl) rfl) <| nl <| L0 <| ce b0 rfl <| sk fun _ P0 => rn <| mw b0 r0 <| gv (r_gtr (j := 0) (eh b0 rfl) rfl) <| nl <| P0 <| cd b0 rfl <| rn <| mw b0 r0 <| gv (r_cv_n_u (i := 1073741824) (eh b0 rfl) qu_3 qu_151 (by decide)) <| ms b0 rfl <| nl <| K0 <| sk fun _ T0 => rn <| gv (r_assign (v := .slice none 0 0) rfl) <| nl <| T0 <| sk fun _ U0 => bl <| wp_unroll (n := 6) <| un_step (n := 5) <| sk fun _ X0 => sk fun _ Y0 => rn <| mv b0 rfl <| gv (r_geqU (j := 128) (eh b0 rfl) rfl) <| nl <| Y0 <| cd b0 rfl <| ws <| X0 <| bl <| sk fun _ F0 => rn <| mv b0 rfl <| mv b0 rfl <| gv (r_andU (j := 127) (eh b0 rfl) rfl (by decide) (by decide)) <| gv (r_cv_u_8 (i := 0) (eh b0 rfl) qu_151 qu_5) <| gv (r_or8 (e := 128) (eh b0 rfl) rfl) <| gk (k_lit (e := 5) (L := bv ([0 ||| 128])) ag (pm_cons (eh b0 rfl) pm_nil) (by kernel_rfl) (fun c0 l1 v0 i0 w1 => ?_))
 have L1 := i0.size
 have B1 := v0.lt
 refine gk (k_append0 (base := c0.heap.size) (N := bv ([0 ||| 128])) i0.ag (eh b0 rfl) (eh b0 rfl) qs_38 qz_5 (Own.nil m c0 (c0.heap.size) 5 1) (v0.bk.src (L := bv ([0 ||| 128])) (n := 1) (o := 0) (k := 1) (by kernel_rfl)) (fun h => by cases h) (by rw [bv_length, show ([0 ||| 128] : List UInt8).length = 1 from rfl, Nat.mul_one]) (one_bv _) (by omega) (by decide) (by rw [maxLen_eq]; omega) (by omega) (fun h1 q1 V1 A0 j0 => ?_))
 have M1 := j0.size
 have G1 := A0.nilc
 refine ms b0 rfl <| nl <| F0 <| rn <| mv b0 rfl <| gv (r_shrU (j := 7) (eh b0 rfl) rfl (by decide)) <| ms b0 rfl <| nl <| in_blk <| un_next <| un_step (n := 4) <| sk fun _ H0 => sk fun _ I0 => rn <| mv b0 rfl <| gv (r_geqU (j := 128) (eh b0 rfl) rfl) <| nl <| I0 <| cd b0 rfl <| ws <| H0 <| bl <| sk fun _ J0 => rn <| mv b0 rfl <| mv b0 rfl <| gv (r_andU (j := 127) (eh b0 rfl) rfl (by decide) (by decide)) <| gv (r_cv_u_8 (i := 0) (eh b0 rfl) qu_151 qu_5) <| gv (r_or8 (e := 128) (eh b0 rfl) rfl) <| gk (k_lit (e := 5) (L := bv ([0 ||| 128])) j0.ag (pm_cons (eh b0 rfl) pm_nil) (by kernel_rfl) (fun W1 m1 w0 d0 x1 => ?_))
 have N1 := d0.size
 have C1 := w0.lt
 have c1 := (A0.f0 d0)
 have Z0 : (([0 ||| 128]) ++ ([0 ||| 128]) : List UInt8).length = 2 := (len_app rfl rfl)
 refine gk (k_append (base := c0.heap.size) (L := bv ([0 ||| 128])) (N := bv ([0 ||| 128])) d0.ag (eh b0 rfl) (eh b0 rfl) qs_38 qz_5 c1 (w0.bk.src (L := bv ([0 ||| 128])) (n := 1) (o := 0) (k := 1) (by kernel_rfl)) (fun h => by cases h) (by rw [bv_length, show ([0 ||| 128] : List UInt8).length = 1 from rfl, Nat.mul_one]) (one_bv _) (by omega) (by decide) (by rw [maxLen_eq]; omega) (by omega) (fun i1 r1 X1 n0 k0 => ?_))
 have O1 := k0.size
 rw [← bv_append] at n0
 have H1 := n0.nilc
 refine ms b0 rfl <| nl <| J0 <| rn <| mv b0 rfl <| gv (r_shrU (j := 7) (eh b0 rfl) rfl (by decide)) <| ms b0 rfl <| nl <| in_blk <| un_next <| un_step (n := 3) <| sk fun _ M0 => sk fun _ N0 => rn <| mv b0 rfl <| gv (r_geqU (j := 128) (eh b0 rfl) rfl) <| nl <| N0 <| cd b0 rfl <| ws <| M0 <| bl <| sk fun _ O0 => rn <| mv b0 rfl <| mv b0 rfl <| gv (r_andU (j := 127) (eh b0 rfl) rfl (by decide) (by decide)) <| gv (r_cv_u_8 (i := 0) (eh b0 rfl) qu_151 qu_5) <| gv (r_or8 (e := 128) (eh b0 rfl) rfl) <| gk (k_lit (e := 5) (L := bv ([0 ||| 128])) k0.ag (pm_cons (eh b0 rfl) pm_nil) (by kernel_rfl) (fun Y1 n1 x0 e0 y1 => ?_))
 have P1 := e0.size
 have D1 := x0.lt
 have d1 := (n0.f0 e0)
 have a1 : ((([0 ||| 128]) ++ ([0 ||| 128])) ++ ([0 ||| 128]) : List UInt8).length = 3 := (len_app Z0 rfl)
 refine gk (k_append (base := c0.heap.size) (L := bv (([0 ||| 128]) ++ ([0 ||| 128]))) (N := bv ([0 ||| 128])) e0.ag (eh b0 rfl) (eh b0 rfl) qs_38 qz_5 d1 (x0.bk.src (L := bv ([0 ||| 128])) (n := 1) (o := 0) (k := 1) (by kernel_rfl)) (fun h => by cases h) (by rw [bv_length, show ([0 ||| 128] : List UInt8).length = 1 from rfl, Nat.mul_one]) (one_bv _) (by omega) (by decide) (by rw [maxLen_eq]; omega) (by omega) (fun j1 s1 Z1 o0 l0 => ?_))
 have Q1 := l0.size
 rw [← bv_append] at o0
 have I1 := o0.nilc
 refine ms b0 rfl <| nl <| O0 <| rn <| mv b0 rfl <| gv (r_shrU (j := 7) (eh b0 rfl) rfl (by decide)) <| ms b0 rfl <| nl <| in_blk <| un_next <| un_step (n := 2) <| sk fun _ Q0 => sk fun _ R0 => rn <| mv b0 rfl <| gv (r_geqU (j := 128) (eh b0 rfl) rfl) <| nl <| R0 <| cd b0 rfl <| ws <| Q0 <| bl <| sk fun _ S0 => rn <| mv b0 rfl <| mv b0 rfl <| gv (r_andU (j := 127) (eh b0 rfl) rfl (by decide) (by decide)) <| gv (r_cv_u_8 (i := 0) (eh b0 rfl) qu_151 qu_5) <| gv (r_or8 (e := 128) (eh b0 rfl) rfl) <| gk (k_lit (e := 5) (L := bv ([0 ||| 128])) l0.ag (pm_cons (eh b0 rfl) pm_nil) (by kernel_rfl) (fun a2 o1 y0 g0 z1 => ?_))
 have R1 := g0.size
 have E1 := y0.lt
 have e1 := (o0.f0 g0)
 have b1 : (((([0 ||| 128]) ++ ([0 ||| 128])) ++ ([0 ||| 128])) ++ ([0 ||| 128]) : List UInt8).length = 4 := (len_app a1 rfl)
 refine gk (k_append (base := c0.heap.size) (L := bv ((([0 ||| 128]) ++ ([0 ||| 128])) ++ ([0 ||| 128]))) (N := bv ([0 ||| 128])) g0.ag (eh b0 rfl) (eh b0 rfl) qs_38 qz_5 e1 (y0.bk.src (L := bv ([0 ||| 128])) (n := 1) (o := 0) (k := 1) (by kernel_rfl)) (fun h => by cases h) (by rw [bv_length, show ([0 ||| 128] : List UInt8).length = 1 from rfl, Nat.mul_one]) (one_bv _) (by omega) (by decide) (by rw [maxLen_eq]; omega) (by omega) (fun k1 t1 b2 p0 m0 => ?_))
 have S1 := m0.size
 rw [← bv_append] at p0
 have J1 := p0.nilc
 refine ms b0 rfl <| nl <| S0 <| rn <| mv b0 rfl <| gv (r_shrU (j := 7) (eh b0 rfl) rfl (by decide)) <| ms b0 rfl <| nl <| in_blk <| un_next <| un_step (n := 1) <| sk fun _ u1 => sk fun _ V0 => rn <| mv b0 rfl <| gv (r_geqU (j := 128) (eh b0 rfl) rfl) <| nl <| V0 <| ce b0 rfl <| we <| U0 <| sk fun _ W0 => rn <| mv b0 rfl <| mv b0 rfl <| gv (r_cv_u_8 (i := 4) (eh b0 rfl) qu_151 qu_5) <| gk (k_lit (e := 5) (L := bv ([4])) m0.ag (pm_cons (eh b0 rfl) pm_nil) (by kernel_rfl) (fun c2 p1 z0 h0 A1 => ?_))
 have T1 := h0.size
 have F1 := z0.lt
 have g1 := (p0.f0 h0)
 have v1 : ((((([0 ||| 128]) ++ ([0 ||| 128])) ++ ([0 ||| 128])) ++ ([0 ||| 128])) ++ ([4]) : List UInt8).length = 5 := (len_app b1 rfl)
 refine gk (k_append (base := c0.heap.size) (L := bv (((([0 ||| 128]) ++ ([0 ||| 128])) ++ ([0 ||| 128])) ++ ([0 ||| 128]))) (N := bv ([4])) h0.ag (eh b0 rfl) (eh b0 rfl) qs_38 qz_5 g1 (z0.bk.src (L := bv ([4])) (n := 1) (o := 0) (k := 1) (by kernel_rfl)) (fun h => by cases h) (by rw [bv_length, show ([4] : List UInt8).length = 1 from rfl, Nat.mul_one]) (one_bv _) (by omega) (by decide) (by rw [maxLen_eq]; omega) (by omega) (fun B0 C0 d2 q0 u0 => ?_))
 have U1 := u0.size
 rw [← bv_append] at q0
 have K1 := q0.nilc
 refine ms b0 rfl <| nl <| W0 <| wp_ret <| ret_of (res1 rfl _ _ (gh b0 rfl)) ((ov_defers _ _).trans D0) ?_
 exact ⟨m, B0, C0, rfl, ((((((((((cu0.t0 i0).tg j0 (by omega)).t0 d0).tg k0 (by omega)).t0 e0).tg l0 (by omega)).t0 g0).tg m0 (by omega)).t0 h0).tg u0 (by omega)), (q0).wk (by omega)⟩

theorem f44_ss {m : Ctx} {w : World} (ag : Ag m w) {a1 a2 vc : Nat} {V : Option Addr} (hV : Sl m V 2 vc 1 [nn a1, nn a2]) (la1 : 1 ≤ a1) (ha1 : a1 < 128) (la2 : 1 ≤ a2) (ha2 : a2 < 128) : Calls Tryz.prog 44 #[.slice V 2 vc] w (Ret fun x w' => ∃ m' A c, x = .slice A (2) c ∧ Fr no m w m' w' ∧ Own m' w' w.heap.size A (2) c 5 1 (bv (([UInt8.ofNat a1]) ++ ([UInt8.ofNat a2])))) := by
 refine enter Tryz.func44 rfl (fun l0 hT u0 => ?_)
 have b0 : l0.tmps.size = 19 := by rw [hT]; kernel_rfl
 have d0 : l0.tmps.getD 0 undef = .slice V 2 vc := by rw [hT]; kernel_rfl
 clear hT
 have cu0 : Fr (no) m w m w := Fr.refl ag
 refine sk fun _ v0 => rn <| gv (r_assign (v := .slice none 0 0) rfl) <| nl <| v0 <| sk fun _ w0 => rn <| gv (r_assign (v := .slice none 0 0) rfl) <| nl <| w0 <| sk fun _ z0 => sk fun _ B0 => rn <| gv (r_assign (v := nn 0) rfl) <| nl <| B0 <| bl <| wp_unroll (n := 6) <| un_step (n := 5) <| sk fun _ C0 => sk fun _ F0 => rn <| mv b0 rfl <| mw b0 d0 <| gv (r_lenS (eh b0 rfl) rfl qu_178) <| gv (r_lss (eh b0 rfl) (eh b0 rfl)) <| nl <| F0 <| cd b0 rfl <| ws <| C0 <| sk fun _ G0 => bl <| rn <| mv b0 rfl <| mw b0 d0 <| mv b0 rfl ?_
 obtain ⟨R0, q0, Q0, rfl, o0, p0⟩ := hV.elem (by omega)
 refine gv (r_idxS (o' := q0 + 0) (eh b0 rfl) (eh b0 rfl) qs_178 (by decide) (by omega)) <| gv (r_load1 (v := nn a1) (eh b0 rfl) (ag _ _ o0) (at_sub p0 (by kernel_rfl)) qr_3) <| gk (k_cl (f95_s ag (by omega) (by omega)) rfl fn_95 (map_cons (eh b0 rfl) map_nil) (fun h1 h0 I0 => ?_))
 obtain ⟨L0, N0, S0, rfl, e0, i0⟩ := I0
 have c1 := e0.size
 have X0 := i0.nilc
 refine gk (k_append0 (base := h0.heap.size) (N := bv ([UInt8.ofNat a1])) e0.ag (eh b0 rfl) (eh b0 rfl) qs_38 qz_5 (Own.nil L0 h0 (h0.heap.size) 5 1) i0.src (i0.nilc) (by rw [bv_length, show ([UInt8.ofNat a1] : List UInt8).length = 1 from rfl, Nat.mul_one]) (one_bv _) (by omega) (by decide) (by rw [maxLen_eq]; omega) (by omega) (fun O0 T0 j1 n0 c0 => ?_))
 have d1 := c0.size
 have Y0 := n0.nilc
 refine ms b0 rfl <| nl <| G0 <| rn <| mv b0 rfl <| gv (r_add (j := 1) (eh b0 rfl) rfl (by decide)) <| ms b0 rfl <| nl <| un_next <| un_step (n := 4) <| sk fun _ x0 => sk fun _ y0 => rn <| mv b0 rfl <| mw b0 d0 <| gv (r_lenS (eh b0 rfl) rfl qu_178) <| gv (r_lss (eh b0 rfl) (eh b0 rfl)) <| nl <| y0 <| cd b0 rfl <| ws <| x0 <| sk fun _ A0 => bl <| rn <| mv b0 rfl <| mw b0 d0 <| mv b0 rfl <| gv (r_idxS (o' := q0 + 1) (eh b0 rfl) (eh b0 rfl) qs_178 (by decide) (by omega)) ?_
 have H0 := (c0.le _ _ (e0.le _ _ o0))
 refine gv (r_load1 (v := nn a2) (eh b0 rfl) (c0.ag _ _ H0) (at_sub p0 (by kernel_rfl)) qr_3) <| gk (k_cl (f95_s c0.ag (by omega) (by omega)) rfl fn_95 (map_cons (eh b0 rfl) map_nil) (fun i1 k1 J0 => ?_))
 obtain ⟨M0, P0, U0, rfl, g0, j0⟩ := J0
 have e1 := g0.size
 have Z0 := j0.nilc
 have K0 := (n0.f0 g0)
 have W0 : (([UInt8.ofNat a1]) ++ ([UInt8.ofNat a2]) : List UInt8).length = 2 := (len_app rfl rfl)
 refine gk (k_append (base := h0.heap.size) (L := bv ([UInt8.ofNat a1])) (N := bv ([UInt8.ofNat a2])) g0.ag (eh b0 rfl) (eh b0 rfl) qs_38 qz_5 K0 j0.src (j0.nilc) (by rw [bv_length, show ([UInt8.ofNat a2] : List UInt8).length = 1 from rfl, Nat.mul_one]) (one_bv _) (by omega) (by decide) (by rw [maxLen_eq]; omega) (by omega) (fun r0 s0 l1 k0 m0 => ?_))
 have g1 := m0.size
 rw [← bv_append] at k0
 have b1 := k0.nilc
 refine ms b0 rfl <| nl <| A0 <| rn <| mv b0 rfl <| gv (r_add (j := 1) (eh b0 rfl) rfl (by decide)) <| ms b0 rfl <| nl <| un_next <| un_step (n := 3) <| sk fun _ V0 => sk fun _ D0 => rn <| mv b0 rfl <| mw b0 d0 <| gv (r_lenS (eh b0 rfl) rfl qu_178) <| gv (r_lss (eh b0 rfl) (eh b0 rfl)) <| nl <| D0 <| ce b0 rfl <| we <| z0 <| sk fun _ E0 => rn <| mv b0 rfl <| ms b0 rfl <| nl <| E0 <| wp_ret <| ret_of (res1 rfl _ _ (gh b0 rfl)) ((ov_defers _ _).trans u0) ?_
 exact ⟨M0, r0, s0, rfl, ((((cu0.t0 e0).tg c0 (by omega)).t0 g0).tg m0 (by omega)), (k0).wk (by omega)⟩

theorem f44_sss {m : Ctx} {w : World} (ag : Ag m w) {a1 a2 a3 vc : Nat} {V : Option Addr} (hV : Sl m V 3 vc 1 [nn a1, nn a2, nn a3]) (la1 : 1 ≤ a1) (ha1 : a1 < 128) (la2 : 1 ≤ a2) (ha2 : a2 < 128) (la3 : 1 ≤ a3) (ha3 : a3 < 128) : Calls Tryz.prog 44 #[.slice V 3 vc] w (Ret fun x w' => ∃ m' A c, x = .slice A (3) c ∧ Fr no m w m' w' ∧ Own m' w' w.heap.size A (3) c 5 1 (bv ((([UInt8.ofNat a1]) ++ ([UInt8.ofNat a2])) ++ ([UInt8.ofNat a3])))) := by
 refine enter Tryz.func44 rfl (fun r0 hT z0 => ?_)
 have b0 : r0.tmps.size = 19 := by rw [hT]; kernel_rfl
 have c0 : r0.tmps.getD 0 undef = .slice V 3 vc := by rw [hT]; kernel_rfl
 clear hT
 have cu0 : Fr (no) m w m w := Fr.refl ag
 refine sk fun _ A0 => rn <| gv (r_assign (v := .slice none 0 0) rfl) <| nl <| A0 <| sk fun _ B0 => rn <| gv (r_assign (v := .slice none 0 0) rfl) <| nl <| B0 <| sk fun _ E0 => sk fun _ G0 => rn <| gv (r_assign (v := nn 0) rfl) <| nl <| G0 <| bl <| wp_unroll (n := 6) <| un_step (n := 5) <| sk fun _ I0 => sk fun _ L0 => rn <| mv b0 rfl <| mw b0 c0 <| gv (r_lenS (eh b0 rfl) rfl qu_178) <| gv (r_lss (eh b0 rfl) (eh b0 rfl)) <| nl <| L0 <| cd b0 rfl <| ws <| I0 <| sk fun _ M0 => bl <| rn <| mv b0 rfl <| mw b0 c0 <| mv b0 rfl ?_
 obtain ⟨g1, q0, e1, rfl, w0, p0⟩ := hV.elem (by omega)
 refine gv (r_idxS (o' := q0 + 0) (eh b0 rfl) (eh b0 rfl) qs_178 (by decide) (by omega)) <| gv (r_load1 (v := nn a1) (eh b0 rfl) (ag _ _ w0) (at_sub p0 (by kernel_rfl)) qr_3) <| gk (k_cl (f95_s ag (by omega) (by omega)) rfl fn_95 (map_cons (eh b0 rfl) map_nil) (fun B1 h0 R0 => ?_))
 obtain ⟨W0, Y0, h1, rfl, i0, k0⟩ := R0
 have v1 := i0.size
 have p1 := k0.nilc
 refine gk (k_append0 (base := h0.heap.size) (N := bv ([UInt8.ofNat a1])) i0.ag (eh b0 rfl) (eh b0 rfl) qs_38 qz_5 (Own.nil W0 h0 (h0.heap.size) 5 1) k0.src (k0.nilc) (by rw [bv_length, show ([UInt8.ofNat a1] : List UInt8).length = 1 from rfl, Nat.mul_one]) (one_bv _) (by omega) (by decide) (by rw [maxLen_eq]; omega) (by omega) (fun Z0 i1 E1 v0 d0 => ?_))
 have w1 := d0.size
 have q1 := v0.nilc
 refine ms b0 rfl <| nl <| M0 <| rn <| mv b0 rfl <| gv (r_add (j := 1) (eh b0 rfl) rfl (by decide)) <| ms b0 rfl <| nl <| un_next <| un_step (n := 4) <| sk fun _ C0 => sk fun _ D0 => rn <| mv b0 rfl <| mw b0 c0 <| gv (r_lenS (eh b0 rfl) rfl qu_178) <| gv (r_lss (eh b0 rfl) (eh b0 rfl)) <| nl <| D0 <| cd b0 rfl <| ws <| C0 <| sk fun _ F0 => bl <| rn <| mv b0 rfl <| mw b0 c0 <| mv b0 rfl <| gv (r_idxS (o' := q0 + 1) (eh b0 rfl) (eh b0 rfl) qs_178 (by decide) (by omega)) ?_
 have u0 := (d0.le _ _ (i0.le _ _ w0))
 refine gv (r_load1 (v := nn a2) (eh b0 rfl) (d0.ag _ _ u0) (at_sub p0 (by kernel_rfl)) qr_3) <| gk (k_cl (f95_s d0.ag (by omega) (by omega)) rfl fn_95 (map_cons (eh b0 rfl) map_nil) (fun C1 F1 S0 => ?_))
 obtain ⟨o1, b1, j1, rfl, e0, l0⟩ := S0
 have x1 := e0.size
 have r1 := l0.nilc
 have U0 := (v0.f0 e0)
 have Q0 : (([UInt8.ofNat a1]) ++ ([UInt8.ofNat a2]) : List UInt8).length = 2 := (len_app rfl rfl)
 refine gk (k_append (base := h0.heap.size) (L := bv ([UInt8.ofNat a1])) (N := bv ([UInt8.ofNat a2])) e0.ag (eh b0 rfl) (eh b0 rfl) qs_38 qz_5 U0 l0.src (l0.nilc) (by rw [bv_length, show ([UInt8.ofNat a2] : List UInt8).length = 1 from rfl, Nat.mul_one]) (one_bv _) (by omega) (by decide) (by rw [maxLen_eq]; omega) (by omega) (fun c1 k1 G1 n0 g0 => ?_))
 have y1 := g0.size
 rw [← bv_append] at n0
 have s1 := n0.nilc
 refine ms b0 rfl <| nl <| F0 <| rn <| mv b0 rfl <| gv (r_add (j := 1) (eh b0 rfl) rfl (by decide)) <| ms b0 rfl <| nl <| un_next <| un_step (n := 3) <| sk fun _ H0 => sk fun _ J0 => rn <| mv b0 rfl <| mw b0 c0 <| gv (r_lenS (eh b0 rfl) rfl qu_178) <| gv (r_lss (eh b0 rfl) (eh b0 rfl)) <| nl <| J0 <| cd b0 rfl <| ws <| H0 <| sk fun _ K0 => bl <| rn <| mv b0 rfl <| mw b0 c0 <| mv b0 rfl <| gv (r_idxS (o' := q0 + 2) (eh b0 rfl) (eh b0 rfl) qs_178 (by decide) (by omega)) ?_
 have P0 := (g0.le _ _ (e0.le _ _ u0))
 refine gv (r_load1 (v := nn a3) (eh b0 rfl) (g0.ag _ _ P0) (at_sub p0 (by kernel_rfl)) qr_3) <| gk (k_cl (f95_s g0.ag (by omega) (by omega)) rfl fn_95 (map_cons (eh b0 rfl) map_nil) (fun D1 H1 T0 => ?_))
 obtain ⟨X0, d1, l1, rfl, j0, m0⟩ := T0
 have z1 := j0.size
 have t1 := m0.nilc
 have V0 := (n0.f0 j0)
 have n1 : ((([UInt8.ofNat a1]) ++ ([UInt8.ofNat a2])) ++ ([UInt8.ofNat a3]) : List UInt8).length = 3 := (len_app Q0 rfl)
 refine gk (k_append (base := h0.heap.size) (L := bv (([UInt8.ofNat a1]) ++ ([UInt8.ofNat a2]))) (N := bv ([UInt8.ofNat a3])) j0.ag (eh b0 rfl) (eh b0 rfl) qs_38 qz_5 V0 m0.src (m0.nilc) (by rw [bv_length, show ([UInt8.ofNat a3] : List UInt8).length = 1 from rfl, Nat.mul_one]) (one_bv _) (by omega) (by decide) (by rw [maxLen_eq]; omega) (by omega) (fun x0 y0 I1 o0 s0 => ?_))
 have A1 := s0.size
 rw [← bv_append] at o0
 have u1 := o0.nilc
 refine ms b0 rfl <| nl <| K0 <| rn <| mv b0 rfl <| gv (r_add (j := 1) (eh b0 rfl) rfl (by decide)) <| ms b0 rfl <| nl <| un_next <| un_step (n := 2) <| sk fun _ m1 => sk fun _ N0 => rn <| mv b0 rfl <| mw b0 c0 <| gv (r_lenS (eh b0 rfl) rfl qu_178) <| gv (r_lss (eh b0 rfl) (eh b0 rfl)) <| nl <| N0 <| ce b0 rfl <| we <| E0 <| sk fun _ O0 => rn <| mv b0 rfl <| ms b0 rfl <| nl <| O0 <| wp_ret <| ret_of (res1 rfl _ _ (gh b0 rfl)) ((ov_defers _ _).trans z0) ?_
 exact ⟨X0, x0, y0, rfl, ((((((cu0.t0 i0).tg d0 (by omega)).t0 e0).tg g0 (by omega)).t0 j0).tg s0 (by omega)), (o0).wk (by omega)⟩

theorem f44_ssss {m : Ctx} {w : World} (ag : Ag m w) {a1 a2 a3 a4 vc : Nat} {V : Option Addr} (hV : Sl m V 4 vc 1 [nn a1, nn a2, nn a3, nn a4]) (la1 : 1 ≤ a1) (ha1 : a1 < 128) (la2 : 1 ≤ a2) (ha2 : a2 < 128) (la3 : 1 ≤ a3) (ha3 : a3 < 128) (la4 : 1 ≤ a4) (ha4 : a4 < 128) : Calls Tryz.prog 44 #[.slice V 4 vc] w (Ret fun x w' => ∃ m' A c, x = .slice A (4) c ∧ Fr no m w m' w' ∧ Own m' w' w.heap.size A (4) c 5 1 (bv (((([UInt8.ofNat a1]) ++ ([UInt8.ofNat a2])) ++ ([UInt8.ofNat a3])) ++ ([UInt8.ofNat a4])))) := by
 refine enter Tryz.func44 rfl (fun w0 hT E0 => ?_)
 have b0 : w0.tmps.size = 19 := by rw [hT]; kernel_rfl
 have c0 : w0.tmps.getD 0 undef = .slice V 4 vc := by rw [hT]; kernel_rfl
 clear hT
 have cu0 : Fr (no) m w m w := Fr.refl ag
 refine sk fun _ F0 => rn <| gv (r_assign (v := .slice none 0 0) rfl) <| nl <| F0 <| sk fun _ G0 => rn <| gv (r_assign (v := .slice none 0 0) rfl) <| nl <| G0 <| sk fun _ J0 => sk fun _ L0 => rn <| gv (r_assign (v := nn 0) rfl) <| nl <| L0 <| bl <| wp_unroll (n := 6) <| un_step (n := 5) <| sk fun _ N0 => sk fun _ Q0 => rn <| mv b0 rfl <| mw b0 c0 <| gv (r_lenS (eh b0 rfl) rfl qu_178) <| gv (r_lss (eh b0 rfl) (eh b0 rfl)) <| nl <| Q0 <| cd b0 rfl <| ws <| N0 <| sk fun _ R0 => bl <| rn <| mv b0 rfl <| mw b0 c0 <| mv b0 rfl ?_
 obtain ⟨t1, n0, s1, rfl, B0, m0⟩ := hV.elem (by omega)
 refine gv (r_idxS (o' := n0 + 0) (eh b0 rfl) (eh b0 rfl) qs_178 (by decide) (by omega)) <| gv (r_load1 (v := nn a1) (eh b0 rfl) (ag _ _ B0) (at_sub m0 (by kernel_rfl)) qr_3) <| gk (k_cl (f95_s ag (by omega) (by omega)) rfl fn_95 (map_cons (eh b0 rfl) map_nil) (fun V1 d0 b1 => ?_))
 obtain ⟨j1, l1, u1, rfl, k0, o0⟩ := b1
 have N1 := k0.size
 have F1 := o0.nilc
 refine gk (k_append0 (base := d0.heap.size) (N := bv ([UInt8.ofNat a1])) k0.ag (eh b0 rfl) (eh b0 rfl) qs_38 qz_5 (Own.nil j1 d0 (d0.heap.size) 5 1) o0.src (o0.nilc) (by rw [bv_length, show ([UInt8.ofNat a1] : List UInt8).length = 1 from rfl, Nat.mul_one]) (one_bv _) (by omega) (by decide) (by rw [maxLen_eq]; omega) (by omega) (fun m1 v1 Z1 A0 e0 => ?_))
 have O1 := e0.size
 have G1 := A0.nilc
 refine ms b0 rfl <| nl <| R0 <| rn <| mv b0 rfl <| gv (r_add (j := 1) (eh b0 rfl) rfl (by decide)) <| ms b0 rfl <| nl <| un_next <| un_step (n := 4) <| sk fun _ H0 => sk fun _ I0 => rn <| mv b0 rfl <| mw b0 c0 <| gv (r_lenS (eh b0 rfl) rfl qu_178) <| gv (r_lss (eh b0 rfl) (eh b0 rfl)) <| nl <| I0 <| cd b0 rfl <| ws <| H0 <| sk fun _ K0 => bl <| rn <| mv b0 rfl <| mw b0 c0 <| mv b0 rfl <| gv (r_idxS (o' := n0 + 1) (eh b0 rfl) (eh b0 rfl) qs_178 (by decide) (by omega)) ?_
 have y0 := (e0.le _ _ (k0.le _ _ B0))
 refine gv (r_load1 (v := nn a2) (eh b0 rfl) (e0.ag _ _ y0) (at_sub m0 (by kernel_rfl)) qr_3) <| gk (k_cl (f95_s e0.ag (by omega) (by omega)) rfl fn_95 (map_cons (eh b0 rfl) map_nil) (fun W1 b2 c1 => ?_))
 obtain ⟨D1, n1, w1, rfl, g0, p0⟩ := c1
 have P1 := g0.size
 have H1 := p0.nilc
 have g1 := (A0.f0 g0)
 have Y0 : (([UInt8.ofNat a1]) ++ ([UInt8.ofNat a2]) : List UInt8).length = 2 := (len_app rfl rfl)
 refine gk (k_append (base := d0.heap.size) (L := bv ([UInt8.ofNat a1])) (N := bv ([UInt8.ofNat a2])) g0.ag (eh b0 rfl) (eh b0 rfl) qs_38 qz_5 g1 p0.src (p0.nilc) (by rw [bv_length, show ([UInt8.ofNat a2] : List UInt8).length = 1 from rfl, Nat.mul_one]) (one_bv _) (by omega) (by decide) (by rw [maxLen_eq]; omega) (by omega) (fun o1 x1 c2 s0 h0 => ?_))
 have Q1 := h0.size
 rw [← bv_append] at s0
 have I1 := s0.nilc
 refine ms b0 rfl <| nl <| K0 <| rn <| mv b0 rfl <| gv (r_add (j := 1) (eh b0 rfl) rfl (by decide)) <| ms b0 rfl <| nl <| un_next <| un_step (n := 3) <| sk fun _ M0 => sk fun _ O0 => rn <| mv b0 rfl <| mw b0 c0 <| gv (r_lenS (eh b0 rfl) rfl qu_178) <| gv (r_lss (eh b0 rfl) (eh b0 rfl)) <| nl <| O0 <| cd b0 rfl <| ws <| M0 <| sk fun _ P0 => bl <| rn <| mv b0 rfl <| mw b0 c0 <| mv b0 rfl <| gv (r_idxS (o' := n0 + 2) (eh b0 rfl) (eh b0 rfl) qs_178 (by decide) (by omega)) ?_
 have z0 := (h0.le _ _ (g0.le _ _ y0))
 refine gv (r_load1 (v := nn a3) (eh b0 rfl) (h0.ag _ _ z0) (at_sub m0 (by kernel_rfl)) qr_3) <| gk (k_cl (f95_s h0.ag (by omega) (by omega)) rfl fn_95 (map_cons (eh b0 rfl) map_nil) (fun X1 d2 d1 => ?_))
 obtain ⟨E1, p1, y1, rfl, i0, q0⟩ := d1
 have R1 := i0.size
 have J1 := q0.nilc
 have h1 := (s0.f0 i0)
 have Z0 : ((([UInt8.ofNat a1]) ++ ([UInt8.ofNat a2])) ++ ([UInt8.ofNat a3]) : List UInt8).length = 3 := (len_app Y0 rfl)
 refine gk (k_append (base := d0.heap.size) (L := bv (([UInt8.ofNat a1]) ++ ([UInt8.ofNat a2]))) (N := bv ([UInt8.ofNat a3])) i0.ag (eh b0 rfl) (eh b0 rfl) qs_38 qz_5 h1 q0.src (q0.nilc) (by rw [bv_length, show ([UInt8.ofNat a3] : List UInt8).length = 1 from rfl, Nat.mul_one]) (one_bv _) (by omega) (by decide) (by rw [maxLen_eq]; omega) (by omega) (fun q1 z1 e2 u0 j0 => ?_))
 have S1 := j0.size
 rw [← bv_append] at u0
 have K1 := u0.nilc
 refine ms b0 rfl <| nl <| P0 <| rn <| mv b0 rfl <| gv (r_add (j := 1) (eh b0 rfl) rfl (by decide)) <| ms b0 rfl <| nl <| un_next <| un_step (n := 2) <| sk fun _ S0 => sk fun _ T0 => rn <| mv b0 rfl <| mw b0 c0 <| gv (r_lenS (eh b0 rfl) rfl qu_178) <| gv (r_lss (eh b0 rfl) (eh b0 rfl)) <| nl <| T0 <| cd b0 rfl <| ws <| S0 <| sk fun _ U0 => bl <| rn <| mv b0 rfl <| mw b0 c0 <| mv b0 rfl <| gv (r_idxS (o' := n0 + 3) (eh b0 rfl) (eh b0 rfl) qs_178 (by decide) (by omega)) ?_
 have X0 := (j0.le _ _ (i0.le _ _ z0))
 refine gv (r_load1 (v := nn a4) (eh b0 rfl) (j0.ag _ _ X0) (at_sub m0 (by kernel_rfl)) qr_3) <| gk (k_cl (f95_s j0.ag (by omega) (by omega)) rfl fn_95 (map_cons (eh b0 rfl) map_nil) (fun Y1 g2 e1 => ?_))
 obtain ⟨k1, r1, A1, rfl, l0, r0⟩ := e1
 have T1 := l0.size
 have L1 := r0.nilc
 have i1 := (u0.f0 l0)
 have C1 : (((([UInt8.ofNat a1]) ++ ([UInt8.ofNat a2])) ++ ([UInt8.ofNat a3])) ++ ([UInt8.ofNat a4]) : List UInt8).length = 4 := (len_app Z0 rfl)
 refine gk (k_append (base := d0.heap.size) (L := bv ((([UInt8.ofNat a1]) ++ ([UInt8.ofNat a2])) ++ ([UInt8.ofNat a3]))) (N := bv ([UInt8.ofNat a4])) l0.ag (eh b0 rfl) (eh b0 rfl) qs_38 qz_5 i1 r0.src (r0.nilc) (by rw [bv_length, show ([UInt8.ofNat a4] : List UInt8).length = 1 from rfl, Nat.mul_one]) (one_bv _) (by omega) (by decide) (by rw [maxLen_eq]; omega) (by omega) (fun C0 D0 h2 v0 x0 => ?_))
 have U1 := x0.size
 rw [← bv_append] at v0
 have M1 := v0.nilc
 refine ms b0 rfl <| nl <| U0 <| rn <| mv b0 rfl <| gv (r_add (j := 1) (eh b0 rfl) rfl (by decide)) <| ms b0 rfl <| nl <| un_next <| un_step (n := 1) <| sk fun _ B1 => sk fun _ V0 => rn <| mv b0 rfl <| mw b0 c0 <| gv (r_lenS (eh b0 rfl) rfl qu_178) <| gv (r_lss (eh b0 rfl) (eh b0 rfl)) <| nl <| V0 <| ce b0 rfl <| we <| J0 <| sk fun _ W0 => rn <| mv b0 rfl <| ms b0 rfl <| nl <| W0 <| wp_ret <| ret_of (res1 rfl _ _ (gh b0 rfl)) ((ov_defers _ _).trans E0) ?_
 exact ⟨k1, C0, D0, rfl, ((((((((cu0.t0 k0).tg e0 (by omega)).t0 g0).tg h0 (by omega)).t0 i0).tg j0 (by omega)).t0 l0).tg x0 (by omega)), (v0).wk (by omega)⟩

theorem f44_ssb {m : Ctx} {w : World} (ag : Ag m w) {a1 a2 vc : Nat} {V : Option Addr} (hV : Sl m V 3 vc 1 [nn a1, nn a2, nn 1073741824]) (la1 : 1 ≤ a1) (ha1 : a1 < 128) (la2 : 1 ≤ a2) (ha2 : a2 < 128) : Calls Tryz.prog 44 #[.slice V 3 vc] w (Ret fun x w' => ∃ m' A c, x = .slice A (7) c ∧ Fr no m w m' w' ∧ Own m' w' w.heap.size A (7) c 5 1 (bv ((([UInt8.ofNat a1]) ++ ([UInt8.ofNat a2])) ++ ((((([0 ||| 128]) ++ ([0 ||| 128])) ++ ([0 ||| 128])) ++ ([0 ||| 128])) ++ ([4]))))) := by
 refine enter Tryz.func44 rfl (fun r0 hT A0 => ?_)
 have b0 : r0.tmps.size = 19 := by rw [hT]; kernel_rfl
 have c0 : r0.tmps.getD 0 undef = .slice V 3 vc := by rw [hT]; kernel_rfl
 clear hT
 have cu0 : Fr (no) m w m w := Fr.refl ag
 refine sk fun _ B0 => rn <| gv (r_assign (v := .slice none 0 0) rfl) <| nl <| B0 <| sk fun _ C0 => rn <| gv (r_assign (v := .slice none 0 0) rfl) <| nl <| C0 <| sk fun _ F0 => sk fun _ H0 => rn <| gv (r_assign (v := nn 0) rfl) <| nl <| H0 <| bl <| wp_unroll (n := 6) <| un_step (n := 5) <| sk fun _ J0 => sk fun _ M0 => rn <| mv b0 rfl <| mw b0 c0 <| gv (r_lenS (eh b0 rfl) rfl qu_178) <| gv (r_lss (eh b0 rfl) (eh b0 rfl)) <| nl <| M0 <| cd b0 rfl <| ws <| J0 <| sk fun _ N0 => bl <| rn <| mv b0 rfl <| mw b0 c0 <| mv b0 rfl ?_
 obtain ⟨h1, q0, g1, rfl, x0, p0⟩ := hV.elem (by omega)
 refine gv (r_idxS (o' := q0 + 0) (eh b0 rfl) (eh b0 rfl) qs_178 (by decide) (by omega)) <| gv (r_load1 (v := nn a1) (eh b0 rfl) (ag _ _ x0) (at_sub p0 (by kernel_rfl)) qr_3) <| gk (k_cl (f95_s ag (by omega) (by omega)) rfl fn_95 (map_cons (eh b0 rfl) map_nil) (fun C1 h0 S0 => ?_))
 obtain ⟨X0, Z0, i1, rfl, i0, l0⟩ := S0
 have w1 := i0.size
 have q1 := l0.nilc
 refine gk (k_append0 (base := h0.heap.size) (N := bv ([UInt8.ofNat a1])) i0.ag (eh b0 rfl) (eh b0 rfl) qs_38 qz_5 (Own.nil X0 h0 (h0.heap.size) 5 1) l0.src (l0.nilc) (by rw [bv_length, show ([UInt8.ofNat a1] : List UInt8).length = 1 from rfl, Nat.mul_one]) (one_bv _) (by omega) (by decide) (by rw [maxLen_eq]; omega) (by omega) (fun b1 j1 F1 w0 d0 => ?_))
 have x1 := d0.size
 have r1 := w0.nilc
 refine ms b0 rfl <| nl <| N0 <| rn <| mv b0 rfl <| gv (r_add (j := 1) (eh b0 rfl) rfl (by decide)) <| ms b0 rfl <| nl <| un_next <| un_step (n := 4) <| sk fun _ D0 => sk fun _ E0 => rn <| mv b0 rfl <| mw b0 c0 <| gv (r_lenS (eh b0 rfl) rfl qu_178) <| gv (r_lss (eh b0 rfl) (eh b0 rfl)) <| nl <| E0 <| cd b0 rfl <| ws <| D0 <| sk fun _ G0 => bl <| rn <| mv b0 rfl <| mw b0 c0 <| mv b0 rfl <| gv (r_idxS (o' := q0 + 1) (eh b0 rfl) (eh b0 rfl) qs_178 (by decide) (by omega)) ?_
 have u0 := (d0.le _ _ (i0.le _ _ x0))
 refine gv (r_load1 (v := nn a2) (eh b0 rfl) (d0.ag _ _ u0) (at_sub p0 (by kernel_rfl)) qr_3) <| gk (k_cl (f95_s d0.ag (by omega) (by omega)) rfl fn_95 (map_cons (eh b0 rfl) map_nil) (fun D1 G1 T0 => ?_))
 obtain ⟨p1, c1, k1, rfl, e0, m0⟩ := T0
 have y1 := e0.size
 have s1 := m0.nilc
 have V0 := (w0.f0 e0)
 have R0 : (([UInt8.ofNat a1]) ++ ([UInt8.ofNat a2]) : List UInt8).length = 2 := (len_app rfl rfl)
 refine gk (k_append (base := h0.heap.size) (L := bv ([UInt8.ofNat a1])) (N := bv ([UInt8.ofNat a2])) e0.ag (eh b0 rfl) (eh b0 rfl) qs_38 qz_5 V0 m0.src (m0.nilc) (by rw [bv_length, show ([UInt8.ofNat a2] : List UInt8).length = 1 from rfl, Nat.mul_one]) (one_bv _) (by omega) (by decide) (by rw [maxLen_eq]; omega) (by omega) (fun d1 l1 H1 n0 g0 => ?_))
 have z1 := g0.size
 rw [← bv_append] at n0
 have t1 := n0.nilc
 refine ms b0 rfl <| nl <| G0 <| rn <| mv b0 rfl <| gv (r_add (j := 1) (eh b0 rfl) rfl (by decide)) <| ms b0 rfl <| nl <| un_next <| un_step (n := 3) <| sk fun _ I0 => sk fun _ K0 => rn <| mv b0 rfl <| mw b0 c0 <| gv (r_lenS (eh b0 rfl) rfl qu_178) <| gv (r_lss (eh b0 rfl) (eh b0 rfl)) <| nl <| K0 <| cd b0 rfl <| ws <| I0 <| sk fun _ L0 => bl <| rn <| mv b0 rfl <| mw b0 c0 <| mv b0 rfl <| gv (r_idxS (o' := q0 + 2) (eh b0 rfl) (eh b0 rfl) qs_178 (by decide) (by omega)) ?_
 have Q0 := (g0.le _ _ (e0.le _ _ u0))
 refine gv (r_load1 (v := nn 1073741824) (eh b0 rfl) (g0.ag _ _ Q0) (at_sub p0 (by kernel_rfl)) qr_3) <| gk (k_cl (f95_b g0.ag) rfl fn_95 (map_cons (eh b0 rfl) map_nil) (fun E1 I1 U0 => ?_))
 obtain ⟨Y0, e1, m1, rfl, j0, k0⟩ := U0
 have A1 := j0.size
 have v0 : ((((([0 ||| 128]) ++ ([0 ||| 128])) ++ ([0 ||| 128])) ++ ([0 ||| 128])) ++ ([4]) : List UInt8).length = 5 := (Own.blen k0)
 have u1 := k0.nilc
 have W0 := (n0.f0 j0)
 have o1 : ((([UInt8.ofNat a1]) ++ ([UInt8.ofNat a2])) ++ ((((([0 ||| 128]) ++ ([0 ||| 128])) ++ ([0 ||| 128])) ++ ([0 ||| 128])) ++ ([4])) : List UInt8).length = 7 := (len_app R0 v0)
 refine gk (k_append (base := h0.heap.size) (L := bv (([UInt8.ofNat a1]) ++ ([UInt8.ofNat a2]))) (N := bv ((((([0 ||| 128]) ++ ([0 ||| 128])) ++ ([0 ||| 128])) ++ ([0 ||| 128])) ++ ([4]))) j0.ag (eh b0 rfl) (eh b0 rfl) qs_38 qz_5 W0 k0.src (k0.nilc) (by rw [bv_length, v0, Nat.mul_one]) (one_bv _) (by omega) (by decide) (by rw [maxLen_eq]; omega) (by omega) (fun y0 z0 J1 o0 s0 => ?_))
 have B1 := s0.size
 rw [← bv_append] at o0
 have v1 := o0.nilc
 refine ms b0 rfl <| nl <| L0 <| rn <| mv b0 rfl <| gv (r_add (j := 1) (eh b0 rfl) rfl (by decide)) <| ms b0 rfl <| nl <| un_next <| un_step (n := 2) <| sk fun _ n1 => sk fun _ O0 => rn <| mv b0 rfl <| mw b0 c0 <| gv (r_lenS (eh b0 rfl) rfl qu_178) <| gv (r_lss (eh b0 rfl) (eh b0 rfl)) <| nl <| O0 <| ce b0 rfl <| we <| F0 <| sk fun _ P0 => rn <| mv b0 rfl <| ms b0 rfl <| nl <| P0 <| wp_ret <| ret_of (res1 rfl _ _ (gh b0 rfl)) ((ov_defers _ _).trans A0) ?_
 exact ⟨Y0, y0, z0, rfl, ((((((cu0.t0 i0).tg d0 (by omega)).t0 e0).tg g0 (by omega)).t0 j0).tg s0 (by omega)), (o0).wk (by omega)⟩

theorem f44_ss0 {m : Ctx} {w : World} (ag : Ag m w) {a1 a2 vc : Nat} {V : Option Addr} (hV : Sl m V 3 vc 1 [nn a1, nn a2, nn 0]) (la1 : 1 ≤ a1) (ha1 : a1 < 128) (la2 : 1 ≤ a2) (ha2 : a2 < 128) : Calls Tryz.prog 44 #[.slice V 3 vc] w (Ret fun x w' => ∃ m' A c, x = .slice A (3) c ∧ Fr no m w m' w' ∧ Own m' w' w.heap.size A (3) c 5 1 (bv ((([UInt8.ofNat a1]) ++ ([UInt8.ofNat a2])) ++ ([UInt8.ofNat 0])))) := by
 refine enter Tryz.func44 rfl (fun r0 hT z0 => ?_)
 have b0 : r0.tmps.size = 19 := by rw [hT]; kernel_rfl
 have c0 : r0.tmps.getD 0 undef = .slice V 3 vc := by rw [hT]; kernel_rfl
 clear hT
 have cu0 : Fr (no) m w m w := Fr.refl ag
 refine sk fun _ A0 => rn <| gv (r_assign (v := .slice none 0 0) rfl) <| nl <| A0 <| sk fun _ B0 => rn <| gv (r_assign (v := .slice none 0 0) rfl) <| nl <| B0 <| sk fun _ E0 => sk fun _ G0 => rn <| gv (r_assign (v := nn 0) rfl) <| nl <| G0 <| bl <| wp_unroll (n := 6) <| un_step (n := 5) <| sk fun _ I0 => sk fun _ L0 => rn <| mv b0 rfl <| mw b0 c0 <| gv (r_lenS (eh b0 rfl) rfl qu_178) <| gv (r_lss (eh b0 rfl) (eh b0 rfl)) <| nl <| L0 <| cd b0 rfl <| ws <| I0 <| sk fun _ M0 => bl <| rn <| mv b0 rfl <| mw b0 c0 <| mv b0 rfl ?_
 obtain ⟨g1, q0, e1, rfl, w0, p0⟩ := hV.elem (by omega)
 refine gv (r_idxS (o' := q0 + 0) (eh b0 rfl) (eh b0 rfl) qs_178 (by decide) (by omega)) <| gv (r_load1 (v := nn a1) (eh b0 rfl) (ag _ _ w0) (at_sub p0 (by kernel_rfl)) qr_3) <| gk (k_cl (f95_s ag (by omega) (by omega)) rfl fn_95 (map_cons (eh b0 rfl) map_nil) (fun B1 h0 R0 => ?_))
 obtain ⟨W0, Y0, h1, rfl, i0, k0⟩ := R0
 have v1 := i0.size
 have p1 := k0.nilc
 refine gk (k_append0 (base := h0.heap.size) (N := bv ([UInt8.ofNat a1])) i0.ag (eh b0 rfl) (eh b0 rfl) qs_38 qz_5 (Own.nil W0 h0 (h0.heap.size) 5 1) k0.src (k0.nilc) (by rw [bv_length, show ([UInt8.ofNat a1] : List UInt8).length = 1 from rfl, Nat.mul_one]) (one_bv _) (by omega) (by decide) (by rw [maxLen_eq]; omega) (by omega) (fun Z0 i1 E1 v0 d0 => ?_))
 have w1 := d0.size
 have q1 := v0.nilc
 refine ms b0 rfl <| nl <| M0 <| rn <| mv b0 rfl <| gv (r_add (j := 1) (eh b0 rfl) rfl (by decide)) <| ms b0 rfl <| nl <| un_next <| un_step (n := 4) <| sk fun _ C0 => sk fun _ D0 => rn <| mv b0 rfl <| mw b0 c0 <| gv (r_lenS (eh b0 rfl) rfl qu_178) <| gv (r_lss (eh b0 rfl) (eh b0 rfl)) <| nl <| D0 <| cd b0 rfl <| ws <| C0 <| sk fun _ F0 => bl <| rn <| mv b0 rfl <| mw b0 c0 <| mv b0 rfl <| gv (r_idxS (o' := q0 + 1) (eh b0 rfl) (eh b0 rfl) qs_178 (by decide) (by omega)) ?_
 have u0 := (d0.le _ _ (i0.le _ _ w0))
 refine gv (r_load1 (v := nn a2) (eh b0 rfl) (d0.ag _ _ u0) (at_sub p0 (by kernel_rfl)) qr_3) <| gk (k_cl (f95_s d0.ag (by omega) (by omega)) rfl fn_95 (map_cons (eh b0 rfl) map_nil) (fun C1 F1 S0 => ?_))
 obtain ⟨o1, b1, j1, rfl, e0, l0⟩ := S0
 have x1 := e0.size
 have r1 := l0.nilc
 have U0 := (v0.f0 e0)
 have Q0 : (([UInt8.ofNat a1]) ++ ([UInt8.ofNat a2]) : List UInt8).length = 2 := (len_app rfl rfl)
 refine gk (k_append (base := h0.heap.size) (L := bv ([UInt8.ofNat a1])) (N := bv ([UInt8.ofNat a2])) e0.ag (eh b0 rfl) (eh b0 rfl) qs_38 qz_5 U0 l0.src (l0.nilc) (by rw [bv_length, show ([UInt8.ofNat a2] : List UInt8).length = 1 from rfl, Nat.mul_one]) (one_bv _) (by omega) (by decide) (by rw [maxLen_eq]; omega) (by omega) (fun c1 k1 G1 n0 g0 => ?_))
 have y1 := g0.size
 rw [← bv_append] at n0
 have s1 := n0.nilc
 refine ms b0 rfl <| nl <| F0 <| rn <| mv b0 rfl <| gv (r_add (j := 1) (eh b0 rfl) rfl (by decide)) <| ms b0 rfl <| nl <| un_next <| un_step (n := 3) <| sk fun _ H0 => sk fun _ J0 => rn <| mv b0 rfl <| mw b0 c0 <| gv (r_lenS (eh b0 rfl) rfl qu_178) <| gv (r_lss (eh b0 rfl) (eh b0 rfl)) <| nl <| J0 <| cd b0 rfl <| ws <| H0 <| sk fun _ K0 => bl <| rn <| mv b0 rfl <| mw b0 c0 <| mv b0 rfl <| gv (r_idxS (o' := q0 + 2) (eh b0 rfl) (eh b0 rfl) qs_178 (by decide) (by omega)) ?_
 have P0 := (g0.le _ _ (e0.le _ _ u0))
 refine gv (r_load1 (v := nn 0) (eh b0 rfl) (g0.ag _ _ P0) (at_sub p0 (by kernel_rfl)) qr_3) <| gk (k_cl (f95_0 g0.ag) rfl fn_95 (map_cons (eh b0 rfl) map_nil) (fun D1 H1 T0 => ?_))
 obtain ⟨X0, d1, l1, rfl, j0, m0⟩ := T0
 have z1 := j0.size
 have t1 := m0.nilc
 have V0 := (n0.f0 j0)
 have n1 : ((([UInt8.ofNat a1]) ++ ([UInt8.ofNat a2])) ++ ([UInt8.ofNat 0]) : List UInt8).length = 3 := (len_app Q0 rfl)
 refine gk (k_append (base := h0.heap.size) (L := bv (([UInt8.ofNat a1]) ++ ([UInt8.ofNat a2]))) (N := bv ([UInt8.ofNat 0])) j0.ag (eh b0 rfl) (eh b0 rfl) qs_38 qz_5 V0 m0.src (m0.nilc) (by rw [bv_length, show ([UInt8.ofNat 0] : List UInt8).length = 1 from rfl, Nat.mul_one]) (one_bv _) (by omega) (by decide) (by rw [maxLen_eq]; omega) (by omega) (fun x0 y0 I1 o0 s0 => ?_))
 have A1 := s0.size
 rw [← bv_append] at o0
 have u1 := o0.nilc
 refine ms b0 rfl <| nl <| K0 <| rn <| mv b0 rfl <| gv (r_add (j := 1) (eh b0 rfl) rfl (by decide)) <| ms b0 rfl <| nl <| un_next <| un_step (n := 2) <| sk fun _ m1 => sk fun _ N0 => rn <| mv b0 rfl <| mw b0 c0 <| gv (r_lenS (eh b0 rfl) rfl qu_178) <| gv (r_lss (eh b0 rfl) (eh b0 rfl)) <| nl <| N0 <| ce b0 rfl <| we <| E0 <| sk fun _ O0 => rn <| mv b0 rfl <| ms b0 rfl <| nl <| O0 <| wp_ret <| ret_of (res1 rfl _ _ (gh b0 rfl)) ((ov_defers _ _).trans z0) ?_
 exact ⟨X0, x0, y0, rfl, ((((((cu0.t0 i0).tg d0 (by omega)).t0 e0).tg g0 (by omega)).t0 j0).tg s0 (by omega)), (o0).wk (by omega)⟩

theorem f45 {m : Ctx} {w : World} (ag : Ag m w) {k1 : Bytes} {L : Option Addr} {lc : Nat} (hL : Sl m L 1 lc 32 (hc k1)) : Calls Tryz.prog 45 #[.agg ([.slice L 1 lc, nn 1]).toArray] w (Ret fun x w' => ∃ m' A' c', x = .slice A' (34) c' ∧ Fr no m w m' w' ∧ Own m' w' w.heap.size A' (34) c' 5 1 (bv ((([UInt8.ofNat 1]) ++ (n32 k1)) ++ ([UInt8.ofNat 1])))) := by
 refine enter Tryz.func45 rfl (fun o0 hT x0 => ?_)
 have b0 : o0.tmps.size = 28 := by rw [hT]; kernel_rfl
 have R0 : o0.tmps.getD 0 undef = .agg ([.slice L 1 lc, nn 1]).toArray := by rw [hT]; kernel_rfl
 clear hT
 have cu0 : Fr (no) m w m w := Fr.refl ag
 refine sk fun _ y0 => rn <| gk (k_box (L := [.slice L 1 lc, nn 1]) ag (em b0 rfl rfl R0) (by kernel_rfl) (fun n0 v0 j0 g0 b1 => ?_))
 have n1 := g0.size
 have c1 := j0.lt
 refine gv (r_assign (v := .slice none 0 0) rfl) <| nl <| y0 <| sk fun _ G0 => rn <| gv (r_field (o' := 0) (eh b0 rfl) fo_32_0 (by rfl)) <| gv (la (v := .slice L 1 lc) (eh b0 rfl) j0.bk qr_27) <| gv (r_lenS (eh b0 rfl) rfl qu_27) <| gk (k_cl (f95_s g0.ag (by omega) (by omega)) rfl fn_95 (map_cons (eh b0 rfl) map_nil) (fun p1 q1 I0 => ?_))
 obtain ⟨P0, S0, W0, rfl, c0, s0⟩ := I0
 have i1 := c0.size
 have d1 := s0.nilc
 refine ms b0 rfl <| nl <| G0 <| sk fun _ z0 => sk fun _ A0 => rn <| gv (r_assign (v := nn 0) rfl) <| nl <| A0 <| bl <| wp_unroll (n := 2) <| un_step (n := 1) <| sk fun _ B0 => sk fun _ C0 => rn <| mv b0 rfl <| gv (r_field (o' := 0) (eh b0 rfl) fo_32_0 (by rfl)) ?_
 have h0 := (j0.f0 c0)
 refine gv (la (v := .slice L 1 lc) (eh b0 rfl) h0.bk qr_27) <| gv (r_lenS (eh b0 rfl) rfl qu_27) <| gv (r_lss (eh b0 rfl) (eh b0 rfl)) <| nl <| C0 <| cd b0 rfl <| ws <| B0 <| sk fun _ D0 => bl <| rn <| mv b0 rfl <| gv (r_field (o' := 0) (eh b0 rfl) fo_32_0 (by rfl)) <| gv (la (v := .slice L 1 lc) (eh b0 rfl) h0.bk qr_27) <| mv b0 rfl ?_
 have M0 := ((hL.up g0).up c0)
 obtain ⟨p0, m0, V0, rfl, J0, L0⟩ := M0.elem (by omega)
 refine gv (r_idxS (o' := m0 + 0) (eh b0 rfl) (eh b0 rfl) qs_27 (by decide) (by omega)) ?_
 have N0 : Sl P0 (some ⟨p0, m0 + 0, none⟩) 32 32 1 (hc k1) := Sl.of (k := 32) J0 (Eq.trans (rd_sub L0 (by omega)) (by kernel_rfl)) rfl (by decide) (by decide)
 refine gv (r_sliceA (eh b0 rfl) qa_23) ?_
 have H0 : (([UInt8.ofNat 1]) ++ (n32 k1) : List UInt8).length = 33 := (len_app rfl (n32_len _))
 refine gk (k_append (base := n0.heap.size) (L := bv ([UInt8.ofNat 1])) (N := bv (n32 k1)) c0.ag (eh b0 rfl) (eh b0 rfl) qs_38 qz_5 s0 (by have h_ := (N0.src c0.ag); rw [hc_n32] at h_; exact h_) (fun h => by cases h) (by rw [bv_length, show (n32 k1 : List UInt8).length = 32 from (n32_len _), Nat.mul_one]) (one_bv _) (by omega) (by decide) (by rw [maxLen_eq]; omega) (by omega) (fun T0 X0 r1 k0 d0 => ?_))
 have j1 := d0.size
 rw [← bv_append] at k0
 have e1 := k0.nilc
 refine ms b0 rfl <| nl <| D0 <| rn <| mv b0 rfl <| gv (r_add (j := 1) (eh b0 rfl) rfl (by decide)) <| ms b0 rfl <| nl <| un_next <| un_step (n := 0) <| sk fun _ Z0 => sk fun _ E0 => rn <| mv b0 rfl <| gv (r_field (o' := 0) (eh b0 rfl) fo_32_0 (by rfl)) ?_
 have r0 := (h0.fs d0 (show ¬ n0.heap.size ≤ v0 from by omega))
 refine gv (la (v := .slice (some ⟨p0, m0, none⟩) 1 lc) (eh b0 rfl) r0.bk qr_27) <| gv (r_lenS (eh b0 rfl) rfl qu_27) <| gv (r_lss (eh b0 rfl) (eh b0 rfl)) <| nl <| E0 <| ce b0 rfl <| we <| z0 <| sk fun _ F0 => rn <| mv b0 rfl <| gv (r_field (o' := 1) (eh b0 rfl) fo_32_1 (by rfl)) <| gv (la (v := nn 1) (eh b0 rfl) r0.bk qr_3) <| gk (k_cl (f95_s d0.ag (by omega) (by omega)) rfl fn_95 (map_cons (eh b0 rfl) map_nil) (fun o1 s1 K0 => ?_))
 obtain ⟨Q0, U0, Y0, rfl, e0, i0⟩ := K0
 have l1 := e0.size
 have g1 := i0.nilc
 have O0 := (k0.f0 e0)
 have a1 : ((([UInt8.ofNat 1]) ++ (n32 k1)) ++ ([UInt8.ofNat 1]) : List UInt8).length = 34 := (len_app H0 rfl)
 refine gk (k_append (base := n0.heap.size) (L := bv (([UInt8.ofNat 1]) ++ (n32 k1))) (N := bv ([UInt8.ofNat 1])) e0.ag (eh b0 rfl) (eh b0 rfl) qs_38 qz_5 O0 i0.src (i0.nilc) (by rw [bv_length, show ([UInt8.ofNat 1] : List UInt8).length = 1 from rfl, Nat.mul_one]) (one_bv _) (by omega) (by decide) (by rw [maxLen_eq]; omega) (by omega) (fun u0 w0 t1 l0 q0 => ?_))
 have m1 := q0.size
 rw [← bv_append] at l0
 have h1 := l0.nilc
 refine ms b0 rfl <| nl <| F0 <| wp_ret <| ret_of (res1 rfl _ _ (gh b0 rfl)) ((ov_defers _ _).trans x0) ?_
 exact ⟨Q0, u0, w0, rfl, (((((cu0.t0 g0).t0 c0).tg d0 (by omega)).t0 e0).tg q0 (by omega)), (l0).wk (by omega)⟩

theorem f92 {m : Ctx} {w : World} (ag : Ag m w) {k1 : Bytes} {L : Option Addr} {lc : Nat} (hL : Sl m L 1 lc 32 (hc k1)) : Calls Tryz.prog 92 #[.agg ([.slice L 1 lc, nn 1]).toArray] w (Ret fun v w' => ∃ m', v = .bool true ∧ Fr no m w m' w') := by
 refine enter Tryz.func92 rfl (fun d0 hT g0 => ?_)
 have b0 : d0.tmps.size = 51 := by rw [hT]; kernel_rfl
 have u0 : d0.tmps.getD 0 undef = .agg ([.slice L 1 lc, nn 1]).toArray := by rw [hT]; kernel_rfl
 clear hT
 have cu0 : Fr (no) m w m w := Fr.refl ag
 refine sk fun _ h0 => rn <| gk (k_box (L := [.slice L 1 lc, nn 1]) ag (em b0 rfl rfl u0) (by kernel_rfl) (fun B0 v0 c0 e0 y0 => ?_))
 have A0 := e0.size
 have z0 := c0.lt
 refine gv (r_assign (v := .bool false) rfl) <| nl <| h0 <| sk fun _ r0 => sk fun _ s0 => rn <| gv (r_field (o' := 0) (eh b0 rfl) fo_32_0 (by rfl)) <| gv (la (v := .slice L 1 lc) (eh b0 rfl) c0.bk qr_27) <| gv (r_lenS (eh b0 rfl) rfl qu_27) <| gv (r_lss (j := 1) (eh b0 rfl) rfl) <| mv b0 rfl <| sg (t := 9) rfl rfl b0 (eb b0 rfl (by decide)) (kv (r_field (o' := 0) (eh b0 rfl) fo_32_0 (by rfl)) ?_)
 refine sg (t := 9) rfl rfl b0 (eb b0 rfl (by decide)) (kv (la (v := .slice L 1 lc) (eh b0 rfl) c0.bk qr_27) ?_)
 refine sg (t := 9) rfl rfl b0 (eb b0 rfl (by decide)) (kv (r_lenS (eh b0 rfl) rfl qu_27) ?_)
 refine sg (t := 9) rfl rfl b0 (eb b0 rfl (by decide)) (kv (r_gtr (j := 4) (eh b0 rfl) rfl) ?_)
 refine gv (r_pick_f (eb b0 rfl (by decide)) (eh b0 rfl)) <| mv b0 rfl <| sg (t := 15) rfl rfl b0 (eb b0 rfl (by decide)) (kv (r_field (o' := 1) (eh b0 rfl) fo_32_1 (by rfl)) ?_)
 refine sg (t := 15) rfl rfl b0 (eb b0 rfl (by decide)) (kv (la (v := nn 1) (eh b0 rfl) c0.bk qr_3) ?_)
 refine sg (t := 15) rfl rfl b0 (eb b0 rfl (by decide)) (kv (r_lss (j := 1) (eh b0 rfl) rfl) ?_)
 refine gv (r_pick_f (eb b0 rfl (by decide)) (eh b0 rfl)) <| mv b0 rfl <| sg (t := 20) rfl rfl b0 (eb b0 rfl (by decide)) (kv (r_field (o' := 1) (eh b0 rfl) fo_32_1 (by rfl)) ?_)
 refine sg (t := 20) rfl rfl b0 (eb b0 rfl (by decide)) (kv (la (v := nn 1) (eh b0 rfl) c0.bk qr_3) ?_)
 refine sg (t := 20) rfl rfl b0 (eb b0 rfl (by decide)) (kv (r_field (o' := 0) (eh b0 rfl) fo_32_0 (by rfl)) ?_)
 refine sg (t := 20) rfl rfl b0 (eb b0 rfl (by decide)) (kv (la (v := .slice L 1 lc) (eh b0 rfl) c0.bk qr_27) ?_)
 refine sg (t := 20) rfl rfl b0 (eb b0 rfl (by decide)) (kv (r_lenS (eh b0 rfl) rfl qu_27) ?_)
 refine sg (t := 20) rfl rfl b0 (eb b0 rfl (by decide)) (kv (r_gtr (eh b0 rfl) (eh b0 rfl)) ?_)
 refine gv (r_pick_f (eb b0 rfl (by decide)) (eh b0 rfl)) <| nl <| s0 <| ce b0 rfl <| ws <| r0 <| sk fun _ i0 => sk fun _ j0 => rn <| gv (r_assign (v := nn 0) rfl) <| nl <| j0 <| bl <| wp_unroll (n := 2) <| un_step (n := 1) <| sk fun _ k0 => sk fun _ l0 => rn <| mv b0 rfl <| gv (r_field (o' := 0) (eh b0 rfl) fo_32_0 (by rfl)) <| gv (la (v := .slice L 1 lc) (eh b0 rfl) c0.bk qr_27) <| gv (r_lenS (eh b0 rfl) rfl qu_27) <| gv (r_lss (eh b0 rfl) (eh b0 rfl)) <| nl <| l0 <| cd b0 rfl <| ws <| k0 <| sk fun _ m0 => bl <| sk fun _ n0 => rn <| gv (r_assign (v := nn 0) rfl) <| nl <| n0 <| bl <| wp_unroll (n := 2) <| un_step (n := 1) <| sk fun _ w0 => sk fun _ o0 => rn <| mv b0 rfl <| mv b0 rfl <| gv (r_lss (eh b0 rfl) (eh b0 rfl)) <| nl <| o0 <| ce b0 rfl <| we <| m0 <| rn <| mv b0 rfl <| gv (r_add (j := 1) (eh b0 rfl) rfl (by decide)) <| ms b0 rfl <| nl <| un_next <| un_step (n := 0) <| sk fun _ x0 => sk fun _ p0 => rn <| mv b0 rfl <| gv (r_field (o' := 0) (eh b0 rfl) fo_32_0 (by rfl)) <| gv (la (v := .slice L 1 lc) (eh b0 rfl) c0.bk qr_27) <| gv (r_lenS (eh b0 rfl) rfl qu_27) <| gv (r_lss (eh b0 rfl) (eh b0 rfl)) <| nl <| p0 <| ce b0 rfl <| we <| i0 <| sk fun _ q0 => rn <| gv (r_assign (v := .bool true) rfl) <| nl <| q0 <| wp_ret <| ret_of (res1 rfl _ _ (gh b0 rfl)) ((ov_defers _ _).trans g0) ?_
 exact ⟨m, rfl, (cu0.t0 e0)⟩

theorem f93 {m : Ctx} {w : World} (ag : Ag m w) {v : Nat} (h1 : 1 ≤ v) (h2 : v ≤ 1073741824) : Calls Tryz.prog 93 #[nn v] w (Ret fun v w' => ∃ m', v = .bool true ∧ Fr no m w m' w') := by
 refine enter Tryz.func93 rfl (fun d0 hT g0 => ?_)
 have b0 : d0.tmps.size = 9 := by rw [hT]; kernel_rfl
 have e0 : d0.tmps.getD 0 undef = nn v := by rw [hT]; kernel_rfl
 clear hT
 have cu0 : Fr (no) m w m w := Fr.refl ag
 refine sk fun _ h0 => rn <| gv (r_assign (v := .bool false) rfl) <| nl <| h0 <| sk fun _ i0 => rn <| mw b0 e0 <| gv (r_geq (j := 1) (eh b0 rfl) rfl) <| mv b0 rfl ?_
 have c0 : (decide (1 ≤ v)) = true := (decide_eq_true h1)
 refine sg (t := 5) rfl rfl b0 (eb b0 rfl c0) (kv (r_move (em b0 rfl rfl e0)) ?_)
 refine sg (t := 5) rfl rfl b0 (eb b0 rfl c0) (kv (r_leq (j := 1073741824) (eh b0 rfl) rfl) ?_)
 refine gv (r_pick_t (eb b0 rfl c0) (eh b0 rfl)) <| ms b0 rfl <| nl <| i0 <| wp_ret <| ret_of (res1 rfl _ _ (gh b0 rfl)) ((ov_defers _ _).trans g0) ?_
 exact ⟨m, congrArg Value.bool (decide_eq_true h2), cu0⟩

theorem f94 {m : Ctx} {w : World} (ag : Ag m w) {v vc : Nat} {V : Option Addr} (hV : Sl m V 1 vc 1 [nn v]) (h2 : v ≤ 1073741824) : Calls Tryz.prog 94 #[.slice V 1 vc] w (Ret fun v w' => ∃ m', v = .bool true ∧ Fr no m w m' w') := by
 refine enter Tryz.func94 rfl (fun e0 hT j0 => ?_)
 have b0 : e0.tmps.size = 22 := by rw [hT]; kernel_rfl
 have d0 : e0.tmps.getD 0 undef = .slice V 1 vc := by rw [hT]; kernel_rfl
 clear hT
 have cu0 : Fr (no) m w m w := Fr.refl ag
 refine sk fun _ k0 => rn <| gv (r_assign (v := .bool false) rfl) <| nl <| k0 <| sk fun _ n0 => sk fun _ o0 => rn <| gv (r_assign (v := nn 0) rfl) <| nl <| o0 <| bl <| wp_unroll (n := 2) <| un_step (n := 1) <| sk fun _ p0 => sk fun _ q0 => rn <| mv b0 rfl <| mw b0 d0 <| gv (r_lenS (eh b0 rfl) rfl qu_178) <| gv (r_lss (eh b0 rfl) (eh b0 rfl)) <| nl <| q0 <| cd b0 rfl <| ws <| p0 <| sk fun _ r0 => bl <| sk fun _ s0 => rn <| mw b0 d0 <| mv b0 rfl ?_
 obtain ⟨v0, i0, u0, rfl, g0, h0⟩ := hV.elem (by omega)
 refine gv (r_idxS (o' := i0 + 0) (eh b0 rfl) (eh b0 rfl) qs_178 (by decide) (by omega)) <| gv (r_load1 (v := nn v) (eh b0 rfl) (ag _ _ g0) (at_sub h0 (by kernel_rfl)) qr_3) <| gv (r_lss (j := 0) (eh b0 rfl) rfl) <| mv b0 rfl ?_
 have c0 : (decide (v < 0)) = false := (decide_eq_false (by omega))
 refine sg (t := 15) rfl rfl b0 (eb b0 rfl c0) (kv (r_move (em b0 rfl rfl d0)) ?_)
 refine sg (t := 15) rfl rfl b0 (eb b0 rfl c0) (kv (r_move (eh b0 rfl)) ?_)
 refine sg (t := 15) rfl rfl b0 (eb b0 rfl c0) (kv (r_idxS (o' := i0 + 0) (eh b0 rfl) (eh b0 rfl) qs_178 (by decide) (by omega)) ?_)
 refine sg (t := 15) rfl rfl b0 (eb b0 rfl c0) (kv (r_load1 (v := nn v) (eh b0 rfl) (ag _ _ g0) (at_sub h0 (by kernel_rfl)) qr_3) ?_)
 refine sg (t := 15) rfl rfl b0 (eb b0 rfl c0) (kv (r_gtr (j := 1073741824) (eh b0 rfl) rfl) ?_)
 refine gv (r_pick_f (eb b0 rfl c0) (eh b0 rfl)) <| nl <| s0 ?_
 have t0 : (decide (1073741824 < v)) = false := (decide_eq_false (by omega))
 refine cf (eb b0 rfl t0) <| ws <| r0 <| rn <| mv b0 rfl <| gv (r_add (j := 1) (eh b0 rfl) rfl (by decide)) <| ms b0 rfl <| nl <| un_next <| un_step (n := 0) <| sk fun _ w0 => sk fun _ l0 => rn <| mv b0 rfl <| mw b0 d0 <| gv (r_lenS (eh b0 rfl) rfl qu_178) <| gv (r_lss (eh b0 rfl) (eh b0 rfl)) <| nl <| l0 <| ce b0 rfl <| we <| n0 <| sk fun _ m0 => rn <| gv (r_assign (v := .bool true) rfl) <| nl <| m0 <| wp_ret <| ret_of (res1 rfl _ _ (gh b0 rfl)) ((ov_defers _ _).trans j0) ?_
 exact ⟨m, rfl, cu0⟩

theorem f167 {m : Ctx} {w : World} (ag : Ag m w) : Calls Tryz.prog 167 #[.string (⟨#[116, 111, 112]⟩ : ByteArray)] w (Ret fun v w' => ∃ m', v = .bool true ∧ Fr no m w m' w') := by
 refine enter Tryz.func167 rfl (fun d0 hT e0 => ?_)
 have b0 : d0.tmps.size = 46 := by rw [hT]; kernel_rfl
 have c0 : d0.tmps.getD 0 undef = .string (⟨#[116, 111, 112]⟩ : ByteArray) := by rw [hT]; kernel_rfl
 clear hT
 have cu0 : Fr (no) m w m w := Fr.refl ag
 refine sk fun _ g0 => rn <| gv (r_assign (v := .bool false) rfl) <| nl <| g0 <| sk fun _ p0 => sk fun _ q0 => rn <| gv (r_assign (v := nn 0) rfl) <| nl <| q0 <| bl <| wp_unroll (n := 5) <| un_step (n := 4) <| sk fun _ r0 => sk fun _ s0 => rn <| mv b0 rfl <| mw b0 c0 <| gv (r_lenStr (s := ⟨#[116, 111, 112]⟩) (eh b0 rfl) rfl qu_9) <| gv (r_lss (eh b0 rfl) (eh b0 rfl)) <| nl <| s0 <| cd b0 rfl <| ws <| r0 <| sk fun _ t0 => bl <| sk fun _ u0 => rn <| mw b0 c0 <| mv b0 rfl <| gv (r_indexStr (s := ⟨#[116, 111, 112]⟩) (i := 0) (c := 116) (eh b0 rfl) (eh b0 rfl) qu_9 (by kernel_rfl)) <| gv (r_lss8 (e := 97) (eh b0 rfl) rfl) <| mv b0 rfl <| sg (t := 14) rfl rfl b0 (eb b0 rfl (by decide)) (kv (r_move (em b0 rfl rfl c0)) ?_)
 refine sg (t := 14) rfl rfl b0 (eb b0 rfl (by decide)) (kv (r_move (eh b0 rfl)) ?_)
 refine sg (t := 14) rfl rfl b0 (eb b0 rfl (by decide)) (kv (r_indexStr (s := ⟨#[116, 111, 112]⟩) (i := 0) (c := 116) (eh b0 rfl) (eh b0 rfl) qu_9 (by kernel_rfl)) ?_)
 refine sg (t := 14) rfl rfl b0 (eb b0 rfl (by decide)) (kv (r_gtr8 (e := 122) (eh b0 rfl) rfl) ?_)
 refine gv (r_pick_f (eb b0 rfl (by decide)) (eh b0 rfl)) <| mv b0 rfl <| sf (t := 20) (c := false) rfl rfl b0 (eb b0 rfl (by decide)) <| sf (t := 20) (c := false) rfl rfl b0 (eb b0 rfl (by decide)) <| sf (t := 20) (c := false) rfl rfl b0 (eb b0 rfl (by decide)) <| sf (t := 20) (c := false) rfl rfl b0 (eb b0 rfl (by decide)) <| sf (t := 20) (c := false) rfl rfl b0 (eb b0 rfl (by decide)) <| sfu (t := 25) rfl rfl b0 (eh b0 rfl) <| sfu (t := 25) rfl rfl b0 (eh b0 rfl) <| sfu (t := 25) rfl rfl b0 (eh b0 rfl) <| sfu (t := 25) rfl rfl b0 (eh b0 rfl) <| sf (t := 20) (c := false) rfl rfl b0 (eb b0 rfl (by decide)) <| gv (r_pick_f (v := .bool false) (eb b0 rfl (by decide)) rfl) <| mv b0 rfl <| sf (t := 32) (c := false) rfl rfl b0 (eh b0 rfl) <| sf (t := 32) (c := false) rfl rfl b0 (eh b0 rfl) <| sf (t := 32) (c := false) rfl rfl b0 (eh b0 rfl) <| sf (t := 32) (c := false) rfl rfl b0 (eh b0 rfl) <| gv (r_pick_f (v := .bool false) (eh b0 rfl) rfl) <| nl <| u0 <| cf (eh b0 rfl) <| ws <| t0 <| rn <| mv b0 rfl <| gv (r_add (j := 1) (eh b0 rfl) rfl (by decide)) <| ms b0 rfl <| nl <| un_next <| un_step (n := 3) <| sk fun _ v0 => sk fun _ w0 => rn <| mv b0 rfl <| mw b0 c0 <| gv (r_lenStr (s := ⟨#[116, 111, 112]⟩) (eh b0 rfl) rfl qu_9) <| gv (r_lss (eh b0 rfl) (eh b0 rfl)) <| nl <| w0 <| cd b0 rfl <| ws <| v0 <| sk fun _ h0 => bl <| sk fun _ i0 => rn <| mw b0 c0 <| mv b0 rfl <| gv (r_indexStr (s := ⟨#[116, 111, 112]⟩) (i := 1) (c := 111) (eh b0 rfl) (eh b0 rfl) qu_9 (by kernel_rfl)) <| gv (r_lss8 (e := 97) (eh b0 rfl) rfl) ?_
 refine mv b0 rfl <| sg (t := 14) rfl rfl b0 (eb b0 rfl (by decide)) (kv (r_move (em b0 rfl rfl c0)) ?_)
 refine sg (t := 14) rfl rfl b0 (eb b0 rfl (by decide)) (kv (r_move (eh b0 rfl)) ?_)
 refine sg (t := 14) rfl rfl b0 (eb b0 rfl (by decide)) (kv (r_indexStr (s := ⟨#[116, 111, 112]⟩) (i := 1) (c := 111) (eh b0 rfl) (eh b0 rfl) qu_9 (by kernel_rfl)) ?_)
 refine sg (t := 14) rfl rfl b0 (eb b0 rfl (by decide)) (kv (r_gtr8 (e := 122) (eh b0 rfl) rfl) ?_)
 refine gv (r_pick_f (eb b0 rfl (by decide)) (eh b0 rfl)) <| mv b0 rfl <| sf (t := 20) (c := false) rfl rfl b0 (eb b0 rfl (by decide)) <| sf (t := 20) (c := false) rfl rfl b0 (eb b0 rfl (by decide)) <| sf (t := 20) (c := false) rfl rfl b0 (eb b0 rfl (by decide)) <| sf (t := 20) (c := false) rfl rfl b0 (eb b0 rfl (by decide)) <| sf (t := 20) (c := false) rfl rfl b0 (eb b0 rfl (by decide)) <| sfu (t := 25) rfl rfl b0 (eh b0 rfl) <| sfu (t := 25) rfl rfl b0 (eh b0 rfl) <| sfu (t := 25) rfl rfl b0 (eh b0 rfl) <| sfu (t := 25) rfl rfl b0 (eh b0 rfl) <| sf (t := 20) (c := false) rfl rfl b0 (eb b0 rfl (by decide)) <| gv (r_pick_f (v := .bool false) (eb b0 rfl (by decide)) rfl) <| mv b0 rfl <| sf (t := 32) (c := false) rfl rfl b0 (eh b0 rfl) <| sf (t := 32) (c := false) rfl rfl b0 (eh b0 rfl) <| sf (t := 32) (c := false) rfl rfl b0 (eh b0 rfl) <| sf (t := 32) (c := false) rfl rfl b0 (eh b0 rfl) <| gv (r_pick_f (v := .bool false) (eh b0 rfl) rfl) <| nl <| i0 <| cf (eh b0 rfl) <| ws <| h0 <| rn <| mv b0 rfl <| gv (r_add (j := 1) (eh b0 rfl) rfl (by decide)) <| ms b0 rfl <| nl <| un_next <| un_step (n := 2) <| sk fun _ j0 => sk fun _ k0 => rn <| mv b0 rfl <| mw b0 c0 <| gv (r_lenStr (s := ⟨#[116, 111, 112]⟩) (eh b0 rfl) rfl qu_9) <| gv (r_lss (eh b0 rfl) (eh b0 rfl)) <| nl <| k0 <| cd b0 rfl <| ws <| j0 <| sk fun _ l0 => bl <| sk fun _ m0 => rn <| mw b0 c0 <| mv b0 rfl <| gv (r_indexStr (s := ⟨#[116, 111, 112]⟩) (i := 2) (c := 112) (eh b0 rfl) (eh b0 rfl) qu_9 (by kernel_rfl)) <| gv (r_lss8 (e := 97) (eh b0 rfl) rfl) ?_
 refine mv b0 rfl <| sg (t := 14) rfl rfl b0 (eb b0 rfl (by decide)) (kv (r_move (em b0 rfl rfl c0)) ?_)
 refine sg (t := 14) rfl rfl b0 (eb b0 rfl (by decide)) (kv (r_move (eh b0 rfl)) ?_)
 refine sg (t := 14) rfl rfl b0 (eb b0 rfl (by decide)) (kv (r_indexStr (s := ⟨#[116, 111, 112]⟩) (i := 2) (c := 112) (eh b0 rfl) (eh b0 rfl) qu_9 (by kernel_rfl)) ?_)
 refine sg (t := 14) rfl rfl b0 (eb b0 rfl (by decide)) (kv (r_gtr8 (e := 122) (eh b0 rfl) rfl) ?_)
 refine gv (r_pick_f (eb b0 rfl (by decide)) (eh b0 rfl)) <| mv b0 rfl <| sf (t := 20) (c := false) rfl rfl b0 (eb b0 rfl (by decide)) <| sf (t := 20) (c := false) rfl rfl b0 (eb b0 rfl (by decide)) <| sf (t := 20) (c := false) rfl rfl b0 (eb b0 rfl (by decide)) <| sf (t := 20) (c := false) rfl rfl b0 (eb b0 rfl (by decide)) <| sf (t := 20) (c := false) rfl rfl b0 (eb b0 rfl (by decide)) <| sfu (t := 25) rfl rfl b0 (eh b0 rfl) <| sfu (t := 25) rfl rfl b0 (eh b0 rfl) <| sfu (t := 25) rfl rfl b0 (eh b0 rfl) <| sfu (t := 25) rfl rfl b0 (eh b0 rfl) <| sf (t := 20) (c := false) rfl rfl b0 (eb b0 rfl (by decide)) <| gv (r_pick_f (v := .bool false) (eb b0 rfl (by decide)) rfl) <| mv b0 rfl <| sf (t := 32) (c := false) rfl rfl b0 (eh b0 rfl) <| sf (t := 32) (c := false) rfl rfl b0 (eh b0 rfl) <| sf (t := 32) (c := false) rfl rfl b0 (eh b0 rfl) <| sf (t := 32) (c := false) rfl rfl b0 (eh b0 rfl) <| gv (r_pick_f (v := .bool false) (eh b0 rfl) rfl) <| nl <| m0 <| cf (eh b0 rfl) <| ws <| l0 <| rn <| mv b0 rfl <| gv (r_add (j := 1) (eh b0 rfl) rfl (by decide)) <| ms b0 rfl <| nl <| un_next <| un_step (n := 1) <| sk fun _ x0 => sk fun _ n0 => rn <| mv b0 rfl <| mw b0 c0 <| gv (r_lenStr (s := ⟨#[116, 111, 112]⟩) (eh b0 rfl) rfl qu_9) <| gv (r_lss (eh b0 rfl) (eh b0 rfl)) <| nl <| n0 <| ce b0 rfl <| we <| p0 <| sk fun _ o0 => rn <| mw b0 c0 <| gv (r_lenStr (s := ⟨#[116, 111, 112]⟩) (eh b0 rfl) rfl qu_9) <| gv (r_geq (j := 1) (eh b0 rfl) rfl) <| mv b0 rfl <| sg (t := 41) rfl rfl b0 (eb b0 rfl (by decide)) (kv (r_move (em b0 rfl rfl c0)) ?_)
 refine sg (t := 41) rfl rfl b0 (eb b0 rfl (by decide)) (kv (r_lenStr (s := ⟨#[116, 111, 112]⟩) (eh b0 rfl) rfl qu_9) ?_)
 refine sg (t := 41) rfl rfl b0 (eb b0 rfl (by decide)) (kv (r_leq (j := 12) (eh b0 rfl) rfl) ?_)
 refine gv (r_pick_t (eb b0 rfl (by decide)) (eh b0 rfl)) <| ms b0 rfl <| nl <| o0 <| wp_ret <| ret_of (res1 rfl _ _ (gh b0 rfl)) ((ov_defers _ _).trans e0) ?_
 exact ⟨m, rfl, cu0⟩

theorem f43 {m : Ctx} {w : World} (ag : Ag m w) {q0 q1 q2 q3 : Bytes} {L0 L1 L2 L3 : Option Addr} {l0 l1 l2 l3 v1 : Nat} (hL0 : Sl m L0 1 l0 32 (hc q0)) (hL1 : Sl m L1 1 l1 32 (hc q1)) (hL2 : Sl m L2 1 l2 32 (hc q2)) (hL3 : Sl m L3 1 l3 32 (hc q3)) (hv : v1 < 128) (hv1 : 1 ≤ v1) : Calls Tryz.prog 43 #[.agg ([nn v1, nn 1073741824, .slice L0 1 l0, nn 1, .slice L1 1 l1, nn 1, .slice L2 1 l2, nn 1, .slice L3 1 l3, nn 1]).toArray] w (Ret fun v w' => ∃ m', v = .bool true ∧ Fr no m w m' w') := by
 refine enter Tryz.func43 rfl (fun n0 hT z0 => ?_)
 have b0 : n0.tmps.size = 23 := by rw [hT]; kernel_rfl
 have o1 : n0.tmps.getD 0 undef = .agg ([nn v1, nn 1073741824, .slice L0 1 l0, nn 1, .slice L1 1 l1, nn 1, .slice L2 1 l2, nn 1, .slice L3 1 l3, nn 1]).toArray := by rw [hT]; kernel_rfl
 clear hT
 have cu0 : Fr (no) m w m w := Fr.refl ag
 refine sk fun _ A0 => rn <| gk (k_box (L := [nn v1, nn 1073741824, .slice L0 1 l0, nn 1, .slice L1 1 l1, nn 1, .slice L2 1 l2, nn 1, .slice L3 1 l3, nn 1]) ag (em b0 rfl rfl o1) (by kernel_rfl) (fun S1 p1 m0 d0 s1 => ?_))
 have G1 := d0.size
 have u1 := m0.lt
 refine gv (r_assign (v := .bool false) rfl) <| nl <| A0 <| sk fun _ U0 => sk fun _ V0 => rn <| gv (r_assign (v := nn 0) rfl) <| nl <| V0 <| bl <| wp_unroll (n := 5) <| un_step (n := 4) <| sk fun _ B0 => sk fun _ C0 => rn <| mv b0 rfl <| gv (r_lss (j := 4) (eh b0 rfl) rfl) <| nl <| C0 <| cd b0 rfl <| ws <| B0 <| sk fun _ D0 => bl <| sk fun _ E0 => rn <| mv b0 rfl <| gv (r_field (o' := 2) (eh b0 rfl) fo_35_2 (by rfl)) <| gv (r_idxA (o' := 2) (eh b0 rfl) (eh b0 rfl) qa_33 (by decide) (by rfl)) <| gv (lb (cs := [.slice L0 1 l0, nn 1]) (eh b0 rfl) m0.bk qr_32 sz_32) ?_
 have d1 := (hL0.up d0)
 refine gk (k_cl (f92 d0.ag d1) rfl fn_92 (map_cons (eh b0 rfl) map_nil) (fun K1 R1 X0 => ?_))
 obtain ⟨x1, rfl, c0⟩ := X0
 have B1 := c0.size
 refine gv (r_not (eh b0 rfl)) <| nl <| E0 <| cf (eh b0 rfl) <| ws <| D0 <| rn <| mv b0 rfl <| gv (r_add (j := 1) (eh b0 rfl) rfl (by decide)) <| ms b0 rfl <| nl <| un_next <| un_step (n := 3) <| sk fun _ F0 => sk fun _ G0 => rn <| mv b0 rfl <| gv (r_lss (j := 4) (eh b0 rfl) rfl) <| nl <| G0 <| cd b0 rfl <| ws <| F0 <| sk fun _ H0 => bl <| sk fun _ I0 => rn <| mv b0 rfl <| gv (r_field (o' := 2) (eh b0 rfl) fo_35_2 (by rfl)) <| gv (r_idxA (o' := 4) (eh b0 rfl) (eh b0 rfl) qa_33 (by decide) (by rfl)) ?_
 have r0 := (m0.f0 c0)
 refine gv (lb (cs := [.slice L1 1 l1, nn 1]) (eh b0 rfl) r0.bk qr_32 sz_32) ?_
 have e1 := ((hL1.up d0).up c0)
 refine gk (k_cl (f92 c0.ag e1) rfl fn_92 (map_cons (eh b0 rfl) map_nil) (fun M1 T1 Y0 => ?_))
 obtain ⟨y1, rfl, e0⟩ := Y0
 have C1 := e0.size
 refine gv (r_not (eh b0 rfl)) <| nl <| I0 <| cf (eh b0 rfl) <| ws <| H0 <| rn <| mv b0 rfl <| gv (r_add (j := 1) (eh b0 rfl) rfl (by decide)) <| ms b0 rfl <| nl <| un_next <| un_step (n := 2) <| sk fun _ J0 => sk fun _ K0 => rn <| mv b0 rfl <| gv (r_lss (j := 4) (eh b0 rfl) rfl) <| nl <| K0 <| cd b0 rfl <| ws <| J0 <| sk fun _ M0 => bl <| sk fun _ N0 => rn <| mv b0 rfl <| gv (r_field (o' := 2) (eh b0 rfl) fo_35_2 (by rfl)) <| gv (r_idxA (o' := 6) (eh b0 rfl) (eh b0 rfl) qa_33 (by decide) (by rfl)) ?_
 have s0 := (r0.f0 e0)
 refine gv (lb (cs := [.slice L2 1 l2, nn 1]) (eh b0 rfl) s0.bk qr_32 sz_32) ?_
 have y0 := Fr.ll (Fr.l2 d0 c0) e0
 have g1 := hL2.le y0
 refine gk (k_cl (f92 e0.ag g1) rfl fn_92 (map_cons (eh b0 rfl) map_nil) (fun N1 U1 Z0 => ?_))
 obtain ⟨z1, rfl, g0⟩ := Z0
 have D1 := g0.size
 refine gv (r_not (eh b0 rfl)) <| nl <| N0 <| cf (eh b0 rfl) <| ws <| M0 <| rn <| mv b0 rfl <| gv (r_add (j := 1) (eh b0 rfl) rfl (by decide)) <| ms b0 rfl <| nl <| un_next <| un_step (n := 1) <| sk fun _ O0 => sk fun _ P0 => rn <| mv b0 rfl <| gv (r_lss (j := 4) (eh b0 rfl) rfl) <| nl <| P0 <| cd b0 rfl <| ws <| O0 <| sk fun _ Q0 => bl <| sk fun _ R0 => rn <| mv b0 rfl <| gv (r_field (o' := 2) (eh b0 rfl) fo_35_2 (by rfl)) <| gv (r_idxA (o' := 8) (eh b0 rfl) (eh b0 rfl) qa_33 (by decide) (by rfl)) ?_
 have u0 := (s0.f0 g0)
 refine gv (lb (cs := [.slice L3 1 l3, nn 1]) (eh b0 rfl) u0.bk qr_32 sz_32) ?_
 have j1 := Fr.ll y0 g0
 have h1 := hL3.le j1
 refine gk (k_cl (f92 g0.ag h1) rfl fn_92 (map_cons (eh b0 rfl) map_nil) (fun O1 V1 a1 => ?_))
 obtain ⟨A1, rfl, h0⟩ := a1
 have E1 := h0.size
 refine gv (r_not (eh b0 rfl)) <| nl <| R0 <| cf (eh b0 rfl) <| ws <| Q0 <| rn <| mv b0 rfl <| gv (r_add (j := 1) (eh b0 rfl) rfl (by decide)) <| ms b0 rfl <| nl <| un_next <| un_step (n := 0) <| sk fun _ r1 => sk fun _ S0 => rn <| mv b0 rfl <| gv (r_lss (j := 4) (eh b0 rfl) rfl) <| nl <| S0 <| ce b0 rfl <| we <| U0 <| sk fun _ T0 => rn <| gv (r_field (o' := 0) (eh b0 rfl) fo_35_0 (by rfl)) ?_
 have v0 := (u0.f0 h0)
 refine gv (la (v := nn v1) (eh b0 rfl) v0.bk qr_3) <| gk (k_cl (f93 h0.ag (by omega) (by omega)) rfl fn_93 (map_cons (eh b0 rfl) map_nil) (fun P1 W1 b1 => ?_))
 obtain ⟨k1, rfl, i0⟩ := b1
 have F1 := i0.size
 refine mv b0 rfl <| sg (t := 17) rfl rfl b0 (eh b0 rfl) (kv (r_field (o' := 1) (eh b0 rfl) fo_35_1 (by rfl)) ?_)
 have W0 := (v0.f0 i0)
 refine sg (t := 17) rfl rfl b0 (eh b0 rfl) (kv (la (v := nn 1073741824) (eh b0 rfl) W0.bk qr_3) ?_)
 refine sg (t := 17) rfl rfl b0 (eh b0 rfl) (k_lit (e := 3) (L := [nn 1073741824]) i0.ag (pm_cons (eh b0 rfl) pm_nil) (by kernel_rfl) (fun X1 o0 w0 k0 t1 => ?_))
 have H1 := k0.size
 have w1 := w0.lt
 obtain ⟨j0, x0⟩ := w0.fz k0.ag
 generalize cput k1 o0 _ = m1 at j0 x0
 have I1 := j0.size
 have i1 : Sl m1 (some ⟨o0, 0, none⟩) 1 1 1 ([nn 1073741824]) := Sl.of (k := 1) x0 (by kernel_rfl) (by kernel_rfl) (by decide) (by decide)
 refine sg (t := 17) rfl rfl b0 (eh b0 rfl) (k_cl (f94 j0.ag i1 (by omega)) rfl fn_94 (map_cons (eh b0 rfl) map_nil) (fun Q1 Y1 c1 => ?_))
 obtain ⟨n1, rfl, p0⟩ := c1
 have J1 := p0.size
 refine gv (r_pick_t (eh b0 rfl) (eh b0 rfl)) <| ms b0 rfl <| nl <| T0 <| wp_ret <| ret_of (res1 rfl _ _ (gh b0 rfl)) ((ov_defers _ _).trans z0) ?_
 exact ⟨n1, rfl, (((((((((cu0.t0 d0).t0 c0).t0 e0).t0 g0).t0 h0).t0 i0).t0 k0).tn j0 (by omega)).t0 p0)⟩

theorem f146 {m : Ctx} {w : World} (ag : Ag m w) {v1 e1 s1 : Nat} {h1 : Bytes} (hv : v1 < 128) (he : e1 < 128) (hs : s1 < 128) (hv1 : 1 ≤ v1) (hs1 : 1 ≤ s1) : Calls Tryz.prog 146 #[.agg ([nn v1, nn e1, nn s1] ++ (hc h1)).toArray] w (Ret fun v w' => ∃ m', v = .bool true ∧ Fr no m w m' w') := by
 refine enter Tryz.func146 rfl (fun j0 hT p0 => ?_)
 have b0 : j0.tmps.size = 17 := by rw [hT]; kernel_rfl
 have B0 : j0.tmps.getD 0 undef = .agg ([nn v1, nn e1, nn s1] ++ (hc h1)).toArray := by rw [hT]; kernel_rfl
 clear hT
 have cu0 : Fr (no) m w m w := Fr.refl ag
 refine sk fun _ q0 => rn <| gk (k_box (L := [nn v1, nn e1, nn s1] ++ (hc h1)) ag (em b0 rfl rfl B0) (by kernel_rfl) (fun T0 C0 i0 h0 E0 => ?_))
 have N0 := h0.size
 have G0 := i0.lt
 refine gv (r_assign (v := .bool false) rfl) <| nl <| q0 <| sk fun _ r0 => rn <| gv (r_field (o' := 0) (eh b0 rfl) fo_53_0 (by rfl)) <| gv (la (v := nn v1) (eh b0 rfl) i0.bk qr_3) <| gk (k_cl (f93 h0.ag (by omega) (by omega)) rfl fn_93 (map_cons (eh b0 rfl) map_nil) (fun Q0 R0 u0 => ?_))
 obtain ⟨y0, rfl, d0⟩ := u0
 have I0 := d0.size
 refine mv b0 rfl <| sg (t := 6) rfl rfl b0 (eh b0 rfl) (kv (r_field (o' := 1) (eh b0 rfl) fo_53_1 (by rfl)) ?_)
 have m0 := (i0.f0 d0)
 refine sg (t := 6) rfl rfl b0 (eh b0 rfl) (kv (la (v := nn e1) (eh b0 rfl) m0.bk qr_3) ?_)
 refine sg (t := 6) rfl rfl b0 (eh b0 rfl) (k_lit (e := 3) (L := [nn e1]) d0.ag (pm_cons (eh b0 rfl) pm_nil) (by kernel_rfl) (fun S0 k0 n0 e0 D0 => ?_))
 have J0 := e0.size
 have F0 := n0.lt
 obtain ⟨c0, o0⟩ := n0.fz e0.ag
 generalize cput y0 k0 _ = z0 at c0 o0
 have K0 := c0.size
 have x0 : Sl z0 (some ⟨k0, 0, none⟩) 1 1 1 ([nn e1]) := Sl.of (k := 1) o0 (by kernel_rfl) (by kernel_rfl) (by decide) (by decide)
 refine sg (t := 6) rfl rfl b0 (eh b0 rfl) (k_cl (f94 c0.ag x0 (by omega)) rfl fn_94 (map_cons (eh b0 rfl) map_nil) (fun O0 U0 v0 => ?_))
 obtain ⟨H0, rfl, g0⟩ := v0
 have L0 := g0.size
 refine gv (r_pick_t (eh b0 rfl) (eh b0 rfl)) <| mv b0 rfl <| sg (t := 12) rfl rfl b0 (eh b0 rfl) (kv (r_field (o' := 2) (eh b0 rfl) fo_53_2 (by rfl)) ?_)
 have s0 := (((m0.f0 e0).f1 c0 (by omega)).f0 g0)
 refine sg (t := 12) rfl rfl b0 (eh b0 rfl) (kv (la (v := nn s1) (eh b0 rfl) s0.bk qr_3) ?_)
 refine sg (t := 12) rfl rfl b0 (eh b0 rfl) (k_cl (f93 g0.ag (by omega) (by omega)) rfl fn_93 (map_cons (eh b0 rfl) map_nil) (fun P0 V0 w0 => ?_))
 obtain ⟨A0, rfl, l0⟩ := w0
 have M0 := l0.size
 refine gv (r_pick_t (eh b0 rfl) (eh b0 rfl)) <| ms b0 rfl <| nl <| r0 <| wp_ret <| ret_of (res1 rfl _ _ (gh b0 rfl)) ((ov_defers _ _).trans p0) ?_
 exact ⟨A0, rfl, ((((((cu0.t0 h0).t0 d0).t0 e0).tn c0 (by omega)).t0 g0).t0 l0)⟩

theorem f149 {m : Ctx} {w : World} (ag : Ag m w) {v1 v2 e1 lc : Nat} {L : Option Addr} (hL : Sl m L 1 lc 2 [.string (⟨#[116, 111, 112]⟩ : ByteArray), nn v2]) (hv : v1 < 128) (hv2 : v2 < 128) (he : e1 < 128) (hv1 : 1 ≤ v1) (hv3 : 1 ≤ v2) : Calls Tryz.prog 149 #[.agg ([nn v1, nn e1, .slice L 1 lc]).toArray] w (Ret fun v w' => ∃ m', v = .bool true ∧ Fr no m w m' w') := by
 refine enter Tryz.func149 rfl (fun w0 hT F0 => ?_)
 have b0 : w0.tmps.size = 64 := by rw [hT]; kernel_rfl
 have Z0 : w0.tmps.getD 0 undef = .agg ([nn v1, nn e1, .slice L 1 lc]).toArray := by rw [hT]; kernel_rfl
 clear hT
 have cu0 : Fr (no) m w m w := Fr.refl ag
 refine sk fun _ G0 => rn <| gk (k_box (L := [nn v1, nn e1, .slice L 1 lc]) ag (em b0 rfl rfl Z0) (by kernel_rfl) (fun l0 b1 v0 n0 g1 => ?_))
 have s1 := n0.size
 have h1 := v0.lt
 refine gv (r_assign (v := .bool false) rfl) <| nl <| G0 <| sk fun _ N0 => sk fun _ O0 => rn <| gv (r_assign (v := nn 0) rfl) <| nl <| O0 <| bl <| wp_unroll (n := 5) <| un_step (n := 4) <| sk fun _ H0 => sk fun _ I0 => rn <| mv b0 rfl <| gv (r_field (o' := 2) (eh b0 rfl) fo_56_2 (by rfl)) <| gv (la (v := .slice L 1 lc) (eh b0 rfl) v0.bk qr_54) <| gv (r_lenS (eh b0 rfl) rfl qu_54) <| gv (r_lss (eh b0 rfl) (eh b0 rfl)) <| nl <| I0 <| cd b0 rfl <| ws <| H0 <| sk fun _ J0 => bl <| sk fun _ K0 => ?_
 have e0 : Fr no m l0 m { l0 with drawn := l0.drawn + 1 } := Fr.drw n0.ag
 obtain ⟨p0, D0⟩ : ∃ w_, w_ = ({ l0 with drawn := l0.drawn + 1 } : World) := ⟨_, rfl⟩
 rw [← D0] at e0
 have l1 := e0.size
 refine wp_region_T mixed (fun wz => ∃ mz, Fr (no) m p0 mz wz) (fun wz => ∃ mz, Fr (no) m p0 mz wz) 38 ?_
 rw [← D0]
 show wpAnyT _ _ _ _ _ 38 _ _ _
 have h0 : Fr (no) m p0 m p0 := Fr.refl e0.ag
 refine tkk (i := 0) rfl rfl (fun _ _ => r_field (o' := 2) (eh b0 rfl) fo_56_2 (by rfl)) ⟨_, h0⟩ ?_
 have s0 := (v0.f0 e0)
 refine tkk (i := 1) rfl rfl (fun wz ⟨mz, hz⟩ => la (v := .slice L 1 lc) (eh b0 rfl) (hz.ex s0.bk (fun h => h)) qr_54) ⟨_, h0⟩ <| tkk (i := 2) rfl rfl (fun _ _ => r_move (eh b0 rfl)) ⟨_, h0⟩ ?_
 have U0 := ((hL.up n0).up e0)
 obtain ⟨q0, g0, a1, rfl, A0, C0⟩ := U0.elem (by omega)
 refine tkk (i := 3) rfl rfl (fun _ _ => r_idxS (o' := g0 + 0) (eh b0 rfl) (eh b0 rfl) qs_54 (by decide) (by omega)) ⟨_, h0⟩ <| tkk (i := 4) rfl rfl (fun _ _ => r_field (o' := g0 + 0) (eh b0 rfl) fo_85_0 (by rfl)) ⟨_, h0⟩ <| tkk (i := 5) rfl rfl (fun wz ⟨mz, hz⟩ => r_load1 (v := .string (⟨#[116, 111, 112]⟩ : ByteArray)) (eh b0 rfl) (hz.ag _ _ (hz.le _ _ A0)) (at_sub C0 (by kernel_rfl)) qr_9) ⟨_, h0⟩ <| ann (i := 6) (b := true) rfl rfl (k_cl (f167 e0.ag) rfl fn_167 (map_cons (eh b0 rfl) map_nil) (fun t1 y1 Q0 => ?_))
 obtain ⟨j1, rfl, i0⟩ := Q0
 have m1 := i0.size
 have d0 := h0.t0 i0
 refine ⟨(tbT ⟨_, d0⟩), ?_⟩
 refine tkk (i := 7) rfl rfl (fun _ _ => r_not (eh b0 rfl)) ⟨_, d0⟩ <| tkk (i := 8) rfl rfl (fun _ _ => r_move (eh b0 rfl)) ⟨_, d0⟩ <| tkk (i := 9) (hw := wg (t := 19) rfl b0 (eh b0 rfl)) rfl rfl (fun _ _ => r_field (o' := 2) (eh b0 rfl) fo_56_2 (by rfl)) ⟨_, d0⟩ <| tkk (i := 10) (hw := wg (t := 19) rfl b0 (eh b0 rfl)) rfl rfl (fun wz ⟨mz, hz⟩ => la (v := .slice (some ⟨q0, g0, none⟩) 1 lc) (eh b0 rfl) (hz.ex s0.bk (fun h => h)) qr_54) ⟨_, d0⟩ <| tkk (i := 11) (hw := wg (t := 19) rfl b0 (eh b0 rfl)) rfl rfl (fun _ _ => r_move (eh b0 rfl)) ⟨_, d0⟩ <| tkk (i := 12) (hw := wg (t := 19) rfl b0 (eh b0 rfl)) rfl rfl (fun _ _ => r_idxS (o' := g0 + 0) (eh b0 rfl) (eh b0 rfl) qs_54 (by decide) (by omega)) ⟨_, d0⟩ <| tkk (i := 13) (hw := wg (t := 19) rfl b0 (eh b0 rfl)) rfl rfl (fun _ _ => r_field (o' := g0 + 1) (eh b0 rfl) fo_85_1 (by rfl)) ⟨_, d0⟩ <| tkk (i := 14) (hw := wg (t := 19) rfl b0 (eh b0 rfl)) rfl rfl (fun wz ⟨mz, hz⟩ => r_load1 (v := nn v2) (eh b0 rfl) (hz.ag _ _ (hz.le _ _ A0)) (at_sub C0 (by kernel_rfl)) qr_3) ⟨_, d0⟩ <| ayy (i := 15) (b := true) rfl rfl (wg (t := 19) rfl b0 (eh b0 rfl)) (k_cl (f93 i0.ag (by omega) (by omega)) rfl fn_93 (map_cons (eh b0 rfl) map_nil) (fun u1 z1 R0 => ?_))
 obtain ⟨k1, rfl, j0⟩ := R0
 have n1 := j0.size
 have c0 := d0.t0 j0
 refine ⟨(tbT ⟨_, c0⟩), ?_⟩
 refine tkk (i := 16) (hw := wg (t := 19) rfl b0 (eh b0 rfl)) rfl rfl (fun _ _ => r_not (eh b0 rfl)) ⟨_, c0⟩ <| tkk (i := 17) rfl rfl (fun _ _ => r_pick_f (eh b0 rfl) (eh b0 rfl)) ⟨_, c0⟩ <| tkk (i := 18) rfl rfl (fun _ _ => r_move (eh b0 rfl)) ⟨_, c0⟩ <| tkk (i := 19) (hw := wg (t := 29) rfl b0 (eh b0 rfl)) rfl rfl (fun _ _ => r_move (eh b0 rfl)) ⟨_, c0⟩ <| tkk (i := 20) (hw := wg (t := 29) rfl b0 (eh b0 rfl)) rfl rfl (fun _ _ => r_gtr (j := 0) (eh b0 rfl) rfl) ⟨_, c0⟩ <| tkk (i := 21) (hw := wg (t := 29) rfl b0 (eh b0 rfl)) rfl rfl (fun _ _ => r_move (eh b0 rfl)) ⟨_, c0⟩ <| tnn (i := 22) (b := true) rfl rfl (fun _ h => h) (wn (t := 32) (c := false) rfl b0 (eb b0 rfl (by decide))) (tbT ⟨_, c0⟩) <| tnn (i := 23) (b := true) rfl rfl (fun _ h => h) (wn (t := 32) (c := false) rfl b0 (eb b0 rfl (by decide))) (tbT ⟨_, c0⟩) <| tnn (i := 24) (b := true) rfl rfl (fun _ h => h) (wn (t := 32) (c := false) rfl b0 (eb b0 rfl (by decide))) (tbT ⟨_, c0⟩) <| tnn (i := 25) (b := true) rfl rfl (fun _ h => h) (wn (t := 32) (c := false) rfl b0 (eb b0 rfl (by decide))) (tbT ⟨_, c0⟩) <| tnn (i := 26) (b := true) rfl rfl (fun _ h => h) (wn (t := 32) (c := false) rfl b0 (eb b0 rfl (by decide))) (tbT ⟨_, c0⟩) <| tnn (i := 27) (b := true) rfl rfl (fun _ h => h) (wn (t := 32) (c := false) rfl b0 (eb b0 rfl (by decide))) (tbT ⟨_, c0⟩) <| tnn (i := 28) (b := true) rfl rfl (fun _ h => h) (wn (t := 32) (c := false) rfl b0 (eb b0 rfl (by decide))) (tbT ⟨_, c0⟩) <| tnn (i := 29) (b := true) rfl rfl (fun _ h => h) (wn (t := 32) (c := false) rfl b0 (eb b0 rfl (by decide))) (tbT ⟨_, c0⟩) ?_
 refine tnn (i := 30) (b := true) rfl rfl (fun _ h => h) (wn (t := 32) (c := false) rfl b0 (eb b0 rfl (by decide))) (tbT ⟨_, c0⟩) <| tnn (i := 31) (b := true) rfl rfl (fun _ h => h) (wn (t := 32) (c := false) rfl b0 (eb b0 rfl (by decide))) (tbT ⟨_, c0⟩) <| tnn (i := 32) (b := true) rfl rfl (fun _ h => h) (wn (t := 32) (c := false) rfl b0 (eb b0 rfl (by decide))) (tbT ⟨_, c0⟩) <| tnn (i := 33) (b := true) rfl rfl (fun _ h => h) (wn (t := 32) (c := false) rfl b0 (eb b0 rfl (by decide))) (tbT ⟨_, c0⟩) <| tnn (i := 34) (b := true) rfl rfl (fun _ h => h) (wn (t := 32) (c := false) rfl b0 (eb b0 rfl (by decide))) (tbT ⟨_, c0⟩) <| tnn (i := 35) (b := true) rfl rfl (fun _ h => h) (wn (t := 32) (c := false) rfl b0 (eb b0 rfl (by decide))) (tbT ⟨_, c0⟩) <| tkk (i := 36) (hw := wg (t := 29) rfl b0 (eh b0 rfl)) rfl rfl (fun _ _ => r_pick_f (v := .bool false) (eb b0 rfl (by decide)) rfl) ⟨_, c0⟩ <| tkk (i := 37) rfl rfl (fun _ _ => r_pick_f (eh b0 rfl) (eh b0 rfl)) ⟨_, c0⟩ <| anyT_done (by kernel_rfl) ?_ _
 refine K0 <| cf (eh b0 rfl) <| ws <| J0 <| rn <| mv b0 rfl <| gv (r_add (j := 1) (eh b0 rfl) rfl (by decide)) <| ms b0 rfl <| nl <| un_next <| un_step (n := 3) <| sk fun _ c1 => sk fun _ L0 => rn <| mv b0 rfl <| gv (r_field (o' := 2) (eh b0 rfl) fo_56_2 (by rfl)) ?_
 have E0 := i0.t0 j0
 have u0 := (s0.f0 E0)
 refine gv (la (v := .slice (some ⟨q0, g0, none⟩) 1 lc) (eh b0 rfl) u0.bk qr_54) <| gv (r_lenS (eh b0 rfl) rfl qu_54) <| gv (r_lss (eh b0 rfl) (eh b0 rfl)) <| nl <| L0 <| ce b0 rfl <| we <| N0 <| sk fun _ M0 => rn <| gv (r_field (o' := 0) (eh b0 rfl) fo_56_0 (by rfl)) <| gv (la (v := nn v1) (eh b0 rfl) u0.bk qr_3) <| gk (k_cl (f93 j0.ag (by omega) (by omega)) rfl fn_93 (map_cons (eh b0 rfl) map_nil) (fun w1 A1 S0 => ?_))
 obtain ⟨W0, rfl, m0⟩ := S0
 have o1 := m0.size
 refine mv b0 rfl <| sg (t := 52) rfl rfl b0 (eh b0 rfl) (kv (r_field (o' := 1) (eh b0 rfl) fo_56_1 (by rfl)) ?_)
 have y0 := (u0.f0 m0)
 refine sg (t := 52) rfl rfl b0 (eh b0 rfl) (kv (la (v := nn e1) (eh b0 rfl) y0.bk qr_3) ?_)
 refine sg (t := 52) rfl rfl b0 (eh b0 rfl) (k_lit (e := 3) (L := [nn e1]) m0.ag (pm_cons (eh b0 rfl) pm_nil) (by kernel_rfl) (fun B1 x0 z0 o0 d1 => ?_))
 have p1 := o0.size
 have i1 := z0.lt
 obtain ⟨k0, B0⟩ := z0.fz o0.ag
 generalize cput W0 x0 _ = X0 at k0 B0
 have q1 := k0.size
 have V0 : Sl X0 (some ⟨x0, 0, none⟩) 1 1 1 ([nn e1]) := Sl.of (k := 1) B0 (by kernel_rfl) (by kernel_rfl) (by decide) (by decide)
 refine sg (t := 52) rfl rfl b0 (eh b0 rfl) (k_cl (f94 k0.ag V0 (by omega)) rfl fn_94 (map_cons (eh b0 rfl) map_nil) (fun x1 C1 T0 => ?_))
 obtain ⟨Y0, rfl, r0⟩ := T0
 have r1 := r0.size
 refine gv (r_pick_t (eh b0 rfl) (eh b0 rfl)) <| mv b0 rfl <| sg (t := 58) rfl rfl b0 (eh b0 rfl) (kv (r_field (o' := 2) (eh b0 rfl) fo_56_2 (by rfl)) ?_)
 have P0 := (((y0.f0 o0).f1 k0 (by omega)).f0 r0)
 refine sg (t := 58) rfl rfl b0 (eh b0 rfl) (kv (la (v := .slice (some ⟨q0, g0, none⟩) 1 lc) (eh b0 rfl) P0.bk qr_54) ?_)
 refine sg (t := 58) rfl rfl b0 (eh b0 rfl) (kv (r_lenS (eh b0 rfl) rfl qu_54) ?_)
 refine sg (t := 58) rfl rfl b0 (eh b0 rfl) (kv (r_leq (j := 16) (eh b0 rfl) rfl) ?_)
 refine gv (r_pick_t (eh b0 rfl) (eh b0 rfl)) <| ms b0 rfl <| nl <| M0 <| wp_ret <| ret_of (res1 rfl _ _ (gh b0 rfl)) ((ov_defers _ _).trans F0) ?_
 exact ⟨Y0, rfl, ((((((((cu0.t0 n0).t0 e0).t0 i0).t0 j0).t0 m0).t0 o0).tn k0 (by omega)).t0 r0)⟩

theorem f151 {m : Ctx} {w : World} (ag : Ag m w) {v1 e1 : Nat} (hv : v1 < 128) (he : e1 < 128) (hv1 : 1 ≤ v1) : Calls Tryz.prog 151 #[.agg ([.string (⟨#[116, 111, 112]⟩ : ByteArray), nn v1, nn e1, .slice none 0 0, .slice none 0 0]).toArray] w (Ret fun v w' => ∃ m', v = .bool true ∧ Fr no m w m' w') := by
 refine enter Tryz.func151 rfl (fun k0 hT r0 => ?_)
 have b0 : k0.tmps.size = 125 := by rw [hT]; kernel_rfl
 have I0 : k0.tmps.getD 0 undef = .agg ([.string (⟨#[116, 111, 112]⟩ : ByteArray), nn v1, nn e1, .slice none 0 0, .slice none 0 0]).toArray := by rw [hT]; kernel_rfl
 clear hT
 have cu0 : Fr (no) m w m w := Fr.refl ag
 refine sk fun _ s0 => rn <| gk (k_box (L := [.string (⟨#[116, 111, 112]⟩ : ByteArray), nn v1, nn e1, .slice none 0 0, .slice none 0 0]) ag (em b0 rfl rfl I0) (by kernel_rfl) (fun b1 J0 d0 j0 N0 => ?_))
 have W0 := j0.size
 have O0 := d0.lt
 refine gv (r_assign (v := .bool false) rfl) <| nl <| s0 <| sk fun _ z0 => sk fun _ A0 => rn <| gv (r_assign (v := nn 0) rfl) <| nl <| A0 <| bl <| wp_unroll (n := 5) <| un_step (n := 4) <| sk fun _ K0 => sk fun _ u0 => rn <| mv b0 rfl <| gv (r_field (o' := 3) (eh b0 rfl) fo_82_3 (by rfl)) <| gv (la (v := .slice none 0 0) (eh b0 rfl) d0.bk qr_36) <| gv (r_lenS (eh b0 rfl) rfl qu_36) <| gv (r_lss (eh b0 rfl) (eh b0 rfl)) <| mv b0 rfl <| sf (t := 12) (c := false) rfl rfl b0 (eb b0 rfl (by decide)) <| sf (t := 12) (c := false) rfl rfl b0 (eb b0 rfl (by decide)) <| sf (t := 12) (c := false) rfl rfl b0 (eb b0 rfl (by decide)) <| sf (t := 12) (c := false) rfl rfl b0 (eb b0 rfl (by decide)) <| gv (r_pick_f (v := .bool false) (eb b0 rfl (by decide)) rfl) <| nl <| u0 <| cf (eh b0 rfl) <| we <| z0 <| sk fun _ v0 => sk fun _ w0 => rn <| gv (r_assign (v := nn 0) rfl) <| nl <| w0 <| bl <| wp_unroll (n := 5) <| un_step (n := 4) <| sk fun _ L0 => sk fun _ x0 => rn <| mv b0 rfl <| gv (r_field (o' := 4) (eh b0 rfl) fo_82_4 (by rfl)) <| gv (la (v := .slice none 0 0) (eh b0 rfl) d0.bk qr_80) <| gv (r_lenS (eh b0 rfl) rfl qu_80) <| gv (r_lss (eh b0 rfl) (eh b0 rfl)) <| mv b0 rfl <| sf (t := 51) (c := false) rfl rfl b0 (eb b0 rfl (by decide)) <| sf (t := 51) (c := false) rfl rfl b0 (eb b0 rfl (by decide)) <| sf (t := 51) (c := false) rfl rfl b0 (eb b0 rfl (by decide)) <| sf (t := 51) (c := false) rfl rfl b0 (eb b0 rfl (by decide)) <| gv (r_pick_f (v := .bool false) (eb b0 rfl (by decide)) rfl) <| nl ?_
 refine x0 <| cf (eh b0 rfl) <| we <| v0 <| sk fun _ y0 => rn <| gv (r_field (o' := 0) (eh b0 rfl) fo_82_0 (by rfl)) <| gv (la (v := .string (⟨#[116, 111, 112]⟩ : ByteArray)) (eh b0 rfl) d0.bk qr_9) <| gk (k_cl (f167 j0.ag) rfl fn_167 (map_cons (eh b0 rfl) map_nil) (fun X0 a1 B0 => ?_))
 obtain ⟨Q0, rfl, e0⟩ := B0
 have R0 := e0.size
 refine mv b0 rfl <| sg (t := 102) rfl rfl b0 (eh b0 rfl) (kv (r_field (o' := 1) (eh b0 rfl) fo_82_1 (by rfl)) ?_)
 have m0 := (d0.f0 e0)
 refine sg (t := 102) rfl rfl b0 (eh b0 rfl) (kv (la (v := nn v1) (eh b0 rfl) m0.bk qr_3) ?_)
 refine sg (t := 102) rfl rfl b0 (eh b0 rfl) (k_cl (f93 e0.ag (by omega) (by omega)) rfl fn_93 (map_cons (eh b0 rfl) map_nil) (fun Y0 c1 C0 => ?_))
 obtain ⟨F0, rfl, g0⟩ := C0
 have S0 := g0.size
 refine gv (r_pick_t (eh b0 rfl) (eh b0 rfl)) <| mv b0 rfl <| sg (t := 107) rfl rfl b0 (eh b0 rfl) (kv (r_field (o' := 2) (eh b0 rfl) fo_82_2 (by rfl)) ?_)
 have n0 := (m0.f0 g0)
 refine sg (t := 107) rfl rfl b0 (eh b0 rfl) (kv (la (v := nn e1) (eh b0 rfl) n0.bk qr_3) ?_)
 refine sg (t := 107) rfl rfl b0 (eh b0 rfl) (k_lit (e := 3) (L := [nn e1]) g0.ag (pm_cons (eh b0 rfl) pm_nil) (by kernel_rfl) (fun d1 l0 p0 h0 M0 => ?_))
 have T0 := h0.size
 have P0 := p0.lt
 obtain ⟨c0, q0⟩ := p0.fz h0.ag
 generalize cput F0 l0 _ = G0 at c0 q0
 have U0 := c0.size
 have E0 : Sl G0 (some ⟨l0, 0, none⟩) 1 1 1 ([nn e1]) := Sl.of (k := 1) q0 (by kernel_rfl) (by kernel_rfl) (by decide) (by decide)
 refine sg (t := 107) rfl rfl b0 (eh b0 rfl) (k_cl (f94 c0.ag E0 (by omega)) rfl fn_94 (map_cons (eh b0 rfl) map_nil) (fun Z0 g1 D0 => ?_))
 obtain ⟨H0, rfl, i0⟩ := D0
 have V0 := i0.size
 refine gv (r_pick_t (eh b0 rfl) (eh b0 rfl)) <| mv b0 rfl <| sg (t := 113) rfl rfl b0 (eh b0 rfl) (kv (r_field (o' := 3) (eh b0 rfl) fo_82_3 (by rfl)) ?_)
 have o0 := (((n0.f0 h0).f1 c0 (by omega)).f0 i0)
 refine sg (t := 113) rfl rfl b0 (eh b0 rfl) (kv (la (v := .slice none 0 0) (eh b0 rfl) o0.bk qr_36) ?_)
 refine sg (t := 113) rfl rfl b0 (eh b0 rfl) (kv (r_lenS (eh b0 rfl) rfl qu_36) ?_)
 refine sg (t := 113) rfl rfl b0 (eh b0 rfl) (kv (r_leq (j := 16) (eh b0 rfl) rfl) ?_)
 refine gv (r_pick_t (eh b0 rfl) (eh b0 rfl)) <| mv b0 rfl <| sg (t := 119) rfl rfl b0 (eb b0 rfl (by decide)) (kv (r_field (o' := 4) (eh b0 rfl) fo_82_4 (by rfl)) ?_)
 refine sg (t := 119) rfl rfl b0 (eb b0 rfl (by decide)) (kv (la (v := .slice none 0 0) (eh b0 rfl) o0.bk qr_80) ?_)
 refine sg (t := 119) rfl rfl b0 (eb b0 rfl (by decide)) (kv (r_lenS (eh b0 rfl) rfl qu_80) ?_)
 refine sg (t := 119) rfl rfl b0 (eb b0 rfl (by decide)) (kv (r_leq (j := 16) (eh b0 rfl) rfl) ?_)
 refine gv (r_pick_t (eb b0 rfl (by decide)) (eh b0 rfl)) <| ms b0 rfl <| nl <| y0 <| wp_ret <| ret_of (res1 rfl _ _ (gh b0 rfl)) ((ov_defers _ _).trans r0) ?_
 exact ⟨H0, rfl, ((((((cu0.t0 j0).t0 e0).t0 g0).t0 h0).tn c0 (by omega)).t0 i0)⟩

theorem f168 {m : Ctx} {w : World} (ag : Ag m w) {k kc : Nat} {P : Option Addr} {q : Bytes} (hP : Sl m P k kc 1 (bv q)) (hk : q.length = k) (hk1 : 1 ≤ k) (hk2 : k < 128) : Calls Tryz.prog 168 #[.slice P k kc] w (Ret fun x w' => ∃ m' A' c', x = .slice A' (1 + k) c' ∧ Fr no m w m' w' ∧ Own m' w' w.heap.size A' (1 + k) c' 5 1 (bv (([UInt8.ofNat k]) ++ q))) := by
 refine enter Tryz.func168 rfl (fun e0 hT m0 => ?_)
 have b0 : e0.tmps.size = 8 := by rw [hT]; kernel_rfl
 have j0 : e0.tmps.getD 0 undef = .slice P k kc := by rw [hT]; kernel_rfl
 clear hT
 have cu0 : Fr (no) m w m w := Fr.refl ag
 refine sk fun _ n0 => rn <| gv (r_assign (v := .slice none 0 0) rfl) <| nl <| n0 <| sk fun _ o0 => rn <| mw b0 j0 <| gv (r_lenS (eh b0 rfl) rfl qu_38) <| gk (k_cl (f95_s ag (by omega) (by omega)) rfl fn_95 (map_cons (eh b0 rfl) map_nil) (fun z0 B0 p0 => ?_))
 obtain ⟨q0, r0, s0, rfl, c0, h0⟩ := p0
 have x0 := c0.size
 have w0 := h0.nilc
 refine mw b0 j0 ?_
 have i0 := (hP.up c0)
 have u0 : (([UInt8.ofNat k]) ++ q : List UInt8).length = 1 + k := (len_app rfl hk)
 refine gk (k_append (base := w.heap.size) (L := bv ([UInt8.ofNat k])) (N := bv q) c0.ag (eh b0 rfl) (eh b0 rfl) qs_38 qz_5 h0 (i0.src c0.ag) (i0.nilc) (by rw [bv_length, hk, Nat.mul_one]) (one_bv _) (by omega) (by decide) (by rw [maxLen_eq]; omega) (by omega) (fun k0 l0 A0 d0 g0 => ?_))
 have y0 := g0.size
 rw [← bv_append] at d0
 have v0 := d0.nilc
 refine ms b0 rfl <| nl <| o0 <| wp_ret <| ret_of (res1 rfl _ _ (gh b0 rfl)) ((ov_defers _ _).trans m0) ?_
 exact ⟨q0, k0, l0, rfl, ((cu0.t0 c0).tg g0 (by omega)), (d0).wk (by omega)⟩

theorem f150 {m : Ctx} {w : World} (ag : Ag m w) : Calls Tryz.prog 150 #[.string (⟨#[116, 111, 112]⟩ : ByteArray)] w (Ret fun x w' => ∃ m' A' c', x = .slice A' (1 + 3) c' ∧ Fr no m w m' w' ∧ Own m' w' w.heap.size A' (1 + 3) c' 5 1 (bv (([UInt8.ofNat 3]) ++ ([116, 111, 112])))) := by
 refine enter Tryz.func150 rfl (fun e0 hT l0 => ?_)
 have b0 : e0.tmps.size = 6 := by rw [hT]; kernel_rfl
 have u0 : e0.tmps.getD 0 undef = .string (⟨#[116, 111, 112]⟩ : ByteArray) := by rw [hT]; kernel_rfl
 clear hT
 have cu0 : Fr (no) m w m w := Fr.refl ag
 refine sk fun _ m0 => rn <| gv (r_assign (v := .slice none 0 0) rfl) <| nl <| m0 <| sk fun _ n0 => rn <| mw b0 u0 <| gk (k_s2b (s := ⟨#[116, 111, 112]⟩) ag (eh b0 rfl) qu_9 qu_38 qu_5 (by decide) (fun s0 B0 i0 k0 q0 c0 => ?_))
 have y0 := c0.size
 have p0 : Sl s0 i0 3 k0 1 (bv [116, 111, 112]) := q0
 refine gk (k_cl (f168 c0.ag p0 rfl (by omega) (by omega)) rfl fn_168 (map_cons (eh b0 rfl) map_nil) (fun z0 A0 o0 => ?_))
 obtain ⟨r0, h0, j0, rfl, g0, d0⟩ := o0
 have x0 := g0.size
 have v0 : (([UInt8.ofNat 3]) ++ ([116, 111, 112]) : List UInt8).length = 1 + 3 := (Own.blen d0)
 have w0 := d0.nilc
 refine ms b0 rfl <| nl <| n0 <| wp_ret <| ret_of (res1 rfl _ _ (gh b0 rfl)) ((ov_defers _ _).trans l0) ?_
 exact ⟨r0, h0, j0, rfl, ((cu0.t0 c0).t0 g0), (d0).wk (by omega)⟩

theorem f17 {m : Ctx} {w : World} (ag : Ag m w) {q0 q1 q2 q3 : Bytes} {L0 L1 L2 L3 : Option Addr} {l0 l1 l2 l3 v1 : Nat} (hL0 : Sl m L0 1 l0 32 (hc q0)) (hL1 : Sl m L1 1 l1 32 (hc q1)) (hL2 : Sl m L2 1 l2 32 (hc q2)) (hL3 : Sl m L3 1 l3 32 (hc q3)) (hv : v1 < 128) (hv1 : 1 ≤ v1) : Calls Tryz.prog 17 #[.agg ([nn v1, nn 1073741824, .slice L0 1 l0, nn 1, .slice L1 1 l1, nn 1, .slice L2 1 l2, nn 1, .slice L3 1 l3, nn 1]).toArray] w (Ret fun x w' => ∃ m' A' c', x = .tuple #[.slice A' (143) c', nn 0] ∧ Fr no m w m' w' ∧ Own m' w' w.heap.size A' (143) c' 5 1 (bv ((((((([UInt8.ofNat 1]) ++ ([UInt8.ofNat v1])) ++ ((((([0 ||| 128]) ++ ([0 ||| 128])) ++ ([0 ||| 128])) ++ ([0 ||| 128])) ++ ([4]))) ++ ((([UInt8.ofNat 1]) ++ (n32 q0)) ++ ([UInt8.ofNat 1]))) ++ ((([UInt8.ofNat 1]) ++ (n32 q1)) ++ ([UInt8.ofNat 1]))) ++ ((([UInt8.ofNat 1]) ++ (n32 q2)) ++ ([UInt8.ofNat 1]))) ++ ((([UInt8.ofNat 1]) ++ (n32 q3)) ++ ([UInt8.ofNat 1]))))) := by
 refine enter Tryz.func17 rfl (fun F0 hT b1 => ?_)
 have b0 : F0.tmps.size = 27 := by rw [hT]; kernel_rfl
 have Z1 : F0.tmps.getD 0 undef = .agg ([nn v1, nn 1073741824, .slice L0 1 l0, nn 1, .slice L1 1 l1, nn 1, .slice L2 1 l2, nn 1, .slice L3 1 l3, nn 1]).toArray := by rw [hT]; kernel_rfl
 clear hT
 have cu0 : Fr (no) m w m w := Fr.refl ag
 refine sk fun _ c1 => rn <| gk (k_box (L := [nn v1, nn 1073741824, .slice L0 1 l0, nn 1, .slice L1 1 l1, nn 1, .slice L2 1 l2, nn 1, .slice L3 1 l3, nn 1]) ag (em b0 rfl rfl Z1) (by kernel_rfl) (fun o3 x0 A0 c0 x2 => ?_))
 have Y2 := c0.size
 have z2 := A0.lt
 refine gv (r_assign (v := .slice none 0 0) rfl) <| gv (r_assign (v := nn 0) rfl) <| nl <| c1 <| sk fun _ u1 => sk fun _ w1 => rn <| gv (lb (cs := [nn v1, nn 1073741824, .slice L0 1 l0, nn 1, .slice L1 1 l1, nn 1, .slice L2 1 l2, nn 1, .slice L3 1 l3, nn 1]) (eh b0 rfl) A0.bk qr_35 sz_35) ?_
 have S0 := (hL0.up c0)
 have T0 := (hL1.up c0)
 have U0 := (hL2.up c0)
 have V0 := (hL3.up c0)
 refine gk (k_cl (f43 c0.ag S0 T0 U0 V0 (by omega) (by omega)) rfl fn_43 (map_cons (eh b0 rfl) map_nil) (fun c3 j3 F1 => ?_))
 obtain ⟨X1, rfl, k0⟩ := F1
 have S2 := k0.size
 refine gv (r_not (eh b0 rfl)) <| nl <| w1 <| cf (eh b0 rfl) <| ws <| u1 <| sk fun _ j1 => rn <| gv (r_field (o' := 0) (eh b0 rfl) fo_35_0 (by rfl)) ?_
 have y0 := (A0.f0 k0)
 refine gv (la (v := nn v1) (eh b0 rfl) y0.bk qr_3) <| gv (r_field (o' := 1) (eh b0 rfl) fo_35_1 (by rfl)) <| gv (la (v := nn 1073741824) (eh b0 rfl) y0.bk qr_3) <| gk (k_lit (e := 3) (L := [nn 1, nn v1, nn 1073741824]) k0.ag (pm_cons (v := nn 1) rfl (pm_cons (eh b0 rfl) (pm_cons (eh b0 rfl) pm_nil))) (by kernel_rfl) (fun d0 G0 Q0 m0 v2 => ?_))
 have T2 := m0.size
 have y2 := Q0.lt
 obtain ⟨g0, R0⟩ := Q0.fz m0.ag
 generalize cput X1 G0 _ = Y1 at g0 R0
 have U2 := g0.size
 have Q1 : Sl Y1 (some ⟨G0, 0, none⟩) 3 3 1 ([nn 1, nn v1, nn 1073741824]) := Sl.of (k := 3) R0 (by kernel_rfl) (by kernel_rfl) (by decide) (by decide)
 refine gk (k_cl (f44_ssb g0.ag Q1 (by omega) (by omega) (by omega) (by omega)) rfl fn_44 (map_cons (eh b0 rfl) map_nil) (fun e3 p3 H1 => ?_))
 obtain ⟨B2, d2, n2, rfl, n0, z0⟩ := H1
 have V2 := n0.size
 have C1 : ((([UInt8.ofNat 1]) ++ ([UInt8.ofNat v1])) ++ ((((([0 ||| 128]) ++ ([0 ||| 128])) ++ ([0 ||| 128])) ++ ([0 ||| 128])) ++ ([4])) : List UInt8).length = 7 := (Own.blen z0)
 have I2 := z0.nilc
 refine ms b0 rfl <| nl <| j1 <| sk fun _ k1 => sk fun _ m1 => rn <| gv (r_assign (v := nn 0) rfl) <| nl <| m1 <| bl <| wp_unroll (n := 5) <| un_step (n := 4) <| sk fun _ n1 => sk fun _ o1 => rn <| mv b0 rfl <| gv (r_lss (j := 4) (eh b0 rfl) rfl) <| nl <| o1 <| cd b0 rfl <| ws <| n1 <| sk fun _ p1 => bl <| rn <| mv b0 rfl <| mv b0 rfl <| gv (r_field (o' := 2) (eh b0 rfl) fo_35_2 (by rfl)) <| gv (r_idxA (o' := 2) (eh b0 rfl) (eh b0 rfl) qa_33 (by decide) (by rfl)) ?_
 have I0 := (((y0.f0 m0).f1 g0 (by omega)).f0 n0)
 refine gv (lb (cs := [.slice L0 1 l0, nn 1]) (eh b0 rfl) I0.bk qr_32 sz_32) ?_
 have X0 := Fr.ll (Fr.ll (Fr.l2 k0 m0) g0) n0
 have R1 := S0.le X0
 refine gk (k_cl (f45 n0.ag R1) rfl fn_45 (map_cons (eh b0 rfl) map_nil) (fun g3 r3 I1 => ?_))
 obtain ⟨C2, e2, o2, rfl, h0, v0⟩ := I1
 have W2 := h0.size
 have O0 : ((([UInt8.ofNat 1]) ++ (n32 q0)) ++ ([UInt8.ofNat 1]) : List UInt8).length = 34 := (Own.blen v0)
 have J2 := v0.nilc
 have S1 := (z0.f0 h0)
 have D1 : (((([UInt8.ofNat 1]) ++ ([UInt8.ofNat v1])) ++ ((((([0 ||| 128]) ++ ([0 ||| 128])) ++ ([0 ||| 128])) ++ ([0 ||| 128])) ++ ([4]))) ++ ((([UInt8.ofNat 1]) ++ (n32 q0)) ++ ([UInt8.ofNat 1])) : List UInt8).length = 7 + 34 := (len_app C1 O0)
 refine gk (k_append (base := d0.heap.size) (L := bv ((([UInt8.ofNat 1]) ++ ([UInt8.ofNat v1])) ++ ((((([0 ||| 128]) ++ ([0 ||| 128])) ++ ([0 ||| 128])) ++ ([0 ||| 128])) ++ ([4])))) (N := bv ((([UInt8.ofNat 1]) ++ (n32 q0)) ++ ([UInt8.ofNat 1]))) h0.ag (eh b0 rfl) (eh b0 rfl) qs_38 qz_5 S1 v0.src (v0.nilc) (by rw [bv_length, O0, Nat.mul_one]) (one_bv _) (by omega) (by decide) (by rw [maxLen_eq]; omega) (by omega) (fun g2 p2 s3 D0 o0 => ?_))
 have X2 := o0.size
 rw [← bv_append] at D0
 have K2 := D0.nilc
 refine ms b0 rfl <| nl <| p1 <| rn <| mv b0 rfl <| gv (r_add (j := 1) (eh b0 rfl) rfl (by decide)) <| ms b0 rfl <| nl <| un_next <| un_step (n := 3) <| sk fun _ r1 => sk fun _ s1 => rn <| mv b0 rfl <| gv (r_lss (j := 4) (eh b0 rfl) rfl) <| nl <| s1 <| cd b0 rfl <| ws <| r1 <| sk fun _ t1 => bl <| rn <| mv b0 rfl <| mv b0 rfl <| gv (r_field (o' := 2) (eh b0 rfl) fo_35_2 (by rfl)) <| gv (r_idxA (o' := 4) (eh b0 rfl) (eh b0 rfl) qa_33 (by decide) (by rfl)) ?_
 have J0 := ((I0.f0 h0).fs o0 (show ¬ d0.heap.size ≤ x0 from by omega))
 refine gv (lb (cs := [.slice L1 1 l1, nn 1]) (eh b0 rfl) J0.bk qr_32 sz_32) ?_
 have Y0 := Fr.ll (Fr.ll X0 h0) o0
 have T1 := T0.le Y0
 refine gk (k_cl (f45 o0.ag T1) rfl fn_45 (map_cons (eh b0 rfl) map_nil) (fun h3 t3 J1 => ?_))
 obtain ⟨D2, h2, r2, rfl, i0, w0⟩ := J1
 have Z2 := i0.size
 have P0 : ((([UInt8.ofNat 1]) ++ (n32 q1)) ++ ([UInt8.ofNat 1]) : List UInt8).length = 34 := (Own.blen w0)
 have M2 := w0.nilc
 have U1 := (D0.f0 i0)
 have E1 : ((((([UInt8.ofNat 1]) ++ ([UInt8.ofNat v1])) ++ ((((([0 ||| 128]) ++ ([0 ||| 128])) ++ ([0 ||| 128])) ++ ([0 ||| 128])) ++ ([4]))) ++ ((([UInt8.ofNat 1]) ++ (n32 q0)) ++ ([UInt8.ofNat 1]))) ++ ((([UInt8.ofNat 1]) ++ (n32 q1)) ++ ([UInt8.ofNat 1])) : List UInt8).length = 7 + 34 + 34 := (len_app D1 P0)
 refine gk (k_append (base := d0.heap.size) (L := bv (((([UInt8.ofNat 1]) ++ ([UInt8.ofNat v1])) ++ ((((([0 ||| 128]) ++ ([0 ||| 128])) ++ ([0 ||| 128])) ++ ([0 ||| 128])) ++ ([4]))) ++ ((([UInt8.ofNat 1]) ++ (n32 q0)) ++ ([UInt8.ofNat 1])))) (N := bv ((([UInt8.ofNat 1]) ++ (n32 q1)) ++ ([UInt8.ofNat 1]))) i0.ag (eh b0 rfl) (eh b0 rfl) qs_38 qz_5 U1 w0.src (w0.nilc) (by rw [bv_length, P0, Nat.mul_one]) (one_bv _) (by omega) (by decide) (by rw [maxLen_eq]; omega) (by omega) (fun i2 s2 u3 E0 p0 => ?_))
 have a3 := p0.size
 rw [← bv_append] at E0
 have N2 := E0.nilc
 refine ms b0 rfl <| nl <| t1 <| rn <| mv b0 rfl <| gv (r_add (j := 1) (eh b0 rfl) rfl (by decide)) <| ms b0 rfl <| nl <| un_next <| un_step (n := 2) <| sk fun _ x1 => sk fun _ y1 => rn <| mv b0 rfl <| gv (r_lss (j := 4) (eh b0 rfl) rfl) <| nl <| y1 <| cd b0 rfl <| ws <| x1 <| sk fun _ z1 => bl <| rn <| mv b0 rfl <| mv b0 rfl <| gv (r_field (o' := 2) (eh b0 rfl) fo_35_2 (by rfl)) <| gv (r_idxA (o' := 6) (eh b0 rfl) (eh b0 rfl) qa_33 (by decide) (by rfl)) ?_
 have K0 := ((J0.f0 i0).fs p0 (show ¬ d0.heap.size ≤ x0 from by omega))
 refine gv (lb (cs := [.slice L2 1 l2, nn 1]) (eh b0 rfl) K0.bk qr_32 sz_32) ?_
 have W0 := Fr.ll (Fr.ll Y0 i0) p0
 have M1 := U0.le W0
 refine gk (k_cl (f45 p0.ag M1) rfl fn_45 (map_cons (eh b0 rfl) map_nil) (fun i3 v3 K1 => ?_))
 obtain ⟨A2, a2, j2, rfl, e0, s0⟩ := K1
 have O2 := e0.size
 have M0 : ((([UInt8.ofNat 1]) ++ (n32 q2)) ++ ([UInt8.ofNat 1]) : List UInt8).length = 34 := (Own.blen s0)
 have E2 := s0.nilc
 have N1 := (E0.f0 e0)
 have B1 : (((((([UInt8.ofNat 1]) ++ ([UInt8.ofNat v1])) ++ ((((([0 ||| 128]) ++ ([0 ||| 128])) ++ ([0 ||| 128])) ++ ([0 ||| 128])) ++ ([4]))) ++ ((([UInt8.ofNat 1]) ++ (n32 q0)) ++ ([UInt8.ofNat 1]))) ++ ((([UInt8.ofNat 1]) ++ (n32 q1)) ++ ([UInt8.ofNat 1]))) ++ ((([UInt8.ofNat 1]) ++ (n32 q2)) ++ ([UInt8.ofNat 1])) : List UInt8).length = 7 + 34 + 34 + 34 := (len_app E1 M0)
 refine gk (k_append (base := d0.heap.size) (L := bv ((((([UInt8.ofNat 1]) ++ ([UInt8.ofNat v1])) ++ ((((([0 ||| 128]) ++ ([0 ||| 128])) ++ ([0 ||| 128])) ++ ([0 ||| 128])) ++ ([4]))) ++ ((([UInt8.ofNat 1]) ++ (n32 q0)) ++ ([UInt8.ofNat 1]))) ++ ((([UInt8.ofNat 1]) ++ (n32 q1)) ++ ([UInt8.ofNat 1])))) (N := bv ((([UInt8.ofNat 1]) ++ (n32 q2)) ++ ([UInt8.ofNat 1]))) e0.ag (eh b0 rfl) (eh b0 rfl) qs_38 qz_5 N1 s0.src (s0.nilc) (by rw [bv_length, M0, Nat.mul_one]) (one_bv _) (by omega) (by decide) (by rw [maxLen_eq]; omega) (by omega) (fun b2 k2 k3 B0 j0 => ?_))
 have P2 := j0.size
 rw [← bv_append] at B0
 have F2 := B0.nilc
 refine ms b0 rfl <| nl <| z1 <| rn <| mv b0 rfl <| gv (r_add (j := 1) (eh b0 rfl) rfl (by decide)) <| ms b0 rfl <| nl <| un_next <| un_step (n := 1) <| sk fun _ d1 => sk fun _ e1 => rn <| mv b0 rfl <| gv (r_lss (j := 4) (eh b0 rfl) rfl) <| nl <| e1 <| cd b0 rfl <| ws <| d1 <| sk fun _ g1 => bl <| rn <| mv b0 rfl <| mv b0 rfl <| gv (r_field (o' := 2) (eh b0 rfl) fo_35_2 (by rfl)) <| gv (r_idxA (o' := 8) (eh b0 rfl) (eh b0 rfl) qa_33 (by decide) (by rfl)) ?_
 have A1 := ((K0.f0 e0).fs j0 (show ¬ d0.heap.size ≤ x0 from by omega))
 refine gv (lb (cs := [.slice L3 1 l3, nn 1]) (eh b0 rfl) A1.bk qr_32 sz_32) ?_
 have V1 := Fr.ll (Fr.ll W0 e0) j0
 have O1 := V0.le V1
 refine gk (k_cl (f45 j0.ag O1) rfl fn_45 (map_cons (eh b0 rfl) map_nil) (fun d3 m3 G1 => ?_))
 obtain ⟨W1, c2, m2, rfl, r0, u0⟩ := G1
 have Q2 := r0.size
 have N0 : ((([UInt8.ofNat 1]) ++ (n32 q3)) ++ ([UInt8.ofNat 1]) : List UInt8).length = 34 := (Own.blen u0)
 have G2 := u0.nilc
 have P1 := (B0.f0 r0)
 have u2 : ((((((([UInt8.ofNat 1]) ++ ([UInt8.ofNat v1])) ++ ((((([0 ||| 128]) ++ ([0 ||| 128])) ++ ([0 ||| 128])) ++ ([0 ||| 128])) ++ ([4]))) ++ ((([UInt8.ofNat 1]) ++ (n32 q0)) ++ ([UInt8.ofNat 1]))) ++ ((([UInt8.ofNat 1]) ++ (n32 q1)) ++ ([UInt8.ofNat 1]))) ++ ((([UInt8.ofNat 1]) ++ (n32 q2)) ++ ([UInt8.ofNat 1]))) ++ ((([UInt8.ofNat 1]) ++ (n32 q3)) ++ ([UInt8.ofNat 1])) : List UInt8).length = 7 + 34 + 34 + 34 + 34 := (len_app B1 N0)
 refine gk (k_append (base := d0.heap.size) (L := bv (((((([UInt8.ofNat 1]) ++ ([UInt8.ofNat v1])) ++ ((((([0 ||| 128]) ++ ([0 ||| 128])) ++ ([0 ||| 128])) ++ ([0 ||| 128])) ++ ([4]))) ++ ((([UInt8.ofNat 1]) ++ (n32 q0)) ++ ([UInt8.ofNat 1]))) ++ ((([UInt8.ofNat 1]) ++ (n32 q1)) ++ ([UInt8.ofNat 1]))) ++ ((([UInt8.ofNat 1]) ++ (n32 q2)) ++ ([UInt8.ofNat 1])))) (N := bv ((([UInt8.ofNat 1]) ++ (n32 q3)) ++ ([UInt8.ofNat 1]))) r0.ag (eh b0 rfl) (eh b0 rfl) qs_38 qz_5 P1 u0.src (u0.nilc) (by rw [bv_length, N0, Nat.mul_one]) (one_bv _) (by omega) (by decide) (by rw [maxLen_eq]; omega) (by omega) (fun Z0 a1 n3 C0 H0 => ?_))
 have R2 := H0.size
 rw [← bv_append] at C0
 have H2 := C0.nilc
 refine ms b0 rfl <| nl <| g1 <| rn <| mv b0 rfl <| gv (r_add (j := 1) (eh b0 rfl) rfl (by decide)) <| ms b0 rfl <| nl <| un_next <| un_step (n := 0) <| sk fun _ t2 => sk fun _ h1 => rn <| mv b0 rfl <| gv (r_lss (j := 4) (eh b0 rfl) rfl) <| nl <| h1 <| ce b0 rfl <| we <| k1 <| sk fun _ i1 => rn <| mv b0 rfl <| ms b0 rfl <| gv (r_assign (v := nn 0) rfl) <| nl <| i1 <| wp_ret <| ret_of (res2 rfl _ _ (gh b0 rfl) (gh b0 rfl)) ((ov_defers _ _).trans b1) ?_
 exact ⟨W1, Z0, a1, rfl, (((((((((((((cu0.t0 c0).t0 k0).t0 m0).tn g0 (by omega)).t0 n0).t0 h0).tg o0 (by omega)).t0 i0).tg p0 (by omega)).t0 e0).tg j0 (by omega)).t0 r0).tg H0 (by omega)), (C0).wk (by omega)⟩

theorem f129 {m : Ctx} {w : World} (ag : Ag m w) {v1 e1 s1 : Nat} {h1 : Bytes} (hv : v1 < 128) (he : e1 < 128) (hs : s1 < 128) (hv1 : 1 ≤ v1) (hs1 : 1 ≤ s1) (he1 : 1 ≤ e1) : Calls Tryz.prog 129 #[.agg ([nn v1, nn e1, nn s1] ++ (hc h1)).toArray] w (Ret fun x w' => ∃ m' A' c', x = .tuple #[.slice A' (36) c', nn 0] ∧ Fr no m w m' w' ∧ Own m' w' w.heap.size A' (36) c' 5 1 (bv ((((([UInt8.ofNat 2]) ++ ([UInt8.ofNat v1])) ++ ([UInt8.ofNat e1])) ++ ([UInt8.ofNat s1])) ++ (n32 h1)))) := by
 refine enter Tryz.func129 rfl (fun u0 hT D0 => ?_)
 have b0 : u0.tmps.size = 18 := by rw [hT]; kernel_rfl
 have Q0 : u0.tmps.getD 0 undef = .agg ([nn v1, nn e1, nn s1] ++ (hc h1)).toArray := by rw [hT]; kernel_rfl
 clear hT
 have cu0 : Fr (no) m w m w := Fr.refl ag
 refine sk fun _ E0 => rn <| gk (k_box (L := [nn v1, nn e1, nn s1] ++ (hc h1)) ag (em b0 rfl rfl Q0) (by kernel_rfl) (fun o1 T0 q0 n0 X0 => ?_))
 have l1 := n0.size
 have Z0 := q0.lt
 refine gv (r_assign (v := .slice none 0 0) rfl) <| gv (r_assign (v := nn 0) rfl) <| nl <| E0 <| sk fun _ G0 => sk fun _ H0 => rn <| gv (lb (cs := [nn v1, nn e1, nn s1] ++ (hc h1)) (eh b0 rfl) q0.bk qr_53 sz_53) <| gk (k_cl (f146 n0.ag (by omega) (by omega) (by omega) (by omega) (by omega)) rfl fn_146 (map_cons (eh b0 rfl) map_nil) (fun m1 j0 K0 => ?_))
 obtain ⟨d0, rfl, k0⟩ := K0
 have c1 := k0.size
 refine gv (r_not (eh b0 rfl)) <| nl <| H0 <| cf (eh b0 rfl) <| ws <| G0 <| sk fun _ F0 => ?_
 have e0 : Fr no d0 j0 d0 { j0 with drawn := j0.drawn + 1 } := Fr.drw k0.ag
 obtain ⟨m0, y0⟩ : ∃ w_, w_ = ({ j0 with drawn := j0.drawn + 1 } : World) := ⟨_, rfl⟩
 rw [← y0] at e0
 have d1 := e0.size
 refine wp_region_T mixed (fun wz => ∃ mz, Fr (no) d0 m0 mz wz) (fun wz => ∃ mz, Fr (no) d0 m0 mz wz) 13 ?_
 rw [← y0]
 show wpAnyT _ _ _ _ _ 13 _ _ _
 have c0 : Fr (no) d0 m0 d0 m0 := Fr.refl e0.ag
 refine tkk (i := 0) rfl rfl (fun _ _ => r_field (o' := 0) (eh b0 rfl) fo_53_0 (by rfl)) ⟨_, c0⟩ ?_
 have l0 := ((q0.f0 k0).f0 e0)
 refine tkk (i := 1) rfl rfl (fun wz ⟨mz, hz⟩ => la (v := nn v1) (eh b0 rfl) (hz.ex l0.bk (fun h => h)) qr_3) ⟨_, c0⟩ <| tkk (i := 2) rfl rfl (fun _ _ => r_field (o' := 1) (eh b0 rfl) fo_53_1 (by rfl)) ⟨_, c0⟩ <| tkk (i := 3) rfl rfl (fun wz ⟨mz, hz⟩ => la (v := nn e1) (eh b0 rfl) (hz.ex l0.bk (fun h => h)) qr_3) ⟨_, c0⟩ <| tkk (i := 4) rfl rfl (fun _ _ => r_field (o' := 2) (eh b0 rfl) fo_53_2 (by rfl)) ⟨_, c0⟩ <| tkk (i := 5) rfl rfl (fun wz ⟨mz, hz⟩ => la (v := nn s1) (eh b0 rfl) (hz.ex l0.bk (fun h => h)) qr_3) ⟨_, c0⟩ <| tkk (i := 8) rfl rfl (fun _ _ => r_field (o' := 3) (eh b0 rfl) fo_53_3 (by rfl)) ⟨_, c0⟩ <| tkk (i := 9) rfl rfl (fun _ _ => r_sliceA (eh b0 rfl) qa_23) ⟨_, c0⟩ <| ann (i := 6) (b := true) rfl rfl (k_lit (e := 3) (L := [nn 2, nn v1, nn e1, nn s1]) e0.ag (pm_cons (v := nn 2) rfl (pm_cons (eh b0 rfl) (pm_cons (eh b0 rfl) (pm_cons (eh b0 rfl) pm_nil)))) (by kernel_rfl) (fun R0 v0 w0 h0 W0 => ?_))
 have g1 := h0.size
 have z0 := c0.t0 h0
 have Y0 := w0.lt
 refine ⟨(tbT ⟨_, z0⟩), ?_⟩
 obtain ⟨g0, x0⟩ := w0.fz h0.ag
 generalize cput d0 v0 _ = N0 at g0 x0
 have i1 := g0.size
 have P0 := z0.tn g0 (by omega)
 have M0 : Sl N0 (some ⟨v0, 0, none⟩) 4 4 1 ([nn 2, nn v1, nn e1, nn s1]) := Sl.of (k := 4) x0 (by kernel_rfl) (by kernel_rfl) (by decide) (by decide)
 refine ann (i := 7) (b := true) rfl rfl (k_cl (f44_ssss g0.ag M0 (by omega) (by omega) (by omega) (by omega) (by omega) (by omega) (by omega) (by omega)) rfl fn_44 (map_cons (eh b0 rfl) map_nil) (fun n1 p1 L0 => ?_))
 obtain ⟨O0, S0, U0, rfl, i0, p0⟩ := L0
 have j1 := i0.size
 have A0 := P0.t0 i0
 have J0 : (((([UInt8.ofNat 2]) ++ ([UInt8.ofNat v1])) ++ ([UInt8.ofNat e1])) ++ ([UInt8.ofNat s1]) : List UInt8).length = 4 := (Own.blen p0)
 have a1 := p0.nilc
 refine ⟨(tbT ⟨_, A0⟩), ?_⟩
 have I0 := (((l0.f0 h0).f1 g0 (by omega)).f0 i0)
 have V0 : ((((([UInt8.ofNat 2]) ++ ([UInt8.ofNat v1])) ++ ([UInt8.ofNat e1])) ++ ([UInt8.ofNat s1])) ++ (n32 h1) : List UInt8).length = 4 + 32 := (len_app J0 (n32_len _))
 refine ann (i := 10) (b := true) rfl rfl (k_append (base := R0.heap.size) (L := bv (((([UInt8.ofNat 2]) ++ ([UInt8.ofNat v1])) ++ ([UInt8.ofNat e1])) ++ ([UInt8.ofNat s1]))) (N := bv (n32 h1)) i0.ag (eh b0 rfl) (eh b0 rfl) qs_38 qz_5 p0 (by have h_ := (I0.bk.src (L := hc h1) (n := 32) (o := 3) (k := 32) (by kernel_rfl)); rw [hc_n32] at h_; exact h_) (fun h => by cases h) (by rw [bv_length, show (n32 h1 : List UInt8).length = 32 from (n32_len _), Nat.mul_one]) (one_bv _) (by omega) (by decide) (by rw [maxLen_eq]; omega) (by omega) (fun B0 C0 q1 r0 o0 => ?_))
 have k1 := o0.size
 have s0 := A0.tg o0 (by omega)
 rw [← bv_append] at r0
 have b1 := r0.nilc
 refine ⟨(tbT ⟨_, s0⟩), ?_⟩
 refine tkk (i := 11) rfl rfl (fun _ _ => r_assign (eh b0 rfl)) ⟨_, s0⟩ <| tkk (i := 12) rfl rfl (fun _ _ => r_assign (v := nn 0) rfl) ⟨_, s0⟩ <| anyT_done (by kernel_rfl) ?_ _
 refine F0 <| wp_ret <| ret_of (res2 rfl _ _ (gh b0 rfl) (gh b0 rfl)) ((ov_defers _ _).trans D0) ?_
 exact ⟨O0, B0, C0, rfl, (((((((cu0.t0 n0).t0 k0).t0 e0).t0 h0).tn g0 (by omega)).t0 i0).tg o0 (by omega)), (r0).wk (by omega)⟩

theorem f132 {m : Ctx} {w : World} (ag : Ag m w) {v1 v2 e1 lc : Nat} {L : Option Addr} (hL : Sl m L 1 lc 2 [.string (⟨#[116, 111, 112]⟩ : ByteArray), nn v2]) (hv : v1 < 128) (hv2 : v2 < 128) (he : e1 < 128) (hv1 : 1 ≤ v1) (hv3 : 1 ≤ v2) (he1 : 1 ≤ e1) : Calls Tryz.prog 132 #[.agg ([nn v1, nn e1, .slice L 1 lc]).toArray] w (Ret fun x w' => ∃ m' A' c', x = .tuple #[.slice A' (4 + (1 + 3) + 1) c', nn 0] ∧ Fr no m w m' w' ∧ Own m' w' w.heap.size A' (4 + (1 + 3) + 1) c' 5 1 (bv (((((([UInt8.ofNat 3]) ++ ([UInt8.ofNat v1])) ++ ([UInt8.ofNat e1])) ++ ([UInt8.ofNat 1])) ++ (([UInt8.ofNat 3]) ++ ([116, 111, 112]))) ++ ([UInt8.ofNat v2])))) := by
 refine enter Tryz.func132 rfl (fun E0 hT V0 => ?_)
 have b0 : E0.tmps.size = 43 := by rw [hT]; kernel_rfl
 have A1 : E0.tmps.getD 0 undef = .agg ([nn v1, nn e1, .slice L 1 lc]).toArray := by rw [hT]; kernel_rfl
 clear hT
 have cu0 : Fr (no) m w m w := Fr.refl ag
 refine sk fun _ W0 => rn <| gk (k_box (L := [nn v1, nn e1, .slice L 1 lc]) ag (em b0 rfl rfl A1) (by kernel_rfl) (fun q2 s0 B0 v0 N1 => ?_))
 have e2 := v0.size
 have P1 := B0.lt
 refine gv (r_assign (v := .slice none 0 0) rfl) <| gv (r_assign (v := nn 0) rfl) <| nl <| W0 <| sk fun _ h1 => sk fun _ i1 => rn <| gv (lb (cs := [nn v1, nn e1, .slice L 1 lc]) (eh b0 rfl) B0.bk qr_56 sz_56) ?_
 have N0 := (hL.up v0)
 refine gk (k_cl (f149 v0.ag N0 (by omega) (by omega) (by omega) (by omega) (by omega)) rfl fn_149 (map_cons (eh b0 rfl) map_nil) (fun h2 n2 n1 => ?_))
 obtain ⟨x1, rfl, o0⟩ := n1
 have a2 := o0.size
 refine gv (r_not (eh b0 rfl)) <| nl <| i1 <| cf (eh b0 rfl) <| ws <| h1 <| sk fun _ Z0 => rn <| gv (r_field (o' := 0) (eh b0 rfl) fo_56_0 (by rfl)) ?_
 have w0 := (B0.f0 o0)
 refine gv (la (v := nn v1) (eh b0 rfl) w0.bk qr_3) <| gv (r_field (o' := 1) (eh b0 rfl) fo_56_1 (by rfl)) <| gv (la (v := nn e1) (eh b0 rfl) w0.bk qr_3) <| gv (r_field (o' := 2) (eh b0 rfl) fo_56_2 (by rfl)) <| gv (la (v := .slice L 1 lc) (eh b0 rfl) w0.bk qr_54) <| gv (r_lenS (eh b0 rfl) rfl qu_54) <| gk (k_lit (e := 3) (L := [nn 3, nn v1, nn e1, nn 1]) o0.ag (pm_cons (v := nn 3) rfl (pm_cons (eh b0 rfl) (pm_cons (eh b0 rfl) (pm_cons (eh b0 rfl) pm_nil)))) (by kernel_rfl) (fun e0 F0 J0 p0 M1 => ?_))
 have b2 := p0.size
 have O1 := J0.lt
 obtain ⟨j0, K0⟩ := J0.fz p0.ag
 generalize cput x1 F0 _ = y1 at j0 K0
 have c2 := j0.size
 have s1 : Sl y1 (some ⟨F0, 0, none⟩) 4 4 1 ([nn 3, nn v1, nn e1, nn 1]) := Sl.of (k := 4) K0 (by kernel_rfl) (by kernel_rfl) (by decide) (by decide)
 refine gk (k_cl (f44_ssss j0.ag s1 (by omega) (by omega) (by omega) (by omega) (by omega) (by omega) (by omega) (by omega)) rfl fn_44 (map_cons (eh b0 rfl) map_nil) (fun j2 r0 o1 => ?_))
 obtain ⟨h0, D1, I1, rfl, q0, A0⟩ := o1
 have d2 := q0.size
 have l1 : (((([UInt8.ofNat 3]) ++ ([UInt8.ofNat v1])) ++ ([UInt8.ofNat e1])) ++ ([UInt8.ofNat 1]) : List UInt8).length = 4 := (Own.blen A0)
 have U1 := A0.nilc
 refine ms b0 rfl <| nl <| Z0 <| sk fun _ a1 => sk fun _ b1 => rn <| gv (r_assign (v := nn 0) rfl) <| nl <| b1 <| bl <| wp_unroll (n := 5) <| un_step (n := 4) <| sk fun _ c1 => sk fun _ d1 => rn <| mv b0 rfl <| gv (r_field (o' := 2) (eh b0 rfl) fo_56_2 (by rfl)) ?_
 have H0 := (((w0.f0 p0).f1 j0 (by omega)).f0 q0)
 refine gv (la (v := .slice L 1 lc) (eh b0 rfl) H0.bk qr_54) <| gv (r_lenS (eh b0 rfl) rfl qu_54) <| gv (r_lss (eh b0 rfl) (eh b0 rfl)) <| nl <| d1 <| cd b0 rfl <| ws <| c1 <| sk fun _ g1 => bl ?_
 have g0 : Fr no h0 r0 h0 { r0 with drawn := r0.drawn + 1 } := Fr.drw q0.ag
 obtain ⟨m0, O0⟩ : ∃ w_, w_ = ({ r0 with drawn := r0.drawn + 1 } : World) := ⟨_, rfl⟩
 rw [← O0] at g0
 have g2 := g0.size
 refine wp_region_T mixed (fun wz => ∃ mz, Fr (no) h0 m0 mz wz) (fun wz => ∃ mz, Fr (ge e0.heap.size) h0 m0 mz wz) 8 ?_
 rw [← O0]
 show wpAnyT _ _ _ _ _ 18 _ _ _
 have c0 : Fr (no) h0 m0 h0 m0 := Fr.refl g0.ag
 have d0 : ∀ wz, (∃ mz, Fr (no) h0 m0 mz wz) → ∃ mz, Fr (ge e0.heap.size) h0 m0 mz wz := fun wz ⟨mz, hz⟩ => ⟨mz, hz.wk (fun x hx _ => hx.elim)⟩
 refine tk2 (i := 0) rfl rfl (fun _ _ => r_move (eh b0 rfl)) ⟨_, c0⟩ <| tk1 (i := 1) (b := false) rfl rfl d0 (fun _ _ => r_field (o' := 2) (eh b0 rfl) fo_56_2 (by rfl)) (tbF ⟨_, c0⟩) ?_
 have y0 := (H0.f0 g0)
 refine tk1 (i := 2) (b := false) rfl rfl d0 (fun wz ⟨mz, hz⟩ => la (v := .slice L 1 lc) (eh b0 rfl) (hz.ex y0.bk (show ¬ e0.heap.size ≤ s0 from by omega)) qr_54) (tbF ⟨_, c0⟩) <| tk1 (i := 3) (b := false) rfl rfl d0 (fun _ _ => r_move (eh b0 rfl)) (tbF ⟨_, c0⟩) ?_
 have u1 := Fr.ll (Fr.ll (Fr.ll (Fr.l2 o0 p0) j0) q0) g0
 have t1 := N0.le u1
 obtain ⟨G0, l0, F1, rfl, L0, M0⟩ := t1.elem (by omega)
 refine tk1 (i := 4) (b := false) rfl rfl d0 (fun _ _ => r_idxS (o' := l0 + 0) (eh b0 rfl) (eh b0 rfl) qs_54 (by decide) (by omega)) (tbF ⟨_, c0⟩) <| tk1 (i := 5) (b := false) rfl rfl d0 (fun _ _ => r_field (o' := l0 + 0) (eh b0 rfl) fo_85_0 (by rfl)) (tbF ⟨_, c0⟩) <| tk1 (i := 6) (b := false) rfl rfl d0 (fun wz ⟨mz, hz⟩ => r_load1 (v := .string (⟨#[116, 111, 112]⟩ : ByteArray)) (eh b0 rfl) (hz.ag _ _ (hz.le _ _ L0)) (at_sub M0 (by kernel_rfl)) qr_9) (tbF ⟨_, c0⟩) <| tk1 (i := 9) (b := false) rfl rfl d0 (fun _ _ => r_field (o' := 2) (eh b0 rfl) fo_56_2 (by rfl)) (tbF ⟨_, c0⟩) <| tk1 (i := 10) (b := false) rfl rfl d0 (fun wz ⟨mz, hz⟩ => la (v := .slice (some ⟨G0, l0, none⟩) 1 lc) (eh b0 rfl) (hz.ex y0.bk (show ¬ e0.heap.size ≤ s0 from by omega)) qr_54) (tbF ⟨_, c0⟩) <| tk1 (i := 11) (b := false) rfl rfl d0 (fun _ _ => r_move (eh b0 rfl)) (tbF ⟨_, c0⟩) <| tk1 (i := 12) (b := false) rfl rfl d0 (fun _ _ => r_idxS (o' := l0 + 0) (eh b0 rfl) (eh b0 rfl) qs_54 (by decide) (by omega)) (tbF ⟨_, c0⟩) <| tk1 (i := 13) (b := false) rfl rfl d0 (fun _ _ => r_field (o' := l0 + 1) (eh b0 rfl) fo_85_1 (by rfl)) (tbF ⟨_, c0⟩) <| tk1 (i := 14) (b := false) rfl rfl d0 (fun wz ⟨mz, hz⟩ => r_load1 (v := nn v2) (eh b0 rfl) (hz.ag _ _ (hz.le _ _ L0)) (at_sub M0 (by kernel_rfl)) qr_3) (tbF ⟨_, c0⟩) <| ann (i := 7) (b := false) rfl rfl (k_cl (f150 g0.ag) rfl fn_150 (map_cons (eh b0 rfl) map_nil) (fun k2 r2 p1 => ?_))
 obtain ⟨Q1, E1, J1, rfl, k0, x0⟩ := p1
 have W1 := k0.size
 have P0 := c0.t0 k0
 have I0 : (([UInt8.ofNat 3]) ++ ([116, 111, 112]) : List UInt8).length = 1 + 3 := (Own.blen x0)
 have V1 := x0.nilc
 refine ⟨(tbF ⟨_, P0⟩), ?_⟩
 have z1 : Fr (ge e0.heap.size) _ _ _ _ := P0.wk (fun x hx _ => hx.elim)
 have q1 := ((A0.f0 g0).f0 k0)
 have k1 : ((((([UInt8.ofNat 3]) ++ ([UInt8.ofNat v1])) ++ ([UInt8.ofNat e1])) ++ ([UInt8.ofNat 1])) ++ (([UInt8.ofNat 3]) ++ ([116, 111, 112])) : List UInt8).length = 4 + (1 + 3) := (len_app l1 I0)
 refine ann (i := 8) (b := true) rfl rfl (k_append (base := e0.heap.size) (L := bv (((([UInt8.ofNat 3]) ++ ([UInt8.ofNat v1])) ++ ([UInt8.ofNat e1])) ++ ([UInt8.ofNat 1]))) (N := bv (([UInt8.ofNat 3]) ++ ([116, 111, 112]))) k0.ag (eh b0 rfl) (eh b0 rfl) qs_38 qz_5 q1 x0.src (x0.nilc) (by rw [bv_length, I0, Nat.mul_one]) (one_bv _) (by omega) (by decide) (by rw [maxLen_eq]; omega) (by omega) (fun B1 G1 m2 C0 n0 => ?_))
 have X1 := n0.size
 have Q0 := z1.tr n0 (fun x hx => .inr (by have h_ : e0.heap.size ≤ x := hx; exact h_))
 rw [← bv_append] at C0
 have R1 := C0.nilc
 refine ⟨(tbT ⟨_, Q0⟩), ?_⟩
 refine ann (i := 15) (b := true) rfl rfl (k_cl (f95_s n0.ag (by omega) (by omega)) rfl fn_95 (map_cons (eh b0 rfl) map_nil) (fun i2 o2 m1 => ?_))
 obtain ⟨w1, C1, H1, rfl, i0, z0⟩ := m1
 have Y1 := i0.size
 have R0 := Q0.t0 i0
 have S1 := z0.nilc
 refine ⟨(tbT ⟨_, R0⟩), ?_⟩
 have r1 := (C0.f0 i0)
 have L1 : (((((([UInt8.ofNat 3]) ++ ([UInt8.ofNat v1])) ++ ([UInt8.ofNat e1])) ++ ([UInt8.ofNat 1])) ++ (([UInt8.ofNat 3]) ++ ([116, 111, 112]))) ++ ([UInt8.ofNat v2]) : List UInt8).length = 4 + (1 + 3) + 1 := (len_app k1 rfl)
 refine ann (i := 16) (b := true) rfl rfl (k_append (base := e0.heap.size) (L := bv ((((([UInt8.ofNat 3]) ++ ([UInt8.ofNat v1])) ++ ([UInt8.ofNat e1])) ++ ([UInt8.ofNat 1])) ++ (([UInt8.ofNat 3]) ++ ([116, 111, 112])))) (N := bv ([UInt8.ofNat v2])) i0.ag (eh b0 rfl) (eh b0 rfl) qs_38 qz_5 r1 z0.src (z0.nilc) (by rw [bv_length, show ([UInt8.ofNat v2] : List UInt8).length = 1 from rfl, Nat.mul_one]) (one_bv _) (by omega) (by decide) (by rw [maxLen_eq]; omega) (by omega) (fun T0 U0 p2 D0 u0 => ?_))
 have Z1 := u0.size
 have S0 := R0.tr u0 (fun x hx => .inr (by have h_ : e0.heap.size ≤ x := hx; exact h_))
 rw [← bv_append] at D0
 have T1 := D0.nilc
 refine ⟨(tbT ⟨_, S0⟩), ?_⟩
 refine tk1 (i := 17) (b := true) rfl rfl d0 (fun _ _ => r_assign (eh b0 rfl)) (tbT ⟨_, S0⟩) <| anyT_done (by kernel_rfl) ?_ _
 refine g1 <| rn <| mv b0 rfl <| gv (r_add (j := 1) (eh b0 rfl) rfl (by decide)) <| ms b0 rfl <| nl <| un_next <| un_step (n := 3) <| sk fun _ K1 => sk fun _ X0 => rn <| mv b0 rfl <| gv (r_field (o' := 2) (eh b0 rfl) fo_56_2 (by rfl)) ?_
 have j1 := ((((y0.f0 k0).fs n0 (show ¬ e0.heap.size ≤ s0 from by omega)).f0 i0).fs u0 (show ¬ e0.heap.size ≤ s0 from by omega))
 refine gv (la (v := .slice (some ⟨G0, l0, none⟩) 1 lc) (eh b0 rfl) j1.bk qr_54) <| gv (r_lenS (eh b0 rfl) rfl qu_54) <| gv (r_lss (eh b0 rfl) (eh b0 rfl)) <| nl <| X0 <| ce b0 rfl <| we <| a1 <| sk fun _ Y0 => rn <| mv b0 rfl <| ms b0 rfl <| gv (r_assign (v := nn 0) rfl) <| nl <| Y0 <| wp_ret <| ret_of (res2 rfl _ _ (gh b0 rfl) (gh b0 rfl)) ((ov_defers _ _).trans V0) ?_
 exact ⟨w1, T0, U0, rfl, ((((((((((cu0.t0 v0).t0 o0).t0 p0).tn j0 (by omega)).t0 q0).t0 g0).t0 k0).tg n0 (by omega)).t0 i0).tg u0 (by omega)), (D0).wk (by omega)⟩

theorem f135 {m : Ctx} {w : World} (ag : Ag m w) {v1 e1 : Nat} (hv : v1 < 128) (he : e1 < 128) (hv1 : 1 ≤ v1) (he1 : 1 ≤ e1) : Calls Tryz.prog 135 #[.agg ([.string (⟨#[116, 111, 112]⟩ : ByteArray), nn v1, nn e1, .slice none 0 0, .slice none 0 0]).toArray] w (Ret fun x w' => ∃ m' A' c', x = .tuple #[.slice A' (1 + (1 + 3) + 3 + 1) c', nn 0] ∧ Fr no m w m' w' ∧ Own m' w' w.heap.size A' (1 + (1 + 3) + 3 + 1) c' 5 1 (bv (((([UInt8.ofNat 4]) ++ (([UInt8.ofNat 3]) ++ ([116, 111, 112]))) ++ ((([UInt8.ofNat v1]) ++ ([UInt8.ofNat e1])) ++ ([UInt8.ofNat 0]))) ++ ([UInt8.ofNat 0])))) := by
 refine enter Tryz.func135 rfl (fun E0 hT T0 => ?_)
 have b0 : E0.tmps.size = 63 := by rw [hT]; kernel_rfl
 have A1 : E0.tmps.getD 0 undef = .agg ([.string (⟨#[116, 111, 112]⟩ : ByteArray), nn v1, nn e1, .slice none 0 0, .slice none 0 0]).toArray := by rw [hT]; kernel_rfl
 clear hT
 have cu0 : Fr (no) m w m w := Fr.refl ag
 refine sk fun _ U0 => rn <| gk (k_box (L := [.string (⟨#[116, 111, 112]⟩ : ByteArray), nn v1, nn e1, .slice none 0 0, .slice none 0 0]) ag (em b0 rfl rfl A1) (by kernel_rfl) (fun v2 v0 A0 x0 Q1 => ?_))
 have l2 := x0.size
 have R1 := A0.lt
 refine gv (r_assign (v := .slice none 0 0) rfl) <| gv (r_assign (v := nn 0) rfl) <| nl <| U0 <| sk fun _ b1 => sk fun _ h1 => rn <| gv (lb (cs := [.string (⟨#[116, 111, 112]⟩ : ByteArray), nn v1, nn e1, .slice none 0 0, .slice none 0 0]) (eh b0 rfl) A0.bk qr_82 sz_82) <| gk (k_cl (f151 x0.ag (by omega) (by omega) (by omega)) rfl fn_151 (map_cons (eh b0 rfl) map_nil) (fun p2 n0 m1 => ?_))
 obtain ⟨h0, rfl, o0⟩ := m1
 have d2 := o0.size
 refine gv (r_not (eh b0 rfl)) <| nl <| h1 <| cf (eh b0 rfl) <| ws <| b1 <| sk fun _ Z0 => ?_
 have d0 : Fr no h0 n0 h0 { n0 with drawn := n0.drawn + 1 } := Fr.drw o0.ag
 obtain ⟨c0, M0⟩ : ∃ w_, w_ = ({ n0 with drawn := n0.drawn + 1 } : World) := ⟨_, rfl⟩
 rw [← M0] at d0
 have e2 := d0.size
 refine wp_region_T mixed (fun wz => ∃ mz, Fr (no) h0 c0 mz wz) (fun wz => ∃ mz, Fr (no) h0 c0 mz wz) 6 ?_
 rw [← M0]
 show wpAnyT _ _ _ _ _ 6 _ _ _
 have D0 : Fr (no) h0 c0 h0 c0 := Fr.refl d0.ag
 refine tkk (i := 1) rfl rfl (fun _ _ => r_field (o' := 0) (eh b0 rfl) fo_82_0 (by rfl)) ⟨_, D0⟩ ?_
 have G0 := ((A0.f0 o0).f0 d0)
 refine tkk (i := 2) rfl rfl (fun wz ⟨mz, hz⟩ => la (v := .string (⟨#[116, 111, 112]⟩ : ByteArray)) (eh b0 rfl) (hz.ex G0.bk (fun h => h)) qr_9) ⟨_, D0⟩ <| ann (i := 0) (b := true) rfl rfl (k_cl (f95_s d0.ag (by omega) (by omega)) rfl fn_95 (map_cons (v := nn 4) rfl map_nil) (fun q2 x2 n1 => ?_))
 obtain ⟨T1, B1, H1, rfl, i0, H0⟩ := n1
 have g2 := i0.size
 have N0 := D0.t0 i0
 have W1 := H0.nilc
 refine ⟨(tbT ⟨_, N0⟩), ?_⟩
 refine ann (i := 3) (b := true) rfl rfl (k_cl (f150 i0.ag) rfl fn_150 (map_cons (eh b0 rfl) map_nil) (fun r2 y2 o1 => ?_))
 obtain ⟨x1, C1, I1, rfl, e0, r0⟩ := o1
 have h2 := e0.size
 have O0 := N0.t0 e0
 have I0 : (([UInt8.ofNat 3]) ++ ([116, 111, 112]) : List UInt8).length = 1 + 3 := (Own.blen r0)
 have X1 := r0.nilc
 refine ⟨(tbT ⟨_, O0⟩), ?_⟩
 have s1 := (H0.f0 e0)
 have k1 : (([UInt8.ofNat 4]) ++ (([UInt8.ofNat 3]) ++ ([116, 111, 112])) : List UInt8).length = 1 + (1 + 3) := (len_app rfl I0)
 refine ann (i := 4) (b := true) rfl rfl (k_append (base := c0.heap.size) (L := bv ([UInt8.ofNat 4])) (N := bv (([UInt8.ofNat 3]) ++ ([116, 111, 112]))) e0.ag (eh b0 rfl) (eh b0 rfl) qs_38 qz_5 s1 r0.src (r0.nilc) (by rw [bv_length, I0, Nat.mul_one]) (one_bv _) (by omega) (by decide) (by rw [maxLen_eq]; omega) (by omega) (fun D1 J1 z2 u0 j0 => ?_))
 have i2 := j0.size
 have P0 := O0.tg j0 (by omega)
 rw [← bv_append] at u0
 have Y1 := u0.nilc
 refine ⟨(tbT ⟨_, P0⟩), ?_⟩
 refine tkk (i := 5) rfl rfl (fun _ _ => r_assign (eh b0 rfl)) ⟨_, P0⟩ <| anyT_done (by kernel_rfl) ?_ _
 refine Z0 <| sk fun _ a1 => rn <| mv b0 rfl <| gv (r_field (o' := 1) (eh b0 rfl) fo_82_1 (by rfl)) ?_
 have S0 := i0.t0 e0
 have q0 := ((G0.f0 S0).fs j0 (show ¬ c0.heap.size ≤ v0 from by omega))
 refine gv (la (v := nn v1) (eh b0 rfl) q0.bk qr_3) <| gv (r_field (o' := 2) (eh b0 rfl) fo_82_2 (by rfl)) <| gv (la (v := nn e1) (eh b0 rfl) q0.bk qr_3) <| gv (r_field (o' := 3) (eh b0 rfl) fo_82_3 (by rfl)) <| gv (la (v := .slice none 0 0) (eh b0 rfl) q0.bk qr_36) <| gv (r_lenS (eh b0 rfl) rfl qu_36) <| gk (k_lit (e := 3) (L := [nn v1, nn e1, nn 0]) j0.ag (pm_cons (eh b0 rfl) (pm_cons (eh b0 rfl) (pm_cons (eh b0 rfl) pm_nil))) (by kernel_rfl) (fun A2 F0 K0 k0 w1 => ?_))
 have j2 := k0.size
 have S1 := K0.lt
 obtain ⟨g0, L0⟩ := K0.fz k0.ag
 generalize cput x1 F0 _ = y1 at g0 L0
 have k2 := g0.size
 have t1 : Sl y1 (some ⟨F0, 0, none⟩) 3 3 1 ([nn v1, nn e1, nn 0]) := Sl.of (k := 3) L0 (by kernel_rfl) (by kernel_rfl) (by decide) (by decide)
 refine gk (k_cl (f44_ss0 g0.ag t1 (by omega) (by omega) (by omega) (by omega)) rfl fn_44 (map_cons (eh b0 rfl) map_nil) (fun s2 B2 p1 => ?_))
 obtain ⟨U1, E1, K1, rfl, l0, s0⟩ := p1
 have m2 := l0.size
 have J0 : ((([UInt8.ofNat v1]) ++ ([UInt8.ofNat e1])) ++ ([UInt8.ofNat 0]) : List UInt8).length = 3 := (Own.blen s0)
 have Z1 := s0.nilc
 have u1 := (((u0.f0 k0).fn g0 (u0.ne w1)).f0 l0)
 have l1 : ((([UInt8.ofNat 4]) ++ (([UInt8.ofNat 3]) ++ ([116, 111, 112]))) ++ ((([UInt8.ofNat v1]) ++ ([UInt8.ofNat e1])) ++ ([UInt8.ofNat 0])) : List UInt8).length = 1 + (1 + 3) + 3 := (len_app k1 J0)
 refine gk (k_append (base := c0.heap.size) (L := bv (([UInt8.ofNat 4]) ++ (([UInt8.ofNat 3]) ++ ([116, 111, 112])))) (N := bv ((([UInt8.ofNat v1]) ++ ([UInt8.ofNat e1])) ++ ([UInt8.ofNat 0]))) l0.ag (eh b0 rfl) (eh b0 rfl) qs_38 qz_5 u1 s0.src (s0.nilc) (by rw [bv_length, J0, Nat.mul_one]) (one_bv _) (by omega) (by decide) (by rw [maxLen_eq]; omega) (by omega) (fun F1 L1 C2 C0 p0 => ?_))
 have n2 := p0.size
 rw [← bv_append] at C0
 have a2 := C0.nilc
 refine ms b0 rfl <| nl <| a1 <| sk fun _ c1 => sk fun _ d1 => rn <| gv (r_assign (v := nn 0) rfl) <| nl <| d1 <| bl <| wp_unroll (n := 5) <| un_step (n := 4) <| sk fun _ O1 => sk fun _ g1 => rn <| mv b0 rfl <| gv (r_field (o' := 3) (eh b0 rfl) fo_82_3 (by rfl)) ?_
 have y0 := ((((q0.f0 k0).f1 g0 (by omega)).f0 l0).fs p0 (show ¬ c0.heap.size ≤ v0 from by omega))
 refine gv (la (v := .slice none 0 0) (eh b0 rfl) y0.bk qr_36) <| gv (r_lenS (eh b0 rfl) rfl qu_36) <| gv (r_lss (eh b0 rfl) (eh b0 rfl)) <| nl <| g1 <| ce b0 rfl <| we <| c1 <| sk fun _ i1 => rn <| mv b0 rfl <| gv (r_field (o' := 4) (eh b0 rfl) fo_82_4 (by rfl)) <| gv (la (v := .slice none 0 0) (eh b0 rfl) y0.bk qr_80) <| gv (r_lenS (eh b0 rfl) rfl qu_80) <| gk (k_cl (f95_0 p0.ag) rfl fn_95 (map_cons (eh b0 rfl) map_nil) (fun t2 D2 q1 => ?_))
 obtain ⟨z1, G1, M1, rfl, m0, z0⟩ := q1
 have o2 := m0.size
 have b2 := z0.nilc
 have r1 := (C0.f0 m0)
 have P1 : (((([UInt8.ofNat 4]) ++ (([UInt8.ofNat 3]) ++ ([116, 111, 112]))) ++ ((([UInt8.ofNat v1]) ++ ([UInt8.ofNat e1])) ++ ([UInt8.ofNat 0]))) ++ ([UInt8.ofNat 0]) : List UInt8).length = 1 + (1 + 3) + 3 + 1 := (len_app l1 rfl)
 refine gk (k_append (base := c0.heap.size) (L := bv ((([UInt8.ofNat 4]) ++ (([UInt8.ofNat 3]) ++ ([116, 111, 112]))) ++ ((([UInt8.ofNat v1]) ++ ([UInt8.ofNat e1])) ++ ([UInt8.ofNat 0])))) (N := bv ([UInt8.ofNat 0])) m0.ag (eh b0 rfl) (eh b0 rfl) qs_38 qz_5 r1 z0.src (z0.nilc) (by rw [bv_length, show ([UInt8.ofNat 0] : List UInt8).length = 1 from rfl, Nat.mul_one]) (one_bv _) (by omega) (by decide) (by rw [maxLen_eq]; omega) (by omega) (fun Q0 R0 u2 B0 w0 => ?_))
 have c2 := w0.size
 rw [← bv_append] at B0
 have V1 := B0.nilc
 refine ms b0 rfl <| nl <| i1 <| sk fun _ V0 => sk fun _ W0 => rn <| gv (r_assign (v := nn 0) rfl) <| nl <| W0 <| bl <| wp_unroll (n := 5) <| un_step (n := 4) <| sk fun _ N1 => sk fun _ X0 => rn <| mv b0 rfl <| gv (r_field (o' := 4) (eh b0 rfl) fo_82_4 (by rfl)) ?_
 have j1 := ((y0.f0 m0).fs w0 (show ¬ c0.heap.size ≤ v0 from by omega))
 refine gv (la (v := .slice none 0 0) (eh b0 rfl) j1.bk qr_80) <| gv (r_lenS (eh b0 rfl) rfl qu_80) <| gv (r_lss (eh b0 rfl) (eh b0 rfl)) <| nl <| X0 <| ce b0 rfl <| we <| V0 <| sk fun _ Y0 => rn <| mv b0 rfl <| ms b0 rfl <| gv (r_assign (v := nn 0) rfl) <| nl <| Y0 <| wp_ret <| ret_of (res2 rfl _ _ (gh b0 rfl) (gh b0 rfl)) ((ov_defers _ _).trans T0) ?_
 exact ⟨z1, Q0, R0, rfl, ((((((((((((cu0.t0 x0).t0 o0).t0 d0).t0 i0).t0 e0).tg j0 (by omega)).t0 k0).tn g0 (by omega)).t0 l0).tg p0 (by omega)).t0 m0).tg w0 (by omega)), (B0).wk (by omega)⟩

end Go.Proofs.YtiggfalelcepbaaGreatDoor

/- The walks of the reference decoders. -/
import Derived.Test.YtiggfalelcepbaaGreatDoorK7
import Derived.Test.YtiggfalelcepbaaGreatDoorSX
import Derived.Test.YtiggfalelcepbaaGreatDoorW19
import Derived.Test.YtiggfalelcepbaaGreatDoorTX
namespace Go.Proofs.YtiggfalelcepbaaGreatDoor
open Go
set_option maxRecDepth 100000
set_option maxHeartbeats 4000000
theorem f74 {m : Ctx} {w : World} (ag : Ag m w) {c : Nat} {A : Option Addr} {v : Nat} {a b : Bytes} (hA : Sl m A 143 c 1 (bv (rootB v a b))) (hv1 : 1 ≤ v) (hv : v < 128) : Calls Tryz.prog 74 #[.slice A 143 c] w (Ret fun y w' => ∃ m' L0 l0 L1 l1 L2 l2 L3 l3, y = .tuple #[.agg ([nn v, nn 1073741824, .slice L0 1 l0, nn 1, .slice L1 1 l1, nn 1, .slice L2 1 l2, nn 1, .slice L3 1 l3, nn 1]).toArray, nn 0] ∧ Fr no m w m' w' ∧ Sl m' L0 1 l0 32 (hc a) ∧ Sl m' L1 1 l1 32 (hc b) ∧ Sl m' L2 1 l2 32 (hc b) ∧ Sl m' L3 1 l3 32 (hc b)) := by
 refine enter Tryz.func74 rfl (fun K0 hT b1 => ?_)
 have b0 : K0.tmps.size = 39 := by rw [hT]; kernel_rfl
 have W0 : K0.tmps.getD 0 undef = .slice A 143 c := by rw [hT]; kernel_rfl
 clear hT
 have cu0 : Fr (no) m w m w := Fr.refl ag
 refine sk fun _ c1 => rn <| gk (k_alloc ag qz_35 (fun m4 M0 Q0 E0 m3 => ?_))
 have R3 := E0.size
 have n3 := Q0.lt
 refine gv (r_assign (v := nn 0) rfl) <| nl <| c1 <| sk fun _ y1 => rn <| mw b0 W0 ?_
 have R0 := (hA.up E0)
 refine gk (k_cl (f124 E0.ag (k := 1) (Z := [UInt8.ofNat v] ++ ([0 ||| 128] ++ ([0 ||| 128] ++ ([0 ||| 128] ++ ([0 ||| 128] ++ ([4] ++ ([UInt8.ofNat 1] ++ (n32 a ++ ([UInt8.ofNat 1] ++ ([UInt8.ofNat 1] ++ (n32 b ++ ([UInt8.ofNat 1] ++ ([UInt8.ofNat 1] ++ (n32 b ++ ([UInt8.ofNat 1] ++ ([UInt8.ofNat 1] ++ (n32 b ++ ([UInt8.ofNat 1] ++ ([]))))))))))))))))))) R0 (by omega) (by omega) (by omega)) rfl fn_124 (map_cons (eh b0 rfl) (map_cons (v := nn 1) rfl map_nil)) (fun c4 d4 o2 => ?_))
 obtain ⟨r3, P2, S2, Z2, rfl, C0, N0, Y1, i3⟩ := o2
 have K3 := C0.size
 have p3 := N0.lt
 refine ms b0 rfl <| nl <| y1 <| sk fun _ r1 => rn <| mv b0 rfl <| gk (k_cl (f125_s (v := v) C0.ag (Z := [0 ||| 128] ++ ([0 ||| 128] ++ ([0 ||| 128] ++ ([0 ||| 128] ++ ([4] ++ ([UInt8.ofNat 1] ++ (n32 a ++ ([UInt8.ofNat 1] ++ ([UInt8.ofNat 1] ++ (n32 b ++ ([UInt8.ofNat 1] ++ ([UInt8.ofNat 1] ++ (n32 b ++ ([UInt8.ofNat 1] ++ ([UInt8.ofNat 1] ++ (n32 b ++ ([UInt8.ofNat 1] ++ ([])))))))))))))))))) N0 Y1 (by omega) (by omega) (by omega)) rfl fn_125 (map_cons (eh b0 rfl) map_nil) (fun Y3 n4 t2 => ?_))
 obtain ⟨v3, T2, a3, rfl, D0, Z1, a2⟩ := t2
 have M3 := D0.size
 refine gv (r_build (cs := [nn v, nn 0, .slice none 0 0, nn 0, .slice none 0 0, nn 0, .slice none 0 0, nn 0, .slice none 0 0, nn 0]) (pm_cons (eh b0 rfl) (pm_cons (v := nn 0) rfl pm_nil)) (by kernel_rfl)) <| gk (k_alloc D0.ag qz_35 (fun o4 Y0 P0 s0 k3 => ?_))
 have N3 := s0.size
 have o3 := P0.lt
 refine gz (kt (L' := [nn v, nn 0, .slice none 0 0, nn 0, .slice none 0 0, nn 0, .slice none 0 0, nn 0, .slice none 0 0, nn 0]) s0.ag (eh b0 rfl) (eh b0 rfl) P0 sz_35 (fun p4 k2 u0 => ?_))
 have O3 := u0.size
 refine nl <| r1 <| sk fun _ s1 => rn <| mv b0 rfl ?_
 have G2 := ((a2.up s0).up u0)
 have K1 := ((Z1.f0 s0).f1 u0 (by omega))
 refine gk (k_cl (f125_b u0.ag (Z := [UInt8.ofNat 1] ++ (n32 a ++ ([UInt8.ofNat 1] ++ ([UInt8.ofNat 1] ++ (n32 b ++ ([UInt8.ofNat 1] ++ ([UInt8.ofNat 1] ++ (n32 b ++ ([UInt8.ofNat 1] ++ ([UInt8.ofNat 1] ++ (n32 b ++ ([UInt8.ofNat 1] ++ ([]))))))))))))) K1 G2 (by omega) (by omega)) rfl fn_125 (map_cons (eh b0 rfl) map_nil) (fun Z3 q4 u2 => ?_))
 obtain ⟨w3, U2, c3, rfl, A0, b2, c2⟩ := u2
 have P3 := A0.size
 refine gv (r_field (o' := 1) (eh b0 rfl) fo_35_1 (by rfl)) ?_
 have M1 := (k2.f1 A0 (by omega))
 refine gz (kt (L' := [nn v, nn 1073741824, .slice none 0 0, nn 0, .slice none 0 0, nn 0, .slice none 0 0, nn 0, .slice none 0 0, nn 0]) A0.ag (eh b0 rfl) (eh b0 rfl) M1 sz_3 (fun r4 m2 v0 => ?_))
 have Q3 := v0.size
 refine nl <| s1 <| sk fun _ t1 => sk fun _ u1 => rn <| gv (r_assign (v := nn 0) rfl) <| nl <| u1 <| bl <| wp_unroll (n := 5) <| un_step (n := 4) <| sk fun _ v1 => sk fun _ w1 => rn <| mv b0 rfl <| gv (r_lss (j := 4) (eh b0 rfl) rfl) <| nl <| w1 <| cd b0 rfl <| ws <| v1 <| sk fun _ x1 => bl <| rn <| mv b0 rfl <| mv b0 rfl ?_
 have H2 := (c2.up v0)
 have N1 := (b2.f1 v0 (by omega))
 refine gk (k_cl (f126 v0.ag (k1 := a) (Z := [UInt8.ofNat 1] ++ (n32 b ++ ([UInt8.ofNat 1] ++ ([UInt8.ofNat 1] ++ (n32 b ++ ([UInt8.ofNat 1] ++ ([UInt8.ofNat 1] ++ (n32 b ++ ([UInt8.ofNat 1] ++ ([])))))))))) N1 H2 (by omega) (by omega)) rfl fn_126 (map_cons (eh b0 rfl) map_nil) (fun a4 s4 v2 => ?_))
 obtain ⟨x3, e0, g0, V2, d3, rfl, B0, d2, e2, g2⟩ := v2
 have S3 := B0.size
 refine gv (r_field (o' := 2) (eh b0 rfl) fo_35_2 (by rfl)) <| gv (r_idxA (o' := 2) (eh b0 rfl) (eh b0 rfl) qa_33 (by decide) (by rfl)) ?_
 have O1 := (m2.f1 B0 (by omega))
 refine gz (kt (L' := [nn v, nn 1073741824, .slice e0 1 g0, nn 1, .slice none 0 0, nn 0, .slice none 0 0, nn 0, .slice none 0 0, nn 0]) B0.ag (eh b0 rfl) (eh b0 rfl) O1 sz_32 (fun t4 n2 p0 => ?_))
 have T3 := p0.size
 refine nl <| x1 <| rn <| mv b0 rfl <| gv (r_add (j := 1) (eh b0 rfl) rfl (by decide)) <| ms b0 rfl <| nl <| un_next <| un_step (n := 3) <| sk fun _ z1 => sk fun _ A1 => rn <| mv b0 rfl <| gv (r_lss (j := 4) (eh b0 rfl) rfl) <| nl <| A1 <| cd b0 rfl <| ws <| z1 <| sk fun _ B1 => bl <| rn <| mv b0 rfl <| mv b0 rfl ?_
 have I2 := (g2.up p0)
 have P1 := (d2.f1 p0 (by omega))
 refine gk (k_cl (f126 p0.ag (k1 := b) (Z := [UInt8.ofNat 1] ++ (n32 b ++ ([UInt8.ofNat 1] ++ ([UInt8.ofNat 1] ++ (n32 b ++ ([UInt8.ofNat 1] ++ ([]))))))) P1 I2 (by omega) (by omega)) rfl fn_126 (map_cons (eh b0 rfl) map_nil) (fun b4 u4 x2 => ?_))
 obtain ⟨y3, j0, k0, W2, e3, rfl, w0, Q1, R1, S1⟩ := x2
 have A3 := w0.size
 refine gv (r_field (o' := 2) (eh b0 rfl) fo_35_2 (by rfl)) <| gv (r_idxA (o' := 4) (eh b0 rfl) (eh b0 rfl) qa_33 (by decide) (by rfl)) ?_
 have C1 := (n2.f1 w0 (by omega))
 refine gz (kt (L' := [nn v, nn 1073741824, .slice e0 1 g0, nn 1, .slice j0 1 k0, nn 1, .slice none 0 0, nn 0, .slice none 0 0, nn 0]) w0.ag (eh b0 rfl) (eh b0 rfl) C1 sz_32 (fun e4 h2 h0 => ?_))
 have B3 := h0.size
 refine nl <| B1 <| rn <| mv b0 rfl <| gv (r_add (j := 1) (eh b0 rfl) rfl (by decide)) <| ms b0 rfl <| nl <| un_next <| un_step (n := 2) <| sk fun _ d1 => sk fun _ e1 => rn <| mv b0 rfl <| gv (r_lss (j := 4) (eh b0 rfl) rfl) <| nl <| e1 <| cd b0 rfl <| ws <| d1 <| sk fun _ g1 => bl <| rn <| mv b0 rfl <| mv b0 rfl ?_
 have y2 := (S1.up h0)
 have D1 := (Q1.f1 h0 (by omega))
 refine gk (k_cl (f126 h0.ag (k1 := b) (Z := [UInt8.ofNat 1] ++ (n32 b ++ ([UInt8.ofNat 1] ++ ([])))) D1 y2 (by omega) (by omega)) rfl fn_126 (map_cons (eh b0 rfl) map_nil) (fun U3 g4 p2 => ?_))
 obtain ⟨q3, q0, r0, Q2, X2, rfl, m0, T1, U1, V1⟩ := p2
 have C3 := m0.size
 refine gv (r_field (o' := 2) (eh b0 rfl) fo_35_2 (by rfl)) <| gv (r_idxA (o' := 6) (eh b0 rfl) (eh b0 rfl) qa_33 (by decide) (by rfl)) ?_
 have E1 := (h2.f1 m0 (by omega))
 refine gz (kt (L' := [nn v, nn 1073741824, .slice e0 1 g0, nn 1, .slice j0 1 k0, nn 1, .slice q0 1 r0, nn 1, .slice none 0 0, nn 0]) m0.ag (eh b0 rfl) (eh b0 rfl) E1 sz_32 (fun h4 i2 c0 => ?_))
 have D3 := c0.size
 refine nl <| g1 <| rn <| mv b0 rfl <| gv (r_add (j := 1) (eh b0 rfl) rfl (by decide)) <| ms b0 rfl <| nl <| un_next <| un_step (n := 1) <| sk fun _ h1 => sk fun _ i1 => rn <| mv b0 rfl <| gv (r_lss (j := 4) (eh b0 rfl) rfl) <| nl <| i1 <| cd b0 rfl <| ws <| h1 <| sk fun _ j1 => bl <| rn <| mv b0 rfl <| mv b0 rfl ?_
 have z2 := (V1.up c0)
 have F1 := (T1.f1 c0 (by omega))
 refine gk (k_cl (f126 c0.ag (k1 := b) (Z := []) F1 z2 (by omega) (by omega)) rfl fn_126 (map_cons (eh b0 rfl) map_nil) (fun V3 i4 q2 => ?_))
 obtain ⟨s3, x0, y0, R2, Y2, rfl, i0, W1, X1, h3⟩ := q2
 have E3 := i0.size
 refine gv (r_field (o' := 2) (eh b0 rfl) fo_35_2 (by rfl)) <| gv (r_idxA (o' := 8) (eh b0 rfl) (eh b0 rfl) qa_33 (by decide) (by rfl)) ?_
 have G1 := (i2.f1 i0 (by omega))
 refine gz (kt (L' := [nn v, nn 1073741824, .slice e0 1 g0, nn 1, .slice j0 1 k0, nn 1, .slice q0 1 r0, nn 1, .slice x0 1 y0, nn 1]) i0.ag (eh b0 rfl) (eh b0 rfl) G1 sz_32 (fun H0 O0 d0 => ?_))
 have F3 := d0.size
 refine nl <| j1 <| rn <| mv b0 rfl <| gv (r_add (j := 1) (eh b0 rfl) rfl (by decide)) <| ms b0 rfl <| nl <| un_next <| un_step (n := 0) <| sk fun _ g3 => sk fun _ m1 => rn <| mv b0 rfl <| gv (r_lss (j := 4) (eh b0 rfl) rfl) <| nl <| m1 <| ce b0 rfl <| we <| t1 <| sk fun _ n1 => rn <| gv (lb (cs := [nn v, nn 1073741824, .slice e0 1 g0, nn 1, .slice j0 1 k0, nn 1, .slice q0 1 r0, nn 1, .slice x0 1 y0, nn 1]) (eh b0 rfl) O0.bk qr_35 sz_35) ?_
 have J2 := Fr.ll (Fr.ll (Fr.ll (Fr.ll (Fr.ll (Fr.l2 p0 w0) h0) m0) c0) i0) d0
 have S0 := e2.le J2
 have K2 := Fr.ll (Fr.ll (Fr.ll (Fr.l2 h0 m0) c0) i0) d0
 have T0 := R1.le K2
 have M2 := Fr.ll (Fr.l2 c0 i0) d0
 have U0 := U1.le M2
 have V0 := (X1.up d0)
 refine gk (k_cl (f17 d0.ag S0 T0 U0 V0 (by omega) (by omega)) rfl fn_17 (map_cons (eh b0 rfl) map_nil) (fun W3 j4 r2 => ?_))
 obtain ⟨t3, X0, Z0, rfl, n0, F0⟩ := r2
 have G3 := n0.size
 have j3 : ((((((([UInt8.ofNat 1]) ++ ([UInt8.ofNat v])) ++ ((((([0 ||| 128]) ++ ([0 ||| 128])) ++ ([0 ||| 128])) ++ ([0 ||| 128])) ++ ([4]))) ++ ((([UInt8.ofNat 1]) ++ (n32 a)) ++ ([UInt8.ofNat 1]))) ++ ((([UInt8.ofNat 1]) ++ (n32 b)) ++ ([UInt8.ofNat 1]))) ++ ((([UInt8.ofNat 1]) ++ (n32 b)) ++ ([UInt8.ofNat 1]))) ++ ((([UInt8.ofNat 1]) ++ (n32 b)) ++ ([UInt8.ofNat 1])) : List UInt8).length = 143 := (Own.blen F0)
 have z3 := F0.nilc
 obtain ⟨u3, a1, A2⟩ := F0.fz n0.ag
 have o0 : Fr (ge H0.heap.size) _ _ _ _ := a1.wk (fun x hx _ => F0.at x hx)
 have H3 := o0.size
 refine mv b0 rfl <| gv (r_extract (v := .slice X0 143 Z0) (eh b0 rfl) (by kernel_rfl)) <| gv (r_extract (v := nn 0) (eh b0 rfl) (by kernel_rfl)) <| ms b0 rfl <| ms b0 rfl <| nl <| n1 <| sk fun _ o1 => sk fun _ p1 => rn <| mv b0 rfl <| mw b0 W0 <| mv b0 rfl <| mv b0 rfl ?_
 have H1 := (((W1.f1 d0 (by omega)).f0 n0).fs o0 (show ¬ H0.heap.size ≤ P2 from by omega))
 have N2 := Fr.ll (Fr.ll (Fr.ll (Fr.ll (Fr.ll (Fr.ll (Fr.ll (Fr.ll (Fr.ll (Fr.ll (Fr.ll (Fr.ll (Fr.ll (Fr.ll (Fr.l2 C0 D0) s0) u0) A0) v0) B0) p0) w0) h0) m0) c0) i0) d0) n0) o0
 have B2 := R0.le N2
 refine gk (k_cl (f127 o0.ag H1 B2 A2 (rootB_r _ _ _)) rfl fn_127 (map_cons (eh b0 rfl) (map_cons (eh b0 rfl) (map_cons (eh b0 rfl) (map_cons (eh b0 rfl) map_nil)))) (fun X3 k4 s2 => ?_))
 obtain ⟨O2, rfl, z0⟩ := s2
 have I3 := z0.size
 refine gv (r_not (eh b0 rfl)) <| nl <| p1 <| cf (eh b0 rfl) <| ws <| o1 <| sk fun _ q1 => rn ?_
 have I1 := (((O0.f0 n0).fs o0 (show ¬ H0.heap.size ≤ Y0 from by omega)).f0 z0)
 refine gv (lb (cs := [nn v, nn 1073741824, .slice e0 1 g0, nn 1, .slice j0 1 k0, nn 1, .slice q0 1 r0, nn 1, .slice x0 1 y0, nn 1]) (eh b0 rfl) I1.bk qr_35 sz_35) ?_
 have J1 := (((((((((((((((((Q0.f0 C0).f1 D0 (by omega)).f0 s0).f1 u0 (by omega)).f1 A0 (by omega)).f1 v0 (by omega)).f1 B0 (by omega)).f1 p0 (by omega)).f1 w0 (by omega)).f1 h0 (by omega)).f1 m0 (by omega)).f1 c0 (by omega)).f1 i0 (by omega)).f1 d0 (by omega)).f0 n0).fs o0 (show ¬ H0.heap.size ≤ M0 from by omega)).f0 z0)
 refine gz (kt (L' := [nn v, nn 1073741824, .slice e0 1 g0, nn 1, .slice j0 1 k0, nn 1, .slice q0 1 r0, nn 1, .slice x0 1 y0, nn 1]) z0.ag (eh b0 rfl) (eh b0 rfl) J1 sz_35 (fun l4 j2 I0 => ?_))
 have J3 := I0.size
 refine gv (r_assign (v := nn 0) rfl) <| nl <| q1 <| wp_ret <| ret_of (res2ct (b := M0) (n := 10) (cs := [nn v, nn 1073741824, .slice e0 1 g0, nn 1, .slice j0 1 k0, nn 1, .slice q0 1 r0, nn 1, .slice x0 1 y0, nn 1]) (u := nn 0) rfl _ _ (gh b0 rfl) (gh b0 rfl) j2.bk (by kernel_rfl) (by kernel_rfl) qr_35 sz_35) ((ov_defers _ _).trans b1) ?_
 have G0 := Fr.ll (Fr.ll (Fr.l2 n0 o0) z0) I0
 have C2 := S0.le G0
 have D2 := T0.le G0
 have E2 := U0.le G0
 have F2 := V0.le G0
 exact ⟨O2, e0, g0, j0, k0, q0, r0, x0, y0, rfl, (((((((((((((((((((cu0.t0 E0).t0 C0).tn D0 (by omega)).t0 s0).tn u0 (by omega)).tn A0 (by omega)).tn v0 (by omega)).tn B0 (by omega)).tn p0 (by omega)).tn w0 (by omega)).tn h0 (by omega)).tn m0 (by omega)).tn c0 (by omega)).tn i0 (by omega)).tn d0 (by omega)).t0 n0).tg o0 (by omega)).t0 z0).tn I0 (by omega)), C2, D2, E2, F2⟩

theorem f76 {m : Ctx} {w : World} (ag : Ag m w) {c : Nat} {A : Option Addr} {v e : Nat} {h : Bytes} (hA : Sl m A 36 c 1 (bv (timeB v e h))) (hv1 : 1 ≤ v) (hv : v < 128) (he1 : 1 ≤ e) (he : e < 128) : Calls Tryz.prog 76 #[.slice A 36 c] w (Ret fun y w' => ∃ m', y = .tuple #[.agg ([nn v, nn e, nn v] ++ (hc h)).toArray, nn 0] ∧ Fr no m w m' w') := by
 refine enter Tryz.func76 rfl (fun u0 hT I0 => ?_)
 have b0 : u0.tmps.size = 35 := by rw [hT]; kernel_rfl
 have C0 : u0.tmps.getD 0 undef = .slice A 36 c := by rw [hT]; kernel_rfl
 clear hT
 have cu0 : Fr (no) m w m w := Fr.refl ag
 refine sk fun _ J0 => rn <| gk (k_alloc ag qz_53 (fun L2 v0 z0 q0 W1 => ?_))
 have v2 := q0.size
 have Y1 := z0.lt
 refine gv (r_assign (v := nn 0) rfl) <| nl <| J0 <| sk fun _ S0 => rn <| mw b0 C0 ?_
 have B0 := (hA.up q0)
 refine gk (k_cl (f124 q0.ag (k := 2) (Z := [UInt8.ofNat v] ++ ([UInt8.ofNat e] ++ ([UInt8.ofNat v] ++ (n32 h ++ ([]))))) B0 (by omega) (by omega) (by omega)) rfl fn_124 (map_cons (eh b0 rfl) (map_cons (v := nn 2) rfl map_nil)) (fun G2 H2 t1 => ?_))
 obtain ⟨c2, H1, I1, N1, rfl, p0, x0, g1, S1⟩ := t1
 have p2 := p0.size
 have Z1 := x0.lt
 refine ms b0 rfl <| nl <| S0 <| sk fun _ O0 => rn <| gk (k_alloc p0.ag qz_53 (fun M2 E0 y0 e0 V1 => ?_))
 have q2 := e0.size
 have X1 := y0.lt
 refine nl <| O0 <| sk fun _ P0 => rn <| mv b0 rfl ?_
 have B1 := (g1.up e0)
 have X0 := (x0.f0 e0)
 refine gk (k_cl (f125_s (v := v) e0.ag (Z := [UInt8.ofNat e] ++ ([UInt8.ofNat v] ++ (n32 h ++ ([])))) X0 B1 (by omega) (by omega) (by omega)) rfl fn_125 (map_cons (eh b0 rfl) map_nil) (fun C2 N2 v1 => ?_))
 obtain ⟨d2, J1, O1, rfl, j0, h1, i1⟩ := v1
 have r2 := j0.size
 refine gv (r_field (o' := 0) (eh b0 rfl) fo_53_0 (by rfl)) ?_
 have Y0 := (y0.f1 j0 (by omega))
 refine gz (kt (L' := [nn v, nn 0, nn 0] ++ (hc (List.replicate 32 0))) j0.ag (eh b0 rfl) (eh b0 rfl) Y0 sz_3 (fun O2 p1 g0 => ?_))
 have s2 := g0.size
 refine nl <| P0 <| sk fun _ Q0 => rn <| mv b0 rfl ?_
 have C1 := (i1.up g0)
 have Z0 := (h1.f1 g0 (by omega))
 refine gk (k_cl (f125_s (v := e) g0.ag (Z := [UInt8.ofNat v] ++ (n32 h ++ ([]))) Z0 C1 (by omega) (by omega) (by omega)) rfl fn_125 (map_cons (eh b0 rfl) map_nil) (fun D2 P2 w1 => ?_))
 obtain ⟨e2, K1, P1, rfl, k0, j1, k1⟩ := w1
 have t2 := k0.size
 refine gv (r_field (o' := 1) (eh b0 rfl) fo_53_1 (by rfl)) ?_
 have a1 := (p1.f1 k0 (by omega))
 refine gz (kt (L' := [nn v, nn e, nn 0] ++ (hc (List.replicate 32 0))) k0.ag (eh b0 rfl) (eh b0 rfl) a1 sz_3 (fun Q2 q1 h0 => ?_))
 have u2 := h0.size
 refine nl <| Q0 <| sk fun _ R0 => rn <| mv b0 rfl ?_
 have D1 := (k1.up h0)
 have b1 := (j1.f1 h0 (by omega))
 refine gk (k_cl (f125_s (v := v) h0.ag (Z := n32 h ++ ([])) b1 D1 (by omega) (by omega) (by omega)) rfl fn_125 (map_cons (eh b0 rfl) map_nil) (fun E2 R2 x1 => ?_))
 obtain ⟨g2, L1, Q1, rfl, l0, l1, m1⟩ := x1
 have x2 := l0.size
 refine gv (r_field (o' := 2) (eh b0 rfl) fo_53_2 (by rfl)) ?_
 have c1 := (q1.f1 l0 (by omega))
 refine gz (kt (L' := [nn v, nn e, nn v] ++ (hc (List.replicate 32 0))) l0.ag (eh b0 rfl) (eh b0 rfl) c1 sz_3 (fun S2 r1 i0 => ?_))
 have y2 := i0.size
 refine nl <| R0 <| sk fun _ T0 => rn <| mv b0 rfl ?_
 have E1 := (m1.up i0)
 have d1 := (l1.f1 i0 (by omega))
 refine gk (k_cl (f128 i0.ag (Z := []) d1 E1 (by omega) (by omega)) rfl fn_128 (map_cons (eh b0 rfl) map_nil) (fun F2 T2 y1 => ?_))
 obtain ⟨h2, M1, R1, rfl, m0, n1, T1⟩ := y1
 have z2 := m0.size
 refine gv (r_field (o' := 3) (eh b0 rfl) fo_53_3 (by rfl)) ?_
 have e1 := (r1.f1 m0 (by omega))
 refine gz (kt (L' := [nn v, nn e, nn v] ++ (hc h)) m0.ag (eh b0 rfl) (eh b0 rfl) e1 sz_23 (fun s0 A0 n0 => ?_))
 have j2 := n0.size
 refine nl <| T0 <| sk fun _ K0 => rn <| gv (lb (cs := [nn v, nn e, nn v] ++ (hc h)) (eh b0 rfl) A0.bk qr_53 sz_53) <| gk (k_cl (f129 n0.ag (by omega) (by omega) (by omega) (by omega) (by omega) (by omega)) rfl fn_129 (map_cons (eh b0 rfl) map_nil) (fun A2 I2 s1 => ?_))
 obtain ⟨a2, D0, F0, rfl, c0, r0⟩ := s1
 have k2 := c0.size
 have U1 : ((((([UInt8.ofNat 2]) ++ ([UInt8.ofNat v])) ++ ([UInt8.ofNat e])) ++ ([UInt8.ofNat v])) ++ (n32 h) : List UInt8).length = 36 := (Own.blen r0)
 have i2 := r0.nilc
 obtain ⟨b2, G0, z1⟩ := r0.fz c0.ag
 have d0 : Fr (ge s0.heap.size) _ _ _ _ := G0.wk (fun x hx _ => r0.at x hx)
 have m2 := d0.size
 refine mv b0 rfl <| gv (r_extract (v := .slice D0 36 F0) (eh b0 rfl) (by kernel_rfl)) <| gv (r_extract (v := nn 0) (eh b0 rfl) (by kernel_rfl)) <| ms b0 rfl <| ms b0 rfl <| nl <| K0 <| sk fun _ L0 => sk fun _ M0 => rn <| mv b0 rfl <| mw b0 C0 <| mv b0 rfl <| mv b0 rfl ?_
 have U0 := (((n1.f1 n0 (by omega)).f0 c0).fs d0 (show ¬ s0.heap.size ≤ H1 from by omega))
 have F1 := Fr.ll (Fr.ll (Fr.ll (Fr.ll (Fr.ll (Fr.ll (Fr.ll (Fr.ll (Fr.ll (Fr.ll (Fr.l2 p0 e0) j0) g0) k0) h0) l0) i0) m0) n0) c0) d0
 have A1 := B0.le F1
 refine gk (k_cl (f127 d0.ag U0 A1 z1 (timeB_r _ _ _)) rfl fn_127 (map_cons (eh b0 rfl) (map_cons (eh b0 rfl) (map_cons (eh b0 rfl) (map_cons (eh b0 rfl) map_nil)))) (fun B2 J2 u1 => ?_))
 obtain ⟨G1, rfl, o0⟩ := u1
 have n2 := o0.size
 refine gv (r_not (eh b0 rfl)) <| nl <| M0 <| cf (eh b0 rfl) <| ws <| L0 <| sk fun _ N0 => rn ?_
 have V0 := (((A0.f0 c0).fs d0 (show ¬ s0.heap.size ≤ E0 from by omega)).f0 o0)
 refine gv (lb (cs := [nn v, nn e, nn v] ++ (hc h)) (eh b0 rfl) V0.bk qr_53 sz_53) ?_
 have H0 := p0.t0 e0
 have W0 := ((((((((((((z0.f0 H0).f1 j0 (by omega)).f1 g0 (by omega)).f1 k0 (by omega)).f1 h0 (by omega)).f1 l0 (by omega)).f1 i0 (by omega)).f1 m0 (by omega)).f1 n0 (by omega)).f0 c0).fs d0 (show ¬ s0.heap.size ≤ v0 from by omega)).f0 o0)
 refine gz (kt (L' := [nn v, nn e, nn v] ++ (hc h)) o0.ag (eh b0 rfl) (eh b0 rfl) W0 sz_53 (fun K2 o1 w0 => ?_))
 have o2 := w0.size
 refine gv (r_assign (v := nn 0) rfl) <| nl <| N0 <| wp_ret <| ret_of (res2ct (b := v0) (n := 35) (cs := [nn v, nn e, nn v] ++ (hc h)) (u := nn 0) rfl _ _ (gh b0 rfl) (gh b0 rfl) o1.bk (by kernel_rfl) (by kernel_rfl) qr_53 sz_53) ((ov_defers _ _).trans I0) ?_
 exact ⟨G1, rfl, (((((((((((((((cu0.t0 q0).t0 p0).t0 e0).tn j0 (by omega)).tn g0 (by omega)).tn k0 (by omega)).tn h0 (by omega)).tn l0 (by omega)).tn i0 (by omega)).tn m0 (by omega)).tn n0 (by omega)).t0 c0).tg d0 (by omega)).t0 o0).tn w0 (by omega))⟩

theorem f78 {m : Ctx} {w : World} (ag : Ag m w) {c : Nat} {A : Option Addr} {v e : Nat} (hA : Sl m A 9 c 1 (bv (snapB v e))) (hv1 : 1 ≤ v) (hv : v < 128) (he1 : 1 ≤ e) (he : e < 128) : Calls Tryz.prog 78 #[.slice A 9 c] w (Ret fun y w' => ∃ m' L lc, y = .tuple #[.agg ([nn v, nn e, .slice L 1 lc]).toArray, nn 0] ∧ Fr no m w m' w' ∧ Sl m' L 1 lc 2 [.string (⟨#[116, 111, 112]⟩ : ByteArray), nn v]) := by
 refine enter Tryz.func78 rfl (fun H0 hT a1 => ?_)
 have b0 : H0.tmps.size = 62 := by rw [hT]; kernel_rfl
 have U0 : H0.tmps.getD 0 undef = .slice A 9 c := by rw [hT]; kernel_rfl
 clear hT
 have cu0 : Fr (no) m w m w := Fr.refl ag
 refine sk fun _ b1 => rn <| gk (k_alloc ag qz_56 (fun N3 A0 O0 B0 J2 => ?_))
 have t3 := B0.size
 have N2 := O0.lt
 refine gv (r_assign (v := nn 0) rfl) <| nl <| b1 <| sk fun _ p1 => rn <| mw b0 U0 ?_
 have R0 := (hA.up B0)
 refine gk (k_cl (f124 B0.ag (k := 3) (Z := [UInt8.ofNat v] ++ ([UInt8.ofNat e] ++ ([UInt8.ofNat 1] ++ ([UInt8.ofNat 3] ++ ([116, 111, 112] ++ ([UInt8.ofNat v] ++ ([]))))))) R0 (by omega) (by omega) (by omega)) rfl fn_124 (map_cons (eh b0 rfl) (map_cons (v := nn 3) rfl map_nil)) (fun E3 F3 U1 => ?_))
 obtain ⟨Q2, G0, p2, y2, rfl, z0, J0, G1, F2⟩ := U1
 have n3 := z0.size
 have P2 := J0.lt
 refine ms b0 rfl <| nl <| p1 <| sk fun _ j1 => rn <| gk (k_alloc z0.ag qz_56 (fun O3 E0 N0 o0 I2 => ?_))
 have o3 := o0.size
 have M2 := N0.lt
 refine nl <| j1 <| sk fun _ k1 => rn <| mv b0 rfl ?_
 have g2 := (G1.up o0)
 have A1 := (J0.f0 o0)
 refine gk (k_cl (f125_s (v := v) o0.ag (Z := [UInt8.ofNat e] ++ ([UInt8.ofNat 1] ++ ([UInt8.ofNat 3] ++ ([116, 111, 112] ++ ([UInt8.ofNat v] ++ ([])))))) A1 g2 (by omega) (by omega) (by omega)) rfl fn_125 (map_cons (eh b0 rfl) map_nil) (fun A3 P3 X1 => ?_))
 obtain ⟨U2, q2, z2, rfl, v0, H1, I1⟩ := X1
 have p3 := v0.size
 refine gv (r_field (o' := 0) (eh b0 rfl) fo_56_0 (by rfl)) ?_
 have B1 := (N0.f1 v0 (by omega))
 refine gz (kt (L' := [nn v, nn 0, .slice none 0 0]) v0.ag (eh b0 rfl) (eh b0 rfl) B1 sz_3 (fun Q3 R1 p0 => ?_))
 have q3 := p0.size
 refine nl <| k1 <| sk fun _ l1 => rn <| mv b0 rfl ?_
 have h2 := (I1.up p0)
 have C1 := (H1.f1 p0 (by omega))
 refine gk (k_cl (f125_s (v := e) p0.ag (Z := [UInt8.ofNat 1] ++ ([UInt8.ofNat 3] ++ ([116, 111, 112] ++ ([UInt8.ofNat v] ++ ([]))))) C1 h2 (by omega) (by omega) (by omega)) rfl fn_125 (map_cons (eh b0 rfl) map_nil) (fun B3 R3 Y1 => ?_))
 obtain ⟨V2, r2, A2, rfl, w0, J1, K1⟩ := Y1
 have r3 := w0.size
 refine gv (r_field (o' := 1) (eh b0 rfl) fo_56_1 (by rfl)) ?_
 have D1 := (R1.f1 w0 (by omega))
 refine gz (kt (L' := [nn v, nn e, .slice none 0 0]) w0.ag (eh b0 rfl) (eh b0 rfl) D1 sz_3 (fun S3 S1 q0 => ?_))
 have s3 := q0.size
 refine nl <| l1 <| sk fun _ m1 => rn <| mv b0 rfl ?_
 have i2 := (K1.up q0)
 have E1 := (J1.f1 q0 (by omega))
 refine gk (k_cl (f125_s (v := 1) q0.ag (Z := [UInt8.ofNat 3] ++ ([116, 111, 112] ++ ([UInt8.ofNat v] ++ ([])))) E1 i2 (by omega) (by omega) (by omega)) rfl fn_125 (map_cons (eh b0 rfl) map_nil) (fun C3 T3 Z1 => ?_))
 obtain ⟨W2, s2, B2, rfl, x0, K0, L1⟩ := Z1
 have u3 := x0.size
 refine ms b0 rfl <| nl <| m1 <| sk fun _ n1 => sk fun _ o1 => rn <| gv (r_assign (v := nn 0) rfl) <| nl <| o1 <| bl <| wp_unroll (n := 5) <| un_step (n := 4) <| sk fun _ q1 => sk fun _ r1 => rn <| mv b0 rfl <| mv b0 rfl <| gv (r_lss (eh b0 rfl) (eh b0 rfl)) <| mv b0 rfl <| sg (t := 24) rfl rfl b0 (eb b0 rfl (by decide)) (kv (r_move (eh b0 rfl)) ?_)
 refine sg (t := 24) rfl rfl b0 (eb b0 rfl (by decide)) (kv (r_nilCheck (eh b0 rfl)) ?_)
 refine sg (t := 24) rfl rfl b0 (eb b0 rfl (by decide)) (kv (r_field (o' := 1) (eh b0 rfl) fo_208_1 (by rfl)) ?_)
 refine sg (t := 24) rfl rfl b0 (eb b0 rfl (by decide)) (kv (la (v := .bool false) (eh b0 rfl) K0.bk qr_4) ?_)
 refine sg (t := 24) rfl rfl b0 (eb b0 rfl (by decide)) (kv (r_not (eh b0 rfl)) ?_)
 refine gv (r_pick_t (eb b0 rfl (by decide)) (eh b0 rfl)) <| mv b0 rfl <| sg (t := 31) rfl rfl b0 (eh b0 rfl) (kv (r_move (eh b0 rfl)) ?_)
 refine sg (t := 31) rfl rfl b0 (eh b0 rfl) (kv (r_leq (j := 16) (eh b0 rfl) rfl) ?_)
 refine gv (r_pick_t (eh b0 rfl) (eh b0 rfl)) <| nl <| r1 <| cd b0 rfl <| ws <| q1 <| sk fun _ s1 => bl <| sk fun _ t1 => rn <| mv b0 rfl <| gk (k_cl (f131 x0.ag (Z := [UInt8.ofNat v] ++ ([])) K0 L1 (by omega) (by omega)) rfl fn_131 (map_cons (eh b0 rfl) map_nil) (fun D3 U3 a2 => ?_))
 obtain ⟨X2, t2, C2, rfl, y0, M1, N1⟩ := a2
 have v3 := y0.size
 refine gv (r_build (cs := [.string (⟨#[116, 111, 112]⟩ : ByteArray), nn 0]) (pm_cons (eh b0 rfl) pm_nil) (by kernel_rfl)) <| gk (k_alloc y0.ag qz_85 (fun V3 v2 P0 h0 K2 => ?_))
 have w3 := h0.size
 have O2 := P0.lt
 refine gz (kt (L' := [.string (⟨#[116, 111, 112]⟩ : ByteArray), nn 0]) h0.ag (eh b0 rfl) (eh b0 rfl) P0 sz_85 (fun G3 O1 d0 => ?_))
 have a3 := d0.size
 refine nl <| t1 <| sk fun _ c1 => rn <| mv b0 rfl ?_
 have b2 := ((N1.up h0).up d0)
 have u1 := ((M1.f0 h0).f1 d0 (by omega))
 refine gk (k_cl (f125_s (v := v) d0.ag (Z := []) u1 b2 (by omega) (by omega) (by omega)) rfl fn_125 (map_cons (eh b0 rfl) map_nil) (fun x3 H3 T1 => ?_))
 obtain ⟨m2, o2, x2, rfl, i0, F1, E2⟩ := T1
 have c3 := i0.size
 refine gv (r_field (o' := 1) (eh b0 rfl) fo_85_1 (by rfl)) ?_
 have v1 := (O1.f1 i0 (by omega))
 refine gz (kt (L' := [.string (⟨#[116, 111, 112]⟩ : ByteArray), nn v]) i0.ag (eh b0 rfl) (eh b0 rfl) v1 sz_3 (fun I3 P1 j0 => ?_))
 have d3 := j0.size
 refine nl <| c1 <| rn <| gv (r_field (o' := 2) (eh b0 rfl) fo_56_2 (by rfl)) ?_
 have I0 := ((((((S1.f1 x0 (by omega)).f1 y0 (by omega)).f0 h0).f1 d0 (by omega)).f1 i0 (by omega)).f1 j0 (by omega))
 refine gv (la (v := .slice none 0 0) (eh b0 rfl) I0.bk qr_54) <| gv (lb (cs := [.string (⟨#[116, 111, 112]⟩ : ByteArray), nn v]) (eh b0 rfl) P1.bk qr_85 sz_85) <| gk (k_lit (e := 85) (L := [.string (⟨#[116, 111, 112]⟩ : ByteArray), nn v]) j0.ag (pm_cons (eh b0 rfl) pm_nil) (by kernel_rfl) (fun c0 u2 L0 k0 H2 => ?_))
 have e3 := k0.size
 have L2 := L0.lt
 refine gk (k_append0 (base := c0.heap.size) (N := [.string (⟨#[116, 111, 112]⟩ : ByteArray), nn v]) k0.ag (eh b0 rfl) (eh b0 rfl) qs_54 qz_85 (Own.nil m2 c0 (c0.heap.size) 85 2) (L0.bk.src (L := [.string (⟨#[116, 111, 112]⟩ : ByteArray), nn v]) (n := 1) (o := 0) (k := 2) (by kernel_rfl)) (fun h => by cases h) (by kernel_rfl) (by kernel_rfl) (by omega) (by decide) (by rw [maxLen_eq]; omega) (by omega) (fun r0 s0 J3 Q0 l0 => ?_))
 have g3 := l0.size
 have Y2 := Q0.nilc
 refine gv (r_field (o' := 2) (eh b0 rfl) fo_56_2 (by rfl)) ?_
 have w1 := ((I0.f0 k0).fs l0 (show ¬ c0.heap.size ≤ E0 from by omega))
 refine gz (kt (L' := [nn v, nn e, .slice r0 1 s0]) l0.ag (eh b0 rfl) (eh b0 rfl) w1 sz_54 (fun D0 M0 m0 => ?_))
 have h3 := m0.size
 refine nl <| s1 <| rn <| mv b0 rfl <| gv (r_add (j := 1) (eh b0 rfl) rfl (by decide)) <| ms b0 rfl <| nl <| un_next <| un_step (n := 3) <| sk fun _ D2 => sk fun _ d1 => rn <| mv b0 rfl <| mv b0 rfl <| gv (r_lss (eh b0 rfl) (eh b0 rfl)) <| mv b0 rfl <| sf (t := 24) (c := false) rfl rfl b0 (eb b0 rfl (by decide)) <| sf (t := 24) (c := false) rfl rfl b0 (eb b0 rfl (by decide)) <| sf (t := 24) (c := false) rfl rfl b0 (eb b0 rfl (by decide)) <| sf (t := 24) (c := false) rfl rfl b0 (eb b0 rfl (by decide)) <| sf (t := 24) (c := false) rfl rfl b0 (eb b0 rfl (by decide)) <| gv (r_pick_f (v := .bool false) (eb b0 rfl (by decide)) rfl) <| mv b0 rfl <| sf (t := 31) (c := false) rfl rfl b0 (eh b0 rfl) <| sf (t := 31) (c := false) rfl rfl b0 (eh b0 rfl) <| gv (r_pick_f (v := .bool false) (eh b0 rfl) rfl) <| nl <| d1 <| cf (eh b0 rfl) <| we <| n1 <| sk fun _ e1 => rn <| gv (lb (cs := [nn v, nn e, .slice r0 1 s0]) (eh b0 rfl) M0.bk qr_56 sz_56) ?_
 have S0 := (Q0.f1 m0 (by omega))
 obtain ⟨R2, X0, T0⟩ := S0.fz m0.ag
 have n0 : Fr (ge c0.heap.size) _ _ _ _ := X0.wk (fun x hx _ => S0.at x hx)
 have i3 := n0.size
 refine gk (k_cl (f132 n0.ag T0 (by omega) (by omega) (by omega) (by omega) (by omega) (by omega)) rfl fn_132 (map_cons (eh b0 rfl) map_nil) (fun y3 K3 V1 => ?_))
 obtain ⟨S2, V0, W0, rfl, e0, C0⟩ := V1
 have j3 := e0.size
 have G2 : (((((([UInt8.ofNat 3]) ++ ([UInt8.ofNat v])) ++ ([UInt8.ofNat e])) ++ ([UInt8.ofNat 1])) ++ (([UInt8.ofNat 3]) ++ ([116, 111, 112]))) ++ ([UInt8.ofNat v]) : List UInt8).length = 4 + (1 + 3) + 1 := (Own.blen C0)
 have Z2 := C0.nilc
 obtain ⟨T2, Y0, c2⟩ := C0.fz e0.ag
 have g0 : Fr (ge D0.heap.size) _ _ _ _ := Y0.wk (fun x hx _ => C0.at x hx)
 have k3 := g0.size
 refine mv b0 rfl <| gv (r_extract (v := .slice V0 (4 + (1 + 3) + 1) W0) (eh b0 rfl) (by kernel_rfl)) <| gv (r_extract (v := nn 0) (eh b0 rfl) (by kernel_rfl)) <| ms b0 rfl <| ms b0 rfl <| nl <| e1 <| sk fun _ g1 => sk fun _ h1 => rn <| mv b0 rfl <| mw b0 U0 <| mv b0 rfl <| mv b0 rfl ?_
 have x1 := (((((((F1.f1 j0 (by omega)).f0 k0).fs l0 (show ¬ c0.heap.size ≤ G0 from by omega)).f1 m0 (by omega)).fs n0 (show ¬ c0.heap.size ≤ G0 from by omega)).f0 e0).fs g0 (show ¬ D0.heap.size ≤ G0 from by omega))
 have j2 := Fr.ll (Fr.ll (Fr.ll (Fr.ll (Fr.ll (Fr.ll (Fr.ll (Fr.ll (Fr.ll (Fr.ll (Fr.ll (Fr.ll (Fr.ll (Fr.ll (Fr.ll (Fr.ll (Fr.l2 z0 o0) v0) p0) w0) q0) x0) y0) h0) d0) i0) j0) k0) l0) m0) n0) e0) g0
 have d2 := R0.le j2
 refine gk (k_cl (f127 g0.ag x1 d2 c2 (snapB_r _ _)) rfl fn_127 (map_cons (eh b0 rfl) (map_cons (eh b0 rfl) (map_cons (eh b0 rfl) (map_cons (eh b0 rfl) map_nil)))) (fun z3 L3 W1 => ?_))
 obtain ⟨n2, rfl, u0⟩ := W1
 have l3 := u0.size
 refine gv (r_not (eh b0 rfl)) <| nl <| h1 <| cf (eh b0 rfl) <| ws <| g1 <| sk fun _ i1 => rn ?_
 have y1 := ((((M0.fs n0 (show ¬ c0.heap.size ≤ E0 from by omega)).f0 e0).fs g0 (show ¬ D0.heap.size ≤ E0 from by omega)).f0 u0)
 refine gv (lb (cs := [nn v, nn e, .slice r0 1 s0]) (eh b0 rfl) y1.bk qr_56 sz_56) ?_
 have Z0 := z0.t0 o0
 have z1 := ((((((((((((((((((O0.f0 Z0).f1 v0 (by omega)).f1 p0 (by omega)).f1 w0 (by omega)).f1 q0 (by omega)).f1 x0 (by omega)).f1 y0 (by omega)).f0 h0).f1 d0 (by omega)).f1 i0 (by omega)).f1 j0 (by omega)).f0 k0).fs l0 (show ¬ c0.heap.size ≤ A0 from by omega)).f1 m0 (by omega)).fs n0 (show ¬ c0.heap.size ≤ A0 from by omega)).f0 e0).fs g0 (show ¬ D0.heap.size ≤ A0 from by omega)).f0 u0)
 refine gz (kt (L' := [nn v, nn e, .slice r0 1 s0]) u0.ag (eh b0 rfl) (eh b0 rfl) z1 sz_56 (fun M3 Q1 F0 => ?_))
 have m3 := F0.size
 refine gv (r_assign (v := nn 0) rfl) <| nl <| i1 <| wp_ret <| ret_of (res2ct (b := A0) (n := 3) (cs := [nn v, nn e, .slice r0 1 s0]) (u := nn 0) rfl _ _ (gh b0 rfl) (gh b0 rfl) Q1.bk (by kernel_rfl) (by kernel_rfl) qr_56 sz_56) ((ov_defers _ _).trans a1) ?_
 have k2 := Fr.ll (Fr.ll (Fr.l2 e0 g0) u0) F0
 have e2 := T0.le k2
 exact ⟨n2, r0, s0, rfl, (((((((((((((((((((((cu0.t0 B0).t0 z0).t0 o0).tn v0 (by omega)).tn p0 (by omega)).tn w0 (by omega)).tn q0 (by omega)).tn x0 (by omega)).tn y0 (by omega)).t0 h0).tn d0 (by omega)).tn i0 (by omega)).tn j0 (by omega)).t0 k0).tg l0 (by omega)).tn m0 (by omega)).tg n0 (by omega)).t0 e0).tg g0 (by omega)).t0 u0).tn F0 (by omega)), e2⟩

theorem f80 {m : Ctx} {w : World} (ag : Ag m w) {c : Nat} {A : Option Addr} {v e : Nat} (hA : Sl m A 9 c 1 (bv (targB v e))) (hv1 : 1 ≤ v) (hv : v < 128) (he1 : 1 ≤ e) (he : e < 128) : Calls Tryz.prog 80 #[.slice A 9 c] w (Ret fun y w' => ∃ m', y = .tuple #[.agg ([.string (⟨#[116, 111, 112]⟩ : ByteArray), nn v, nn e, .slice none 0 0, .slice none 0 0]).toArray, nn 0] ∧ Fr no m w m' w') := by
 refine enter Tryz.func80 rfl (fun u0 hT H0 => ?_)
 have b0 : u0.tmps.size = 85 := by rw [hT]; kernel_rfl
 have C0 : u0.tmps.getD 0 undef = .slice A 9 c := by rw [hT]; kernel_rfl
 clear hT
 have cu0 : Fr (no) m w m w := Fr.refl ag
 refine sk fun _ I0 => rn <| gk (k_alloc ag qz_82 (fun V2 v0 A0 q0 e2 => ?_))
 have F2 := q0.size
 have g2 := A0.lt
 refine gv (r_assign (v := nn 0) rfl) <| nl <| I0 <| sk fun _ U0 => rn <| mw b0 C0 ?_
 have B0 := (hA.up q0)
 refine gk (k_cl (f124 q0.ag (k := 4) (Z := [UInt8.ofNat 3] ++ ([116, 111, 112] ++ ([UInt8.ofNat v] ++ ([UInt8.ofNat e] ++ ([UInt8.ofNat 0] ++ ([UInt8.ofNat 0] ++ ([]))))))) B0 (by omega) (by omega) (by omega)) rfl fn_124 (map_cons (eh b0 rfl) (map_cons (v := nn 4) rfl map_nil)) (fun P2 R2 w1 => ?_))
 obtain ⟨n2, L1, N1, T1, rfl, o0, y0, j1, b2⟩ := w1
 have z2 := o0.size
 have i2 := y0.lt
 refine ms b0 rfl <| nl <| U0 <| sk fun _ Q0 => rn <| mv b0 rfl <| gk (k_cl (f131 o0.ag (Z := [UInt8.ofNat v] ++ ([UInt8.ofNat e] ++ ([UInt8.ofNat 0] ++ ([UInt8.ofNat 0] ++ ([]))))) y0 j1 (by omega) (by omega)) rfl fn_131 (map_cons (eh b0 rfl) map_nil) (fun L2 W2 z1 => ?_))
 obtain ⟨o2, O1, U1, rfl, p0, k1, l1⟩ := z1
 have A2 := p0.size
 refine gv (r_build (cs := [.string (⟨#[116, 111, 112]⟩ : ByteArray), nn 0, nn 0, .slice none 0 0, .slice none 0 0]) (pm_cons (eh b0 rfl) pm_nil) (by kernel_rfl)) <| gk (k_alloc p0.ag qz_82 (fun X2 E0 z0 e0 d2 => ?_))
 have B2 := e0.size
 have h2 := z0.lt
 refine gz (kt (L' := [.string (⟨#[116, 111, 112]⟩ : ByteArray), nn 0, nn 0, .slice none 0 0, .slice none 0 0]) e0.ag (eh b0 rfl) (eh b0 rfl) z0 sz_82 (fun Y2 t1 g0 => ?_))
 have C2 := g0.size
 refine nl <| Q0 <| sk fun _ R0 => rn <| mv b0 rfl ?_
 have G1 := ((l1.up e0).up g0)
 have c1 := ((k1.f0 e0).f1 g0 (by omega))
 refine gk (k_cl (f125_s (v := v) g0.ag (Z := [UInt8.ofNat e] ++ ([UInt8.ofNat 0] ++ ([UInt8.ofNat 0] ++ ([])))) c1 G1 (by omega) (by omega) (by omega)) rfl fn_125 (map_cons (eh b0 rfl) map_nil) (fun M2 Z2 A1 => ?_))
 obtain ⟨p2, P1, V1, rfl, k0, m1, n1⟩ := A1
 have D2 := k0.size
 refine gv (r_field (o' := 1) (eh b0 rfl) fo_82_1 (by rfl)) ?_
 have d1 := (t1.f1 k0 (by omega))
 refine gz (kt (L' := [.string (⟨#[116, 111, 112]⟩ : ByteArray), nn v, nn 0, .slice none 0 0, .slice none 0 0]) k0.ag (eh b0 rfl) (eh b0 rfl) d1 sz_3 (fun a3 u1 h0 => ?_))
 have E2 := h0.size
 refine nl <| R0 <| sk fun _ S0 => rn <| mv b0 rfl ?_
 have H1 := (n1.up h0)
 have e1 := (m1.f1 h0 (by omega))
 refine gk (k_cl (f125_s (v := e) h0.ag (Z := [UInt8.ofNat 0] ++ ([UInt8.ofNat 0] ++ ([]))) e1 H1 (by omega) (by omega) (by omega)) rfl fn_125 (map_cons (eh b0 rfl) map_nil) (fun N2 c3 B1 => ?_))
 obtain ⟨q2, Q1, W1, rfl, l0, o1, p1⟩ := B1
 have G2 := l0.size
 refine gv (r_field (o' := 2) (eh b0 rfl) fo_82_2 (by rfl)) ?_
 have g1 := (u1.f1 l0 (by omega))
 refine gz (kt (L' := [.string (⟨#[116, 111, 112]⟩ : ByteArray), nn v, nn e, .slice none 0 0, .slice none 0 0]) l0.ag (eh b0 rfl) (eh b0 rfl) g1 sz_3 (fun d3 v1 i0 => ?_))
 have H2 := i0.size
 refine nl <| S0 <| sk fun _ T0 => rn <| mv b0 rfl ?_
 have I1 := (p1.up i0)
 have h1 := (o1.f1 i0 (by omega))
 refine gk (k_cl (f125_s (v := 0) i0.ag (Z := [UInt8.ofNat 0] ++ ([])) h1 I1 (by omega) (by omega) (by omega)) rfl fn_125 (map_cons (eh b0 rfl) map_nil) (fun O2 e3 C1 => ?_))
 obtain ⟨r2, R1, X1, rfl, m0, q1, r1⟩ := C1
 have I2 := m0.size
 refine ms b0 rfl <| nl <| T0 <| sk fun _ V0 => sk fun _ W0 => rn <| gv (r_assign (v := nn 0) rfl) <| nl <| W0 <| bl <| wp_unroll (n := 5) <| un_step (n := 4) <| sk fun _ Z1 => sk fun _ X0 => rn <| mv b0 rfl <| mv b0 rfl <| gv (r_lss (eh b0 rfl) (eh b0 rfl)) <| mv b0 rfl <| sf (t := 27) (c := false) rfl rfl b0 (eb b0 rfl (by decide)) <| sf (t := 27) (c := false) rfl rfl b0 (eb b0 rfl (by decide)) <| sf (t := 27) (c := false) rfl rfl b0 (eb b0 rfl (by decide)) <| sf (t := 27) (c := false) rfl rfl b0 (eb b0 rfl (by decide)) <| sf (t := 27) (c := false) rfl rfl b0 (eb b0 rfl (by decide)) <| gv (r_pick_f (v := .bool false) (eb b0 rfl (by decide)) rfl) <| mv b0 rfl <| sf (t := 34) (c := false) rfl rfl b0 (eh b0 rfl) <| sf (t := 34) (c := false) rfl rfl b0 (eh b0 rfl) <| gv (r_pick_f (v := .bool false) (eh b0 rfl) rfl) <| nl <| X0 <| cf (eh b0 rfl) <| we <| V0 <| sk fun _ Y0 => rn <| mv b0 rfl <| gk (k_cl (f125_s (v := 0) m0.ag (Z := []) q1 r1 (by omega) (by omega) (by omega)) rfl fn_125 (map_cons (eh b0 rfl) map_nil) (fun Q2 s0 D1 => ?_))
 obtain ⟨j2, M1, S1, rfl, j0, i1, a2⟩ := D1
 have t2 := j0.size
 refine ms b0 rfl <| nl <| Y0 <| sk fun _ J0 => sk fun _ K0 => rn <| gv (r_assign (v := nn 0) rfl) <| nl <| K0 <| bl <| wp_unroll (n := 5) <| un_step (n := 4) <| sk fun _ Y1 => sk fun _ L0 => rn <| mv b0 rfl <| mv b0 rfl <| gv (r_lss (eh b0 rfl) (eh b0 rfl)) <| mv b0 rfl <| sf (t := 52) (c := false) rfl rfl b0 (eb b0 rfl (by decide)) <| sf (t := 52) (c := false) rfl rfl b0 (eb b0 rfl (by decide)) <| sf (t := 52) (c := false) rfl rfl b0 (eb b0 rfl (by decide)) <| sf (t := 52) (c := false) rfl rfl b0 (eb b0 rfl (by decide)) <| sf (t := 52) (c := false) rfl rfl b0 (eb b0 rfl (by decide)) <| gv (r_pick_f (v := .bool false) (eb b0 rfl (by decide)) rfl) <| mv b0 rfl <| sf (t := 59) (c := false) rfl rfl b0 (eh b0 rfl) <| sf (t := 59) (c := false) rfl rfl b0 (eh b0 rfl) <| gv (r_pick_f (v := .bool false) (eh b0 rfl) rfl) <| nl <| L0 <| cf (eh b0 rfl) <| we <| J0 <| sk fun _ M0 => rn ?_
 have x0 := ((v1.f1 m0 (by omega)).f1 j0 (by omega))
 refine gv (lb (cs := [.string (⟨#[116, 111, 112]⟩ : ByteArray), nn v, nn e, .slice none 0 0, .slice none 0 0]) (eh b0 rfl) x0.bk qr_82 sz_82) <| gk (k_cl (f135 j0.ag (by omega) (by omega) (by omega) (by omega)) rfl fn_135 (map_cons (eh b0 rfl) map_nil) (fun J2 S2 x1 => ?_))
 obtain ⟨k2, D0, F0, rfl, c0, r0⟩ := x1
 have u2 := c0.size
 have c2 : (((([UInt8.ofNat 4]) ++ (([UInt8.ofNat 3]) ++ ([116, 111, 112]))) ++ ((([UInt8.ofNat v]) ++ ([UInt8.ofNat e])) ++ ([UInt8.ofNat 0]))) ++ ([UInt8.ofNat 0]) : List UInt8).length = 1 + (1 + 3) + 3 + 1 := (Own.blen r0)
 have s2 := r0.nilc
 obtain ⟨m2, G0, E1⟩ := r0.fz c0.ag
 have d0 : Fr (ge s0.heap.size) _ _ _ _ := G0.wk (fun x hx _ => r0.at x hx)
 have v2 := d0.size
 refine mv b0 rfl <| gv (r_extract (v := .slice D0 (1 + (1 + 3) + 3 + 1) F0) (eh b0 rfl) (by kernel_rfl)) <| gv (r_extract (v := nn 0) (eh b0 rfl) (by kernel_rfl)) <| ms b0 rfl <| ms b0 rfl <| nl <| M0 <| sk fun _ N0 => sk fun _ O0 => rn <| mv b0 rfl <| mw b0 C0 <| mv b0 rfl <| mv b0 rfl ?_
 have Z0 := ((i1.f0 c0).fs d0 (show ¬ s0.heap.size ≤ L1 from by omega))
 have J1 := Fr.ll (Fr.ll (Fr.ll (Fr.ll (Fr.ll (Fr.ll (Fr.ll (Fr.ll (Fr.ll (Fr.ll (Fr.l2 o0 p0) e0) g0) k0) h0) l0) i0) m0) j0) c0) d0
 have F1 := B0.le J1
 refine gk (k_cl (f127 d0.ag Z0 F1 E1 (targB_r _ _)) rfl fn_127 (map_cons (eh b0 rfl) (map_cons (eh b0 rfl) (map_cons (eh b0 rfl) (map_cons (eh b0 rfl) map_nil)))) (fun K2 T2 y1 => ?_))
 obtain ⟨K1, rfl, n0⟩ := y1
 have x2 := n0.size
 refine gv (r_not (eh b0 rfl)) <| nl <| O0 <| cf (eh b0 rfl) <| ws <| N0 <| sk fun _ P0 => rn ?_
 have a1 := (((x0.f0 c0).fs d0 (show ¬ s0.heap.size ≤ E0 from by omega)).f0 n0)
 refine gv (lb (cs := [.string (⟨#[116, 111, 112]⟩ : ByteArray), nn v, nn e, .slice none 0 0, .slice none 0 0]) (eh b0 rfl) a1.bk qr_82 sz_82) ?_
 have b1 := (((((((((((((A0.f0 o0).f1 p0 (by omega)).f0 e0).f1 g0 (by omega)).f1 k0 (by omega)).f1 h0 (by omega)).f1 l0 (by omega)).f1 i0 (by omega)).f1 m0 (by omega)).f1 j0 (by omega)).f0 c0).fs d0 (show ¬ s0.heap.size ≤ v0 from by omega)).f0 n0)
 refine gz (kt (L' := [.string (⟨#[116, 111, 112]⟩ : ByteArray), nn v, nn e, .slice none 0 0, .slice none 0 0]) n0.ag (eh b0 rfl) (eh b0 rfl) b1 sz_82 (fun U2 s1 w0 => ?_))
 have y2 := w0.size
 refine gv (r_assign (v := nn 0) rfl) <| nl <| P0 <| wp_ret <| ret_of (res2ct (b := v0) (n := 5) (cs := [.string (⟨#[116, 111, 112]⟩ : ByteArray), nn v, nn e, .slice none 0 0, .slice none 0 0]) (u := nn 0) rfl _ _ (gh b0 rfl) (gh b0 rfl) s1.bk (by kernel_rfl) (by kernel_rfl) qr_82 sz_82) ((ov_defers _ _).trans H0) ?_
 exact ⟨K1, rfl, (((((((((((((((cu0.t0 q0).t0 o0).tn p0 (by omega)).t0 e0).tn g0 (by omega)).tn k0 (by omega)).tn h0 (by omega)).tn l0 (by omega)).tn i0 (by omega)).tn m0 (by omega)).tn j0 (by omega)).t0 c0).tg d0 (by omega)).t0 n0).tn w0 (by omega))⟩

end Go.Proofs.YtiggfalelcepbaaGreatDoor

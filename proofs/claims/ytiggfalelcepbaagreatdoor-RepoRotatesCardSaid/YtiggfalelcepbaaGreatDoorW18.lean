/- The walks of chapter 16: Sign, Rotate, Bundle. -/
import Derived.Test.YtiggfalelcepbaaGreatDoorK7
import Derived.Test.YtiggfalelcepbaaGreatDoorSX
import Derived.Test.YtiggfalelcepbaaGreatDoorW17
import Derived.Test.YtiggfalelcepbaaGreatDoorTX
namespace Go.Proofs.YtiggfalelcepbaaGreatDoor
open Go
set_option maxRecDepth 100000
set_option maxHeartbeats 4000000
theorem f8 {m : Ctx} {w : World} (ag : Ag m w) {rb g sn e lc β : Nat} {s : Bytes} {k1 f0 f1 f2 f3 f4 f5 f6 f7 f8 f9 l0 l1 l2 l3 l4 l5 l6 l7 l8 l9 x0 x1 x2 x3 x4 x5 : Value} {LA : Option Addr} {k2 c2 u2 : Nat} {A2 : Option Addr} {s2 : Bytes} (hmR : Mu m w rb 76 (hc s ++ ([k1, .pointer (some ⟨k2, 0, none⟩), nn g, f0, f1, f2, f3, f4, f5, f6, f7, f8, f9, l0, l1, l2, l3, l4, l5, l6, l7, l8, l9, .slice none 0 0, nn sn, x0, x1, x2, x3, x4, x5, .slice LA 0 lc]))) (hmK2 : Mu m w k2 116 (hc s2 ++ ([.slice A2 16 c2, nn u2]))) (hl2 : Sl m A2 16 c2 32 (hcs (lv s2))) (hLd : Own m w β LA 0 lc 128 37 []) (hbe : β ≤ w.heap.size) (hrk : rb ≠ k2) (hu : u2 ≤ 13) (hsn : sn < 100) (he1 : 1 ≤ e) (he : e < 128) : Calls Tryz.prog 8 #[.pointer (some ⟨rb, 0, none⟩), nn 0, nn e] w (Ret fun y w' => ∃ m' A5 c5 D5 d5 A6 c6 D6 d6 A7 c7 D7 d7 TS tc LA' lc', y = nn 0 ∧ Fr (orS (on rb) (orS (on k2) (onA LA))) m w m' w' ∧ Mu m' w' rb 76 (hc s ++ ([k1, .pointer (some ⟨k2, 0, none⟩), nn g, f0, f1, f2, f3, f4, f5, f6, f7, f8, f9, l0, l1, l2, l3, l4, l5, l6, l7, l8, l9, .slice none 0 0, nn (sn + 1), x0, .slice A7 36 c7, .slice D7 1 d7, .slice A6 9 c6, .slice D6 1 d6, .slice TS 1 tc, .slice LA' 0 lc'])) ∧ Mu m' w' k2 116 (hc s2 ++ ([.slice A2 16 c2, nn (u2 + 1 + 1 + 1)])) ∧ Own m' w' β LA' 0 lc' 128 37 [] ∧ Sl m' TS 1 tc 2 ([.slice A5 9 c5, .slice D5 1 d5]) ∧ Env m' A5 9 c5 D5 d5 (targB (sn + 1) (0 + e)) s2 u2 ∧ Env m' A6 9 c6 D6 d6 (snapB (sn + 1) (0 + e)) s2 (u2 + 1) ∧ Env m' A7 36 c7 D7 d7 (timeB (sn + 1) (0 + e) (sha (snapB (sn + 1) (0 + e)))) s2 (u2 + 1 + 1)) := by
 refine enter Tryz.func8 rfl (fun P0 hT t2 => ?_)
 have b0 : P0.tmps.size = 138 := by rw [hT]; kernel_rfl
 have o0 : P0.tmps.getD 0 undef = .pointer (some ⟨rb, 0, none⟩) := by rw [hT]; kernel_rfl
 have Y0 : P0.tmps.getD 1 undef = nn 0 := by rw [hT]; kernel_rfl
 have p1 : P0.tmps.getD 2 undef = nn e := by rw [hT]; kernel_rfl
 clear hT
 have cu0 : Fr (orS (on rb) (orS (on k2) (onA LA))) m w m w := Fr.refl ag
 have lt_rb := hmR.lt
 have b4 := hmK2.lt
 have rl_LA := Own.lt hLd
 have na_rb_LA := Mu.nA hmR hLd (by decide)
 have na_k2_LA := Mu.nA hmK2 hLd (by decide)
 refine sk fun _ v2 => rn <| gv (r_assign (v := nn 0) rfl) <| nl <| v2 <| sk fun _ C2 => bl <| sk fun _ H2 => rn <| mw b0 o0 <| gv (r_eqlNil (eh b0 rfl) rfl qu_47) <| mv b0 rfl <| sg (t := 19) rfl rfl b0 (eh b0 rfl) (kv (r_move (em b0 rfl rfl Y0)) ?_)
 refine sg (t := 19) rfl rfl b0 (eh b0 rfl) (kv (r_lss (j := 0) (eh b0 rfl) rfl) ?_)
 refine gv (r_pick_f (eh b0 rfl) (eh b0 rfl)) <| mv b0 rfl <| sg (t := 23) rfl rfl b0 (eb b0 rfl (by decide)) (kv (r_move (em b0 rfl rfl Y0)) ?_)
 refine sg (t := 23) rfl rfl b0 (eb b0 rfl (by decide)) (kv (r_gtr (j := 1073741824) (eh b0 rfl) rfl) ?_)
 refine gv (r_pick_f (eb b0 rfl (by decide)) (eh b0 rfl)) <| mv b0 rfl <| sg (t := 27) rfl rfl b0 (eb b0 rfl (by decide)) (kv (r_move (em b0 rfl rfl p1)) ?_)
 refine sg (t := 27) rfl rfl b0 (eb b0 rfl (by decide)) (kv (r_lss (j := 0) (eh b0 rfl) rfl) ?_)
 refine gv (r_pick_f (eb b0 rfl (by decide)) (eh b0 rfl)) <| mv b0 rfl ?_
 have K0 : (decide (e < 0)) = false := (decide_eq_false (by omega))
 refine sg (t := 31) rfl rfl b0 (eb b0 rfl K0) (kv (r_move (em b0 rfl rfl p1)) ?_)
 refine sg (t := 31) rfl rfl b0 (eb b0 rfl K0) (kv (r_move (em b0 rfl rfl Y0)) ?_)
 refine sg (t := 31) rfl rfl b0 (eb b0 rfl K0) (kv (r_sub (i := 1073741824) rfl (eh b0 rfl) (by decide) (by decide)) ?_)
 refine sg (t := 31) rfl rfl b0 (eb b0 rfl K0) (kv (r_gtr (eh b0 rfl) (eh b0 rfl)) ?_)
 refine gv (r_pick_f (eb b0 rfl K0) (eh b0 rfl)) <| ms b0 rfl <| nl <| H2 ?_
 have P2 : (decide (1073741824 < e)) = false := (decide_eq_false (by omega))
 refine cf (eb b0 rfl P2) <| sk fun _ K2 => rn <| mw b0 o0 <| nc b0 rfl <| gv (r_field (o' := 32) (eh b0 rfl) fo_76_1 (by rfl)) <| gv (r_idxA (i := 1) (o' := 33) (eh b0 rfl) rfl qa_74 (by decide) (by rfl)) <| gv (la (v := .pointer (some ⟨k2, 0, none⟩)) (eh b0 rfl) hmR.bk qr_73) <| gk (k_cl (f22 ag hmK2 hl2) rfl fn_22 (map_cons (eh b0 rfl) map_nil) (fun S4 p5 t3 => ?_))
 obtain ⟨c4, rfl, y0⟩ := t3
 have q4 := y0.size
 refine gv (r_gtr (j := 13) (eh b0 rfl) rfl) <| ms b0 rfl <| nl <| K2 ?_
 have O2 : (decide (13 < u2)) = false := (decide_eq_false (by omega))
 refine cf (eb b0 rfl O2) <| ws <| C2 <| sk fun _ y2 => rn <| mw b0 o0 <| nc b0 rfl <| gv (r_field (o' := 56) (eh b0 rfl) fo_76_6 (by rfl)) ?_
 have g1 := (hmR.f0 y0)
 refine gv (la (v := nn sn) (eh b0 rfl) g1.bk qr_3) <| gv (r_add (j := 1) (eh b0 rfl) rfl (by omega)) <| nc b0 rfl <| gv (r_field (o' := 56) (eh b0 rfl) fo_76_6 (by rfl)) <| gz (kt (L' := hc s ++ ([k1, .pointer (some ⟨k2, 0, none⟩), nn g, f0, f1, f2, f3, f4, f5, f6, f7, f8, f9, l0, l1, l2, l3, l4, l5, l6, l7, l8, l9, .slice none 0 0, nn (sn + 1), x0, x1, x2, x3, x4, x5, .slice LA 0 lc])) y0.ag (eh b0 rfl) (eh b0 rfl) g1 sz_3 (fun e5 V0 E0 => ?_))
 have y4 := E0.size
 refine nl <| y2 <| sk fun _ D2 => rn <| mw b0 o0 <| nc b0 rfl <| gv (r_field (o' := 56) (eh b0 rfl) fo_76_6 (by rfl)) <| gv (la (v := nn (sn + 1)) (eh b0 rfl) V0.bk qr_3) <| mw b0 Y0 <| mw b0 p1 <| gv (r_add (eh b0 rfl) (eh b0 rfl) (by omega)) <| ms b0 rfl <| ms b0 rfl <| nl <| D2 <| sk fun _ E2 => rn <| mw b0 o0 <| nc b0 rfl <| gv (r_field (o' := 32) (eh b0 rfl) fo_76_1 (by rfl)) <| gv (r_idxA (i := 1) (o' := 33) (eh b0 rfl) rfl qa_74 (by decide) (by rfl)) <| gv (la (v := .pointer (some ⟨k2, 0, none⟩)) (eh b0 rfl) V0.bk qr_73) <| ms b0 rfl <| nl <| E2 <| sk fun _ F2 => rn <| mv b0 rfl <| mv b0 rfl <| mw b0 o0 <| nc b0 rfl <| gv (r_field (o' := 55) (eh b0 rfl) fo_76_5 (by rfl)) <| gv (la (v := .slice none 0 0) (eh b0 rfl) V0.bk qr_36) <| gv (r_build (cs := [.string (⟨#[116, 111, 112]⟩ : ByteArray), nn (sn + 1), nn (0 + e), .slice none 0 0, .slice none 0 0]) (pm_cons (v := .string (⟨#[116, 111, 112]⟩ : ByteArray)) rfl (pm_cons (eh b0 rfl) (pm_cons (eh b0 rfl) (pm_cons (eh b0 rfl) pm_nil)))) (by kernel_rfl)) <| gk (k_cl (f23r E0.ag (by omega) (by omega) (by omega)) rfl fn_23 (map_cons (eh b0 rfl) map_nil) (fun O4 g5 n3 => ?_))
 obtain ⟨T3, N0, R0, rfl, J0, X2⟩ := n3
 have D4 := J0.size
 refine mv b0 rfl <| gv (r_extract (v := .slice N0 9 R0) (eh b0 rfl) (by kernel_rfl)) <| gv (r_extract (v := nn 0) (eh b0 rfl) (by kernel_rfl)) <| ms b0 rfl <| ms b0 rfl <| nl <| F2 <| sk fun _ I2 => rn <| mv b0 rfl <| mv b0 rfl <| mv b0 rfl <| gv (r_build (cs := [.string (⟨#[116, 111, 112]⟩ : ByteArray), nn (sn + 1)]) (pm_cons (v := .string (⟨#[116, 111, 112]⟩ : ByteArray)) rfl (pm_cons (eh b0 rfl) pm_nil)) (by kernel_rfl)) <| gk (k_lit (e := 85) (L := [.string (⟨#[116, 111, 112]⟩ : ByteArray), nn (sn + 1)]) J0.ag (pm_cons (eh b0 rfl) pm_nil) (by kernel_rfl) (fun j5 b1 i1 F0 Y3 => ?_))
 have E4 := F0.size
 have a4 := i1.lt
 refine gv (r_build (cs := [nn (sn + 1), nn (0 + e), .slice (some ⟨b1, 0, none⟩) 1 1]) (pm_cons (eh b0 rfl) (pm_cons (eh b0 rfl) (pm_cons (eh b0 rfl) pm_nil))) (by kernel_rfl)) ?_
 obtain ⟨s0, H1⟩ := i1.fz F0.ag
 generalize cput T3 b1 _ = U3 at s0 H1
 have F4 := s0.size
 have L3 : Sl U3 (some ⟨b1, 0, none⟩) 1 1 2 ([.string (⟨#[116, 111, 112]⟩ : ByteArray), nn (sn + 1)]) := Sl.of (k := 2) H1 (by kernel_rfl) (by kernel_rfl) (by decide) (by decide)
 refine gk (k_cl (f24r s0.ag L3 (by omega) (by omega) (by omega) (by omega) (by omega)) rfl fn_24 (map_cons (eh b0 rfl) map_nil) (fun P4 k5 o3 => ?_))
 obtain ⟨h4, H0, I0, rfl, D0, F1⟩ := o3
 have G4 := D0.size
 refine mv b0 rfl <| gv (r_extract (v := .slice H0 9 I0) (eh b0 rfl) (by kernel_rfl)) <| gv (r_extract (v := nn 0) (eh b0 rfl) (by kernel_rfl)) <| ms b0 rfl <| ms b0 rfl <| nl <| I2 <| sk fun _ J2 => rn <| mv b0 rfl <| mv b0 rfl <| mv b0 rfl <| mv b0 rfl <| gk (k_cl (f26 D0.ag F1 (snapB_len _ _) (by omega)) rfl fn_26 (map_cons (eh b0 rfl) map_nil) (fun Q4 m5 p3 => ?_))
 obtain ⟨i4, rfl, z0⟩ := p3
 have H4 := z0.size
 refine gv (r_build (cs := [nn (sn + 1), nn (0 + e), nn (sn + 1)] ++ (hc (sha (snapB (sn + 1) (0 + e))))) (pm_cons (eh b0 rfl) (pm_cons (eh b0 rfl) (pm_cons (eh b0 rfl) (pm_cons (eh b0 rfl) pm_nil)))) (by kernel_rfl)) <| gk (k_cl (f25r z0.ag (by omega) (by omega) (by omega) (by omega) (by omega)) rfl fn_25 (map_cons (eh b0 rfl) map_nil) (fun R4 n5 q3 => ?_))
 obtain ⟨j4, O0, S0, rfl, A0, Y2⟩ := q3
 have I4 := A0.size
 refine mv b0 rfl <| gv (r_extract (v := .slice O0 36 S0) (eh b0 rfl) (by kernel_rfl)) <| gv (r_extract (v := nn 0) (eh b0 rfl) (by kernel_rfl)) <| ms b0 rfl <| ms b0 rfl <| nl <| J2 <| sk fun _ L2 => rn <| mw b0 o0 <| mv b0 rfl ?_
 have R3 := Fr.ll (Fr.ll (Fr.ll (Fr.ll (Fr.ll (Fr.ll (Fr.l2 y0 E0) J0) F0) s0) D0) z0) A0
 have V1 := hl2.le R3
 have T0 := J0.t0 F0
 have r2 := (D0.t0 z0).t0 A0
 have C1 := (((((hmK2.f0 y0).f1 E0 hrk.symm).f0 T0).f1 s0 (by omega)).f0 r2)
 refine gk (k_cl (f28 A0.ag C1 V1) rfl fn_28 (map_cons (eh b0 rfl) map_nil) (fun T4 o5 r3 => ?_))
 obtain ⟨k4, rfl, u0⟩ := r3
 have J4 := u0.size
 refine mv b0 rfl <| gv (r_makeFunc (map_cons (eh b0 rfl) map_nil) map_nil) <| mv b0 rfl ?_
 have W1 := (V1.up u0)
 have D1 := (C1.f0 u0)
 have S3 := Fr.ll (Fr.ll (Fr.ll (Fr.ll (Fr.l2 F0 s0) D0) z0) A0) u0
 have X1 := X2.le S3
 refine gk (k_cl (f27 u0.ag (q := pk s2) D1 W1 X1 (targB_len _ _) (by decide) (by omega)) rfl fn_27 (map_cons (eh b0 rfl) (map_cons (eh b0 rfl) (map_cons (eh b0 rfl) map_nil))) (fun U4 q5 s3 => ?_))
 obtain ⟨m4, a1, d1, h2, p2, i2, q2, rfl, B0, Z2, a3, b3, c3⟩ := s3
 have n4 := B0.size
 refine gk (k_lit (e := 41) (L := [.slice N0 9 R0, .slice a1 1 d1]) B0.ag (pm_cons (eh b0 rfl) pm_nil) (by kernel_rfl) (fun V4 C0 h1 p0 X3 => ?_))
 have o4 := p0.size
 have Z3 := h1.lt
 refine nc b0 rfl <| gv (r_field (o' := 57) (eh b0 rfl) fo_76_7 (by rfl)) <| gv (r_field (o' := 62) (eh b0 rfl) fo_43_3 (by rfl)) ?_
 have e1 := ((D0.t0 z0).t0 A0).t0 u0
 have s1 := (((((V0.f0 T0).f1 s0 (by omega)).f0 e1).f1 B0 hrk).f0 p0)
 refine gz (kt (L' := hc s ++ ([k1, .pointer (some ⟨k2, 0, none⟩), nn g, f0, f1, f2, f3, f4, f5, f6, f7, f8, f9, l0, l1, l2, l3, l4, l5, l6, l7, l8, l9, .slice none 0 0, nn (sn + 1), x0, x1, x2, x3, x4, .slice (some ⟨C0, 0, none⟩) 1 1, .slice LA 0 lc])) p0.ag (eh b0 rfl) (eh b0 rfl) s1 sz_37 (fun W4 d3 q0 => ?_))
 have p4 := q0.size
 refine nl <| L2 <| sk fun _ w2 => rn <| mw b0 o0 <| mv b0 rfl ?_
 have Z1 := Fr.ll (Fr.l2 B0 p0) q0
 have I1 := W1.le Z1
 have t1 := ((Z2.f0 p0).f1 q0 hrk.symm)
 refine gk (k_cl (f28 q0.ag t1 I1) rfl fn_28 (map_cons (eh b0 rfl) map_nil) (fun K4 X4 i3 => ?_))
 obtain ⟨d4, rfl, e0⟩ := i3
 have r4 := e0.size
 refine mv b0 rfl <| gv (r_makeFunc (map_cons (eh b0 rfl) map_nil) map_nil) <| mv b0 rfl ?_
 have J1 := (I1.up e0)
 have u1 := (t1.f0 e0)
 have M3 := Fr.ll (Fr.ll (Fr.ll (Fr.ll (Fr.ll (Fr.l2 z0 A0) u0) B0) p0) q0) e0
 have K1 := F1.le M3
 refine gk (k_cl (f27 e0.ag (q := pk s2) u1 J1 K1 (snapB_len _ _) (by decide) (by omega)) rfl fn_27 (map_cons (eh b0 rfl) (map_cons (eh b0 rfl) (map_cons (eh b0 rfl) map_nil))) (fun L4 Y4 j3 => ?_))
 obtain ⟨e4, M0, Q0, b2, j2, d2, m2, rfl, k0, Q2, R2, S2, T2⟩ := j3
 have s4 := k0.size
 refine nc b0 rfl <| gv (r_field (o' := 57) (eh b0 rfl) fo_76_7 (by rfl)) <| gv (r_field (o' := 60) (eh b0 rfl) fo_43_2 (by rfl)) ?_
 have v1 := ((d3.f0 e0).f1 k0 hrk)
 refine gz (kt (L' := hc s ++ ([k1, .pointer (some ⟨k2, 0, none⟩), nn g, f0, f1, f2, f3, f4, f5, f6, f7, f8, f9, l0, l1, l2, l3, l4, l5, l6, l7, l8, l9, .slice none 0 0, nn (sn + 1), x0, x1, x2, .slice H0 9 I0, .slice M0 1 Q0, .slice (some ⟨C0, 0, none⟩) 1 1, .slice LA 0 lc])) k0.ag (eh b0 rfl) (eh b0 rfl) v1 sz_41 (fun Z4 e3 h0 => ?_))
 have t4 := h0.size
 refine nl <| w2 <| sk fun _ z2 => rn <| mw b0 o0 <| mv b0 rfl ?_
 have L1 := ((J1.up k0).up h0)
 have w1 := (Q2.f1 h0 hrk.symm)
 refine gk (k_cl (f28 h0.ag w1 L1) rfl fn_28 (map_cons (eh b0 rfl) map_nil) (fun M4 a5 k3 => ?_))
 obtain ⟨g4, rfl, d0⟩ := k3
 have u4 := d0.size
 refine mv b0 rfl <| gv (r_makeFunc (map_cons (eh b0 rfl) map_nil) map_nil) <| mv b0 rfl ?_
 have u3 := (L1.up d0)
 have y1 := (w1.f0 d0)
 have N3 := Fr.ll (Fr.ll (Fr.ll (Fr.ll (Fr.ll (Fr.ll (Fr.l2 u0 B0) p0) q0) e0) k0) h0) d0
 have M1 := Y2.le N3
 refine gk (k_cl (f27 d0.ag (q := pk s2) y1 u3 M1 (timeB_len _ _ _) (by decide) (by omega)) rfl fn_27 (map_cons (eh b0 rfl) (map_cons (eh b0 rfl) (map_cons (eh b0 rfl) map_nil))) (fun N4 b5 m3 => ?_))
 obtain ⟨w0, Z0, c1, e2, n2, g2, o2, rfl, m0, E1, U2, V2, W2⟩ := m3
 have v4 := m0.size
 refine nc b0 rfl <| gv (r_field (o' := 57) (eh b0 rfl) fo_76_7 (by rfl)) <| gv (r_field (o' := 58) (eh b0 rfl) fo_43_1 (by rfl)) ?_
 have z1 := ((e3.f0 d0).f1 m0 hrk)
 refine gz (kt (L' := hc s ++ ([k1, .pointer (some ⟨k2, 0, none⟩), nn g, f0, f1, f2, f3, f4, f5, f6, f7, f8, f9, l0, l1, l2, l3, l4, l5, l6, l7, l8, l9, .slice none 0 0, nn (sn + 1), x0, .slice O0 36 S0, .slice Z0 1 c1, .slice H0 9 I0, .slice M0 1 Q0, .slice (some ⟨C0, 0, none⟩) 1 1, .slice LA 0 lc])) m0.ag (eh b0 rfl) (eh b0 rfl) z1 sz_41 (fun L0 g3 g0 => ?_))
 have w4 := g0.size
 refine nl <| z2 <| sk fun _ B2 => ?_
 have c0 : Fr no w0 L0 w0 { L0 with drawn := L0.drawn + 1 } := Fr.drw g0.ag
 obtain ⟨G0, Y1⟩ : ∃ w_, w_ = ({ L0 with drawn := L0.drawn + 1 } : World) := ⟨_, rfl⟩
 rw [← Y1] at c0
 have z4 := c0.size
 refine wp_region_T mixed (fun wz => ∃ mz, Fr (no) w0 G0 mz wz) (fun wz => ∃ mz, Fr (orS (onA LA) (on rb)) w0 G0 mz wz) 9 ?_
 rw [← Y1]
 show wpAnyT _ _ _ _ _ 13 _ _ _
 have r0 : Fr (no) w0 G0 w0 G0 := Fr.refl c0.ag
 have v0 : ∀ wz, (∃ mz, Fr (no) w0 G0 mz wz) → ∃ mz, Fr (orS (onA LA) (on rb)) w0 G0 mz wz := fun wz ⟨mz, hz⟩ => ⟨mz, hz.wk (fun x hx _ => hx.elim)⟩
 refine tk1 (i := 0) (b := false) rfl rfl v0 (fun _ _ => r_move (em b0 rfl rfl o0)) (tbF ⟨_, r0⟩) <| tk1 (i := 1) (b := false) rfl rfl v0 (fun _ _ => r_move (em b0 rfl rfl o0)) (tbF ⟨_, r0⟩) <| tk1 (i := 2) (b := false) rfl rfl v0 (fun _ _ => r_nilCheck (eh b0 rfl)) (tbF ⟨_, r0⟩) <| tk1 (i := 3) (b := false) rfl rfl v0 (fun _ _ => r_field (o' := 63) (eh b0 rfl) fo_76_8 (by rfl)) (tbF ⟨_, r0⟩) ?_
 have U0 := (g3.f0 c0)
 refine tk2 (i := 4) rfl rfl (fun wz ⟨mz, hz⟩ => la (v := .slice LA 0 lc) (eh b0 rfl) (hz.ex U0.bk (fun h => h)) qr_36) ⟨_, r0⟩ <| tk1 (i := 5) (b := false) rfl rfl v0 (fun _ _ => r_move (em b0 rfl rfl o0)) (tbF ⟨_, r0⟩) <| tk1 (i := 6) (b := false) rfl rfl v0 (fun _ _ => r_nilCheck (eh b0 rfl)) (tbF ⟨_, r0⟩) <| tk1 (i := 7) (b := false) rfl rfl v0 (fun _ _ => r_field (o' := 55) (eh b0 rfl) fo_76_5 (by rfl)) (tbF ⟨_, r0⟩) <| tk2 (i := 8) rfl rfl (fun wz ⟨mz, hz⟩ => la (v := .slice none 0 0) (eh b0 rfl) (hz.ex U0.bk (fun h => h)) qr_36) ⟨_, r0⟩ ?_
 have V3 : Fr (orS (onA LA) (on rb)) _ _ _ _ := r0.wk (fun x hx _ => hx.elim)
 have N1 := Own.fa (Own.f0 hLd y0) E0 (fun a_ ha_ => (Own.tne (Own.f0 hLd y0) g1 (by decide) a_ ha_))
 have O1 := Own.fa (Own.f0 N1 T0) s0 (fun a_ ha_ => (Own.tne (Own.f0 N1 T0) i1 (by decide) a_ ha_))
 have P1 := Own.fa (Own.f0 O1 e1) B0 (fun a_ ha_ => (Own.tne (Own.f0 O1 e1) D1 (by decide) a_ ha_))
 have Q1 := Own.fa (Own.f0 P1 p0) q0 (fun a_ ha_ => (Own.tne (Own.f0 P1 p0) s1 (by decide) a_ ha_))
 have R1 := Own.fa (Own.f0 Q1 e0) k0 (fun a_ ha_ => (Own.tne (Own.f0 Q1 e0) u1 (by decide) a_ ha_))
 have S1 := Own.fa R1 h0 (fun a_ ha_ => (Own.tne R1 v1 (by decide) a_ ha_))
 have T1 := Own.fa (Own.f0 S1 d0) m0 (fun a_ ha_ => (Own.tne (Own.f0 S1 d0) y1 (by decide) a_ ha_))
 have v3 := Own.fa T1 g0 (fun a_ ha_ => (Own.tne T1 z1 (by decide) a_ ha_))
 have W0 := (Own.f0 v3 c0)
 refine ann (i := 9) (b := true) rfl rfl (k_appendA (base := β) (n := 0) (k := 0) (L := []) (N := []) c0.ag (eh b0 rfl) (eh b0 rfl) qs_36 qz_128 W0 (.inl ⟨rfl, rfl, rfl⟩) (fun _ => rfl) (by simp) (by rfl) (by omega) (by decide) (by rw [maxLen_eq]; omega) (by omega) (fun q1 r1 h5 j1 i0 => ?_))
 have A4 := i0.size
 have X0 := V3.tr i0 (fun x hx => .inr (by have h_ : onA LA x := hx; exact (.inl h_)))
 rw [List.append_nil] at j1
 refine ⟨(tbT ⟨_, X0⟩), ?_⟩
 refine tk1 (i := 10) (b := true) rfl rfl v0 (fun _ _ => r_nilCheck (eh b0 rfl)) (tbT ⟨_, X0⟩) <| tk1 (i := 11) (b := true) rfl rfl v0 (fun _ _ => r_field (o' := 63) (eh b0 rfl) fo_76_8 (by rfl)) (tbT ⟨_, X0⟩) ?_
 have A1 := (U0.fs i0 (Mu.nA U0 W0 (by decide)))
 refine an00 (i := 12) (b := true) rfl rfl (kt (L' := hc s ++ ([k1, .pointer (some ⟨k2, 0, none⟩), nn g, f0, f1, f2, f3, f4, f5, f6, f7, f8, f9, l0, l1, l2, l3, l4, l5, l6, l7, l8, l9, .slice none 0 0, nn (sn + 1), x0, .slice O0 36 S0, .slice Z0 1 c1, .slice H0 9 I0, .slice M0 1 Q0, .slice (some ⟨C0, 0, none⟩) 1 1, .slice q1 0 r1])) i0.ag (eh b0 rfl) (eh b0 rfl) A1 sz_36 (fun i5 h3 j0 => ?_))
 have B4 := j0.size
 have W3 := X0.tr j0 (fun x hx => .inr (by cases hx; exact (.inr rfl)))
 refine ⟨(tbT ⟨_, W3⟩), ?_⟩
 refine anyT_done (by kernel_rfl) ?_ _
 refine B2 <| sk fun _ G2 => rn <| gv (r_assign (v := nn 0) rfl) <| nl <| G2 <| wp_ret <| ret_of (res1 rfl _ _ (gh b0 rfl)) ((ov_defers _ _).trans t2) ?_
 have B1 := ((((((((((h1.f1 q0 (by omega)).f0 e0).f1 k0 (by omega)).f1 h0 (by omega)).f0 d0).f1 m0 (by omega)).f1 g0 (by omega)).f0 c0).fs i0 (Mu.nA ((((((((h1.f1 q0 (by omega)).f0 e0).f1 k0 (by omega)).f1 h0 (by omega)).f0 d0).f1 m0 (by omega)).f1 g0 (by omega)).f0 c0) W0 (by decide))).f1 j0 (by omega))
 obtain ⟨n0, G1⟩ := B1.fz j0.ag
 generalize cput w0 C0 _ = a2 at n0 G1
 have C4 := n0.size
 have w3 : Sl a2 (some ⟨C0, 0, none⟩) 1 1 2 ([.slice N0 9 R0, .slice a1 1 d1]) := Sl.of (k := 2) G1 (by kernel_rfl) (by kernel_rfl) (by decide) (by decide)
 have O3 := Fr.ll (Fr.ll (Fr.ll (Fr.ll (Fr.ll (Fr.ll (Fr.ll (Fr.ll (Fr.ll (Fr.ll Z1 e0) k0) h0) d0) m0) g0) c0) i0) j0) n0
 have y3 := X1.le O3
 have m1 := Fr.ll (Fr.ll (Fr.ll (Fr.ll (Fr.ll (Fr.ll (Fr.ll (Fr.ll (Fr.ll (Fr.ll (Fr.l2 p0 q0) e0) k0) h0) d0) m0) g0) c0) i0) j0) n0
 have z3 := a3.le m1
 have A3 := b3.le m1
 have B3 := c3.le m1
 have P3 := Fr.ll (Fr.ll (Fr.ll (Fr.ll (Fr.ll (Fr.ll (Fr.ll (Fr.l2 k0 h0) d0) m0) g0) c0) i0) j0) n0
 have C3 := K1.le P3
 have n1 := Fr.ll (Fr.ll (Fr.ll (Fr.ll (Fr.ll (Fr.ll (Fr.l2 h0 d0) m0) g0) c0) i0) j0) n0
 have D3 := R2.le n1
 have E3 := S2.le n1
 have F3 := T2.le n1
 have Q3 := Fr.ll (Fr.ll (Fr.ll (Fr.ll (Fr.l2 m0 g0) c0) i0) j0) n0
 have G3 := M1.le Q3
 have o1 := Fr.ll (Fr.ll (Fr.ll (Fr.l2 g0 c0) i0) j0) n0
 have H3 := U2.le o1
 have I3 := V2.le o1
 have J3 := W2.le o1
 have M2 := (h3.f1 n0 (by omega))
 have N2 := (((((E1.f1 g0 hrk.symm).f0 c0).fs i0 (Mu.nA ((E1.f1 g0 hrk.symm).f0 c0) W0 (by decide))).f1 j0 hrk.symm).f1 n0 (by omega))
 have U1 := Own.fa j1 j0 (fun a_ ha_ => (Own.tne j1 A1 (by decide) a_ ha_))
 have K3 := Own.fa U1 n0 (fun a_ ha_ => (Own.tne U1 B1 (by decide) a_ ha_))
 exact ⟨a2, N0, R0, a1, d1, H0, I0, M0, Q0, O0, S0, Z0, c1, some ⟨C0, 0, none⟩, 1, q1, r1, rfl, ((((((((((((((((((((((cu0.t0 y0).tr E0 (fun x hx => (by cases hx; exact .inr (.inl rfl)))).t0 J0).t0 F0).tn s0 (by omega)).t0 D0).t0 z0).t0 A0).t0 u0).tr B0 (fun x hx => (by cases hx; exact .inr (.inr (.inl rfl))))).t0 p0).tr q0 (fun x hx => (by cases hx; exact .inr (.inl rfl)))).t0 e0).tr k0 (fun x hx => (by cases hx; exact .inr (.inr (.inl rfl))))).tr h0 (fun x hx => (by cases hx; exact .inr (.inl rfl)))).t0 d0).tr m0 (fun x hx => (by cases hx; exact .inr (.inr (.inl rfl))))).tr g0 (fun x hx => (by cases hx; exact .inr (.inl rfl)))).t0 c0).tr i0 (fun x hx => .inr (by have h_ : onA LA x := hx; exact (.inr (.inr h_))))).tr j0 (fun x hx => (by cases hx; exact .inr (.inl rfl)))).tn n0 (by omega)), M2, N2, K3, w3, ⟨y3, h2, p2, i2, q2, z3, A3, B3⟩, ⟨C3, b2, j2, d2, m2, D3, E3, F3⟩, ⟨G3, e2, n2, g2, o2, H3, I3, J3⟩⟩

theorem f10 {m : Ctx} {w : World} (ag : Ag m w) {rb g v k rc β : Nat} {s : Bytes} {kx lx sn led f0 f1 f2 f3 f4 f5 f6 f7 f8 f9 l0 l1 l2 l3 l4 l5 l6 l7 l8 x0 x1 x2 x3 x4 : Value} {RA : Option Addr} {RL : List Value} {k1 c1 u1 : Nat} {A1 : Option Addr} {s1 : Bytes} (hmR : Mu m w rb 76 (hc s ++ ([.pointer (some ⟨k1, 0, none⟩), kx, nn g, f0, f1, f2, f3, f4, f5, f6, f7, f8, f9, nn v, l0, l1, l2, l3, l4, l5, l6, l7, l8, lx, sn, .slice RA k rc, x0, x1, x2, x3, x4, led]))) (hmK1 : Mu m w k1 116 (hc s1 ++ ([.slice A1 16 c1, nn u1]))) (hl1 : Sl m A1 16 c1 32 (hcs (lv s1))) (hRo : Own m w β RA k rc 41 2 (vs RL)) (hbe : β ≤ w.heap.size) (hrk : rb ≠ k1) (hu : u1 < 16) (hg : g < 100) (hv1 : 1 ≤ v) (hv : v < 100) (hk : k < 8) : Calls Tryz.prog 10 #[.pointer (some ⟨rb, 0, none⟩)] w (Ret fun y w' => ∃ m' A5 c5 D5 d5 k6 A6 c6 L0 l0 L1 l1 L2 l2 L3 l3 RA' rc', y = nn 0 ∧ Fr (orS (on rb) (orS (on k1) (onA RA))) m w m' w' ∧ Mu m' w' rb 76 (hc s ++ ([.pointer (some ⟨k1, 0, none⟩), .pointer (some ⟨k6, 0, none⟩), nn (g + 1), f0, f1, f2, f3, f4, f5, f6, f7, f8, f9, nn (v + 1), nn 1073741824, .slice L0 1 l0, nn 1, .slice L1 1 l1, nn 1, .slice L2 1 l2, nn 1, .slice L3 1 l3, nn 1, lx, sn, .slice RA' (k + 1) rc', x0, x1, x2, x3, x4, led])) ∧ Mu m' w' k1 116 (hc s1 ++ ([.slice A1 16 c1, nn (u1 + 1)])) ∧ Mu m' w' k6 116 (hc (sdg s (g + 1)) ++ ([.slice A6 16 c6, nn 0])) ∧ Sl m' A6 16 c6 32 (hcs (lv (sdg s (g + 1)))) ∧ Own m' w' β RA' (k + 1) rc' 41 2 (vs RL ++ ([.slice A5 143 c5, .slice D5 1 d5])) ∧ Env m' A5 143 c5 D5 d5 (rootB (v + 1) (pk s1) (pk (sdg s (g + 1)))) s1 u1 ∧ w.heap.size ≤ k6) := by
 refine enter Tryz.func10 rfl (fun u2 hT I1 => ?_)
 have b0 : u2.tmps.size = 85 := by rw [hT]; kernel_rfl
 have s0 : u2.tmps.getD 0 undef = .pointer (some ⟨rb, 0, none⟩) := by rw [hT]; kernel_rfl
 clear hT
 have cu0 : Fr (orS (on rb) (orS (on k1) (onA RA))) m w m w := Fr.refl ag
 have lt_rb := hmR.lt
 have C6 := hmK1.lt
 have rl_RA := Own.lt hRo
 have na_rb_RA := Mu.nA hmR hRo (by decide)
 have na_k1_RA := Mu.nA hmK1 hRo (by decide)
 refine sk fun _ V3 => rn <| gv (r_assign (v := nn 0) rfl) <| nl <| V3 <| sk fun _ a4 => bl <| sk fun _ c4 => rn <| mw b0 s0 <| gv (r_eqlNil (eh b0 rfl) rfl qu_47) <| ms b0 rfl <| nl <| c4 <| cf (eh b0 rfl) <| sk fun _ e4 => rn <| mw b0 s0 <| nc b0 rfl <| gv (r_field (o' := 32) (eh b0 rfl) fo_76_1 (by rfl)) <| gv (r_idxA (i := 0) (o' := 32) (eh b0 rfl) rfl qa_74 (by decide) (by rfl)) <| gv (la (v := .pointer (some ⟨k1, 0, none⟩)) (eh b0 rfl) hmR.bk qr_73) <| gk (k_cl (f22 ag hmK1 hl1) rfl fn_22 (map_cons (eh b0 rfl) map_nil) (fun s7 O7 U4 => ?_))
 obtain ⟨d1, rfl, m0⟩ := U4
 have J6 := m0.size
 refine gv (r_geq (j := 16) (eh b0 rfl) rfl) <| ms b0 rfl <| nl <| e4 ?_
 have t4 : (decide (16 ≤ u1)) = false := (decide_eq_false (by omega))
 refine cf (eb b0 rfl t4) <| sk fun _ X3 => rn <| mw b0 s0 <| nc b0 rfl <| gv (r_field (o' := 34) (eh b0 rfl) fo_76_2 (by rfl)) ?_
 have e1 := (hmR.f0 m0)
 refine gv (la (v := nn g) (eh b0 rfl) e1.bk qr_3) <| gv (r_geq (j := 200) (eh b0 rfl) rfl) <| ms b0 rfl <| nl <| X3 ?_
 have u4 : (decide (200 ≤ g)) = false := (decide_eq_false (by omega))
 refine cf (eb b0 rfl u4) <| ws <| a4 <| sk fun _ Z3 => rn <| mw b0 s0 <| nc b0 rfl <| gv (r_field (o' := 34) (eh b0 rfl) fo_76_2 (by rfl)) <| gv (la (v := nn g) (eh b0 rfl) e1.bk qr_3) <| gv (r_add (j := 1) (eh b0 rfl) rfl (by omega)) <| nc b0 rfl <| gv (r_field (o' := 34) (eh b0 rfl) fo_76_2 (by rfl)) <| gz (kt (L' := hc s ++ ([.pointer (some ⟨k1, 0, none⟩), kx, nn (g + 1), f0, f1, f2, f3, f4, f5, f6, f7, f8, f9, nn v, l0, l1, l2, l3, l4, l5, l6, l7, l8, lx, sn, .slice RA k rc, x0, x1, x2, x3, x4, led])) m0.ag (eh b0 rfl) (eh b0 rfl) e1 sz_3 (fun v1 H4 v0 => ?_))
 have N6 := v0.size
 refine nl <| Z3 <| sk fun _ b4 => ?_
 have C0 : Fr no d1 v1 d1 { v1 with drawn := v1.drawn + 1 } := Fr.drw v0.ag
 obtain ⟨h1, v3⟩ : ∃ w_, w_ = ({ v1 with drawn := v1.drawn + 1 } : World) := ⟨_, rfl⟩
 rw [← v3] at C0
 have h7 := C0.size
 refine wp_region_T mixed (fun wz => ∃ mz, Fr (no) d1 h1 mz wz) (fun wz => ∃ mz, Fr (on rb) d1 h1 mz wz) 14 ?_
 rw [← v3]
 show wpAnyT _ _ _ _ _ 15 _ _ _
 have y0 : Fr (no) d1 h1 d1 h1 := Fr.refl C0.ag
 have Y2 : ∀ wz, (∃ mz, Fr (no) d1 h1 mz wz) → ∃ mz, Fr (on rb) d1 h1 mz wz := fun wz ⟨mz, hz⟩ => ⟨mz, hz.wk (fun x hx _ => hx.elim)⟩
 refine tk2 (i := 0) rfl rfl (fun _ _ => r_move (em b0 rfl rfl s0)) ⟨_, y0⟩ <| tk2 (i := 1) rfl rfl (fun _ _ => r_move (em b0 rfl rfl s0)) ⟨_, y0⟩ <| tk2 (i := 2) rfl rfl (fun _ _ => r_nilCheck (eh b0 rfl)) ⟨_, y0⟩ <| tk2 (i := 3) rfl rfl (fun _ _ => r_field (o' := 0) (eh b0 rfl) fo_76_0 (by rfl)) ⟨_, y0⟩ ?_
 have Z1 := (H4.f0 C0)
 refine tk2 (i := 4) rfl rfl (fun wz ⟨mz, hz⟩ => lb (cs := hc s) (eh b0 rfl) (hz.ex Z1.bk (fun h => h)) qr_23 sz_23) ⟨_, y0⟩ <| tk2 (i := 5) rfl rfl (fun _ _ => r_move (em b0 rfl rfl s0)) ⟨_, y0⟩ <| tk2 (i := 6) rfl rfl (fun _ _ => r_nilCheck (eh b0 rfl)) ⟨_, y0⟩ <| tk2 (i := 7) rfl rfl (fun _ _ => r_field (o' := 34) (eh b0 rfl) fo_76_2 (by rfl)) ⟨_, y0⟩ <| tk2 (i := 8) rfl rfl (fun wz ⟨mz, hz⟩ => la (v := nn (g + 1)) (eh b0 rfl) (hz.ex Z1.bk (fun h => h)) qr_3) ⟨_, y0⟩ <| tk1 (i := 11) (b := false) rfl rfl Y2 (fun _ _ => r_nilCheck (eh b0 rfl)) (tbF ⟨_, y0⟩) <| tk1 (i := 12) (b := false) rfl rfl Y2 (fun _ _ => r_field (o' := 32) (eh b0 rfl) fo_76_1 (by rfl)) (tbF ⟨_, y0⟩) <| ann (i := 9) (b := false) rfl rfl (k_cl (f20 C0.ag) rfl fn_20 (map_cons (eh b0 rfl) (map_cons (eh b0 rfl) map_nil)) (fun t7 P7 S4 => ?_))
 obtain ⟨G6, rfl, M0⟩ := S4
 have i7 := M0.size
 have F3 := y0.t0 M0
 refine ⟨(tbF ⟨_, F3⟩), ?_⟩
 refine ann (i := 10) (b := false) rfl rfl (k_cl (f19 M0.ag) rfl fn_19 (map_cons (eh b0 rfl) (map_cons (v := nn 0) rfl map_nil)) (fun u7 Q7 T4 => ?_))
 obtain ⟨H6, O0, z1, D1, rfl, N0, P2, G4, o6⟩ := T4
 have j7 := N0.size
 have n2 := F3.t0 N0
 have D6 := P2.lt
 refine ⟨(tbF ⟨_, n2⟩), ?_⟩
 refine tk2 (i := 13) rfl rfl (fun _ _ => r_idxA (i := 1) (o' := 33) (eh b0 rfl) rfl qa_74 (by decide) (by rfl)) ⟨_, n2⟩ ?_
 have g6 : Fr (on rb) _ _ _ _ := n2.wk (fun x hx _ => hx.elim)
 have U3 := M0.t0 N0
 have m1 := (Z1.f0 U3)
 refine an00 (i := 14) (b := true) rfl rfl (kt (L' := hc s ++ ([.pointer (some ⟨k1, 0, none⟩), .pointer (some ⟨O0, 0, none⟩), nn (g + 1), f0, f1, f2, f3, f4, f5, f6, f7, f8, f9, nn v, l0, l1, l2, l3, l4, l5, l6, l7, l8, lx, sn, .slice RA k rc, x0, x1, x2, x3, x4, led])) N0.ag (eh b0 rfl) (eh b0 rfl) m1 sz_73 (fun R7 c2 o0 => ?_))
 have k7 := o0.size
 have h6 := g6.tr o0 (fun x hx => .inr (by cases hx; exact rfl))
 refine ⟨(tbT ⟨_, h6⟩), ?_⟩
 refine anyT_done (by kernel_rfl) ?_ _
 refine b4 <| sk fun _ j4 => rn <| mw b0 s0 <| mw b0 s0 <| mw b0 s0 <| nc b0 rfl <| gv (r_field (o' := 45) (eh b0 rfl) fo_76_4 (by rfl)) <| gv (r_field (o' := 45) (eh b0 rfl) fo_35_0 (by rfl)) <| gv (la (v := nn v) (eh b0 rfl) c2.bk qr_3) <| gv (r_add (j := 1) (eh b0 rfl) rfl (by omega)) ?_
 have U5 := Fr.ll (Fr.ll (Fr.ll (Fr.ll (Fr.l2 m0 v0) C0) M0) N0) o0
 have g2 := hl1.le U5
 have X0 := (C0.t0 M0).t0 N0
 have a2 := ((((hmK1.f0 m0).f1 v0 hrk.symm).f0 X0).f1 o0 hrk.symm)
 have n1 := (G4.up o0)
 have Y0 := (P2.f1 o0 (by omega))
 refine gk (k_cl (f21 o0.ag (X := [nn (g + 1), f0, f1, f2, f3, f4, f5, f6, f7, f8, f9, nn v, l0, l1, l2, l3, l4, l5, l6, l7, l8, lx, sn, .slice RA k rc, x0, x1, x2, x3, x4, led]) c2 a2 g2 Y0 n1) rfl fn_21 (map_cons (eh b0 rfl) (map_cons (eh b0 rfl) map_nil)) (fun v7 S7 V4 => ?_))
 obtain ⟨I6, D0, P0, E0, Q0, F0, R0, G0, S0, rfl, c0, v4, w4, y4, z4⟩ := V4
 have K6 := c0.size
 refine nc b0 rfl <| gv (r_field (o' := 45) (eh b0 rfl) fo_76_4 (by rfl)) ?_
 have i1 := (c2.f0 c0)
 refine gz (kt (L' := hc s ++ ([.pointer (some ⟨k1, 0, none⟩), .pointer (some ⟨O0, 0, none⟩), nn (g + 1), f0, f1, f2, f3, f4, f5, f6, f7, f8, f9, nn (v + 1), nn 1073741824, .slice D0 1 P0, nn 1, .slice E0 1 Q0, nn 1, .slice F0 1 R0, nn 1, .slice G0 1 S0, nn 1, lx, sn, .slice RA k rc, x0, x1, x2, x3, x4, led])) c0.ag (eh b0 rfl) (eh b0 rfl) i1 sz_35 (fun w7 T2 d0 => ?_))
 have L6 := d0.size
 refine nl <| j4 <| sk fun _ W3 => rn <| mw b0 s0 <| nc b0 rfl <| gv (r_field (o' := 45) (eh b0 rfl) fo_76_4 (by rfl)) <| gv (lb (cs := [nn (v + 1), nn 1073741824, .slice D0 1 P0, nn 1, .slice E0 1 Q0, nn 1, .slice F0 1 R0, nn 1, .slice G0 1 S0, nn 1]) (eh b0 rfl) T2.bk qr_35 sz_35) ?_
 have W4 := (v4.up d0)
 have X4 := (w4.up d0)
 have Y4 := (y4.up d0)
 have Z4 := (z4.up d0)
 refine gk (k_cl (f31r d0.ag W4 X4 Y4 Z4 (by omega) (by omega)) rfl fn_31 (map_cons (eh b0 rfl) map_nil) (fun m7 t1 M4 => ?_))
 obtain ⟨b1, j0, k0, rfl, n0, b2⟩ := M4
 have M6 := n0.size
 refine mv b0 rfl <| gv (r_extract (v := .slice j0 143 k0) (eh b0 rfl) (by kernel_rfl)) <| gv (r_extract (v := nn 0) (eh b0 rfl) (by kernel_rfl)) <| ms b0 rfl <| ms b0 rfl <| nl <| W3 <| sk fun _ Y3 => rn <| mw b0 s0 <| nc b0 rfl <| gv (r_field (o' := 32) (eh b0 rfl) fo_76_1 (by rfl)) <| gv (r_idxA (i := 0) (o' := 32) (eh b0 rfl) rfl qa_74 (by decide) (by rfl)) ?_
 have j1 := (T2.f0 n0)
 refine gv (la (v := .pointer (some ⟨k1, 0, none⟩)) (eh b0 rfl) j1.bk qr_73) <| ms b0 rfl <| nl <| Y3 <| sk fun _ J1 => ?_
 have e0 : Fr no b1 t1 b1 { t1 with drawn := t1.drawn + 1 } := Fr.drw n0.ag
 obtain ⟨g1, u3⟩ : ∃ w_, w_ = ({ t1 with drawn := t1.drawn + 1 } : World) := ⟨_, rfl⟩
 rw [← u3] at e0
 have O6 := e0.size
 refine wp_region_T mixed (fun wz => ∃ mz, Fr (no) b1 g1 mz wz) (fun wz => ∃ mz, Fr (orS (orS (on k1) (onA RA)) (on rb)) b1 g1 mz wz) 11 ?_
 rw [← u3]
 show wpAnyT _ _ _ _ _ 18 _ _ _
 have w0 : Fr (no) b1 g1 b1 g1 := Fr.refl e0.ag
 have h0 : ∀ wz, (∃ mz, Fr (no) b1 g1 mz wz) → ∃ mz, Fr (orS (orS (on k1) (onA RA)) (on rb)) b1 g1 mz wz := fun wz ⟨mz, hz⟩ => ⟨mz, hz.wk (fun x hx _ => hx.elim)⟩
 refine tk1 (i := 0) (b := false) rfl rfl h0 (fun _ _ => r_move (em b0 rfl rfl s0)) (tbF ⟨_, w0⟩) <| tk1 (i := 1) (b := false) rfl rfl h0 (fun _ _ => r_move (em b0 rfl rfl s0)) (tbF ⟨_, w0⟩) <| tk1 (i := 2) (b := false) rfl rfl h0 (fun _ _ => r_nilCheck (eh b0 rfl)) (tbF ⟨_, w0⟩) <| tk1 (i := 3) (b := false) rfl rfl h0 (fun _ _ => r_field (o' := 57) (eh b0 rfl) fo_76_7 (by rfl)) (tbF ⟨_, w0⟩) <| tk1 (i := 4) (b := false) rfl rfl h0 (fun _ _ => r_field (o' := 57) (eh b0 rfl) fo_43_0 (by rfl)) (tbF ⟨_, w0⟩) <| tk1 (i := 6) (b := false) rfl rfl h0 (fun _ _ => r_move (eh b0 rfl)) (tbF ⟨_, w0⟩) <| tk1 (i := 8) (b := false) rfl rfl h0 (fun _ _ => r_move (eh b0 rfl)) (tbF ⟨_, w0⟩) <| tk2 (i := 9) rfl rfl (fun _ _ => r_makeFunc (map_cons (eh b0 rfl) map_nil) map_nil) ⟨_, w0⟩ <| tk2 (i := 10) rfl rfl (fun _ _ => r_move (eh b0 rfl)) ⟨_, w0⟩ <| anyT_all (rs := [5, 7]) (by kernel_rfl) (by simp) (fun p6 Q2 => ?_)
 simp only [List.mem_cons, List.mem_nil_iff, or_false] at Q2
 rcases Q2 with rfl | rfl
 ·
  have T1 := (j1.f0 e0)
  refine ao (b := false) rfl rfl rfl (by kernel_rfl) (kv (la (v := .slice RA k rc) (eh b0 rfl) T1.bk qr_37) ⟨(tbF ⟨_, w0⟩), ?_⟩)
  have w3 := Fr.ll (Fr.ll (Fr.l2 c0 d0) n0) e0
  have d3 := g2.le w3
  have P3 := n0.t0 e0
  have C2 := (((a2.f0 c0).f1 d0 hrk.symm).f0 P3)
  refine ann (i := 7) (b := false) rfl rfl (k_cl (f28 e0.ag C2 d3) rfl fn_28 (map_cons (eh b0 rfl) map_nil) (fun n7 x7 N4 => ?_))
  obtain ⟨E6, rfl, z0⟩ := N4
  have P6 := z0.size
  have z3 := w0.t0 z0
  refine ⟨(tbF ⟨_, z3⟩), ?_⟩
  have X5 : Fr (orS (orS (on k1) (onA RA)) (on rb)) _ _ _ _ := z3.wk (fun x hx _ => hx.elim)
  have a5 := (d3.up z0)
  have D2 := (C2.f0 z0)
  have e3 := ((b2.up e0).up z0)
  refine ann (i := 11) (b := true) rfl rfl (k_cl (f27 z0.ag (q := pk s1) D2 a5 e3 (rootB_len _ _ _) (by decide) (by omega)) rfl fn_27 (map_cons (eh b0 rfl) (map_cons (eh b0 rfl) (map_cons (eh b0 rfl) map_nil))) (fun o7 y7 O4 => ?_))
  obtain ⟨V5, w1, B1, G3, K3, H3, M3, rfl, A0, J2, A4, B4, C4⟩ := O4
  have Q6 := A0.size
  have A3 := X5.tr A0 (fun x hx => .inr (by cases hx; exact (.inl (.inl rfl))))
  refine ⟨(tbT ⟨_, A3⟩), ?_⟩
  refine ann (i := 12) (b := true) rfl rfl (k_lit (e := 41) (L := [.slice j0 143 k0, .slice w1 1 B1]) A0.ag (pm_cons (eh b0 rfl) pm_nil) (by kernel_rfl) (fun z7 i6 U2 p0 s6 => ?_))
  have R6 := p0.size
  have B3 := A3.t0 p0
  have x6 := U2.lt
  refine ⟨(tbT ⟨_, B3⟩), ?_⟩
  have E1 := (n0.t0 e0).t0 z0
  have g3 := Own.fa (Own.f0 hRo m0) v0 (fun a_ ha_ => (Own.tne (Own.f0 hRo m0) e1 (by decide) a_ ha_))
  have h3 := Own.fa (Own.f0 g3 X0) o0 (fun a_ ha_ => (Own.tne (Own.f0 g3 X0) m1 (by decide) a_ ha_))
  have i3 := Own.fa (Own.f0 h3 c0) d0 (fun a_ ha_ => (Own.tne (Own.f0 h3 c0) i1 (by decide) a_ ha_))
  have b5 := Own.fa (Own.f0 i3 E1) A0 (fun a_ ha_ => (Own.tne (Own.f0 i3 E1) D2 (by decide) a_ ha_))
  have M1 := (Own.f0 b5 p0)
  refine ann (i := 13) (b := true) rfl rfl (k_appendA (base := β) (n := k) (k := 1) (L := vs RL) (N := [.slice j0 143 k0, .slice w1 1 B1]) p0.ag (eh b0 rfl) (eh b0 rfl) qs_37 qz_41 M1 (U2.bk.src (L := [.slice j0 143 k0, .slice w1 1 B1]) (n := 1) (o := 0) (k := 2) (by kernel_rfl)) (fun h => by cases h) (by kernel_rfl) (by kernel_rfl) (by omega) (by decide) (by rw [maxLen_eq]; omega) (by omega) (fun o2 v2 A7 Z2 H0 => ?_))
  have S6 := H0.size
  have o1 := B3.tr H0 (fun x hx => .inr (by have h_ : onA RA x := hx; exact (.inl (.inr h_))))
  refine ⟨(tbT ⟨_, o1⟩), ?_⟩
  refine tk1 (i := 14) (b := true) rfl rfl h0 (fun _ _ => r_nilCheck (eh b0 rfl)) (tbT ⟨_, o1⟩) <| tk1 (i := 15) (b := true) rfl rfl h0 (fun _ _ => r_field (o' := 57) (eh b0 rfl) fo_76_7 (by rfl)) (tbT ⟨_, o1⟩) <| tk1 (i := 16) (b := true) rfl rfl h0 (fun _ _ => r_field (o' := 57) (eh b0 rfl) fo_43_0 (by rfl)) (tbT ⟨_, o1⟩) ?_
  have E2 := ((((T1.f0 z0).f1 A0 hrk).f0 p0).fs H0 (Mu.nA (((T1.f0 z0).f1 A0 hrk).f0 p0) M1 (by decide)))
  refine an00 (i := 17) (b := true) rfl rfl (kt (L' := hc s ++ ([.pointer (some ⟨k1, 0, none⟩), .pointer (some ⟨O0, 0, none⟩), nn (g + 1), f0, f1, f2, f3, f4, f5, f6, f7, f8, f9, nn (v + 1), nn 1073741824, .slice D0 1 P0, nn 1, .slice E0 1 Q0, nn 1, .slice F0 1 R0, nn 1, .slice G0 1 S0, nn 1, lx, sn, .slice o2 (k + 1) v2, x0, x1, x2, x3, x4, led])) H0.ag (eh b0 rfl) (eh b0 rfl) E2 sz_37 (fun B7 I4 T0 => ?_))
  have T6 := T0.size
  have Y5 := o1.tr T0 (fun x hx => .inr (by cases hx; exact (.inr rfl)))
  refine ⟨(tbT ⟨_, Y5⟩), ?_⟩
  refine anyT_done (by kernel_rfl) ?_ _
  refine J1 <| sk fun _ d4 => rn <| gv (r_assign (v := nn 0) rfl) <| nl <| d4 <| wp_ret <| ret_of (res1 rfl _ _ (gh b0 rfl)) ((ov_defers _ _).trans I1) ?_
  have M5 := Fr.ll (Fr.ll (Fr.l2 A0 p0) H0) T0
  have e5 := e3.le M5
  have h2 := Fr.ll (Fr.l2 p0 H0) T0
  have g5 := A4.le h2
  have h5 := B4.le h2
  have i5 := C4.le h2
  have N5 := Fr.ll (Fr.ll (Fr.ll (Fr.ll (Fr.ll w3 z0) A0) p0) H0) T0
  have j5 := n1.le N5
  have k4 := (((J2.f0 p0).fs H0 (Mu.nA (J2.f0 p0) M1 (by decide))).f1 T0 hrk.symm)
  have m4 := (((((((Y0.f0 c0).f1 d0 (by omega)).f0 E1).f1 A0 (by omega)).f0 p0).fs H0 (Mu.nA (((((Y0.f0 c0).f1 d0 (by omega)).f0 E1).f1 A0 (by omega)).f0 p0) M1 (by decide))).f1 T0 (by omega))
  have k5 := Own.fa Z2 T0 (fun a_ ha_ => (Own.tne Z2 E2 (by decide) a_ ha_))
  exact ⟨V5, j0, k0, w1, B1, O0, z1, D1, D0, P0, E0, Q0, F0, R0, G0, S0, o2, v2, rfl, (((((((((((((((cu0.t0 m0).tr v0 (fun x hx => (by cases hx; exact .inr (.inl rfl)))).t0 C0).t0 M0).t0 N0).tr o0 (fun x hx => (by cases hx; exact .inr (.inl rfl)))).t0 c0).tr d0 (fun x hx => (by cases hx; exact .inr (.inl rfl)))).t0 n0).t0 e0).t0 z0).tr A0 (fun x hx => (by cases hx; exact .inr (.inr (.inl rfl))))).t0 p0).tr H0 (fun x hx => .inr (by have h_ : onA RA x := hx; exact (.inr (.inr h_))))).tr T0 (fun x hx => (by cases hx; exact .inr (.inl rfl)))), I4, k4, m4, j5, k5, ⟨e5, G3, K3, H3, M3, g5, h5, i5⟩, (by omega)⟩
 ·
  have Q1 := Fr.ll (Fr.ll (Fr.l2 c0 d0) n0) e0
  have d2 := g2.le Q1
  have Q3 := n0.t0 e0
  have U1 := (((a2.f0 c0).f1 d0 hrk.symm).f0 Q3)
  refine ao (b := false) rfl rfl rfl (by kernel_rfl) (k_cl (f28 e0.ag U1 d2) rfl fn_28 (map_cons (eh b0 rfl) map_nil) (fun p7 C7 P4 => ?_))
  obtain ⟨F6, rfl, g0⟩ := P4
  have U6 := g0.size
  have R1 := w0.t0 g0
  refine ⟨(tbF ⟨_, R1⟩), ?_⟩
  refine anyT_all (rs := [5, 11]) (by kernel_rfl) (by simp) (fun q6 R2 => ?_)
  simp only [List.mem_cons, List.mem_nil_iff, or_false] at R2
  rcases R2 with rfl | rfl
  ·
   have R3 := e0.t0 g0
   have V1 := (j1.f0 R3)
   refine ao (b := false) rfl rfl rfl (by kernel_rfl) (kv (la (v := .slice RA k rc) (eh b0 rfl) V1.bk qr_37) ⟨(tbF ⟨_, R1⟩), ?_⟩)
   have Z5 : Fr (orS (orS (on k1) (onA RA)) (on rb)) _ _ _ _ := R1.wk (fun x hx _ => hx.elim)
   have m5 := (d2.up g0)
   have F2 := (U1.f0 g0)
   have j3 := ((b2.up e0).up g0)
   refine ann (i := 11) (b := true) rfl rfl (k_cl (f27 g0.ag (q := pk s1) F2 m5 j3 (rootB_len _ _ _) (by decide) (by omega)) rfl fn_27 (map_cons (eh b0 rfl) (map_cons (eh b0 rfl) (map_cons (eh b0 rfl) map_nil))) (fun q7 D7 Q4 => ?_))
   obtain ⟨W5, y1, C1, I3, N3, J3, O3, rfl, B0, K2, D4, E4, F4⟩ := Q4
   have V6 := B0.size
   have C3 := Z5.tr B0 (fun x hx => .inr (by cases hx; exact (.inl (.inl rfl))))
   refine ⟨(tbT ⟨_, C3⟩), ?_⟩
   refine ann (i := 12) (b := true) rfl rfl (k_lit (e := 41) (L := [.slice j0 143 k0, .slice y1 1 C1]) B0.ag (pm_cons (eh b0 rfl) pm_nil) (by kernel_rfl) (fun E7 j6 V2 q0 t6 => ?_))
   have W6 := q0.size
   have D3 := C3.t0 q0
   have y6 := V2.lt
   refine ⟨(tbT ⟨_, D3⟩), ?_⟩
   have F1 := (n0.t0 e0).t0 g0
   have k3 := Own.fa (Own.f0 hRo m0) v0 (fun a_ ha_ => (Own.tne (Own.f0 hRo m0) e1 (by decide) a_ ha_))
   have m3 := Own.fa (Own.f0 k3 X0) o0 (fun a_ ha_ => (Own.tne (Own.f0 k3 X0) m1 (by decide) a_ ha_))
   have n3 := Own.fa (Own.f0 m3 c0) d0 (fun a_ ha_ => (Own.tne (Own.f0 m3 c0) i1 (by decide) a_ ha_))
   have n5 := Own.fa (Own.f0 n3 F1) B0 (fun a_ ha_ => (Own.tne (Own.f0 n3 F1) F2 (by decide) a_ ha_))
   have N1 := (Own.f0 n5 q0)
   refine ann (i := 13) (b := true) rfl rfl (k_appendA (base := β) (n := k) (k := 1) (L := vs RL) (N := [.slice j0 143 k0, .slice y1 1 C1]) q0.ag (eh b0 rfl) (eh b0 rfl) qs_37 qz_41 N1 (V2.bk.src (L := [.slice j0 143 k0, .slice y1 1 C1]) (n := 1) (o := 0) (k := 2) (by kernel_rfl)) (fun h => by cases h) (by kernel_rfl) (by kernel_rfl) (by omega) (by decide) (by rw [maxLen_eq]; omega) (by omega) (fun p2 w2 F7 a3 I0 => ?_))
   have X6 := I0.size
   have p1 := D3.tr I0 (fun x hx => .inr (by have h_ : onA RA x := hx; exact (.inl (.inr h_))))
   refine ⟨(tbT ⟨_, p1⟩), ?_⟩
   refine tk1 (i := 14) (b := true) rfl rfl h0 (fun _ _ => r_nilCheck (eh b0 rfl)) (tbT ⟨_, p1⟩) <| tk1 (i := 15) (b := true) rfl rfl h0 (fun _ _ => r_field (o' := 57) (eh b0 rfl) fo_76_7 (by rfl)) (tbT ⟨_, p1⟩) <| tk1 (i := 16) (b := true) rfl rfl h0 (fun _ _ => r_field (o' := 57) (eh b0 rfl) fo_43_0 (by rfl)) (tbT ⟨_, p1⟩) ?_
   have G2 := (((V1.f1 B0 hrk).f0 q0).fs I0 (Mu.nA ((V1.f1 B0 hrk).f0 q0) N1 (by decide)))
   refine an00 (i := 17) (b := true) rfl rfl (kt (L' := hc s ++ ([.pointer (some ⟨k1, 0, none⟩), .pointer (some ⟨O0, 0, none⟩), nn (g + 1), f0, f1, f2, f3, f4, f5, f6, f7, f8, f9, nn (v + 1), nn 1073741824, .slice D0 1 P0, nn 1, .slice E0 1 Q0, nn 1, .slice F0 1 R0, nn 1, .slice G0 1 S0, nn 1, lx, sn, .slice p2 (k + 1) w2, x0, x1, x2, x3, x4, led])) I0.ag (eh b0 rfl) (eh b0 rfl) G2 sz_37 (fun G7 J4 U0 => ?_))
   have Y6 := U0.size
   have a6 := p1.tr U0 (fun x hx => .inr (by cases hx; exact (.inr rfl)))
   refine ⟨(tbT ⟨_, a6⟩), ?_⟩
   refine anyT_done (by kernel_rfl) ?_ _
   refine J1 <| sk fun _ g4 => rn <| gv (r_assign (v := nn 0) rfl) <| nl <| g4 <| wp_ret <| ret_of (res1 rfl _ _ (gh b0 rfl)) ((ov_defers _ _).trans I1) ?_
   have O5 := Fr.ll (Fr.ll (Fr.l2 B0 q0) I0) U0
   have o5 := j3.le O5
   have i2 := Fr.ll (Fr.l2 q0 I0) U0
   have p5 := D4.le i2
   have q5 := E4.le i2
   have r5 := F4.le i2
   have P5 := Fr.ll (Fr.ll (Fr.ll (Fr.ll (Fr.ll Q1 g0) B0) q0) I0) U0
   have s5 := n1.le P5
   have n4 := (((K2.f0 q0).fs I0 (Mu.nA (K2.f0 q0) N1 (by decide))).f1 U0 hrk.symm)
   have o4 := (((((((Y0.f0 c0).f1 d0 (by omega)).f0 F1).f1 B0 (by omega)).f0 q0).fs I0 (Mu.nA (((((Y0.f0 c0).f1 d0 (by omega)).f0 F1).f1 B0 (by omega)).f0 q0) N1 (by decide))).f1 U0 (by omega))
   have t5 := Own.fa a3 U0 (fun a_ ha_ => (Own.tne a3 G2 (by decide) a_ ha_))
   exact ⟨W5, j0, k0, y1, C1, O0, z1, D1, D0, P0, E0, Q0, F0, R0, G0, S0, p2, w2, rfl, (((((((((((((((cu0.t0 m0).tr v0 (fun x hx => (by cases hx; exact .inr (.inl rfl)))).t0 C0).t0 M0).t0 N0).tr o0 (fun x hx => (by cases hx; exact .inr (.inl rfl)))).t0 c0).tr d0 (fun x hx => (by cases hx; exact .inr (.inl rfl)))).t0 n0).t0 e0).t0 g0).tr B0 (fun x hx => (by cases hx; exact .inr (.inr (.inl rfl))))).t0 q0).tr I0 (fun x hx => .inr (by have h_ : onA RA x := hx; exact (.inr (.inr h_))))).tr U0 (fun x hx => (by cases hx; exact .inr (.inl rfl)))), J4, n4, o4, s5, t5, ⟨o5, I3, N3, J3, O3, p5, q5, r5⟩, (by omega)⟩
  ·
   have b6 : Fr (orS (orS (on k1) (onA RA)) (on rb)) _ _ _ _ := R1.wk (fun x hx _ => hx.elim)
   have u5 := (d2.up g0)
   have W1 := (U1.f0 g0)
   have e2 := ((b2.up e0).up g0)
   refine ao (b := true) rfl rfl rfl (by kernel_rfl) (k_cl (f27 g0.ag (q := pk s1) W1 u5 e2 (rootB_len _ _ _) (by decide) (by omega)) rfl fn_27 (map_cons (eh b0 rfl) (map_cons (eh b0 rfl) (map_cons (eh b0 rfl) map_nil))) (fun r7 H7 R4 => ?_))
   obtain ⟨y3, Z0, a1, q2, y2, r2, z2, rfl, i0, K1, M2, N2, O2⟩ := R4
   have Z6 := i0.size
   have S1 := b6.tr i0 (fun x hx => .inr (by cases hx; exact (.inl (.inl rfl))))
   refine ⟨(tbT ⟨_, S1⟩), ?_⟩
   refine anyT_all (rs := [5, 12]) (by kernel_rfl) (by simp) (fun r6 S2 => ?_)
   simp only [List.mem_cons, List.mem_nil_iff, or_false] at S2
   rcases S2 with rfl | rfl
   ·
    have S3 := e0.t0 g0
    have X1 := ((j1.f0 S3).f1 i0 hrk)
    refine ao (b := true) rfl rfl rfl (by kernel_rfl) (kv (la (v := .slice RA k rc) (eh b0 rfl) X1.bk qr_37) ⟨(tbT ⟨_, S1⟩), ?_⟩)
    refine ann (i := 12) (b := true) rfl rfl (k_lit (e := 41) (L := [.slice j0 143 k0, .slice Z0 1 a1]) i0.ag (pm_cons (eh b0 rfl) pm_nil) (by kernel_rfl) (fun I7 m6 W2 r0 u6 => ?_))
    have a7 := r0.size
    have E3 := S1.t0 r0
    have z6 := W2.lt
    refine ⟨(tbT ⟨_, E3⟩), ?_⟩
    have G1 := (n0.t0 e0).t0 g0
    have o3 := Own.fa (Own.f0 hRo m0) v0 (fun a_ ha_ => (Own.tne (Own.f0 hRo m0) e1 (by decide) a_ ha_))
    have p3 := Own.fa (Own.f0 o3 X0) o0 (fun a_ ha_ => (Own.tne (Own.f0 o3 X0) m1 (by decide) a_ ha_))
    have q3 := Own.fa (Own.f0 p3 c0) d0 (fun a_ ha_ => (Own.tne (Own.f0 p3 c0) i1 (by decide) a_ ha_))
    have w5 := Own.fa (Own.f0 q3 G1) i0 (fun a_ ha_ => (Own.tne (Own.f0 q3 G1) W1 (by decide) a_ ha_))
    have O1 := (Own.f0 w5 r0)
    refine ann (i := 13) (b := true) rfl rfl (k_appendA (base := β) (n := k) (k := 1) (L := vs RL) (N := [.slice j0 143 k0, .slice Z0 1 a1]) r0.ag (eh b0 rfl) (eh b0 rfl) qs_37 qz_41 O1 (W2.bk.src (L := [.slice j0 143 k0, .slice Z0 1 a1]) (n := 1) (o := 0) (k := 2) (by kernel_rfl)) (fun h => by cases h) (by kernel_rfl) (by kernel_rfl) (by omega) (by decide) (by rw [maxLen_eq]; omega) (by omega) (fun s2 A2 J7 b3 J0 => ?_))
    have b7 := J0.size
    have q1 := E3.tr J0 (fun x hx => .inr (by have h_ : onA RA x := hx; exact (.inl (.inr h_))))
    refine ⟨(tbT ⟨_, q1⟩), ?_⟩
    refine tk1 (i := 14) (b := true) rfl rfl h0 (fun _ _ => r_nilCheck (eh b0 rfl)) (tbT ⟨_, q1⟩) <| tk1 (i := 15) (b := true) rfl rfl h0 (fun _ _ => r_field (o' := 57) (eh b0 rfl) fo_76_7 (by rfl)) (tbT ⟨_, q1⟩) <| tk1 (i := 16) (b := true) rfl rfl h0 (fun _ _ => r_field (o' := 57) (eh b0 rfl) fo_43_0 (by rfl)) (tbT ⟨_, q1⟩) ?_
    have H2 := ((X1.f0 r0).fs J0 (Mu.nA (X1.f0 r0) O1 (by decide)))
    refine an00 (i := 17) (b := true) rfl rfl (kt (L' := hc s ++ ([.pointer (some ⟨k1, 0, none⟩), .pointer (some ⟨O0, 0, none⟩), nn (g + 1), f0, f1, f2, f3, f4, f5, f6, f7, f8, f9, nn (v + 1), nn 1073741824, .slice D0 1 P0, nn 1, .slice E0 1 Q0, nn 1, .slice F0 1 R0, nn 1, .slice G0 1 S0, nn 1, lx, sn, .slice s2 (k + 1) A2, x0, x1, x2, x3, x4, led])) J0.ag (eh b0 rfl) (eh b0 rfl) H2 sz_37 (fun K7 K4 V0 => ?_))
    have c7 := V0.size
    have d6 := q1.tr V0 (fun x hx => .inr (by cases hx; exact (.inr rfl)))
    refine ⟨(tbT ⟨_, d6⟩), ?_⟩
    refine anyT_done (by kernel_rfl) ?_ _
    refine J1 <| sk fun _ h4 => rn <| gv (r_assign (v := nn 0) rfl) <| nl <| h4 <| wp_ret <| ret_of (res1 rfl _ _ (gh b0 rfl)) ((ov_defers _ _).trans I1) ?_
    have Q5 := Fr.ll (Fr.ll (Fr.l2 i0 r0) J0) V0
    have x5 := e2.le Q5
    have j2 := Fr.ll (Fr.l2 r0 J0) V0
    have y5 := M2.le j2
    have z5 := N2.le j2
    have B5 := O2.le j2
    have R5 := Fr.ll (Fr.ll (Fr.ll (Fr.ll (Fr.ll Q1 g0) i0) r0) J0) V0
    have C5 := n1.le R5
    have p4 := (((K1.f0 r0).fs J0 (Mu.nA (K1.f0 r0) O1 (by decide))).f1 V0 hrk.symm)
    have q4 := (((((((Y0.f0 c0).f1 d0 (by omega)).f0 G1).f1 i0 (by omega)).f0 r0).fs J0 (Mu.nA (((((Y0.f0 c0).f1 d0 (by omega)).f0 G1).f1 i0 (by omega)).f0 r0) O1 (by decide))).f1 V0 (by omega))
    have E5 := Own.fa b3 V0 (fun a_ ha_ => (Own.tne b3 H2 (by decide) a_ ha_))
    exact ⟨y3, j0, k0, Z0, a1, O0, z1, D1, D0, P0, E0, Q0, F0, R0, G0, S0, s2, A2, rfl, (((((((((((((((cu0.t0 m0).tr v0 (fun x hx => (by cases hx; exact .inr (.inl rfl)))).t0 C0).t0 M0).t0 N0).tr o0 (fun x hx => (by cases hx; exact .inr (.inl rfl)))).t0 c0).tr d0 (fun x hx => (by cases hx; exact .inr (.inl rfl)))).t0 n0).t0 e0).t0 g0).tr i0 (fun x hx => (by cases hx; exact .inr (.inr (.inl rfl))))).t0 r0).tr J0 (fun x hx => .inr (by have h_ : onA RA x := hx; exact (.inr (.inr h_))))).tr V0 (fun x hx => (by cases hx; exact .inr (.inl rfl)))), K4, p4, q4, C5, E5, ⟨x5, q2, y2, r2, z2, y5, z5, B5⟩, (by omega)⟩
   ·
    refine ao (b := true) rfl rfl rfl (by kernel_rfl) (k_lit (e := 41) (L := [.slice j0 143 k0, .slice Z0 1 a1]) i0.ag (pm_cons (eh b0 rfl) pm_nil) (by kernel_rfl) (fun L7 n6 X2 u0 v6 => ?_))
    have d7 := u0.size
    have m2 := S1.t0 u0
    have B6 := X2.lt
    refine ⟨(tbT ⟨_, m2⟩), ?_⟩
    have T3 := e0.t0 g0
    have Y1 := (((j1.f0 T3).f1 i0 hrk).f0 u0)
    refine ann (i := 5) (b := true) rfl rfl (kv (la (v := .slice RA k rc) (eh b0 rfl) Y1.bk qr_37) ⟨(tbT ⟨_, m2⟩), ?_⟩)
    have H1 := (n0.t0 e0).t0 g0
    have r3 := Own.fa (Own.f0 hRo m0) v0 (fun a_ ha_ => (Own.tne (Own.f0 hRo m0) e1 (by decide) a_ ha_))
    have s3 := Own.fa (Own.f0 r3 X0) o0 (fun a_ ha_ => (Own.tne (Own.f0 r3 X0) m1 (by decide) a_ ha_))
    have t3 := Own.fa (Own.f0 s3 c0) d0 (fun a_ ha_ => (Own.tne (Own.f0 s3 c0) i1 (by decide) a_ ha_))
    have F5 := Own.fa (Own.f0 t3 H1) i0 (fun a_ ha_ => (Own.tne (Own.f0 t3 H1) W1 (by decide) a_ ha_))
    have P1 := (Own.f0 F5 u0)
    refine ann (i := 13) (b := true) rfl rfl (k_appendA (base := β) (n := k) (k := 1) (L := vs RL) (N := [.slice j0 143 k0, .slice Z0 1 a1]) u0.ag (eh b0 rfl) (eh b0 rfl) qs_37 qz_41 P1 (X2.bk.src (L := [.slice j0 143 k0, .slice Z0 1 a1]) (n := 1) (o := 0) (k := 2) (by kernel_rfl)) (fun h => by cases h) (by kernel_rfl) (by kernel_rfl) (by omega) (by decide) (by rw [maxLen_eq]; omega) (by omega) (fun t2 B2 M7 c3 K0 => ?_))
    have e7 := K0.size
    have r1 := m2.tr K0 (fun x hx => .inr (by have h_ : onA RA x := hx; exact (.inl (.inr h_))))
    refine ⟨(tbT ⟨_, r1⟩), ?_⟩
    refine tk1 (i := 14) (b := true) rfl rfl h0 (fun _ _ => r_nilCheck (eh b0 rfl)) (tbT ⟨_, r1⟩) <| tk1 (i := 15) (b := true) rfl rfl h0 (fun _ _ => r_field (o' := 57) (eh b0 rfl) fo_76_7 (by rfl)) (tbT ⟨_, r1⟩) <| tk1 (i := 16) (b := true) rfl rfl h0 (fun _ _ => r_field (o' := 57) (eh b0 rfl) fo_43_0 (by rfl)) (tbT ⟨_, r1⟩) ?_
    have I2 := (Y1.fs K0 (Mu.nA Y1 P1 (by decide)))
    refine an00 (i := 17) (b := true) rfl rfl (kt (L' := hc s ++ ([.pointer (some ⟨k1, 0, none⟩), .pointer (some ⟨O0, 0, none⟩), nn (g + 1), f0, f1, f2, f3, f4, f5, f6, f7, f8, f9, nn (v + 1), nn 1073741824, .slice D0 1 P0, nn 1, .slice E0 1 Q0, nn 1, .slice F0 1 R0, nn 1, .slice G0 1 S0, nn 1, lx, sn, .slice t2 (k + 1) B2, x0, x1, x2, x3, x4, led])) K0.ag (eh b0 rfl) (eh b0 rfl) I2 sz_37 (fun N7 L4 W0 => ?_))
    have g7 := W0.size
    have e6 := r1.tr W0 (fun x hx => .inr (by cases hx; exact (.inr rfl)))
    refine ⟨(tbT ⟨_, e6⟩), ?_⟩
    refine anyT_done (by kernel_rfl) ?_ _
    refine J1 <| sk fun _ i4 => rn <| gv (r_assign (v := nn 0) rfl) <| nl <| i4 <| wp_ret <| ret_of (res1 rfl _ _ (gh b0 rfl)) ((ov_defers _ _).trans I1) ?_
    have S5 := Fr.ll (Fr.ll (Fr.l2 i0 u0) K0) W0
    have G5 := e2.le S5
    have k2 := Fr.ll (Fr.l2 u0 K0) W0
    have H5 := M2.le k2
    have I5 := N2.le k2
    have J5 := O2.le k2
    have T5 := Fr.ll (Fr.ll (Fr.ll (Fr.ll (Fr.ll Q1 g0) i0) u0) K0) W0
    have K5 := n1.le T5
    have r4 := (((K1.f0 u0).fs K0 (Mu.nA (K1.f0 u0) P1 (by decide))).f1 W0 hrk.symm)
    have s4 := (((((((Y0.f0 c0).f1 d0 (by omega)).f0 H1).f1 i0 (by omega)).f0 u0).fs K0 (Mu.nA (((((Y0.f0 c0).f1 d0 (by omega)).f0 H1).f1 i0 (by omega)).f0 u0) P1 (by decide))).f1 W0 (by omega))
    have L5 := Own.fa c3 W0 (fun a_ ha_ => (Own.tne c3 I2 (by decide) a_ ha_))
    exact ⟨y3, j0, k0, Z0, a1, O0, z1, D1, D0, P0, E0, Q0, F0, R0, G0, S0, t2, B2, rfl, (((((((((((((((cu0.t0 m0).tr v0 (fun x hx => (by cases hx; exact .inr (.inl rfl)))).t0 C0).t0 M0).t0 N0).tr o0 (fun x hx => (by cases hx; exact .inr (.inl rfl)))).t0 c0).tr d0 (fun x hx => (by cases hx; exact .inr (.inl rfl)))).t0 n0).t0 e0).t0 g0).tr i0 (fun x hx => (by cases hx; exact .inr (.inr (.inl rfl))))).t0 u0).tr K0 (fun x hx => .inr (by have h_ : onA RA x := hx; exact (.inr (.inr h_))))).tr W0 (fun x hx => (by cases hx; exact .inr (.inl rfl)))), L4, r4, s4, K5, L5, ⟨G5, q2, y2, r2, z2, H5, I5, J5⟩, (by omega)⟩

theorem f6 {m : Ctx} {w : World} (ag : Ag m w) {rb g v k rc : Nat} {s : Bytes} {kx lx sn led f0 f1 f2 f3 f4 f5 f6 f7 f8 f9 l0 l1 l2 l3 l4 l5 l6 l7 l8 x0 x1 x2 x3 x4 : Value} {RA : Option Addr} {RL : List Value} {k1 c1 u1 : Nat} {A1 : Option Addr} {s1 : Bytes} (hmR : Mu m w rb 45 (hc s ++ ([.pointer (some ⟨k1, 0, none⟩), kx, nn g, f0, f1, f2, f3, f4, f5, f6, f7, f8, f9, nn v, l0, l1, l2, l3, l4, l5, l6, l7, l8, lx, sn, .slice RA k rc, x0, x1, x2, x3, x4, led]))) (hmK1 : Mu m w k1 29 (hc s1 ++ ([.slice A1 16 c1] ++ (hc (pk s1) ++ ([nn u1]))))) (hl1 : Sl m A1 16 c1 32 (hcs (lv s1))) (hRo : Sl m RA k rc 2 (vs RL)) (h1R : (vs RL).all (·.oneCell') = true) (hrk : rb ≠ k1) (hu : u1 < 16) (hg : g < 100) (hv1 : 1 ≤ v) (hv : v < 100) (hk : k < 8) : Calls Tryz.prog 6 #[.pointer (some ⟨rb, 0, none⟩)] w (Ret fun y w' => ∃ m' k6 A6 c6 L0 l0 L1 l1 L2 l2 L3 l3 RA' rc' RL', y = nn 0 ∧ Fr (orS (on rb) (on k1)) m w m' w' ∧ Mu m' w' rb 45 (hc s ++ ([.pointer (some ⟨k1, 0, none⟩), .pointer (some ⟨k6, 0, none⟩), nn (g + 1), f0, f1, f2, f3, f4, f5, f6, f7, f8, f9, nn (v + 1), nn 1073741824, .slice L0 1 l0, nn 1, .slice L1 1 l1, nn 1, .slice L2 1 l2, nn 1, .slice L3 1 l3, nn 1, lx, sn, .slice RA' (k + 1) rc', x0, x1, x2, x3, x4, led])) ∧ Mu m' w' k1 29 (hc s1 ++ ([.slice A1 16 c1] ++ (hc (pk s1) ++ ([nn (u1 + 1)])))) ∧ Mu m' w' k6 29 (hc (sdg s (g + 1)) ++ ([.slice A6 16 c6] ++ (hc (pk (sdg s (g + 1))) ++ ([nn 0])))) ∧ Sl m' A6 16 c6 32 (hcs (lv (sdg s (g + 1)))) ∧ Sl m' RA' (k + 1) rc' 2 (vs RL') ∧ (vs RL').all (·.oneCell') = true ∧ w.heap.size ≤ k6) := by
 refine enter Tryz.func6 rfl (fun E1 hT K1 => ?_)
 have b0 : E1.tmps.size = 78 := by rw [hT]; kernel_rfl
 have n0 : E1.tmps.getD 0 undef = .pointer (some ⟨rb, 0, none⟩) := by rw [hT]; kernel_rfl
 clear hT
 have cu0 : Fr (orS (on rb) (on k1)) m w m w := Fr.refl ag
 have lt_rb := hmR.lt
 have E4 := hmK1.lt
 refine sk fun _ w2 => rn <| gv (r_assign (v := nn 0) rfl) <| nl <| w2 <| sk fun _ A2 => bl <| sk fun _ B2 => rn <| mw b0 n0 <| nc b0 rfl <| gv (r_field (o' := 32) (eh b0 rfl) fo_45_1 (by rfl)) <| gv (la (v := .pointer (some ⟨k1, 0, none⟩)) (eh b0 rfl) hmR.bk qr_30) <| nc b0 rfl <| gv (r_field (o' := 65) (eh b0 rfl) fo_29_3 (by rfl)) <| gv (la (v := nn u1) (eh b0 rfl) hmK1.bk qr_3) <| gv (r_geq (j := 16) (eh b0 rfl) rfl) <| ms b0 rfl <| nl <| B2 ?_
 have U2 : (decide (16 ≤ u1)) = false := (decide_eq_false (by omega))
 refine cf (eb b0 rfl U2) <| sk fun _ E2 => rn <| mw b0 n0 <| nc b0 rfl <| gv (r_field (o' := 34) (eh b0 rfl) fo_45_3 (by rfl)) <| gv (la (v := nn g) (eh b0 rfl) hmR.bk qr_3) <| gv (r_geq (j := 200) (eh b0 rfl) rfl) <| ms b0 rfl <| nl <| E2 ?_
 have V2 : (decide (200 ≤ g)) = false := (decide_eq_false (by omega))
 refine cf (eb b0 rfl V2) <| ws <| A2 <| sk fun _ F2 => rn <| mw b0 n0 <| nc b0 rfl <| gv (r_field (o' := 34) (eh b0 rfl) fo_45_3 (by rfl)) <| gv (la (v := nn g) (eh b0 rfl) hmR.bk qr_3) <| gv (r_add (j := 1) (eh b0 rfl) rfl (by omega)) <| nc b0 rfl <| gv (r_field (o' := 34) (eh b0 rfl) fo_45_3 (by rfl)) <| gz (kt (L' := hc s ++ ([.pointer (some ⟨k1, 0, none⟩), kx, nn (g + 1), f0, f1, f2, f3, f4, f5, f6, f7, f8, f9, nn v, l0, l1, l2, l3, l4, l5, l6, l7, l8, lx, sn, .slice RA k rc, x0, x1, x2, x3, x4, led])) ag (eh b0 rfl) (eh b0 rfl) hmR sz_3 (fun h1 g3 P0 => ?_))
 have T4 := P0.size
 refine nl <| F2 <| sk fun _ z2 => ?_
 have z0 : Fr no m h1 m { h1 with drawn := h1.drawn + 1 } := Fr.drw P0.ag
 obtain ⟨X0, e2⟩ : ∃ w_, w_ = ({ h1 with drawn := h1.drawn + 1 } : World) := ⟨_, rfl⟩
 rw [← e2] at z0
 have n5 := z0.size
 refine wp_region_T mixed (fun wz => ∃ mz, Fr (no) m X0 mz wz) (fun wz => ∃ mz, Fr (on rb) m X0 mz wz) 13 ?_
 rw [← e2]
 show wpAnyT _ _ _ _ _ 14 _ _ _
 have s0 : Fr (no) m X0 m X0 := Fr.refl z0.ag
 have h3 : ∀ wz, (∃ mz, Fr (no) m X0 mz wz) → ∃ mz, Fr (on rb) m X0 mz wz := fun wz ⟨mz, hz⟩ => ⟨mz, hz.wk (fun x hx _ => hx.elim)⟩
 refine tk2 (i := 0) rfl rfl (fun _ _ => r_move (em b0 rfl rfl n0)) ⟨_, s0⟩ <| tk2 (i := 1) rfl rfl (fun _ _ => r_move (em b0 rfl rfl n0)) ⟨_, s0⟩ <| tk2 (i := 2) rfl rfl (fun _ _ => r_nilCheck (eh b0 rfl)) ⟨_, s0⟩ <| tk2 (i := 3) rfl rfl (fun _ _ => r_field (o' := 0) (eh b0 rfl) fo_45_0 (by rfl)) ⟨_, s0⟩ ?_
 have p1 := (g3.f0 z0)
 refine tk2 (i := 4) rfl rfl (fun wz ⟨mz, hz⟩ => lb (cs := hc s) (eh b0 rfl) (hz.ex p1.bk (fun h => h)) qr_23 sz_23) ⟨_, s0⟩ <| tk2 (i := 5) rfl rfl (fun _ _ => r_move (em b0 rfl rfl n0)) ⟨_, s0⟩ <| tk2 (i := 6) rfl rfl (fun _ _ => r_nilCheck (eh b0 rfl)) ⟨_, s0⟩ <| tk2 (i := 7) rfl rfl (fun _ _ => r_field (o' := 34) (eh b0 rfl) fo_45_3 (by rfl)) ⟨_, s0⟩ <| tk2 (i := 8) rfl rfl (fun wz ⟨mz, hz⟩ => la (v := nn (g + 1)) (eh b0 rfl) (hz.ex p1.bk (fun h => h)) qr_3) ⟨_, s0⟩ <| ann (i := 9) (b := false) rfl rfl (k_cl (f15 z0.ag) rfl fn_15 (map_cons (eh b0 rfl) (map_cons (eh b0 rfl) map_nil)) (fun u5 J5 m3 => ?_))
 obtain ⟨J4, rfl, H0⟩ := m3
 have o5 := H0.size
 have q2 := s0.t0 H0
 refine ⟨(tbF ⟨_, q2⟩), ?_⟩
 refine ann (i := 10) (b := false) rfl rfl (k_cl (f14 H0.ag) rfl fn_14 (map_cons (eh b0 rfl) (map_cons (v := nn 0) rfl map_nil)) (fun v5 K5 n3 => ?_))
 obtain ⟨K4, h0, D1, H1, rfl, I0, O1, c3, t4⟩ := n3
 have p5 := I0.size
 have o1 := q2.t0 I0
 have F4 := O1.lt
 refine ⟨(tbF ⟨_, o1⟩), ?_⟩
 refine tk1 (i := 11) (b := false) rfl rfl h3 (fun _ _ => r_nilCheck (eh b0 rfl)) (tbF ⟨_, o1⟩) <| tk2 (i := 12) rfl rfl (fun _ _ => r_field (o' := 33) (eh b0 rfl) fo_45_2 (by rfl)) ⟨_, o1⟩ ?_
 have T3 : Fr (on rb) _ _ _ _ := o1.wk (fun x hx _ => hx.elim)
 have u2 := H0.t0 I0
 have T2 := (p1.f0 u2)
 refine an00 (i := 13) (b := true) rfl rfl (kt (L' := hc s ++ ([.pointer (some ⟨k1, 0, none⟩), .pointer (some ⟨h0, 0, none⟩), nn (g + 1), f0, f1, f2, f3, f4, f5, f6, f7, f8, f9, nn v, l0, l1, l2, l3, l4, l5, l6, l7, l8, lx, sn, .slice RA k rc, x0, x1, x2, x3, x4, led])) I0.ag (eh b0 rfl) (eh b0 rfl) T2 sz_30 (fun L5 t1 A0 => ?_))
 have q5 := A0.size
 have U3 := T3.tr A0 (fun x hx => .inr (by cases hx; exact rfl))
 refine ⟨(tbT ⟨_, U3⟩), ?_⟩
 refine anyT_done (by kernel_rfl) ?_ _
 refine z2 <| sk fun _ G2 => rn <| mw b0 n0 <| mw b0 n0 <| mw b0 n0 <| nc b0 rfl <| gv (r_field (o' := 45) (eh b0 rfl) fo_45_5 (by rfl)) <| gv (r_field (o' := 45) (eh b0 rfl) fo_35_0 (by rfl)) <| gv (la (v := nn v) (eh b0 rfl) t1.bk qr_3) <| gv (r_add (j := 1) (eh b0 rfl) rfl (by omega)) ?_
 have y1 := Fr.ll (Fr.ll (Fr.ll (Fr.l2 P0 z0) H0) I0) A0
 have v1 := hl1.le y1
 have v2 := (z0.t0 H0).t0 I0
 have q1 := (((hmK1.f1 P0 hrk.symm).f0 v2).f1 A0 hrk.symm)
 have w1 := (c3.up A0)
 have r1 := (O1.f1 A0 (by omega))
 refine gk (k_cl (f16 A0.ag (X := [nn (g + 1), f0, f1, f2, f3, f4, f5, f6, f7, f8, f9, nn v, l0, l1, l2, l3, l4, l5, l6, l7, l8, lx, sn, .slice RA k rc, x0, x1, x2, x3, x4, led]) t1 q1 v1 r1 w1) rfl fn_16 (map_cons (eh b0 rfl) (map_cons (eh b0 rfl) map_nil)) (fun w5 M5 o3 => ?_))
 obtain ⟨L4, K0, S0, M0, T0, N0, U0, O0, V0, rfl, k0, W2, X2, Y2, Z2⟩ := o3
 have R4 := k0.size
 refine nc b0 rfl <| gv (r_field (o' := 45) (eh b0 rfl) fo_45_5 (by rfl)) ?_
 have H2 := (t1.f0 k0)
 refine gz (kt (L' := hc s ++ ([.pointer (some ⟨k1, 0, none⟩), .pointer (some ⟨h0, 0, none⟩), nn (g + 1), f0, f1, f2, f3, f4, f5, f6, f7, f8, f9, nn (v + 1), nn 1073741824, .slice K0 1 S0, nn 1, .slice M0 1 T0, nn 1, .slice N0 1 U0, nn 1, .slice O0 1 V0, nn 1, lx, sn, .slice RA k rc, x0, x1, x2, x3, x4, led])) k0.ag (eh b0 rfl) (eh b0 rfl) H2 sz_35 (fun W0 R1 d0 => ?_))
 have S4 := d0.size
 refine nl <| G2 <| sk fun _ y2 => rn <| mw b0 n0 <| nc b0 rfl <| gv (r_field (o' := 45) (eh b0 rfl) fo_45_5 (by rfl)) <| gv (lb (cs := [nn (v + 1), nn 1073741824, .slice K0 1 S0, nn 1, .slice M0 1 T0, nn 1, .slice N0 1 U0, nn 1, .slice O0 1 V0, nn 1]) (eh b0 rfl) R1.bk qr_35 sz_35) ?_
 have p3 := (W2.up d0)
 have q3 := (X2.up d0)
 have r3 := (Y2.up d0)
 have s3 := (Z2.up d0)
 refine gk (k_cl (f17 d0.ag p3 q3 r3 s3 (by omega) (by omega)) rfl fn_17 (map_cons (eh b0 rfl) map_nil) (fun r5 g1 i3 => ?_))
 obtain ⟨G4, o0, p0, rfl, i0, j1⟩ := i3
 have U4 := i0.size
 have Q1 : ((((((([UInt8.ofNat 1]) ++ ([UInt8.ofNat (v + 1)])) ++ ((((([0 ||| 128]) ++ ([0 ||| 128])) ++ ([0 ||| 128])) ++ ([0 ||| 128])) ++ ([4]))) ++ ((([UInt8.ofNat 1]) ++ (n32 (pk s1))) ++ ([UInt8.ofNat 1]))) ++ ((([UInt8.ofNat 1]) ++ (n32 (pk (sdg s (g + 1))))) ++ ([UInt8.ofNat 1]))) ++ ((([UInt8.ofNat 1]) ++ (n32 (pk (sdg s (g + 1))))) ++ ([UInt8.ofNat 1]))) ++ ((([UInt8.ofNat 1]) ++ (n32 (pk (sdg s (g + 1))))) ++ ([UInt8.ofNat 1])) : List UInt8).length = 143 := (Own.blen j1)
 have M4 := j1.nilc
 obtain ⟨J0, r2, Y1⟩ := j1.fz i0.ag
 have j0 : Fr (ge W0.heap.size) _ _ _ _ := r2.wk (fun x hx _ => j1.at x hx)
 have V4 := j0.size
 refine mv b0 rfl <| gv (r_extract (v := .slice o0 143 p0) (eh b0 rfl) (by kernel_rfl)) <| gv (r_extract (v := nn 0) (eh b0 rfl) (by kernel_rfl)) <| ms b0 rfl <| ms b0 rfl <| nl <| y2 <| sk fun _ M1 => ?_
 have e0 : Fr no J0 g1 J0 { g1 with drawn := g1.drawn + 1 } := Fr.drw j0.ag
 obtain ⟨c0, d2⟩ : ∃ w_, w_ = ({ g1 with drawn := g1.drawn + 1 } : World) := ⟨_, rfl⟩
 rw [← d2] at e0
 have W4 := e0.size
 refine wp_region_T mixed (fun wz => ∃ mz, Fr (no) J0 c0 mz wz) (fun wz => ∃ mz, Fr (orS (on k1) (on rb)) J0 c0 mz wz) 13 ?_
 rw [← d2]
 show wpAnyT _ _ _ _ _ 20 _ _ _
 have m0 : Fr (no) J0 c0 J0 c0 := Fr.refl e0.ag
 have g0 : ∀ wz, (∃ mz, Fr (no) J0 c0 mz wz) → ∃ mz, Fr (orS (on k1) (on rb)) J0 c0 mz wz := fun wz ⟨mz, hz⟩ => ⟨mz, hz.wk (fun x hx _ => hx.elim)⟩
 refine tk1 (i := 0) (b := false) rfl rfl g0 (fun _ _ => r_move (em b0 rfl rfl n0)) (tbF ⟨_, m0⟩) <| tk1 (i := 2) (b := false) rfl rfl g0 (fun _ _ => r_move (em b0 rfl rfl n0)) (tbF ⟨_, m0⟩) <| tk1 (i := 3) (b := false) rfl rfl g0 (fun _ _ => r_nilCheck (eh b0 rfl)) (tbF ⟨_, m0⟩) <| tk1 (i := 4) (b := false) rfl rfl g0 (fun _ _ => r_field (o' := 57) (eh b0 rfl) fo_45_8 (by rfl)) (tbF ⟨_, m0⟩) <| tk1 (i := 5) (b := false) rfl rfl g0 (fun _ _ => r_field (o' := 57) (eh b0 rfl) fo_43_0 (by rfl)) (tbF ⟨_, m0⟩) <| tk1 (i := 8) (b := false) rfl rfl g0 (fun _ _ => r_move (em b0 rfl rfl n0)) (tbF ⟨_, m0⟩) <| tk1 (i := 9) (b := false) rfl rfl g0 (fun _ _ => r_nilCheck (eh b0 rfl)) (tbF ⟨_, m0⟩) <| tk1 (i := 10) (b := false) rfl rfl g0 (fun _ _ => r_field (o' := 32) (eh b0 rfl) fo_45_1 (by rfl)) (tbF ⟨_, m0⟩) ?_
 have i1 := (((R1.f0 i0).fs j0 (show ¬ W0.heap.size ≤ rb from by omega)).f0 e0)
 refine tk2 (i := 11) rfl rfl (fun wz ⟨mz, hz⟩ => la (v := .pointer (some ⟨k1, 0, none⟩)) (eh b0 rfl) (hz.ex i1.bk (fun h => h)) qr_30) ⟨_, m0⟩ <| tk2 (i := 12) rfl rfl (fun _ _ => r_move (eh b0 rfl)) ⟨_, m0⟩ <| anyT_all (rs := [1, 6]) (by kernel_rfl) (by simp) (fun u4 P1 => ?_)
 simp only [List.mem_cons, List.mem_nil_iff, or_false] at P1
 rcases P1 with rfl | rfl
 ·
  refine ao (b := false) rfl rfl rfl (by kernel_rfl) (k_lit (e := 41) (L := []) e0.ag pm_nil (by kernel_rfl) (fun x5 b4 S1 q0 v4 => ?_))
  have X4 := q0.size
  have z1 := m0.t0 q0
  have A4 := S1.lt
  refine ⟨(tbF ⟨_, z1⟩), ?_⟩
  have N1 := (i1.f0 q0)
  refine ann (i := 6) (b := false) rfl rfl (kv (la (v := .slice RA k rc) (eh b0 rfl) N1.bk qr_37) ⟨(tbF ⟨_, z1⟩), ?_⟩)
  have G3 := Fr.ll (Fr.ll (Fr.ll (Fr.ll (Fr.ll (Fr.ll y1 k0) d0) i0) j0) e0) q0
  have Z1 := hRo.le G3
  refine ann (i := 7) (b := false) rfl rfl (k_append0 (base := c0.heap.size) (N := vs RL) q0.ag (eh b0 rfl) (eh b0 rfl) qs_37 qz_41 (Own.of_mu S1 (by omega) (by kernel_rfl) (by decide)) (Z1.src q0.ag) (Z1.nilc) (Sl.vlen hRo) h1R (by omega) (by decide) (by rw [maxLen_eq]; omega) (by omega) (fun V3 g4 y5 W1 u0 => ?_))
  have Y4 := u0.size
  have i2 := z1.tg u0 (by omega)
  have N4 := W1.nilc
  refine ⟨(tbF ⟨_, i2⟩), ?_⟩
  have P3 : Fr (orS (on k1) (on rb)) _ _ _ _ := i2.wk (fun x hx _ => hx.elim)
  have g2 := Fr.ll (Fr.ll (Fr.ll (Fr.ll (Fr.ll (Fr.l2 k0 d0) i0) j0) e0) q0) u0
  have t3 := v1.le g2
  have I1 := e0.t0 q0
  have I2 := ((((((q1.f0 k0).f1 d0 hrk.symm).f0 i0).fs j0 (show ¬ W0.heap.size ≤ k1 from by omega)).f0 I1).fs u0 (show ¬ c0.heap.size ≤ k1 from by omega))
  have H3 := Fr.ll (Fr.l2 e0 q0) u0
  have u3 := Y1.le H3
  refine ann (i := 13) (b := true) rfl rfl (k_cl (f18 (q := []) u0.ag I2 t3 u3 Q1 (by decide) (by omega)) rfl fn_18 (map_cons (eh b0 rfl) (map_cons (eh b0 rfl) map_nil)) (fun s5 z5 j3 => ?_))
  obtain ⟨H4, Y0, a1, W3, h4, X3, i4, rfl, B0, a3, n4, o4, p4⟩ := j3
  have Z4 := B0.size
  have j2 := P3.tr B0 (fun x hx => .inr (by cases hx; exact (.inl rfl)))
  refine ⟨(tbT ⟨_, j2⟩), ?_⟩
  refine ann (i := 14) (b := true) rfl rfl (k_lit (e := 41) (L := [.slice o0 143 p0, .slice Y0 1 a1]) B0.ag (pm_cons (eh b0 rfl) pm_nil) (by kernel_rfl) (fun A5 c4 T1 v0 w4 => ?_))
  have a5 := v0.size
  have k2 := j2.t0 v0
  have B4 := T1.lt
  refine ⟨(tbT ⟨_, k2⟩), ?_⟩
  have v3 := ((W1.f1 B0 (by omega)).f0 v0)
  refine ann (i := 15) (b := true) rfl rfl (k_append (base := c0.heap.size) (L := vs RL) (N := [.slice o0 143 p0, .slice Y0 1 a1]) v0.ag (eh b0 rfl) (eh b0 rfl) qs_37 qz_41 v3 (T1.bk.src (L := [.slice o0 143 p0, .slice Y0 1 a1]) (n := 1) (o := 0) (k := 2) (by kernel_rfl)) (fun h => by cases h) (by kernel_rfl) (by kernel_rfl) (by omega) (by decide) (by rw [maxLen_eq]; omega) (by omega) (fun B1 F1 B5 m1 C0 => ?_))
  have b5 := C0.size
  have d1 := k2.tg C0 (by omega)
  replace m1 : Own _ _ _ _ _ _ _ _ (vs RL ++ ([.slice o0 143 p0, .slice Y0 1 a1])) := m1
  have O4 := m1.nilc
  refine ⟨(tbT ⟨_, d1⟩), ?_⟩
  refine tk1 (i := 16) (b := true) rfl rfl g0 (fun _ _ => r_nilCheck (eh b0 rfl)) (tbT ⟨_, d1⟩) <| tk1 (i := 17) (b := true) rfl rfl g0 (fun _ _ => r_field (o' := 57) (eh b0 rfl) fo_45_8 (by rfl)) (tbT ⟨_, d1⟩) <| tk1 (i := 18) (b := true) rfl rfl g0 (fun _ _ => r_field (o' := 57) (eh b0 rfl) fo_43_0 (by rfl)) (tbT ⟨_, d1⟩) ?_
  have J2 := ((((N1.fs u0 (show ¬ c0.heap.size ≤ rb from by omega)).f1 B0 hrk).f0 v0).fs C0 (show ¬ c0.heap.size ≤ rb from by omega))
  refine an00 (i := 19) (b := true) rfl rfl (kt (L' := hc s ++ ([.pointer (some ⟨k1, 0, none⟩), .pointer (some ⟨h0, 0, none⟩), nn (g + 1), f0, f1, f2, f3, f4, f5, f6, f7, f8, f9, nn (v + 1), nn 1073741824, .slice K0 1 S0, nn 1, .slice M0 1 T0, nn 1, .slice N0 1 U0, nn 1, .slice O0 1 V0, nn 1, lx, sn, .slice B1 (k + 1) F1, x0, x1, x2, x3, x4, led])) C0.ag (eh b0 rfl) (eh b0 rfl) J2 sz_37 (fun C5 d3 D0 => ?_))
  have c5 := D0.size
  have Q3 := d1.tr D0 (fun x hx => .inr (by cases hx; exact (.inr rfl)))
  refine ⟨(tbT ⟨_, Q3⟩), ?_⟩
  refine anyT_done (by kernel_rfl) ?_ _
  refine M1 <| sk fun _ C2 => rn <| gv (r_assign (v := nn 0) rfl) <| nl <| C2 <| wp_ret <| ret_of (res1 rfl _ _ (gh b0 rfl)) ((ov_defers _ _).trans K1) ?_
  have I3 := Fr.ll (Fr.ll (Fr.ll (Fr.ll g2 B0) v0) C0) D0
  have w3 := w1.le I3
  have a2 := (m1.f1 D0 (by omega))
  obtain ⟨N3, s2, y3⟩ := a2.fz D0.ag
  have Q0 : Fr (ge c0.heap.size) _ _ _ _ := s2.wk (fun x hx _ => a2.at x hx)
  have d5 := Q0.size
  have K2 := (d3.fs Q0 (show ¬ c0.heap.size ≤ rb from by omega))
  have M2 := ((((a3.f0 v0).fs C0 (show ¬ c0.heap.size ≤ k1 from by omega)).f1 D0 hrk.symm).fs Q0 (show ¬ c0.heap.size ≤ k1 from by omega))
  have N2 := (((((((((((r1.f0 k0).f1 d0 (by omega)).f0 i0).fs j0 (show ¬ W0.heap.size ≤ h0 from by omega)).f0 I1).fs u0 (show ¬ c0.heap.size ≤ h0 from by omega)).f1 B0 (by omega)).f0 v0).fs C0 (show ¬ c0.heap.size ≤ h0 from by omega)).f1 D0 (by omega)).fs Q0 (show ¬ c0.heap.size ≤ h0 from by omega))
  have z3 := (w3.up Q0)
  exact ⟨N3, h0, D1, H1, K0, S0, M0, T0, N0, U0, O0, V0, B1, F1, RL ++ ([.slice o0 143 p0, .slice Y0 1 a1] : List Value), rfl, (((((((((((((((((cu0.tr P0 (fun x hx => (by cases hx; exact .inr (.inl rfl)))).t0 z0).t0 H0).t0 I0).tr A0 (fun x hx => (by cases hx; exact .inr (.inl rfl)))).t0 k0).tr d0 (fun x hx => (by cases hx; exact .inr (.inl rfl)))).t0 i0).tg j0 (by omega)).t0 e0).t0 q0).tg u0 (by omega)).tr B0 (fun x hx => (by cases hx; exact .inr (.inr rfl)))).t0 v0).tg C0 (by omega)).tr D0 (fun x hx => (by cases hx; exact .inr (.inl rfl)))).tg Q0 (by omega)), K2, M2, N2, z3, y3, (ones_app h1R (by kernel_rfl)), (by omega)⟩
 ·
  refine ao (b := false) rfl rfl rfl (by kernel_rfl) (kv (la (v := .slice RA k rc) (eh b0 rfl) i1.bk qr_37) ⟨(tbF ⟨_, m0⟩), ?_⟩)
  refine ann (i := 1) (b := false) rfl rfl (k_lit (e := 41) (L := []) e0.ag pm_nil (by kernel_rfl) (fun D5 d4 U1 r0 y4 => ?_))
  have e5 := r0.size
  have m2 := m0.t0 r0
  have C4 := U1.lt
  refine ⟨(tbF ⟨_, m2⟩), ?_⟩
  have J3 := Fr.ll (Fr.ll (Fr.ll (Fr.ll (Fr.ll (Fr.ll y1 k0) d0) i0) j0) e0) r0
  have b2 := hRo.le J3
  refine ann (i := 7) (b := false) rfl rfl (k_append0 (base := c0.heap.size) (N := vs RL) r0.ag (eh b0 rfl) (eh b0 rfl) qs_37 qz_41 (Own.of_mu U1 (by omega) (by kernel_rfl) (by decide)) (b2.src r0.ag) (b2.nilc) (Sl.vlen hRo) h1R (by omega) (by decide) (by rw [maxLen_eq]; omega) (by omega) (fun Y3 j4 E5 X1 w0 => ?_))
  have g5 := w0.size
  have n2 := m2.tg w0 (by omega)
  have P4 := X1.nilc
  refine ⟨(tbF ⟨_, n2⟩), ?_⟩
  have R3 : Fr (orS (on k1) (on rb)) _ _ _ _ := n2.wk (fun x hx _ => hx.elim)
  have h2 := Fr.ll (Fr.ll (Fr.ll (Fr.ll (Fr.ll (Fr.l2 k0 d0) i0) j0) e0) r0) w0
  have A3 := v1.le h2
  have J1 := e0.t0 r0
  have O2 := ((((((q1.f0 k0).f1 d0 hrk.symm).f0 i0).fs j0 (show ¬ W0.heap.size ≤ k1 from by omega)).f0 J1).fs w0 (show ¬ c0.heap.size ≤ k1 from by omega))
  have K3 := Fr.ll (Fr.l2 e0 r0) w0
  have B3 := Y1.le K3
  refine ann (i := 13) (b := true) rfl rfl (k_cl (f18 (q := []) w0.ag O2 A3 B3 Q1 (by decide) (by omega)) rfl fn_18 (map_cons (eh b0 rfl) (map_cons (eh b0 rfl) map_nil)) (fun t5 F5 k3 => ?_))
  obtain ⟨I4, Z0, b1, Z3, k4, a4, m4, rfl, E0, b3, q4, r4, s4⟩ := k3
  have h5 := E0.size
  have o2 := R3.tr E0 (fun x hx => .inr (by cases hx; exact (.inl rfl)))
  refine ⟨(tbT ⟨_, o2⟩), ?_⟩
  refine ann (i := 14) (b := true) rfl rfl (k_lit (e := 41) (L := [.slice o0 143 p0, .slice Z0 1 b1]) E0.ag (pm_cons (eh b0 rfl) pm_nil) (by kernel_rfl) (fun G5 e4 V1 y0 z4 => ?_))
  have i5 := y0.size
  have p2 := o2.t0 y0
  have D4 := V1.lt
  refine ⟨(tbT ⟨_, p2⟩), ?_⟩
  have C3 := ((X1.f1 E0 (by omega)).f0 y0)
  refine ann (i := 15) (b := true) rfl rfl (k_append (base := c0.heap.size) (L := vs RL) (N := [.slice o0 143 p0, .slice Z0 1 b1]) y0.ag (eh b0 rfl) (eh b0 rfl) qs_37 qz_41 C3 (V1.bk.src (L := [.slice o0 143 p0, .slice Z0 1 b1]) (n := 1) (o := 0) (k := 2) (by kernel_rfl)) (fun h => by cases h) (by kernel_rfl) (by kernel_rfl) (by omega) (by decide) (by rw [maxLen_eq]; omega) (by omega) (fun C1 G1 H5 n1 F0 => ?_))
  have j5 := F0.size
  have e1 := p2.tg F0 (by omega)
  replace n1 : Own _ _ _ _ _ _ _ _ (vs RL ++ ([.slice o0 143 p0, .slice Z0 1 b1])) := n1
  have Q4 := n1.nilc
  refine ⟨(tbT ⟨_, e1⟩), ?_⟩
  refine tk1 (i := 16) (b := true) rfl rfl g0 (fun _ _ => r_nilCheck (eh b0 rfl)) (tbT ⟨_, e1⟩) <| tk1 (i := 17) (b := true) rfl rfl g0 (fun _ _ => r_field (o' := 57) (eh b0 rfl) fo_45_8 (by rfl)) (tbT ⟨_, e1⟩) <| tk1 (i := 18) (b := true) rfl rfl g0 (fun _ _ => r_field (o' := 57) (eh b0 rfl) fo_43_0 (by rfl)) (tbT ⟨_, e1⟩) ?_
  have P2 := (((((i1.f0 r0).fs w0 (show ¬ c0.heap.size ≤ rb from by omega)).f1 E0 hrk).f0 y0).fs F0 (show ¬ c0.heap.size ≤ rb from by omega))
  refine an00 (i := 19) (b := true) rfl rfl (kt (L' := hc s ++ ([.pointer (some ⟨k1, 0, none⟩), .pointer (some ⟨h0, 0, none⟩), nn (g + 1), f0, f1, f2, f3, f4, f5, f6, f7, f8, f9, nn (v + 1), nn 1073741824, .slice K0 1 S0, nn 1, .slice M0 1 T0, nn 1, .slice N0 1 U0, nn 1, .slice O0 1 V0, nn 1, lx, sn, .slice C1 (k + 1) G1, x0, x1, x2, x3, x4, led])) F0.ag (eh b0 rfl) (eh b0 rfl) P2 sz_37 (fun I5 e3 G0 => ?_))
  have k5 := G0.size
  have S3 := e1.tr G0 (fun x hx => .inr (by cases hx; exact (.inr rfl)))
  refine ⟨(tbT ⟨_, S3⟩), ?_⟩
  refine anyT_done (by kernel_rfl) ?_ _
  refine M1 <| sk fun _ D2 => rn <| gv (r_assign (v := nn 0) rfl) <| nl <| D2 <| wp_ret <| ret_of (res1 rfl _ _ (gh b0 rfl)) ((ov_defers _ _).trans K1) ?_
  have M3 := Fr.ll (Fr.ll (Fr.ll (Fr.ll h2 E0) y0) F0) G0
  have D3 := w1.le M3
  have c2 := (n1.f1 G0 (by omega))
  obtain ⟨O3, t2, E3⟩ := c2.fz G0.ag
  have R0 : Fr (ge c0.heap.size) _ _ _ _ := t2.wk (fun x hx _ => c2.at x hx)
  have m5 := R0.size
  have Q2 := (e3.fs R0 (show ¬ c0.heap.size ≤ rb from by omega))
  have R2 := ((((b3.f0 y0).fs F0 (show ¬ c0.heap.size ≤ k1 from by omega)).f1 G0 hrk.symm).fs R0 (show ¬ c0.heap.size ≤ k1 from by omega))
  have S2 := (((((((((((r1.f0 k0).f1 d0 (by omega)).f0 i0).fs j0 (show ¬ W0.heap.size ≤ h0 from by omega)).f0 J1).fs w0 (show ¬ c0.heap.size ≤ h0 from by omega)).f1 E0 (by omega)).f0 y0).fs F0 (show ¬ c0.heap.size ≤ h0 from by omega)).f1 G0 (by omega)).fs R0 (show ¬ c0.heap.size ≤ h0 from by omega))
  have F3 := (D3.up R0)
  exact ⟨O3, h0, D1, H1, K0, S0, M0, T0, N0, U0, O0, V0, C1, G1, RL ++ ([.slice o0 143 p0, .slice Z0 1 b1] : List Value), rfl, (((((((((((((((((cu0.tr P0 (fun x hx => (by cases hx; exact .inr (.inl rfl)))).t0 z0).t0 H0).t0 I0).tr A0 (fun x hx => (by cases hx; exact .inr (.inl rfl)))).t0 k0).tr d0 (fun x hx => (by cases hx; exact .inr (.inl rfl)))).t0 i0).tg j0 (by omega)).t0 e0).t0 r0).tg w0 (by omega)).tr E0 (fun x hx => (by cases hx; exact .inr (.inr rfl)))).t0 y0).tg F0 (by omega)).tr G0 (fun x hx => (by cases hx; exact .inr (.inl rfl)))).tg R0 (by omega)), Q2, R2, S2, F3, E3, (ones_app h1R (by kernel_rfl)), (by omega)⟩

end Go.Proofs.YtiggfalelcepbaaGreatDoor

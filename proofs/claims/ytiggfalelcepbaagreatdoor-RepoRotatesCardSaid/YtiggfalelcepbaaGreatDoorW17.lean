/- The walks of chapter 16: New, Root, Used. -/
import Derived.Test.YtiggfalelcepbaaGreatDoorK7
import Derived.Test.YtiggfalelcepbaaGreatDoorSX
import Derived.Test.YtiggfalelcepbaaGreatDoorW16
import Derived.Test.YtiggfalelcepbaaGreatDoorTX
namespace Go.Proofs.YtiggfalelcepbaaGreatDoor
open Go
set_option maxRecDepth 100000
set_option maxHeartbeats 4000000
theorem f31r {m : Ctx} {w : World} (ag : Ag m w) {v : Nat} {a b : Bytes} {L0 L1 L2 L3 : Option Addr} {l0 l1 l2 l3 : Nat} (hL0 : Sl m L0 1 l0 32 (hc a)) (hL1 : Sl m L1 1 l1 32 (hc b)) (hL2 : Sl m L2 1 l2 32 (hc b)) (hL3 : Sl m L3 1 l3 32 (hc b)) (hv : v < 128) (hv1 : 1 ≤ v) : Calls Tryz.prog 31 #[.agg ([nn v, nn 1073741824, .slice L0 1 l0, nn 1, .slice L1 1 l1, nn 1, .slice L2 1 l2, nn 1, .slice L3 1 l3, nn 1]).toArray] w (Ret fun y w' => ∃ m' A' c', y = .tuple #[.slice A' 143 c', nn 0] ∧ Fr no m w m' w' ∧ Sl m' A' 143 c' 1 (bv (rootB v a b))) := by
 have h := f31 ag hL0 hL1 hL2 hL3 hv hv1
 rw [rootB_w] at h
 exact h

theorem f25r {m : Ctx} {w : World} (ag : Ag m w) {v e : Nat} {h : Bytes} (hv : v < 128) (he : e < 128) (hs : v < 128) (hv1 : 1 ≤ v) (hs1 : 1 ≤ v) : Calls Tryz.prog 25 #[.agg ([nn v, nn e, nn v] ++ (hc h)).toArray] w (Ret fun y w' => ∃ m' A' c', y = .tuple #[.slice A' 36 c', nn 0] ∧ Fr no m w m' w' ∧ Sl m' A' 36 c' 1 (bv (timeB v e h))) := by
 have h := f25 ag (h1 := h) hv he hs hv1 hs1
 rw [timeB_w] at h
 exact h

theorem f24r {m : Ctx} {w : World} (ag : Ag m w) {v e : Nat} {lc : Nat} {L : Option Addr} (hL : Sl m L 1 lc 2 [.string (⟨#[116, 111, 112]⟩ : ByteArray), nn v]) (hv : v < 128) (hv2 : v < 128) (he : e < 128) (hv1 : 1 ≤ v) (hv3 : 1 ≤ v) : Calls Tryz.prog 24 #[.agg ([nn v, nn e, .slice L 1 lc]).toArray] w (Ret fun y w' => ∃ m' A' c', y = .tuple #[.slice A' 9 c', nn 0] ∧ Fr no m w m' w' ∧ Sl m' A' 9 c' 1 (bv (snapB v e))) := by
 have h := f24 ag hL hv hv2 he hv1 hv3
 rw [snapB_w] at h
 exact h

theorem f23r {m : Ctx} {w : World} (ag : Ag m w) {v e : Nat} (hv : v < 128) (he : e < 128) (hv1 : 1 ≤ v) : Calls Tryz.prog 23 #[.agg ([.string (⟨#[116, 111, 112]⟩ : ByteArray), nn v, nn e, .slice none 0 0, .slice none 0 0]).toArray] w (Ret fun y w' => ∃ m' A' c', y = .tuple #[.slice A' 9 c', nn 0] ∧ Fr no m w m' w' ∧ Sl m' A' 9 c' 1 (bv (targB v e))) := by
 have h := f23 ag hv he hv1
 rw [targB_w] at h
 exact h

theorem f21 {m : Ctx} {w : World} (ag : Ag m w) {rb v : Nat} {s : Bytes} {X : List Value} {k1 c1 u1 : Nat} {A1 : Option Addr} {s1 : Bytes} {k2 c2 u2 : Nat} {A2 : Option Addr} {s2 : Bytes} (hmR : Mu m w rb 76 (hc s ++ ([.pointer (some ⟨k1, 0, none⟩), .pointer (some ⟨k2, 0, none⟩)] ++ X))) (hmK1 : Mu m w k1 116 (hc s1 ++ ([.slice A1 16 c1, nn u1]))) (hl1 : Sl m A1 16 c1 32 (hcs (lv s1))) (hmK2 : Mu m w k2 116 (hc s2 ++ ([.slice A2 16 c2, nn u2]))) (hl2 : Sl m A2 16 c2 32 (hcs (lv s2))) : Calls Tryz.prog 21 #[.pointer (some ⟨rb, 0, none⟩), nn v] w (Ret fun y w' => ∃ m' L0 l0 L1 l1 L2 l2 L3 l3, y = .agg ([nn v, nn 1073741824, .slice L0 1 l0, nn 1, .slice L1 1 l1, nn 1, .slice L2 1 l2, nn 1, .slice L3 1 l3, nn 1]).toArray ∧ Fr no m w m' w' ∧ Sl m' L0 1 l0 32 (hc (pk s1)) ∧ Sl m' L1 1 l1 32 (hc (pk s2)) ∧ Sl m' L2 1 l2 32 (hc (pk s2)) ∧ Sl m' L3 1 l3 32 (hc (pk s2))) := by
 refine enter Tryz.func21 rfl (fun I0 hT m1 => ?_)
 have b0 : I0.tmps.size = 34 := by rw [hT]; kernel_rfl
 have E0 : I0.tmps.getD 0 undef = .pointer (some ⟨rb, 0, none⟩) := by rw [hT]; kernel_rfl
 have S2 : I0.tmps.getD 1 undef = nn v := by rw [hT]; kernel_rfl
 clear hT
 have cu0 : Fr (no) m w m w := Fr.refl ag
 have lt_rb := hmR.lt
 have j3 := hmK1.lt
 have k3 := hmK2.lt
 refine sk fun _ n1 => rn <| gk (k_alloc ag qz_35 (fun U3 j1 S0 z0 Z2 => ?_))
 have F3 := z0.size
 have e3 := S0.lt
 refine nl <| n1 <| sk fun _ R1 => rn <| mw b0 S2 <| gv (r_build (cs := [nn v, nn 1073741824, .slice none 0 0, nn 0, .slice none 0 0, nn 0, .slice none 0 0, nn 0, .slice none 0 0, nn 0]) (pm_cons (eh b0 rfl) (pm_cons (v := nn 1073741824) rfl pm_nil)) (by kernel_rfl)) <| gk (k_alloc z0.ag qz_35 (fun c4 T2 Q0 s0 W2 => ?_))
 have u3 := s0.size
 have c3 := Q0.lt
 refine gz (kt (L' := [nn v, nn 1073741824, .slice none 0 0, nn 0, .slice none 0 0, nn 0, .slice none 0 0, nn 0, .slice none 0 0, nn 0]) s0.ag (eh b0 rfl) (eh b0 rfl) Q0 sz_35 (fun T3 t2 k0 => ?_))
 have A3 := k0.size
 refine nl <| R1 <| sk fun _ z1 => sk fun _ B1 => rn <| gv (r_move (v := nn 0) rfl) <| nl <| B1 <| bl <| wp_unroll (n := 5) <| un_step (n := 4) <| sk fun _ C1 => rn <| gv (r_lss (j := 4) (eh b0 rfl) rfl) <| nl <| C1 <| sk fun _ D1 => cd b0 rfl <| ws <| D1 <| sk fun _ E1 => bl <| sk fun _ F1 => rn <| mv b0 rfl <| ms b0 rfl <| nl <| F1 <| sk fun _ G1 => rn <| mw b0 E0 <| nc b0 rfl <| gv (r_field (o' := 32) (eh b0 rfl) fo_76_1 (by rfl)) <| gv (r_idxA (i := 1) (o' := 33) (eh b0 rfl) rfl qa_74 (by decide) (by rfl)) ?_
 have J0 := z0.t0 s0
 have K0 := ((hmR.f0 J0).f1 k0 (by omega))
 refine gv (la (v := .pointer (some ⟨k2, 0, none⟩)) (eh b0 rfl) K0.bk qr_73) <| ms b0 rfl <| nl <| G1 <| sk fun _ H1 => sk fun _ I1 => rn <| mv b0 rfl <| gv (r_eql (j := 0) (eh b0 rfl) rfl) <| nl <| I1 <| cd b0 rfl <| rn <| mw b0 E0 <| nc b0 rfl <| gv (r_field (o' := 32) (eh b0 rfl) fo_76_1 (by rfl)) <| gv (r_idxA (i := 0) (o' := 32) (eh b0 rfl) rfl qa_74 (by decide) (by rfl)) <| gv (la (v := .pointer (some ⟨k1, 0, none⟩)) (eh b0 rfl) K0.bk qr_73) <| ms b0 rfl <| nl <| H1 <| rn <| mv b0 rfl <| mv b0 rfl ?_
 have d1 := Fr.ll (Fr.l2 z0 s0) k0
 have M2 := hl1.le d1
 have m2 := ((hmK1.f0 J0).f1 k0 (by omega))
 refine gk (k_cl (f28 k0.ag m2 M2) rfl fn_28 (map_cons (eh b0 rfl) map_nil) (fun K3 V3 z2 => ?_))
 obtain ⟨m3, rfl, x0⟩ := z2
 have B3 := x0.size
 refine gk (k_lit (e := 23) (L := hc (pk s1)) x0.ag (pm_cons (eh b0 rfl) pm_nil) (by kernel_rfl) (fun W3 c0 T0 y0 Y2 => ?_))
 have C3 := y0.size
 have g3 := T0.lt
 refine gv (r_build (cs := [.slice (some ⟨c0, 0, none⟩) 1 1, nn 1]) (pm_cons (eh b0 rfl) (pm_cons (v := nn 1) rfl pm_nil)) (by kernel_rfl)) <| gv (r_field (o' := 2) (eh b0 rfl) fo_35_2 (by rfl)) <| gv (r_idxA (o' := 2) (eh b0 rfl) (eh b0 rfl) qa_33 (by decide) (by rfl)) ?_
 have H0 := x0.t0 y0
 have n2 := (t2.f0 H0)
 refine gz (kt (L' := [nn v, nn 1073741824, .slice (some ⟨c0, 0, none⟩) 1 1, nn 1, .slice none 0 0, nn 0, .slice none 0 0, nn 0, .slice none 0 0, nn 0]) y0.ag (eh b0 rfl) (eh b0 rfl) n2 sz_32 (fun X3 v2 m0 => ?_))
 have D3 := m0.size
 refine nl <| E1 <| rn <| gv (r_add (j := 1) (eh b0 rfl) rfl (by decide)) <| mv b0 rfl <| nl <| un_next <| un_step (n := 3) <| sk fun _ J1 => rn <| gv (r_lss (j := 4) (eh b0 rfl) rfl) <| nl <| J1 <| sk fun _ K1 => cd b0 rfl <| ws <| K1 <| sk fun _ M1 => bl <| sk fun _ N1 => rn <| mv b0 rfl <| ms b0 rfl <| nl <| N1 <| sk fun _ O1 => rn <| mw b0 E0 <| nc b0 rfl <| gv (r_field (o' := 32) (eh b0 rfl) fo_76_1 (by rfl)) <| gv (r_idxA (i := 1) (o' := 33) (eh b0 rfl) rfl qa_74 (by decide) (by rfl)) ?_
 have M0 := ((K0.f0 H0).f1 m0 (by omega))
 refine gv (la (v := .pointer (some ⟨k2, 0, none⟩)) (eh b0 rfl) M0.bk qr_73) <| ms b0 rfl <| nl <| O1 <| sk fun _ P1 => sk fun _ Q1 => rn <| mv b0 rfl <| gv (r_eql (j := 0) (eh b0 rfl) rfl) <| nl <| Q1 <| ce b0 rfl <| ws <| P1 <| rn <| mv b0 rfl <| mv b0 rfl ?_
 have P2 := Fr.ll (Fr.ll (Fr.ll d1 x0) y0) m0
 have a1 := hl2.le P2
 have N0 := ((((hmK2.f0 J0).f1 k0 (by omega)).f0 H0).f1 m0 (by omega))
 refine gk (k_cl (f28 m0.ag N0 a1) rfl fn_28 (map_cons (eh b0 rfl) map_nil) (fun M3 Y3 B2 => ?_))
 obtain ⟨n3, rfl, A0⟩ := B2
 have E3 := A0.size
 refine gk (k_lit (e := 23) (L := hc (pk s2)) A0.ag (pm_cons (eh b0 rfl) pm_nil) (by kernel_rfl) (fun Z3 d0 U0 B0 a3 => ?_))
 have G3 := B0.size
 have h3 := U0.lt
 refine gv (r_build (cs := [.slice (some ⟨d0, 0, none⟩) 1 1, nn 1]) (pm_cons (eh b0 rfl) (pm_cons (v := nn 1) rfl pm_nil)) (by kernel_rfl)) <| gv (r_field (o' := 2) (eh b0 rfl) fo_35_2 (by rfl)) <| gv (r_idxA (o' := 4) (eh b0 rfl) (eh b0 rfl) qa_33 (by decide) (by rfl)) ?_
 have C0 := A0.t0 B0
 have o2 := (v2.f0 C0)
 refine gz (kt (L' := [nn v, nn 1073741824, .slice (some ⟨c0, 0, none⟩) 1 1, nn 1, .slice (some ⟨d0, 0, none⟩) 1 1, nn 1, .slice none 0 0, nn 0, .slice none 0 0, nn 0]) B0.ag (eh b0 rfl) (eh b0 rfl) o2 sz_32 (fun a4 x2 h0 => ?_))
 have H3 := h0.size
 refine nl <| M1 <| rn <| gv (r_add (j := 1) (eh b0 rfl) rfl (by decide)) <| mv b0 rfl <| nl <| un_next <| un_step (n := 2) <| sk fun _ S1 => rn <| gv (r_lss (j := 4) (eh b0 rfl) rfl) <| nl <| S1 <| sk fun _ T1 => cd b0 rfl <| ws <| T1 <| sk fun _ U1 => bl <| sk fun _ V1 => rn <| mv b0 rfl <| ms b0 rfl <| nl <| V1 <| sk fun _ W1 => rn <| mw b0 E0 <| nc b0 rfl <| gv (r_field (o' := 32) (eh b0 rfl) fo_76_1 (by rfl)) <| gv (r_idxA (i := 1) (o' := 33) (eh b0 rfl) rfl qa_74 (by decide) (by rfl)) ?_
 have O0 := ((M0.f0 C0).f1 h0 (by omega))
 refine gv (la (v := .pointer (some ⟨k2, 0, none⟩)) (eh b0 rfl) O0.bk qr_73) <| ms b0 rfl <| nl <| W1 <| sk fun _ X1 => sk fun _ Y1 => rn <| mv b0 rfl <| gv (r_eql (j := 0) (eh b0 rfl) rfl) <| nl <| Y1 <| ce b0 rfl <| ws <| X1 <| rn <| mv b0 rfl <| mv b0 rfl ?_
 have Q2 := Fr.ll (Fr.l2 A0 B0) h0
 have b1 := a1.le Q2
 have P0 := ((N0.f0 C0).f1 h0 (by omega))
 refine gk (k_cl (f28 h0.ag P0 b1) rfl fn_28 (map_cons (eh b0 rfl) map_nil) (fun N3 b4 C2 => ?_))
 obtain ⟨o3, rfl, D0⟩ := C2
 have I3 := D0.size
 refine gk (k_lit (e := 23) (L := hc (pk s2)) D0.ag (pm_cons (eh b0 rfl) pm_nil) (by kernel_rfl) (fun d4 g0 V0 v0 V2 => ?_))
 have p3 := v0.size
 have i3 := V0.lt
 refine gv (r_build (cs := [.slice (some ⟨g0, 0, none⟩) 1 1, nn 1]) (pm_cons (eh b0 rfl) (pm_cons (v := nn 1) rfl pm_nil)) (by kernel_rfl)) <| gv (r_field (o' := 2) (eh b0 rfl) fo_35_2 (by rfl)) <| gv (r_idxA (o' := 6) (eh b0 rfl) (eh b0 rfl) qa_33 (by decide) (by rfl)) ?_
 have r0 := D0.t0 v0
 have Z1 := (x2.f0 r0)
 refine gz (kt (L' := [nn v, nn 1073741824, .slice (some ⟨c0, 0, none⟩) 1 1, nn 1, .slice (some ⟨d0, 0, none⟩) 1 1, nn 1, .slice (some ⟨g0, 0, none⟩) 1 1, nn 1, .slice none 0 0, nn 0]) v0.ag (eh b0 rfl) (eh b0 rfl) Z1 sz_32 (fun O3 p2 e0 => ?_))
 have q3 := e0.size
 refine nl <| U1 <| rn <| gv (r_add (j := 1) (eh b0 rfl) rfl (by decide)) <| mv b0 rfl <| nl <| un_next <| un_step (n := 1) <| sk fun _ o1 => rn <| gv (r_lss (j := 4) (eh b0 rfl) rfl) <| nl <| o1 <| sk fun _ p1 => cd b0 rfl <| ws <| p1 <| sk fun _ q1 => bl <| sk fun _ r1 => rn <| mv b0 rfl <| ms b0 rfl <| nl <| r1 <| sk fun _ t1 => rn <| mw b0 E0 <| nc b0 rfl <| gv (r_field (o' := 32) (eh b0 rfl) fo_76_1 (by rfl)) <| gv (r_idxA (i := 1) (o' := 33) (eh b0 rfl) rfl qa_74 (by decide) (by rfl)) ?_
 have a2 := ((O0.f0 r0).f1 e0 (by omega))
 refine gv (la (v := .pointer (some ⟨k2, 0, none⟩)) (eh b0 rfl) a2.bk qr_73) <| ms b0 rfl <| nl <| t1 <| sk fun _ v1 => sk fun _ w1 => rn <| mv b0 rfl <| gv (r_eql (j := 0) (eh b0 rfl) rfl) <| nl <| w1 <| ce b0 rfl <| ws <| v1 <| rn <| mv b0 rfl <| mv b0 rfl ?_
 have N2 := Fr.ll (Fr.l2 D0 v0) e0
 have D2 := b1.le N2
 have b2 := ((P0.f0 r0).f1 e0 (by omega))
 refine gk (k_cl (f28 e0.ag b2 D2) rfl fn_28 (map_cons (eh b0 rfl) map_nil) (fun J3 P3 y2 => ?_))
 obtain ⟨R2, rfl, F0⟩ := y2
 have r3 := F0.size
 refine gk (k_lit (e := 23) (L := hc (pk s2)) F0.ag (pm_cons (eh b0 rfl) pm_nil) (by kernel_rfl) (fun Q3 i0 R0 G0 X2 => ?_))
 have s3 := G0.size
 have d3 := R0.lt
 refine gv (r_build (cs := [.slice (some ⟨i0, 0, none⟩) 1 1, nn 1]) (pm_cons (eh b0 rfl) (pm_cons (v := nn 1) rfl pm_nil)) (by kernel_rfl)) <| gv (r_field (o' := 2) (eh b0 rfl) fo_35_2 (by rfl)) <| gv (r_idxA (o' := 8) (eh b0 rfl) (eh b0 rfl) qa_33 (by decide) (by rfl)) ?_
 have w0 := F0.t0 G0
 have d2 := (p2.f0 w0)
 refine gz (kt (L' := [nn v, nn 1073741824, .slice (some ⟨c0, 0, none⟩) 1 1, nn 1, .slice (some ⟨d0, 0, none⟩) 1 1, nn 1, .slice (some ⟨g0, 0, none⟩) 1 1, nn 1, .slice (some ⟨i0, 0, none⟩) 1 1, nn 1]) G0.ag (eh b0 rfl) (eh b0 rfl) d2 sz_32 (fun R3 q2 j0 => ?_))
 have t3 := j0.size
 refine nl <| q1 <| rn <| gv (r_add (j := 1) (eh b0 rfl) rfl (by decide)) <| mv b0 rfl <| nl <| un_next <| un_step (n := 0) <| sk fun _ x1 => rn <| gv (r_lss (j := 4) (eh b0 rfl) rfl) <| nl <| x1 <| sk fun _ U2 => ce b0 rfl <| we <| z1 <| sk fun _ y1 => rn <| gv (lb (cs := [nn v, nn 1073741824, .slice (some ⟨c0, 0, none⟩) 1 1, nn 1, .slice (some ⟨d0, 0, none⟩) 1 1, nn 1, .slice (some ⟨g0, 0, none⟩) 1 1, nn 1, .slice (some ⟨i0, 0, none⟩) 1 1, nn 1]) (eh b0 rfl) q2.bk qr_35 sz_35) ?_
 have e2 := ((((((((((S0.f0 s0).f1 k0 (by omega)).f0 H0).f1 m0 (by omega)).f0 C0).f1 h0 (by omega)).f0 r0).f1 e0 (by omega)).f0 w0).f1 j0 (by omega))
 refine gz (kt (L' := [nn v, nn 1073741824, .slice (some ⟨c0, 0, none⟩) 1 1, nn 1, .slice (some ⟨d0, 0, none⟩) 1 1, nn 1, .slice (some ⟨g0, 0, none⟩) 1 1, nn 1, .slice (some ⟨i0, 0, none⟩) 1 1, nn 1]) j0.ag (eh b0 rfl) (eh b0 rfl) e2 sz_35 (fun S3 r2 n0 => ?_))
 have v3 := n0.size
 refine nl <| y1 <| wp_ret <| ret_of (res1c (b := j1) (n := 10) (cs := [nn v, nn 1073741824, .slice (some ⟨c0, 0, none⟩) 1 1, nn 1, .slice (some ⟨d0, 0, none⟩) 1 1, nn 1, .slice (some ⟨g0, 0, none⟩) 1 1, nn 1, .slice (some ⟨i0, 0, none⟩) 1 1, nn 1]) rfl _ _ (gh b0 rfl) r2.bk (by kernel_rfl) (by kernel_rfl) qr_35 sz_35) ((ov_defers _ _).trans m1) ?_
 have g2 := ((((((((T0.f1 m0 (by omega)).f0 C0).f1 h0 (by omega)).f0 r0).f1 e0 (by omega)).f0 w0).f1 j0 (by omega)).f1 n0 (by omega))
 obtain ⟨o0, W0⟩ := g2.fz n0.ag
 generalize cput R2 c0 _ = e1 at o0 W0
 have w3 := o0.size
 have E2 : Sl e1 (some ⟨c0, 0, none⟩) 1 1 32 (hc (pk s1)) := Sl.of (k := 32) W0 (by kernel_rfl) (by kernel_rfl) (by decide) (by decide)
 have h2 := (((((((U0.f1 h0 (by omega)).f0 r0).f1 e0 (by omega)).f0 w0).f1 j0 (by omega)).f1 n0 (by omega)).f1 o0 (by omega))
 obtain ⟨p0, X0⟩ := h2.fz o0.ag
 generalize cput e1 d0 _ = g1 at p0 X0
 have x3 := p0.size
 have F2 : Sl g1 (some ⟨d0, 0, none⟩) 1 1 32 (hc (pk s2)) := Sl.of (k := 32) X0 (by kernel_rfl) (by kernel_rfl) (by decide) (by decide)
 have i2 := ((((((V0.f1 e0 (by omega)).f0 w0).f1 j0 (by omega)).f1 n0 (by omega)).f1 o0 (by omega)).f1 p0 (by omega))
 obtain ⟨q0, Y0⟩ := i2.fz p0.ag
 generalize cput g1 g0 _ = h1 at q0 Y0
 have y3 := q0.size
 have G2 : Sl h1 (some ⟨g0, 0, none⟩) 1 1 32 (hc (pk s2)) := Sl.of (k := 32) Y0 (by kernel_rfl) (by kernel_rfl) (by decide) (by decide)
 have j2 := (((((R0.f1 j0 (by omega)).f1 n0 (by omega)).f1 o0 (by omega)).f1 p0 (by omega)).f1 q0 (by omega))
 obtain ⟨u0, Z0⟩ := j2.fz q0.ag
 generalize cput h1 i0 _ = i1 at u0 Z0
 have z3 := u0.size
 have H2 : Sl i1 (some ⟨i0, 0, none⟩) 1 1 32 (hc (pk s2)) := Sl.of (k := 32) Z0 (by kernel_rfl) (by kernel_rfl) (by decide) (by decide)
 have O2 := Fr.ll (Fr.l2 p0 q0) u0
 have I2 := E2.le O2
 have J2 := ((F2.up q0).up u0)
 have K2 := (G2.up u0)
 exact ⟨i1, some ⟨c0, 0, none⟩, 1, some ⟨d0, 0, none⟩, 1, some ⟨g0, 0, none⟩, 1, some ⟨i0, 0, none⟩, 1, rfl, ((((((((((((((((((((cu0.t0 z0).t0 s0).tn k0 (by omega)).t0 x0).t0 y0).tn m0 (by omega)).t0 A0).t0 B0).tn h0 (by omega)).t0 D0).t0 v0).tn e0 (by omega)).t0 F0).t0 G0).tn j0 (by omega)).tn n0 (by omega)).tn o0 (by omega)).tn p0 (by omega)).tn q0 (by omega)).tn u0 (by omega)), I2, J2, K2, H2⟩

theorem f16 {m : Ctx} {w : World} (ag : Ag m w) {rb v : Nat} {s : Bytes} {X : List Value} {k1 c1 u1 : Nat} {A1 : Option Addr} {s1 : Bytes} {k2 c2 u2 : Nat} {A2 : Option Addr} {s2 : Bytes} (hmR : Mu m w rb 45 (hc s ++ ([.pointer (some ⟨k1, 0, none⟩), .pointer (some ⟨k2, 0, none⟩)] ++ X))) (hmK1 : Mu m w k1 29 (hc s1 ++ ([.slice A1 16 c1] ++ (hc (pk s1) ++ ([nn u1]))))) (hl1 : Sl m A1 16 c1 32 (hcs (lv s1))) (hmK2 : Mu m w k2 29 (hc s2 ++ ([.slice A2 16 c2] ++ (hc (pk s2) ++ ([nn u2]))))) (hl2 : Sl m A2 16 c2 32 (hcs (lv s2))) : Calls Tryz.prog 16 #[.pointer (some ⟨rb, 0, none⟩), nn v] w (Ret fun y w' => ∃ m' L0 l0 L1 l1 L2 l2 L3 l3, y = .agg ([nn v, nn 1073741824, .slice L0 1 l0, nn 1, .slice L1 1 l1, nn 1, .slice L2 1 l2, nn 1, .slice L3 1 l3, nn 1]).toArray ∧ Fr no m w m' w' ∧ Sl m' L0 1 l0 32 (hc (pk s1)) ∧ Sl m' L1 1 l1 32 (hc (pk s2)) ∧ Sl m' L2 1 l2 32 (hc (pk s2)) ∧ Sl m' L3 1 l3 32 (hc (pk s2))) := by
 refine enter Tryz.func16 rfl (fun A0 hT K0 => ?_)
 have b0 : A0.tmps.size = 35 := by rw [hT]; kernel_rfl
 have z0 : A0.tmps.getD 0 undef = .pointer (some ⟨rb, 0, none⟩) := by rw [hT]; kernel_rfl
 have O1 : A0.tmps.getD 1 undef = nn v := by rw [hT]; kernel_rfl
 clear hT
 have cu0 : Fr (no) m w m w := Fr.refl ag
 have lt_rb := hmR.lt
 have V1 := hmK1.lt
 have W1 := hmK2.lt
 refine sk fun _ M0 => rn <| gk (k_alloc ag qz_35 (fun z2 J0 I0 y0 S1 => ?_))
 have j2 := y0.size
 have U1 := I0.lt
 refine nl <| M0 <| sk fun _ Z0 => rn <| mw b0 O1 <| gv (r_build (cs := [nn v, nn 1073741824, .slice none 0 0, nn 0, .slice none 0 0, nn 0, .slice none 0 0, nn 0, .slice none 0 0, nn 0]) (pm_cons (eh b0 rfl) (pm_cons (v := nn 1073741824) rfl pm_nil)) (by kernel_rfl)) <| gk (k_alloc y0.ag qz_35 (fun I2 P1 H0 x0 R1 => ?_))
 have b2 := x0.size
 have T1 := H0.lt
 refine gz (kt (L' := [nn v, nn 1073741824, .slice none 0 0, nn 0, .slice none 0 0, nn 0, .slice none 0 0, nn 0, .slice none 0 0, nn 0]) x0.ag (eh b0 rfl) (eh b0 rfl) H0 sz_35 (fun y2 v1 o0 => ?_))
 have d2 := o0.size
 refine nl <| Z0 <| sk fun _ N0 => rn <| mw b0 z0 <| nc b0 rfl <| gv (r_field (o' := 32) (eh b0 rfl) fo_45_1 (by rfl)) ?_
 have B0 := y0.t0 x0
 have C0 := ((hmR.f0 B0).f1 o0 (by omega))
 refine gv (la (v := .pointer (some ⟨k1, 0, none⟩)) (eh b0 rfl) C0.bk qr_30) <| nc b0 rfl <| gv (r_field (o' := 33) (eh b0 rfl) fo_29_2 (by rfl)) ?_
 have d1 := ((hmK1.f0 B0).f1 o0 (by omega))
 refine gv (lb (cs := hc (pk s1)) (eh b0 rfl) d1.bk qr_23 sz_23) <| gk (k_cl (f42 o0.ag) rfl fn_42 (map_cons (eh b0 rfl) map_nil) (fun q2 B2 B1 => ?_))
 obtain ⟨X1, e0, g0, rfl, p0, o1⟩ := B1
 have e2 := p0.size
 refine gv (r_field (o' := 2) (eh b0 rfl) fo_35_2 (by rfl)) <| gv (r_idxA (i := 0) (o' := 2) (eh b0 rfl) rfl qa_33 (by decide) (by rfl)) ?_
 have e1 := (v1.f0 p0)
 refine gz (kt (L' := [nn v, nn 1073741824, .slice e0 1 g0, nn 1, .slice none 0 0, nn 0, .slice none 0 0, nn 0, .slice none 0 0, nn 0]) p0.ag (eh b0 rfl) (eh b0 rfl) e1 sz_32 (fun C2 w1 q0 => ?_))
 have g2 := q0.size
 refine nl <| N0 <| sk fun _ O0 => sk fun _ P0 => rn <| gv (r_assign (v := nn 1) rfl) <| nl <| P0 <| bl <| wp_unroll (n := 5) <| un_step (n := 4) <| sk fun _ Q0 => sk fun _ R0 => rn <| mv b0 rfl <| gv (r_lss (j := 4) (eh b0 rfl) rfl) <| nl <| R0 <| cd b0 rfl <| ws <| Q0 <| sk fun _ S0 => bl <| rn <| mv b0 rfl <| mw b0 z0 <| nc b0 rfl <| gv (r_field (o' := 33) (eh b0 rfl) fo_45_2 (by rfl)) ?_
 have D0 := ((C0.f0 p0).f1 q0 (by omega))
 refine gv (la (v := .pointer (some ⟨k2, 0, none⟩)) (eh b0 rfl) D0.bk qr_30) <| nc b0 rfl <| gv (r_field (o' := 33) (eh b0 rfl) fo_29_2 (by rfl)) ?_
 have E0 := ((((hmK2.f0 B0).f1 o0 (by omega)).f0 p0).f1 q0 (by omega))
 refine gv (lb (cs := hc (pk s2)) (eh b0 rfl) E0.bk qr_23 sz_23) <| gk (k_cl (f42 q0.ag) rfl fn_42 (map_cons (eh b0 rfl) map_nil) (fun r2 D2 C1 => ?_))
 obtain ⟨Y1, m0, n0, rfl, h0, p1⟩ := C1
 have h2 := h0.size
 refine gv (r_field (o' := 2) (eh b0 rfl) fo_35_2 (by rfl)) <| gv (r_idxA (o' := 4) (eh b0 rfl) (eh b0 rfl) qa_33 (by decide) (by rfl)) ?_
 have g1 := (w1.f0 h0)
 refine gz (kt (L' := [nn v, nn 1073741824, .slice e0 1 g0, nn 1, .slice m0 1 n0, nn 1, .slice none 0 0, nn 0, .slice none 0 0, nn 0]) h0.ag (eh b0 rfl) (eh b0 rfl) g1 sz_32 (fun E2 x1 i0 => ?_))
 have i2 := i0.size
 refine nl <| S0 <| rn <| mv b0 rfl <| gv (r_add (j := 1) (eh b0 rfl) rfl (by decide)) <| ms b0 rfl <| nl <| un_next <| un_step (n := 3) <| sk fun _ T0 => sk fun _ U0 => rn <| mv b0 rfl <| gv (r_lss (j := 4) (eh b0 rfl) rfl) <| nl <| U0 <| cd b0 rfl <| ws <| T0 <| sk fun _ V0 => bl <| rn <| mv b0 rfl <| mw b0 z0 <| nc b0 rfl <| gv (r_field (o' := 33) (eh b0 rfl) fo_45_2 (by rfl)) ?_
 have F0 := ((D0.f0 h0).f1 i0 (by omega))
 refine gv (la (v := .pointer (some ⟨k2, 0, none⟩)) (eh b0 rfl) F0.bk qr_30) <| nc b0 rfl <| gv (r_field (o' := 33) (eh b0 rfl) fo_29_2 (by rfl)) ?_
 have G0 := ((E0.f0 h0).f1 i0 (by omega))
 refine gv (lb (cs := hc (pk s2)) (eh b0 rfl) G0.bk qr_23 sz_23) <| gk (k_cl (f42 i0.ag) rfl fn_42 (map_cons (eh b0 rfl) map_nil) (fun t2 F2 D1 => ?_))
 obtain ⟨Z1, r0, s0, rfl, c0, q1⟩ := D1
 have m2 := c0.size
 refine gv (r_field (o' := 2) (eh b0 rfl) fo_35_2 (by rfl)) <| gv (r_idxA (o' := 6) (eh b0 rfl) (eh b0 rfl) qa_33 (by decide) (by rfl)) ?_
 have h1 := (x1.f0 c0)
 refine gz (kt (L' := [nn v, nn 1073741824, .slice e0 1 g0, nn 1, .slice m0 1 n0, nn 1, .slice r0 1 s0, nn 1, .slice none 0 0, nn 0]) c0.ag (eh b0 rfl) (eh b0 rfl) h1 sz_32 (fun G2 y1 d0 => ?_))
 have n2 := d0.size
 refine nl <| V0 <| rn <| mv b0 rfl <| gv (r_add (j := 1) (eh b0 rfl) rfl (by decide)) <| ms b0 rfl <| nl <| un_next <| un_step (n := 2) <| sk fun _ W0 => sk fun _ X0 => rn <| mv b0 rfl <| gv (r_lss (j := 4) (eh b0 rfl) rfl) <| nl <| X0 <| cd b0 rfl <| ws <| W0 <| sk fun _ Y0 => bl <| rn <| mv b0 rfl <| mw b0 z0 <| nc b0 rfl <| gv (r_field (o' := 33) (eh b0 rfl) fo_45_2 (by rfl)) ?_
 have i1 := ((F0.f0 c0).f1 d0 (by omega))
 refine gv (la (v := .pointer (some ⟨k2, 0, none⟩)) (eh b0 rfl) i1.bk qr_30) <| nc b0 rfl <| gv (r_field (o' := 33) (eh b0 rfl) fo_29_2 (by rfl)) ?_
 have j1 := ((G0.f0 c0).f1 d0 (by omega))
 refine gv (lb (cs := hc (pk s2)) (eh b0 rfl) j1.bk qr_23 sz_23) <| gk (k_cl (f42 d0.ag) rfl fn_42 (map_cons (eh b0 rfl) map_nil) (fun v2 H2 E1 => ?_))
 obtain ⟨N1, v0, w0, rfl, j0, r1⟩ := E1
 have o2 := j0.size
 refine gv (r_field (o' := 2) (eh b0 rfl) fo_35_2 (by rfl)) <| gv (r_idxA (o' := 8) (eh b0 rfl) (eh b0 rfl) qa_33 (by decide) (by rfl)) ?_
 have m1 := (y1.f0 j0)
 refine gz (kt (L' := [nn v, nn 1073741824, .slice e0 1 g0, nn 1, .slice m0 1 n0, nn 1, .slice r0 1 s0, nn 1, .slice v0 1 w0, nn 1]) j0.ag (eh b0 rfl) (eh b0 rfl) m1 sz_32 (fun J2 z1 k0 => ?_))
 have p2 := k0.size
 refine nl <| Y0 <| rn <| mv b0 rfl <| gv (r_add (j := 1) (eh b0 rfl) rfl (by decide)) <| ms b0 rfl <| nl <| un_next <| un_step (n := 1) <| sk fun _ Q1 => sk fun _ a1 => rn <| mv b0 rfl <| gv (r_lss (j := 4) (eh b0 rfl) rfl) <| nl <| a1 <| ce b0 rfl <| we <| O0 <| sk fun _ b1 => rn <| gv (lb (cs := [nn v, nn 1073741824, .slice e0 1 g0, nn 1, .slice m0 1 n0, nn 1, .slice r0 1 s0, nn 1, .slice v0 1 w0, nn 1]) (eh b0 rfl) z1.bk qr_35 sz_35) ?_
 have n1 := ((((((((((I0.f0 x0).f1 o0 (by omega)).f0 p0).f1 q0 (by omega)).f0 h0).f1 i0 (by omega)).f0 c0).f1 d0 (by omega)).f0 j0).f1 k0 (by omega))
 refine gz (kt (L' := [nn v, nn 1073741824, .slice e0 1 g0, nn 1, .slice m0 1 n0, nn 1, .slice r0 1 s0, nn 1, .slice v0 1 w0, nn 1]) k0.ag (eh b0 rfl) (eh b0 rfl) n1 sz_35 (fun x2 t1 u0 => ?_))
 have a2 := u0.size
 refine nl <| b1 <| wp_ret <| ret_of (res1c (b := J0) (n := 10) (cs := [nn v, nn 1073741824, .slice e0 1 g0, nn 1, .slice m0 1 n0, nn 1, .slice r0 1 s0, nn 1, .slice v0 1 w0, nn 1]) rfl _ _ (gh b0 rfl) t1.bk (by kernel_rfl) (by kernel_rfl) qr_35 sz_35) ((ov_defers _ _).trans K0) ?_
 have J1 := Fr.ll (Fr.ll (Fr.ll (Fr.ll (Fr.ll (Fr.ll (Fr.l2 q0 h0) i0) c0) d0) j0) k0) u0
 have F1 := o1.le J1
 have K1 := Fr.ll (Fr.ll (Fr.ll (Fr.ll (Fr.l2 i0 c0) d0) j0) k0) u0
 have G1 := p1.le K1
 have M1 := Fr.ll (Fr.ll (Fr.l2 d0 j0) k0) u0
 have H1 := q1.le M1
 have I1 := ((r1.up k0).up u0)
 exact ⟨N1, e0, g0, m0, n0, r0, s0, v0, w0, rfl, ((((((((((((cu0.t0 y0).t0 x0).tn o0 (by omega)).t0 p0).tn q0 (by omega)).t0 h0).tn i0 (by omega)).t0 c0).tn d0 (by omega)).t0 j0).tn k0 (by omega)).tn u0 (by omega)), F1, G1, H1, I1⟩

theorem f7 {m : Ctx} {w : World} (ag : Ag m w) {s : Bytes} : Calls Tryz.prog 7 #[H s] w (Ret fun v w' => ∃ m' rb k1 k2 A1 c1 A2 c2 L0 l0 L1 l1 L2 l2 L3 l3, v = .pointer (some ⟨rb, 0, none⟩) ∧ Fr no m w m' w' ∧ Mu m' w' rb 76 (hc s ++ ([.pointer (some ⟨k1, 0, none⟩), .pointer (some ⟨k2, 0, none⟩), nn 1, nn 1, nn 1073741824, .slice L0 1 l0, nn 1, .slice L1 1 l1, nn 1, .slice L2 1 l2, nn 1, .slice L3 1 l3, nn 1, nn 1, nn 1073741824, .slice L0 1 l0, nn 1, .slice L1 1 l1, nn 1, .slice L2 1 l2, nn 1, .slice L3 1 l3, nn 1, .slice none 0 0, nn 0, .slice none 0 0, .slice none 0 0, .slice none 0 0, .slice none 0 0, .slice none 0 0, .slice none 0 0, .slice none 0 0])) ∧ Mu m' w' k1 116 (hc (sdg s 0) ++ ([.slice A1 16 c1, nn 0])) ∧ Mu m' w' k2 116 (hc (sdg s 1) ++ ([.slice A2 16 c2, nn 0])) ∧ Sl m' A1 16 c1 32 (hcs (lv (sdg s 0))) ∧ Sl m' A2 16 c2 32 (hcs (lv (sdg s 1))) ∧ Sl m' L0 1 l0 32 (hc (pk (sdg s 0))) ∧ Sl m' L1 1 l1 32 (hc (pk (sdg s 1))) ∧ Sl m' L2 1 l2 32 (hc (pk (sdg s 1))) ∧ Sl m' L3 1 l3 32 (hc (pk (sdg s 1))) ∧ w.heap.size ≤ rb ∧ w.heap.size ≤ k1 ∧ w.heap.size ≤ k2 ∧ rb ≠ k1 ∧ rb ≠ k2 ∧ k1 ≠ k2) := by
 refine enter Tryz.func7 rfl (fun G0 hT e1 => ?_)
 have b0 : G0.tmps.size = 30 := by rw [hT]; kernel_rfl
 have R1 : G0.tmps.getD 0 undef = H s := by rw [hT]; kernel_rfl
 clear hT
 have cu0 : Fr (no) m w m w := Fr.refl ag
 refine sk fun _ g1 => rn <| gk (k_box (L := hc s) ag (em b0 rfl rfl R1) (by kernel_rfl) (fun G2 S1 F0 E0 W1 => ?_))
 have q2 := E0.size
 have Y1 := F0.lt
 refine gv (r_assign (v := .pointer none) rfl) <| nl <| g1 <| sk fun _ n1 => rn <| gv (lb (cs := hc s) (eh b0 rfl) F0.bk qr_23 sz_23) <| gv (r_build (cs := hc s ++ ([.pointer none, .pointer none, nn 1, nn 0, nn 0, .slice none 0 0, nn 0, .slice none 0 0, nn 0, .slice none 0 0, nn 0, .slice none 0 0, nn 0, nn 0, nn 0, .slice none 0 0, nn 0, .slice none 0 0, nn 0, .slice none 0 0, nn 0, .slice none 0 0, nn 0, .slice none 0 0, nn 0, .slice none 0 0, .slice none 0 0, .slice none 0 0, .slice none 0 0, .slice none 0 0, .slice none 0 0, .slice none 0 0])) (pm_cons (eh b0 rfl) (pm_cons (v := nn 1) rfl pm_nil)) (by kernel_rfl)) <| gk (k_box (L := hc s ++ ([.pointer none, .pointer none, nn 1, nn 0, nn 0, .slice none 0 0, nn 0, .slice none 0 0, nn 0, .slice none 0 0, nn 0, .slice none 0 0, nn 0, nn 0, nn 0, .slice none 0 0, nn 0, .slice none 0 0, nn 0, .slice none 0 0, nn 0, .slice none 0 0, nn 0, .slice none 0 0, nn 0, .slice none 0 0, .slice none 0 0, .slice none 0 0, .slice none 0 0, .slice none 0 0, .slice none 0 0, .slice none 0 0])) E0.ag (eh b0 rfl) (by kernel_rfl) (fun A0 B0 N0 C0 V1 => ?_))
 have m2 := C0.size
 have X1 := N0.lt
 refine ms b0 rfl <| nl <| n1 <| sk fun _ i1 => ?_
 have i0 : Fr no m A0 m { A0 with drawn := A0.drawn + 1 } := Fr.drw C0.ag
 obtain ⟨k0, S0⟩ : ∃ w_, w_ = ({ A0 with drawn := A0.drawn + 1 } : World) := ⟨_, rfl⟩
 rw [← S0] at i0
 have r2 := i0.size
 refine wp_region_T mixed (fun wz => ∃ mz, Fr (no) m k0 mz wz) (fun wz => ∃ mz, Fr (on B0) m k0 mz wz) 10 ?_
 rw [← S0]
 show wpAnyT _ _ _ _ _ 11 _ _ _
 have D0 : Fr (no) m k0 m k0 := Fr.refl i0.ag
 have z1 : ∀ wz, (∃ mz, Fr (no) m k0 mz wz) → ∃ mz, Fr (on B0) m k0 mz wz := fun wz ⟨mz, hz⟩ => ⟨mz, hz.wk (fun x hx _ => hx.elim)⟩
 refine tk2 (i := 0) rfl rfl (fun _ _ => r_move (eh b0 rfl)) ⟨_, D0⟩ ?_
 have J0 := ((F0.f0 C0).f0 i0)
 refine tk2 (i := 1) rfl rfl (fun wz ⟨mz, hz⟩ => lb (cs := hc s) (eh b0 rfl) (hz.ex J0.bk (fun h => h)) qr_23 sz_23) ⟨_, D0⟩ <| tk2 (i := 4) rfl rfl (fun wz ⟨mz, hz⟩ => lb (cs := hc s) (eh b0 rfl) (hz.ex J0.bk (fun h => h)) qr_23 sz_23) ⟨_, D0⟩ <| ann (i := 2) (b := false) rfl rfl (k_cl (f20 i0.ag) rfl fn_20 (map_cons (eh b0 rfl) (map_cons (v := nn 0) rfl map_nil)) (fun x2 H2 D1 => ?_))
 obtain ⟨d2, rfl, q0⟩ := D1
 have s2 := q0.size
 have V0 := D0.t0 q0
 refine ⟨(tbF ⟨_, V0⟩), ?_⟩
 refine ann (i := 3) (b := false) rfl rfl (k_cl (f19 q0.ag) rfl fn_19 (map_cons (eh b0 rfl) (map_cons (v := nn 0) rfl map_nil)) (fun y2 I2 E1 => ?_))
 obtain ⟨e2, u0, Y0, a1, rfl, r0, M0, x1, U1⟩ := E1
 have t2 := r0.size
 have W0 := V0.t0 r0
 have a2 := M0.lt
 refine ⟨(tbF ⟨_, W0⟩), ?_⟩
 refine ann (i := 5) (b := false) rfl rfl (k_cl (f20 r0.ag) rfl fn_20 (map_cons (eh b0 rfl) (map_cons (v := nn 1) rfl map_nil)) (fun z2 J2 F1 => ?_))
 obtain ⟨g2, rfl, j0⟩ := F1
 have h2 := j0.size
 have U0 := W0.t0 j0
 refine ⟨(tbF ⟨_, U0⟩), ?_⟩
 refine ann (i := 6) (b := false) rfl rfl (k_cl (f19 j0.ag) rfl fn_19 (map_cons (eh b0 rfl) (map_cons (v := nn 0) rfl map_nil)) (fun u2 B2 B1 => ?_))
 obtain ⟨b2, s0, X0, Z0, rfl, g0, K0, s1, T1⟩ := B1
 have i2 := g0.size
 have z0 := U0.t0 g0
 have Z1 := K0.lt
 refine ⟨(tbF ⟨_, z0⟩), ?_⟩
 refine tk2 (i := 7) rfl rfl (fun _ _ => r_build (cs := [.pointer (some ⟨u0, 0, none⟩), .pointer (some ⟨s0, 0, none⟩)]) (pm_cons (eh b0 rfl) (pm_cons (eh b0 rfl) pm_nil)) (by kernel_rfl)) ⟨_, z0⟩ <| tk1 (i := 8) (b := false) rfl rfl z1 (fun _ _ => r_nilCheck (eh b0 rfl)) (tbF ⟨_, z0⟩) <| tk2 (i := 9) rfl rfl (fun _ _ => r_field (o' := 32) (eh b0 rfl) fo_76_1 (by rfl)) ⟨_, z0⟩ ?_
 have P1 : Fr (on B0) _ _ _ _ := z0.wk (fun x hx _ => hx.elim)
 have b1 := (((i0.t0 q0).t0 r0).t0 j0).t0 g0
 have o1 := (N0.f0 b1)
 refine an00 (i := 10) (b := true) rfl rfl (kt (L' := hc s ++ ([.pointer (some ⟨u0, 0, none⟩), .pointer (some ⟨s0, 0, none⟩), nn 1, nn 0, nn 0, .slice none 0 0, nn 0, .slice none 0 0, nn 0, .slice none 0 0, nn 0, .slice none 0 0, nn 0, nn 0, nn 0, .slice none 0 0, nn 0, .slice none 0 0, nn 0, .slice none 0 0, nn 0, .slice none 0 0, nn 0, .slice none 0 0, nn 0, .slice none 0 0, .slice none 0 0, .slice none 0 0, .slice none 0 0, .slice none 0 0, .slice none 0 0, .slice none 0 0])) g0.ag (eh b0 rfl) (eh b0 rfl) o1 sz_74 (fun C2 O0 e0 => ?_))
 have j2 := e0.size
 have Q1 := P1.tr e0 (fun x hx => .inr (by cases hx; exact rfl))
 refine ⟨(tbT ⟨_, Q1⟩), ?_⟩
 refine anyT_done (by kernel_rfl) ?_ _
 refine i1 <| sk fun _ h1 => rn <| mv b0 rfl <| mv b0 rfl ?_
 have N1 := Fr.ll (Fr.l2 j0 g0) e0
 have Q0 := x1.le N1
 have d1 := j0.t0 g0
 have H0 := ((M0.f0 d1).f1 e0 (by omega))
 have R0 := (s1.up e0)
 have I0 := (K0.f1 e0 (by omega))
 refine gk (k_cl (f21 e0.ag (X := [nn 1, nn 0, nn 0, .slice none 0 0, nn 0, .slice none 0 0, nn 0, .slice none 0 0, nn 0, .slice none 0 0, nn 0, nn 0, nn 0, .slice none 0 0, nn 0, .slice none 0 0, nn 0, .slice none 0 0, nn 0, .slice none 0 0, nn 0, .slice none 0 0, nn 0, .slice none 0 0, .slice none 0 0, .slice none 0 0, .slice none 0 0, .slice none 0 0, .slice none 0 0, .slice none 0 0]) O0 H0 Q0 I0 R0) rfl fn_21 (map_cons (eh b0 rfl) (map_cons (v := nn 1) rfl map_nil)) (fun v2 D2 C1 => ?_))
 obtain ⟨O1, m0, v0, n0, w0, o0, x0, p0, y0, rfl, h0, t1, u1, v1, w1⟩ := C1
 have n2 := h0.size
 refine nc b0 rfl <| gv (r_field (o' := 35) (eh b0 rfl) fo_76_3 (by rfl)) ?_
 have p1 := (O0.f0 h0)
 refine gz (kt (L' := hc s ++ ([.pointer (some ⟨u0, 0, none⟩), .pointer (some ⟨s0, 0, none⟩), nn 1, nn 1, nn 1073741824, .slice m0 1 v0, nn 1, .slice n0 1 w0, nn 1, .slice o0 1 x0, nn 1, .slice p0 1 y0, nn 1, nn 0, nn 0, .slice none 0 0, nn 0, .slice none 0 0, nn 0, .slice none 0 0, nn 0, .slice none 0 0, nn 0, .slice none 0 0, nn 0, .slice none 0 0, .slice none 0 0, .slice none 0 0, .slice none 0 0, .slice none 0 0, .slice none 0 0, .slice none 0 0])) h0.ag (eh b0 rfl) (eh b0 rfl) p1 sz_35 (fun E2 P0 c0 => ?_))
 have o2 := c0.size
 refine nl <| h1 <| sk fun _ j1 => rn <| mv b0 rfl <| mv b0 rfl <| nc b0 rfl <| gv (r_field (o' := 35) (eh b0 rfl) fo_76_3 (by rfl)) <| gv (lb (cs := [nn 1, nn 1073741824, .slice m0 1 v0, nn 1, .slice n0 1 w0, nn 1, .slice o0 1 x0, nn 1, .slice p0 1 y0, nn 1]) (eh b0 rfl) P0.bk qr_35 sz_35) <| nc b0 rfl <| gv (r_field (o' := 45) (eh b0 rfl) fo_76_4 (by rfl)) <| gz (kt (L' := hc s ++ ([.pointer (some ⟨u0, 0, none⟩), .pointer (some ⟨s0, 0, none⟩), nn 1, nn 1, nn 1073741824, .slice m0 1 v0, nn 1, .slice n0 1 w0, nn 1, .slice o0 1 x0, nn 1, .slice p0 1 y0, nn 1, nn 1, nn 1073741824, .slice m0 1 v0, nn 1, .slice n0 1 w0, nn 1, .slice o0 1 x0, nn 1, .slice p0 1 y0, nn 1, .slice none 0 0, nn 0, .slice none 0 0, .slice none 0 0, .slice none 0 0, .slice none 0 0, .slice none 0 0, .slice none 0 0, .slice none 0 0])) c0.ag (eh b0 rfl) (eh b0 rfl) P0 sz_35 (fun F2 y1 d0 => ?_))
 have p2 := d0.size
 refine nl <| j1 <| sk fun _ m1 => rn <| mv b0 rfl <| ms b0 rfl <| nl <| m1 <| wp_ret <| ret_of (res1 rfl _ _ (gh b0 rfl)) ((ov_defers _ _).trans e1) ?_
 have q1 := (((H0.f0 h0).f1 c0 (by omega)).f1 d0 (by omega))
 have r1 := (((I0.f0 h0).f1 c0 (by omega)).f1 d0 (by omega))
 have T0 := Fr.ll (Fr.l2 h0 c0) d0
 have G1 := Q0.le T0
 have H1 := R0.le T0
 have I1 := ((t1.up c0).up d0)
 have J1 := ((u1.up c0).up d0)
 have K1 := ((v1.up c0).up d0)
 have M1 := ((w1.up c0).up d0)
 exact ⟨O1, B0, u0, s0, Y0, a1, X0, Z0, m0, v0, n0, w0, o0, x0, p0, y0, rfl, (((((((((((cu0.t0 E0).t0 C0).t0 i0).t0 q0).t0 r0).t0 j0).t0 g0).tn e0 (by omega)).t0 h0).tn c0 (by omega)).tn d0 (by omega)), y1, q1, r1, G1, H1, I1, J1, K1, M1, (by omega), (by omega), (by omega), (by omega), (by omega), (by omega)⟩

theorem f5 {m : Ctx} {w : World} (ag : Ag m w) {s : Bytes} : Calls Tryz.prog 5 #[H s] w (Ret fun v w' => ∃ m' rb k1 k2 A1 c1 A2 c2 L0 l0 L1 l1 L2 l2 L3 l3, v = .pointer (some ⟨rb, 0, none⟩) ∧ Fr no m w m' w' ∧ Mu m' w' rb 45 (hc s ++ ([.pointer (some ⟨k1, 0, none⟩), .pointer (some ⟨k2, 0, none⟩), nn 1, nn 1, nn 1073741824, .slice L0 1 l0, nn 1, .slice L1 1 l1, nn 1, .slice L2 1 l2, nn 1, .slice L3 1 l3, nn 1, nn 1, nn 1073741824, .slice L0 1 l0, nn 1, .slice L1 1 l1, nn 1, .slice L2 1 l2, nn 1, .slice L3 1 l3, nn 1, .slice none 0 0, nn 0, .slice none 0 0, .slice none 0 0, .slice none 0 0, .slice none 0 0, .slice none 0 0, .slice none 0 0, .slice none 0 0])) ∧ Mu m' w' k1 29 (hc (sdg s 0) ++ ([.slice A1 16 c1] ++ (hc (pk (sdg s 0)) ++ ([nn 0])))) ∧ Mu m' w' k2 29 (hc (sdg s 1) ++ ([.slice A2 16 c2] ++ (hc (pk (sdg s 1)) ++ ([nn 0])))) ∧ Sl m' A1 16 c1 32 (hcs (lv (sdg s 0))) ∧ Sl m' A2 16 c2 32 (hcs (lv (sdg s 1))) ∧ Sl m' L0 1 l0 32 (hc (pk (sdg s 0))) ∧ Sl m' L1 1 l1 32 (hc (pk (sdg s 1))) ∧ Sl m' L2 1 l2 32 (hc (pk (sdg s 1))) ∧ Sl m' L3 1 l3 32 (hc (pk (sdg s 1))) ∧ w.heap.size ≤ rb ∧ w.heap.size ≤ k1 ∧ w.heap.size ≤ k2 ∧ rb ≠ k1 ∧ rb ≠ k2 ∧ k1 ≠ k2) := by
 refine enter Tryz.func5 rfl (fun F0 hT b1 => ?_)
 have b0 : F0.tmps.size = 26 := by rw [hT]; kernel_rfl
 have J1 : F0.tmps.getD 0 undef = H s := by rw [hT]; kernel_rfl
 clear hT
 have cu0 : Fr (no) m w m w := Fr.refl ag
 refine sk fun _ d1 => rn <| gk (k_box (L := hc s) ag (em b0 rfl rfl J1) (by kernel_rfl) (fun w0 K1 K0 B0 P1 => ?_))
 have g2 := B0.size
 have Q1 := K0.lt
 refine gv (r_assign (v := .pointer none) rfl) <| nl <| d1 <| sk fun _ g1 => ?_
 have h0 : Fr no m w0 m { w0 with drawn := w0.drawn + 1 } := Fr.drw B0.ag
 obtain ⟨A0, P0⟩ : ∃ w_, w_ = ({ w0 with drawn := w0.drawn + 1 } : World) := ⟨_, rfl⟩
 rw [← P0] at h0
 have Y1 := h0.size
 refine wp_region_T mixed (fun wz => ∃ mz, Fr (no) m A0 mz wz) (fun wz => ∃ mz, Fr (no) m A0 mz wz) 10 ?_
 rw [← P0]
 show wpAnyT _ _ _ _ _ 10 _ _ _
 have z0 : Fr (no) m A0 m A0 := Fr.refl h0.ag
 have C0 := (K0.f0 h0)
 refine tkk (i := 0) rfl rfl (fun wz ⟨mz, hz⟩ => lb (cs := hc s) (eh b0 rfl) (hz.ex C0.bk (fun h => h)) qr_23 sz_23) ⟨_, z0⟩ <| tkk (i := 1) rfl rfl (fun wz ⟨mz, hz⟩ => lb (cs := hc s) (eh b0 rfl) (hz.ex C0.bk (fun h => h)) qr_23 sz_23) ⟨_, z0⟩ <| tkk (i := 4) rfl rfl (fun wz ⟨mz, hz⟩ => lb (cs := hc s) (eh b0 rfl) (hz.ex C0.bk (fun h => h)) qr_23 sz_23) ⟨_, z0⟩ <| ann (i := 2) (b := true) rfl rfl (k_cl (f15 h0.ag) rfl fn_15 (map_cons (eh b0 rfl) (map_cons (v := nn 0) rfl map_nil)) (fun m2 r2 v1 => ?_))
 obtain ⟨U1, rfl, x0⟩ := v1
 have Z1 := x0.size
 have R0 := z0.t0 x0
 refine ⟨(tbT ⟨_, R0⟩), ?_⟩
 refine ann (i := 3) (b := true) rfl rfl (k_cl (f14 x0.ag) rfl fn_14 (map_cons (eh b0 rfl) (map_cons (v := nn 0) rfl map_nil)) (fun n2 s2 w1 => ?_))
 obtain ⟨V1, p0, V0, Y0, rfl, y0, I0, o1, M1⟩ := w1
 have a2 := y0.size
 have S0 := R0.t0 y0
 have S1 := I0.lt
 refine ⟨(tbT ⟨_, S0⟩), ?_⟩
 refine ann (i := 5) (b := true) rfl rfl (k_cl (f15 y0.ag) rfl fn_15 (map_cons (eh b0 rfl) (map_cons (v := nn 1) rfl map_nil)) (fun o2 t2 x1 => ?_))
 obtain ⟨W1, rfl, i0⟩ := x1
 have b2 := i0.size
 have T0 := S0.t0 i0
 refine ⟨(tbT ⟨_, T0⟩), ?_⟩
 refine ann (i := 6) (b := true) rfl rfl (k_cl (f14 i0.ag) rfl fn_14 (map_cons (eh b0 rfl) (map_cons (v := nn 0) rfl map_nil)) (fun p2 u2 y1 => ?_))
 obtain ⟨X1, q0, W0, Z0, rfl, j0, J0, p1, N1⟩ := y1
 have d2 := j0.size
 have E0 := T0.t0 j0
 have T1 := J0.lt
 refine ⟨(tbT ⟨_, E0⟩), ?_⟩
 refine tkk (i := 7) rfl rfl (fun _ _ => r_build (cs := hc s ++ ([.pointer (some ⟨p0, 0, none⟩), .pointer (some ⟨q0, 0, none⟩), nn 1, nn 0, nn 0, .slice none 0 0, nn 0, .slice none 0 0, nn 0, .slice none 0 0, nn 0, .slice none 0 0, nn 0, nn 0, nn 0, .slice none 0 0, nn 0, .slice none 0 0, nn 0, .slice none 0 0, nn 0, .slice none 0 0, nn 0, .slice none 0 0, nn 0, .slice none 0 0, .slice none 0 0, .slice none 0 0, .slice none 0 0, .slice none 0 0, .slice none 0 0, .slice none 0 0])) (pm_cons (eh b0 rfl) (pm_cons (v := nn 1) rfl (pm_cons (eh b0 rfl) (pm_cons (eh b0 rfl) pm_nil)))) (by kernel_rfl)) ⟨_, E0⟩ <| ann (i := 8) (b := true) rfl rfl (k_box (L := hc s ++ ([.pointer (some ⟨p0, 0, none⟩), .pointer (some ⟨q0, 0, none⟩), nn 1, nn 0, nn 0, .slice none 0 0, nn 0, .slice none 0 0, nn 0, .slice none 0 0, nn 0, .slice none 0 0, nn 0, nn 0, nn 0, .slice none 0 0, nn 0, .slice none 0 0, nn 0, .slice none 0 0, nn 0, .slice none 0 0, nn 0, .slice none 0 0, nn 0, .slice none 0 0, .slice none 0 0, .slice none 0 0, .slice none 0 0, .slice none 0 0, .slice none 0 0, .slice none 0 0])) j0.ag (eh b0 rfl) (by kernel_rfl) (fun v2 X0 D0 e0 O1 => ?_))
 have e2 := e0.size
 have U0 := E0.t0 e0
 have R1 := D0.lt
 refine ⟨(tbT ⟨_, U0⟩), ?_⟩
 refine tkk (i := 9) rfl rfl (fun _ _ => r_assign (eh b0 rfl)) ⟨_, U0⟩ <| anyT_done (by kernel_rfl) ?_ _
 refine g1 <| sk fun _ e1 => rn <| mv b0 rfl <| mv b0 rfl ?_
 have H1 := Fr.ll (Fr.l2 i0 j0) e0
 have N0 := o1.le H1
 have a1 := (i0.t0 j0).t0 e0
 have G0 := (I0.f0 a1)
 have O0 := (p1.up e0)
 have H0 := (J0.f0 e0)
 refine gk (k_cl (f16 e0.ag (X := [nn 1, nn 0, nn 0, .slice none 0 0, nn 0, .slice none 0 0, nn 0, .slice none 0 0, nn 0, .slice none 0 0, nn 0, nn 0, nn 0, .slice none 0 0, nn 0, .slice none 0 0, nn 0, .slice none 0 0, nn 0, .slice none 0 0, nn 0, .slice none 0 0, nn 0, .slice none 0 0, .slice none 0 0, .slice none 0 0, .slice none 0 0, .slice none 0 0, .slice none 0 0, .slice none 0 0]) D0 G0 N0 H0 O0) rfl fn_16 (map_cons (eh b0 rfl) (map_cons (v := nn 1) rfl map_nil)) (fun q2 x2 z1 => ?_))
 obtain ⟨I1, k0, r0, m0, s0, n0, u0, o0, v0, rfl, g0, q1, r1, s1, t1⟩ := z1
 have h2 := g0.size
 refine nc b0 rfl <| gv (r_field (o' := 35) (eh b0 rfl) fo_45_4 (by rfl)) ?_
 have j1 := (D0.f0 g0)
 refine gz (kt (L' := hc s ++ ([.pointer (some ⟨p0, 0, none⟩), .pointer (some ⟨q0, 0, none⟩), nn 1, nn 1, nn 1073741824, .slice k0 1 r0, nn 1, .slice m0 1 s0, nn 1, .slice n0 1 u0, nn 1, .slice o0 1 v0, nn 1, nn 0, nn 0, .slice none 0 0, nn 0, .slice none 0 0, nn 0, .slice none 0 0, nn 0, .slice none 0 0, nn 0, .slice none 0 0, nn 0, .slice none 0 0, .slice none 0 0, .slice none 0 0, .slice none 0 0, .slice none 0 0, .slice none 0 0, .slice none 0 0])) g0.ag (eh b0 rfl) (eh b0 rfl) j1 sz_35 (fun y2 M0 c0 => ?_))
 have i2 := c0.size
 refine nl <| e1 <| sk fun _ h1 => rn <| mv b0 rfl <| mv b0 rfl <| nc b0 rfl <| gv (r_field (o' := 35) (eh b0 rfl) fo_45_4 (by rfl)) <| gv (lb (cs := [nn 1, nn 1073741824, .slice k0 1 r0, nn 1, .slice m0 1 s0, nn 1, .slice n0 1 u0, nn 1, .slice o0 1 v0, nn 1]) (eh b0 rfl) M0.bk qr_35 sz_35) <| nc b0 rfl <| gv (r_field (o' := 45) (eh b0 rfl) fo_45_5 (by rfl)) <| gz (kt (L' := hc s ++ ([.pointer (some ⟨p0, 0, none⟩), .pointer (some ⟨q0, 0, none⟩), nn 1, nn 1, nn 1073741824, .slice k0 1 r0, nn 1, .slice m0 1 s0, nn 1, .slice n0 1 u0, nn 1, .slice o0 1 v0, nn 1, nn 1, nn 1073741824, .slice k0 1 r0, nn 1, .slice m0 1 s0, nn 1, .slice n0 1 u0, nn 1, .slice o0 1 v0, nn 1, .slice none 0 0, nn 0, .slice none 0 0, .slice none 0 0, .slice none 0 0, .slice none 0 0, .slice none 0 0, .slice none 0 0, .slice none 0 0])) c0.ag (eh b0 rfl) (eh b0 rfl) M0 sz_35 (fun z2 u1 d0 => ?_))
 have j2 := d0.size
 refine nl <| h1 <| sk fun _ i1 => rn <| mv b0 rfl <| ms b0 rfl <| nl <| i1 <| wp_ret <| ret_of (res1 rfl _ _ (gh b0 rfl)) ((ov_defers _ _).trans b1) ?_
 have m1 := (((G0.f0 g0).f1 c0 (by omega)).f1 d0 (by omega))
 have n1 := (((H0.f0 g0).f1 c0 (by omega)).f1 d0 (by omega))
 have Q0 := Fr.ll (Fr.l2 g0 c0) d0
 have B1 := N0.le Q0
 have C1 := O0.le Q0
 have D1 := ((q1.up c0).up d0)
 have E1 := ((r1.up c0).up d0)
 have F1 := ((s1.up c0).up d0)
 have G1 := ((t1.up c0).up d0)
 exact ⟨I1, X0, p0, q0, V0, Y0, W0, Z0, k0, r0, m0, s0, n0, u0, o0, v0, rfl, ((((((((((cu0.t0 B0).t0 h0).t0 x0).t0 y0).t0 i0).t0 j0).t0 e0).t0 g0).tn c0 (by omega)).tn d0 (by omega)), u1, m1, n1, B1, C1, D1, E1, F1, G1, (by omega), (by omega), (by omega), (by omega), (by omega), (by omega)⟩

theorem f30 {m : Ctx} {w : World} (ag : Ag m w) {q0 q1 q2 q3 : Bytes} {L0 L1 L2 L3 : Option Addr} {l0 l1 l2 l3 v1 : Nat} (hL0 : Sl m L0 1 l0 32 (hc q0)) (hL1 : Sl m L1 1 l1 32 (hc q1)) (hL2 : Sl m L2 1 l2 32 (hc q2)) (hL3 : Sl m L3 1 l3 32 (hc q3)) : Calls Tryz.prog 30 #[.agg ([nn v1, nn 1073741824, .slice L0 1 l0, nn 1, .slice L1 1 l1, nn 1, .slice L2 1 l2, nn 1, .slice L3 1 l3, nn 1]).toArray] w (Ret fun y w' => ∃ m' M0 n0 M1 n1 M2 n2 M3 n3, y = .agg ([nn v1, nn 1073741824, .slice M0 1 n0, nn 1, .slice M1 1 n1, nn 1, .slice M2 1 n2, nn 1, .slice M3 1 n3, nn 1]).toArray ∧ Fr no m w m' w' ∧ Sl m' M0 1 n0 32 (hc q0) ∧ Sl m' M1 1 n1 32 (hc q1) ∧ Sl m' M2 1 n2 32 (hc q2) ∧ Sl m' M3 1 n3 32 (hc q3)) := by
 refine enter Tryz.func30 rfl (fun I0 hT a1 => ?_)
 have b0 : I0.tmps.size = 20 := by rw [hT]; kernel_rfl
 have j2 : I0.tmps.getD 0 undef = .agg ([nn v1, nn 1073741824, .slice L0 1 l0, nn 1, .slice L1 1 l1, nn 1, .slice L2 1 l2, nn 1, .slice L3 1 l3, nn 1]).toArray := by rw [hT]; kernel_rfl
 clear hT
 have cu0 : Fr (no) m w m w := Fr.refl ag
 refine sk fun _ b1 => rn <| gk (k_box (L := [nn v1, nn 1073741824, .slice L0 1 l0, nn 1, .slice L1 1 l1, nn 1, .slice L2 1 l2, nn 1, .slice L3 1 l3, nn 1]) ag (em b0 rfl rfl j2) (by kernel_rfl) (fun t3 o2 T0 H0 y2 => ?_))
 have Z2 := H0.size
 have C2 := T0.lt
 refine gk (k_alloc H0.ag qz_35 (fun C3 Z0 Q0 G0 u2 => ?_))
 have P2 := G0.size
 have F2 := Q0.lt
 refine nl <| b1 <| sk fun _ j1 => sk fun _ k1 => rn <| gv (r_field (o' := 2) (eh b0 rfl) fo_35_2 (by rfl)) ?_
 have J0 := (T0.f0 G0)
 refine gv (lb (cs := [.slice L0 1 l0, nn 1, .slice L1 1 l1, nn 1, .slice L2 1 l2, nn 1, .slice L3 1 l3, nn 1]) (eh b0 rfl) J0.bk qr_33 sz_33) <| gv (r_move (v := nn 0) rfl) <| nl <| k1 <| bl <| wp_unroll (n := 5) <| un_step (n := 4) <| sk fun _ m1 => rn <| gv (r_lss (j := 4) (eh b0 rfl) rfl) <| nl <| m1 <| sk fun _ o1 => cd b0 rfl <| ws <| o1 <| sk fun _ p1 => bl <| sk fun _ r1 => rn <| mv b0 rfl <| gv (r_indexN (cs := [.slice L0 1 l0, nn 1]) (i := 0) (eh b0 rfl) (eh b0 rfl) qa_33 qr_32 (by decide) (by kernel_rfl)) <| gk (k_alloc G0.ag qz_32 (fun u3 m2 S0 A0 v2 => ?_))
 have T2 := A0.size
 have B2 := S0.lt
 refine ms b0 rfl <| gz (kt (L' := [.slice L0 1 l0, nn 1]) A0.ag (eh b0 rfl) (eh b0 rfl) S0 sz_32 (fun v3 K1 B0 => ?_))
 have U2 := B0.size
 refine nl <| r1 <| rn <| mv b0 rfl <| gv (r_field (o' := 0) (eh b0 rfl) fo_32_0 (by rfl)) <| gv (la (v := .slice L0 1 l0) (eh b0 rfl) K1.bk qr_27) ?_
 have W0 := Fr.ll (Fr.ll (Fr.l2 H0 G0) A0) B0
 have a2 := hL0.le W0
 refine gk (k_cl (f70 B0.ag (n := 1) (l := [q0]) (by have h_ := a2; rw [← hcs_one] at h_; exact h_) rfl (by decide) (by decide)) rfl fn_70 (map_cons (eh b0 rfl) map_nil) (fun h3 w3 S1 => ?_))
 obtain ⟨G2, e0, g0, rfl, C0, O0⟩ := S1
 have V2 := C0.size
 rw [hcs_one] at O0
 refine gv (r_field (o' := 2) (eh b0 rfl) fo_35_2 (by rfl)) <| gv (r_idxA (o' := 2) (eh b0 rfl) (eh b0 rfl) qa_33 (by decide) (by rfl)) <| gv (r_field (o' := 2) (eh b0 rfl) fo_32_0 (by rfl)) ?_
 have E1 := (((J0.f0 A0).f1 B0 (by omega)).f0 C0)
 refine gz (kt (L' := [nn v1, nn 1073741824, .slice e0 1 g0, nn 1, .slice L1 1 l1, nn 1, .slice L2 1 l2, nn 1, .slice L3 1 l3, nn 1]) C0.ag (eh b0 rfl) (eh b0 rfl) E1 sz_27 (fun x3 N1 D0 => ?_))
 have W2 := D0.size
 refine nl <| p1 <| rn <| gv (r_add (j := 1) (eh b0 rfl) rfl (by decide)) <| mv b0 rfl <| nl <| un_next <| un_step (n := 3) <| sk fun _ s1 => rn <| gv (r_lss (j := 4) (eh b0 rfl) rfl) <| nl <| s1 <| sk fun _ t1 => cd b0 rfl <| ws <| t1 <| sk fun _ u1 => bl <| sk fun _ w1 => rn <| mv b0 rfl <| gv (r_indexN (cs := [.slice L1 1 l1, nn 1]) (i := 1) (eh b0 rfl) (eh b0 rfl) qa_33 qr_32 (by decide) (by kernel_rfl)) <| gk (k_alloc D0.ag qz_32 (fun y3 p2 U0 s0 x2 => ?_))
 have X2 := s0.size
 have D2 := U0.lt
 refine ms b0 rfl <| gz (kt (L' := [.slice L1 1 l1, nn 1]) s0.ag (eh b0 rfl) (eh b0 rfl) U0 sz_32 (fun z3 O1 u0 => ?_))
 have Y2 := u0.size
 refine nl <| w1 <| rn <| mv b0 rfl <| gv (r_field (o' := 0) (eh b0 rfl) fo_32_0 (by rfl)) <| gv (la (v := .slice L1 1 l1) (eh b0 rfl) O1.bk qr_27) ?_
 have X0 := Fr.ll (Fr.ll (Fr.ll (Fr.ll W0 C0) D0) s0) u0
 have b2 := hL1.le X0
 refine gk (k_cl (f70 u0.ag (n := 1) (l := [q1]) (by have h_ := b2; rw [← hcs_one] at h_; exact h_) rfl (by decide) (by decide)) rfl fn_70 (map_cons (eh b0 rfl) map_nil) (fun i3 A3 T1 => ?_))
 obtain ⟨H2, p0, r0, rfl, v0, P0⟩ := T1
 have a3 := v0.size
 rw [hcs_one] at P0
 refine gv (r_field (o' := 2) (eh b0 rfl) fo_35_2 (by rfl)) <| gv (r_idxA (o' := 4) (eh b0 rfl) (eh b0 rfl) qa_33 (by decide) (by rfl)) <| gv (r_field (o' := 4) (eh b0 rfl) fo_32_0 (by rfl)) ?_
 have F1 := (((N1.f0 s0).f1 u0 (by omega)).f0 v0)
 refine gz (kt (L' := [nn v1, nn 1073741824, .slice e0 1 g0, nn 1, .slice p0 1 r0, nn 1, .slice L2 1 l2, nn 1, .slice L3 1 l3, nn 1]) v0.ag (eh b0 rfl) (eh b0 rfl) F1 sz_27 (fun B3 P1 w0 => ?_))
 have c3 := w0.size
 refine nl <| u1 <| rn <| gv (r_add (j := 1) (eh b0 rfl) rfl (by decide)) <| mv b0 rfl <| nl <| un_next <| un_step (n := 2) <| sk fun _ x1 => rn <| gv (r_lss (j := 4) (eh b0 rfl) rfl) <| nl <| x1 <| sk fun _ y1 => cd b0 rfl <| ws <| y1 <| sk fun _ z1 => bl <| sk fun _ A1 => rn <| mv b0 rfl <| gv (r_indexN (cs := [.slice L2 1 l2, nn 1]) (i := 2) (eh b0 rfl) (eh b0 rfl) qa_33 qr_32 (by decide) (by kernel_rfl)) <| gk (k_alloc w0.ag qz_32 (fun D3 r2 V0 k0 z2 => ?_))
 have d3 := k0.size
 have E2 := V0.lt
 refine ms b0 rfl <| gz (kt (L' := [.slice L2 1 l2, nn 1]) k0.ag (eh b0 rfl) (eh b0 rfl) V0 sz_32 (fun E3 Q1 m0 => ?_))
 have e3 := m0.size
 refine nl <| A1 <| rn <| mv b0 rfl <| gv (r_field (o' := 0) (eh b0 rfl) fo_32_0 (by rfl)) <| gv (la (v := .slice L2 1 l2) (eh b0 rfl) Q1.bk qr_27) ?_
 have Y0 := Fr.ll (Fr.ll (Fr.ll (Fr.ll X0 v0) w0) k0) m0
 have c2 := hL2.le Y0
 refine gk (k_cl (f70 m0.ag (n := 1) (l := [q2]) (by have h_ := c2; rw [← hcs_one] at h_; exact h_) rfl (by decide) (by decide)) rfl fn_70 (map_cons (eh b0 rfl) map_nil) (fun j3 F3 U1 => ?_))
 obtain ⟨I2, x0, y0, rfl, o0, K0⟩ := U1
 have J2 := o0.size
 rw [hcs_one] at K0
 refine gv (r_field (o' := 2) (eh b0 rfl) fo_35_2 (by rfl)) <| gv (r_idxA (o' := 6) (eh b0 rfl) (eh b0 rfl) qa_33 (by decide) (by rfl)) <| gv (r_field (o' := 6) (eh b0 rfl) fo_32_0 (by rfl)) ?_
 have B1 := (((P1.f0 k0).f1 m0 (by omega)).f0 o0)
 refine gz (kt (L' := [nn v1, nn 1073741824, .slice e0 1 g0, nn 1, .slice p0 1 r0, nn 1, .slice x0 1 y0, nn 1, .slice L3 1 l3, nn 1]) o0.ag (eh b0 rfl) (eh b0 rfl) B1 sz_27 (fun k3 G1 h0 => ?_))
 have K2 := h0.size
 refine nl <| z1 <| rn <| gv (r_add (j := 1) (eh b0 rfl) rfl (by decide)) <| mv b0 rfl <| nl <| un_next <| un_step (n := 1) <| sk fun _ c1 => rn <| gv (r_lss (j := 4) (eh b0 rfl) rfl) <| nl <| c1 <| sk fun _ d1 => cd b0 rfl <| ws <| d1 <| sk fun _ e1 => bl <| sk fun _ g1 => rn <| mv b0 rfl <| gv (r_indexN (cs := [.slice L3 1 l3, nn 1]) (i := 3) (eh b0 rfl) (eh b0 rfl) qa_33 qr_32 (by decide) (by kernel_rfl)) <| gk (k_alloc h0.ag qz_32 (fun m3 k2 R0 c0 t2 => ?_))
 have N2 := c0.size
 have A2 := R0.lt
 refine ms b0 rfl <| gz (kt (L' := [.slice L3 1 l3, nn 1]) c0.ag (eh b0 rfl) (eh b0 rfl) R0 sz_32 (fun o3 H1 d0 => ?_))
 have O2 := d0.size
 refine nl <| g1 <| rn <| mv b0 rfl <| gv (r_field (o' := 0) (eh b0 rfl) fo_32_0 (by rfl)) <| gv (la (v := .slice L3 1 l3) (eh b0 rfl) H1.bk qr_27) ?_
 have d2 := Fr.ll (Fr.ll (Fr.ll (Fr.ll Y0 o0) h0) c0) d0
 have V1 := hL3.le d2
 refine gk (k_cl (f70 d0.ag (n := 1) (l := [q3]) (by have h_ := V1; rw [← hcs_one] at h_; exact h_) rfl (by decide) (by decide)) rfl fn_70 (map_cons (eh b0 rfl) map_nil) (fun g3 p3 R1 => ?_))
 obtain ⟨i2, E0, F0, rfl, i0, N0⟩ := R1
 have Q2 := i0.size
 rw [hcs_one] at N0
 refine gv (r_field (o' := 2) (eh b0 rfl) fo_35_2 (by rfl)) <| gv (r_idxA (o' := 8) (eh b0 rfl) (eh b0 rfl) qa_33 (by decide) (by rfl)) <| gv (r_field (o' := 8) (eh b0 rfl) fo_32_0 (by rfl)) ?_
 have C1 := (((G1.f0 c0).f1 d0 (by omega)).f0 i0)
 refine gz (kt (L' := [nn v1, nn 1073741824, .slice e0 1 g0, nn 1, .slice p0 1 r0, nn 1, .slice x0 1 y0, nn 1, .slice E0 1 F0, nn 1]) i0.ag (eh b0 rfl) (eh b0 rfl) C1 sz_27 (fun r3 I1 j0 => ?_))
 have R2 := j0.size
 refine nl <| e1 <| rn <| gv (r_add (j := 1) (eh b0 rfl) rfl (by decide)) <| mv b0 rfl <| nl <| un_next <| un_step (n := 0) <| sk fun _ h1 => rn <| gv (r_lss (j := 4) (eh b0 rfl) rfl) <| nl <| h1 <| sk fun _ s2 => ce b0 rfl <| we <| j1 <| sk fun _ i1 => rn <| gv (lb (cs := [nn v1, nn 1073741824, .slice e0 1 g0, nn 1, .slice p0 1 r0, nn 1, .slice x0 1 y0, nn 1, .slice E0 1 F0, nn 1]) (eh b0 rfl) I1.bk qr_35 sz_35) ?_
 have D1 := ((((((((((((((((Q0.f0 A0).f1 B0 (by omega)).f0 C0).f1 D0 (by omega)).f0 s0).f1 u0 (by omega)).f0 v0).f1 w0 (by omega)).f0 k0).f1 m0 (by omega)).f0 o0).f1 h0 (by omega)).f0 c0).f1 d0 (by omega)).f0 i0).f1 j0 (by omega))
 refine gz (kt (L' := [nn v1, nn 1073741824, .slice e0 1 g0, nn 1, .slice p0 1 r0, nn 1, .slice x0 1 y0, nn 1, .slice E0 1 F0, nn 1]) j0.ag (eh b0 rfl) (eh b0 rfl) D1 sz_35 (fun s3 J1 z0 => ?_))
 have S2 := z0.size
 refine nl <| i1 <| wp_ret <| ret_of (res1c (b := Z0) (n := 10) (cs := [nn v1, nn 1073741824, .slice e0 1 g0, nn 1, .slice p0 1 r0, nn 1, .slice x0 1 y0, nn 1, .slice E0 1 F0, nn 1]) rfl _ _ (gh b0 rfl) J1.bk (by kernel_rfl) (by kernel_rfl) qr_35 sz_35) ((ov_defers _ _).trans a1) ?_
 have e2 := Fr.ll (Fr.ll (Fr.ll (Fr.ll (Fr.ll (Fr.ll (Fr.ll (Fr.ll (Fr.ll (Fr.ll (Fr.ll (Fr.ll (Fr.l2 D0 s0) u0) v0) w0) k0) m0) o0) h0) c0) d0) i0) j0) z0
 have W1 := O0.le e2
 have g2 := Fr.ll (Fr.ll (Fr.ll (Fr.ll (Fr.ll (Fr.ll (Fr.ll (Fr.ll (Fr.l2 w0 k0) m0) o0) h0) c0) d0) i0) j0) z0
 have X1 := P0.le g2
 have h2 := Fr.ll (Fr.ll (Fr.ll (Fr.ll (Fr.l2 h0 c0) d0) i0) j0) z0
 have Y1 := K0.le h2
 have Z1 := ((N0.up j0).up z0)
 exact ⟨i2, e0, g0, p0, r0, x0, y0, E0, F0, rfl, (((((((((((((((((((cu0.t0 H0).t0 G0).t0 A0).tn B0 (by omega)).t0 C0).tn D0 (by omega)).t0 s0).tn u0 (by omega)).t0 v0).tn w0 (by omega)).t0 k0).tn m0 (by omega)).t0 o0).tn h0 (by omega)).t0 c0).tn d0 (by omega)).t0 i0).tn j0 (by omega)).tn z0 (by omega)), W1, X1, Y1, Z1⟩

theorem f9 {m : Ctx} {w : World} (ag : Ag m w) {rb : Nat} {s : Bytes} {x0 x1 x2 : Value} {X : List Value} {q0 q1 q2 q3 : Bytes} {L0 L1 L2 L3 : Option Addr} {l0 l1 l2 l3 v1 : Nat} (hmR : Mu m w rb 76 (hc s ++ ([x0, x1, x2, nn v1, nn 1073741824, .slice L0 1 l0, nn 1, .slice L1 1 l1, nn 1, .slice L2 1 l2, nn 1, .slice L3 1 l3, nn 1] ++ X))) (hL0 : Sl m L0 1 l0 32 (hc q0)) (hL1 : Sl m L1 1 l1 32 (hc q1)) (hL2 : Sl m L2 1 l2 32 (hc q2)) (hL3 : Sl m L3 1 l3 32 (hc q3)) : Calls Tryz.prog 9 #[.pointer (some ⟨rb, 0, none⟩)] w (Ret fun y w' => ∃ m' M0 n0 M1 n1 M2 n2 M3 n3, y = .agg ([nn v1, nn 1073741824, .slice M0 1 n0, nn 1, .slice M1 1 n1, nn 1, .slice M2 1 n2, nn 1, .slice M3 1 n3, nn 1]).toArray ∧ Fr no m w m' w' ∧ Sl m' M0 1 n0 32 (hc q0) ∧ Sl m' M1 1 n1 32 (hc q1) ∧ Sl m' M2 1 n2 32 (hc q2) ∧ Sl m' M3 1 n3 32 (hc q3)) := by
 refine enter Tryz.func9 rfl (fun r0 hT w0 => ?_)
 have b0 : r0.tmps.size = 11 := by rw [hT]; kernel_rfl
 have u0 : r0.tmps.getD 0 undef = .pointer (some ⟨rb, 0, none⟩) := by rw [hT]; kernel_rfl
 clear hT
 have cu0 : Fr (no) m w m w := Fr.refl ag
 have lt_rb := hmR.lt
 refine sk fun _ y0 => rn <| gk (k_alloc ag qz_35 (fun c1 v0 s0 c0 V0 => ?_))
 have Z0 := c0.size
 have W0 := s0.lt
 refine nl <| y0 <| sk fun _ A0 => sk fun _ B0 => rn <| mw b0 u0 <| gv (r_eqlNil (eh b0 rfl) rfl qu_47) <| nl <| B0 <| cf (eh b0 rfl) <| ws <| A0 <| sk fun _ z0 => rn <| mw b0 u0 <| nc b0 rfl <| gv (r_field (o' := 35) (eh b0 rfl) fo_76_3 (by rfl)) ?_
 have C0 := (hmR.f0 c0)
 refine gv (lb (cs := [nn v1, nn 1073741824, .slice L0 1 l0, nn 1, .slice L1 1 l1, nn 1, .slice L2 1 l2, nn 1, .slice L3 1 l3, nn 1]) (eh b0 rfl) C0.bk qr_35 sz_35) ?_
 have K0 := (hL0.up c0)
 have N0 := (hL1.up c0)
 have O0 := (hL2.up c0)
 have P0 := (hL3.up c0)
 refine gk (k_cl (f30 c0.ag K0 N0 O0 P0) rfl fn_30 (map_cons (eh b0 rfl) map_nil) (fun a1 b1 J0 => ?_))
 obtain ⟨U0, g0, k0, h0, m0, i0, o0, j0, p0, rfl, e0, E0, F0, G0, H0⟩ := J0
 have X0 := e0.size
 have D0 := (s0.f0 e0)
 refine gz (kt (L' := [nn v1, nn 1073741824, .slice g0 1 k0, nn 1, .slice h0 1 m0, nn 1, .slice i0 1 o0, nn 1, .slice j0 1 p0, nn 1]) e0.ag (eh b0 rfl) (eh b0 rfl) D0 sz_35 (fun d1 I0 d0 => ?_))
 have Y0 := d0.size
 refine nl <| z0 <| wp_ret <| ret_of (res1c (b := v0) (n := 10) (cs := [nn v1, nn 1073741824, .slice g0 1 k0, nn 1, .slice h0 1 m0, nn 1, .slice i0 1 o0, nn 1, .slice j0 1 p0, nn 1]) rfl _ _ (gh b0 rfl) I0.bk (by kernel_rfl) (by kernel_rfl) qr_35 sz_35) ((ov_defers _ _).trans w0) ?_
 have Q0 := (E0.up d0)
 have R0 := (F0.up d0)
 have S0 := (G0.up d0)
 have T0 := (H0.up d0)
 exact ⟨U0, g0, k0, h0, m0, i0, o0, j0, p0, rfl, (((cu0.t0 c0).t0 e0).tn d0 (by omega)), Q0, R0, S0, T0⟩

theorem f13 {m : Ctx} {w : World} (ag : Ag m w) {rb : Nat} {s : Bytes} {X : List Value} {k1 c1 u1 : Nat} {A1 : Option Addr} {s1 : Bytes} {k2 c2 u2 : Nat} {A2 : Option Addr} {s2 : Bytes} (hmR : Mu m w rb 76 (hc s ++ ([.pointer (some ⟨k1, 0, none⟩), .pointer (some ⟨k2, 0, none⟩)] ++ X))) (hmK1 : Mu m w k1 116 (hc s1 ++ ([.slice A1 16 c1, nn u1]))) (hl1 : Sl m A1 16 c1 32 (hcs (lv s1))) (hmK2 : Mu m w k2 116 (hc s2 ++ ([.slice A2 16 c2, nn u2]))) (hl2 : Sl m A2 16 c2 32 (hcs (lv s2))) : Calls Tryz.prog 13 #[.pointer (some ⟨rb, 0, none⟩)] w (Ret fun y w' => ∃ m', y = .tuple #[nn u1, nn u2] ∧ Fr no m w m' w') := by
 refine enter Tryz.func13 rfl (fun k0 hT p0 => ?_)
 have b0 : k0.tmps.size = 18 := by rw [hT]; kernel_rfl
 have j0 : k0.tmps.getD 0 undef = .pointer (some ⟨rb, 0, none⟩) := by rw [hT]; kernel_rfl
 clear hT
 have cu0 : Fr (no) m w m w := Fr.refl ag
 have lt_rb := hmR.lt
 have C0 := hmK1.lt
 have D0 := hmK2.lt
 refine sk fun _ q0 => rn <| gv (r_assign (v := nn 0) rfl) <| gv (r_assign (v := nn 0) rfl) <| nl <| q0 <| sk fun _ r0 => sk fun _ s0 => rn <| mw b0 j0 <| gv (r_eqlNil (eh b0 rfl) rfl qu_47) <| nl <| s0 <| cf (eh b0 rfl) <| ws <| r0 <| sk fun _ u0 => ?_
 have d0 : Fr no m w m { w with drawn := w.drawn + 1 } := Fr.drw ag
 obtain ⟨g0, m0⟩ : ∃ w_, w_ = ({ w with drawn := w.drawn + 1 } : World) := ⟨_, rfl⟩
 rw [← m0] at d0
 have H0 := d0.size
 refine wp_region_T mixed (fun wz => ∃ mz, Fr (no) m g0 mz wz) (fun wz => ∃ mz, Fr (no) m g0 mz wz) 14 ?_
 rw [← m0]
 show wpAnyT _ _ _ _ _ 14 _ _ _
 have c0 : Fr (no) m g0 m g0 := Fr.refl d0.ag
 refine tkk (i := 0) rfl rfl (fun _ _ => r_move (em b0 rfl rfl j0)) ⟨_, c0⟩ <| tkk (i := 1) rfl rfl (fun _ _ => r_nilCheck (eh b0 rfl)) ⟨_, c0⟩ <| tkk (i := 2) rfl rfl (fun _ _ => r_field (o' := 32) (eh b0 rfl) fo_76_1 (by rfl)) ⟨_, c0⟩ <| tkk (i := 3) rfl rfl (fun _ _ => r_idxA (i := 0) (o' := 32) (eh b0 rfl) rfl qa_74 (by decide) (by rfl)) ⟨_, c0⟩ ?_
 have l0 := (hmR.f0 d0)
 refine tkk (i := 4) rfl rfl (fun wz ⟨mz, hz⟩ => la (v := .pointer (some ⟨k1, 0, none⟩)) (eh b0 rfl) (hz.ex l0.bk (fun h => h)) qr_73) ⟨_, c0⟩ <| tkk (i := 6) rfl rfl (fun _ _ => r_move (em b0 rfl rfl j0)) ⟨_, c0⟩ <| tkk (i := 7) rfl rfl (fun _ _ => r_nilCheck (eh b0 rfl)) ⟨_, c0⟩ <| tkk (i := 8) rfl rfl (fun _ _ => r_field (o' := 32) (eh b0 rfl) fo_76_1 (by rfl)) ⟨_, c0⟩ <| tkk (i := 9) rfl rfl (fun _ _ => r_idxA (i := 1) (o' := 33) (eh b0 rfl) rfl qa_74 (by decide) (by rfl)) ⟨_, c0⟩ <| tkk (i := 10) rfl rfl (fun wz ⟨mz, hz⟩ => la (v := .pointer (some ⟨k2, 0, none⟩)) (eh b0 rfl) (hz.ex l0.bk (fun h => h)) qr_73) ⟨_, c0⟩ ?_
 have z0 := (hl1.up d0)
 have v0 := (hmK1.f0 d0)
 refine ann (i := 5) (b := true) rfl rfl (k_cl (f22 d0.ag v0 z0) rfl fn_22 (map_cons (eh b0 rfl) map_nil) (fun I0 K0 x0 => ?_))
 obtain ⟨E0, rfl, e0⟩ := x0
 have F0 := e0.size
 have n0 := c0.t0 e0
 refine ⟨(tbT ⟨_, n0⟩), ?_⟩
 have A0 := ((hl2.up d0).up e0)
 have o0 := d0.t0 e0
 have w0 := (hmK2.f0 o0)
 refine ann (i := 11) (b := true) rfl rfl (k_cl (f22 e0.ag w0 A0) rfl fn_22 (map_cons (eh b0 rfl) map_nil) (fun J0 L0 y0 => ?_))
 obtain ⟨B0, rfl, h0⟩ := y0
 have G0 := h0.size
 have i0 := n0.t0 h0
 refine ⟨(tbT ⟨_, i0⟩), ?_⟩
 refine tkk (i := 12) rfl rfl (fun _ _ => r_assign (eh b0 rfl)) ⟨_, i0⟩ <| tkk (i := 13) rfl rfl (fun _ _ => r_assign (eh b0 rfl)) ⟨_, i0⟩ <| anyT_done (by kernel_rfl) ?_ _
 refine u0 <| wp_ret <| ret_of (res2 rfl _ _ (gh b0 rfl) (gh b0 rfl)) ((ov_defers _ _).trans p0) ?_
 exact ⟨B0, rfl, (((cu0.t0 d0).t0 e0).t0 h0)⟩

end Go.Proofs.YtiggfalelcepbaaGreatDoor

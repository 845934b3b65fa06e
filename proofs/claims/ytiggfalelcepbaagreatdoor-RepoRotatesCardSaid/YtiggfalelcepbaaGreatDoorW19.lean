/- The walks of chapter 16: Bundle. -/
import Derived.Test.YtiggfalelcepbaaGreatDoorK7
import Derived.Test.YtiggfalelcepbaaGreatDoorSX
import Derived.Test.YtiggfalelcepbaaGreatDoorW18
import Derived.Test.YtiggfalelcepbaaGreatDoorTX
namespace Go.Proofs.YtiggfalelcepbaaGreatDoor
open Go
set_option maxRecDepth 100000
set_option maxHeartbeats 4000000
theorem f12_0n {m : Ctx} {w : World} (ag : Ag m w) {rb : Nat} {s : Bytes} {led f0 f1 f2 f3 f4 f5 f6 f7 f8 f9 f10 f11 f12 f13 f14 f15 f16 f17 f18 f19 f20 f21 f22 f23 f24 : Value} (hmR : Mu m w rb 76 (hc s ++ ([f0, f1, f2, f3, f4, f5, f6, f7, f8, f9, f10, f11, f12, f13, f14, f15, f16, f17, f18, f19, f20, f21, f22, f23, f24, .slice none 0 0, .slice none 0 0, .slice none 0 0, .slice none 0 0, .slice none 0 0, .slice none 0 0, led]))) : Calls Tryz.prog 12 #[.pointer (some ⟨rb, 0, none⟩)] w (Ret fun y w' => ∃ m' , y = .agg ([.slice none 0 0, .slice none 0 0, .slice none 0 0, .slice none 0 0, .slice none 0 0, .slice none 0 0]).toArray ∧ Fr no m w m' w') := by
 refine enter Tryz.func12 rfl (fun r0 hT z0 => ?_)
 have b0 : r0.tmps.size = 31 := by rw [hT]; kernel_rfl
 have k0 : r0.tmps.getD 0 undef = .pointer (some ⟨rb, 0, none⟩) := by rw [hT]; kernel_rfl
 clear hT
 have cu0 : Fr (no) m w m w := Fr.refl ag
 have lt_rb := hmR.lt
 refine sk fun _ A0 => rn <| gk (k_alloc ag qz_43 (fun l0 m0 s0 n0 O0 => ?_))
 have V0 := n0.size
 have P0 := s0.lt
 refine nl <| A0 <| sk fun _ C0 => sk fun _ D0 => rn <| mw b0 k0 <| gv (r_eqlNil (eh b0 rfl) rfl qu_47) <| nl <| D0 <| cf (eh b0 rfl) <| ws <| C0 <| sk fun _ B0 => ?_
 have d0 : Fr no m l0 m { l0 with drawn := l0.drawn + 1 } := Fr.drw n0.ag
 obtain ⟨e0, u0⟩ : ∃ w_, w_ = ({ l0 with drawn := l0.drawn + 1 } : World) := ⟨_, rfl⟩
 rw [← u0] at d0
 have T0 := d0.size
 refine wp_region_T mixed (fun wz => ∃ mz, Fr (no) m e0 mz wz) (fun wz => ∃ mz, Fr (on m0) m e0 mz wz) 25 ?_
 rw [← u0]
 show wpAnyT _ _ _ _ _ 26 _ _ _
 have c0 : Fr (no) m e0 m e0 := Fr.refl d0.ag
 have N0 : ∀ wz, (∃ mz, Fr (no) m e0 mz wz) → ∃ mz, Fr (on m0) m e0 mz wz := fun wz ⟨mz, hz⟩ => ⟨mz, hz.wk (fun x hx _ => hx.elim)⟩
 refine tk2 (i := 0) rfl rfl (fun _ _ => r_move (em b0 rfl rfl k0)) ⟨_, c0⟩ <| tk2 (i := 1) rfl rfl (fun _ _ => r_nilCheck (eh b0 rfl)) ⟨_, c0⟩ <| tk2 (i := 2) rfl rfl (fun _ _ => r_field (o' := 57) (eh b0 rfl) fo_76_7 (by rfl)) ⟨_, c0⟩ <| tk2 (i := 3) rfl rfl (fun _ _ => r_field (o' := 57) (eh b0 rfl) fo_43_0 (by rfl)) ⟨_, c0⟩ ?_
 have o0 := ((hmR.f0 n0).f0 d0)
 refine tk2 (i := 4) rfl rfl (fun wz ⟨mz, hz⟩ => la (v := .slice none 0 0) (eh b0 rfl) (hz.ex o0.bk (fun h => h)) qr_37) ⟨_, c0⟩ <| tk2 (i := 6) rfl rfl (fun _ _ => r_move (em b0 rfl rfl k0)) ⟨_, c0⟩ <| tk2 (i := 7) rfl rfl (fun _ _ => r_nilCheck (eh b0 rfl)) ⟨_, c0⟩ <| tk2 (i := 8) rfl rfl (fun _ _ => r_field (o' := 57) (eh b0 rfl) fo_76_7 (by rfl)) ⟨_, c0⟩ <| tk2 (i := 9) rfl rfl (fun _ _ => r_field (o' := 58) (eh b0 rfl) fo_43_1 (by rfl)) ⟨_, c0⟩ <| tk2 (i := 10) rfl rfl (fun wz ⟨mz, hz⟩ => lb (cs := [.slice none 0 0, .slice none 0 0]) (eh b0 rfl) (hz.ex o0.bk (fun h => h)) qr_41 sz_41) ⟨_, c0⟩ <| tk2 (i := 12) rfl rfl (fun _ _ => r_move (em b0 rfl rfl k0)) ⟨_, c0⟩ <| tk2 (i := 13) rfl rfl (fun _ _ => r_nilCheck (eh b0 rfl)) ⟨_, c0⟩ <| tk2 (i := 14) rfl rfl (fun _ _ => r_field (o' := 57) (eh b0 rfl) fo_76_7 (by rfl)) ⟨_, c0⟩ <| tk2 (i := 15) rfl rfl (fun _ _ => r_field (o' := 60) (eh b0 rfl) fo_43_2 (by rfl)) ⟨_, c0⟩ <| tk2 (i := 16) rfl rfl (fun wz ⟨mz, hz⟩ => lb (cs := [.slice none 0 0, .slice none 0 0]) (eh b0 rfl) (hz.ex o0.bk (fun h => h)) qr_41 sz_41) ⟨_, c0⟩ <| tk2 (i := 18) rfl rfl (fun _ _ => r_move (em b0 rfl rfl k0)) ⟨_, c0⟩ <| tk2 (i := 19) rfl rfl (fun _ _ => r_nilCheck (eh b0 rfl)) ⟨_, c0⟩ <| tk2 (i := 20) rfl rfl (fun _ _ => r_field (o' := 57) (eh b0 rfl) fo_76_7 (by rfl)) ⟨_, c0⟩ <| tk2 (i := 21) rfl rfl (fun _ _ => r_field (o' := 62) (eh b0 rfl) fo_43_3 (by rfl)) ⟨_, c0⟩ <| tk2 (i := 22) rfl rfl (fun wz ⟨mz, hz⟩ => la (v := .slice none 0 0) (eh b0 rfl) (hz.ex o0.bk (fun h => h)) qr_37) ⟨_, c0⟩ ?_
 refine ann (i := 5) (b := false) rfl rfl (k_cl (f36_n d0.ag) rfl fn_36 (map_cons (eh b0 rfl) map_nil) (fun a1 e1 G0 => ?_))
 obtain ⟨Q0, rfl, g0⟩ := G0
 have U0 := g0.size
 have v0 := c0.t0 g0
 refine ⟨(tbF ⟨_, v0⟩), ?_⟩
 refine ann (i := 11) (b := false) rfl rfl (k_cl (f37_n g0.ag) rfl fn_37 (map_cons (eh b0 rfl) map_nil) (fun b1 g1 H0 => ?_))
 obtain ⟨R0, rfl, h0⟩ := H0
 have W0 := h0.size
 have w0 := v0.t0 h0
 refine ⟨(tbF ⟨_, w0⟩), ?_⟩
 refine ann (i := 17) (b := false) rfl rfl (k_cl (f37_n h0.ag) rfl fn_37 (map_cons (eh b0 rfl) map_nil) (fun c1 h1 I0 => ?_))
 obtain ⟨S0, rfl, i0⟩ := I0
 have X0 := i0.size
 have x0 := w0.t0 i0
 refine ⟨(tbF ⟨_, x0⟩), ?_⟩
 refine ann (i := 23) (b := false) rfl rfl (k_cl (f36_n i0.ag) rfl fn_36 (map_cons (eh b0 rfl) map_nil) (fun d1 i1 J0 => ?_))
 obtain ⟨K0, rfl, j0⟩ := J0
 have Y0 := j0.size
 have q0 := x0.t0 j0
 refine ⟨(tbF ⟨_, q0⟩), ?_⟩
 refine tk2 (i := 24) rfl rfl (fun _ _ => r_build (cs := [.slice none 0 0, .slice none 0 0, .slice none 0 0, .slice none 0 0, .slice none 0 0, .slice none 0 0]) (pm_cons (eh b0 rfl) (pm_cons (eh b0 rfl) (pm_cons (eh b0 rfl) (pm_cons (eh b0 rfl) pm_nil)))) (by kernel_rfl)) ⟨_, q0⟩ ?_
 have L0 : Fr (on m0) _ _ _ _ := q0.wk (fun x hx _ => hx.elim)
 have y0 := (((d0.t0 g0).t0 h0).t0 i0).t0 j0
 have E0 := (s0.f0 y0)
 refine an00 (i := 25) (b := true) rfl rfl (kt (L' := [.slice none 0 0, .slice none 0 0, .slice none 0 0, .slice none 0 0, .slice none 0 0, .slice none 0 0]) j0.ag (eh b0 rfl) (eh b0 rfl) E0 sz_43 (fun j1 F0 p0 => ?_))
 have Z0 := p0.size
 have M0 := L0.tr p0 (fun x hx => .inr (by cases hx; exact rfl))
 refine ⟨(tbT ⟨_, M0⟩), ?_⟩
 refine anyT_done (by kernel_rfl) ?_ _
 refine B0 <| wp_ret <| ret_of (res1c (b := m0) (n := 6) (cs := [.slice none 0 0, .slice none 0 0, .slice none 0 0, .slice none 0 0, .slice none 0 0, .slice none 0 0]) rfl _ _ (gh b0 rfl) F0.bk (by kernel_rfl) (by kernel_rfl) qr_43 sz_43) ((ov_defers _ _).trans z0) ?_
 exact ⟨K0, rfl, (((((((cu0.t0 n0).t0 d0).t0 g0).t0 h0).t0 i0).t0 j0).tn p0 (by omega))⟩

theorem f12_0s {m : Ctx} {w : World} (ag : Ag m w) {rb : Nat} {s : Bytes} {led f0 f1 f2 f3 f4 f5 f6 f7 f8 f9 f10 f11 f12 f13 f14 f15 f16 f17 f18 f19 f20 f21 f22 f23 f24 : Value} {AT DT : Option Addr} {nT cT dT uT : Nat} {pT sT : Bytes} {AS DS : Option Addr} {nS cS dS uS : Nat} {pS sS : Bytes} {AG DG : Option Addr} {nG cG dG uG : Nat} {pG sG : Bytes} {Q : Option Addr} {qc : Nat} (hmR : Mu m w rb 76 (hc s ++ ([f0, f1, f2, f3, f4, f5, f6, f7, f8, f9, f10, f11, f12, f13, f14, f15, f16, f17, f18, f19, f20, f21, f22, f23, f24, .slice none 0 0, .slice AT nT cT, .slice DT 1 dT, .slice AS nS cS, .slice DS 1 dS, .slice Q 1 qc, led]))) (hET : Env m AT nT cT DT dT pT sT uT) (h0T : 0 < nT) (hnT : nT < 1048576) (hES : Env m AS nS cS DS dS pS sS uS) (h0S : 0 < nS) (hnS : nS < 1048576) (hEG : Env m AG nG cG DG dG pG sG uG) (h0G : 0 < nG) (hnG : nG < 1048576) (hQ : Sl m Q 1 qc 2 ([.slice AG nG cG, .slice DG 1 dG])) : Calls Tryz.prog 12 #[.pointer (some ⟨rb, 0, none⟩)] w (Ret fun y w' => ∃ m' AT' cT' DT' dT' AS' cS' DS' dS' AG' cG' DG' dG' Q' qc', y = .agg ([.slice none 0 0, .slice AT' nT cT', .slice DT' 1 dT', .slice AS' nS cS', .slice DS' 1 dS', .slice Q' 1 qc']).toArray ∧ Fr no m w m' w' ∧ Env m' AT' nT cT' DT' dT' pT sT uT ∧ Env m' AS' nS cS' DS' dS' pS sS uS ∧ Env m' AG' nG cG' DG' dG' pG sG uG ∧ Sl m' Q' 1 qc' 2 ([.slice AG' nG cG', .slice DG' 1 dG'])) := by
 refine enter Tryz.func12 rfl (fun C0 hT Q0 => ?_)
 have b0 : C0.tmps.size = 31 := by rw [hT]; kernel_rfl
 have m0 : C0.tmps.getD 0 undef = .pointer (some ⟨rb, 0, none⟩) := by rw [hT]; kernel_rfl
 clear hT
 have cu0 : Fr (no) m w m w := Fr.refl ag
 have lt_rb := hmR.lt
 refine sk fun _ X0 => rn <| gk (k_alloc ag qz_43 (fun n0 u0 D0 l0 t1 => ?_))
 have C1 := l0.size
 have u1 := D0.lt
 refine nl <| X0 <| sk fun _ Z0 => sk fun _ a1 => rn <| mw b0 m0 <| gv (r_eqlNil (eh b0 rfl) rfl qu_47) <| nl <| a1 <| cf (eh b0 rfl) <| ws <| Z0 <| sk fun _ Y0 => ?_
 have d0 : Fr no m n0 m { n0 with drawn := n0.drawn + 1 } := Fr.drw l0.ag
 obtain ⟨k0, E0⟩ : ∃ w_, w_ = ({ n0 with drawn := n0.drawn + 1 } : World) := ⟨_, rfl⟩
 rw [← E0] at d0
 have D1 := d0.size
 refine wp_region_T mixed (fun wz => ∃ mz, Fr (no) m k0 mz wz) (fun wz => ∃ mz, Fr (on u0) m k0 mz wz) 25 ?_
 rw [← E0]
 show wpAnyT _ _ _ _ _ 26 _ _ _
 have c0 : Fr (no) m k0 m k0 := Fr.refl d0.ag
 have s1 : ∀ wz, (∃ mz, Fr (no) m k0 mz wz) → ∃ mz, Fr (on u0) m k0 mz wz := fun wz ⟨mz, hz⟩ => ⟨mz, hz.wk (fun x hx _ => hx.elim)⟩
 refine tk2 (i := 0) rfl rfl (fun _ _ => r_move (em b0 rfl rfl m0)) ⟨_, c0⟩ <| tk2 (i := 1) rfl rfl (fun _ _ => r_nilCheck (eh b0 rfl)) ⟨_, c0⟩ <| tk2 (i := 2) rfl rfl (fun _ _ => r_field (o' := 57) (eh b0 rfl) fo_76_7 (by rfl)) ⟨_, c0⟩ <| tk2 (i := 3) rfl rfl (fun _ _ => r_field (o' := 57) (eh b0 rfl) fo_43_0 (by rfl)) ⟨_, c0⟩ ?_
 have A0 := ((hmR.f0 l0).f0 d0)
 refine tk2 (i := 4) rfl rfl (fun wz ⟨mz, hz⟩ => la (v := .slice none 0 0) (eh b0 rfl) (hz.ex A0.bk (fun h => h)) qr_37) ⟨_, c0⟩ <| tk2 (i := 6) rfl rfl (fun _ _ => r_move (em b0 rfl rfl m0)) ⟨_, c0⟩ <| tk2 (i := 7) rfl rfl (fun _ _ => r_nilCheck (eh b0 rfl)) ⟨_, c0⟩ <| tk2 (i := 8) rfl rfl (fun _ _ => r_field (o' := 57) (eh b0 rfl) fo_76_7 (by rfl)) ⟨_, c0⟩ <| tk2 (i := 9) rfl rfl (fun _ _ => r_field (o' := 58) (eh b0 rfl) fo_43_1 (by rfl)) ⟨_, c0⟩ <| tk2 (i := 10) rfl rfl (fun wz ⟨mz, hz⟩ => lb (cs := [.slice AT nT cT, .slice DT 1 dT]) (eh b0 rfl) (hz.ex A0.bk (fun h => h)) qr_41 sz_41) ⟨_, c0⟩ <| tk2 (i := 12) rfl rfl (fun _ _ => r_move (em b0 rfl rfl m0)) ⟨_, c0⟩ <| tk2 (i := 13) rfl rfl (fun _ _ => r_nilCheck (eh b0 rfl)) ⟨_, c0⟩ <| tk2 (i := 14) rfl rfl (fun _ _ => r_field (o' := 57) (eh b0 rfl) fo_76_7 (by rfl)) ⟨_, c0⟩ <| tk2 (i := 15) rfl rfl (fun _ _ => r_field (o' := 60) (eh b0 rfl) fo_43_2 (by rfl)) ⟨_, c0⟩ <| tk2 (i := 16) rfl rfl (fun wz ⟨mz, hz⟩ => lb (cs := [.slice AS nS cS, .slice DS 1 dS]) (eh b0 rfl) (hz.ex A0.bk (fun h => h)) qr_41 sz_41) ⟨_, c0⟩ <| tk2 (i := 18) rfl rfl (fun _ _ => r_move (em b0 rfl rfl m0)) ⟨_, c0⟩ <| tk2 (i := 19) rfl rfl (fun _ _ => r_nilCheck (eh b0 rfl)) ⟨_, c0⟩ <| tk2 (i := 20) rfl rfl (fun _ _ => r_field (o' := 57) (eh b0 rfl) fo_76_7 (by rfl)) ⟨_, c0⟩ <| tk2 (i := 21) rfl rfl (fun _ _ => r_field (o' := 62) (eh b0 rfl) fo_43_3 (by rfl)) ⟨_, c0⟩ <| tk2 (i := 22) rfl rfl (fun wz ⟨mz, hz⟩ => la (v := .slice Q 1 qc) (eh b0 rfl) (hz.ex A0.bk (fun h => h)) qr_37) ⟨_, c0⟩ ?_
 refine ann (i := 5) (b := false) rfl rfl (k_cl (f36_n d0.ag) rfl fn_36 (map_cons (eh b0 rfl) map_nil) (fun H1 M1 k1 => ?_))
 obtain ⟨w1, rfl, i0⟩ := k1
 have E1 := i0.size
 have K0 := c0.t0 i0
 refine ⟨(tbF ⟨_, K0⟩), ?_⟩
 have H0 := Fr.ll (Fr.l2 l0 d0) i0
 have W0 := hET.le H0
 refine ann (i := 11) (b := false) rfl rfl (k_cl (f37 i0.ag W0 (by omega) (by omega)) rfl fn_37 (map_cons (eh b0 rfl) map_nil) (fun I1 N1 l1 => ?_))
 obtain ⟨x1, q0, x0, s0, y0, rfl, j0, c1⟩ := l1
 have y1 := j0.size
 have I0 := K0.t0 j0
 refine ⟨(tbF ⟨_, I0⟩), ?_⟩
 have F0 := Fr.ll H0 j0
 have R0 := hES.le F0
 refine ann (i := 17) (b := false) rfl rfl (k_cl (f37 j0.ag R0 (by omega) (by omega)) rfl fn_37 (map_cons (eh b0 rfl) map_nil) (fun F1 J1 i1 => ?_))
 obtain ⟨v1, o0, v0, r0, z0, rfl, e0, d1⟩ := i1
 have z1 := e0.size
 have J0 := I0.t0 e0
 refine ⟨(tbF ⟨_, J0⟩), ?_⟩
 have G0 := Fr.ll F0 e0
 have m1 := hQ.le G0
 have S0 := hEG.le G0
 refine ann (i := 23) (b := false) rfl rfl (k_cl (f36_s1 e0.ag m1 S0 (by omega) (by omega)) rfl fn_36 (map_cons (eh b0 rfl) map_nil) (fun G1 K1 j1 => ?_))
 obtain ⟨p1, p0, w0, L0, N0, M0, O0, rfl, g0, e1, g1⟩ := j1
 have A1 := g0.size
 have B0 := J0.t0 g0
 refine ⟨(tbF ⟨_, B0⟩), ?_⟩
 refine tk2 (i := 24) rfl rfl (fun _ _ => r_build (cs := [.slice none 0 0, .slice q0 nT x0, .slice s0 1 y0, .slice o0 nS v0, .slice r0 1 z0, .slice p0 1 w0]) (pm_cons (eh b0 rfl) (pm_cons (eh b0 rfl) (pm_cons (eh b0 rfl) (pm_cons (eh b0 rfl) pm_nil)))) (by kernel_rfl)) ⟨_, B0⟩ ?_
 have q1 : Fr (on u0) _ _ _ _ := B0.wk (fun x hx _ => hx.elim)
 have P0 := (((d0.t0 i0).t0 j0).t0 e0).t0 g0
 have b1 := (D0.f0 P0)
 refine an00 (i := 25) (b := true) rfl rfl (kt (L' := [.slice none 0 0, .slice q0 nT x0, .slice s0 1 y0, .slice o0 nS v0, .slice r0 1 z0, .slice p0 1 w0]) g0.ag (eh b0 rfl) (eh b0 rfl) b1 sz_43 (fun L1 h1 h0 => ?_))
 have B1 := h0.size
 have r1 := q1.tr h0 (fun x hx => .inr (by cases hx; exact rfl))
 refine ⟨(tbT ⟨_, r1⟩), ?_⟩
 refine anyT_done (by kernel_rfl) ?_ _
 refine Y0 <| wp_ret <| ret_of (res1c (b := u0) (n := 6) (cs := [.slice none 0 0, .slice q0 nT x0, .slice s0 1 y0, .slice o0 nS v0, .slice r0 1 z0, .slice p0 1 w0]) rfl _ _ (gh b0 rfl) h1.bk (by kernel_rfl) (by kernel_rfl) qr_43 sz_43) ((ov_defers _ _).trans Q0) ?_
 have o1 := Fr.ll (Fr.l2 e0 g0) h0
 have T0 := c1.le o1
 have U0 := ((d1.up g0).up h0)
 have V0 := (g1.up h0)
 have n1 := (e1.up h0)
 exact ⟨p1, q0, x0, s0, y0, o0, v0, r0, z0, L0, N0, M0, O0, p0, w0, rfl, (((((((cu0.t0 l0).t0 d0).t0 i0).t0 j0).t0 e0).t0 g0).tn h0 (by omega)), T0, U0, V0, n1⟩

theorem f12_ks {m : Ctx} {w : World} (ag : Ag m w) {rb : Nat} {s : Bytes} {led f0 f1 f2 f3 f4 f5 f6 f7 f8 f9 f10 f11 f12 f13 f14 f15 f16 f17 f18 f19 f20 f21 f22 f23 f24 : Value} {g gc k : Nat} {RL X : List Value} {s0 : Bytes} {b : Nat → Bytes} {AT DT : Option Addr} {nT cT dT uT : Nat} {pT sT : Bytes} {AS DS : Option Addr} {nS cS dS uS : Nat} {pS sS : Bytes} {AG DG : Option Addr} {nG cG dG uG : Nat} {pG sG : Bytes} {Q : Option Addr} {qc : Nat} (hmR : Mu m w rb 76 (hc s ++ ([f0, f1, f2, f3, f4, f5, f6, f7, f8, f9, f10, f11, f12, f13, f14, f15, f16, f17, f18, f19, f20, f21, f22, f23, f24, .slice (some ⟨g, 0, none⟩) k gc, .slice AT nT cT, .slice DT 1 dT, .slice AS nS cS, .slice DS 1 dS, .slice Q 1 qc, led]))) (hmG : Mu m w g 41 (vs RL ++ X)) (hRt : Rts m s0 b k RL) (hk : k < 8) (hET : Env m AT nT cT DT dT pT sT uT) (h0T : 0 < nT) (hnT : nT < 1048576) (hES : Env m AS nS cS DS dS pS sS uS) (h0S : 0 < nS) (hnS : nS < 1048576) (hEG : Env m AG nG cG DG dG pG sG uG) (h0G : 0 < nG) (hnG : nG < 1048576) (hQ : Sl m Q 1 qc 2 ([.slice AG nG cG, .slice DG 1 dG])) : Calls Tryz.prog 12 #[.pointer (some ⟨rb, 0, none⟩)] w (Ret fun y w' => ∃ m' AT' cT' DT' dT' AS' cS' DS' dS' AG' cG' DG' dG' R' rc' RL' Q' qc', y = .agg ([.slice R' k rc', .slice AT' nT cT', .slice DT' 1 dT', .slice AS' nS cS', .slice DS' 1 dS', .slice Q' 1 qc']).toArray ∧ Fr no m w m' w' ∧ Env m' AT' nT cT' DT' dT' pT sT uT ∧ Env m' AS' nS cS' DS' dS' pS sS uS ∧ Env m' AG' nG cG' DG' dG' pG sG uG ∧ Sl m' R' k rc' 2 (vs RL') ∧ Rts m' s0 b k RL' ∧ Sl m' Q' 1 qc' 2 ([.slice AG' nG cG', .slice DG' 1 dG'])) := by
 refine enter Tryz.func12 rfl (fun F0 hT X0 => ?_)
 have b0 : F0.tmps.size = 31 := by rw [hT]; kernel_rfl
 have m0 : F0.tmps.getD 0 undef = .pointer (some ⟨rb, 0, none⟩) := by rw [hT]; kernel_rfl
 clear hT
 have cu0 : Fr (no) m w m w := Fr.refl ag
 have lt_rb := hmR.lt
 have lt_g := hmG.lt
 refine sk fun _ h1 => rn <| gk (k_alloc ag qz_43 (fun n0 w0 G0 k0 G1 => ?_))
 have Q1 := k0.size
 have H1 := G0.lt
 refine nl <| h1 <| sk fun _ j1 => sk fun _ k1 => rn <| mw b0 m0 <| gv (r_eqlNil (eh b0 rfl) rfl qu_47) <| nl <| k1 <| cf (eh b0 rfl) <| ws <| j1 <| sk fun _ i1 => ?_
 have d0 : Fr no m n0 m { n0 with drawn := n0.drawn + 1 } := Fr.drw k0.ag
 obtain ⟨l0, H0⟩ : ∃ w_, w_ = ({ n0 with drawn := n0.drawn + 1 } : World) := ⟨_, rfl⟩
 rw [← H0] at d0
 have R1 := d0.size
 refine wp_region_T mixed (fun wz => ∃ mz, Fr (no) m l0 mz wz) (fun wz => ∃ mz, Fr (on w0) m l0 mz wz) 25 ?_
 rw [← H0]
 show wpAnyT _ _ _ _ _ 26 _ _ _
 have c0 : Fr (no) m l0 m l0 := Fr.refl d0.ag
 have F1 : ∀ wz, (∃ mz, Fr (no) m l0 mz wz) → ∃ mz, Fr (on w0) m l0 mz wz := fun wz ⟨mz, hz⟩ => ⟨mz, hz.wk (fun x hx _ => hx.elim)⟩
 refine tk2 (i := 0) rfl rfl (fun _ _ => r_move (em b0 rfl rfl m0)) ⟨_, c0⟩ <| tk2 (i := 1) rfl rfl (fun _ _ => r_nilCheck (eh b0 rfl)) ⟨_, c0⟩ <| tk2 (i := 2) rfl rfl (fun _ _ => r_field (o' := 57) (eh b0 rfl) fo_76_7 (by rfl)) ⟨_, c0⟩ <| tk2 (i := 3) rfl rfl (fun _ _ => r_field (o' := 57) (eh b0 rfl) fo_43_0 (by rfl)) ⟨_, c0⟩ ?_
 have D0 := ((hmR.f0 k0).f0 d0)
 refine tk2 (i := 4) rfl rfl (fun wz ⟨mz, hz⟩ => la (v := .slice (some ⟨g, 0, none⟩) k gc) (eh b0 rfl) (hz.ex D0.bk (fun h => h)) qr_37) ⟨_, c0⟩ <| tk2 (i := 6) rfl rfl (fun _ _ => r_move (em b0 rfl rfl m0)) ⟨_, c0⟩ <| tk2 (i := 7) rfl rfl (fun _ _ => r_nilCheck (eh b0 rfl)) ⟨_, c0⟩ <| tk2 (i := 8) rfl rfl (fun _ _ => r_field (o' := 57) (eh b0 rfl) fo_76_7 (by rfl)) ⟨_, c0⟩ <| tk2 (i := 9) rfl rfl (fun _ _ => r_field (o' := 58) (eh b0 rfl) fo_43_1 (by rfl)) ⟨_, c0⟩ <| tk2 (i := 10) rfl rfl (fun wz ⟨mz, hz⟩ => lb (cs := [.slice AT nT cT, .slice DT 1 dT]) (eh b0 rfl) (hz.ex D0.bk (fun h => h)) qr_41 sz_41) ⟨_, c0⟩ <| tk2 (i := 12) rfl rfl (fun _ _ => r_move (em b0 rfl rfl m0)) ⟨_, c0⟩ <| tk2 (i := 13) rfl rfl (fun _ _ => r_nilCheck (eh b0 rfl)) ⟨_, c0⟩ <| tk2 (i := 14) rfl rfl (fun _ _ => r_field (o' := 57) (eh b0 rfl) fo_76_7 (by rfl)) ⟨_, c0⟩ <| tk2 (i := 15) rfl rfl (fun _ _ => r_field (o' := 60) (eh b0 rfl) fo_43_2 (by rfl)) ⟨_, c0⟩ <| tk2 (i := 16) rfl rfl (fun wz ⟨mz, hz⟩ => lb (cs := [.slice AS nS cS, .slice DS 1 dS]) (eh b0 rfl) (hz.ex D0.bk (fun h => h)) qr_41 sz_41) ⟨_, c0⟩ <| tk2 (i := 18) rfl rfl (fun _ _ => r_move (em b0 rfl rfl m0)) ⟨_, c0⟩ <| tk2 (i := 19) rfl rfl (fun _ _ => r_nilCheck (eh b0 rfl)) ⟨_, c0⟩ <| tk2 (i := 20) rfl rfl (fun _ _ => r_field (o' := 57) (eh b0 rfl) fo_76_7 (by rfl)) ⟨_, c0⟩ <| tk2 (i := 21) rfl rfl (fun _ _ => r_field (o' := 62) (eh b0 rfl) fo_43_3 (by rfl)) ⟨_, c0⟩ <| tk2 (i := 22) rfl rfl (fun wz ⟨mz, hz⟩ => la (v := .slice Q 1 qc) (eh b0 rfl) (hz.ex D0.bk (fun h => h)) qr_37) ⟨_, c0⟩ ?_
 have W0 := k0.t0 d0
 have m1 := (hmG.f0 W0)
 have M0 := Fr.l2 k0 d0
 have g1 := Rts.le hRt M0
 refine ann (i := 5) (b := false) rfl rfl (k_cl (f36_o d0.ag m1 g1 (by omega)) rfl fn_36 (map_cons (eh b0 rfl) map_nil) (fun V1 a2 x1 => ?_))
 obtain ⟨K1, o0, x0, S0, rfl, j0, n1, o1⟩ := x1
 have L1 := j0.size
 have N0 := c0.t0 j0
 refine ⟨(tbF ⟨_, N0⟩), ?_⟩
 have I0 := Fr.ll M0 j0
 have Y0 := hET.le I0
 refine ann (i := 11) (b := false) rfl rfl (k_cl (f37 j0.ag Y0 (by omega) (by omega)) rfl fn_37 (map_cons (eh b0 rfl) map_nil) (fun S1 W1 u1 => ?_))
 obtain ⟨I1, p0, y0, u0, B0, rfl, i0, p1⟩ := u1
 have M1 := i0.size
 have O0 := N0.t0 i0
 refine ⟨(tbF ⟨_, O0⟩), ?_⟩
 have J0 := Fr.ll I0 i0
 have Z0 := hES.le J0
 refine ann (i := 17) (b := false) rfl rfl (k_cl (f37 i0.ag Z0 (by omega) (by omega)) rfl fn_37 (map_cons (eh b0 rfl) map_nil) (fun T1 X1 v1 => ?_))
 obtain ⟨J1, q0, z0, v0, C0, rfl, e0, q1⟩ := v1
 have N1 := e0.size
 have P0 := O0.t0 e0
 refine ⟨(tbF ⟨_, P0⟩), ?_⟩
 have K0 := Fr.ll J0 e0
 have y1 := hQ.le K0
 have a1 := hEG.le K0
 refine ann (i := 23) (b := false) rfl rfl (k_cl (f36_s1 e0.ag y1 a1 (by omega) (by omega)) rfl fn_36 (map_cons (eh b0 rfl) map_nil) (fun U1 Y1 w1 => ?_))
 obtain ⟨C1, r0, A0, Q0, T0, R0, U0, rfl, g0, r1, s1⟩ := w1
 have O1 := g0.size
 have E0 := P0.t0 g0
 refine ⟨(tbF ⟨_, E0⟩), ?_⟩
 refine tk2 (i := 24) rfl rfl (fun _ _ => r_build (cs := [.slice o0 k x0, .slice p0 nT y0, .slice u0 1 B0, .slice q0 nS z0, .slice v0 1 C0, .slice r0 1 A0]) (pm_cons (eh b0 rfl) (pm_cons (eh b0 rfl) (pm_cons (eh b0 rfl) (pm_cons (eh b0 rfl) pm_nil)))) (by kernel_rfl)) ⟨_, E0⟩ ?_
 have D1 : Fr (on w0) _ _ _ _ := E0.wk (fun x hx _ => hx.elim)
 have V0 := (((d0.t0 j0).t0 i0).t0 e0).t0 g0
 have l1 := (G0.f0 V0)
 refine an00 (i := 25) (b := true) rfl rfl (kt (L' := [.slice o0 k x0, .slice p0 nT y0, .slice u0 1 B0, .slice q0 nS z0, .slice v0 1 C0, .slice r0 1 A0]) g0.ag (eh b0 rfl) (eh b0 rfl) l1 sz_43 (fun Z1 t1 h0 => ?_))
 have P1 := h0.size
 have E1 := D1.tr h0 (fun x hx => .inr (by cases hx; exact rfl))
 refine ⟨(tbT ⟨_, E1⟩), ?_⟩
 refine anyT_done (by kernel_rfl) ?_ _
 refine i1 <| wp_ret <| ret_of (res1c (b := w0) (n := 6) (cs := [.slice o0 k x0, .slice p0 nT y0, .slice u0 1 B0, .slice q0 nS z0, .slice v0 1 C0, .slice r0 1 A0]) rfl _ _ (gh b0 rfl) t1.bk (by kernel_rfl) (by kernel_rfl) qr_43 sz_43) ((ov_defers _ _).trans X0) ?_
 have B1 := Fr.ll (Fr.l2 e0 g0) h0
 have b1 := p1.le B1
 have c1 := ((q1.up g0).up h0)
 have d1 := (s1.up h0)
 have L0 := Fr.ll (Fr.ll (Fr.l2 i0 e0) g0) h0
 have z1 := n1.le L0
 have e1 := Rts.le o1 L0
 have A1 := (r1.up h0)
 exact ⟨C1, p0, y0, u0, B0, q0, z0, v0, C0, Q0, T0, R0, U0, o0, x0, S0, r0, A0, rfl, (((((((cu0.t0 k0).t0 d0).t0 j0).t0 i0).t0 e0).t0 g0).tn h0 (by omega)), b1, c1, d1, z1, e1, A1⟩

end Go.Proofs.YtiggfalelcepbaaGreatDoor

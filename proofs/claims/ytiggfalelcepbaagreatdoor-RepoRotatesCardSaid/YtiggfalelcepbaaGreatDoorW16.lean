/- The walks of chapter 16: copies of envelopes. -/
import Derived.Test.YtiggfalelcepbaaGreatDoorK7
import Derived.Test.YtiggfalelcepbaaGreatDoorSX
import Derived.Test.YtiggfalelcepbaaGreatDoorW15
import Derived.Test.YtiggfalelcepbaaGreatDoorTX
namespace Go.Proofs.YtiggfalelcepbaaGreatDoor
open Go
set_option maxRecDepth 100000
set_option maxHeartbeats 4000000
theorem f70 {m : Ctx} {w : World} (ag : Ag m w) {A : Option Addr} {n c : Nat} {l : List Bytes} (hA : Sl m A n c 32 (hcs l)) (hl : l.length = n) (h0 : 0 < n) (hn : n < 64) : Calls Tryz.prog 70 #[.slice A n c] w (Ret fun v w' => ∃ m' A' c', v = .slice A' n c' ∧ Fr no m w m' w' ∧ Sl m' A' n c' 32 (hcs l)) := by
 refine enter Tryz.func70 rfl (fun g0 hT p0 => ?_)
 have b0 : g0.tmps.size = 8 := by rw [hT]; kernel_rfl
 have l0 : g0.tmps.getD 0 undef = .slice A n c := by rw [hT]; kernel_rfl
 clear hT
 have cu0 : Fr (no) m w m w := Fr.refl ag
 refine sk fun _ q0 => rn <| gv (r_assign (v := .slice none 0 0) rfl) <| nl <| q0 <| sk fun _ r0 => sk fun _ s0 => rn <| mw b0 l0 <| gv (r_eqlSNil (eh b0 rfl) rfl qu_27) <| nl <| s0 ?_
 have v0 : ((A).isNone) = false := (Sl.isN hA (by omega))
 refine cf (eb b0 rfl v0) <| ws <| r0 <| sk fun _ u0 => rn <| gk (k_lit (e := 23) (L := []) ag pm_nil (by kernel_rfl) (fun G0 y0 j0 c0 z0 => ?_))
 have C0 := c0.size
 have A0 := j0.lt
 refine mw b0 l0 ?_
 have k0 := (hA.up c0)
 refine gk (k_append0 (base := w.heap.size) (N := hcs l) c0.ag (eh b0 rfl) (eh b0 rfl) qs_27 qz_23 (Own.of_mu j0 (by omega) (by kernel_rfl) (by decide)) (k0.src c0.ag) (k0.nilc) (by rw [hcs_length, hl]) (one_hcs _) (by omega) (by decide) (by rw [maxLen_eq]; omega) (by omega) (fun m0 n0 F0 e0 d0 => ?_))
 have D0 := d0.size
 have B0 := e0.nilc
 refine ms b0 rfl <| nl <| u0 <| wp_ret <| ret_of (res1 rfl _ _ (gh b0 rfl)) ((ov_defers _ _).trans p0) ?_
 obtain ⟨x0, o0, w0⟩ := e0.fz d0.ag
 have i0 : Fr (ge w.heap.size) _ _ _ _ := o0.wk (fun x hx _ => e0.at x hx)
 have E0 := i0.size
 exact ⟨x0, m0, n0, rfl, (((cu0.t0 c0).tg d0 (by omega)).tg i0 (by omega)), w0⟩

theorem f83_n {m : Ctx} {w : World} (ag : Ag m w) : Calls Tryz.prog 83 #[.slice none 0 0] w (Ret fun v w' => ∃ m', v = .slice none 0 0 ∧ Fr no m w m' w') := by
 refine enter Tryz.func83 rfl (fun c0 hT d0 => ?_)
 have b0 : c0.tmps.size = 8 := by rw [hT]; kernel_rfl
 have i0 : c0.tmps.getD 0 undef = .slice none 0 0 := by rw [hT]; kernel_rfl
 clear hT
 have cu0 : Fr (no) m w m w := Fr.refl ag
 refine sk fun _ e0 => rn <| gv (r_assign (v := .slice none 0 0) rfl) <| nl <| e0 <| sk fun _ j0 => sk fun _ g0 => rn <| mw b0 i0 <| gv (r_eqlSNil (eh b0 rfl) rfl qu_38) <| nl <| g0 <| ct (eh b0 rfl) <| sk fun _ h0 => rn <| gv (r_assign (v := .slice none 0 0) rfl) <| nl <| h0 <| wp_ret <| ret_of (res1 rfl _ _ (gh b0 rfl)) ((ov_defers _ _).trans d0) ?_
 exact ⟨m, rfl, cu0⟩

theorem f84_n {m : Ctx} {w : World} (ag : Ag m w) : Calls Tryz.prog 84 #[.slice none 0 0] w (Ret fun v w' => ∃ m', v = .slice none 0 0 ∧ Fr no m w m' w') := by
 refine enter Tryz.func84 rfl (fun c0 hT d0 => ?_)
 have b0 : c0.tmps.size = 8 := by rw [hT]; kernel_rfl
 have i0 : c0.tmps.getD 0 undef = .slice none 0 0 := by rw [hT]; kernel_rfl
 clear hT
 have cu0 : Fr (no) m w m w := Fr.refl ag
 refine sk fun _ e0 => rn <| gv (r_assign (v := .slice none 0 0) rfl) <| nl <| e0 <| sk fun _ j0 => sk fun _ g0 => rn <| mw b0 i0 <| gv (r_eqlSNil (eh b0 rfl) rfl qu_39) <| nl <| g0 <| ct (eh b0 rfl) <| sk fun _ h0 => rn <| gv (r_assign (v := .slice none 0 0) rfl) <| nl <| h0 <| wp_ret <| ret_of (res1 rfl _ _ (gh b0 rfl)) ((ov_defers _ _).trans d0) ?_
 exact ⟨m, rfl, cu0⟩

theorem f84 {m : Ctx} {w : World} (ag : Ag m w) {D A1 B1 : Option Addr} {d c1 d1 u : Nat} {q : Bytes} (hD : Sl m D 1 d 35 (hc q ++ ([nn u, .slice A1 36 c1, .slice B1 4 d1]))) : Calls Tryz.prog 84 #[.slice D 1 d] w (Ret fun v w' => ∃ m' g c X, v = .slice (some ⟨g, 0, none⟩) 1 c ∧ Fr no m w m' w' ∧ Mu m' w' g 114 (hc q ++ ([nn u, .slice A1 36 c1, .slice B1 4 d1] ++ X)) ∧ w.heap.size ≤ g ∧ 1 ≤ c ∧ c ≤ maxLen) := by
 refine enter Tryz.func84 rfl (fun e0 hT l0 => ?_)
 have b0 : e0.tmps.size = 8 := by rw [hT]; kernel_rfl
 have j0 : e0.tmps.getD 0 undef = .slice D 1 d := by rw [hT]; kernel_rfl
 clear hT
 have cu0 : Fr (no) m w m w := Fr.refl ag
 refine sk fun _ m0 => rn <| gv (r_assign (v := .slice none 0 0) rfl) <| nl <| m0 <| sk fun _ n0 => sk fun _ o0 => rn <| mw b0 j0 <| gv (r_eqlSNil (eh b0 rfl) rfl qu_39) <| nl <| o0 ?_
 have q0 : ((D).isNone) = false := (Sl.isN hD (by omega))
 refine cf (eb b0 rfl q0) <| ws <| n0 <| sk fun _ p0 => rn <| gk (k_lit (e := 114) (L := []) ag pm_nil (by kernel_rfl) (fun A0 s0 h0 c0 u0 => ?_))
 have x0 := c0.size
 have v0 := h0.lt
 refine mw b0 j0 ?_
 have i0 := (hD.up c0)
 refine gk (k_append0 (base := w.heap.size) (N := hc q ++ ([nn u, .slice A1 36 c1, .slice B1 4 d1])) c0.ag (eh b0 rfl) (eh b0 rfl) qs_39 qz_114 (Own.of_mu h0 (by omega) (by kernel_rfl) (by decide)) (i0.src c0.ag) (i0.nilc) (by kernel_rfl) (by kernel_rfl) (by omega) (by decide) (by rw [maxLen_eq]; omega) (by omega) (fun r0 k0 z0 d0 g0 => ?_))
 have y0 := g0.size
 have w0 := d0.nilc
 refine ms b0 rfl <| nl <| p0 <| wp_ret ?_
 obtain ⟨g_, X_, rfl, hmG_⟩ := Own.opn d0 (by omega)
 refine ret_of (res1 rfl _ _ (gh b0 rfl)) ((ov_defers _ _).trans l0) ?_
 exact ⟨m, g_, k0, X_, rfl, ((cu0.t0 c0).tg g0 (by omega)), hmG_, (by have h_ := Own.at d0 g_ ⟨_, rfl, rfl⟩; omega), (Own.c2 d0).1, (Own.c2 d0).2⟩

theorem f37 {m : Ctx} {w : World} (ag : Ag m w) {A D : Option Addr} {n c d u : Nat} {p s : Bytes} (hE : Env m A n c D d p s u) (h0 : 0 < n) (hn : n < 1048576) : Calls Tryz.prog 37 #[.agg ([.slice A n c, .slice D 1 d]).toArray] w (Ret fun v w' => ∃ m' A' c' D' d', v = .agg ([.slice A' n c', .slice D' 1 d']).toArray ∧ Fr no m w m' w' ∧ Env m' A' n c' D' d' p s u) := by
 refine enter Tryz.func37 rfl (fun P0 hT m1 => ?_)
 have b0 : P0.tmps.size = 43 := by rw [hT]; kernel_rfl
 have k2 : P0.tmps.getD 0 undef = .agg ([.slice A n c, .slice D 1 d]).toArray := by rw [hT]; kernel_rfl
 clear hT
 have cu0 : Fr (no) m w m w := Fr.refl ag
 refine sk fun _ n1 => rn <| gk (k_box (L := [.slice A n c, .slice D 1 d]) ag (em b0 rfl rfl k2) (by kernel_rfl) (fun X2 i1 Y0 D0 p2 => ?_))
 have K2 := D0.size
 have r2 := Y0.lt
 refine gk (k_alloc D0.ag qz_41 (fun d3 k1 W0 w0 o2 => ?_))
 have z2 := w0.size
 have u2 := W0.lt
 refine nl <| n1 <| sk fun _ o1 => rn <| gv (r_field (o' := 0) (eh b0 rfl) fo_41_0 (by rfl)) ?_
 have S0 := (Y0.f0 w0)
 refine gv (la (v := .slice A n c) (eh b0 rfl) S0.bk qr_38) ?_
 obtain ⟨U0, L0, M0, I0, K0, E1, F1, G1⟩ := hE
 have a2 := ((U0.up D0).up w0)
 refine gk (k_cl (f83 w0.ag a2 (Sl.blen U0) (by omega) (by omega)) rfl fn_83 (map_cons (eh b0 rfl) map_nil) (fun P2 W2 S1 => ?_))
 obtain ⟨x2, u0, v0, rfl, y0, J1⟩ := S1
 have G2 := y0.size
 refine gv (r_field (o' := 0) (eh b0 rfl) fo_41_0 (by rfl)) ?_
 have C1 := (S0.f0 y0)
 refine gz (kt (L' := [.slice u0 n v0, .slice D 1 d]) y0.ag (eh b0 rfl) (eh b0 rfl) C1 sz_38 (fun Y2 X0 z0 => ?_))
 have H2 := z0.size
 refine nl <| o1 <| sk fun _ r1 => rn <| gv (r_field (o' := 1) (eh b0 rfl) fo_41_1 (by rfl)) <| gv (la (v := .slice D 1 d) (eh b0 rfl) X0.bk qr_39) ?_
 have e1 := Fr.ll (Fr.ll (Fr.l2 D0 w0) y0) z0
 have b2 := E1.le e1
 refine gk (k_cl (f84 z0.ag b2) rfl fn_84 (map_cons (eh b0 rfl) map_nil) (fun Q2 Z2 T1 => ?_))
 obtain ⟨p0, c0, i0, O0, rfl, r0, V0, n2, K1, L1⟩ := T1
 have I2 := r0.size
 have s2 := V0.lt
 refine gv (r_field (o' := 1) (eh b0 rfl) fo_41_1 (by rfl)) ?_
 have D1 := (X0.f0 r0)
 refine gz (kt (L' := [.slice u0 n v0, .slice (some ⟨c0, 0, none⟩) 1 i0]) r0.ag (eh b0 rfl) (eh b0 rfl) D1 sz_39 (fun a3 Z0 s0 => ?_))
 have J2 := s0.size
 refine nl <| r1 <| sk fun _ s1 => sk fun _ t1 => rn <| gv (r_field (o' := 1) (eh b0 rfl) fo_41_1 (by rfl)) <| gv (la (v := .slice (some ⟨c0, 0, none⟩) 1 i0) (eh b0 rfl) Z0.bk qr_39) <| gv (r_lenS (eh b0 rfl) rfl qu_39) <| gv (r_move (v := nn 0) rfl) <| nl <| t1 <| bl <| wp_unroll (n := 2) <| un_step (n := 1) <| sk fun _ u1 => rn <| gv (r_lss (eh b0 rfl) (eh b0 rfl)) <| nl <| u1 <| sk fun _ v1 => cd b0 rfl <| ws <| v1 <| sk fun _ w1 => bl <| sk fun _ x1 => rn <| mv b0 rfl <| gv (r_idxS (o' := 0) (eh b0 rfl) (eh b0 rfl) qs_39 (by decide) (by rfl)) ?_
 have T0 := (V0.f1 s0 (by omega))
 refine gv (lb (cs := hc (pk s) ++ ([nn u, .slice L0 36 M0, .slice I0 4 K0])) (eh b0 rfl) T0.bk qr_114 sz_114) <| gk (k_alloc s0.ag qz_114 (fun c3 j1 a1 n0 q2 => ?_))
 have L2 := n0.size
 have t2 := a1.lt
 refine ms b0 rfl <| gz (kt (L' := hc (pk s) ++ ([nn u, .slice L0 36 M0, .slice I0 4 K0])) n0.ag (eh b0 rfl) (eh b0 rfl) a1 sz_114 (fun G0 P1 o0 => ?_))
 have M2 := o0.size
 refine nl <| x1 ?_
 have g0 : Fr no p0 G0 p0 { G0 with drawn := G0.drawn + 1 } := Fr.drw o0.ag
 obtain ⟨A0, c1⟩ : ∃ w_, w_ = ({ G0 with drawn := G0.drawn + 1 } : World) := ⟨_, rfl⟩
 rw [← c1] at g0
 have y2 := g0.size
 refine wp_region_T mixed (fun wz => ∃ mz, Fr (no) p0 A0 mz wz) (fun wz => ∃ mz, Fr (on c0) p0 A0 mz wz) 17 ?_
 rw [← c1]
 show wpAnyT _ _ _ _ _ 22 _ _ _
 have d0 : Fr (no) p0 A0 p0 A0 := Fr.refl g0.ag
 have e0 : ∀ wz, (∃ mz, Fr (no) p0 A0 mz wz) → ∃ mz, Fr (on c0) p0 A0 mz wz := fun wz ⟨mz, hz⟩ => ⟨mz, hz.wk (fun x hx _ => hx.elim)⟩
 refine tk2 (i := 0) rfl rfl (fun _ _ => r_field (o' := 1) (eh b0 rfl) fo_41_1 (by rfl)) ⟨_, d0⟩ ?_
 have N0 := (((Z0.f0 n0).f1 o0 (by omega)).f0 g0)
 refine tk2 (i := 1) rfl rfl (fun wz ⟨mz, hz⟩ => la (v := .slice (some ⟨c0, 0, none⟩) 1 i0) (eh b0 rfl) (hz.ex N0.bk (fun h => h)) qr_39) ⟨_, d0⟩ <| tk2 (i := 2) rfl rfl (fun _ _ => r_move (eh b0 rfl)) ⟨_, d0⟩ <| tk1 (i := 3) (b := false) rfl rfl e0 (fun _ _ => r_field (o' := 1) (eh b0 rfl) fo_41_1 (by rfl)) (tbF ⟨_, d0⟩) <| tk1 (i := 4) (b := false) rfl rfl e0 (fun wz ⟨mz, hz⟩ => la (v := .slice (some ⟨c0, 0, none⟩) 1 i0) (eh b0 rfl) (hz.ex N0.bk (show i1 ≠ c0 from by omega)) qr_39) (tbF ⟨_, d0⟩) <| tk1 (i := 5) (b := false) rfl rfl e0 (fun _ _ => r_move (eh b0 rfl)) (tbF ⟨_, d0⟩) <| tk2 (i := 6) rfl rfl (fun _ _ => r_field (o' := 32) (eh b0 rfl) fo_114_1 (by rfl)) ⟨_, d0⟩ <| tk2 (i := 7) rfl rfl (fun _ _ => r_field (o' := 33) (eh b0 rfl) fo_110_1 (by rfl)) ⟨_, d0⟩ ?_
 have R0 := (P1.f0 g0)
 refine tk2 (i := 8) rfl rfl (fun wz ⟨mz, hz⟩ => la (v := .slice L0 36 M0) (eh b0 rfl) (hz.ex R0.bk (fun h => h)) qr_27) ⟨_, d0⟩ <| tk1 (i := 10) (b := false) rfl rfl e0 (fun _ _ => r_field (o' := 32) (eh b0 rfl) fo_114_1 (by rfl)) (tbF ⟨_, d0⟩) <| tk1 (i := 11) (b := false) rfl rfl e0 (fun _ _ => r_field (o' := 34) (eh b0 rfl) fo_110_2 (by rfl)) (tbF ⟨_, d0⟩) <| tk1 (i := 12) (b := false) rfl rfl e0 (fun wz ⟨mz, hz⟩ => la (v := .slice I0 4 K0) (eh b0 rfl) (hz.ex R0.bk (show j1 ≠ c0 from by omega)) qr_27) (tbF ⟨_, d0⟩) ?_
 have d1 := Fr.ll (Fr.ll (Fr.ll (Fr.ll (Fr.ll e1 r0) s0) n0) o0) g0
 have U1 := F1.le d1
 refine ann (i := 9) (b := false) rfl rfl (k_cl (f70 g0.ag (l := chL (sgf s u (p)) 36) U1 (chL_len _ _) (by decide) (by decide)) rfl fn_70 (map_cons (eh b0 rfl) map_nil) (fun N2 R2 Q1 => ?_))
 obtain ⟨v2, B0, C0, rfl, l0, H1⟩ := Q1
 have A2 := l0.size
 have h1 := d0.t0 l0
 refine ⟨(tbF ⟨_, h1⟩), ?_⟩
 have c2 := Fr.ll d1 l0
 have V1 := G1.le c2
 refine ann (i := 13) (b := false) rfl rfl (k_cl (f70 l0.ag (l := mp 4 (lv s) u) V1 (mp_len _ _ _) (by decide) (by decide)) rfl fn_70 (map_cons (eh b0 rfl) map_nil) (fun O2 S2 R1 => ?_))
 obtain ⟨h2, H0, J0, rfl, m0, I1⟩ := R1
 have B2 := m0.size
 have E0 := h1.t0 m0
 refine ⟨(tbF ⟨_, E0⟩), ?_⟩
 refine tk1 (i := 14) (b := false) rfl rfl e0 (fun _ _ => r_idxS (o' := 0) (eh b0 rfl) (eh b0 rfl) qs_39 (by decide) (by rfl)) (tbF ⟨_, E0⟩) <| tk1 (i := 15) (b := false) rfl rfl e0 (fun _ _ => r_field (o' := 32) (eh b0 rfl) fo_114_1 (by rfl)) (tbF ⟨_, E0⟩) <| tk2 (i := 16) rfl rfl (fun _ _ => r_field (o' := 33) (eh b0 rfl) fo_110_1 (by rfl)) ⟨_, E0⟩ ?_
 have i2 : Fr (on c0) _ _ _ _ := E0.wk (fun x hx _ => hx.elim)
 have Q0 := (g0.t0 l0).t0 m0
 have y1 := (((T0.f0 n0).f1 o0 (by omega)).f0 Q0)
 refine an00 (i := 17) (b := true) rfl rfl (k_store (L' := hc (pk s) ++ ([nn u, .slice B0 36 C0, .slice I0 4 K0] ++ O0)) (cs := [.slice B0 36 C0]) m0.ag (eh b0 rfl) (eh b0 rfl) y1 (by kernel_rfl) sz_27 (by kernel_rfl) (by simp only [List.length_append, List.length_cons, List.length_nil, hc_length]; omega) (by kernel_rfl) (fun T2 M1 j0 => ?_))
 have C2 := j0.size
 have F0 := i2.tr j0 (fun x hx => .inr (by cases hx; exact rfl))
 refine ⟨(tbT ⟨_, F0⟩), ?_⟩
 refine tk1 (i := 18) (b := true) rfl rfl e0 (fun _ _ => r_idxS (o' := 0) (eh b0 rfl) (eh b0 rfl) qs_39 (by decide) (by rfl)) (tbT ⟨_, F0⟩) <| tk1 (i := 19) (b := true) rfl rfl e0 (fun _ _ => r_field (o' := 32) (eh b0 rfl) fo_114_1 (by rfl)) (tbT ⟨_, F0⟩) <| tk1 (i := 20) (b := true) rfl rfl e0 (fun _ _ => r_field (o' := 34) (eh b0 rfl) fo_110_2 (by rfl)) (tbT ⟨_, F0⟩) <| an00 (i := 21) (b := true) rfl rfl (k_store (L' := hc (pk s) ++ ([nn u, .slice B0 36 C0, .slice H0 4 J0] ++ O0)) (cs := [.slice H0 4 J0]) j0.ag (eh b0 rfl) (eh b0 rfl) M1 (by kernel_rfl) sz_27 (by kernel_rfl) (by simp only [List.length_append, List.length_cons, List.length_nil, hc_length]; omega) (by kernel_rfl) (fun U2 N1 k0 => ?_))
 have D2 := k0.size
 have j2 := F0.tr k0 (fun x hx => .inr (by cases hx; exact rfl))
 refine ⟨(tbT ⟨_, j2⟩), ?_⟩
 refine anyT_done (by kernel_rfl) ?_ _
 refine w1 <| rn <| gv (r_add (j := 1) (eh b0 rfl) rfl (by decide)) <| mv b0 rfl <| nl <| un_next <| un_step (n := 0) <| sk fun _ p1 => rn <| gv (r_lss (eh b0 rfl) (eh b0 rfl)) <| nl <| p1 <| sk fun _ m2 => ce b0 rfl <| we <| s1 <| sk fun _ q1 => rn ?_
 have l1 := l0.t0 m0
 have z1 := (((N0.f0 l1).f1 j0 (by omega)).f1 k0 (by omega))
 refine gv (lb (cs := [.slice u0 n v0, .slice (some ⟨c0, 0, none⟩) 1 i0]) (eh b0 rfl) z1.bk qr_41 sz_41) ?_
 have A1 := (((((((((W0.f0 y0).f1 z0 (by omega)).f0 r0).f1 s0 (by omega)).f0 n0).f1 o0 (by omega)).f0 Q0).f1 j0 (by omega)).f1 k0 (by omega))
 refine gz (kt (L' := [.slice u0 n v0, .slice (some ⟨c0, 0, none⟩) 1 i0]) k0.ag (eh b0 rfl) (eh b0 rfl) A1 sz_41 (fun V2 O1 q0 => ?_))
 have E2 := q0.size
 refine nl <| q1 <| wp_ret <| ret_of (res1c (b := k1) (n := 2) (cs := [.slice u0 n v0, .slice (some ⟨c0, 0, none⟩) 1 i0]) rfl _ _ (gh b0 rfl) O1.bk (by kernel_rfl) (by kernel_rfl) qr_41 sz_41) ((ov_defers _ _).trans m1) ?_
 have B1 := (N1.f1 q0 (by omega))
 obtain ⟨x0, b1⟩ := B1.fz q0.ag
 generalize cput h2 c0 _ = g1 at x0 b1
 have F2 := x0.size
 have W1 : Sl g1 (some ⟨c0, 0, none⟩) 1 i0 35 (hc (pk s) ++ ([nn u, .slice B0 36 C0, .slice H0 4 J0])) := Sl.of (k := 35) b1 (by kernel_rfl) (by kernel_rfl) K1 L1
 have d2 := Fr.ll (Fr.ll (Fr.ll (Fr.ll (Fr.ll (Fr.ll (Fr.ll (Fr.ll (Fr.ll (Fr.ll (Fr.l2 z0 r0) s0) n0) o0) g0) l0) m0) j0) k0) q0) x0
 have X1 := J1.le d2
 have e2 := Fr.ll (Fr.ll (Fr.ll (Fr.l2 m0 j0) k0) q0) x0
 have Y1 := H1.le e2
 have g2 := Fr.ll (Fr.ll (Fr.l2 j0 k0) q0) x0
 have Z1 := I1.le g2
 exact ⟨g1, u0, v0, some ⟨c0, 0, none⟩, i0, rfl, (((((((((((((((cu0.t0 D0).t0 w0).t0 y0).tn z0 (by omega)).t0 r0).tn s0 (by omega)).t0 n0).tn o0 (by omega)).t0 g0).t0 l0).t0 m0).tn j0 (by omega)).tn k0 (by omega)).tn q0 (by omega)).tn x0 (by omega)), ⟨X1, B0, C0, H0, J0, W1, Y1, Z1⟩⟩

theorem f37_n {m : Ctx} {w : World} (ag : Ag m w) : Calls Tryz.prog 37 #[.agg ([.slice none 0 0, .slice none 0 0]).toArray] w (Ret fun v w' => ∃ m', v = .agg ([.slice none 0 0, .slice none 0 0]).toArray ∧ Fr no m w m' w') := by
 refine enter Tryz.func37 rfl (fun j0 hT r0 => ?_)
 have b0 : j0.tmps.size = 43 := by rw [hT]; kernel_rfl
 have H0 : j0.tmps.getD 0 undef = .agg ([.slice none 0 0, .slice none 0 0]).toArray := by rw [hT]; kernel_rfl
 clear hT
 have cu0 : Fr (no) m w m w := Fr.refl ag
 refine sk fun _ s0 => rn <| gk (k_box (L := [.slice none 0 0, .slice none 0 0]) ag (em b0 rfl rfl H0) (by kernel_rfl) (fun Z0 I0 p0 i0 L0 => ?_))
 have V0 := i0.size
 have M0 := p0.lt
 refine gk (k_alloc i0.ag qz_41 (fun e1 q0 m0 e0 K0 => ?_))
 have P0 := e0.size
 have N0 := m0.lt
 refine nl <| s0 <| sk fun _ u0 => rn <| gv (r_field (o' := 0) (eh b0 rfl) fo_41_0 (by rfl)) ?_
 have l0 := (p0.f0 e0)
 refine gv (la (v := .slice none 0 0) (eh b0 rfl) l0.bk qr_38) <| gk (k_cl (f83_n e0.ag) rfl fn_83 (map_cons (eh b0 rfl) map_nil) (fun W0 Y0 E0 => ?_))
 obtain ⟨O0, rfl, c0⟩ := E0
 have Q0 := c0.size
 refine gv (r_field (o' := 0) (eh b0 rfl) fo_41_0 (by rfl)) ?_
 have A0 := (l0.f0 c0)
 refine gz (kt (L' := [.slice none 0 0, .slice none 0 0]) c0.ag (eh b0 rfl) (eh b0 rfl) A0 sz_38 (fun a1 n0 g0 => ?_))
 have R0 := g0.size
 refine nl <| u0 <| sk fun _ v0 => rn <| gv (r_field (o' := 1) (eh b0 rfl) fo_41_1 (by rfl)) <| gv (la (v := .slice none 0 0) (eh b0 rfl) n0.bk qr_39) <| gk (k_cl (f84_n g0.ag) rfl fn_84 (map_cons (eh b0 rfl) map_nil) (fun X0 b1 F0 => ?_))
 obtain ⟨G0, rfl, d0⟩ := F0
 have S0 := d0.size
 refine gv (r_field (o' := 1) (eh b0 rfl) fo_41_1 (by rfl)) ?_
 have B0 := (n0.f0 d0)
 refine gz (kt (L' := [.slice none 0 0, .slice none 0 0]) d0.ag (eh b0 rfl) (eh b0 rfl) B0 sz_39 (fun c1 o0 h0 => ?_))
 have T0 := h0.size
 refine nl <| v0 <| sk fun _ w0 => sk fun _ x0 => rn <| gv (r_field (o' := 1) (eh b0 rfl) fo_41_1 (by rfl)) <| gv (la (v := .slice none 0 0) (eh b0 rfl) o0.bk qr_39) <| gv (r_lenS (eh b0 rfl) rfl qu_39) <| gv (r_move (v := nn 0) rfl) <| nl <| x0 <| bl <| wp_unroll (n := 1) <| un_step (n := 0) <| sk fun _ y0 => rn <| gv (r_lss (eh b0 rfl) (eh b0 rfl)) <| nl <| y0 <| sk fun _ J0 => ce b0 rfl <| we <| w0 <| sk fun _ z0 => rn <| gv (lb (cs := [.slice none 0 0, .slice none 0 0]) (eh b0 rfl) o0.bk qr_41 sz_41) ?_
 have C0 := ((((m0.f0 c0).f1 g0 (by omega)).f0 d0).f1 h0 (by omega))
 refine gz (kt (L' := [.slice none 0 0, .slice none 0 0]) h0.ag (eh b0 rfl) (eh b0 rfl) C0 sz_41 (fun d1 D0 k0 => ?_))
 have U0 := k0.size
 refine nl <| z0 <| wp_ret <| ret_of (res1c (b := q0) (n := 2) (cs := [.slice none 0 0, .slice none 0 0]) rfl _ _ (gh b0 rfl) D0.bk (by kernel_rfl) (by kernel_rfl) qr_41 sz_41) ((ov_defers _ _).trans r0) ?_
 exact ⟨G0, rfl, (((((((cu0.t0 i0).t0 e0).t0 c0).tn g0 (by omega)).t0 d0).tn h0 (by omega)).tn k0 (by omega))⟩

theorem f36_n {m : Ctx} {w : World} (ag : Ag m w) : Calls Tryz.prog 36 #[.slice none 0 0] w (Ret fun v w' => ∃ m', v = .slice none 0 0 ∧ Fr no m w m' w') := by
 refine enter Tryz.func36 rfl (fun c0 hT d0 => ?_)
 have b0 : c0.tmps.size = 19 := by rw [hT]; kernel_rfl
 have l0 : c0.tmps.getD 0 undef = .slice none 0 0 := by rw [hT]; kernel_rfl
 clear hT
 have cu0 : Fr (no) m w m w := Fr.refl ag
 refine sk fun _ e0 => rn <| gv (r_assign (v := .slice none 0 0) rfl) <| nl <| e0 <| sk fun _ g0 => rn <| gv (r_assign (v := .slice none 0 0) rfl) <| nl <| g0 <| sk fun _ h0 => sk fun _ i0 => rn <| mw b0 l0 <| gv (r_lenS (eh b0 rfl) rfl qu_37) <| gv (r_move (v := nn 0) rfl) <| nl <| i0 <| bl <| wp_unroll (n := 1) <| un_step (n := 0) <| sk fun _ j0 => rn <| gv (r_lss (eh b0 rfl) (eh b0 rfl)) <| nl <| j0 <| sk fun _ m0 => ce b0 rfl <| we <| h0 <| sk fun _ k0 => rn <| mv b0 rfl <| ms b0 rfl <| nl <| k0 <| wp_ret <| ret_of (res1 rfl _ _ (gh b0 rfl)) ((ov_defers _ _).trans d0) ?_
 exact ⟨m, rfl, cu0⟩

theorem f36_s1 {m : Ctx} {w : World} (ag : Ag m w) {A1 D1 : Option Addr} {n1 c1 d1 u1 : Nat} {p1 s1 : Bytes} {R : Option Addr} {rc : Nat} (hR : Sl m R 1 rc 2 ([.slice A1 n1 c1, .slice D1 1 d1])) (hE1 : Env m A1 n1 c1 D1 d1 p1 s1 u1) (h01 : 0 < n1) (hn1 : n1 < 1048576) : Calls Tryz.prog 36 #[.slice R 1 rc] w (Ret fun v w' => ∃ m' R' rc' A1' c1' D1' d1', v = .slice R' 1 rc' ∧ Fr no m w m' w' ∧ Sl m' R' 1 rc' 2 ([.slice A1' n1 c1', .slice D1' 1 d1']) ∧ Env m' A1' n1 c1' D1' d1' p1 s1 u1) := by
 refine enter Tryz.func36 rfl (fun p0 hT w0 => ?_)
 have b0 : p0.tmps.size = 19 := by rw [hT]; kernel_rfl
 have T0 : p0.tmps.getD 0 undef = .slice R 1 rc := by rw [hT]; kernel_rfl
 clear hT
 have cu0 : Fr (no) m w m w := Fr.refl ag
 refine sk fun _ z0 => rn <| gv (r_assign (v := .slice none 0 0) rfl) <| nl <| z0 <| sk fun _ A0 => rn <| gv (r_assign (v := .slice none 0 0) rfl) <| nl <| A0 <| sk fun _ B0 => sk fun _ C0 => rn <| mw b0 T0 <| gv (r_lenS (eh b0 rfl) rfl qu_37) <| gv (r_move (v := nn 0) rfl) <| nl <| C0 <| bl <| wp_unroll (n := 2) <| un_step (n := 1) <| sk fun _ E0 => rn <| gv (r_lss (eh b0 rfl) (eh b0 rfl)) <| nl <| E0 <| sk fun _ G0 => cd b0 rfl <| ws <| G0 <| sk fun _ H0 => bl <| sk fun _ I0 => rn ?_
 obtain ⟨X0, S0, U0, rfl, L0, N0⟩ := hR.elem (by omega)
 refine gv (r_idxS (o' := S0 + 0) (eh b0 rfl) (eh b0 rfl) qs_37 (by decide) (by omega)) <| gv (r_loadN (cs := [.slice A1 n1 c1, .slice D1 1 d1]) (eh b0 rfl) (ag _ _ L0) (Eq.trans (rd_sub N0 (by omega)) (by kernel_rfl)) (by kernel_rfl) qr_41 sz_41) <| gk (k_alloc ag qz_41 (fun q1 V0 q0 h0 Z0 => ?_))
 have h1 := h0.size
 have b1 := q0.lt
 refine gz (kt (L' := [.slice A1 n1 c1, .slice D1 1 d1]) h0.ag (eh b0 rfl) (eh b0 rfl) q0 sz_41 (fun r1 K0 i0 => ?_))
 have i1 := i0.size
 refine nl <| I0 <| rn <| mv b0 rfl <| gv (lb (cs := [.slice A1 n1 c1, .slice D1 1 d1]) (eh b0 rfl) K0.bk qr_41 sz_41) ?_
 have x0 := ((hE1.up h0).up i0)
 refine gk (k_cl (f37 i0.ag x0 (by omega) (by omega)) rfl fn_37 (map_cons (eh b0 rfl) map_nil) (fun o1 t1 M0 => ?_))
 obtain ⟨Q0, c0, e0, d0, g0, rfl, m0, J0⟩ := M0
 have j1 := m0.size
 refine gk (k_lit (e := 41) (L := [.slice c0 n1 e0, .slice d0 1 g0]) m0.ag (pm_cons (eh b0 rfl) pm_nil) (by kernel_rfl) (fun l0 W0 r0 j0 a1 => ?_))
 have k1 := j0.size
 have e1 := r0.lt
 refine gk (k_append0 (base := l0.heap.size) (N := [.slice c0 n1 e0, .slice d0 1 g0]) j0.ag (eh b0 rfl) (eh b0 rfl) qs_37 qz_41 (Own.nil Q0 l0 (l0.heap.size) 41 2) (r0.bk.src (L := [.slice c0 n1 e0, .slice d0 1 g0]) (n := 1) (o := 0) (k := 2) (by kernel_rfl)) (fun h => by cases h) (by kernel_rfl) (by kernel_rfl) (by omega) (by decide) (by rw [maxLen_eq]; omega) (by omega) (fun s0 u0 v1 o0 k0 => ?_))
 have l1 := k0.size
 have g1 := o0.nilc
 refine ms b0 rfl <| nl <| H0 <| rn <| gv (r_add (j := 1) (eh b0 rfl) rfl (by decide)) <| mv b0 rfl <| nl <| un_next <| un_step (n := 0) <| sk fun _ D0 => rn <| gv (r_lss (eh b0 rfl) (eh b0 rfl)) <| nl <| D0 <| sk fun _ Y0 => ce b0 rfl <| we <| B0 <| sk fun _ F0 => rn <| mv b0 rfl <| ms b0 rfl <| nl <| F0 <| wp_ret <| ret_of (res1 rfl _ _ (gh b0 rfl)) ((ov_defers _ _).trans w0) ?_
 obtain ⟨R0, v0, O0⟩ := o0.fz k0.ag
 have n0 : Fr (ge l0.heap.size) _ _ _ _ := v0.wk (fun x hx _ => o0.at x hx)
 have m1 := n0.size
 have P0 := Fr.ll (Fr.l2 j0 k0) n0
 have y0 := J0.le P0
 exact ⟨R0, s0, u0, c0, e0, d0, g0, rfl, ((((((cu0.t0 h0).tn i0 (by omega)).t0 m0).t0 j0).tg k0 (by omega)).tg n0 (by omega)), O0, y0⟩

theorem f36_o {m : Ctx} {w : World} (ag : Ag m w) {g gc k : Nat} {RL X : List Value} {s : Bytes} {b : Nat → Bytes} (hmG : Mu m w g 41 (vs RL ++ X)) (hRt : Rts m s b k RL) (hk : k < 8) : Calls Tryz.prog 36 #[.slice (some ⟨g, 0, none⟩) k gc] w (Ret fun v w' => ∃ m' R' rc' RL', v = .slice R' k rc' ∧ Fr no m w m' w' ∧ Sl m' R' k rc' 2 (vs RL') ∧ Rts m' s b k RL') := by
 refine enter Tryz.func36 rfl (fun x0 hT J0 => ?_)
 have d0 : x0.tmps.size = 19 := by rw [hT]; kernel_rfl
 have l1 : x0.tmps.getD 0 undef = .slice (some ⟨g, 0, none⟩) k gc := by rw [hT]; kernel_rfl
 clear hT
 have cu0 : Fr (no) m w m w := Fr.refl ag
 have lt_g := hmG.lt
 refine sk fun _ N0 => rn <| gv (r_assign (v := .slice none 0 0) rfl) <| nl <| N0 <| sk fun _ O0 => rn <| gv (r_assign (v := .slice none 0 0) rfl) <| nl <| O0 <| sk fun _ T0 => sk fun _ U0 => rn <| mw d0 l1 <| gv (r_lenS (eh d0 rfl) rfl qu_37) <| gv (r_move (v := nn 0) rfl) <| nl <| U0 <| bl <| wp_loop_s (σ := Nat) (I := fun (i : Nat) (a' : Act) (w' : World) => ∃ (m' : Ctx) (Ar : Option Addr) (cr : Nat) (RLx : List Value), a'.tmps.size = 19 ∧ a'.defers = [] ∧ i ≤ k ∧ a'.tmps.getD 6 undef = .slice (some ⟨g, 0, none⟩) k gc ∧ a'.tmps.getD 7 undef = nn k ∧ a'.tmps.getD 3 undef = .slice Ar i cr ∧ a'.tmps.getD 8 undef = nn i ∧ Fr (no) m w m' w' ∧ Own m' w' (w.heap.size) Ar i cr 41 2 (vs RLx) ∧ Rts m' s b i RLx) (μ := fun i => k - i) (s₀ := 0) ?_ ?_
 · exact ⟨m, none, 0, [], ((ov_size _ _).trans d0), ((ov_defers _ _).trans J0), (by omega), (gh d0 rfl), (gh d0 rfl), (gh d0 rfl), (gh d0 rfl), (Fr.refl ag), (Own.nil _ _ _ _ _), Rts.nil⟩
 ·
  intro i m1 I1 hI
  obtain ⟨u1, Ar10, cr11, RLx12, b0, y0, q1, D0, E0, F0, w0, c0, n0, C0⟩ := hI
  refine of_ov ?_
  have w1 := c0.size
  have nc_Ar10 := n0.nilc
  refine sk fun _ P0 => rn <| gv (r_lss (em b0 rfl rfl w0) (em b0 rfl rfl E0)) <| nl <| P0 <| sk fun _ Q0 => ?_
  by_cases z0 : i < k
  ·
   refine ct (eb b0 rfl (decide_eq_true z0)) <| ws <| Q0 <| sk fun _ R0 => bl <| sk fun _ S0 => rn <| gv (r_idxS (o' := i * 2) (em b0 rfl rfl D0) (em b0 rfl rfl w0) qs_37 (by omega) (by omega)) ?_
   obtain ⟨q0, s0, r0, u0, p1, d1, K0, e1⟩ := hRt.2 i (by omega)
   have W0 := (hmG.f0 c0)
   refine gv (r_loadN (cs := [.slice q0 143 s0, .slice r0 1 u0]) (eh b0 rfl) W0.bk (Rts.rd d1 (Rts.len hRt (by omega))) (by kernel_rfl) qr_41 sz_41) <| gk (k_alloc c0.ag qz_41 (fun E1 n1 A0 e0 i1 => ?_))
   have x1 := e0.size
   have s1 := A0.lt
   refine gz (kt (L' := [.slice q0 143 s0, .slice r0 1 u0]) e0.ag (eh b0 rfl) (eh b0 rfl) A0 sz_41 (fun F1 Y0 g0 => ?_))
   have y1 := g0.size
   refine nl <| S0 <| rn <| mw b0 F0 <| gv (lb (cs := [.slice q0 143 s0, .slice r0 1 u0]) (eh b0 rfl) Y0.bk qr_41 sz_41) ?_
   have g1 := Fr.ll (Fr.l2 c0 e0) g0
   have L0 := K0.le g1
   refine gk (k_cl (f37 g0.ag L0 (by decide) (by decide)) rfl fn_37 (map_cons (eh b0 rfl) map_nil) (fun D1 G1 Z0 => ?_))
   obtain ⟨j1, i0, k0, j0, l0, rfl, m0, X0⟩ := Z0
   have z1 := m0.size
   refine gk (k_lit (e := 41) (L := [.slice i0 143 k0, .slice j0 1 l0]) m0.ag (pm_cons (eh b0 rfl) pm_nil) (by kernel_rfl) (fun H1 o1 B0 h0 r1 => ?_))
   have A1 := h0.size
   have t1 := B0.lt
   have a1 := ((((n0.f0 e0).fn g0 (n0.ne i1)).f0 m0).f0 h0)
   refine gk (k_append (base := w.heap.size) (L := vs RLx12) (N := [.slice i0 143 k0, .slice j0 1 l0]) h0.ag (eh b0 rfl) (eh b0 rfl) qs_37 qz_41 a1 (B0.bk.src (L := [.slice i0 143 k0, .slice j0 1 l0]) (n := 1) (o := 0) (k := 2) (by kernel_rfl)) (fun h => by cases h) (by kernel_rfl) (by kernel_rfl) (by omega) (by decide) (by rw [maxLen_eq]; omega) (by omega) (fun G0 H0 J1 p0 o0 => ?_))
   have B1 := o0.size
   replace p0 : Own _ _ _ _ _ _ _ _ (vs RLx12 ++ ([.slice i0 143 k0, .slice j0 1 l0])) := p0
   have v1 := p0.nilc
   refine ms b0 rfl <| nl <| R0 <| rn <| gv (r_add (j := 1) (em b0 rfl rfl w0) rfl (by omega)) <| mv b0 rfl <| nl <| loop_back (s := i) ⟨i + 1, (show k - (i + 1) < k - (i) from (by omega)), ?_⟩
   have M0 := ((X0.up h0).up o0)
   have h1 := Fr.ll (Fr.ll (Fr.ll (Fr.l2 e0 g0) m0) h0) o0
   exact ⟨j1, G0, H0, (RLx12 ++ ([.slice i0 143 k0, .slice j0 1 l0] : List Value)), ((ov_size _ _).trans b0), ((ov_defers _ _).trans y0), (by omega), (gm b0 rfl rfl D0), (gm b0 rfl rfl E0), (gh b0 rfl), (gh b0 rfl), (((((c0.t0 e0).tn g0 (by omega)).t0 m0).t0 h0).tg o0 (by omega)), p0, (Rts.snoc (Rts.le C0 h1) M0 e1)⟩
  ·
   refine cf (eb b0 rfl (decide_eq_false z0)) <| we ?_
   have c1 : k = i := (by omega)
   subst c1
   refine T0 <| sk fun _ V0 => rn <| mw b0 F0 <| ms b0 rfl <| nl <| V0 <| wp_ret <| ret_of (res1 rfl _ _ (gh b0 rfl)) ((ov_defers _ _).trans y0) ?_
   obtain ⟨k1, I0, b1⟩ := n0.fz c0.ag
   have v0 : Fr (ge w.heap.size) _ _ _ _ := I0.wk (fun x hx _ => n0.at x hx)
   have C1 := v0.size
   exact ⟨k1, Ar10, cr11, RLx12, rfl, ((cu0.t0 c0).tg v0 (by omega)), b1, (Rts.le C0 v0.le)⟩

end Go.Proofs.YtiggfalelcepbaaGreatDoor

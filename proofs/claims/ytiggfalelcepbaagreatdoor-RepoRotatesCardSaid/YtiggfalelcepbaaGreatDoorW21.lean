/- The walks of the references to chapters 7 and 8, and of roots. -/
import Derived.Test.YtiggfalelcepbaaGreatDoorK7
import Derived.Test.YtiggfalelcepbaaGreatDoorSX
import Derived.Test.YtiggfalelcepbaaGreatDoorW20
import Derived.Test.YtiggfalelcepbaaGreatDoorTX
namespace Go.Proofs.YtiggfalelcepbaaGreatDoor
open Go
set_option maxRecDepth 100000
set_option maxHeartbeats 4000000
theorem f130_p {m : Ctx} {w : World} (ag : Ag m w) {A D : Option Addr} {n c d u : Nat} {p s : Bytes} {L : Option Addr} {lc : Nat} (hE : Env m A n c D d p s u) (hL : Sl m L 1 lc 32 (hc (pk s))) (hu : u < 16) (hn : n < 1048576) : Calls Tryz.prog 130 #[.agg ([.slice A n c, .slice D 1 d]).toArray, .agg ([.slice L 1 lc, nn 1]).toArray] w (Ret fun v w' => ∃ m' A' c', v = .slice A' 1 c' ∧ Fr no m w m' w') := by
 refine enter Tryz.func130 rfl (fun s0 hT V0 => ?_)
 have b0 : s0.tmps.size = 88 := by rw [hT]; kernel_rfl
 have G1 : s0.tmps.getD 0 undef = .agg ([.slice A n c, .slice D 1 d]).toArray := by rw [hT]; kernel_rfl
 have H1 : s0.tmps.getD 1 undef = .agg ([.slice L 1 lc, nn 1]).toArray := by rw [hT]; kernel_rfl
 clear hT
 have cu0 : Fr (no) m w m w := Fr.refl ag
 refine sk fun _ W0 => rn <| gk (k_box (L := [.slice A n c, .slice D 1 d]) ag (em b0 rfl rfl G1) (by kernel_rfl) (fun e2 O0 F0 p0 Q1 => ?_))
 have Z1 := p0.size
 have S1 := F0.lt
 refine gk (k_box (L := [.slice L 1 lc, nn 1]) p0.ag (em b0 rfl rfl H1) (by kernel_rfl) (fun o0 P0 w0 k0 P1 => ?_))
 have W1 := k0.size
 have U1 := w0.lt
 refine gv (r_assign (v := .slice none 0 0) rfl) <| nl <| W0 <| sk fun _ X0 => rn <| gv (r_assign (v := .slice none 0 0) rfl) <| nl <| X0 <| sk fun _ Y0 => sk fun _ Z0 => rn <| gv (r_assign (v := nn 0) rfl) <| nl <| Z0 <| bl <| wp_unroll (n := 2) <| un_step (n := 1) <| sk fun _ a1 => sk fun _ b1 => rn <| mv b0 rfl <| gv (r_field (o' := 0) (eh b0 rfl) fo_32_0 (by rfl)) <| gv (la (v := .slice L 1 lc) (eh b0 rfl) w0.bk qr_27) <| gv (r_lenS (eh b0 rfl) rfl qu_27) <| gv (r_lss (eh b0 rfl) (eh b0 rfl)) <| nl <| b1 <| cd b0 rfl <| ws <| a1 <| sk fun _ c1 => bl <| sk fun _ d1 => rn <| gv (r_assign (v := .bool false) rfl) <| nl <| d1 <| sk fun _ e1 => sk fun _ g1 => rn <| gv (r_assign (v := nn 0) rfl) <| nl <| g1 <| bl <| wp_unroll (n := 2) <| un_step (n := 1) <| sk fun _ L1 => sk fun _ h1 => rn <| mv b0 rfl <| mv b0 rfl <| gv (r_lss (eh b0 rfl) (eh b0 rfl)) <| nl <| h1 <| ce b0 rfl <| we <| e1 <| sk fun _ i1 => rn <| gv (r_assign (v := nn 0) rfl) <| nl <| i1 <| bl <| wp_unroll (n := 2) <| un_step (n := 1) <| sk fun _ j1 => sk fun _ k1 => rn <| mv b0 rfl <| gv (r_field (o' := 1) (eh b0 rfl) fo_41_1 (by rfl)) ?_
 have C0 := (F0.f0 k0)
 refine gv (la (v := .slice D 1 d) (eh b0 rfl) C0.bk qr_39) <| gv (r_lenS (eh b0 rfl) rfl qu_39) <| gv (r_lss (eh b0 rfl) (eh b0 rfl)) <| mv b0 rfl <| sg (t := 41) rfl rfl b0 (eb b0 rfl (by decide)) (kv (r_move (eh b0 rfl)) ?_)
 refine sg (t := 41) rfl rfl b0 (eb b0 rfl (by decide)) (kv (r_lss (j := 4) (eh b0 rfl) rfl) ?_)
 refine gv (r_pick_t (eb b0 rfl (by decide)) (eh b0 rfl)) <| mv b0 rfl <| sg (t := 45) rfl rfl b0 (eb b0 rfl (by decide)) (kv (r_move (eh b0 rfl)) ?_)
 refine sg (t := 45) rfl rfl b0 (eb b0 rfl (by decide)) (kv (r_not (eh b0 rfl)) ?_)
 refine gv (r_pick_t (eb b0 rfl (by decide)) (eh b0 rfl)) <| nl <| k1 <| ct (eh b0 rfl) <| ws <| j1 <| sk fun _ l1 => bl <| sk fun _ m1 => ?_
 have e0 : Fr no m o0 m { o0 with drawn := o0.drawn + 1 } := Fr.drw k0.ag
 obtain ⟨r0, J0⟩ : ∃ w_, w_ = ({ o0 with drawn := o0.drawn + 1 } : World) := ⟨_, rfl⟩
 rw [← J0] at e0
 have X1 := e0.size
 refine wp_region_T mixed (fun wz => ∃ mz, Fr (no) m r0 mz wz) (fun wz => ∃ mz, Fr (no) m r0 mz wz) 28 ?_
 rw [← J0]
 show wpAnyT _ _ _ _ _ 28 _ _ _
 have c0 : Fr (no) m r0 m r0 := Fr.refl e0.ag
 refine tkk (i := 0) rfl rfl (fun _ _ => r_field (o' := 1) (eh b0 rfl) fo_41_1 (by rfl)) ⟨_, c0⟩ ?_
 have q0 := (C0.f0 e0)
 refine tkk (i := 1) rfl rfl (fun wz ⟨mz, hz⟩ => la (v := .slice D 1 d) (eh b0 rfl) (hz.ex q0.bk (fun h => h)) qr_39) ⟨_, c0⟩ <| tkk (i := 2) rfl rfl (fun _ _ => r_move (eh b0 rfl)) ⟨_, c0⟩ ?_
 obtain ⟨E0, L0, Q0, M0, R0, v1, w1, x1⟩ := hE
 have n0 := Fr.ll (Fr.l2 p0 k0) e0
 have z1 := v1.le n0
 obtain ⟨A0, h0, I1, rfl, H0, I0⟩ := z1.elem (by omega)
 refine tkk (i := 3) rfl rfl (fun _ _ => r_idxS (o' := h0 + 0) (eh b0 rfl) (eh b0 rfl) qs_39 (by decide) (by omega)) ⟨_, c0⟩ <| tkk (i := 4) rfl rfl (fun _ _ => r_field (o' := h0 + 0) (eh b0 rfl) fo_114_0 (by rfl)) ⟨_, c0⟩ <| tkk (i := 5) rfl rfl (fun wz ⟨mz, hz⟩ => r_loadN (cs := hc (pk s)) (eh b0 rfl) (hz.ag _ _ (hz.le _ _ H0)) (Eq.trans (rd_sub I0 (by omega)) (by kernel_rfl)) (by kernel_rfl) qr_23 sz_23) ⟨_, c0⟩ <| tkk (i := 6) rfl rfl (fun _ _ => r_field (o' := 0) (eh b0 rfl) fo_32_0 (by rfl)) ⟨_, c0⟩ ?_
 have v0 := (w0.f0 e0)
 refine tkk (i := 7) rfl rfl (fun wz ⟨mz, hz⟩ => la (v := .slice L 1 lc) (eh b0 rfl) (hz.ex v0.bk (fun h => h)) qr_27) ⟨_, c0⟩ <| tkk (i := 8) rfl rfl (fun _ _ => r_move (eh b0 rfl)) ⟨_, c0⟩ ?_
 have A1 := hL.le n0
 obtain ⟨u0, i0, J1, rfl, y0, z0⟩ := A1.elem (by omega)
 refine tkk (i := 9) rfl rfl (fun _ _ => r_idxS (o' := i0 + 0) (eh b0 rfl) (eh b0 rfl) qs_27 (by decide) (by omega)) ⟨_, c0⟩ <| tkk (i := 10) rfl rfl (fun wz ⟨mz, hz⟩ => r_loadN (cs := hc (pk s)) (eh b0 rfl) (hz.ag _ _ (hz.le _ _ y0)) (Eq.trans (rd_sub z0 (by omega)) (by kernel_rfl)) (by kernel_rfl) qr_23 sz_23) ⟨_, c0⟩ <| tkk (i := 11) rfl rfl (fun _ _ => r_eqlN (eh b0 rfl) (eh b0 rfl) qh_23) ⟨_, c0⟩ <| tkk (i := 12) rfl rfl (fun _ _ => r_move (eh b0 rfl)) ⟨_, c0⟩ ?_
 have d0 : (decide (n32 (pk s) = n32 (pk s))) = true := (decide_eq_true rfl)
 refine tkk (i := 13) (hw := wg (t := 63) rfl b0 (eb b0 rfl d0)) rfl rfl (fun _ _ => r_field (o' := 0) (eh b0 rfl) fo_32_0 (by rfl)) ⟨_, c0⟩ <| tkk (i := 14) (hw := wg (t := 63) rfl b0 (eb b0 rfl d0)) rfl rfl (fun wz ⟨mz, hz⟩ => la (v := .slice (some ⟨u0, i0, none⟩) 1 lc) (eh b0 rfl) (hz.ex v0.bk (fun h => h)) qr_27) ⟨_, c0⟩ <| tkk (i := 15) (hw := wg (t := 63) rfl b0 (eb b0 rfl d0)) rfl rfl (fun _ _ => r_move (eh b0 rfl)) ⟨_, c0⟩ <| tkk (i := 16) (hw := wg (t := 63) rfl b0 (eb b0 rfl d0)) rfl rfl (fun _ _ => r_idxS (o' := i0 + 0) (eh b0 rfl) (eh b0 rfl) qs_27 (by decide) (by omega)) ⟨_, c0⟩ <| tkk (i := 17) (hw := wg (t := 63) rfl b0 (eb b0 rfl d0)) rfl rfl (fun wz ⟨mz, hz⟩ => r_loadN (cs := hc (pk s)) (eh b0 rfl) (hz.ag _ _ (hz.le _ _ y0)) (Eq.trans (rd_sub z0 (by omega)) (by kernel_rfl)) (by kernel_rfl) qr_23 sz_23) ⟨_, c0⟩ <| tkk (i := 18) (hw := wg (t := 63) rfl b0 (eb b0 rfl d0)) rfl rfl (fun _ _ => r_field (o' := 0) (eh b0 rfl) fo_41_0 (by rfl)) ⟨_, c0⟩ <| tkk (i := 19) (hw := wg (t := 63) rfl b0 (eb b0 rfl d0)) rfl rfl (fun wz ⟨mz, hz⟩ => la (v := .slice A n c) (eh b0 rfl) (hz.ex q0.bk (fun h => h)) qr_38) ⟨_, c0⟩ <| tkk (i := 20) (hw := wg (t := 63) rfl b0 (eb b0 rfl d0)) rfl rfl (fun _ _ => r_field (o' := 1) (eh b0 rfl) fo_41_1 (by rfl)) ⟨_, c0⟩ <| tkk (i := 21) (hw := wg (t := 63) rfl b0 (eb b0 rfl d0)) rfl rfl (fun wz ⟨mz, hz⟩ => la (v := .slice (some ⟨A0, h0, none⟩) 1 d) (eh b0 rfl) (hz.ex q0.bk (fun h => h)) qr_39) ⟨_, c0⟩ <| tkk (i := 22) (hw := wg (t := 63) rfl b0 (eb b0 rfl d0)) rfl rfl (fun _ _ => r_move (eh b0 rfl)) ⟨_, c0⟩ ?_
 refine tkk (i := 23) (hw := wg (t := 63) rfl b0 (eb b0 rfl d0)) rfl rfl (fun _ _ => r_idxS (o' := h0 + 0) (eh b0 rfl) (eh b0 rfl) qs_39 (by decide) (by omega)) ⟨_, c0⟩ <| tkk (i := 24) (hw := wg (t := 63) rfl b0 (eb b0 rfl d0)) rfl rfl (fun _ _ => r_field (o' := h0 + 32) (eh b0 rfl) fo_114_1 (by rfl)) ⟨_, c0⟩ <| tkk (i := 25) (hw := wg (t := 63) rfl b0 (eb b0 rfl d0)) rfl rfl (fun wz ⟨mz, hz⟩ => r_loadN (cs := [nn u, .slice L0 36 Q0, .slice M0 4 R0]) (eh b0 rfl) (hz.ag _ _ (hz.le _ _ H0)) (Eq.trans (rd_sub I0 (by omega)) (by kernel_rfl)) (by kernel_rfl) qr_110 sz_110) ⟨_, c0⟩ ?_
 have B1 := E0.le n0
 have C1 := w1.le n0
 have D1 := x1.le n0
 refine ayy (i := 26) (b := true) rfl rfl (wg (t := 63) rfl b0 (eb b0 rfl d0)) (k_cl (f147 e0.ag B1 (Sl.blen E0) (by omega) (by omega) C1 (chL_len _ _) D1 (mp_len _ _ _)) rfl fn_147 (map_cons (eh b0 rfl) (map_cons (eh b0 rfl) (map_cons (eh b0 rfl) map_nil))) (fun d2 g2 y1 => ?_))
 obtain ⟨E1, rfl, g0⟩ := y1
 have Y1 := g0.size
 have K0 := c0.t0 g0
 refine ⟨(tbT ⟨_, K0⟩), ?_⟩
 refine tkk (i := 27) rfl rfl (fun _ _ => r_pick_t (eb b0 rfl d0) (eh b0 rfl)) ⟨_, K0⟩ <| anyT_done (by kernel_rfl) ?_ _
 refine m1 ?_
 have u1 : (decide (n32 (nam (upv (sha (endsB (rcf (chL (sgf s u (p)) 36) (p)) 36)) u (mp 4 (lv s) u) 4)) = n32 (pk s))) = true := (decide_eq_true (congrArg n32 (ver_ok hu)))
 refine ct (eb b0 rfl u1) <| sk fun _ n1 => rn <| mv b0 rfl <| gv (r_field (o' := 0) (eh b0 rfl) fo_32_0 (by rfl)) ?_
 have D0 := (v0.f0 g0)
 refine gv (la (v := .slice (some ⟨u0, i0, none⟩) 1 lc) (eh b0 rfl) D0.bk qr_27) <| mv b0 rfl <| gv (r_idxS (o' := i0 + 0) (eh b0 rfl) (eh b0 rfl) qs_27 (by decide) (by omega)) ?_
 have r1 := (g0.le _ _ y0)
 refine gv (r_loadN (cs := hc (pk s)) (eh b0 rfl) (g0.ag _ _ r1) (Eq.trans (rd_sub z0 (by omega)) (by kernel_rfl)) (by kernel_rfl) qr_23 sz_23) <| gk (k_lit (e := 23) (L := hc (pk s)) g0.ag (pm_cons (eh b0 rfl) pm_nil) (by kernel_rfl) (fun j0 K1 G0 l0 R1 => ?_))
 have a2 := l0.size
 have T1 := G0.lt
 refine gk (k_append0 (base := j0.heap.size) (N := hcs ([pk s])) l0.ag (eh b0 rfl) (eh b0 rfl) qs_27 qz_23 (Own.nil E1 j0 (j0.heap.size) 23 32) (by have h_ := (G0.bk.src (L := hc (pk s)) (n := 1) (o := 0) (k := 32) (by kernel_rfl)); rw [← hcs_one] at h_; exact h_) (fun h => by cases h) (by rw [hcs_length, show ([pk s] : List Bytes).length = 1 from rfl]) (one_hcs _) (by omega) (by decide) (by rw [maxLen_eq]; omega) (by omega) (fun N0 S0 h2 x0 m0 => ?_))
 have b2 := m0.size
 have V1 := x0.nilc
 refine ms b0 rfl <| nl <| n1 <| rn <| gv (r_assign (v := .bool true) rfl) <| nl <| l1 <| rn <| mv b0 rfl <| gv (r_add (j := 1) (eh b0 rfl) rfl (by decide)) <| ms b0 rfl <| nl <| un_next <| un_step (n := 0) <| sk fun _ M1 => sk fun _ o1 => rn <| mv b0 rfl <| gv (r_field (o' := 1) (eh b0 rfl) fo_41_1 (by rfl)) ?_
 have T0 := g0.t0 l0
 have s1 := ((q0.f0 T0).fs m0 (show ¬ j0.heap.size ≤ O0 from by omega))
 refine gv (la (v := .slice (some ⟨A0, h0, none⟩) 1 d) (eh b0 rfl) s1.bk qr_39) <| gv (r_lenS (eh b0 rfl) rfl qu_39) <| gv (r_lss (eh b0 rfl) (eh b0 rfl)) <| mv b0 rfl <| sf (t := 41) (c := false) rfl rfl b0 (eb b0 rfl (by decide)) <| sf (t := 41) (c := false) rfl rfl b0 (eb b0 rfl (by decide)) <| gv (r_pick_f (v := .bool false) (eb b0 rfl (by decide)) rfl) <| mv b0 rfl <| sf (t := 45) (c := false) rfl rfl b0 (eh b0 rfl) <| sf (t := 45) (c := false) rfl rfl b0 (eh b0 rfl) <| gv (r_pick_f (v := .bool false) (eh b0 rfl) rfl) <| nl <| o1 <| cf (eh b0 rfl) <| we <| c1 <| rn <| mv b0 rfl <| gv (r_add (j := 1) (eh b0 rfl) rfl (by decide)) <| ms b0 rfl <| nl <| un_next <| un_step (n := 0) <| sk fun _ N1 => sk fun _ p1 => rn <| mv b0 rfl <| gv (r_field (o' := 0) (eh b0 rfl) fo_32_0 (by rfl)) ?_
 have t1 := ((D0.f0 l0).fs m0 (show ¬ j0.heap.size ≤ P0 from by omega))
 refine gv (la (v := .slice (some ⟨u0, i0, none⟩) 1 lc) (eh b0 rfl) t1.bk qr_27) <| gv (r_lenS (eh b0 rfl) rfl qu_27) <| gv (r_lss (eh b0 rfl) (eh b0 rfl)) <| nl <| p1 <| ce b0 rfl <| we <| Y0 <| sk fun _ q1 => rn <| mv b0 rfl <| ms b0 rfl <| nl <| q1 <| wp_ret <| ret_of (res1 rfl _ _ (gh b0 rfl)) ((ov_defers _ _).trans V0) ?_
 obtain ⟨F1, U0, O1⟩ := x0.fz m0.ag
 have B0 : Fr (ge j0.heap.size) _ _ _ _ := U0.wk (fun x hx _ => x0.at x hx)
 have c2 := B0.size
 exact ⟨F1, N0, S0, rfl, (((((((cu0.t0 p0).t0 k0).t0 e0).t0 g0).t0 l0).tg m0 (by omega)).tg B0 (by omega))⟩

theorem f130_n {m : Ctx} {w : World} (ag : Ag m w) {A D : Option Addr} {n c d u : Nat} {p s : Bytes} {L : Option Addr} {lc : Nat} {q : Bytes} (hE : Env m A n c D d p s u) (hL : Sl m L 1 lc 32 (hc q)) (hne : n32 (pk s) ≠ n32 q) : Calls Tryz.prog 130 #[.agg ([.slice A n c, .slice D 1 d]).toArray, .agg ([.slice L 1 lc, nn 1]).toArray] w (Ret fun v w' => ∃ m', v = .slice none 0 0 ∧ Fr no m w m' w') := by
 refine enter Tryz.func130 rfl (fun k0 hT x0 => ?_)
 have b0 : k0.tmps.size = 88 := by rw [hT]; kernel_rfl
 have Y0 : k0.tmps.getD 0 undef = .agg ([.slice A n c, .slice D 1 d]).toArray := by rw [hT]; kernel_rfl
 have Z0 : k0.tmps.getD 1 undef = .agg ([.slice L 1 lc, nn 1]).toArray := by rw [hT]; kernel_rfl
 clear hT
 have cu0 : Fr (no) m w m w := Fr.refl ag
 refine sk fun _ y0 => rn <| gk (k_box (L := [.slice A n c, .slice D 1 d]) ag (em b0 rfl rfl Y0) (by kernel_rfl) (fun w1 e1 q0 i0 q1 => ?_))
 have v1 := i0.size
 have r1 := q0.lt
 refine gk (k_box (L := [.slice L 1 lc, nn 1]) i0.ag (em b0 rfl rfl Z0) (by kernel_rfl) (fun h0 g1 l0 g0 p1 => ?_))
 have t1 := g0.size
 have s1 := l0.lt
 refine gv (r_assign (v := .slice none 0 0) rfl) <| nl <| y0 <| sk fun _ z0 => rn <| gv (r_assign (v := .slice none 0 0) rfl) <| nl <| z0 <| sk fun _ A0 => sk fun _ B0 => rn <| gv (r_assign (v := nn 0) rfl) <| nl <| B0 <| bl <| wp_unroll (n := 2) <| un_step (n := 1) <| sk fun _ C0 => sk fun _ D0 => rn <| mv b0 rfl <| gv (r_field (o' := 0) (eh b0 rfl) fo_32_0 (by rfl)) <| gv (la (v := .slice L 1 lc) (eh b0 rfl) l0.bk qr_27) <| gv (r_lenS (eh b0 rfl) rfl qu_27) <| gv (r_lss (eh b0 rfl) (eh b0 rfl)) <| nl <| D0 <| cd b0 rfl <| ws <| C0 <| sk fun _ E0 => bl <| sk fun _ F0 => rn <| gv (r_assign (v := .bool false) rfl) <| nl <| F0 <| sk fun _ G0 => sk fun _ H0 => rn <| gv (r_assign (v := nn 0) rfl) <| nl <| H0 <| bl <| wp_unroll (n := 2) <| un_step (n := 1) <| sk fun _ j1 => sk fun _ I0 => rn <| mv b0 rfl <| mv b0 rfl <| gv (r_lss (eh b0 rfl) (eh b0 rfl)) <| nl <| I0 <| ce b0 rfl <| we <| G0 <| sk fun _ J0 => rn <| gv (r_assign (v := nn 0) rfl) <| nl <| J0 <| bl <| wp_unroll (n := 2) <| un_step (n := 1) <| sk fun _ K0 => sk fun _ L0 => rn <| mv b0 rfl <| gv (r_field (o' := 1) (eh b0 rfl) fo_41_1 (by rfl)) ?_
 have n0 := (q0.f0 g0)
 refine gv (la (v := .slice D 1 d) (eh b0 rfl) n0.bk qr_39) <| gv (r_lenS (eh b0 rfl) rfl qu_39) <| gv (r_lss (eh b0 rfl) (eh b0 rfl)) <| mv b0 rfl <| sg (t := 41) rfl rfl b0 (eb b0 rfl (by decide)) (kv (r_move (eh b0 rfl)) ?_)
 refine sg (t := 41) rfl rfl b0 (eb b0 rfl (by decide)) (kv (r_lss (j := 4) (eh b0 rfl) rfl) ?_)
 refine gv (r_pick_t (eb b0 rfl (by decide)) (eh b0 rfl)) <| mv b0 rfl <| sg (t := 45) rfl rfl b0 (eb b0 rfl (by decide)) (kv (r_move (eh b0 rfl)) ?_)
 refine sg (t := 45) rfl rfl b0 (eb b0 rfl (by decide)) (kv (r_not (eh b0 rfl)) ?_)
 refine gv (r_pick_t (eb b0 rfl (by decide)) (eh b0 rfl)) <| nl <| L0 <| ct (eh b0 rfl) <| ws <| K0 <| sk fun _ M0 => bl <| sk fun _ N0 => ?_
 have e0 : Fr no m h0 m { h0 with drawn := h0.drawn + 1 } := Fr.drw g0.ag
 obtain ⟨j0, r0⟩ : ∃ w_, w_ = ({ h0 with drawn := h0.drawn + 1 } : World) := ⟨_, rfl⟩
 rw [← r0] at e0
 have u1 := e0.size
 refine wp_region_T mixed (fun wz => ∃ mz, Fr (no) m j0 mz wz) (fun wz => ∃ mz, Fr (no) m j0 mz wz) 28 ?_
 rw [← r0]
 show wpAnyT _ _ _ _ _ 28 _ _ _
 have c0 : Fr (no) m j0 m j0 := Fr.refl e0.ag
 refine tkk (i := 0) rfl rfl (fun _ _ => r_field (o' := 1) (eh b0 rfl) fo_41_1 (by rfl)) ⟨_, c0⟩ ?_
 have o0 := (n0.f0 e0)
 refine tkk (i := 1) rfl rfl (fun wz ⟨mz, hz⟩ => la (v := .slice D 1 d) (eh b0 rfl) (hz.ex o0.bk (fun h => h)) qr_39) ⟨_, c0⟩ <| tkk (i := 2) rfl rfl (fun _ _ => r_move (eh b0 rfl)) ⟨_, c0⟩ ?_
 obtain ⟨m1, a1, h1, b1, i1, R0, n1, o1⟩ := hE
 have s0 := Fr.ll (Fr.l2 i0 g0) e0
 have W0 := R0.le s0
 obtain ⟨v0, m0, c1, rfl, S0, U0⟩ := W0.elem (by omega)
 refine tkk (i := 3) rfl rfl (fun _ _ => r_idxS (o' := m0 + 0) (eh b0 rfl) (eh b0 rfl) qs_39 (by decide) (by omega)) ⟨_, c0⟩ <| tkk (i := 4) rfl rfl (fun _ _ => r_field (o' := m0 + 0) (eh b0 rfl) fo_114_0 (by rfl)) ⟨_, c0⟩ <| tkk (i := 5) rfl rfl (fun wz ⟨mz, hz⟩ => r_loadN (cs := hc (pk s)) (eh b0 rfl) (hz.ag _ _ (hz.le _ _ S0)) (Eq.trans (rd_sub U0 (by omega)) (by kernel_rfl)) (by kernel_rfl) qr_23 sz_23) ⟨_, c0⟩ <| tkk (i := 6) rfl rfl (fun _ _ => r_field (o' := 0) (eh b0 rfl) fo_32_0 (by rfl)) ⟨_, c0⟩ ?_
 have p0 := (l0.f0 e0)
 refine tkk (i := 7) rfl rfl (fun wz ⟨mz, hz⟩ => la (v := .slice L 1 lc) (eh b0 rfl) (hz.ex p0.bk (fun h => h)) qr_27) ⟨_, c0⟩ <| tkk (i := 8) rfl rfl (fun _ _ => r_move (eh b0 rfl)) ⟨_, c0⟩ ?_
 have X0 := hL.le s0
 obtain ⟨w0, u0, d1, rfl, T0, V0⟩ := X0.elem (by omega)
 refine tkk (i := 9) rfl rfl (fun _ _ => r_idxS (o' := u0 + 0) (eh b0 rfl) (eh b0 rfl) qs_27 (by decide) (by omega)) ⟨_, c0⟩ <| tkk (i := 10) rfl rfl (fun wz ⟨mz, hz⟩ => r_loadN (cs := hc q) (eh b0 rfl) (hz.ag _ _ (hz.le _ _ T0)) (Eq.trans (rd_sub V0 (by omega)) (by kernel_rfl)) (by kernel_rfl) qr_23 sz_23) ⟨_, c0⟩ <| tkk (i := 11) rfl rfl (fun _ _ => r_eqlN (eh b0 rfl) (eh b0 rfl) qh_23) ⟨_, c0⟩ <| tkk (i := 12) rfl rfl (fun _ _ => r_move (eh b0 rfl)) ⟨_, c0⟩ ?_
 have d0 : (decide (n32 (pk s) = n32 q)) = false := (decide_eq_false hne)
 refine tnn (i := 13) (b := true) rfl rfl (fun _ h => h) (wn (t := 63) (c := false) rfl b0 (eb b0 rfl d0)) (tbT ⟨_, c0⟩) <| tnn (i := 14) (b := true) rfl rfl (fun _ h => h) (wn (t := 63) (c := false) rfl b0 (eb b0 rfl d0)) (tbT ⟨_, c0⟩) <| tnn (i := 15) (b := true) rfl rfl (fun _ h => h) (wn (t := 63) (c := false) rfl b0 (eb b0 rfl d0)) (tbT ⟨_, c0⟩) <| tnn (i := 16) (b := true) rfl rfl (fun _ h => h) (wn (t := 63) (c := false) rfl b0 (eb b0 rfl d0)) (tbT ⟨_, c0⟩) <| tnn (i := 17) (b := true) rfl rfl (fun _ h => h) (wn (t := 63) (c := false) rfl b0 (eb b0 rfl d0)) (tbT ⟨_, c0⟩) <| tnn (i := 18) (b := true) rfl rfl (fun _ h => h) (wn (t := 63) (c := false) rfl b0 (eb b0 rfl d0)) (tbT ⟨_, c0⟩) <| tnn (i := 19) (b := true) rfl rfl (fun _ h => h) (wn (t := 63) (c := false) rfl b0 (eb b0 rfl d0)) (tbT ⟨_, c0⟩) <| tnn (i := 20) (b := true) rfl rfl (fun _ h => h) (wn (t := 63) (c := false) rfl b0 (eb b0 rfl d0)) (tbT ⟨_, c0⟩) <| tnn (i := 21) (b := true) rfl rfl (fun _ h => h) (wn (t := 63) (c := false) rfl b0 (eb b0 rfl d0)) (tbT ⟨_, c0⟩) <| tnn (i := 22) (b := true) rfl rfl (fun _ h => h) (wn (t := 63) (c := false) rfl b0 (eb b0 rfl d0)) (tbT ⟨_, c0⟩) <| tnn (i := 23) (b := true) rfl rfl (fun _ h => h) (wn (t := 63) (c := false) rfl b0 (eb b0 rfl d0)) (tbT ⟨_, c0⟩) <| tnn (i := 24) (b := true) rfl rfl (fun _ h => h) (wn (t := 63) (c := false) rfl b0 (eb b0 rfl d0)) (tbT ⟨_, c0⟩) <| tnn (i := 25) (b := true) rfl rfl (fun _ h => h) (wn (t := 63) (c := false) rfl b0 (eb b0 rfl d0)) (tbT ⟨_, c0⟩) ?_
 refine tnn (i := 26) (b := true) rfl rfl (fun _ h => h) (wn (t := 63) (c := false) rfl b0 (eb b0 rfl d0)) (tbT ⟨_, c0⟩) <| tkk (i := 27) rfl rfl (fun _ _ => r_pick_f (v := .bool false) (eb b0 rfl d0) rfl) ⟨_, c0⟩ <| anyT_done (by kernel_rfl) ?_ _
 refine N0 <| cf (eh b0 rfl) <| ws <| M0 <| rn <| mv b0 rfl <| gv (r_add (j := 1) (eh b0 rfl) rfl (by decide)) <| ms b0 rfl <| nl <| un_next <| un_step (n := 0) <| sk fun _ k1 => sk fun _ O0 => rn <| mv b0 rfl <| gv (r_field (o' := 1) (eh b0 rfl) fo_41_1 (by rfl)) <| gv (la (v := .slice (some ⟨v0, m0, none⟩) 1 d) (eh b0 rfl) o0.bk qr_39) <| gv (r_lenS (eh b0 rfl) rfl qu_39) <| gv (r_lss (eh b0 rfl) (eh b0 rfl)) <| mv b0 rfl <| sf (t := 41) (c := false) rfl rfl b0 (eb b0 rfl (by decide)) <| sf (t := 41) (c := false) rfl rfl b0 (eb b0 rfl (by decide)) <| gv (r_pick_f (v := .bool false) (eb b0 rfl (by decide)) rfl) <| mv b0 rfl <| sf (t := 45) (c := false) rfl rfl b0 (eh b0 rfl) <| sf (t := 45) (c := false) rfl rfl b0 (eh b0 rfl) <| gv (r_pick_f (v := .bool false) (eh b0 rfl) rfl) <| nl <| O0 <| cf (eh b0 rfl) <| we <| E0 <| rn <| mv b0 rfl <| gv (r_add (j := 1) (eh b0 rfl) rfl (by decide)) <| ms b0 rfl <| nl <| un_next <| un_step (n := 0) <| sk fun _ l1 => sk fun _ P0 => rn <| mv b0 rfl <| gv (r_field (o' := 0) (eh b0 rfl) fo_32_0 (by rfl)) <| gv (la (v := .slice (some ⟨w0, u0, none⟩) 1 lc) (eh b0 rfl) p0.bk qr_27) <| gv (r_lenS (eh b0 rfl) rfl qu_27) <| gv (r_lss (eh b0 rfl) (eh b0 rfl)) <| nl <| P0 <| ce b0 rfl <| we <| A0 <| sk fun _ Q0 => rn <| mv b0 rfl <| ms b0 rfl <| nl <| Q0 <| wp_ret <| ret_of (res1 rfl _ _ (gh b0 rfl)) ((ov_defers _ _).trans x0) ?_
 exact ⟨m, rfl, (((cu0.t0 i0).t0 g0).t0 e0)⟩

theorem f77_p {m : Ctx} {w : World} (ag : Ag m w) {A D : Option Addr} {n c d u : Nat} {p s : Bytes} {L : Option Addr} {lc : Nat} (hE : Env m A n c D d p s u) (hL : Sl m L 1 lc 32 (hc (pk s))) (hu : u < 16) (hn : n < 1048576) : Calls Tryz.prog 77 #[.agg ([.slice A n c, .slice D 1 d]).toArray, .agg ([.slice L 1 lc, nn 1]).toArray] w (Ret fun v w' => ∃ m', v = .bool true ∧ Fr no m w m' w') := by
 refine enter Tryz.func77 rfl (fun l0 hT v0 => ?_)
 have b0 : l0.tmps.size = 16 := by rw [hT]; kernel_rfl
 have F0 : l0.tmps.getD 0 undef = .agg ([.slice A n c, .slice D 1 d]).toArray := by rw [hT]; kernel_rfl
 have G0 : l0.tmps.getD 1 undef = .agg ([.slice L 1 lc, nn 1]).toArray := by rw [hT]; kernel_rfl
 clear hT
 have cu0 : Fr (no) m w m w := Fr.refl ag
 refine sk fun _ x0 => rn <| gk (k_box (L := [.slice A n c, .slice D 1 d]) ag (em b0 rfl rfl F0) (by kernel_rfl) (fun X0 I0 p0 j0 M0 => ?_))
 have U0 := j0.size
 have N0 := p0.lt
 refine gk (k_box (L := [.slice L 1 lc, nn 1]) j0.ag (em b0 rfl rfl G0) (by kernel_rfl) (fun i0 J0 o0 g0 L0 => ?_))
 have Q0 := g0.size
 have O0 := o0.lt
 refine gv (r_assign (v := .bool false) rfl) <| nl <| x0 <| sk fun _ y0 => ?_
 have c0 : Fr no m i0 m { i0 with drawn := i0.drawn + 1 } := Fr.drw g0.ag
 obtain ⟨k0, r0⟩ : ∃ w_, w_ = ({ i0 with drawn := i0.drawn + 1 } : World) := ⟨_, rfl⟩
 rw [← r0] at c0
 have R0 := c0.size
 refine wp_region_T mixed (fun wz => ∃ mz, Fr (no) m k0 mz wz) (fun wz => ∃ mz, Fr (no) m k0 mz wz) 12 ?_
 rw [← r0]
 show wpAnyT _ _ _ _ _ 12 _ _ _
 have u0 : Fr (no) m k0 m k0 := Fr.refl c0.ag
 have n0 := (o0.f0 c0)
 refine tkk (i := 0) rfl rfl (fun wz ⟨mz, hz⟩ => lb (cs := [.slice L 1 lc, nn 1]) (eh b0 rfl) (hz.ex n0.bk (fun h => h)) qr_32 sz_32) ⟨_, u0⟩ ?_
 have s0 := Fr.ll (Fr.l2 j0 g0) c0
 have q0 := hL.le s0
 refine ann (i := 1) (b := true) rfl rfl (k_cl (f92 c0.ag q0) rfl fn_92 (map_cons (eh b0 rfl) map_nil) (fun V0 Y0 A0 => ?_))
 obtain ⟨P0, rfl, e0⟩ := A0
 have S0 := e0.size
 have d0 := u0.t0 e0
 refine ⟨(tbT ⟨_, d0⟩), ?_⟩
 refine tkk (i := 2) rfl rfl (fun _ _ => r_move (eh b0 rfl)) ⟨_, d0⟩ ?_
 have z0 := ((p0.f0 g0).f0 c0)
 refine tkk (i := 3) (hw := wg (t := 7) rfl b0 (eh b0 rfl)) rfl rfl (fun wz ⟨mz, hz⟩ => lb (cs := [.slice A n c, .slice D 1 d]) (eh b0 rfl) (hz.ex z0.bk (fun h => h)) qr_41 sz_41) ⟨_, d0⟩ <| tkk (i := 4) (hw := wg (t := 7) rfl b0 (eh b0 rfl)) rfl rfl (fun wz ⟨mz, hz⟩ => lb (cs := [.slice L 1 lc, nn 1]) (eh b0 rfl) (hz.ex n0.bk (fun h => h)) qr_32 sz_32) ⟨_, d0⟩ <| tkk (i := 7) (hw := wg (t := 7) rfl b0 (eh b0 rfl)) rfl rfl (fun _ _ => r_field (o' := 1) (eh b0 rfl) fo_32_1 (by rfl)) ⟨_, d0⟩ <| tkk (i := 8) (hw := wg (t := 7) rfl b0 (eh b0 rfl)) rfl rfl (fun wz ⟨mz, hz⟩ => la (v := nn 1) (eh b0 rfl) (hz.ex n0.bk (fun h => h)) qr_3) ⟨_, d0⟩ ?_
 have D0 := Fr.ll s0 e0
 have w0 := hE.le D0
 have C0 := (q0.up e0)
 refine ayy (i := 5) (b := true) rfl rfl (wg (t := 7) rfl b0 (eh b0 rfl)) (k_cl (f130_p e0.ag w0 C0 hu (by omega)) rfl fn_130 (map_cons (eh b0 rfl) (map_cons (eh b0 rfl) map_nil)) (fun W0 Z0 B0 => ?_))
 obtain ⟨E0, H0, K0, rfl, m0⟩ := B0
 have T0 := m0.size
 have h0 := d0.t0 m0
 refine ⟨(tbT ⟨_, h0⟩), ?_⟩
 refine tkk (i := 6) (hw := wg (t := 7) rfl b0 (eh b0 rfl)) rfl rfl (fun _ _ => r_lenS (eh b0 rfl) rfl qu_27) ⟨_, h0⟩ <| tkk (i := 9) (hw := wg (t := 7) rfl b0 (eh b0 rfl)) rfl rfl (fun _ _ => r_geq (eh b0 rfl) (eh b0 rfl)) ⟨_, h0⟩ <| tkk (i := 10) rfl rfl (fun _ _ => r_pick_t (eh b0 rfl) (eh b0 rfl)) ⟨_, h0⟩ <| tkk (i := 11) rfl rfl (fun _ _ => r_assign (eh b0 rfl)) ⟨_, h0⟩ <| anyT_done (by kernel_rfl) ?_ _
 refine y0 <| wp_ret <| ret_of (res1 rfl _ _ (gh b0 rfl)) ((ov_defers _ _).trans v0) ?_
 exact ⟨E0, rfl, (((((cu0.t0 j0).t0 g0).t0 c0).t0 e0).t0 m0)⟩

theorem f77_n {m : Ctx} {w : World} (ag : Ag m w) {A D : Option Addr} {n c d u : Nat} {p s : Bytes} {L : Option Addr} {lc : Nat} {q : Bytes} (hE : Env m A n c D d p s u) (hL : Sl m L 1 lc 32 (hc q)) (hne : n32 (pk s) ≠ n32 q) : Calls Tryz.prog 77 #[.agg ([.slice A n c, .slice D 1 d]).toArray, .agg ([.slice L 1 lc, nn 1]).toArray] w (Ret fun v w' => ∃ m', v = .bool false ∧ Fr no m w m' w') := by
 refine enter Tryz.func77 rfl (fun l0 hT v0 => ?_)
 have b0 : l0.tmps.size = 16 := by rw [hT]; kernel_rfl
 have F0 : l0.tmps.getD 0 undef = .agg ([.slice A n c, .slice D 1 d]).toArray := by rw [hT]; kernel_rfl
 have G0 : l0.tmps.getD 1 undef = .agg ([.slice L 1 lc, nn 1]).toArray := by rw [hT]; kernel_rfl
 clear hT
 have cu0 : Fr (no) m w m w := Fr.refl ag
 refine sk fun _ x0 => rn <| gk (k_box (L := [.slice A n c, .slice D 1 d]) ag (em b0 rfl rfl F0) (by kernel_rfl) (fun V0 H0 p0 j0 K0 => ?_))
 have S0 := j0.size
 have L0 := p0.lt
 refine gk (k_box (L := [.slice L 1 lc, nn 1]) j0.ag (em b0 rfl rfl G0) (by kernel_rfl) (fun i0 I0 o0 g0 J0 => ?_))
 have O0 := g0.size
 have M0 := o0.lt
 refine gv (r_assign (v := .bool false) rfl) <| nl <| x0 <| sk fun _ y0 => ?_
 have c0 : Fr no m i0 m { i0 with drawn := i0.drawn + 1 } := Fr.drw g0.ag
 obtain ⟨k0, r0⟩ : ∃ w_, w_ = ({ i0 with drawn := i0.drawn + 1 } : World) := ⟨_, rfl⟩
 rw [← r0] at c0
 have P0 := c0.size
 refine wp_region_T mixed (fun wz => ∃ mz, Fr (no) m k0 mz wz) (fun wz => ∃ mz, Fr (no) m k0 mz wz) 12 ?_
 rw [← r0]
 show wpAnyT _ _ _ _ _ 12 _ _ _
 have u0 : Fr (no) m k0 m k0 := Fr.refl c0.ag
 have n0 := (o0.f0 c0)
 refine tkk (i := 0) rfl rfl (fun wz ⟨mz, hz⟩ => lb (cs := [.slice L 1 lc, nn 1]) (eh b0 rfl) (hz.ex n0.bk (fun h => h)) qr_32 sz_32) ⟨_, u0⟩ ?_
 have s0 := Fr.ll (Fr.l2 j0 g0) c0
 have q0 := hL.le s0
 refine ann (i := 1) (b := true) rfl rfl (k_cl (f92 c0.ag q0) rfl fn_92 (map_cons (eh b0 rfl) map_nil) (fun T0 W0 A0 => ?_))
 obtain ⟨N0, rfl, e0⟩ := A0
 have Q0 := e0.size
 have d0 := u0.t0 e0
 refine ⟨(tbT ⟨_, d0⟩), ?_⟩
 refine tkk (i := 2) rfl rfl (fun _ _ => r_move (eh b0 rfl)) ⟨_, d0⟩ ?_
 have z0 := ((p0.f0 g0).f0 c0)
 refine tkk (i := 3) (hw := wg (t := 7) rfl b0 (eh b0 rfl)) rfl rfl (fun wz ⟨mz, hz⟩ => lb (cs := [.slice A n c, .slice D 1 d]) (eh b0 rfl) (hz.ex z0.bk (fun h => h)) qr_41 sz_41) ⟨_, d0⟩ <| tkk (i := 4) (hw := wg (t := 7) rfl b0 (eh b0 rfl)) rfl rfl (fun wz ⟨mz, hz⟩ => lb (cs := [.slice L 1 lc, nn 1]) (eh b0 rfl) (hz.ex n0.bk (fun h => h)) qr_32 sz_32) ⟨_, d0⟩ <| tkk (i := 7) (hw := wg (t := 7) rfl b0 (eh b0 rfl)) rfl rfl (fun _ _ => r_field (o' := 1) (eh b0 rfl) fo_32_1 (by rfl)) ⟨_, d0⟩ <| tkk (i := 8) (hw := wg (t := 7) rfl b0 (eh b0 rfl)) rfl rfl (fun wz ⟨mz, hz⟩ => la (v := nn 1) (eh b0 rfl) (hz.ex n0.bk (fun h => h)) qr_3) ⟨_, d0⟩ ?_
 have D0 := Fr.ll s0 e0
 have w0 := hE.le D0
 have C0 := (q0.up e0)
 refine ayy (i := 5) (b := true) rfl rfl (wg (t := 7) rfl b0 (eh b0 rfl)) (k_cl (f130_n e0.ag w0 C0 hne) rfl fn_130 (map_cons (eh b0 rfl) (map_cons (eh b0 rfl) map_nil)) (fun U0 X0 B0 => ?_))
 obtain ⟨E0, rfl, m0⟩ := B0
 have R0 := m0.size
 have h0 := d0.t0 m0
 refine ⟨(tbT ⟨_, h0⟩), ?_⟩
 refine tkk (i := 6) (hw := wg (t := 7) rfl b0 (eh b0 rfl)) rfl rfl (fun _ _ => r_lenS (eh b0 rfl) rfl qu_27) ⟨_, h0⟩ <| tkk (i := 9) (hw := wg (t := 7) rfl b0 (eh b0 rfl)) rfl rfl (fun _ _ => r_geq (eh b0 rfl) (eh b0 rfl)) ⟨_, h0⟩ <| tkk (i := 10) rfl rfl (fun _ _ => r_pick_t (eh b0 rfl) (eh b0 rfl)) ⟨_, h0⟩ <| tkk (i := 11) rfl rfl (fun _ _ => r_assign (eh b0 rfl)) ⟨_, h0⟩ <| anyT_done (by kernel_rfl) ?_ _
 refine y0 <| wp_ret <| ret_of (res1 rfl _ _ (gh b0 rfl)) ((ov_defers _ _).trans v0) ?_
 exact ⟨E0, rfl, (((((cu0.t0 j0).t0 g0).t0 c0).t0 e0).t0 m0)⟩

theorem f75 {m : Ctx} {w : World} (ag : Ag m w) {v : Nat} {s b d2 : Bytes} {A D : Option Addr} {c d u : Nat} {L0 L1 L2 L3 : Option Addr} {l0 l1 l2 l3 : Nat} (hL0 : Sl m L0 1 l0 32 (hc (pk s))) (hL1 : Sl m L1 1 l1 32 (hc b)) (hL2 : Sl m L2 1 l2 32 (hc b)) (hL3 : Sl m L3 1 l3 32 (hc b)) (hE : Env m A 143 c D d (rootB (v + 1) (pk s) d2) s u) (hu : u < 16) (hv1 : 1 ≤ v) (hv : v < 100) : Calls Tryz.prog 75 #[.agg ([nn v, nn 1073741824, .slice L0 1 l0, nn 1, .slice L1 1 l1, nn 1, .slice L2 1 l2, nn 1, .slice L3 1 l3, nn 1]).toArray, .agg ([.slice A 143 c, .slice D 1 d]).toArray] w (Ret fun y w' => ∃ m' M0 n0 M1 n1 M2 n2 M3 n3, y = .tuple #[.agg ([nn (v + 1), nn 1073741824, .slice M0 1 n0, nn 1, .slice M1 1 n1, nn 1, .slice M2 1 n2, nn 1, .slice M3 1 n3, nn 1]).toArray, nn 0] ∧ Fr no m w m' w' ∧ Sl m' M0 1 n0 32 (hc (pk s)) ∧ Sl m' M1 1 n1 32 (hc d2) ∧ Sl m' M2 1 n2 32 (hc d2) ∧ Sl m' M3 1 n3 32 (hc d2)) := by
 refine enter Tryz.func75 rfl (fun y0 hT b1 => ?_)
 have b0 : y0.tmps.size = 43 := by rw [hT]; kernel_rfl
 have P1 : y0.tmps.getD 0 undef = .agg ([nn v, nn 1073741824, .slice L0 1 l0, nn 1, .slice L1 1 l1, nn 1, .slice L2 1 l2, nn 1, .slice L3 1 l3, nn 1]).toArray := by rw [hT]; kernel_rfl
 have Q1 : y0.tmps.getD 1 undef = .agg ([.slice A 143 c, .slice D 1 d]).toArray := by rw [hT]; kernel_rfl
 clear hT
 have cu0 : Fr (no) m w m w := Fr.refl ag
 refine sk fun _ c1 => rn <| gk (k_box (L := [nn v, nn 1073741824, .slice L0 1 l0, nn 1, .slice L1 1 l1, nn 1, .slice L2 1 l2, nn 1, .slice L3 1 l3, nn 1]) ag (em b0 rfl rfl P1) (by kernel_rfl) (fun x2 R1 N0 w0 X1 => ?_))
 have o2 := w0.size
 have Z1 := N0.lt
 refine gk (k_box (L := [.slice A 143 c, .slice D 1 d]) w0.ag (em b0 rfl rfl Q1) (by kernel_rfl) (fun C2 T1 J0 u0 U1 => ?_))
 have h2 := u0.size
 have b2 := J0.lt
 refine gk (k_alloc u0.ag qz_35 (fun v2 Y0 K0 p0 V1 => ?_))
 have i2 := p0.size
 have Y1 := K0.lt
 refine gv (r_assign (v := nn 0) rfl) <| nl <| c1 <| sk fun _ d1 => rn <| gv (r_field (o' := 0) (eh b0 rfl) fo_41_0 (by rfl)) ?_
 have F0 := (J0.f0 p0)
 refine gv (la (v := .slice A 143 c) (eh b0 rfl) F0.bk qr_38) ?_
 obtain ⟨q1, A0, C0, B0, D0, r1, s1, t1⟩ := hE
 have W0 := Fr.ll (Fr.l2 w0 u0) p0
 have Q0 := q1.le W0
 refine gk (k_cl (f74 p0.ag Q0 (by omega) (by omega)) rfl fn_74 (map_cons (eh b0 rfl) map_nil) (fun r2 y2 z1 => ?_))
 obtain ⟨c2, g0, j0, k0, q0, m0, r0, o0, s0, rfl, h0, u1, v1, w1, x1⟩ := z1
 have j2 := h0.size
 refine mv b0 rfl <| gv (r_extract (v := .agg ([nn (v + 1), nn 1073741824, .slice g0 1 j0, nn 1, .slice k0 1 q0, nn 1, .slice m0 1 r0, nn 1, .slice o0 1 s0, nn 1]).toArray) (eh b0 rfl) (by kernel_rfl)) <| gv (r_extract (v := nn 0) (eh b0 rfl) (by kernel_rfl)) <| gk (k_alloc h0.ag qz_35 (fun z2 S1 O0 e0 W1 => ?_))
 have k2 := e0.size
 have a2 := O0.lt
 refine gz (kt (L' := [nn (v + 1), nn 1073741824, .slice g0 1 j0, nn 1, .slice k0 1 q0, nn 1, .slice m0 1 r0, nn 1, .slice o0 1 s0, nn 1]) e0.ag (eh b0 rfl) (eh b0 rfl) O0 sz_35 (fun A2 P0 d0 => ?_))
 have m2 := d0.size
 refine ms b0 rfl <| nl <| d1 <| sk fun _ e1 => bl <| sk fun _ g1 => rn <| mv b0 rfl <| gv (r_neq (j := 0) (eh b0 rfl) rfl) <| ms b0 rfl <| nl <| g1 <| ce b0 rfl <| sk fun _ h1 => rn <| gv (r_field (o' := 0) (eh b0 rfl) fo_35_0 (by rfl)) <| gv (la (v := nn (v + 1)) (eh b0 rfl) P0.bk qr_3) <| gv (r_sub (j := 1) (eh b0 rfl) rfl (by omega) (by omega)) <| gv (r_field (o' := 0) (eh b0 rfl) fo_35_0 (by rfl)) ?_
 have Z0 := ((u0.t0 p0).t0 h0).t0 e0
 have G0 := ((N0.f0 Z0).f1 d0 (by omega))
 refine gv (la (v := nn v) (eh b0 rfl) G0.bk qr_3) <| gv (r_neq (eh b0 rfl) (eh b0 rfl)) <| ms b0 rfl <| nl <| h1 ?_
 have p1 : (decide ((v + 1) - 1 ≠ v)) = false := (decide_eq_false (by omega))
 refine cf (eb b0 rfl p1) <| sk fun _ i1 => rn ?_
 have E0 := h0.t0 e0
 have H0 := ((F0.f0 E0).f1 d0 (by omega))
 refine gv (lb (cs := [.slice A 143 c, .slice D 1 d]) (eh b0 rfl) H0.bk qr_41 sz_41) <| gv (r_field (o' := 2) (eh b0 rfl) fo_35_2 (by rfl)) <| gv (r_idxA (i := 0) (o' := 2) (eh b0 rfl) rfl qa_33 (by decide) (by rfl)) <| gv (lb (cs := [.slice L0 1 l0, nn 1]) (eh b0 rfl) G0.bk qr_32 sz_32) ?_
 have N1 := Fr.ll (Fr.l2 h0 e0) d0
 have R0 := Q0.le N1
 have x0 := Fr.ll (Fr.ll (Fr.ll W0 h0) e0) d0
 have S0 := r1.le x0
 have T0 := s1.le x0
 have U0 := t1.le x0
 have G1 := hL0.le x0
 refine gk (k_cl (f77_p d0.ag ⟨R0, A0, C0, B0, D0, S0, T0, U0⟩ G1 (by omega) (by omega)) rfl fn_77 (map_cons (eh b0 rfl) (map_cons (eh b0 rfl) map_nil)) (fun s2 B2 A1 => ?_))
 obtain ⟨e2, rfl, c0⟩ := A1
 have p2 := c0.size
 refine gv (r_not (eh b0 rfl)) <| mv b0 rfl ?_
 have k1 := (H0.f0 c0)
 refine sg (t := 33) rfl rfl b0 (eh b0 rfl) (kv (lb (cs := [.slice A 143 c, .slice D 1 d]) (eh b0 rfl) k1.bk qr_41 sz_41) ?_)
 refine sg (t := 33) rfl rfl b0 (eh b0 rfl) (kv (r_field (o' := 2) (eh b0 rfl) fo_35_2 (by rfl)) ?_)
 refine sg (t := 33) rfl rfl b0 (eh b0 rfl) (kv (r_idxA (i := 0) (o' := 2) (eh b0 rfl) rfl qa_33 (by decide) (by rfl)) ?_)
 have I0 := (P0.f0 c0)
 refine sg (t := 33) rfl rfl b0 (eh b0 rfl) (kv (lb (cs := [.slice g0 1 j0, nn 1]) (eh b0 rfl) I0.bk qr_32 sz_32) ?_)
 have H1 := (R0.up c0)
 have I1 := (S0.up c0)
 have J1 := (T0.up c0)
 have K1 := (U0.up c0)
 have X0 := Fr.ll (Fr.l2 e0 d0) c0
 have V0 := u1.le X0
 refine sg (t := 33) rfl rfl b0 (eh b0 rfl) (k_cl (f77_p c0.ag ⟨H1, A0, C0, B0, D0, I1, J1, K1⟩ V0 (by omega) (by omega)) rfl fn_77 (map_cons (eh b0 rfl) (map_cons (eh b0 rfl) map_nil)) (fun t2 D2 B1 => ?_))
 obtain ⟨O1, rfl, i0⟩ := B1
 have q2 := i0.size
 refine sg (t := 33) rfl rfl b0 (eh b0 rfl) (kv (r_not (eh b0 rfl)) ?_)
 refine gv (r_pick_f (eh b0 rfl) (eh b0 rfl)) <| ms b0 rfl <| nl <| i1 <| cf (eh b0 rfl) <| ws <| e1 <| sk fun _ j1 => rn ?_
 have m1 := (I0.f0 i0)
 refine gv (lb (cs := [nn (v + 1), nn 1073741824, .slice g0 1 j0, nn 1, .slice k0 1 q0, nn 1, .slice m0 1 r0, nn 1, .slice o0 1 s0, nn 1]) (eh b0 rfl) m1.bk qr_35 sz_35) ?_
 have a1 := c0.t0 i0
 have o1 := (((K0.f0 E0).f1 d0 (by omega)).f0 a1)
 refine gz (kt (L' := [nn (v + 1), nn 1073741824, .slice g0 1 j0, nn 1, .slice k0 1 q0, nn 1, .slice m0 1 r0, nn 1, .slice o0 1 s0, nn 1]) i0.ag (eh b0 rfl) (eh b0 rfl) o1 sz_35 (fun u2 y1 v0 => ?_))
 have g2 := v0.size
 refine gv (r_assign (v := nn 0) rfl) <| nl <| j1 <| wp_ret <| ret_of (res2ct (b := Y0) (n := 10) (cs := [nn (v + 1), nn 1073741824, .slice g0 1 j0, nn 1, .slice k0 1 q0, nn 1, .slice m0 1 r0, nn 1, .slice o0 1 s0, nn 1]) (u := nn 0) rfl _ _ (gh b0 rfl) (gh b0 rfl) y1.bk (by kernel_rfl) (by kernel_rfl) qr_35 sz_35) ((ov_defers _ _).trans b1) ?_
 have C1 := ((V0.up i0).up v0)
 have z0 := Fr.ll (Fr.ll X0 i0) v0
 have D1 := v1.le z0
 have E1 := w1.le z0
 have F1 := x1.le z0
 exact ⟨O1, g0, j0, k0, q0, m0, r0, o0, s0, rfl, (((((((((cu0.t0 w0).t0 u0).t0 p0).t0 h0).t0 e0).tn d0 (by omega)).t0 c0).t0 i0).tn v0 (by omega)), C1, D1, E1, F1⟩

theorem f32 {m : Ctx} {w : World} (ag : Ag m w) {k rc : Nat} {s : Bytes} {b : Nat → Bytes} {RL : List Value} {R : Option Addr} {L0 L1 L2 L3 : Option Addr} {l0 l1 l2 l3 : Nat} (hL0 : Sl m L0 1 l0 32 (hc (pk s))) (hL1 : Sl m L1 1 l1 32 (hc (b 1))) (hL2 : Sl m L2 1 l2 32 (hc (b 1))) (hL3 : Sl m L3 1 l3 32 (hc (b 1))) (hR : Sl m R k rc 2 (vs RL)) (hRt : Rts m s b k RL) (hk : k < 8) : Calls Tryz.prog 32 #[.agg ([nn 1, nn 1073741824, .slice L0 1 l0, nn 1, .slice L1 1 l1, nn 1, .slice L2 1 l2, nn 1, .slice L3 1 l3, nn 1]).toArray, .slice R k rc, nn 1] w (Ret fun y w' => ∃ m' M0 n0 M1 n1 M2 n2 M3 n3, y = .tuple #[.agg ([nn (k + 1), nn 1073741824, .slice M0 1 n0, nn 1, .slice M1 1 n1, nn 1, .slice M2 1 n2, nn 1, .slice M3 1 n3, nn 1]).toArray, nn 0] ∧ Fr no m w m' w' ∧ Sl m' M0 1 n0 32 (hc (pk s)) ∧ Sl m' M1 1 n1 32 (hc (b (k + 1))) ∧ Sl m' M2 1 n2 32 (hc (b (k + 1))) ∧ Sl m' M3 1 n3 32 (hc (b (k + 1)))) := by
 refine enter Tryz.func32 rfl (fun Q0 hT B2 => ?_)
 have q0 : Q0.tmps.size = 57 := by rw [hT]; kernel_rfl
 have u4 : Q0.tmps.getD 0 undef = .agg ([nn 1, nn 1073741824, .slice L0 1 l0, nn 1, .slice L1 1 l1, nn 1, .slice L2 1 l2, nn 1, .slice L3 1 l3, nn 1]).toArray := by rw [hT]; kernel_rfl
 have v4 : Q0.tmps.getD 1 undef = .slice R k rc := by rw [hT]; kernel_rfl
 have C4 : Q0.tmps.getD 2 undef = nn 1 := by rw [hT]; kernel_rfl
 clear hT
 have cu0 : Fr (no) m w m w := Fr.refl ag
 refine sk fun _ E2 => rn <| gk (k_box (L := [nn 1, nn 1073741824, .slice L0 1 l0, nn 1, .slice L1 1 l1, nn 1, .slice L2 1 l2, nn 1, .slice L3 1 l3, nn 1]) ag (em q0 rfl rfl u4) (by kernel_rfl) (fun y5 S0 a2 m0 T4 => ?_))
 have p5 := m0.size
 have Y4 := a2.lt
 refine gk (k_alloc m0.ag qz_35 (fun D4 i1 W1 g0 P4 => ?_))
 have c5 := g0.size
 have Z4 := W1.lt
 refine gv (r_assign (v := nn 0) rfl) <| nl <| E2 <| sk fun _ I2 => sk fun _ J2 => rn <| gv (r_assign (v := nn 0) rfl) <| nl <| J2 <| bl ?_
 have V2 := (a2.f0 g0)
 have B3 := ((hL0.up m0).up g0)
 have F3 := ((hL1.up m0).up g0)
 have H3 := ((hL2.up m0).up g0)
 have P3 := ((hL3.up m0).up g0)
 refine wp_loop_s (σ := Nat) (I := fun (i : Nat) (a' : Act) (w' : World) => ∃ (m' : Ctx) (La : Option Addr) (ca : Nat) (Lb : Option Addr) (cb : Nat) (Lc : Option Addr) (cc : Nat) (Ld : Option Addr) (cd_ : Nat), a'.tmps.size = 57 ∧ a'.defers = [] ∧ i ≤ k ∧ a'.tmps.getD 1 undef = .slice R k rc ∧ a'.tmps.getD 2 undef = nn 1 ∧ a'.tmps.getD 3 undef = .pointer (some ⟨S0, 0, none⟩) ∧ a'.tmps.getD 6 undef = .pointer (some ⟨i1, 0, none⟩) ∧ a'.tmps.getD 8 undef = nn i ∧ Fr (on S0) m D4 m' w' ∧ Mu m' w' S0 35 ([nn (i + 1), nn 1073741824, .slice La 1 ca, nn 1, .slice Lb 1 cb, nn 1, .slice Lc 1 cc, nn 1, .slice Ld 1 cd_, nn 1]) ∧ Sl m' La 1 ca 32 (hc (pk s)) ∧ Sl m' Lb 1 cb 32 (hc (b (i + 1))) ∧ Sl m' Lc 1 cc 32 (hc (b (i + 1))) ∧ Sl m' Ld 1 cd_ 32 (hc (b (i + 1)))) (μ := fun i => k - i) (s₀ := 0) ?_ ?_
 · exact ⟨m, L0, l0, L1, l1, L2, l2, L3, l3, ((ov_size _ _).trans q0), ((ov_defers _ _).trans B2), (by omega), (gm q0 rfl rfl v4), (gm q0 rfl rfl C4), (gh q0 rfl), (gh q0 rfl), (gh q0 rfl), (Fr.refl g0.ag), V2, B3, F3, H3, P3⟩
 ·
  intro i G4 A5 hI
  obtain ⟨s4, La26, ca27, Lb28, cb29, Lc30, cc31, Ld32, cd_33, b0, j1, N4, O0, D1, G0, X0, P0, k0, m1, o1, p1, q1, r1⟩ := hI
  refine of_ov ?_
  have o5 := k0.size
  refine sk fun _ R2 => sk fun _ S2 => rn <| mw b0 P0 <| mw b0 O0 <| gv (r_lenS (eh b0 rfl) rfl qu_37) <| gv (r_lss (eh b0 rfl) (eh b0 rfl)) <| nl <| S2 ?_
  by_cases Q1 : i < k
  ·
   refine ct (eb b0 rfl (decide_eq_true Q1)) <| ws <| R2 <| sk fun _ T2 => bl <| sk fun _ U2 => rn <| mw b0 O0 <| mw b0 P0 ?_
   have V0 := Fr.ll (Fr.l2 m0 g0) k0
   have o4 := hR.le V0
   obtain ⟨y2, W0, E4, rfl, c2, d2⟩ := o4.elem (by omega)
   refine gv (r_idxS (o' := W0 + (i * 2)) (eh b0 rfl) (eh b0 rfl) qs_37 (by omega) (by omega)) <| gv (r_field (o' := W0 + (i * 2)) (eh b0 rfl) fo_41_0 (by omega)) ?_
   obtain ⟨E1, N1, t2, z2, I4, g2, D2, h2⟩ := hRt.2 i (by omega)
   refine gv (r_load1 (v := .slice E1 143 N1) (eh b0 rfl) (k0.ag _ _ c2) (at_sub d2 (Rts.at0 g2)) qr_38) ?_
   obtain ⟨d3, F1, O1, G1, P1, S1, T1, U1⟩ := D2
   have s1 := d3.le V0
   refine gk (k_cl (f74 k0.ag s1 (by omega) (by omega)) rfl fn_74 (map_cons (eh b0 rfl) map_nil) (fun u5 G5 w3 => ?_))
   obtain ⟨r0, H1, i2, I1, j2, J1, k2, K1, m2, rfl, h0, J4, K4, L4, M4⟩ := w3
   have q5 := h0.size
   refine mv b0 rfl <| gv (r_extract (v := .agg ([nn (i + 2), nn 1073741824, .slice H1 1 i2, nn 1, .slice I1 1 j2, nn 1, .slice J1 1 k2, nn 1, .slice K1 1 m2, nn 1]).toArray) (eh b0 rfl) (by kernel_rfl)) <| gv (r_extract (v := nn 0) (eh b0 rfl) (by kernel_rfl)) <| gk (k_alloc h0.ag qz_35 (fun H5 H4 b2 i0 U4 => ?_))
   have r5 := i0.size
   have a5 := b2.lt
   refine gz (kt (L' := [nn (i + 2), nn 1073741824, .slice H1 1 i2, nn 1, .slice I1 1 j2, nn 1, .slice J1 1 k2, nn 1, .slice K1 1 m2, nn 1]) i0.ag (eh b0 rfl) (eh b0 rfl) b2 sz_35 (fun u0 p3 e0 => ?_))
   have b5 := e0.size
   refine ms b0 rfl <| nl <| U2 <| sk fun _ F2 => sk fun _ G2 => rn <| mv b0 rfl <| gv (r_eql (j := 0) (eh b0 rfl) rfl) <| mv b0 rfl <| sg (t := 30) rfl rfl b0 (eb b0 rfl (by decide)) (kv (r_field (o' := 0) (eh b0 rfl) fo_35_0 (by rfl)) ?_)
   refine sg (t := 30) rfl rfl b0 (eb b0 rfl (by decide)) (kv (la (v := nn (i + 2)) (eh b0 rfl) p3.bk qr_3) ?_)
   refine sg (t := 30) rfl rfl b0 (eb b0 rfl (by decide)) (kv (r_field (o' := 0) (em b0 rfl rfl G0) fo_35_0 (by rfl)) ?_)
   have A2 := h0.t0 i0
   have k1 := ((m1.f0 A2).f1 e0 (by omega))
   refine sg (t := 30) rfl rfl b0 (eb b0 rfl (by decide)) (kv (la (v := nn (i + 1)) (eh b0 rfl) k1.bk qr_3) ?_)
   refine sg (t := 30) rfl rfl b0 (eb b0 rfl (by decide)) (kv (r_leq (eh b0 rfl) (eh b0 rfl)) ?_)
   refine gv (r_pick_t (eb b0 rfl (by decide)) (eh b0 rfl)) <| nl <| G2 ?_
   have c3 : (decide (i + 2 ≤ i + 1)) = false := (decide_eq_false (by omega))
   refine cf (eb b0 rfl c3) <| ws <| F2 <| sk fun u2 H2 => ?_
   have R1 : ∀ (a' : Act) (w' : World), (∃ (m' : Ctx) (R0 : Nat) (v0 : Option Addr) (C0 : Nat) (w0 : Option Addr) (D0 : Nat) (x0 : Option Addr) (E0 : Nat) (y0 : Option Addr) (F0 : Nat), a'.tmps.size = 57 ∧ a'.defers = [] ∧ a'.tmps.getD 1 undef = .slice (some ⟨y2, W0, none⟩) k rc ∧ a'.tmps.getD 2 undef = nn 1 ∧ a'.tmps.getD 3 undef = .pointer (some ⟨S0, 0, none⟩) ∧ a'.tmps.getD 6 undef = .pointer (some ⟨i1, 0, none⟩) ∧ a'.tmps.getD 8 undef = nn i ∧ a'.tmps.getD 11 undef = .pointer (some ⟨R0, 0, none⟩) ∧ a'.tmps.getD 12 undef = nn 0 ∧ Fr (no) r0 u0 m' w' ∧ u0.heap.size ≤ R0 ∧ Mu m' w' R0 35 ([nn (i + 2), nn 1073741824, .slice v0 1 C0, nn 1, .slice w0 1 D0, nn 1, .slice x0 1 E0, nn 1, .slice y0 1 F0, nn 1]) ∧ Sl m' v0 1 C0 32 (hc (pk s)) ∧ Sl m' w0 1 D0 32 (hc (b (i + 2))) ∧ Sl m' x0 1 E0 32 (hc (b (i + 2))) ∧ Sl m' y0 1 F0 32 (hc (b (i + 2)))) → u2 a' w' := by
    rintro F4 v5 ⟨q4, R0, v0, C0, w0, D0, x0, E0, y0, F0, c0, C2, w4, x4, s2, y4, z4, A4, B4, T0, Q4, X1, x3, y3, z3, A3⟩
    have d5 := T0.size
    have V4 := X1.lt
    refine H2 <| of_ov <| sk fun _ K2 => sk fun _ N2 => rn <| mw c0 B4 <| gv (r_neq (j := 0) (eh c0 rfl) rfl) <| nl <| N2 <| ce c0 rfl <| ws <| K2 <| rn <| gv (lb (cs := [nn (i + 2), nn 1073741824, .slice v0 1 C0, nn 1, .slice w0 1 D0, nn 1, .slice x0 1 E0, nn 1, .slice y0 1 F0, nn 1]) (em c0 rfl rfl A4) X1.bk qr_35 sz_35) ?_
    have W2 := (k1.f0 T0)
    refine gz (kt (L' := [nn (i + 2), nn 1073741824, .slice v0 1 C0, nn 1, .slice w0 1 D0, nn 1, .slice x0 1 E0, nn 1, .slice y0 1 F0, nn 1]) T0.ag (em c0 rfl rfl s2) (eh c0 rfl) W2 sz_35 (fun w5 q3 z0 => ?_))
    have e5 := z0.size
    refine nl <| T2 <| rn <| mw c0 z4 <| gv (r_add (j := 1) (eh c0 rfl) rfl (by omega)) <| ms c0 rfl <| nl <| loop_back (s := i) ⟨i + 1, (show k - (i + 1) < k - (i) from (by omega)), ?_⟩
    have C3 := (x3.up z0)
    have D3 := (y3.up z0)
    have E3 := (z3.up z0)
    have G3 := (A3.up z0)
    exact ⟨q4, v0, C0, w0, D0, x0, E0, y0, F0, ((ov_size _ _).trans c0), ((ov_defers _ _).trans C2), (by omega), (gm c0 rfl rfl w4), (gm c0 rfl rfl x4), (gm c0 rfl rfl s2), (gm c0 rfl rfl y4), (gh c0 rfl), (((((k0.t0 h0).t0 i0).tn e0 (by omega)).t0 T0).tr z0 (fun x hx => .inr (by cases hx; exact rfl))), q3, C3, D3, E3, G3⟩
   have d0 : Fr no r0 u0 r0 { u0 with drawn := u0.drawn + 1 } := Fr.drw e0.ag
   obtain ⟨Y0, e2⟩ : ∃ w_, w_ = ({ u0 with drawn := u0.drawn + 1 } : World) := ⟨_, rfl⟩
   rw [← e2] at d0
   have g5 := d0.size
   refine wp_region_T mixed (fun wz => ∃ mz, Fr (no) r0 Y0 mz wz) (fun wz => ∃ mz, Fr (no) r0 Y0 mz wz) 12 ?_
   rw [← e2]
   show wpAnyT _ _ _ _ _ 12 _ _ _
   have s0 : Fr (no) r0 Y0 r0 Y0 := Fr.refl d0.ag
   have X2 := (k1.f0 d0)
   refine tkk (i := 0) rfl rfl (fun wz ⟨mz, hz⟩ => lb (cs := [nn (i + 1), nn 1073741824, .slice La26 1 ca27, nn 1, .slice Lb28 1 cb29, nn 1, .slice Lc30 1 cc31, nn 1, .slice Ld32 1 cd_33, nn 1]) (em b0 rfl rfl G0) (hz.ex X2.bk (fun h => h)) qr_35 sz_35) ⟨_, s0⟩ <| tkk (i := 1) rfl rfl (fun _ _ => r_move (em b0 rfl rfl O0)) ⟨_, s0⟩ <| tkk (i := 2) rfl rfl (fun _ _ => r_move (em b0 rfl rfl P0)) ⟨_, s0⟩ <| tkk (i := 3) rfl rfl (fun _ _ => r_idxS (o' := W0 + (i * 2)) (eh b0 rfl) (eh b0 rfl) qs_37 (by omega) (by omega)) ⟨_, s0⟩ ?_
   have Y2 := (d0.le _ _ (e0.le _ _ (i0.le _ _ (h0.le _ _ c2))))
   refine tkk (i := 4) rfl rfl (fun wz ⟨mz, hz⟩ => r_loadN (cs := [.slice E1 143 N1, .slice t2 1 z2]) (eh b0 rfl) (hz.ag _ _ (hz.le _ _ Y2)) (Eq.trans (rd_sub d2 (by omega)) g2) (by kernel_rfl) qr_41 sz_41) ⟨_, s0⟩ <| anyT_all (rs := [5, 9]) (by kernel_rfl) (by simp) (fun O4 V1 => ?_)
   simp only [List.mem_cons, List.mem_nil_iff, or_false] at V1
   rcases V1 with rfl | rfl
   ·
    have I0 := Fr.ll (Fr.ll (Fr.l2 h0 i0) e0) d0
    have I3 := o1.le I0
    have J3 := p1.le I0
    have K3 := q1.le I0
    have N3 := r1.le I0
    have O3 := s1.le I0
    have B1 := Fr.ll (Fr.ll (Fr.ll (Fr.ll V0 h0) i0) e0) d0
    have Q3 := S1.le B1
    have R3 := T1.le B1
    have S3 := U1.le B1
    refine ao (b := true) rfl rfl rfl (by kernel_rfl) (k_cl (f75 d0.ag I3 J3 K3 N3 ⟨O3, F1, O1, G1, P1, Q3, R3, S3⟩ h2 (by omega) (by omega)) rfl fn_75 (map_cons (eh b0 rfl) (map_cons (eh b0 rfl) map_nil)) (fun s5 x5 u3 => ?_))
    obtain ⟨r4, Z0, t1, a1, u1, b1, v1, c1, w1, rfl, U0, e3, g3, h3, i3⟩ := u3
    have h5 := U0.size
    have K0 := s0.t0 U0
    refine ⟨(tbT ⟨_, K0⟩), ?_⟩
    refine tkk (i := 6) rfl rfl (fun _ _ => r_move (eh b0 rfl)) ⟨_, K0⟩ <| tkk (i := 7) rfl rfl (fun _ _ => r_extract (v := .agg ([nn (i + 2), nn 1073741824, .slice Z0 1 t1, nn 1, .slice a1 1 u1, nn 1, .slice b1 1 v1, nn 1, .slice c1 1 w1, nn 1]).toArray) (eh b0 rfl) (by kernel_rfl)) ⟨_, K0⟩ <| tkk (i := 8) rfl rfl (fun _ _ => r_extract (v := nn 0) (eh b0 rfl) (by kernel_rfl)) ⟨_, K0⟩ <| ann (i := 9) (b := true) rfl rfl (k_alloc U0.ag qz_35 (fun z5 v2 Y1 j0 R4 => ?_))
    have i5 := j0.size
    have o2 := K0.t0 j0
    have W4 := Y1.lt
    refine ⟨(tbT ⟨_, o2⟩), ?_⟩
    refine an00 (i := 10) (b := true) rfl rfl (kt (L' := [nn (i + 2), nn 1073741824, .slice Z0 1 t1, nn 1, .slice a1 1 u1, nn 1, .slice b1 1 v1, nn 1, .slice c1 1 w1, nn 1]) j0.ag (eh b0 rfl) (eh b0 rfl) Y1 sz_35 (fun B5 r3 o0 => ?_))
    have j5 := o0.size
    have p2 := o2.tn o0 (by omega)
    refine ⟨(tbT ⟨_, p2⟩), ?_⟩
    refine tkk (i := 11) rfl rfl (fun _ _ => r_assign (eh b0 rfl)) ⟨_, p2⟩ <| anyT_done (by kernel_rfl) ?_ _
    have T3 := ((e3.up j0).up o0)
    have U3 := ((g3.up j0).up o0)
    have V3 := ((h3.up j0).up o0)
    have W3 := ((i3.up j0).up o0)
    exact R1 _ _ ⟨r4, v2, Z0, t1, a1, u1, b1, v1, c1, w1, ((ov_size _ _).trans b0), ((ov_defers _ _).trans j1), (gm b0 rfl rfl O0), (gm b0 rfl rfl D1), (gm b0 rfl rfl G0), (gm b0 rfl rfl X0), (gm b0 rfl rfl P0), (gh b0 rfl), (gh b0 rfl), (((d0.t0 U0).t0 j0).tn o0 (by omega)), (by omega), r3, T3, U3, V3, W3⟩
   ·
    refine ao (b := true) rfl rfl rfl (by kernel_rfl) (k_alloc d0.ag qz_35 (fun C5 x2 Z1 A0 S4 => ?_))
    have k5 := A0.size
    have q2 := s0.t0 A0
    have X4 := Z1.lt
    refine ⟨(tbT ⟨_, q2⟩), ?_⟩
    have J0 := Fr.ll (Fr.ll (Fr.ll (Fr.l2 h0 i0) e0) d0) A0
    have X3 := o1.le J0
    have Y3 := p1.le J0
    have Z3 := q1.le J0
    have a4 := r1.le J0
    have b4 := s1.le J0
    have C1 := Fr.ll (Fr.ll (Fr.ll (Fr.ll (Fr.ll V0 h0) i0) e0) d0) A0
    have c4 := S1.le C1
    have d4 := T1.le C1
    have e4 := U1.le C1
    refine ann (i := 5) (b := true) rfl rfl (k_cl (f75 A0.ag X3 Y3 Z3 a4 ⟨b4, F1, O1, G1, P1, c4, d4, e4⟩ h2 (by omega) (by omega)) rfl fn_75 (map_cons (eh b0 rfl) (map_cons (eh b0 rfl) map_nil)) (fun t5 D5 v3 => ?_))
    obtain ⟨t4, d1, x1, e1, y1, g1, z1, h1, A1, rfl, H0, j3, k3, m3, o3⟩ := v3
    have l5 := H0.size
    have N0 := q2.t0 H0
    refine ⟨(tbT ⟨_, N0⟩), ?_⟩
    refine tkk (i := 6) rfl rfl (fun _ _ => r_move (eh b0 rfl)) ⟨_, N0⟩ <| tkk (i := 7) rfl rfl (fun _ _ => r_extract (v := .agg ([nn (i + 2), nn 1073741824, .slice d1 1 x1, nn 1, .slice e1 1 y1, nn 1, .slice g1 1 z1, nn 1, .slice h1 1 A1, nn 1]).toArray) (eh b0 rfl) (by kernel_rfl)) ⟨_, N0⟩ <| tkk (i := 8) rfl rfl (fun _ _ => r_extract (v := nn 0) (eh b0 rfl) (by kernel_rfl)) ⟨_, N0⟩ ?_
    have Z2 := (Z1.f0 H0)
    refine an00 (i := 10) (b := true) rfl rfl (kt (L' := [nn (i + 2), nn 1073741824, .slice d1 1 x1, nn 1, .slice e1 1 y1, nn 1, .slice g1 1 z1, nn 1, .slice h1 1 A1, nn 1]) H0.ag (eh b0 rfl) (eh b0 rfl) Z2 sz_35 (fun E5 s3 p0 => ?_))
    have m5 := p0.size
    have r2 := N0.tn p0 (by omega)
    refine ⟨(tbT ⟨_, r2⟩), ?_⟩
    refine tkk (i := 11) rfl rfl (fun _ _ => r_assign (eh b0 rfl)) ⟨_, r2⟩ <| anyT_done (by kernel_rfl) ?_ _
    have g4 := (j3.up p0)
    have h4 := (k3.up p0)
    have i4 := (m3.up p0)
    have j4 := (o3.up p0)
    exact R1 _ _ ⟨t4, x2, d1, x1, e1, y1, g1, z1, h1, A1, ((ov_size _ _).trans b0), ((ov_defers _ _).trans j1), (gm b0 rfl rfl O0), (gm b0 rfl rfl D1), (gm b0 rfl rfl G0), (gm b0 rfl rfl X0), (gm b0 rfl rfl P0), (gh b0 rfl), (gh b0 rfl), (((d0.t0 A0).t0 H0).tn p0 (by omega)), (by omega), s3, g4, h4, i4, j4⟩
  ·
   refine cf (eb b0 rfl (decide_eq_false Q1)) <| we ?_
   have p4 : k = i := (by omega)
   subst p4
   refine I2 <| sk fun _ O2 => sk fun _ P2 => rn <| gv (r_field (o' := 1) (em b0 rfl rfl G0) fo_35_1 (by rfl)) <| gv (la (v := nn 1073741824) (eh b0 rfl) m1.bk qr_3) <| mw b0 D1 <| gv (r_leq (eh b0 rfl) (eh b0 rfl)) <| nl <| P2 <| ce b0 rfl <| ws <| O2 <| sk fun _ Q2 => rn <| gv (lb (cs := [nn (k + 1), nn 1073741824, .slice La26 1 ca27, nn 1, .slice Lb28 1 cb29, nn 1, .slice Lc30 1 cc31, nn 1, .slice Ld32 1 cd_33, nn 1]) (em b0 rfl rfl G0) m1.bk qr_35 sz_35) ?_
   have a3 := (W1.f1 k0 (by omega))
   refine gz (kt (L' := [nn (k + 1), nn 1073741824, .slice La26 1 ca27, nn 1, .slice Lb28 1 cb29, nn 1, .slice Lc30 1 cc31, nn 1, .slice Ld32 1 cd_33, nn 1]) k0.ag (em b0 rfl rfl X0) (eh b0 rfl) a3 sz_35 (fun F5 t3 B0 => ?_))
   have n5 := B0.size
   refine gv (r_assign (v := nn 0) rfl) <| nl <| Q2 <| wp_ret <| ret_of (res2ct (b := i1) (n := 10) (cs := [nn (k + 1), nn 1073741824, .slice La26 1 ca27, nn 1, .slice Lb28 1 cb29, nn 1, .slice Lc30 1 cc31, nn 1, .slice Ld32 1 cd_33, nn 1]) (u := nn 0) rfl _ _ (gm b0 rfl rfl X0) (gh b0 rfl) t3.bk (by kernel_rfl) (by kernel_rfl) qr_35 sz_35) ((ov_defers _ _).trans j1) ?_
   have k4 := (o1.up B0)
   have l4 := (p1.up B0)
   have m4 := (q1.up B0)
   have n4 := (r1.up B0)
   exact ⟨s4, La26, ca27, Lb28, cb29, Lc30, cc31, Ld32, cd_33, rfl, ((((cu0.t0 m0).t0 g0).tn k0 (by omega)).tn B0 (by omega)), k4, l4, m4, n4⟩

end Go.Proofs.YtiggfalelcepbaaGreatDoor

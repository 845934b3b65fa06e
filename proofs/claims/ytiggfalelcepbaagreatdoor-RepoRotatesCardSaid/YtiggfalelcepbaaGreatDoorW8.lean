/- The walks of chapter 5. -/
import Derived.Test.YtiggfalelcepbaaGreatDoorK7
import Derived.Test.YtiggfalelcepbaaGreatDoorSX
import Derived.Test.YtiggfalelcepbaaGreatDoorW7
import Derived.Test.YtiggfalelcepbaaGreatDoorTX
namespace Go.Proofs.YtiggfalelcepbaaGreatDoor
open Go
set_option maxRecDepth 100000
set_option maxHeartbeats 4000000
theorem f19 {m : Ctx} {w : World} (ag : Ag m w) {s : Bytes} : Calls Tryz.prog 19 #[H s, nn 0] w (Ret fun v w' => ∃ m' k A c, v = .pointer (some ⟨k, 0, none⟩) ∧ Fr no m w m' w' ∧ Mu m' w' k 116 (hc s ++ ([.slice A 16 c, nn 0])) ∧ Sl m' A 16 c 32 (hcs (lv s)) ∧ w.heap.size ≤ k) := by
 refine enter Tryz.func19 rfl (fun w0 hT R0 => ?_)
 have c0 : w0.tmps.size = 30 := by rw [hT]; kernel_rfl
 have q1 : w0.tmps.getD 0 undef = H s := by rw [hT]; kernel_rfl
 have r1 : w0.tmps.getD 1 undef = nn 0 := by rw [hT]; kernel_rfl
 clear hT
 have cu0 : Fr (no) m w m w := Fr.refl ag
 refine sk fun _ S0 => rn <| gk (k_box (L := hc s) ag (em c0 rfl rfl q1) (by kernel_rfl) (fun S1 x0 A0 z0 z1 => ?_))
 have M1 := z0.size
 have C1 := A0.lt
 refine gv (r_assign (v := .pointer none) rfl) <| nl <| S0 <| sk fun _ a1 => rn <| gv (lb (cs := hc s) (eh c0 rfl) A0.bk qr_23 sz_23) <| mw c0 r1 <| gv (r_max0 (i := 0) (eh c0 rfl) rfl) <| gv (r_min (i := 0) (j := 16) (eh c0 rfl) rfl) <| gv (r_build (cs := hc s ++ ([.slice none 0 0, nn 0])) (pm_cons (eh c0 rfl) (pm_cons (eh c0 rfl) pm_nil)) (by kernel_rfl)) <| gk (k_box (L := hc s ++ ([.slice none 0 0, nn 0])) z0.ag (eh c0 rfl) (by kernel_rfl) (fun d0 e0 I0 q0 y1 => ?_))
 have I1 := q0.size
 have A1 := I0.lt
 refine ms c0 rfl <| nl <| a1 <| sk fun _ U0 => sk fun _ V0 => rn <| gv (r_move (v := nn 0) rfl) <| nl <| V0 <| bl <| wp_loop_s (σ := Nat) (I := fun (i : Nat) (a' : Act) (w' : World) => ∃ (m' : Ctx) (Ax0 : Option Addr) (cx0 : Nat) (Nx0 : Nat), a'.tmps.size = 30 ∧ a'.defers = [] ∧ i ≤ 16 ∧ Nx0 = i ∧ a'.tmps.getD 2 undef = .pointer (some ⟨x0, 0, none⟩) ∧ a'.tmps.getD 5 undef = .pointer (some ⟨e0, 0, none⟩) ∧ a'.tmps.getD 13 undef = nn i ∧ Fr (on e0) m d0 m' w' ∧ Mu m' w' e0 116 (hc s ++ ([.slice Ax0 Nx0 cx0, nn 0])) ∧ Own m' w' (d0.heap.size) Ax0 Nx0 cx0 23 32 (hcs (chL (pubL s) i))) (μ := fun i => 16 - i) (s₀ := 0) ?_ ?_
 · exact ⟨m, none, 0, 0, ((ov_size _ _).trans c0), ((ov_defers _ _).trans R0), (by omega), (by omega), (gh c0 rfl), (gh c0 rfl), (gh c0 rfl), (Fr.refl q0.ag), I0, (Own.nil _ _ _ _ _)⟩
 ·
  intro i s1 p0 hI
  obtain ⟨i0, Ax022, cx023, Nx024, b0, F0, v1, w1, O0, v0, C0, m0, K0, s0⟩ := hI
  refine of_ov ?_
  have L1 := m0.size
  have nc_Ax022 := s0.nilc
  refine sk fun _ W0 => rn <| gv (r_lss (j := 16) (em b0 rfl rfl C0) rfl) <| nl <| W0 <| sk fun _ X0 => ?_
  by_cases H0 : i < 16
  ·
   refine ct (eb b0 rfl (decide_eq_true H0)) <| ws <| X0 <| sk fun _ Y0 => bl <| sk fun _ Z0 => rn <| mw b0 C0 <| ms b0 rfl <| nl <| Z0 ?_
   have g0 : Fr no i0 p0 i0 { p0 with drawn := p0.drawn + 1 } := Fr.drw m0.ag
   obtain ⟨n0, L0⟩ : ∃ w_, w_ = ({ p0 with drawn := p0.drawn + 1 } : World) := ⟨_, rfl⟩
   rw [← L0] at g0
   have E1 := g0.size
   refine wp_region_T mixed (fun wz => ∃ mz, Fr (no) i0 n0 mz wz) (fun wz => ∃ mz, Fr (orS (ge d0.heap.size) (on e0)) i0 n0 mz wz) 9 ?_
   rw [← L0]
   show wpAnyT _ _ _ _ _ 13 _ _ _
   have j0 : Fr (no) i0 n0 i0 n0 := Fr.refl g0.ag
   have h0 : ∀ wz, (∃ mz, Fr (no) i0 n0 mz wz) → ∃ mz, Fr (orS (ge d0.heap.size) (on e0)) i0 n0 mz wz := fun wz ⟨mz, hz⟩ => ⟨mz, hz.wk (fun x hx _ => hx.elim)⟩
   refine tk1 (i := 0) (b := false) rfl rfl h0 (fun _ _ => r_move (em b0 rfl rfl v0)) (tbF ⟨_, j0⟩) <| tk1 (i := 1) (b := false) rfl rfl h0 (fun _ _ => r_move (em b0 rfl rfl v0)) (tbF ⟨_, j0⟩) <| tk1 (i := 2) (b := false) rfl rfl h0 (fun _ _ => r_nilCheck (eh b0 rfl)) (tbF ⟨_, j0⟩) <| tk1 (i := 3) (b := false) rfl rfl h0 (fun _ _ => r_field (o' := 32) (eh b0 rfl) fo_116_1 (by rfl)) (tbF ⟨_, j0⟩) ?_
   have G0 := (K0.f0 g0)
   refine tk2 (i := 4) rfl rfl (fun wz ⟨mz, hz⟩ => la (v := .slice Ax022 Nx024 cx023) (eh b0 rfl) (hz.ex G0.bk (fun h => h)) qr_27) ⟨_, j0⟩ ?_
   have b1 := (((A0.f0 q0).f1 m0 (by omega)).f0 g0)
   refine tk1 (i := 5) (b := false) rfl rfl h0 (fun wz ⟨mz, hz⟩ => lb (cs := hc s) (em b0 rfl rfl O0) (hz.ex b1.bk (fun h => h.elim (show ¬ d0.heap.size ≤ x0 from by omega) (show x0 ≠ e0 from by omega))) qr_23 sz_23) (tbF ⟨_, j0⟩) <| tk1 (i := 6) (b := false) rfl rfl h0 (fun _ _ => r_move (eh b0 rfl)) (tbF ⟨_, j0⟩) <| ann (i := 7) (b := false) rfl rfl (k_cl (f47 g0.ag) rfl fn_47 (map_cons (eh b0 rfl) (map_cons (eh b0 rfl) map_nil)) (fun N1 O1 g1 => ?_))
   obtain ⟨m1, rfl, k0⟩ := g1
   have F1 := k0.size
   have M0 := j0.t0 k0
   refine ⟨(tbF ⟨_, M0⟩), ?_⟩
   refine ann (i := 8) (b := false) rfl rfl (k_lit (e := 23) (L := hc (pubL s i)) k0.ag (pm_cons (eh b0 rfl) pm_nil) (by kernel_rfl) (fun P1 t1 J0 l0 x1 => ?_))
   have G1 := l0.size
   have N0 := M0.t0 l0
   have B1 := J0.lt
   refine ⟨(tbF ⟨_, N0⟩), ?_⟩
   have o1 : Fr (orS (ge d0.heap.size) (on e0)) _ _ _ _ := N0.wk (fun x hx _ => hx.elim)
   have h1 := (((s0.f0 g0).f0 k0).f0 l0)
   have u1 : ((chL (pubL s) i) ++ ([pubL s i]) : List Bytes).length = Nx024 + 1 := (len_app (Eq.trans (chL_len _ _) (by omega)) rfl)
   refine ann (i := 9) (b := true) rfl rfl (k_append (base := d0.heap.size) (L := hcs (chL (pubL s) i)) (N := hcs ([pubL s i])) l0.ag (eh b0 rfl) (eh b0 rfl) qs_27 qz_23 h1 (by have h_ := (J0.bk.src (L := hc (pubL s i)) (n := 1) (o := 0) (k := 32) (by kernel_rfl)); rw [← hcs_one] at h_; exact h_) (fun h => by cases h) (by rw [hcs_length, show ([pubL s i] : List Bytes).length = 1 from rfl]) (one_hcs _) (by omega) (by decide) (by rw [maxLen_eq]; omega) (by omega) (fun D0 E0 Q1 B0 o0 => ?_))
   have H1 := o0.size
   have u0 := o1.tr o0 (fun x hx => .inr (by have h_ : d0.heap.size ≤ x := hx; exact (.inl h_)))
   rw [← hcs_append] at B0
   have D1 := B0.nilc
   refine ⟨(tbT ⟨_, u0⟩), ?_⟩
   refine tk1 (i := 10) (b := true) rfl rfl h0 (fun _ _ => r_nilCheck (eh b0 rfl)) (tbT ⟨_, u0⟩) <| tk1 (i := 11) (b := true) rfl rfl h0 (fun _ _ => r_field (o' := 32) (eh b0 rfl) fo_116_1 (by rfl)) (tbT ⟨_, u0⟩) ?_
   have P0 := k0.t0 l0
   have c1 := ((G0.f0 P0).fs o0 (show ¬ d0.heap.size ≤ e0 from by omega))
   refine an00 (i := 12) (b := true) rfl rfl (kt (L' := hc s ++ ([.slice D0 (Nx024 + 1) E0, nn 0])) o0.ag (eh b0 rfl) (eh b0 rfl) c1 sz_27 (fun R1 e1 r0 => ?_))
   have J1 := r0.size
   have p1 := u0.tr r0 (fun x hx => .inr (by cases hx; exact (.inr rfl)))
   refine ⟨(tbT ⟨_, p1⟩), ?_⟩
   refine anyT_done (by kernel_rfl) ?_ _
   refine Y0 <| rn <| gv (r_add (j := 1) (em b0 rfl rfl C0) rfl (by omega)) <| mv b0 rfl <| nl <| loop_back (s := i) ⟨i + 1, (show 16 - (i + 1) < 16 - (i) from (by omega)), ?_⟩
   have i1 := (B0.f1 r0 (by omega))
   exact ⟨m1, D0, E0, Nx024 + 1, ((ov_size _ _).trans b0), ((ov_defers _ _).trans F0), (by omega), (by omega), (gm b0 rfl rfl O0), (gm b0 rfl rfl v0), (gh b0 rfl), (((((m0.t0 g0).t0 k0).t0 l0).tg o0 (by omega)).tr r0 (fun x hx => .inr (by cases hx; exact rfl))), e1, i1⟩
  ·
   refine cf (eb b0 rfl (decide_eq_false H0)) <| we ?_
   have k1 : 16 = i := (by omega)
   subst k1
   have l1 : 16 = Nx024 := by omega
   subst l1
   refine U0 <| sk fun _ T0 => rn <| mw b0 v0 <| ms b0 rfl <| nl <| T0 <| wp_ret <| ret_of (res1 rfl _ _ (gh b0 rfl)) ((ov_defers _ _).trans F0) ?_
   obtain ⟨n1, Q0, j1⟩ := s0.fz m0.ag
   have y0 : Fr (ge d0.heap.size) _ _ _ _ := Q0.wk (fun x hx _ => s0.at x hx)
   have K1 := y0.size
   have d1 := (K0.fs y0 (show ¬ d0.heap.size ≤ e0 from by omega))
   exact ⟨n1, e0, Ax022, cx023, rfl, ((((cu0.t0 z0).t0 q0).tn m0 (by omega)).tg y0 (by omega)), d1, j1, (by omega)⟩

theorem f14 {m : Ctx} {w : World} (ag : Ag m w) {s : Bytes} : Calls Tryz.prog 14 #[H s, nn 0] w (Ret fun v w' => ∃ m' k A c, v = .pointer (some ⟨k, 0, none⟩) ∧ Fr no m w m' w' ∧ Mu m' w' k 29 (hc s ++ ([.slice A 16 c] ++ (hc (pk s) ++ ([nn 0])))) ∧ Sl m' A 16 c 32 (hcs (lv s)) ∧ w.heap.size ≤ k) := by
 refine enter Tryz.func14 rfl (fun z0 hT W0 => ?_)
 have c0 : z0.tmps.size = 39 := by rw [hT]; kernel_rfl
 have z1 : z0.tmps.getD 0 undef = H s := by rw [hT]; kernel_rfl
 have A1 : z0.tmps.getD 1 undef = nn 0 := by rw [hT]; kernel_rfl
 clear hT
 have cu0 : Fr (no) m w m w := Fr.refl ag
 refine sk fun _ X0 => rn <| gk (k_box (L := hc s) ag (em c0 rfl rfl z1) (by kernel_rfl) (fun n2 A0 E0 C0 I1 => ?_))
 have a2 := C0.size
 have L1 := E0.lt
 refine gv (r_assign (v := .pointer none) rfl) <| nl <| X0 <| sk fun _ g1 => rn <| gv (lb (cs := hc s) (eh c0 rfl) E0.bk qr_23 sz_23) <| mw c0 A1 <| gv (r_max0 (i := 0) (eh c0 rfl) rfl) <| gv (r_min (i := 0) (j := 16) (eh c0 rfl) rfl) <| gv (r_build (cs := hc s ++ ([.slice none 0 0] ++ (hc (List.replicate 32 0) ++ ([nn 0])))) (pm_cons (eh c0 rfl) (pm_cons (eh c0 rfl) pm_nil)) (by kernel_rfl)) <| gk (k_box (L := hc s ++ ([.slice none 0 0] ++ (hc (List.replicate 32 0) ++ ([nn 0])))) C0.ag (eh c0 rfl) (by kernel_rfl) (fun d0 e0 M0 u0 H1 => ?_))
 have T1 := u0.size
 have J1 := M0.lt
 refine ms c0 rfl <| nl <| g1 <| sk fun _ Z0 => sk fun _ a1 => rn <| gv (r_assign (v := nn 0) rfl) <| nl <| a1 <| bl <| wp_loop_s (σ := Nat) (I := fun (i : Nat) (a' : Act) (w' : World) => ∃ (m' : Ctx) (Ax0 : Option Addr) (cx0 : Nat) (Nx0 : Nat), a'.tmps.size = 39 ∧ a'.defers = [] ∧ i ≤ 16 ∧ Nx0 = i ∧ a'.tmps.getD 2 undef = .pointer (some ⟨A0, 0, none⟩) ∧ a'.tmps.getD 5 undef = .pointer (some ⟨e0, 0, none⟩) ∧ a'.tmps.getD 6 undef = nn i ∧ Fr (on e0) m d0 m' w' ∧ Mu m' w' e0 29 (hc s ++ ([.slice Ax0 Nx0 cx0] ++ (hc (List.replicate 32 0) ++ ([nn 0])))) ∧ Own m' w' (d0.heap.size) Ax0 Nx0 cx0 23 32 (hcs (chL (pubL s) i))) (μ := fun i => 16 - i) (s₀ := 0) ?_ ?_
 · exact ⟨m, none, 0, 0, ((ov_size _ _).trans c0), ((ov_defers _ _).trans W0), (by omega), (by omega), (gh c0 rfl), (gh c0 rfl), (gh c0 rfl), (Fr.refl u0.ag), M0, (Own.nil _ _ _ _ _)⟩
 ·
  intro i B1 s0 hI
  obtain ⟨i0, Ax022, cx023, Nx024, b0, J0, E1, F1, S0, n0, G0, m0, D0, x0⟩ := hI
  refine of_ov ?_
  have Z1 := m0.size
  have nc_Ax022 := x0.nilc
  refine sk fun _ c1 => sk fun _ d1 => rn <| mw b0 G0 <| gv (r_lss (j := 16) (eh b0 rfl) rfl) <| nl <| d1 ?_
  by_cases L0 : i < 16
  ·
   refine ct (eb b0 rfl (decide_eq_true L0)) <| ws <| c1 <| sk fun _ e1 => bl ?_
   have g0 : Fr no i0 s0 i0 { s0 with drawn := s0.drawn + 1 } := Fr.drw m0.ag
   obtain ⟨o0, P0⟩ : ∃ w_, w_ = ({ s0 with drawn := s0.drawn + 1 } : World) := ⟨_, rfl⟩
   rw [← P0] at g0
   have P1 := g0.size
   refine wp_region_T mixed (fun wz => ∃ mz, Fr (no) i0 o0 mz wz) (fun wz => ∃ mz, Fr (orS (ge d0.heap.size) (on e0)) i0 o0 mz wz) 9 ?_
   rw [← P0]
   show wpAnyT _ _ _ _ _ 13 _ _ _
   have j0 : Fr (no) i0 o0 i0 o0 := Fr.refl g0.ag
   have h0 : ∀ wz, (∃ mz, Fr (no) i0 o0 mz wz) → ∃ mz, Fr (orS (ge d0.heap.size) (on e0)) i0 o0 mz wz := fun wz ⟨mz, hz⟩ => ⟨mz, hz.wk (fun x hx _ => hx.elim)⟩
   refine tk1 (i := 0) (b := false) rfl rfl h0 (fun _ _ => r_move (em b0 rfl rfl n0)) (tbF ⟨_, j0⟩) <| tk1 (i := 1) (b := false) rfl rfl h0 (fun _ _ => r_move (em b0 rfl rfl n0)) (tbF ⟨_, j0⟩) <| tk1 (i := 2) (b := false) rfl rfl h0 (fun _ _ => r_nilCheck (eh b0 rfl)) (tbF ⟨_, j0⟩) <| tk1 (i := 3) (b := false) rfl rfl h0 (fun _ _ => r_field (o' := 32) (eh b0 rfl) fo_29_1 (by rfl)) (tbF ⟨_, j0⟩) ?_
   have K0 := (D0.f0 g0)
   refine tk2 (i := 4) rfl rfl (fun wz ⟨mz, hz⟩ => la (v := .slice Ax022 Nx024 cx023) (eh b0 rfl) (hz.ex K0.bk (fun h => h)) qr_27) ⟨_, j0⟩ ?_
   have h1 := (((E0.f0 u0).f1 m0 (by omega)).f0 g0)
   refine tk1 (i := 5) (b := false) rfl rfl h0 (fun wz ⟨mz, hz⟩ => lb (cs := hc s) (em b0 rfl rfl S0) (hz.ex h1.bk (fun h => h.elim (show ¬ d0.heap.size ≤ A0 from by omega) (show A0 ≠ e0 from by omega))) qr_23 sz_23) (tbF ⟨_, j0⟩) <| tk1 (i := 6) (b := false) rfl rfl h0 (fun _ _ => r_move (em b0 rfl rfl G0)) (tbF ⟨_, j0⟩) <| ann (i := 7) (b := false) rfl rfl (k_cl (f38 g0.ag) rfl fn_38 (map_cons (eh b0 rfl) (map_cons (eh b0 rfl) map_nil)) (fun b2 e2 m1 => ?_))
   obtain ⟨v1, rfl, k0⟩ := m1
   have Q1 := k0.size
   have Q0 := j0.t0 k0
   refine ⟨(tbF ⟨_, Q0⟩), ?_⟩
   refine ann (i := 8) (b := false) rfl rfl (k_lit (e := 23) (L := hc (pubL s i)) k0.ag (pm_cons (eh b0 rfl) pm_nil) (by kernel_rfl) (fun g2 C1 N0 l0 G1 => ?_))
   have R1 := l0.size
   have R0 := Q0.t0 l0
   have K1 := N0.lt
   refine ⟨(tbF ⟨_, R0⟩), ?_⟩
   have x1 : Fr (orS (ge d0.heap.size) (on e0)) _ _ _ _ := R0.wk (fun x hx _ => hx.elim)
   have p1 := (((x0.f0 g0).f0 k0).f0 l0)
   have D1 : ((chL (pubL s) i) ++ ([pubL s i]) : List Bytes).length = Nx024 + 1 := (len_app (Eq.trans (chL_len _ _) (by omega)) rfl)
   refine ann (i := 9) (b := true) rfl rfl (k_append (base := d0.heap.size) (L := hcs (chL (pubL s) i)) (N := hcs ([pubL s i])) l0.ag (eh b0 rfl) (eh b0 rfl) qs_27 qz_23 p1 (by have h_ := (N0.bk.src (L := hc (pubL s i)) (n := 1) (o := 0) (k := 32) (by kernel_rfl)); rw [← hcs_one] at h_; exact h_) (fun h => by cases h) (by rw [hcs_length, show ([pubL s i] : List Bytes).length = 1 from rfl]) (one_hcs _) (by omega) (by decide) (by rw [maxLen_eq]; omega) (by omega) (fun H0 I0 h2 F0 p0 => ?_))
   have S1 := p0.size
   have y0 := x1.tr p0 (fun x hx => .inr (by have h_ : d0.heap.size ≤ x := hx; exact (.inl h_)))
   rw [← hcs_append] at F0
   have O1 := F0.nilc
   refine ⟨(tbT ⟨_, y0⟩), ?_⟩
   refine tk1 (i := 10) (b := true) rfl rfl h0 (fun _ _ => r_nilCheck (eh b0 rfl)) (tbT ⟨_, y0⟩) <| tk1 (i := 11) (b := true) rfl rfl h0 (fun _ _ => r_field (o' := 32) (eh b0 rfl) fo_29_1 (by rfl)) (tbT ⟨_, y0⟩) ?_
   have T0 := k0.t0 l0
   have i1 := ((K0.f0 T0).fs p0 (show ¬ d0.heap.size ≤ e0 from by omega))
   refine an00 (i := 12) (b := true) rfl rfl (kt (L' := hc s ++ ([.slice H0 (Nx024 + 1) I0] ++ (hc (List.replicate 32 0) ++ ([nn 0])))) p0.ag (eh b0 rfl) (eh b0 rfl) i1 sz_27 (fun i2 k1 v0 => ?_))
   have U1 := v0.size
   have y1 := y0.tr v0 (fun x hx => .inr (by cases hx; exact (.inr rfl)))
   refine ⟨(tbT ⟨_, y1⟩), ?_⟩
   refine anyT_done (by kernel_rfl) ?_ _
   refine e1 <| rn <| mw b0 G0 <| gv (r_add (j := 1) (eh b0 rfl) rfl (by omega)) <| ms b0 rfl <| nl <| loop_back (s := i) ⟨i + 1, (show 16 - (i + 1) < 16 - (i) from (by omega)), ?_⟩
   have q1 := (F0.f1 v0 (by omega))
   exact ⟨v1, H0, I0, Nx024 + 1, ((ov_size _ _).trans b0), ((ov_defers _ _).trans J0), (by omega), (by omega), (gm b0 rfl rfl S0), (gm b0 rfl rfl n0), (gh b0 rfl), (((((m0.t0 g0).t0 k0).t0 l0).tg p0 (by omega)).tr v0 (fun x hx => .inr (by cases hx; exact rfl))), k1, q1⟩
  ·
   refine cf (eb b0 rfl (decide_eq_false L0)) <| we ?_
   have s1 : 16 = i := (by omega)
   subst s1
   have t1 : 16 = Nx024 := by omega
   subst t1
   refine Z0 <| sk fun _ Y0 => rn <| mw b0 n0 <| mw b0 n0 <| nc b0 rfl <| gv (r_field (o' := 32) (eh b0 rfl) fo_29_1 (by rfl)) <| gv (la (v := .slice Ax022 16 cx023) (eh b0 rfl) D0.bk qr_27) ?_
   obtain ⟨M1, U0, O0⟩ := x0.fz m0.ag
   have w0 : Fr (ge d0.heap.size) _ _ _ _ := U0.wk (fun x hx _ => x0.at x hx)
   have V1 := w0.size
   refine gk (k_cl (f40_4 w0.ag O0 (Eq.trans (chL_len _ _) (by decide))) rfl fn_40 (map_cons (eh b0 rfl) map_nil) (fun c2 j2 n1 => ?_))
   obtain ⟨N1, rfl, q0⟩ := n1
   have W1 := q0.size
   refine gk (k_cl (f39 q0.ag) rfl fn_39 (map_cons (eh b0 rfl) map_nil) (fun d2 k2 o1 => ?_))
   obtain ⟨w1, rfl, r0⟩ := o1
   have X1 := r0.size
   refine nc b0 rfl <| gv (r_field (o' := 33) (eh b0 rfl) fo_29_2 (by rfl)) ?_
   have V0 := q0.t0 r0
   have j1 := ((D0.fs w0 (show ¬ d0.heap.size ≤ e0 from by omega)).f0 V0)
   refine gz (kt (L' := hc s ++ ([.slice Ax022 16 cx023] ++ (hc (nam (mr 4 (chL (pubL s) 16))) ++ ([nn 0])))) r0.ag (eh b0 rfl) (eh b0 rfl) j1 sz_23 (fun m2 l1 B0 => ?_))
   have Y1 := B0.size
   refine nl <| Y0 <| sk fun _ b1 => rn <| mw b0 n0 <| ms b0 rfl <| nl <| b1 <| wp_ret <| ret_of (res1 rfl _ _ (gh b0 rfl)) ((ov_defers _ _).trans J0) ?_
   have u1 := Fr.ll (Fr.l2 q0 r0) B0
   have r1 := O0.le u1
   exact ⟨w1, e0, Ax022, cx023, rfl, (((((((cu0.t0 C0).t0 u0).tn m0 (by omega)).tg w0 (by omega)).t0 q0).t0 r0).tn B0 (by omega)), l1, r1, (by omega)⟩

theorem f28 {m : Ctx} {w : World} (ag : Ag m w) {k c u : Nat} {A : Option Addr} {s : Bytes} (hmK : Mu m w k 116 (hc s ++ ([.slice A 16 c, nn u]))) (hlv : Sl m A 16 c 32 (hcs (lv s))) : Calls Tryz.prog 28 #[.pointer (some ⟨k, 0, none⟩)] w (Ret fun v w' => ∃ m' , v = H (pk s) ∧ Fr no m w m' w') := by
 refine enter Tryz.func28 rfl (fun g0 hT m0 => ?_)
 have b0 : g0.tmps.size = 12 := by rw [hT]; kernel_rfl
 have j0 : g0.tmps.getD 0 undef = .pointer (some ⟨k, 0, none⟩) := by rw [hT]; kernel_rfl
 clear hT
 have cu0 : Fr (no) m w m w := Fr.refl ag
 have lt_k := hmK.lt
 refine sk fun _ n0 => rn <| gk (k_alloc ag qz_23 (fun J0 k0 i0 c0 z0 => ?_))
 have F0 := c0.size
 have A0 := i0.lt
 refine nl <| n0 <| sk fun _ p0 => sk fun _ q0 => rn <| mw b0 j0 <| gv (r_eqlNil (eh b0 rfl) rfl qu_73) <| nl <| q0 <| cf (eh b0 rfl) <| ws <| p0 <| sk fun _ o0 => rn <| mw b0 j0 <| nc b0 rfl <| gv (r_field (o' := 32) (eh b0 rfl) fo_116_1 (by rfl)) ?_
 have r0 := (hmK.f0 c0)
 refine gv (la (v := .slice A 16 c) (eh b0 rfl) r0.bk qr_27) ?_
 have x0 := (hlv.up c0)
 refine gk (k_cl (f67_4 c0.ag x0 (chL_len _ _)) rfl fn_67 (map_cons (eh b0 rfl) map_nil) (fun G0 I0 v0 => ?_))
 obtain ⟨B0, rfl, d0⟩ := v0
 have C0 := d0.size
 refine gk (k_cl (f66 d0.ag) rfl fn_66 (map_cons (eh b0 rfl) map_nil) (fun H0 K0 w0 => ?_))
 obtain ⟨y0, rfl, e0⟩ := w0
 have D0 := e0.size
 have l0 := d0.t0 e0
 have s0 := (i0.f0 l0)
 refine gz (kt (L' := hc (nam (mr 4 (lv s)))) e0.ag (eh b0 rfl) (eh b0 rfl) s0 sz_23 (fun L0 u0 h0 => ?_))
 have E0 := h0.size
 refine nl <| o0 <| wp_ret <| ret_of (res1c (b := k0) (n := 32) (cs := hc (nam (mr 4 (lv s)))) rfl _ _ (gh b0 rfl) u0.bk (by kernel_rfl) (by kernel_rfl) qr_23 sz_23) ((ov_defers _ _).trans m0) ?_
 exact ⟨y0, rfl, ((((cu0.t0 c0).t0 d0).t0 e0).tn h0 (by omega))⟩

theorem f22 {m : Ctx} {w : World} (ag : Ag m w) {k c u : Nat} {A : Option Addr} {s : Bytes} (hmK : Mu m w k 116 (hc s ++ ([.slice A 16 c, nn u]))) (hlv : Sl m A 16 c 32 (hcs (lv s))) : Calls Tryz.prog 22 #[.pointer (some ⟨k, 0, none⟩)] w (Ret fun v w' => ∃ m' , v = nn u ∧ Fr no m w m' w') := by
 refine enter Tryz.func22 rfl (fun c0 hT e0 => ?_)
 have b0 : c0.tmps.size = 9 := by rw [hT]; kernel_rfl
 have d0 : c0.tmps.getD 0 undef = .pointer (some ⟨k, 0, none⟩) := by rw [hT]; kernel_rfl
 clear hT
 have cu0 : Fr (no) m w m w := Fr.refl ag
 have lt_k := hmK.lt
 refine sk fun _ g0 => rn <| gv (r_assign (v := nn 0) rfl) <| nl <| g0 <| sk fun _ h0 => sk fun _ i0 => rn <| mw b0 d0 <| gv (r_eqlNil (eh b0 rfl) rfl qu_73) <| nl <| i0 <| cf (eh b0 rfl) <| ws <| h0 <| sk fun _ j0 => rn <| mw b0 d0 <| nc b0 rfl <| gv (r_field (o' := 33) (eh b0 rfl) fo_116_2 (by rfl)) <| gv (la (v := nn u) (eh b0 rfl) hmK.bk qr_3) <| ms b0 rfl <| nl <| j0 <| wp_ret <| ret_of (res1 rfl _ _ (gh b0 rfl)) ((ov_defers _ _).trans e0) ?_
 exact ⟨m, rfl, cu0⟩

theorem f29 {m : Ctx} {w : World} (ag : Ag m w) {k c u : Nat} {A : Option Addr} {s : Bytes} {D : Option Addr} {n d : Nat} {p : Bytes} (hmK : Mu m w k 116 (hc s ++ ([.slice A 16 c, nn u]))) (hlv : Sl m A 16 c 32 (hcs (lv s))) (hsl : Sl m D n d 1 (bv p)) (hp : p.length = n) (hn : n < 4294967296) (hu : u < 16) : Calls Tryz.prog 29 #[.pointer (some ⟨k, 0, none⟩), .slice D n d] w (Ret fun v w' => ∃ m' A' c' B' d', v = .tuple #[.agg ([nn u, .slice A' 36 c', .slice B' 4 d']).toArray, nn 0] ∧ Fr (on k) m w m' w' ∧ Mu m' w' k 116 (hc s ++ ([.slice A 16 c, nn (u + 1)])) ∧ Sl m' A' 36 c' 32 (hcs (chL (sgf s u p) 36)) ∧ Sl m' B' 4 d' 32 (hcs (mp 4 (lv s) u))) := by
 refine enter Tryz.func29 rfl (fun v0 hT J0 => ?_)
 have b0 : v0.tmps.size = 44 := by rw [hT]; kernel_rfl
 have i0 : v0.tmps.getD 0 undef = .pointer (some ⟨k, 0, none⟩) := by rw [hT]; kernel_rfl
 have j1 : v0.tmps.getD 1 undef = .slice D n d := by rw [hT]; kernel_rfl
 clear hT
 have cu0 : Fr (on k) m w m w := Fr.refl ag
 have lt_k := hmK.lt
 refine sk fun _ K0 => rn <| gk (k_alloc ag qz_110 (fun y1 p0 z0 l0 k1 => ?_))
 have s1 := l0.size
 have l1 := z0.lt
 refine gv (r_assign (v := nn 0) rfl) <| nl <| K0 <| sk fun _ P0 => bl <| sk fun _ Q0 => rn <| mw b0 i0 <| gv (r_eqlNil (eh b0 rfl) rfl qu_73) <| ms b0 rfl <| nl <| Q0 <| cf (eh b0 rfl) <| sk fun _ L0 => rn <| mw b0 i0 <| nc b0 rfl <| gv (r_field (o' := 33) (eh b0 rfl) fo_116_2 (by rfl)) ?_
 have u0 := (hmK.f0 l0)
 refine gv (la (v := nn u) (eh b0 rfl) u0.bk qr_3) <| gv (r_geq (j := 16) (eh b0 rfl) rfl) <| ms b0 rfl <| nl <| L0 ?_
 have T0 : (decide (16 ≤ u)) = false := (decide_eq_false (by omega))
 refine cf (eb b0 rfl T0) <| ws <| P0 <| sk fun _ M0 => rn <| mw b0 i0 <| nc b0 rfl <| gv (r_field (o' := 33) (eh b0 rfl) fo_116_2 (by rfl)) <| gv (la (v := nn u) (eh b0 rfl) u0.bk qr_3) <| ms b0 rfl <| nl <| M0 <| sk fun _ N0 => rn <| mw b0 i0 <| nc b0 rfl <| gv (r_field (o' := 33) (eh b0 rfl) fo_116_2 (by rfl)) <| gv (la (v := nn u) (eh b0 rfl) u0.bk qr_3) <| gv (r_add (j := 1) (eh b0 rfl) rfl (by omega)) <| nc b0 rfl <| gv (r_field (o' := 33) (eh b0 rfl) fo_116_2 (by rfl)) <| gz (kt (L' := hc s ++ ([.slice A 16 c, nn (u + 1)])) l0.ag (eh b0 rfl) (eh b0 rfl) u0 sz_3 (fun m0 V0 k0 => ?_))
 have q1 := k0.size
 refine nl <| N0 <| sk fun _ O0 => ?_
 have d0 : Fr no m m0 m { m0 with drawn := m0.drawn + 1 } := Fr.drw k0.ag
 obtain ⟨j0, B0⟩ : ∃ w_, w_ = ({ m0 with drawn := m0.drawn + 1 } : World) := ⟨_, rfl⟩
 rw [← B0] at d0
 have r1 := d0.size
 refine wp_region_T mixed (fun wz => ∃ mz, Fr (no) m j0 mz wz) (fun wz => ∃ mz, Fr (on p0) m j0 mz wz) 15 ?_
 rw [← B0]
 show wpAnyT _ _ _ _ _ 17 _ _ _
 have c0 : Fr (no) m j0 m j0 := Fr.refl d0.ag
 have X0 : ∀ wz, (∃ mz, Fr (no) m j0 mz wz) → ∃ mz, Fr (on p0) m j0 mz wz := fun wz ⟨mz, hz⟩ => ⟨mz, hz.wk (fun x hx _ => hx.elim)⟩
 refine tk2 (i := 0) rfl rfl (fun _ _ => r_move (eh b0 rfl)) ⟨_, c0⟩ <| tk2 (i := 1) rfl rfl (fun _ _ => r_move (em b0 rfl rfl i0)) ⟨_, c0⟩ <| tk2 (i := 2) rfl rfl (fun _ _ => r_nilCheck (eh b0 rfl)) ⟨_, c0⟩ <| tk2 (i := 3) rfl rfl (fun _ _ => r_field (o' := 0) (eh b0 rfl) fo_116_0 (by rfl)) ⟨_, c0⟩ ?_
 have w0 := (V0.f0 d0)
 refine tk2 (i := 4) rfl rfl (fun wz ⟨mz, hz⟩ => lb (cs := hc s) (eh b0 rfl) (hz.ex w0.bk (fun h => h)) qr_23 sz_23) ⟨_, c0⟩ <| tk2 (i := 5) rfl rfl (fun _ _ => r_move (eh b0 rfl)) ⟨_, c0⟩ <| tk2 (i := 6) rfl rfl (fun _ _ => r_move (em b0 rfl rfl j1)) ⟨_, c0⟩ <| tk2 (i := 8) rfl rfl (fun _ _ => r_move (em b0 rfl rfl i0)) ⟨_, c0⟩ <| tk2 (i := 9) rfl rfl (fun _ _ => r_nilCheck (eh b0 rfl)) ⟨_, c0⟩ <| tk2 (i := 10) rfl rfl (fun _ _ => r_field (o' := 32) (eh b0 rfl) fo_116_1 (by rfl)) ⟨_, c0⟩ <| tk2 (i := 11) rfl rfl (fun wz ⟨mz, hz⟩ => la (v := .slice A 16 c) (eh b0 rfl) (hz.ex w0.bk (fun h => h)) qr_27) ⟨_, c0⟩ <| tk2 (i := 12) rfl rfl (fun _ _ => r_move (eh b0 rfl)) ⟨_, c0⟩ ?_
 have C0 := Fr.ll (Fr.l2 l0 k0) d0
 have b1 := hsl.le C0
 refine ann (i := 7) (b := false) rfl rfl (k_cl (f68 d0.ag b1 hp (by omega)) rfl fn_68 (map_cons (eh b0 rfl) (map_cons (eh b0 rfl) (map_cons (eh b0 rfl) map_nil))) (fun w1 F0 Y0 => ?_))
 obtain ⟨m1, n0, q0, rfl, e0, U0⟩ := Y0
 have t1 := e0.size
 have D0 := c0.t0 e0
 refine ⟨(tbF ⟨_, D0⟩), ?_⟩
 have g1 := Fr.ll C0 e0
 have c1 := hlv.le g1
 refine ann (i := 13) (b := false) rfl rfl (k_cl (f69_4 e0.ag c1 (chL_len _ _) (by omega)) rfl fn_69 (map_cons (eh b0 rfl) (map_cons (eh b0 rfl) map_nil)) (fun x1 z1 Z0 => ?_))
 obtain ⟨n1, o0, r0, rfl, g0, y0⟩ := Z0
 have u1 := g0.size
 have x0 := D0.t0 g0
 have o1 := y0.nilc
 refine ⟨(tbF ⟨_, x0⟩), ?_⟩
 refine tk2 (i := 14) rfl rfl (fun _ _ => r_build (cs := [nn u, .slice n0 36 q0, .slice o0 4 r0]) (pm_cons (eh b0 rfl) (pm_cons (eh b0 rfl) (pm_cons (eh b0 rfl) pm_nil))) (by kernel_rfl)) ⟨_, x0⟩ ?_
 have i1 : Fr (on p0) _ _ _ _ := x0.wk (fun x hx _ => hx.elim)
 have H0 := (d0.t0 e0).t0 g0
 have S0 := ((z0.f1 k0 (by omega)).f0 H0)
 refine an00 (i := 15) (b := true) rfl rfl (kt (L' := [nn u, .slice n0 36 q0, .slice o0 4 r0]) g0.ag (eh b0 rfl) (eh b0 rfl) S0 sz_110 (fun A1 W0 h0 => ?_))
 have v1 := h0.size
 have E0 := i1.tr h0 (fun x hx => .inr (by cases hx; exact rfl))
 refine ⟨(tbT ⟨_, E0⟩), ?_⟩
 refine tk1 (i := 16) (b := true) rfl rfl X0 (fun _ _ => r_assign (v := nn 0) rfl) (tbT ⟨_, E0⟩) <| anyT_done (by kernel_rfl) ?_ _
 refine O0 <| wp_ret <| ret_of (res2ct (b := p0) (n := 3) (cs := [nn u, .slice n0 36 q0, .slice o0 4 r0]) (u := nn 0) rfl _ _ (gh b0 rfl) (gh b0 rfl) W0.bk (by kernel_rfl) (by kernel_rfl) qr_110 sz_110) ((ov_defers _ _).trans J0) ?_
 have d1 := ((U0.up g0).up h0)
 have A0 := (y0.f1 h0 (by omega))
 obtain ⟨h1, I0, e1⟩ := A0.fz h0.ag
 have s0 : Fr (ge F0.heap.size) _ _ _ _ := I0.wk (fun x hx _ => A0.at x hx)
 have p1 := s0.size
 have a1 := (d1.up s0)
 have G0 := e0.t0 g0
 have R0 := (((w0.f0 G0).f1 h0 (by omega)).fs s0 (show ¬ F0.heap.size ≤ k from by omega))
 exact ⟨h1, n0, q0, o0, r0, rfl, (((((((cu0.t0 l0).tr k0 (fun x hx => (by cases hx; exact .inr rfl))).t0 d0).t0 e0).t0 g0).tn h0 (by omega)).tg s0 (by omega)), R0, a1, e1⟩

theorem f46 {m : Ctx} {w : World} (ag : Ag m w) {k c u : Nat} {A : Option Addr} {s : Bytes} {D : Option Addr} {n d : Nat} {p : Bytes} (hmK : Mu m w k 29 (hc s ++ ([.slice A 16 c] ++ (hc (pk s) ++ ([nn u]))))) (hlv : Sl m A 16 c 32 (hcs (lv s))) (hsl : Sl m D n d 1 (bv p)) (hp : p.length = n) (hn : n < 4294967296) (hu : u < 16) : Calls Tryz.prog 46 #[.pointer (some ⟨k, 0, none⟩), .slice D n d] w (Ret fun v w' => ∃ m' A' c' B' d', v = .tuple #[.agg ([nn u, .slice A' 36 c', .slice B' 4 d']).toArray, nn 0] ∧ Fr (on k) m w m' w' ∧ Mu m' w' k 29 (hc s ++ ([.slice A 16 c] ++ (hc (pk s) ++ ([nn (u + 1)])))) ∧ Sl m' A' 36 c' 32 (hcs (chL (sgf s u p) 36)) ∧ Sl m' B' 4 d' 32 (hcs (mp 4 (lv s) u))) := by
 refine enter Tryz.func46 rfl (fun Q0 hT S0 => ?_)
 have b0 : Q0.tmps.size = 45 := by rw [hT]; kernel_rfl
 have j0 : Q0.tmps.getD 0 undef = .pointer (some ⟨k, 0, none⟩) := by rw [hT]; kernel_rfl
 have W2 : Q0.tmps.getD 1 undef = .slice D n d := by rw [hT]; kernel_rfl
 clear hT
 have cu0 : Fr (on k) m w m w := Fr.refl ag
 have lt_k := hmK.lt
 refine sk fun _ I1 => rn <| gk (k_alloc ag qz_110 (fun K0 R0 O0 i0 e3 => ?_))
 have K3 := i0.size
 have i3 := O0.lt
 refine gv (r_assign (v := nn 0) rfl) <| nl <| I1 <| sk fun _ P1 => sk fun _ Q1 => rn <| mw b0 j0 <| nc b0 rfl <| gv (r_field (o' := 65) (eh b0 rfl) fo_29_3 (by rfl)) ?_
 have Z0 := (hmK.f0 i0)
 refine gv (la (v := nn u) (eh b0 rfl) Z0.bk qr_3) <| gv (r_geq (j := 16) (eh b0 rfl) rfl) <| nl <| Q1 ?_
 have c2 : (decide (16 ≤ u)) = false := (decide_eq_false (by omega))
 refine cf (eb b0 rfl c2) <| ws <| P1 <| sk fun _ T0 => ?_
 have d0 : Fr no m K0 m { K0 with drawn := K0.drawn + 1 } := Fr.drw i0.ag
 obtain ⟨P0, p1⟩ : ∃ w_, w_ = ({ K0 with drawn := K0.drawn + 1 } : World) := ⟨_, rfl⟩
 rw [← p1] at d0
 have z3 := d0.size
 refine wp_region_T mixed (fun wz => ∃ mz, Fr (no) m P0 mz wz) (fun wz => ∃ mz, Fr (no) m P0 mz wz) 26 ?_
 rw [← p1]
 show wpAnyT _ _ _ _ _ 26 _ _ _
 have c0 : Fr (no) m P0 m P0 := Fr.refl d0.ag
 refine tkk (i := 0) rfl rfl (fun _ _ => r_move (em b0 rfl rfl j0)) ⟨_, c0⟩ <| tkk (i := 1) rfl rfl (fun _ _ => r_nilCheck (eh b0 rfl)) ⟨_, c0⟩ <| tkk (i := 2) rfl rfl (fun _ _ => r_field (o' := 65) (eh b0 rfl) fo_29_3 (by rfl)) ⟨_, c0⟩ ?_
 have s0 := (Z0.f0 d0)
 refine tkk (i := 3) rfl rfl (fun wz ⟨mz, hz⟩ => la (v := nn u) (eh b0 rfl) (hz.ex s0.bk (fun h => h)) qr_3) ⟨_, c0⟩ <| tkk (i := 4) rfl rfl (fun _ _ => r_move (em b0 rfl rfl j0)) ⟨_, c0⟩ <| tkk (i := 5) rfl rfl (fun _ _ => r_nilCheck (eh b0 rfl)) ⟨_, c0⟩ <| tkk (i := 6) rfl rfl (fun _ _ => r_field (o' := 0) (eh b0 rfl) fo_29_0 (by rfl)) ⟨_, c0⟩ <| tkk (i := 7) rfl rfl (fun wz ⟨mz, hz⟩ => lb (cs := hc s) (eh b0 rfl) (hz.ex s0.bk (fun h => h)) qr_23 sz_23) ⟨_, c0⟩ <| tkk (i := 8) rfl rfl (fun _ _ => r_move (em b0 rfl rfl j0)) ⟨_, c0⟩ <| tkk (i := 9) rfl rfl (fun _ _ => r_nilCheck (eh b0 rfl)) ⟨_, c0⟩ <| tkk (i := 10) rfl rfl (fun _ _ => r_field (o' := 65) (eh b0 rfl) fo_29_3 (by rfl)) ⟨_, c0⟩ <| tkk (i := 11) rfl rfl (fun wz ⟨mz, hz⟩ => la (v := nn u) (eh b0 rfl) (hz.ex s0.bk (fun h => h)) qr_3) ⟨_, c0⟩ <| tkk (i := 12) rfl rfl (fun _ _ => r_move (em b0 rfl rfl W2)) ⟨_, c0⟩ <| tkk (i := 14) rfl rfl (fun _ _ => r_move (em b0 rfl rfl j0)) ⟨_, c0⟩ <| tkk (i := 15) rfl rfl (fun _ _ => r_nilCheck (eh b0 rfl)) ⟨_, c0⟩ <| tkk (i := 16) rfl rfl (fun _ _ => r_field (o' := 32) (eh b0 rfl) fo_29_1 (by rfl)) ⟨_, c0⟩ <| tkk (i := 17) rfl rfl (fun wz ⟨mz, hz⟩ => la (v := .slice A 16 c) (eh b0 rfl) (hz.ex s0.bk (fun h => h)) qr_27) ⟨_, c0⟩ <| tkk (i := 18) rfl rfl (fun _ _ => r_move (em b0 rfl rfl j0)) ⟨_, c0⟩ <| tkk (i := 19) rfl rfl (fun _ _ => r_nilCheck (eh b0 rfl)) ⟨_, c0⟩ <| tkk (i := 20) rfl rfl (fun _ _ => r_field (o' := 65) (eh b0 rfl) fo_29_3 (by rfl)) ⟨_, c0⟩ <| tkk (i := 21) rfl rfl (fun wz ⟨mz, hz⟩ => la (v := nn u) (eh b0 rfl) (hz.ex s0.bk (fun h => h)) qr_3) ⟨_, c0⟩ ?_
 refine anyT_all (rs := [13, 24]) (by kernel_rfl) (by simp) (fun a3 h1 => ?_)
 simp only [List.mem_cons, List.mem_nil_iff, or_false] at h1
 rcases h1 with rfl | rfl
 ·
  have D2 := ((hsl.up i0).up d0)
  refine ao (b := true) rfl rfl rfl (by kernel_rfl) (k_cl (f96 d0.ag D2 hp (by omega)) rfl fn_96 (map_cons (eh b0 rfl) (map_cons (eh b0 rfl) (map_cons (eh b0 rfl) map_nil))) (fun R3 w1 r2 => ?_))
  obtain ⟨n3, e0, g0, rfl, h0, e1⟩ := r2
  have F3 := h0.size
  have X0 := c0.t0 h0
  refine ⟨(tbT ⟨_, X0⟩), ?_⟩
  refine anyT_all (rs := [22, 24]) (by kernel_rfl) (by simp) (fun c3 i1 => ?_)
  simp only [List.mem_cons, List.mem_nil_iff, or_false] at i1
  rcases i1 with rfl | rfl
  ·
   have M2 := Fr.ll (Fr.l2 i0 d0) h0
   have E2 := hlv.le M2
   refine ao (b := true) rfl rfl rfl (by kernel_rfl) (k_cl (f97_4 h0.ag E2 (chL_len _ _) (by omega)) rfl fn_97 (map_cons (eh b0 rfl) (map_cons (eh b0 rfl) map_nil)) (fun S3 c4 s2 => ?_))
   obtain ⟨o3, B0, F0, rfl, x0, U0⟩ := s2
   have G3 := x0.size
   have Y0 := X0.t0 x0
   have r3 := U0.nilc
   refine ⟨(tbT ⟨_, Y0⟩), ?_⟩
   refine tkk (i := 23) rfl rfl (fun _ _ => r_build (cs := [nn u, .slice e0 36 g0, .slice B0 4 F0]) (pm_cons (eh b0 rfl) (pm_cons (eh b0 rfl) (pm_cons (eh b0 rfl) pm_nil))) (by kernel_rfl)) ⟨_, Y0⟩ <| ann (i := 24) (b := true) rfl rfl (k_alloc x0.ag qz_110 (fun d4 Y2 k1 o0 P2 => ?_))
   have H3 := o0.size
   have t1 := Y0.t0 o0
   have j3 := k1.lt
   refine ⟨(tbT ⟨_, t1⟩), ?_⟩
   refine an00 (i := 25) (b := true) rfl rfl (kt (L' := [nn u, .slice e0 36 g0, .slice B0 4 F0]) o0.ag (eh b0 rfl) (eh b0 rfl) k1 sz_110 (fun e4 m2 p0 => ?_))
   have I3 := p0.size
   have V2 := t1.tn p0 (by omega)
   refine ⟨(tbT ⟨_, V2⟩), ?_⟩
   refine anyT_done (by kernel_rfl) ?_ _
   refine T0 <| sk fun _ N1 => rn <| mw b0 j0 <| nc b0 rfl <| gv (r_field (o' := 65) (eh b0 rfl) fo_29_3 (by rfl)) ?_
   have F1 := (h0.t0 x0).t0 o0
   have c1 := ((s0.f0 F1).f1 p0 (by omega))
   refine gv (la (v := nn u) (eh b0 rfl) c1.bk qr_3) <| gv (r_add (j := 1) (eh b0 rfl) rfl (by omega)) <| nc b0 rfl <| gv (r_field (o' := 65) (eh b0 rfl) fo_29_3 (by rfl)) <| gz (kt (L' := hc s ++ ([.slice A 16 c] ++ (hc (pk s) ++ ([nn (u + 1)])))) p0.ag (eh b0 rfl) (eh b0 rfl) c1 sz_3 (fun g4 n2 y0 => ?_))
   have J3 := y0.size
   refine nl <| N1 <| sk fun _ O1 => rn ?_
   have Z1 := (m2.f1 y0 (by omega))
   refine gv (lb (cs := [nn u, .slice e0 36 g0, .slice B0 4 F0]) (eh b0 rfl) Z1.bk qr_110 sz_110) ?_
   have G1 := ((d0.t0 h0).t0 x0).t0 o0
   have a2 := (((O0.f0 G1).f1 p0 (by omega)).f1 y0 (by omega))
   refine gz (kt (L' := [nn u, .slice e0 36 g0, .slice B0 4 F0]) y0.ag (eh b0 rfl) (eh b0 rfl) a2 sz_110 (fun h4 o2 J0 => ?_))
   have L3 := J0.size
   refine gv (r_assign (v := nn 0) rfl) <| nl <| O1 <| wp_ret <| ret_of (res2ct (b := R0) (n := 3) (cs := [nn u, .slice e0 36 g0, .slice B0 4 F0]) (u := nn 0) rfl _ _ (gh b0 rfl) (gh b0 rfl) o2.bk (by kernel_rfl) (by kernel_rfl) qr_110 sz_110) ((ov_defers _ _).trans S0) ?_
   have N2 := Fr.ll (Fr.ll (Fr.ll (Fr.l2 x0 o0) p0) y0) J0
   have F2 := e1.le N2
   have o1 := ((((U0.f0 o0).fn p0 (U0.ne P2)).f1 y0 (by omega)).f1 J0 (by omega))
   obtain ⟨S2, H1, G2⟩ := o1.fz J0.ag
   have N0 : Fr (ge w1.heap.size) _ _ _ _ := H1.wk (fun x hx _ => o1.at x hx)
   have M3 := N0.size
   have H2 := (F2.up N0)
   have b2 := ((n2.f1 J0 (by omega)).fs N0 (show ¬ w1.heap.size ≤ k from by omega))
   exact ⟨S2, e0, g0, B0, F0, rfl, (((((((((cu0.t0 i0).t0 d0).t0 h0).t0 x0).t0 o0).tn p0 (by omega)).tr y0 (fun x hx => (by cases hx; exact .inr rfl))).tn J0 (by omega)).tg N0 (by omega)), b2, H2, G2⟩
  ·
   refine ao (b := true) rfl rfl rfl (by kernel_rfl) (k_alloc h0.ag qz_110 (fun x1 Z2 l1 q0 g3 => ?_))
   have N3 := q0.size
   have u1 := X0.t0 q0
   have k3 := l1.lt
   refine ⟨(tbT ⟨_, u1⟩), ?_⟩
   have O2 := Fr.ll (Fr.ll (Fr.l2 i0 d0) h0) q0
   have I2 := hlv.le O2
   refine ann (i := 22) (b := true) rfl rfl (k_cl (f97_4 q0.ag I2 (chL_len _ _) (by omega)) rfl fn_97 (map_cons (eh b0 rfl) (map_cons (eh b0 rfl) map_nil)) (fun T3 i4 t2 => ?_))
   obtain ⟨p3, C0, G0, rfl, r0, g1⟩ := t2
   have O3 := r0.size
   have V0 := u1.t0 r0
   have s3 := g1.nilc
   refine ⟨(tbT ⟨_, V0⟩), ?_⟩
   refine tkk (i := 23) rfl rfl (fun _ _ => r_build (cs := [nn u, .slice e0 36 g0, .slice C0 4 G0]) (pm_cons (eh b0 rfl) (pm_cons (eh b0 rfl) (pm_cons (eh b0 rfl) pm_nil))) (by kernel_rfl)) ⟨_, V0⟩ ?_
   have R1 := (l1.f0 r0)
   refine an00 (i := 25) (b := true) rfl rfl (kt (L' := [nn u, .slice e0 36 g0, .slice C0 4 G0]) r0.ag (eh b0 rfl) (eh b0 rfl) R1 sz_110 (fun U3 e2 k0 => ?_))
   have t3 := k0.size
   have T2 := V0.tn k0 (by omega)
   refine ⟨(tbT ⟨_, T2⟩), ?_⟩
   refine anyT_done (by kernel_rfl) ?_ _
   refine T0 <| sk fun _ J1 => rn <| mw b0 j0 <| nc b0 rfl <| gv (r_field (o' := 65) (eh b0 rfl) fo_29_3 (by rfl)) ?_
   have y1 := (h0.t0 q0).t0 r0
   have a1 := ((s0.f0 y1).f1 k0 (by omega))
   refine gv (la (v := nn u) (eh b0 rfl) a1.bk qr_3) <| gv (r_add (j := 1) (eh b0 rfl) rfl (by omega)) <| nc b0 rfl <| gv (r_field (o' := 65) (eh b0 rfl) fo_29_3 (by rfl)) <| gz (kt (L' := hc s ++ ([.slice A 16 c] ++ (hc (pk s) ++ ([nn (u + 1)])))) k0.ag (eh b0 rfl) (eh b0 rfl) a1 sz_3 (fun V3 g2 u0 => ?_))
   have u3 := u0.size
   refine nl <| J1 <| sk fun _ K1 => rn ?_
   have S1 := (e2.f1 u0 (by omega))
   refine gv (lb (cs := [nn u, .slice e0 36 g0, .slice C0 4 G0]) (eh b0 rfl) S1.bk qr_110 sz_110) ?_
   have z1 := ((d0.t0 h0).t0 q0).t0 r0
   have T1 := (((O0.f0 z1).f1 k0 (by omega)).f1 u0 (by omega))
   refine gz (kt (L' := [nn u, .slice e0 36 g0, .slice C0 4 G0]) u0.ag (eh b0 rfl) (eh b0 rfl) T1 sz_110 (fun W3 h2 H0 => ?_))
   have v3 := H0.size
   refine gv (r_assign (v := nn 0) rfl) <| nl <| K1 <| wp_ret <| ret_of (res2ct (b := R0) (n := 3) (cs := [nn u, .slice e0 36 g0, .slice C0 4 G0]) (u := nn 0) rfl _ _ (gh b0 rfl) (gh b0 rfl) h2.bk (by kernel_rfl) (by kernel_rfl) qr_110 sz_110) ((ov_defers _ _).trans S0) ?_
   have J2 := Fr.ll (Fr.ll (Fr.ll (Fr.l2 q0 r0) k0) u0) H0
   have u2 := e1.le J2
   have m1 := (((g1.f1 k0 (by omega)).f1 u0 (by omega)).f1 H0 (by omega))
   obtain ⟨Q2, A1, v2⟩ := m1.fz H0.ag
   have L0 : Fr (ge x1.heap.size) _ _ _ _ := A1.wk (fun x hx _ => m1.at x hx)
   have w3 := L0.size
   have x2 := (u2.up L0)
   have U1 := ((g2.f1 H0 (by omega)).fs L0 (show ¬ x1.heap.size ≤ k from by omega))
   exact ⟨Q2, e0, g0, C0, G0, rfl, (((((((((cu0.t0 i0).t0 d0).t0 h0).t0 q0).t0 r0).tn k0 (by omega)).tr u0 (fun x hx => (by cases hx; exact .inr rfl))).tn H0 (by omega)).tg L0 (by omega)), U1, x2, v2⟩
 ·
  refine ao (b := true) rfl rfl rfl (by kernel_rfl) (k_alloc d0.ag qz_110 (fun X3 X2 j1 v0 d3 => ?_))
  have x3 := v0.size
  have r1 := c0.t0 v0
  have h3 := j1.lt
  refine ⟨(tbT ⟨_, r1⟩), ?_⟩
  have q1 := Fr.ll (Fr.l2 i0 d0) v0
  have y2 := hsl.le q1
  refine ann (i := 13) (b := true) rfl rfl (k_cl (f96 v0.ag y2 hp (by omega)) rfl fn_96 (map_cons (eh b0 rfl) (map_cons (eh b0 rfl) (map_cons (eh b0 rfl) map_nil))) (fun P3 v1 p2 => ?_))
  obtain ⟨l3, z0, D0, rfl, l0, d2⟩ := p2
  have y3 := l0.size
  have s1 := r1.t0 l0
  refine ⟨(tbT ⟨_, s1⟩), ?_⟩
  have K2 := Fr.ll q1 l0
  have z2 := hlv.le K2
  refine ann (i := 22) (b := true) rfl rfl (k_cl (f97_4 l0.ag z2 (chL_len _ _) (by omega)) rfl fn_97 (map_cons (eh b0 rfl) (map_cons (eh b0 rfl) map_nil)) (fun Q3 Y3 q2 => ?_))
  obtain ⟨m3, A0, E0, rfl, m0, d1⟩ := q2
  have A3 := m0.size
  have W0 := s1.t0 m0
  have q3 := d1.nilc
  refine ⟨(tbT ⟨_, W0⟩), ?_⟩
  refine tkk (i := 23) rfl rfl (fun _ _ => r_build (cs := [nn u, .slice z0 36 D0, .slice A0 4 E0]) (pm_cons (eh b0 rfl) (pm_cons (eh b0 rfl) (pm_cons (eh b0 rfl) pm_nil))) (by kernel_rfl)) ⟨_, W0⟩ ?_
  have B1 := l0.t0 m0
  have V1 := (j1.f0 B1)
  refine an00 (i := 25) (b := true) rfl rfl (kt (L' := [nn u, .slice z0 36 D0, .slice A0 4 E0]) m0.ag (eh b0 rfl) (eh b0 rfl) V1 sz_110 (fun Z3 i2 n0 => ?_))
  have B3 := n0.size
  have U2 := W0.tn n0 (by omega)
  refine ⟨(tbT ⟨_, U2⟩), ?_⟩
  refine anyT_done (by kernel_rfl) ?_ _
  refine T0 <| sk fun _ L1 => rn <| mw b0 j0 <| nc b0 rfl <| gv (r_field (o' := 65) (eh b0 rfl) fo_29_3 (by rfl)) ?_
  have C1 := (v0.t0 l0).t0 m0
  have b1 := ((s0.f0 C1).f1 n0 (by omega))
  refine gv (la (v := nn u) (eh b0 rfl) b1.bk qr_3) <| gv (r_add (j := 1) (eh b0 rfl) rfl (by omega)) <| nc b0 rfl <| gv (r_field (o' := 65) (eh b0 rfl) fo_29_3 (by rfl)) <| gz (kt (L' := hc s ++ ([.slice A 16 c] ++ (hc (pk s) ++ ([nn (u + 1)])))) n0.ag (eh b0 rfl) (eh b0 rfl) b1 sz_3 (fun a4 j2 w0 => ?_))
  have C3 := w0.size
  refine nl <| L1 <| sk fun _ M1 => rn ?_
  have W1 := (i2.f1 w0 (by omega))
  refine gv (lb (cs := [nn u, .slice z0 36 D0, .slice A0 4 E0]) (eh b0 rfl) W1.bk qr_110 sz_110) ?_
  have D1 := ((d0.t0 v0).t0 l0).t0 m0
  have X1 := (((O0.f0 D1).f1 n0 (by omega)).f1 w0 (by omega))
  refine gz (kt (L' := [nn u, .slice z0 36 D0, .slice A0 4 E0]) w0.ag (eh b0 rfl) (eh b0 rfl) X1 sz_110 (fun b4 k2 I0 => ?_))
  have D3 := I0.size
  refine gv (r_assign (v := nn 0) rfl) <| nl <| M1 <| wp_ret <| ret_of (res2ct (b := R0) (n := 3) (cs := [nn u, .slice z0 36 D0, .slice A0 4 E0]) (u := nn 0) rfl _ _ (gh b0 rfl) (gh b0 rfl) k2.bk (by kernel_rfl) (by kernel_rfl) qr_110 sz_110) ((ov_defers _ _).trans S0) ?_
  have L2 := Fr.ll (Fr.ll (Fr.l2 m0 n0) w0) I0
  have A2 := d2.le L2
  have n1 := (((d1.f1 n0 (by omega)).f1 w0 (by omega)).f1 I0 (by omega))
  obtain ⟨R2, E1, B2⟩ := n1.fz I0.ag
  have M0 : Fr (ge v1.heap.size) _ _ _ _ := E1.wk (fun x hx _ => n1.at x hx)
  have E3 := M0.size
  have C2 := (A2.up M0)
  have Y1 := ((j2.f1 I0 (by omega)).fs M0 (show ¬ v1.heap.size ≤ k from by omega))
  exact ⟨R2, z0, D0, A0, E0, rfl, (((((((((cu0.t0 i0).t0 d0).t0 v0).t0 l0).t0 m0).tn n0 (by omega)).tr w0 (fun x hx => (by cases hx; exact .inr rfl))).tn I0 (by omega)).tg M0 (by omega)), Y1, C2, B2⟩

theorem f164 {m : Ctx} {w : World} (ag : Ag m w) {A B : Option Addr} {c d i : Nat} (hi : i < 16) : Calls Tryz.prog 164 #[.agg ([nn i, .slice A 36 c, .slice B 4 d]).toArray] w (Ret fun v w' => ∃ m', v = .bool true ∧ Fr no m w m' w') := by
 refine enter Tryz.func164 rfl (fun g0 hT i0 => ?_)
 have b0 : g0.tmps.size = 23 := by rw [hT]; kernel_rfl
 have l0 : g0.tmps.getD 0 undef = .agg ([nn i, .slice A 36 c, .slice B 4 d]).toArray := by rw [hT]; kernel_rfl
 clear hT
 have cu0 : Fr (no) m w m w := Fr.refl ag
 refine sk fun _ j0 => rn <| gk (k_box (L := [nn i, .slice A 36 c, .slice B 4 d]) ag (em b0 rfl rfl l0) (by kernel_rfl) (fun q0 m0 d0 h0 n0 => ?_))
 have p0 := h0.size
 have o0 := d0.lt
 refine gv (r_assign (v := .bool false) rfl) <| nl <| j0 <| sk fun _ k0 => rn <| gv (r_field (o' := 0) (eh b0 rfl) fo_110_0 (by rfl)) <| gv (la (v := nn i) (eh b0 rfl) d0.bk qr_3) <| gv (r_geq (j := 0) (eh b0 rfl) rfl) <| mv b0 rfl ?_
 have e0 : (decide (0 ≤ i)) = true := (decide_eq_true (by omega))
 refine sg (t := 6) rfl rfl b0 (eb b0 rfl e0) (kv (r_field (o' := 0) (eh b0 rfl) fo_110_0 (by rfl)) ?_)
 refine sg (t := 6) rfl rfl b0 (eb b0 rfl e0) (kv (la (v := nn i) (eh b0 rfl) d0.bk qr_3) ?_)
 refine sg (t := 6) rfl rfl b0 (eb b0 rfl e0) (kv (r_lss (j := 16) (eh b0 rfl) rfl) ?_)
 refine gv (r_pick_t (eb b0 rfl e0) (eh b0 rfl)) <| mv b0 rfl ?_
 have c0 : (decide (i < 16)) = true := (decide_eq_true (by omega))
 refine sg (t := 11) rfl rfl b0 (eb b0 rfl c0) (kv (r_field (o' := 1) (eh b0 rfl) fo_110_1 (by rfl)) ?_)
 refine sg (t := 11) rfl rfl b0 (eb b0 rfl c0) (kv (la (v := .slice A 36 c) (eh b0 rfl) d0.bk qr_27) ?_)
 refine sg (t := 11) rfl rfl b0 (eb b0 rfl c0) (kv (r_lenS (eh b0 rfl) rfl qu_27) ?_)
 refine sg (t := 11) rfl rfl b0 (eb b0 rfl c0) (kv (r_eql (j := 36) (eh b0 rfl) rfl) ?_)
 refine gv (r_pick_t (eb b0 rfl c0) (eh b0 rfl)) <| mv b0 rfl <| sg (t := 17) rfl rfl b0 (eb b0 rfl (by decide)) (kv (r_field (o' := 2) (eh b0 rfl) fo_110_2 (by rfl)) ?_)
 refine sg (t := 17) rfl rfl b0 (eb b0 rfl (by decide)) (kv (la (v := .slice B 4 d) (eh b0 rfl) d0.bk qr_27) ?_)
 refine sg (t := 17) rfl rfl b0 (eb b0 rfl (by decide)) (kv (r_lenS (eh b0 rfl) rfl qu_27) ?_)
 refine sg (t := 17) rfl rfl b0 (eb b0 rfl (by decide)) (kv (r_eql (j := 4) (eh b0 rfl) rfl) ?_)
 refine gv (r_pick_t (eb b0 rfl (by decide)) (eh b0 rfl)) <| ms b0 rfl <| nl <| k0 <| wp_ret <| ret_of (res1 rfl _ _ (gh b0 rfl)) ((ov_defers _ _).trans i0) ?_
 exact ⟨m, rfl, (cu0.t0 h0)⟩

theorem f147 {m : Ctx} {w : World} (ag : Ag m w) {q p : Bytes} {D A B : Option Addr} {n e c d i : Nat} {l r : List Bytes} (hsl : Sl m D n e 1 (bv p)) (hp : p.length = n) (hn : n < 4294967296) (hi : i < 16) (hs1 : Sl m A 36 c 32 (hcs l)) (hl : l.length = 36) (hs2 : Sl m B 4 d 32 (hcs r)) (hr : r.length = 4) : Calls Tryz.prog 147 #[H q, .slice D n e, .agg ([nn i, .slice A 36 c, .slice B 4 d]).toArray] w (Ret fun v w' => ∃ m', v = .bool (decide (n32 (nam (upv (sha (endsB (rcf l p) 36)) i r 4)) = n32 q)) ∧ Fr no m w m' w') := by
 refine enter Tryz.func147 rfl (fun m0 hT B0 => ?_)
 have b0 : m0.tmps.size = 28 := by rw [hT]; kernel_rfl
 have T0 : m0.tmps.getD 0 undef = H q := by rw [hT]; kernel_rfl
 have U0 : m0.tmps.getD 1 undef = .slice D n e := by rw [hT]; kernel_rfl
 have V0 : m0.tmps.getD 2 undef = .agg ([nn i, .slice A 36 c, .slice B 4 d]).toArray := by rw [hT]; kernel_rfl
 clear hT
 have cu0 : Fr (no) m w m w := Fr.refl ag
 refine sk fun _ C0 => rn <| gk (k_box (L := hc q) ag (em b0 rfl rfl T0) (by kernel_rfl) (fun w1 W0 y0 n0 b1 => ?_))
 have q1 := n0.size
 have c1 := y0.lt
 refine gk (k_box (L := [nn i, .slice A 36 c, .slice B 4 d]) n0.ag (em b0 rfl rfl V0) (by kernel_rfl) (fun B1 Y0 r0 k0 Z0 => ?_))
 have i1 := k0.size
 have e1 := r0.lt
 refine gv (r_assign (v := .bool false) rfl) <| nl <| C0 <| sk fun _ D0 => sk fun _ E0 => rn <| gv (lb (cs := [nn i, .slice A 36 c, .slice B 4 d]) (eh b0 rfl) r0.bk qr_110 sz_110) <| gk (k_cl (f164 k0.ag (by omega)) rfl fn_164 (map_cons (eh b0 rfl) map_nil) (fun r1 v1 K0 => ?_))
 obtain ⟨g1, rfl, e0⟩ := K0
 have j1 := e0.size
 refine gv (r_not (eh b0 rfl)) <| nl <| E0 <| cf (eh b0 rfl) <| ws <| D0 <| sk fun _ F0 => rn <| mw b0 U0 <| gv (r_field (o' := 1) (eh b0 rfl) fo_110_1 (by rfl)) ?_
 have v0 := (r0.f0 e0)
 refine gv (la (v := .slice A 36 c) (eh b0 rfl) v0.bk qr_27) ?_
 have s0 := Fr.ll (Fr.l2 n0 k0) e0
 have O0 := hsl.le s0
 have P0 := hs1.le s0
 refine gk (k_cl (f165 e0.ag O0 hp (by omega) P0 hl) rfl fn_165 (map_cons (eh b0 rfl) (map_cons (eh b0 rfl) map_nil)) (fun s1 x1 L0 => ?_))
 obtain ⟨j0, rfl, g0⟩ := L0
 have k1 := g0.size
 refine mv b0 rfl <| gv (r_extract (v := H (sha (endsB (rcf (l) (p)) 36))) (eh b0 rfl) (by kernel_rfl)) <| gv (r_extract (v := .bool true) (eh b0 rfl) (by kernel_rfl)) <| gk (k_alloc g0.ag qz_23 (fun y1 X0 x0 h0 a1 => ?_))
 have l1 := h0.size
 have d1 := x0.lt
 refine gz (kt (L' := hc (sha (endsB (rcf (l) (p)) 36))) h0.ag (eh b0 rfl) (eh b0 rfl) x0 sz_23 (fun l0 J0 i0 => ?_))
 have m1 := i0.size
 refine ms b0 rfl <| nl <| F0 <| sk fun _ G0 => ?_
 have c0 : Fr no j0 l0 j0 { l0 with drawn := l0.drawn + 1 } := Fr.drw i0.ag
 obtain ⟨p0, z0⟩ : ∃ w_, w_ = ({ l0 with drawn := l0.drawn + 1 } : World) := ⟨_, rfl⟩
 rw [← z0] at c0
 have n1 := c0.size
 refine wp_region_T mixed (fun wz => ∃ mz, Fr (no) j0 p0 mz wz) (fun wz => ∃ mz, Fr (no) j0 p0 mz wz) 10 ?_
 rw [← z0]
 show wpAnyT _ _ _ _ _ 10 _ _ _
 have d0 : Fr (no) j0 p0 j0 p0 := Fr.refl c0.ag
 have H0 := (J0.f0 c0)
 refine tkk (i := 0) rfl rfl (fun wz ⟨mz, hz⟩ => lb (cs := hc (sha (endsB (rcf (l) (p)) 36))) (eh b0 rfl) (hz.ex H0.bk (fun h => h)) qr_23 sz_23) ⟨_, d0⟩ <| tkk (i := 1) rfl rfl (fun _ _ => r_field (o' := 0) (eh b0 rfl) fo_110_0 (by rfl)) ⟨_, d0⟩ ?_
 have w0 := ((((v0.f0 g0).f0 h0).f1 i0 (by omega)).f0 c0)
 refine tkk (i := 2) rfl rfl (fun wz ⟨mz, hz⟩ => la (v := nn i) (eh b0 rfl) (hz.ex w0.bk (fun h => h)) qr_3) ⟨_, d0⟩ <| tkk (i := 3) rfl rfl (fun _ _ => r_field (o' := 2) (eh b0 rfl) fo_110_2 (by rfl)) ⟨_, d0⟩ <| tkk (i := 4) rfl rfl (fun wz ⟨mz, hz⟩ => la (v := .slice B 4 d) (eh b0 rfl) (hz.ex w0.bk (fun h => h)) qr_27) ⟨_, d0⟩ ?_
 have I0 := ((((((y0.f0 k0).f0 e0).f0 g0).f0 h0).f1 i0 (by omega)).f0 c0)
 refine tkk (i := 7) rfl rfl (fun wz ⟨mz, hz⟩ => lb (cs := hc q) (eh b0 rfl) (hz.ex I0.bk (fun h => h)) qr_23 sz_23) ⟨_, d0⟩ ?_
 have R0 := Fr.ll (Fr.ll (Fr.ll (Fr.ll s0 g0) h0) i0) c0
 have Q0 := hs2.le R0
 refine ann (i := 5) (b := true) rfl rfl (k_cl (f166 c0.ag (by omega) Q0 hr) rfl fn_166 (map_cons (eh b0 rfl) (map_cons (eh b0 rfl) (map_cons (eh b0 rfl) map_nil))) (fun t1 z1 M0 => ?_))
 obtain ⟨h1, rfl, o0⟩ := M0
 have o1 := o0.size
 have A0 := d0.t0 o0
 refine ⟨(tbT ⟨_, A0⟩), ?_⟩
 refine ann (i := 6) (b := true) rfl rfl (k_cl (f39 o0.ag) rfl fn_39 (map_cons (eh b0 rfl) map_nil) (fun u1 A1 N0 => ?_))
 obtain ⟨S0, rfl, q0⟩ := N0
 have p1 := q0.size
 have u0 := A0.t0 q0
 refine ⟨(tbT ⟨_, u0⟩), ?_⟩
 refine tkk (i := 8) rfl rfl (fun _ _ => r_eqlN (eh b0 rfl) (eh b0 rfl) qh_23) ⟨_, u0⟩ <| tkk (i := 9) rfl rfl (fun _ _ => r_assign (eh b0 rfl)) ⟨_, u0⟩ <| anyT_done (by kernel_rfl) ?_ _
 refine G0 <| wp_ret <| ret_of (res1 rfl _ _ (gh b0 rfl)) ((ov_defers _ _).trans B0) ?_
 exact ⟨S0, rfl, (((((((((cu0.t0 n0).t0 k0).t0 e0).t0 g0).t0 h0).tn i0 (by omega)).t0 c0).t0 o0).t0 q0)⟩

end Go.Proofs.YtiggfalelcepbaaGreatDoor

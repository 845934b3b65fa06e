/- The walk of RepoRotates. -/
import Derived.Test.YtiggfalelcepbaaGreatDoorK7
import Derived.Test.YtiggfalelcepbaaGreatDoorSX
import Derived.Test.YtiggfalelcepbaaGreatDoorW22
import Derived.Test.YtiggfalelcepbaaGreatDoorTX
namespace Go.Proofs.YtiggfalelcepbaaGreatDoor
open Go
set_option maxRecDepth 100000
set_option maxHeartbeats 4000000
theorem f4 {m : Ctx} {w : World} (ag : Ag m w) : Calls Tryz.prog 4 #[] w (Ret fun y w' => ∃ m', y = .bool true ∧ Fr no m w m' w') := by
 refine enter Tryz.func4 rfl (fun T0 hT b1 => ?_)
 have b0 : T0.tmps.size = 31 := by rw [hT]; kernel_rfl
 clear hT
 have cu0 : Fr (no) m w m w := Fr.refl ag
 refine sk fun _ c1 => rn <| gv (r_assign (v := .bool false) rfl) <| nl <| c1 <| sk fun _ d1 => rn <| gv (r_build (cs := hc ([1] ++ List.replicate 31 0)) (pm_cons (v := u8 1) rfl pm_nil) (by kernel_rfl)) <| gk (k_cl (f7 ag) rfl fn_7 (map_cons (eh b0 rfl) map_nil) (fun v2 A2 q1 => ?_))
 obtain ⟨o2, L0, u1, r0, B1, O1, O0, V0, g0, s0, h0, u0, i0, v0, j0, w0, rfl, k0, m0, g1, J0, T1, i1, j1, k1, l1, m1, U1, V1, W1, X1, Y1, Z1⟩ := q1
 have r2 := k0.size
 have m2 := m0.lt
 have k2 := g1.lt
 have l2 := J0.lt
 refine ms b0 rfl <| nl <| d1 <| sk fun _ e1 => rn <| mv b0 rfl <| gv (r_neqNil (eh b0 rfl) rfl qu_47) <| mv b0 rfl <| sg (t := 6) rfl rfl b0 (eh b0 rfl) (kv (r_move (eh b0 rfl)) ?_)
 refine sg (t := 6) rfl rfl b0 (eh b0 rfl) (k_cl (f9 k0.ag (X := [nn 1, nn 1073741824, .slice g0 1 s0, nn 1, .slice h0 1 u0, nn 1, .slice i0 1 v0, nn 1, .slice j0 1 w0, nn 1, .slice none 0 0, nn 0, .slice none 0 0, .slice none 0 0, .slice none 0 0, .slice none 0 0, .slice none 0 0, .slice none 0 0, .slice none 0 0]) m0 j1 k1 l1 m1) rfl fn_9 (map_cons (eh b0 rfl) map_nil) (fun w2 B2 p1 => ?_))
 obtain ⟨n2, E1, g2, F1, h2, G1, i2, H1, j2, rfl, c0, a2, b2, c2, d2⟩ := p1
 have s2 := c0.size
 refine sg (t := 6) rfl rfl b0 (eh b0 rfl) (kv (r_field1 (v := nn 1) (eh b0 rfl) pt_35_0 qr_3 (by kernel_rfl)) ?_)
 refine sg (t := 6) rfl rfl b0 (eh b0 rfl) (kv (r_eql (j := 1) (eh b0 rfl) rfl) ?_)
 refine gv (r_pick_t (eh b0 rfl) (eh b0 rfl)) <| mv b0 rfl <| sg (t := 12) rfl rfl b0 (eb b0 rfl (by decide)) (kv (r_move (eh b0 rfl)) ?_)
 have G0 := (m0.f0 c0)
 refine sg (t := 12) rfl rfl b0 (eb b0 rfl (by decide)) (k_cl (f12_0n c0.ag G0) rfl fn_12 (map_cons (eh b0 rfl) map_nil) (fun x2 w1 r1 => ?_))
 obtain ⟨p2, rfl, d0⟩ := r1
 have t2 := d0.size
 refine sg (t := 12) rfl rfl b0 (eb b0 rfl (by decide)) (kv (r_field1 (v := .slice none 0 0) (eh b0 rfl) pt_43_3 qr_37 (by kernel_rfl)) ?_)
 refine sg (t := 12) rfl rfl b0 (eb b0 rfl (by decide)) (kv (r_lenS (eh b0 rfl) rfl qu_37) ?_)
 refine sg (t := 12) rfl rfl b0 (eb b0 rfl (by decide)) (kv (r_eql (j := 0) (eh b0 rfl) rfl) ?_)
 refine gv (r_pick_t (eb b0 rfl (by decide)) (eh b0 rfl)) <| mv b0 rfl <| sg (t := 19) rfl rfl b0 (eb b0 rfl (by decide)) (kv (r_move (eh b0 rfl)) ?_)
 have H0 := (G0.f0 d0)
 have t1 := ((i1.up c0).up d0)
 have a1 := c0.t0 d0
 have I0 := (J0.f0 a1)
 refine sg (t := 19) rfl rfl b0 (eb b0 rfl (by decide)) (k_cl (f8 d0.ag (β := w1.heap.size) H0 I0 t1 (Own.nil _ _ _ _ _) (Nat.le_refl _) (Mu.tn H0 I0 (by decide)) (by decide) (by decide) (by decide) (by decide)) rfl fn_8 (map_cons (eh b0 rfl) (map_cons (v := nn 0) rfl (map_cons (v := nn 1) rfl map_nil))) (fun y2 M0 s1 => ?_))
 obtain ⟨e0, P0, W0, S0, Z0, x0, B0, z0, D0, y0, C0, A0, E0, Q0, X0, R0, Y0, rfl, l0, n0, K0, e2, n1, o0, p0, q0⟩ := s1
 have u2 := l0.size
 replace n0 : Mu e0 M0 L0 76 (hc ([1] ++ List.replicate 31 0) ++ ([.pointer (some ⟨u1, 0, none⟩), .pointer (some ⟨r0, 0, none⟩), nn 1, nn 1, nn 1073741824, .slice g0 1 s0, nn 1, .slice h0 1 u0, nn 1, .slice i0 1 v0, nn 1, .slice j0 1 w0, nn 1, nn 1, nn 1073741824, .slice g0 1 s0, nn 1, .slice h0 1 u0, nn 1, .slice i0 1 v0, nn 1, .slice j0 1 w0, nn 1, .slice none 0 0, nn 1, .slice none 0 0, .slice y0 36 C0, .slice A0 1 E0, .slice x0 9 B0, .slice z0 1 D0, .slice Q0 1 X0, .slice R0 0 Y0])) := n0
 replace K0 : Mu e0 M0 r0 116 (hc (sdg ([1] ++ List.replicate 31 0) 1) ++ ([.slice O0 16 V0, nn 3])) := K0
 replace o0 : Env e0 P0 9 W0 S0 Z0 (targB 1 1) (sdg ([1] ++ List.replicate 31 0) 1) 0 := o0
 replace p0 : Env e0 x0 9 B0 z0 D0 (snapB 1 1) (sdg ([1] ++ List.replicate 31 0) 1) 1 := p0
 replace q0 : Env e0 y0 36 C0 A0 E0 (timeB 1 1 (sha (snapB 1 1))) (sdg ([1] ++ List.replicate 31 0) 1) 2 := q0
 refine sg (t := 19) rfl rfl b0 (eb b0 rfl (by decide)) (kv (r_eql (j := 0) (eh b0 rfl) rfl) ?_)
 refine gv (r_pick_t (eb b0 rfl (by decide)) (eh b0 rfl)) <| mv b0 rfl <| sg (t := 24) rfl rfl b0 (eb b0 rfl (by decide)) (kv (r_move (eh b0 rfl)) ?_)
 refine sg (t := 24) rfl rfl b0 (eb b0 rfl (by decide)) (k_cl (f12_0s l0.ag n0 q0 (by decide) (by decide) p0 (by decide) (by decide) o0 (by decide) (by decide) n1) rfl fn_12 (map_cons (eh b0 rfl) map_nil) (fun z2 C2 o1 => ?_))
 obtain ⟨v1, x1, I1, y1, J1, z1, K1, A1, L1, C1, M1, D1, N1, N0, U0, rfl, F0, P1, Q1, R1, S1⟩ := o1
 have q2 := F0.size
 refine sg (t := 24) rfl rfl b0 (eb b0 rfl (by decide)) (kv (r_field1 (v := .slice N0 1 U0) (eh b0 rfl) pt_43_3 qr_37 (by kernel_rfl)) ?_)
 refine sg (t := 24) rfl rfl b0 (eb b0 rfl (by decide)) (kv (r_lenS (eh b0 rfl) rfl qu_37) ?_)
 refine sg (t := 24) rfl rfl b0 (eb b0 rfl (by decide)) (kv (r_eql (j := 1) (eh b0 rfl) rfl) ?_)
 refine gv (r_pick_t (eb b0 rfl (by decide)) (eh b0 rfl)) <| ms b0 rfl <| nl <| e1 <| wp_ret <| ret_of (res1 rfl _ _ (gh b0 rfl)) ((ov_defers _ _).trans b1) ?_
 exact ⟨v1, rfl, (((((cu0.t0 k0).t0 c0).t0 d0).tr l0 (fun x hx => hx.elim (fun h1 => .inl (by have h_ : x = L0 := h1; omega)) (fun h1 => h1.elim (fun h1 => .inl (by have h_ : x = r0 := h1; omega)) (fun h1 => .inl (by obtain ⟨_, ha_, _⟩ := h1; cases ha_))))).t0 F0)⟩

theorem f3_0 {m : Ctx} {w : World} (ag : Ag m w) {s : Bytes} {z : Int} (hz : z < 1 ∨ 4 < z) : Calls Tryz.prog 3 #[H s, .int .i64 (z)] w (Ret fun y w' => ∃ m', y = .bool true ∧ Fr no m w m' w') := by
 refine enter Tryz.func3 rfl (fun e0 hT i0 => ?_)
 have b0 : e0.tmps.size = 118 := by rw [hT]; kernel_rfl
 have v0 : e0.tmps.getD 0 undef = H s := by rw [hT]; kernel_rfl
 have k0 : e0.tmps.getD 1 undef = .int .i64 (z) := by rw [hT]; kernel_rfl
 clear hT
 have cu0 : Fr (no) m w m w := Fr.refl ag
 refine sk fun _ l0 => rn <| gk (k_box (L := hc s) ag (em b0 rfl rfl v0) (by kernel_rfl) (fun G0 w0 p0 d0 y0 => ?_))
 have C0 := d0.size
 have z0 := p0.lt
 refine gv (r_assign (v := .bool false) rfl) <| nl <| l0 <| sk fun _ x0 => sk fun _ j0 => rn <| mw b0 k0 <| gv (r_lssI (i := z) (j := 1) (eh b0 rfl) rfl) <| mv b0 rfl ?_
 by_cases c0 : z < ((1 : Nat) : Int)
 ·
  refine sf (t := 19) (c := true) rfl rfl b0 (eb b0 rfl (decide_eq_true c0)) <| sf (t := 19) (c := true) rfl rfl b0 (eb b0 rfl (decide_eq_true c0)) <| gv (r_pick_t (v := .bool true) (eb b0 rfl (decide_eq_true c0)) rfl) <| nl <| j0 <| ct (eh b0 rfl) <| sk fun _ m0 => rn <| gk (k_cl (f4 d0.ag) rfl fn_4 map_nil (fun D0 F0 q0 => ?_))
  obtain ⟨s0, rfl, g0⟩ := q0
  have A0 := g0.size
  refine ms b0 rfl <| nl <| m0 <| wp_ret <| ret_of (res1 rfl _ _ (gh b0 rfl)) ((ov_defers _ _).trans i0) ?_
  exact ⟨s0, rfl, ((cu0.t0 d0).t0 g0)⟩
 ·
  refine sg (t := 19) rfl rfl b0 (eb b0 rfl (decide_eq_false c0)) (kv (r_move (em b0 rfl rfl k0)) ?_)
  refine sg (t := 19) rfl rfl b0 (eb b0 rfl (decide_eq_false c0)) (kv (r_gtrI (i := z) (j := 4) (eh b0 rfl) rfl) ?_)
  refine gv (r_pick_f (eb b0 rfl (decide_eq_false c0)) (eh b0 rfl)) <| nl <| j0 ?_
  have o0 : (decide (((4 : Nat) : Int) < z)) = true := (decide_eq_true (by omega))
  refine ct (eb b0 rfl o0) <| sk fun _ n0 => rn <| gk (k_cl (f4 d0.ag) rfl fn_4 map_nil (fun E0 H0 r0 => ?_))
  obtain ⟨u0, rfl, h0⟩ := r0
  have B0 := h0.size
  refine ms b0 rfl <| nl <| n0 <| wp_ret <| ret_of (res1 rfl _ _ (gh b0 rfl)) ((ov_defers _ _).trans i0) ?_
  exact ⟨u0, rfl, ((cu0.t0 d0).t0 h0)⟩

theorem f3_1 {m : Ctx} {w : World} (ag : Ag m w) {s : Bytes} {n : Nat} (hn1 : 1 ≤ n) (hn4 : n ≤ 4) : Calls Tryz.prog 3 #[H s, nn n] w (Ret fun y w' => ∃ m', y = .bool true ∧ Fr no m w m' w') := by
 refine enter Tryz.func3 rfl (fun r3 hT x7 => ?_)
 have g0 : r3.tmps.size = 118 := by rw [hT]; kernel_rfl
 have I11 : r3.tmps.getD 0 undef = H s := by rw [hT]; kernel_rfl
 have r4 : r3.tmps.getD 1 undef = nn n := by rw [hT]; kernel_rfl
 clear hT
 have cu0 : Fr (no) m w m w := Fr.refl ag
 refine sk fun _ V7 => rn <| gk (k_box (L := hc s) ag (em g0 rfl rfl I11) (by kernel_rfl) (fun g16 a7 G1 h2 d14 => ?_))
 have t15 := h2.size
 have l14 := G1.lt
 refine gv (r_assign (v := .bool false) rfl) <| nl <| V7 <| sk fun _ y8 => sk fun _ z8 => rn <| mw g0 r4 <| gv (r_lss (j := 1) (eh g0 rfl) rfl) <| mv g0 rfl ?_
 have L3 : (decide (n < 1)) = false := (decide_eq_false (by omega))
 refine sg (t := 19) rfl rfl g0 (eb g0 rfl L3) (kv (r_move (em g0 rfl rfl r4)) ?_)
 refine sg (t := 19) rfl rfl g0 (eb g0 rfl L3) (kv (r_gtr (j := 4) (eh g0 rfl) rfl) ?_)
 refine gv (r_pick_f (eb g0 rfl L3) (eh g0 rfl)) <| nl <| z8 ?_
 have W8 : (decide (4 < n)) = false := (decide_eq_false (by omega))
 refine cf (eb g0 rfl W8) <| ws <| y8 <| sk fun _ Z7 => rn <| gv (lb (cs := hc s) (eh g0 rfl) G1.bk qr_23 sz_23) <| gk (k_cl (f5 h2.ag) rfl fn_5 (map_cons (eh g0 rfl) map_nil) (fun J15 d16 H9 => ?_))
 obtain ⟨d6, L1, p1, S5, E6, k7, F6, l7, C4, T5, D4, U5, E4, V5, F4, W5, rfl, u1, v2, P3, y2, o9, p9, x13, z13, A13, B13, C13, D13, E13, F13, G13, H13⟩ := H9
 have c15 := u1.size
 have G14 := v2.lt
 have A14 := P3.lt
 have D14 := y2.lt
 refine ms g0 rfl <| nl <| Z7 <| sk fun _ s8 => rn <| mv g0 rfl <| nc g0 rfl <| gv (r_field (o' := 33) (eh g0 rfl) fo_45_2 (by rfl)) <| gv (la (v := .pointer (some ⟨S5, 0, none⟩)) (eh g0 rfl) v2.bk qr_30) <| nc g0 rfl <| gv (r_field (o' := 33) (eh g0 rfl) fo_29_2 (by rfl)) <| gv (lb (cs := hc (pk (sdg s 1))) (eh g0 rfl) y2.bk qr_23 sz_23) <| gk (k_alloc u1.ag qz_23 (fun o16 b7 H1 A0 b14 => ?_))
 have i15 := A0.size
 have n14 := H1.lt
 refine gz (kt (L' := hc (pk (sdg s 1))) A0.ag (eh g0 rfl) (eh g0 rfl) H1 sz_23 (fun O11 R3 C0 => ?_))
 have l15 := C0.size
 refine nl <| s8 <| sk fun _ w8 => sk fun _ x8 => rn <| gv (r_assign (v := nn 0) rfl) <| nl <| x8 <| bl ?_
 have J3 := ((P3.f0 A0).f1 C0 (Mu.tn (P3.f0 A0) H1 (by decide)))
 have K3 := ((v2.f0 A0).f1 C0 (Mu.tn (v2.f0 A0) H1 (by decide)))
 have N8 := ((y2.f0 A0).f1 C0 (Mu.tn (y2.f0 A0) H1 (by decide)))
 have z10 := ((p9.up A0).up C0)
 refine wp_loop_s (σ := Nat) (I := fun (i : Nat) (a' : Act) (w' : World) => ∃ (m' : Ctx) (kx : Nat) (ux : Nat) (Ak : Option Addr) (ck : Nat) (La : Option Addr) (ca : Nat) (Lb : Option Addr) (cb : Nat) (Lc : Option Addr) (cc : Nat) (Ld : Option Addr) (ce : Nat) (Ar : Option Addr) (cr : Nat) (RLx : List Value), a'.tmps.size = 118 ∧ a'.defers = [] ∧ i ≤ n ∧ a'.tmps.getD 1 undef = nn n ∧ a'.tmps.getD 2 undef = .pointer (some ⟨a7, 0, none⟩) ∧ a'.tmps.getD 5 undef = .pointer (some ⟨L1, 0, none⟩) ∧ a'.tmps.getD 6 undef = .pointer (some ⟨b7, 0, none⟩) ∧ a'.tmps.getD 7 undef = nn i ∧ Fr (orS (on L1) (on p1)) d6 O11 m' w' ∧ Mu m' w' p1 29 (hc (sdg s 0) ++ ([.slice E6 16 k7] ++ (hc (pk (sdg s 0)) ++ ([nn i])))) ∧ Mu m' w' L1 45 (hc s ++ ([.pointer (some ⟨p1, 0, none⟩), .pointer (some ⟨kx, 0, none⟩), nn (i + 1), nn 1, nn 1073741824, .slice C4 1 T5, nn 1, .slice D4 1 U5, nn 1, .slice E4 1 V5, nn 1, .slice F4 1 W5, nn 1, nn (i + 1), nn 1073741824, .slice La 1 ca, nn 1, .slice Lb 1 cb, nn 1, .slice Lc 1 cc, nn 1, .slice Ld 1 ce, nn 1, .slice none 0 0, nn 0, .slice Ar i cr, .slice none 0 0, .slice none 0 0, .slice none 0 0, .slice none 0 0, .slice none 0 0, .slice none 0 0])) ∧ Mu m' w' kx 29 (hc (sdg s (i + 1)) ++ ([.slice Ak 16 ck] ++ (hc (pk (sdg s (i + 1))) ++ ([nn ux])))) ∧ Sl m' Ak 16 ck 32 (hcs (lv (sdg s (i + 1)))) ∧ (0 < i → ux = 0) ∧ w.heap.size ≤ kx ∧ p1 ≠ kx ∧ Sl m' Ar i cr 2 (vs RLx) ∧ (vs RLx).all (·.oneCell') = true) (μ := fun i => n - i) (s₀ := 0) ?_ ?_
 · exact ⟨d6, S5, 0, F6, l7, C4, T5, D4, U5, E4, V5, F4, W5, none, 0, [], ((ov_size _ _).trans g0), ((ov_defers _ _).trans x7), (by omega), (gm g0 rfl rfl r4), (gh g0 rfl), (gh g0 rfl), (gh g0 rfl), (gh g0 rfl), (Fr.refl C0.ag), J3, K3, N8, z10, (fun h_ => absurd h_ (Nat.lt_irrefl 0)), (by omega), (by omega), (Sl.nil _ _), (by rfl)⟩
 ·
  intro i D12 z16 hI
  obtain ⟨M14, kx71, ux72, Ak73, ck74, La75, ca76, Lb77, cb78, Lc79, cc80, Ld81, ce82, Ar83, cr84, RLx85, d0, I3, P13, u4, w6, v4, x6, y6, L0, K5, S3, R5, S13, g11, T13, U13, Y10, Z10⟩ := hI
  refine of_ov ?_
  have P14 := L0.size
  have lt_kx71 := R5.lt
  refine sk fun _ W7 => sk fun _ X7 => rn <| mw d0 y6 <| mw d0 u4 <| gv (r_lss (eh d0 rfl) (eh d0 rfl)) <| nl <| X7 ?_
  by_cases a5 : i < n
  ·
   refine ct (eb d0 rfl (decide_eq_true a5)) <| ws <| W7 <| sk fun _ Y7 => bl <| rn <| mw d0 v4 ?_
   have r11 := Fr.ll (Fr.l2 A0 C0) L0
   have Z9 := o9.le r11
   refine gk (k_cl (f6 L0.ag (RL := RLx85) S3 K5 Z9 Y10 Z10 (Mu.tn S3 K5 (by decide)) (by omega) (by omega) (by omega) (by omega) (by omega)) rfl fn_6 (map_cons (eh d0 rfl) map_nil) (fun I15 c16 F9 => ?_))
   obtain ⟨y11, h11, A6, g7, R6, j11, S6, k11, T6, l11, U6, m11, B6, h7, Z6, rfl, S4, X8, Y8, c5, Z8, a9, b9, q13⟩ := F9
   have Q14 := S4.size
   have B14 := c5.lt
   refine nl <| Y7 <| rn <| mw d0 y6 <| gv (r_add (j := 1) (eh d0 rfl) rfl (by omega)) <| ms d0 rfl <| nl <| loop_back (s := i) ⟨i + 1, (show n - (i + 1) < n - (i) from (by omega)), ?_⟩
   exact ⟨y11, h11, 0, A6, g7, R6, j11, S6, k11, T6, l11, U6, m11, B6, h7, Z6, ((ov_size _ _).trans d0), ((ov_defers _ _).trans I3), (by omega), (gm d0 rfl rfl u4), (gm d0 rfl rfl w6), (gm d0 rfl rfl v4), (gm d0 rfl rfl x6), (gh d0 rfl), (L0.tr S4 (fun x hx => hx.elim (fun h1 => .inr (by cases h1; exact (.inl rfl))) (fun h1 => .inr (by cases h1; exact (.inr rfl))))), Y8, X8, c5, Z8, (fun _ => rfl), (by omega), (by omega), a9, b9⟩
  ·
   refine cf (eb d0 rfl (decide_eq_false a5)) <| we ?_
   have a11 : n = i := (by omega)
   subst a11
   obtain rfl : ux72 = 0 := g11 (by omega)
   refine w8 <| sk fun _ a8 => rn ?_
   have z3 := u1.t0 A0
   have A8 := ((G1.f0 z3).f1 C0 (by omega)).fs L0 (fun h => h.elim (Mu.tn ((G1.f0 z3).f1 C0 (by omega)) K3 (by decide)) (Mu.tn ((G1.f0 z3).f1 C0 (by omega)) J3 (by decide)))
   have B8 := A8
   refine gv (lb (cs := hc s) (em d0 rfl rfl w6) B8.bk qr_23 sz_23) <| gk (k_cl (f7 L0.ag) rfl fn_7 (map_cons (eh d0 rfl) map_nil) (fun K15 W1 G9 => ?_))
   obtain ⟨q1, J0, b1, D2, C6, i7, x4, N4, V0, c1, W0, d1, X0, e1, Y0, g1, rfl, Z0, d5, e5, g5, h5, c9, d9, e9, g9, h9, r13, s13, t13, i5, u13, i9⟩ := G9
   have R14 := Z0.size
   have F14 := d5.lt
   have z14 := e5.lt
   have C14 := g5.lt
   refine ms d0 rfl <| nl <| a8 <| sk fun _ b8 => sk fun _ c8 => ?_
   have k0 : Fr no q1 W1 q1 { W1 with drawn := W1.drawn + 1 } := Fr.drw Z0.ag
   obtain ⟨s1, N5⟩ : ∃ w_, w_ = ({ W1 with drawn := W1.drawn + 1 } : World) := ⟨_, rfl⟩
   rw [← N5] at k0
   have S14 := k0.size
   refine wp_region_T mixed (fun wz => ∃ mz, Fr (no) q1 s1 mz wz) (fun wz => ∃ mz, Fr (no) q1 s1 mz wz) 9 ?_
   rw [← N5]
   show wpAnyT _ _ _ _ _ 9 _ _ _
   have M0 : Fr (no) q1 s1 q1 s1 := Fr.refl k0.ag
   refine tkk (i := 0) rfl rfl (fun _ _ => r_move (em d0 rfl rfl v4)) ⟨_, M0⟩ <| tkk (i := 1) rfl rfl (fun _ _ => r_nilCheck (eh d0 rfl)) ⟨_, M0⟩ <| tkk (i := 2) rfl rfl (fun _ _ => r_field (o' := 33) (eh d0 rfl) fo_45_2 (by rfl)) ⟨_, M0⟩ ?_
   have C8 := ((S3.f0 Z0).f0 k0)
   refine tkk (i := 3) rfl rfl (fun wz ⟨mz, hz⟩ => la (v := .pointer (some ⟨kx71, 0, none⟩)) (eh d0 rfl) (hz.ex C8.bk (fun h => h)) qr_30) ⟨_, M0⟩ <| tkk (i := 4) rfl rfl (fun _ _ => r_nilCheck (eh d0 rfl)) ⟨_, M0⟩ <| tkk (i := 5) rfl rfl (fun _ _ => r_field (o' := 33) (eh d0 rfl) fo_29_2 (by rfl)) ⟨_, M0⟩ ?_
   have D8 := ((R5.f0 Z0).f0 k0)
   refine tkk (i := 6) rfl rfl (fun wz ⟨mz, hz⟩ => lb (cs := hc (pk (sdg s (n + 1)))) (eh d0 rfl) (hz.ex D8.bk (fun h => h)) qr_23 sz_23) ⟨_, M0⟩ ?_
   have E8 := (((R3.fs L0 (fun h => h.elim (Mu.tn R3 K3 (by decide)) (Mu.tn R3 J3 (by decide)))).f0 Z0).f0 k0)
   refine tkk (i := 7) rfl rfl (fun wz ⟨mz, hz⟩ => lb (cs := hc (pk (sdg s 1))) (em d0 rfl rfl x6) (hz.ex E8.bk (fun h => h)) qr_23 sz_23) ⟨_, M0⟩ <| tkk (i := 8) rfl rfl (fun _ _ => r_eqlN (eh d0 rfl) (eh d0 rfl) qh_23) ⟨_, M0⟩ <| anyT_done (by kernel_rfl) ?_ _
   refine c8 ?_
   by_cases C1 : n32 (pk (sdg s (n + 1))) = n32 (pk (sdg s 1))
   ·
    refine ct (eb d0 rfl (decide_eq_true C1)) <| sk fun _ d8 => rn <| gk (k_cl (f4 k0.ag) rfl fn_4 map_nil (fun L15 e16 I9 => ?_))
    obtain ⟨z11, rfl, T4⟩ := I9
    have T14 := T4.size
    refine ms d0 rfl <| nl <| d8 <| wp_ret <| ret_of (res1 rfl _ _ (gh d0 rfl)) ((ov_defers _ _).trans I3) ?_
    exact ⟨z11, rfl, ((((((((cu0.t0 h2).t0 u1).t0 A0).tn C0 (by omega)).tr L0 (fun x hx => hx.elim (fun h1 => .inl (by have h_ : x = L1 := h1; omega)) (fun h1 => .inl (by have h_ : x = p1 := h1; omega)))).t0 Z0).t0 k0).t0 T4)⟩
   ·
    refine cf (eb d0 rfl (decide_eq_false C1)) <| ws <| b8 <| sk fun _ e8 => sk fun _ g8 => rn <| mv d0 rfl <| gv (r_eqlNil (eh d0 rfl) rfl qu_47) <| mv d0 rfl <| sg (t := 54) rfl rfl d0 (eh d0 rfl) (kv (r_move (eh d0 rfl)) ?_)
    have X4 := (d5.f0 k0)
    have L5 := (c9.up k0)
    have Y4 := (g5.f0 k0)
    refine sg (t := 54) rfl rfl d0 (eh d0 rfl) (k_cl (f8 k0.ag (β := s1.heap.size) X4 Y4 L5 (Own.nil _ _ _ _ _) (Nat.le_refl _) (Mu.tn X4 Y4 (by decide)) (by decide) (by decide) (by decide) (by decide)) rfl fn_8 (map_cons (eh d0 rfl) (map_cons (v := nn 0) rfl (map_cons (v := nn 50) rfl map_nil))) (fun M15 z6 J9 => ?_))
    obtain ⟨K1, D6, j7, M6, s7, X1, c2, Z1, e2, Y1, d2, a2, g2, Q2, s3, R2, t3, rfl, E0, D1, q2, r2, j5, s2, t2, u2⟩ := J9
    have U14 := E0.size
    replace D1 : Mu K1 z6 J0 76 (hc s ++ ([.pointer (some ⟨b1, 0, none⟩), .pointer (some ⟨D2, 0, none⟩), nn 1, nn 1, nn 1073741824, .slice V0 1 c1, nn 1, .slice W0 1 d1, nn 1, .slice X0 1 e1, nn 1, .slice Y0 1 g1, nn 1, nn 1, nn 1073741824, .slice V0 1 c1, nn 1, .slice W0 1 d1, nn 1, .slice X0 1 e1, nn 1, .slice Y0 1 g1, nn 1, .slice none 0 0, nn 1, .slice none 0 0, .slice Y1 36 d2, .slice a2 1 g2, .slice X1 9 c2, .slice Z1 1 e2, .slice Q2 1 s3, .slice R2 0 t3])) := D1
    replace q2 : Mu K1 z6 D2 116 (hc (sdg s 1) ++ ([.slice x4 16 N4, nn 3])) := q2
    replace s2 : Env K1 D6 9 j7 M6 s7 (targB 1 50) (sdg s 1) 0 := s2
    replace t2 : Env K1 X1 9 c2 Z1 e2 (snapB 1 50) (sdg s 1) 1 := t2
    replace u2 : Env K1 Y1 36 d2 a2 g2 (timeB 1 50 (sha (snapB 1 50))) (sdg s 1) 2 := u2
    refine sg (t := 54) rfl rfl d0 (eh d0 rfl) (kv (r_neq (j := 0) (eh d0 rfl) rfl) ?_)
    refine gv (r_pick_f (eh d0 rfl) (eh d0 rfl)) <| nl <| g8 <| ce d0 rfl <| ws <| e8 <| sk fun _ h8 => rn <| mv d0 rfl ?_
    have a10 := ((d9.up k0).up E0)
    have b10 := ((e9.up k0).up E0)
    have c10 := ((g9.up k0).up E0)
    have d10 := ((h9.up k0).up E0)
    refine gk (k_cl (f9 E0.ag (X := [nn 1, nn 1073741824, .slice V0 1 c1, nn 1, .slice W0 1 d1, nn 1, .slice X0 1 e1, nn 1, .slice Y0 1 g1, nn 1, .slice none 0 0, nn 1, .slice none 0 0, .slice Y1 36 d2, .slice a2 1 g2, .slice X1 9 c2, .slice Z1 1 e2, .slice Q2 1 s3, .slice R2 0 t3]) D1 a10 b10 c10 d10) rfl fn_9 (map_cons (eh d0 rfl) map_nil) (fun N15 h16 K9 => ?_))
    obtain ⟨e6, n0, r0, o0, s0, p0, u0, q0, v0, rfl, K0, l1, m1, n1, o1⟩ := K9
    have V14 := K0.size
    refine gv (r_build (cs := [nn 1, nn 1073741824, .slice n0 1 r0, nn 1, .slice o0 1 s0, nn 1, .slice p0 1 u0, nn 1, .slice q0 1 v0, nn 1, .bool false, nn 0, nn 0, nn 0] ++ (hc (List.replicate 32 0) ++ ([nn 0, nn 0, .slice none 0 0, .slice none 0 0]))) (pm_cons (eh d0 rfl) pm_nil) (by kernel_rfl)) <| gk (k_alloc K0.ag qz_59 (fun i16 M4 a1 w0 Z13 => ?_))
    have W14 := w0.size
    have k14 := a1.lt
    refine gz (kt (L' := [nn 1, nn 1073741824, .slice n0 1 r0, nn 1, .slice o0 1 s0, nn 1, .slice p0 1 u0, nn 1, .slice q0 1 v0, nn 1, .bool false, nn 0, nn 0, nn 0] ++ (hc (List.replicate 32 0) ++ ([nn 0, nn 0, .slice none 0 0, .slice none 0 0]))) w0.ag (eh d0 rfl) (eh d0 rfl) a1 sz_59 (fun w4 y0 l0 => ?_))
    have X14 := l0.size
    refine nl <| h8 <| sk fun _ i8 => sk fun _ j8 => rn <| gv (r_assign (v := nn 0) rfl) <| nl <| j8 <| bl ?_
    have I0 := K0.t0 w0
    have Z4 := (e5.f0 k0).fs E0 (fun h => h.elim i5.symm (fun h => h.elim i9 (fun ⟨_, ha_, _⟩ => by cases ha_)))
    have S0 := ((Z4.f0 I0).f1 l0 (Mu.tn (Z4.f0 I0) a1 (by decide)))
    have U0 := ((D1.f0 I0).f1 l0 (Mu.tn (D1.f0 I0) a1 (by decide)))
    have F8 := ((q2.f0 I0).f1 l0 (Mu.tn (q2.f0 I0) a1 (by decide)))
    have s11 := Fr.ll (Fr.ll (Fr.l2 E0 K0) w0) l0
    have e10 := L5.le s11
    refine wp_loop_s (σ := Nat) (I := fun (i : Nat) (a' : Act) (w' : World) => ∃ (m' : Ctx) (kx : Nat) (ux : Nat) (Ak : Option Addr) (ck : Nat) (La : Option Addr) (ca : Nat) (Lb : Option Addr) (cb : Nat) (Lc : Option Addr) (cc : Nat) (Ld : Option Addr) (ce : Nat) (Ar : Option Addr) (cr : Nat) (RLx : List Value), a'.tmps.size = 118 ∧ a'.defers = [] ∧ i ≤ n ∧ a'.tmps.getD 1 undef = nn n ∧ a'.tmps.getD 8 undef = .pointer (some ⟨J0, 0, none⟩) ∧ a'.tmps.getD 9 undef = .pointer (some ⟨M4, 0, none⟩) ∧ a'.tmps.getD 10 undef = nn i ∧ Fr (orS (on J0) (on b1)) e6 w4 m' w' ∧ Mu m' w' b1 116 (hc (sdg s 0) ++ ([.slice C6 16 i7, nn i])) ∧ Mu m' w' J0 76 (hc s ++ ([.pointer (some ⟨b1, 0, none⟩), .pointer (some ⟨kx, 0, none⟩), nn (i + 1), nn 1, nn 1073741824, .slice V0 1 c1, nn 1, .slice W0 1 d1, nn 1, .slice X0 1 e1, nn 1, .slice Y0 1 g1, nn 1, nn (i + 1), nn 1073741824, .slice La 1 ca, nn 1, .slice Lb 1 cb, nn 1, .slice Lc 1 cc, nn 1, .slice Ld 1 ce, nn 1, .slice none 0 0, nn 1, .slice Ar i cr, .slice Y1 36 d2, .slice a2 1 g2, .slice X1 9 c2, .slice Z1 1 e2, .slice Q2 1 s3, .slice R2 0 t3])) ∧ Own m' w' (w4.heap.size) Ar i cr 41 2 (vs RLx) ∧ Mu m' w' kx 116 (hc (sdg s (i + 1)) ++ ([.slice Ak 16 ck, nn ux])) ∧ Sl m' Ak 16 ck 32 (hcs (lv (sdg s (i + 1)))) ∧ (0 < i → ux = 0) ∧ w.heap.size ≤ kx ∧ b1 ≠ kx ∧ Rts m' (sdg s 0) ((fun v => pk (sdg s v))) i RLx) (μ := fun i => n - i) (s₀ := 0) ?_ ?_
    · exact ⟨e6, D2, 3, x4, N4, V0, c1, W0, d1, X0, e1, Y0, g1, none, 0, [], ((ov_size _ _).trans d0), ((ov_defers _ _).trans I3), (by omega), (gm d0 rfl rfl u4), (gh d0 rfl), (gh d0 rfl), (gh d0 rfl), (Fr.refl l0.ag), S0, U0, (Own.nil _ _ _ _ _), F8, e10, (fun h_ => absurd h_ (Nat.lt_irrefl 0)), (by omega), (by omega), Rts.nil⟩
    ·
     intro i A12 t1 hI
     obtain ⟨i1, kx276, ux277, Ak278, ck279, La280, ca281, Lb282, cb283, Lc284, cc285, Ld286, ce287, Ar288, cr289, RLx290, c0, o2, O13, S1, r1, U1, u6, j0, C2, F1, B0, Q5, b11, c11, R13, d11, J1⟩ := hI
     refine of_ov ?_
     have Y14 := j0.size
     have nc_Ar288 := B0.nilc
     have lt_kx276 := Q5.lt
     refine sk fun _ k8 => sk fun _ l8 => rn <| mw c0 u6 <| mw c0 S1 <| gv (r_lss (eh c0 rfl) (eh c0 rfl)) <| nl <| l8 ?_
     by_cases b5 : i < n
     ·
      refine ct (eb c0 rfl (decide_eq_true b5)) <| ws <| k8 <| sk fun _ m8 => bl <| sk fun _ n8 => rn <| mw c0 r1 ?_
      have t11 := Fr.ll (Fr.ll (Fr.ll (Fr.ll (Fr.l2 k0 E0) K0) w0) l0) j0
      have g10 := h5.le t11
      refine gk (k_cl (f10 j0.ag (β := w4.heap.size) (RL := RLx290) F1 C2 g10 B0 (by omega) (Mu.tn F1 C2 (by decide)) (by omega) (by omega) (by omega) (by omega) (by omega)) rfl fn_10 (map_cons (eh c0 rfl) map_nil) (fun O15 j16 L9 => ?_))
      obtain ⟨A11, G6, m7, N6, t7, i11, H6, n7, V6, n11, W6, o11, X6, p11, Y6, q11, I6, o7, rfl, A3, j9, k9, k5, l9, m9, n9, w13⟩ := L9
      have Z14 := A3.size
      have E14 := k5.lt
      refine gv (r_neq (j := 0) (eh c0 rfl) rfl) <| nl <| n8 <| ce c0 rfl <| ws <| m8 <| rn <| mw c0 u6 <| gv (r_add (j := 1) (eh c0 rfl) rfl (by omega)) <| ms c0 rfl <| nl <| loop_back (s := i) ⟨i + 1, (show n - (i + 1) < n - (i) from (by omega)), ?_⟩
      exact ⟨A11, i11, 0, H6, n7, V6, n11, W6, o11, X6, p11, Y6, q11, I6, o7, (RLx290 ++ ([.slice G6 143 m7, .slice N6 1 t7] : List Value)), ((ov_size _ _).trans c0), ((ov_defers _ _).trans o2), (by omega), (gm c0 rfl rfl S1), (gm c0 rfl rfl r1), (gm c0 rfl rfl U1), (gh c0 rfl), (j0.tr A3 (fun x hx => hx.elim (fun h1 => .inr (by cases h1; exact (.inl rfl))) (fun h1 => h1.elim (fun h1 => .inr (by cases h1; exact (.inr rfl))) (fun h1 => .inl (by have h_ := Own.at B0 x h1; omega))))), k9, j9, m9, k5, l9, (fun _ => rfl), (by omega), (by omega), (Rts.snoc (Rts.le J1 A3.le) n9 (by omega))⟩
     ·
      refine cf (eb c0 rfl (decide_eq_false b5)) <| we ?_
      have e11 : n = i := (by omega)
      subst e11
      obtain rfl : ux277 = 0 := c11 (by omega)
      refine i8 <| sk fun P6 o8 => ?_
      have N3 : ∀ (a' : Act) (w' : World), (∃ (m' : Ctx) , a'.tmps.size = 118 ∧ a'.defers = [] ∧ a'.tmps.getD 1 undef = nn n ∧ a'.tmps.getD 8 undef = .pointer (some ⟨J0, 0, none⟩) ∧ a'.tmps.getD 9 undef = .pointer (some ⟨M4, 0, none⟩) ∧ a'.tmps.getD 12 undef = nn 4 ∧ Fr (no) i1 t1 m' w') → P6 a' w' := by
       rintro B12 k16 ⟨H14, e0, H3, s4, V1, J11, t4, h0⟩
       have a15 := h0.size
       refine o8 <| of_ov <| sk fun _ p8 => sk fun _ q8 => rn <| mw e0 V1 ?_
       have A1 := (F1.f0 h0)
       have M5 := (b11.up h0)
       have B1 := (Q5.f0 h0)
       have U3 := Own.fa (Own.f0 r2 I0) l0 (fun a_ ha_ => (Own.tne (Own.f0 r2 I0) a1 (by decide) a_ ha_))
       have h10 := Own.fa U3 j0 (fun a_ ha_ => (fun e_ => e_.elim (Own.tne U3 U0 (by decide) a_ ha_) (Own.tne U3 S0 (by decide) a_ ha_)))
       have i10 := (Own.f0 h10 h0)
       refine gk (k_cl (f8 h0.ag (β := s1.heap.size) A1 B1 M5 i10 (by omega) (Mu.tn A1 B1 (by decide)) (by decide) (by decide) (by decide) (by decide)) rfl fn_8 (map_cons (eh e0 rfl) (map_cons (v := nn 0) rfl (map_cons (v := nn 50) rfl map_nil))) (fun P15 N0 M9 => ?_))
       obtain ⟨D0, J6, p7, O6, u7, S2, u3, V2, w3, U2, v3, W2, y3, y4, O4, z4, P4, rfl, z0, E1, Q3, y13, l5, z2, A2, B2⟩ := M9
       have V3 := Own.fa (Own.f0 r2 I0) l0 (fun a_ ha_ => (Own.tne (Own.f0 r2 I0) a1 (by decide) a_ ha_))
       have j10 := Own.fa V3 j0 (fun a_ ha_ => (fun e_ => e_.elim (Own.tne V3 U0 (by decide) a_ ha_) (Own.tne V3 S0 (by decide) a_ ha_)))
       have I1 := (Own.f0 j10 h0)
       have b15 := z0.size
       replace E1 : Mu D0 N0 J0 76 (hc s ++ ([.pointer (some ⟨b1, 0, none⟩), .pointer (some ⟨kx276, 0, none⟩), nn (n + 1), nn 1, nn 1073741824, .slice V0 1 c1, nn 1, .slice W0 1 d1, nn 1, .slice X0 1 e1, nn 1, .slice Y0 1 g1, nn 1, nn (n + 1), nn 1073741824, .slice La280 1 ca281, nn 1, .slice Lb282 1 cb283, nn 1, .slice Lc284 1 cc285, nn 1, .slice Ld286 1 ce287, nn 1, .slice none 0 0, nn 2, .slice Ar288 n cr289, .slice U2 36 v3, .slice W2 1 y3, .slice S2 9 u3, .slice V2 1 w3, .slice y4 1 O4, .slice z4 0 P4])) := E1
       replace Q3 : Mu D0 N0 kx276 116 (hc (sdg s (n + 1)) ++ ([.slice Ak278 16 ck279, nn 3])) := Q3
       replace z2 : Env D0 J6 9 p7 O6 u7 (targB 2 50) (sdg s (n + 1)) 0 := z2
       replace A2 : Env D0 S2 9 u3 V2 w3 (snapB 2 50) (sdg s (n + 1)) 1 := A2
       replace B2 : Env D0 U2 36 v3 W2 y3 (timeB 2 50 (sha (snapB 2 50))) (sdg s (n + 1)) 2 := B2
       refine gv (r_neq (j := 0) (eh e0 rfl) rfl) <| nl <| q8 <| ce e0 rfl <| ws <| p8 <| sk fun Q6 r8 => ?_
       have O3 : ∀ (a' : Act) (w' : World), (∃ (m' : Ctx) (b2 : Nat) (G4 : Option Addr) (X5 : Nat) (H4 : Option Addr) (Y5 : Nat) (I4 : Option Addr) (Z5 : Nat) (J4 : Option Addr) (a6 : Nat) (K4 : Option Addr) (b6 : Nat) (L4 : Option Addr) (c6 : Nat), a'.tmps.size = 118 ∧ a'.defers = [] ∧ a'.tmps.getD 1 undef = nn n ∧ a'.tmps.getD 8 undef = .pointer (some ⟨J0, 0, none⟩) ∧ a'.tmps.getD 12 undef = nn 4 ∧ a'.tmps.getD 13 undef = .pointer (some ⟨b2, 0, none⟩) ∧ a'.tmps.getD 14 undef = nn 0 ∧ Fr (no) D0 N0 m' w' ∧ N0.heap.size ≤ b2 ∧ Mu m' w' b2 59 ([nn (n + 1), nn 1073741824, .slice G4 1 X5, nn 1, .slice H4 1 Y5, nn 1, .slice I4 1 Z5, nn 1, .slice J4 1 a6, nn 1, .bool true, nn 2, nn 50, nn 2] ++ (hc (sha (snapB 2 50)) ++ ([nn 2, nn 50, .slice K4 1 b6, .slice L4 1 c6])))) → Q6 a' w' := by
        rintro C12 l16 ⟨I14, b2, G4, X5, H4, Y5, I4, Z5, J4, a6, K4, b6, L4, c6, b0, y7, v6, K11, L11, M11, N11, O0, a14, z5⟩
        have d15 := O0.size
        have m14 := z5.lt
        refine r8 <| of_ov <| sk fun _ t8 => rn <| mw b0 K11 ?_
        have G8 := (E1.f0 O0)
        have u11 := Fr.ll (Fr.ll (Fr.ll (Fr.ll (Fr.ll (Fr.ll (Fr.ll (Fr.l2 k0 E0) K0) w0) l0) j0) h0) z0) O0
        have k10 := h5.le u11
        have H8 := (C2.f0 h0).fs z0 (fun h => h.elim i5.symm (fun h => h.elim d11 (Mu.nA (C2.f0 h0) I1 (by decide))))
        have I8 := (H8.f0 O0)
        have l10 := ((M5.up z0).up O0)
        have J8 := (Q3.f0 O0)
        refine gk (k_cl (f13 O0.ag (X := [nn (n + 1), nn 1, nn 1073741824, .slice V0 1 c1, nn 1, .slice W0 1 d1, nn 1, .slice X0 1 e1, nn 1, .slice Y0 1 g1, nn 1, nn (n + 1), nn 1073741824, .slice La280 1 ca281, nn 1, .slice Lb282 1 cb283, nn 1, .slice Lc284 1 cc285, nn 1, .slice Ld286 1 ce287, nn 1, .slice none 0 0, nn 2, .slice Ar288 n cr289, .slice U2 36 v3, .slice W2 1 y3, .slice S2 9 u3, .slice V2 1 w3, .slice y4 1 O4, .slice z4 0 P4]) G8 I8 k10 J8 l10) rfl fn_13 (map_cons (eh b0 rfl) map_nil) (fun Q15 n16 N9 => ?_))
        obtain ⟨J14, rfl, i2⟩ := N9
        have e15 := i2.size
        refine mv b0 rfl <| gv (r_extract (v := nn n) (eh b0 rfl) (by kernel_rfl)) <| gv (r_extract (v := nn 3) (eh b0 rfl) (by kernel_rfl)) <| ms b0 rfl <| ms b0 rfl <| nl <| t8 <| sk fun _ v8 => rn <| mw b0 L11 <| gv (r_eql (j := 4) (eh b0 rfl) rfl) <| mv b0 rfl <| sg (t := 94) rfl rfl b0 (eb b0 rfl (by decide)) (kv (r_move (em b0 rfl rfl N11)) ?_)
        refine sg (t := 94) rfl rfl b0 (eb b0 rfl (by decide)) (kv (r_eql (j := 0) (eh b0 rfl) rfl) ?_)
        refine gv (r_pick_t (eb b0 rfl (by decide)) (eh b0 rfl)) <| mv b0 rfl <| sg (t := 98) rfl rfl b0 (eb b0 rfl (by decide)) (kv (r_field (o' := 0) (em b0 rfl rfl M11) fo_59_0 (by rfl)) ?_)
        refine sg (t := 98) rfl rfl b0 (eb b0 rfl (by decide)) (kv (r_field (o' := 0) (eh b0 rfl) fo_35_0 (by rfl)) ?_)
        have K8 := (z5.f0 i2)
        refine sg (t := 98) rfl rfl b0 (eb b0 rfl (by decide)) (kv (la (v := nn (n + 1)) (eh b0 rfl) K8.bk qr_3) ?_)
        refine sg (t := 98) rfl rfl b0 (eb b0 rfl (by decide)) (kv (r_move (em b0 rfl rfl v6)) ?_)
        refine sg (t := 98) rfl rfl b0 (eb b0 rfl (by decide)) (kv (r_add (i := 1) rfl (eh b0 rfl) (by omega)) ?_)
        refine sg (t := 98) rfl rfl b0 (eb b0 rfl (by decide)) (kv (r_eql (eh b0 rfl) (eh b0 rfl)) ?_)
        refine gv (r_pick_t (eb b0 rfl (by decide)) (eh b0 rfl)) <| mv b0 rfl ?_
        have p2 : (decide (n + 1 = 1 + n)) = true := (decide_eq_true (by omega))
        refine sg (t := 106) rfl rfl b0 (eb b0 rfl p2) (kv (r_move (eh b0 rfl)) ?_)
        refine sg (t := 106) rfl rfl b0 (eb b0 rfl p2) (kv (r_move (em b0 rfl rfl v6)) ?_)
        refine sg (t := 106) rfl rfl b0 (eb b0 rfl p2) (kv (r_eql (eh b0 rfl) (eh b0 rfl)) ?_)
        refine gv (r_pick_t (eb b0 rfl p2) (eh b0 rfl)) <| mv b0 rfl ?_
        have M3 : (decide (n = n)) = true := (decide_eq_true rfl)
        refine sg (t := 111) rfl rfl b0 (eb b0 rfl M3) (kv (r_move (eh b0 rfl)) ?_)
        refine sg (t := 111) rfl rfl b0 (eb b0 rfl M3) (kv (r_eql (j := 3) (eh b0 rfl) rfl) ?_)
        refine gv (r_pick_t (eb b0 rfl M3) (eh b0 rfl)) <| mv b0 rfl <| sg (t := 115) rfl rfl b0 (eb b0 rfl (by decide)) (k_cl (f4 i2.ag) rfl fn_4 map_nil (fun R15 p16 O9 => ?_))
        obtain ⟨B11, rfl, U4⟩ := O9
        have g15 := U4.size
        refine gv (r_pick_t (eb b0 rfl (by decide)) (eh b0 rfl)) <| ms b0 rfl <| nl <| v8 <| wp_ret <| ret_of (res1 rfl _ _ (gh b0 rfl)) ((ov_defers _ _).trans y7) ?_
        exact ⟨B11, rfl, (((((((((((((((((cu0.t0 h2).t0 u1).t0 A0).tn C0 (by omega)).tr L0 (fun x hx => hx.elim (fun h1 => .inl (by have h_ : x = L1 := h1; omega)) (fun h1 => .inl (by have h_ : x = p1 := h1; omega)))).t0 Z0).t0 k0).tr E0 (fun x hx => hx.elim (fun h1 => .inl (by have h_ : x = J0 := h1; omega)) (fun h1 => h1.elim (fun h1 => .inl (by have h_ : x = D2 := h1; omega)) (fun h1 => .inl (by obtain ⟨_, ha_, _⟩ := h1; cases ha_))))).t0 K0).t0 w0).tn l0 (by omega)).tr j0 (fun x hx => hx.elim (fun h1 => .inl (by have h_ : x = J0 := h1; omega)) (fun h1 => .inl (by have h_ : x = b1 := h1; omega)))).t0 h0).tr z0 (fun x hx => hx.elim (fun h1 => .inl (by have h_ : x = J0 := h1; omega)) (fun h1 => h1.elim (fun h1 => .inl (by have h_ : x = kx276 := h1; omega)) (fun h1 => .inl (by have h_ := Own.at I1 x h1; omega))))).t0 O0).t0 i2).t0 U4)⟩
       have i0 : Fr no D0 N0 D0 { N0 with drawn := N0.drawn + 1 } := Fr.drw z0.ag
       obtain ⟨O2, O5⟩ : ∃ w_, w_ = ({ N0 with drawn := N0.drawn + 1 } : World) := ⟨_, rfl⟩
       rw [← O5] at i0
       have h15 := i0.size
       refine wp_region_T mixed (fun wz => ∃ mz, Fr (no) D0 O2 mz wz) (fun wz => ∃ mz, Fr (no) D0 O2 mz wz) 10 ?_
       rw [← O5]
       show wpAnyT _ _ _ _ _ 10 _ _ _
       have M2 : Fr (no) D0 O2 D0 O2 := Fr.refl i0.ag
       have L8 := ((((y0.fs j0 (fun h => h.elim (Mu.tn y0 U0 (by decide)) (Mu.tn y0 S0 (by decide)))).f0 h0).fs z0 (fun h => h.elim (Mu.tn ((y0.fs j0 (fun h => h.elim (Mu.tn y0 U0 (by decide)) (Mu.tn y0 S0 (by decide)))).f0 h0) A1 (by decide)) (fun h => h.elim (Mu.tn ((y0.fs j0 (fun h => h.elim (Mu.tn y0 U0 (by decide)) (Mu.tn y0 S0 (by decide)))).f0 h0) B1 (by decide)) (Mu.nA ((y0.fs j0 (fun h => h.elim (Mu.tn y0 U0 (by decide)) (Mu.tn y0 S0 (by decide)))).f0 h0) I1 (by decide))))).f0 i0)
       refine tkk (i := 0) rfl rfl (fun wz ⟨mz, hz⟩ => lb (cs := [nn 1, nn 1073741824, .slice n0 1 r0, nn 1, .slice o0 1 s0, nn 1, .slice p0 1 u0, nn 1, .slice q0 1 v0, nn 1, .bool false, nn 0, nn 0, nn 0] ++ (hc (List.replicate 32 0) ++ ([nn 0, nn 0, .slice none 0 0, .slice none 0 0]))) (em e0 rfl rfl J11) (hz.ex L8.bk (fun h => h)) qr_59 sz_59) ⟨_, M2⟩ <| tkk (i := 1) rfl rfl (fun _ _ => r_move (em e0 rfl rfl V1)) ⟨_, M2⟩ <| anyT_all (rs := [2, 7]) (by kernel_rfl) (by simp) (fun V13 v5 => ?_)
       simp only [List.mem_cons, List.mem_nil_iff, or_false] at v5
       rcases v5 with rfl | rfl
       ·
        have m10 := Own.fa (Own.f0 B0 h0) z0 (fun a_ ha_ => (fun e_ => e_.elim (Own.tne (Own.f0 B0 h0) A1 (by decide) a_ ha_) (fun e_ => e_.elim (Own.tne (Own.f0 B0 h0) B1 (by decide) a_ ha_) (Own.tA (Own.f0 B0 h0) I1 (by decide) a_ ha_))))
        have n10 := (Own.f0 m10 i0)
        obtain ⟨E12, s12, hAe_, A5⟩ := Own.opn n10 (by omega)
        subst hAe_
        have o14 := A5.lt
        have M8 := (E1.f0 i0)
        have v11 := Fr.ll (Fr.l2 h0 z0) i0
        have z7 := Rts.le J1 v11
        have A7 := (B2.up i0)
        have B7 := (A2.up i0)
        have C7 := (z2.up i0)
        have o10 := (l5.up i0)
        refine ao (b := true) rfl rfl rfl (by kernel_rfl) (k_cl (f12_ks i0.ag M8 A5 z7 (by omega) A7 (by decide) (by decide) B7 (by decide) (by decide) C7 (by decide) (by decide) o10) rfl fn_12 (map_cons (eh e0 rfl) map_nil) (fun S15 q16 P9 => ?_))
        obtain ⟨K14, P11, L12, Q11, M12, R11, N12, S11, O12, T11, P12, U11, Q12, A4, Q4, t12, V11, R12, rfl, P0, m5, n5, o5, p5, q5, r5⟩ := P9
        have j15 := P0.size
        have p4 := M2.t0 P0
        refine ⟨(tbT ⟨_, p4⟩), ?_⟩
        refine anyT_all (rs := [3, 7]) (by kernel_rfl) (by simp) (fun W13 w5 => ?_)
        simp only [List.mem_cons, List.mem_nil_iff, or_false] at w5
        rcases w5 with rfl | rfl
        ·
         have E2 := Fr.ll (Fr.ll (Fr.ll (Fr.ll (Fr.ll (Fr.l2 w0 l0) j0) h0) z0) i0) P0
         have p10 := l1.le E2
         have q10 := m1.le E2
         have r10 := n1.le E2
         have s10 := o1.le E2
         refine ao (b := true) rfl rfl rfl (by kernel_rfl) (k_cl (f11_p P0.ag (a := pk (sdg s 0)) (v := n + 1) (s := sdg s (n + 1)) (R := .slice A4 n Q4) (tv := 1) (T0 := n0) (x0 := r0) (T1 := o0) (x1 := s0) (T2 := p0) (x2 := u0) (T3 := q0) (x3 := v0) (fun _ _ ag_ hl_ => f32 (b := (fun v => pk (sdg s v))) ag_ (p10.le hl_) (q10.le hl_) (r10.le hl_) (s10.le hl_) (p5.le hl_) (Rts.le q5 hl_) (by omega)) m5 n5 o5 r5 (by decide) (by decide) (by decide) (by decide) (by decide) (by decide) (by decide)) rfl fn_11 (map_cons (eh e0 rfl) (map_cons (eh e0 rfl) (map_cons (v := nn 1) rfl map_nil))) (fun T15 r16 Q9 => ?_))
         obtain ⟨C11, X2, W3, Y2, X3, Z2, Y3, a3, Z3, c3, a4, d3, b4, rfl, j2⟩ := Q9
         have k15 := j2.size
         have M1 := p4.t0 j2
         refine ⟨(tbT ⟨_, M1⟩), ?_⟩
         refine tkk (i := 4) rfl rfl (fun _ _ => r_move (eh e0 rfl)) ⟨_, M1⟩ <| tkk (i := 5) rfl rfl (fun _ _ => r_extract (v := .agg ([nn (n + 1), nn 1073741824, .slice X2 1 W3, nn 1, .slice Y2 1 X3, nn 1, .slice Z2 1 Y3, nn 1, .slice a3 1 Z3, nn 1, .bool true, nn 2, nn 50, nn 2] ++ (hc (sha (snapB 2 50)) ++ ([nn 2, nn 50, .slice c3 1 a4, .slice d3 1 b4]))).toArray) (eh e0 rfl) (by kernel_rfl)) ⟨_, M1⟩ <| tkk (i := 6) rfl rfl (fun _ _ => r_extract (v := nn 0) (eh e0 rfl) (by kernel_rfl)) ⟨_, M1⟩ <| ann (i := 7) (b := true) rfl rfl (k_alloc j2.ag qz_59 (fun s16 c7 B5 k2 c14 => ?_))
         have m15 := k2.size
         have g6 := M1.t0 k2
         have p14 := B5.lt
         refine ⟨(tbT ⟨_, g6⟩), ?_⟩
         refine an00 (i := 8) (b := true) rfl rfl (kt (L' := [nn (n + 1), nn 1073741824, .slice X2 1 W3, nn 1, .slice Y2 1 X3, nn 1, .slice Z2 1 Y3, nn 1, .slice a3 1 Z3, nn 1, .bool true, nn 2, nn 50, nn 2] ++ (hc (sha (snapB 2 50)) ++ ([nn 2, nn 50, .slice c3 1 a4, .slice d3 1 b4]))) k2.ag (eh e0 rfl) (eh e0 rfl) B5 sz_59 (fun t16 C9 B3 => ?_))
         have n15 := B3.size
         have h6 := g6.tn B3 (by omega)
         refine ⟨(tbT ⟨_, h6⟩), ?_⟩
         refine tkk (i := 9) rfl rfl (fun _ _ => r_assign (eh e0 rfl)) ⟨_, h6⟩ <| anyT_done (by kernel_rfl) ?_ _
         exact O3 _ _ ⟨C11, c7, X2, W3, Y2, X3, Z2, Y3, a3, Z3, c3, a4, d3, b4, ((ov_size _ _).trans e0), ((ov_defers _ _).trans H3), (gm e0 rfl rfl s4), (gm e0 rfl rfl V1), (gm e0 rfl rfl t4), (gh e0 rfl), (gh e0 rfl), ((((i0.t0 P0).t0 j2).t0 k2).tn B3 (by omega)), (by omega), C9⟩
        ·
         refine ao (b := true) rfl rfl rfl (by kernel_rfl) (k_alloc P0.ag qz_59 (fun u16 d7 C5 F0 e14 => ?_))
         have o15 := F0.size
         have i6 := p4.t0 F0
         have q14 := C5.lt
         refine ⟨(tbT ⟨_, i6⟩), ?_⟩
         have F2 := Fr.ll (Fr.ll (Fr.ll (Fr.ll (Fr.ll (Fr.ll (Fr.l2 w0 l0) j0) h0) z0) i0) P0) F0
         have t10 := l1.le F2
         have u10 := m1.le F2
         have v10 := n1.le F2
         have w10 := o1.le F2
         have x10 := (p5.up F0)
         have D7 := Rts.le q5 F0.le
         have E7 := (m5.up F0)
         have F7 := (n5.up F0)
         have G7 := (o5.up F0)
         have y10 := (r5.up F0)
         refine ann (i := 3) (b := true) rfl rfl (k_cl (f11_p F0.ag (a := pk (sdg s 0)) (v := n + 1) (s := sdg s (n + 1)) (R := .slice A4 n Q4) (tv := 1) (T0 := n0) (x0 := r0) (T1 := o0) (x1 := s0) (T2 := p0) (x2 := u0) (T3 := q0) (x3 := v0) (fun _ _ ag_ hl_ => f32 (b := (fun v => pk (sdg s v))) ag_ (t10.le hl_) (u10.le hl_) (v10.le hl_) (w10.le hl_) (x10.le hl_) (Rts.le D7 hl_) (by omega)) E7 F7 G7 y10 (by decide) (by decide) (by decide) (by decide) (by decide) (by decide) (by decide)) rfl fn_11 (map_cons (eh e0 rfl) (map_cons (eh e0 rfl) (map_cons (v := nn 1) rfl map_nil))) (fun U15 v16 R9 => ?_))
         obtain ⟨D11, e3, c4, g3, d4, h3, e4, i3, g4, j3, h4, k3, i4, rfl, v1⟩ := R9
         have p15 := v1.size
         have N1 := i6.t0 v1
         refine ⟨(tbT ⟨_, N1⟩), ?_⟩
         refine tkk (i := 4) rfl rfl (fun _ _ => r_move (eh e0 rfl)) ⟨_, N1⟩ <| tkk (i := 5) rfl rfl (fun _ _ => r_extract (v := .agg ([nn (n + 1), nn 1073741824, .slice e3 1 c4, nn 1, .slice g3 1 d4, nn 1, .slice h3 1 e4, nn 1, .slice i3 1 g4, nn 1, .bool true, nn 2, nn 50, nn 2] ++ (hc (sha (snapB 2 50)) ++ ([nn 2, nn 50, .slice j3 1 h4, .slice k3 1 i4]))).toArray) (eh e0 rfl) (by kernel_rfl)) ⟨_, N1⟩ <| tkk (i := 6) rfl rfl (fun _ _ => r_extract (v := nn 0) (eh e0 rfl) (by kernel_rfl)) ⟨_, N1⟩ ?_
         have O8 := (C5.f0 v1)
         refine an00 (i := 8) (b := true) rfl rfl (kt (L' := [nn (n + 1), nn 1073741824, .slice e3 1 c4, nn 1, .slice g3 1 d4, nn 1, .slice h3 1 e4, nn 1, .slice i3 1 g4, nn 1, .bool true, nn 2, nn 50, nn 2] ++ (hc (sha (snapB 2 50)) ++ ([nn 2, nn 50, .slice j3 1 h4, .slice k3 1 i4]))) v1.ag (eh e0 rfl) (eh e0 rfl) O8 sz_59 (fun w16 D9 C3 => ?_))
         have q15 := C3.size
         have j6 := N1.tn C3 (by omega)
         refine ⟨(tbT ⟨_, j6⟩), ?_⟩
         refine tkk (i := 9) rfl rfl (fun _ _ => r_assign (eh e0 rfl)) ⟨_, j6⟩ <| anyT_done (by kernel_rfl) ?_ _
         exact O3 _ _ ⟨D11, d7, e3, c4, g3, d4, h3, e4, i3, g4, j3, h4, k3, i4, ((ov_size _ _).trans e0), ((ov_defers _ _).trans H3), (gm e0 rfl rfl s4), (gm e0 rfl rfl V1), (gm e0 rfl rfl t4), (gh e0 rfl), (gh e0 rfl), ((((i0.t0 P0).t0 F0).t0 v1).tn C3 (by omega)), (by omega), D9⟩
       ·
        refine ao (b := true) rfl rfl rfl (by kernel_rfl) (k_alloc i0.ag qz_59 (fun x16 e7 D5 G0 g14 => ?_))
        have r15 := G0.size
        have k6 := M2.t0 G0
        have r14 := D5.lt
        refine ⟨(tbT ⟨_, k6⟩), ?_⟩
        have V4 := i0.t0 G0
        have A10 := Own.fa (Own.f0 B0 h0) z0 (fun a_ ha_ => (fun e_ => e_.elim (Own.tne (Own.f0 B0 h0) A1 (by decide) a_ ha_) (fun e_ => e_.elim (Own.tne (Own.f0 B0 h0) B1 (by decide) a_ ha_) (Own.tA (Own.f0 B0 h0) I1 (by decide) a_ ha_))))
        have B10 := (Own.f0 A10 V4)
        obtain ⟨F12, u12, hAe_, E5⟩ := Own.opn B10 (by omega)
        subst hAe_
        have s14 := E5.lt
        have P8 := (E1.f0 V4)
        have w11 := Fr.ll (Fr.ll (Fr.l2 h0 z0) i0) G0
        have H7 := Rts.le J1 w11
        have I7 := ((B2.up i0).up G0)
        have J7 := ((A2.up i0).up G0)
        have K7 := ((z2.up i0).up G0)
        have C10 := ((l5.up i0).up G0)
        refine ann (i := 2) (b := true) rfl rfl (k_cl (f12_ks G0.ag P8 E5 H7 (by omega) I7 (by decide) (by decide) J7 (by decide) (by decide) K7 (by decide) (by decide) C10) rfl fn_12 (map_cons (eh e0 rfl) map_nil) (fun V15 y16 S9 => ?_))
        obtain ⟨L14, W11, S12, X11, T12, Y11, U12, Z11, V12, a12, W12, b12, X12, K6, q7, v12, c12, Y12, rfl, j1, q9, r9, s9, t9, u9, v9⟩ := S9
        have s15 := j1.size
        have l6 := k6.t0 j1
        refine ⟨(tbT ⟨_, l6⟩), ?_⟩
        have G2 := Fr.ll (Fr.ll (Fr.ll (Fr.ll (Fr.ll (Fr.ll (Fr.l2 w0 l0) j0) h0) z0) i0) G0) j1
        have D10 := l1.le G2
        have E10 := m1.le G2
        have F10 := n1.le G2
        have G10 := o1.le G2
        refine ann (i := 3) (b := true) rfl rfl (k_cl (f11_p j1.ag (a := pk (sdg s 0)) (v := n + 1) (s := sdg s (n + 1)) (R := .slice K6 n q7) (tv := 1) (T0 := n0) (x0 := r0) (T1 := o0) (x1 := s0) (T2 := p0) (x2 := u0) (T3 := q0) (x3 := v0) (fun _ _ ag_ hl_ => f32 (b := (fun v => pk (sdg s v))) ag_ (D10.le hl_) (E10.le hl_) (F10.le hl_) (G10.le hl_) (t9.le hl_) (Rts.le u9 hl_) (by omega)) q9 r9 s9 v9 (by decide) (by decide) (by decide) (by decide) (by decide) (by decide) (by decide)) rfl fn_11 (map_cons (eh e0 rfl) (map_cons (eh e0 rfl) (map_cons (v := nn 1) rfl map_nil))) (fun W15 A16 T9 => ?_))
        obtain ⟨E11, l3, j4, m3, k4, n3, l4, o3, m4, p3, n4, q3, o4, rfl, w1⟩ := T9
        have u15 := w1.size
        have O1 := l6.t0 w1
        refine ⟨(tbT ⟨_, O1⟩), ?_⟩
        refine tkk (i := 4) rfl rfl (fun _ _ => r_move (eh e0 rfl)) ⟨_, O1⟩ <| tkk (i := 5) rfl rfl (fun _ _ => r_extract (v := .agg ([nn (n + 1), nn 1073741824, .slice l3 1 j4, nn 1, .slice m3 1 k4, nn 1, .slice n3 1 l4, nn 1, .slice o3 1 m4, nn 1, .bool true, nn 2, nn 50, nn 2] ++ (hc (sha (snapB 2 50)) ++ ([nn 2, nn 50, .slice p3 1 n4, .slice q3 1 o4]))).toArray) (eh e0 rfl) (by kernel_rfl)) ⟨_, O1⟩ <| tkk (i := 6) rfl rfl (fun _ _ => r_extract (v := nn 0) (eh e0 rfl) (by kernel_rfl)) ⟨_, O1⟩ ?_
        have v7 := j1.t0 w1
        have Q8 := (D5.f0 v7)
        refine an00 (i := 8) (b := true) rfl rfl (kt (L' := [nn (n + 1), nn 1073741824, .slice l3 1 j4, nn 1, .slice m3 1 k4, nn 1, .slice n3 1 l4, nn 1, .slice o3 1 m4, nn 1, .bool true, nn 2, nn 50, nn 2] ++ (hc (sha (snapB 2 50)) ++ ([nn 2, nn 50, .slice p3 1 n4, .slice q3 1 o4]))) w1.ag (eh e0 rfl) (eh e0 rfl) Q8 sz_59 (fun B16 E9 D3 => ?_))
        have v15 := D3.size
        have m6 := O1.tn D3 (by omega)
        refine ⟨(tbT ⟨_, m6⟩), ?_⟩
        refine tkk (i := 9) rfl rfl (fun _ _ => r_assign (eh e0 rfl)) ⟨_, m6⟩ <| anyT_done (by kernel_rfl) ?_ _
        exact O3 _ _ ⟨E11, e7, l3, j4, m3, k4, n3, l4, o3, m4, p3, n4, q3, o4, ((ov_size _ _).trans e0), ((ov_defers _ _).trans H3), (gm e0 rfl rfl s4), (gm e0 rfl rfl V1), (gm e0 rfl rfl t4), (gh e0 rfl), (gh e0 rfl), ((((i0.t0 G0).t0 j1).t0 w1).tn D3 (by omega)), (by omega), E9⟩
      have m0 : Fr no i1 t1 i1 { t1 with drawn := t1.drawn + 1 } := Fr.drw j0.ag
      obtain ⟨P2, P5⟩ : ∃ w_, w_ = ({ t1 with drawn := t1.drawn + 1 } : World) := ⟨_, rfl⟩
      rw [← P5] at m0
      have w15 := m0.size
      refine wp_region_T mixed (fun wz => ∃ mz, Fr (no) i1 P2 mz wz) (fun wz => ∃ mz, Fr (no) i1 P2 mz wz) 10 ?_
      rw [← P5]
      show wpAnyT _ _ _ _ _ 10 _ _ _
      have N2 : Fr (no) i1 P2 i1 P2 := Fr.refl m0.ag
      have R8 := ((y0.fs j0 (fun h => h.elim (Mu.tn y0 U0 (by decide)) (Mu.tn y0 S0 (by decide)))).f0 m0)
      refine tkk (i := 0) rfl rfl (fun wz ⟨mz, hz⟩ => lb (cs := [nn 1, nn 1073741824, .slice n0 1 r0, nn 1, .slice o0 1 s0, nn 1, .slice p0 1 u0, nn 1, .slice q0 1 v0, nn 1, .bool false, nn 0, nn 0, nn 0] ++ (hc (List.replicate 32 0) ++ ([nn 0, nn 0, .slice none 0 0, .slice none 0 0]))) (em c0 rfl rfl U1) (hz.ex R8.bk (fun h => h)) qr_59 sz_59) ⟨_, N2⟩ <| tkk (i := 1) rfl rfl (fun _ _ => r_move (em c0 rfl rfl r1)) ⟨_, N2⟩ <| anyT_all (rs := [2, 7]) (by kernel_rfl) (by simp) (fun X13 x5 => ?_)
      simp only [List.mem_cons, List.mem_nil_iff, or_false] at x5
      rcases x5 with rfl | rfl
      ·
       have H10 := (Own.f0 B0 m0)
       obtain ⟨G12, w12, hAe_, F5⟩ := Own.opn H10 (by omega)
       subst hAe_
       have t14 := F5.lt
       have S8 := (F1.f0 m0)
       have L7 := Rts.le J1 m0.le
       have H2 := Fr.ll (Fr.ll (Fr.ll (Fr.l2 K0 w0) l0) j0) m0
       have M7 := u2.le H2
       have N7 := t2.le H2
       have O7 := s2.le H2
       have I10 := j5.le H2
       refine ao (b := true) rfl rfl rfl (by kernel_rfl) (k_cl (f12_ks m0.ag S8 F5 L7 (by omega) M7 (by decide) (by decide) N7 (by decide) (by decide) O7 (by decide) (by decide) I10) rfl fn_12 (map_cons (eh c0 rfl) map_nil) (fun X15 C16 U9 => ?_))
       obtain ⟨N14, d12, Z12, e12, a13, g12, b13, h12, c13, i12, d13, j12, e13, B4, R4, x12, k12, g13, rfl, Q0, s5, w9, x9, t5, u5, y9⟩ := U9
       have x15 := Q0.size
       have q4 := N2.t0 Q0
       refine ⟨(tbT ⟨_, q4⟩), ?_⟩
       refine anyT_all (rs := [3, 7]) (by kernel_rfl) (by simp) (fun Y13 y5 => ?_)
       simp only [List.mem_cons, List.mem_nil_iff, or_false] at y5
       rcases y5 with rfl | rfl
       ·
        have I2 := Fr.ll (Fr.ll (Fr.ll (Fr.l2 w0 l0) j0) m0) Q0
        have J10 := l1.le I2
        have K10 := m1.le I2
        have L10 := n1.le I2
        have M10 := o1.le I2
        refine ao (b := true) rfl rfl rfl (by kernel_rfl) (k_cl (f11_n Q0.ag (a := pk (sdg s 0)) (v := n + 1) (s := sdg s 1) (R := .slice B4 n R4) (tv := 1) (T0 := n0) (x0 := r0) (T1 := o0) (x1 := s0) (T2 := p0) (x2 := u0) (T3 := q0) (x3 := v0) (b := pk (sdg s (n + 1))) (fun _ _ ag_ hl_ => f32 (b := (fun v => pk (sdg s v))) ag_ (J10.le hl_) (K10.le hl_) (L10.le hl_) (M10.le hl_) (t5.le hl_) (Rts.le u5 hl_) (by omega)) s5 (fun h_ => C1 h_.symm) (by decide) (by decide) (by decide) (by decide)) rfl fn_11 (map_cons (eh c0 rfl) (map_cons (eh c0 rfl) (map_cons (v := nn 1) rfl map_nil))) (fun Y15 D16 V9 => ?_))
        obtain ⟨F11, rfl, m2⟩ := V9
        have y15 := m2.size
        have P1 := q4.t0 m2
        refine ⟨(tbT ⟨_, P1⟩), ?_⟩
        refine tkk (i := 4) rfl rfl (fun _ _ => r_move (eh c0 rfl)) ⟨_, P1⟩ <| tkk (i := 5) rfl rfl (fun _ _ => r_extract (v := .agg ([nn 1, nn 1073741824, .slice n0 1 r0, nn 1, .slice o0 1 s0, nn 1, .slice p0 1 u0, nn 1, .slice q0 1 v0, nn 1, .bool false, nn 0, nn 0, nn 0] ++ (hc (List.replicate 32 0) ++ ([nn 0, nn 0, .slice none 0 0, .slice none 0 0]))).toArray) (eh c0 rfl) (by kernel_rfl)) ⟨_, P1⟩ <| tkk (i := 6) rfl rfl (fun _ _ => r_extract (v := nn 4) (eh c0 rfl) (by kernel_rfl)) ⟨_, P1⟩ <| ann (i := 7) (b := true) rfl rfl (k_alloc m2.ag qz_59 (fun E16 H12 G5 n2 h14 => ?_))
        have z15 := n2.size
        have n6 := P1.t0 n2
        have u14 := G5.lt
        refine ⟨(tbT ⟨_, n6⟩), ?_⟩
        refine an00 (i := 8) (b := true) rfl rfl (kt (L' := [nn 1, nn 1073741824, .slice n0 1 r0, nn 1, .slice o0 1 s0, nn 1, .slice p0 1 u0, nn 1, .slice q0 1 v0, nn 1, .bool false, nn 0, nn 0, nn 0] ++ (hc (List.replicate 32 0) ++ ([nn 0, nn 0, .slice none 0 0, .slice none 0 0]))) n2.ag (eh c0 rfl) (eh c0 rfl) G5 sz_59 (fun F16 L13 E3 => ?_))
        have A15 := E3.size
        have o6 := n6.tn E3 (by omega)
        refine ⟨(tbT ⟨_, o6⟩), ?_⟩
        refine tkk (i := 9) rfl rfl (fun _ _ => r_assign (eh c0 rfl)) ⟨_, o6⟩ <| anyT_done (by kernel_rfl) ?_ _
        exact N3 _ _ ⟨F11, ((ov_size _ _).trans c0), ((ov_defers _ _).trans o2), (gm c0 rfl rfl S1), (gm c0 rfl rfl r1), (gm c0 rfl rfl U1), (gh c0 rfl), ((((m0.t0 Q0).t0 m2).t0 n2).tn E3 (by omega))⟩
       ·
        refine ao (b := true) rfl rfl rfl (by kernel_rfl) (k_alloc Q0.ag qz_59 (fun G16 I12 H5 H0 i14 => ?_))
        have B15 := H0.size
        have p6 := q4.t0 H0
        have v14 := H5.lt
        refine ⟨(tbT ⟨_, p6⟩), ?_⟩
        have J2 := Fr.ll (Fr.ll (Fr.ll (Fr.ll (Fr.l2 w0 l0) j0) m0) Q0) H0
        have N10 := l1.le J2
        have O10 := m1.le J2
        have P10 := n1.le J2
        have Q10 := o1.le J2
        have R10 := (t5.up H0)
        have P7 := Rts.le u5 H0.le
        have Q7 := (s5.up H0)
        have o13 := (w9.up H0)
        have p13 := (x9.up H0)
        have Q13 := (y9.up H0)
        refine ann (i := 3) (b := true) rfl rfl (k_cl (f11_n H0.ag (a := pk (sdg s 0)) (v := n + 1) (s := sdg s 1) (R := .slice B4 n R4) (tv := 1) (T0 := n0) (x0 := r0) (T1 := o0) (x1 := s0) (T2 := p0) (x2 := u0) (T3 := q0) (x3 := v0) (b := pk (sdg s (n + 1))) (fun _ _ ag_ hl_ => f32 (b := (fun v => pk (sdg s v))) ag_ (N10.le hl_) (O10.le hl_) (P10.le hl_) (Q10.le hl_) (R10.le hl_) (Rts.le P7 hl_) (by omega)) Q7 (fun h_ => C1 h_.symm) (by decide) (by decide) (by decide) (by decide)) rfl fn_11 (map_cons (eh c0 rfl) (map_cons (eh c0 rfl) (map_cons (v := nn 1) rfl map_nil))) (fun Z15 H16 W9 => ?_))
        obtain ⟨G11, rfl, y1⟩ := W9
        have C15 := y1.size
        have Q1 := p6.t0 y1
        refine ⟨(tbT ⟨_, Q1⟩), ?_⟩
        refine tkk (i := 4) rfl rfl (fun _ _ => r_move (eh c0 rfl)) ⟨_, Q1⟩ <| tkk (i := 5) rfl rfl (fun _ _ => r_extract (v := .agg ([nn 1, nn 1073741824, .slice n0 1 r0, nn 1, .slice o0 1 s0, nn 1, .slice p0 1 u0, nn 1, .slice q0 1 v0, nn 1, .bool false, nn 0, nn 0, nn 0] ++ (hc (List.replicate 32 0) ++ ([nn 0, nn 0, .slice none 0 0, .slice none 0 0]))).toArray) (eh c0 rfl) (by kernel_rfl)) ⟨_, Q1⟩ <| tkk (i := 6) rfl rfl (fun _ _ => r_extract (v := nn 4) (eh c0 rfl) (by kernel_rfl)) ⟨_, Q1⟩ ?_
        have T8 := (H5.f0 y1)
        refine an00 (i := 8) (b := true) rfl rfl (kt (L' := [nn 1, nn 1073741824, .slice n0 1 r0, nn 1, .slice o0 1 s0, nn 1, .slice p0 1 u0, nn 1, .slice q0 1 v0, nn 1, .bool false, nn 0, nn 0, nn 0] ++ (hc (List.replicate 32 0) ++ ([nn 0, nn 0, .slice none 0 0, .slice none 0 0]))) y1.ag (eh c0 rfl) (eh c0 rfl) T8 sz_59 (fun I16 M13 F3 => ?_))
        have D15 := F3.size
        have q6 := Q1.tn F3 (by omega)
        refine ⟨(tbT ⟨_, q6⟩), ?_⟩
        refine tkk (i := 9) rfl rfl (fun _ _ => r_assign (eh c0 rfl)) ⟨_, q6⟩ <| anyT_done (by kernel_rfl) ?_ _
        exact N3 _ _ ⟨G11, ((ov_size _ _).trans c0), ((ov_defers _ _).trans o2), (gm c0 rfl rfl S1), (gm c0 rfl rfl r1), (gm c0 rfl rfl U1), (gh c0 rfl), ((((m0.t0 Q0).t0 H0).t0 y1).tn F3 (by omega))⟩
      ·
       refine ao (b := true) rfl rfl rfl (by kernel_rfl) (k_alloc m0.ag qz_59 (fun J16 J12 I5 R0 j14 => ?_))
       have E15 := R0.size
       have r6 := N2.t0 R0
       have x14 := I5.lt
       refine ⟨(tbT ⟨_, r6⟩), ?_⟩
       have W4 := m0.t0 R0
       have S10 := (Own.f0 B0 W4)
       obtain ⟨K12, y12, hAe_, J5⟩ := Own.opn S10 (by omega)
       subst hAe_
       have y14 := J5.lt
       have U8 := (F1.f0 W4)
       have x11 := Fr.l2 m0 R0
       have R7 := Rts.le J1 x11
       have K2 := Fr.ll (Fr.ll (Fr.ll (Fr.ll (Fr.l2 K0 w0) l0) j0) m0) R0
       have S7 := u2.le K2
       have T7 := t2.le K2
       have U7 := s2.le K2
       have T10 := j5.le K2
       refine ann (i := 2) (b := true) rfl rfl (k_cl (f12_ks R0.ag U8 J5 R7 (by omega) S7 (by decide) (by decide) T7 (by decide) (by decide) U7 (by decide) (by decide) T10) rfl fn_12 (map_cons (eh c0 rfl) map_nil) (fun a16 K16 X9 => ?_))
       obtain ⟨O14, l12, h13, m12, i13, n12, j13, o12, k13, p12, l13, q12, m13, L6, r7, z12, r12, n13, rfl, k1, z9, I13, J13, A9, B9, K13⟩ := X9
       have F15 := k1.size
       have s6 := r6.t0 k1
       refine ⟨(tbT ⟨_, s6⟩), ?_⟩
       have L2 := Fr.ll (Fr.ll (Fr.ll (Fr.ll (Fr.l2 w0 l0) j0) m0) R0) k1
       have U10 := l1.le L2
       have V10 := m1.le L2
       have W10 := n1.le L2
       have X10 := o1.le L2
       refine ann (i := 3) (b := true) rfl rfl (k_cl (f11_n k1.ag (a := pk (sdg s 0)) (v := n + 1) (s := sdg s 1) (R := .slice L6 n r7) (tv := 1) (T0 := n0) (x0 := r0) (T1 := o0) (x1 := s0) (T2 := p0) (x2 := u0) (T3 := q0) (x3 := v0) (b := pk (sdg s (n + 1))) (fun _ _ ag_ hl_ => f32 (b := (fun v => pk (sdg s v))) ag_ (U10.le hl_) (V10.le hl_) (W10.le hl_) (X10.le hl_) (A9.le hl_) (Rts.le B9 hl_) (by omega)) z9 (fun h_ => C1 h_.symm) (by decide) (by decide) (by decide) (by decide)) rfl fn_11 (map_cons (eh c0 rfl) (map_cons (eh c0 rfl) (map_cons (v := nn 1) rfl map_nil))) (fun b16 L16 Y9 => ?_))
       obtain ⟨H11, rfl, z1⟩ := Y9
       have G15 := z1.size
       have R1 := s6.t0 z1
       refine ⟨(tbT ⟨_, R1⟩), ?_⟩
       refine tkk (i := 4) rfl rfl (fun _ _ => r_move (eh c0 rfl)) ⟨_, R1⟩ <| tkk (i := 5) rfl rfl (fun _ _ => r_extract (v := .agg ([nn 1, nn 1073741824, .slice n0 1 r0, nn 1, .slice o0 1 s0, nn 1, .slice p0 1 u0, nn 1, .slice q0 1 v0, nn 1, .bool false, nn 0, nn 0, nn 0] ++ (hc (List.replicate 32 0) ++ ([nn 0, nn 0, .slice none 0 0, .slice none 0 0]))).toArray) (eh c0 rfl) (by kernel_rfl)) ⟨_, R1⟩ <| tkk (i := 6) rfl rfl (fun _ _ => r_extract (v := nn 4) (eh c0 rfl) (by kernel_rfl)) ⟨_, R1⟩ ?_
       have w7 := k1.t0 z1
       have V8 := (I5.f0 w7)
       refine an00 (i := 8) (b := true) rfl rfl (kt (L' := [nn 1, nn 1073741824, .slice n0 1 r0, nn 1, .slice o0 1 s0, nn 1, .slice p0 1 u0, nn 1, .slice q0 1 v0, nn 1, .bool false, nn 0, nn 0, nn 0] ++ (hc (List.replicate 32 0) ++ ([nn 0, nn 0, .slice none 0 0, .slice none 0 0]))) z1.ag (eh c0 rfl) (eh c0 rfl) V8 sz_59 (fun M16 N13 G3 => ?_))
       have H15 := G3.size
       have t6 := R1.tn G3 (by omega)
       refine ⟨(tbT ⟨_, t6⟩), ?_⟩
       refine tkk (i := 9) rfl rfl (fun _ _ => r_assign (eh c0 rfl)) ⟨_, t6⟩ <| anyT_done (by kernel_rfl) ?_ _
       exact N3 _ _ ⟨H11, ((ov_size _ _).trans c0), ((ov_defers _ _).trans o2), (gm c0 rfl rfl S1), (gm c0 rfl rfl r1), (gm c0 rfl rfl U1), (gh c0 rfl), ((((m0.t0 R0).t0 k1).t0 z1).tn G3 (by omega))⟩

end Go.Proofs.YtiggfalelcepbaaGreatDoor

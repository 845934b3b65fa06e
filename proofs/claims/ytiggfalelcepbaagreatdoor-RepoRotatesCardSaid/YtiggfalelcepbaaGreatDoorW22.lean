/- The walks of the reference to chapter 9. -/
import Derived.Test.YtiggfalelcepbaaGreatDoorK7
import Derived.Test.YtiggfalelcepbaaGreatDoorSX
import Derived.Test.YtiggfalelcepbaaGreatDoorW21
import Derived.Test.YtiggfalelcepbaaGreatDoorTX
namespace Go.Proofs.YtiggfalelcepbaaGreatDoor
open Go
set_option maxRecDepth 100000
set_option maxHeartbeats 4000000
/-- What the walk of the roots R gives: the root of version v with the keys a and b. -/
def RootsOk (m : Ctx) (x R : Value) (v : Nat) (a b : Bytes) : Prop := ∀ m1 w1, Ag m1 w1 → (∀ b L, m b = some L → m1 b = some L) → Calls Tryz.prog 32 #[x, R, nn 1] w1 (Ret fun y w' => ∃ m' M0 n0 M1 n1 M2 n2 M3 n3, y = .tuple #[.agg ([nn v, nn 1073741824, .slice M0 1 n0, nn 1, .slice M1 1 n1, nn 1, .slice M2 1 n2, nn 1, .slice M3 1 n3, nn 1]).toArray, nn 0] ∧ Fr no m1 w1 m' w' ∧ Sl m' M0 1 n0 32 (hc a) ∧ Sl m' M1 1 n1 32 (hc b) ∧ Sl m' M2 1 n2 32 (hc b) ∧ Sl m' M3 1 n3 32 (hc b))
theorem f79 {m : Ctx} {w : World} (ag : Ag m w) {v1 e1 v lc : Nat} {L : Option Addr} (hL : Sl m L 1 lc 2 ([.string (⟨#[116, 111, 112]⟩ : ByteArray), nn v])) : Calls Tryz.prog 79 #[.agg ([nn v1, nn e1, .slice L 1 lc]).toArray, .string (⟨#[116, 111, 112]⟩ : ByteArray)] w (Ret fun y w' => ∃ m', y = nn v ∧ Fr no m w m' w') := by
 refine enter Tryz.func79 rfl (fun g0 hT k0 => ?_)
 have b0 : g0.tmps.size = 27 := by rw [hT]; kernel_rfl
 have s0 : g0.tmps.getD 0 undef = .agg ([nn v1, nn e1, .slice L 1 lc]).toArray := by rw [hT]; kernel_rfl
 have u0 : g0.tmps.getD 1 undef = .string (⟨#[116, 111, 112]⟩ : ByteArray) := by rw [hT]; kernel_rfl
 clear hT
 have cu0 : Fr (no) m w m w := Fr.refl ag
 refine sk fun _ l0 => rn <| gk (k_box (L := [nn v1, nn e1, .slice L 1 lc]) ag (em b0 rfl rfl s0) (by kernel_rfl) (fun C0 w0 e0 c0 z0 => ?_))
 have B0 := c0.size
 have A0 := e0.lt
 refine gv (r_assign (v := nn 0) rfl) <| nl <| l0 <| sk fun _ y0 => sk fun _ q0 => rn <| gv (r_assign (v := nn 0) rfl) <| nl <| q0 <| bl <| wp_unroll (n := 2) <| un_step (n := 1) <| sk fun _ m0 => sk fun _ n0 => rn <| mv b0 rfl <| gv (r_field (o' := 2) (eh b0 rfl) fo_56_2 (by rfl)) <| gv (la (v := .slice L 1 lc) (eh b0 rfl) e0.bk qr_54) <| gv (r_lenS (eh b0 rfl) rfl qu_54) <| gv (r_lss (eh b0 rfl) (eh b0 rfl)) <| nl <| n0 <| cd b0 rfl <| ws <| m0 <| sk fun _ x0 => bl <| sk fun _ o0 => rn <| gv (r_field (o' := 2) (eh b0 rfl) fo_56_2 (by rfl)) <| gv (la (v := .slice L 1 lc) (eh b0 rfl) e0.bk qr_54) <| mv b0 rfl ?_
 have r0 := (hL.up c0)
 obtain ⟨j0, d0, v0, rfl, h0, i0⟩ := r0.elem (by omega)
 refine gv (r_idxS (o' := d0 + 0) (eh b0 rfl) (eh b0 rfl) qs_54 (by decide) (by omega)) <| gv (r_field (o' := d0 + 0) (eh b0 rfl) fo_85_0 (by rfl)) <| gv (r_load1 (v := .string (⟨#[116, 111, 112]⟩ : ByteArray)) (eh b0 rfl) (c0.ag _ _ h0) (at_sub i0 (by kernel_rfl)) qr_9) <| mw b0 u0 <| gv (r_eqlStr (s := ⟨#[116, 111, 112]⟩) (t := ⟨#[116, 111, 112]⟩) (eh b0 rfl) (eh b0 rfl)) <| nl <| o0 <| cd b0 rfl <| sk fun _ p0 => rn <| gv (r_field (o' := 2) (eh b0 rfl) fo_56_2 (by rfl)) <| gv (la (v := .slice (some ⟨j0, d0, none⟩) 1 lc) (eh b0 rfl) e0.bk qr_54) <| mv b0 rfl <| gv (r_idxS (o' := d0 + 0) (eh b0 rfl) (eh b0 rfl) qs_54 (by decide) (by omega)) <| gv (r_field (o' := d0 + 1) (eh b0 rfl) fo_85_1 (by rfl)) <| gv (r_load1 (v := nn v) (eh b0 rfl) (c0.ag _ _ h0) (at_sub i0 (by kernel_rfl)) qr_3) <| ms b0 rfl <| nl <| p0 <| wp_ret <| ret_of (res1 rfl _ _ (gh b0 rfl)) ((ov_defers _ _).trans k0) ?_
 exact ⟨m, rfl, (cu0.t0 c0)⟩

theorem f81 {m : Ctx} {w : World} (ag : Ag m w) : Calls Tryz.prog 81 #[.slice none 0 0, .string (⟨#[116, 111, 112]⟩ : ByteArray)] w (Ret fun y w' => ∃ m', y = .bool false ∧ Fr no m w m' w') := by
 refine enter Tryz.func81 rfl (fun c0 hT d0 => ?_)
 have b0 : c0.tmps.size = 19 := by rw [hT]; kernel_rfl
 have k0 : c0.tmps.getD 0 undef = .slice none 0 0 := by rw [hT]; kernel_rfl
 have m0 : c0.tmps.getD 1 undef = .string (⟨#[116, 111, 112]⟩ : ByteArray) := by rw [hT]; kernel_rfl
 clear hT
 have cu0 : Fr (no) m w m w := Fr.refl ag
 refine sk fun _ e0 => rn <| gv (r_assign (v := .bool false) rfl) <| nl <| e0 <| sk fun _ g0 => sk fun _ h0 => rn <| gv (r_assign (v := nn 0) rfl) <| nl <| h0 <| bl <| wp_unroll (n := 1) <| un_step (n := 0) <| sk fun _ l0 => sk fun _ i0 => rn <| mv b0 rfl <| mw b0 k0 <| gv (r_lenS (eh b0 rfl) rfl qu_57) <| gv (r_lss (eh b0 rfl) (eh b0 rfl)) <| nl <| i0 <| ce b0 rfl <| we <| g0 <| sk fun _ j0 => rn <| gv (r_assign (v := .bool false) rfl) <| nl <| j0 <| wp_ret <| ret_of (res1 rfl _ _ (gh b0 rfl)) ((ov_defers _ _).trans d0) ?_
 exact ⟨m, rfl, cu0⟩

theorem f33_p {m : Ctx} {w : World} (ag : Ag m w) {v v2 e : Nat} {a h s : Bytes} {t0 t1 t2 t3 t4 t5 t6 t7 t8 t9 : Value} {L0 L1 L2 L3 : Option Addr} {l0 l1 l2 l3 : Nat} {A D : Option Addr} {c d u : Nat} (hL0 : Sl m L0 1 l0 32 (hc a)) (hL1 : Sl m L1 1 l1 32 (hc (pk s))) (hL2 : Sl m L2 1 l2 32 (hc (pk s))) (hL3 : Sl m L3 1 l3 32 (hc (pk s))) (hE : Env m A 36 c D d (timeB v2 e h) s u) (hu : u < 16) (hv1 : 1 ≤ v2) (hv : v2 < 128) (he1 : 1 < e) (he : e < 128) : Calls Tryz.prog 33 #[.agg ([t0, t1, t2, t3, t4, t5, t6, t7, t8, t9, .bool false, nn 0, nn 0, nn 0] ++ (hc (List.replicate 32 0) ++ ([nn 0, nn 0, .slice none 0 0, .slice none 0 0]))).toArray, .agg ([nn v, nn 1073741824, .slice L0 1 l0, nn 1, .slice L1 1 l1, nn 1, .slice L2 1 l2, nn 1, .slice L3 1 l3, nn 1]).toArray, .agg ([.slice A 36 c, .slice D 1 d]).toArray, nn 1] w (Ret fun y w' => ∃ m', y = .tuple #[.agg ([nn v2, nn e, nn v2] ++ (hc h)).toArray, nn 0] ∧ Fr no m w m' w') := by
 refine enter Tryz.func33 rfl (fun j0 hT H0 => ?_)
 have b0 : j0.tmps.size = 57 := by rw [hT]; kernel_rfl
 have n1 : j0.tmps.getD 0 undef = .agg ([t0, t1, t2, t3, t4, t5, t6, t7, t8, t9, .bool false, nn 0, nn 0, nn 0] ++ (hc (List.replicate 32 0) ++ ([nn 0, nn 0, .slice none 0 0, .slice none 0 0]))).toArray := by rw [hT]; kernel_rfl
 have o1 : j0.tmps.getD 1 undef = .agg ([nn v, nn 1073741824, .slice L0 1 l0, nn 1, .slice L1 1 l1, nn 1, .slice L2 1 l2, nn 1, .slice L3 1 l3, nn 1]).toArray := by rw [hT]; kernel_rfl
 have p1 : j0.tmps.getD 2 undef = .agg ([.slice A 36 c, .slice D 1 d]).toArray := by rw [hT]; kernel_rfl
 have q1 : j0.tmps.getD 3 undef = nn 1 := by rw [hT]; kernel_rfl
 clear hT
 have cu0 : Fr (no) m w m w := Fr.refl ag
 refine sk fun _ I0 => rn <| gk (k_box (L := [t0, t1, t2, t3, t4, t5, t6, t7, t8, t9, .bool false, nn 0, nn 0, nn 0] ++ (hc (List.replicate 32 0) ++ ([nn 0, nn 0, .slice none 0 0, .slice none 0 0]))) ag (em b0 rfl rfl n1) (by kernel_rfl) (fun U1 s1 w0 m0 A1 => ?_))
 have O1 := m0.size
 have D1 := w0.lt
 refine gk (k_box (L := [nn v, nn 1073741824, .slice L0 1 l0, nn 1, .slice L1 1 l1, nn 1, .slice L2 1 l2, nn 1, .slice L3 1 l3, nn 1]) m0.ag (em b0 rfl rfl o1) (by kernel_rfl) (fun a2 v1 s0 k0 w1 => ?_))
 have H1 := k0.size
 have F1 := s0.lt
 refine gk (k_box (L := [.slice A 36 c, .slice D 1 d]) k0.ag (em b0 rfl rfl p1) (by kernel_rfl) (fun T1 r1 u0 h0 x1 => ?_))
 have I1 := h0.size
 have B1 := u0.lt
 refine gk (k_alloc h0.ag qz_53 (fun V1 C0 v0 g0 y1 => ?_))
 have J1 := g0.size
 have C1 := v0.lt
 refine gv (r_assign (v := nn 0) rfl) <| nl <| I0 <| sk fun _ J0 => rn <| gv (r_field (o' := 0) (eh b0 rfl) fo_41_0 (by rfl)) ?_
 have q0 := (u0.f0 g0)
 refine gv (la (v := .slice A 36 c) (eh b0 rfl) q0.bk qr_38) ?_
 obtain ⟨W0, A0, D0, B0, E0, X0, Y0, Z0⟩ := hE
 have z0 := Fr.ll (Fr.ll (Fr.l2 m0 k0) h0) g0
 have y0 := W0.le z0
 refine gk (k_cl (f76 g0.ag y0 (by omega) (by omega) (by omega) (by omega)) rfl fn_76 (map_cons (eh b0 rfl) map_nil) (fun R1 W1 c1 => ?_))
 obtain ⟨G1, rfl, d0⟩ := c1
 have K1 := d0.size
 refine mv b0 rfl <| gv (r_extract (v := .agg ([nn v2, nn e, nn v2] ++ (hc h)).toArray) (eh b0 rfl) (by kernel_rfl)) <| gv (r_extract (v := nn 0) (eh b0 rfl) (by kernel_rfl)) <| gk (k_alloc d0.ag qz_53 (fun X1 u1 x0 e0 z1 => ?_))
 have M1 := e0.size
 have E1 := x0.lt
 refine gz (kt (L' := [nn v2, nn e, nn v2] ++ (hc h)) e0.ag (eh b0 rfl) (eh b0 rfl) x0 sz_53 (fun Y1 a1 c0 => ?_))
 have N1 := c0.size
 refine ms b0 rfl <| nl <| J0 <| sk fun _ K0 => bl <| sk fun _ M0 => rn ?_
 have o0 := d0.t0 e0
 have R0 := ((q0.f0 o0).f1 c0 (by omega))
 refine gv (lb (cs := [.slice A 36 c, .slice D 1 d]) (eh b0 rfl) R0.bk qr_41 sz_41) <| gv (r_field (o' := 2) (eh b0 rfl) fo_35_2 (by rfl)) <| gv (r_idxA (i := 1) (o' := 4) (eh b0 rfl) rfl qa_33 (by decide) (by rfl)) ?_
 have F0 := ((h0.t0 g0).t0 d0).t0 e0
 have S0 := ((s0.f0 F0).f1 c0 (by omega))
 refine gv (lb (cs := [.slice L1 1 l1, nn 1]) (eh b0 rfl) S0.bk qr_32 sz_32) ?_
 have k1 := Fr.ll (Fr.l2 d0 e0) c0
 have e1 := y0.le k1
 have n0 := Fr.ll (Fr.ll (Fr.ll z0 d0) e0) c0
 have g1 := X0.le n0
 have h1 := Y0.le n0
 have i1 := Z0.le n0
 have j1 := hL1.le n0
 refine gk (k_cl (f77_p c0.ag ⟨e1, A0, D0, B0, E0, g1, h1, i1⟩ j1 (by omega) (by omega)) rfl fn_77 (map_cons (eh b0 rfl) (map_cons (eh b0 rfl) map_nil)) (fun S1 Z1 d1 => ?_))
 obtain ⟨m1, rfl, i0⟩ := d1
 have P1 := i0.size
 refine gv (r_not (eh b0 rfl)) <| ms b0 rfl <| nl <| M0 <| cf (eh b0 rfl) <| sk fun _ N0 => rn <| mv b0 rfl <| gv (r_neq (j := 0) (eh b0 rfl) rfl) <| ms b0 rfl <| nl <| N0 <| ce b0 rfl <| sk fun _ O0 => rn <| gv (r_field (o' := 10) (eh b0 rfl) fo_59_1 (by rfl)) ?_
 have G0 := (((k0.t0 h0).t0 g0).t0 d0).t0 e0
 have T0 := (((w0.f0 G0).f1 c0 (by omega)).f0 i0)
 refine gv (la (v := .bool false) (eh b0 rfl) T0.bk qr_4) <| mv b0 rfl <| sf (t := 33) (c := false) rfl rfl b0 (eh b0 rfl) <| sf (t := 33) (c := false) rfl rfl b0 (eh b0 rfl) <| sf (t := 33) (c := false) rfl rfl b0 (eh b0 rfl) <| sf (t := 33) (c := false) rfl rfl b0 (eh b0 rfl) <| sf (t := 33) (c := false) rfl rfl b0 (eh b0 rfl) <| sf (t := 33) (c := false) rfl rfl b0 (eh b0 rfl) <| sf (t := 33) (c := false) rfl rfl b0 (eh b0 rfl) <| sfu (t := 40) rfl rfl b0 (eh b0 rfl) <| sfu (t := 40) rfl rfl b0 (eh b0 rfl) <| sfu (t := 40) rfl rfl b0 (eh b0 rfl) <| sfu (t := 40) rfl rfl b0 (eh b0 rfl) <| sfu (t := 40) rfl rfl b0 (eh b0 rfl) <| sfu (t := 40) rfl rfl b0 (eh b0 rfl) <| sf (t := 33) (c := false) rfl rfl b0 (eh b0 rfl) <| gv (r_pick_f (v := .bool false) (eh b0 rfl) rfl) <| ms b0 rfl <| nl <| O0 <| cf (eh b0 rfl) <| sk fun _ P0 => rn <| gv (r_field (o' := 1) (eh b0 rfl) fo_53_1 (by rfl)) ?_
 have r0 := (a1.f0 i0)
 refine gv (la (v := nn e) (eh b0 rfl) r0.bk qr_3) <| mw b0 q1 <| gv (r_leq (eh b0 rfl) (eh b0 rfl)) <| ms b0 rfl <| nl <| P0 ?_
 have V0 : (decide (e ≤ 1)) = false := (decide_eq_false (by omega))
 refine cf (eb b0 rfl V0) <| ws <| K0 <| sk fun _ Q0 => rn <| gv (lb (cs := [nn v2, nn e, nn v2] ++ (hc h)) (eh b0 rfl) r0.bk qr_53 sz_53) ?_
 have U0 := (((v0.f0 o0).f1 c0 (by omega)).f0 i0)
 refine gz (kt (L' := [nn v2, nn e, nn v2] ++ (hc h)) i0.ag (eh b0 rfl) (eh b0 rfl) U0 sz_53 (fun b2 b1 p0 => ?_))
 have Q1 := p0.size
 refine gv (r_assign (v := nn 0) rfl) <| nl <| Q0 <| wp_ret <| ret_of (res2ct (b := C0) (n := 35) (cs := [nn v2, nn e, nn v2] ++ (hc h)) (u := nn 0) rfl _ _ (gh b0 rfl) (gh b0 rfl) b1.bk (by kernel_rfl) (by kernel_rfl) qr_53 sz_53) ((ov_defers _ _).trans H0) ?_
 exact ⟨m1, rfl, (((((((((cu0.t0 m0).t0 k0).t0 h0).t0 g0).t0 d0).t0 e0).tn c0 (by omega)).t0 i0).tn p0 (by omega))⟩

theorem f33_n {m : Ctx} {w : World} (ag : Ag m w) {v v2 e : Nat} {a b h s : Bytes} {t0 t1 t2 t3 t4 t5 t6 t7 t8 t9 : Value} {L0 L1 L2 L3 : Option Addr} {l0 l1 l2 l3 : Nat} {A D : Option Addr} {c d u : Nat} (hL0 : Sl m L0 1 l0 32 (hc a)) (hL1 : Sl m L1 1 l1 32 (hc b)) (hL2 : Sl m L2 1 l2 32 (hc b)) (hL3 : Sl m L3 1 l3 32 (hc b)) (hE : Env m A 36 c D d (timeB v2 e h) s u) (hne : n32 (pk s) ≠ n32 b) (hv1 : 1 ≤ v2) (hv : v2 < 128) (he1 : 1 < e) (he : e < 128) : Calls Tryz.prog 33 #[.agg ([t0, t1, t2, t3, t4, t5, t6, t7, t8, t9, .bool false, nn 0, nn 0, nn 0] ++ (hc (List.replicate 32 0) ++ ([nn 0, nn 0, .slice none 0 0, .slice none 0 0]))).toArray, .agg ([nn v, nn 1073741824, .slice L0 1 l0, nn 1, .slice L1 1 l1, nn 1, .slice L2 1 l2, nn 1, .slice L3 1 l3, nn 1]).toArray, .agg ([.slice A 36 c, .slice D 1 d]).toArray, nn 1] w (Ret fun y w' => ∃ m', y = .tuple #[.agg ([nn v2, nn e, nn v2] ++ (hc h)).toArray, nn 4] ∧ Fr no m w m' w') := by
 refine enter Tryz.func33 rfl (fun h0 hT E0 => ?_)
 have b0 : h0.tmps.size = 57 := by rw [hT]; kernel_rfl
 have e1 : h0.tmps.getD 0 undef = .agg ([t0, t1, t2, t3, t4, t5, t6, t7, t8, t9, .bool false, nn 0, nn 0, nn 0] ++ (hc (List.replicate 32 0) ++ ([nn 0, nn 0, .slice none 0 0, .slice none 0 0]))).toArray := by rw [hT]; kernel_rfl
 have g1 : h0.tmps.getD 1 undef = .agg ([nn v, nn 1073741824, .slice L0 1 l0, nn 1, .slice L1 1 l1, nn 1, .slice L2 1 l2, nn 1, .slice L3 1 l3, nn 1]).toArray := by rw [hT]; kernel_rfl
 have h1 : h0.tmps.getD 2 undef = .agg ([.slice A 36 c, .slice D 1 d]).toArray := by rw [hT]; kernel_rfl
 have A1 : h0.tmps.getD 3 undef = nn 1 := by rw [hT]; kernel_rfl
 clear hT
 have cu0 : Fr (no) m w m w := Fr.refl ag
 refine sk fun _ F0 => rn <| gk (k_box (L := [t0, t1, t2, t3, t4, t5, t6, t7, t8, t9, .bool false, nn 0, nn 0, nn 0] ++ (hc (List.replicate 32 0) ++ ([nn 0, nn 0, .slice none 0 0, .slice none 0 0]))) ag (em b0 rfl rfl e1) (by kernel_rfl) (fun O1 j1 S0 m0 s1 => ?_))
 have H1 := m0.size
 have w1 := S0.lt
 refine gk (k_box (L := [nn v, nn 1073741824, .slice L0 1 l0, nn 1, .slice L1 1 l1, nn 1, .slice L2 1 l2, nn 1, .slice L3 1 l3, nn 1]) m0.ag (em b0 rfl rfl g1) (by kernel_rfl) (fun V1 m1 r0 k0 o1 => ?_))
 have B1 := k0.size
 have y1 := r0.lt
 refine gk (k_box (L := [.slice A 36 c, .slice D 1 d]) k0.ag (em b0 rfl rfl h1) (by kernel_rfl) (fun N1 i1 s0 i0 p1 => ?_))
 have C1 := i0.size
 have u1 := s0.lt
 refine gk (k_alloc i0.ag qz_53 (fun P1 A0 u0 g0 q1 => ?_))
 have D1 := g0.size
 have v1 := u0.lt
 refine gv (r_assign (v := nn 0) rfl) <| nl <| F0 <| sk fun _ G0 => rn <| gv (r_field (o' := 0) (eh b0 rfl) fo_41_0 (by rfl)) ?_
 have q0 := (s0.f0 g0)
 refine gv (la (v := .slice A 36 c) (eh b0 rfl) q0.bk qr_38) ?_
 obtain ⟨O0, y0, B0, z0, C0, P0, Q0, R0⟩ := hE
 have x0 := Fr.ll (Fr.ll (Fr.l2 m0 k0) i0) g0
 have w0 := O0.le x0
 refine gk (k_cl (f76 g0.ag w0 (by omega) (by omega) (by omega) (by omega)) rfl fn_76 (map_cons (eh b0 rfl) map_nil) (fun K1 Q1 V0 => ?_))
 obtain ⟨z1, rfl, d0⟩ := V0
 have E1 := d0.size
 refine mv b0 rfl <| gv (r_extract (v := .agg ([nn v2, nn e, nn v2] ++ (hc h)).toArray) (eh b0 rfl) (by kernel_rfl)) <| gv (r_extract (v := nn 0) (eh b0 rfl) (by kernel_rfl)) <| gk (k_alloc d0.ag qz_53 (fun R1 k1 v0 e0 r1 => ?_))
 have F1 := e0.size
 have x1 := v0.lt
 refine gz (kt (L' := [nn v2, nn e, nn v2] ++ (hc h)) e0.ag (eh b0 rfl) (eh b0 rfl) v0 sz_53 (fun S1 T0 c0 => ?_))
 have G1 := c0.size
 refine ms b0 rfl <| nl <| G0 <| sk fun _ n1 => bl <| sk fun _ H0 => rn ?_
 have o0 := d0.t0 e0
 have J0 := ((q0.f0 o0).f1 c0 (by omega))
 refine gv (lb (cs := [.slice A 36 c, .slice D 1 d]) (eh b0 rfl) J0.bk qr_41 sz_41) <| gv (r_field (o' := 2) (eh b0 rfl) fo_35_2 (by rfl)) <| gv (r_idxA (i := 1) (o' := 4) (eh b0 rfl) rfl qa_33 (by decide) (by rfl)) ?_
 have D0 := ((i0.t0 g0).t0 d0).t0 e0
 have K0 := ((r0.f0 D0).f1 c0 (by omega))
 refine gv (lb (cs := [.slice L1 1 l1, nn 1]) (eh b0 rfl) K0.bk qr_32 sz_32) ?_
 have c1 := Fr.ll (Fr.l2 d0 e0) c0
 have X0 := w0.le c1
 have n0 := Fr.ll (Fr.ll (Fr.ll x0 d0) e0) c0
 have Y0 := P0.le n0
 have Z0 := Q0.le n0
 have a1 := R0.le n0
 have b1 := hL1.le n0
 refine gk (k_cl (f77_n c0.ag ⟨X0, y0, B0, z0, C0, Y0, Z0, a1⟩ b1 hne) rfl fn_77 (map_cons (eh b0 rfl) (map_cons (eh b0 rfl) map_nil)) (fun M1 T1 W0 => ?_))
 obtain ⟨d1, rfl, j0⟩ := W0
 have I1 := j0.size
 refine gv (r_not (eh b0 rfl)) <| ms b0 rfl <| nl <| H0 <| ct (eh b0 rfl) <| sk fun _ I0 => rn ?_
 have M0 := (T0.f0 j0)
 refine gv (lb (cs := [nn v2, nn e, nn v2] ++ (hc h)) (eh b0 rfl) M0.bk qr_53 sz_53) ?_
 have N0 := (((u0.f0 o0).f1 c0 (by omega)).f0 j0)
 refine gz (kt (L' := [nn v2, nn e, nn v2] ++ (hc h)) j0.ag (eh b0 rfl) (eh b0 rfl) N0 sz_53 (fun U1 U0 p0 => ?_))
 have J1 := p0.size
 refine gv (r_assign (v := nn 4) rfl) <| nl <| I0 <| wp_ret <| ret_of (res2ct (b := A0) (n := 35) (cs := [nn v2, nn e, nn v2] ++ (hc h)) (u := nn 4) rfl _ _ (gh b0 rfl) (gh b0 rfl) U0.bk (by kernel_rfl) (by kernel_rfl) qr_53 sz_53) ((ov_defers _ _).trans E0) ?_
 exact ⟨d1, rfl, (((((((((cu0.t0 m0).t0 k0).t0 i0).t0 g0).t0 d0).t0 e0).tn c0 (by omega)).t0 j0).tn p0 (by omega))⟩

theorem f34 {m : Ctx} {w : World} (ag : Ag m w) {v v2 e : Nat} {a s : Bytes} {t0 t1 t2 t3 t4 t5 t6 t7 t8 t9 : Value} {L0 L1 L2 L3 : Option Addr} {l0 l1 l2 l3 : Nat} {A D : Option Addr} {c d u : Nat} (hL0 : Sl m L0 1 l0 32 (hc a)) (hL1 : Sl m L1 1 l1 32 (hc (pk s))) (hL2 : Sl m L2 1 l2 32 (hc (pk s))) (hL3 : Sl m L3 1 l3 32 (hc (pk s))) (hE : Env m A 9 c D d (snapB v2 e) s u) (hu : u < 16) (hv1 : 1 ≤ v2) (hv : v2 < 128) (he1 : 1 < e) (he : e < 128) : Calls Tryz.prog 34 #[.agg ([t0, t1, t2, t3, t4, t5, t6, t7, t8, t9, .bool false, nn 0, nn 0, nn 0] ++ (hc (List.replicate 32 0) ++ ([nn 0, nn 0, .slice none 0 0, .slice none 0 0]))).toArray, .agg ([nn v, nn 1073741824, .slice L0 1 l0, nn 1, .slice L1 1 l1, nn 1, .slice L2 1 l2, nn 1, .slice L3 1 l3, nn 1]).toArray, .agg ([nn v2, nn e, nn v2] ++ (hc (sha (snapB v2 e)))).toArray, .agg ([.slice A 9 c, .slice D 1 d]).toArray, nn 1] w (Ret fun y w' => ∃ m' L lc, y = .tuple #[.agg ([nn v2, nn e, .slice L 1 lc]).toArray, nn 0] ∧ Fr no m w m' w' ∧ Sl m' L 1 lc 2 ([.string (⟨#[116, 111, 112]⟩ : ByteArray), nn v2])) := by
 refine enter Tryz.func34 rfl (fun m0 hT b1 => ?_)
 have b0 : m0.tmps.size = 84 := by rw [hT]; kernel_rfl
 have T1 : m0.tmps.getD 0 undef = .agg ([t0, t1, t2, t3, t4, t5, t6, t7, t8, t9, .bool false, nn 0, nn 0, nn 0] ++ (hc (List.replicate 32 0) ++ ([nn 0, nn 0, .slice none 0 0, .slice none 0 0]))).toArray := by rw [hT]; kernel_rfl
 have U1 : m0.tmps.getD 1 undef = .agg ([nn v, nn 1073741824, .slice L0 1 l0, nn 1, .slice L1 1 l1, nn 1, .slice L2 1 l2, nn 1, .slice L3 1 l3, nn 1]).toArray := by rw [hT]; kernel_rfl
 have V1 : m0.tmps.getD 2 undef = .agg ([nn v2, nn e, nn v2] ++ (hc (sha (snapB v2 e)))).toArray := by rw [hT]; kernel_rfl
 have W1 : m0.tmps.getD 3 undef = .agg ([.slice A 9 c, .slice D 1 d]).toArray := by rw [hT]; kernel_rfl
 have X1 : m0.tmps.getD 4 undef = nn 1 := by rw [hT]; kernel_rfl
 clear hT
 have cu0 : Fr (no) m w m w := Fr.refl ag
 refine sk fun _ c1 => rn <| gk (k_box (L := [t0, t1, t2, t3, t4, t5, t6, t7, t8, t9, .bool false, nn 0, nn 0, nn 0] ++ (hc (List.replicate 32 0) ++ ([nn 0, nn 0, .slice none 0 0, .slice none 0 0]))) ag (em b0 rfl rfl T1) (by kernel_rfl) (fun O2 a2 K0 v0 k2 => ?_))
 have F2 := v0.size
 have p2 := K0.lt
 refine gk (k_box (L := [nn v, nn 1073741824, .slice L0 1 l0, nn 1, .slice L1 1 l1, nn 1, .slice L2 1 l2, nn 1, .slice L3 1 l3, nn 1]) v0.ag (em b0 rfl rfl U1) (by kernel_rfl) (fun U2 c2 G0 r0 e2 => ?_))
 have x2 := r0.size
 have r2 := G0.lt
 refine gk (k_box (L := [nn v2, nn e, nn v2] ++ (hc (sha (snapB v2 e)))) r0.ag (em b0 rfl rfl V1) (by kernel_rfl) (fun N2 Y1 H0 n0 g2 => ?_))
 have y2 := n0.size
 have m2 := H0.lt
 refine gk (k_box (L := [.slice A 9 c, .slice D 1 d]) n0.ag (em b0 rfl rfl W1) (by kernel_rfl) (fun P2 Z1 I0 j0 h2 => ?_))
 have z2 := j0.size
 have n2 := I0.lt
 refine gk (k_alloc j0.ag qz_56 (fun Q2 T0 J0 i0 i2 => ?_))
 have A2 := i0.size
 have o2 := J0.lt
 refine gv (r_assign (v := nn 0) rfl) <| nl <| c1 <| sk fun _ m1 => rn <| gv (r_field (o' := 0) (eh b0 rfl) fo_41_0 (by rfl)) ?_
 have C0 := (I0.f0 i0)
 refine gv (la (v := .slice A 9 c) (eh b0 rfl) C0.bk qr_38) ?_
 obtain ⟨F0, R0, U0, S0, V0, A1, B1, C1⟩ := hE
 have Q0 := Fr.ll (Fr.ll (Fr.ll (Fr.l2 v0 r0) n0) j0) i0
 have N0 := F0.le Q0
 refine gk (k_cl (f78 i0.ag N0 (by omega) (by omega) (by omega) (by omega)) rfl fn_78 (map_cons (eh b0 rfl) map_nil) (fun I2 R2 G1 => ?_))
 obtain ⟨q0, k0, p0, rfl, h0, D1⟩ := G1
 have B2 := h0.size
 refine mv b0 rfl <| gv (r_extract (v := .agg ([nn v2, nn e, .slice k0 1 p0]).toArray) (eh b0 rfl) (by kernel_rfl)) <| gv (r_extract (v := nn 0) (eh b0 rfl) (by kernel_rfl)) <| gk (k_alloc h0.ag qz_56 (fun S2 b2 M0 d0 j2 => ?_))
 have C2 := d0.size
 have q2 := M0.lt
 refine gz (kt (L' := [nn v2, nn e, .slice k0 1 p0]) d0.ag (eh b0 rfl) (eh b0 rfl) M0 sz_56 (fun u0 F1 e0 => ?_))
 have D2 := e0.size
 refine ms b0 rfl <| nl <| m1 <| sk fun _ n1 => bl <| sk fun _ o1 => ?_
 have c0 : Fr no q0 u0 q0 { u0 with drawn := u0.drawn + 1 } := Fr.drw e0.ag
 obtain ⟨x0, P0⟩ : ∃ w_, w_ = ({ u0 with drawn := u0.drawn + 1 } : World) := ⟨_, rfl⟩
 rw [← P0] at c0
 have E2 := c0.size
 refine wp_region_T mixed (fun wz => ∃ mz, Fr (no) q0 x0 mz wz) (fun wz => ∃ mz, Fr (no) q0 x0 mz wz) 7 ?_
 rw [← P0]
 show wpAnyT _ _ _ _ _ 7 _ _ _
 have s0 : Fr (no) q0 x0 q0 x0 := Fr.refl c0.ag
 refine tkk (i := 0) rfl rfl (fun _ _ => r_field (o' := 0) (eh b0 rfl) fo_41_0 (by rfl)) ⟨_, s0⟩ ?_
 have D0 := ((((C0.f0 h0).f0 d0).f1 e0 (by omega)).f0 c0)
 refine tkk (i := 1) rfl rfl (fun wz ⟨mz, hz⟩ => la (v := .slice A 9 c) (eh b0 rfl) (hz.ex D0.bk (fun h => h)) qr_38) ⟨_, s0⟩ <| tkk (i := 3) rfl rfl (fun _ _ => r_field (o' := 3) (eh b0 rfl) fo_53_3 (by rfl)) ⟨_, s0⟩ ?_
 have E0 := ((((((H0.f0 j0).f0 i0).f0 h0).f0 d0).f1 e0 (by omega)).f0 c0)
 refine tkk (i := 4) rfl rfl (fun wz ⟨mz, hz⟩ => lb (cs := hc (sha (snapB v2 e))) (eh b0 rfl) (hz.ex E0.bk (fun h => h)) qr_23 sz_23) ⟨_, s0⟩ ?_
 have R1 := Fr.ll (Fr.ll (Fr.l2 h0 d0) e0) c0
 have O0 := N0.le R1
 refine ann (i := 2) (b := true) rfl rfl (k_cl (f41 c0.ag O0 (Sl.blen F0) (by omega)) rfl fn_41 (map_cons (eh b0 rfl) map_nil) (fun J2 T2 H1 => ?_))
 obtain ⟨s2, rfl, g0⟩ := H1
 have G2 := g0.size
 have B0 := s0.t0 g0
 refine ⟨(tbT ⟨_, B0⟩), ?_⟩
 refine tkk (i := 5) rfl rfl (fun _ _ => r_neqN (eh b0 rfl) (eh b0 rfl) qh_23) ⟨_, B0⟩ <| tkk (i := 6) rfl rfl (fun _ _ => r_assign (eh b0 rfl)) ⟨_, B0⟩ <| anyT_done (by kernel_rfl) ?_ _
 refine o1 ?_
 have z1 : (decide (n32 (sha (snapB v2 e)) ≠ n32 (sha (snapB v2 e)))) = false := (decide_eq_false (fun h => h rfl))
 refine cf (eb b0 rfl z1) <| sk fun _ p1 => rn ?_
 have v1 := (D0.f0 g0)
 refine gv (lb (cs := [.slice A 9 c, .slice D 1 d]) (eh b0 rfl) v1.bk qr_41 sz_41) <| gv (r_field (o' := 2) (eh b0 rfl) fo_35_2 (by rfl)) <| gv (r_idxA (i := 2) (o' := 6) (eh b0 rfl) rfl qa_33 (by decide) (by rfl)) ?_
 have Z0 := (((n0.t0 j0).t0 i0).t0 h0).t0 d0
 have a1 := c0.t0 g0
 have w1 := (((G0.f0 Z0).f1 e0 (by omega)).f0 a1)
 refine gv (lb (cs := [.slice L2 1 l2, nn 1]) (eh b0 rfl) w1.bk qr_32 sz_32) ?_
 have K1 := (O0.up g0)
 have w0 := Fr.ll (Fr.ll (Fr.ll (Fr.ll (Fr.ll Q0 h0) d0) e0) c0) g0
 have M1 := A1.le w0
 have N1 := B1.le w0
 have O1 := C1.le w0
 have P1 := hL2.le w0
 refine gk (k_cl (f77_p g0.ag ⟨K1, R0, U0, S0, V0, M1, N1, O1⟩ P1 (by omega) (by omega)) rfl fn_77 (map_cons (eh b0 rfl) (map_cons (eh b0 rfl) map_nil)) (fun K2 V2 I1 => ?_))
 obtain ⟨S1, rfl, o0⟩ := I1
 have H2 := o0.size
 refine gv (r_not (eh b0 rfl)) <| ms b0 rfl <| nl <| p1 <| cf (eh b0 rfl) <| sk fun _ q1 => rn <| mv b0 rfl <| gv (r_neq (j := 0) (eh b0 rfl) rfl) <| ms b0 rfl <| nl <| q1 <| ce b0 rfl <| sk fun _ d1 => rn <| gv (r_field (o' := 0) (eh b0 rfl) fo_56_0 (by rfl)) ?_
 have y0 := (c0.t0 g0).t0 o0
 have A0 := (F1.f0 y0)
 refine gv (la (v := nn v2) (eh b0 rfl) A0.bk qr_3) <| gv (r_field (o' := 2) (eh b0 rfl) fo_53_2 (by rfl)) ?_
 have W0 := g0.t0 o0
 have r1 := (E0.f0 W0)
 refine gv (la (v := nn v2) (eh b0 rfl) r1.bk qr_3) <| gv (r_neq (eh b0 rfl) (eh b0 rfl)) <| ms b0 rfl <| nl <| d1 ?_
 have x1 : (decide (v2 ≠ v2)) = false := (decide_eq_false (fun h => h rfl))
 refine cf (eb b0 rfl x1) <| ws <| n1 <| sk fun _ e1 => sk fun _ g1 => rn <| gv (r_assign (v := nn 0) rfl) <| nl <| g1 <| bl <| wp_unroll (n := 2) <| un_step (n := 1) <| sk fun _ d2 => sk fun _ h1 => rn <| mv b0 rfl <| gv (r_field (o' := 46) (eh b0 rfl) fo_59_3 (by rfl)) <| gv (r_field (o' := 48) (eh b0 rfl) fo_56_2 (by rfl)) ?_
 have X0 := ((((r0.t0 n0).t0 j0).t0 i0).t0 h0).t0 d0
 have s1 := (((K0.f0 X0).f1 e0 (by omega)).f0 y0)
 refine gv (la (v := .slice none 0 0) (eh b0 rfl) s1.bk qr_54) <| gv (r_lenS (eh b0 rfl) rfl qu_54) <| gv (r_lss (eh b0 rfl) (eh b0 rfl)) <| mv b0 rfl <| sf (t := 54) (c := false) rfl rfl b0 (eb b0 rfl (by decide)) <| sf (t := 54) (c := false) rfl rfl b0 (eb b0 rfl (by decide)) <| gv (r_pick_f (v := .bool false) (eb b0 rfl (by decide)) rfl) <| nl <| h1 <| cf (eh b0 rfl) <| we <| e1 <| sk fun _ i1 => sk fun _ j1 => rn <| gv (r_field (o' := 1) (eh b0 rfl) fo_56_1 (by rfl)) <| gv (la (v := nn e) (eh b0 rfl) A0.bk qr_3) <| mw b0 X1 <| gv (r_leq (eh b0 rfl) (eh b0 rfl)) <| nl <| j1 ?_
 have y1 : (decide (e ≤ 1)) = false := (decide_eq_false (by omega))
 refine cf (eb b0 rfl y1) <| ws <| i1 <| sk fun _ k1 => rn <| gv (lb (cs := [nn v2, nn e, .slice k0 1 p0]) (eh b0 rfl) A0.bk qr_56 sz_56) ?_
 have Y0 := h0.t0 d0
 have u1 := (((J0.f0 Y0).f1 e0 (by omega)).f0 y0)
 refine gz (kt (L' := [nn v2, nn e, .slice k0 1 p0]) o0.ag (eh b0 rfl) (eh b0 rfl) u1 sz_56 (fun M2 E1 z0 => ?_))
 have u2 := z0.size
 refine gv (r_assign (v := nn 0) rfl) <| nl <| k1 <| wp_ret <| ret_of (res2ct (b := T0) (n := 3) (cs := [nn v2, nn e, .slice k0 1 p0]) (u := nn 0) rfl _ _ (gh b0 rfl) (gh b0 rfl) E1.bk (by kernel_rfl) (by kernel_rfl) qr_56 sz_56) ((ov_defers _ _).trans b1) ?_
 have Q1 := Fr.ll (Fr.ll (Fr.ll (Fr.ll (Fr.l2 d0 e0) c0) g0) o0) z0
 have J1 := D1.le Q1
 exact ⟨S1, k0, p0, rfl, ((((((((((((cu0.t0 v0).t0 r0).t0 n0).t0 j0).t0 i0).t0 h0).t0 d0).tn e0 (by omega)).t0 c0).t0 g0).t0 o0).tn z0 (by omega)), J1⟩

theorem f35 {m : Ctx} {w : World} (ag : Ag m w) {v v2 e : Nat} {a s : Bytes} {P : Option Addr} {pc : Nat} {L0 L1 L2 L3 : Option Addr} {l0 l1 l2 l3 : Nat} {A D : Option Addr} {c d u : Nat} (hL0 : Sl m L0 1 l0 32 (hc a)) (hL1 : Sl m L1 1 l1 32 (hc (pk s))) (hL2 : Sl m L2 1 l2 32 (hc (pk s))) (hL3 : Sl m L3 1 l3 32 (hc (pk s))) (hP : Sl m P 1 pc 2 ([.string (⟨#[116, 111, 112]⟩ : ByteArray), nn v2])) (hE : Env m A 9 c D d (targB v2 e) s u) (hu : u < 16) (hv1 : 1 ≤ v2) (hv : v2 < 128) (he1 : 1 < e) (he : e < 128) : Calls Tryz.prog 35 #[.agg ([nn v, nn 1073741824, .slice L0 1 l0, nn 1, .slice L1 1 l1, nn 1, .slice L2 1 l2, nn 1, .slice L3 1 l3, nn 1]).toArray, .agg ([nn v2, nn e, .slice P 1 pc]).toArray, .slice none 0 0, .agg ([.slice A 9 c, .slice D 1 d]).toArray, nn 1] w (Ret fun y w' => ∃ m', y = .tuple #[.agg ([.string (⟨#[116, 111, 112]⟩ : ByteArray), nn v2, nn e, .slice none 0 0, .slice none 0 0]).toArray, nn 0] ∧ Fr no m w m' w') := by
 refine enter Tryz.func35 rfl (fun m0 hT U0 => ?_)
 have b0 : m0.tmps.size = 86 := by rw [hT]; kernel_rfl
 have N1 : m0.tmps.getD 0 undef = .agg ([nn v, nn 1073741824, .slice L0 1 l0, nn 1, .slice L1 1 l1, nn 1, .slice L2 1 l2, nn 1, .slice L3 1 l3, nn 1]).toArray := by rw [hT]; kernel_rfl
 have O1 : m0.tmps.getD 1 undef = .agg ([nn v2, nn e, .slice P 1 pc]).toArray := by rw [hT]; kernel_rfl
 have v0 : m0.tmps.getD 2 undef = .slice none 0 0 := by rw [hT]; kernel_rfl
 have P1 : m0.tmps.getD 3 undef = .agg ([.slice A 9 c, .slice D 1 d]).toArray := by rw [hT]; kernel_rfl
 have Q1 : m0.tmps.getD 4 undef = nn 1 := by rw [hT]; kernel_rfl
 clear hT
 have cu0 : Fr (no) m w m w := Fr.refl ag
 refine sk fun _ V0 => rn <| gk (k_box (L := [nn v, nn 1073741824, .slice L0 1 l0, nn 1, .slice L1 1 l1, nn 1, .slice L2 1 l2, nn 1, .slice L3 1 l3, nn 1]) ag (em b0 rfl rfl N1) (by kernel_rfl) (fun I2 S1 F0 q0 a2 => ?_))
 have y2 := q0.size
 have e2 := F0.lt
 refine gk (k_box (L := [nn v2, nn e, .slice P 1 pc]) q0.ag (em b0 rfl rfl O1) (by kernel_rfl) (fun R2 V1 C0 o0 W1 => ?_))
 have p2 := o0.size
 have i2 := C0.lt
 refine gk (k_box (L := [.slice A 9 c, .slice D 1 d]) o0.ag (em b0 rfl rfl P1) (by kernel_rfl) (fun H2 R1 D0 n0 X1 => ?_))
 have q2 := n0.size
 have c2 := D0.lt
 refine gk (k_alloc n0.ag qz_82 (fun J2 P0 E0 j0 Y1 => ?_))
 have r2 := j0.size
 have d2 := E0.lt
 refine gv (r_assign (v := nn 0) rfl) <| nl <| V0 <| sk fun _ a1 => rn <| gv (r_field (o' := 0) (eh b0 rfl) fo_41_0 (by rfl)) ?_
 have z0 := (D0.f0 j0)
 refine gv (la (v := .slice A 9 c) (eh b0 rfl) z0.bk qr_38) ?_
 obtain ⟨u1, N0, Q0, O0, R0, v1, w1, x1⟩ := hE
 have K0 := Fr.ll (Fr.ll (Fr.l2 q0 o0) n0) j0
 have J0 := u1.le K0
 refine gk (k_cl (f80 j0.ag J0 (by omega) (by omega) (by omega) (by omega)) rfl fn_80 (map_cons (eh b0 rfl) map_nil) (fun C2 K2 A1 => ?_))
 obtain ⟨j2, rfl, e0⟩ := A1
 have s2 := e0.size
 refine mv b0 rfl <| gv (r_extract (v := .agg ([.string (⟨#[116, 111, 112]⟩ : ByteArray), nn v2, nn e, .slice none 0 0, .slice none 0 0]).toArray) (eh b0 rfl) (by kernel_rfl)) <| gv (r_extract (v := nn 0) (eh b0 rfl) (by kernel_rfl)) <| gk (k_alloc e0.ag qz_82 (fun M2 T1 G0 g0 Z1 => ?_))
 have t2 := g0.size
 have g2 := G0.lt
 refine gz (kt (L' := [.string (⟨#[116, 111, 112]⟩ : ByteArray), nn v2, nn e, .slice none 0 0, .slice none 0 0]) g0.ag (eh b0 rfl) (eh b0 rfl) G0 sz_82 (fun N2 H0 c0 => ?_))
 have u2 := c0.size
 refine ms b0 rfl <| nl <| a1 <| sk fun _ b1 => sk fun _ c1 => rn <| mv b0 rfl <| gv (r_neq (j := 0) (eh b0 rfl) rfl) <| mv b0 rfl <| sg (t := 25) rfl rfl b0 (eb b0 rfl (by decide)) (kv (r_move (em b0 rfl rfl v0)) ?_)
 refine sg (t := 25) rfl rfl b0 (eb b0 rfl (by decide)) (kv (r_field (o' := 0) (eh b0 rfl) fo_82_0 (by rfl)) ?_)
 refine sg (t := 25) rfl rfl b0 (eb b0 rfl (by decide)) (kv (la (v := .string (⟨#[116, 111, 112]⟩ : ByteArray)) (eh b0 rfl) H0.bk qr_9) ?_)
 refine sg (t := 25) rfl rfl b0 (eb b0 rfl (by decide)) (k_cl (f81 c0.ag) rfl fn_81 (map_cons (eh b0 rfl) (map_cons (eh b0 rfl) map_nil)) (fun D2 O2 B1 => ?_))
 obtain ⟨k2, rfl, h0⟩ := B1
 have x2 := h0.size
 refine gv (r_pick_f (eb b0 rfl (by decide)) (eh b0 rfl)) <| mv b0 rfl <| sg (t := 31) rfl rfl b0 (eh b0 rfl) (kv (r_move (em b0 rfl rfl v0)) ?_)
 refine sg (t := 31) rfl rfl b0 (eh b0 rfl) (kv (r_lenS (eh b0 rfl) rfl qu_57) ?_)
 refine sg (t := 31) rfl rfl b0 (eh b0 rfl) (kv (r_eql (j := 0) (eh b0 rfl) rfl) ?_)
 refine sg (t := 31) rfl rfl b0 (eh b0 rfl) (kv (r_move (eh b0 rfl)) ?_)
 refine sg (t := 35) rfl rfl b0 (eb b0 rfl (by decide)) (kv (r_field (o' := 0) (eh b0 rfl) fo_82_0 (by rfl)) ?_)
 have A0 := (H0.f0 h0)
 refine sg (t := 35) rfl rfl b0 (eb b0 rfl (by decide)) (kv (la (v := .string (⟨#[116, 111, 112]⟩ : ByteArray)) (eh b0 rfl) A0.bk qr_9) ?_)
 refine sg (t := 35) rfl rfl b0 (eb b0 rfl (by decide)) (kv (r_neqStr (s := ⟨#[116, 111, 112]⟩) (t := ⟨#[116, 111, 112]⟩) (eh b0 rfl) rfl) ?_)
 refine sg (t := 31) rfl rfl b0 (eh b0 rfl) (kv (r_pick_t (eb b0 rfl (by decide)) (eh b0 rfl)) ?_)
 refine gv (r_pick_f (eh b0 rfl) (eh b0 rfl)) <| nl <| c1 <| ce b0 rfl <| ws <| b1 <| sk fun _ d1 => rn <| gv (r_field (o' := 2) (eh b0 rfl) fo_35_2 (by rfl)) <| gv (r_idxA (i := 3) (o' := 8) (eh b0 rfl) rfl qa_33 (by decide) (by rfl)) ?_
 have S0 := (((o0.t0 n0).t0 j0).t0 e0).t0 g0
 have n1 := (((F0.f0 S0).f1 c0 (by omega)).f0 h0)
 refine gv (lb (cs := [.slice L3 1 l3, nn 1]) (eh b0 rfl) n1.bk qr_32 sz_32) <| gk (k_alloc h0.ag qz_32 (fun P2 U1 I0 k0 b2 => ?_))
 have z2 := k0.size
 have h2 := I0.lt
 refine gz (kt (L' := [.slice L3 1 l3, nn 1]) k0.ag (eh b0 rfl) (eh b0 rfl) I0 sz_32 (fun Q2 z1 d0 => ?_))
 have A2 := d0.size
 refine gv (r_assign (v := .bool true) rfl) <| nl <| d1 <| sk fun _ e1 => sk fun _ g1 => rn <| mw b0 v0 <| gv (r_lenS (eh b0 rfl) rfl qu_57) <| gv (r_gtr (j := 0) (eh b0 rfl) rfl) <| nl <| g1 <| ce b0 rfl <| ws <| e1 <| sk fun _ h1 => rn ?_
 have T0 := ((n0.t0 j0).t0 e0).t0 g0
 have s0 := h0.t0 k0
 have o1 := ((((C0.f0 T0).f1 c0 (by omega)).f0 s0).f1 d0 (by omega))
 refine gv (lb (cs := [nn v2, nn e, .slice P 1 pc]) (eh b0 rfl) o1.bk qr_56 sz_56) <| gv (r_field (o' := 0) (eh b0 rfl) fo_82_0 (by rfl)) ?_
 have B0 := ((A0.f0 k0).f1 d0 (by omega))
 refine gv (la (v := .string (⟨#[116, 111, 112]⟩ : ByteArray)) (eh b0 rfl) B0.bk qr_9) ?_
 have M0 := Fr.ll (Fr.ll (Fr.ll (Fr.ll (Fr.ll (Fr.ll K0 e0) g0) c0) h0) k0) d0
 have J1 := hP.le M0
 refine gk (k_cl (f79 d0.ag J1) rfl fn_79 (map_cons (eh b0 rfl) (map_cons (eh b0 rfl) map_nil)) (fun E2 S2 C1 => ?_))
 obtain ⟨m2, rfl, i0⟩ := C1
 have B2 := i0.size
 refine ms b0 rfl <| nl <| h1 <| sk fun _ i1 => bl <| sk fun _ j1 => rn <| mv b0 rfl <| gv (r_not (eh b0 rfl)) <| ms b0 rfl <| nl <| j1 <| cf (eh b0 rfl) <| sk fun _ k1 => rn ?_
 have y0 := e0.t0 g0
 have p1 := (((((z0.f0 y0).f1 c0 (by omega)).f0 s0).f1 d0 (by omega)).f0 i0)
 refine gv (lb (cs := [.slice A 9 c, .slice D 1 d]) (eh b0 rfl) p1.bk qr_41 sz_41) ?_
 have q1 := (z1.f0 i0)
 refine gv (lb (cs := [.slice L3 1 l3, nn 1]) (eh b0 rfl) q1.bk qr_32 sz_32) ?_
 have K1 := Fr.ll (Fr.ll (Fr.ll (Fr.ll (Fr.ll (Fr.l2 e0 g0) c0) h0) k0) d0) i0
 have E1 := J0.le K1
 have r0 := Fr.ll M0 i0
 have F1 := v1.le r0
 have G1 := w1.le r0
 have H1 := x1.le r0
 have I1 := hL3.le r0
 refine gk (k_cl (f77_p i0.ag ⟨E1, N0, Q0, O0, R0, F1, G1, H1⟩ I1 (by omega) (by omega)) rfl fn_77 (map_cons (eh b0 rfl) (map_cons (eh b0 rfl) map_nil)) (fun F2 T2 D1 => ?_))
 obtain ⟨M1, rfl, p0⟩ := D1
 have n2 := p0.size
 refine gv (r_not (eh b0 rfl)) <| ms b0 rfl <| nl <| k1 <| cf (eh b0 rfl) <| sk fun _ W0 => rn <| mv b0 rfl <| gv (r_eql (j := 0) (eh b0 rfl) rfl) <| ms b0 rfl <| nl <| W0 ?_
 have r1 : (decide (v2 = 0)) = false := (decide_eq_false (by omega))
 refine cf (eb b0 rfl r1) <| sk fun _ X0 => rn <| mv b0 rfl <| gv (r_field (o' := 1) (eh b0 rfl) fo_82_1 (by rfl)) ?_
 have w0 := i0.t0 p0
 have u0 := (B0.f0 w0)
 refine gv (la (v := nn v2) (eh b0 rfl) u0.bk qr_3) <| gv (r_neq (eh b0 rfl) (eh b0 rfl)) <| ms b0 rfl <| nl <| X0 ?_
 have s1 : (decide (v2 ≠ v2)) = false := (decide_eq_false (fun h => h rfl))
 refine cf (eb b0 rfl s1) <| sk fun _ Y0 => rn <| gv (r_field (o' := 2) (eh b0 rfl) fo_82_2 (by rfl)) <| gv (la (v := nn e) (eh b0 rfl) u0.bk qr_3) <| mw b0 Q1 <| gv (r_leq (eh b0 rfl) (eh b0 rfl)) <| ms b0 rfl <| nl <| Y0 ?_
 have t1 : (decide (e ≤ 1)) = false := (decide_eq_false (by omega))
 refine cf (eb b0 rfl t1) <| ws <| i1 <| sk fun _ Z0 => rn <| gv (lb (cs := [.string (⟨#[116, 111, 112]⟩ : ByteArray), nn v2, nn e, .slice none 0 0, .slice none 0 0]) (eh b0 rfl) u0.bk qr_82 sz_82) ?_
 have m1 := (((((E0.f0 y0).f1 c0 (by omega)).f0 s0).f1 d0 (by omega)).f0 w0)
 refine gz (kt (L' := [.string (⟨#[116, 111, 112]⟩ : ByteArray), nn v2, nn e, .slice none 0 0, .slice none 0 0]) p0.ag (eh b0 rfl) (eh b0 rfl) m1 sz_82 (fun G2 y1 x0 => ?_))
 have o2 := x0.size
 refine gv (r_assign (v := nn 0) rfl) <| nl <| Z0 <| wp_ret <| ret_of (res2ct (b := P0) (n := 5) (cs := [.string (⟨#[116, 111, 112]⟩ : ByteArray), nn v2, nn e, .slice none 0 0, .slice none 0 0]) (u := nn 0) rfl _ _ (gh b0 rfl) (gh b0 rfl) y1.bk (by kernel_rfl) (by kernel_rfl) qr_82 sz_82) ((ov_defers _ _).trans U0) ?_
 exact ⟨M1, rfl, (((((((((((((cu0.t0 q0).t0 o0).t0 n0).t0 j0).t0 e0).t0 g0).tn c0 (by omega)).t0 h0).t0 k0).tn d0 (by omega)).t0 i0).t0 p0).tn x0 (by omega))⟩

theorem f11_p {m : Ctx} {w : World} (ag : Ag m w) {v v2 e : Nat} {a  s : Bytes} {R : Value} {tv x0 x1 x2 x3 : Nat} {T0 T1 T2 T3 : Option Addr} {AT DT : Option Addr} {cT dT uT : Nat} {AS DS : Option Addr} {cS dS uS : Nat} {AG DG : Option Addr} {cG dG uG : Nat} {Q : Option Addr} {qc : Nat} (hRt : RootsOk m (.agg ([nn tv, nn 1073741824, .slice T0 1 x0, nn 1, .slice T1 1 x1, nn 1, .slice T2 1 x2, nn 1, .slice T3 1 x3, nn 1]).toArray) R v a (pk s)) (hET : Env m AT 36 cT DT dT (timeB v2 e (sha (snapB v2 e))) s uT) (hES : Env m AS 9 cS DS dS (snapB v2 e) s uS) (hEG : Env m AG 9 cG DG dG (targB v2 e) s uG) (hQ : Sl m Q 1 qc 2 ([.slice AG 9 cG, .slice DG 1 dG])) (huT : uT < 16) (huS : uS < 16) (huG : uG < 16) (hv1 : 1 ≤ v2) (hv : v2 < 128) (he1 : 1 < e) (he : e < 128) : Calls Tryz.prog 11 #[.agg ([nn tv, nn 1073741824, .slice T0 1 x0, nn 1, .slice T1 1 x1, nn 1, .slice T2 1 x2, nn 1, .slice T3 1 x3, nn 1, .bool false, nn 0, nn 0, nn 0] ++ (hc (List.replicate 32 0) ++ ([nn 0, nn 0, .slice none 0 0, .slice none 0 0]))).toArray, .agg ([R, .slice AT 36 cT, .slice DT 1 dT, .slice AS 9 cS, .slice DS 1 dS, .slice Q 1 qc]).toArray, nn 1] w (Ret fun y w' => ∃ m' M0 n0 M1 n1 M2 n2 M3 n3 P pc Z zc, y = .tuple #[.agg ([nn v, nn 1073741824, .slice M0 1 n0, nn 1, .slice M1 1 n1, nn 1, .slice M2 1 n2, nn 1, .slice M3 1 n3, nn 1, .bool true, nn v2, nn e, nn v2] ++ (hc (sha (snapB v2 e)) ++ ([nn v2, nn e, .slice P 1 pc, .slice Z 1 zc]))).toArray, nn 0] ∧ Fr no m w m' w') := by
 refine enter Tryz.func11 rfl (fun S0 hT y1 => ?_)
 have b0 : S0.tmps.size = 101 := by rw [hT]; kernel_rfl
 have V3 : S0.tmps.getD 0 undef = .agg ([nn tv, nn 1073741824, .slice T0 1 x0, nn 1, .slice T1 1 x1, nn 1, .slice T2 1 x2, nn 1, .slice T3 1 x3, nn 1, .bool false, nn 0, nn 0, nn 0] ++ (hc (List.replicate 32 0) ++ ([nn 0, nn 0, .slice none 0 0, .slice none 0 0]))).toArray := by rw [hT]; kernel_rfl
 have W3 : S0.tmps.getD 1 undef = .agg ([R, .slice AT 36 cT, .slice DT 1 dT, .slice AS 9 cS, .slice DS 1 dS, .slice Q 1 qc]).toArray := by rw [hT]; kernel_rfl
 have I0 : S0.tmps.getD 2 undef = nn 1 := by rw [hT]; kernel_rfl
 clear hT
 have cu0 : Fr (no) m w m w := Fr.refl ag
 refine sk fun _ z2 => rn <| gk (k_box (L := [nn tv, nn 1073741824, .slice T0 1 x0, nn 1, .slice T1 1 x1, nn 1, .slice T2 1 x2, nn 1, .slice T3 1 x3, nn 1, .bool false, nn 0, nn 0, nn 0] ++ (hc (List.replicate 32 0) ++ ([nn 0, nn 0, .slice none 0 0, .slice none 0 0]))) ag (em b0 rfl rfl V3) (by kernel_rfl) (fun s5 p2 Q1 N0 u4 => ?_))
 have g5 := N0.size
 have C4 := Q1.lt
 refine gk (k_box (L := [R, .slice AT 36 cT, .slice DT 1 dT, .slice AS 9 cS, .slice DS 1 dS, .slice Q 1 qc]) N0.ag (em b0 rfl rfl W3) (by kernel_rfl) (fun G5 v1 H1 F0 n4 => ?_))
 have O4 := F0.size
 have F4 := H1.lt
 refine gk (k_alloc F0.ag qz_59 (fun p5 h1 K1 B0 p4 => ?_))
 have R4 := B0.size
 have x4 := K1.lt
 refine gv (r_assign (v := nn 0) rfl) <| nl <| z2 <| sk fun _ R2 => rn <| gv (r_field (o' := 0) (eh b0 rfl) fo_59_0 (by rfl)) ?_
 have q2 := F0.t0 B0
 have z1 := (Q1.f0 q2)
 refine gv (lb (cs := [nn tv, nn 1073741824, .slice T0 1 x0, nn 1, .slice T1 1 x1, nn 1, .slice T2 1 x2, nn 1, .slice T3 1 x3, nn 1]) (eh b0 rfl) z1.bk qr_35 sz_35) <| gv (r_field (o' := 0) (eh b0 rfl) fo_43_0 (by rfl)) ?_
 have A1 := (H1.f0 B0)
 refine gv (la (v := R) (eh b0 rfl) A1.bk qr_37) <| mw b0 I0 <| gk (k_cl (hRt _ _ B0.ag ((((cu0.t0 N0).t0 F0).t0 B0)).le) rfl fn_32 (map_cons (eh b0 rfl) (map_cons (eh b0 rfl) (map_cons (eh b0 rfl) map_nil))) (fun k5 x5 w3 => ?_))
 obtain ⟨G4, i0, o0, j0, p0, k0, q0, l0, r0, rfl, L0, l3, m3, o3, p3⟩ := w3
 have b5 := L0.size
 refine mv b0 rfl <| gv (r_extract (v := .agg ([nn v, nn 1073741824, .slice i0 1 o0, nn 1, .slice j0 1 p0, nn 1, .slice k0 1 q0, nn 1, .slice l0 1 r0, nn 1]).toArray) (eh b0 rfl) (by kernel_rfl)) <| gv (r_extract (v := nn 0) (eh b0 rfl) (by kernel_rfl)) <| gk (k_alloc L0.ag qz_35 (fun B5 t1 R1 s0 t4 => ?_))
 have c5 := s0.size
 have D4 := R1.lt
 refine gz (kt (L' := [nn v, nn 1073741824, .slice i0 1 o0, nn 1, .slice j0 1 p0, nn 1, .slice k0 1 q0, nn 1, .slice l0 1 r0, nn 1]) s0.ag (eh b0 rfl) (eh b0 rfl) R1 sz_35 (fun C5 S1 g0 => ?_))
 have d5 := g0.size
 refine ms b0 rfl <| nl <| R2 <| sk fun _ S2 => sk fun _ U2 => rn <| mv b0 rfl <| gv (r_neq (j := 0) (eh b0 rfl) rfl) <| nl <| U2 <| ce b0 rfl <| ws <| S2 <| sk fun _ V2 => rn ?_
 have k1 := L0.t0 s0
 have B1 := ((z1.f0 k1).f1 g0 (by omega))
 refine gv (lb (cs := [nn tv, nn 1073741824, .slice T0 1 x0, nn 1, .slice T1 1 x1, nn 1, .slice T2 1 x2, nn 1, .slice T3 1 x3, nn 1, .bool false, nn 0, nn 0, nn 0] ++ (hc (List.replicate 32 0) ++ ([nn 0, nn 0, .slice none 0 0, .slice none 0 0]))) (eh b0 rfl) B1.bk qr_59 sz_59) <| gv (lb (cs := [nn v, nn 1073741824, .slice i0 1 o0, nn 1, .slice j0 1 p0, nn 1, .slice k0 1 q0, nn 1, .slice l0 1 r0, nn 1]) (eh b0 rfl) S1.bk qr_35 sz_35) <| gv (r_field (o' := 1) (eh b0 rfl) fo_43_1 (by rfl)) ?_
 have C1 := ((A1.f0 k1).f1 g0 (by omega))
 refine gv (lb (cs := [.slice AT 36 cT, .slice DT 1 dT]) (eh b0 rfl) C1.bk qr_41 sz_41) <| mw b0 I0 ?_
 have W1 := ((l3.up s0).up g0)
 have X1 := ((m3.up s0).up g0)
 have Y1 := ((o3.up s0).up g0)
 have Z1 := ((p3.up s0).up g0)
 have b2 := Fr.ll (Fr.ll (Fr.ll (Fr.ll (Fr.l2 N0 F0) B0) L0) s0) g0
 have u2 := hET.le b2
 refine gk (k_cl (f33_p g0.ag W1 X1 Y1 Z1 u2 huT (by omega) (by omega) (by omega) (by omega)) rfl fn_33 (map_cons (eh b0 rfl) (map_cons (eh b0 rfl) (map_cons (eh b0 rfl) (map_cons (eh b0 rfl) map_nil)))) (fun m5 D5 z3 => ?_))
 obtain ⟨H4, rfl, G0⟩ := z3
 have e5 := G0.size
 refine mv b0 rfl <| gv (r_extract (v := .agg ([nn v2, nn e, nn v2] ++ (hc (sha (snapB v2 e)))).toArray) (eh b0 rfl) (by kernel_rfl)) <| gv (r_extract (v := nn 0) (eh b0 rfl) (by kernel_rfl)) <| gk (k_alloc G0.ag qz_53 (fun E5 u1 U1 H0 v4 => ?_))
 have h5 := H0.size
 have E4 := U1.lt
 refine gz (kt (L' := [nn v2, nn e, nn v2] ++ (hc (sha (snapB v2 e)))) H0.ag (eh b0 rfl) (eh b0 rfl) U1 sz_53 (fun F5 V1 u0 => ?_))
 have i5 := u0.size
 refine ms b0 rfl <| nl <| V2 <| sk fun _ W2 => sk fun _ X2 => rn <| mv b0 rfl <| gv (r_neq (j := 0) (eh b0 rfl) rfl) <| nl <| X2 <| ce b0 rfl <| ws <| W2 <| sk fun _ Y2 => rn ?_
 have b1 := G0.t0 H0
 have k3 := ((B1.f0 b1).f1 u0 (by omega))
 refine gv (lb (cs := [nn tv, nn 1073741824, .slice T0 1 x0, nn 1, .slice T1 1 x1, nn 1, .slice T2 1 x2, nn 1, .slice T3 1 x3, nn 1, .bool false, nn 0, nn 0, nn 0] ++ (hc (List.replicate 32 0) ++ ([nn 0, nn 0, .slice none 0 0, .slice none 0 0]))) (eh b0 rfl) k3.bk qr_59 sz_59) ?_
 have l1 := ((S1.f0 b1).f1 u0 (by omega))
 refine gv (lb (cs := [nn v, nn 1073741824, .slice i0 1 o0, nn 1, .slice j0 1 p0, nn 1, .slice k0 1 q0, nn 1, .slice l0 1 r0, nn 1]) (eh b0 rfl) l1.bk qr_35 sz_35) <| gv (lb (cs := [nn v2, nn e, nn v2] ++ (hc (sha (snapB v2 e)))) (eh b0 rfl) V1.bk qr_53 sz_53) <| gv (r_field (o' := 3) (eh b0 rfl) fo_43_2 (by rfl)) ?_
 have D1 := ((C1.f0 b1).f1 u0 (by omega))
 refine gv (lb (cs := [.slice AS 9 cS, .slice DS 1 dS]) (eh b0 rfl) D1.bk qr_41 sz_41) <| mw b0 I0 ?_
 have e1 := Fr.ll (Fr.l2 G0 H0) u0
 have m1 := W1.le e1
 have o1 := X1.le e1
 have p1 := Y1.le e1
 have q1 := Z1.le e1
 have c2 := Fr.ll (Fr.ll (Fr.ll b2 G0) H0) u0
 have y2 := hES.le c2
 refine gk (k_cl (f34 u0.ag m1 o1 p1 q1 y2 huS (by omega) (by omega) (by omega) (by omega)) rfl fn_34 (map_cons (eh b0 rfl) (map_cons (eh b0 rfl) (map_cons (eh b0 rfl) (map_cons (eh b0 rfl) (map_cons (eh b0 rfl) map_nil))))) (fun n5 H5 A3 => ?_))
 obtain ⟨D0, v0, z0, rfl, y0, F1⟩ := A3
 have L4 := y0.size
 refine mv b0 rfl <| gv (r_extract (v := .agg ([nn v2, nn e, .slice v0 1 z0]).toArray) (eh b0 rfl) (by kernel_rfl)) <| gv (r_extract (v := nn 0) (eh b0 rfl) (by kernel_rfl)) <| gk (k_alloc y0.ag qz_56 (fun o5 s1 I1 m0 m4 => ?_))
 have M4 := m0.size
 have w4 := I1.lt
 refine gz (kt (L' := [nn v2, nn e, .slice v0 1 z0]) m0.ag (eh b0 rfl) (eh b0 rfl) I1 sz_56 (fun E0 J1 e0 => ?_))
 have N4 := e0.size
 refine ms b0 rfl <| nl <| Y2 <| sk fun _ A2 => sk fun _ B2 => rn <| mv b0 rfl <| gv (r_neq (j := 0) (eh b0 rfl) rfl) <| nl <| B2 <| ce b0 rfl <| ws <| A2 <| sk fun _ C2 => bl <| sk fun _ D2 => rn <| gv (r_field (o' := 5) (eh b0 rfl) fo_43_3 (by rfl)) ?_
 have W0 := y0.t0 m0
 have O0 := ((D1.f0 W0).f1 e0 (by omega))
 refine gv (la (v := .slice Q 1 qc) (eh b0 rfl) O0.bk qr_37) <| gv (r_lenS (eh b0 rfl) rfl qu_37) <| gv (r_eql (j := 0) (eh b0 rfl) rfl) <| ms b0 rfl <| nl <| D2 <| ce b0 rfl <| sk fun _ E2 => rn <| gv (r_field (o' := 5) (eh b0 rfl) fo_43_3 (by rfl)) <| gv (la (v := .slice Q 1 qc) (eh b0 rfl) O0.bk qr_37) <| gv (r_lenS (eh b0 rfl) rfl qu_37) <| gv (r_gtr (j := 16) (eh b0 rfl) rfl) <| ms b0 rfl <| nl <| E2 <| ce b0 rfl <| ws <| C2 <| sk fun _ F2 => rn <| gv (r_assign (v := .slice none 0 0) rfl) <| nl <| F2 <| sk fun _ G2 => sk fun _ H2 => rn <| gv (r_assign (v := nn 0) rfl) <| nl <| H2 <| bl <| wp_unroll (n := 2) <| un_step (n := 1) <| sk fun _ I2 => sk fun _ J2 => rn <| mv b0 rfl <| gv (r_field (o' := 5) (eh b0 rfl) fo_43_3 (by rfl)) <| gv (la (v := .slice Q 1 qc) (eh b0 rfl) O0.bk qr_37) <| gv (r_lenS (eh b0 rfl) rfl qu_37) <| gv (r_lss (eh b0 rfl) (eh b0 rfl)) <| nl <| J2 <| cd b0 rfl <| ws <| I2 <| sk fun _ K2 => bl <| sk fun k2 L2 => ?_
 have E1 : ∀ (a' : Act) (w' : World), (∃ (m' : Ctx) (U0 : Nat), a'.tmps.size = 101 ∧ a'.defers = [] ∧ a'.tmps.getD 2 undef = nn 1 ∧ a'.tmps.getD 3 undef = .pointer (some ⟨p2, 0, none⟩) ∧ a'.tmps.getD 4 undef = .pointer (some ⟨v1, 0, none⟩) ∧ a'.tmps.getD 6 undef = .pointer (some ⟨h1, 0, none⟩) ∧ a'.tmps.getD 8 undef = .pointer (some ⟨t1, 0, none⟩) ∧ a'.tmps.getD 10 undef = .pointer (some ⟨u1, 0, none⟩) ∧ a'.tmps.getD 11 undef = .pointer (some ⟨s1, 0, none⟩) ∧ a'.tmps.getD 12 undef = .slice none 0 0 ∧ a'.tmps.getD 13 undef = nn 0 ∧ a'.tmps.getD 14 undef = .pointer (some ⟨U0, 0, none⟩) ∧ a'.tmps.getD 15 undef = nn 0 ∧ Fr (no) D0 E0 m' w' ∧ E0.heap.size ≤ U0 ∧ Mu m' w' U0 82 ([.string (⟨#[116, 111, 112]⟩ : ByteArray), nn v2, nn e, .slice none 0 0, .slice none 0 0])) → k2 a' w' := by
  rintro h4 q5 ⟨d2, U0, c0, r2, J4, K4, X3, j2, Y3, Z3, a4, b4, c4, d4, e4, X0, o4, L1⟩
  have P4 := X0.size
  have y4 := L1.lt
  refine L2 <| of_ov <| sk fun _ N2 => sk fun _ O2 => rn <| mw c0 e4 <| gv (r_neq (j := 0) (eh c0 rfl) rfl) <| nl <| O2 <| ce c0 rfl <| ws <| N2 <| rn <| mw c0 b4 <| gv (lb (cs := [.string (⟨#[116, 111, 112]⟩ : ByteArray), nn v2, nn e, .slice none 0 0, .slice none 0 0]) (em c0 rfl rfl d4) L1.bk qr_82 sz_82) <| gk (k_lit (e := 82) (L := [.string (⟨#[116, 111, 112]⟩ : ByteArray), nn v2, nn e, .slice none 0 0, .slice none 0 0]) X0.ag (pm_cons (eh c0 rfl) pm_nil) (by kernel_rfl) (fun A0 i4 N1 Y0 q4 => ?_))
  have Q4 := Y0.size
  have z4 := N1.lt
  refine gk (k_append0 (base := A0.heap.size) (N := [.string (⟨#[116, 111, 112]⟩ : ByteArray), nn v2, nn e, .slice none 0 0, .slice none 0 0]) Y0.ag (eh c0 rfl) (eh c0 rfl) qs_57 qz_82 (Own.nil d2 A0 (A0.heap.size) 82 5) (N1.bk.src (L := [.string (⟨#[116, 111, 112]⟩ : ByteArray), nn v2, nn e, .slice none 0 0, .slice none 0 0]) (n := 1) (o := 0) (k := 5) (by kernel_rfl)) (fun h => by cases h) (by kernel_rfl) (by kernel_rfl) (by omega) (by decide) (by rw [maxLen_eq]; omega) (by omega) (fun R0 V0 r5 t3 w0 => ?_))
  have S4 := w0.size
  have I4 := t3.nilc
  refine ms c0 rfl <| nl <| K2 <| rn <| mw c0 c4 <| gv (r_add (j := 1) (eh c0 rfl) rfl (by decide)) <| ms c0 rfl <| nl <| un_next <| un_step (n := 0) <| sk fun _ k4 => sk fun _ P2 => rn <| mv c0 rfl <| gv (r_field (o' := 5) (em c0 rfl rfl X3) fo_43_3 (by rfl)) ?_
  have J0 := X0.t0 Y0
  have Z2 := ((O0.f0 J0).fs w0 (show ¬ A0.heap.size ≤ v1 from by omega))
  refine gv (la (v := .slice Q 1 qc) (eh c0 rfl) Z2.bk qr_37) <| gv (r_lenS (eh c0 rfl) rfl qu_37) <| gv (r_lss (eh c0 rfl) (eh c0 rfl)) <| nl <| P2 <| ce c0 rfl <| we <| G2 <| sk fun _ Q2 => rn ?_
  have a3 := ((((l1.f0 W0).f1 e0 (by omega)).f0 J0).fs w0 (show ¬ A0.heap.size ≤ t1 from by omega))
  refine gv (lb (cs := [nn v, nn 1073741824, .slice i0 1 o0, nn 1, .slice j0 1 p0, nn 1, .slice k0 1 q0, nn 1, .slice l0 1 r0, nn 1]) (em c0 rfl rfl Y3) a3.bk qr_35 sz_35) ?_
  have c3 := ((((V1.f0 W0).f1 e0 (by omega)).f0 J0).fs w0 (show ¬ A0.heap.size ≤ u1 from by omega))
  refine gv (lb (cs := [nn v2, nn e, nn v2] ++ (hc (sha (snapB v2 e)))) (em c0 rfl rfl Z3) c3.bk qr_53 sz_53) ?_
  have d3 := ((J1.f0 J0).fs w0 (show ¬ A0.heap.size ≤ s1 from by omega))
  refine gv (lb (cs := [nn v2, nn e, .slice v0 1 z0]) (em c0 rfl rfl a4) d3.bk qr_56 sz_56) <| mv c0 rfl <| gv (r_build (cs := [nn v, nn 1073741824, .slice i0 1 o0, nn 1, .slice j0 1 p0, nn 1, .slice k0 1 q0, nn 1, .slice l0 1 r0, nn 1, .bool true, nn v2, nn e, nn v2] ++ (hc (sha (snapB v2 e)) ++ ([nn v2, nn e, .slice v0 1 z0, .slice R0 1 V0]))) (pm_cons (eh c0 rfl) (pm_cons (v := .bool true) rfl (pm_cons (eh c0 rfl) (pm_cons (eh c0 rfl) (pm_cons (eh c0 rfl) pm_nil))))) (by kernel_rfl)) ?_
  have e3 := ((((((((K1.f0 k1).f1 g0 (by omega)).f0 b1).f1 u0 (by omega)).f0 W0).f1 e0 (by omega)).f0 J0).fs w0 (show ¬ A0.heap.size ≤ h1 from by omega))
  refine gz (kt (L' := [nn v, nn 1073741824, .slice i0 1 o0, nn 1, .slice j0 1 p0, nn 1, .slice k0 1 q0, nn 1, .slice l0 1 r0, nn 1, .bool true, nn v2, nn e, nn v2] ++ (hc (sha (snapB v2 e)) ++ ([nn v2, nn e, .slice v0 1 z0, .slice R0 1 V0]))) w0.ag (em c0 rfl rfl j2) (eh c0 rfl) e3 sz_59 (fun t5 q3 w1 => ?_))
  have T4 := w1.size
  refine gv (r_assign (v := nn 0) rfl) <| nl <| Q2 <| wp_ret <| ret_of (res2ct (b := h1) (n := 50) (cs := [nn v, nn 1073741824, .slice i0 1 o0, nn 1, .slice j0 1 p0, nn 1, .slice k0 1 q0, nn 1, .slice l0 1 r0, nn 1, .bool true, nn v2, nn e, nn v2] ++ (hc (sha (snapB v2 e)) ++ ([nn v2, nn e, .slice v0 1 z0, .slice R0 1 V0]))) (u := nn 0) rfl _ _ (gm c0 rfl rfl j2) (gh c0 rfl) q3.bk (by kernel_rfl) (by kernel_rfl) qr_59 sz_59) ((ov_defers _ _).trans r2) ?_
  exact ⟨d2, i0, o0, j0, p0, k0, q0, l0, r0, v0, z0, R0, V0, rfl, ((((((((((((((((cu0.t0 N0).t0 F0).t0 B0).t0 L0).t0 s0).tn g0 (by omega)).t0 G0).t0 H0).tn u0 (by omega)).t0 y0).t0 m0).tn e0 (by omega)).t0 X0).t0 Y0).tg w0 (by omega)).tn w1 (by omega))⟩
 have d0 : Fr no D0 E0 D0 { E0 with drawn := E0.drawn + 1 } := Fr.drw e0.ag
 obtain ⟨g1, a2⟩ : ∃ w_, w_ = ({ E0 with drawn := E0.drawn + 1 } : World) := ⟨_, rfl⟩
 rw [← a2] at d0
 have U4 := d0.size
 refine wp_region_T mixed (fun wz => ∃ mz, Fr (no) D0 g1 mz wz) (fun wz => ∃ mz, Fr (no) D0 g1 mz wz) 16 ?_
 rw [← a2]
 show wpAnyT _ _ _ _ _ 16 _ _ _
 have h0 : Fr (no) D0 g1 D0 g1 := Fr.refl d0.ag
 have g3 := ((((l1.f0 y0).f0 m0).f1 e0 (by omega)).f0 d0)
 refine tkk (i := 0) rfl rfl (fun wz ⟨mz, hz⟩ => lb (cs := [nn v, nn 1073741824, .slice i0 1 o0, nn 1, .slice j0 1 p0, nn 1, .slice k0 1 q0, nn 1, .slice l0 1 r0, nn 1]) (eh b0 rfl) (hz.ex g3.bk (fun h => h)) qr_35 sz_35) ⟨_, h0⟩ ?_
 have h3 := (J1.f0 d0)
 refine tkk (i := 1) rfl rfl (fun wz ⟨mz, hz⟩ => lb (cs := [nn v2, nn e, .slice v0 1 z0]) (eh b0 rfl) (hz.ex h3.bk (fun h => h)) qr_56 sz_56) ⟨_, h0⟩ <| tkk (i := 2) rfl rfl (fun _ _ => r_move (eh b0 rfl)) ⟨_, h0⟩ <| tkk (i := 3) rfl rfl (fun _ _ => r_field (o' := 5) (eh b0 rfl) fo_43_3 (by rfl)) ⟨_, h0⟩ ?_
 have i3 := (O0.f0 d0)
 refine tkk (i := 4) rfl rfl (fun wz ⟨mz, hz⟩ => la (v := .slice Q 1 qc) (eh b0 rfl) (hz.ex i3.bk (fun h => h)) qr_37) ⟨_, h0⟩ <| tkk (i := 5) rfl rfl (fun _ _ => r_move (eh b0 rfl)) ⟨_, h0⟩ ?_
 have r1 := Fr.ll (Fr.ll (Fr.ll (Fr.ll c2 y0) m0) e0) d0
 have C3 := hQ.le r1
 obtain ⟨j4, U3, g4, rfl, u3, B3⟩ := C3.elem (by omega)
 refine tkk (i := 6) rfl rfl (fun _ _ => r_idxS (o' := U3 + 0) (eh b0 rfl) (eh b0 rfl) qs_37 (by decide) (by omega)) ⟨_, h0⟩ <| tkk (i := 7) rfl rfl (fun wz ⟨mz, hz⟩ => r_loadN (cs := [.slice AG 9 cG, .slice DG 1 dG]) (eh b0 rfl) (hz.ag _ _ (hz.le _ _ u3)) (Eq.trans (rd_sub B3 (by omega)) (by kernel_rfl)) (by kernel_rfl) qr_41 sz_41) ⟨_, h0⟩ <| tkk (i := 8) rfl rfl (fun _ _ => r_move (em b0 rfl rfl I0)) ⟨_, h0⟩ <| anyT_all (rs := [9, 13]) (by kernel_rfl) (by simp) (fun l4 G1 => ?_)
 simp only [List.mem_cons, List.mem_nil_iff, or_false] at G1
 rcases G1 with rfl | rfl
 ·
  have c1 := Fr.ll (Fr.ll (Fr.l2 y0 m0) e0) d0
  have D3 := m1.le c1
  have E3 := o1.le c1
  have F3 := p1.le c1
  have G3 := q1.le c1
  have O3 := Fr.ll (Fr.l2 m0 e0) d0
  have H3 := F1.le O3
  have s2 := hEG.le r1
  refine ao (b := true) rfl rfl rfl (by kernel_rfl) (k_cl (f35 d0.ag D3 E3 F3 G3 H3 s2 huG (by omega) (by omega) (by omega) (by omega)) rfl fn_35 (map_cons (eh b0 rfl) (map_cons (eh b0 rfl) (map_cons (eh b0 rfl) (map_cons (eh b0 rfl) (map_cons (eh b0 rfl) map_nil))))) (fun j5 u5 v3 => ?_))
  obtain ⟨R3, rfl, Z0⟩ := v3
  have V4 := Z0.size
  have P0 := h0.t0 Z0
  refine ⟨(tbT ⟨_, P0⟩), ?_⟩
  refine tkk (i := 10) rfl rfl (fun _ _ => r_move (eh b0 rfl)) ⟨_, P0⟩ <| tkk (i := 11) rfl rfl (fun _ _ => r_extract (v := .agg ([.string (⟨#[116, 111, 112]⟩ : ByteArray), nn v2, nn e, .slice none 0 0, .slice none 0 0]).toArray) (eh b0 rfl) (by kernel_rfl)) ⟨_, P0⟩ <| tkk (i := 12) rfl rfl (fun _ _ => r_extract (v := nn 0) (eh b0 rfl) (by kernel_rfl)) ⟨_, P0⟩ <| ann (i := 13) (b := true) rfl rfl (k_alloc Z0.ag qz_82 (fun v5 m2 O1 a1 r4 => ?_))
  have W4 := a1.size
  have e2 := P0.t0 a1
  have A4 := O1.lt
  refine ⟨(tbT ⟨_, e2⟩), ?_⟩
  refine an00 (i := 14) (b := true) rfl rfl (kt (L' := [.string (⟨#[116, 111, 112]⟩ : ByteArray), nn v2, nn e, .slice none 0 0, .slice none 0 0]) a1.ag (eh b0 rfl) (eh b0 rfl) O1 sz_82 (fun w5 r3 i1 => ?_))
  have X4 := i1.size
  have g2 := e2.tn i1 (by omega)
  refine ⟨(tbT ⟨_, g2⟩), ?_⟩
  refine tkk (i := 15) rfl rfl (fun _ _ => r_assign (eh b0 rfl)) ⟨_, g2⟩ <| anyT_done (by kernel_rfl) ?_ _
  exact E1 _ _ ⟨R3, m2, ((ov_size _ _).trans b0), ((ov_defers _ _).trans y1), (gm b0 rfl rfl I0), (gh b0 rfl), (gh b0 rfl), (gh b0 rfl), (gh b0 rfl), (gh b0 rfl), (gh b0 rfl), (gh b0 rfl), (gh b0 rfl), (gh b0 rfl), (gh b0 rfl), (((d0.t0 Z0).t0 a1).tn i1 (by omega)), (by omega), r3⟩
 ·
  refine ao (b := true) rfl rfl rfl (by kernel_rfl) (k_alloc d0.ag qz_82 (fun y5 o2 P1 C0 s4 => ?_))
  have Y4 := C0.size
  have h2 := h0.t0 C0
  have B4 := P1.lt
  refine ⟨(tbT ⟨_, h2⟩), ?_⟩
  have d1 := Fr.ll (Fr.ll (Fr.ll (Fr.l2 y0 m0) e0) d0) C0
  have I3 := m1.le d1
  have J3 := o1.le d1
  have K3 := p1.le d1
  have L3 := q1.le d1
  have P3 := Fr.ll (Fr.ll (Fr.l2 m0 e0) d0) C0
  have N3 := F1.le P3
  have Q3 := Fr.ll r1 C0
  have t2 := hEG.le Q3
  refine ann (i := 9) (b := true) rfl rfl (k_cl (f35 C0.ag I3 J3 K3 L3 N3 t2 huG (by omega) (by omega) (by omega) (by omega)) rfl fn_35 (map_cons (eh b0 rfl) (map_cons (eh b0 rfl) (map_cons (eh b0 rfl) (map_cons (eh b0 rfl) (map_cons (eh b0 rfl) map_nil))))) (fun l5 z5 y3 => ?_))
  obtain ⟨S3, rfl, K0⟩ := y3
  have Z4 := K0.size
  have Q0 := h2.t0 K0
  refine ⟨(tbT ⟨_, Q0⟩), ?_⟩
  refine tkk (i := 10) rfl rfl (fun _ _ => r_move (eh b0 rfl)) ⟨_, Q0⟩ <| tkk (i := 11) rfl rfl (fun _ _ => r_extract (v := .agg ([.string (⟨#[116, 111, 112]⟩ : ByteArray), nn v2, nn e, .slice none 0 0, .slice none 0 0]).toArray) (eh b0 rfl) (by kernel_rfl)) ⟨_, Q0⟩ <| tkk (i := 12) rfl rfl (fun _ _ => r_extract (v := nn 0) (eh b0 rfl) (by kernel_rfl)) ⟨_, Q0⟩ ?_
  have j3 := (P1.f0 K0)
  refine an00 (i := 14) (b := true) rfl rfl (kt (L' := [.string (⟨#[116, 111, 112]⟩ : ByteArray), nn v2, nn e, .slice none 0 0, .slice none 0 0]) K0.ag (eh b0 rfl) (eh b0 rfl) j3 sz_82 (fun A5 s3 j1 => ?_))
  have a5 := j1.size
  have i2 := Q0.tn j1 (by omega)
  refine ⟨(tbT ⟨_, i2⟩), ?_⟩
  refine tkk (i := 15) rfl rfl (fun _ _ => r_assign (eh b0 rfl)) ⟨_, i2⟩ <| anyT_done (by kernel_rfl) ?_ _
  exact E1 _ _ ⟨S3, o2, ((ov_size _ _).trans b0), ((ov_defers _ _).trans y1), (gm b0 rfl rfl I0), (gh b0 rfl), (gh b0 rfl), (gh b0 rfl), (gh b0 rfl), (gh b0 rfl), (gh b0 rfl), (gh b0 rfl), (gh b0 rfl), (gh b0 rfl), (gh b0 rfl), (((d0.t0 C0).t0 K0).tn j1 (by omega)), (by omega), s3⟩

theorem f11_n {m : Ctx} {w : World} (ag : Ag m w) {v v2 e : Nat} {a b h s : Bytes} {R : Value} {tv x0 x1 x2 x3 : Nat} {T0 T1 T2 T3 : Option Addr} {AT DT : Option Addr} {cT dT uT : Nat} {y0 y1 y2 : Value} (hRt : RootsOk m (.agg ([nn tv, nn 1073741824, .slice T0 1 x0, nn 1, .slice T1 1 x1, nn 1, .slice T2 1 x2, nn 1, .slice T3 1 x3, nn 1]).toArray) R v a b) (hET : Env m AT 36 cT DT dT (timeB v2 e h) s uT) (hne : n32 (pk s) ≠ n32 b) (hv1 : 1 ≤ v2) (hv : v2 < 128) (he1 : 1 < e) (he : e < 128) : Calls Tryz.prog 11 #[.agg ([nn tv, nn 1073741824, .slice T0 1 x0, nn 1, .slice T1 1 x1, nn 1, .slice T2 1 x2, nn 1, .slice T3 1 x3, nn 1, .bool false, nn 0, nn 0, nn 0] ++ (hc (List.replicate 32 0) ++ ([nn 0, nn 0, .slice none 0 0, .slice none 0 0]))).toArray, .agg ([R, .slice AT 36 cT, .slice DT 1 dT, y0, y1, y2]).toArray, nn 1] w (Ret fun y w' => ∃ m', y = .tuple #[.agg ([nn tv, nn 1073741824, .slice T0 1 x0, nn 1, .slice T1 1 x1, nn 1, .slice T2 1 x2, nn 1, .slice T3 1 x3, nn 1, .bool false, nn 0, nn 0, nn 0] ++ (hc (List.replicate 32 0) ++ ([nn 0, nn 0, .slice none 0 0, .slice none 0 0]))).toArray, nn 4] ∧ Fr no m w m' w') := by
 refine enter Tryz.func11 rfl (fun k0 hT M0 => ?_)
 have b0 : k0.tmps.size = 101 := by rw [hT]; kernel_rfl
 have o1 : k0.tmps.getD 0 undef = .agg ([nn tv, nn 1073741824, .slice T0 1 x0, nn 1, .slice T1 1 x1, nn 1, .slice T2 1 x2, nn 1, .slice T3 1 x3, nn 1, .bool false, nn 0, nn 0, nn 0] ++ (hc (List.replicate 32 0) ++ ([nn 0, nn 0, .slice none 0 0, .slice none 0 0]))).toArray := by rw [hT]; kernel_rfl
 have p1 : k0.tmps.getD 1 undef = .agg ([R, .slice AT 36 cT, .slice DT 1 dT, y0, y1, y2]).toArray := by rw [hT]; kernel_rfl
 have J0 : k0.tmps.getD 2 undef = nn 1 := by rw [hT]; kernel_rfl
 clear hT
 have cu0 : Fr (no) m w m w := Fr.refl ag
 refine sk fun _ O0 => rn <| gk (k_box (L := [nn tv, nn 1073741824, .slice T0 1 x0, nn 1, .slice T1 1 x1, nn 1, .slice T2 1 x2, nn 1, .slice T3 1 x3, nn 1, .bool false, nn 0, nn 0, nn 0] ++ (hc (List.replicate 32 0) ++ ([nn 0, nn 0, .slice none 0 0, .slice none 0 0]))) ag (em b0 rfl rfl o1) (by kernel_rfl) (fun X1 q1 G0 i0 B1 => ?_))
 have P1 := i0.size
 have E1 := G0.lt
 refine gk (k_box (L := [R, .slice AT 36 cT, .slice DT 1 dT, y0, y1, y2]) i0.ag (em b0 rfl rfl p1) (by kernel_rfl) (fun e2 t1 E0 g0 w1 => ?_))
 have J1 := g0.size
 have H1 := E0.lt
 refine gk (k_alloc g0.ag qz_59 (fun W1 K0 F0 e0 z1 => ?_))
 have K1 := e0.size
 have D1 := F0.lt
 refine gv (r_assign (v := nn 0) rfl) <| nl <| O0 <| sk fun _ P0 => rn <| gv (r_field (o' := 0) (eh b0 rfl) fo_59_0 (by rfl)) ?_
 have L0 := g0.t0 e0
 have B0 := (G0.f0 L0)
 refine gv (lb (cs := [nn tv, nn 1073741824, .slice T0 1 x0, nn 1, .slice T1 1 x1, nn 1, .slice T2 1 x2, nn 1, .slice T3 1 x3, nn 1]) (eh b0 rfl) B0.bk qr_35 sz_35) <| gv (r_field (o' := 0) (eh b0 rfl) fo_43_0 (by rfl)) ?_
 have C0 := (E0.f0 e0)
 refine gv (la (v := R) (eh b0 rfl) C0.bk qr_37) <| mw b0 J0 <| gk (k_cl (hRt _ _ e0.ag ((((cu0.t0 i0).t0 g0).t0 e0)).le) rfl fn_32 (map_cons (eh b0 rfl) (map_cons (eh b0 rfl) (map_cons (eh b0 rfl) map_nil))) (fun U1 Y1 g1 => ?_))
 obtain ⟨I1, n0, s0, o0, u0, p0, v0, q0, w0, rfl, h0, Z0, a1, b1, c1⟩ := g1
 have L1 := h0.size
 refine mv b0 rfl <| gv (r_extract (v := .agg ([nn v, nn 1073741824, .slice n0 1 s0, nn 1, .slice o0 1 u0, nn 1, .slice p0 1 v0, nn 1, .slice q0 1 w0, nn 1]).toArray) (eh b0 rfl) (by kernel_rfl)) <| gv (r_extract (v := nn 0) (eh b0 rfl) (by kernel_rfl)) <| gk (k_alloc h0.ag qz_35 (fun Z1 r1 H0 d0 A1 => ?_))
 have M1 := d0.size
 have F1 := H0.lt
 refine gz (kt (L' := [nn v, nn 1073741824, .slice n0 1 s0, nn 1, .slice o0 1 u0, nn 1, .slice p0 1 v0, nn 1, .slice q0 1 w0, nn 1]) d0.ag (eh b0 rfl) (eh b0 rfl) H0 sz_35 (fun a2 d1 c0 => ?_))
 have N1 := c0.size
 refine ms b0 rfl <| nl <| P0 <| sk fun _ Q0 => sk fun _ R0 => rn <| mv b0 rfl <| gv (r_neq (j := 0) (eh b0 rfl) rfl) <| nl <| R0 <| ce b0 rfl <| ws <| Q0 <| sk fun _ S0 => rn ?_
 have r0 := h0.t0 d0
 have D0 := ((B0.f0 r0).f1 c0 (by omega))
 refine gv (lb (cs := [nn tv, nn 1073741824, .slice T0 1 x0, nn 1, .slice T1 1 x1, nn 1, .slice T2 1 x2, nn 1, .slice T3 1 x3, nn 1, .bool false, nn 0, nn 0, nn 0] ++ (hc (List.replicate 32 0) ++ ([nn 0, nn 0, .slice none 0 0, .slice none 0 0]))) (eh b0 rfl) D0.bk qr_59 sz_59) <| gv (lb (cs := [nn v, nn 1073741824, .slice n0 1 s0, nn 1, .slice o0 1 u0, nn 1, .slice p0 1 v0, nn 1, .slice q0 1 w0, nn 1]) (eh b0 rfl) d1.bk qr_35 sz_35) <| gv (r_field (o' := 1) (eh b0 rfl) fo_43_1 (by rfl)) ?_
 have W0 := ((C0.f0 r0).f1 c0 (by omega))
 refine gv (lb (cs := [.slice AT 36 cT, .slice DT 1 dT]) (eh b0 rfl) W0.bk qr_41 sz_41) <| mw b0 J0 ?_
 have i1 := ((Z0.up d0).up c0)
 have j1 := ((a1.up d0).up c0)
 have k1 := ((b1.up d0).up c0)
 have l1 := ((c1.up d0).up c0)
 have m1 := Fr.ll (Fr.ll (Fr.ll (Fr.ll (Fr.l2 i0 g0) e0) h0) d0) c0
 have N0 := hET.le m1
 refine gk (k_cl (f33_n c0.ag i1 j1 k1 l1 N0 hne (by omega) (by omega) (by omega) (by omega)) rfl fn_33 (map_cons (eh b0 rfl) (map_cons (eh b0 rfl) (map_cons (eh b0 rfl) (map_cons (eh b0 rfl) map_nil)))) (fun V1 b2 h1 => ?_))
 obtain ⟨n1, rfl, l0⟩ := h1
 have O1 := l0.size
 refine mv b0 rfl <| gv (r_extract (v := .agg ([nn v2, nn e, nn v2] ++ (hc h)).toArray) (eh b0 rfl) (by kernel_rfl)) <| gv (r_extract (v := nn 4) (eh b0 rfl) (by kernel_rfl)) <| gk (k_alloc l0.ag qz_53 (fun c2 s1 I0 m0 C1 => ?_))
 have Q1 := m0.size
 have G1 := I0.lt
 refine gz (kt (L' := [nn v2, nn e, nn v2] ++ (hc h)) m0.ag (eh b0 rfl) (eh b0 rfl) I0 sz_53 (fun d2 v1 j0 => ?_))
 have R1 := j0.size
 refine ms b0 rfl <| nl <| S0 <| sk fun _ u1 => sk fun _ U0 => rn <| mv b0 rfl <| gv (r_neq (j := 0) (eh b0 rfl) rfl) <| nl <| U0 <| cd b0 rfl <| sk fun _ V0 => rn ?_
 have z0 := l0.t0 m0
 have X0 := ((D0.f0 z0).f1 j0 (by omega))
 refine gv (lb (cs := [nn tv, nn 1073741824, .slice T0 1 x0, nn 1, .slice T1 1 x1, nn 1, .slice T2 1 x2, nn 1, .slice T3 1 x3, nn 1, .bool false, nn 0, nn 0, nn 0] ++ (hc (List.replicate 32 0) ++ ([nn 0, nn 0, .slice none 0 0, .slice none 0 0]))) (eh b0 rfl) X0.bk qr_59 sz_59) <| mv b0 rfl ?_
 have Y0 := ((((F0.f0 r0).f1 c0 (by omega)).f0 z0).f1 j0 (by omega))
 refine gz (kt (L' := [nn tv, nn 1073741824, .slice T0 1 x0, nn 1, .slice T1 1 x1, nn 1, .slice T2 1 x2, nn 1, .slice T3 1 x3, nn 1, .bool false, nn 0, nn 0, nn 0] ++ (hc (List.replicate 32 0) ++ ([nn 0, nn 0, .slice none 0 0, .slice none 0 0]))) j0.ag (eh b0 rfl) (eh b0 rfl) Y0 sz_59 (fun g2 e1 A0 => ?_))
 have S1 := A0.size
 refine ms b0 rfl <| nl <| V0 <| wp_ret <| ret_of (res2ct (b := K0) (n := 50) (cs := [nn tv, nn 1073741824, .slice T0 1 x0, nn 1, .slice T1 1 x1, nn 1, .slice T2 1 x2, nn 1, .slice T3 1 x3, nn 1, .bool false, nn 0, nn 0, nn 0] ++ (hc (List.replicate 32 0) ++ ([nn 0, nn 0, .slice none 0 0, .slice none 0 0]))) (u := nn 4) rfl _ _ (gh b0 rfl) (gh b0 rfl) e1.bk (by kernel_rfl) (by kernel_rfl) qr_59 sz_59) ((ov_defers _ _).trans M0) ?_
 exact ⟨n1, rfl, ((((((((((cu0.t0 i0).t0 g0).t0 e0).t0 h0).t0 d0).tn c0 (by omega)).t0 l0).t0 m0).tn j0 (by omega)).tn A0 (by omega))⟩

end Go.Proofs.YtiggfalelcepbaaGreatDoor

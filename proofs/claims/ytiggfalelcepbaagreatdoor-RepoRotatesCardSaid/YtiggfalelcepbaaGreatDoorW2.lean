/- The walk of the reference compression of SHA-256. -/
import Derived.Test.YtiggfalelcepbaaGreatDoorK7
import Derived.Test.YtiggfalelcepbaaGreatDoorSX
import Derived.Test.YtiggfalelcepbaaGreatDoorW0
import Derived.Test.YtiggfalelcepbaaGreatDoorTX
namespace Go.Proofs.YtiggfalelcepbaaGreatDoor
open Go
set_option maxRecDepth 100000
set_option maxHeartbeats 4000000
theorem f91 {m : Ctx} {w : World} (ag : Ag m w) {bk n c : Nat} {A : Option Addr} {s : List UInt32} {p : Bytes} (hs8 : s.length = 8) (hmK : Mu m w bk 146 (us kT))
    (hsl : Sl m A n c 1 (bv p)) (hp : p.length = n) (h64 : 64 ≤ n) :
    Calls Tryz.prog 91 #[.agg (us s).toArray, .slice A n c, .pointer (some ⟨bk, 0, none⟩)] w (Ret fun v w' => ∃ m', v = .agg (us (compress s p)).toArray ∧ Fr no m w m' w') := by
 refine enter Tryz.func91 rfl (fun a1 hT d2 => ?_)
 have B0 : a1.tmps.size = 196 := by rw [hT]; kernel_rfl
 have u3 : a1.tmps.getD 0 undef = .agg (us s).toArray := by rw [hT]; kernel_rfl
 have v3 : a1.tmps.getD 1 undef = .slice A n c := by rw [hT]; kernel_rfl
 have w3 : a1.tmps.getD 2 undef = .pointer (some ⟨bk, 0, none⟩) := by rw [hT]; kernel_rfl
 clear hT
 have cu0 : Fr (no) m w m w := Fr.refl ag
 have lt_bk := hmK.lt
 refine sk fun _ e2 => rn <| gk (k_box (L := us s) ag (em B0 rfl rfl u3) (by kernel_rfl) (fun I4 p0 L1 V0 S3 => ?_))
 have p4 := V0.size
 have V3 := L1.lt
 refine gk (k_alloc V0.ag qz_144 (fun T4 U0 F1 L0 P3 => ?_))
 have X3 := L0.size
 have W3 := F1.lt
 refine nl <| e2 <| sk fun _ j2 => rn <| gk (k_alloc L0.ag qz_146 (fun x3 m0 H1 E0 R3 => ?_))
 have g4 := E0.size
 have U3 := H1.lt
 refine nl <| j2 <| sk fun _ t2 => sk fun _ v2 => rn <| gv (r_assign (v := nn 0) rfl) <| nl <| v2 <| bl <| wp_loop_s (σ := Nat) (I := fun (i : Nat) (a' : Act) (w' : World) => ∃ (m' : Ctx), a'.tmps.size = 196 ∧ a'.defers = [] ∧ i ≤ 16 ∧ a'.tmps.getD 1 undef = .slice A n c ∧ a'.tmps.getD 2 undef = .pointer (some ⟨bk, 0, none⟩) ∧ a'.tmps.getD 3 undef = .pointer (some ⟨p0, 0, none⟩) ∧ a'.tmps.getD 6 undef = .pointer (some ⟨U0, 0, none⟩) ∧ a'.tmps.getD 7 undef = .pointer (some ⟨m0, 0, none⟩) ∧ a'.tmps.getD 8 undef = nn i ∧ Fr (on m0) m x3 m' w' ∧ Mu m' w' m0 146 (us (wA p i))) (μ := fun i => 16 - i) (s₀ := 0) ?_ ?_
 · exact ⟨m, ((ov_size _ _).trans B0), ((ov_defers _ _).trans d2), (by omega), (gm B0 rfl rfl v3), (gm B0 rfl rfl w3), (gh B0 rfl), (gh B0 rfl), (gh B0 rfl), (gh B0 rfl), (Fr.refl E0.ag), H1⟩
 ·
  intro i B3 R0 hI
  obtain ⟨n0, d0, x1, N3, X0, X1, Y1, Z1, r1, I0, v0, K1⟩ := hI
  refine of_ov ?_
  have n4 := v0.size
  refine sk fun _ D2 => sk fun _ E2 => rn <| mw d0 I0 <| gv (r_lss (j := 16) (eh d0 rfl) rfl) <| nl <| E2 ?_
  by_cases E1 : i < 16
  ·
   refine ct (eb d0 rfl (decide_eq_true E1)) <| ws <| D2 <| sk fun _ F2 => bl ?_
   have H0 : Fr no n0 R0 n0 { R0 with drawn := R0.drawn + 1 } := Fr.drw v0.ag
   obtain ⟨T0, R1⟩ : ∃ w_, w_ = ({ R0 with drawn := R0.drawn + 1 } : World) := ⟨_, rfl⟩
   rw [← R1] at H0
   have o4 := H0.size
   refine wp_region_T mixed (fun wz => ∃ mz, Fr (no) n0 T0 mz wz) (fun wz => ∃ mz, Fr (on m0) n0 T0 mz wz) 35 ?_
   rw [← R1]
   show wpAnyT _ _ _ _ _ 36 _ _ _
   have e0 : Fr (no) n0 T0 n0 T0 := Fr.refl H0.ag
   have K3 : ∀ wz, (∃ mz, Fr (no) n0 T0 mz wz) → ∃ mz, Fr (on m0) n0 T0 mz wz := fun wz ⟨mz, hz⟩ => ⟨mz, hz.wk (fun x hx _ => hx.elim)⟩
   refine tk2 (i := 0) rfl rfl (fun _ _ => r_move (em d0 rfl rfl I0)) ⟨_, e0⟩ <| tk2 (i := 1) rfl rfl (fun _ _ => r_move (em d0 rfl rfl X0)) ⟨_, e0⟩ <| tk2 (i := 2) rfl rfl (fun _ _ => r_move (em d0 rfl rfl I0)) ⟨_, e0⟩ <| tk2 (i := 3) rfl rfl (fun _ _ => r_mul (i := 4) rfl (eh d0 rfl) (by omega)) ⟨_, e0⟩ ?_
   have n3 := Fr.ll (Fr.ll (Fr.ll (Fr.l2 V0 L0) E0) v0) H0
   have i3 := hsl.le n3
   obtain ⟨E3, h1, z3, rfl, e1, g1⟩ := i3.elem (by omega)
   refine tk2 (i := 4) rfl rfl (fun _ _ => r_idxS (o' := h1 + (4 * i)) (eh d0 rfl) (eh d0 rfl) qs_38 (by omega) (by omega)) ⟨_, e0⟩ <| tk2 (i := 5) rfl rfl (fun wz ⟨mz, hz⟩ => r_load1 (v := u8 ((p).getD (4 * i) 0)) (eh d0 rfl) (hz.ag _ _ (hz.le _ _ e1)) (at_sub g1 (bv_get (n := n) hp (by omega))) qr_5) ⟨_, e0⟩ <| tk2 (i := 6) rfl rfl (fun _ _ => r_cv_8_32 (c := (p).getD (4 * i) 0) (eh d0 rfl) qu_5 qu_143) ⟨_, e0⟩ <| tk2 (i := 7) rfl rfl (fun _ _ => r_shl32 (j := 24) (eh d0 rfl) rfl (by decide)) ⟨_, e0⟩ <| tk2 (i := 8) rfl rfl (fun _ _ => r_move (em d0 rfl rfl X0)) ⟨_, e0⟩ <| tk2 (i := 9) rfl rfl (fun _ _ => r_move (em d0 rfl rfl I0)) ⟨_, e0⟩ <| tk2 (i := 10) rfl rfl (fun _ _ => r_mul (i := 4) rfl (eh d0 rfl) (by omega)) ⟨_, e0⟩ <| tk2 (i := 11) rfl rfl (fun _ _ => r_add (j := 1) (eh d0 rfl) rfl (by omega)) ⟨_, e0⟩ <| tk2 (i := 12) rfl rfl (fun _ _ => r_idxS (o' := h1 + ((4 * i) + 1)) (eh d0 rfl) (eh d0 rfl) qs_38 (by omega) (by omega)) ⟨_, e0⟩ <| tk2 (i := 13) rfl rfl (fun wz ⟨mz, hz⟩ => r_load1 (v := u8 ((p).getD ((4 * i) + 1) 0)) (eh d0 rfl) (hz.ag _ _ (hz.le _ _ e1)) (at_sub g1 (bv_get (n := n) hp (by omega))) qr_5) ⟨_, e0⟩ <| tk2 (i := 14) rfl rfl (fun _ _ => r_cv_8_32 (c := (p).getD ((4 * i) + 1) 0) (eh d0 rfl) qu_5 qu_143) ⟨_, e0⟩ <| tk2 (i := 15) rfl rfl (fun _ _ => r_shl32 (j := 16) (eh d0 rfl) rfl (by decide)) ⟨_, e0⟩ <| tk2 (i := 16) rfl rfl (fun _ _ => r_or32 (eh d0 rfl) (eh d0 rfl)) ⟨_, e0⟩ <| tk2 (i := 17) rfl rfl (fun _ _ => r_move (em d0 rfl rfl X0)) ⟨_, e0⟩ ?_
   refine tk2 (i := 18) rfl rfl (fun _ _ => r_move (em d0 rfl rfl I0)) ⟨_, e0⟩ <| tk2 (i := 19) rfl rfl (fun _ _ => r_mul (i := 4) rfl (eh d0 rfl) (by omega)) ⟨_, e0⟩ <| tk2 (i := 20) rfl rfl (fun _ _ => r_add (j := 2) (eh d0 rfl) rfl (by omega)) ⟨_, e0⟩ <| tk2 (i := 21) rfl rfl (fun _ _ => r_idxS (o' := h1 + ((4 * i) + 2)) (eh d0 rfl) (eh d0 rfl) qs_38 (by omega) (by omega)) ⟨_, e0⟩ <| tk2 (i := 22) rfl rfl (fun wz ⟨mz, hz⟩ => r_load1 (v := u8 ((p).getD ((4 * i) + 2) 0)) (eh d0 rfl) (hz.ag _ _ (hz.le _ _ e1)) (at_sub g1 (bv_get (n := n) hp (by omega))) qr_5) ⟨_, e0⟩ <| tk2 (i := 23) rfl rfl (fun _ _ => r_cv_8_32 (c := (p).getD ((4 * i) + 2) 0) (eh d0 rfl) qu_5 qu_143) ⟨_, e0⟩ <| tk2 (i := 24) rfl rfl (fun _ _ => r_shl32 (j := 8) (eh d0 rfl) rfl (by decide)) ⟨_, e0⟩ <| tk2 (i := 25) rfl rfl (fun _ _ => r_or32 (eh d0 rfl) (eh d0 rfl)) ⟨_, e0⟩ <| tk2 (i := 26) rfl rfl (fun _ _ => r_move (em d0 rfl rfl X0)) ⟨_, e0⟩ <| tk2 (i := 27) rfl rfl (fun _ _ => r_move (em d0 rfl rfl I0)) ⟨_, e0⟩ <| tk2 (i := 28) rfl rfl (fun _ _ => r_mul (i := 4) rfl (eh d0 rfl) (by omega)) ⟨_, e0⟩ <| tk2 (i := 29) rfl rfl (fun _ _ => r_add (j := 3) (eh d0 rfl) rfl (by omega)) ⟨_, e0⟩ <| tk2 (i := 30) rfl rfl (fun _ _ => r_idxS (o' := h1 + ((4 * i) + 3)) (eh d0 rfl) (eh d0 rfl) qs_38 (by omega) (by omega)) ⟨_, e0⟩ <| tk2 (i := 31) rfl rfl (fun wz ⟨mz, hz⟩ => r_load1 (v := u8 ((p).getD ((4 * i) + 3) 0)) (eh d0 rfl) (hz.ag _ _ (hz.le _ _ e1)) (at_sub g1 (bv_get (n := n) hp (by omega))) qr_5) ⟨_, e0⟩ <| tk2 (i := 32) rfl rfl (fun _ _ => r_cv_8_32 (c := (p).getD ((4 * i) + 3) 0) (eh d0 rfl) qu_5 qu_143) ⟨_, e0⟩ ?_
   refine tk2 (i := 33) rfl rfl (fun _ _ => r_or32 (eh d0 rfl) (eh d0 rfl)) ⟨_, e0⟩ <| tk2 (i := 34) rfl rfl (fun _ _ => r_idxA (o' := i) (em d0 rfl rfl r1) (eh d0 rfl) qa_146 (by omega) (by omega)) ⟨_, e0⟩ ?_
   have s3 : Fr (on m0) _ _ _ _ := e0.wk (fun x hx _ => hx.elim)
   have P2 := (K1.f0 H0)
   have H3 : ((wA p i).set i (((((((p).getD (4 * i) 0).toUInt32) <<< UInt32.ofNat 24) ||| ((((p).getD ((4 * i) + 1) 0).toUInt32) <<< UInt32.ofNat 16)) ||| ((((p).getD ((4 * i) + 2) 0).toUInt32) <<< UInt32.ofNat 8)) ||| (((p).getD ((4 * i) + 3) 0).toUInt32)) : List UInt32).length = 64 := (len_set (wA_len _ _))
   refine an00 (i := 35) (b := true) rfl rfl (k_store1 (b := m0) (off := i) (v := u32 (((((((p).getD (4 * i) 0).toUInt32) <<< UInt32.ofNat 24) ||| ((((p).getD ((4 * i) + 1) 0).toUInt32) <<< UInt32.ofNat 16)) ||| ((((p).getD ((4 * i) + 2) 0).toUInt32) <<< UInt32.ofNat 8)) ||| (((p).getD ((4 * i) + 3) 0).toUInt32))) (L' := us ((wA p i).set i (((((((p).getD (4 * i) 0).toUInt32) <<< UInt32.ofNat 24) ||| ((((p).getD ((4 * i) + 1) 0).toUInt32) <<< UInt32.ofNat 16)) ||| ((((p).getD ((4 * i) + 2) 0).toUInt32) <<< UInt32.ofNat 8)) ||| (((p).getD ((4 * i) + 3) 0).toUInt32)))) H0.ag (eh d0 rfl) (eh d0 rfl) P2 sz_143 rfl (lt_us (n := 64) (wA_len _ _) (by omega)) us_set (fun S4 V2 n1 => ?_))
   have q4 := n1.size
   have t3 := s3.tr n1 (fun x hx => .inr (by cases hx; exact rfl))
   refine ⟨(tbT ⟨_, t3⟩), ?_⟩
   refine anyT_done (by kernel_rfl) ?_ _
   refine F2 <| rn <| mw d0 I0 <| gv (r_add (j := 1) (eh d0 rfl) rfl (by omega)) <| ms d0 rfl <| nl <| loop_back (s := i) ⟨i + 1, (show 16 - (i + 1) < 16 - (i) from (by omega)), ?_⟩
   exact ⟨n0, ((ov_size _ _).trans d0), ((ov_defers _ _).trans x1), (by omega), (gm d0 rfl rfl X0), (gm d0 rfl rfl X1), (gm d0 rfl rfl Y1), (gm d0 rfl rfl Z1), (gm d0 rfl rfl r1), (gh d0 rfl), ((v0.t0 H0).tr n1 (fun x hx => .inr (by cases hx; exact rfl))), V2⟩
  ·
   refine cf (eb d0 rfl (decide_eq_false E1)) <| we ?_
   have m3 : 16 = i := (by omega)
   subst m3
   refine t2 <| sk fun _ G2 => sk fun _ H2 => rn <| gv (r_assign (v := nn 16) rfl) <| nl <| H2 <| bl <| wp_loop_s (σ := Nat) (I := fun (j : Nat) (a' : Act) (w' : World) => ∃ (m' : Ctx), a'.tmps.size = 196 ∧ a'.defers = [] ∧ j ≤ 48 ∧ a'.tmps.getD 2 undef = .pointer (some ⟨bk, 0, none⟩) ∧ a'.tmps.getD 3 undef = .pointer (some ⟨p0, 0, none⟩) ∧ a'.tmps.getD 6 undef = .pointer (some ⟨U0, 0, none⟩) ∧ a'.tmps.getD 7 undef = .pointer (some ⟨m0, 0, none⟩) ∧ a'.tmps.getD 9 undef = nn (16 + j) ∧ Fr (on m0) n0 R0 m' w' ∧ Mu m' w' m0 146 (us (wB p j))) (μ := fun j => 48 - j) (s₀ := 0) ?_ ?_
   · exact ⟨n0, ((ov_size _ _).trans d0), ((ov_defers _ _).trans x1), (by omega), (gm d0 rfl rfl X1), (gm d0 rfl rfl Y1), (gm d0 rfl rfl Z1), (gm d0 rfl rfl r1), (gh d0 rfl), (Fr.refl v0.ag), K1⟩
   ·
    intro j D3 Z0 hI
    obtain ⟨o0, c0, y1, O3, a2, s1, b2, J0, K0, A0, d1⟩ := hI
    refine of_ov ?_
    have r4 := A0.size
    refine sk fun _ I2 => sk fun _ J2 => rn <| mw c0 K0 <| gv (r_lss (j := 64) (eh c0 rfl) rfl) <| nl <| J2 ?_
    by_cases B1 : 16 + j < 64
    ·
     refine ct (eb c0 rfl (decide_eq_true B1)) <| ws <| I2 <| sk fun _ g2 => bl <| sk fun _ h2 => rn <| mw c0 K0 <| gv (r_sub (j := 15) (eh c0 rfl) rfl (by omega) (by omega)) <| gv (r_idxA (o' := (16 + j) - 15) (em c0 rfl rfl J0) (eh c0 rfl) qa_146 (by omega) (by omega)) <| gv (r_load1 (v := u32 ((wB p j).getD ((16 + j) - 15) 0)) (eh c0 rfl) d1.bk (us_get (n := 64) (wB_len _ _) (by omega)) qr_143) <| ms c0 rfl <| nl <| h2 <| sk fun _ i2 => rn <| mw c0 K0 <| gv (r_sub (j := 2) (eh c0 rfl) rfl (by omega) (by omega)) <| gv (r_idxA (o' := (16 + j) - 2) (em c0 rfl rfl J0) (eh c0 rfl) qa_146 (by omega) (by omega)) <| gv (r_load1 (v := u32 ((wB p j).getD ((16 + j) - 2) 0)) (eh c0 rfl) d1.bk (us_get (n := 64) (wB_len _ _) (by omega)) qr_143) <| ms c0 rfl <| nl <| i2 ?_
     have M0 : Fr no o0 Z0 o0 { Z0 with drawn := Z0.drawn + 1 } := Fr.drw A0.ag
     obtain ⟨P0, M1⟩ : ∃ w_, w_ = ({ Z0 with drawn := Z0.drawn + 1 } : World) := ⟨_, rfl⟩
     rw [← M1] at M0
     have Y3 := M0.size
     refine wp_region_T mixed (fun wz => ∃ mz, Fr (no) o0 P0 mz wz) (fun wz => ∃ mz, Fr (on m0) o0 P0 mz wz) 29 ?_
     rw [← M1]
     show wpAnyT _ _ _ _ _ 30 _ _ _
     have i0 : Fr (no) o0 P0 o0 P0 := Fr.refl M0.ag
     have I3 : ∀ wz, (∃ mz, Fr (no) o0 P0 mz wz) → ∃ mz, Fr (on m0) o0 P0 mz wz := fun wz ⟨mz, hz⟩ => ⟨mz, hz.wk (fun x hx _ => hx.elim)⟩
     refine tk2 (i := 0) rfl rfl (fun _ _ => r_move (em c0 rfl rfl K0)) ⟨_, i0⟩ <| tk2 (i := 1) rfl rfl (fun _ _ => r_move (em c0 rfl rfl K0)) ⟨_, i0⟩ <| tk2 (i := 2) rfl rfl (fun _ _ => r_sub (j := 16) (eh c0 rfl) rfl (by omega) (by omega)) ⟨_, i0⟩ <| tk2 (i := 3) rfl rfl (fun _ _ => r_idxA (o' := (16 + j) - 16) (em c0 rfl rfl J0) (eh c0 rfl) qa_146 (by omega) (by omega)) ⟨_, i0⟩ ?_
     have o1 := (d1.f0 M0)
     refine tk2 (i := 4) rfl rfl (fun wz ⟨mz, hz⟩ => r_load1 (v := u32 ((wB p j).getD ((16 + j) - 16) 0)) (eh c0 rfl) (hz.ex o1.bk (fun h => h)) (us_get (n := 64) (wB_len _ _) (by omega)) qr_143) ⟨_, i0⟩ <| tk2 (i := 5) rfl rfl (fun _ _ => r_move (eh c0 rfl)) ⟨_, i0⟩ <| tk2 (i := 7) rfl rfl (fun _ _ => r_move (eh c0 rfl)) ⟨_, i0⟩ <| tk2 (i := 10) rfl rfl (fun _ _ => r_move (eh c0 rfl)) ⟨_, i0⟩ <| tk2 (i := 11) rfl rfl (fun _ _ => r_shr32 (j := 3) (eh c0 rfl) rfl (by decide)) ⟨_, i0⟩ <| tk2 (i := 14) rfl rfl (fun _ _ => r_move (em c0 rfl rfl K0)) ⟨_, i0⟩ <| tk2 (i := 15) rfl rfl (fun _ _ => r_sub (j := 7) (eh c0 rfl) rfl (by omega) (by omega)) ⟨_, i0⟩ <| tk2 (i := 16) rfl rfl (fun _ _ => r_idxA (o' := (16 + j) - 7) (em c0 rfl rfl J0) (eh c0 rfl) qa_146 (by omega) (by omega)) ⟨_, i0⟩ <| tk2 (i := 17) rfl rfl (fun wz ⟨mz, hz⟩ => r_load1 (v := u32 ((wB p j).getD ((16 + j) - 7) 0)) (eh c0 rfl) (hz.ex o1.bk (fun h => h)) (us_get (n := 64) (wB_len _ _) (by omega)) qr_143) ⟨_, i0⟩ <| tk2 (i := 19) rfl rfl (fun _ _ => r_move (eh c0 rfl)) ⟨_, i0⟩ <| tk2 (i := 21) rfl rfl (fun _ _ => r_move (eh c0 rfl)) ⟨_, i0⟩ <| tk2 (i := 24) rfl rfl (fun _ _ => r_move (eh c0 rfl)) ⟨_, i0⟩ <| tk2 (i := 25) rfl rfl (fun _ _ => r_shr32 (j := 10) (eh c0 rfl) rfl (by decide)) ⟨_, i0⟩ <| ann (i := 6) (b := false) rfl rfl (k_cl (f136 (x := (wB p j).getD ((16 + j) - 15) 0) (n := 7) (by decide) (by decide)) rfl fn_136 (map_cons (eh c0 rfl) (map_cons (v := nu 7) rfl map_nil)) (fun s4 C4 W2 => ?_))
     obtain ⟨rfl, rfl⟩ := W2
     refine ⟨(tbF ⟨_, i0⟩), ?_⟩
     refine ann (i := 8) (b := false) rfl rfl (k_cl (f136 (x := (wB p j).getD ((16 + j) - 15) 0) (n := 18) (by decide) (by decide)) rfl fn_136 (map_cons (eh c0 rfl) (map_cons (v := nu 18) rfl map_nil)) (fun t4 D4 X2 => ?_))
     obtain ⟨rfl, rfl⟩ := X2
     refine ⟨(tbF ⟨_, i0⟩), ?_⟩
     refine tk2 (i := 9) rfl rfl (fun _ _ => r_xor32 (eh c0 rfl) (eh c0 rfl)) ⟨_, i0⟩ <| tk2 (i := 12) rfl rfl (fun _ _ => r_xor32 (eh c0 rfl) (eh c0 rfl)) ⟨_, i0⟩ <| tk2 (i := 13) rfl rfl (fun _ _ => r_add32 (eh c0 rfl) (eh c0 rfl)) ⟨_, i0⟩ <| tk2 (i := 18) rfl rfl (fun _ _ => r_add32 (eh c0 rfl) (eh c0 rfl)) ⟨_, i0⟩ <| ann (i := 20) (b := false) rfl rfl (k_cl (f136 (x := (wB p j).getD ((16 + j) - 2) 0) (n := 17) (by decide) (by decide)) rfl fn_136 (map_cons (eh c0 rfl) (map_cons (v := nu 17) rfl map_nil)) (fun u4 E4 Y2 => ?_))
     obtain ⟨rfl, rfl⟩ := Y2
     refine ⟨(tbF ⟨_, i0⟩), ?_⟩
     refine ann (i := 22) (b := false) rfl rfl (k_cl (f136 (x := (wB p j).getD ((16 + j) - 2) 0) (n := 19) (by decide) (by decide)) rfl fn_136 (map_cons (eh c0 rfl) (map_cons (v := nu 19) rfl map_nil)) (fun v4 F4 Z2 => ?_))
     obtain ⟨rfl, rfl⟩ := Z2
     refine ⟨(tbF ⟨_, i0⟩), ?_⟩
     refine tk2 (i := 23) rfl rfl (fun _ _ => r_xor32 (eh c0 rfl) (eh c0 rfl)) ⟨_, i0⟩ <| tk2 (i := 26) rfl rfl (fun _ _ => r_xor32 (eh c0 rfl) (eh c0 rfl)) ⟨_, i0⟩ <| tk2 (i := 27) rfl rfl (fun _ _ => r_add32 (eh c0 rfl) (eh c0 rfl)) ⟨_, i0⟩ <| tk2 (i := 28) rfl rfl (fun _ _ => r_idxA (o' := 16 + j) (em c0 rfl rfl J0) (eh c0 rfl) qa_146 (by omega) (by omega)) ⟨_, i0⟩ ?_
     have o3 : Fr (on m0) _ _ _ _ := i0.wk (fun x hx _ => hx.elim)
     have F3 : ((wB p j).set (16 + j) (((((wB p j).getD ((16 + j) - 16) 0) + (((rotr ((wB p j).getD ((16 + j) - 15) 0) 7) ^^^ (rotr ((wB p j).getD ((16 + j) - 15) 0) 18)) ^^^ (((wB p j).getD ((16 + j) - 15) 0) >>> UInt32.ofNat 3))) + ((wB p j).getD ((16 + j) - 7) 0)) + (((rotr ((wB p j).getD ((16 + j) - 2) 0) 17) ^^^ (rotr ((wB p j).getD ((16 + j) - 2) 0) 19)) ^^^ (((wB p j).getD ((16 + j) - 2) 0) >>> UInt32.ofNat 10))) : List UInt32).length = 64 := (len_set (wB_len _ _))
     refine an00 (i := 29) (b := true) rfl rfl (k_store1 (b := m0) (off := (16 + j)) (v := u32 (((((wB p j).getD ((16 + j) - 16) 0) + (((rotr ((wB p j).getD ((16 + j) - 15) 0) 7) ^^^ (rotr ((wB p j).getD ((16 + j) - 15) 0) 18)) ^^^ (((wB p j).getD ((16 + j) - 15) 0) >>> UInt32.ofNat 3))) + ((wB p j).getD ((16 + j) - 7) 0)) + (((rotr ((wB p j).getD ((16 + j) - 2) 0) 17) ^^^ (rotr ((wB p j).getD ((16 + j) - 2) 0) 19)) ^^^ (((wB p j).getD ((16 + j) - 2) 0) >>> UInt32.ofNat 10)))) (L' := us ((wB p j).set (16 + j) (((((wB p j).getD ((16 + j) - 16) 0) + (((rotr ((wB p j).getD ((16 + j) - 15) 0) 7) ^^^ (rotr ((wB p j).getD ((16 + j) - 15) 0) 18)) ^^^ (((wB p j).getD ((16 + j) - 15) 0) >>> UInt32.ofNat 3))) + ((wB p j).getD ((16 + j) - 7) 0)) + (((rotr ((wB p j).getD ((16 + j) - 2) 0) 17) ^^^ (rotr ((wB p j).getD ((16 + j) - 2) 0) 19)) ^^^ (((wB p j).getD ((16 + j) - 2) 0) >>> UInt32.ofNat 10))))) M0.ag (eh c0 rfl) (eh c0 rfl) o1 sz_143 rfl (lt_us (n := 64) (wB_len _ _) (by omega)) us_set (fun G4 Q2 l1 => ?_))
     have Z3 := l1.size
     have p3 := o3.tr l1 (fun x hx => .inr (by cases hx; exact rfl))
     refine ⟨(tbT ⟨_, p3⟩), ?_⟩
     refine anyT_done (by kernel_rfl) ?_ _
     refine g2 <| rn <| mw c0 K0 <| gv (r_add (j := 1) (eh c0 rfl) rfl (by omega)) <| ms c0 rfl <| nl <| loop_back (s := j) ⟨j + 1, (show 48 - (j + 1) < 48 - (j) from (by omega)), ?_⟩
     exact ⟨o0, ((ov_size _ _).trans c0), ((ov_defers _ _).trans y1), (by omega), (gm c0 rfl rfl a2), (gm c0 rfl rfl s1), (gm c0 rfl rfl b2), (gm c0 rfl rfl J0), (gh c0 rfl), ((A0.t0 M0).tr l1 (fun x hx => .inr (by cases hx; exact rfl))), Q2⟩
    ·
     refine cf (eb c0 rfl (decide_eq_false B1)) <| we ?_
     have j3 : 48 = j := (by omega)
     subst j3
     refine G2 <| sk fun _ k2 => rn ?_
     have c2 := L0.t0 E0
     have z1 := (((L1.f0 c2).f1 v0 (by omega)).f1 A0 (by omega))
     refine gv (r_loadN (cs := us s) (em c0 rfl rfl s1) z1.bk (rd_all (Eq.trans (us_length _) hs8)) (Eq.trans (us_length _) hs8) qr_144 sz_144) <| gk (k_alloc A0.ag qz_144 (fun H4 b1 G1 C0 Q3 => ?_))
     have a4 := C0.size
     have T3 := G1.lt
     refine gz (k_store (L' := us s) (cs := us s) C0.ag (eh c0 rfl) (eh c0 rfl) G1 (by kernel_rfl) (sz_eq sz_144 (Eq.trans (us_length _) hs8)) (one_us _) (le_all (Eq.trans (us_length _) List.length_replicate) (Eq.trans (us_length _) hs8)) (wr_all (Eq.trans (Eq.trans (us_length _) List.length_replicate) (Eq.symm (Eq.trans (us_length _) hs8)))) (fun y3 R2 D0 => ?_))
     have b4 := D0.size
     refine nl <| k2 <| sk fun _ m2 => sk fun _ n2 => rn <| gv (r_assign (v := nn 0) rfl) <| nl <| n2 <| bl <| wp_loop_s (σ := Nat) (I := fun (i : Nat) (a' : Act) (w' : World) => ∃ (m' : Ctx), a'.tmps.size = 196 ∧ a'.defers = [] ∧ i ≤ 64 ∧ a'.tmps.getD 2 undef = .pointer (some ⟨bk, 0, none⟩) ∧ a'.tmps.getD 3 undef = .pointer (some ⟨p0, 0, none⟩) ∧ a'.tmps.getD 6 undef = .pointer (some ⟨U0, 0, none⟩) ∧ a'.tmps.getD 7 undef = .pointer (some ⟨m0, 0, none⟩) ∧ a'.tmps.getD 12 undef = .pointer (some ⟨b1, 0, none⟩) ∧ a'.tmps.getD 13 undef = nn i ∧ Fr (on b1) o0 y3 m' w' ∧ Mu m' w' b1 144 (us (vC s (wB p 48) i))) (μ := fun i => 64 - i) (s₀ := 0) ?_ ?_
     · exact ⟨o0, ((ov_size _ _).trans c0), ((ov_defers _ _).trans y1), (by omega), (gm c0 rfl rfl a2), (gm c0 rfl rfl s1), (gm c0 rfl rfl b2), (gm c0 rfl rfl J0), (gh c0 rfl), (gh c0 rfl), (Fr.refl D0.ag), R2⟩
     ·
      intro i A3 Q0 hI
      obtain ⟨k0, b0, v1, L3, S1, T1, U1, V1, l0, i1, u0, I1⟩ := hI
      refine of_ov ?_
      have c4 := u0.size
      refine sk fun _ o2 => sk fun _ p2 => rn <| mw b0 i1 <| gv (r_lss (j := 64) (eh b0 rfl) rfl) <| nl <| p2 ?_
      by_cases C1 : i < 64
      ·
       refine ct (eb b0 rfl (decide_eq_true C1)) <| ws <| o2 <| sk fun _ q2 => bl <| sk fun _ r2 => ?_
       have y0 : Fr no k0 Q0 k0 { Q0 with drawn := Q0.drawn + 1 } := Fr.drw u0.ag
       obtain ⟨w0, N1⟩ : ∃ w_, w_ = ({ Q0 with drawn := Q0.drawn + 1 } : World) := ⟨_, rfl⟩
       rw [← N1] at y0
       have d4 := y0.size
       refine wp_region_T mixed (fun wz => ∃ mz, Fr (no) k0 w0 mz wz) (fun wz => ∃ mz, Fr (no) k0 w0 mz wz) 6 ?_
       rw [← N1]
       show wpAnyT _ _ _ _ _ 6 _ _ _
       have O0 : Fr (no) k0 w0 k0 w0 := Fr.refl y0.ag
       refine tkk (i := 0) rfl rfl (fun _ _ => r_idxA (i := 0) (o' := 0) (em b0 rfl rfl l0) rfl qa_144 (by decide) (by rfl)) ⟨_, O0⟩ ?_
       have p1 := (I1.f0 y0)
       refine tkk (i := 1) rfl rfl (fun wz ⟨mz, hz⟩ => r_load1 (v := u32 ((vC s (wB p 48) i).getD 0 0)) (eh b0 rfl) (hz.ex p1.bk (fun h => h)) (us_get (n := 8) (vC_len hs8 _ _) (by decide)) qr_143) ⟨_, O0⟩ <| tkk (i := 2) rfl rfl (fun _ _ => r_idxA (i := 4) (o' := 4) (em b0 rfl rfl l0) rfl qa_144 (by decide) (by rfl)) ⟨_, O0⟩ <| tkk (i := 3) rfl rfl (fun wz ⟨mz, hz⟩ => r_load1 (v := u32 ((vC s (wB p 48) i).getD 4 0)) (eh b0 rfl) (hz.ex p1.bk (fun h => h)) (us_get (n := 8) (vC_len hs8 _ _) (by decide)) qr_143) ⟨_, O0⟩ <| tkk (i := 4) rfl rfl (fun _ _ => r_assign (eh b0 rfl)) ⟨_, O0⟩ <| tkk (i := 5) rfl rfl (fun _ _ => r_assign (eh b0 rfl)) ⟨_, O0⟩ <| anyT_done (by kernel_rfl) ?_ _
       refine r2 <| sk fun _ s2 => ?_
       have z0 : Fr no k0 w0 k0 { w0 with drawn := w0.drawn + 1 } := Fr.drw y0.ag
       obtain ⟨x0, O1⟩ : ∃ w_, w_ = ({ w0 with drawn := w0.drawn + 1 } : World) := ⟨_, rfl⟩
       rw [← O1] at z0
       have e4 := z0.size
       refine wp_region_T mixed (fun wz => ∃ mz, Fr (no) k0 x0 mz wz) (fun wz => ∃ mz, Fr (no) k0 x0 mz wz) 33 ?_
       rw [← O1]
       show wpAnyT _ _ _ _ _ 33 _ _ _
       have g0 : Fr (no) k0 x0 k0 x0 := Fr.refl z0.ag
       refine tkk (i := 0) rfl rfl (fun _ _ => r_idxA (i := 7) (o' := 7) (em b0 rfl rfl l0) rfl qa_144 (by decide) (by rfl)) ⟨_, g0⟩ ?_
       have c1 := (p1.f0 z0)
       refine tkk (i := 1) rfl rfl (fun wz ⟨mz, hz⟩ => r_load1 (v := u32 ((vC s (wB p 48) i).getD 7 0)) (eh b0 rfl) (hz.ex c1.bk (fun h => h)) (us_get (n := 8) (vC_len hs8 _ _) (by decide)) qr_143) ⟨_, g0⟩ <| tkk (i := 2) rfl rfl (fun _ _ => r_move (eh b0 rfl)) ⟨_, g0⟩ <| tkk (i := 4) rfl rfl (fun _ _ => r_move (eh b0 rfl)) ⟨_, g0⟩ <| tkk (i := 7) rfl rfl (fun _ _ => r_move (eh b0 rfl)) ⟨_, g0⟩ <| tkk (i := 11) rfl rfl (fun _ _ => r_move (eh b0 rfl)) ⟨_, g0⟩ <| tkk (i := 12) rfl rfl (fun _ _ => r_idxA (i := 5) (o' := 5) (em b0 rfl rfl l0) rfl qa_144 (by decide) (by rfl)) ⟨_, g0⟩ <| tkk (i := 13) rfl rfl (fun wz ⟨mz, hz⟩ => r_load1 (v := u32 ((vC s (wB p 48) i).getD 5 0)) (eh b0 rfl) (hz.ex c1.bk (fun h => h)) (us_get (n := 8) (vC_len hs8 _ _) (by decide)) qr_143) ⟨_, g0⟩ <| tkk (i := 14) rfl rfl (fun _ _ => r_and32 (eh b0 rfl) (eh b0 rfl)) ⟨_, g0⟩ <| tkk (i := 15) rfl rfl (fun _ _ => r_move (eh b0 rfl)) ⟨_, g0⟩ <| tkk (i := 16) rfl rfl (fun _ _ => r_com32 (p := (vC s (wB p 48) i).getD 4 0) (eh b0 rfl)) ⟨_, g0⟩ <| tkk (i := 17) rfl rfl (fun _ _ => r_idxA (i := 6) (o' := 6) (em b0 rfl rfl l0) rfl qa_144 (by decide) (by rfl)) ⟨_, g0⟩ <| tkk (i := 18) rfl rfl (fun wz ⟨mz, hz⟩ => r_load1 (v := u32 ((vC s (wB p 48) i).getD 6 0)) (eh b0 rfl) (hz.ex c1.bk (fun h => h)) (us_get (n := 8) (vC_len hs8 _ _) (by decide)) qr_143) ⟨_, g0⟩ <| tkk (i := 19) rfl rfl (fun _ _ => r_and32 (eh b0 rfl) (eh b0 rfl)) ⟨_, g0⟩ <| tkk (i := 20) rfl rfl (fun _ _ => r_xor32 (eh b0 rfl) (eh b0 rfl)) ⟨_, g0⟩ ?_
       refine tkk (i := 22) rfl rfl (fun _ _ => r_move (em b0 rfl rfl S1)) ⟨_, g0⟩ <| tkk (i := 23) rfl rfl (fun _ _ => r_move (em b0 rfl rfl i1)) ⟨_, g0⟩ <| tkk (i := 24) rfl rfl (fun _ _ => r_nilCheck (eh b0 rfl)) ⟨_, g0⟩ <| tkk (i := 25) rfl rfl (fun _ _ => r_idxA (o' := i) (eh b0 rfl) (eh b0 rfl) qa_146 (by omega) (by omega)) ⟨_, g0⟩ ?_
       have K2 := ((((((((((hmK.f0 V0).f0 L0).f0 E0).f1 v0 (by omega)).f1 A0 (by omega)).f0 C0).f1 D0 (by omega)).f1 u0 (by omega)).f0 y0).f0 z0)
       refine tkk (i := 26) rfl rfl (fun wz ⟨mz, hz⟩ => r_load1 (v := u32 ((kT).getD i 0)) (eh b0 rfl) (hz.ex K2.bk (fun h => h)) (us_get (n := 64) kT_len (by omega)) qr_143) ⟨_, g0⟩ <| tkk (i := 28) rfl rfl (fun _ _ => r_move (em b0 rfl rfl i1)) ⟨_, g0⟩ <| tkk (i := 29) rfl rfl (fun _ _ => r_idxA (o' := i) (em b0 rfl rfl V1) (eh b0 rfl) qa_146 (by omega) (by omega)) ⟨_, g0⟩ ?_
       have L2 := (((((d1.f0 C0).f1 D0 (by omega)).f1 u0 (by omega)).f0 y0).f0 z0)
       refine tkk (i := 30) rfl rfl (fun wz ⟨mz, hz⟩ => r_load1 (v := u32 ((wB p 48).getD i 0)) (eh b0 rfl) (hz.ex L2.bk (fun h => h)) (us_get (n := 64) (wB_len _ _) (by omega)) qr_143) ⟨_, g0⟩ <| ann (i := 3) (b := true) rfl rfl (k_cl (f136 (x := (vC s (wB p 48) i).getD 4 0) (n := 6) (by decide) (by decide)) rfl fn_136 (map_cons (eh b0 rfl) (map_cons (v := nu 6) rfl map_nil)) (fun w4 J4 a3 => ?_))
       obtain ⟨rfl, rfl⟩ := a3
       refine ⟨(tbT ⟨_, g0⟩), ?_⟩
       refine ann (i := 5) (b := true) rfl rfl (k_cl (f136 (x := (vC s (wB p 48) i).getD 4 0) (n := 11) (by decide) (by decide)) rfl fn_136 (map_cons (eh b0 rfl) (map_cons (v := nu 11) rfl map_nil)) (fun x4 K4 c3 => ?_))
       obtain ⟨rfl, rfl⟩ := c3
       refine ⟨(tbT ⟨_, g0⟩), ?_⟩
       refine tkk (i := 6) rfl rfl (fun _ _ => r_xor32 (eh b0 rfl) (eh b0 rfl)) ⟨_, g0⟩ <| ann (i := 8) (b := true) rfl rfl (k_cl (f136 (x := (vC s (wB p 48) i).getD 4 0) (n := 25) (by decide) (by decide)) rfl fn_136 (map_cons (eh b0 rfl) (map_cons (v := nu 25) rfl map_nil)) (fun y4 L4 d3 => ?_))
       obtain ⟨rfl, rfl⟩ := d3
       refine ⟨(tbT ⟨_, g0⟩), ?_⟩
       refine tkk (i := 9) rfl rfl (fun _ _ => r_xor32 (eh b0 rfl) (eh b0 rfl)) ⟨_, g0⟩ <| tkk (i := 10) rfl rfl (fun _ _ => r_add32 (eh b0 rfl) (eh b0 rfl)) ⟨_, g0⟩ <| tkk (i := 21) rfl rfl (fun _ _ => r_add32 (eh b0 rfl) (eh b0 rfl)) ⟨_, g0⟩ <| tkk (i := 27) rfl rfl (fun _ _ => r_add32 (eh b0 rfl) (eh b0 rfl)) ⟨_, g0⟩ <| tkk (i := 31) rfl rfl (fun _ _ => r_add32 (eh b0 rfl) (eh b0 rfl)) ⟨_, g0⟩ <| tkk (i := 32) rfl rfl (fun _ _ => r_assign (eh b0 rfl)) ⟨_, g0⟩ <| anyT_done (by kernel_rfl) ?_ _
       refine s2 <| sk fun _ u2 => ?_
       have N0 : Fr no k0 x0 k0 { x0 with drawn := x0.drawn + 1 } := Fr.drw z0.ag
       obtain ⟨k1, P1⟩ : ∃ w_, w_ = ({ x0 with drawn := x0.drawn + 1 } : World) := ⟨_, rfl⟩
       rw [← P1] at N0
       have h4 := N0.size
       refine wp_region_T mixed (fun wz => ∃ mz, Fr (no) k0 k1 mz wz) (fun wz => ∃ mz, Fr (no) k0 k1 mz wz) 25 ?_
       rw [← P1]
       show wpAnyT _ _ _ _ _ 25 _ _ _
       have j0 : Fr (no) k0 k1 k0 k1 := Fr.refl N0.ag
       refine tkk (i := 0) rfl rfl (fun _ _ => r_move (eh b0 rfl)) ⟨_, j0⟩ <| tkk (i := 2) rfl rfl (fun _ _ => r_move (eh b0 rfl)) ⟨_, j0⟩ <| tkk (i := 5) rfl rfl (fun _ _ => r_move (eh b0 rfl)) ⟨_, j0⟩ <| tkk (i := 8) rfl rfl (fun _ _ => r_move (eh b0 rfl)) ⟨_, j0⟩ <| tkk (i := 9) rfl rfl (fun _ _ => r_idxA (i := 1) (o' := 1) (em b0 rfl rfl l0) rfl qa_144 (by decide) (by rfl)) ⟨_, j0⟩ ?_
       have q0 := (c1.f0 N0)
       refine tkk (i := 10) rfl rfl (fun wz ⟨mz, hz⟩ => r_load1 (v := u32 ((vC s (wB p 48) i).getD 1 0)) (eh b0 rfl) (hz.ex q0.bk (fun h => h)) (us_get (n := 8) (vC_len hs8 _ _) (by decide)) qr_143) ⟨_, j0⟩ <| tkk (i := 11) rfl rfl (fun _ _ => r_and32 (eh b0 rfl) (eh b0 rfl)) ⟨_, j0⟩ <| tkk (i := 12) rfl rfl (fun _ _ => r_move (eh b0 rfl)) ⟨_, j0⟩ <| tkk (i := 13) rfl rfl (fun _ _ => r_idxA (i := 2) (o' := 2) (em b0 rfl rfl l0) rfl qa_144 (by decide) (by rfl)) ⟨_, j0⟩ <| tkk (i := 14) rfl rfl (fun wz ⟨mz, hz⟩ => r_load1 (v := u32 ((vC s (wB p 48) i).getD 2 0)) (eh b0 rfl) (hz.ex q0.bk (fun h => h)) (us_get (n := 8) (vC_len hs8 _ _) (by decide)) qr_143) ⟨_, j0⟩ <| tkk (i := 15) rfl rfl (fun _ _ => r_and32 (eh b0 rfl) (eh b0 rfl)) ⟨_, j0⟩ <| tkk (i := 16) rfl rfl (fun _ _ => r_xor32 (eh b0 rfl) (eh b0 rfl)) ⟨_, j0⟩ <| tkk (i := 17) rfl rfl (fun _ _ => r_idxA (i := 1) (o' := 1) (em b0 rfl rfl l0) rfl qa_144 (by decide) (by rfl)) ⟨_, j0⟩ <| tkk (i := 18) rfl rfl (fun wz ⟨mz, hz⟩ => r_load1 (v := u32 ((vC s (wB p 48) i).getD 1 0)) (eh b0 rfl) (hz.ex q0.bk (fun h => h)) (us_get (n := 8) (vC_len hs8 _ _) (by decide)) qr_143) ⟨_, j0⟩ <| tkk (i := 19) rfl rfl (fun _ _ => r_idxA (i := 2) (o' := 2) (em b0 rfl rfl l0) rfl qa_144 (by decide) (by rfl)) ⟨_, j0⟩ <| tkk (i := 20) rfl rfl (fun wz ⟨mz, hz⟩ => r_load1 (v := u32 ((vC s (wB p 48) i).getD 2 0)) (eh b0 rfl) (hz.ex q0.bk (fun h => h)) (us_get (n := 8) (vC_len hs8 _ _) (by decide)) qr_143) ⟨_, j0⟩ <| tkk (i := 21) rfl rfl (fun _ _ => r_and32 (eh b0 rfl) (eh b0 rfl)) ⟨_, j0⟩ ?_
       refine tkk (i := 22) rfl rfl (fun _ _ => r_xor32 (eh b0 rfl) (eh b0 rfl)) ⟨_, j0⟩ <| ann (i := 1) (b := true) rfl rfl (k_cl (f136 (x := (vC s (wB p 48) i).getD 0 0) (n := 2) (by decide) (by decide)) rfl fn_136 (map_cons (eh b0 rfl) (map_cons (v := nu 2) rfl map_nil)) (fun z4 M4 e3 => ?_))
       obtain ⟨rfl, rfl⟩ := e3
       refine ⟨(tbT ⟨_, j0⟩), ?_⟩
       refine ann (i := 3) (b := true) rfl rfl (k_cl (f136 (x := (vC s (wB p 48) i).getD 0 0) (n := 13) (by decide) (by decide)) rfl fn_136 (map_cons (eh b0 rfl) (map_cons (v := nu 13) rfl map_nil)) (fun A4 N4 g3 => ?_))
       obtain ⟨rfl, rfl⟩ := g3
       refine ⟨(tbT ⟨_, j0⟩), ?_⟩
       refine tkk (i := 4) rfl rfl (fun _ _ => r_xor32 (eh b0 rfl) (eh b0 rfl)) ⟨_, j0⟩ <| ann (i := 6) (b := true) rfl rfl (k_cl (f136 (x := (vC s (wB p 48) i).getD 0 0) (n := 22) (by decide) (by decide)) rfl fn_136 (map_cons (eh b0 rfl) (map_cons (v := nu 22) rfl map_nil)) (fun B4 O4 h3 => ?_))
       obtain ⟨rfl, rfl⟩ := h3
       refine ⟨(tbT ⟨_, j0⟩), ?_⟩
       refine tkk (i := 7) rfl rfl (fun _ _ => r_xor32 (eh b0 rfl) (eh b0 rfl)) ⟨_, j0⟩ <| tkk (i := 23) rfl rfl (fun _ _ => r_add32 (eh b0 rfl) (eh b0 rfl)) ⟨_, j0⟩ <| tkk (i := 24) rfl rfl (fun _ _ => r_assign (eh b0 rfl)) ⟨_, j0⟩ <| anyT_done (by kernel_rfl) ?_ _
       refine u2 <| rn <| mv b0 rfl <| mv b0 rfl <| gv (r_add32 (eh b0 rfl) (eh b0 rfl)) <| mv b0 rfl <| gv (r_idxA (i := 1) (o' := 1) (em b0 rfl rfl l0) rfl qa_144 (by decide) (by rfl)) <| gv (r_load1 (v := u32 ((vC s (wB p 48) i).getD 1 0)) (eh b0 rfl) q0.bk (us_get (n := 8) (vC_len hs8 _ _) (by decide)) qr_143) <| gv (r_idxA (i := 2) (o' := 2) (em b0 rfl rfl l0) rfl qa_144 (by decide) (by rfl)) <| gv (r_load1 (v := u32 ((vC s (wB p 48) i).getD 2 0)) (eh b0 rfl) q0.bk (us_get (n := 8) (vC_len hs8 _ _) (by decide)) qr_143) <| gv (r_idxA (i := 3) (o' := 3) (em b0 rfl rfl l0) rfl qa_144 (by decide) (by rfl)) <| gv (r_load1 (v := u32 ((vC s (wB p 48) i).getD 3 0)) (eh b0 rfl) q0.bk (us_get (n := 8) (vC_len hs8 _ _) (by decide)) qr_143) <| mv b0 rfl <| gv (r_add32 (eh b0 rfl) (eh b0 rfl)) <| mv b0 rfl <| gv (r_idxA (i := 5) (o' := 5) (em b0 rfl rfl l0) rfl qa_144 (by decide) (by rfl)) <| gv (r_load1 (v := u32 ((vC s (wB p 48) i).getD 5 0)) (eh b0 rfl) q0.bk (us_get (n := 8) (vC_len hs8 _ _) (by decide)) qr_143) <| gv (r_idxA (i := 6) (o' := 6) (em b0 rfl rfl l0) rfl qa_144 (by decide) (by rfl)) <| gv (r_load1 (v := u32 ((vC s (wB p 48) i).getD 6 0)) (eh b0 rfl) q0.bk (us_get (n := 8) (vC_len hs8 _ _) (by decide)) qr_143) <| gv (r_build (cs := us ([((((((vC s (wB p 48) i).getD 7 0) + (((rotr ((vC s (wB p 48) i).getD 4 0) 6) ^^^ (rotr ((vC s (wB p 48) i).getD 4 0) 11)) ^^^ (rotr ((vC s (wB p 48) i).getD 4 0) 25))) + ((((vC s (wB p 48) i).getD 4 0) &&& ((vC s (wB p 48) i).getD 5 0)) ^^^ ((~~~((vC s (wB p 48) i).getD 4 0)) &&& ((vC s (wB p 48) i).getD 6 0)))) + ((kT).getD i 0)) + ((wB p 48).getD i 0)) + ((((rotr ((vC s (wB p 48) i).getD 0 0) 2) ^^^ (rotr ((vC s (wB p 48) i).getD 0 0) 13)) ^^^ (rotr ((vC s (wB p 48) i).getD 0 0) 22)) + (((((vC s (wB p 48) i).getD 0 0) &&& ((vC s (wB p 48) i).getD 1 0)) ^^^ (((vC s (wB p 48) i).getD 0 0) &&& ((vC s (wB p 48) i).getD 2 0))) ^^^ (((vC s (wB p 48) i).getD 1 0) &&& ((vC s (wB p 48) i).getD 2 0)))), (vC s (wB p 48) i).getD 0 0, (vC s (wB p 48) i).getD 1 0, (vC s (wB p 48) i).getD 2 0, ((vC s (wB p 48) i).getD 3 0) + ((((((vC s (wB p 48) i).getD 7 0) + (((rotr ((vC s (wB p 48) i).getD 4 0) 6) ^^^ (rotr ((vC s (wB p 48) i).getD 4 0) 11)) ^^^ (rotr ((vC s (wB p 48) i).getD 4 0) 25))) + ((((vC s (wB p 48) i).getD 4 0) &&& ((vC s (wB p 48) i).getD 5 0)) ^^^ ((~~~((vC s (wB p 48) i).getD 4 0)) &&& ((vC s (wB p 48) i).getD 6 0)))) + ((kT).getD i 0)) + ((wB p 48).getD i 0)), (vC s (wB p 48) i).getD 4 0, (vC s (wB p 48) i).getD 5 0, (vC s (wB p 48) i).getD 6 0])) (pm_cons (eh b0 rfl) (pm_cons (eh b0 rfl) (pm_cons (eh b0 rfl) (pm_cons (eh b0 rfl) (pm_cons (eh b0 rfl) (pm_cons (eh b0 rfl) (pm_cons (eh b0 rfl) (pm_cons (eh b0 rfl) pm_nil)))))))) (by kernel_rfl)) ?_
       refine gz (k_store (L' := us ([((((((vC s (wB p 48) i).getD 7 0) + (((rotr ((vC s (wB p 48) i).getD 4 0) 6) ^^^ (rotr ((vC s (wB p 48) i).getD 4 0) 11)) ^^^ (rotr ((vC s (wB p 48) i).getD 4 0) 25))) + ((((vC s (wB p 48) i).getD 4 0) &&& ((vC s (wB p 48) i).getD 5 0)) ^^^ ((~~~((vC s (wB p 48) i).getD 4 0)) &&& ((vC s (wB p 48) i).getD 6 0)))) + ((kT).getD i 0)) + ((wB p 48).getD i 0)) + ((((rotr ((vC s (wB p 48) i).getD 0 0) 2) ^^^ (rotr ((vC s (wB p 48) i).getD 0 0) 13)) ^^^ (rotr ((vC s (wB p 48) i).getD 0 0) 22)) + (((((vC s (wB p 48) i).getD 0 0) &&& ((vC s (wB p 48) i).getD 1 0)) ^^^ (((vC s (wB p 48) i).getD 0 0) &&& ((vC s (wB p 48) i).getD 2 0))) ^^^ (((vC s (wB p 48) i).getD 1 0) &&& ((vC s (wB p 48) i).getD 2 0)))), (vC s (wB p 48) i).getD 0 0, (vC s (wB p 48) i).getD 1 0, (vC s (wB p 48) i).getD 2 0, ((vC s (wB p 48) i).getD 3 0) + ((((((vC s (wB p 48) i).getD 7 0) + (((rotr ((vC s (wB p 48) i).getD 4 0) 6) ^^^ (rotr ((vC s (wB p 48) i).getD 4 0) 11)) ^^^ (rotr ((vC s (wB p 48) i).getD 4 0) 25))) + ((((vC s (wB p 48) i).getD 4 0) &&& ((vC s (wB p 48) i).getD 5 0)) ^^^ ((~~~((vC s (wB p 48) i).getD 4 0)) &&& ((vC s (wB p 48) i).getD 6 0)))) + ((kT).getD i 0)) + ((wB p 48).getD i 0)), (vC s (wB p 48) i).getD 4 0, (vC s (wB p 48) i).getD 5 0, (vC s (wB p 48) i).getD 6 0])) (cs := us ([((((((vC s (wB p 48) i).getD 7 0) + (((rotr ((vC s (wB p 48) i).getD 4 0) 6) ^^^ (rotr ((vC s (wB p 48) i).getD 4 0) 11)) ^^^ (rotr ((vC s (wB p 48) i).getD 4 0) 25))) + ((((vC s (wB p 48) i).getD 4 0) &&& ((vC s (wB p 48) i).getD 5 0)) ^^^ ((~~~((vC s (wB p 48) i).getD 4 0)) &&& ((vC s (wB p 48) i).getD 6 0)))) + ((kT).getD i 0)) + ((wB p 48).getD i 0)) + ((((rotr ((vC s (wB p 48) i).getD 0 0) 2) ^^^ (rotr ((vC s (wB p 48) i).getD 0 0) 13)) ^^^ (rotr ((vC s (wB p 48) i).getD 0 0) 22)) + (((((vC s (wB p 48) i).getD 0 0) &&& ((vC s (wB p 48) i).getD 1 0)) ^^^ (((vC s (wB p 48) i).getD 0 0) &&& ((vC s (wB p 48) i).getD 2 0))) ^^^ (((vC s (wB p 48) i).getD 1 0) &&& ((vC s (wB p 48) i).getD 2 0)))), (vC s (wB p 48) i).getD 0 0, (vC s (wB p 48) i).getD 1 0, (vC s (wB p 48) i).getD 2 0, ((vC s (wB p 48) i).getD 3 0) + ((((((vC s (wB p 48) i).getD 7 0) + (((rotr ((vC s (wB p 48) i).getD 4 0) 6) ^^^ (rotr ((vC s (wB p 48) i).getD 4 0) 11)) ^^^ (rotr ((vC s (wB p 48) i).getD 4 0) 25))) + ((((vC s (wB p 48) i).getD 4 0) &&& ((vC s (wB p 48) i).getD 5 0)) ^^^ ((~~~((vC s (wB p 48) i).getD 4 0)) &&& ((vC s (wB p 48) i).getD 6 0)))) + ((kT).getD i 0)) + ((wB p 48).getD i 0)), (vC s (wB p 48) i).getD 4 0, (vC s (wB p 48) i).getD 5 0, (vC s (wB p 48) i).getD 6 0])) N0.ag (em b0 rfl rfl l0) (eh b0 rfl) q0 (by kernel_rfl) (sz_eq sz_144 (by kernel_rfl)) (one_us _) (le_all (Eq.trans (us_length _) (vC_len hs8 _ _)) (by kernel_rfl)) (wr_all (Eq.trans (Eq.trans (us_length _) (vC_len hs8 _ _)) (Eq.symm (by kernel_rfl)))) (fun P4 S2 t1 => ?_))
       have i4 := t1.size
       refine nl <| q2 <| rn <| mw b0 i1 <| gv (r_add (j := 1) (eh b0 rfl) rfl (by omega)) <| ms b0 rfl <| nl <| loop_back (s := i) ⟨i + 1, (show 64 - (i + 1) < 64 - (i) from (by omega)), ?_⟩
       exact ⟨k0, ((ov_size _ _).trans b0), ((ov_defers _ _).trans v1), (by omega), (gm b0 rfl rfl S1), (gm b0 rfl rfl T1), (gm b0 rfl rfl U1), (gm b0 rfl rfl V1), (gm b0 rfl rfl l0), (gh b0 rfl), ((((u0.t0 y0).t0 z0).t0 N0).tr t1 (fun x hx => .inr (by cases hx; exact rfl))), S2⟩
      ·
       refine cf (eb b0 rfl (decide_eq_false C1)) <| we ?_
       have k3 : 64 = i := (by omega)
       subst k3
       refine m2 <| sk fun _ x2 => sk fun _ y2 => rn <| gv (r_assign (v := nn 0) rfl) <| nl <| y2 <| bl ?_
       have M2 := (((z1.f0 C0).f1 D0 (by omega)).f1 u0 (by omega))
       refine wp_loop_s (σ := Nat) (I := fun (i : Nat) (a' : Act) (w' : World) => ∃ (m' : Ctx), a'.tmps.size = 196 ∧ a'.defers = [] ∧ i ≤ 8 ∧ a'.tmps.getD 3 undef = .pointer (some ⟨p0, 0, none⟩) ∧ a'.tmps.getD 6 undef = .pointer (some ⟨U0, 0, none⟩) ∧ a'.tmps.getD 12 undef = .pointer (some ⟨b1, 0, none⟩) ∧ a'.tmps.getD 18 undef = nn i ∧ Fr (on p0) k0 Q0 m' w' ∧ Mu m' w' p0 144 (us (sD s (vC s (wB p 48) 64) i))) (μ := fun i => 8 - i) (s₀ := 0) ?_ ?_
       · exact ⟨k0, ((ov_size _ _).trans b0), ((ov_defers _ _).trans v1), (by omega), (gm b0 rfl rfl T1), (gm b0 rfl rfl U1), (gm b0 rfl rfl l0), (gh b0 rfl), (Fr.refl u0.ag), M2⟩
       ·
        intro i C3 Y0 hI
        obtain ⟨r0, h0, w1, M3, j1, q1, W1, W0, F0, J1⟩ := hI
        refine of_ov ?_
        have j4 := F0.size
        refine sk fun _ z2 => sk fun _ A2 => rn <| mw h0 W0 <| gv (r_lss (j := 8) (eh h0 rfl) rfl) <| nl <| A2 ?_
        by_cases D1 : i < 8
        ·
         refine ct (eb h0 rfl (decide_eq_true D1)) <| ws <| z2 <| sk fun _ B2 => bl ?_
         have G0 : Fr no r0 Y0 r0 { Y0 with drawn := Y0.drawn + 1 } := Fr.drw F0.ag
         obtain ⟨S0, Q1⟩ : ∃ w_, w_ = ({ Y0 with drawn := Y0.drawn + 1 } : World) := ⟨_, rfl⟩
         rw [← Q1] at G0
         have k4 := G0.size
         refine wp_region_T mixed (fun wz => ∃ mz, Fr (no) r0 S0 mz wz) (fun wz => ∃ mz, Fr (on p0) r0 S0 mz wz) 9 ?_
         rw [← Q1]
         show wpAnyT _ _ _ _ _ 10 _ _ _
         have s0 : Fr (no) r0 S0 r0 S0 := Fr.refl G0.ag
         have J3 : ∀ wz, (∃ mz, Fr (no) r0 S0 mz wz) → ∃ mz, Fr (on p0) r0 S0 mz wz := fun wz ⟨mz, hz⟩ => ⟨mz, hz.wk (fun x hx _ => hx.elim)⟩
         refine tk2 (i := 0) rfl rfl (fun _ _ => r_move (em h0 rfl rfl W0)) ⟨_, s0⟩ <| tk2 (i := 1) rfl rfl (fun _ _ => r_move (em h0 rfl rfl W0)) ⟨_, s0⟩ <| tk2 (i := 2) rfl rfl (fun _ _ => r_idxA (o' := i) (em h0 rfl rfl j1) (eh h0 rfl) qa_144 (by omega) (by omega)) ⟨_, s0⟩ ?_
         have A1 := (J1.f0 G0)
         refine tk2 (i := 3) rfl rfl (fun wz ⟨mz, hz⟩ => r_load1 (v := u32 ((sD s (vC s (wB p 48) 64) i).getD i 0)) (eh h0 rfl) (hz.ex A1.bk (fun h => h)) (us_get (n := 8) (sD_len hs8 _ _) (by omega)) qr_143) ⟨_, s0⟩ <| tk2 (i := 4) rfl rfl (fun _ _ => r_move (em h0 rfl rfl W0)) ⟨_, s0⟩ <| tk2 (i := 5) rfl rfl (fun _ _ => r_idxA (o' := i) (em h0 rfl rfl W1) (eh h0 rfl) qa_144 (by omega) (by omega)) ⟨_, s0⟩ ?_
         have N2 := ((I1.f1 F0 (by omega)).f0 G0)
         refine tk2 (i := 6) rfl rfl (fun wz ⟨mz, hz⟩ => r_load1 (v := u32 ((vC s (wB p 48) 64).getD i 0)) (eh h0 rfl) (hz.ex N2.bk (fun h => h)) (us_get (n := 8) (vC_len hs8 _ _) (by omega)) qr_143) ⟨_, s0⟩ <| tk2 (i := 7) rfl rfl (fun _ _ => r_add32 (eh h0 rfl) (eh h0 rfl)) ⟨_, s0⟩ <| tk2 (i := 8) rfl rfl (fun _ _ => r_idxA (o' := i) (em h0 rfl rfl j1) (eh h0 rfl) qa_144 (by omega) (by omega)) ⟨_, s0⟩ ?_
         have q3 : Fr (on p0) _ _ _ _ := s0.wk (fun x hx _ => hx.elim)
         have G3 : ((sD s (vC s (wB p 48) 64) i).set i (((sD s (vC s (wB p 48) 64) i).getD i 0) + ((vC s (wB p 48) 64).getD i 0)) : List UInt32).length = 8 := (len_set (sD_len hs8 _ _))
         refine an00 (i := 9) (b := true) rfl rfl (k_store1 (b := p0) (off := i) (v := u32 (((sD s (vC s (wB p 48) 64) i).getD i 0) + ((vC s (wB p 48) 64).getD i 0))) (L' := us ((sD s (vC s (wB p 48) 64) i).set i (((sD s (vC s (wB p 48) 64) i).getD i 0) + ((vC s (wB p 48) 64).getD i 0)))) G0.ag (eh h0 rfl) (eh h0 rfl) A1 sz_143 rfl (lt_us (n := 8) (sD_len hs8 _ _) (by omega)) us_set (fun Q4 T2 m1 => ?_))
         have l4 := m1.size
         have r3 := q3.tr m1 (fun x hx => .inr (by cases hx; exact rfl))
         refine ⟨(tbT ⟨_, r3⟩), ?_⟩
         refine anyT_done (by kernel_rfl) ?_ _
         refine B2 <| rn <| mw h0 W0 <| gv (r_add (j := 1) (eh h0 rfl) rfl (by omega)) <| ms h0 rfl <| nl <| loop_back (s := i) ⟨i + 1, (show 8 - (i + 1) < 8 - (i) from (by omega)), ?_⟩
         exact ⟨r0, ((ov_size _ _).trans h0), ((ov_defers _ _).trans w1), (by omega), (gm h0 rfl rfl j1), (gm h0 rfl rfl q1), (gm h0 rfl rfl W1), (gh h0 rfl), ((F0.t0 G0).tr m1 (fun x hx => .inr (by cases hx; exact rfl))), T2⟩
        ·
         refine cf (eb h0 rfl (decide_eq_false D1)) <| we ?_
         have l3 : 8 = i := (by omega)
         subst l3
         refine x2 <| sk fun _ C2 => rn <| gv (r_loadN (cs := us (sD s (vC s (wB p 48) 64) 8)) (em h0 rfl rfl j1) J1.bk (rd_all (Eq.trans (us_length _) (sD_len hs8 _ _))) (Eq.trans (us_length _) (sD_len hs8 _ _)) qr_144 sz_144) ?_
         have O2 := (((((((F1.f0 E0).f1 v0 (by omega)).f1 A0 (by omega)).f0 C0).f1 D0 (by omega)).f1 u0 (by omega)).f1 F0 (by omega))
         refine gz (k_store (L' := us (sD s (vC s (wB p 48) 64) 8)) (cs := us (sD s (vC s (wB p 48) 64) 8)) F0.ag (em h0 rfl rfl q1) (eh h0 rfl) O2 (by kernel_rfl) (sz_eq sz_144 (Eq.trans (us_length _) (sD_len hs8 _ _))) (one_us _) (le_all (Eq.trans (us_length _) List.length_replicate) (Eq.trans (us_length _) (sD_len hs8 _ _))) (wr_all (Eq.trans (Eq.trans (us_length _) List.length_replicate) (Eq.symm (Eq.trans (us_length _) (sD_len hs8 _ _))))) (fun R4 U2 u1 => ?_))
         have m4 := u1.size
         refine nl <| C2 <| wp_ret <| ret_of (res1c (b := U0) (n := 8) (cs := us (sD s (vC s (wB p 48) 64) 8)) rfl _ _ (gm h0 rfl rfl q1) U2.bk (rd_all (Eq.trans (us_length _) (sD_len hs8 _ _))) (Eq.trans (us_length _) (sD_len hs8 _ _)) qr_144 sz_144) ((ov_defers _ _).trans w1) ?_
         exact ⟨r0, rfl, ((((((((((cu0.t0 V0).t0 L0).t0 E0).tn v0 (by omega)).tn A0 (by omega)).t0 C0).tn D0 (by omega)).tn u0 (by omega)).tn F0 (by omega)).tn u1 (by omega))⟩

end Go.Proofs.YtiggfalelcepbaaGreatDoor

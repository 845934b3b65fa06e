/- The walks of the encoders of chapter 6. -/
import Derived.Test.YtiggfalelcepbaaGreatDoorK7
import Derived.Test.YtiggfalelcepbaaGreatDoorSX
import Derived.Test.YtiggfalelcepbaaGreatDoorW10
import Derived.Test.YtiggfalelcepbaaGreatDoorTX
namespace Go.Proofs.YtiggfalelcepbaaGreatDoor
open Go
set_option maxRecDepth 100000
set_option maxHeartbeats 4000000
theorem f83 {m : Ctx} {w : World} (ag : Ag m w) {A : Option Addr} {n c : Nat} {p : Bytes} (hA : Sl m A n c 1 (bv p)) (hp : p.length = n) (h0 : 0 < n) (hn : n < 1048576) : Calls Tryz.prog 83 #[.slice A n c] w (Ret fun v w' => ∃ m' A' c', v = .slice A' n c' ∧ Fr no m w m' w' ∧ Sl m' A' n c' 1 (bv p)) := by
 refine enter Tryz.func83 rfl (fun g0 hT p0 => ?_)
 have b0 : g0.tmps.size = 8 := by rw [hT]; kernel_rfl
 have l0 : g0.tmps.getD 0 undef = .slice A n c := by rw [hT]; kernel_rfl
 clear hT
 have cu0 : Fr (no) m w m w := Fr.refl ag
 refine sk fun _ q0 => rn <| gv (r_assign (v := .slice none 0 0) rfl) <| nl <| q0 <| sk fun _ r0 => sk fun _ s0 => rn <| mw b0 l0 <| gv (r_eqlSNil (eh b0 rfl) rfl qu_38) <| nl <| s0 ?_
 have v0 : ((A).isNone) = false := (Sl.isN hA (by omega))
 refine cf (eb b0 rfl v0) <| ws <| r0 <| sk fun _ u0 => rn <| gk (k_lit (e := 5) (L := []) ag pm_nil (by kernel_rfl) (fun G0 y0 j0 c0 z0 => ?_))
 have C0 := c0.size
 have A0 := j0.lt
 refine mw b0 l0 ?_
 have k0 := (hA.up c0)
 refine gk (k_append0 (base := w.heap.size) (N := bv p) c0.ag (eh b0 rfl) (eh b0 rfl) qs_38 qz_5 (Own.of_mu j0 (by omega) (by kernel_rfl) (by decide)) (k0.src c0.ag) (k0.nilc) (by rw [bv_length, hp, Nat.mul_one]) (one_bv _) (by omega) (by decide) (by rw [maxLen_eq]; omega) (by omega) (fun m0 n0 F0 e0 d0 => ?_))
 have D0 := d0.size
 have B0 := e0.nilc
 refine ms b0 rfl <| nl <| u0 <| wp_ret <| ret_of (res1 rfl _ _ (gh b0 rfl)) ((ov_defers _ _).trans p0) ?_
 obtain ⟨x0, o0, w0⟩ := e0.fz d0.ag
 have i0 : Fr (ge w.heap.size) _ _ _ _ := o0.wk (fun x hx _ => e0.at x hx)
 have E0 := i0.size
 exact ⟨x0, m0, n0, rfl, (((cu0.t0 c0).tg d0 (by omega)).tg i0 (by omega)), w0⟩

theorem f100 {m : Ctx} {w : World} (ag : Ag m w) {wb β N0 c0 : Nat} {A0 : Option Addr} {X0 : Bytes} (hmW : Mu m w wb 125 [.slice A0 N0 c0]) (how : Own m w β A0 N0 c0 5 1 (bv X0)) (hwb : wb < β) (hbe : β ≤ w.heap.size) (h0 : 0 < N0) (hn0 : N0 < 1048576) : Calls Tryz.prog 100 #[.pointer (some ⟨wb, 0, none⟩)] w (Ret fun v w' => ∃ m' A' c', v = .slice A' N0 c' ∧ Fr (ge β) m w m' w' ∧ Sl m' A' N0 c' 1 (bv X0)) := by
 refine enter Tryz.func100 rfl (fun e0 hT m0 => ?_)
 have b0 : e0.tmps.size = 10 := by rw [hT]; kernel_rfl
 have i0 : e0.tmps.getD 0 undef = .pointer (some ⟨wb, 0, none⟩) := by rw [hT]; kernel_rfl
 clear hT
 have cu0 : Fr (ge β) m w m w := Fr.refl ag
 have lt_wb := hmW.lt
 refine sk fun _ n0 => rn <| gv (r_assign (v := .slice none 0 0) rfl) <| nl <| n0 <| sk fun _ o0 => sk fun _ p0 => rn <| mw b0 i0 <| gv (r_eqlNil (eh b0 rfl) rfl qu_191) <| nl <| p0 <| cf (eh b0 rfl) <| ws <| o0 <| sk fun _ q0 => rn <| mw b0 i0 <| nc b0 rfl <| gv (r_field (o' := 0) (eh b0 rfl) fo_123_0 (by rfl)) <| gv (la (v := .slice A0 N0 c0) (eh b0 rfl) hmW.bk qr_38) ?_
 obtain ⟨w0, l0, u0⟩ := how.fz ag
 have d0 : Fr (ge β) _ _ _ _ := l0.wk (fun x hx _ => how.at x hx)
 have x0 := d0.size
 refine gk (k_cl (f83 d0.ag u0 (Own.blen how) (by omega) (by omega)) rfl fn_83 (map_cons (eh b0 rfl) map_nil) (fun z0 B0 s0 => ?_))
 obtain ⟨v0, j0, k0, rfl, g0, r0⟩ := s0
 have y0 := g0.size
 refine ms b0 rfl <| nl <| q0 <| wp_ret <| ret_of (res1 rfl _ _ (gh b0 rfl)) ((ov_defers _ _).trans m0) ?_
 exact ⟨v0, j0, k0, rfl, ((cu0.tr d0 (fun x hx => .inr (by have h_ : β ≤ x := hx; exact h_))).t0 g0), r0⟩

theorem f48_72 {m : Ctx} {w : World} (ag : Ag m w) {q0 q1 q2 q3 : Bytes} {L0 L1 L2 L3 : Option Addr} {l0 l1 l2 l3 v1 : Nat} {xb : Nat} (hmX : Mu m w xb 35 ([nn v1, nn 1073741824, .slice L0 1 l0, nn 1, .slice L1 1 l1, nn 1, .slice L2 1 l2, nn 1, .slice L3 1 l3, nn 1])) (hL0 : Sl m L0 1 l0 32 (hc q0)) (hL1 : Sl m L1 1 l1 32 (hc q1)) (hL2 : Sl m L2 1 l2 32 (hc q2)) (hL3 : Sl m L3 1 l3 32 (hc q3)) (hv : v1 < 128) : Calls Tryz.prog 48 #[nn 1, .bool true, .func (.func 72) #[] #[.pointer (some ⟨xb, 0, none⟩)]] w (Ret fun v w' => ∃ m' A' c', v = .tuple #[.slice A' ((((((((((((((0 + 1) + 1 + 1 + 1 + 1 + 1 + 1) + 1) + 32) + 1) + 1) + 32) + 1) + 1) + 32) + 1) + 1) + 32) + 1) c', nn 0] ∧ Fr no m w m' w' ∧ Sl m' A' ((((((((((((((0 + 1) + 1 + 1 + 1 + 1 + 1 + 1) + 1) + 32) + 1) + 1) + 32) + 1) + 1) + 32) + 1) + 1) + 32) + 1) c' 1 (bv (((((((((((((((((((([]) ++ ([UInt8.ofNat 1])) ++ ([UInt8.ofNat v1])) ++ ([0 ||| 128])) ++ ([0 ||| 128])) ++ ([0 ||| 128])) ++ ([0 ||| 128])) ++ ([4])) ++ ([UInt8.ofNat 1])) ++ (n32 q0)) ++ ([UInt8.ofNat 1])) ++ ([UInt8.ofNat 1])) ++ (n32 q1)) ++ ([UInt8.ofNat 1])) ++ ([UInt8.ofNat 1])) ++ (n32 q2)) ++ ([UInt8.ofNat 1])) ++ ([UInt8.ofNat 1])) ++ (n32 q3)) ++ ([UInt8.ofNat 1])))) := by
 refine enter Tryz.func48 rfl (fun i0 hT A0 => ?_)
 have b0 : i0.tmps.size = 26 := by rw [hT]; kernel_rfl
 have a1 : i0.tmps.getD 0 undef = nn 1 := by rw [hT]; kernel_rfl
 have b1 : i0.tmps.getD 1 undef = .bool true := by rw [hT]; kernel_rfl
 have c1 : i0.tmps.getD 2 undef = .func (.func 72) #[] #[.pointer (some ⟨xb, 0, none⟩)] := by rw [hT]; kernel_rfl
 clear hT
 have cu0 : Fr (no) m w m w := Fr.refl ag
 have lt_xb := hmX.lt
 refine sk fun _ B0 => rn <| gv (r_assign (v := .slice none 0 0) rfl) <| gv (r_assign (v := nn 0) rfl) <| nl <| B0 <| sk fun _ D0 => sk fun _ E0 => rn <| mw b0 b1 <| gv (r_not (eh b0 rfl)) <| nl <| E0 <| cf (eh b0 rfl) <| ws <| D0 <| sk fun _ G0 => rn <| gv (r_build (cs := [.slice none 0 0]) pm_nil (by kernel_rfl)) <| gk (k_box (L := [.slice none 0 0]) ag (eh b0 rfl) (by kernel_rfl) (fun H1 k0 u0 g0 n1 => ?_))
 have w1 := g0.size
 have p1 := u0.lt
 refine ms b0 rfl <| nl <| G0 <| sk fun _ C0 => rn <| mv b0 rfl <| nc b0 rfl <| gv (r_field (o' := 0) (eh b0 rfl) fo_125_0 (by rfl)) <| mw b0 a1 <| gk (k_lit (e := 3) (L := [nn 1]) g0.ag (pm_cons (eh b0 rfl) pm_nil) (by kernel_rfl) (fun h0 p0 s0 d0 m1 => ?_))
 have x1 := d0.size
 have o1 := s0.lt
 obtain ⟨c0, v0⟩ := s0.fz d0.ag
 generalize cput m p0 _ = Y0 at c0 v0
 have y1 := c0.size
 have S0 : Sl Y0 (some ⟨p0, 0, none⟩) 1 1 1 ([nn 1]) := Sl.of (k := 1) v0 (by kernel_rfl) (by kernel_rfl) (by decide) (by decide)
 have I0 := ((u0.f0 d0).f1 c0 (by omega))
 refine gk (k_cl (f52_s c0.ag (β := h0.heap.size) (X0 := []) I0 (Own.nil _ _ _ _ _) (by omega) (by omega) (by omega) S0 (by omega)) rfl fn_52 (map_cons (eh b0 rfl) (map_cons (eh b0 rfl) map_nil)) (fun C1 F1 P0 => ?_))
 obtain ⟨r1, d1, g1, e0, M0, n0⟩ := P0
 have z1 := e0.size
 have j1 : (([]) ++ ([UInt8.ofNat 1]) : List UInt8).length = 0 + 1 := (Own.blen n0)
 have t1 := n0.nilc
 refine nl <| C0 <| sk fun _ F0 => rn <| mw b0 c1 <| mv b0 rfl ?_
 have j0 := Fr.ll (Fr.ll (Fr.l2 g0 d0) c0) e0
 have T0 := hL0.le j0
 have U0 := hL1.le j0
 have V0 := hL2.le j0
 have W0 := hL3.le j0
 have z0 := g0.t0 d0
 have J0 := ((hmX.f0 z0).f1 c0 (by omega)).fs e0 (fun h => h.elim (show xb ≠ k0 from by omega) (show ¬ h0.heap.size ≤ xb from by omega))
 have K0 := J0
 refine gk (k_callv (eh b0 rfl) fn_72 (map_cons (eh b0 rfl) map_nil) (f72 e0.ag (β := h0.heap.size) (X0 := ([]) ++ ([UInt8.ofNat 1])) M0 n0 (by omega) (by omega) (by omega) K0 (by omega) (by omega) T0 U0 V0 W0 (by omega)) (fun D1 G1 Q0 => ?_))
 obtain ⟨s1, e1, i1, m0, N0, o0⟩ := Q0
 have A1 := m0.size
 have k1 : (((((((((((((((((((([]) ++ ([UInt8.ofNat 1])) ++ ([UInt8.ofNat v1])) ++ ([0 ||| 128])) ++ ([0 ||| 128])) ++ ([0 ||| 128])) ++ ([0 ||| 128])) ++ ([4])) ++ ([UInt8.ofNat 1])) ++ (n32 q0)) ++ ([UInt8.ofNat 1])) ++ ([UInt8.ofNat 1])) ++ (n32 q1)) ++ ([UInt8.ofNat 1])) ++ ([UInt8.ofNat 1])) ++ (n32 q2)) ++ ([UInt8.ofNat 1])) ++ ([UInt8.ofNat 1])) ++ (n32 q3)) ++ ([UInt8.ofNat 1]) : List UInt8).length = (((((((((((((0 + 1) + 1 + 1 + 1 + 1 + 1 + 1) + 1) + 32) + 1) + 1) + 32) + 1) + 1) + 32) + 1) + 1) + 32) + 1 := (Own.blen o0)
 have u1 := o0.nilc
 refine nl <| F0 <| sk fun _ H0 => rn <| mv b0 rfl <| nc b0 rfl <| gv (r_field (o' := 0) (eh b0 rfl) fo_125_0 (by rfl)) <| gk (k_cl (f100 m0.ag N0 o0 (by omega) (by omega) (by omega) (by omega)) rfl fn_100 (map_cons (eh b0 rfl) map_nil) (fun E1 I1 R0 => ?_))
 obtain ⟨Z0, w0, y0, rfl, r0, O0⟩ := R0
 have B1 := r0.size
 refine ms b0 rfl <| gv (r_assign (v := nn 0) rfl) <| nl <| H0 <| wp_ret <| ret_of (res2 rfl _ _ (gh b0 rfl) (gh b0 rfl)) ((ov_defers _ _).trans A0) ?_
 exact ⟨Z0, w0, y0, rfl, ((((((cu0.t0 g0).t0 d0).tn c0 (by omega)).tr e0 (fun x hx => hx.elim (fun h1 => .inl (by have h_ : x = k0 := h1; omega)) (fun h1 => .inl (by have h_ : h0.heap.size ≤ x := h1; omega)))).tr m0 (fun x hx => hx.elim (fun h1 => .inl (by have h_ : x = k0 := h1; omega)) (fun h1 => .inl (by have h_ : h0.heap.size ≤ x := h1; omega)))).tg r0 (by omega)), O0⟩

theorem f31 {m : Ctx} {w : World} (ag : Ag m w) {q0 q1 q2 q3 : Bytes} {L0 L1 L2 L3 : Option Addr} {l0 l1 l2 l3 v1 : Nat} (hL0 : Sl m L0 1 l0 32 (hc q0)) (hL1 : Sl m L1 1 l1 32 (hc q1)) (hL2 : Sl m L2 1 l2 32 (hc q2)) (hL3 : Sl m L3 1 l3 32 (hc q3)) (hv : v1 < 128) (hv1 : 1 ≤ v1) : Calls Tryz.prog 31 #[.agg ([nn v1, nn 1073741824, .slice L0 1 l0, nn 1, .slice L1 1 l1, nn 1, .slice L2 1 l2, nn 1, .slice L3 1 l3, nn 1]).toArray] w (Ret fun v w' => ∃ m' A' c', v = .tuple #[.slice A' ((((((((((((((0 + 1) + 1 + 1 + 1 + 1 + 1 + 1) + 1) + 32) + 1) + 1) + 32) + 1) + 1) + 32) + 1) + 1) + 32) + 1) c', nn 0] ∧ Fr no m w m' w' ∧ Sl m' A' ((((((((((((((0 + 1) + 1 + 1 + 1 + 1 + 1 + 1) + 1) + 32) + 1) + 1) + 32) + 1) + 1) + 32) + 1) + 1) + 32) + 1) c' 1 (bv (((((((((((((((((((([]) ++ ([UInt8.ofNat 1])) ++ ([UInt8.ofNat v1])) ++ ([0 ||| 128])) ++ ([0 ||| 128])) ++ ([0 ||| 128])) ++ ([0 ||| 128])) ++ ([4])) ++ ([UInt8.ofNat 1])) ++ (n32 q0)) ++ ([UInt8.ofNat 1])) ++ ([UInt8.ofNat 1])) ++ (n32 q1)) ++ ([UInt8.ofNat 1])) ++ ([UInt8.ofNat 1])) ++ (n32 q2)) ++ ([UInt8.ofNat 1])) ++ ([UInt8.ofNat 1])) ++ (n32 q3)) ++ ([UInt8.ofNat 1])))) := by
 refine enter Tryz.func31 rfl (fun h0 hT r0 => ?_)
 have b0 : h0.tmps.size = 10 := by rw [hT]; kernel_rfl
 have D0 : h0.tmps.getD 0 undef = .agg ([nn v1, nn 1073741824, .slice L0 1 l0, nn 1, .slice L1 1 l1, nn 1, .slice L2 1 l2, nn 1, .slice L3 1 l3, nn 1]).toArray := by rw [hT]; kernel_rfl
 clear hT
 have cu0 : Fr (no) m w m w := Fr.refl ag
 refine sk fun _ s0 => rn <| gk (k_box (L := [nn v1, nn 1073741824, .slice L0 1 l0, nn 1, .slice L1 1 l1, nn 1, .slice L2 1 l2, nn 1, .slice L3 1 l3, nn 1]) ag (em b0 rfl rfl D0) (by kernel_rfl) (fun Q0 E0 e0 d0 G0 => ?_))
 have M0 := d0.size
 have H0 := e0.lt
 refine gv (r_assign (v := .slice none 0 0) rfl) <| gv (r_assign (v := nn 0) rfl) <| nl <| s0 <| sk fun _ u0 => rn <| gv (lb (cs := [nn v1, nn 1073741824, .slice L0 1 l0, nn 1, .slice L1 1 l1, nn 1, .slice L2 1 l2, nn 1, .slice L3 1 l3, nn 1]) (eh b0 rfl) e0.bk qr_35 sz_35) ?_
 have m0 := (hL0.up d0)
 have n0 := (hL1.up d0)
 have o0 := (hL2.up d0)
 have p0 := (hL3.up d0)
 refine gk (k_cl (f71 d0.ag m0 n0 o0 p0 (by omega) (by omega)) rfl fn_71 (map_cons (eh b0 rfl) map_nil) (fun O0 P0 w0 => ?_))
 obtain ⟨I0, rfl, c0⟩ := w0
 have J0 := c0.size
 refine gv (r_makeFunc map_nil (map_cons (eh b0 rfl) map_nil)) ?_
 have y0 := (m0.up c0)
 have z0 := (n0.up c0)
 have A0 := (o0.up c0)
 have B0 := (p0.up c0)
 have v0 := (e0.f0 c0)
 refine gk (k_cl (f48_72 c0.ag v0 y0 z0 A0 B0 (by omega)) rfl fn_48 (map_cons (v := nn 1) rfl (map_cons (eh b0 rfl) (map_cons (eh b0 rfl) map_nil))) (fun N0 R0 x0 => ?_))
 obtain ⟨C0, g0, i0, rfl, j0, k0⟩ := x0
 have K0 := j0.size
 have F0 : (((((((((((((((((((([]) ++ ([UInt8.ofNat 1])) ++ ([UInt8.ofNat v1])) ++ ([0 ||| 128])) ++ ([0 ||| 128])) ++ ([0 ||| 128])) ++ ([0 ||| 128])) ++ ([4])) ++ ([UInt8.ofNat 1])) ++ (n32 q0)) ++ ([UInt8.ofNat 1])) ++ ([UInt8.ofNat 1])) ++ (n32 q1)) ++ ([UInt8.ofNat 1])) ++ ([UInt8.ofNat 1])) ++ (n32 q2)) ++ ([UInt8.ofNat 1])) ++ ([UInt8.ofNat 1])) ++ (n32 q3)) ++ ([UInt8.ofNat 1]) : List UInt8).length = (((((((((((((0 + 1) + 1 + 1 + 1 + 1 + 1 + 1) + 1) + 32) + 1) + 1) + 32) + 1) + 1) + 32) + 1) + 1) + 32) + 1 := (Sl.blen k0)
 refine gv (r_extract (v := .slice g0 ((((((((((((((0 + 1) + 1 + 1 + 1 + 1 + 1 + 1) + 1) + 32) + 1) + 1) + 32) + 1) + 1) + 32) + 1) + 1) + 32) + 1) i0) (eh b0 rfl) (by kernel_rfl)) <| gv (r_extract (v := nn 0) (eh b0 rfl) (by kernel_rfl)) <| ms b0 rfl <| ms b0 rfl <| nl <| u0 <| wp_ret <| ret_of (res2 rfl _ _ (gh b0 rfl) (gh b0 rfl)) ((ov_defers _ _).trans r0) ?_
 exact ⟨C0, g0, i0, rfl, (((cu0.t0 d0).t0 c0).t0 j0), k0⟩

theorem f48_58 {m : Ctx} {w : World} (ag : Ag m w) {v1 v2 e1 lc : Nat} {L : Option Addr} {xb : Nat} (hmX : Mu m w xb 56 ([nn v1, nn e1, .slice L 1 lc])) (hL : Sl m L 1 lc 2 [.string (⟨#[116, 111, 112]⟩ : ByteArray), nn v2]) (hv : v1 < 128) (hv2 : v2 < 128) (he : e1 < 128) : Calls Tryz.prog 48 #[nn 3, .bool true, .func (.func 58) #[] #[.pointer (some ⟨xb, 0, none⟩)]] w (Ret fun v w' => ∃ m' A' c', v = .tuple #[.slice A' ((((((0 + 1) + 1 + 1) + 1) + 1) + 3) + 1) c', nn 0] ∧ Fr no m w m' w' ∧ Sl m' A' ((((((0 + 1) + 1 + 1) + 1) + 1) + 3) + 1) c' 1 (bv (((((((([]) ++ ([UInt8.ofNat 3])) ++ ([UInt8.ofNat v1])) ++ ([UInt8.ofNat e1])) ++ ([UInt8.ofNat 1])) ++ ([UInt8.ofNat 3])) ++ ([116, 111, 112])) ++ ([UInt8.ofNat v2])))) := by
 refine enter Tryz.func48 rfl (fun i0 hT x0 => ?_)
 have b0 : i0.tmps.size = 26 := by rw [hT]; kernel_rfl
 have T0 : i0.tmps.getD 0 undef = nn 3 := by rw [hT]; kernel_rfl
 have U0 : i0.tmps.getD 1 undef = .bool true := by rw [hT]; kernel_rfl
 have V0 : i0.tmps.getD 2 undef = .func (.func 58) #[] #[.pointer (some ⟨xb, 0, none⟩)] := by rw [hT]; kernel_rfl
 clear hT
 have cu0 : Fr (no) m w m w := Fr.refl ag
 have lt_xb := hmX.lt
 refine sk fun _ y0 => rn <| gv (r_assign (v := .slice none 0 0) rfl) <| gv (r_assign (v := nn 0) rfl) <| nl <| y0 <| sk fun _ A0 => sk fun _ B0 => rn <| mw b0 U0 <| gv (r_not (eh b0 rfl)) <| nl <| B0 <| cf (eh b0 rfl) <| ws <| A0 <| sk fun _ D0 => rn <| gv (r_build (cs := [.slice none 0 0]) pm_nil (by kernel_rfl)) <| gk (k_box (L := [.slice none 0 0]) ag (eh b0 rfl) (by kernel_rfl) (fun A1 j0 q0 g0 g1 => ?_))
 have o1 := g0.size
 have j1 := q0.lt
 refine ms b0 rfl <| nl <| D0 <| sk fun _ z0 => rn <| mv b0 rfl <| nc b0 rfl <| gv (r_field (o' := 0) (eh b0 rfl) fo_125_0 (by rfl)) <| mw b0 T0 <| gk (k_lit (e := 3) (L := [nn 3]) g0.ag (pm_cons (eh b0 rfl) pm_nil) (by kernel_rfl) (fun h0 n0 p0 d0 d1 => ?_))
 have p1 := d0.size
 have i1 := p0.lt
 obtain ⟨c0, r0⟩ := p0.fz d0.ag
 generalize cput m n0 _ = R0 at c0 r0
 have q1 := c0.size
 have O0 : Sl R0 (some ⟨n0, 0, none⟩) 1 1 1 ([nn 3]) := Sl.of (k := 1) r0 (by kernel_rfl) (by kernel_rfl) (by decide) (by decide)
 have F0 := ((q0.f0 d0).f1 c0 (by omega))
 refine gk (k_cl (f52_s c0.ag (β := h0.heap.size) (X0 := []) F0 (Own.nil _ _ _ _ _) (by omega) (by omega) (by omega) O0 (by omega)) rfl fn_52 (map_cons (eh b0 rfl) (map_cons (eh b0 rfl) map_nil)) (fun u1 y1 L0 => ?_))
 obtain ⟨k1, W0, Z0, e0, I0, l0⟩ := L0
 have r1 := e0.size
 have b1 : (([]) ++ ([UInt8.ofNat 3]) : List UInt8).length = 0 + 1 := (Own.blen l0)
 have m1 := l0.nilc
 refine nl <| z0 <| sk fun _ C0 => rn <| mw b0 V0 <| mv b0 rfl ?_
 have Q0 := Fr.ll (Fr.ll (Fr.l2 g0 d0) c0) e0
 have P0 := hL.le Q0
 have w0 := g0.t0 d0
 have G0 := ((hmX.f0 w0).f1 c0 (by omega)).fs e0 (fun h => h.elim (show xb ≠ j0 from by omega) (show ¬ h0.heap.size ≤ xb from by omega))
 have H0 := G0
 refine gk (k_callv (eh b0 rfl) fn_58 (map_cons (eh b0 rfl) map_nil) (f58 e0.ag (β := h0.heap.size) (X0 := ([]) ++ ([UInt8.ofNat 3])) I0 l0 (by omega) (by omega) (by omega) H0 (by omega) (by omega) P0 (by omega) (by omega) (by omega)) (fun w1 z1 M0 => ?_))
 obtain ⟨l1, Y0, a1, k0, J0, m0⟩ := M0
 have s1 := k0.size
 have c1 : (((((((([]) ++ ([UInt8.ofNat 3])) ++ ([UInt8.ofNat v1])) ++ ([UInt8.ofNat e1])) ++ ([UInt8.ofNat 1])) ++ ([UInt8.ofNat 3])) ++ ([116, 111, 112])) ++ ([UInt8.ofNat v2]) : List UInt8).length = (((((0 + 1) + 1 + 1) + 1) + 1) + 3) + 1 := (Own.blen m0)
 have n1 := m0.nilc
 refine nl <| C0 <| sk fun _ E0 => rn <| mv b0 rfl <| nc b0 rfl <| gv (r_field (o' := 0) (eh b0 rfl) fo_125_0 (by rfl)) <| gk (k_cl (f100 k0.ag J0 m0 (by omega) (by omega) (by omega) (by omega)) rfl fn_100 (map_cons (eh b0 rfl) map_nil) (fun x1 B1 N0 => ?_))
 obtain ⟨S0, s0, v0, rfl, o0, K0⟩ := N0
 have t1 := o0.size
 refine ms b0 rfl <| gv (r_assign (v := nn 0) rfl) <| nl <| E0 <| wp_ret <| ret_of (res2 rfl _ _ (gh b0 rfl) (gh b0 rfl)) ((ov_defers _ _).trans x0) ?_
 exact ⟨S0, s0, v0, rfl, ((((((cu0.t0 g0).t0 d0).tn c0 (by omega)).tr e0 (fun x hx => hx.elim (fun h1 => .inl (by have h_ : x = j0 := h1; omega)) (fun h1 => .inl (by have h_ : h0.heap.size ≤ x := h1; omega)))).tr k0 (fun x hx => hx.elim (fun h1 => .inl (by have h_ : x = j0 := h1; omega)) (fun h1 => .inl (by have h_ : h0.heap.size ≤ x := h1; omega)))).tg o0 (by omega)), K0⟩

theorem f24 {m : Ctx} {w : World} (ag : Ag m w) {v1 v2 e1 lc : Nat} {L : Option Addr} (hL : Sl m L 1 lc 2 [.string (⟨#[116, 111, 112]⟩ : ByteArray), nn v2]) (hv : v1 < 128) (hv2 : v2 < 128) (he : e1 < 128) (hv1 : 1 ≤ v1) (hv3 : 1 ≤ v2) : Calls Tryz.prog 24 #[.agg ([nn v1, nn e1, .slice L 1 lc]).toArray] w (Ret fun v w' => ∃ m' A' c', v = .tuple #[.slice A' ((((((0 + 1) + 1 + 1) + 1) + 1) + 3) + 1) c', nn 0] ∧ Fr no m w m' w' ∧ Sl m' A' ((((((0 + 1) + 1 + 1) + 1) + 1) + 3) + 1) c' 1 (bv (((((((([]) ++ ([UInt8.ofNat 3])) ++ ([UInt8.ofNat v1])) ++ ([UInt8.ofNat e1])) ++ ([UInt8.ofNat 1])) ++ ([UInt8.ofNat 3])) ++ ([116, 111, 112])) ++ ([UInt8.ofNat v2])))) := by
 refine enter Tryz.func24 rfl (fun h0 hT m0 => ?_)
 have b0 : h0.tmps.size = 10 := by rw [hT]; kernel_rfl
 have v0 : h0.tmps.getD 0 undef = .agg ([nn v1, nn e1, .slice L 1 lc]).toArray := by rw [hT]; kernel_rfl
 clear hT
 have cu0 : Fr (no) m w m w := Fr.refl ag
 refine sk fun _ n0 => rn <| gk (k_box (L := [nn v1, nn e1, .slice L 1 lc]) ag (em b0 rfl rfl v0) (by kernel_rfl) (fun I0 w0 e0 d0 y0 => ?_))
 have D0 := d0.size
 have z0 := e0.lt
 refine gv (r_assign (v := .slice none 0 0) rfl) <| gv (r_assign (v := nn 0) rfl) <| nl <| n0 <| sk fun _ o0 => rn <| gv (lb (cs := [nn v1, nn e1, .slice L 1 lc]) (eh b0 rfl) e0.bk qr_56 sz_56) ?_
 have l0 := (hL.up d0)
 refine gk (k_cl (f57 d0.ag l0 (by omega) (by omega) (by omega) (by omega) (by omega)) rfl fn_57 (map_cons (eh b0 rfl) map_nil) (fun F0 G0 q0 => ?_))
 obtain ⟨A0, rfl, c0⟩ := q0
 have B0 := c0.size
 refine gv (r_makeFunc map_nil (map_cons (eh b0 rfl) map_nil)) ?_
 have s0 := (l0.up c0)
 have p0 := (e0.f0 c0)
 refine gk (k_cl (f48_58 c0.ag p0 s0 (by omega) (by omega) (by omega)) rfl fn_48 (map_cons (v := nn 3) rfl (map_cons (eh b0 rfl) (map_cons (eh b0 rfl) map_nil))) (fun E0 H0 r0 => ?_))
 obtain ⟨u0, g0, i0, rfl, j0, k0⟩ := r0
 have C0 := j0.size
 have x0 : (((((((([]) ++ ([UInt8.ofNat 3])) ++ ([UInt8.ofNat v1])) ++ ([UInt8.ofNat e1])) ++ ([UInt8.ofNat 1])) ++ ([UInt8.ofNat 3])) ++ ([116, 111, 112])) ++ ([UInt8.ofNat v2]) : List UInt8).length = (((((0 + 1) + 1 + 1) + 1) + 1) + 3) + 1 := (Sl.blen k0)
 refine gv (r_extract (v := .slice g0 ((((((0 + 1) + 1 + 1) + 1) + 1) + 3) + 1) i0) (eh b0 rfl) (by kernel_rfl)) <| gv (r_extract (v := nn 0) (eh b0 rfl) (by kernel_rfl)) <| ms b0 rfl <| ms b0 rfl <| nl <| o0 <| wp_ret <| ret_of (res2 rfl _ _ (gh b0 rfl) (gh b0 rfl)) ((ov_defers _ _).trans m0) ?_
 exact ⟨u0, g0, i0, rfl, (((cu0.t0 d0).t0 c0).t0 j0), k0⟩

theorem f48_62 {m : Ctx} {w : World} (ag : Ag m w) {v1 e1 s1 : Nat} {h1 : Bytes} {xb : Nat} (hmX : Mu m w xb 53 ([nn v1, nn e1, nn s1] ++ (hc h1))) (hv : v1 < 128) (he : e1 < 128) (hs : s1 < 128) : Calls Tryz.prog 48 #[nn 2, .bool true, .func (.func 62) #[] #[.pointer (some ⟨xb, 0, none⟩)]] w (Ret fun v w' => ∃ m' A' c', v = .tuple #[.slice A' (((0 + 1) + 1 + 1 + 1) + 32) c', nn 0] ∧ Fr no m w m' w' ∧ Sl m' A' (((0 + 1) + 1 + 1 + 1) + 32) c' 1 (bv (((((([]) ++ ([UInt8.ofNat 2])) ++ ([UInt8.ofNat v1])) ++ ([UInt8.ofNat e1])) ++ ([UInt8.ofNat s1])) ++ (n32 h1)))) := by
 refine enter Tryz.func48 rfl (fun g0 hT x0 => ?_)
 have b0 : g0.tmps.size = 26 := by rw [hT]; kernel_rfl
 have R0 : g0.tmps.getD 0 undef = nn 2 := by rw [hT]; kernel_rfl
 have S0 : g0.tmps.getD 1 undef = .bool true := by rw [hT]; kernel_rfl
 have T0 : g0.tmps.getD 2 undef = .func (.func 62) #[] #[.pointer (some ⟨xb, 0, none⟩)] := by rw [hT]; kernel_rfl
 clear hT
 have cu0 : Fr (no) m w m w := Fr.refl ag
 have lt_xb := hmX.lt
 refine sk fun _ y0 => rn <| gv (r_assign (v := .slice none 0 0) rfl) <| gv (r_assign (v := nn 0) rfl) <| nl <| y0 <| sk fun _ A0 => sk fun _ B0 => rn <| mw b0 S0 <| gv (r_not (eh b0 rfl)) <| nl <| B0 <| cf (eh b0 rfl) <| ws <| A0 <| sk fun _ D0 => rn <| gv (r_build (cs := [.slice none 0 0]) pm_nil (by kernel_rfl)) <| gk (k_box (L := [.slice none 0 0]) ag (eh b0 rfl) (by kernel_rfl) (fun z1 j0 q0 i0 c1 => ?_))
 have m1 := i0.size
 have g1 := q0.lt
 refine ms b0 rfl <| nl <| D0 <| sk fun _ z0 => rn <| mv b0 rfl <| nc b0 rfl <| gv (r_field (o' := 0) (eh b0 rfl) fo_125_0 (by rfl)) <| mw b0 R0 <| gk (k_lit (e := 3) (L := [nn 2]) i0.ag (pm_cons (eh b0 rfl) pm_nil) (by kernel_rfl) (fun e0 n0 p0 d0 b1 => ?_))
 have n1 := d0.size
 have d1 := p0.lt
 obtain ⟨c0, r0⟩ := p0.fz d0.ag
 generalize cput m n0 _ = P0 at c0 r0
 have o1 := c0.size
 have O0 : Sl P0 (some ⟨n0, 0, none⟩) 1 1 1 ([nn 2]) := Sl.of (k := 1) r0 (by kernel_rfl) (by kernel_rfl) (by decide) (by decide)
 have F0 := ((q0.f0 d0).f1 c0 (by omega))
 refine gk (k_cl (f52_s c0.ag (β := e0.heap.size) (X0 := []) F0 (Own.nil _ _ _ _ _) (by omega) (by omega) (by omega) O0 (by omega)) rfl fn_52 (map_cons (eh b0 rfl) (map_cons (eh b0 rfl) map_nil)) (fun t1 x1 L0 => ?_))
 obtain ⟨i1, U0, W0, h0, I0, l0⟩ := L0
 have p1 := h0.size
 have Z0 : (([]) ++ ([UInt8.ofNat 2]) : List UInt8).length = 0 + 1 := (Own.blen l0)
 have k1 := l0.nilc
 refine nl <| z0 <| sk fun _ C0 => rn <| mw b0 T0 <| mv b0 rfl ?_
 have w0 := i0.t0 d0
 have G0 := ((hmX.f0 w0).f1 c0 (by omega)).fs h0 (fun h => h.elim (show xb ≠ j0 from by omega) (show ¬ e0.heap.size ≤ xb from by omega))
 have H0 := G0
 refine gk (k_callv (eh b0 rfl) fn_62 (map_cons (eh b0 rfl) map_nil) (f62 h0.ag (β := e0.heap.size) (X0 := ([]) ++ ([UInt8.ofNat 2])) I0 l0 (by omega) (by omega) (by omega) H0 (by omega) (by omega) (by omega) (by omega) (by omega)) (fun u1 y1 M0 => ?_))
 obtain ⟨j1, V0, Y0, k0, J0, m0⟩ := M0
 have q1 := k0.size
 have a1 : (((((([]) ++ ([UInt8.ofNat 2])) ++ ([UInt8.ofNat v1])) ++ ([UInt8.ofNat e1])) ++ ([UInt8.ofNat s1])) ++ (n32 h1) : List UInt8).length = ((0 + 1) + 1 + 1 + 1) + 32 := (Own.blen m0)
 have l1 := m0.nilc
 refine nl <| C0 <| sk fun _ E0 => rn <| mv b0 rfl <| nc b0 rfl <| gv (r_field (o' := 0) (eh b0 rfl) fo_125_0 (by rfl)) <| gk (k_cl (f100 k0.ag J0 m0 (by omega) (by omega) (by omega) (by omega)) rfl fn_100 (map_cons (eh b0 rfl) map_nil) (fun w1 A1 N0 => ?_))
 obtain ⟨Q0, s0, v0, rfl, o0, K0⟩ := N0
 have r1 := o0.size
 refine ms b0 rfl <| gv (r_assign (v := nn 0) rfl) <| nl <| E0 <| wp_ret <| ret_of (res2 rfl _ _ (gh b0 rfl) (gh b0 rfl)) ((ov_defers _ _).trans x0) ?_
 exact ⟨Q0, s0, v0, rfl, ((((((cu0.t0 i0).t0 d0).tn c0 (by omega)).tr h0 (fun x hx => hx.elim (fun h1 => .inl (by have h_ : x = j0 := h1; omega)) (fun h1 => .inl (by have h_ : e0.heap.size ≤ x := h1; omega)))).tr k0 (fun x hx => hx.elim (fun h1 => .inl (by have h_ : x = j0 := h1; omega)) (fun h1 => .inl (by have h_ : e0.heap.size ≤ x := h1; omega)))).tg o0 (by omega)), K0⟩

theorem f25 {m : Ctx} {w : World} (ag : Ag m w) {v1 e1 s1 : Nat} {h1 : Bytes} (hv : v1 < 128) (he : e1 < 128) (hs : s1 < 128) (hv1 : 1 ≤ v1) (hs1 : 1 ≤ s1) : Calls Tryz.prog 25 #[.agg ([nn v1, nn e1, nn s1] ++ (hc h1)).toArray] w (Ret fun v w' => ∃ m' A' c', v = .tuple #[.slice A' (((0 + 1) + 1 + 1 + 1) + 32) c', nn 0] ∧ Fr no m w m' w' ∧ Sl m' A' (((0 + 1) + 1 + 1 + 1) + 32) c' 1 (bv (((((([]) ++ ([UInt8.ofNat 2])) ++ ([UInt8.ofNat v1])) ++ ([UInt8.ofNat e1])) ++ ([UInt8.ofNat s1])) ++ (n32 h1)))) := by
 refine enter Tryz.func25 rfl (fun h0 hT l0 => ?_)
 have b0 : h0.tmps.size = 10 := by rw [hT]; kernel_rfl
 have s0 : h0.tmps.getD 0 undef = .agg ([nn v1, nn e1, nn s1] ++ (hc h1)).toArray := by rw [hT]; kernel_rfl
 clear hT
 have cu0 : Fr (no) m w m w := Fr.refl ag
 refine sk fun _ m0 => rn <| gk (k_box (L := [nn v1, nn e1, nn s1] ++ (hc h1)) ag (em b0 rfl rfl s0) (by kernel_rfl) (fun G0 u0 e0 d0 w0 => ?_))
 have B0 := d0.size
 have x0 := e0.lt
 refine gv (r_assign (v := .slice none 0 0) rfl) <| gv (r_assign (v := nn 0) rfl) <| nl <| m0 <| sk fun _ n0 => rn <| gv (lb (cs := [nn v1, nn e1, nn s1] ++ (hc h1)) (eh b0 rfl) e0.bk qr_53 sz_53) <| gk (k_cl (f61 d0.ag (by omega) (by omega) (by omega) (by omega) (by omega)) rfl fn_61 (map_cons (eh b0 rfl) map_nil) (fun D0 E0 p0 => ?_))
 obtain ⟨y0, rfl, c0⟩ := p0
 have z0 := c0.size
 refine gv (r_makeFunc map_nil (map_cons (eh b0 rfl) map_nil)) ?_
 have o0 := (e0.f0 c0)
 refine gk (k_cl (f48_62 c0.ag o0 (by omega) (by omega) (by omega)) rfl fn_48 (map_cons (v := nn 2) rfl (map_cons (eh b0 rfl) (map_cons (eh b0 rfl) map_nil))) (fun C0 F0 q0 => ?_))
 obtain ⟨r0, g0, i0, rfl, j0, k0⟩ := q0
 have A0 := j0.size
 have v0 : (((((([]) ++ ([UInt8.ofNat 2])) ++ ([UInt8.ofNat v1])) ++ ([UInt8.ofNat e1])) ++ ([UInt8.ofNat s1])) ++ (n32 h1) : List UInt8).length = ((0 + 1) + 1 + 1 + 1) + 32 := (Sl.blen k0)
 refine gv (r_extract (v := .slice g0 (((0 + 1) + 1 + 1 + 1) + 32) i0) (eh b0 rfl) (by kernel_rfl)) <| gv (r_extract (v := nn 0) (eh b0 rfl) (by kernel_rfl)) <| ms b0 rfl <| ms b0 rfl <| nl <| n0 <| wp_ret <| ret_of (res2 rfl _ _ (gh b0 rfl) (gh b0 rfl)) ((ov_defers _ _).trans l0) ?_
 exact ⟨r0, g0, i0, rfl, (((cu0.t0 d0).t0 c0).t0 j0), k0⟩

theorem f48_50 {m : Ctx} {w : World} (ag : Ag m w) {v1 e1 : Nat} {xb : Nat} (hmX : Mu m w xb 82 ([.string (⟨#[116, 111, 112]⟩ : ByteArray), nn v1, nn e1, .slice none 0 0, .slice none 0 0])) (hv : v1 < 128) (he : e1 < 128) : Calls Tryz.prog 48 #[nn 4, .bool true, .func (.func 50) #[] #[.pointer (some ⟨xb, 0, none⟩)]] w (Ret fun v w' => ∃ m' A' c', v = .tuple #[.slice A' ((((((0 + 1) + 1) + 3) + 1 + 1) + 1) + 1) c', nn 0] ∧ Fr no m w m' w' ∧ Sl m' A' ((((((0 + 1) + 1) + 3) + 1 + 1) + 1) + 1) c' 1 (bv (((((((([]) ++ ([UInt8.ofNat 4])) ++ ([UInt8.ofNat 3])) ++ ([116, 111, 112])) ++ ([UInt8.ofNat v1])) ++ ([UInt8.ofNat e1])) ++ ([UInt8.ofNat 0])) ++ ([UInt8.ofNat 0])))) := by
 refine enter Tryz.func48 rfl (fun g0 hT x0 => ?_)
 have b0 : g0.tmps.size = 26 := by rw [hT]; kernel_rfl
 have R0 : g0.tmps.getD 0 undef = nn 4 := by rw [hT]; kernel_rfl
 have S0 : g0.tmps.getD 1 undef = .bool true := by rw [hT]; kernel_rfl
 have T0 : g0.tmps.getD 2 undef = .func (.func 50) #[] #[.pointer (some ⟨xb, 0, none⟩)] := by rw [hT]; kernel_rfl
 clear hT
 have cu0 : Fr (no) m w m w := Fr.refl ag
 have lt_xb := hmX.lt
 refine sk fun _ y0 => rn <| gv (r_assign (v := .slice none 0 0) rfl) <| gv (r_assign (v := nn 0) rfl) <| nl <| y0 <| sk fun _ A0 => sk fun _ B0 => rn <| mw b0 S0 <| gv (r_not (eh b0 rfl)) <| nl <| B0 <| cf (eh b0 rfl) <| ws <| A0 <| sk fun _ D0 => rn <| gv (r_build (cs := [.slice none 0 0]) pm_nil (by kernel_rfl)) <| gk (k_box (L := [.slice none 0 0]) ag (eh b0 rfl) (by kernel_rfl) (fun y1 j0 q0 i0 c1 => ?_))
 have m1 := i0.size
 have g1 := q0.lt
 refine ms b0 rfl <| nl <| D0 <| sk fun _ z0 => rn <| mv b0 rfl <| nc b0 rfl <| gv (r_field (o' := 0) (eh b0 rfl) fo_125_0 (by rfl)) <| mw b0 R0 <| gk (k_lit (e := 3) (L := [nn 4]) i0.ag (pm_cons (eh b0 rfl) pm_nil) (by kernel_rfl) (fun e0 n0 p0 d0 b1 => ?_))
 have n1 := d0.size
 have d1 := p0.lt
 obtain ⟨c0, r0⟩ := p0.fz d0.ag
 generalize cput m n0 _ = P0 at c0 r0
 have o1 := c0.size
 have O0 : Sl P0 (some ⟨n0, 0, none⟩) 1 1 1 ([nn 4]) := Sl.of (k := 1) r0 (by kernel_rfl) (by kernel_rfl) (by decide) (by decide)
 have F0 := ((q0.f0 d0).f1 c0 (by omega))
 refine gk (k_cl (f52_s c0.ag (β := e0.heap.size) (X0 := []) F0 (Own.nil _ _ _ _ _) (by omega) (by omega) (by omega) O0 (by omega)) rfl fn_52 (map_cons (eh b0 rfl) (map_cons (eh b0 rfl) map_nil)) (fun s1 w1 L0 => ?_))
 obtain ⟨i1, U0, W0, h0, I0, l0⟩ := L0
 have p1 := h0.size
 have Z0 : (([]) ++ ([UInt8.ofNat 4]) : List UInt8).length = 0 + 1 := (Own.blen l0)
 have k1 := l0.nilc
 refine nl <| z0 <| sk fun _ C0 => rn <| mw b0 T0 <| mv b0 rfl ?_
 have w0 := i0.t0 d0
 have G0 := ((hmX.f0 w0).f1 c0 (by omega)).fs h0 (fun h => h.elim (show xb ≠ j0 from by omega) (show ¬ e0.heap.size ≤ xb from by omega))
 have H0 := G0
 refine gk (k_callv (eh b0 rfl) fn_50 (map_cons (eh b0 rfl) map_nil) (f50 h0.ag (β := e0.heap.size) (X0 := ([]) ++ ([UInt8.ofNat 4])) I0 l0 (by omega) (by omega) (by omega) H0 (by omega) (by omega) (by omega) (by omega)) (fun t1 x1 M0 => ?_))
 obtain ⟨j1, V0, Y0, k0, J0, m0⟩ := M0
 have q1 := k0.size
 have a1 : (((((((([]) ++ ([UInt8.ofNat 4])) ++ ([UInt8.ofNat 3])) ++ ([116, 111, 112])) ++ ([UInt8.ofNat v1])) ++ ([UInt8.ofNat e1])) ++ ([UInt8.ofNat 0])) ++ ([UInt8.ofNat 0]) : List UInt8).length = (((((0 + 1) + 1) + 3) + 1 + 1) + 1) + 1 := (Own.blen m0)
 have l1 := m0.nilc
 refine nl <| C0 <| sk fun _ E0 => rn <| mv b0 rfl <| nc b0 rfl <| gv (r_field (o' := 0) (eh b0 rfl) fo_125_0 (by rfl)) <| gk (k_cl (f100 k0.ag J0 m0 (by omega) (by omega) (by omega) (by omega)) rfl fn_100 (map_cons (eh b0 rfl) map_nil) (fun u1 z1 N0 => ?_))
 obtain ⟨Q0, s0, v0, rfl, o0, K0⟩ := N0
 have r1 := o0.size
 refine ms b0 rfl <| gv (r_assign (v := nn 0) rfl) <| nl <| E0 <| wp_ret <| ret_of (res2 rfl _ _ (gh b0 rfl) (gh b0 rfl)) ((ov_defers _ _).trans x0) ?_
 exact ⟨Q0, s0, v0, rfl, ((((((cu0.t0 i0).t0 d0).tn c0 (by omega)).tr h0 (fun x hx => hx.elim (fun h1 => .inl (by have h_ : x = j0 := h1; omega)) (fun h1 => .inl (by have h_ : e0.heap.size ≤ x := h1; omega)))).tr k0 (fun x hx => hx.elim (fun h1 => .inl (by have h_ : x = j0 := h1; omega)) (fun h1 => .inl (by have h_ : e0.heap.size ≤ x := h1; omega)))).tg o0 (by omega)), K0⟩

theorem f23 {m : Ctx} {w : World} (ag : Ag m w) {v1 e1 : Nat} (hv : v1 < 128) (he : e1 < 128) (hv1 : 1 ≤ v1) : Calls Tryz.prog 23 #[.agg ([.string (⟨#[116, 111, 112]⟩ : ByteArray), nn v1, nn e1, .slice none 0 0, .slice none 0 0]).toArray] w (Ret fun v w' => ∃ m' A' c', v = .tuple #[.slice A' ((((((0 + 1) + 1) + 3) + 1 + 1) + 1) + 1) c', nn 0] ∧ Fr no m w m' w' ∧ Sl m' A' ((((((0 + 1) + 1) + 3) + 1 + 1) + 1) + 1) c' 1 (bv (((((((([]) ++ ([UInt8.ofNat 4])) ++ ([UInt8.ofNat 3])) ++ ([116, 111, 112])) ++ ([UInt8.ofNat v1])) ++ ([UInt8.ofNat e1])) ++ ([UInt8.ofNat 0])) ++ ([UInt8.ofNat 0])))) := by
 refine enter Tryz.func23 rfl (fun h0 hT l0 => ?_)
 have b0 : h0.tmps.size = 10 := by rw [hT]; kernel_rfl
 have s0 : h0.tmps.getD 0 undef = .agg ([.string (⟨#[116, 111, 112]⟩ : ByteArray), nn v1, nn e1, .slice none 0 0, .slice none 0 0]).toArray := by rw [hT]; kernel_rfl
 clear hT
 have cu0 : Fr (no) m w m w := Fr.refl ag
 refine sk fun _ m0 => rn <| gk (k_box (L := [.string (⟨#[116, 111, 112]⟩ : ByteArray), nn v1, nn e1, .slice none 0 0, .slice none 0 0]) ag (em b0 rfl rfl s0) (by kernel_rfl) (fun G0 u0 e0 d0 w0 => ?_))
 have B0 := d0.size
 have x0 := e0.lt
 refine gv (r_assign (v := .slice none 0 0) rfl) <| gv (r_assign (v := nn 0) rfl) <| nl <| m0 <| sk fun _ n0 => rn <| gv (lb (cs := [.string (⟨#[116, 111, 112]⟩ : ByteArray), nn v1, nn e1, .slice none 0 0, .slice none 0 0]) (eh b0 rfl) e0.bk qr_82 sz_82) <| gk (k_cl (f49 d0.ag (by omega) (by omega) (by omega)) rfl fn_49 (map_cons (eh b0 rfl) map_nil) (fun D0 E0 p0 => ?_))
 obtain ⟨y0, rfl, c0⟩ := p0
 have z0 := c0.size
 refine gv (r_makeFunc map_nil (map_cons (eh b0 rfl) map_nil)) ?_
 have o0 := (e0.f0 c0)
 refine gk (k_cl (f48_50 c0.ag o0 (by omega) (by omega)) rfl fn_48 (map_cons (v := nn 4) rfl (map_cons (eh b0 rfl) (map_cons (eh b0 rfl) map_nil))) (fun C0 F0 q0 => ?_))
 obtain ⟨r0, g0, i0, rfl, j0, k0⟩ := q0
 have A0 := j0.size
 have v0 : (((((((([]) ++ ([UInt8.ofNat 4])) ++ ([UInt8.ofNat 3])) ++ ([116, 111, 112])) ++ ([UInt8.ofNat v1])) ++ ([UInt8.ofNat e1])) ++ ([UInt8.ofNat 0])) ++ ([UInt8.ofNat 0]) : List UInt8).length = (((((0 + 1) + 1) + 3) + 1 + 1) + 1) + 1 := (Sl.blen k0)
 refine gv (r_extract (v := .slice g0 ((((((0 + 1) + 1) + 3) + 1 + 1) + 1) + 1) i0) (eh b0 rfl) (by kernel_rfl)) <| gv (r_extract (v := nn 0) (eh b0 rfl) (by kernel_rfl)) <| ms b0 rfl <| ms b0 rfl <| nl <| n0 <| wp_ret <| ret_of (res2 rfl _ _ (gh b0 rfl) (gh b0 rfl)) ((ov_defers _ _).trans l0) ?_
 exact ⟨r0, g0, i0, rfl, (((cu0.t0 d0).t0 c0).t0 j0), k0⟩

end Go.Proofs.YtiggfalelcepbaaGreatDoor

/- The walks of the readers of chapter 1. -/
import Derived.Test.YtiggfalelcepbaaGreatDoorK7
import Derived.Test.YtiggfalelcepbaaGreatDoorSX
import Derived.Test.YtiggfalelcepbaaGreatDoorW12
import Derived.Test.YtiggfalelcepbaaGreatDoorTX
namespace Go.Proofs.YtiggfalelcepbaaGreatDoor
open Go
set_option maxRecDepth 100000
set_option maxHeartbeats 4000000
theorem f144 {m : Ctx} {w : World} (ag : Ag m w) {rb n c k : Nat} {A : Option Addr} {y Z : Bytes} (hmR : Mu m w rb 208 [.slice A n c, .bool false]) (hA : Sl m A n c 1 (bv (y ++ Z))) (hy : y.length = k) (hk : k ≤ n) (hn : n < 1048576) : Calls Tryz.prog 144 #[.pointer (some ⟨rb, 0, none⟩), nn k] w (Ret fun v w' => ∃ m' A1 c1 A2 c2, v = .slice A1 k c1 ∧ Fr (on rb) m w m' w' ∧ Mu m' w' rb 208 [.slice A2 (n - k) c2, .bool false] ∧ Sl m' A1 k c1 1 (bv y) ∧ Sl m' A2 (n - k) c2 1 (bv Z)) := by
 refine enter Tryz.func144 rfl (fun k0 hT x0 => ?_)
 have b0 : k0.tmps.size = 41 := by rw [hT]; kernel_rfl
 have h0 : k0.tmps.getD 0 undef = .pointer (some ⟨rb, 0, none⟩) := by rw [hT]; kernel_rfl
 have j0 : k0.tmps.getD 1 undef = nn k := by rw [hT]; kernel_rfl
 clear hT
 have cu0 : Fr (on rb) m w m w := Fr.refl ag
 have lt_rb := hmR.lt
 refine sk fun _ y0 => rn <| gv (r_assign (v := .slice none 0 0) rfl) <| nl <| y0 <| sk fun _ z0 => sk fun _ B0 => rn <| mw b0 j0 <| gv (r_lss (j := 0) (eh b0 rfl) rfl) <| mv b0 rfl ?_
 have c0 : (decide (k < 0)) = false := (decide_eq_false (by omega))
 refine sg (t := 8) rfl rfl b0 (eb b0 rfl c0) (kv (r_move (em b0 rfl rfl j0)) ?_)
 refine sg (t := 8) rfl rfl b0 (eb b0 rfl c0) (kv (r_move (em b0 rfl rfl h0)) ?_)
 refine sg (t := 8) rfl rfl b0 (eb b0 rfl c0) (kv (r_nilCheck (eh b0 rfl)) ?_)
 refine sg (t := 8) rfl rfl b0 (eb b0 rfl c0) (kv (r_field (o' := 0) (eh b0 rfl) fo_208_0 (by rfl)) ?_)
 refine sg (t := 8) rfl rfl b0 (eb b0 rfl c0) (kv (la (v := .slice A n c) (eh b0 rfl) hmR.bk qr_38) ?_)
 refine sg (t := 8) rfl rfl b0 (eb b0 rfl c0) (kv (r_lenS (eh b0 rfl) rfl qu_38) ?_)
 refine sg (t := 8) rfl rfl b0 (eb b0 rfl c0) (kv (r_gtr (eh b0 rfl) (eh b0 rfl)) ?_)
 refine gv (r_pick_f (eb b0 rfl c0) (eh b0 rfl)) <| nl <| B0 ?_
 have H0 : (decide (n < k)) = false := (decide_eq_false (by omega))
 refine cf (eb b0 rfl H0) <| ws <| z0 <| sk fun _ D0 => sk fun _ E0 => rn <| mw b0 h0 <| nc b0 rfl <| gv (r_field (o' := 1) (eh b0 rfl) fo_208_1 (by rfl)) <| gv (la (v := .bool false) (eh b0 rfl) hmR.bk qr_4) <| nl <| E0 <| cf (eh b0 rfl) <| ws <| D0 <| sk fun _ F0 => rn <| gk (k_lit (e := 5) (L := []) ag pm_nil (by kernel_rfl) (fun Z0 O0 o0 d0 Q0 => ?_))
 have T0 := d0.size
 have R0 := o0.lt
 refine mw b0 h0 <| nc b0 rfl <| gv (r_field (o' := 0) (eh b0 rfl) fo_208_0 (by rfl)) ?_
 have m0 := (hmR.f0 d0)
 refine gv (la (v := .slice A n c) (eh b0 rfl) m0.bk qr_38) <| mw b0 j0 ?_
 have l0 := (hA.up d0)
 have q0 : Sl m (A) (k) (c) 1 (bv ((y ++ Z).take k)) := by have h_ := l0.hi (hi := k) (by omega); rw [bv_take] at h_; exact h_
 have I0 : ((y ++ Z).take k : List UInt8).length = k := (by rw [List.length_take, show (y ++ Z).length = n from (Sl.blen hA)]; omega)
 refine gv (r_sliceHi (n := n) (c := c) (hi := k) (eh b0 rfl) (eh b0 rfl) qs_38 (by have h_ := l0.cap; omega)) <| gk (k_append0 (base := w.heap.size) (N := bv ((y ++ Z).take k)) d0.ag (eh b0 rfl) (eh b0 rfl) qs_38 qz_5 (Own.of_mu o0 (by omega) (by kernel_rfl) (by decide)) (q0.src d0.ag) (q0.nilc) (by rw [bv_length, I0, Nat.mul_one]) (one_bv _) (by omega) (by decide) (by rw [maxLen_eq]; omega) (by omega) (fun u0 v0 X0 p0 e0 => ?_))
 have U0 := e0.size
 have S0 := p0.nilc
 refine ms b0 rfl <| nl <| F0 <| sk fun _ A0 => rn <| mw b0 h0 <| mw b0 h0 <| nc b0 rfl <| gv (r_field (o' := 0) (eh b0 rfl) fo_208_0 (by rfl)) ?_
 have n0 := (m0.fs e0 (show ¬ w.heap.size ≤ rb from by omega))
 refine gv (la (v := .slice A n c) (eh b0 rfl) n0.bk qr_38) <| mw b0 j0 ?_
 have r0 := (l0.up e0)
 have K0 : Sl m (sA A c k 1) (n - k) (c - k) 1 (bv ((y ++ Z).drop k)) := by have h_ := r0.lo (lo := k) (by omega); rw [bv_drop] at h_; exact h_
 have P0 : ((y ++ Z).drop k : List UInt8).length = n - k := (by rw [List.length_drop, show (y ++ Z).length = n from (Sl.blen hA)])
 refine gv (r_sliceLo (n := n) (c := c) (lo := k) (eh b0 rfl) (eh b0 rfl) qs_38 (by omega) r0.cap) <| nc b0 rfl <| gv (r_field (o' := 0) (eh b0 rfl) fo_208_0 (by rfl)) <| gz (kt (L' := [.slice (sA A c k 1) (n - k) (c - k), .bool false]) e0.ag (eh b0 rfl) (eh b0 rfl) n0 sz_38 (fun Y0 J0 g0 => ?_))
 have V0 := g0.size
 refine nl <| A0 <| sk fun _ C0 => rn <| mv b0 rfl <| ms b0 rfl <| nl <| C0 <| wp_ret <| ret_of (res1 rfl _ _ (gh b0 rfl)) ((ov_defers _ _).trans x0) ?_
 have s0 := (p0.f1 g0 (by omega))
 obtain ⟨N0, w0, L0⟩ := s0.fz g0.ag
 have i0 : Fr (ge w.heap.size) _ _ _ _ := w0.wk (fun x hx _ => s0.at x hx)
 have W0 := i0.size
 have M0 := ((K0.up g0).up i0)
 have G0 := (J0.fs i0 (show ¬ w.heap.size ≤ rb from by omega))
 exact ⟨N0, u0, v0, sA A c k 1, c - k, rfl, ((((cu0.t0 d0).tg e0 (by omega)).tr g0 (fun x hx => (by cases hx; exact .inr rfl))).tg i0 (by omega)), G0, (by have h_ := L0; rw [List.take_left' hy] at h_; exact h_), (by have h_ := M0; rw [List.drop_left' hy] at h_; exact h_)⟩

theorem f125_s {m : Ctx} {w : World} (ag : Ag m w) {rb n c v : Nat} {A : Option Addr} {Z : Bytes} (hmR : Mu m w rb 208 [.slice A n c, .bool false]) (hA : Sl m A n c 1 (bv ([UInt8.ofNat v] ++ Z))) (hv : v < 128) (h1 : 1 ≤ n) (hn : n < 1048576) : Calls Tryz.prog 125 #[.pointer (some ⟨rb, 0, none⟩)] w (Ret fun x w' => ∃ m' A2 c2, x = nn v ∧ Fr (on rb) m w m' w' ∧ Mu m' w' rb 208 [.slice A2 (n - 1) c2, .bool false] ∧ Sl m' A2 (n - 1) c2 1 (bv Z)) := by
 refine enter Tryz.func125 rfl (fun d0 hT j0 => ?_)
 have b0 : d0.tmps.size = 57 := by rw [hT]; kernel_rfl
 have g0 : d0.tmps.getD 0 undef = .pointer (some ⟨rb, 0, none⟩) := by rw [hT]; kernel_rfl
 clear hT
 have cu0 : Fr (on rb) m w m w := Fr.refl ag
 have lt_rb := hmR.lt
 refine sk fun _ k0 => rn <| gv (r_assign (v := nn 0) rfl) <| nl <| k0 <| sk fun _ l0 => rn <| gv (r_assign (v := nu 0) rfl) <| nl <| l0 <| sk fun _ Q0 => sk fun _ w0 => rn <| gv (r_assign (v := nn 0) rfl) <| nl <| w0 <| bl <| wp_unroll (n := 2) <| un_step (n := 1) <| sk fun _ A0 => sk fun _ B0 => rn <| mv b0 rfl <| gv (r_lss (j := 10) (eh b0 rfl) rfl) <| nl <| B0 <| cd b0 rfl <| ws <| A0 <| sk fun _ R0 => bl <| sk fun _ C0 => rn <| mw b0 g0 <| gk (k_cl (f144 ag (k := 1) (y := [UInt8.ofNat v]) (Z := Z) hmR hA rfl (by omega) (by omega)) rfl fn_144 (map_cons (eh b0 rfl) (map_cons (v := nn 1) rfl map_nil)) (fun V0 W0 H0 => ?_))
 obtain ⟨K0, M0, P0, h0, i0, rfl, c0, e0, F0, G0⟩ := H0
 have U0 := c0.size
 refine ms b0 rfl <| nl <| C0 <| sk fun _ m0 => sk fun _ n0 => rn <| mw b0 g0 <| nc b0 rfl <| gv (r_field (o' := 1) (eh b0 rfl) fo_208_1 (by rfl)) <| gv (la (v := .bool false) (eh b0 rfl) e0.bk qr_4) <| nl <| n0 <| cf (eh b0 rfl) <| ws <| m0 <| sk fun _ o0 => rn <| mv b0 rfl ?_
 obtain ⟨O0, L0, N0, rfl, I0, J0⟩ := F0.elem (by omega)
 refine gv (r_idxS (i := 0) (o' := L0 + 0) (eh b0 rfl) rfl qs_38 (by decide) (by omega)) ?_
 have T0 := num_small hv
 refine gv (r_load1 (v := u8 (([UInt8.ofNat v] : Bytes).getD 0 0)) (eh b0 rfl) (c0.ag _ _ I0) (at_sub J0 (bv_get (n := 1) rfl (by omega))) qr_5) <| ms b0 rfl <| nl <| o0 <| sk fun _ p0 => sk fun _ q0 => rn <| mv b0 rfl <| gv (r_eql (j := 9) (eh b0 rfl) rfl) <| mv b0 rfl <| sf (t := 22) (c := false) rfl rfl b0 (eb b0 rfl (by decide)) <| sf (t := 22) (c := false) rfl rfl b0 (eb b0 rfl (by decide)) <| gv (r_pick_f (v := .bool false) (eb b0 rfl (by decide)) rfl) <| nl <| q0 <| cf (eh b0 rfl) <| ws <| p0 <| sk fun _ r0 => sk fun _ s0 => rn <| mv b0 rfl <| gv (r_eql (j := 9) (eh b0 rfl) rfl) <| mv b0 rfl <| sf (t := 28) (c := false) rfl rfl b0 (eb b0 rfl (by decide)) <| sf (t := 28) (c := false) rfl rfl b0 (eb b0 rfl (by decide)) <| gv (r_pick_f (v := .bool false) (eb b0 rfl (by decide)) rfl) <| nl <| s0 <| cf (eh b0 rfl) <| ws <| r0 <| sk fun _ t0 => rn <| mv b0 rfl <| mv b0 rfl <| gv (r_and8 (e := 127) (eh b0 rfl) rfl) ?_
 have S0 : ((([UInt8.ofNat v] : Bytes).getD 0 0) &&& 127).toNat < 256 := UInt8.toNat_lt _
 refine gv (r_cv_8_u (c := (([UInt8.ofNat v] : Bytes).getD 0 0) &&& 127) (eh b0 rfl) qu_5 qu_151) <| mv b0 rfl <| gv (r_mul (i := 7) rfl (eh b0 rfl) (by decide)) <| gv (r_cv_n_u (i := 0) (eh b0 rfl) qu_3 qu_152 (by decide)) <| gv (r_shlU (eh b0 rfl) (eh b0 rfl) (by decide) (by omega)) <| gv (r_orU (eh b0 rfl) (eh b0 rfl) (by omega) (by omega)) <| ms b0 rfl <| nl <| t0 <| sk fun _ u0 => sk fun _ v0 => rn <| mv b0 rfl <| gv (r_gtr8 (e := 127) (eh b0 rfl) rfl) <| nl <| v0 ?_
 have D0 : (decide ((127 : UInt8) < ([UInt8.ofNat v] : Bytes).getD 0 0)) = false := (decide_eq_false (num_small2 hv))
 refine cf (eb b0 rfl D0) <| ws <| u0 <| sk fun _ x0 => sk fun _ y0 => rn <| mv b0 rfl <| gv (r_gtr (j := 0) (eh b0 rfl) rfl) <| mv b0 rfl <| sf (t := 45) (c := false) rfl rfl b0 (eb b0 rfl (by decide)) <| sf (t := 45) (c := false) rfl rfl b0 (eb b0 rfl (by decide)) <| gv (r_pick_f (v := .bool false) (eb b0 rfl (by decide)) rfl) <| mv b0 rfl <| sg (t := 49) rfl rfl b0 (eh b0 rfl) (kv (r_move (eh b0 rfl)) ?_)
 refine sg (t := 49) rfl rfl b0 (eh b0 rfl) (kv (r_gtrU (j := 4611686018427387904) (eh b0 rfl) rfl) ?_)
 refine gv (r_pick_f (eh b0 rfl) (eh b0 rfl)) <| nl <| y0 ?_
 have E0 : (decide (4611686018427387904 < 0 ||| ((((([UInt8.ofNat v] : Bytes).getD 0 0) &&& 127).toNat) * 2 ^ 0))) = false := (decide_eq_false (by omega))
 refine cf (eb b0 rfl E0) <| ws <| x0 <| sk fun _ z0 => rn <| mv b0 rfl <| gv (r_cv_u_n (i := 0 ||| ((((([UInt8.ofNat v] : Bytes).getD 0 0) &&& 127).toNat) * 2 ^ 0)) (eh b0 rfl) qu_151 qu_3 (by omega)) <| ms b0 rfl <| nl <| z0 <| wp_ret <| ret_of (res1 rfl _ _ (gh b0 rfl)) ((ov_defers _ _).trans j0) ?_
 exact ⟨K0, h0, i0, congrArg nn (num_small hv), (cu0.tr c0 (fun x hx => (by cases hx; exact .inr rfl))), e0, G0⟩

theorem f128 {m : Ctx} {w : World} (ag : Ag m w) {rb n c : Nat} {A : Option Addr} {Z : Bytes} {h1 : Bytes} (hmR : Mu m w rb 208 [.slice A n c, .bool false]) (hA : Sl m A n c 1 (bv (n32 h1 ++ (Z)))) (hlen : 32 ≤ n) (hn : n < 1048576) : Calls Tryz.prog 128 #[.pointer (some ⟨rb, 0, none⟩)] w (Ret fun x w' => ∃ m' A2 c2, x = H h1 ∧ Fr (on rb) m w m' w' ∧ Mu m' w' rb 208 [.slice A2 (n - 32) c2, .bool false] ∧ Sl m' A2 (n - 32) c2 1 (bv Z)) := by
 refine enter Tryz.func128 rfl (fun n0 hT y0 => ?_)
 have c0 : n0.tmps.size = 9 := by rw [hT]; kernel_rfl
 have U0 : n0.tmps.getD 0 undef = .pointer (some ⟨rb, 0, none⟩) := by rw [hT]; kernel_rfl
 clear hT
 have cu0 : Fr (on rb) m w m w := Fr.refl ag
 have lt_rb := hmR.lt
 refine sk fun _ z0 => rn <| gk (k_alloc ag qz_23 (fun l1 u0 p0 i0 Y0 => ?_))
 have d1 := i0.size
 have a1 := p0.lt
 refine nl <| z0 <| sk fun _ B0 => rn <| gk (k_alloc i0.ag qz_23 (fun j0 k0 o0 g0 X0 => ?_))
 have c1 := g0.size
 have Z0 := o0.lt
 refine nl <| B0 <| sk fun _ A0 => ?_
 have b0 : Fr no m j0 m { j0 with drawn := j0.drawn + 1 } := Fr.drw g0.ag
 obtain ⟨h0, q0⟩ : ∃ w_, w_ = ({ j0 with drawn := j0.drawn + 1 } : World) := ⟨_, rfl⟩
 rw [← q0] at b0
 have e1 := b0.size
 refine wp_region_T mixed (fun wz => ∃ mz, Fr (no) m h0 mz wz) (fun wz => ∃ mz, Fr (orS (on rb) (on k0)) m h0 mz wz) 2 ?_
 rw [← q0]
 show wpAnyT _ _ _ _ _ 4 _ _ _
 have m0 : Fr (no) m h0 m h0 := Fr.refl b0.ag
 have M0 : ∀ wz, (∃ mz, Fr (no) m h0 mz wz) → ∃ mz, Fr (orS (on rb) (on k0)) m h0 mz wz := fun wz ⟨mz, hz⟩ => ⟨mz, hz.wk (fun x hx _ => hx.elim)⟩
 refine tk1 (i := 0) (b := false) rfl rfl M0 (fun _ _ => r_sliceA (eh c0 rfl) qa_23) (tbF ⟨_, m0⟩) <| tk2 (i := 1) rfl rfl (fun _ _ => r_move (em c0 rfl rfl U0)) ⟨_, m0⟩ ?_
 have S0 : Fr (orS (on rb) (on k0)) _ _ _ _ := m0.wk (fun x hx _ => hx.elim)
 have Q0 := Fr.ll (Fr.l2 i0 g0) b0
 have P0 := hA.le Q0
 have x0 := (i0.t0 g0).t0 b0
 have F0 := (hmR.f0 x0)
 refine ann (i := 2) (b := true) rfl rfl (k_cl (f144 b0.ag (k := 32) (y := n32 h1) (Z := Z) F0 P0 (n32_len _) (by omega) (by omega)) rfl fn_144 (map_cons (eh c0 rfl) (map_cons (v := nn 32) rfl map_nil)) (fun j1 m1 N0 => ?_))
 obtain ⟨R0, V0, W0, s0, v0, rfl, d0, H0, I0, J0⟩ := N0
 have g1 := d0.size
 have r0 := S0.tr d0 (fun x hx => .inr (by cases hx; exact (.inl rfl)))
 refine ⟨(tbT ⟨_, r0⟩), ?_⟩
 have G0 := ((o0.f0 b0).f1 d0 (by omega))
 refine ann (i := 3) (b := true) rfl rfl (k_copy (b := k0) (o := 0) (n := 32) (L' := (hc (n32 h1))) (N := bv (n32 h1)) d0.ag (eh c0 rfl) (eh c0 rfl) qs_38 G0 (I0.src d0.ag) (Eq.trans (bv_length _) (n32_len _)) (one_bv _) (by decide) (by decide) (by rw [hc_eq (show (n32 h1).length = 32 from (n32_len _))]; exact wr_hc (n32_len _)) (fun n1 L0 e0 => ?_))
 have i1 := e0.size
 have T0 := r0.tr e0 (fun x hx => .inr (by cases hx; exact (.inr rfl)))
 refine ⟨(tbT ⟨_, T0⟩), ?_⟩
 refine anyT_done (by kernel_rfl) ?_ _
 refine A0 <| sk fun _ C0 => rn <| gv (lb (cs := hc (n32 h1)) (eh c0 rfl) L0.bk qr_23 sz_23) ?_
 have w0 := g0.t0 b0
 have D0 := (((p0.f0 w0).f1 d0 (by omega)).f1 e0 (by omega))
 refine gz (kt (L' := hc (n32 h1)) e0.ag (eh c0 rfl) (eh c0 rfl) D0 sz_23 (fun k1 K0 l0 => ?_))
 have b1 := l0.size
 refine nl <| C0 <| wp_ret <| ret_of (res1c (b := u0) (n := 32) (cs := hc (n32 h1)) rfl _ _ (gh c0 rfl) K0.bk (by kernel_rfl) (by kernel_rfl) qr_23 sz_23) ((ov_defers _ _).trans y0) ?_
 have O0 := ((J0.up e0).up l0)
 have E0 := ((H0.f1 e0 (by omega)).f1 l0 (by omega))
 exact ⟨R0, s0, v0, (H_n32 h1).symm, ((((((cu0.t0 i0).t0 g0).t0 b0).tr d0 (fun x hx => (by cases hx; exact .inr rfl))).tn e0 (by omega)).tn l0 (by omega)), E0, O0⟩

theorem f145 {m : Ctx} {w : World} (ag : Ag m w) {rb c : Nat} {A : Option Addr} (hmR : Mu m w rb 208 [.slice A 0 c, .bool false]) : Calls Tryz.prog 145 #[.pointer (some ⟨rb, 0, none⟩)] w (Ret fun v w' => ∃ m', v = .bool true ∧ Fr no m w m' w') := by
 refine enter Tryz.func145 rfl (fun c0 hT e0 => ?_)
 have b0 : c0.tmps.size = 16 := by rw [hT]; kernel_rfl
 have d0 : c0.tmps.getD 0 undef = .pointer (some ⟨rb, 0, none⟩) := by rw [hT]; kernel_rfl
 clear hT
 have cu0 : Fr (no) m w m w := Fr.refl ag
 have lt_rb := hmR.lt
 refine sk fun _ g0 => rn <| gv (r_assign (v := .bool false) rfl) <| nl <| g0 <| sk fun _ h0 => rn <| mw b0 d0 <| nc b0 rfl <| gv (r_field (o' := 1) (eh b0 rfl) fo_208_1 (by rfl)) <| gv (la (v := .bool false) (eh b0 rfl) hmR.bk qr_4) <| gv (r_not (eh b0 rfl)) <| mv b0 rfl <| sg (t := 8) rfl rfl b0 (eh b0 rfl) (kv (r_move (em b0 rfl rfl d0)) ?_)
 refine sg (t := 8) rfl rfl b0 (eh b0 rfl) (kv (r_nilCheck (eh b0 rfl)) ?_)
 refine sg (t := 8) rfl rfl b0 (eh b0 rfl) (kv (r_field (o' := 0) (eh b0 rfl) fo_208_0 (by rfl)) ?_)
 refine sg (t := 8) rfl rfl b0 (eh b0 rfl) (kv (la (v := .slice A 0 c) (eh b0 rfl) hmR.bk qr_38) ?_)
 refine sg (t := 8) rfl rfl b0 (eh b0 rfl) (kv (r_lenS (eh b0 rfl) rfl qu_38) ?_)
 refine sg (t := 8) rfl rfl b0 (eh b0 rfl) (kv (r_eql (j := 0) (eh b0 rfl) rfl) ?_)
 refine gv (r_pick_t (eh b0 rfl) (eh b0 rfl)) <| ms b0 rfl <| nl <| h0 <| wp_ret <| ret_of (res1 rfl _ _ (gh b0 rfl)) ((ov_defers _ _).trans e0) ?_
 exact ⟨m, rfl, cu0⟩

theorem f124 {m : Ctx} {w : World} (ag : Ag m w) {n c k : Nat} {A : Option Addr} {Z : Bytes} (hA : Sl m A n c 1 (bv ([UInt8.ofNat k] ++ (Z)))) (hk : k < 128) (hlen : 1 ≤ n) (hn : n < 1048576) : Calls Tryz.prog 124 #[.slice A n c, nn k] w (Ret fun v w' => ∃ m' rb A2 c2, v = .pointer (some ⟨rb, 0, none⟩) ∧ Fr no m w m' w' ∧ Mu m' w' rb 208 [.slice A2 (n - 1) c2, .bool false] ∧ Sl m' A2 (n - 1) c2 1 (bv Z) ∧ w.heap.size ≤ rb) := by
 refine enter Tryz.func124 rfl (fun d0 hT k0 => ?_)
 have b0 : d0.tmps.size = 16 := by rw [hT]; kernel_rfl
 have x0 : d0.tmps.getD 0 undef = .slice A n c := by rw [hT]; kernel_rfl
 have y0 : d0.tmps.getD 1 undef = nn k := by rw [hT]; kernel_rfl
 clear hT
 have cu0 : Fr (no) m w m w := Fr.refl ag
 refine sk fun _ l0 => rn <| gv (r_assign (v := .pointer none) rfl) <| nl <| l0 <| sk fun _ n0 => rn <| mw b0 x0 <| gv (r_build (cs := [.slice A n c, .bool false]) (pm_cons (eh b0 rfl) pm_nil) (by kernel_rfl)) <| gk (k_box (L := [.slice A n c, .bool false]) ag (eh b0 rfl) (by kernel_rfl) (fun F0 i0 g0 c0 z0 => ?_))
 have C0 := c0.size
 have A0 := g0.lt
 refine ms b0 rfl <| nl <| n0 <| sk fun _ p0 => sk fun _ m0 => rn <| mv b0 rfl ?_
 have v0 := (hA.up c0)
 refine gk (k_cl (f125_s (v := k) c0.ag (Z := Z) g0 v0 (by omega) (by omega) (by omega)) rfl fn_125 (map_cons (eh b0 rfl) map_nil) (fun D0 E0 u0 => ?_))
 obtain ⟨w0, h0, j0, rfl, e0, r0, s0⟩ := u0
 have B0 := e0.size
 refine mw b0 y0 <| gv (r_neq (eh b0 rfl) (eh b0 rfl)) <| nl <| m0 ?_
 have q0 : (decide (k ≠ k)) = false := (decide_eq_false (by simp))
 refine cf (eb b0 rfl q0) <| ws <| p0 <| sk fun _ o0 => rn <| mv b0 rfl <| ms b0 rfl <| nl <| o0 <| wp_ret <| ret_of (res1 rfl _ _ (gh b0 rfl)) ((ov_defers _ _).trans k0) ?_
 exact ⟨w0, i0, h0, j0, rfl, ((cu0.t0 c0).tn e0 (by omega)), r0, s0, (by omega)⟩

theorem f148 {m : Ctx} {w : World} (ag : Ag m w) {rb n c : Nat} {A : Option Addr} {Z : Bytes} (hmR : Mu m w rb 208 [.slice A n c, .bool false]) (hA : Sl m A n c 1 (bv ([UInt8.ofNat 3] ++ ([116, 111, 112] ++ (Z))))) (hlen : 4 ≤ n) (hn : n < 1048576) : Calls Tryz.prog 148 #[.pointer (some ⟨rb, 0, none⟩)] w (Ret fun v w' => ∃ m' A1 c1 A2 c2, v = .slice A1 3 c1 ∧ Fr (on rb) m w m' w' ∧ Mu m' w' rb 208 [.slice A2 (n - 1 - 3) c2, .bool false] ∧ Sl m' A1 3 c1 1 (bv [116, 111, 112]) ∧ Sl m' A2 (n - 1 - 3) c2 1 (bv Z)) := by
 refine enter Tryz.func148 rfl (fun e0 hT m0 => ?_)
 have b0 : e0.tmps.size = 13 := by rw [hT]; kernel_rfl
 have d0 : e0.tmps.getD 0 undef = .pointer (some ⟨rb, 0, none⟩) := by rw [hT]; kernel_rfl
 clear hT
 have cu0 : Fr (on rb) m w m w := Fr.refl ag
 have lt_rb := hmR.lt
 refine sk fun _ n0 => rn <| gv (r_assign (v := .slice none 0 0) rfl) <| nl <| n0 <| sk fun _ r0 => rn <| mw b0 d0 <| gk (k_cl (f125_s (v := 3) ag (Z := [116, 111, 112] ++ (Z)) hmR hA (by omega) (by omega) (by omega)) rfl fn_125 (map_cons (eh b0 rfl) map_nil) (fun F0 H0 x0 => ?_))
 obtain ⟨B0, z0, A0, rfl, c0, h0, s0⟩ := x0
 have C0 := c0.size
 refine ms b0 rfl <| nl <| r0 <| sk fun _ o0 => sk fun _ p0 => rn <| mw b0 d0 <| nc b0 rfl <| gv (r_field (o' := 1) (eh b0 rfl) fo_208_1 (by rfl)) <| gv (la (v := .bool false) (eh b0 rfl) h0.bk qr_4) <| nl <| p0 <| cf (eh b0 rfl) <| ws <| o0 <| sk fun _ q0 => rn <| mw b0 d0 <| mv b0 rfl <| gk (k_cl (f144 c0.ag (k := 3) (y := [116, 111, 112]) (Z := Z) h0 s0 rfl (by omega) (by omega)) rfl fn_144 (map_cons (eh b0 rfl) (map_cons (eh b0 rfl) map_nil)) (fun E0 G0 w0 => ?_))
 obtain ⟨y0, i0, k0, j0, l0, rfl, g0, t0, u0, v0⟩ := w0
 have D0 := g0.size
 refine ms b0 rfl <| nl <| q0 <| wp_ret <| ret_of (res1 rfl _ _ (gh b0 rfl)) ((ov_defers _ _).trans m0) ?_
 exact ⟨y0, i0, k0, j0, l0, rfl, ((cu0.tr c0 (fun x hx => (by cases hx; exact .inr rfl))).tr g0 (fun x hx => (by cases hx; exact .inr rfl))), t0, u0, v0⟩

theorem f131 {m : Ctx} {w : World} (ag : Ag m w) {rb n c : Nat} {A : Option Addr} {Z : Bytes} (hmR : Mu m w rb 208 [.slice A n c, .bool false]) (hA : Sl m A n c 1 (bv ([UInt8.ofNat 3] ++ ([116, 111, 112] ++ (Z))))) (hlen : 4 ≤ n) (hn : n < 1048576) : Calls Tryz.prog 131 #[.pointer (some ⟨rb, 0, none⟩)] w (Ret fun v w' => ∃ m' A2 c2, v = .string (⟨#[116, 111, 112]⟩ : ByteArray) ∧ Fr (on rb) m w m' w' ∧ Mu m' w' rb 208 [.slice A2 (n - 1 - 3) c2, .bool false] ∧ Sl m' A2 (n - 1 - 3) c2 1 (bv Z)) := by
 refine enter Tryz.func131 rfl (fun d0 hT h0 => ?_)
 have b0 : d0.tmps.size = 6 := by rw [hT]; kernel_rfl
 have p0 : d0.tmps.getD 0 undef = .pointer (some ⟨rb, 0, none⟩) := by rw [hT]; kernel_rfl
 clear hT
 have cu0 : Fr (on rb) m w m w := Fr.refl ag
 have lt_rb := hmR.lt
 refine sk fun _ i0 => rn <| gv (r_assign (v := .string ByteArray.empty) rfl) <| nl <| i0 <| sk fun _ j0 => rn <| mw b0 p0 <| gk (k_cl (f148 ag (Z := Z) hmR hA (by omega) (by omega)) rfl fn_148 (map_cons (eh b0 rfl) map_nil) (fun t0 u0 n0 => ?_))
 obtain ⟨o0, q0, r0, e0, g0, rfl, c0, k0, l0, m0⟩ := n0
 have s0 := c0.size
 refine gv (r_b2s (n := 3) (l := [116, 111, 112]) (eh b0 rfl) qu_38 qu_5 qu_9 (l0.src c0.ag) rfl) <| ms b0 rfl <| nl <| j0 <| wp_ret <| ret_of (res1 rfl _ _ (gh b0 rfl)) ((ov_defers _ _).trans h0) ?_
 exact ⟨o0, e0, g0, rfl, (cu0.tr c0 (fun x hx => (by cases hx; exact .inr rfl))), k0, m0⟩

theorem f126 {m : Ctx} {w : World} (ag : Ag m w) {rb n c : Nat} {A : Option Addr} {k1 Z : Bytes} (hmR : Mu m w rb 208 [.slice A n c, .bool false]) (hA : Sl m A n c 1 (bv ([UInt8.ofNat 1] ++ (n32 k1 ++ ([UInt8.ofNat 1] ++ (Z)))))) (hlen : 34 ≤ n) (hn : n < 1048576) : Calls Tryz.prog 126 #[.pointer (some ⟨rb, 0, none⟩)] w (Ret fun v w' => ∃ m' L lc A2 c2, v = .agg ([.slice L 1 lc, nn 1]).toArray ∧ Fr (on rb) m w m' w' ∧ Mu m' w' rb 208 [.slice A2 (n - 1 - 32 - 1) c2, .bool false] ∧ Sl m' L 1 lc 32 (hc k1) ∧ Sl m' A2 (n - 1 - 32 - 1) c2 1 (bv Z)) := by
 refine enter Tryz.func126 rfl (fun i1 hT Z0 => ?_)
 have b0 : i1.tmps.size = 35 := by rw [hT]; kernel_rfl
 have O0 : i1.tmps.getD 0 undef = .pointer (some ⟨rb, 0, none⟩) := by rw [hT]; kernel_rfl
 clear hT
 have cu0 : Fr (on rb) m w m w := Fr.refl ag
 have lt_rb := hmR.lt
 refine sk fun _ Q1 => rn <| gk (k_alloc ag qz_32 (fun W4 D0 W0 z0 U3 => ?_))
 have G4 := z0.size
 have Z3 := W0.lt
 refine nl <| Q1 <| sk fun _ g2 => rn <| gk (k_alloc z0.ag qz_32 (fun h5 v0 V0 e0 R3 => ?_))
 have l4 := e0.size
 have V3 := V0.lt
 refine nl <| g2 <| sk fun _ T1 => rn <| mw b0 O0 ?_
 have g3 := ((hA.up z0).up e0)
 have N1 := z0.t0 e0
 have q2 := (hmR.f0 N1)
 refine gk (k_cl (f125_s (v := 1) e0.ag (Z := n32 k1 ++ ([UInt8.ofNat 1] ++ (Z))) q2 g3 (by omega) (by omega) (by omega)) rfl fn_125 (map_cons (eh b0 rfl) map_nil) (fun K4 R0 W2 => ?_))
 obtain ⟨q0, E3, K3, rfl, d0, c1, p1⟩ := W2
 have C4 := d0.size
 refine ms b0 rfl <| nl <| T1 <| sk fun _ a1 => sk fun _ b2 => rn <| gv (r_assign (v := nn 0) rfl) <| nl <| b2 <| bl <| wp_unroll (n := 3) <| un_step (n := 2) <| sk fun _ d2 => sk fun _ e2 => rn <| mv b0 rfl <| mv b0 rfl <| gv (r_lss (eh b0 rfl) (eh b0 rfl)) <| mv b0 rfl <| sg (t := 11) rfl rfl b0 (eb b0 rfl (by decide)) (kv (r_move (em b0 rfl rfl O0)) ?_)
 refine sg (t := 11) rfl rfl b0 (eb b0 rfl (by decide)) (kv (r_nilCheck (eh b0 rfl)) ?_)
 refine sg (t := 11) rfl rfl b0 (eb b0 rfl (by decide)) (kv (r_field (o' := 1) (eh b0 rfl) fo_208_1 (by rfl)) ?_)
 refine sg (t := 11) rfl rfl b0 (eb b0 rfl (by decide)) (kv (la (v := .bool false) (eh b0 rfl) c1.bk qr_4) ?_)
 refine sg (t := 11) rfl rfl b0 (eb b0 rfl (by decide)) (kv (r_not (eh b0 rfl)) ?_)
 refine gv (r_pick_t (eb b0 rfl (by decide)) (eh b0 rfl)) <| mv b0 rfl <| sg (t := 18) rfl rfl b0 (eh b0 rfl) (kv (r_move (eh b0 rfl)) ?_)
 refine sg (t := 18) rfl rfl b0 (eh b0 rfl) (kv (r_leq (j := 4) (eh b0 rfl) rfl) ?_)
 refine gv (r_pick_t (eh b0 rfl) (eh b0 rfl)) <| nl <| e2 <| cd b0 rfl <| ws <| d2 <| sk fun _ b1 => bl ?_
 have c0 : Fr no q0 R0 q0 { R0 with drawn := R0.drawn + 1 } := Fr.drw d0.ag
 obtain ⟨P0, B1⟩ : ∃ w_, w_ = ({ R0 with drawn := R0.drawn + 1 } : World) := ⟨_, rfl⟩
 rw [← B1] at c0
 have H4 := c0.size
 refine wp_region_T mixed (fun wz => ∃ mz, Fr (no) q0 P0 mz wz) (fun wz => ∃ mz, Fr (orS (on rb) (on v0)) q0 P0 mz wz) 3 ?_
 rw [← B1]
 show wpAnyT _ _ _ _ _ 8 _ _ _
 have Q0 : Fr (no) q0 P0 q0 P0 := Fr.refl c0.ag
 have X0 : ∀ wz, (∃ mz, Fr (no) q0 P0 mz wz) → ∃ mz, Fr (orS (on rb) (on v0)) q0 P0 mz wz := fun wz ⟨mz, hz⟩ => ⟨mz, hz.wk (fun x hx _ => hx.elim)⟩
 refine tk1 (i := 0) (b := false) rfl rfl X0 (fun _ _ => r_field (o' := 0) (eh b0 rfl) fo_32_0 (by rfl)) (tbF ⟨_, Q0⟩) <| tk2 (i := 2) rfl rfl (fun _ _ => r_move (em b0 rfl rfl O0)) ⟨_, Q0⟩ <| anyT_all (rs := [1, 3]) (by kernel_rfl) (by simp) (fun P3 r1 => ?_)
 simp only [List.mem_cons, List.mem_nil_iff, or_false] at r1
 rcases r1 with rfl | rfl
 ·
  have j1 := ((V0.f1 d0 (by omega)).f0 c0)
  refine ao (b := false) rfl rfl rfl (by kernel_rfl) (kv (la (v := .slice none 0 0) (eh b0 rfl) j1.bk qr_27) ⟨(tbF ⟨_, Q0⟩), ?_⟩)
  have x3 : Fr (orS (on rb) (on v0)) _ _ _ _ := Q0.wk (fun x hx _ => hx.elim)
  have Z2 := (p1.up c0)
  have h2 := (c1.f0 c0)
  refine ann (i := 3) (b := true) rfl rfl (k_cl (f128 c0.ag (Z := [UInt8.ofNat 1] ++ (Z)) h2 Z2 (by omega) (by omega)) rfl fn_128 (map_cons (eh b0 rfl) map_nil) (fun I4 O4 T2 => ?_))
  obtain ⟨t3, C3, I3, rfl, H0, C2, D2⟩ := T2
  have h4 := H0.size
  have D1 := x3.tr H0 (fun x hx => .inr (by cases hx; exact (.inl rfl)))
  refine ⟨(tbT ⟨_, D1⟩), ?_⟩
  refine ann (i := 4) (b := true) rfl rfl (k_lit (e := 23) (L := hc k1) H0.ag (pm_cons (eh b0 rfl) pm_nil) (by kernel_rfl) (fun r0 F3 s1 h0 Q3 => ?_))
  have i4 := h0.size
  have E1 := D1.t0 h0
  have W3 := s1.lt
  refine ⟨(tbT ⟨_, E1⟩), ?_⟩
  refine ann (i := 5) (b := true) rfl rfl (k_append0 (base := r0.heap.size) (N := hcs ([k1])) h0.ag (eh b0 rfl) (eh b0 rfl) qs_27 qz_23 (Own.nil t3 r0 (r0.heap.size) 23 32) (by have h_ := (s1.bk.src (L := hc k1) (n := 1) (o := 0) (k := 32) (by kernel_rfl)); rw [← hcs_one] at h_; exact h_) (fun h => by cases h) (by rw [hcs_length, show ([k1] : List Bytes).length = 1 from rfl]) (one_hcs _) (by omega) (by decide) (by rw [maxLen_eq]; omega) (by omega) (fun A0 E0 P4 v1 i0 => ?_))
  have j4 := i0.size
  have d1 := E1.tg i0 (by omega)
  have d4 := v1.nilc
  refine ⟨(tbT ⟨_, d1⟩), ?_⟩
  refine tk1 (i := 6) (b := true) rfl rfl X0 (fun _ _ => r_field (o' := 0) (eh b0 rfl) fo_32_0 (by rfl)) (tbT ⟨_, d1⟩) ?_
  have i2 := (((j1.f1 H0 (by omega)).f0 h0).fs i0 (show ¬ r0.heap.size ≤ v0 from by omega))
  refine an00 (i := 7) (b := true) rfl rfl (kt (L' := [.slice A0 1 E0, nn 0]) i0.ag (eh b0 rfl) (eh b0 rfl) i2 sz_27 (fun Q4 K2 j0 => ?_))
  have k4 := j0.size
  have y3 := d1.tr j0 (fun x hx => .inr (by cases hx; exact (.inr rfl)))
  refine ⟨(tbT ⟨_, y3⟩), ?_⟩
  refine anyT_done (by kernel_rfl) ?_ _
  refine b1 <| rn <| mv b0 rfl <| gv (r_add (j := 1) (eh b0 rfl) rfl (by decide)) <| ms b0 rfl <| nl <| un_next <| un_step (n := 1) <| sk fun _ L3 => sk fun _ R1 => rn <| mv b0 rfl <| mv b0 rfl <| gv (r_lss (eh b0 rfl) (eh b0 rfl)) <| mv b0 rfl <| sf (t := 11) (c := false) rfl rfl b0 (eb b0 rfl (by decide)) <| sf (t := 11) (c := false) rfl rfl b0 (eb b0 rfl (by decide)) <| sf (t := 11) (c := false) rfl rfl b0 (eb b0 rfl (by decide)) <| sf (t := 11) (c := false) rfl rfl b0 (eb b0 rfl (by decide)) <| sf (t := 11) (c := false) rfl rfl b0 (eb b0 rfl (by decide)) <| gv (r_pick_f (v := .bool false) (eb b0 rfl (by decide)) rfl) <| mv b0 rfl <| sf (t := 18) (c := false) rfl rfl b0 (eh b0 rfl) <| sf (t := 18) (c := false) rfl rfl b0 (eh b0 rfl) <| gv (r_pick_f (v := .bool false) (eh b0 rfl) rfl) <| nl <| R1 <| cf (eh b0 rfl) <| we <| a1 <| sk fun _ S1 => rn <| mw b0 O0 ?_
  have n3 := Fr.ll (Fr.l2 h0 i0) j0
  have a3 := D2.le n3
  have j2 := (((C2.f0 h0).fs i0 (show ¬ r0.heap.size ≤ rb from by omega)).f1 j0 (by omega))
  refine gk (k_cl (f125_s (v := 1) j0.ag (Z := Z) j2 a3 (by omega) (by omega) (by omega)) rfl fn_125 (map_cons (eh b0 rfl) map_nil) (fun J4 R4 U2 => ?_))
  obtain ⟨a4, G1, J1, rfl, I0, E2, F2⟩ := U2
  have m4 := I0.size
  refine gv (r_field (o' := 1) (eh b0 rfl) fo_32_1 (by rfl)) ?_
  have k2 := (K2.f1 I0 (by omega))
  refine gz (kt (L' := [.slice A0 1 E0, nn 1]) I0.ag (eh b0 rfl) (eh b0 rfl) k2 sz_3 (fun S4 L2 w0 => ?_))
  have n4 := w0.size
  refine nl <| S1 <| sk fun _ U1 => rn <| gv (lb (cs := [.slice A0 1 E0, nn 1]) (eh b0 rfl) L2.bk qr_32 sz_32) ?_
  have m2 := (((((((((W0.f0 e0).f1 d0 (by omega)).f0 c0).f1 H0 (by omega)).f0 h0).fs i0 (show ¬ r0.heap.size ≤ D0 from by omega)).f1 j0 (by omega)).f1 I0 (by omega)).f1 w0 (by omega))
  refine gz (kt (L' := [.slice A0 1 E0, nn 1]) w0.ag (eh b0 rfl) (eh b0 rfl) m2 sz_32 (fun T4 M2 J0 => ?_))
  have o4 := J0.size
  refine nl <| U1 <| wp_ret <| ret_of (res1c (b := D0) (n := 2) (cs := [.slice A0 1 E0, nn 1]) rfl _ _ (gh b0 rfl) M2.bk (by kernel_rfl) (by kernel_rfl) qr_32 sz_32) ((ov_defers _ _).trans Z0) ?_
  have y1 := ((((v1.f1 j0 (by omega)).f1 I0 (by omega)).f1 w0 (by omega)).f1 J0 (by omega))
  obtain ⟨u3, M1, c3⟩ := y1.fz J0.ag
  have S0 : Fr (ge r0.heap.size) _ _ _ _ := M1.wk (fun x hx _ => y1.at x hx)
  have p4 := S0.size
  have o3 := Fr.ll (Fr.l2 w0 J0) S0
  have d3 := F2.le o3
  have n2 := (((E2.f1 w0 (by omega)).f1 J0 (by omega)).fs S0 (show ¬ r0.heap.size ≤ rb from by omega))
  exact ⟨u3, A0, E0, G1, J1, rfl, ((((((((((((cu0.t0 z0).t0 e0).tr d0 (fun x hx => (by cases hx; exact .inr rfl))).t0 c0).tr H0 (fun x hx => (by cases hx; exact .inr rfl))).t0 h0).tg i0 (by omega)).tn j0 (by omega)).tr I0 (fun x hx => (by cases hx; exact .inr rfl))).tn w0 (by omega)).tn J0 (by omega)).tg S0 (by omega)), n2, (by have h_ := c3; rw [hcs_one] at h_; exact h_), d3⟩
 ·
  have z3 : Fr (orS (on rb) (on v0)) _ _ _ _ := Q0.wk (fun x hx _ => hx.elim)
  have e3 := (p1.up c0)
  have o2 := (c1.f0 c0)
  refine ao (b := true) rfl rfl rfl (by kernel_rfl) (k_cl (f128 c0.ag (Z := [UInt8.ofNat 1] ++ (Z)) o2 e3 (by omega) (by omega)) rfl fn_128 (map_cons (eh b0 rfl) map_nil) (fun L4 U4 V2 => ?_))
  obtain ⟨C1, D3, J3, rfl, g0, n1, o1⟩ := V2
  have q4 := g0.size
  have Y0 := z3.tr g0 (fun x hx => .inr (by cases hx; exact (.inl rfl)))
  refine ⟨(tbT ⟨_, Y0⟩), ?_⟩
  refine anyT_all (rs := [1, 4]) (by kernel_rfl) (by simp) (fun O3 q1 => ?_)
  simp only [List.mem_cons, List.mem_nil_iff, or_false] at q1
  rcases q1 with rfl | rfl
  ·
   have l1 := (((V0.f1 d0 (by omega)).f0 c0).f1 g0 (by omega))
   refine ao (b := true) rfl rfl rfl (by kernel_rfl) (kv (la (v := .slice none 0 0) (eh b0 rfl) l1.bk qr_27) ⟨(tbT ⟨_, Y0⟩), ?_⟩)
   refine ann (i := 4) (b := true) rfl rfl (k_lit (e := 23) (L := hc k1) g0.ag (pm_cons (eh b0 rfl) pm_nil) (by kernel_rfl) (fun s0 G3 t1 k0 S3 => ?_))
   have r4 := k0.size
   have F1 := Y0.t0 k0
   have X3 := t1.lt
   refine ⟨(tbT ⟨_, F1⟩), ?_⟩
   refine ann (i := 5) (b := true) rfl rfl (k_append0 (base := s0.heap.size) (N := hcs ([k1])) k0.ag (eh b0 rfl) (eh b0 rfl) qs_27 qz_23 (Own.nil C1 s0 (s0.heap.size) 23 32) (by have h_ := (t1.bk.src (L := hc k1) (n := 1) (o := 0) (k := 32) (by kernel_rfl)); rw [← hcs_one] at h_; exact h_) (fun h => by cases h) (by rw [hcs_length, show ([k1] : List Bytes).length = 1 from rfl]) (one_hcs _) (by omega) (by decide) (by rw [maxLen_eq]; omega) (by omega) (fun B0 F0 V4 w1 l0 => ?_))
   have s4 := l0.size
   have e1 := F1.tg l0 (by omega)
   have e4 := w1.nilc
   refine ⟨(tbT ⟨_, e1⟩), ?_⟩
   refine tk1 (i := 6) (b := true) rfl rfl X0 (fun _ _ => r_field (o' := 0) (eh b0 rfl) fo_32_0 (by rfl)) (tbT ⟨_, e1⟩) ?_
   have p2 := ((l1.f0 k0).fs l0 (show ¬ s0.heap.size ≤ v0 from by omega))
   refine an00 (i := 7) (b := true) rfl rfl (kt (L' := [.slice B0 1 F0, nn 0]) l0.ag (eh b0 rfl) (eh b0 rfl) p2 sz_27 (fun X4 N2 m0 => ?_))
   have t4 := m0.size
   have A3 := e1.tr m0 (fun x hx => .inr (by cases hx; exact (.inr rfl)))
   refine ⟨(tbT ⟨_, A3⟩), ?_⟩
   refine anyT_done (by kernel_rfl) ?_ _
   refine b1 <| rn <| mv b0 rfl <| gv (r_add (j := 1) (eh b0 rfl) rfl (by decide)) <| ms b0 rfl <| nl <| un_next <| un_step (n := 1) <| sk fun _ M3 => sk fun _ V1 => rn <| mv b0 rfl <| mv b0 rfl <| gv (r_lss (eh b0 rfl) (eh b0 rfl)) <| mv b0 rfl <| sf (t := 11) (c := false) rfl rfl b0 (eb b0 rfl (by decide)) <| sf (t := 11) (c := false) rfl rfl b0 (eb b0 rfl (by decide)) <| sf (t := 11) (c := false) rfl rfl b0 (eb b0 rfl (by decide)) <| sf (t := 11) (c := false) rfl rfl b0 (eb b0 rfl (by decide)) <| sf (t := 11) (c := false) rfl rfl b0 (eb b0 rfl (by decide)) <| gv (r_pick_f (v := .bool false) (eb b0 rfl (by decide)) rfl) <| mv b0 rfl <| sf (t := 18) (c := false) rfl rfl b0 (eh b0 rfl) <| sf (t := 18) (c := false) rfl rfl b0 (eh b0 rfl) <| gv (r_pick_f (v := .bool false) (eh b0 rfl) rfl) <| nl <| V1 <| cf (eh b0 rfl) <| we <| a1 <| sk fun _ W1 => rn <| mw b0 O0 ?_
   have p3 := Fr.ll (Fr.l2 k0 l0) m0
   have h3 := o1.le p3
   have r2 := (((n1.f0 k0).fs l0 (show ¬ s0.heap.size ≤ rb from by omega)).f1 m0 (by omega))
   refine gk (k_cl (f125_s (v := 1) m0.ag (Z := Z) r2 h3 (by omega) (by omega) (by omega)) rfl fn_125 (map_cons (eh b0 rfl) map_nil) (fun M4 Y4 X2 => ?_))
   obtain ⟨b4, H1, K1, rfl, K0, G2, H2⟩ := X2
   have u4 := K0.size
   refine gv (r_field (o' := 1) (eh b0 rfl) fo_32_1 (by rfl)) ?_
   have s2 := (N2.f1 K0 (by omega))
   refine gz (kt (L' := [.slice B0 1 F0, nn 1]) K0.ag (eh b0 rfl) (eh b0 rfl) s2 sz_3 (fun Z4 O2 x0 => ?_))
   have v4 := x0.size
   refine nl <| W1 <| sk fun _ X1 => rn <| gv (lb (cs := [.slice B0 1 F0, nn 1]) (eh b0 rfl) O2.bk qr_32 sz_32) ?_
   have t2 := (((((((((W0.f0 e0).f1 d0 (by omega)).f0 c0).f1 g0 (by omega)).f0 k0).fs l0 (show ¬ s0.heap.size ≤ D0 from by omega)).f1 m0 (by omega)).f1 K0 (by omega)).f1 x0 (by omega))
   refine gz (kt (L' := [.slice B0 1 F0, nn 1]) x0.ag (eh b0 rfl) (eh b0 rfl) t2 sz_32 (fun a5 P2 L0 => ?_))
   have w4 := L0.size
   refine nl <| X1 <| wp_ret <| ret_of (res1c (b := D0) (n := 2) (cs := [.slice B0 1 F0, nn 1]) rfl _ _ (gh b0 rfl) P2.bk (by kernel_rfl) (by kernel_rfl) qr_32 sz_32) ((ov_defers _ _).trans Z0) ?_
   have z1 := ((((w1.f1 m0 (by omega)).f1 K0 (by omega)).f1 x0 (by omega)).f1 L0 (by omega))
   obtain ⟨v3, O1, i3⟩ := z1.fz L0.ag
   have T0 : Fr (ge s0.heap.size) _ _ _ _ := O1.wk (fun x hx _ => z1.at x hx)
   have x4 := T0.size
   have q3 := Fr.ll (Fr.l2 x0 L0) T0
   have j3 := H2.le q3
   have u2 := (((G2.f1 x0 (by omega)).f1 L0 (by omega)).fs T0 (show ¬ s0.heap.size ≤ rb from by omega))
   exact ⟨v3, B0, F0, H1, K1, rfl, ((((((((((((cu0.t0 z0).t0 e0).tr d0 (fun x hx => (by cases hx; exact .inr rfl))).t0 c0).tr g0 (fun x hx => (by cases hx; exact .inr rfl))).t0 k0).tg l0 (by omega)).tn m0 (by omega)).tr K0 (fun x hx => (by cases hx; exact .inr rfl))).tn x0 (by omega)).tn L0 (by omega)).tg T0 (by omega)), u2, (by have h_ := i3; rw [hcs_one] at h_; exact h_), j3⟩
  ·
   refine ao (b := true) rfl rfl rfl (by kernel_rfl) (k_lit (e := 23) (L := hc k1) g0.ag (pm_cons (eh b0 rfl) pm_nil) (by kernel_rfl) (fun u0 H3 u1 n0 T3 => ?_))
   have y4 := n0.size
   have g1 := Y0.t0 n0
   have Y3 := u1.lt
   refine ⟨(tbT ⟨_, g1⟩), ?_⟩
   have m1 := ((((V0.f1 d0 (by omega)).f0 c0).f1 g0 (by omega)).f0 n0)
   refine ann (i := 1) (b := true) rfl rfl (kv (la (v := .slice none 0 0) (eh b0 rfl) m1.bk qr_27) ⟨(tbT ⟨_, g1⟩), ?_⟩)
   refine ann (i := 5) (b := true) rfl rfl (k_append0 (base := u0.heap.size) (N := hcs ([k1])) n0.ag (eh b0 rfl) (eh b0 rfl) qs_27 qz_23 (Own.nil C1 u0 (u0.heap.size) 23 32) (by have h_ := (u1.bk.src (L := hc k1) (n := 1) (o := 0) (k := 32) (by kernel_rfl)); rw [← hcs_one] at h_; exact h_) (fun h => by cases h) (by rw [hcs_length, show ([k1] : List Bytes).length = 1 from rfl]) (one_hcs _) (by omega) (by decide) (by rw [maxLen_eq]; omega) (by omega) (fun C0 G0 b5 x1 o0 => ?_))
   have z4 := o0.size
   have h1 := g1.tg o0 (by omega)
   have g4 := x1.nilc
   refine ⟨(tbT ⟨_, h1⟩), ?_⟩
   refine tk1 (i := 6) (b := true) rfl rfl X0 (fun _ _ => r_field (o' := 0) (eh b0 rfl) fo_32_0 (by rfl)) (tbT ⟨_, h1⟩) ?_
   have v2 := (m1.fs o0 (show ¬ u0.heap.size ≤ v0 from by omega))
   refine an00 (i := 7) (b := true) rfl rfl (kt (L' := [.slice C0 1 G0, nn 0]) o0.ag (eh b0 rfl) (eh b0 rfl) v2 sz_27 (fun c5 Q2 p0 => ?_))
   have A4 := p0.size
   have B3 := h1.tr p0 (fun x hx => .inr (by cases hx; exact (.inr rfl)))
   refine ⟨(tbT ⟨_, B3⟩), ?_⟩
   refine anyT_done (by kernel_rfl) ?_ _
   refine b1 <| rn <| mv b0 rfl <| gv (r_add (j := 1) (eh b0 rfl) rfl (by decide)) <| ms b0 rfl <| nl <| un_next <| un_step (n := 1) <| sk fun _ N3 => sk fun _ Y1 => rn <| mv b0 rfl <| mv b0 rfl <| gv (r_lss (eh b0 rfl) (eh b0 rfl)) <| mv b0 rfl <| sf (t := 11) (c := false) rfl rfl b0 (eb b0 rfl (by decide)) <| sf (t := 11) (c := false) rfl rfl b0 (eb b0 rfl (by decide)) <| sf (t := 11) (c := false) rfl rfl b0 (eb b0 rfl (by decide)) <| sf (t := 11) (c := false) rfl rfl b0 (eb b0 rfl (by decide)) <| sf (t := 11) (c := false) rfl rfl b0 (eb b0 rfl (by decide)) <| gv (r_pick_f (v := .bool false) (eb b0 rfl (by decide)) rfl) <| mv b0 rfl <| sf (t := 18) (c := false) rfl rfl b0 (eh b0 rfl) <| sf (t := 18) (c := false) rfl rfl b0 (eh b0 rfl) <| gv (r_pick_f (v := .bool false) (eh b0 rfl) rfl) <| nl <| Y1 <| cf (eh b0 rfl) <| we <| a1 <| sk fun _ Z1 => rn <| mw b0 O0 ?_
   have r3 := Fr.ll (Fr.l2 n0 o0) p0
   have k3 := o1.le r3
   have x2 := (((n1.f0 n0).fs o0 (show ¬ u0.heap.size ≤ rb from by omega)).f1 p0 (by omega))
   refine gk (k_cl (f125_s (v := 1) p0.ag (Z := Z) x2 k3 (by omega) (by omega) (by omega)) rfl fn_125 (map_cons (eh b0 rfl) map_nil) (fun N4 d5 Y2 => ?_))
   obtain ⟨c4, I1, L1, rfl, M0, I2, J2⟩ := Y2
   have B4 := M0.size
   refine gv (r_field (o' := 1) (eh b0 rfl) fo_32_1 (by rfl)) ?_
   have y2 := (Q2.f1 M0 (by omega))
   refine gz (kt (L' := [.slice C0 1 G0, nn 1]) M0.ag (eh b0 rfl) (eh b0 rfl) y2 sz_3 (fun e5 R2 y0 => ?_))
   have D4 := y0.size
   refine nl <| Z1 <| sk fun _ a2 => rn <| gv (lb (cs := [.slice C0 1 G0, nn 1]) (eh b0 rfl) R2.bk qr_32 sz_32) ?_
   have z2 := (((((((((W0.f0 e0).f1 d0 (by omega)).f0 c0).f1 g0 (by omega)).f0 n0).fs o0 (show ¬ u0.heap.size ≤ D0 from by omega)).f1 p0 (by omega)).f1 M0 (by omega)).f1 y0 (by omega))
   refine gz (kt (L' := [.slice C0 1 G0, nn 1]) y0.ag (eh b0 rfl) (eh b0 rfl) z2 sz_32 (fun g5 S2 N0 => ?_))
   have E4 := N0.size
   refine nl <| a2 <| wp_ret <| ret_of (res1c (b := D0) (n := 2) (cs := [.slice C0 1 G0, nn 1]) rfl _ _ (gh b0 rfl) S2.bk (by kernel_rfl) (by kernel_rfl) qr_32 sz_32) ((ov_defers _ _).trans Z0) ?_
   have A1 := ((((x1.f1 p0 (by omega)).f1 M0 (by omega)).f1 y0 (by omega)).f1 N0 (by omega))
   obtain ⟨w3, P1, l3⟩ := A1.fz N0.ag
   have U0 : Fr (ge u0.heap.size) _ _ _ _ := P1.wk (fun x hx _ => A1.at x hx)
   have F4 := U0.size
   have s3 := Fr.ll (Fr.l2 y0 N0) U0
   have m3 := J2.le s3
   have B2 := (((I2.f1 y0 (by omega)).f1 N0 (by omega)).fs U0 (show ¬ u0.heap.size ≤ rb from by omega))
   exact ⟨w3, C0, G0, I1, L1, rfl, ((((((((((((cu0.t0 z0).t0 e0).tr d0 (fun x hx => (by cases hx; exact .inr rfl))).t0 c0).tr g0 (fun x hx => (by cases hx; exact .inr rfl))).t0 n0).tg o0 (by omega)).tn p0 (by omega)).tr M0 (fun x hx => (by cases hx; exact .inr rfl))).tn y0 (by omega)).tn N0 (by omega)).tg U0 (by omega)), B2, (by have h_ := l3; rw [hcs_one] at h_; exact h_), m3⟩

theorem f127 {m : Ctx} {w : World} (ag : Ag m w) {rb c n1 c1 n2 c2 : Nat} {A B1 B2 : Option Addr} {p q : Bytes} (hmR : Mu m w rb 208 [.slice A 0 c, .bool false]) (hB1 : Sl m B1 n1 c1 1 (bv p)) (hB2 : Sl m B2 n2 c2 1 (bv q)) (hpq : p = q) : Calls Tryz.prog 127 #[.pointer (some ⟨rb, 0, none⟩), .slice B1 n1 c1, .slice B2 n2 c2, nn 0] w (Ret fun v w' => ∃ m', v = .bool true ∧ Fr no m w m' w') := by
 refine enter Tryz.func127 rfl (fun d0 hT e0 => ?_)
 have b0 : d0.tmps.size = 22 := by rw [hT]; kernel_rfl
 have m0 : d0.tmps.getD 0 undef = .pointer (some ⟨rb, 0, none⟩) := by rw [hT]; kernel_rfl
 have n0 : d0.tmps.getD 1 undef = .slice B1 n1 c1 := by rw [hT]; kernel_rfl
 have o0 : d0.tmps.getD 2 undef = .slice B2 n2 c2 := by rw [hT]; kernel_rfl
 have p0 : d0.tmps.getD 3 undef = nn 0 := by rw [hT]; kernel_rfl
 clear hT
 have cu0 : Fr (no) m w m w := Fr.refl ag
 have lt_rb := hmR.lt
 refine sk fun _ g0 => rn <| gv (r_assign (v := .bool false) rfl) <| nl <| g0 <| sk fun _ h0 => rn <| mw b0 m0 <| gk (k_cl (f145 ag hmR) rfl fn_145 (map_cons (eh b0 rfl) map_nil) (fun r0 s0 i0 => ?_))
 obtain ⟨l0, rfl, c0⟩ := i0
 have q0 := c0.size
 refine mv b0 rfl <| sg (t := 11) rfl rfl b0 (eh b0 rfl) (kv (r_move (em b0 rfl rfl p0)) ?_)
 refine sg (t := 11) rfl rfl b0 (eh b0 rfl) (kv (r_eql (j := 0) (eh b0 rfl) rfl) ?_)
 refine gv (r_pick_t (eh b0 rfl) (eh b0 rfl)) <| mv b0 rfl <| sg (t := 15) rfl rfl b0 (eb b0 rfl (by decide)) (kv (r_move (em b0 rfl rfl n0)) ?_)
 have k0 := (hB1.up c0)
 refine sg (t := 15) rfl rfl b0 (eb b0 rfl (by decide)) (kv (r_b2s (n := n1) (l := p) (eh b0 rfl) qu_38 qu_5 qu_9 (k0.src c0.ag) (Sl.blen hB1)) ?_)
 refine sg (t := 15) rfl rfl b0 (eb b0 rfl (by decide)) (kv (r_move (em b0 rfl rfl o0)) ?_)
 have j0 := (hB2.up c0)
 refine sg (t := 15) rfl rfl b0 (eb b0 rfl (by decide)) (kv (r_b2s (n := n2) (l := q) (eh b0 rfl) qu_38 qu_5 qu_9 (j0.src c0.ag) (Sl.blen hB2)) ?_)
 refine sg (t := 15) rfl rfl b0 (eb b0 rfl (by decide)) (kv (r_eqlStr (s := (⟨(p).toArray⟩ : ByteArray)) (t := (⟨(q).toArray⟩ : ByteArray)) (eh b0 rfl) (eh b0 rfl)) ?_)
 refine gv (r_pick_t (eb b0 rfl (by decide)) (eh b0 rfl)) <| ms b0 rfl <| nl <| h0 <| wp_ret <| ret_of (res1 rfl _ _ (gh b0 rfl)) ((ov_defers _ _).trans e0) ?_
 exact ⟨l0, congrArg Value.bool (decide_eq_true (by rw [hpq])), (cu0.t0 c0)⟩

end Go.Proofs.YtiggfalelcepbaaGreatDoor

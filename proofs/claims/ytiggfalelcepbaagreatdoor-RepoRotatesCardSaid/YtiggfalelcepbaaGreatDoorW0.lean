/- The walks of the small functions of SHA-256. -/
import Derived.Test.YtiggfalelcepbaaGreatDoorK7
import Derived.Test.YtiggfalelcepbaaGreatDoorSX
import Derived.Test.YtiggfalelcepbaaGreatDoorTX
namespace Go.Proofs.YtiggfalelcepbaaGreatDoor
open Go
set_option maxRecDepth 100000
set_option maxHeartbeats 4000000
theorem f140 {w : World} {x : UInt32} {n : Nat} (h1 : 1 ≤ n) (h2 : n < 32) : Calls Tryz.prog 140 #[u32 x, nu n] w (Ret fun v w' => v = u32 (rotr x n) ∧ w = w') := by
 refine enter Tryz.func140 rfl (fun c0 hT g0 => ?_)
 have b0 : c0.tmps.size = 13 := by rw [hT]; kernel_rfl
 have d0 : c0.tmps.getD 0 undef = u32 x := by rw [hT]; kernel_rfl
 have e0 : c0.tmps.getD 1 undef = nu n := by rw [hT]; kernel_rfl
 clear hT
 refine sk fun _ h0 => rn <| gv (r_assign (v := u32 0) rfl) <| nl <| h0 <| sk fun _ i0 => rn <| mw b0 d0 <| mw b0 e0 <| gv (r_shr32 (eh b0 rfl) (eh b0 rfl) (by omega)) <| mw b0 d0 <| mw b0 e0 <| gv (r_subU (i := 32) rfl (eh b0 rfl) (by omega) (by omega)) <| gv (r_shl32 (eh b0 rfl) (eh b0 rfl) (by omega)) <| gv (r_or32 (eh b0 rfl) (eh b0 rfl)) <| ms b0 rfl <| nl <| i0 <| wp_ret <| ret_of (res1 rfl _ _ (gh b0 rfl)) ((ov_defers _ _).trans g0) ?_
 exact ⟨rfl, rfl⟩

theorem f111 {w : World} {x : UInt32} : Calls Tryz.prog 111 #[u32 x] w (Ret fun v w' => v = u32 (sS0 x) ∧ w = w') := by
 refine enter Tryz.func111 rfl (fun d0 hT e0 => ?_)
 have b0 : d0.tmps.size = 11 := by rw [hT]; kernel_rfl
 have c0 : d0.tmps.getD 0 undef = u32 x := by rw [hT]; kernel_rfl
 clear hT
 refine sk fun _ g0 => rn <| gv (r_assign (v := u32 0) rfl) <| nl <| g0 <| sk fun _ h0 => rn <| mw b0 c0 <| gk (k_cl (f140 (x := x) (n := 7) (by decide) (by decide)) rfl fn_140 (map_cons (eh b0 rfl) (map_cons (v := nu 7) rfl map_nil)) (fun k0 m0 i0 => ?_))
 obtain ⟨rfl, rfl⟩ := i0
 refine mw b0 c0 <| gk (k_cl (f140 (x := x) (n := 18) (by decide) (by decide)) rfl fn_140 (map_cons (eh b0 rfl) (map_cons (v := nu 18) rfl map_nil)) (fun l0 n0 j0 => ?_))
 obtain ⟨rfl, rfl⟩ := j0
 refine gv (r_xor32 (eh b0 rfl) (eh b0 rfl)) <| mw b0 c0 <| gv (r_shr32 (j := 3) (eh b0 rfl) rfl (by decide)) <| gv (r_xor32 (eh b0 rfl) (eh b0 rfl)) <| ms b0 rfl <| nl <| h0 <| wp_ret <| ret_of (res1 rfl _ _ (gh b0 rfl)) ((ov_defers _ _).trans e0) ?_
 exact ⟨rfl, rfl⟩

theorem f112 {w : World} {x : UInt32} : Calls Tryz.prog 112 #[u32 x] w (Ret fun v w' => v = u32 (sS1 x) ∧ w = w') := by
 refine enter Tryz.func112 rfl (fun d0 hT e0 => ?_)
 have b0 : d0.tmps.size = 11 := by rw [hT]; kernel_rfl
 have c0 : d0.tmps.getD 0 undef = u32 x := by rw [hT]; kernel_rfl
 clear hT
 refine sk fun _ g0 => rn <| gv (r_assign (v := u32 0) rfl) <| nl <| g0 <| sk fun _ h0 => rn <| mw b0 c0 <| gk (k_cl (f140 (x := x) (n := 17) (by decide) (by decide)) rfl fn_140 (map_cons (eh b0 rfl) (map_cons (v := nu 17) rfl map_nil)) (fun k0 m0 i0 => ?_))
 obtain ⟨rfl, rfl⟩ := i0
 refine mw b0 c0 <| gk (k_cl (f140 (x := x) (n := 19) (by decide) (by decide)) rfl fn_140 (map_cons (eh b0 rfl) (map_cons (v := nu 19) rfl map_nil)) (fun l0 n0 j0 => ?_))
 obtain ⟨rfl, rfl⟩ := j0
 refine gv (r_xor32 (eh b0 rfl) (eh b0 rfl)) <| mw b0 c0 <| gv (r_shr32 (j := 10) (eh b0 rfl) rfl (by decide)) <| gv (r_xor32 (eh b0 rfl) (eh b0 rfl)) <| ms b0 rfl <| nl <| h0 <| wp_ret <| ret_of (res1 rfl _ _ (gh b0 rfl)) ((ov_defers _ _).trans e0) ?_
 exact ⟨rfl, rfl⟩

theorem f115 {w : World} {x : UInt32} : Calls Tryz.prog 115 #[u32 x] w (Ret fun v w' => v = u32 (sB0 x) ∧ w = w') := by
 refine enter Tryz.func115 rfl (fun d0 hT e0 => ?_)
 have b0 : d0.tmps.size = 11 := by rw [hT]; kernel_rfl
 have c0 : d0.tmps.getD 0 undef = u32 x := by rw [hT]; kernel_rfl
 clear hT
 refine sk fun _ g0 => rn <| gv (r_assign (v := u32 0) rfl) <| nl <| g0 <| sk fun _ h0 => rn <| mw b0 c0 <| gk (k_cl (f140 (x := x) (n := 2) (by decide) (by decide)) rfl fn_140 (map_cons (eh b0 rfl) (map_cons (v := nu 2) rfl map_nil)) (fun l0 p0 j0 => ?_))
 obtain ⟨rfl, rfl⟩ := j0
 refine mw b0 c0 <| gk (k_cl (f140 (x := x) (n := 13) (by decide) (by decide)) rfl fn_140 (map_cons (eh b0 rfl) (map_cons (v := nu 13) rfl map_nil)) (fun m0 q0 k0 => ?_))
 obtain ⟨rfl, rfl⟩ := k0
 refine gv (r_xor32 (eh b0 rfl) (eh b0 rfl)) <| mw b0 c0 <| gk (k_cl (f140 (x := x) (n := 22) (by decide) (by decide)) rfl fn_140 (map_cons (eh b0 rfl) (map_cons (v := nu 22) rfl map_nil)) (fun n0 o0 i0 => ?_))
 obtain ⟨rfl, rfl⟩ := i0
 refine gv (r_xor32 (eh b0 rfl) (eh b0 rfl)) <| ms b0 rfl <| nl <| h0 <| wp_ret <| ret_of (res1 rfl _ _ (gh b0 rfl)) ((ov_defers _ _).trans e0) ?_
 exact ⟨rfl, rfl⟩

theorem f113 {w : World} {x : UInt32} : Calls Tryz.prog 113 #[u32 x] w (Ret fun v w' => v = u32 (sB1 x) ∧ w = w') := by
 refine enter Tryz.func113 rfl (fun d0 hT e0 => ?_)
 have b0 : d0.tmps.size = 11 := by rw [hT]; kernel_rfl
 have c0 : d0.tmps.getD 0 undef = u32 x := by rw [hT]; kernel_rfl
 clear hT
 refine sk fun _ g0 => rn <| gv (r_assign (v := u32 0) rfl) <| nl <| g0 <| sk fun _ h0 => rn <| mw b0 c0 <| gk (k_cl (f140 (x := x) (n := 6) (by decide) (by decide)) rfl fn_140 (map_cons (eh b0 rfl) (map_cons (v := nu 6) rfl map_nil)) (fun l0 p0 j0 => ?_))
 obtain ⟨rfl, rfl⟩ := j0
 refine mw b0 c0 <| gk (k_cl (f140 (x := x) (n := 11) (by decide) (by decide)) rfl fn_140 (map_cons (eh b0 rfl) (map_cons (v := nu 11) rfl map_nil)) (fun m0 q0 k0 => ?_))
 obtain ⟨rfl, rfl⟩ := k0
 refine gv (r_xor32 (eh b0 rfl) (eh b0 rfl)) <| mw b0 c0 <| gk (k_cl (f140 (x := x) (n := 25) (by decide) (by decide)) rfl fn_140 (map_cons (eh b0 rfl) (map_cons (v := nu 25) rfl map_nil)) (fun n0 o0 i0 => ?_))
 obtain ⟨rfl, rfl⟩ := i0
 refine gv (r_xor32 (eh b0 rfl) (eh b0 rfl)) <| ms b0 rfl <| nl <| h0 <| wp_ret <| ret_of (res1 rfl _ _ (gh b0 rfl)) ((ov_defers _ _).trans e0) ?_
 exact ⟨rfl, rfl⟩

theorem f114 {w : World} {x y z : UInt32} : Calls Tryz.prog 114 #[u32 x, u32 y, u32 z] w (Ret fun v w' => v = u32 (sCh x y z) ∧ w = w') := by
 refine enter Tryz.func114 rfl (fun c0 hT e0 => ?_)
 have b0 : c0.tmps.size = 15 := by rw [hT]; kernel_rfl
 have d0 : c0.tmps.getD 0 undef = u32 x := by rw [hT]; kernel_rfl
 have i0 : c0.tmps.getD 1 undef = u32 y := by rw [hT]; kernel_rfl
 have j0 : c0.tmps.getD 2 undef = u32 z := by rw [hT]; kernel_rfl
 clear hT
 refine sk fun _ g0 => rn <| gv (r_assign (v := u32 0) rfl) <| nl <| g0 <| sk fun _ h0 => rn <| mw b0 d0 <| mw b0 i0 <| gv (r_and32 (eh b0 rfl) (eh b0 rfl)) <| mw b0 d0 <| gv (r_com32 (p := x) (eh b0 rfl)) <| mw b0 j0 <| gv (r_and32 (eh b0 rfl) (eh b0 rfl)) <| gv (r_xor32 (eh b0 rfl) (eh b0 rfl)) <| ms b0 rfl <| nl <| h0 <| wp_ret <| ret_of (res1 rfl _ _ (gh b0 rfl)) ((ov_defers _ _).trans e0) ?_
 exact ⟨rfl, rfl⟩

theorem f116 {w : World} {x y z : UInt32} : Calls Tryz.prog 116 #[u32 x, u32 y, u32 z] w (Ret fun v w' => v = u32 (sMj x y z) ∧ w = w') := by
 refine enter Tryz.func116 rfl (fun c0 hT h0 => ?_)
 have b0 : c0.tmps.size = 18 := by rw [hT]; kernel_rfl
 have d0 : c0.tmps.getD 0 undef = u32 x := by rw [hT]; kernel_rfl
 have e0 : c0.tmps.getD 1 undef = u32 y := by rw [hT]; kernel_rfl
 have g0 : c0.tmps.getD 2 undef = u32 z := by rw [hT]; kernel_rfl
 clear hT
 refine sk fun _ i0 => rn <| gv (r_assign (v := u32 0) rfl) <| nl <| i0 <| sk fun _ j0 => rn <| mw b0 d0 <| mw b0 e0 <| gv (r_and32 (eh b0 rfl) (eh b0 rfl)) <| mw b0 d0 <| mw b0 g0 <| gv (r_and32 (eh b0 rfl) (eh b0 rfl)) <| gv (r_xor32 (eh b0 rfl) (eh b0 rfl)) <| mw b0 e0 <| mw b0 g0 <| gv (r_and32 (eh b0 rfl) (eh b0 rfl)) <| gv (r_xor32 (eh b0 rfl) (eh b0 rfl)) <| ms b0 rfl <| nl <| j0 <| wp_ret <| ret_of (res1 rfl _ _ (gh b0 rfl)) ((ov_defers _ _).trans h0) ?_
 exact ⟨rfl, rfl⟩

theorem f136 {w : World} {x : UInt32} {n : Nat} (h1 : 1 ≤ n) (h2 : n < 32) : Calls Tryz.prog 136 #[u32 x, nu n] w (Ret fun v w' => v = u32 (rotr x n) ∧ w = w') := by
 refine enter Tryz.func136 rfl (fun c0 hT g0 => ?_)
 have b0 : c0.tmps.size = 13 := by rw [hT]; kernel_rfl
 have d0 : c0.tmps.getD 0 undef = u32 x := by rw [hT]; kernel_rfl
 have e0 : c0.tmps.getD 1 undef = nu n := by rw [hT]; kernel_rfl
 clear hT
 refine sk fun _ h0 => rn <| gv (r_assign (v := u32 0) rfl) <| nl <| h0 <| sk fun _ i0 => rn <| mw b0 d0 <| mw b0 e0 <| gv (r_shr32 (eh b0 rfl) (eh b0 rfl) (by omega)) <| mw b0 d0 <| mw b0 e0 <| gv (r_subU (i := 32) rfl (eh b0 rfl) (by omega) (by omega)) <| gv (r_shl32 (eh b0 rfl) (eh b0 rfl) (by omega)) <| gv (r_or32 (eh b0 rfl) (eh b0 rfl)) <| ms b0 rfl <| nl <| i0 <| wp_ret <| ret_of (res1 rfl _ _ (gh b0 rfl)) ((ov_defers _ _).trans g0) ?_
 exact ⟨rfl, rfl⟩

end Go.Proofs.YtiggfalelcepbaaGreatDoor

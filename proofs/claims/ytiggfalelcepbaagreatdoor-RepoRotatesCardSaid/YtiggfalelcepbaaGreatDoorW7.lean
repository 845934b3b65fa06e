/- The walks of chapter 4, and a key's name. -/
import Derived.Test.YtiggfalelcepbaaGreatDoorK7
import Derived.Test.YtiggfalelcepbaaGreatDoorSX
import Derived.Test.YtiggfalelcepbaaGreatDoorW6
import Derived.Test.YtiggfalelcepbaaGreatDoorTX
namespace Go.Proofs.YtiggfalelcepbaaGreatDoor
open Go
set_option maxRecDepth 100000
set_option maxHeartbeats 4000000
theorem f162_1 {w : World} : Calls Tryz.prog 162 #[nu 1] w (Ret fun v w' => v = nn 1 ∧ w = w') := by
 refine enter Tryz.func162 rfl (fun d0 hT e0 => ?_)
 have b0 : d0.tmps.size = 25 := by rw [hT]; kernel_rfl
 have c0 : d0.tmps.getD 0 undef = nu 1 := by rw [hT]; kernel_rfl
 clear hT
 refine sk fun _ g0 => rn <| gv (r_assign (v := nn 0) rfl) <| nl <| g0 <| sk fun _ h0 => sk fun _ i0 => rn <| mw b0 c0 <| gv (r_geqU (j := 4294967296) (eh b0 rfl) rfl) <| nl <| i0 <| ce b0 rfl <| ws <| h0 <| sk fun _ j0 => sk fun _ k0 => rn <| mw b0 c0 <| gv (r_geqU (j := 65536) (eh b0 rfl) rfl) <| nl <| k0 <| ce b0 rfl <| ws <| j0 <| sk fun _ l0 => sk fun _ m0 => rn <| mw b0 c0 <| gv (r_geqU (j := 256) (eh b0 rfl) rfl) <| nl <| m0 <| ce b0 rfl <| ws <| l0 <| sk fun _ n0 => rn <| mv b0 rfl <| mw b0 c0 <| gv (r_cv_u_8 (i := 1) (eh b0 rfl) qu_151 qu_5) <| gv (r_indexStr (s := ⟨#[0, 1, 2, 2, 3, 3, 3, 3, 4, 4, 4, 4, 4, 4, 4, 4, 5, 5, 5, 5, 5, 5, 5, 5, 5, 5, 5, 5, 5, 5, 5, 5, 6, 6, 6, 6, 6, 6, 6, 6, 6, 6, 6, 6, 6, 6, 6, 6, 6, 6, 6, 6, 6, 6, 6, 6, 6, 6, 6, 6, 6, 6, 6, 6, 7, 7, 7, 7, 7, 7, 7, 7, 7, 7, 7, 7, 7, 7, 7, 7, 7, 7, 7, 7, 7, 7, 7, 7, 7, 7, 7, 7, 7, 7, 7, 7, 7, 7, 7, 7, 7, 7, 7, 7, 7, 7, 7, 7, 7, 7, 7, 7, 7, 7, 7, 7, 7, 7, 7, 7, 7, 7, 7, 7, 7, 7, 7, 7, 8, 8, 8, 8, 8, 8, 8, 8, 8, 8, 8, 8, 8, 8, 8, 8, 8, 8, 8, 8, 8, 8, 8, 8, 8, 8, 8, 8, 8, 8, 8, 8, 8, 8, 8, 8, 8, 8, 8, 8, 8, 8, 8, 8, 8, 8, 8, 8, 8, 8, 8, 8, 8, 8, 8, 8, 8, 8, 8, 8, 8, 8, 8, 8, 8, 8, 8, 8, 8, 8, 8, 8, 8, 8, 8, 8, 8, 8, 8, 8, 8, 8, 8, 8, 8, 8, 8, 8, 8, 8, 8, 8, 8, 8, 8, 8, 8, 8, 8, 8, 8, 8, 8, 8, 8, 8, 8, 8, 8, 8, 8, 8, 8, 8, 8, 8, 8, 8, 8, 8, 8, 8, 8, 8, 8, 8, 8, 8]⟩) (i := 1) (c := 1) (by kernel_rfl) (eh b0 rfl) qu_9 (by kernel_rfl)) <| gv (r_cv_8_n (c := 1) (eh b0 rfl) qu_5 qu_3) <| gv (r_add (eh b0 rfl) (eh b0 rfl) (by decide)) ?_
 refine ms b0 rfl <| nl <| n0 <| wp_ret <| ret_of (res1 rfl _ _ (gh b0 rfl)) ((ov_defers _ _).trans e0) ?_
 exact ⟨rfl, rfl⟩

theorem f162_3 {w : World} : Calls Tryz.prog 162 #[nu 3] w (Ret fun v w' => v = nn 2 ∧ w = w') := by
 refine enter Tryz.func162 rfl (fun d0 hT e0 => ?_)
 have b0 : d0.tmps.size = 25 := by rw [hT]; kernel_rfl
 have c0 : d0.tmps.getD 0 undef = nu 3 := by rw [hT]; kernel_rfl
 clear hT
 refine sk fun _ g0 => rn <| gv (r_assign (v := nn 0) rfl) <| nl <| g0 <| sk fun _ h0 => sk fun _ i0 => rn <| mw b0 c0 <| gv (r_geqU (j := 4294967296) (eh b0 rfl) rfl) <| nl <| i0 <| ce b0 rfl <| ws <| h0 <| sk fun _ j0 => sk fun _ k0 => rn <| mw b0 c0 <| gv (r_geqU (j := 65536) (eh b0 rfl) rfl) <| nl <| k0 <| ce b0 rfl <| ws <| j0 <| sk fun _ l0 => sk fun _ m0 => rn <| mw b0 c0 <| gv (r_geqU (j := 256) (eh b0 rfl) rfl) <| nl <| m0 <| ce b0 rfl <| ws <| l0 <| sk fun _ n0 => rn <| mv b0 rfl <| mw b0 c0 <| gv (r_cv_u_8 (i := 3) (eh b0 rfl) qu_151 qu_5) <| gv (r_indexStr (s := ⟨#[0, 1, 2, 2, 3, 3, 3, 3, 4, 4, 4, 4, 4, 4, 4, 4, 5, 5, 5, 5, 5, 5, 5, 5, 5, 5, 5, 5, 5, 5, 5, 5, 6, 6, 6, 6, 6, 6, 6, 6, 6, 6, 6, 6, 6, 6, 6, 6, 6, 6, 6, 6, 6, 6, 6, 6, 6, 6, 6, 6, 6, 6, 6, 6, 7, 7, 7, 7, 7, 7, 7, 7, 7, 7, 7, 7, 7, 7, 7, 7, 7, 7, 7, 7, 7, 7, 7, 7, 7, 7, 7, 7, 7, 7, 7, 7, 7, 7, 7, 7, 7, 7, 7, 7, 7, 7, 7, 7, 7, 7, 7, 7, 7, 7, 7, 7, 7, 7, 7, 7, 7, 7, 7, 7, 7, 7, 7, 7, 8, 8, 8, 8, 8, 8, 8, 8, 8, 8, 8, 8, 8, 8, 8, 8, 8, 8, 8, 8, 8, 8, 8, 8, 8, 8, 8, 8, 8, 8, 8, 8, 8, 8, 8, 8, 8, 8, 8, 8, 8, 8, 8, 8, 8, 8, 8, 8, 8, 8, 8, 8, 8, 8, 8, 8, 8, 8, 8, 8, 8, 8, 8, 8, 8, 8, 8, 8, 8, 8, 8, 8, 8, 8, 8, 8, 8, 8, 8, 8, 8, 8, 8, 8, 8, 8, 8, 8, 8, 8, 8, 8, 8, 8, 8, 8, 8, 8, 8, 8, 8, 8, 8, 8, 8, 8, 8, 8, 8, 8, 8, 8, 8, 8, 8, 8, 8, 8, 8, 8, 8, 8, 8, 8, 8, 8, 8, 8]⟩) (i := 3) (c := 2) (by kernel_rfl) (eh b0 rfl) qu_9 (by kernel_rfl)) <| gv (r_cv_8_n (c := 2) (eh b0 rfl) qu_5 qu_3) <| gv (r_add (eh b0 rfl) (eh b0 rfl) (by decide)) ?_
 refine ms b0 rfl <| nl <| n0 <| wp_ret <| ret_of (res1 rfl _ _ (gh b0 rfl)) ((ov_defers _ _).trans e0) ?_
 exact ⟨rfl, rfl⟩

theorem f162_7 {w : World} : Calls Tryz.prog 162 #[nu 7] w (Ret fun v w' => v = nn 3 ∧ w = w') := by
 refine enter Tryz.func162 rfl (fun d0 hT e0 => ?_)
 have b0 : d0.tmps.size = 25 := by rw [hT]; kernel_rfl
 have c0 : d0.tmps.getD 0 undef = nu 7 := by rw [hT]; kernel_rfl
 clear hT
 refine sk fun _ g0 => rn <| gv (r_assign (v := nn 0) rfl) <| nl <| g0 <| sk fun _ h0 => sk fun _ i0 => rn <| mw b0 c0 <| gv (r_geqU (j := 4294967296) (eh b0 rfl) rfl) <| nl <| i0 <| ce b0 rfl <| ws <| h0 <| sk fun _ j0 => sk fun _ k0 => rn <| mw b0 c0 <| gv (r_geqU (j := 65536) (eh b0 rfl) rfl) <| nl <| k0 <| ce b0 rfl <| ws <| j0 <| sk fun _ l0 => sk fun _ m0 => rn <| mw b0 c0 <| gv (r_geqU (j := 256) (eh b0 rfl) rfl) <| nl <| m0 <| ce b0 rfl <| ws <| l0 <| sk fun _ n0 => rn <| mv b0 rfl <| mw b0 c0 <| gv (r_cv_u_8 (i := 7) (eh b0 rfl) qu_151 qu_5) <| gv (r_indexStr (s := ⟨#[0, 1, 2, 2, 3, 3, 3, 3, 4, 4, 4, 4, 4, 4, 4, 4, 5, 5, 5, 5, 5, 5, 5, 5, 5, 5, 5, 5, 5, 5, 5, 5, 6, 6, 6, 6, 6, 6, 6, 6, 6, 6, 6, 6, 6, 6, 6, 6, 6, 6, 6, 6, 6, 6, 6, 6, 6, 6, 6, 6, 6, 6, 6, 6, 7, 7, 7, 7, 7, 7, 7, 7, 7, 7, 7, 7, 7, 7, 7, 7, 7, 7, 7, 7, 7, 7, 7, 7, 7, 7, 7, 7, 7, 7, 7, 7, 7, 7, 7, 7, 7, 7, 7, 7, 7, 7, 7, 7, 7, 7, 7, 7, 7, 7, 7, 7, 7, 7, 7, 7, 7, 7, 7, 7, 7, 7, 7, 7, 8, 8, 8, 8, 8, 8, 8, 8, 8, 8, 8, 8, 8, 8, 8, 8, 8, 8, 8, 8, 8, 8, 8, 8, 8, 8, 8, 8, 8, 8, 8, 8, 8, 8, 8, 8, 8, 8, 8, 8, 8, 8, 8, 8, 8, 8, 8, 8, 8, 8, 8, 8, 8, 8, 8, 8, 8, 8, 8, 8, 8, 8, 8, 8, 8, 8, 8, 8, 8, 8, 8, 8, 8, 8, 8, 8, 8, 8, 8, 8, 8, 8, 8, 8, 8, 8, 8, 8, 8, 8, 8, 8, 8, 8, 8, 8, 8, 8, 8, 8, 8, 8, 8, 8, 8, 8, 8, 8, 8, 8, 8, 8, 8, 8, 8, 8, 8, 8, 8, 8, 8, 8, 8, 8, 8, 8, 8, 8]⟩) (i := 7) (c := 3) (by kernel_rfl) (eh b0 rfl) qu_9 (by kernel_rfl)) <| gv (r_cv_8_n (c := 3) (eh b0 rfl) qu_5 qu_3) <| gv (r_add (eh b0 rfl) (eh b0 rfl) (by decide)) ?_
 refine ms b0 rfl <| nl <| n0 <| wp_ret <| ret_of (res1 rfl _ _ (gh b0 rfl)) ((ov_defers _ _).trans e0) ?_
 exact ⟨rfl, rfl⟩

theorem f162_15 {w : World} : Calls Tryz.prog 162 #[nu 15] w (Ret fun v w' => v = nn 4 ∧ w = w') := by
 refine enter Tryz.func162 rfl (fun d0 hT e0 => ?_)
 have b0 : d0.tmps.size = 25 := by rw [hT]; kernel_rfl
 have c0 : d0.tmps.getD 0 undef = nu 15 := by rw [hT]; kernel_rfl
 clear hT
 refine sk fun _ g0 => rn <| gv (r_assign (v := nn 0) rfl) <| nl <| g0 <| sk fun _ h0 => sk fun _ i0 => rn <| mw b0 c0 <| gv (r_geqU (j := 4294967296) (eh b0 rfl) rfl) <| nl <| i0 <| ce b0 rfl <| ws <| h0 <| sk fun _ j0 => sk fun _ k0 => rn <| mw b0 c0 <| gv (r_geqU (j := 65536) (eh b0 rfl) rfl) <| nl <| k0 <| ce b0 rfl <| ws <| j0 <| sk fun _ l0 => sk fun _ m0 => rn <| mw b0 c0 <| gv (r_geqU (j := 256) (eh b0 rfl) rfl) <| nl <| m0 <| ce b0 rfl <| ws <| l0 <| sk fun _ n0 => rn <| mv b0 rfl <| mw b0 c0 <| gv (r_cv_u_8 (i := 15) (eh b0 rfl) qu_151 qu_5) <| gv (r_indexStr (s := ⟨#[0, 1, 2, 2, 3, 3, 3, 3, 4, 4, 4, 4, 4, 4, 4, 4, 5, 5, 5, 5, 5, 5, 5, 5, 5, 5, 5, 5, 5, 5, 5, 5, 6, 6, 6, 6, 6, 6, 6, 6, 6, 6, 6, 6, 6, 6, 6, 6, 6, 6, 6, 6, 6, 6, 6, 6, 6, 6, 6, 6, 6, 6, 6, 6, 7, 7, 7, 7, 7, 7, 7, 7, 7, 7, 7, 7, 7, 7, 7, 7, 7, 7, 7, 7, 7, 7, 7, 7, 7, 7, 7, 7, 7, 7, 7, 7, 7, 7, 7, 7, 7, 7, 7, 7, 7, 7, 7, 7, 7, 7, 7, 7, 7, 7, 7, 7, 7, 7, 7, 7, 7, 7, 7, 7, 7, 7, 7, 7, 8, 8, 8, 8, 8, 8, 8, 8, 8, 8, 8, 8, 8, 8, 8, 8, 8, 8, 8, 8, 8, 8, 8, 8, 8, 8, 8, 8, 8, 8, 8, 8, 8, 8, 8, 8, 8, 8, 8, 8, 8, 8, 8, 8, 8, 8, 8, 8, 8, 8, 8, 8, 8, 8, 8, 8, 8, 8, 8, 8, 8, 8, 8, 8, 8, 8, 8, 8, 8, 8, 8, 8, 8, 8, 8, 8, 8, 8, 8, 8, 8, 8, 8, 8, 8, 8, 8, 8, 8, 8, 8, 8, 8, 8, 8, 8, 8, 8, 8, 8, 8, 8, 8, 8, 8, 8, 8, 8, 8, 8, 8, 8, 8, 8, 8, 8, 8, 8, 8, 8, 8, 8, 8, 8, 8, 8, 8, 8]⟩) (i := 15) (c := 4) (by kernel_rfl) (eh b0 rfl) qu_9 (by kernel_rfl)) <| gv (r_cv_8_n (c := 4) (eh b0 rfl) qu_5 qu_3) <| gv (r_add (eh b0 rfl) (eh b0 rfl) (by decide)) ?_
 refine ms b0 rfl <| nl <| n0 <| wp_ret <| ret_of (res1 rfl _ _ (gh b0 rfl)) ((ov_defers _ _).trans e0) ?_
 exact ⟨rfl, rfl⟩

theorem f141_1 {w : World} : Calls Tryz.prog 141 #[nu 1] w (Ret fun v w' => v = nn 1 ∧ w = w') := by
 refine enter Tryz.func141 rfl (fun c0 hT d0 => ?_)
 have b0 : c0.tmps.size = 8 := by rw [hT]; kernel_rfl
 have j0 : c0.tmps.getD 0 undef = nu 1 := by rw [hT]; kernel_rfl
 clear hT
 refine sk fun _ e0 => rn <| gv (r_assign (v := nn 0) rfl) <| nl <| e0 <| sk fun _ g0 => cf rfl <| ws <| g0 <| sk fun _ h0 => rn <| mw b0 j0 <| gk (k_cl f162_1 rfl fn_162 (map_cons (eh b0 rfl) map_nil) (fun k0 l0 i0 => ?_))
 obtain ⟨rfl, rfl⟩ := i0
 refine ms b0 rfl <| nl <| h0 <| wp_ret <| ret_of (res1 rfl _ _ (gh b0 rfl)) ((ov_defers _ _).trans d0) ?_
 exact ⟨rfl, rfl⟩

theorem f141_3 {w : World} : Calls Tryz.prog 141 #[nu 3] w (Ret fun v w' => v = nn 2 ∧ w = w') := by
 refine enter Tryz.func141 rfl (fun c0 hT d0 => ?_)
 have b0 : c0.tmps.size = 8 := by rw [hT]; kernel_rfl
 have j0 : c0.tmps.getD 0 undef = nu 3 := by rw [hT]; kernel_rfl
 clear hT
 refine sk fun _ e0 => rn <| gv (r_assign (v := nn 0) rfl) <| nl <| e0 <| sk fun _ g0 => cf rfl <| ws <| g0 <| sk fun _ h0 => rn <| mw b0 j0 <| gk (k_cl f162_3 rfl fn_162 (map_cons (eh b0 rfl) map_nil) (fun k0 l0 i0 => ?_))
 obtain ⟨rfl, rfl⟩ := i0
 refine ms b0 rfl <| nl <| h0 <| wp_ret <| ret_of (res1 rfl _ _ (gh b0 rfl)) ((ov_defers _ _).trans d0) ?_
 exact ⟨rfl, rfl⟩

theorem f141_7 {w : World} : Calls Tryz.prog 141 #[nu 7] w (Ret fun v w' => v = nn 3 ∧ w = w') := by
 refine enter Tryz.func141 rfl (fun c0 hT d0 => ?_)
 have b0 : c0.tmps.size = 8 := by rw [hT]; kernel_rfl
 have j0 : c0.tmps.getD 0 undef = nu 7 := by rw [hT]; kernel_rfl
 clear hT
 refine sk fun _ e0 => rn <| gv (r_assign (v := nn 0) rfl) <| nl <| e0 <| sk fun _ g0 => cf rfl <| ws <| g0 <| sk fun _ h0 => rn <| mw b0 j0 <| gk (k_cl f162_7 rfl fn_162 (map_cons (eh b0 rfl) map_nil) (fun k0 l0 i0 => ?_))
 obtain ⟨rfl, rfl⟩ := i0
 refine ms b0 rfl <| nl <| h0 <| wp_ret <| ret_of (res1 rfl _ _ (gh b0 rfl)) ((ov_defers _ _).trans d0) ?_
 exact ⟨rfl, rfl⟩

theorem f141_15 {w : World} : Calls Tryz.prog 141 #[nu 15] w (Ret fun v w' => v = nn 4 ∧ w = w') := by
 refine enter Tryz.func141 rfl (fun c0 hT d0 => ?_)
 have b0 : c0.tmps.size = 8 := by rw [hT]; kernel_rfl
 have j0 : c0.tmps.getD 0 undef = nu 15 := by rw [hT]; kernel_rfl
 clear hT
 refine sk fun _ e0 => rn <| gv (r_assign (v := nn 0) rfl) <| nl <| e0 <| sk fun _ g0 => cf rfl <| ws <| g0 <| sk fun _ h0 => rn <| mw b0 j0 <| gk (k_cl f162_15 rfl fn_162 (map_cons (eh b0 rfl) map_nil) (fun k0 l0 i0 => ?_))
 obtain ⟨rfl, rfl⟩ := i0
 refine ms b0 rfl <| nl <| h0 <| wp_ret <| ret_of (res1 rfl _ _ (gh b0 rfl)) ((ov_defers _ _).trans d0) ?_
 exact ⟨rfl, rfl⟩

theorem f117_2 {w : World} : Calls Tryz.prog 117 #[nn 2] w (Ret fun v w' => v = nn 1 ∧ w = w') := by
 refine enter Tryz.func117 rfl (fun c0 hT d0 => ?_)
 have b0 : c0.tmps.size = 9 := by rw [hT]; kernel_rfl
 have i0 : c0.tmps.getD 0 undef = nn 2 := by rw [hT]; kernel_rfl
 clear hT
 refine sk fun _ e0 => rn <| gv (r_assign (v := nn 0) rfl) <| nl <| e0 <| sk fun _ g0 => rn <| mw b0 i0 <| gv (r_sub (j := 1) (eh b0 rfl) rfl (by decide) (by decide)) <| gv (r_cv_n_u (i := 1) (eh b0 rfl) qu_3 qu_152 (by decide)) <| gk (k_cl f141_1 rfl fn_141 (map_cons (eh b0 rfl) map_nil) (fun j0 k0 h0 => ?_))
 obtain ⟨rfl, rfl⟩ := h0
 refine gv (r_sub (j := 1) (eh b0 rfl) rfl (by decide) (by decide)) <| gv (r_shl (i := 1) rfl (eh b0 rfl) (by decide) (by decide)) <| ms b0 rfl <| nl <| g0 <| wp_ret <| ret_of (res1 rfl _ _ (gh b0 rfl)) ((ov_defers _ _).trans d0) ?_
 exact ⟨rfl, rfl⟩

theorem f117_4 {w : World} : Calls Tryz.prog 117 #[nn 4] w (Ret fun v w' => v = nn 2 ∧ w = w') := by
 refine enter Tryz.func117 rfl (fun c0 hT d0 => ?_)
 have b0 : c0.tmps.size = 9 := by rw [hT]; kernel_rfl
 have i0 : c0.tmps.getD 0 undef = nn 4 := by rw [hT]; kernel_rfl
 clear hT
 refine sk fun _ e0 => rn <| gv (r_assign (v := nn 0) rfl) <| nl <| e0 <| sk fun _ g0 => rn <| mw b0 i0 <| gv (r_sub (j := 1) (eh b0 rfl) rfl (by decide) (by decide)) <| gv (r_cv_n_u (i := 3) (eh b0 rfl) qu_3 qu_152 (by decide)) <| gk (k_cl f141_3 rfl fn_141 (map_cons (eh b0 rfl) map_nil) (fun j0 k0 h0 => ?_))
 obtain ⟨rfl, rfl⟩ := h0
 refine gv (r_sub (j := 1) (eh b0 rfl) rfl (by decide) (by decide)) <| gv (r_shl (i := 1) rfl (eh b0 rfl) (by decide) (by decide)) <| ms b0 rfl <| nl <| g0 <| wp_ret <| ret_of (res1 rfl _ _ (gh b0 rfl)) ((ov_defers _ _).trans d0) ?_
 exact ⟨rfl, rfl⟩

theorem f117_8 {w : World} : Calls Tryz.prog 117 #[nn 8] w (Ret fun v w' => v = nn 4 ∧ w = w') := by
 refine enter Tryz.func117 rfl (fun c0 hT d0 => ?_)
 have b0 : c0.tmps.size = 9 := by rw [hT]; kernel_rfl
 have i0 : c0.tmps.getD 0 undef = nn 8 := by rw [hT]; kernel_rfl
 clear hT
 refine sk fun _ e0 => rn <| gv (r_assign (v := nn 0) rfl) <| nl <| e0 <| sk fun _ g0 => rn <| mw b0 i0 <| gv (r_sub (j := 1) (eh b0 rfl) rfl (by decide) (by decide)) <| gv (r_cv_n_u (i := 7) (eh b0 rfl) qu_3 qu_152 (by decide)) <| gk (k_cl f141_7 rfl fn_141 (map_cons (eh b0 rfl) map_nil) (fun j0 k0 h0 => ?_))
 obtain ⟨rfl, rfl⟩ := h0
 refine gv (r_sub (j := 1) (eh b0 rfl) rfl (by decide) (by decide)) <| gv (r_shl (i := 1) rfl (eh b0 rfl) (by decide) (by decide)) <| ms b0 rfl <| nl <| g0 <| wp_ret <| ret_of (res1 rfl _ _ (gh b0 rfl)) ((ov_defers _ _).trans d0) ?_
 exact ⟨rfl, rfl⟩

theorem f117_16 {w : World} : Calls Tryz.prog 117 #[nn 16] w (Ret fun v w' => v = nn 8 ∧ w = w') := by
 refine enter Tryz.func117 rfl (fun c0 hT d0 => ?_)
 have b0 : c0.tmps.size = 9 := by rw [hT]; kernel_rfl
 have i0 : c0.tmps.getD 0 undef = nn 16 := by rw [hT]; kernel_rfl
 clear hT
 refine sk fun _ e0 => rn <| gv (r_assign (v := nn 0) rfl) <| nl <| e0 <| sk fun _ g0 => rn <| mw b0 i0 <| gv (r_sub (j := 1) (eh b0 rfl) rfl (by decide) (by decide)) <| gv (r_cv_n_u (i := 15) (eh b0 rfl) qu_3 qu_152 (by decide)) <| gk (k_cl f141_15 rfl fn_141 (map_cons (eh b0 rfl) map_nil) (fun j0 k0 h0 => ?_))
 obtain ⟨rfl, rfl⟩ := h0
 refine gv (r_sub (j := 1) (eh b0 rfl) rfl (by decide) (by decide)) <| gv (r_shl (i := 1) rfl (eh b0 rfl) (by decide) (by decide)) <| ms b0 rfl <| nl <| g0 <| wp_ret <| ret_of (res1 rfl _ _ (gh b0 rfl)) ((ov_defers _ _).trans d0) ?_
 exact ⟨rfl, rfl⟩

theorem f88_2 {w : World} : Calls Tryz.prog 88 #[nn 2] w (Ret fun v w' => v = nn 1 ∧ w = w') := by
 refine enter Tryz.func88 rfl (fun c0 hT d0 => ?_)
 have b0 : c0.tmps.size = 11 := by rw [hT]; kernel_rfl
 have k0 : c0.tmps.getD 0 undef = nn 2 := by rw [hT]; kernel_rfl
 clear hT
 refine sk fun _ e0 => rn <| gv (r_assign (v := nn 0) rfl) <| nl <| e0 <| sk fun _ g0 => rn <| gv (r_assign (v := nn 1) rfl) <| nl <| g0 <| sk fun _ h0 => bl <| wp_unroll (n := 5) <| un_step (n := 4) <| sk fun _ l0 => sk fun _ i0 => rn <| mv b0 rfl <| gv (r_mul (i := 2) rfl (eh b0 rfl) (by decide)) <| mw b0 k0 <| gv (r_lss (eh b0 rfl) (eh b0 rfl)) <| nl <| i0 <| ce b0 rfl <| we <| h0 <| sk fun _ j0 => rn <| mv b0 rfl <| ms b0 rfl <| nl <| j0 <| wp_ret <| ret_of (res1 rfl _ _ (gh b0 rfl)) ((ov_defers _ _).trans d0) ?_
 exact ⟨rfl, rfl⟩

theorem f88_4 {w : World} : Calls Tryz.prog 88 #[nn 4] w (Ret fun v w' => v = nn 2 ∧ w = w') := by
 refine enter Tryz.func88 rfl (fun c0 hT e0 => ?_)
 have b0 : c0.tmps.size = 11 := by rw [hT]; kernel_rfl
 have d0 : c0.tmps.getD 0 undef = nn 4 := by rw [hT]; kernel_rfl
 clear hT
 refine sk fun _ g0 => rn <| gv (r_assign (v := nn 0) rfl) <| nl <| g0 <| sk fun _ h0 => rn <| gv (r_assign (v := nn 1) rfl) <| nl <| h0 <| sk fun _ i0 => bl <| wp_unroll (n := 5) <| un_step (n := 4) <| sk fun _ j0 => sk fun _ k0 => rn <| mv b0 rfl <| gv (r_mul (i := 2) rfl (eh b0 rfl) (by decide)) <| mw b0 d0 <| gv (r_lss (eh b0 rfl) (eh b0 rfl)) <| nl <| k0 <| cd b0 rfl <| ws <| j0 <| bl <| rn <| mv b0 rfl <| gv (r_mul (i := 2) rfl (eh b0 rfl) (by decide)) <| ms b0 rfl <| nl <| in_blk <| un_next <| un_step (n := 3) <| sk fun _ n0 => sk fun _ l0 => rn <| mv b0 rfl <| gv (r_mul (i := 2) rfl (eh b0 rfl) (by decide)) <| mw b0 d0 <| gv (r_lss (eh b0 rfl) (eh b0 rfl)) <| nl <| l0 <| ce b0 rfl <| we <| i0 <| sk fun _ m0 => rn <| mv b0 rfl <| ms b0 rfl <| nl <| m0 <| wp_ret <| ret_of (res1 rfl _ _ (gh b0 rfl)) ((ov_defers _ _).trans e0) ?_
 exact ⟨rfl, rfl⟩

theorem f88_8 {w : World} : Calls Tryz.prog 88 #[nn 8] w (Ret fun v w' => v = nn 4 ∧ w = w') := by
 refine enter Tryz.func88 rfl (fun d0 hT e0 => ?_)
 have b0 : d0.tmps.size = 11 := by rw [hT]; kernel_rfl
 have c0 : d0.tmps.getD 0 undef = nn 8 := by rw [hT]; kernel_rfl
 clear hT
 refine sk fun _ g0 => rn <| gv (r_assign (v := nn 0) rfl) <| nl <| g0 <| sk fun _ i0 => rn <| gv (r_assign (v := nn 1) rfl) <| nl <| i0 <| sk fun _ j0 => bl <| wp_unroll (n := 5) <| un_step (n := 4) <| sk fun _ k0 => sk fun _ l0 => rn <| mv b0 rfl <| gv (r_mul (i := 2) rfl (eh b0 rfl) (by decide)) <| mw b0 c0 <| gv (r_lss (eh b0 rfl) (eh b0 rfl)) <| nl <| l0 <| cd b0 rfl <| ws <| k0 <| bl <| rn <| mv b0 rfl <| gv (r_mul (i := 2) rfl (eh b0 rfl) (by decide)) <| ms b0 rfl <| nl <| in_blk <| un_next <| un_step (n := 3) <| sk fun _ m0 => sk fun _ n0 => rn <| mv b0 rfl <| gv (r_mul (i := 2) rfl (eh b0 rfl) (by decide)) <| mw b0 c0 <| gv (r_lss (eh b0 rfl) (eh b0 rfl)) <| nl <| n0 <| cd b0 rfl <| ws <| m0 <| bl <| rn <| mv b0 rfl <| gv (r_mul (i := 2) rfl (eh b0 rfl) (by decide)) <| ms b0 rfl <| nl <| in_blk <| un_next <| un_step (n := 2) <| sk fun _ p0 => sk fun _ o0 => rn <| mv b0 rfl <| gv (r_mul (i := 2) rfl (eh b0 rfl) (by decide)) <| mw b0 c0 <| gv (r_lss (eh b0 rfl) (eh b0 rfl)) <| nl <| o0 <| ce b0 rfl <| we <| j0 <| sk fun _ h0 => rn <| mv b0 rfl <| ms b0 rfl <| nl <| h0 <| wp_ret <| ret_of (res1 rfl _ _ (gh b0 rfl)) ((ov_defers _ _).trans e0) ?_
 exact ⟨rfl, rfl⟩

theorem f88_16 {w : World} : Calls Tryz.prog 88 #[nn 16] w (Ret fun v w' => v = nn 8 ∧ w = w') := by
 refine enter Tryz.func88 rfl (fun d0 hT e0 => ?_)
 have b0 : d0.tmps.size = 11 := by rw [hT]; kernel_rfl
 have c0 : d0.tmps.getD 0 undef = nn 16 := by rw [hT]; kernel_rfl
 clear hT
 refine sk fun _ g0 => rn <| gv (r_assign (v := nn 0) rfl) <| nl <| g0 <| sk fun _ j0 => rn <| gv (r_assign (v := nn 1) rfl) <| nl <| j0 <| sk fun _ k0 => bl <| wp_unroll (n := 5) <| un_step (n := 4) <| sk fun _ l0 => sk fun _ m0 => rn <| mv b0 rfl <| gv (r_mul (i := 2) rfl (eh b0 rfl) (by decide)) <| mw b0 c0 <| gv (r_lss (eh b0 rfl) (eh b0 rfl)) <| nl <| m0 <| cd b0 rfl <| ws <| l0 <| bl <| rn <| mv b0 rfl <| gv (r_mul (i := 2) rfl (eh b0 rfl) (by decide)) <| ms b0 rfl <| nl <| in_blk <| un_next <| un_step (n := 3) <| sk fun _ n0 => sk fun _ o0 => rn <| mv b0 rfl <| gv (r_mul (i := 2) rfl (eh b0 rfl) (by decide)) <| mw b0 c0 <| gv (r_lss (eh b0 rfl) (eh b0 rfl)) <| nl <| o0 <| cd b0 rfl <| ws <| n0 <| bl <| rn <| mv b0 rfl <| gv (r_mul (i := 2) rfl (eh b0 rfl) (by decide)) <| ms b0 rfl <| nl <| in_blk <| un_next <| un_step (n := 2) <| sk fun _ p0 => sk fun _ q0 => rn <| mv b0 rfl <| gv (r_mul (i := 2) rfl (eh b0 rfl) (by decide)) <| mw b0 c0 <| gv (r_lss (eh b0 rfl) (eh b0 rfl)) <| nl <| q0 <| cd b0 rfl <| ws <| p0 <| bl <| rn <| mv b0 rfl <| gv (r_mul (i := 2) rfl (eh b0 rfl) (by decide)) <| ms b0 rfl <| nl <| in_blk <| un_next <| un_step (n := 1) <| sk fun _ r0 => sk fun _ h0 => rn <| mv b0 rfl <| gv (r_mul (i := 2) rfl (eh b0 rfl) (by decide)) <| mw b0 c0 <| gv (r_lss (eh b0 rfl) (eh b0 rfl)) <| nl <| h0 <| ce b0 rfl <| we <| k0 <| sk fun _ i0 => rn <| mv b0 rfl <| ms b0 rfl <| nl <| i0 <| wp_ret <| ret_of (res1 rfl _ _ (gh b0 rfl)) ((ov_defers _ _).trans e0) ?_
 exact ⟨rfl, rfl⟩

theorem f118 {m : Ctx} {w : World} (ag : Ag m w) {a b : Bytes} : Calls Tryz.prog 118 #[H a, H b] w (Ret fun v w' => ∃ m', v = H (node a b) ∧ Fr no m w m' w') := by
 refine enter Tryz.func118 rfl (fun p0 hT J0 => ?_)
 have c0 : p0.tmps.size = 11 := by rw [hT]; kernel_rfl
 have Y0 : p0.tmps.getD 0 undef = H a := by rw [hT]; kernel_rfl
 have Z0 : p0.tmps.getD 1 undef = H b := by rw [hT]; kernel_rfl
 clear hT
 have cu0 : Fr (no) m w m w := Fr.refl ag
 refine sk fun _ K0 => rn <| gk (k_box (L := hc a) ag (em c0 rfl rfl Y0) (by kernel_rfl) (fun G1 c1 x0 r0 k1 => ?_))
 have z1 := r0.size
 have n1 := x0.lt
 refine gk (k_box (L := hc b) r0.ag (em c0 rfl rfl Z0) (by kernel_rfl) (fun I1 E0 v0 n0 i1 => ?_))
 have x1 := n0.size
 have p1 := v0.lt
 refine gk (k_alloc n0.ag qz_23 (fun m0 e0 w0 l0 j1 => ?_))
 have y1 := l0.size
 have m1 := w0.lt
 refine nl <| K0 <| sk fun _ L0 => ?_
 have d0 : Fr no m m0 m { m0 with drawn := m0.drawn + 1 } := Fr.drw l0.ag
 obtain ⟨b0, z0⟩ : ∃ w_, w_ = ({ m0 with drawn := m0.drawn + 1 } : World) := ⟨_, rfl⟩
 rw [← z0] at d0
 have A1 := d0.size
 refine wp_region_T mixed (fun wz => ∃ mz, Fr (no) m b0 mz wz) (fun wz => ∃ mz, Fr (on e0) m b0 mz wz) 6 ?_
 rw [← z0]
 show wpAnyT _ _ _ _ _ 7 _ _ _
 have u0 : Fr (no) m b0 m b0 := Fr.refl d0.ag
 have h1 : ∀ wz, (∃ mz, Fr (no) m b0 mz wz) → ∃ mz, Fr (on e0) m b0 mz wz := fun wz ⟨mz, hz⟩ => ⟨mz, hz.wk (fun x hx _ => hx.elim)⟩
 refine tk2 (i := 1) rfl rfl (fun _ _ => r_sliceA (eh c0 rfl) qa_23) ⟨_, u0⟩ <| tk2 (i := 3) rfl rfl (fun _ _ => r_sliceA (eh c0 rfl) qa_23) ⟨_, u0⟩ <| ann (i := 0) (b := false) rfl rfl (k_lit (e := 5) (L := bv ([3])) d0.ag (pm_cons (v := u8 3) rfl pm_nil) (by kernel_rfl) (fun H1 d1 y0 g0 l1 => ?_))
 have B1 := g0.size
 have C0 := u0.t0 g0
 have o1 := y0.lt
 refine ⟨(tbF ⟨_, C0⟩), ?_⟩
 have H0 := ((n0.t0 l0).t0 d0).t0 g0
 have N0 := (x0.f0 H0)
 have P0 : (([3]) ++ (n32 a) : List UInt8).length = 33 := (len_app rfl (n32_len _))
 refine ann (i := 2) (b := false) rfl rfl (k_append (base := b0.heap.size) (L := bv ([3])) (N := bv (n32 a)) g0.ag (eh c0 rfl) (eh c0 rfl) qs_38 qz_5 (Own.of_mu y0 (by omega) (by kernel_rfl) (by decide)) (by have h_ := (N0.bk.src (L := hc a) (n := 32) (o := 0) (k := 32) (by kernel_rfl)); rw [hc_n32] at h_; exact h_) (fun h => by cases h) (by rw [bv_length, show (n32 a : List UInt8).length = 32 from (n32_len _), Nat.mul_one]) (one_bv _) (by omega) (by decide) (by rw [maxLen_eq]; omega) (by omega) (fun a1 e1 J1 s0 h0 => ?_))
 have C1 := h0.size
 have D0 := C0.tg h0 (by omega)
 rw [← bv_append] at s0
 have r1 := s0.nilc
 refine ⟨(tbF ⟨_, D0⟩), ?_⟩
 have I0 := (l0.t0 d0).t0 g0
 have O0 := ((v0.f0 I0).fs h0 (show ¬ b0.heap.size ≤ E0 from by omega))
 have Q0 : ((([3]) ++ (n32 a)) ++ (n32 b) : List UInt8).length = 65 := (len_app P0 (n32_len _))
 refine ann (i := 4) (b := false) rfl rfl (k_append (base := b0.heap.size) (L := bv (([3]) ++ (n32 a))) (N := bv (n32 b)) h0.ag (eh c0 rfl) (eh c0 rfl) qs_38 qz_5 s0 (by have h_ := (O0.bk.src (L := hc b) (n := 32) (o := 0) (k := 32) (by kernel_rfl)); rw [hc_n32] at h_; exact h_) (fun h => by cases h) (by rw [bv_length, show (n32 b : List UInt8).length = 32 from (n32_len _), Nat.mul_one]) (one_bv _) (by omega) (by decide) (by rw [maxLen_eq]; omega) (by omega) (fun b1 g1 K1 o0 i0 => ?_))
 have t1 := i0.size
 have A0 := D0.tg i0 (by omega)
 rw [← bv_append] at o0
 have s1 := o0.nilc
 refine ⟨(tbF ⟨_, A0⟩), ?_⟩
 obtain ⟨q1, F0, T0⟩ := o0.fz i0.ag
 have j0 : Fr (ge b0.heap.size) _ _ _ _ := F0.wk (fun x hx _ => o0.at x hx)
 have u1 := j0.size
 have V0 := A0.tg j0 (by omega)
 refine ann (i := 5) (b := false) rfl rfl (k_cl (f26 j0.ag T0 Q0 (by omega)) rfl fn_26 (map_cons (eh c0 rfl) map_nil) (fun D1 E1 S0 => ?_))
 obtain ⟨U0, rfl, k0⟩ := S0
 have v1 := k0.size
 have B0 := V0.t0 k0
 refine ⟨(tbF ⟨_, B0⟩), ?_⟩
 have W0 : Fr (on e0) _ _ _ _ := B0.wk (fun x hx _ => hx.elim)
 have G0 := d0.t0 g0
 have M0 := (((((w0.f0 G0).fs h0 (show ¬ b0.heap.size ≤ e0 from by omega)).fs i0 (show ¬ b0.heap.size ≤ e0 from by omega)).fs j0 (show ¬ b0.heap.size ≤ e0 from by omega)).f0 k0)
 refine an00 (i := 6) (b := true) rfl rfl (kt (L' := hc (sha ((([3]) ++ (n32 a)) ++ (n32 b)))) k0.ag (eh c0 rfl) (eh c0 rfl) M0 sz_23 (fun F1 R0 q0 => ?_))
 have w1 := q0.size
 have X0 := W0.tr q0 (fun x hx => .inr (by cases hx; exact rfl))
 refine ⟨(tbT ⟨_, X0⟩), ?_⟩
 refine anyT_done (by kernel_rfl) ?_ _
 refine L0 <| wp_ret <| ret_of (res1c (b := e0) (n := 32) (cs := hc (sha ((([3]) ++ (n32 a)) ++ (n32 b)))) rfl _ _ (gh c0 rfl) R0.bk (by kernel_rfl) (by kernel_rfl) qr_23 sz_23) ((ov_defers _ _).trans J0) ?_
 exact ⟨U0, rfl, ((((((((((cu0.t0 r0).t0 n0).t0 l0).t0 d0).t0 g0).tg h0 (by omega)).tg i0 (by omega)).tg j0 (by omega)).t0 k0).tn q0 (by omega))⟩

theorem f89 {m : Ctx} {w : World} (ag : Ag m w) {a b : Bytes} : Calls Tryz.prog 89 #[H a, H b] w (Ret fun v w' => ∃ m', v = H (node a b) ∧ Fr no m w m' w') := by
 refine enter Tryz.func89 rfl (fun n0 hT A0 => ?_)
 have b0 : n0.tmps.size = 13 := by rw [hT]; kernel_rfl
 have N0 : n0.tmps.getD 0 undef = H a := by rw [hT]; kernel_rfl
 have O0 : n0.tmps.getD 1 undef = H b := by rw [hT]; kernel_rfl
 clear hT
 have cu0 : Fr (no) m w m w := Fr.refl ag
 refine sk fun _ B0 => rn <| gk (k_box (L := hc a) ag (em b0 rfl rfl N0) (by kernel_rfl) (fun r1 S0 v0 o0 Y0 => ?_))
 have p1 := o0.size
 have b1 := v0.lt
 refine gk (k_box (L := hc b) o0.ag (em b0 rfl rfl O0) (by kernel_rfl) (fun x1 w0 r0 i0 V0 => ?_))
 have h1 := i0.size
 have c1 := r0.lt
 refine gk (k_alloc i0.ag qz_23 (fun c0 h0 s0 e0 W0 => ?_))
 have i1 := e0.size
 have Z0 := s0.lt
 refine nl <| B0 <| sk fun _ C0 => rn <| gk (k_lit (e := 5) (L := bv ([3])) e0.ag (pm_cons (v := u8 3) rfl pm_nil) (by kernel_rfl) (fun s1 R0 u0 d0 X0 => ?_))
 have j1 := d0.size
 have a1 := u0.lt
 refine gv (r_sliceA (eh b0 rfl) qa_23) ?_
 have x0 := (i0.t0 e0).t0 d0
 have E0 := (v0.f0 x0)
 have H0 : (([3]) ++ (n32 a) : List UInt8).length = 33 := (len_app rfl (n32_len _))
 refine gk (k_append (base := c0.heap.size) (L := bv ([3])) (N := bv (n32 a)) d0.ag (eh b0 rfl) (eh b0 rfl) qs_38 qz_5 (Own.of_mu u0 (by omega) (by kernel_rfl) (by decide)) (by have h_ := (E0.bk.src (L := hc a) (n := 32) (o := 0) (k := 32) (by kernel_rfl)); rw [hc_n32] at h_; exact h_) (fun h => by cases h) (by rw [bv_length, show (n32 a : List UInt8).length = 32 from (n32_len _), Nat.mul_one]) (one_bv _) (by omega) (by decide) (by rw [maxLen_eq]; omega) (by omega) (fun P0 T0 t1 p0 g0 => ?_))
 have k1 := g0.size
 rw [← bv_append] at p0
 have e1 := p0.nilc
 refine ms b0 rfl <| nl <| C0 <| sk fun _ D0 => rn <| mv b0 rfl <| gv (r_sliceA (eh b0 rfl) qa_23) ?_
 have y0 := e0.t0 d0
 have F0 := ((r0.f0 y0).fs g0 (show ¬ c0.heap.size ≤ w0 from by omega))
 have I0 : ((([3]) ++ (n32 a)) ++ (n32 b) : List UInt8).length = 65 := (len_app H0 (n32_len _))
 refine gk (k_append (base := c0.heap.size) (L := bv (([3]) ++ (n32 a))) (N := bv (n32 b)) g0.ag (eh b0 rfl) (eh b0 rfl) qs_38 qz_5 p0 (by have h_ := (F0.bk.src (L := hc b) (n := 32) (o := 0) (k := 32) (by kernel_rfl)); rw [hc_n32] at h_; exact h_) (fun h => by cases h) (by rw [bv_length, show (n32 b : List UInt8).length = 32 from (n32_len _), Nat.mul_one]) (one_bv _) (by omega) (by decide) (by rw [maxLen_eq]; omega) (by omega) (fun Q0 U0 u1 m0 j0 => ?_))
 have l1 := j0.size
 rw [← bv_append] at m0
 have g1 := m0.nilc
 obtain ⟨d1, z0, L0⟩ := m0.fz j0.ag
 have k0 : Fr (ge c0.heap.size) _ _ _ _ := z0.wk (fun x hx _ => m0.at x hx)
 have m1 := k0.size
 refine gk (k_cl (f41 k0.ag L0 I0 (by omega)) rfl fn_41 (map_cons (eh b0 rfl) map_nil) (fun q1 v1 K0 => ?_))
 obtain ⟨M0, rfl, l0⟩ := K0
 have n1 := l0.size
 have G0 := (((((s0.f0 d0).fs g0 (show ¬ c0.heap.size ≤ h0 from by omega)).fs j0 (show ¬ c0.heap.size ≤ h0 from by omega)).fs k0 (show ¬ c0.heap.size ≤ h0 from by omega)).f0 l0)
 refine gz (kt (L' := hc (sha ((([3]) ++ (n32 a)) ++ (n32 b)))) l0.ag (eh b0 rfl) (eh b0 rfl) G0 sz_23 (fun w1 J0 q0 => ?_))
 have o1 := q0.size
 refine nl <| D0 <| wp_ret <| ret_of (res1c (b := h0) (n := 32) (cs := hc (sha ((([3]) ++ (n32 a)) ++ (n32 b)))) rfl _ _ (gh b0 rfl) J0.bk (by kernel_rfl) (by kernel_rfl) qr_23 sz_23) ((ov_defers _ _).trans A0) ?_
 exact ⟨M0, rfl, (((((((((cu0.t0 o0).t0 i0).t0 e0).t0 d0).tg g0 (by omega)).tg j0 (by omega)).tg k0 (by omega)).t0 l0).tn q0 (by omega))⟩

theorem f67_0 {m : Ctx} {w : World} (ag : Ag m w) {A : Option Addr} {c : Nat} {l : List Bytes} (hsl : Sl m A 1 c 32 (hcs l)) (hl : l.length = 1) : Calls Tryz.prog 67 #[.slice A 1 c] w (Ret fun v w' => ∃ m', v = H (mr 0 l) ∧ Fr no m w m' w') := by
 refine enter Tryz.func67 rfl (fun d0 hT j0 => ?_)
 have b0 : d0.tmps.size = 26 := by rw [hT]; kernel_rfl
 have h0 : d0.tmps.getD 0 undef = .slice A 1 c := by rw [hT]; kernel_rfl
 clear hT
 have cu0 : Fr (no) m w m w := Fr.refl ag
 refine sk fun _ k0 => rn <| gk (k_alloc ag qz_23 (fun D0 i0 g0 c0 y0 => ?_))
 have B0 := c0.size
 have z0 := g0.lt
 refine nl <| k0 <| sk fun _ x0 => sk fun _ o0 => rn <| mw b0 h0 <| gv (r_lenS (eh b0 rfl) rfl qu_27) <| nl <| o0 <| bl <| sk fun _ l0 => rn <| gv (r_eql (j := 0) (eh b0 rfl) rfl) <| ms b0 rfl <| nl <| l0 <| ce b0 rfl <| sk fun _ m0 => rn <| gv (r_eql (j := 1) (eh b0 rfl) rfl) <| ms b0 rfl <| nl <| m0 <| cd b0 rfl <| sk fun _ n0 => rn <| mw b0 h0 ?_
 have s0 := (hsl.up c0)
 obtain ⟨w0, u0, v0, rfl, q0, r0⟩ := s0.elem (by omega)
 refine gv (r_idxS (i := 0) (o' := u0 + 0) (eh b0 rfl) rfl qs_27 (by decide) (by omega)) <| gv (r_loadN (cs := hc ((l).getD 0 [])) (eh b0 rfl) (c0.ag _ _ q0) (Eq.trans (rd_sub r0 (by omega)) (hcs_get (i := 0) hl (by omega))) (by kernel_rfl) qr_23 sz_23) <| gz (kt (L' := hc ((l).getD 0 [])) c0.ag (eh b0 rfl) (eh b0 rfl) g0 sz_23 (fun C0 p0 e0 => ?_))
 have A0 := e0.size
 refine nl <| n0 <| wp_ret <| ret_of (res1c (b := i0) (n := 32) (cs := hc ((l).getD 0 [])) rfl _ _ (gh b0 rfl) p0.bk (by kernel_rfl) (by kernel_rfl) qr_23 sz_23) ((ov_defers _ _).trans j0) ?_
 exact ⟨m, rfl, ((cu0.t0 c0).tn e0 (by omega))⟩

theorem f67_1 {m : Ctx} {w : World} (ag : Ag m w) {A : Option Addr} {c : Nat} {l : List Bytes} (hsl : Sl m A 2 c 32 (hcs l)) (hl : l.length = 2) : Calls Tryz.prog 67 #[.slice A 2 c] w (Ret fun v w' => ∃ m', v = H (mr 1 l) ∧ Fr no m w m' w') := by
 refine enter Tryz.func67 rfl (fun p0 hT x0 => ?_)
 have b0 : p0.tmps.size = 26 := by rw [hT]; kernel_rfl
 have n0 : p0.tmps.getD 0 undef = .slice A 2 c := by rw [hT]; kernel_rfl
 clear hT
 have cu0 : Fr (no) m w m w := Fr.refl ag
 refine sk fun _ y0 => rn <| gk (k_alloc ag qz_23 (fun j0 k0 q0 l0 U0 => ?_))
 have Z0 := l0.size
 have V0 := q0.lt
 refine nl <| y0 <| sk fun _ D0 => sk fun _ E0 => rn <| mw b0 n0 <| gv (r_lenS (eh b0 rfl) rfl qu_27) <| nl <| E0 <| bl <| sk fun _ z0 => rn <| gv (r_eql (j := 0) (eh b0 rfl) rfl) <| ms b0 rfl <| nl <| z0 <| ce b0 rfl <| sk fun _ A0 => rn <| gv (r_eql (j := 1) (eh b0 rfl) rfl) <| ms b0 rfl <| nl <| A0 <| ce b0 rfl <| ws <| D0 <| sk fun _ B0 => rn <| mw b0 n0 <| gv (r_lenS (eh b0 rfl) rfl qu_27) <| gk (k_cl f117_2 rfl fn_117 (map_cons (eh b0 rfl) map_nil) (fun e1 j1 J0 => ?_))
 obtain ⟨rfl, rfl⟩ := J0
 refine ms b0 rfl <| nl <| B0 <| sk fun _ C0 => ?_
 have c0 : Fr no m j0 m { j0 with drawn := j0.drawn + 1 } := Fr.drw l0.ag
 obtain ⟨g0, r0⟩ : ∃ w_, w_ = ({ j0 with drawn := j0.drawn + 1 } : World) := ⟨_, rfl⟩
 rw [← r0] at c0
 have Y0 := c0.size
 refine wp_region_T mixed (fun wz => ∃ mz, Fr (no) m g0 mz wz) (fun wz => ∃ mz, Fr (on k0) m g0 mz wz) 9 ?_
 rw [← r0]
 show wpAnyT _ _ _ _ _ 10 _ _ _
 have d0 : Fr (no) m g0 m g0 := Fr.refl c0.ag
 have T0 : ∀ wz, (∃ mz, Fr (no) m g0 mz wz) → ∃ mz, Fr (on k0) m g0 mz wz := fun wz ⟨mz, hz⟩ => ⟨mz, hz.wk (fun x hx _ => hx.elim)⟩
 refine tk2 (i := 0) rfl rfl (fun _ _ => r_move (em b0 rfl rfl n0)) ⟨_, d0⟩ <| tk2 (i := 1) rfl rfl (fun _ _ => r_move (eh b0 rfl)) ⟨_, d0⟩ ?_
 have m0 := ((hsl.up l0).up c0)
 have N0 : Sl m (A) (1) (c) 32 (hcs ((l).take 1)) := by have h_ := m0.hi (hi := 1) (by omega); rw [hcs_take] at h_; exact h_
 have G0 : ((l).take 1 : List Bytes).length = 1 := (by rw [List.length_take, show (l).length = 2 from hl]; omega)
 refine tk2 (i := 2) rfl rfl (fun _ _ => r_sliceHi (n := 2) (c := c) (hi := 1) (eh b0 rfl) (eh b0 rfl) qs_27 (by have h_ := m0.cap; omega)) ⟨_, d0⟩ <| tk2 (i := 4) rfl rfl (fun _ _ => r_move (em b0 rfl rfl n0)) ⟨_, d0⟩ <| tk2 (i := 5) rfl rfl (fun _ _ => r_move (eh b0 rfl)) ⟨_, d0⟩ ?_
 have O0 : Sl m (sA A c 1 32) (1) (c - 1) 32 (hcs ((l).drop 1)) := by have h_ := m0.lo (lo := 1) (by omega); rw [hcs_drop] at h_; exact h_
 have H0 : ((l).drop 1 : List Bytes).length = 1 := (by rw [List.length_drop, show (l).length = 2 from hl])
 refine tk2 (i := 6) rfl rfl (fun _ _ => r_sliceLo (n := 2) (c := c) (lo := 1) (eh b0 rfl) (eh b0 rfl) qs_27 (by omega) m0.cap) ⟨_, d0⟩ <| ann (i := 3) (b := false) rfl rfl (k_cl (f67_0 c0.ag N0 G0) rfl fn_67 (map_cons (eh b0 rfl) map_nil) (fun g1 k1 K0 => ?_))
 obtain ⟨W0, rfl, e0⟩ := K0
 have a1 := e0.size
 have s0 := d0.t0 e0
 refine ⟨(tbF ⟨_, s0⟩), ?_⟩
 have P0 := (O0.up e0)
 refine ann (i := 7) (b := false) rfl rfl (k_cl (f67_0 e0.ag P0 H0) rfl fn_67 (map_cons (eh b0 rfl) map_nil) (fun h1 l1 L0 => ?_))
 obtain ⟨X0, rfl, h0⟩ := L0
 have b1 := h0.size
 have u0 := s0.t0 h0
 refine ⟨(tbF ⟨_, u0⟩), ?_⟩
 refine ann (i := 8) (b := false) rfl rfl (k_cl (f118 h0.ag) rfl fn_118 (map_cons (eh b0 rfl) (map_cons (eh b0 rfl) map_nil)) (fun i1 m1 M0 => ?_))
 obtain ⟨Q0, rfl, i0⟩ := M0
 have c1 := i0.size
 have v0 := u0.t0 i0
 refine ⟨(tbF ⟨_, v0⟩), ?_⟩
 have R0 : Fr (on k0) _ _ _ _ := v0.wk (fun x hx _ => hx.elim)
 have w0 := ((c0.t0 e0).t0 h0).t0 i0
 have F0 := (q0.f0 w0)
 refine an00 (i := 9) (b := true) rfl rfl (kt (L' := hc (node (mr 0 ((l).take 1)) (mr 0 ((l).drop 1)))) i0.ag (eh b0 rfl) (eh b0 rfl) F0 sz_23 (fun n1 I0 o0 => ?_))
 have d1 := o0.size
 have S0 := R0.tr o0 (fun x hx => .inr (by cases hx; exact rfl))
 refine ⟨(tbT ⟨_, S0⟩), ?_⟩
 refine anyT_done (by kernel_rfl) ?_ _
 refine C0 <| wp_ret <| ret_of (res1c (b := k0) (n := 32) (cs := hc (node (mr 0 ((l).take 1)) (mr 0 ((l).drop 1)))) rfl _ _ (gh b0 rfl) I0.bk (by kernel_rfl) (by kernel_rfl) qr_23 sz_23) ((ov_defers _ _).trans x0) ?_
 exact ⟨Q0, rfl, ((((((cu0.t0 l0).t0 c0).t0 e0).t0 h0).t0 i0).tn o0 (by omega))⟩

theorem f67_2 {m : Ctx} {w : World} (ag : Ag m w) {A : Option Addr} {c : Nat} {l : List Bytes} (hsl : Sl m A 4 c 32 (hcs l)) (hl : l.length = 4) : Calls Tryz.prog 67 #[.slice A 4 c] w (Ret fun v w' => ∃ m', v = H (mr 2 l) ∧ Fr no m w m' w') := by
 refine enter Tryz.func67 rfl (fun p0 hT x0 => ?_)
 have b0 : p0.tmps.size = 26 := by rw [hT]; kernel_rfl
 have n0 : p0.tmps.getD 0 undef = .slice A 4 c := by rw [hT]; kernel_rfl
 clear hT
 have cu0 : Fr (no) m w m w := Fr.refl ag
 refine sk fun _ y0 => rn <| gk (k_alloc ag qz_23 (fun j0 k0 q0 l0 U0 => ?_))
 have Z0 := l0.size
 have V0 := q0.lt
 refine nl <| y0 <| sk fun _ D0 => sk fun _ E0 => rn <| mw b0 n0 <| gv (r_lenS (eh b0 rfl) rfl qu_27) <| nl <| E0 <| bl <| sk fun _ z0 => rn <| gv (r_eql (j := 0) (eh b0 rfl) rfl) <| ms b0 rfl <| nl <| z0 <| ce b0 rfl <| sk fun _ A0 => rn <| gv (r_eql (j := 1) (eh b0 rfl) rfl) <| ms b0 rfl <| nl <| A0 <| ce b0 rfl <| ws <| D0 <| sk fun _ B0 => rn <| mw b0 n0 <| gv (r_lenS (eh b0 rfl) rfl qu_27) <| gk (k_cl f117_4 rfl fn_117 (map_cons (eh b0 rfl) map_nil) (fun e1 j1 J0 => ?_))
 obtain ⟨rfl, rfl⟩ := J0
 refine ms b0 rfl <| nl <| B0 <| sk fun _ C0 => ?_
 have c0 : Fr no m j0 m { j0 with drawn := j0.drawn + 1 } := Fr.drw l0.ag
 obtain ⟨g0, r0⟩ : ∃ w_, w_ = ({ j0 with drawn := j0.drawn + 1 } : World) := ⟨_, rfl⟩
 rw [← r0] at c0
 have Y0 := c0.size
 refine wp_region_T mixed (fun wz => ∃ mz, Fr (no) m g0 mz wz) (fun wz => ∃ mz, Fr (on k0) m g0 mz wz) 9 ?_
 rw [← r0]
 show wpAnyT _ _ _ _ _ 10 _ _ _
 have d0 : Fr (no) m g0 m g0 := Fr.refl c0.ag
 have T0 : ∀ wz, (∃ mz, Fr (no) m g0 mz wz) → ∃ mz, Fr (on k0) m g0 mz wz := fun wz ⟨mz, hz⟩ => ⟨mz, hz.wk (fun x hx _ => hx.elim)⟩
 refine tk2 (i := 0) rfl rfl (fun _ _ => r_move (em b0 rfl rfl n0)) ⟨_, d0⟩ <| tk2 (i := 1) rfl rfl (fun _ _ => r_move (eh b0 rfl)) ⟨_, d0⟩ ?_
 have m0 := ((hsl.up l0).up c0)
 have N0 : Sl m (A) (2) (c) 32 (hcs ((l).take 2)) := by have h_ := m0.hi (hi := 2) (by omega); rw [hcs_take] at h_; exact h_
 have G0 : ((l).take 2 : List Bytes).length = 2 := (by rw [List.length_take, show (l).length = 4 from hl]; omega)
 refine tk2 (i := 2) rfl rfl (fun _ _ => r_sliceHi (n := 4) (c := c) (hi := 2) (eh b0 rfl) (eh b0 rfl) qs_27 (by have h_ := m0.cap; omega)) ⟨_, d0⟩ <| tk2 (i := 4) rfl rfl (fun _ _ => r_move (em b0 rfl rfl n0)) ⟨_, d0⟩ <| tk2 (i := 5) rfl rfl (fun _ _ => r_move (eh b0 rfl)) ⟨_, d0⟩ ?_
 have O0 : Sl m (sA A c 2 32) (2) (c - 2) 32 (hcs ((l).drop 2)) := by have h_ := m0.lo (lo := 2) (by omega); rw [hcs_drop] at h_; exact h_
 have H0 : ((l).drop 2 : List Bytes).length = 2 := (by rw [List.length_drop, show (l).length = 4 from hl])
 refine tk2 (i := 6) rfl rfl (fun _ _ => r_sliceLo (n := 4) (c := c) (lo := 2) (eh b0 rfl) (eh b0 rfl) qs_27 (by omega) m0.cap) ⟨_, d0⟩ <| ann (i := 3) (b := false) rfl rfl (k_cl (f67_1 c0.ag N0 G0) rfl fn_67 (map_cons (eh b0 rfl) map_nil) (fun g1 k1 K0 => ?_))
 obtain ⟨W0, rfl, e0⟩ := K0
 have a1 := e0.size
 have s0 := d0.t0 e0
 refine ⟨(tbF ⟨_, s0⟩), ?_⟩
 have P0 := (O0.up e0)
 refine ann (i := 7) (b := false) rfl rfl (k_cl (f67_1 e0.ag P0 H0) rfl fn_67 (map_cons (eh b0 rfl) map_nil) (fun h1 l1 L0 => ?_))
 obtain ⟨X0, rfl, h0⟩ := L0
 have b1 := h0.size
 have u0 := s0.t0 h0
 refine ⟨(tbF ⟨_, u0⟩), ?_⟩
 refine ann (i := 8) (b := false) rfl rfl (k_cl (f118 h0.ag) rfl fn_118 (map_cons (eh b0 rfl) (map_cons (eh b0 rfl) map_nil)) (fun i1 m1 M0 => ?_))
 obtain ⟨Q0, rfl, i0⟩ := M0
 have c1 := i0.size
 have v0 := u0.t0 i0
 refine ⟨(tbF ⟨_, v0⟩), ?_⟩
 have R0 : Fr (on k0) _ _ _ _ := v0.wk (fun x hx _ => hx.elim)
 have w0 := ((c0.t0 e0).t0 h0).t0 i0
 have F0 := (q0.f0 w0)
 refine an00 (i := 9) (b := true) rfl rfl (kt (L' := hc (node (mr 1 ((l).take 2)) (mr 1 ((l).drop 2)))) i0.ag (eh b0 rfl) (eh b0 rfl) F0 sz_23 (fun n1 I0 o0 => ?_))
 have d1 := o0.size
 have S0 := R0.tr o0 (fun x hx => .inr (by cases hx; exact rfl))
 refine ⟨(tbT ⟨_, S0⟩), ?_⟩
 refine anyT_done (by kernel_rfl) ?_ _
 refine C0 <| wp_ret <| ret_of (res1c (b := k0) (n := 32) (cs := hc (node (mr 1 ((l).take 2)) (mr 1 ((l).drop 2)))) rfl _ _ (gh b0 rfl) I0.bk (by kernel_rfl) (by kernel_rfl) qr_23 sz_23) ((ov_defers _ _).trans x0) ?_
 exact ⟨Q0, rfl, ((((((cu0.t0 l0).t0 c0).t0 e0).t0 h0).t0 i0).tn o0 (by omega))⟩

theorem f67_3 {m : Ctx} {w : World} (ag : Ag m w) {A : Option Addr} {c : Nat} {l : List Bytes} (hsl : Sl m A 8 c 32 (hcs l)) (hl : l.length = 8) : Calls Tryz.prog 67 #[.slice A 8 c] w (Ret fun v w' => ∃ m', v = H (mr 3 l) ∧ Fr no m w m' w') := by
 refine enter Tryz.func67 rfl (fun p0 hT x0 => ?_)
 have b0 : p0.tmps.size = 26 := by rw [hT]; kernel_rfl
 have n0 : p0.tmps.getD 0 undef = .slice A 8 c := by rw [hT]; kernel_rfl
 clear hT
 have cu0 : Fr (no) m w m w := Fr.refl ag
 refine sk fun _ y0 => rn <| gk (k_alloc ag qz_23 (fun j0 k0 q0 l0 U0 => ?_))
 have Z0 := l0.size
 have V0 := q0.lt
 refine nl <| y0 <| sk fun _ D0 => sk fun _ E0 => rn <| mw b0 n0 <| gv (r_lenS (eh b0 rfl) rfl qu_27) <| nl <| E0 <| bl <| sk fun _ z0 => rn <| gv (r_eql (j := 0) (eh b0 rfl) rfl) <| ms b0 rfl <| nl <| z0 <| ce b0 rfl <| sk fun _ A0 => rn <| gv (r_eql (j := 1) (eh b0 rfl) rfl) <| ms b0 rfl <| nl <| A0 <| ce b0 rfl <| ws <| D0 <| sk fun _ B0 => rn <| mw b0 n0 <| gv (r_lenS (eh b0 rfl) rfl qu_27) <| gk (k_cl f117_8 rfl fn_117 (map_cons (eh b0 rfl) map_nil) (fun e1 j1 J0 => ?_))
 obtain ⟨rfl, rfl⟩ := J0
 refine ms b0 rfl <| nl <| B0 <| sk fun _ C0 => ?_
 have c0 : Fr no m j0 m { j0 with drawn := j0.drawn + 1 } := Fr.drw l0.ag
 obtain ⟨g0, r0⟩ : ∃ w_, w_ = ({ j0 with drawn := j0.drawn + 1 } : World) := ⟨_, rfl⟩
 rw [← r0] at c0
 have Y0 := c0.size
 refine wp_region_T mixed (fun wz => ∃ mz, Fr (no) m g0 mz wz) (fun wz => ∃ mz, Fr (on k0) m g0 mz wz) 9 ?_
 rw [← r0]
 show wpAnyT _ _ _ _ _ 10 _ _ _
 have d0 : Fr (no) m g0 m g0 := Fr.refl c0.ag
 have T0 : ∀ wz, (∃ mz, Fr (no) m g0 mz wz) → ∃ mz, Fr (on k0) m g0 mz wz := fun wz ⟨mz, hz⟩ => ⟨mz, hz.wk (fun x hx _ => hx.elim)⟩
 refine tk2 (i := 0) rfl rfl (fun _ _ => r_move (em b0 rfl rfl n0)) ⟨_, d0⟩ <| tk2 (i := 1) rfl rfl (fun _ _ => r_move (eh b0 rfl)) ⟨_, d0⟩ ?_
 have m0 := ((hsl.up l0).up c0)
 have N0 : Sl m (A) (4) (c) 32 (hcs ((l).take 4)) := by have h_ := m0.hi (hi := 4) (by omega); rw [hcs_take] at h_; exact h_
 have G0 : ((l).take 4 : List Bytes).length = 4 := (by rw [List.length_take, show (l).length = 8 from hl]; omega)
 refine tk2 (i := 2) rfl rfl (fun _ _ => r_sliceHi (n := 8) (c := c) (hi := 4) (eh b0 rfl) (eh b0 rfl) qs_27 (by have h_ := m0.cap; omega)) ⟨_, d0⟩ <| tk2 (i := 4) rfl rfl (fun _ _ => r_move (em b0 rfl rfl n0)) ⟨_, d0⟩ <| tk2 (i := 5) rfl rfl (fun _ _ => r_move (eh b0 rfl)) ⟨_, d0⟩ ?_
 have O0 : Sl m (sA A c 4 32) (4) (c - 4) 32 (hcs ((l).drop 4)) := by have h_ := m0.lo (lo := 4) (by omega); rw [hcs_drop] at h_; exact h_
 have H0 : ((l).drop 4 : List Bytes).length = 4 := (by rw [List.length_drop, show (l).length = 8 from hl])
 refine tk2 (i := 6) rfl rfl (fun _ _ => r_sliceLo (n := 8) (c := c) (lo := 4) (eh b0 rfl) (eh b0 rfl) qs_27 (by omega) m0.cap) ⟨_, d0⟩ <| ann (i := 3) (b := false) rfl rfl (k_cl (f67_2 c0.ag N0 G0) rfl fn_67 (map_cons (eh b0 rfl) map_nil) (fun g1 k1 K0 => ?_))
 obtain ⟨W0, rfl, e0⟩ := K0
 have a1 := e0.size
 have s0 := d0.t0 e0
 refine ⟨(tbF ⟨_, s0⟩), ?_⟩
 have P0 := (O0.up e0)
 refine ann (i := 7) (b := false) rfl rfl (k_cl (f67_2 e0.ag P0 H0) rfl fn_67 (map_cons (eh b0 rfl) map_nil) (fun h1 l1 L0 => ?_))
 obtain ⟨X0, rfl, h0⟩ := L0
 have b1 := h0.size
 have u0 := s0.t0 h0
 refine ⟨(tbF ⟨_, u0⟩), ?_⟩
 refine ann (i := 8) (b := false) rfl rfl (k_cl (f118 h0.ag) rfl fn_118 (map_cons (eh b0 rfl) (map_cons (eh b0 rfl) map_nil)) (fun i1 m1 M0 => ?_))
 obtain ⟨Q0, rfl, i0⟩ := M0
 have c1 := i0.size
 have v0 := u0.t0 i0
 refine ⟨(tbF ⟨_, v0⟩), ?_⟩
 have R0 : Fr (on k0) _ _ _ _ := v0.wk (fun x hx _ => hx.elim)
 have w0 := ((c0.t0 e0).t0 h0).t0 i0
 have F0 := (q0.f0 w0)
 refine an00 (i := 9) (b := true) rfl rfl (kt (L' := hc (node (mr 2 ((l).take 4)) (mr 2 ((l).drop 4)))) i0.ag (eh b0 rfl) (eh b0 rfl) F0 sz_23 (fun n1 I0 o0 => ?_))
 have d1 := o0.size
 have S0 := R0.tr o0 (fun x hx => .inr (by cases hx; exact rfl))
 refine ⟨(tbT ⟨_, S0⟩), ?_⟩
 refine anyT_done (by kernel_rfl) ?_ _
 refine C0 <| wp_ret <| ret_of (res1c (b := k0) (n := 32) (cs := hc (node (mr 2 ((l).take 4)) (mr 2 ((l).drop 4)))) rfl _ _ (gh b0 rfl) I0.bk (by kernel_rfl) (by kernel_rfl) qr_23 sz_23) ((ov_defers _ _).trans x0) ?_
 exact ⟨Q0, rfl, ((((((cu0.t0 l0).t0 c0).t0 e0).t0 h0).t0 i0).tn o0 (by omega))⟩

theorem f67_4 {m : Ctx} {w : World} (ag : Ag m w) {A : Option Addr} {c : Nat} {l : List Bytes} (hsl : Sl m A 16 c 32 (hcs l)) (hl : l.length = 16) : Calls Tryz.prog 67 #[.slice A 16 c] w (Ret fun v w' => ∃ m', v = H (mr 4 l) ∧ Fr no m w m' w') := by
 refine enter Tryz.func67 rfl (fun p0 hT x0 => ?_)
 have b0 : p0.tmps.size = 26 := by rw [hT]; kernel_rfl
 have n0 : p0.tmps.getD 0 undef = .slice A 16 c := by rw [hT]; kernel_rfl
 clear hT
 have cu0 : Fr (no) m w m w := Fr.refl ag
 refine sk fun _ y0 => rn <| gk (k_alloc ag qz_23 (fun j0 k0 q0 l0 U0 => ?_))
 have Z0 := l0.size
 have V0 := q0.lt
 refine nl <| y0 <| sk fun _ D0 => sk fun _ E0 => rn <| mw b0 n0 <| gv (r_lenS (eh b0 rfl) rfl qu_27) <| nl <| E0 <| bl <| sk fun _ z0 => rn <| gv (r_eql (j := 0) (eh b0 rfl) rfl) <| ms b0 rfl <| nl <| z0 <| ce b0 rfl <| sk fun _ A0 => rn <| gv (r_eql (j := 1) (eh b0 rfl) rfl) <| ms b0 rfl <| nl <| A0 <| ce b0 rfl <| ws <| D0 <| sk fun _ B0 => rn <| mw b0 n0 <| gv (r_lenS (eh b0 rfl) rfl qu_27) <| gk (k_cl f117_16 rfl fn_117 (map_cons (eh b0 rfl) map_nil) (fun e1 j1 J0 => ?_))
 obtain ⟨rfl, rfl⟩ := J0
 refine ms b0 rfl <| nl <| B0 <| sk fun _ C0 => ?_
 have c0 : Fr no m j0 m { j0 with drawn := j0.drawn + 1 } := Fr.drw l0.ag
 obtain ⟨g0, r0⟩ : ∃ w_, w_ = ({ j0 with drawn := j0.drawn + 1 } : World) := ⟨_, rfl⟩
 rw [← r0] at c0
 have Y0 := c0.size
 refine wp_region_T mixed (fun wz => ∃ mz, Fr (no) m g0 mz wz) (fun wz => ∃ mz, Fr (on k0) m g0 mz wz) 9 ?_
 rw [← r0]
 show wpAnyT _ _ _ _ _ 10 _ _ _
 have d0 : Fr (no) m g0 m g0 := Fr.refl c0.ag
 have T0 : ∀ wz, (∃ mz, Fr (no) m g0 mz wz) → ∃ mz, Fr (on k0) m g0 mz wz := fun wz ⟨mz, hz⟩ => ⟨mz, hz.wk (fun x hx _ => hx.elim)⟩
 refine tk2 (i := 0) rfl rfl (fun _ _ => r_move (em b0 rfl rfl n0)) ⟨_, d0⟩ <| tk2 (i := 1) rfl rfl (fun _ _ => r_move (eh b0 rfl)) ⟨_, d0⟩ ?_
 have m0 := ((hsl.up l0).up c0)
 have N0 : Sl m (A) (8) (c) 32 (hcs ((l).take 8)) := by have h_ := m0.hi (hi := 8) (by omega); rw [hcs_take] at h_; exact h_
 have G0 : ((l).take 8 : List Bytes).length = 8 := (by rw [List.length_take, show (l).length = 16 from hl]; omega)
 refine tk2 (i := 2) rfl rfl (fun _ _ => r_sliceHi (n := 16) (c := c) (hi := 8) (eh b0 rfl) (eh b0 rfl) qs_27 (by have h_ := m0.cap; omega)) ⟨_, d0⟩ <| tk2 (i := 4) rfl rfl (fun _ _ => r_move (em b0 rfl rfl n0)) ⟨_, d0⟩ <| tk2 (i := 5) rfl rfl (fun _ _ => r_move (eh b0 rfl)) ⟨_, d0⟩ ?_
 have O0 : Sl m (sA A c 8 32) (8) (c - 8) 32 (hcs ((l).drop 8)) := by have h_ := m0.lo (lo := 8) (by omega); rw [hcs_drop] at h_; exact h_
 have H0 : ((l).drop 8 : List Bytes).length = 8 := (by rw [List.length_drop, show (l).length = 16 from hl])
 refine tk2 (i := 6) rfl rfl (fun _ _ => r_sliceLo (n := 16) (c := c) (lo := 8) (eh b0 rfl) (eh b0 rfl) qs_27 (by omega) m0.cap) ⟨_, d0⟩ <| ann (i := 3) (b := false) rfl rfl (k_cl (f67_3 c0.ag N0 G0) rfl fn_67 (map_cons (eh b0 rfl) map_nil) (fun g1 k1 K0 => ?_))
 obtain ⟨W0, rfl, e0⟩ := K0
 have a1 := e0.size
 have s0 := d0.t0 e0
 refine ⟨(tbF ⟨_, s0⟩), ?_⟩
 have P0 := (O0.up e0)
 refine ann (i := 7) (b := false) rfl rfl (k_cl (f67_3 e0.ag P0 H0) rfl fn_67 (map_cons (eh b0 rfl) map_nil) (fun h1 l1 L0 => ?_))
 obtain ⟨X0, rfl, h0⟩ := L0
 have b1 := h0.size
 have u0 := s0.t0 h0
 refine ⟨(tbF ⟨_, u0⟩), ?_⟩
 refine ann (i := 8) (b := false) rfl rfl (k_cl (f118 h0.ag) rfl fn_118 (map_cons (eh b0 rfl) (map_cons (eh b0 rfl) map_nil)) (fun i1 m1 M0 => ?_))
 obtain ⟨Q0, rfl, i0⟩ := M0
 have c1 := i0.size
 have v0 := u0.t0 i0
 refine ⟨(tbF ⟨_, v0⟩), ?_⟩
 have R0 : Fr (on k0) _ _ _ _ := v0.wk (fun x hx _ => hx.elim)
 have w0 := ((c0.t0 e0).t0 h0).t0 i0
 have F0 := (q0.f0 w0)
 refine an00 (i := 9) (b := true) rfl rfl (kt (L' := hc (node (mr 3 ((l).take 8)) (mr 3 ((l).drop 8)))) i0.ag (eh b0 rfl) (eh b0 rfl) F0 sz_23 (fun n1 I0 o0 => ?_))
 have d1 := o0.size
 have S0 := R0.tr o0 (fun x hx => .inr (by cases hx; exact rfl))
 refine ⟨(tbT ⟨_, S0⟩), ?_⟩
 refine anyT_done (by kernel_rfl) ?_ _
 refine C0 <| wp_ret <| ret_of (res1c (b := k0) (n := 32) (cs := hc (node (mr 3 ((l).take 8)) (mr 3 ((l).drop 8)))) rfl _ _ (gh b0 rfl) I0.bk (by kernel_rfl) (by kernel_rfl) qr_23 sz_23) ((ov_defers _ _).trans x0) ?_
 exact ⟨Q0, rfl, ((((((cu0.t0 l0).t0 c0).t0 e0).t0 h0).t0 i0).tn o0 (by omega))⟩

theorem f40_0 {m : Ctx} {w : World} (ag : Ag m w) {A : Option Addr} {c : Nat} {l : List Bytes} (hsl : Sl m A 1 c 32 (hcs l)) (hl : l.length = 1) : Calls Tryz.prog 40 #[.slice A 1 c] w (Ret fun v w' => ∃ m', v = H (mr 0 l) ∧ Fr no m w m' w') := by
 refine enter Tryz.func40 rfl (fun d0 hT j0 => ?_)
 have b0 : d0.tmps.size = 26 := by rw [hT]; kernel_rfl
 have h0 : d0.tmps.getD 0 undef = .slice A 1 c := by rw [hT]; kernel_rfl
 clear hT
 have cu0 : Fr (no) m w m w := Fr.refl ag
 refine sk fun _ k0 => rn <| gk (k_alloc ag qz_23 (fun D0 i0 g0 c0 y0 => ?_))
 have B0 := c0.size
 have z0 := g0.lt
 refine nl <| k0 <| sk fun _ x0 => sk fun _ o0 => rn <| mw b0 h0 <| gv (r_lenS (eh b0 rfl) rfl qu_27) <| nl <| o0 <| bl <| sk fun _ l0 => rn <| gv (r_eql (j := 0) (eh b0 rfl) rfl) <| ms b0 rfl <| nl <| l0 <| ce b0 rfl <| sk fun _ m0 => rn <| gv (r_eql (j := 1) (eh b0 rfl) rfl) <| ms b0 rfl <| nl <| m0 <| cd b0 rfl <| sk fun _ n0 => rn <| mw b0 h0 ?_
 have s0 := (hsl.up c0)
 obtain ⟨w0, u0, v0, rfl, q0, r0⟩ := s0.elem (by omega)
 refine gv (r_idxS (i := 0) (o' := u0 + 0) (eh b0 rfl) rfl qs_27 (by decide) (by omega)) <| gv (r_loadN (cs := hc ((l).getD 0 [])) (eh b0 rfl) (c0.ag _ _ q0) (Eq.trans (rd_sub r0 (by omega)) (hcs_get (i := 0) hl (by omega))) (by kernel_rfl) qr_23 sz_23) <| gz (kt (L' := hc ((l).getD 0 [])) c0.ag (eh b0 rfl) (eh b0 rfl) g0 sz_23 (fun C0 p0 e0 => ?_))
 have A0 := e0.size
 refine nl <| n0 <| wp_ret <| ret_of (res1c (b := i0) (n := 32) (cs := hc ((l).getD 0 [])) rfl _ _ (gh b0 rfl) p0.bk (by kernel_rfl) (by kernel_rfl) qr_23 sz_23) ((ov_defers _ _).trans j0) ?_
 exact ⟨m, rfl, ((cu0.t0 c0).tn e0 (by omega))⟩

theorem f40_1 {m : Ctx} {w : World} (ag : Ag m w) {A : Option Addr} {c : Nat} {l : List Bytes} (hsl : Sl m A 2 c 32 (hcs l)) (hl : l.length = 2) : Calls Tryz.prog 40 #[.slice A 2 c] w (Ret fun v w' => ∃ m', v = H (mr 1 l) ∧ Fr no m w m' w') := by
 refine enter Tryz.func40 rfl (fun p0 hT x0 => ?_)
 have b0 : p0.tmps.size = 26 := by rw [hT]; kernel_rfl
 have n0 : p0.tmps.getD 0 undef = .slice A 2 c := by rw [hT]; kernel_rfl
 clear hT
 have cu0 : Fr (no) m w m w := Fr.refl ag
 refine sk fun _ y0 => rn <| gk (k_alloc ag qz_23 (fun j0 k0 q0 l0 U0 => ?_))
 have Z0 := l0.size
 have V0 := q0.lt
 refine nl <| y0 <| sk fun _ D0 => sk fun _ E0 => rn <| mw b0 n0 <| gv (r_lenS (eh b0 rfl) rfl qu_27) <| nl <| E0 <| bl <| sk fun _ z0 => rn <| gv (r_eql (j := 0) (eh b0 rfl) rfl) <| ms b0 rfl <| nl <| z0 <| ce b0 rfl <| sk fun _ A0 => rn <| gv (r_eql (j := 1) (eh b0 rfl) rfl) <| ms b0 rfl <| nl <| A0 <| ce b0 rfl <| ws <| D0 <| sk fun _ B0 => rn <| mw b0 n0 <| gv (r_lenS (eh b0 rfl) rfl qu_27) <| gk (k_cl f88_2 rfl fn_88 (map_cons (eh b0 rfl) map_nil) (fun e1 j1 J0 => ?_))
 obtain ⟨rfl, rfl⟩ := J0
 refine ms b0 rfl <| nl <| B0 <| sk fun _ C0 => ?_
 have c0 : Fr no m j0 m { j0 with drawn := j0.drawn + 1 } := Fr.drw l0.ag
 obtain ⟨g0, r0⟩ : ∃ w_, w_ = ({ j0 with drawn := j0.drawn + 1 } : World) := ⟨_, rfl⟩
 rw [← r0] at c0
 have Y0 := c0.size
 refine wp_region_T mixed (fun wz => ∃ mz, Fr (no) m g0 mz wz) (fun wz => ∃ mz, Fr (on k0) m g0 mz wz) 9 ?_
 rw [← r0]
 show wpAnyT _ _ _ _ _ 10 _ _ _
 have d0 : Fr (no) m g0 m g0 := Fr.refl c0.ag
 have T0 : ∀ wz, (∃ mz, Fr (no) m g0 mz wz) → ∃ mz, Fr (on k0) m g0 mz wz := fun wz ⟨mz, hz⟩ => ⟨mz, hz.wk (fun x hx _ => hx.elim)⟩
 refine tk2 (i := 0) rfl rfl (fun _ _ => r_move (em b0 rfl rfl n0)) ⟨_, d0⟩ <| tk2 (i := 1) rfl rfl (fun _ _ => r_move (eh b0 rfl)) ⟨_, d0⟩ ?_
 have m0 := ((hsl.up l0).up c0)
 have N0 : Sl m (A) (1) (c) 32 (hcs ((l).take 1)) := by have h_ := m0.hi (hi := 1) (by omega); rw [hcs_take] at h_; exact h_
 have G0 : ((l).take 1 : List Bytes).length = 1 := (by rw [List.length_take, show (l).length = 2 from hl]; omega)
 refine tk2 (i := 2) rfl rfl (fun _ _ => r_sliceHi (n := 2) (c := c) (hi := 1) (eh b0 rfl) (eh b0 rfl) qs_27 (by have h_ := m0.cap; omega)) ⟨_, d0⟩ <| tk2 (i := 4) rfl rfl (fun _ _ => r_move (em b0 rfl rfl n0)) ⟨_, d0⟩ <| tk2 (i := 5) rfl rfl (fun _ _ => r_move (eh b0 rfl)) ⟨_, d0⟩ ?_
 have O0 : Sl m (sA A c 1 32) (1) (c - 1) 32 (hcs ((l).drop 1)) := by have h_ := m0.lo (lo := 1) (by omega); rw [hcs_drop] at h_; exact h_
 have H0 : ((l).drop 1 : List Bytes).length = 1 := (by rw [List.length_drop, show (l).length = 2 from hl])
 refine tk2 (i := 6) rfl rfl (fun _ _ => r_sliceLo (n := 2) (c := c) (lo := 1) (eh b0 rfl) (eh b0 rfl) qs_27 (by omega) m0.cap) ⟨_, d0⟩ <| ann (i := 3) (b := false) rfl rfl (k_cl (f40_0 c0.ag N0 G0) rfl fn_40 (map_cons (eh b0 rfl) map_nil) (fun g1 k1 K0 => ?_))
 obtain ⟨W0, rfl, e0⟩ := K0
 have a1 := e0.size
 have s0 := d0.t0 e0
 refine ⟨(tbF ⟨_, s0⟩), ?_⟩
 have P0 := (O0.up e0)
 refine ann (i := 7) (b := false) rfl rfl (k_cl (f40_0 e0.ag P0 H0) rfl fn_40 (map_cons (eh b0 rfl) map_nil) (fun h1 l1 L0 => ?_))
 obtain ⟨X0, rfl, h0⟩ := L0
 have b1 := h0.size
 have u0 := s0.t0 h0
 refine ⟨(tbF ⟨_, u0⟩), ?_⟩
 refine ann (i := 8) (b := false) rfl rfl (k_cl (f89 h0.ag) rfl fn_89 (map_cons (eh b0 rfl) (map_cons (eh b0 rfl) map_nil)) (fun i1 m1 M0 => ?_))
 obtain ⟨Q0, rfl, i0⟩ := M0
 have c1 := i0.size
 have v0 := u0.t0 i0
 refine ⟨(tbF ⟨_, v0⟩), ?_⟩
 have R0 : Fr (on k0) _ _ _ _ := v0.wk (fun x hx _ => hx.elim)
 have w0 := ((c0.t0 e0).t0 h0).t0 i0
 have F0 := (q0.f0 w0)
 refine an00 (i := 9) (b := true) rfl rfl (kt (L' := hc (node (mr 0 ((l).take 1)) (mr 0 ((l).drop 1)))) i0.ag (eh b0 rfl) (eh b0 rfl) F0 sz_23 (fun n1 I0 o0 => ?_))
 have d1 := o0.size
 have S0 := R0.tr o0 (fun x hx => .inr (by cases hx; exact rfl))
 refine ⟨(tbT ⟨_, S0⟩), ?_⟩
 refine anyT_done (by kernel_rfl) ?_ _
 refine C0 <| wp_ret <| ret_of (res1c (b := k0) (n := 32) (cs := hc (node (mr 0 ((l).take 1)) (mr 0 ((l).drop 1)))) rfl _ _ (gh b0 rfl) I0.bk (by kernel_rfl) (by kernel_rfl) qr_23 sz_23) ((ov_defers _ _).trans x0) ?_
 exact ⟨Q0, rfl, ((((((cu0.t0 l0).t0 c0).t0 e0).t0 h0).t0 i0).tn o0 (by omega))⟩

theorem f40_2 {m : Ctx} {w : World} (ag : Ag m w) {A : Option Addr} {c : Nat} {l : List Bytes} (hsl : Sl m A 4 c 32 (hcs l)) (hl : l.length = 4) : Calls Tryz.prog 40 #[.slice A 4 c] w (Ret fun v w' => ∃ m', v = H (mr 2 l) ∧ Fr no m w m' w') := by
 refine enter Tryz.func40 rfl (fun p0 hT x0 => ?_)
 have b0 : p0.tmps.size = 26 := by rw [hT]; kernel_rfl
 have n0 : p0.tmps.getD 0 undef = .slice A 4 c := by rw [hT]; kernel_rfl
 clear hT
 have cu0 : Fr (no) m w m w := Fr.refl ag
 refine sk fun _ y0 => rn <| gk (k_alloc ag qz_23 (fun j0 k0 q0 l0 U0 => ?_))
 have Z0 := l0.size
 have V0 := q0.lt
 refine nl <| y0 <| sk fun _ D0 => sk fun _ E0 => rn <| mw b0 n0 <| gv (r_lenS (eh b0 rfl) rfl qu_27) <| nl <| E0 <| bl <| sk fun _ z0 => rn <| gv (r_eql (j := 0) (eh b0 rfl) rfl) <| ms b0 rfl <| nl <| z0 <| ce b0 rfl <| sk fun _ A0 => rn <| gv (r_eql (j := 1) (eh b0 rfl) rfl) <| ms b0 rfl <| nl <| A0 <| ce b0 rfl <| ws <| D0 <| sk fun _ B0 => rn <| mw b0 n0 <| gv (r_lenS (eh b0 rfl) rfl qu_27) <| gk (k_cl f88_4 rfl fn_88 (map_cons (eh b0 rfl) map_nil) (fun e1 j1 J0 => ?_))
 obtain ⟨rfl, rfl⟩ := J0
 refine ms b0 rfl <| nl <| B0 <| sk fun _ C0 => ?_
 have c0 : Fr no m j0 m { j0 with drawn := j0.drawn + 1 } := Fr.drw l0.ag
 obtain ⟨g0, r0⟩ : ∃ w_, w_ = ({ j0 with drawn := j0.drawn + 1 } : World) := ⟨_, rfl⟩
 rw [← r0] at c0
 have Y0 := c0.size
 refine wp_region_T mixed (fun wz => ∃ mz, Fr (no) m g0 mz wz) (fun wz => ∃ mz, Fr (on k0) m g0 mz wz) 9 ?_
 rw [← r0]
 show wpAnyT _ _ _ _ _ 10 _ _ _
 have d0 : Fr (no) m g0 m g0 := Fr.refl c0.ag
 have T0 : ∀ wz, (∃ mz, Fr (no) m g0 mz wz) → ∃ mz, Fr (on k0) m g0 mz wz := fun wz ⟨mz, hz⟩ => ⟨mz, hz.wk (fun x hx _ => hx.elim)⟩
 refine tk2 (i := 0) rfl rfl (fun _ _ => r_move (em b0 rfl rfl n0)) ⟨_, d0⟩ <| tk2 (i := 1) rfl rfl (fun _ _ => r_move (eh b0 rfl)) ⟨_, d0⟩ ?_
 have m0 := ((hsl.up l0).up c0)
 have N0 : Sl m (A) (2) (c) 32 (hcs ((l).take 2)) := by have h_ := m0.hi (hi := 2) (by omega); rw [hcs_take] at h_; exact h_
 have G0 : ((l).take 2 : List Bytes).length = 2 := (by rw [List.length_take, show (l).length = 4 from hl]; omega)
 refine tk2 (i := 2) rfl rfl (fun _ _ => r_sliceHi (n := 4) (c := c) (hi := 2) (eh b0 rfl) (eh b0 rfl) qs_27 (by have h_ := m0.cap; omega)) ⟨_, d0⟩ <| tk2 (i := 4) rfl rfl (fun _ _ => r_move (em b0 rfl rfl n0)) ⟨_, d0⟩ <| tk2 (i := 5) rfl rfl (fun _ _ => r_move (eh b0 rfl)) ⟨_, d0⟩ ?_
 have O0 : Sl m (sA A c 2 32) (2) (c - 2) 32 (hcs ((l).drop 2)) := by have h_ := m0.lo (lo := 2) (by omega); rw [hcs_drop] at h_; exact h_
 have H0 : ((l).drop 2 : List Bytes).length = 2 := (by rw [List.length_drop, show (l).length = 4 from hl])
 refine tk2 (i := 6) rfl rfl (fun _ _ => r_sliceLo (n := 4) (c := c) (lo := 2) (eh b0 rfl) (eh b0 rfl) qs_27 (by omega) m0.cap) ⟨_, d0⟩ <| ann (i := 3) (b := false) rfl rfl (k_cl (f40_1 c0.ag N0 G0) rfl fn_40 (map_cons (eh b0 rfl) map_nil) (fun g1 k1 K0 => ?_))
 obtain ⟨W0, rfl, e0⟩ := K0
 have a1 := e0.size
 have s0 := d0.t0 e0
 refine ⟨(tbF ⟨_, s0⟩), ?_⟩
 have P0 := (O0.up e0)
 refine ann (i := 7) (b := false) rfl rfl (k_cl (f40_1 e0.ag P0 H0) rfl fn_40 (map_cons (eh b0 rfl) map_nil) (fun h1 l1 L0 => ?_))
 obtain ⟨X0, rfl, h0⟩ := L0
 have b1 := h0.size
 have u0 := s0.t0 h0
 refine ⟨(tbF ⟨_, u0⟩), ?_⟩
 refine ann (i := 8) (b := false) rfl rfl (k_cl (f89 h0.ag) rfl fn_89 (map_cons (eh b0 rfl) (map_cons (eh b0 rfl) map_nil)) (fun i1 m1 M0 => ?_))
 obtain ⟨Q0, rfl, i0⟩ := M0
 have c1 := i0.size
 have v0 := u0.t0 i0
 refine ⟨(tbF ⟨_, v0⟩), ?_⟩
 have R0 : Fr (on k0) _ _ _ _ := v0.wk (fun x hx _ => hx.elim)
 have w0 := ((c0.t0 e0).t0 h0).t0 i0
 have F0 := (q0.f0 w0)
 refine an00 (i := 9) (b := true) rfl rfl (kt (L' := hc (node (mr 1 ((l).take 2)) (mr 1 ((l).drop 2)))) i0.ag (eh b0 rfl) (eh b0 rfl) F0 sz_23 (fun n1 I0 o0 => ?_))
 have d1 := o0.size
 have S0 := R0.tr o0 (fun x hx => .inr (by cases hx; exact rfl))
 refine ⟨(tbT ⟨_, S0⟩), ?_⟩
 refine anyT_done (by kernel_rfl) ?_ _
 refine C0 <| wp_ret <| ret_of (res1c (b := k0) (n := 32) (cs := hc (node (mr 1 ((l).take 2)) (mr 1 ((l).drop 2)))) rfl _ _ (gh b0 rfl) I0.bk (by kernel_rfl) (by kernel_rfl) qr_23 sz_23) ((ov_defers _ _).trans x0) ?_
 exact ⟨Q0, rfl, ((((((cu0.t0 l0).t0 c0).t0 e0).t0 h0).t0 i0).tn o0 (by omega))⟩

theorem f40_3 {m : Ctx} {w : World} (ag : Ag m w) {A : Option Addr} {c : Nat} {l : List Bytes} (hsl : Sl m A 8 c 32 (hcs l)) (hl : l.length = 8) : Calls Tryz.prog 40 #[.slice A 8 c] w (Ret fun v w' => ∃ m', v = H (mr 3 l) ∧ Fr no m w m' w') := by
 refine enter Tryz.func40 rfl (fun p0 hT x0 => ?_)
 have b0 : p0.tmps.size = 26 := by rw [hT]; kernel_rfl
 have n0 : p0.tmps.getD 0 undef = .slice A 8 c := by rw [hT]; kernel_rfl
 clear hT
 have cu0 : Fr (no) m w m w := Fr.refl ag
 refine sk fun _ y0 => rn <| gk (k_alloc ag qz_23 (fun j0 k0 q0 l0 U0 => ?_))
 have Z0 := l0.size
 have V0 := q0.lt
 refine nl <| y0 <| sk fun _ D0 => sk fun _ E0 => rn <| mw b0 n0 <| gv (r_lenS (eh b0 rfl) rfl qu_27) <| nl <| E0 <| bl <| sk fun _ z0 => rn <| gv (r_eql (j := 0) (eh b0 rfl) rfl) <| ms b0 rfl <| nl <| z0 <| ce b0 rfl <| sk fun _ A0 => rn <| gv (r_eql (j := 1) (eh b0 rfl) rfl) <| ms b0 rfl <| nl <| A0 <| ce b0 rfl <| ws <| D0 <| sk fun _ B0 => rn <| mw b0 n0 <| gv (r_lenS (eh b0 rfl) rfl qu_27) <| gk (k_cl f88_8 rfl fn_88 (map_cons (eh b0 rfl) map_nil) (fun e1 j1 J0 => ?_))
 obtain ⟨rfl, rfl⟩ := J0
 refine ms b0 rfl <| nl <| B0 <| sk fun _ C0 => ?_
 have c0 : Fr no m j0 m { j0 with drawn := j0.drawn + 1 } := Fr.drw l0.ag
 obtain ⟨g0, r0⟩ : ∃ w_, w_ = ({ j0 with drawn := j0.drawn + 1 } : World) := ⟨_, rfl⟩
 rw [← r0] at c0
 have Y0 := c0.size
 refine wp_region_T mixed (fun wz => ∃ mz, Fr (no) m g0 mz wz) (fun wz => ∃ mz, Fr (on k0) m g0 mz wz) 9 ?_
 rw [← r0]
 show wpAnyT _ _ _ _ _ 10 _ _ _
 have d0 : Fr (no) m g0 m g0 := Fr.refl c0.ag
 have T0 : ∀ wz, (∃ mz, Fr (no) m g0 mz wz) → ∃ mz, Fr (on k0) m g0 mz wz := fun wz ⟨mz, hz⟩ => ⟨mz, hz.wk (fun x hx _ => hx.elim)⟩
 refine tk2 (i := 0) rfl rfl (fun _ _ => r_move (em b0 rfl rfl n0)) ⟨_, d0⟩ <| tk2 (i := 1) rfl rfl (fun _ _ => r_move (eh b0 rfl)) ⟨_, d0⟩ ?_
 have m0 := ((hsl.up l0).up c0)
 have N0 : Sl m (A) (4) (c) 32 (hcs ((l).take 4)) := by have h_ := m0.hi (hi := 4) (by omega); rw [hcs_take] at h_; exact h_
 have G0 : ((l).take 4 : List Bytes).length = 4 := (by rw [List.length_take, show (l).length = 8 from hl]; omega)
 refine tk2 (i := 2) rfl rfl (fun _ _ => r_sliceHi (n := 8) (c := c) (hi := 4) (eh b0 rfl) (eh b0 rfl) qs_27 (by have h_ := m0.cap; omega)) ⟨_, d0⟩ <| tk2 (i := 4) rfl rfl (fun _ _ => r_move (em b0 rfl rfl n0)) ⟨_, d0⟩ <| tk2 (i := 5) rfl rfl (fun _ _ => r_move (eh b0 rfl)) ⟨_, d0⟩ ?_
 have O0 : Sl m (sA A c 4 32) (4) (c - 4) 32 (hcs ((l).drop 4)) := by have h_ := m0.lo (lo := 4) (by omega); rw [hcs_drop] at h_; exact h_
 have H0 : ((l).drop 4 : List Bytes).length = 4 := (by rw [List.length_drop, show (l).length = 8 from hl])
 refine tk2 (i := 6) rfl rfl (fun _ _ => r_sliceLo (n := 8) (c := c) (lo := 4) (eh b0 rfl) (eh b0 rfl) qs_27 (by omega) m0.cap) ⟨_, d0⟩ <| ann (i := 3) (b := false) rfl rfl (k_cl (f40_2 c0.ag N0 G0) rfl fn_40 (map_cons (eh b0 rfl) map_nil) (fun g1 k1 K0 => ?_))
 obtain ⟨W0, rfl, e0⟩ := K0
 have a1 := e0.size
 have s0 := d0.t0 e0
 refine ⟨(tbF ⟨_, s0⟩), ?_⟩
 have P0 := (O0.up e0)
 refine ann (i := 7) (b := false) rfl rfl (k_cl (f40_2 e0.ag P0 H0) rfl fn_40 (map_cons (eh b0 rfl) map_nil) (fun h1 l1 L0 => ?_))
 obtain ⟨X0, rfl, h0⟩ := L0
 have b1 := h0.size
 have u0 := s0.t0 h0
 refine ⟨(tbF ⟨_, u0⟩), ?_⟩
 refine ann (i := 8) (b := false) rfl rfl (k_cl (f89 h0.ag) rfl fn_89 (map_cons (eh b0 rfl) (map_cons (eh b0 rfl) map_nil)) (fun i1 m1 M0 => ?_))
 obtain ⟨Q0, rfl, i0⟩ := M0
 have c1 := i0.size
 have v0 := u0.t0 i0
 refine ⟨(tbF ⟨_, v0⟩), ?_⟩
 have R0 : Fr (on k0) _ _ _ _ := v0.wk (fun x hx _ => hx.elim)
 have w0 := ((c0.t0 e0).t0 h0).t0 i0
 have F0 := (q0.f0 w0)
 refine an00 (i := 9) (b := true) rfl rfl (kt (L' := hc (node (mr 2 ((l).take 4)) (mr 2 ((l).drop 4)))) i0.ag (eh b0 rfl) (eh b0 rfl) F0 sz_23 (fun n1 I0 o0 => ?_))
 have d1 := o0.size
 have S0 := R0.tr o0 (fun x hx => .inr (by cases hx; exact rfl))
 refine ⟨(tbT ⟨_, S0⟩), ?_⟩
 refine anyT_done (by kernel_rfl) ?_ _
 refine C0 <| wp_ret <| ret_of (res1c (b := k0) (n := 32) (cs := hc (node (mr 2 ((l).take 4)) (mr 2 ((l).drop 4)))) rfl _ _ (gh b0 rfl) I0.bk (by kernel_rfl) (by kernel_rfl) qr_23 sz_23) ((ov_defers _ _).trans x0) ?_
 exact ⟨Q0, rfl, ((((((cu0.t0 l0).t0 c0).t0 e0).t0 h0).t0 i0).tn o0 (by omega))⟩

theorem f40_4 {m : Ctx} {w : World} (ag : Ag m w) {A : Option Addr} {c : Nat} {l : List Bytes} (hsl : Sl m A 16 c 32 (hcs l)) (hl : l.length = 16) : Calls Tryz.prog 40 #[.slice A 16 c] w (Ret fun v w' => ∃ m', v = H (mr 4 l) ∧ Fr no m w m' w') := by
 refine enter Tryz.func40 rfl (fun p0 hT x0 => ?_)
 have b0 : p0.tmps.size = 26 := by rw [hT]; kernel_rfl
 have n0 : p0.tmps.getD 0 undef = .slice A 16 c := by rw [hT]; kernel_rfl
 clear hT
 have cu0 : Fr (no) m w m w := Fr.refl ag
 refine sk fun _ y0 => rn <| gk (k_alloc ag qz_23 (fun j0 k0 q0 l0 U0 => ?_))
 have Z0 := l0.size
 have V0 := q0.lt
 refine nl <| y0 <| sk fun _ D0 => sk fun _ E0 => rn <| mw b0 n0 <| gv (r_lenS (eh b0 rfl) rfl qu_27) <| nl <| E0 <| bl <| sk fun _ z0 => rn <| gv (r_eql (j := 0) (eh b0 rfl) rfl) <| ms b0 rfl <| nl <| z0 <| ce b0 rfl <| sk fun _ A0 => rn <| gv (r_eql (j := 1) (eh b0 rfl) rfl) <| ms b0 rfl <| nl <| A0 <| ce b0 rfl <| ws <| D0 <| sk fun _ B0 => rn <| mw b0 n0 <| gv (r_lenS (eh b0 rfl) rfl qu_27) <| gk (k_cl f88_16 rfl fn_88 (map_cons (eh b0 rfl) map_nil) (fun e1 j1 J0 => ?_))
 obtain ⟨rfl, rfl⟩ := J0
 refine ms b0 rfl <| nl <| B0 <| sk fun _ C0 => ?_
 have c0 : Fr no m j0 m { j0 with drawn := j0.drawn + 1 } := Fr.drw l0.ag
 obtain ⟨g0, r0⟩ : ∃ w_, w_ = ({ j0 with drawn := j0.drawn + 1 } : World) := ⟨_, rfl⟩
 rw [← r0] at c0
 have Y0 := c0.size
 refine wp_region_T mixed (fun wz => ∃ mz, Fr (no) m g0 mz wz) (fun wz => ∃ mz, Fr (on k0) m g0 mz wz) 9 ?_
 rw [← r0]
 show wpAnyT _ _ _ _ _ 10 _ _ _
 have d0 : Fr (no) m g0 m g0 := Fr.refl c0.ag
 have T0 : ∀ wz, (∃ mz, Fr (no) m g0 mz wz) → ∃ mz, Fr (on k0) m g0 mz wz := fun wz ⟨mz, hz⟩ => ⟨mz, hz.wk (fun x hx _ => hx.elim)⟩
 refine tk2 (i := 0) rfl rfl (fun _ _ => r_move (em b0 rfl rfl n0)) ⟨_, d0⟩ <| tk2 (i := 1) rfl rfl (fun _ _ => r_move (eh b0 rfl)) ⟨_, d0⟩ ?_
 have m0 := ((hsl.up l0).up c0)
 have N0 : Sl m (A) (8) (c) 32 (hcs ((l).take 8)) := by have h_ := m0.hi (hi := 8) (by omega); rw [hcs_take] at h_; exact h_
 have G0 : ((l).take 8 : List Bytes).length = 8 := (by rw [List.length_take, show (l).length = 16 from hl]; omega)
 refine tk2 (i := 2) rfl rfl (fun _ _ => r_sliceHi (n := 16) (c := c) (hi := 8) (eh b0 rfl) (eh b0 rfl) qs_27 (by have h_ := m0.cap; omega)) ⟨_, d0⟩ <| tk2 (i := 4) rfl rfl (fun _ _ => r_move (em b0 rfl rfl n0)) ⟨_, d0⟩ <| tk2 (i := 5) rfl rfl (fun _ _ => r_move (eh b0 rfl)) ⟨_, d0⟩ ?_
 have O0 : Sl m (sA A c 8 32) (8) (c - 8) 32 (hcs ((l).drop 8)) := by have h_ := m0.lo (lo := 8) (by omega); rw [hcs_drop] at h_; exact h_
 have H0 : ((l).drop 8 : List Bytes).length = 8 := (by rw [List.length_drop, show (l).length = 16 from hl])
 refine tk2 (i := 6) rfl rfl (fun _ _ => r_sliceLo (n := 16) (c := c) (lo := 8) (eh b0 rfl) (eh b0 rfl) qs_27 (by omega) m0.cap) ⟨_, d0⟩ <| ann (i := 3) (b := false) rfl rfl (k_cl (f40_3 c0.ag N0 G0) rfl fn_40 (map_cons (eh b0 rfl) map_nil) (fun g1 k1 K0 => ?_))
 obtain ⟨W0, rfl, e0⟩ := K0
 have a1 := e0.size
 have s0 := d0.t0 e0
 refine ⟨(tbF ⟨_, s0⟩), ?_⟩
 have P0 := (O0.up e0)
 refine ann (i := 7) (b := false) rfl rfl (k_cl (f40_3 e0.ag P0 H0) rfl fn_40 (map_cons (eh b0 rfl) map_nil) (fun h1 l1 L0 => ?_))
 obtain ⟨X0, rfl, h0⟩ := L0
 have b1 := h0.size
 have u0 := s0.t0 h0
 refine ⟨(tbF ⟨_, u0⟩), ?_⟩
 refine ann (i := 8) (b := false) rfl rfl (k_cl (f89 h0.ag) rfl fn_89 (map_cons (eh b0 rfl) (map_cons (eh b0 rfl) map_nil)) (fun i1 m1 M0 => ?_))
 obtain ⟨Q0, rfl, i0⟩ := M0
 have c1 := i0.size
 have v0 := u0.t0 i0
 refine ⟨(tbF ⟨_, v0⟩), ?_⟩
 have R0 : Fr (on k0) _ _ _ _ := v0.wk (fun x hx _ => hx.elim)
 have w0 := ((c0.t0 e0).t0 h0).t0 i0
 have F0 := (q0.f0 w0)
 refine an00 (i := 9) (b := true) rfl rfl (kt (L' := hc (node (mr 3 ((l).take 8)) (mr 3 ((l).drop 8)))) i0.ag (eh b0 rfl) (eh b0 rfl) F0 sz_23 (fun n1 I0 o0 => ?_))
 have d1 := o0.size
 have S0 := R0.tr o0 (fun x hx => .inr (by cases hx; exact rfl))
 refine ⟨(tbT ⟨_, S0⟩), ?_⟩
 refine anyT_done (by kernel_rfl) ?_ _
 refine C0 <| wp_ret <| ret_of (res1c (b := k0) (n := 32) (cs := hc (node (mr 3 ((l).take 8)) (mr 3 ((l).drop 8)))) rfl _ _ (gh b0 rfl) I0.bk (by kernel_rfl) (by kernel_rfl) qr_23 sz_23) ((ov_defers _ _).trans x0) ?_
 exact ⟨Q0, rfl, ((((((cu0.t0 l0).t0 c0).t0 e0).t0 h0).t0 i0).tn o0 (by omega))⟩

theorem f69_0 {m : Ctx} {w : World} (ag : Ag m w) {A : Option Addr} {c i : Nat} {l : List Bytes} (hsl : Sl m A 1 c 32 (hcs l)) (hl : l.length = 1) (hi : i < 1) : Calls Tryz.prog 69 #[.slice A 1 c, nn i] w (Ret fun v w' => ∃ m' A' c', v = .slice A' 0 c' ∧ Fr no m w m' w' ∧ Own m' w' w.heap.size A' 0 c' 23 32 (hcs (mp 0 l i))) := by
 refine enter Tryz.func69 rfl (fun e0 hT i0 => ?_)
 have b0 : e0.tmps.size = 49 := by rw [hT]; kernel_rfl
 have g0 : e0.tmps.getD 0 undef = .slice A 1 c := by rw [hT]; kernel_rfl
 have h0 : e0.tmps.getD 1 undef = nn i := by rw [hT]; kernel_rfl
 clear hT
 have cu0 : Fr (no) m w m w := Fr.refl ag
 refine sk fun _ j0 => rn <| gv (r_assign (v := .slice none 0 0) rfl) <| nl <| j0 <| sk fun _ m0 => sk fun _ k0 => rn <| mw b0 h0 <| gv (r_lss (j := 0) (eh b0 rfl) rfl) <| mv b0 rfl ?_
 have c0 : (decide (i < 0)) = false := (decide_eq_false (by omega))
 refine sg (t := 8) rfl rfl b0 (eb b0 rfl c0) (kv (r_move (em b0 rfl rfl h0)) ?_)
 refine sg (t := 8) rfl rfl b0 (eb b0 rfl c0) (kv (r_move (em b0 rfl rfl g0)) ?_)
 refine sg (t := 8) rfl rfl b0 (eb b0 rfl c0) (kv (r_lenS (eh b0 rfl) rfl qu_27) ?_)
 refine sg (t := 8) rfl rfl b0 (eb b0 rfl c0) (kv (r_geq (eh b0 rfl) (eh b0 rfl)) ?_)
 refine gv (r_pick_f (eb b0 rfl c0) (eh b0 rfl)) <| mv b0 rfl ?_
 have d0 : (decide (1 ≤ i)) = false := (decide_eq_false (by omega))
 refine sg (t := 14) rfl rfl b0 (eb b0 rfl d0) (kv (r_move (em b0 rfl rfl g0)) ?_)
 refine sg (t := 14) rfl rfl b0 (eb b0 rfl d0) (kv (r_lenS (eh b0 rfl) rfl qu_27) ?_)
 refine sg (t := 14) rfl rfl b0 (eb b0 rfl d0) (kv (r_eql (j := 1) (eh b0 rfl) rfl) ?_)
 refine gv (r_pick_f (eb b0 rfl d0) (eh b0 rfl)) <| nl <| k0 <| cd b0 rfl <| sk fun _ l0 => rn <| gv (r_assign (v := .slice none 0 0) rfl) <| nl <| l0 <| wp_ret <| ret_of (res1 rfl _ _ (gh b0 rfl)) ((ov_defers _ _).trans i0) ?_
 exact ⟨m, none, 0, rfl, cu0, Own.nil _ _ _ _ _⟩

theorem f69_1 {m : Ctx} {w : World} (ag : Ag m w) {A : Option Addr} {c i : Nat} {l : List Bytes} (hsl : Sl m A 2 c 32 (hcs l)) (hl : l.length = 2) (hi : i < 2) : Calls Tryz.prog 69 #[.slice A 2 c, nn i] w (Ret fun v w' => ∃ m' A' c', v = .slice A' 1 c' ∧ Fr no m w m' w' ∧ Own m' w' w.heap.size A' 1 c' 23 32 (hcs (mp 1 l i))) := by
 refine enter Tryz.func69 rfl (fun w0 hT B0 => ?_)
 have b0 : w0.tmps.size = 49 := by rw [hT]; kernel_rfl
 have e0 : w0.tmps.getD 0 undef = .slice A 2 c := by rw [hT]; kernel_rfl
 have p0 : w0.tmps.getD 1 undef = nn i := by rw [hT]; kernel_rfl
 clear hT
 have cu0 : Fr (no) m w m w := Fr.refl ag
 refine sk fun _ V0 => rn <| gv (r_assign (v := .slice none 0 0) rfl) <| nl <| V0 <| sk fun _ Z0 => sk fun _ a1 => rn <| mw b0 p0 <| gv (r_lss (j := 0) (eh b0 rfl) rfl) <| mv b0 rfl ?_
 have o0 : (decide (i < 0)) = false := (decide_eq_false (by omega))
 refine sg (t := 8) rfl rfl b0 (eb b0 rfl o0) (kv (r_move (em b0 rfl rfl p0)) ?_)
 refine sg (t := 8) rfl rfl b0 (eb b0 rfl o0) (kv (r_move (em b0 rfl rfl e0)) ?_)
 refine sg (t := 8) rfl rfl b0 (eb b0 rfl o0) (kv (r_lenS (eh b0 rfl) rfl qu_27) ?_)
 refine sg (t := 8) rfl rfl b0 (eb b0 rfl o0) (kv (r_geq (eh b0 rfl) (eh b0 rfl)) ?_)
 refine gv (r_pick_f (eb b0 rfl o0) (eh b0 rfl)) <| mv b0 rfl ?_
 have s0 : (decide (2 ≤ i)) = false := (decide_eq_false (by omega))
 refine sg (t := 14) rfl rfl b0 (eb b0 rfl s0) (kv (r_move (em b0 rfl rfl e0)) ?_)
 refine sg (t := 14) rfl rfl b0 (eb b0 rfl s0) (kv (r_lenS (eh b0 rfl) rfl qu_27) ?_)
 refine sg (t := 14) rfl rfl b0 (eb b0 rfl s0) (kv (r_eql (j := 1) (eh b0 rfl) rfl) ?_)
 refine gv (r_pick_f (eb b0 rfl s0) (eh b0 rfl)) <| nl <| a1 <| ce b0 rfl <| ws <| Z0 <| sk fun _ c1 => rn <| mw b0 e0 <| gv (r_lenS (eh b0 rfl) rfl qu_27) <| gk (k_cl f117_2 rfl fn_117 (map_cons (eh b0 rfl) map_nil) (fun c2 k2 m1 => ?_))
 obtain ⟨rfl, rfl⟩ := m1
 refine ms b0 rfl <| nl <| c1 <| sk fun _ W0 => sk fun _ X0 => rn <| mw b0 p0 <| mv b0 rfl <| gv (r_lss (eh b0 rfl) (eh b0 rfl)) <| nl <| X0 ?_
 by_cases C0 : i < 1
 ·
  refine ct (eb b0 rfl (decide_eq_true C0)) <| sk fun _ Y0 => ?_
  have g0 : Fr no m w m { w with drawn := w.drawn + 1 } := Fr.drw ag
  obtain ⟨q0, H0⟩ : ∃ w_, w_ = ({ w with drawn := w.drawn + 1 } : World) := ⟨_, rfl⟩
  rw [← H0] at g0
  have Q1 := g0.size
  refine wp_region_T mixed (fun wz => ∃ mz, Fr (no) m q0 mz wz) (fun wz => ∃ mz, Fr (no) m q0 mz wz) 12 ?_
  rw [← H0]
  show wpAnyT _ _ _ _ _ 12 _ _ _
  have d0 : Fr (no) m q0 m q0 := Fr.refl g0.ag
  refine tkk (i := 0) rfl rfl (fun _ _ => r_move (em b0 rfl rfl e0)) ⟨_, d0⟩ <| tkk (i := 1) rfl rfl (fun _ _ => r_move (eh b0 rfl)) ⟨_, d0⟩ ?_
  have u0 := (hsl.up g0)
  have n1 : Sl m (A) (1) (c) 32 (hcs ((l).take 1)) := by have h_ := u0.hi (hi := 1) (by omega); rw [hcs_take] at h_; exact h_
  have d1 : ((l).take 1 : List Bytes).length = 1 := (by rw [List.length_take, show (l).length = 2 from hl]; omega)
  refine tkk (i := 2) rfl rfl (fun _ _ => r_sliceHi (n := 2) (c := c) (hi := 1) (eh b0 rfl) (eh b0 rfl) qs_27 (by have h_ := u0.cap; omega)) ⟨_, d0⟩ <| tkk (i := 3) rfl rfl (fun _ _ => r_move (em b0 rfl rfl p0)) ⟨_, d0⟩ <| tkk (i := 5) rfl rfl (fun _ _ => r_move (em b0 rfl rfl e0)) ⟨_, d0⟩ <| tkk (i := 6) rfl rfl (fun _ _ => r_move (eh b0 rfl)) ⟨_, d0⟩ ?_
  have o1 : Sl m (sA A c 1 32) (1) (c - 1) 32 (hcs ((l).drop 1)) := by have h_ := u0.lo (lo := 1) (by omega); rw [hcs_drop] at h_; exact h_
  have e1 : ((l).drop 1 : List Bytes).length = 1 := (by rw [List.length_drop, show (l).length = 2 from hl])
  refine tkk (i := 7) rfl rfl (fun _ _ => r_sliceLo (n := 2) (c := c) (lo := 1) (eh b0 rfl) (eh b0 rfl) qs_27 (by omega) u0.cap) ⟨_, d0⟩ <| ann (i := 4) (b := true) rfl rfl (k_cl (f69_0 g0.ag n1 d1 (by omega)) rfl fn_69 (map_cons (eh b0 rfl) (map_cons (eh b0 rfl) map_nil)) (fun Z1 e2 i1 => ?_))
  obtain ⟨J1, x1, B1, rfl, i0, D0⟩ := i1
  have R1 := i0.size
  have K0 := d0.t0 i0
  have L1 := D0.nilc
  refine ⟨(tbT ⟨_, K0⟩), ?_⟩
  have p1 := (o1.up i0)
  refine ann (i := 8) (b := true) rfl rfl (k_cl (f67_0 i0.ag p1 e1) rfl fn_67 (map_cons (eh b0 rfl) map_nil) (fun a2 g2 j1 => ?_))
  obtain ⟨v1, rfl, j0⟩ := j1
  have S1 := j0.size
  have L0 := K0.t0 j0
  refine ⟨(tbT ⟨_, L0⟩), ?_⟩
  refine ann (i := 9) (b := true) rfl rfl (k_lit (e := 23) (L := hc (mr 0 ((l).drop 1))) j0.ag (pm_cons (eh b0 rfl) pm_nil) (by kernel_rfl) (fun h2 z1 F0 k0 F1 => ?_))
  have T1 := k0.size
  have M0 := L0.t0 k0
  have H1 := F0.lt
  refine ⟨(tbT ⟨_, M0⟩), ?_⟩
  have q1 := ((D0.f0 j0).f0 k0)
  have D1 : ((mp 0 ((l).take 1) i) ++ ([mr 0 ((l).drop 1)]) : List Bytes).length = 1 := (len_app (mp_len _ _ _) rfl)
  refine ann (i := 10) (b := true) rfl rfl (k_append (base := q0.heap.size) (L := hcs (mp 0 ((l).take 1) i)) (N := hcs ([mr 0 ((l).drop 1)])) k0.ag (eh b0 rfl) (eh b0 rfl) qs_27 qz_23 q1 (by have h_ := (F0.bk.src (L := hc (mr 0 ((l).drop 1))) (n := 1) (o := 0) (k := 32) (by kernel_rfl)); rw [← hcs_one] at h_; exact h_) (fun h => by cases h) (by rw [hcs_length, show ([mr 0 ((l).drop 1)] : List Bytes).length = 1 from rfl]) (one_hcs _) (by omega) (by decide) (by rw [maxLen_eq]; omega) (by omega) (fun R0 T0 i2 z0 y0 => ?_))
  have U1 := y0.size
  have N0 := M0.tg y0 (by omega)
  rw [← hcs_append] at z0
  have M1 := z0.nilc
  refine ⟨(tbT ⟨_, N0⟩), ?_⟩
  refine tkk (i := 11) rfl rfl (fun _ _ => r_assign (eh b0 rfl)) ⟨_, N0⟩ <| anyT_done (by kernel_rfl) ?_ _
  refine Y0 <| wp_ret <| ret_of (res1 rfl _ _ (gh b0 rfl)) ((ov_defers _ _).trans B0) ?_
  exact ⟨v1, R0, T0, rfl, (((((cu0.t0 g0).t0 i0).t0 j0).t0 k0).tg y0 (by omega)), (by have h_ := z0; rw [show (mp 0 ((l).take 1) i) ++ ([mr 0 ((l).drop 1)]) = mp 1 l i from (mp_lo (d := 0) (by omega))] at h_; exact h_.wk (by omega))⟩
 ·
  refine cf (eb b0 rfl (decide_eq_false C0)) <| ws <| W0 <| sk fun _ b1 => ?_
  have h0 : Fr no m w m { w with drawn := w.drawn + 1 } := Fr.drw ag
  obtain ⟨r0, I0⟩ : ∃ w_, w_ = ({ w with drawn := w.drawn + 1 } : World) := ⟨_, rfl⟩
  rw [← I0] at h0
  have V1 := h0.size
  refine wp_region_T mixed (fun wz => ∃ mz, Fr (no) m r0 mz wz) (fun wz => ∃ mz, Fr (no) m r0 mz wz) 14 ?_
  rw [← I0]
  show wpAnyT _ _ _ _ _ 14 _ _ _
  have c0 : Fr (no) m r0 m r0 := Fr.refl h0.ag
  refine tkk (i := 0) rfl rfl (fun _ _ => r_move (em b0 rfl rfl e0)) ⟨_, c0⟩ <| tkk (i := 1) rfl rfl (fun _ _ => r_move (eh b0 rfl)) ⟨_, c0⟩ ?_
  have v0 := (hsl.up h0)
  have r1 : Sl m (sA A c 1 32) (1) (c - 1) 32 (hcs ((l).drop 1)) := by have h_ := v0.lo (lo := 1) (by omega); rw [hcs_drop] at h_; exact h_
  have g1 : ((l).drop 1 : List Bytes).length = 1 := (by rw [List.length_drop, show (l).length = 2 from hl])
  refine tkk (i := 2) rfl rfl (fun _ _ => r_sliceLo (n := 2) (c := c) (lo := 1) (eh b0 rfl) (eh b0 rfl) qs_27 (by omega) v0.cap) ⟨_, c0⟩ <| tkk (i := 3) rfl rfl (fun _ _ => r_move (em b0 rfl rfl p0)) ⟨_, c0⟩ <| tkk (i := 4) rfl rfl (fun _ _ => r_move (eh b0 rfl)) ⟨_, c0⟩ <| tkk (i := 5) rfl rfl (fun _ _ => r_sub (eh b0 rfl) (eh b0 rfl) (by omega) (by omega)) ⟨_, c0⟩ <| tkk (i := 7) rfl rfl (fun _ _ => r_move (em b0 rfl rfl e0)) ⟨_, c0⟩ <| tkk (i := 8) rfl rfl (fun _ _ => r_move (eh b0 rfl)) ⟨_, c0⟩ ?_
  have s1 : Sl m (A) (1) (c) 32 (hcs ((l).take 1)) := by have h_ := v0.hi (hi := 1) (by omega); rw [hcs_take] at h_; exact h_
  have h1 : ((l).take 1 : List Bytes).length = 1 := (by rw [List.length_take, show (l).length = 2 from hl]; omega)
  refine tkk (i := 9) rfl rfl (fun _ _ => r_sliceHi (n := 2) (c := c) (hi := 1) (eh b0 rfl) (eh b0 rfl) qs_27 (by have h_ := v0.cap; omega)) ⟨_, c0⟩ <| ann (i := 6) (b := true) rfl rfl (k_cl (f69_0 h0.ag r1 g1 (by omega)) rfl fn_69 (map_cons (eh b0 rfl) (map_cons (eh b0 rfl) map_nil)) (fun b2 j2 k1 => ?_))
  obtain ⟨K1, y1, C1, rfl, l0, E0⟩ := k1
  have W1 := l0.size
  have O0 := c0.t0 l0
  have N1 := E0.nilc
  refine ⟨(tbT ⟨_, O0⟩), ?_⟩
  have t1 := (s1.up l0)
  refine ann (i := 10) (b := true) rfl rfl (k_cl (f67_0 l0.ag t1 h1) rfl fn_67 (map_cons (eh b0 rfl) map_nil) (fun d2 l2 l1 => ?_))
  obtain ⟨w1, rfl, m0⟩ := l1
  have X1 := m0.size
  have P0 := O0.t0 m0
  refine ⟨(tbT ⟨_, P0⟩), ?_⟩
  refine ann (i := 11) (b := true) rfl rfl (k_lit (e := 23) (L := hc (mr 0 ((l).take 1))) m0.ag (pm_cons (eh b0 rfl) pm_nil) (by kernel_rfl) (fun m2 A1 G0 n0 G1 => ?_))
  have Y1 := n0.size
  have Q0 := P0.t0 n0
  have I1 := G0.lt
  refine ⟨(tbT ⟨_, Q0⟩), ?_⟩
  have u1 := ((E0.f0 m0).f0 n0)
  have E1 : ((mp 0 ((l).drop 1) (i - 1)) ++ ([mr 0 ((l).take 1)]) : List Bytes).length = 1 := (len_app (mp_len _ _ _) rfl)
  refine ann (i := 12) (b := true) rfl rfl (k_append (base := r0.heap.size) (L := hcs (mp 0 ((l).drop 1) (i - 1))) (N := hcs ([mr 0 ((l).take 1)])) n0.ag (eh b0 rfl) (eh b0 rfl) qs_27 qz_23 u1 (by have h_ := (G0.bk.src (L := hc (mr 0 ((l).take 1))) (n := 1) (o := 0) (k := 32) (by kernel_rfl)); rw [← hcs_one] at h_; exact h_) (fun h => by cases h) (by rw [hcs_length, show ([mr 0 ((l).take 1)] : List Bytes).length = 1 from rfl]) (one_hcs _) (by omega) (by decide) (by rw [maxLen_eq]; omega) (by omega) (fun S0 U0 n2 A0 x0 => ?_))
  have P1 := x0.size
  have J0 := Q0.tg x0 (by omega)
  rw [← hcs_append] at A0
  have O1 := A0.nilc
  refine ⟨(tbT ⟨_, J0⟩), ?_⟩
  refine tkk (i := 13) rfl rfl (fun _ _ => r_assign (eh b0 rfl)) ⟨_, J0⟩ <| anyT_done (by kernel_rfl) ?_ _
  refine b1 <| wp_ret <| ret_of (res1 rfl _ _ (gh b0 rfl)) ((ov_defers _ _).trans B0) ?_
  exact ⟨w1, S0, U0, rfl, (((((cu0.t0 h0).t0 l0).t0 m0).t0 n0).tg x0 (by omega)), (by have h_ := A0; rw [show (mp 0 ((l).drop 1) (i - 1)) ++ ([mr 0 ((l).take 1)]) = mp 1 l i from (mp_hi (d := 0) (by omega))] at h_; exact h_.wk (by omega))⟩

theorem f69_2 {m : Ctx} {w : World} (ag : Ag m w) {A : Option Addr} {c i : Nat} {l : List Bytes} (hsl : Sl m A 4 c 32 (hcs l)) (hl : l.length = 4) (hi : i < 4) : Calls Tryz.prog 69 #[.slice A 4 c, nn i] w (Ret fun v w' => ∃ m' A' c', v = .slice A' 2 c' ∧ Fr no m w m' w' ∧ Own m' w' w.heap.size A' 2 c' 23 32 (hcs (mp 2 l i))) := by
 refine enter Tryz.func69 rfl (fun w0 hT B0 => ?_)
 have b0 : w0.tmps.size = 49 := by rw [hT]; kernel_rfl
 have e0 : w0.tmps.getD 0 undef = .slice A 4 c := by rw [hT]; kernel_rfl
 have p0 : w0.tmps.getD 1 undef = nn i := by rw [hT]; kernel_rfl
 clear hT
 have cu0 : Fr (no) m w m w := Fr.refl ag
 refine sk fun _ V0 => rn <| gv (r_assign (v := .slice none 0 0) rfl) <| nl <| V0 <| sk fun _ Z0 => sk fun _ a1 => rn <| mw b0 p0 <| gv (r_lss (j := 0) (eh b0 rfl) rfl) <| mv b0 rfl ?_
 have o0 : (decide (i < 0)) = false := (decide_eq_false (by omega))
 refine sg (t := 8) rfl rfl b0 (eb b0 rfl o0) (kv (r_move (em b0 rfl rfl p0)) ?_)
 refine sg (t := 8) rfl rfl b0 (eb b0 rfl o0) (kv (r_move (em b0 rfl rfl e0)) ?_)
 refine sg (t := 8) rfl rfl b0 (eb b0 rfl o0) (kv (r_lenS (eh b0 rfl) rfl qu_27) ?_)
 refine sg (t := 8) rfl rfl b0 (eb b0 rfl o0) (kv (r_geq (eh b0 rfl) (eh b0 rfl)) ?_)
 refine gv (r_pick_f (eb b0 rfl o0) (eh b0 rfl)) <| mv b0 rfl ?_
 have s0 : (decide (4 ≤ i)) = false := (decide_eq_false (by omega))
 refine sg (t := 14) rfl rfl b0 (eb b0 rfl s0) (kv (r_move (em b0 rfl rfl e0)) ?_)
 refine sg (t := 14) rfl rfl b0 (eb b0 rfl s0) (kv (r_lenS (eh b0 rfl) rfl qu_27) ?_)
 refine sg (t := 14) rfl rfl b0 (eb b0 rfl s0) (kv (r_eql (j := 1) (eh b0 rfl) rfl) ?_)
 refine gv (r_pick_f (eb b0 rfl s0) (eh b0 rfl)) <| nl <| a1 <| ce b0 rfl <| ws <| Z0 <| sk fun _ c1 => rn <| mw b0 e0 <| gv (r_lenS (eh b0 rfl) rfl qu_27) <| gk (k_cl f117_4 rfl fn_117 (map_cons (eh b0 rfl) map_nil) (fun c2 k2 m1 => ?_))
 obtain ⟨rfl, rfl⟩ := m1
 refine ms b0 rfl <| nl <| c1 <| sk fun _ W0 => sk fun _ X0 => rn <| mw b0 p0 <| mv b0 rfl <| gv (r_lss (eh b0 rfl) (eh b0 rfl)) <| nl <| X0 ?_
 by_cases C0 : i < 2
 ·
  refine ct (eb b0 rfl (decide_eq_true C0)) <| sk fun _ Y0 => ?_
  have g0 : Fr no m w m { w with drawn := w.drawn + 1 } := Fr.drw ag
  obtain ⟨q0, H0⟩ : ∃ w_, w_ = ({ w with drawn := w.drawn + 1 } : World) := ⟨_, rfl⟩
  rw [← H0] at g0
  have Q1 := g0.size
  refine wp_region_T mixed (fun wz => ∃ mz, Fr (no) m q0 mz wz) (fun wz => ∃ mz, Fr (no) m q0 mz wz) 12 ?_
  rw [← H0]
  show wpAnyT _ _ _ _ _ 12 _ _ _
  have d0 : Fr (no) m q0 m q0 := Fr.refl g0.ag
  refine tkk (i := 0) rfl rfl (fun _ _ => r_move (em b0 rfl rfl e0)) ⟨_, d0⟩ <| tkk (i := 1) rfl rfl (fun _ _ => r_move (eh b0 rfl)) ⟨_, d0⟩ ?_
  have u0 := (hsl.up g0)
  have n1 : Sl m (A) (2) (c) 32 (hcs ((l).take 2)) := by have h_ := u0.hi (hi := 2) (by omega); rw [hcs_take] at h_; exact h_
  have d1 : ((l).take 2 : List Bytes).length = 2 := (by rw [List.length_take, show (l).length = 4 from hl]; omega)
  refine tkk (i := 2) rfl rfl (fun _ _ => r_sliceHi (n := 4) (c := c) (hi := 2) (eh b0 rfl) (eh b0 rfl) qs_27 (by have h_ := u0.cap; omega)) ⟨_, d0⟩ <| tkk (i := 3) rfl rfl (fun _ _ => r_move (em b0 rfl rfl p0)) ⟨_, d0⟩ <| tkk (i := 5) rfl rfl (fun _ _ => r_move (em b0 rfl rfl e0)) ⟨_, d0⟩ <| tkk (i := 6) rfl rfl (fun _ _ => r_move (eh b0 rfl)) ⟨_, d0⟩ ?_
  have o1 : Sl m (sA A c 2 32) (2) (c - 2) 32 (hcs ((l).drop 2)) := by have h_ := u0.lo (lo := 2) (by omega); rw [hcs_drop] at h_; exact h_
  have e1 : ((l).drop 2 : List Bytes).length = 2 := (by rw [List.length_drop, show (l).length = 4 from hl])
  refine tkk (i := 7) rfl rfl (fun _ _ => r_sliceLo (n := 4) (c := c) (lo := 2) (eh b0 rfl) (eh b0 rfl) qs_27 (by omega) u0.cap) ⟨_, d0⟩ <| ann (i := 4) (b := true) rfl rfl (k_cl (f69_1 g0.ag n1 d1 (by omega)) rfl fn_69 (map_cons (eh b0 rfl) (map_cons (eh b0 rfl) map_nil)) (fun Z1 e2 i1 => ?_))
  obtain ⟨J1, x1, B1, rfl, i0, D0⟩ := i1
  have R1 := i0.size
  have K0 := d0.t0 i0
  have L1 := D0.nilc
  refine ⟨(tbT ⟨_, K0⟩), ?_⟩
  have p1 := (o1.up i0)
  refine ann (i := 8) (b := true) rfl rfl (k_cl (f67_1 i0.ag p1 e1) rfl fn_67 (map_cons (eh b0 rfl) map_nil) (fun a2 g2 j1 => ?_))
  obtain ⟨v1, rfl, j0⟩ := j1
  have S1 := j0.size
  have L0 := K0.t0 j0
  refine ⟨(tbT ⟨_, L0⟩), ?_⟩
  refine ann (i := 9) (b := true) rfl rfl (k_lit (e := 23) (L := hc (mr 1 ((l).drop 2))) j0.ag (pm_cons (eh b0 rfl) pm_nil) (by kernel_rfl) (fun h2 z1 F0 k0 F1 => ?_))
  have T1 := k0.size
  have M0 := L0.t0 k0
  have H1 := F0.lt
  refine ⟨(tbT ⟨_, M0⟩), ?_⟩
  have q1 := ((D0.f0 j0).f0 k0)
  have D1 : ((mp 1 ((l).take 2) i) ++ ([mr 1 ((l).drop 2)]) : List Bytes).length = 2 := (len_app (mp_len _ _ _) rfl)
  refine ann (i := 10) (b := true) rfl rfl (k_append (base := q0.heap.size) (L := hcs (mp 1 ((l).take 2) i)) (N := hcs ([mr 1 ((l).drop 2)])) k0.ag (eh b0 rfl) (eh b0 rfl) qs_27 qz_23 q1 (by have h_ := (F0.bk.src (L := hc (mr 1 ((l).drop 2))) (n := 1) (o := 0) (k := 32) (by kernel_rfl)); rw [← hcs_one] at h_; exact h_) (fun h => by cases h) (by rw [hcs_length, show ([mr 1 ((l).drop 2)] : List Bytes).length = 1 from rfl]) (one_hcs _) (by omega) (by decide) (by rw [maxLen_eq]; omega) (by omega) (fun R0 T0 i2 z0 y0 => ?_))
  have U1 := y0.size
  have N0 := M0.tg y0 (by omega)
  rw [← hcs_append] at z0
  have M1 := z0.nilc
  refine ⟨(tbT ⟨_, N0⟩), ?_⟩
  refine tkk (i := 11) rfl rfl (fun _ _ => r_assign (eh b0 rfl)) ⟨_, N0⟩ <| anyT_done (by kernel_rfl) ?_ _
  refine Y0 <| wp_ret <| ret_of (res1 rfl _ _ (gh b0 rfl)) ((ov_defers _ _).trans B0) ?_
  exact ⟨v1, R0, T0, rfl, (((((cu0.t0 g0).t0 i0).t0 j0).t0 k0).tg y0 (by omega)), (by have h_ := z0; rw [show (mp 1 ((l).take 2) i) ++ ([mr 1 ((l).drop 2)]) = mp 2 l i from (mp_lo (d := 1) (by omega))] at h_; exact h_.wk (by omega))⟩
 ·
  refine cf (eb b0 rfl (decide_eq_false C0)) <| ws <| W0 <| sk fun _ b1 => ?_
  have h0 : Fr no m w m { w with drawn := w.drawn + 1 } := Fr.drw ag
  obtain ⟨r0, I0⟩ : ∃ w_, w_ = ({ w with drawn := w.drawn + 1 } : World) := ⟨_, rfl⟩
  rw [← I0] at h0
  have V1 := h0.size
  refine wp_region_T mixed (fun wz => ∃ mz, Fr (no) m r0 mz wz) (fun wz => ∃ mz, Fr (no) m r0 mz wz) 14 ?_
  rw [← I0]
  show wpAnyT _ _ _ _ _ 14 _ _ _
  have c0 : Fr (no) m r0 m r0 := Fr.refl h0.ag
  refine tkk (i := 0) rfl rfl (fun _ _ => r_move (em b0 rfl rfl e0)) ⟨_, c0⟩ <| tkk (i := 1) rfl rfl (fun _ _ => r_move (eh b0 rfl)) ⟨_, c0⟩ ?_
  have v0 := (hsl.up h0)
  have r1 : Sl m (sA A c 2 32) (2) (c - 2) 32 (hcs ((l).drop 2)) := by have h_ := v0.lo (lo := 2) (by omega); rw [hcs_drop] at h_; exact h_
  have g1 : ((l).drop 2 : List Bytes).length = 2 := (by rw [List.length_drop, show (l).length = 4 from hl])
  refine tkk (i := 2) rfl rfl (fun _ _ => r_sliceLo (n := 4) (c := c) (lo := 2) (eh b0 rfl) (eh b0 rfl) qs_27 (by omega) v0.cap) ⟨_, c0⟩ <| tkk (i := 3) rfl rfl (fun _ _ => r_move (em b0 rfl rfl p0)) ⟨_, c0⟩ <| tkk (i := 4) rfl rfl (fun _ _ => r_move (eh b0 rfl)) ⟨_, c0⟩ <| tkk (i := 5) rfl rfl (fun _ _ => r_sub (eh b0 rfl) (eh b0 rfl) (by omega) (by omega)) ⟨_, c0⟩ <| tkk (i := 7) rfl rfl (fun _ _ => r_move (em b0 rfl rfl e0)) ⟨_, c0⟩ <| tkk (i := 8) rfl rfl (fun _ _ => r_move (eh b0 rfl)) ⟨_, c0⟩ ?_
  have s1 : Sl m (A) (2) (c) 32 (hcs ((l).take 2)) := by have h_ := v0.hi (hi := 2) (by omega); rw [hcs_take] at h_; exact h_
  have h1 : ((l).take 2 : List Bytes).length = 2 := (by rw [List.length_take, show (l).length = 4 from hl]; omega)
  refine tkk (i := 9) rfl rfl (fun _ _ => r_sliceHi (n := 4) (c := c) (hi := 2) (eh b0 rfl) (eh b0 rfl) qs_27 (by have h_ := v0.cap; omega)) ⟨_, c0⟩ <| ann (i := 6) (b := true) rfl rfl (k_cl (f69_1 h0.ag r1 g1 (by omega)) rfl fn_69 (map_cons (eh b0 rfl) (map_cons (eh b0 rfl) map_nil)) (fun b2 j2 k1 => ?_))
  obtain ⟨K1, y1, C1, rfl, l0, E0⟩ := k1
  have W1 := l0.size
  have O0 := c0.t0 l0
  have N1 := E0.nilc
  refine ⟨(tbT ⟨_, O0⟩), ?_⟩
  have t1 := (s1.up l0)
  refine ann (i := 10) (b := true) rfl rfl (k_cl (f67_1 l0.ag t1 h1) rfl fn_67 (map_cons (eh b0 rfl) map_nil) (fun d2 l2 l1 => ?_))
  obtain ⟨w1, rfl, m0⟩ := l1
  have X1 := m0.size
  have P0 := O0.t0 m0
  refine ⟨(tbT ⟨_, P0⟩), ?_⟩
  refine ann (i := 11) (b := true) rfl rfl (k_lit (e := 23) (L := hc (mr 1 ((l).take 2))) m0.ag (pm_cons (eh b0 rfl) pm_nil) (by kernel_rfl) (fun m2 A1 G0 n0 G1 => ?_))
  have Y1 := n0.size
  have Q0 := P0.t0 n0
  have I1 := G0.lt
  refine ⟨(tbT ⟨_, Q0⟩), ?_⟩
  have u1 := ((E0.f0 m0).f0 n0)
  have E1 : ((mp 1 ((l).drop 2) (i - 2)) ++ ([mr 1 ((l).take 2)]) : List Bytes).length = 2 := (len_app (mp_len _ _ _) rfl)
  refine ann (i := 12) (b := true) rfl rfl (k_append (base := r0.heap.size) (L := hcs (mp 1 ((l).drop 2) (i - 2))) (N := hcs ([mr 1 ((l).take 2)])) n0.ag (eh b0 rfl) (eh b0 rfl) qs_27 qz_23 u1 (by have h_ := (G0.bk.src (L := hc (mr 1 ((l).take 2))) (n := 1) (o := 0) (k := 32) (by kernel_rfl)); rw [← hcs_one] at h_; exact h_) (fun h => by cases h) (by rw [hcs_length, show ([mr 1 ((l).take 2)] : List Bytes).length = 1 from rfl]) (one_hcs _) (by omega) (by decide) (by rw [maxLen_eq]; omega) (by omega) (fun S0 U0 n2 A0 x0 => ?_))
  have P1 := x0.size
  have J0 := Q0.tg x0 (by omega)
  rw [← hcs_append] at A0
  have O1 := A0.nilc
  refine ⟨(tbT ⟨_, J0⟩), ?_⟩
  refine tkk (i := 13) rfl rfl (fun _ _ => r_assign (eh b0 rfl)) ⟨_, J0⟩ <| anyT_done (by kernel_rfl) ?_ _
  refine b1 <| wp_ret <| ret_of (res1 rfl _ _ (gh b0 rfl)) ((ov_defers _ _).trans B0) ?_
  exact ⟨w1, S0, U0, rfl, (((((cu0.t0 h0).t0 l0).t0 m0).t0 n0).tg x0 (by omega)), (by have h_ := A0; rw [show (mp 1 ((l).drop 2) (i - 2)) ++ ([mr 1 ((l).take 2)]) = mp 2 l i from (mp_hi (d := 1) (by omega))] at h_; exact h_.wk (by omega))⟩

theorem f69_3 {m : Ctx} {w : World} (ag : Ag m w) {A : Option Addr} {c i : Nat} {l : List Bytes} (hsl : Sl m A 8 c 32 (hcs l)) (hl : l.length = 8) (hi : i < 8) : Calls Tryz.prog 69 #[.slice A 8 c, nn i] w (Ret fun v w' => ∃ m' A' c', v = .slice A' 3 c' ∧ Fr no m w m' w' ∧ Own m' w' w.heap.size A' 3 c' 23 32 (hcs (mp 3 l i))) := by
 refine enter Tryz.func69 rfl (fun w0 hT B0 => ?_)
 have b0 : w0.tmps.size = 49 := by rw [hT]; kernel_rfl
 have e0 : w0.tmps.getD 0 undef = .slice A 8 c := by rw [hT]; kernel_rfl
 have p0 : w0.tmps.getD 1 undef = nn i := by rw [hT]; kernel_rfl
 clear hT
 have cu0 : Fr (no) m w m w := Fr.refl ag
 refine sk fun _ V0 => rn <| gv (r_assign (v := .slice none 0 0) rfl) <| nl <| V0 <| sk fun _ Z0 => sk fun _ a1 => rn <| mw b0 p0 <| gv (r_lss (j := 0) (eh b0 rfl) rfl) <| mv b0 rfl ?_
 have o0 : (decide (i < 0)) = false := (decide_eq_false (by omega))
 refine sg (t := 8) rfl rfl b0 (eb b0 rfl o0) (kv (r_move (em b0 rfl rfl p0)) ?_)
 refine sg (t := 8) rfl rfl b0 (eb b0 rfl o0) (kv (r_move (em b0 rfl rfl e0)) ?_)
 refine sg (t := 8) rfl rfl b0 (eb b0 rfl o0) (kv (r_lenS (eh b0 rfl) rfl qu_27) ?_)
 refine sg (t := 8) rfl rfl b0 (eb b0 rfl o0) (kv (r_geq (eh b0 rfl) (eh b0 rfl)) ?_)
 refine gv (r_pick_f (eb b0 rfl o0) (eh b0 rfl)) <| mv b0 rfl ?_
 have s0 : (decide (8 ≤ i)) = false := (decide_eq_false (by omega))
 refine sg (t := 14) rfl rfl b0 (eb b0 rfl s0) (kv (r_move (em b0 rfl rfl e0)) ?_)
 refine sg (t := 14) rfl rfl b0 (eb b0 rfl s0) (kv (r_lenS (eh b0 rfl) rfl qu_27) ?_)
 refine sg (t := 14) rfl rfl b0 (eb b0 rfl s0) (kv (r_eql (j := 1) (eh b0 rfl) rfl) ?_)
 refine gv (r_pick_f (eb b0 rfl s0) (eh b0 rfl)) <| nl <| a1 <| ce b0 rfl <| ws <| Z0 <| sk fun _ c1 => rn <| mw b0 e0 <| gv (r_lenS (eh b0 rfl) rfl qu_27) <| gk (k_cl f117_8 rfl fn_117 (map_cons (eh b0 rfl) map_nil) (fun c2 k2 m1 => ?_))
 obtain ⟨rfl, rfl⟩ := m1
 refine ms b0 rfl <| nl <| c1 <| sk fun _ W0 => sk fun _ X0 => rn <| mw b0 p0 <| mv b0 rfl <| gv (r_lss (eh b0 rfl) (eh b0 rfl)) <| nl <| X0 ?_
 by_cases C0 : i < 4
 ·
  refine ct (eb b0 rfl (decide_eq_true C0)) <| sk fun _ Y0 => ?_
  have g0 : Fr no m w m { w with drawn := w.drawn + 1 } := Fr.drw ag
  obtain ⟨q0, H0⟩ : ∃ w_, w_ = ({ w with drawn := w.drawn + 1 } : World) := ⟨_, rfl⟩
  rw [← H0] at g0
  have Q1 := g0.size
  refine wp_region_T mixed (fun wz => ∃ mz, Fr (no) m q0 mz wz) (fun wz => ∃ mz, Fr (no) m q0 mz wz) 12 ?_
  rw [← H0]
  show wpAnyT _ _ _ _ _ 12 _ _ _
  have d0 : Fr (no) m q0 m q0 := Fr.refl g0.ag
  refine tkk (i := 0) rfl rfl (fun _ _ => r_move (em b0 rfl rfl e0)) ⟨_, d0⟩ <| tkk (i := 1) rfl rfl (fun _ _ => r_move (eh b0 rfl)) ⟨_, d0⟩ ?_
  have u0 := (hsl.up g0)
  have n1 : Sl m (A) (4) (c) 32 (hcs ((l).take 4)) := by have h_ := u0.hi (hi := 4) (by omega); rw [hcs_take] at h_; exact h_
  have d1 : ((l).take 4 : List Bytes).length = 4 := (by rw [List.length_take, show (l).length = 8 from hl]; omega)
  refine tkk (i := 2) rfl rfl (fun _ _ => r_sliceHi (n := 8) (c := c) (hi := 4) (eh b0 rfl) (eh b0 rfl) qs_27 (by have h_ := u0.cap; omega)) ⟨_, d0⟩ <| tkk (i := 3) rfl rfl (fun _ _ => r_move (em b0 rfl rfl p0)) ⟨_, d0⟩ <| tkk (i := 5) rfl rfl (fun _ _ => r_move (em b0 rfl rfl e0)) ⟨_, d0⟩ <| tkk (i := 6) rfl rfl (fun _ _ => r_move (eh b0 rfl)) ⟨_, d0⟩ ?_
  have o1 : Sl m (sA A c 4 32) (4) (c - 4) 32 (hcs ((l).drop 4)) := by have h_ := u0.lo (lo := 4) (by omega); rw [hcs_drop] at h_; exact h_
  have e1 : ((l).drop 4 : List Bytes).length = 4 := (by rw [List.length_drop, show (l).length = 8 from hl])
  refine tkk (i := 7) rfl rfl (fun _ _ => r_sliceLo (n := 8) (c := c) (lo := 4) (eh b0 rfl) (eh b0 rfl) qs_27 (by omega) u0.cap) ⟨_, d0⟩ <| ann (i := 4) (b := true) rfl rfl (k_cl (f69_2 g0.ag n1 d1 (by omega)) rfl fn_69 (map_cons (eh b0 rfl) (map_cons (eh b0 rfl) map_nil)) (fun Z1 e2 i1 => ?_))
  obtain ⟨J1, x1, B1, rfl, i0, D0⟩ := i1
  have R1 := i0.size
  have K0 := d0.t0 i0
  have L1 := D0.nilc
  refine ⟨(tbT ⟨_, K0⟩), ?_⟩
  have p1 := (o1.up i0)
  refine ann (i := 8) (b := true) rfl rfl (k_cl (f67_2 i0.ag p1 e1) rfl fn_67 (map_cons (eh b0 rfl) map_nil) (fun a2 g2 j1 => ?_))
  obtain ⟨v1, rfl, j0⟩ := j1
  have S1 := j0.size
  have L0 := K0.t0 j0
  refine ⟨(tbT ⟨_, L0⟩), ?_⟩
  refine ann (i := 9) (b := true) rfl rfl (k_lit (e := 23) (L := hc (mr 2 ((l).drop 4))) j0.ag (pm_cons (eh b0 rfl) pm_nil) (by kernel_rfl) (fun h2 z1 F0 k0 F1 => ?_))
  have T1 := k0.size
  have M0 := L0.t0 k0
  have H1 := F0.lt
  refine ⟨(tbT ⟨_, M0⟩), ?_⟩
  have q1 := ((D0.f0 j0).f0 k0)
  have D1 : ((mp 2 ((l).take 4) i) ++ ([mr 2 ((l).drop 4)]) : List Bytes).length = 3 := (len_app (mp_len _ _ _) rfl)
  refine ann (i := 10) (b := true) rfl rfl (k_append (base := q0.heap.size) (L := hcs (mp 2 ((l).take 4) i)) (N := hcs ([mr 2 ((l).drop 4)])) k0.ag (eh b0 rfl) (eh b0 rfl) qs_27 qz_23 q1 (by have h_ := (F0.bk.src (L := hc (mr 2 ((l).drop 4))) (n := 1) (o := 0) (k := 32) (by kernel_rfl)); rw [← hcs_one] at h_; exact h_) (fun h => by cases h) (by rw [hcs_length, show ([mr 2 ((l).drop 4)] : List Bytes).length = 1 from rfl]) (one_hcs _) (by omega) (by decide) (by rw [maxLen_eq]; omega) (by omega) (fun R0 T0 i2 z0 y0 => ?_))
  have U1 := y0.size
  have N0 := M0.tg y0 (by omega)
  rw [← hcs_append] at z0
  have M1 := z0.nilc
  refine ⟨(tbT ⟨_, N0⟩), ?_⟩
  refine tkk (i := 11) rfl rfl (fun _ _ => r_assign (eh b0 rfl)) ⟨_, N0⟩ <| anyT_done (by kernel_rfl) ?_ _
  refine Y0 <| wp_ret <| ret_of (res1 rfl _ _ (gh b0 rfl)) ((ov_defers _ _).trans B0) ?_
  exact ⟨v1, R0, T0, rfl, (((((cu0.t0 g0).t0 i0).t0 j0).t0 k0).tg y0 (by omega)), (by have h_ := z0; rw [show (mp 2 ((l).take 4) i) ++ ([mr 2 ((l).drop 4)]) = mp 3 l i from (mp_lo (d := 2) (by omega))] at h_; exact h_.wk (by omega))⟩
 ·
  refine cf (eb b0 rfl (decide_eq_false C0)) <| ws <| W0 <| sk fun _ b1 => ?_
  have h0 : Fr no m w m { w with drawn := w.drawn + 1 } := Fr.drw ag
  obtain ⟨r0, I0⟩ : ∃ w_, w_ = ({ w with drawn := w.drawn + 1 } : World) := ⟨_, rfl⟩
  rw [← I0] at h0
  have V1 := h0.size
  refine wp_region_T mixed (fun wz => ∃ mz, Fr (no) m r0 mz wz) (fun wz => ∃ mz, Fr (no) m r0 mz wz) 14 ?_
  rw [← I0]
  show wpAnyT _ _ _ _ _ 14 _ _ _
  have c0 : Fr (no) m r0 m r0 := Fr.refl h0.ag
  refine tkk (i := 0) rfl rfl (fun _ _ => r_move (em b0 rfl rfl e0)) ⟨_, c0⟩ <| tkk (i := 1) rfl rfl (fun _ _ => r_move (eh b0 rfl)) ⟨_, c0⟩ ?_
  have v0 := (hsl.up h0)
  have r1 : Sl m (sA A c 4 32) (4) (c - 4) 32 (hcs ((l).drop 4)) := by have h_ := v0.lo (lo := 4) (by omega); rw [hcs_drop] at h_; exact h_
  have g1 : ((l).drop 4 : List Bytes).length = 4 := (by rw [List.length_drop, show (l).length = 8 from hl])
  refine tkk (i := 2) rfl rfl (fun _ _ => r_sliceLo (n := 8) (c := c) (lo := 4) (eh b0 rfl) (eh b0 rfl) qs_27 (by omega) v0.cap) ⟨_, c0⟩ <| tkk (i := 3) rfl rfl (fun _ _ => r_move (em b0 rfl rfl p0)) ⟨_, c0⟩ <| tkk (i := 4) rfl rfl (fun _ _ => r_move (eh b0 rfl)) ⟨_, c0⟩ <| tkk (i := 5) rfl rfl (fun _ _ => r_sub (eh b0 rfl) (eh b0 rfl) (by omega) (by omega)) ⟨_, c0⟩ <| tkk (i := 7) rfl rfl (fun _ _ => r_move (em b0 rfl rfl e0)) ⟨_, c0⟩ <| tkk (i := 8) rfl rfl (fun _ _ => r_move (eh b0 rfl)) ⟨_, c0⟩ ?_
  have s1 : Sl m (A) (4) (c) 32 (hcs ((l).take 4)) := by have h_ := v0.hi (hi := 4) (by omega); rw [hcs_take] at h_; exact h_
  have h1 : ((l).take 4 : List Bytes).length = 4 := (by rw [List.length_take, show (l).length = 8 from hl]; omega)
  refine tkk (i := 9) rfl rfl (fun _ _ => r_sliceHi (n := 8) (c := c) (hi := 4) (eh b0 rfl) (eh b0 rfl) qs_27 (by have h_ := v0.cap; omega)) ⟨_, c0⟩ <| ann (i := 6) (b := true) rfl rfl (k_cl (f69_2 h0.ag r1 g1 (by omega)) rfl fn_69 (map_cons (eh b0 rfl) (map_cons (eh b0 rfl) map_nil)) (fun b2 j2 k1 => ?_))
  obtain ⟨K1, y1, C1, rfl, l0, E0⟩ := k1
  have W1 := l0.size
  have O0 := c0.t0 l0
  have N1 := E0.nilc
  refine ⟨(tbT ⟨_, O0⟩), ?_⟩
  have t1 := (s1.up l0)
  refine ann (i := 10) (b := true) rfl rfl (k_cl (f67_2 l0.ag t1 h1) rfl fn_67 (map_cons (eh b0 rfl) map_nil) (fun d2 l2 l1 => ?_))
  obtain ⟨w1, rfl, m0⟩ := l1
  have X1 := m0.size
  have P0 := O0.t0 m0
  refine ⟨(tbT ⟨_, P0⟩), ?_⟩
  refine ann (i := 11) (b := true) rfl rfl (k_lit (e := 23) (L := hc (mr 2 ((l).take 4))) m0.ag (pm_cons (eh b0 rfl) pm_nil) (by kernel_rfl) (fun m2 A1 G0 n0 G1 => ?_))
  have Y1 := n0.size
  have Q0 := P0.t0 n0
  have I1 := G0.lt
  refine ⟨(tbT ⟨_, Q0⟩), ?_⟩
  have u1 := ((E0.f0 m0).f0 n0)
  have E1 : ((mp 2 ((l).drop 4) (i - 4)) ++ ([mr 2 ((l).take 4)]) : List Bytes).length = 3 := (len_app (mp_len _ _ _) rfl)
  refine ann (i := 12) (b := true) rfl rfl (k_append (base := r0.heap.size) (L := hcs (mp 2 ((l).drop 4) (i - 4))) (N := hcs ([mr 2 ((l).take 4)])) n0.ag (eh b0 rfl) (eh b0 rfl) qs_27 qz_23 u1 (by have h_ := (G0.bk.src (L := hc (mr 2 ((l).take 4))) (n := 1) (o := 0) (k := 32) (by kernel_rfl)); rw [← hcs_one] at h_; exact h_) (fun h => by cases h) (by rw [hcs_length, show ([mr 2 ((l).take 4)] : List Bytes).length = 1 from rfl]) (one_hcs _) (by omega) (by decide) (by rw [maxLen_eq]; omega) (by omega) (fun S0 U0 n2 A0 x0 => ?_))
  have P1 := x0.size
  have J0 := Q0.tg x0 (by omega)
  rw [← hcs_append] at A0
  have O1 := A0.nilc
  refine ⟨(tbT ⟨_, J0⟩), ?_⟩
  refine tkk (i := 13) rfl rfl (fun _ _ => r_assign (eh b0 rfl)) ⟨_, J0⟩ <| anyT_done (by kernel_rfl) ?_ _
  refine b1 <| wp_ret <| ret_of (res1 rfl _ _ (gh b0 rfl)) ((ov_defers _ _).trans B0) ?_
  exact ⟨w1, S0, U0, rfl, (((((cu0.t0 h0).t0 l0).t0 m0).t0 n0).tg x0 (by omega)), (by have h_ := A0; rw [show (mp 2 ((l).drop 4) (i - 4)) ++ ([mr 2 ((l).take 4)]) = mp 3 l i from (mp_hi (d := 2) (by omega))] at h_; exact h_.wk (by omega))⟩

theorem f69_4 {m : Ctx} {w : World} (ag : Ag m w) {A : Option Addr} {c i : Nat} {l : List Bytes} (hsl : Sl m A 16 c 32 (hcs l)) (hl : l.length = 16) (hi : i < 16) : Calls Tryz.prog 69 #[.slice A 16 c, nn i] w (Ret fun v w' => ∃ m' A' c', v = .slice A' 4 c' ∧ Fr no m w m' w' ∧ Own m' w' w.heap.size A' 4 c' 23 32 (hcs (mp 4 l i))) := by
 refine enter Tryz.func69 rfl (fun w0 hT B0 => ?_)
 have b0 : w0.tmps.size = 49 := by rw [hT]; kernel_rfl
 have e0 : w0.tmps.getD 0 undef = .slice A 16 c := by rw [hT]; kernel_rfl
 have p0 : w0.tmps.getD 1 undef = nn i := by rw [hT]; kernel_rfl
 clear hT
 have cu0 : Fr (no) m w m w := Fr.refl ag
 refine sk fun _ V0 => rn <| gv (r_assign (v := .slice none 0 0) rfl) <| nl <| V0 <| sk fun _ Z0 => sk fun _ a1 => rn <| mw b0 p0 <| gv (r_lss (j := 0) (eh b0 rfl) rfl) <| mv b0 rfl ?_
 have o0 : (decide (i < 0)) = false := (decide_eq_false (by omega))
 refine sg (t := 8) rfl rfl b0 (eb b0 rfl o0) (kv (r_move (em b0 rfl rfl p0)) ?_)
 refine sg (t := 8) rfl rfl b0 (eb b0 rfl o0) (kv (r_move (em b0 rfl rfl e0)) ?_)
 refine sg (t := 8) rfl rfl b0 (eb b0 rfl o0) (kv (r_lenS (eh b0 rfl) rfl qu_27) ?_)
 refine sg (t := 8) rfl rfl b0 (eb b0 rfl o0) (kv (r_geq (eh b0 rfl) (eh b0 rfl)) ?_)
 refine gv (r_pick_f (eb b0 rfl o0) (eh b0 rfl)) <| mv b0 rfl ?_
 have s0 : (decide (16 ≤ i)) = false := (decide_eq_false (by omega))
 refine sg (t := 14) rfl rfl b0 (eb b0 rfl s0) (kv (r_move (em b0 rfl rfl e0)) ?_)
 refine sg (t := 14) rfl rfl b0 (eb b0 rfl s0) (kv (r_lenS (eh b0 rfl) rfl qu_27) ?_)
 refine sg (t := 14) rfl rfl b0 (eb b0 rfl s0) (kv (r_eql (j := 1) (eh b0 rfl) rfl) ?_)
 refine gv (r_pick_f (eb b0 rfl s0) (eh b0 rfl)) <| nl <| a1 <| ce b0 rfl <| ws <| Z0 <| sk fun _ c1 => rn <| mw b0 e0 <| gv (r_lenS (eh b0 rfl) rfl qu_27) <| gk (k_cl f117_16 rfl fn_117 (map_cons (eh b0 rfl) map_nil) (fun c2 k2 m1 => ?_))
 obtain ⟨rfl, rfl⟩ := m1
 refine ms b0 rfl <| nl <| c1 <| sk fun _ W0 => sk fun _ X0 => rn <| mw b0 p0 <| mv b0 rfl <| gv (r_lss (eh b0 rfl) (eh b0 rfl)) <| nl <| X0 ?_
 by_cases C0 : i < 8
 ·
  refine ct (eb b0 rfl (decide_eq_true C0)) <| sk fun _ Y0 => ?_
  have g0 : Fr no m w m { w with drawn := w.drawn + 1 } := Fr.drw ag
  obtain ⟨q0, H0⟩ : ∃ w_, w_ = ({ w with drawn := w.drawn + 1 } : World) := ⟨_, rfl⟩
  rw [← H0] at g0
  have Q1 := g0.size
  refine wp_region_T mixed (fun wz => ∃ mz, Fr (no) m q0 mz wz) (fun wz => ∃ mz, Fr (no) m q0 mz wz) 12 ?_
  rw [← H0]
  show wpAnyT _ _ _ _ _ 12 _ _ _
  have d0 : Fr (no) m q0 m q0 := Fr.refl g0.ag
  refine tkk (i := 0) rfl rfl (fun _ _ => r_move (em b0 rfl rfl e0)) ⟨_, d0⟩ <| tkk (i := 1) rfl rfl (fun _ _ => r_move (eh b0 rfl)) ⟨_, d0⟩ ?_
  have u0 := (hsl.up g0)
  have n1 : Sl m (A) (8) (c) 32 (hcs ((l).take 8)) := by have h_ := u0.hi (hi := 8) (by omega); rw [hcs_take] at h_; exact h_
  have d1 : ((l).take 8 : List Bytes).length = 8 := (by rw [List.length_take, show (l).length = 16 from hl]; omega)
  refine tkk (i := 2) rfl rfl (fun _ _ => r_sliceHi (n := 16) (c := c) (hi := 8) (eh b0 rfl) (eh b0 rfl) qs_27 (by have h_ := u0.cap; omega)) ⟨_, d0⟩ <| tkk (i := 3) rfl rfl (fun _ _ => r_move (em b0 rfl rfl p0)) ⟨_, d0⟩ <| tkk (i := 5) rfl rfl (fun _ _ => r_move (em b0 rfl rfl e0)) ⟨_, d0⟩ <| tkk (i := 6) rfl rfl (fun _ _ => r_move (eh b0 rfl)) ⟨_, d0⟩ ?_
  have o1 : Sl m (sA A c 8 32) (8) (c - 8) 32 (hcs ((l).drop 8)) := by have h_ := u0.lo (lo := 8) (by omega); rw [hcs_drop] at h_; exact h_
  have e1 : ((l).drop 8 : List Bytes).length = 8 := (by rw [List.length_drop, show (l).length = 16 from hl])
  refine tkk (i := 7) rfl rfl (fun _ _ => r_sliceLo (n := 16) (c := c) (lo := 8) (eh b0 rfl) (eh b0 rfl) qs_27 (by omega) u0.cap) ⟨_, d0⟩ <| ann (i := 4) (b := true) rfl rfl (k_cl (f69_3 g0.ag n1 d1 (by omega)) rfl fn_69 (map_cons (eh b0 rfl) (map_cons (eh b0 rfl) map_nil)) (fun Z1 e2 i1 => ?_))
  obtain ⟨J1, x1, B1, rfl, i0, D0⟩ := i1
  have R1 := i0.size
  have K0 := d0.t0 i0
  have L1 := D0.nilc
  refine ⟨(tbT ⟨_, K0⟩), ?_⟩
  have p1 := (o1.up i0)
  refine ann (i := 8) (b := true) rfl rfl (k_cl (f67_3 i0.ag p1 e1) rfl fn_67 (map_cons (eh b0 rfl) map_nil) (fun a2 g2 j1 => ?_))
  obtain ⟨v1, rfl, j0⟩ := j1
  have S1 := j0.size
  have L0 := K0.t0 j0
  refine ⟨(tbT ⟨_, L0⟩), ?_⟩
  refine ann (i := 9) (b := true) rfl rfl (k_lit (e := 23) (L := hc (mr 3 ((l).drop 8))) j0.ag (pm_cons (eh b0 rfl) pm_nil) (by kernel_rfl) (fun h2 z1 F0 k0 F1 => ?_))
  have T1 := k0.size
  have M0 := L0.t0 k0
  have H1 := F0.lt
  refine ⟨(tbT ⟨_, M0⟩), ?_⟩
  have q1 := ((D0.f0 j0).f0 k0)
  have D1 : ((mp 3 ((l).take 8) i) ++ ([mr 3 ((l).drop 8)]) : List Bytes).length = 4 := (len_app (mp_len _ _ _) rfl)
  refine ann (i := 10) (b := true) rfl rfl (k_append (base := q0.heap.size) (L := hcs (mp 3 ((l).take 8) i)) (N := hcs ([mr 3 ((l).drop 8)])) k0.ag (eh b0 rfl) (eh b0 rfl) qs_27 qz_23 q1 (by have h_ := (F0.bk.src (L := hc (mr 3 ((l).drop 8))) (n := 1) (o := 0) (k := 32) (by kernel_rfl)); rw [← hcs_one] at h_; exact h_) (fun h => by cases h) (by rw [hcs_length, show ([mr 3 ((l).drop 8)] : List Bytes).length = 1 from rfl]) (one_hcs _) (by omega) (by decide) (by rw [maxLen_eq]; omega) (by omega) (fun R0 T0 i2 z0 y0 => ?_))
  have U1 := y0.size
  have N0 := M0.tg y0 (by omega)
  rw [← hcs_append] at z0
  have M1 := z0.nilc
  refine ⟨(tbT ⟨_, N0⟩), ?_⟩
  refine tkk (i := 11) rfl rfl (fun _ _ => r_assign (eh b0 rfl)) ⟨_, N0⟩ <| anyT_done (by kernel_rfl) ?_ _
  refine Y0 <| wp_ret <| ret_of (res1 rfl _ _ (gh b0 rfl)) ((ov_defers _ _).trans B0) ?_
  exact ⟨v1, R0, T0, rfl, (((((cu0.t0 g0).t0 i0).t0 j0).t0 k0).tg y0 (by omega)), (by have h_ := z0; rw [show (mp 3 ((l).take 8) i) ++ ([mr 3 ((l).drop 8)]) = mp 4 l i from (mp_lo (d := 3) (by omega))] at h_; exact h_.wk (by omega))⟩
 ·
  refine cf (eb b0 rfl (decide_eq_false C0)) <| ws <| W0 <| sk fun _ b1 => ?_
  have h0 : Fr no m w m { w with drawn := w.drawn + 1 } := Fr.drw ag
  obtain ⟨r0, I0⟩ : ∃ w_, w_ = ({ w with drawn := w.drawn + 1 } : World) := ⟨_, rfl⟩
  rw [← I0] at h0
  have V1 := h0.size
  refine wp_region_T mixed (fun wz => ∃ mz, Fr (no) m r0 mz wz) (fun wz => ∃ mz, Fr (no) m r0 mz wz) 14 ?_
  rw [← I0]
  show wpAnyT _ _ _ _ _ 14 _ _ _
  have c0 : Fr (no) m r0 m r0 := Fr.refl h0.ag
  refine tkk (i := 0) rfl rfl (fun _ _ => r_move (em b0 rfl rfl e0)) ⟨_, c0⟩ <| tkk (i := 1) rfl rfl (fun _ _ => r_move (eh b0 rfl)) ⟨_, c0⟩ ?_
  have v0 := (hsl.up h0)
  have r1 : Sl m (sA A c 8 32) (8) (c - 8) 32 (hcs ((l).drop 8)) := by have h_ := v0.lo (lo := 8) (by omega); rw [hcs_drop] at h_; exact h_
  have g1 : ((l).drop 8 : List Bytes).length = 8 := (by rw [List.length_drop, show (l).length = 16 from hl])
  refine tkk (i := 2) rfl rfl (fun _ _ => r_sliceLo (n := 16) (c := c) (lo := 8) (eh b0 rfl) (eh b0 rfl) qs_27 (by omega) v0.cap) ⟨_, c0⟩ <| tkk (i := 3) rfl rfl (fun _ _ => r_move (em b0 rfl rfl p0)) ⟨_, c0⟩ <| tkk (i := 4) rfl rfl (fun _ _ => r_move (eh b0 rfl)) ⟨_, c0⟩ <| tkk (i := 5) rfl rfl (fun _ _ => r_sub (eh b0 rfl) (eh b0 rfl) (by omega) (by omega)) ⟨_, c0⟩ <| tkk (i := 7) rfl rfl (fun _ _ => r_move (em b0 rfl rfl e0)) ⟨_, c0⟩ <| tkk (i := 8) rfl rfl (fun _ _ => r_move (eh b0 rfl)) ⟨_, c0⟩ ?_
  have s1 : Sl m (A) (8) (c) 32 (hcs ((l).take 8)) := by have h_ := v0.hi (hi := 8) (by omega); rw [hcs_take] at h_; exact h_
  have h1 : ((l).take 8 : List Bytes).length = 8 := (by rw [List.length_take, show (l).length = 16 from hl]; omega)
  refine tkk (i := 9) rfl rfl (fun _ _ => r_sliceHi (n := 16) (c := c) (hi := 8) (eh b0 rfl) (eh b0 rfl) qs_27 (by have h_ := v0.cap; omega)) ⟨_, c0⟩ <| ann (i := 6) (b := true) rfl rfl (k_cl (f69_3 h0.ag r1 g1 (by omega)) rfl fn_69 (map_cons (eh b0 rfl) (map_cons (eh b0 rfl) map_nil)) (fun b2 j2 k1 => ?_))
  obtain ⟨K1, y1, C1, rfl, l0, E0⟩ := k1
  have W1 := l0.size
  have O0 := c0.t0 l0
  have N1 := E0.nilc
  refine ⟨(tbT ⟨_, O0⟩), ?_⟩
  have t1 := (s1.up l0)
  refine ann (i := 10) (b := true) rfl rfl (k_cl (f67_3 l0.ag t1 h1) rfl fn_67 (map_cons (eh b0 rfl) map_nil) (fun d2 l2 l1 => ?_))
  obtain ⟨w1, rfl, m0⟩ := l1
  have X1 := m0.size
  have P0 := O0.t0 m0
  refine ⟨(tbT ⟨_, P0⟩), ?_⟩
  refine ann (i := 11) (b := true) rfl rfl (k_lit (e := 23) (L := hc (mr 3 ((l).take 8))) m0.ag (pm_cons (eh b0 rfl) pm_nil) (by kernel_rfl) (fun m2 A1 G0 n0 G1 => ?_))
  have Y1 := n0.size
  have Q0 := P0.t0 n0
  have I1 := G0.lt
  refine ⟨(tbT ⟨_, Q0⟩), ?_⟩
  have u1 := ((E0.f0 m0).f0 n0)
  have E1 : ((mp 3 ((l).drop 8) (i - 8)) ++ ([mr 3 ((l).take 8)]) : List Bytes).length = 4 := (len_app (mp_len _ _ _) rfl)
  refine ann (i := 12) (b := true) rfl rfl (k_append (base := r0.heap.size) (L := hcs (mp 3 ((l).drop 8) (i - 8))) (N := hcs ([mr 3 ((l).take 8)])) n0.ag (eh b0 rfl) (eh b0 rfl) qs_27 qz_23 u1 (by have h_ := (G0.bk.src (L := hc (mr 3 ((l).take 8))) (n := 1) (o := 0) (k := 32) (by kernel_rfl)); rw [← hcs_one] at h_; exact h_) (fun h => by cases h) (by rw [hcs_length, show ([mr 3 ((l).take 8)] : List Bytes).length = 1 from rfl]) (one_hcs _) (by omega) (by decide) (by rw [maxLen_eq]; omega) (by omega) (fun S0 U0 n2 A0 x0 => ?_))
  have P1 := x0.size
  have J0 := Q0.tg x0 (by omega)
  rw [← hcs_append] at A0
  have O1 := A0.nilc
  refine ⟨(tbT ⟨_, J0⟩), ?_⟩
  refine tkk (i := 13) rfl rfl (fun _ _ => r_assign (eh b0 rfl)) ⟨_, J0⟩ <| anyT_done (by kernel_rfl) ?_ _
  refine b1 <| wp_ret <| ret_of (res1 rfl _ _ (gh b0 rfl)) ((ov_defers _ _).trans B0) ?_
  exact ⟨w1, S0, U0, rfl, (((((cu0.t0 h0).t0 l0).t0 m0).t0 n0).tg x0 (by omega)), (by have h_ := A0; rw [show (mp 3 ((l).drop 8) (i - 8)) ++ ([mr 3 ((l).take 8)]) = mp 4 l i from (mp_hi (d := 3) (by omega))] at h_; exact h_.wk (by omega))⟩

theorem f97_0 {m : Ctx} {w : World} (ag : Ag m w) {A : Option Addr} {c i : Nat} {l : List Bytes} (hsl : Sl m A 1 c 32 (hcs l)) (hl : l.length = 1) (hi : i < 1) : Calls Tryz.prog 97 #[.slice A 1 c, nn i] w (Ret fun v w' => ∃ m' A' c', v = .slice A' 0 c' ∧ Fr no m w m' w' ∧ Own m' w' w.heap.size A' 0 c' 23 32 (hcs (mp 0 l i))) := by
 refine enter Tryz.func97 rfl (fun e0 hT i0 => ?_)
 have b0 : e0.tmps.size = 49 := by rw [hT]; kernel_rfl
 have g0 : e0.tmps.getD 0 undef = .slice A 1 c := by rw [hT]; kernel_rfl
 have h0 : e0.tmps.getD 1 undef = nn i := by rw [hT]; kernel_rfl
 clear hT
 have cu0 : Fr (no) m w m w := Fr.refl ag
 refine sk fun _ j0 => rn <| gv (r_assign (v := .slice none 0 0) rfl) <| nl <| j0 <| sk fun _ m0 => sk fun _ k0 => rn <| mw b0 h0 <| gv (r_lss (j := 0) (eh b0 rfl) rfl) <| mv b0 rfl ?_
 have c0 : (decide (i < 0)) = false := (decide_eq_false (by omega))
 refine sg (t := 8) rfl rfl b0 (eb b0 rfl c0) (kv (r_move (em b0 rfl rfl h0)) ?_)
 refine sg (t := 8) rfl rfl b0 (eb b0 rfl c0) (kv (r_move (em b0 rfl rfl g0)) ?_)
 refine sg (t := 8) rfl rfl b0 (eb b0 rfl c0) (kv (r_lenS (eh b0 rfl) rfl qu_27) ?_)
 refine sg (t := 8) rfl rfl b0 (eb b0 rfl c0) (kv (r_geq (eh b0 rfl) (eh b0 rfl)) ?_)
 refine gv (r_pick_f (eb b0 rfl c0) (eh b0 rfl)) <| mv b0 rfl ?_
 have d0 : (decide (1 ≤ i)) = false := (decide_eq_false (by omega))
 refine sg (t := 14) rfl rfl b0 (eb b0 rfl d0) (kv (r_move (em b0 rfl rfl g0)) ?_)
 refine sg (t := 14) rfl rfl b0 (eb b0 rfl d0) (kv (r_lenS (eh b0 rfl) rfl qu_27) ?_)
 refine sg (t := 14) rfl rfl b0 (eb b0 rfl d0) (kv (r_lss (j := 2) (eh b0 rfl) rfl) ?_)
 refine gv (r_pick_f (eb b0 rfl d0) (eh b0 rfl)) <| nl <| k0 <| cd b0 rfl <| sk fun _ l0 => rn <| gv (r_assign (v := .slice none 0 0) rfl) <| nl <| l0 <| wp_ret <| ret_of (res1 rfl _ _ (gh b0 rfl)) ((ov_defers _ _).trans i0) ?_
 exact ⟨m, none, 0, rfl, cu0, Own.nil _ _ _ _ _⟩

theorem f97_1 {m : Ctx} {w : World} (ag : Ag m w) {A : Option Addr} {c i : Nat} {l : List Bytes} (hsl : Sl m A 2 c 32 (hcs l)) (hl : l.length = 2) (hi : i < 2) : Calls Tryz.prog 97 #[.slice A 2 c, nn i] w (Ret fun v w' => ∃ m' A' c', v = .slice A' 1 c' ∧ Fr no m w m' w' ∧ Own m' w' w.heap.size A' 1 c' 23 32 (hcs (mp 1 l i))) := by
 refine enter Tryz.func97 rfl (fun w0 hT B0 => ?_)
 have b0 : w0.tmps.size = 49 := by rw [hT]; kernel_rfl
 have e0 : w0.tmps.getD 0 undef = .slice A 2 c := by rw [hT]; kernel_rfl
 have p0 : w0.tmps.getD 1 undef = nn i := by rw [hT]; kernel_rfl
 clear hT
 have cu0 : Fr (no) m w m w := Fr.refl ag
 refine sk fun _ V0 => rn <| gv (r_assign (v := .slice none 0 0) rfl) <| nl <| V0 <| sk fun _ Z0 => sk fun _ a1 => rn <| mw b0 p0 <| gv (r_lss (j := 0) (eh b0 rfl) rfl) <| mv b0 rfl ?_
 have o0 : (decide (i < 0)) = false := (decide_eq_false (by omega))
 refine sg (t := 8) rfl rfl b0 (eb b0 rfl o0) (kv (r_move (em b0 rfl rfl p0)) ?_)
 refine sg (t := 8) rfl rfl b0 (eb b0 rfl o0) (kv (r_move (em b0 rfl rfl e0)) ?_)
 refine sg (t := 8) rfl rfl b0 (eb b0 rfl o0) (kv (r_lenS (eh b0 rfl) rfl qu_27) ?_)
 refine sg (t := 8) rfl rfl b0 (eb b0 rfl o0) (kv (r_geq (eh b0 rfl) (eh b0 rfl)) ?_)
 refine gv (r_pick_f (eb b0 rfl o0) (eh b0 rfl)) <| mv b0 rfl ?_
 have s0 : (decide (2 ≤ i)) = false := (decide_eq_false (by omega))
 refine sg (t := 14) rfl rfl b0 (eb b0 rfl s0) (kv (r_move (em b0 rfl rfl e0)) ?_)
 refine sg (t := 14) rfl rfl b0 (eb b0 rfl s0) (kv (r_lenS (eh b0 rfl) rfl qu_27) ?_)
 refine sg (t := 14) rfl rfl b0 (eb b0 rfl s0) (kv (r_lss (j := 2) (eh b0 rfl) rfl) ?_)
 refine gv (r_pick_f (eb b0 rfl s0) (eh b0 rfl)) <| nl <| a1 <| ce b0 rfl <| ws <| Z0 <| sk fun _ c1 => rn <| mw b0 e0 <| gv (r_lenS (eh b0 rfl) rfl qu_27) <| gk (k_cl f88_2 rfl fn_88 (map_cons (eh b0 rfl) map_nil) (fun c2 k2 m1 => ?_))
 obtain ⟨rfl, rfl⟩ := m1
 refine ms b0 rfl <| nl <| c1 <| sk fun _ W0 => sk fun _ X0 => rn <| mw b0 p0 <| mv b0 rfl <| gv (r_lss (eh b0 rfl) (eh b0 rfl)) <| nl <| X0 ?_
 by_cases C0 : i < 1
 ·
  refine ct (eb b0 rfl (decide_eq_true C0)) <| sk fun _ Y0 => ?_
  have g0 : Fr no m w m { w with drawn := w.drawn + 1 } := Fr.drw ag
  obtain ⟨q0, H0⟩ : ∃ w_, w_ = ({ w with drawn := w.drawn + 1 } : World) := ⟨_, rfl⟩
  rw [← H0] at g0
  have Q1 := g0.size
  refine wp_region_T mixed (fun wz => ∃ mz, Fr (no) m q0 mz wz) (fun wz => ∃ mz, Fr (no) m q0 mz wz) 12 ?_
  rw [← H0]
  show wpAnyT _ _ _ _ _ 12 _ _ _
  have d0 : Fr (no) m q0 m q0 := Fr.refl g0.ag
  refine tkk (i := 0) rfl rfl (fun _ _ => r_move (em b0 rfl rfl e0)) ⟨_, d0⟩ <| tkk (i := 1) rfl rfl (fun _ _ => r_move (eh b0 rfl)) ⟨_, d0⟩ ?_
  have u0 := (hsl.up g0)
  have n1 : Sl m (A) (1) (c) 32 (hcs ((l).take 1)) := by have h_ := u0.hi (hi := 1) (by omega); rw [hcs_take] at h_; exact h_
  have d1 : ((l).take 1 : List Bytes).length = 1 := (by rw [List.length_take, show (l).length = 2 from hl]; omega)
  refine tkk (i := 2) rfl rfl (fun _ _ => r_sliceHi (n := 2) (c := c) (hi := 1) (eh b0 rfl) (eh b0 rfl) qs_27 (by have h_ := u0.cap; omega)) ⟨_, d0⟩ <| tkk (i := 3) rfl rfl (fun _ _ => r_move (em b0 rfl rfl p0)) ⟨_, d0⟩ <| tkk (i := 5) rfl rfl (fun _ _ => r_move (em b0 rfl rfl e0)) ⟨_, d0⟩ <| tkk (i := 6) rfl rfl (fun _ _ => r_move (eh b0 rfl)) ⟨_, d0⟩ ?_
  have o1 : Sl m (sA A c 1 32) (1) (c - 1) 32 (hcs ((l).drop 1)) := by have h_ := u0.lo (lo := 1) (by omega); rw [hcs_drop] at h_; exact h_
  have e1 : ((l).drop 1 : List Bytes).length = 1 := (by rw [List.length_drop, show (l).length = 2 from hl])
  refine tkk (i := 7) rfl rfl (fun _ _ => r_sliceLo (n := 2) (c := c) (lo := 1) (eh b0 rfl) (eh b0 rfl) qs_27 (by omega) u0.cap) ⟨_, d0⟩ <| ann (i := 4) (b := true) rfl rfl (k_cl (f97_0 g0.ag n1 d1 (by omega)) rfl fn_97 (map_cons (eh b0 rfl) (map_cons (eh b0 rfl) map_nil)) (fun Z1 e2 i1 => ?_))
  obtain ⟨J1, x1, B1, rfl, i0, D0⟩ := i1
  have R1 := i0.size
  have K0 := d0.t0 i0
  have L1 := D0.nilc
  refine ⟨(tbT ⟨_, K0⟩), ?_⟩
  have p1 := (o1.up i0)
  refine ann (i := 8) (b := true) rfl rfl (k_cl (f40_0 i0.ag p1 e1) rfl fn_40 (map_cons (eh b0 rfl) map_nil) (fun a2 g2 j1 => ?_))
  obtain ⟨v1, rfl, j0⟩ := j1
  have S1 := j0.size
  have L0 := K0.t0 j0
  refine ⟨(tbT ⟨_, L0⟩), ?_⟩
  refine ann (i := 9) (b := true) rfl rfl (k_lit (e := 23) (L := hc (mr 0 ((l).drop 1))) j0.ag (pm_cons (eh b0 rfl) pm_nil) (by kernel_rfl) (fun h2 z1 F0 k0 F1 => ?_))
  have T1 := k0.size
  have M0 := L0.t0 k0
  have H1 := F0.lt
  refine ⟨(tbT ⟨_, M0⟩), ?_⟩
  have q1 := ((D0.f0 j0).f0 k0)
  have D1 : ((mp 0 ((l).take 1) i) ++ ([mr 0 ((l).drop 1)]) : List Bytes).length = 1 := (len_app (mp_len _ _ _) rfl)
  refine ann (i := 10) (b := true) rfl rfl (k_append (base := q0.heap.size) (L := hcs (mp 0 ((l).take 1) i)) (N := hcs ([mr 0 ((l).drop 1)])) k0.ag (eh b0 rfl) (eh b0 rfl) qs_27 qz_23 q1 (by have h_ := (F0.bk.src (L := hc (mr 0 ((l).drop 1))) (n := 1) (o := 0) (k := 32) (by kernel_rfl)); rw [← hcs_one] at h_; exact h_) (fun h => by cases h) (by rw [hcs_length, show ([mr 0 ((l).drop 1)] : List Bytes).length = 1 from rfl]) (one_hcs _) (by omega) (by decide) (by rw [maxLen_eq]; omega) (by omega) (fun R0 T0 i2 z0 y0 => ?_))
  have U1 := y0.size
  have N0 := M0.tg y0 (by omega)
  rw [← hcs_append] at z0
  have M1 := z0.nilc
  refine ⟨(tbT ⟨_, N0⟩), ?_⟩
  refine tkk (i := 11) rfl rfl (fun _ _ => r_assign (eh b0 rfl)) ⟨_, N0⟩ <| anyT_done (by kernel_rfl) ?_ _
  refine Y0 <| wp_ret <| ret_of (res1 rfl _ _ (gh b0 rfl)) ((ov_defers _ _).trans B0) ?_
  exact ⟨v1, R0, T0, rfl, (((((cu0.t0 g0).t0 i0).t0 j0).t0 k0).tg y0 (by omega)), (by have h_ := z0; rw [show (mp 0 ((l).take 1) i) ++ ([mr 0 ((l).drop 1)]) = mp 1 l i from (mp_lo (d := 0) (by omega))] at h_; exact h_.wk (by omega))⟩
 ·
  refine cf (eb b0 rfl (decide_eq_false C0)) <| ws <| W0 <| sk fun _ b1 => ?_
  have h0 : Fr no m w m { w with drawn := w.drawn + 1 } := Fr.drw ag
  obtain ⟨r0, I0⟩ : ∃ w_, w_ = ({ w with drawn := w.drawn + 1 } : World) := ⟨_, rfl⟩
  rw [← I0] at h0
  have V1 := h0.size
  refine wp_region_T mixed (fun wz => ∃ mz, Fr (no) m r0 mz wz) (fun wz => ∃ mz, Fr (no) m r0 mz wz) 14 ?_
  rw [← I0]
  show wpAnyT _ _ _ _ _ 14 _ _ _
  have c0 : Fr (no) m r0 m r0 := Fr.refl h0.ag
  refine tkk (i := 0) rfl rfl (fun _ _ => r_move (em b0 rfl rfl e0)) ⟨_, c0⟩ <| tkk (i := 1) rfl rfl (fun _ _ => r_move (eh b0 rfl)) ⟨_, c0⟩ ?_
  have v0 := (hsl.up h0)
  have r1 : Sl m (sA A c 1 32) (1) (c - 1) 32 (hcs ((l).drop 1)) := by have h_ := v0.lo (lo := 1) (by omega); rw [hcs_drop] at h_; exact h_
  have g1 : ((l).drop 1 : List Bytes).length = 1 := (by rw [List.length_drop, show (l).length = 2 from hl])
  refine tkk (i := 2) rfl rfl (fun _ _ => r_sliceLo (n := 2) (c := c) (lo := 1) (eh b0 rfl) (eh b0 rfl) qs_27 (by omega) v0.cap) ⟨_, c0⟩ <| tkk (i := 3) rfl rfl (fun _ _ => r_move (em b0 rfl rfl p0)) ⟨_, c0⟩ <| tkk (i := 4) rfl rfl (fun _ _ => r_move (eh b0 rfl)) ⟨_, c0⟩ <| tkk (i := 5) rfl rfl (fun _ _ => r_sub (eh b0 rfl) (eh b0 rfl) (by omega) (by omega)) ⟨_, c0⟩ <| tkk (i := 7) rfl rfl (fun _ _ => r_move (em b0 rfl rfl e0)) ⟨_, c0⟩ <| tkk (i := 8) rfl rfl (fun _ _ => r_move (eh b0 rfl)) ⟨_, c0⟩ ?_
  have s1 : Sl m (A) (1) (c) 32 (hcs ((l).take 1)) := by have h_ := v0.hi (hi := 1) (by omega); rw [hcs_take] at h_; exact h_
  have h1 : ((l).take 1 : List Bytes).length = 1 := (by rw [List.length_take, show (l).length = 2 from hl]; omega)
  refine tkk (i := 9) rfl rfl (fun _ _ => r_sliceHi (n := 2) (c := c) (hi := 1) (eh b0 rfl) (eh b0 rfl) qs_27 (by have h_ := v0.cap; omega)) ⟨_, c0⟩ <| ann (i := 6) (b := true) rfl rfl (k_cl (f97_0 h0.ag r1 g1 (by omega)) rfl fn_97 (map_cons (eh b0 rfl) (map_cons (eh b0 rfl) map_nil)) (fun b2 j2 k1 => ?_))
  obtain ⟨K1, y1, C1, rfl, l0, E0⟩ := k1
  have W1 := l0.size
  have O0 := c0.t0 l0
  have N1 := E0.nilc
  refine ⟨(tbT ⟨_, O0⟩), ?_⟩
  have t1 := (s1.up l0)
  refine ann (i := 10) (b := true) rfl rfl (k_cl (f40_0 l0.ag t1 h1) rfl fn_40 (map_cons (eh b0 rfl) map_nil) (fun d2 l2 l1 => ?_))
  obtain ⟨w1, rfl, m0⟩ := l1
  have X1 := m0.size
  have P0 := O0.t0 m0
  refine ⟨(tbT ⟨_, P0⟩), ?_⟩
  refine ann (i := 11) (b := true) rfl rfl (k_lit (e := 23) (L := hc (mr 0 ((l).take 1))) m0.ag (pm_cons (eh b0 rfl) pm_nil) (by kernel_rfl) (fun m2 A1 G0 n0 G1 => ?_))
  have Y1 := n0.size
  have Q0 := P0.t0 n0
  have I1 := G0.lt
  refine ⟨(tbT ⟨_, Q0⟩), ?_⟩
  have u1 := ((E0.f0 m0).f0 n0)
  have E1 : ((mp 0 ((l).drop 1) (i - 1)) ++ ([mr 0 ((l).take 1)]) : List Bytes).length = 1 := (len_app (mp_len _ _ _) rfl)
  refine ann (i := 12) (b := true) rfl rfl (k_append (base := r0.heap.size) (L := hcs (mp 0 ((l).drop 1) (i - 1))) (N := hcs ([mr 0 ((l).take 1)])) n0.ag (eh b0 rfl) (eh b0 rfl) qs_27 qz_23 u1 (by have h_ := (G0.bk.src (L := hc (mr 0 ((l).take 1))) (n := 1) (o := 0) (k := 32) (by kernel_rfl)); rw [← hcs_one] at h_; exact h_) (fun h => by cases h) (by rw [hcs_length, show ([mr 0 ((l).take 1)] : List Bytes).length = 1 from rfl]) (one_hcs _) (by omega) (by decide) (by rw [maxLen_eq]; omega) (by omega) (fun S0 U0 n2 A0 x0 => ?_))
  have P1 := x0.size
  have J0 := Q0.tg x0 (by omega)
  rw [← hcs_append] at A0
  have O1 := A0.nilc
  refine ⟨(tbT ⟨_, J0⟩), ?_⟩
  refine tkk (i := 13) rfl rfl (fun _ _ => r_assign (eh b0 rfl)) ⟨_, J0⟩ <| anyT_done (by kernel_rfl) ?_ _
  refine b1 <| wp_ret <| ret_of (res1 rfl _ _ (gh b0 rfl)) ((ov_defers _ _).trans B0) ?_
  exact ⟨w1, S0, U0, rfl, (((((cu0.t0 h0).t0 l0).t0 m0).t0 n0).tg x0 (by omega)), (by have h_ := A0; rw [show (mp 0 ((l).drop 1) (i - 1)) ++ ([mr 0 ((l).take 1)]) = mp 1 l i from (mp_hi (d := 0) (by omega))] at h_; exact h_.wk (by omega))⟩

theorem f97_2 {m : Ctx} {w : World} (ag : Ag m w) {A : Option Addr} {c i : Nat} {l : List Bytes} (hsl : Sl m A 4 c 32 (hcs l)) (hl : l.length = 4) (hi : i < 4) : Calls Tryz.prog 97 #[.slice A 4 c, nn i] w (Ret fun v w' => ∃ m' A' c', v = .slice A' 2 c' ∧ Fr no m w m' w' ∧ Own m' w' w.heap.size A' 2 c' 23 32 (hcs (mp 2 l i))) := by
 refine enter Tryz.func97 rfl (fun w0 hT B0 => ?_)
 have b0 : w0.tmps.size = 49 := by rw [hT]; kernel_rfl
 have e0 : w0.tmps.getD 0 undef = .slice A 4 c := by rw [hT]; kernel_rfl
 have p0 : w0.tmps.getD 1 undef = nn i := by rw [hT]; kernel_rfl
 clear hT
 have cu0 : Fr (no) m w m w := Fr.refl ag
 refine sk fun _ V0 => rn <| gv (r_assign (v := .slice none 0 0) rfl) <| nl <| V0 <| sk fun _ Z0 => sk fun _ a1 => rn <| mw b0 p0 <| gv (r_lss (j := 0) (eh b0 rfl) rfl) <| mv b0 rfl ?_
 have o0 : (decide (i < 0)) = false := (decide_eq_false (by omega))
 refine sg (t := 8) rfl rfl b0 (eb b0 rfl o0) (kv (r_move (em b0 rfl rfl p0)) ?_)
 refine sg (t := 8) rfl rfl b0 (eb b0 rfl o0) (kv (r_move (em b0 rfl rfl e0)) ?_)
 refine sg (t := 8) rfl rfl b0 (eb b0 rfl o0) (kv (r_lenS (eh b0 rfl) rfl qu_27) ?_)
 refine sg (t := 8) rfl rfl b0 (eb b0 rfl o0) (kv (r_geq (eh b0 rfl) (eh b0 rfl)) ?_)
 refine gv (r_pick_f (eb b0 rfl o0) (eh b0 rfl)) <| mv b0 rfl ?_
 have s0 : (decide (4 ≤ i)) = false := (decide_eq_false (by omega))
 refine sg (t := 14) rfl rfl b0 (eb b0 rfl s0) (kv (r_move (em b0 rfl rfl e0)) ?_)
 refine sg (t := 14) rfl rfl b0 (eb b0 rfl s0) (kv (r_lenS (eh b0 rfl) rfl qu_27) ?_)
 refine sg (t := 14) rfl rfl b0 (eb b0 rfl s0) (kv (r_lss (j := 2) (eh b0 rfl) rfl) ?_)
 refine gv (r_pick_f (eb b0 rfl s0) (eh b0 rfl)) <| nl <| a1 <| ce b0 rfl <| ws <| Z0 <| sk fun _ c1 => rn <| mw b0 e0 <| gv (r_lenS (eh b0 rfl) rfl qu_27) <| gk (k_cl f88_4 rfl fn_88 (map_cons (eh b0 rfl) map_nil) (fun c2 k2 m1 => ?_))
 obtain ⟨rfl, rfl⟩ := m1
 refine ms b0 rfl <| nl <| c1 <| sk fun _ W0 => sk fun _ X0 => rn <| mw b0 p0 <| mv b0 rfl <| gv (r_lss (eh b0 rfl) (eh b0 rfl)) <| nl <| X0 ?_
 by_cases C0 : i < 2
 ·
  refine ct (eb b0 rfl (decide_eq_true C0)) <| sk fun _ Y0 => ?_
  have g0 : Fr no m w m { w with drawn := w.drawn + 1 } := Fr.drw ag
  obtain ⟨q0, H0⟩ : ∃ w_, w_ = ({ w with drawn := w.drawn + 1 } : World) := ⟨_, rfl⟩
  rw [← H0] at g0
  have Q1 := g0.size
  refine wp_region_T mixed (fun wz => ∃ mz, Fr (no) m q0 mz wz) (fun wz => ∃ mz, Fr (no) m q0 mz wz) 12 ?_
  rw [← H0]
  show wpAnyT _ _ _ _ _ 12 _ _ _
  have d0 : Fr (no) m q0 m q0 := Fr.refl g0.ag
  refine tkk (i := 0) rfl rfl (fun _ _ => r_move (em b0 rfl rfl e0)) ⟨_, d0⟩ <| tkk (i := 1) rfl rfl (fun _ _ => r_move (eh b0 rfl)) ⟨_, d0⟩ ?_
  have u0 := (hsl.up g0)
  have n1 : Sl m (A) (2) (c) 32 (hcs ((l).take 2)) := by have h_ := u0.hi (hi := 2) (by omega); rw [hcs_take] at h_; exact h_
  have d1 : ((l).take 2 : List Bytes).length = 2 := (by rw [List.length_take, show (l).length = 4 from hl]; omega)
  refine tkk (i := 2) rfl rfl (fun _ _ => r_sliceHi (n := 4) (c := c) (hi := 2) (eh b0 rfl) (eh b0 rfl) qs_27 (by have h_ := u0.cap; omega)) ⟨_, d0⟩ <| tkk (i := 3) rfl rfl (fun _ _ => r_move (em b0 rfl rfl p0)) ⟨_, d0⟩ <| tkk (i := 5) rfl rfl (fun _ _ => r_move (em b0 rfl rfl e0)) ⟨_, d0⟩ <| tkk (i := 6) rfl rfl (fun _ _ => r_move (eh b0 rfl)) ⟨_, d0⟩ ?_
  have o1 : Sl m (sA A c 2 32) (2) (c - 2) 32 (hcs ((l).drop 2)) := by have h_ := u0.lo (lo := 2) (by omega); rw [hcs_drop] at h_; exact h_
  have e1 : ((l).drop 2 : List Bytes).length = 2 := (by rw [List.length_drop, show (l).length = 4 from hl])
  refine tkk (i := 7) rfl rfl (fun _ _ => r_sliceLo (n := 4) (c := c) (lo := 2) (eh b0 rfl) (eh b0 rfl) qs_27 (by omega) u0.cap) ⟨_, d0⟩ <| ann (i := 4) (b := true) rfl rfl (k_cl (f97_1 g0.ag n1 d1 (by omega)) rfl fn_97 (map_cons (eh b0 rfl) (map_cons (eh b0 rfl) map_nil)) (fun Z1 e2 i1 => ?_))
  obtain ⟨J1, x1, B1, rfl, i0, D0⟩ := i1
  have R1 := i0.size
  have K0 := d0.t0 i0
  have L1 := D0.nilc
  refine ⟨(tbT ⟨_, K0⟩), ?_⟩
  have p1 := (o1.up i0)
  refine ann (i := 8) (b := true) rfl rfl (k_cl (f40_1 i0.ag p1 e1) rfl fn_40 (map_cons (eh b0 rfl) map_nil) (fun a2 g2 j1 => ?_))
  obtain ⟨v1, rfl, j0⟩ := j1
  have S1 := j0.size
  have L0 := K0.t0 j0
  refine ⟨(tbT ⟨_, L0⟩), ?_⟩
  refine ann (i := 9) (b := true) rfl rfl (k_lit (e := 23) (L := hc (mr 1 ((l).drop 2))) j0.ag (pm_cons (eh b0 rfl) pm_nil) (by kernel_rfl) (fun h2 z1 F0 k0 F1 => ?_))
  have T1 := k0.size
  have M0 := L0.t0 k0
  have H1 := F0.lt
  refine ⟨(tbT ⟨_, M0⟩), ?_⟩
  have q1 := ((D0.f0 j0).f0 k0)
  have D1 : ((mp 1 ((l).take 2) i) ++ ([mr 1 ((l).drop 2)]) : List Bytes).length = 2 := (len_app (mp_len _ _ _) rfl)
  refine ann (i := 10) (b := true) rfl rfl (k_append (base := q0.heap.size) (L := hcs (mp 1 ((l).take 2) i)) (N := hcs ([mr 1 ((l).drop 2)])) k0.ag (eh b0 rfl) (eh b0 rfl) qs_27 qz_23 q1 (by have h_ := (F0.bk.src (L := hc (mr 1 ((l).drop 2))) (n := 1) (o := 0) (k := 32) (by kernel_rfl)); rw [← hcs_one] at h_; exact h_) (fun h => by cases h) (by rw [hcs_length, show ([mr 1 ((l).drop 2)] : List Bytes).length = 1 from rfl]) (one_hcs _) (by omega) (by decide) (by rw [maxLen_eq]; omega) (by omega) (fun R0 T0 i2 z0 y0 => ?_))
  have U1 := y0.size
  have N0 := M0.tg y0 (by omega)
  rw [← hcs_append] at z0
  have M1 := z0.nilc
  refine ⟨(tbT ⟨_, N0⟩), ?_⟩
  refine tkk (i := 11) rfl rfl (fun _ _ => r_assign (eh b0 rfl)) ⟨_, N0⟩ <| anyT_done (by kernel_rfl) ?_ _
  refine Y0 <| wp_ret <| ret_of (res1 rfl _ _ (gh b0 rfl)) ((ov_defers _ _).trans B0) ?_
  exact ⟨v1, R0, T0, rfl, (((((cu0.t0 g0).t0 i0).t0 j0).t0 k0).tg y0 (by omega)), (by have h_ := z0; rw [show (mp 1 ((l).take 2) i) ++ ([mr 1 ((l).drop 2)]) = mp 2 l i from (mp_lo (d := 1) (by omega))] at h_; exact h_.wk (by omega))⟩
 ·
  refine cf (eb b0 rfl (decide_eq_false C0)) <| ws <| W0 <| sk fun _ b1 => ?_
  have h0 : Fr no m w m { w with drawn := w.drawn + 1 } := Fr.drw ag
  obtain ⟨r0, I0⟩ : ∃ w_, w_ = ({ w with drawn := w.drawn + 1 } : World) := ⟨_, rfl⟩
  rw [← I0] at h0
  have V1 := h0.size
  refine wp_region_T mixed (fun wz => ∃ mz, Fr (no) m r0 mz wz) (fun wz => ∃ mz, Fr (no) m r0 mz wz) 14 ?_
  rw [← I0]
  show wpAnyT _ _ _ _ _ 14 _ _ _
  have c0 : Fr (no) m r0 m r0 := Fr.refl h0.ag
  refine tkk (i := 0) rfl rfl (fun _ _ => r_move (em b0 rfl rfl e0)) ⟨_, c0⟩ <| tkk (i := 1) rfl rfl (fun _ _ => r_move (eh b0 rfl)) ⟨_, c0⟩ ?_
  have v0 := (hsl.up h0)
  have r1 : Sl m (sA A c 2 32) (2) (c - 2) 32 (hcs ((l).drop 2)) := by have h_ := v0.lo (lo := 2) (by omega); rw [hcs_drop] at h_; exact h_
  have g1 : ((l).drop 2 : List Bytes).length = 2 := (by rw [List.length_drop, show (l).length = 4 from hl])
  refine tkk (i := 2) rfl rfl (fun _ _ => r_sliceLo (n := 4) (c := c) (lo := 2) (eh b0 rfl) (eh b0 rfl) qs_27 (by omega) v0.cap) ⟨_, c0⟩ <| tkk (i := 3) rfl rfl (fun _ _ => r_move (em b0 rfl rfl p0)) ⟨_, c0⟩ <| tkk (i := 4) rfl rfl (fun _ _ => r_move (eh b0 rfl)) ⟨_, c0⟩ <| tkk (i := 5) rfl rfl (fun _ _ => r_sub (eh b0 rfl) (eh b0 rfl) (by omega) (by omega)) ⟨_, c0⟩ <| tkk (i := 7) rfl rfl (fun _ _ => r_move (em b0 rfl rfl e0)) ⟨_, c0⟩ <| tkk (i := 8) rfl rfl (fun _ _ => r_move (eh b0 rfl)) ⟨_, c0⟩ ?_
  have s1 : Sl m (A) (2) (c) 32 (hcs ((l).take 2)) := by have h_ := v0.hi (hi := 2) (by omega); rw [hcs_take] at h_; exact h_
  have h1 : ((l).take 2 : List Bytes).length = 2 := (by rw [List.length_take, show (l).length = 4 from hl]; omega)
  refine tkk (i := 9) rfl rfl (fun _ _ => r_sliceHi (n := 4) (c := c) (hi := 2) (eh b0 rfl) (eh b0 rfl) qs_27 (by have h_ := v0.cap; omega)) ⟨_, c0⟩ <| ann (i := 6) (b := true) rfl rfl (k_cl (f97_1 h0.ag r1 g1 (by omega)) rfl fn_97 (map_cons (eh b0 rfl) (map_cons (eh b0 rfl) map_nil)) (fun b2 j2 k1 => ?_))
  obtain ⟨K1, y1, C1, rfl, l0, E0⟩ := k1
  have W1 := l0.size
  have O0 := c0.t0 l0
  have N1 := E0.nilc
  refine ⟨(tbT ⟨_, O0⟩), ?_⟩
  have t1 := (s1.up l0)
  refine ann (i := 10) (b := true) rfl rfl (k_cl (f40_1 l0.ag t1 h1) rfl fn_40 (map_cons (eh b0 rfl) map_nil) (fun d2 l2 l1 => ?_))
  obtain ⟨w1, rfl, m0⟩ := l1
  have X1 := m0.size
  have P0 := O0.t0 m0
  refine ⟨(tbT ⟨_, P0⟩), ?_⟩
  refine ann (i := 11) (b := true) rfl rfl (k_lit (e := 23) (L := hc (mr 1 ((l).take 2))) m0.ag (pm_cons (eh b0 rfl) pm_nil) (by kernel_rfl) (fun m2 A1 G0 n0 G1 => ?_))
  have Y1 := n0.size
  have Q0 := P0.t0 n0
  have I1 := G0.lt
  refine ⟨(tbT ⟨_, Q0⟩), ?_⟩
  have u1 := ((E0.f0 m0).f0 n0)
  have E1 : ((mp 1 ((l).drop 2) (i - 2)) ++ ([mr 1 ((l).take 2)]) : List Bytes).length = 2 := (len_app (mp_len _ _ _) rfl)
  refine ann (i := 12) (b := true) rfl rfl (k_append (base := r0.heap.size) (L := hcs (mp 1 ((l).drop 2) (i - 2))) (N := hcs ([mr 1 ((l).take 2)])) n0.ag (eh b0 rfl) (eh b0 rfl) qs_27 qz_23 u1 (by have h_ := (G0.bk.src (L := hc (mr 1 ((l).take 2))) (n := 1) (o := 0) (k := 32) (by kernel_rfl)); rw [← hcs_one] at h_; exact h_) (fun h => by cases h) (by rw [hcs_length, show ([mr 1 ((l).take 2)] : List Bytes).length = 1 from rfl]) (one_hcs _) (by omega) (by decide) (by rw [maxLen_eq]; omega) (by omega) (fun S0 U0 n2 A0 x0 => ?_))
  have P1 := x0.size
  have J0 := Q0.tg x0 (by omega)
  rw [← hcs_append] at A0
  have O1 := A0.nilc
  refine ⟨(tbT ⟨_, J0⟩), ?_⟩
  refine tkk (i := 13) rfl rfl (fun _ _ => r_assign (eh b0 rfl)) ⟨_, J0⟩ <| anyT_done (by kernel_rfl) ?_ _
  refine b1 <| wp_ret <| ret_of (res1 rfl _ _ (gh b0 rfl)) ((ov_defers _ _).trans B0) ?_
  exact ⟨w1, S0, U0, rfl, (((((cu0.t0 h0).t0 l0).t0 m0).t0 n0).tg x0 (by omega)), (by have h_ := A0; rw [show (mp 1 ((l).drop 2) (i - 2)) ++ ([mr 1 ((l).take 2)]) = mp 2 l i from (mp_hi (d := 1) (by omega))] at h_; exact h_.wk (by omega))⟩

theorem f97_3 {m : Ctx} {w : World} (ag : Ag m w) {A : Option Addr} {c i : Nat} {l : List Bytes} (hsl : Sl m A 8 c 32 (hcs l)) (hl : l.length = 8) (hi : i < 8) : Calls Tryz.prog 97 #[.slice A 8 c, nn i] w (Ret fun v w' => ∃ m' A' c', v = .slice A' 3 c' ∧ Fr no m w m' w' ∧ Own m' w' w.heap.size A' 3 c' 23 32 (hcs (mp 3 l i))) := by
 refine enter Tryz.func97 rfl (fun w0 hT B0 => ?_)
 have b0 : w0.tmps.size = 49 := by rw [hT]; kernel_rfl
 have e0 : w0.tmps.getD 0 undef = .slice A 8 c := by rw [hT]; kernel_rfl
 have p0 : w0.tmps.getD 1 undef = nn i := by rw [hT]; kernel_rfl
 clear hT
 have cu0 : Fr (no) m w m w := Fr.refl ag
 refine sk fun _ V0 => rn <| gv (r_assign (v := .slice none 0 0) rfl) <| nl <| V0 <| sk fun _ Z0 => sk fun _ a1 => rn <| mw b0 p0 <| gv (r_lss (j := 0) (eh b0 rfl) rfl) <| mv b0 rfl ?_
 have o0 : (decide (i < 0)) = false := (decide_eq_false (by omega))
 refine sg (t := 8) rfl rfl b0 (eb b0 rfl o0) (kv (r_move (em b0 rfl rfl p0)) ?_)
 refine sg (t := 8) rfl rfl b0 (eb b0 rfl o0) (kv (r_move (em b0 rfl rfl e0)) ?_)
 refine sg (t := 8) rfl rfl b0 (eb b0 rfl o0) (kv (r_lenS (eh b0 rfl) rfl qu_27) ?_)
 refine sg (t := 8) rfl rfl b0 (eb b0 rfl o0) (kv (r_geq (eh b0 rfl) (eh b0 rfl)) ?_)
 refine gv (r_pick_f (eb b0 rfl o0) (eh b0 rfl)) <| mv b0 rfl ?_
 have s0 : (decide (8 ≤ i)) = false := (decide_eq_false (by omega))
 refine sg (t := 14) rfl rfl b0 (eb b0 rfl s0) (kv (r_move (em b0 rfl rfl e0)) ?_)
 refine sg (t := 14) rfl rfl b0 (eb b0 rfl s0) (kv (r_lenS (eh b0 rfl) rfl qu_27) ?_)
 refine sg (t := 14) rfl rfl b0 (eb b0 rfl s0) (kv (r_lss (j := 2) (eh b0 rfl) rfl) ?_)
 refine gv (r_pick_f (eb b0 rfl s0) (eh b0 rfl)) <| nl <| a1 <| ce b0 rfl <| ws <| Z0 <| sk fun _ c1 => rn <| mw b0 e0 <| gv (r_lenS (eh b0 rfl) rfl qu_27) <| gk (k_cl f88_8 rfl fn_88 (map_cons (eh b0 rfl) map_nil) (fun c2 k2 m1 => ?_))
 obtain ⟨rfl, rfl⟩ := m1
 refine ms b0 rfl <| nl <| c1 <| sk fun _ W0 => sk fun _ X0 => rn <| mw b0 p0 <| mv b0 rfl <| gv (r_lss (eh b0 rfl) (eh b0 rfl)) <| nl <| X0 ?_
 by_cases C0 : i < 4
 ·
  refine ct (eb b0 rfl (decide_eq_true C0)) <| sk fun _ Y0 => ?_
  have g0 : Fr no m w m { w with drawn := w.drawn + 1 } := Fr.drw ag
  obtain ⟨q0, H0⟩ : ∃ w_, w_ = ({ w with drawn := w.drawn + 1 } : World) := ⟨_, rfl⟩
  rw [← H0] at g0
  have Q1 := g0.size
  refine wp_region_T mixed (fun wz => ∃ mz, Fr (no) m q0 mz wz) (fun wz => ∃ mz, Fr (no) m q0 mz wz) 12 ?_
  rw [← H0]
  show wpAnyT _ _ _ _ _ 12 _ _ _
  have d0 : Fr (no) m q0 m q0 := Fr.refl g0.ag
  refine tkk (i := 0) rfl rfl (fun _ _ => r_move (em b0 rfl rfl e0)) ⟨_, d0⟩ <| tkk (i := 1) rfl rfl (fun _ _ => r_move (eh b0 rfl)) ⟨_, d0⟩ ?_
  have u0 := (hsl.up g0)
  have n1 : Sl m (A) (4) (c) 32 (hcs ((l).take 4)) := by have h_ := u0.hi (hi := 4) (by omega); rw [hcs_take] at h_; exact h_
  have d1 : ((l).take 4 : List Bytes).length = 4 := (by rw [List.length_take, show (l).length = 8 from hl]; omega)
  refine tkk (i := 2) rfl rfl (fun _ _ => r_sliceHi (n := 8) (c := c) (hi := 4) (eh b0 rfl) (eh b0 rfl) qs_27 (by have h_ := u0.cap; omega)) ⟨_, d0⟩ <| tkk (i := 3) rfl rfl (fun _ _ => r_move (em b0 rfl rfl p0)) ⟨_, d0⟩ <| tkk (i := 5) rfl rfl (fun _ _ => r_move (em b0 rfl rfl e0)) ⟨_, d0⟩ <| tkk (i := 6) rfl rfl (fun _ _ => r_move (eh b0 rfl)) ⟨_, d0⟩ ?_
  have o1 : Sl m (sA A c 4 32) (4) (c - 4) 32 (hcs ((l).drop 4)) := by have h_ := u0.lo (lo := 4) (by omega); rw [hcs_drop] at h_; exact h_
  have e1 : ((l).drop 4 : List Bytes).length = 4 := (by rw [List.length_drop, show (l).length = 8 from hl])
  refine tkk (i := 7) rfl rfl (fun _ _ => r_sliceLo (n := 8) (c := c) (lo := 4) (eh b0 rfl) (eh b0 rfl) qs_27 (by omega) u0.cap) ⟨_, d0⟩ <| ann (i := 4) (b := true) rfl rfl (k_cl (f97_2 g0.ag n1 d1 (by omega)) rfl fn_97 (map_cons (eh b0 rfl) (map_cons (eh b0 rfl) map_nil)) (fun Z1 e2 i1 => ?_))
  obtain ⟨J1, x1, B1, rfl, i0, D0⟩ := i1
  have R1 := i0.size
  have K0 := d0.t0 i0
  have L1 := D0.nilc
  refine ⟨(tbT ⟨_, K0⟩), ?_⟩
  have p1 := (o1.up i0)
  refine ann (i := 8) (b := true) rfl rfl (k_cl (f40_2 i0.ag p1 e1) rfl fn_40 (map_cons (eh b0 rfl) map_nil) (fun a2 g2 j1 => ?_))
  obtain ⟨v1, rfl, j0⟩ := j1
  have S1 := j0.size
  have L0 := K0.t0 j0
  refine ⟨(tbT ⟨_, L0⟩), ?_⟩
  refine ann (i := 9) (b := true) rfl rfl (k_lit (e := 23) (L := hc (mr 2 ((l).drop 4))) j0.ag (pm_cons (eh b0 rfl) pm_nil) (by kernel_rfl) (fun h2 z1 F0 k0 F1 => ?_))
  have T1 := k0.size
  have M0 := L0.t0 k0
  have H1 := F0.lt
  refine ⟨(tbT ⟨_, M0⟩), ?_⟩
  have q1 := ((D0.f0 j0).f0 k0)
  have D1 : ((mp 2 ((l).take 4) i) ++ ([mr 2 ((l).drop 4)]) : List Bytes).length = 3 := (len_app (mp_len _ _ _) rfl)
  refine ann (i := 10) (b := true) rfl rfl (k_append (base := q0.heap.size) (L := hcs (mp 2 ((l).take 4) i)) (N := hcs ([mr 2 ((l).drop 4)])) k0.ag (eh b0 rfl) (eh b0 rfl) qs_27 qz_23 q1 (by have h_ := (F0.bk.src (L := hc (mr 2 ((l).drop 4))) (n := 1) (o := 0) (k := 32) (by kernel_rfl)); rw [← hcs_one] at h_; exact h_) (fun h => by cases h) (by rw [hcs_length, show ([mr 2 ((l).drop 4)] : List Bytes).length = 1 from rfl]) (one_hcs _) (by omega) (by decide) (by rw [maxLen_eq]; omega) (by omega) (fun R0 T0 i2 z0 y0 => ?_))
  have U1 := y0.size
  have N0 := M0.tg y0 (by omega)
  rw [← hcs_append] at z0
  have M1 := z0.nilc
  refine ⟨(tbT ⟨_, N0⟩), ?_⟩
  refine tkk (i := 11) rfl rfl (fun _ _ => r_assign (eh b0 rfl)) ⟨_, N0⟩ <| anyT_done (by kernel_rfl) ?_ _
  refine Y0 <| wp_ret <| ret_of (res1 rfl _ _ (gh b0 rfl)) ((ov_defers _ _).trans B0) ?_
  exact ⟨v1, R0, T0, rfl, (((((cu0.t0 g0).t0 i0).t0 j0).t0 k0).tg y0 (by omega)), (by have h_ := z0; rw [show (mp 2 ((l).take 4) i) ++ ([mr 2 ((l).drop 4)]) = mp 3 l i from (mp_lo (d := 2) (by omega))] at h_; exact h_.wk (by omega))⟩
 ·
  refine cf (eb b0 rfl (decide_eq_false C0)) <| ws <| W0 <| sk fun _ b1 => ?_
  have h0 : Fr no m w m { w with drawn := w.drawn + 1 } := Fr.drw ag
  obtain ⟨r0, I0⟩ : ∃ w_, w_ = ({ w with drawn := w.drawn + 1 } : World) := ⟨_, rfl⟩
  rw [← I0] at h0
  have V1 := h0.size
  refine wp_region_T mixed (fun wz => ∃ mz, Fr (no) m r0 mz wz) (fun wz => ∃ mz, Fr (no) m r0 mz wz) 14 ?_
  rw [← I0]
  show wpAnyT _ _ _ _ _ 14 _ _ _
  have c0 : Fr (no) m r0 m r0 := Fr.refl h0.ag
  refine tkk (i := 0) rfl rfl (fun _ _ => r_move (em b0 rfl rfl e0)) ⟨_, c0⟩ <| tkk (i := 1) rfl rfl (fun _ _ => r_move (eh b0 rfl)) ⟨_, c0⟩ ?_
  have v0 := (hsl.up h0)
  have r1 : Sl m (sA A c 4 32) (4) (c - 4) 32 (hcs ((l).drop 4)) := by have h_ := v0.lo (lo := 4) (by omega); rw [hcs_drop] at h_; exact h_
  have g1 : ((l).drop 4 : List Bytes).length = 4 := (by rw [List.length_drop, show (l).length = 8 from hl])
  refine tkk (i := 2) rfl rfl (fun _ _ => r_sliceLo (n := 8) (c := c) (lo := 4) (eh b0 rfl) (eh b0 rfl) qs_27 (by omega) v0.cap) ⟨_, c0⟩ <| tkk (i := 3) rfl rfl (fun _ _ => r_move (em b0 rfl rfl p0)) ⟨_, c0⟩ <| tkk (i := 4) rfl rfl (fun _ _ => r_move (eh b0 rfl)) ⟨_, c0⟩ <| tkk (i := 5) rfl rfl (fun _ _ => r_sub (eh b0 rfl) (eh b0 rfl) (by omega) (by omega)) ⟨_, c0⟩ <| tkk (i := 7) rfl rfl (fun _ _ => r_move (em b0 rfl rfl e0)) ⟨_, c0⟩ <| tkk (i := 8) rfl rfl (fun _ _ => r_move (eh b0 rfl)) ⟨_, c0⟩ ?_
  have s1 : Sl m (A) (4) (c) 32 (hcs ((l).take 4)) := by have h_ := v0.hi (hi := 4) (by omega); rw [hcs_take] at h_; exact h_
  have h1 : ((l).take 4 : List Bytes).length = 4 := (by rw [List.length_take, show (l).length = 8 from hl]; omega)
  refine tkk (i := 9) rfl rfl (fun _ _ => r_sliceHi (n := 8) (c := c) (hi := 4) (eh b0 rfl) (eh b0 rfl) qs_27 (by have h_ := v0.cap; omega)) ⟨_, c0⟩ <| ann (i := 6) (b := true) rfl rfl (k_cl (f97_2 h0.ag r1 g1 (by omega)) rfl fn_97 (map_cons (eh b0 rfl) (map_cons (eh b0 rfl) map_nil)) (fun b2 j2 k1 => ?_))
  obtain ⟨K1, y1, C1, rfl, l0, E0⟩ := k1
  have W1 := l0.size
  have O0 := c0.t0 l0
  have N1 := E0.nilc
  refine ⟨(tbT ⟨_, O0⟩), ?_⟩
  have t1 := (s1.up l0)
  refine ann (i := 10) (b := true) rfl rfl (k_cl (f40_2 l0.ag t1 h1) rfl fn_40 (map_cons (eh b0 rfl) map_nil) (fun d2 l2 l1 => ?_))
  obtain ⟨w1, rfl, m0⟩ := l1
  have X1 := m0.size
  have P0 := O0.t0 m0
  refine ⟨(tbT ⟨_, P0⟩), ?_⟩
  refine ann (i := 11) (b := true) rfl rfl (k_lit (e := 23) (L := hc (mr 2 ((l).take 4))) m0.ag (pm_cons (eh b0 rfl) pm_nil) (by kernel_rfl) (fun m2 A1 G0 n0 G1 => ?_))
  have Y1 := n0.size
  have Q0 := P0.t0 n0
  have I1 := G0.lt
  refine ⟨(tbT ⟨_, Q0⟩), ?_⟩
  have u1 := ((E0.f0 m0).f0 n0)
  have E1 : ((mp 2 ((l).drop 4) (i - 4)) ++ ([mr 2 ((l).take 4)]) : List Bytes).length = 3 := (len_app (mp_len _ _ _) rfl)
  refine ann (i := 12) (b := true) rfl rfl (k_append (base := r0.heap.size) (L := hcs (mp 2 ((l).drop 4) (i - 4))) (N := hcs ([mr 2 ((l).take 4)])) n0.ag (eh b0 rfl) (eh b0 rfl) qs_27 qz_23 u1 (by have h_ := (G0.bk.src (L := hc (mr 2 ((l).take 4))) (n := 1) (o := 0) (k := 32) (by kernel_rfl)); rw [← hcs_one] at h_; exact h_) (fun h => by cases h) (by rw [hcs_length, show ([mr 2 ((l).take 4)] : List Bytes).length = 1 from rfl]) (one_hcs _) (by omega) (by decide) (by rw [maxLen_eq]; omega) (by omega) (fun S0 U0 n2 A0 x0 => ?_))
  have P1 := x0.size
  have J0 := Q0.tg x0 (by omega)
  rw [← hcs_append] at A0
  have O1 := A0.nilc
  refine ⟨(tbT ⟨_, J0⟩), ?_⟩
  refine tkk (i := 13) rfl rfl (fun _ _ => r_assign (eh b0 rfl)) ⟨_, J0⟩ <| anyT_done (by kernel_rfl) ?_ _
  refine b1 <| wp_ret <| ret_of (res1 rfl _ _ (gh b0 rfl)) ((ov_defers _ _).trans B0) ?_
  exact ⟨w1, S0, U0, rfl, (((((cu0.t0 h0).t0 l0).t0 m0).t0 n0).tg x0 (by omega)), (by have h_ := A0; rw [show (mp 2 ((l).drop 4) (i - 4)) ++ ([mr 2 ((l).take 4)]) = mp 3 l i from (mp_hi (d := 2) (by omega))] at h_; exact h_.wk (by omega))⟩

theorem f97_4 {m : Ctx} {w : World} (ag : Ag m w) {A : Option Addr} {c i : Nat} {l : List Bytes} (hsl : Sl m A 16 c 32 (hcs l)) (hl : l.length = 16) (hi : i < 16) : Calls Tryz.prog 97 #[.slice A 16 c, nn i] w (Ret fun v w' => ∃ m' A' c', v = .slice A' 4 c' ∧ Fr no m w m' w' ∧ Own m' w' w.heap.size A' 4 c' 23 32 (hcs (mp 4 l i))) := by
 refine enter Tryz.func97 rfl (fun w0 hT B0 => ?_)
 have b0 : w0.tmps.size = 49 := by rw [hT]; kernel_rfl
 have e0 : w0.tmps.getD 0 undef = .slice A 16 c := by rw [hT]; kernel_rfl
 have p0 : w0.tmps.getD 1 undef = nn i := by rw [hT]; kernel_rfl
 clear hT
 have cu0 : Fr (no) m w m w := Fr.refl ag
 refine sk fun _ V0 => rn <| gv (r_assign (v := .slice none 0 0) rfl) <| nl <| V0 <| sk fun _ Z0 => sk fun _ a1 => rn <| mw b0 p0 <| gv (r_lss (j := 0) (eh b0 rfl) rfl) <| mv b0 rfl ?_
 have o0 : (decide (i < 0)) = false := (decide_eq_false (by omega))
 refine sg (t := 8) rfl rfl b0 (eb b0 rfl o0) (kv (r_move (em b0 rfl rfl p0)) ?_)
 refine sg (t := 8) rfl rfl b0 (eb b0 rfl o0) (kv (r_move (em b0 rfl rfl e0)) ?_)
 refine sg (t := 8) rfl rfl b0 (eb b0 rfl o0) (kv (r_lenS (eh b0 rfl) rfl qu_27) ?_)
 refine sg (t := 8) rfl rfl b0 (eb b0 rfl o0) (kv (r_geq (eh b0 rfl) (eh b0 rfl)) ?_)
 refine gv (r_pick_f (eb b0 rfl o0) (eh b0 rfl)) <| mv b0 rfl ?_
 have s0 : (decide (16 ≤ i)) = false := (decide_eq_false (by omega))
 refine sg (t := 14) rfl rfl b0 (eb b0 rfl s0) (kv (r_move (em b0 rfl rfl e0)) ?_)
 refine sg (t := 14) rfl rfl b0 (eb b0 rfl s0) (kv (r_lenS (eh b0 rfl) rfl qu_27) ?_)
 refine sg (t := 14) rfl rfl b0 (eb b0 rfl s0) (kv (r_lss (j := 2) (eh b0 rfl) rfl) ?_)
 refine gv (r_pick_f (eb b0 rfl s0) (eh b0 rfl)) <| nl <| a1 <| ce b0 rfl <| ws <| Z0 <| sk fun _ c1 => rn <| mw b0 e0 <| gv (r_lenS (eh b0 rfl) rfl qu_27) <| gk (k_cl f88_16 rfl fn_88 (map_cons (eh b0 rfl) map_nil) (fun c2 k2 m1 => ?_))
 obtain ⟨rfl, rfl⟩ := m1
 refine ms b0 rfl <| nl <| c1 <| sk fun _ W0 => sk fun _ X0 => rn <| mw b0 p0 <| mv b0 rfl <| gv (r_lss (eh b0 rfl) (eh b0 rfl)) <| nl <| X0 ?_
 by_cases C0 : i < 8
 ·
  refine ct (eb b0 rfl (decide_eq_true C0)) <| sk fun _ Y0 => ?_
  have g0 : Fr no m w m { w with drawn := w.drawn + 1 } := Fr.drw ag
  obtain ⟨q0, H0⟩ : ∃ w_, w_ = ({ w with drawn := w.drawn + 1 } : World) := ⟨_, rfl⟩
  rw [← H0] at g0
  have Q1 := g0.size
  refine wp_region_T mixed (fun wz => ∃ mz, Fr (no) m q0 mz wz) (fun wz => ∃ mz, Fr (no) m q0 mz wz) 12 ?_
  rw [← H0]
  show wpAnyT _ _ _ _ _ 12 _ _ _
  have d0 : Fr (no) m q0 m q0 := Fr.refl g0.ag
  refine tkk (i := 0) rfl rfl (fun _ _ => r_move (em b0 rfl rfl e0)) ⟨_, d0⟩ <| tkk (i := 1) rfl rfl (fun _ _ => r_move (eh b0 rfl)) ⟨_, d0⟩ ?_
  have u0 := (hsl.up g0)
  have n1 : Sl m (A) (8) (c) 32 (hcs ((l).take 8)) := by have h_ := u0.hi (hi := 8) (by omega); rw [hcs_take] at h_; exact h_
  have d1 : ((l).take 8 : List Bytes).length = 8 := (by rw [List.length_take, show (l).length = 16 from hl]; omega)
  refine tkk (i := 2) rfl rfl (fun _ _ => r_sliceHi (n := 16) (c := c) (hi := 8) (eh b0 rfl) (eh b0 rfl) qs_27 (by have h_ := u0.cap; omega)) ⟨_, d0⟩ <| tkk (i := 3) rfl rfl (fun _ _ => r_move (em b0 rfl rfl p0)) ⟨_, d0⟩ <| tkk (i := 5) rfl rfl (fun _ _ => r_move (em b0 rfl rfl e0)) ⟨_, d0⟩ <| tkk (i := 6) rfl rfl (fun _ _ => r_move (eh b0 rfl)) ⟨_, d0⟩ ?_
  have o1 : Sl m (sA A c 8 32) (8) (c - 8) 32 (hcs ((l).drop 8)) := by have h_ := u0.lo (lo := 8) (by omega); rw [hcs_drop] at h_; exact h_
  have e1 : ((l).drop 8 : List Bytes).length = 8 := (by rw [List.length_drop, show (l).length = 16 from hl])
  refine tkk (i := 7) rfl rfl (fun _ _ => r_sliceLo (n := 16) (c := c) (lo := 8) (eh b0 rfl) (eh b0 rfl) qs_27 (by omega) u0.cap) ⟨_, d0⟩ <| ann (i := 4) (b := true) rfl rfl (k_cl (f97_3 g0.ag n1 d1 (by omega)) rfl fn_97 (map_cons (eh b0 rfl) (map_cons (eh b0 rfl) map_nil)) (fun Z1 e2 i1 => ?_))
  obtain ⟨J1, x1, B1, rfl, i0, D0⟩ := i1
  have R1 := i0.size
  have K0 := d0.t0 i0
  have L1 := D0.nilc
  refine ⟨(tbT ⟨_, K0⟩), ?_⟩
  have p1 := (o1.up i0)
  refine ann (i := 8) (b := true) rfl rfl (k_cl (f40_3 i0.ag p1 e1) rfl fn_40 (map_cons (eh b0 rfl) map_nil) (fun a2 g2 j1 => ?_))
  obtain ⟨v1, rfl, j0⟩ := j1
  have S1 := j0.size
  have L0 := K0.t0 j0
  refine ⟨(tbT ⟨_, L0⟩), ?_⟩
  refine ann (i := 9) (b := true) rfl rfl (k_lit (e := 23) (L := hc (mr 3 ((l).drop 8))) j0.ag (pm_cons (eh b0 rfl) pm_nil) (by kernel_rfl) (fun h2 z1 F0 k0 F1 => ?_))
  have T1 := k0.size
  have M0 := L0.t0 k0
  have H1 := F0.lt
  refine ⟨(tbT ⟨_, M0⟩), ?_⟩
  have q1 := ((D0.f0 j0).f0 k0)
  have D1 : ((mp 3 ((l).take 8) i) ++ ([mr 3 ((l).drop 8)]) : List Bytes).length = 4 := (len_app (mp_len _ _ _) rfl)
  refine ann (i := 10) (b := true) rfl rfl (k_append (base := q0.heap.size) (L := hcs (mp 3 ((l).take 8) i)) (N := hcs ([mr 3 ((l).drop 8)])) k0.ag (eh b0 rfl) (eh b0 rfl) qs_27 qz_23 q1 (by have h_ := (F0.bk.src (L := hc (mr 3 ((l).drop 8))) (n := 1) (o := 0) (k := 32) (by kernel_rfl)); rw [← hcs_one] at h_; exact h_) (fun h => by cases h) (by rw [hcs_length, show ([mr 3 ((l).drop 8)] : List Bytes).length = 1 from rfl]) (one_hcs _) (by omega) (by decide) (by rw [maxLen_eq]; omega) (by omega) (fun R0 T0 i2 z0 y0 => ?_))
  have U1 := y0.size
  have N0 := M0.tg y0 (by omega)
  rw [← hcs_append] at z0
  have M1 := z0.nilc
  refine ⟨(tbT ⟨_, N0⟩), ?_⟩
  refine tkk (i := 11) rfl rfl (fun _ _ => r_assign (eh b0 rfl)) ⟨_, N0⟩ <| anyT_done (by kernel_rfl) ?_ _
  refine Y0 <| wp_ret <| ret_of (res1 rfl _ _ (gh b0 rfl)) ((ov_defers _ _).trans B0) ?_
  exact ⟨v1, R0, T0, rfl, (((((cu0.t0 g0).t0 i0).t0 j0).t0 k0).tg y0 (by omega)), (by have h_ := z0; rw [show (mp 3 ((l).take 8) i) ++ ([mr 3 ((l).drop 8)]) = mp 4 l i from (mp_lo (d := 3) (by omega))] at h_; exact h_.wk (by omega))⟩
 ·
  refine cf (eb b0 rfl (decide_eq_false C0)) <| ws <| W0 <| sk fun _ b1 => ?_
  have h0 : Fr no m w m { w with drawn := w.drawn + 1 } := Fr.drw ag
  obtain ⟨r0, I0⟩ : ∃ w_, w_ = ({ w with drawn := w.drawn + 1 } : World) := ⟨_, rfl⟩
  rw [← I0] at h0
  have V1 := h0.size
  refine wp_region_T mixed (fun wz => ∃ mz, Fr (no) m r0 mz wz) (fun wz => ∃ mz, Fr (no) m r0 mz wz) 14 ?_
  rw [← I0]
  show wpAnyT _ _ _ _ _ 14 _ _ _
  have c0 : Fr (no) m r0 m r0 := Fr.refl h0.ag
  refine tkk (i := 0) rfl rfl (fun _ _ => r_move (em b0 rfl rfl e0)) ⟨_, c0⟩ <| tkk (i := 1) rfl rfl (fun _ _ => r_move (eh b0 rfl)) ⟨_, c0⟩ ?_
  have v0 := (hsl.up h0)
  have r1 : Sl m (sA A c 8 32) (8) (c - 8) 32 (hcs ((l).drop 8)) := by have h_ := v0.lo (lo := 8) (by omega); rw [hcs_drop] at h_; exact h_
  have g1 : ((l).drop 8 : List Bytes).length = 8 := (by rw [List.length_drop, show (l).length = 16 from hl])
  refine tkk (i := 2) rfl rfl (fun _ _ => r_sliceLo (n := 16) (c := c) (lo := 8) (eh b0 rfl) (eh b0 rfl) qs_27 (by omega) v0.cap) ⟨_, c0⟩ <| tkk (i := 3) rfl rfl (fun _ _ => r_move (em b0 rfl rfl p0)) ⟨_, c0⟩ <| tkk (i := 4) rfl rfl (fun _ _ => r_move (eh b0 rfl)) ⟨_, c0⟩ <| tkk (i := 5) rfl rfl (fun _ _ => r_sub (eh b0 rfl) (eh b0 rfl) (by omega) (by omega)) ⟨_, c0⟩ <| tkk (i := 7) rfl rfl (fun _ _ => r_move (em b0 rfl rfl e0)) ⟨_, c0⟩ <| tkk (i := 8) rfl rfl (fun _ _ => r_move (eh b0 rfl)) ⟨_, c0⟩ ?_
  have s1 : Sl m (A) (8) (c) 32 (hcs ((l).take 8)) := by have h_ := v0.hi (hi := 8) (by omega); rw [hcs_take] at h_; exact h_
  have h1 : ((l).take 8 : List Bytes).length = 8 := (by rw [List.length_take, show (l).length = 16 from hl]; omega)
  refine tkk (i := 9) rfl rfl (fun _ _ => r_sliceHi (n := 16) (c := c) (hi := 8) (eh b0 rfl) (eh b0 rfl) qs_27 (by have h_ := v0.cap; omega)) ⟨_, c0⟩ <| ann (i := 6) (b := true) rfl rfl (k_cl (f97_3 h0.ag r1 g1 (by omega)) rfl fn_97 (map_cons (eh b0 rfl) (map_cons (eh b0 rfl) map_nil)) (fun b2 j2 k1 => ?_))
  obtain ⟨K1, y1, C1, rfl, l0, E0⟩ := k1
  have W1 := l0.size
  have O0 := c0.t0 l0
  have N1 := E0.nilc
  refine ⟨(tbT ⟨_, O0⟩), ?_⟩
  have t1 := (s1.up l0)
  refine ann (i := 10) (b := true) rfl rfl (k_cl (f40_3 l0.ag t1 h1) rfl fn_40 (map_cons (eh b0 rfl) map_nil) (fun d2 l2 l1 => ?_))
  obtain ⟨w1, rfl, m0⟩ := l1
  have X1 := m0.size
  have P0 := O0.t0 m0
  refine ⟨(tbT ⟨_, P0⟩), ?_⟩
  refine ann (i := 11) (b := true) rfl rfl (k_lit (e := 23) (L := hc (mr 3 ((l).take 8))) m0.ag (pm_cons (eh b0 rfl) pm_nil) (by kernel_rfl) (fun m2 A1 G0 n0 G1 => ?_))
  have Y1 := n0.size
  have Q0 := P0.t0 n0
  have I1 := G0.lt
  refine ⟨(tbT ⟨_, Q0⟩), ?_⟩
  have u1 := ((E0.f0 m0).f0 n0)
  have E1 : ((mp 3 ((l).drop 8) (i - 8)) ++ ([mr 3 ((l).take 8)]) : List Bytes).length = 4 := (len_app (mp_len _ _ _) rfl)
  refine ann (i := 12) (b := true) rfl rfl (k_append (base := r0.heap.size) (L := hcs (mp 3 ((l).drop 8) (i - 8))) (N := hcs ([mr 3 ((l).take 8)])) n0.ag (eh b0 rfl) (eh b0 rfl) qs_27 qz_23 u1 (by have h_ := (G0.bk.src (L := hc (mr 3 ((l).take 8))) (n := 1) (o := 0) (k := 32) (by kernel_rfl)); rw [← hcs_one] at h_; exact h_) (fun h => by cases h) (by rw [hcs_length, show ([mr 3 ((l).take 8)] : List Bytes).length = 1 from rfl]) (one_hcs _) (by omega) (by decide) (by rw [maxLen_eq]; omega) (by omega) (fun S0 U0 n2 A0 x0 => ?_))
  have P1 := x0.size
  have J0 := Q0.tg x0 (by omega)
  rw [← hcs_append] at A0
  have O1 := A0.nilc
  refine ⟨(tbT ⟨_, J0⟩), ?_⟩
  refine tkk (i := 13) rfl rfl (fun _ _ => r_assign (eh b0 rfl)) ⟨_, J0⟩ <| anyT_done (by kernel_rfl) ?_ _
  refine b1 <| wp_ret <| ret_of (res1 rfl _ _ (gh b0 rfl)) ((ov_defers _ _).trans B0) ?_
  exact ⟨w1, S0, U0, rfl, (((((cu0.t0 h0).t0 l0).t0 m0).t0 n0).tg x0 (by omega)), (by have h_ := A0; rw [show (mp 3 ((l).drop 8) (i - 8)) ++ ([mr 3 ((l).take 8)]) = mp 4 l i from (mp_hi (d := 3) (by omega))] at h_; exact h_.wk (by omega))⟩

theorem f166 {m : Ctx} {w : World} (ag : Ag m w) {x : Bytes} {i : Nat} {A : Option Addr} {c : Nat} {l : List Bytes} (hi : i < 16) (hsl : Sl m A 4 c 32 (hcs l)) (hl : l.length = 4) : Calls Tryz.prog 166 #[H x, nn i, .slice A 4 c] w (Ret fun v w' => ∃ m', v = H (upv x i l 4) ∧ Fr no m w m' w') := by
 refine enter Tryz.func166 rfl (fun w0 hT R0 => ?_)
 have j0 : w0.tmps.size = 32 := by rw [hT]; kernel_rfl
 have A1 : w0.tmps.getD 0 undef = H x := by rw [hT]; kernel_rfl
 have B1 : w0.tmps.getD 1 undef = nn i := by rw [hT]; kernel_rfl
 have C1 : w0.tmps.getD 2 undef = .slice A 4 c := by rw [hT]; kernel_rfl
 clear hT
 have cu0 : Fr (no) m w m w := Fr.refl ag
 refine sk fun _ S0 => rn <| gk (k_box (L := hc x) ag (em j0 rfl rfl A1) (by kernel_rfl) (fun g2 g0 M0 r0 N1 => ?_))
 have X1 := r0.size
 have O1 := M0.lt
 refine gk (k_alloc r0.ag qz_23 (fun D1 D0 L0 l0 M1 => ?_))
 have R1 := l0.size
 have P1 := L0.lt
 refine nl <| S0 <| sk fun _ T0 => sk fun _ V0 => rn <| gv (r_assign (v := nn 0) rfl) <| nl <| V0 <| bl ?_
 have b1 := (M0.f0 l0)
 refine wp_loop_s (σ := Nat) (I := fun (k : Nat) (a' : Act) (w' : World) => ∃ (m' : Ctx), a'.tmps.size = 32 ∧ a'.defers = [] ∧ k ≤ 4 ∧ a'.tmps.getD 2 undef = .slice A 4 c ∧ a'.tmps.getD 3 undef = .pointer (some ⟨g0, 0, none⟩) ∧ a'.tmps.getD 6 undef = .pointer (some ⟨D0, 0, none⟩) ∧ a'.tmps.getD 1 undef = nn (sh i k) ∧ a'.tmps.getD 7 undef = nn k ∧ Fr (on g0) m D1 m' w' ∧ Mu m' w' g0 23 (hc (upv x i l k))) (μ := fun k => 4 - k) (s₀ := 0) ?_ ?_
 · exact ⟨m, ((ov_size _ _).trans j0), ((ov_defers _ _).trans R0), (by omega), (gm j0 rfl rfl C1), (gh j0 rfl), (gh j0 rfl), (gm j0 rfl rfl B1), (gh j0 rfl), (Fr.refl l0.ag), b1⟩
 ·
  intro k G1 e0 hI
  obtain ⟨c0, b0, A0, L1, u0, k0, x0, C0, v0, d0, B0⟩ := hI
  refine of_ov ?_
  have V1 := d0.size
  have hq_k := sh_le i k
  refine sk fun _ W0 => sk fun _ X0 => rn <| mw b0 v0 <| mw b0 u0 <| gv (r_lenS (eh b0 rfl) rfl qu_27) <| gv (r_lss (eh b0 rfl) (eh b0 rfl)) <| nl <| X0 ?_
  by_cases J0 : k < 4
  ·
   refine ct (eb b0 rfl (decide_eq_true J0)) <| ws <| W0 <| sk fun _ F0 => bl <| sk fun _ G0 => sk fun _ Y0 => rn <| mw b0 C0 <| gv (r_and (j := 1) (eh b0 rfl) rfl (by omega) (by omega)) <| gv (r_eql (j := 0) (eh b0 rfl) rfl) <| nl <| Y0 ?_
   by_cases K0 : (sh i k) &&& 1 = 0
   ·
    refine ct (eb b0 rfl (decide_eq_true K0)) ?_
    have i0 : Fr no c0 e0 c0 { e0 with drawn := e0.drawn + 1 } := Fr.drw d0.ag
    obtain ⟨p0, O0⟩ : ∃ w_, w_ = ({ e0 with drawn := e0.drawn + 1 } : World) := ⟨_, rfl⟩
    rw [← O0] at i0
    have W1 := i0.size
    refine wp_region_T mixed (fun wz => ∃ mz, Fr (no) c0 p0 mz wz) (fun wz => ∃ mz, Fr (on g0) c0 p0 mz wz) 6 ?_
    rw [← O0]
    show wpAnyT _ _ _ _ _ 7 _ _ _
    have n0 : Fr (no) c0 p0 c0 p0 := Fr.refl i0.ag
    have K1 : ∀ wz, (∃ mz, Fr (no) c0 p0 mz wz) → ∃ mz, Fr (on g0) c0 p0 mz wz := fun wz ⟨mz, hz⟩ => ⟨mz, hz.wk (fun x hx _ => hx.elim)⟩
    have I0 := (B0.f0 i0)
    refine tk2 (i := 0) rfl rfl (fun wz ⟨mz, hz⟩ => lb (cs := hc (upv x i l k)) (em b0 rfl rfl k0) (hz.ex I0.bk (fun h => h)) qr_23 sz_23) ⟨_, n0⟩ <| tk2 (i := 1) rfl rfl (fun _ _ => r_move (em b0 rfl rfl u0)) ⟨_, n0⟩ <| tk2 (i := 2) rfl rfl (fun _ _ => r_move (em b0 rfl rfl v0)) ⟨_, n0⟩ ?_
    have r1 := Fr.ll (Fr.ll (Fr.l2 r0 l0) d0) i0
    have o1 := hsl.le r1
    obtain ⟨I1, v1, F1, rfl, j1, m1⟩ := o1.elem (by omega)
    refine tk2 (i := 3) rfl rfl (fun _ _ => r_idxS (o' := v1 + (k * 32)) (eh b0 rfl) (eh b0 rfl) qs_27 (by omega) (by omega)) ⟨_, n0⟩ <| tk2 (i := 4) rfl rfl (fun wz ⟨mz, hz⟩ => r_loadN (cs := hc ((l).getD k [])) (eh b0 rfl) (hz.ag _ _ (hz.le _ _ j1)) (Eq.trans (rd_sub m1 (by omega)) (hcs_get (i := k) hl (by omega))) (by kernel_rfl) qr_23 sz_23) ⟨_, n0⟩ <| ann (i := 5) (b := false) rfl rfl (k_cl (f89 i0.ag) rfl fn_89 (map_cons (eh b0 rfl) (map_cons (eh b0 rfl) map_nil)) (fun b2 h2 k1 => ?_))
    obtain ⟨t1, rfl, s0⟩ := k1
    have Y1 := s0.size
    have Q0 := n0.t0 s0
    refine ⟨(tbF ⟨_, Q0⟩), ?_⟩
    have y1 : Fr (on g0) _ _ _ _ := Q0.wk (fun x hx _ => hx.elim)
    have c1 := (I0.f0 s0)
    refine an00 (i := 6) (b := true) rfl rfl (kt (L' := hc (node (upv x i l k) ((l).getD k []))) s0.ag (em b0 rfl rfl k0) (eh b0 rfl) c1 sz_23 (fun i2 g1 z0 => ?_))
    have Z1 := z0.size
    have z1 := y1.tr z0 (fun x hx => .inr (by cases hx; exact rfl))
    refine ⟨(tbT ⟨_, z1⟩), ?_⟩
    refine anyT_done (by kernel_rfl) ?_ _
    refine G0 <| rn <| mw b0 C0 <| gv (r_shru (j := 1) (eh b0 rfl) rfl (by decide)) <| ms b0 rfl <| nl <| F0 <| rn <| mw b0 v0 <| gv (r_add (j := 1) (eh b0 rfl) rfl (by omega)) <| ms b0 rfl <| nl <| loop_back (s := k) ⟨k + 1, (show 4 - (k + 1) < 4 - (k) from (by omega)), ?_⟩
    exact ⟨t1, ((ov_size _ _).trans b0), ((ov_defers _ _).trans A0), (by omega), (gm b0 rfl rfl u0), (gm b0 rfl rfl k0), (gm b0 rfl rfl x0), (gh b0 rfl), (gh b0 rfl), (((d0.t0 i0).t0 s0).tr z0 (fun x hx => .inr (by cases hx; exact rfl))), (by have h_ := g1; first | (rw [up_even (by assumption)] at h_; exact h_) | (rw [up_odd (by assumption)] at h_; exact h_))⟩
   ·
    refine cf (eb b0 rfl (decide_eq_false K0)) ?_
    have h0 : Fr no c0 e0 c0 { e0 with drawn := e0.drawn + 1 } := Fr.drw d0.ag
    obtain ⟨o0, N0⟩ : ∃ w_, w_ = ({ e0 with drawn := e0.drawn + 1 } : World) := ⟨_, rfl⟩
    rw [← N0] at h0
    have Q1 := h0.size
    refine wp_region_T mixed (fun wz => ∃ mz, Fr (no) c0 o0 mz wz) (fun wz => ∃ mz, Fr (on g0) c0 o0 mz wz) 6 ?_
    rw [← N0]
    show wpAnyT _ _ _ _ _ 7 _ _ _
    have m0 : Fr (no) c0 o0 c0 o0 := Fr.refl h0.ag
    have J1 : ∀ wz, (∃ mz, Fr (no) c0 o0 mz wz) → ∃ mz, Fr (on g0) c0 o0 mz wz := fun wz ⟨mz, hz⟩ => ⟨mz, hz.wk (fun x hx _ => hx.elim)⟩
    refine tk2 (i := 0) rfl rfl (fun _ _ => r_move (em b0 rfl rfl u0)) ⟨_, m0⟩ <| tk2 (i := 1) rfl rfl (fun _ _ => r_move (em b0 rfl rfl v0)) ⟨_, m0⟩ ?_
    have q1 := Fr.ll (Fr.ll (Fr.l2 r0 l0) d0) h0
    have n1 := hsl.le q1
    obtain ⟨H1, u1, E1, rfl, h1, l1⟩ := n1.elem (by omega)
    refine tk2 (i := 2) rfl rfl (fun _ _ => r_idxS (o' := u1 + (k * 32)) (eh b0 rfl) (eh b0 rfl) qs_27 (by omega) (by omega)) ⟨_, m0⟩ <| tk2 (i := 3) rfl rfl (fun wz ⟨mz, hz⟩ => r_loadN (cs := hc ((l).getD k [])) (eh b0 rfl) (hz.ag _ _ (hz.le _ _ h1)) (Eq.trans (rd_sub l1 (by omega)) (hcs_get (i := k) hl (by omega))) (by kernel_rfl) qr_23 sz_23) ⟨_, m0⟩ ?_
    have H0 := (B0.f0 h0)
    refine tk2 (i := 4) rfl rfl (fun wz ⟨mz, hz⟩ => lb (cs := hc (upv x i l k)) (em b0 rfl rfl k0) (hz.ex H0.bk (fun h => h)) qr_23 sz_23) ⟨_, m0⟩ <| ann (i := 5) (b := false) rfl rfl (k_cl (f89 h0.ag) rfl fn_89 (map_cons (eh b0 rfl) (map_cons (eh b0 rfl) map_nil)) (fun a2 c2 i1 => ?_))
    obtain ⟨s1, rfl, q0⟩ := i1
    have S1 := q0.size
    have P0 := m0.t0 q0
    refine ⟨(tbF ⟨_, P0⟩), ?_⟩
    have w1 : Fr (on g0) _ _ _ _ := P0.wk (fun x hx _ => hx.elim)
    have Z0 := (H0.f0 q0)
    refine an00 (i := 6) (b := true) rfl rfl (kt (L' := hc (node ((l).getD k []) (upv x i l k))) q0.ag (em b0 rfl rfl k0) (eh b0 rfl) Z0 sz_23 (fun d2 d1 y0 => ?_))
    have T1 := y0.size
    have x1 := w1.tr y0 (fun x hx => .inr (by cases hx; exact rfl))
    refine ⟨(tbT ⟨_, x1⟩), ?_⟩
    refine anyT_done (by kernel_rfl) ?_ _
    refine G0 <| rn <| mw b0 C0 <| gv (r_shru (j := 1) (eh b0 rfl) rfl (by decide)) <| ms b0 rfl <| nl <| F0 <| rn <| mw b0 v0 <| gv (r_add (j := 1) (eh b0 rfl) rfl (by omega)) <| ms b0 rfl <| nl <| loop_back (s := k) ⟨k + 1, (show 4 - (k + 1) < 4 - (k) from (by omega)), ?_⟩
    exact ⟨s1, ((ov_size _ _).trans b0), ((ov_defers _ _).trans A0), (by omega), (gm b0 rfl rfl u0), (gm b0 rfl rfl k0), (gm b0 rfl rfl x0), (gh b0 rfl), (gh b0 rfl), (((d0.t0 h0).t0 q0).tr y0 (fun x hx => .inr (by cases hx; exact rfl))), (by have h_ := d1; first | (rw [up_even (by assumption)] at h_; exact h_) | (rw [up_odd (by assumption)] at h_; exact h_))⟩
  ·
   refine cf (eb b0 rfl (decide_eq_false J0)) <| we ?_
   have p1 : 4 = k := (by omega)
   subst p1
   refine T0 <| sk fun _ U0 => rn <| gv (lb (cs := hc (upv x i l 4)) (em b0 rfl rfl k0) B0.bk qr_23 sz_23) ?_
   have a1 := (L0.f1 d0 (by omega))
   refine gz (kt (L' := hc (upv x i l 4)) d0.ag (em b0 rfl rfl x0) (eh b0 rfl) a1 sz_23 (fun e2 e1 E0 => ?_))
   have U1 := E0.size
   refine nl <| U0 <| wp_ret <| ret_of (res1c (b := D0) (n := 32) (cs := hc (upv x i l 4)) rfl _ _ (gm b0 rfl rfl x0) e1.bk (by kernel_rfl) (by kernel_rfl) qr_23 sz_23) ((ov_defers _ _).trans A0) ?_
   exact ⟨c0, rfl, ((((cu0.t0 r0).t0 l0).tn d0 (by omega)).tn E0 (by omega))⟩

theorem f66 {m : Ctx} {w : World} (ag : Ag m w) {r : Bytes} : Calls Tryz.prog 66 #[H r] w (Ret fun v w' => ∃ m', v = H (nam r) ∧ Fr no m w m' w') := by
 refine enter Tryz.func66 rfl (fun m0 hT u0 => ?_)
 have b0 : m0.tmps.size = 7 := by rw [hT]; kernel_rfl
 have E0 : m0.tmps.getD 0 undef = H r := by rw [hT]; kernel_rfl
 clear hT
 have cu0 : Fr (no) m w m w := Fr.refl ag
 refine sk fun _ v0 => rn <| gk (k_box (L := hc r) ag (em b0 rfl rfl E0) (by kernel_rfl) (fun a1 H0 q0 l0 L0 => ?_))
 have X0 := l0.size
 have N0 := q0.lt
 refine gk (k_alloc l0.ag qz_23 (fun j0 k0 o0 d0 J0 => ?_))
 have R0 := d0.size
 have O0 := o0.lt
 refine nl <| v0 <| sk fun _ w0 => rn <| gk (k_lit (e := 5) (L := bv ([4])) d0.ag (pm_cons (v := u8 4) rfl pm_nil) (by kernel_rfl) (fun Z0 G0 p0 c0 K0 => ?_))
 have S0 := c0.size
 have M0 := p0.lt
 refine gv (r_sliceA (eh b0 rfl) qa_23) ?_
 have r0 := d0.t0 c0
 have x0 := (q0.f0 r0)
 have z0 : (([4]) ++ (n32 r) : List UInt8).length = 33 := (len_app rfl (n32_len _))
 refine gk (k_append (base := j0.heap.size) (L := bv ([4])) (N := bv (n32 r)) c0.ag (eh b0 rfl) (eh b0 rfl) qs_38 qz_5 (Own.of_mu p0 (by omega) (by kernel_rfl) (by decide)) (by have h_ := (x0.bk.src (L := hc r) (n := 32) (o := 0) (k := 32) (by kernel_rfl)); rw [hc_n32] at h_; exact h_) (fun h => by cases h) (by rw [bv_length, show (n32 r : List UInt8).length = 32 from (n32_len _), Nat.mul_one]) (one_bv _) (by omega) (by decide) (by rw [maxLen_eq]; omega) (by omega) (fun F0 I0 b1 i0 e0 => ?_))
 have T0 := e0.size
 rw [← bv_append] at i0
 have Q0 := i0.nilc
 obtain ⟨P0, s0, C0⟩ := i0.fz e0.ag
 have g0 : Fr (ge j0.heap.size) _ _ _ _ := s0.wk (fun x hx _ => i0.at x hx)
 have U0 := g0.size
 refine gk (k_cl (f26 g0.ag C0 z0 (by omega)) rfl fn_26 (map_cons (eh b0 rfl) map_nil) (fun Y0 c1 B0 => ?_))
 obtain ⟨D0, rfl, h0⟩ := B0
 have V0 := h0.size
 have y0 := ((((o0.f0 c0).fs e0 (show ¬ j0.heap.size ≤ k0 from by omega)).fs g0 (show ¬ j0.heap.size ≤ k0 from by omega)).f0 h0)
 refine gz (kt (L' := hc (sha (([4]) ++ (n32 r)))) h0.ag (eh b0 rfl) (eh b0 rfl) y0 sz_23 (fun d1 A0 n0 => ?_))
 have W0 := n0.size
 refine nl <| w0 <| wp_ret <| ret_of (res1c (b := k0) (n := 32) (cs := hc (sha (([4]) ++ (n32 r)))) rfl _ _ (gh b0 rfl) A0.bk (by kernel_rfl) (by kernel_rfl) qr_23 sz_23) ((ov_defers _ _).trans u0) ?_
 exact ⟨D0, rfl, (((((((cu0.t0 l0).t0 d0).t0 c0).tg e0 (by omega)).tg g0 (by omega)).t0 h0).tn n0 (by omega))⟩

theorem f39 {m : Ctx} {w : World} (ag : Ag m w) {r : Bytes} : Calls Tryz.prog 39 #[H r] w (Ret fun v w' => ∃ m', v = H (nam r) ∧ Fr no m w m' w') := by
 refine enter Tryz.func39 rfl (fun m0 hT u0 => ?_)
 have b0 : m0.tmps.size = 7 := by rw [hT]; kernel_rfl
 have E0 : m0.tmps.getD 0 undef = H r := by rw [hT]; kernel_rfl
 clear hT
 have cu0 : Fr (no) m w m w := Fr.refl ag
 refine sk fun _ v0 => rn <| gk (k_box (L := hc r) ag (em b0 rfl rfl E0) (by kernel_rfl) (fun a1 H0 q0 l0 L0 => ?_))
 have X0 := l0.size
 have N0 := q0.lt
 refine gk (k_alloc l0.ag qz_23 (fun j0 k0 o0 d0 J0 => ?_))
 have R0 := d0.size
 have O0 := o0.lt
 refine nl <| v0 <| sk fun _ w0 => rn <| gk (k_lit (e := 5) (L := bv ([4])) d0.ag (pm_cons (v := u8 4) rfl pm_nil) (by kernel_rfl) (fun Z0 G0 p0 c0 K0 => ?_))
 have S0 := c0.size
 have M0 := p0.lt
 refine gv (r_sliceA (eh b0 rfl) qa_23) ?_
 have r0 := d0.t0 c0
 have x0 := (q0.f0 r0)
 have z0 : (([4]) ++ (n32 r) : List UInt8).length = 33 := (len_app rfl (n32_len _))
 refine gk (k_append (base := j0.heap.size) (L := bv ([4])) (N := bv (n32 r)) c0.ag (eh b0 rfl) (eh b0 rfl) qs_38 qz_5 (Own.of_mu p0 (by omega) (by kernel_rfl) (by decide)) (by have h_ := (x0.bk.src (L := hc r) (n := 32) (o := 0) (k := 32) (by kernel_rfl)); rw [hc_n32] at h_; exact h_) (fun h => by cases h) (by rw [bv_length, show (n32 r : List UInt8).length = 32 from (n32_len _), Nat.mul_one]) (one_bv _) (by omega) (by decide) (by rw [maxLen_eq]; omega) (by omega) (fun F0 I0 b1 i0 e0 => ?_))
 have T0 := e0.size
 rw [← bv_append] at i0
 have Q0 := i0.nilc
 obtain ⟨P0, s0, C0⟩ := i0.fz e0.ag
 have g0 : Fr (ge j0.heap.size) _ _ _ _ := s0.wk (fun x hx _ => i0.at x hx)
 have U0 := g0.size
 refine gk (k_cl (f41 g0.ag C0 z0 (by omega)) rfl fn_41 (map_cons (eh b0 rfl) map_nil) (fun Y0 c1 B0 => ?_))
 obtain ⟨D0, rfl, h0⟩ := B0
 have V0 := h0.size
 have y0 := ((((o0.f0 c0).fs e0 (show ¬ j0.heap.size ≤ k0 from by omega)).fs g0 (show ¬ j0.heap.size ≤ k0 from by omega)).f0 h0)
 refine gz (kt (L' := hc (sha (([4]) ++ (n32 r)))) h0.ag (eh b0 rfl) (eh b0 rfl) y0 sz_23 (fun d1 A0 n0 => ?_))
 have W0 := n0.size
 refine nl <| w0 <| wp_ret <| ret_of (res1c (b := k0) (n := 32) (cs := hc (sha (([4]) ++ (n32 r)))) rfl _ _ (gh b0 rfl) A0.bk (by kernel_rfl) (by kernel_rfl) qr_23 sz_23) ((ov_defers _ _).trans u0) ?_
 exact ⟨D0, rfl, (((((((cu0.t0 l0).t0 d0).t0 c0).tg e0 (by omega)).tg g0 (by omega)).t0 h0).tn n0 (by omega))⟩

end Go.Proofs.YtiggfalelcepbaaGreatDoor

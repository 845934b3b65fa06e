/- The walks of the tests whether a record may be. -/
import Derived.Test.YtiggfalelcepbaaGreatDoorK7
import Derived.Test.YtiggfalelcepbaaGreatDoorSX
import Derived.Test.YtiggfalelcepbaaGreatDoorW9
import Derived.Test.YtiggfalelcepbaaGreatDoorTX
namespace Go.Proofs.YtiggfalelcepbaaGreatDoor
open Go
set_option maxRecDepth 100000
set_option maxHeartbeats 4000000
theorem f156 {m : Ctx} {w : World} (ag : Ag m w) : Calls Tryz.prog 156 #[.string (⟨#[97, 98, 99, 100, 101, 102, 103, 104, 105, 106, 107, 108, 109, 110, 111, 112, 113, 114, 115, 116, 117, 118, 119, 120, 121, 122, 48, 49, 50, 51, 52, 53, 54, 55, 56, 57, 45]⟩ : ByteArray)] w (Ret fun v w' => ∃ m', v = .tuple #[.agg (bz (asf 37)).toArray, .bool true] ∧ Fr no m w m' w') := by
 refine enter Tryz.func156 rfl (fun l0 hT s0 => ?_)
 have g0 : l0.tmps.size = 21 := by rw [hT]; kernel_rfl
 have I0 : l0.tmps.getD 0 undef = .string (⟨#[97, 98, 99, 100, 101, 102, 103, 104, 105, 106, 107, 108, 109, 110, 111, 112, 113, 114, 115, 116, 117, 118, 119, 120, 121, 122, 48, 49, 50, 51, 52, 53, 54, 55, 56, 57, 45]⟩ : ByteArray) := by rw [hT]; kernel_rfl
 clear hT
 have cu0 : Fr (no) m w m w := Fr.refl ag
 refine sk fun _ u0 => rn <| gk (k_alloc ag qz_226 (fun J0 c0 q0 h0 O0 => ?_))
 have T0 := h0.size
 have P0 := q0.lt
 refine gv (r_assign (v := .bool false) rfl) <| nl <| u0 <| sk fun _ C0 => sk fun _ D0 => rn <| gv (r_assign (v := nn 0) rfl) <| nl <| D0 <| bl <| wp_loop_s (σ := Nat) (I := fun (i : Nat) (a' : Act) (w' : World) => ∃ (m' : Ctx), a'.tmps.size = 21 ∧ a'.defers = [] ∧ i ≤ 37 ∧ a'.tmps.getD 0 undef = .string (⟨#[97, 98, 99, 100, 101, 102, 103, 104, 105, 106, 107, 108, 109, 110, 111, 112, 113, 114, 115, 116, 117, 118, 119, 120, 121, 122, 48, 49, 50, 51, 52, 53, 54, 55, 56, 57, 45]⟩ : ByteArray) ∧ a'.tmps.getD 2 undef = .pointer (some ⟨c0, 0, none⟩) ∧ a'.tmps.getD 4 undef = nn i ∧ Fr (on c0) m J0 m' w' ∧ Mu m' w' c0 226 (bz (asf i))) (μ := fun i => 37 - i) (s₀ := 0) ?_ ?_
 · exact ⟨m, ((ov_size _ _).trans g0), ((ov_defers _ _).trans s0), (by omega), (gm g0 rfl rfl I0), (gh g0 rfl), (gh g0 rfl), (Fr.refl h0.ag), q0⟩
 ·
  intro i K0 U0 hI
  obtain ⟨r0, b0, o0, M0, j0, e0, k0, d0, i0⟩ := hI
  refine of_ov ?_
  have Q0 := d0.size
  refine sk fun _ v0 => sk fun _ w0 => rn <| mw b0 k0 <| mw b0 j0 <| gv (r_lenStr (s := ⟨#[97, 98, 99, 100, 101, 102, 103, 104, 105, 106, 107, 108, 109, 110, 111, 112, 113, 114, 115, 116, 117, 118, 119, 120, 121, 122, 48, 49, 50, 51, 52, 53, 54, 55, 56, 57, 45]⟩) (eh b0 rfl) rfl qu_9) <| gv (r_lss (eh b0 rfl) (eh b0 rfl)) <| nl <| w0 ?_
  by_cases p0 : i < 37
  ·
   refine ct (eb b0 rfl (decide_eq_true p0)) <| ws <| v0 <| sk fun _ x0 => bl <| sk fun _ y0 => rn <| mw b0 j0 <| mw b0 k0 <| gv (r_indexStr (s := ⟨#[97, 98, 99, 100, 101, 102, 103, 104, 105, 106, 107, 108, 109, 110, 111, 112, 113, 114, 115, 116, 117, 118, 119, 120, 121, 122, 48, 49, 50, 51, 52, 53, 54, 55, 56, 57, 45]⟩) (i := i) (c := sgL.getD i 0) (eh b0 rfl) (eh b0 rfl) qu_9 (sg_get (by omega))) <| ms b0 rfl <| nl <| y0 <| sk fun _ z0 => sk fun _ A0 => rn <| mv b0 rfl <| gv (r_geq8 (e := 128) (eh b0 rfl) rfl) <| nl <| A0 ?_
   have E0 : (decide ((128 : UInt8) ≤ sgL.getD i 0)) = false := (decide_eq_false (sg_lt (by omega)))
   refine cf (eb b0 rfl E0) <| ws <| z0 <| rn <| mv b0 rfl ?_
   have N0 : (sgL.getD i 0).toNat < 256 := UInt8.toNat_lt _
   refine gv (r_idxA (o' := (sgL.getD i 0).toNat) (em b0 rfl rfl e0) (eh b0 rfl) qa_226 (by omega) (by omega)) ?_
   have L0 : ((asf i).set ((sgL.getD i 0).toNat) true : List Bool).length = 256 := (len_set (asf_len _))
   refine gz (k_store1 (b := c0) (off := ((sgL.getD i 0).toNat)) (v := .bool true) (L' := bz ((asf i).set ((sgL.getD i 0).toNat) true)) d0.ag (eh b0 rfl) rfl i0 sz_4 rfl (lt_bz (n := 256) (asf_len _) (by omega)) bz_set (fun V0 F0 m0 => ?_))
   have R0 := m0.size
   refine nl <| x0 <| rn <| mw b0 k0 <| gv (r_add (j := 1) (eh b0 rfl) rfl (by omega)) <| ms b0 rfl <| nl <| loop_back (s := i) ⟨i + 1, (show 37 - (i + 1) < 37 - (i) from (by omega)), ?_⟩
   exact ⟨r0, ((ov_size _ _).trans b0), ((ov_defers _ _).trans o0), (by omega), (gm b0 rfl rfl j0), (gm b0 rfl rfl e0), (gh b0 rfl), (d0.tr m0 (fun x hx => .inr (by cases hx; exact rfl))), F0⟩
  ·
   refine cf (eb b0 rfl (decide_eq_false p0)) <| we ?_
   have H0 : 37 = i := (by omega)
   subst H0
   refine C0 <| sk fun _ B0 => rn <| gv (r_loadN (cs := bz (asf 37)) (em b0 rfl rfl e0) i0.bk (rd_all (Eq.trans (bz_length _) (asf_len _))) (Eq.trans (bz_length _) (asf_len _)) qr_226 sz_226) <| gz (k_store (L' := bz (asf 37)) (cs := bz (asf 37)) d0.ag (em b0 rfl rfl e0) (eh b0 rfl) i0 (by kernel_rfl) (sz_eq sz_226 (Eq.trans (bz_length _) (asf_len _))) (one_bz _) (le_all (Eq.trans (bz_length _) (asf_len _)) (Eq.trans (bz_length _) (asf_len _))) (wr_all (Eq.trans (Eq.trans (bz_length _) (asf_len _)) (Eq.symm (Eq.trans (bz_length _) (asf_len _))))) (fun W0 G0 n0 => ?_))
   have S0 := n0.size
   refine gv (r_assign (v := .bool true) rfl) <| nl <| B0 <| wp_ret <| ret_of (res2ct (b := c0) (n := 256) (cs := bz (asf 37)) (u := .bool true) rfl _ _ (gm b0 rfl rfl e0) (gh b0 rfl) G0.bk (rd_all (Eq.trans (bz_length _) (asf_len _))) (Eq.trans (bz_length _) (asf_len _)) qr_226 sz_226) ((ov_defers _ _).trans o0) ?_
   exact ⟨r0, rfl, (((cu0.t0 h0).tn d0 (by omega)).tn n0 (by omega))⟩

theorem f171_116 {m : Ctx} {w : World} (ag : Ag m w) {sb : Nat} (hmB : Mu m w sb 226 (bz (asf 37))) : Calls Tryz.prog 171 #[.pointer (some ⟨sb, 0, none⟩), u8 116] w (Ret fun v w' => ∃ m', v = .bool true ∧ Fr no m w m' w') := by
 refine enter Tryz.func171 rfl (fun c0 hT d0 => ?_)
 have b0 : c0.tmps.size = 10 := by rw [hT]; kernel_rfl
 have h0 : c0.tmps.getD 0 undef = .pointer (some ⟨sb, 0, none⟩) := by rw [hT]; kernel_rfl
 have i0 : c0.tmps.getD 1 undef = u8 116 := by rw [hT]; kernel_rfl
 clear hT
 have cu0 : Fr (no) m w m w := Fr.refl ag
 have lt_sb := hmB.lt
 refine sk fun _ e0 => rn <| gv (r_assign (v := .bool false) rfl) <| nl <| e0 <| sk fun _ g0 => rn <| mw b0 h0 <| mw b0 i0 <| nc b0 rfl <| gv (r_idxA (o' := 116) (eh b0 rfl) (eh b0 rfl) qa_226 (by decide) (by rfl)) <| gv (r_load1 (v := .bool ((asf 37).getD 116 false)) (eh b0 rfl) hmB.bk (bz_get (asf_len _) (by decide)) qr_4) <| ms b0 rfl <| nl <| g0 <| wp_ret <| ret_of (res1 rfl _ _ (gh b0 rfl)) ((ov_defers _ _).trans d0) ?_
 exact ⟨m, congrArg Value.bool (by kernel_rfl), cu0⟩

theorem f171_111 {m : Ctx} {w : World} (ag : Ag m w) {sb : Nat} (hmB : Mu m w sb 226 (bz (asf 37))) : Calls Tryz.prog 171 #[.pointer (some ⟨sb, 0, none⟩), u8 111] w (Ret fun v w' => ∃ m', v = .bool true ∧ Fr no m w m' w') := by
 refine enter Tryz.func171 rfl (fun c0 hT d0 => ?_)
 have b0 : c0.tmps.size = 10 := by rw [hT]; kernel_rfl
 have h0 : c0.tmps.getD 0 undef = .pointer (some ⟨sb, 0, none⟩) := by rw [hT]; kernel_rfl
 have i0 : c0.tmps.getD 1 undef = u8 111 := by rw [hT]; kernel_rfl
 clear hT
 have cu0 : Fr (no) m w m w := Fr.refl ag
 have lt_sb := hmB.lt
 refine sk fun _ e0 => rn <| gv (r_assign (v := .bool false) rfl) <| nl <| e0 <| sk fun _ g0 => rn <| mw b0 h0 <| mw b0 i0 <| nc b0 rfl <| gv (r_idxA (o' := 111) (eh b0 rfl) (eh b0 rfl) qa_226 (by decide) (by rfl)) <| gv (r_load1 (v := .bool ((asf 37).getD 111 false)) (eh b0 rfl) hmB.bk (bz_get (asf_len _) (by decide)) qr_4) <| ms b0 rfl <| nl <| g0 <| wp_ret <| ret_of (res1 rfl _ _ (gh b0 rfl)) ((ov_defers _ _).trans d0) ?_
 exact ⟨m, congrArg Value.bool (by kernel_rfl), cu0⟩

theorem f171_112 {m : Ctx} {w : World} (ag : Ag m w) {sb : Nat} (hmB : Mu m w sb 226 (bz (asf 37))) : Calls Tryz.prog 171 #[.pointer (some ⟨sb, 0, none⟩), u8 112] w (Ret fun v w' => ∃ m', v = .bool true ∧ Fr no m w m' w') := by
 refine enter Tryz.func171 rfl (fun c0 hT d0 => ?_)
 have b0 : c0.tmps.size = 10 := by rw [hT]; kernel_rfl
 have h0 : c0.tmps.getD 0 undef = .pointer (some ⟨sb, 0, none⟩) := by rw [hT]; kernel_rfl
 have i0 : c0.tmps.getD 1 undef = u8 112 := by rw [hT]; kernel_rfl
 clear hT
 have cu0 : Fr (no) m w m w := Fr.refl ag
 have lt_sb := hmB.lt
 refine sk fun _ e0 => rn <| gv (r_assign (v := .bool false) rfl) <| nl <| e0 <| sk fun _ g0 => rn <| mw b0 h0 <| mw b0 i0 <| nc b0 rfl <| gv (r_idxA (o' := 112) (eh b0 rfl) (eh b0 rfl) qa_226 (by decide) (by rfl)) <| gv (r_load1 (v := .bool ((asf 37).getD 112 false)) (eh b0 rfl) hmB.bk (bz_get (asf_len _) (by decide)) qr_4) <| ms b0 rfl <| nl <| g0 <| wp_ret <| ret_of (res1 rfl _ _ (gh b0 rfl)) ((ov_defers _ _).trans d0) ?_
 exact ⟨m, congrArg Value.bool (by kernel_rfl), cu0⟩

theorem f158 {m : Ctx} {w : World} (ag : Ag m w) {sb : Nat} (hmB : Mu m w sb 226 (bz (asf 37))) : Calls Tryz.prog 158 #[.string (⟨#[116, 111, 112]⟩ : ByteArray), .pointer (some ⟨sb, 0, none⟩)] w (Ret fun v w' => ∃ m', v = .string ByteArray.empty ∧ Fr no m w m' w') := by
 refine enter Tryz.func158 rfl (fun g0 hT k0 => ?_)
 have b0 : g0.tmps.size = 22 := by rw [hT]; kernel_rfl
 have c0 : g0.tmps.getD 0 undef = .string (⟨#[116, 111, 112]⟩ : ByteArray) := by rw [hT]; kernel_rfl
 have h0 : g0.tmps.getD 1 undef = .pointer (some ⟨sb, 0, none⟩) := by rw [hT]; kernel_rfl
 clear hT
 have cu0 : Fr (no) m w m w := Fr.refl ag
 have lt_sb := hmB.lt
 refine sk fun _ l0 => rn <| gv (r_assign (v := .string ByteArray.empty) rfl) <| nl <| l0 <| sk fun _ q0 => bl <| wp_unroll (n := 5) <| un_step (n := 4) <| sk fun _ w0 => sk fun _ z0 => rn <| mw b0 c0 <| gv (r_lenStr (s := ⟨#[116, 111, 112]⟩) (eh b0 rfl) rfl qu_9) <| gv (r_gtr (j := 0) (eh b0 rfl) rfl) <| nl <| z0 <| cd b0 rfl <| ws <| w0 <| bl <| sk fun _ A0 => sk fun _ B0 => rn <| mw b0 h0 <| mw b0 c0 <| mw b0 c0 <| gv (r_lenStr (s := ⟨#[116, 111, 112]⟩) (eh b0 rfl) rfl qu_9) <| gv (r_sub (j := 1) (eh b0 rfl) rfl (by decide) (by decide)) <| gv (r_indexStr (s := ⟨#[116, 111, 112]⟩) (i := 2) (c := 112) (eh b0 rfl) (eh b0 rfl) qu_9 (by kernel_rfl)) <| gk (k_cl (f171_112 ag hmB) rfl fn_171 (map_cons (eh b0 rfl) (map_cons (eh b0 rfl) map_nil)) (fun P0 S0 F0 => ?_))
 obtain ⟨I0, rfl, d0⟩ := F0
 have K0 := d0.size
 refine gv (r_not (eh b0 rfl)) <| nl <| B0 <| cf (eh b0 rfl) <| ws <| A0 <| rn <| mw b0 c0 <| mw b0 c0 <| gv (r_lenStr (s := ⟨#[116, 111, 112]⟩) (eh b0 rfl) rfl qu_9) <| gv (r_sub (j := 1) (eh b0 rfl) rfl (by decide) (by decide)) <| gv (r_strHi (hi := 2) (s := ⟨#[116, 111, 112]⟩) (s' := ⟨#[116, 111]⟩) (eh b0 rfl) (eh b0 rfl) qu_9 (by decide) (by kernel_rfl)) <| ms b0 rfl <| nl <| in_blk <| un_next <| un_step (n := 3) <| sk fun _ m0 => sk fun _ n0 => rn <| mv b0 rfl <| gv (r_lenStr (s := ⟨#[116, 111]⟩) (eh b0 rfl) rfl qu_9) <| gv (r_gtr (j := 0) (eh b0 rfl) rfl) <| nl <| n0 <| cd b0 rfl <| ws <| m0 <| bl <| sk fun _ o0 => sk fun _ p0 => rn <| mw b0 h0 <| mv b0 rfl <| mv b0 rfl <| gv (r_lenStr (s := ⟨#[116, 111]⟩) (eh b0 rfl) rfl qu_9) <| gv (r_sub (j := 1) (eh b0 rfl) rfl (by decide) (by decide)) <| gv (r_indexStr (s := ⟨#[116, 111]⟩) (i := 1) (c := 111) (eh b0 rfl) (eh b0 rfl) qu_9 (by kernel_rfl)) ?_
 have j0 := (hmB.f0 d0)
 refine gk (k_cl (f171_111 d0.ag j0) rfl fn_171 (map_cons (eh b0 rfl) (map_cons (eh b0 rfl) map_nil)) (fun N0 Q0 D0 => ?_))
 obtain ⟨J0, rfl, e0⟩ := D0
 have L0 := e0.size
 refine gv (r_not (eh b0 rfl)) <| nl <| p0 <| cf (eh b0 rfl) <| ws <| o0 <| rn <| mv b0 rfl <| mv b0 rfl <| gv (r_lenStr (s := ⟨#[116, 111]⟩) (eh b0 rfl) rfl qu_9) <| gv (r_sub (j := 1) (eh b0 rfl) rfl (by decide) (by decide)) <| gv (r_strHi (hi := 1) (s := ⟨#[116, 111]⟩) (s' := ⟨#[116]⟩) (eh b0 rfl) (eh b0 rfl) qu_9 (by decide) (by kernel_rfl)) <| ms b0 rfl <| nl <| in_blk <| un_next <| un_step (n := 2) <| sk fun _ r0 => sk fun _ s0 => rn <| mv b0 rfl <| gv (r_lenStr (s := ⟨#[116]⟩) (eh b0 rfl) rfl qu_9) <| gv (r_gtr (j := 0) (eh b0 rfl) rfl) <| nl <| s0 <| cd b0 rfl <| ws <| r0 <| bl <| sk fun _ u0 => sk fun _ v0 => rn <| mw b0 h0 <| mv b0 rfl <| mv b0 rfl <| gv (r_lenStr (s := ⟨#[116]⟩) (eh b0 rfl) rfl qu_9) <| gv (r_sub (j := 1) (eh b0 rfl) rfl (by decide) (by decide)) <| gv (r_indexStr (s := ⟨#[116]⟩) (i := 0) (c := 116) (eh b0 rfl) (eh b0 rfl) qu_9 (by kernel_rfl)) ?_
 have C0 := (j0.f0 e0)
 refine gk (k_cl (f171_116 e0.ag C0) rfl fn_171 (map_cons (eh b0 rfl) (map_cons (eh b0 rfl) map_nil)) (fun O0 R0 E0 => ?_))
 obtain ⟨G0, rfl, i0⟩ := E0
 have M0 := i0.size
 refine gv (r_not (eh b0 rfl)) <| nl <| v0 <| cf (eh b0 rfl) <| ws <| u0 <| rn <| mv b0 rfl <| mv b0 rfl <| gv (r_lenStr (s := ⟨#[116]⟩) (eh b0 rfl) rfl qu_9) <| gv (r_sub (j := 1) (eh b0 rfl) rfl (by decide) (by decide)) <| gv (r_strHi (hi := 0) (s := ⟨#[116]⟩) (s' := ByteArray.empty) (eh b0 rfl) (eh b0 rfl) qu_9 (by decide) (by kernel_rfl)) <| ms b0 rfl <| nl <| in_blk <| un_next <| un_step (n := 1) <| sk fun _ H0 => sk fun _ x0 => rn <| mv b0 rfl <| gv (r_lenStr (s := ByteArray.empty) (eh b0 rfl) rfl qu_9) <| gv (r_gtr (j := 0) (eh b0 rfl) rfl) <| nl <| x0 <| ce b0 rfl <| we <| q0 <| sk fun _ y0 => rn <| mv b0 rfl <| ms b0 rfl <| nl <| y0 <| wp_ret <| ret_of (res1 rfl _ _ (gh b0 rfl)) ((ov_defers _ _).trans k0) ?_
 exact ⟨G0, rfl, (((cu0.t0 d0).t0 e0).t0 i0)⟩

theorem f157 {m : Ctx} {w : World} (ag : Ag m w) {sb : Nat} (hmB : Mu m w sb 226 (bz (asf 37))) : Calls Tryz.prog 157 #[.string ByteArray.empty, .pointer (some ⟨sb, 0, none⟩)] w (Ret fun v w' => ∃ m', v = .string ByteArray.empty ∧ Fr no m w m' w') := by
 refine enter Tryz.func157 rfl (fun c0 hT e0 => ?_)
 have b0 : c0.tmps.size = 16 := by rw [hT]; kernel_rfl
 have d0 : c0.tmps.getD 0 undef = .string ByteArray.empty := by rw [hT]; kernel_rfl
 have l0 : c0.tmps.getD 1 undef = .pointer (some ⟨sb, 0, none⟩) := by rw [hT]; kernel_rfl
 clear hT
 have cu0 : Fr (no) m w m w := Fr.refl ag
 have lt_sb := hmB.lt
 refine sk fun _ g0 => rn <| gv (r_assign (v := .string ByteArray.empty) rfl) <| nl <| g0 <| sk fun _ h0 => bl <| wp_unroll (n := 5) <| un_step (n := 4) <| sk fun _ k0 => sk fun _ i0 => rn <| mw b0 d0 <| gv (r_lenStr (s := ByteArray.empty) (eh b0 rfl) rfl qu_9) <| gv (r_gtr (j := 0) (eh b0 rfl) rfl) <| nl <| i0 <| ce b0 rfl <| we <| h0 <| sk fun _ j0 => rn <| mw b0 d0 <| ms b0 rfl <| nl <| j0 <| wp_ret <| ret_of (res1 rfl _ _ (gh b0 rfl)) ((ov_defers _ _).trans e0) ?_
 exact ⟨m, rfl, cu0⟩

theorem f138 {m : Ctx} {w : World} (ag : Ag m w) : Calls Tryz.prog 138 #[.string (⟨#[116, 111, 112]⟩ : ByteArray), .string (⟨#[97, 98, 99, 100, 101, 102, 103, 104, 105, 106, 107, 108, 109, 110, 111, 112, 113, 114, 115, 116, 117, 118, 119, 120, 121, 122, 48, 49, 50, 51, 52, 53, 54, 55, 56, 57, 45]⟩ : ByteArray)] w (Ret fun v w' => ∃ m', v = .string ByteArray.empty ∧ Fr no m w m' w') := by
 refine enter Tryz.func138 rfl (fun d0 hT n0 => ?_)
 have b0 : d0.tmps.size = 43 := by rw [hT]; kernel_rfl
 have m0 : d0.tmps.getD 0 undef = .string (⟨#[116, 111, 112]⟩ : ByteArray) := by rw [hT]; kernel_rfl
 have i0 : d0.tmps.getD 1 undef = .string (⟨#[97, 98, 99, 100, 101, 102, 103, 104, 105, 106, 107, 108, 109, 110, 111, 112, 113, 114, 115, 116, 117, 118, 119, 120, 121, 122, 48, 49, 50, 51, 52, 53, 54, 55, 56, 57, 45]⟩ : ByteArray) := by rw [hT]; kernel_rfl
 clear hT
 have cu0 : Fr (no) m w m w := Fr.refl ag
 refine sk fun _ o0 => rn <| gv (r_assign (v := .string ByteArray.empty) rfl) <| nl <| o0 <| sk fun _ p0 => sk fun _ s0 => rn <| mw b0 m0 <| gv (r_eqlStr (s := ⟨#[116, 111, 112]⟩) (t := ByteArray.empty) (eh b0 rfl) rfl) <| mv b0 rfl <| sg (t := 9) rfl rfl b0 (eb b0 rfl (by decide)) (kv (r_move (em b0 rfl rfl i0)) ?_)
 refine sg (t := 9) rfl rfl b0 (eb b0 rfl (by decide)) (kv (r_eqlStr (s := ⟨#[97, 98, 99, 100, 101, 102, 103, 104, 105, 106, 107, 108, 109, 110, 111, 112, 113, 114, 115, 116, 117, 118, 119, 120, 121, 122, 48, 49, 50, 51, 52, 53, 54, 55, 56, 57, 45]⟩) (t := ByteArray.empty) (eh b0 rfl) rfl) ?_)
 refine gv (r_pick_f (eb b0 rfl (by decide)) (eh b0 rfl)) <| nl <| s0 <| ce b0 rfl <| ws <| p0 <| sk fun _ u0 => sk fun _ v0 => rn <| mw b0 i0 <| gv (r_lenStr (s := ⟨#[97, 98, 99, 100, 101, 102, 103, 104, 105, 106, 107, 108, 109, 110, 111, 112, 113, 114, 115, 116, 117, 118, 119, 120, 121, 122, 48, 49, 50, 51, 52, 53, 54, 55, 56, 57, 45]⟩) (eh b0 rfl) rfl qu_9) <| gv (r_eql (j := 1) (eh b0 rfl) rfl) <| mv b0 rfl <| sf (t := 17) (c := false) rfl rfl b0 (eb b0 rfl (by decide)) <| sf (t := 17) (c := false) rfl rfl b0 (eb b0 rfl (by decide)) <| sf (t := 17) (c := false) rfl rfl b0 (eb b0 rfl (by decide)) <| gv (r_pick_f (v := .bool false) (eb b0 rfl (by decide)) rfl) <| nl <| v0 <| cf (eh b0 rfl) <| ws <| u0 <| sk fun _ D0 => sk fun _ w0 => rn <| mw b0 i0 <| gk (k_cl (f156 ag) rfl fn_156 (map_cons (eh b0 rfl) map_nil) (fun P0 U0 y0 => ?_))
 obtain ⟨G0, rfl, e0⟩ := y0
 have I0 := e0.size
 refine mv b0 rfl <| gv (r_extract (v := .agg (bz (asf 37)).toArray) (eh b0 rfl) (by kernel_rfl)) <| gv (r_extract (v := .bool true) (eh b0 rfl) (by kernel_rfl)) <| gk (k_alloc e0.ag qz_226 (fun Q0 C0 k0 g0 E0 => ?_))
 have J0 := g0.size
 have F0 := k0.lt
 refine gz (k_store (L' := bz (asf 37)) (cs := bz (asf 37)) g0.ag (eh b0 rfl) (eh b0 rfl) k0 (by kernel_rfl) (sz_eq sz_226 (Eq.trans (bz_length _) (asf_len _))) (one_bz _) (le_all (Eq.trans (bz_length _) List.length_replicate) (Eq.trans (bz_length _) (asf_len _))) (wr_all (Eq.trans (Eq.trans (bz_length _) List.length_replicate) (Eq.symm (Eq.trans (bz_length _) (asf_len _))))) (fun R0 l0 h0 => ?_))
 have K0 := h0.size
 refine ms b0 rfl <| nl <| w0 <| sk fun _ q0 => rn <| mv b0 rfl <| nl <| q0 <| ct (eh b0 rfl) <| sk fun _ r0 => rn <| mw b0 m0 <| gk (k_cl (f158 h0.ag l0) rfl fn_158 (map_cons (eh b0 rfl) (map_cons (eh b0 rfl) map_nil)) (fun N0 S0 z0 => ?_))
 obtain ⟨H0, rfl, c0⟩ := z0
 have L0 := c0.size
 have x0 := (l0.f0 c0)
 refine gk (k_cl (f157 c0.ag x0) rfl fn_157 (map_cons (eh b0 rfl) (map_cons (eh b0 rfl) map_nil)) (fun O0 T0 A0 => ?_))
 obtain ⟨B0, rfl, j0⟩ := A0
 have M0 := j0.size
 refine ms b0 rfl <| nl <| r0 <| wp_ret <| ret_of (res1 rfl _ _ (gh b0 rfl)) ((ov_defers _ _).trans n0) ?_
 exact ⟨B0, rfl, (((((cu0.t0 e0).t0 g0).tn h0 (by omega)).t0 c0).t0 j0)⟩

theorem f101 {m : Ctx} {w : World} (ag : Ag m w) : Calls Tryz.prog 101 #[.string (⟨#[116, 111, 112]⟩ : ByteArray)] w (Ret fun v w' => ∃ m', v = .bool true ∧ Fr no m w m' w') := by
 refine enter Tryz.func101 rfl (fun d0 hT g0 => ?_)
 have b0 : d0.tmps.size = 15 := by rw [hT]; kernel_rfl
 have c0 : d0.tmps.getD 0 undef = .string (⟨#[116, 111, 112]⟩ : ByteArray) := by rw [hT]; kernel_rfl
 clear hT
 have cu0 : Fr (no) m w m w := Fr.refl ag
 refine sk fun _ h0 => rn <| gv (r_assign (v := .bool false) rfl) <| nl <| h0 <| sk fun _ i0 => rn <| mw b0 c0 <| gv (r_neqStr (s := ⟨#[116, 111, 112]⟩) (t := ByteArray.empty) (eh b0 rfl) rfl) <| mv b0 rfl <| sg (t := 5) rfl rfl b0 (eb b0 rfl (by decide)) (kv (r_move (em b0 rfl rfl c0)) ?_)
 refine sg (t := 5) rfl rfl b0 (eb b0 rfl (by decide)) (kv (r_lenStr (s := ⟨#[116, 111, 112]⟩) (eh b0 rfl) rfl qu_9) ?_)
 refine sg (t := 5) rfl rfl b0 (eb b0 rfl (by decide)) (kv (r_leq (j := 12) (eh b0 rfl) rfl) ?_)
 refine gv (r_pick_t (eb b0 rfl (by decide)) (eh b0 rfl)) <| mv b0 rfl <| sg (t := 10) rfl rfl b0 (eb b0 rfl (by decide)) (kv (r_move (em b0 rfl rfl c0)) ?_)
 refine sg (t := 10) rfl rfl b0 (eb b0 rfl (by decide)) (k_cl (f138 ag) rfl fn_138 (map_cons (eh b0 rfl) (map_cons (v := .string (⟨#[97, 98, 99, 100, 101, 102, 103, 104, 105, 106, 107, 108, 109, 110, 111, 112, 113, 114, 115, 116, 117, 118, 119, 120, 121, 122, 48, 49, 50, 51, 52, 53, 54, 55, 56, 57, 45]⟩ : ByteArray)) rfl map_nil)) (fun m0 n0 j0 => ?_))
 obtain ⟨k0, rfl, e0⟩ := j0
 have l0 := e0.size
 refine sg (t := 10) rfl rfl b0 (eb b0 rfl (by decide)) (kv (r_eqlStr (s := ByteArray.empty) (t := ByteArray.empty) (eh b0 rfl) rfl) ?_)
 refine gv (r_pick_t (eb b0 rfl (by decide)) (eh b0 rfl)) <| ms b0 rfl <| nl <| i0 <| wp_ret <| ret_of (res1 rfl _ _ (gh b0 rfl)) ((ov_defers _ _).trans g0) ?_
 exact ⟨k0, rfl, (cu0.t0 e0)⟩

theorem f102 {m : Ctx} {w : World} (ag : Ag m w) {v : Nat} (h1 : 1 ≤ v) (h2 : v ≤ 1073741824) : Calls Tryz.prog 102 #[nn v] w (Ret fun v w' => ∃ m', v = .bool true ∧ Fr no m w m' w') := by
 refine enter Tryz.func102 rfl (fun d0 hT g0 => ?_)
 have b0 : d0.tmps.size = 9 := by rw [hT]; kernel_rfl
 have e0 : d0.tmps.getD 0 undef = nn v := by rw [hT]; kernel_rfl
 clear hT
 have cu0 : Fr (no) m w m w := Fr.refl ag
 refine sk fun _ h0 => rn <| gv (r_assign (v := .bool false) rfl) <| nl <| h0 <| sk fun _ i0 => rn <| mw b0 e0 <| gv (r_geq (j := 1) (eh b0 rfl) rfl) <| mv b0 rfl ?_
 have c0 : (decide (1 ≤ v)) = true := (decide_eq_true h1)
 refine sg (t := 5) rfl rfl b0 (eb b0 rfl c0) (kv (r_move (em b0 rfl rfl e0)) ?_)
 refine sg (t := 5) rfl rfl b0 (eb b0 rfl c0) (kv (r_leq (j := 1073741824) (eh b0 rfl) rfl) ?_)
 refine gv (r_pick_t (eb b0 rfl c0) (eh b0 rfl)) <| ms b0 rfl <| nl <| i0 <| wp_ret <| ret_of (res1 rfl _ _ (gh b0 rfl)) ((ov_defers _ _).trans g0) ?_
 exact ⟨m, congrArg Value.bool (decide_eq_true h2), cu0⟩

theorem f103 {m : Ctx} {w : World} (ag : Ag m w) {v : Nat} (h2 : v ≤ 1073741824) : Calls Tryz.prog 103 #[nn v] w (Ret fun v w' => ∃ m', v = .bool true ∧ Fr no m w m' w') := by
 refine enter Tryz.func103 rfl (fun d0 hT g0 => ?_)
 have b0 : d0.tmps.size = 9 := by rw [hT]; kernel_rfl
 have e0 : d0.tmps.getD 0 undef = nn v := by rw [hT]; kernel_rfl
 clear hT
 have cu0 : Fr (no) m w m w := Fr.refl ag
 refine sk fun _ h0 => rn <| gv (r_assign (v := .bool false) rfl) <| nl <| h0 <| sk fun _ i0 => rn <| mw b0 e0 <| gv (r_geq (j := 0) (eh b0 rfl) rfl) <| mv b0 rfl ?_
 have c0 : (decide (0 ≤ v)) = true := (decide_eq_true (by omega))
 refine sg (t := 5) rfl rfl b0 (eb b0 rfl c0) (kv (r_move (em b0 rfl rfl e0)) ?_)
 refine sg (t := 5) rfl rfl b0 (eb b0 rfl c0) (kv (r_leq (j := 1073741824) (eh b0 rfl) rfl) ?_)
 refine gv (r_pick_t (eb b0 rfl c0) (eh b0 rfl)) <| ms b0 rfl <| nl <| i0 <| wp_ret <| ret_of (res1 rfl _ _ (gh b0 rfl)) ((ov_defers _ _).trans g0) ?_
 exact ⟨m, congrArg Value.bool (decide_eq_true h2), cu0⟩

theorem f163 {m : Ctx} {w : World} (ag : Ag m w) {A : Option Addr} {c : Nat} {q : Bytes} : Calls Tryz.prog 163 #[.slice A 0 c, H q] w (Ret fun v w' => ∃ m', v = .int .i64 (-1) ∧ Fr no m w m' w') := by
 refine enter Tryz.func163 rfl (fun c0 hT e0 => ?_)
 have b0 : c0.tmps.size = 19 := by rw [hT]; kernel_rfl
 have m0 : c0.tmps.getD 0 undef = .slice A 0 c := by rw [hT]; kernel_rfl
 have n0 : c0.tmps.getD 1 undef = H q := by rw [hT]; kernel_rfl
 clear hT
 have cu0 : Fr (no) m w m w := Fr.refl ag
 refine sk fun _ g0 => rn <| gk (k_box (L := hc q) ag (em b0 rfl rfl n0) (by kernel_rfl) (fun u0 o0 l0 d0 q0 => ?_))
 have s0 := d0.size
 have r0 := l0.lt
 refine gv (r_assign (v := nn 0) rfl) <| nl <| g0 <| sk fun _ j0 => sk fun _ k0 => rn <| mw b0 m0 <| gv (r_lenS (eh b0 rfl) rfl qu_27) <| gv (r_move (v := nn 0) rfl) <| nl <| k0 <| bl <| wp_unroll (n := 1) <| un_step (n := 0) <| sk fun _ h0 => rn <| gv (r_lss (eh b0 rfl) (eh b0 rfl)) <| nl <| h0 <| sk fun _ p0 => ce b0 rfl <| we <| j0 <| sk fun _ i0 => rn <| gv (r_assign (v := .int .i64 (-1)) rfl) <| nl <| i0 <| wp_ret <| ret_of (res1 rfl _ _ (gh b0 rfl)) ((ov_defers _ _).trans e0) ?_
 exact ⟨m, rfl, (cu0.t0 d0)⟩

theorem f142 {m : Ctx} {w : World} (ag : Ag m w) {A : Option Addr} {c : Nat} {q : Bytes} : Calls Tryz.prog 142 #[.slice A 0 c, H q] w (Ret fun v w' => ∃ m', v = .bool false ∧ Fr no m w m' w') := by
 refine enter Tryz.func142 rfl (fun c0 hT h0 => ?_)
 have b0 : c0.tmps.size = 9 := by rw [hT]; kernel_rfl
 have m0 : c0.tmps.getD 0 undef = .slice A 0 c := by rw [hT]; kernel_rfl
 have n0 : c0.tmps.getD 1 undef = H q := by rw [hT]; kernel_rfl
 clear hT
 have cu0 : Fr (no) m w m w := Fr.refl ag
 refine sk fun _ i0 => rn <| gk (k_box (L := hc q) ag (em b0 rfl rfl n0) (by kernel_rfl) (fun w0 o0 g0 d0 p0 => ?_))
 have s0 := d0.size
 have q0 := g0.lt
 refine gv (r_assign (v := .bool false) rfl) <| nl <| i0 <| sk fun _ j0 => rn <| mw b0 m0 <| gv (lb (cs := hc q) (eh b0 rfl) g0.bk qr_23 sz_23) <| gk (k_cl (f163 d0.ag) rfl fn_163 (map_cons (eh b0 rfl) (map_cons (eh b0 rfl) map_nil)) (fun u0 v0 k0 => ?_))
 obtain ⟨l0, rfl, e0⟩ := k0
 have r0 := e0.size
 refine gv (r_geqz0 (eh b0 rfl) rfl) <| ms b0 rfl <| nl <| j0 <| wp_ret <| ret_of (res1 rfl _ _ (gh b0 rfl)) ((ov_defers _ _).trans h0) ?_
 exact ⟨l0, rfl, ((cu0.t0 d0).t0 e0)⟩

theorem f122 {m : Ctx} {w : World} (ag : Ag m w) {k1 : Bytes} {L : Option Addr} {lc : Nat} (hL : Sl m L 1 lc 32 (hc k1)) : Calls Tryz.prog 122 #[.agg ([.slice L 1 lc, nn 1]).toArray] w (Ret fun v w' => ∃ m', v = .bool true ∧ Fr no m w m' w') := by
 refine enter Tryz.func122 rfl (fun n0 hT s0 => ?_)
 have b0 : n0.tmps.size = 43 := by rw [hT]; kernel_rfl
 have Q0 : n0.tmps.getD 0 undef = .agg ([.slice L 1 lc, nn 1]).toArray := by rw [hT]; kernel_rfl
 clear hT
 have cu0 : Fr (no) m w m w := Fr.refl ag
 refine sk fun _ u0 => rn <| gk (k_box (L := [.slice L 1 lc, nn 1]) ag (em b0 rfl rfl Q0) (by kernel_rfl) (fun h1 T0 d0 i0 X0 => ?_))
 have e1 := i0.size
 have Z0 := d0.lt
 refine gv (r_assign (v := .bool false) rfl) <| nl <| u0 <| sk fun _ E0 => sk fun _ F0 => rn <| gv (r_field (o' := 0) (eh b0 rfl) fo_32_0 (by rfl)) <| gv (la (v := .slice L 1 lc) (eh b0 rfl) d0.bk qr_27) <| gv (r_lenS (eh b0 rfl) rfl qu_27) <| gv (r_lss (j := 1) (eh b0 rfl) rfl) <| mv b0 rfl <| sg (t := 9) rfl rfl b0 (eb b0 rfl (by decide)) (kv (r_field (o' := 0) (eh b0 rfl) fo_32_0 (by rfl)) ?_)
 refine sg (t := 9) rfl rfl b0 (eb b0 rfl (by decide)) (kv (la (v := .slice L 1 lc) (eh b0 rfl) d0.bk qr_27) ?_)
 refine sg (t := 9) rfl rfl b0 (eb b0 rfl (by decide)) (kv (r_lenS (eh b0 rfl) rfl qu_27) ?_)
 refine sg (t := 9) rfl rfl b0 (eb b0 rfl (by decide)) (kv (r_gtr (j := 4) (eh b0 rfl) rfl) ?_)
 refine gv (r_pick_f (eb b0 rfl (by decide)) (eh b0 rfl)) <| mv b0 rfl <| sg (t := 15) rfl rfl b0 (eb b0 rfl (by decide)) (kv (r_field (o' := 1) (eh b0 rfl) fo_32_1 (by rfl)) ?_)
 refine sg (t := 15) rfl rfl b0 (eb b0 rfl (by decide)) (kv (la (v := nn 1) (eh b0 rfl) d0.bk qr_3) ?_)
 refine sg (t := 15) rfl rfl b0 (eb b0 rfl (by decide)) (kv (r_lss (j := 1) (eh b0 rfl) rfl) ?_)
 refine gv (r_pick_f (eb b0 rfl (by decide)) (eh b0 rfl)) <| mv b0 rfl <| sg (t := 20) rfl rfl b0 (eb b0 rfl (by decide)) (kv (r_field (o' := 1) (eh b0 rfl) fo_32_1 (by rfl)) ?_)
 refine sg (t := 20) rfl rfl b0 (eb b0 rfl (by decide)) (kv (la (v := nn 1) (eh b0 rfl) d0.bk qr_3) ?_)
 refine sg (t := 20) rfl rfl b0 (eb b0 rfl (by decide)) (kv (r_field (o' := 0) (eh b0 rfl) fo_32_0 (by rfl)) ?_)
 refine sg (t := 20) rfl rfl b0 (eb b0 rfl (by decide)) (kv (la (v := .slice L 1 lc) (eh b0 rfl) d0.bk qr_27) ?_)
 refine sg (t := 20) rfl rfl b0 (eb b0 rfl (by decide)) (kv (r_lenS (eh b0 rfl) rfl qu_27) ?_)
 refine sg (t := 20) rfl rfl b0 (eb b0 rfl (by decide)) (kv (r_gtr (eh b0 rfl) (eh b0 rfl)) ?_)
 refine gv (r_pick_f (eb b0 rfl (by decide)) (eh b0 rfl)) <| nl <| F0 <| ce b0 rfl <| ws <| E0 <| sk fun _ v0 => sk fun _ w0 => rn <| gv (r_field (o' := 0) (eh b0 rfl) fo_32_0 (by rfl)) <| gv (la (v := .slice L 1 lc) (eh b0 rfl) d0.bk qr_27) <| gv (r_lenS (eh b0 rfl) rfl qu_27) <| gv (r_move (v := nn 0) rfl) <| nl <| w0 <| bl <| wp_unroll (n := 2) <| un_step (n := 1) <| sk fun _ x0 => rn <| gv (r_lss (eh b0 rfl) (eh b0 rfl)) <| nl <| x0 <| sk fun _ y0 => cd b0 rfl <| ws <| y0 <| sk fun _ z0 => bl <| sk fun _ A0 => rn <| mv b0 rfl ?_
 have q0 := (hL.up i0)
 obtain ⟨o0, m0, R0, rfl, J0, L0⟩ := q0.elem (by omega)
 refine gv (r_idxS (o' := m0 + 0) (eh b0 rfl) (eh b0 rfl) qs_27 (by decide) (by omega)) <| gv (r_loadN (cs := hc k1) (eh b0 rfl) (i0.ag _ _ J0) (Eq.trans (rd_sub L0 (by omega)) (by kernel_rfl)) (by kernel_rfl) qr_23 sz_23) <| gk (k_alloc i0.ag qz_23 (fun i1 S0 p0 g0 W0 => ?_))
 have a1 := g0.size
 have Y0 := p0.lt
 refine ms b0 rfl <| gz (kt (L' := hc k1) g0.ag (eh b0 rfl) (eh b0 rfl) p0 sz_23 (fun j0 I0 h0 => ?_))
 have b1 := h0.size
 refine nl <| A0 <| sk fun _ B0 => ?_
 have c0 : Fr no m j0 m { j0 with drawn := j0.drawn + 1 } := Fr.drw h0.ag
 obtain ⟨k0, r0⟩ : ∃ w_, w_ = ({ j0 with drawn := j0.drawn + 1 } : World) := ⟨_, rfl⟩
 rw [← r0] at c0
 have c1 := c0.size
 refine wp_region_T mixed (fun wz => ∃ mz, Fr (no) m k0 mz wz) (fun wz => ∃ mz, Fr (no) m k0 mz wz) 6 ?_
 rw [← r0]
 show wpAnyT _ _ _ _ _ 6 _ _ _
 have e0 : Fr (no) m k0 m k0 := Fr.refl c0.ag
 refine tkk (i := 0) rfl rfl (fun _ _ => r_field (o' := 0) (eh b0 rfl) fo_32_0 (by rfl)) ⟨_, e0⟩ ?_
 have G0 := (((d0.f0 g0).f1 h0 (by omega)).f0 c0)
 refine tkk (i := 1) rfl rfl (fun wz ⟨mz, hz⟩ => la (v := .slice (some ⟨o0, m0, none⟩) 1 lc) (eh b0 rfl) (hz.ex G0.bk (fun h => h)) qr_27) ⟨_, e0⟩ <| tkk (i := 2) rfl rfl (fun _ _ => r_move (eh b0 rfl)) ⟨_, e0⟩ ?_
 have N0 := Fr.ll (Fr.l2 g0 h0) c0
 have M0 := q0.le N0
 have V0 : Sl m (some ⟨o0, m0, none⟩) 0 lc 32 [] := by have h_ := M0.hi (hi := 0) (Nat.zero_le _); simpa using h_
 refine tkk (i := 3) rfl rfl (fun _ _ => r_sliceHi (n := 1) (c := lc) (hi := 0) (eh b0 rfl) (eh b0 rfl) qs_27 (Nat.zero_le _)) ⟨_, e0⟩ ?_
 have H0 := (I0.f0 c0)
 refine tkk (i := 4) rfl rfl (fun wz ⟨mz, hz⟩ => lb (cs := hc k1) (eh b0 rfl) (hz.ex H0.bk (fun h => h)) qr_23 sz_23) ⟨_, e0⟩ <| ann (i := 5) (b := true) rfl rfl (k_cl (f142 c0.ag) rfl fn_142 (map_cons (eh b0 rfl) (map_cons (eh b0 rfl) map_nil)) (fun g1 j1 K0 => ?_))
 obtain ⟨O0, rfl, l0⟩ := K0
 have d1 := l0.size
 have P0 := e0.t0 l0
 refine ⟨(tbT ⟨_, P0⟩), ?_⟩
 refine anyT_done (by kernel_rfl) ?_ _
 refine B0 <| cf (eh b0 rfl) <| ws <| z0 <| rn <| gv (r_add (j := 1) (eh b0 rfl) rfl (by decide)) <| mv b0 rfl <| nl <| un_next <| un_step (n := 0) <| sk fun _ C0 => rn <| gv (r_lss (eh b0 rfl) (eh b0 rfl)) <| nl <| C0 <| sk fun _ U0 => ce b0 rfl <| we <| v0 <| sk fun _ D0 => rn <| gv (r_assign (v := .bool true) rfl) <| nl <| D0 <| wp_ret <| ret_of (res1 rfl _ _ (gh b0 rfl)) ((ov_defers _ _).trans s0) ?_
 exact ⟨O0, rfl, (((((cu0.t0 i0).t0 g0).tn h0 (by omega)).t0 c0).t0 l0)⟩

theorem f71 {m : Ctx} {w : World} (ag : Ag m w) {q0 q1 q2 q3 : Bytes} {L0 L1 L2 L3 : Option Addr} {l0 l1 l2 l3 v1 : Nat} (hL0 : Sl m L0 1 l0 32 (hc q0)) (hL1 : Sl m L1 1 l1 32 (hc q1)) (hL2 : Sl m L2 1 l2 32 (hc q2)) (hL3 : Sl m L3 1 l3 32 (hc q3)) (hv : v1 < 128) (hv1 : 1 ≤ v1) : Calls Tryz.prog 71 #[.agg ([nn v1, nn 1073741824, .slice L0 1 l0, nn 1, .slice L1 1 l1, nn 1, .slice L2 1 l2, nn 1, .slice L3 1 l3, nn 1]).toArray] w (Ret fun v w' => ∃ m', v = .bool true ∧ Fr no m w m' w') := by
 refine enter Tryz.func71 rfl (fun v0 hT I0 => ?_)
 have b0 : v0.tmps.size = 22 := by rw [hT]; kernel_rfl
 have E1 : v0.tmps.getD 0 undef = .agg ([nn v1, nn 1073741824, .slice L0 1 l0, nn 1, .slice L1 1 l1, nn 1, .slice L2 1 l2, nn 1, .slice L3 1 l3, nn 1]).toArray := by rw [hT]; kernel_rfl
 clear hT
 have cu0 : Fr (no) m w m w := Fr.refl ag
 refine sk fun _ J0 => rn <| gk (k_box (L := [nn v1, nn 1073741824, .slice L0 1 l0, nn 1, .slice L1 1 l1, nn 1, .slice L2 1 l2, nn 1, .slice L3 1 l3, nn 1]) ag (em b0 rfl rfl E1) (by kernel_rfl) (fun D2 G1 u0 s0 O1 => ?_))
 have o2 := s0.size
 have S1 := u0.lt
 refine gv (r_assign (v := .bool false) rfl) <| nl <| J0 <| sk fun _ d1 => sk fun _ i1 => rn <| gv (r_field (o' := 2) (eh b0 rfl) fo_35_2 (by rfl)) <| gv (lb (cs := [.slice L0 1 l0, nn 1, .slice L1 1 l1, nn 1, .slice L2 1 l2, nn 1, .slice L3 1 l3, nn 1]) (eh b0 rfl) u0.bk qr_33 sz_33) <| gv (r_move (v := nn 0) rfl) <| nl <| i1 <| bl <| wp_unroll (n := 5) <| un_step (n := 4) <| sk fun _ K0 => rn <| gv (r_lss (j := 4) (eh b0 rfl) rfl) <| nl <| K0 <| sk fun _ O0 => cd b0 rfl <| ws <| O0 <| sk fun _ P0 => bl <| sk fun _ Q0 => rn <| gv (r_indexN (cs := [.slice L0 1 l0, nn 1]) (i := 0) (eh b0 rfl) (eh b0 rfl) qa_33 qr_32 (by decide) (by kernel_rfl)) <| gk (k_alloc s0.ag qz_32 (fun C2 F1 y0 c0 M1 => ?_))
 have e2 := c0.size
 have R1 := y0.lt
 refine gz (kt (L' := [.slice L0 1 l0, nn 1]) c0.ag (eh b0 rfl) (eh b0 rfl) y0 sz_32 (fun E2 m1 d0 => ?_))
 have g2 := d0.size
 refine nl <| Q0 <| sk fun _ R0 => rn <| gv (lb (cs := [.slice L0 1 l0, nn 1]) (eh b0 rfl) m1.bk qr_32 sz_32) ?_
 have C0 := Fr.ll (Fr.l2 s0 c0) d0
 have y1 := hL0.le C0
 refine gk (k_cl (f122 d0.ag y1) rfl fn_122 (map_cons (eh b0 rfl) map_nil) (fun v2 F2 t1 => ?_))
 obtain ⟨X1, rfl, e0⟩ := t1
 have h2 := e0.size
 refine gv (r_not (eh b0 rfl)) <| nl <| R0 <| cf (eh b0 rfl) <| ws <| P0 <| rn <| gv (r_add (j := 1) (eh b0 rfl) rfl (by decide)) <| mv b0 rfl <| nl <| un_next <| un_step (n := 3) <| sk fun _ S0 => rn <| gv (r_lss (j := 4) (eh b0 rfl) rfl) <| nl <| S0 <| sk fun _ T0 => cd b0 rfl <| ws <| T0 <| sk fun _ U0 => bl <| sk fun _ V0 => rn <| gv (r_indexN (cs := [.slice L1 1 l1, nn 1]) (i := 1) (eh b0 rfl) (eh b0 rfl) qa_33 qr_32 (by decide) (by kernel_rfl)) <| gk (k_alloc e0.ag qz_32 (fun G2 H1 z0 g0 N1 => ?_))
 have i2 := g0.size
 have T1 := z0.lt
 refine gz (kt (L' := [.slice L1 1 l1, nn 1]) g0.ag (eh b0 rfl) (eh b0 rfl) z0 sz_32 (fun H2 n1 h0 => ?_))
 have j2 := h0.size
 refine nl <| V0 <| sk fun _ W0 => rn <| gv (lb (cs := [.slice L1 1 l1, nn 1]) (eh b0 rfl) n1.bk qr_32 sz_32) ?_
 have D0 := Fr.ll (Fr.ll (Fr.ll C0 e0) g0) h0
 have z1 := hL1.le D0
 refine gk (k_cl (f122 h0.ag z1) rfl fn_122 (map_cons (eh b0 rfl) map_nil) (fun x2 I2 u1 => ?_))
 obtain ⟨Y1, rfl, i0⟩ := u1
 have k2 := i0.size
 refine gv (r_not (eh b0 rfl)) <| nl <| W0 <| cf (eh b0 rfl) <| ws <| U0 <| rn <| gv (r_add (j := 1) (eh b0 rfl) rfl (by decide)) <| mv b0 rfl <| nl <| un_next <| un_step (n := 2) <| sk fun _ X0 => rn <| gv (r_lss (j := 4) (eh b0 rfl) rfl) <| nl <| X0 <| sk fun _ Y0 => cd b0 rfl <| ws <| Y0 <| sk fun _ Z0 => bl <| sk fun _ a1 => rn <| gv (r_indexN (cs := [.slice L2 1 l2, nn 1]) (i := 2) (eh b0 rfl) (eh b0 rfl) qa_33 qr_32 (by decide) (by kernel_rfl)) <| gk (k_alloc i0.ag qz_32 (fun J2 I1 A0 j0 P1 => ?_))
 have m2 := j0.size
 have U1 := A0.lt
 refine gz (kt (L' := [.slice L2 1 l2, nn 1]) j0.ag (eh b0 rfl) (eh b0 rfl) A0 sz_32 (fun K2 o1 k0 => ?_))
 have n2 := k0.size
 refine nl <| a1 <| sk fun _ b1 => rn <| gv (lb (cs := [.slice L2 1 l2, nn 1]) (eh b0 rfl) o1.bk qr_32 sz_32) ?_
 have E0 := Fr.ll (Fr.ll (Fr.ll D0 i0) j0) k0
 have A1 := hL2.le E0
 refine gk (k_cl (f122 k0.ag A1) rfl fn_122 (map_cons (eh b0 rfl) map_nil) (fun y2 M2 w1 => ?_))
 obtain ⟨Z1, rfl, m0⟩ := w1
 have p2 := m0.size
 refine gv (r_not (eh b0 rfl)) <| nl <| b1 <| cf (eh b0 rfl) <| ws <| Z0 <| rn <| gv (r_add (j := 1) (eh b0 rfl) rfl (by decide)) <| mv b0 rfl <| nl <| un_next <| un_step (n := 1) <| sk fun _ c1 => rn <| gv (r_lss (j := 4) (eh b0 rfl) rfl) <| nl <| c1 <| sk fun _ e1 => cd b0 rfl <| ws <| e1 <| sk fun _ g1 => bl <| sk fun _ h1 => rn <| gv (r_indexN (cs := [.slice L3 1 l3, nn 1]) (i := 3) (eh b0 rfl) (eh b0 rfl) qa_33 qr_32 (by decide) (by kernel_rfl)) <| gk (k_alloc m0.ag qz_32 (fun N2 J1 B0 n0 Q1 => ?_))
 have r2 := n0.size
 have V1 := B0.lt
 refine gz (kt (L' := [.slice L3 1 l3, nn 1]) n0.ag (eh b0 rfl) (eh b0 rfl) B0 sz_32 (fun O2 p1 o0 => ?_))
 have s2 := o0.size
 refine nl <| h1 <| sk fun _ j1 => rn <| gv (lb (cs := [.slice L3 1 l3, nn 1]) (eh b0 rfl) p1.bk qr_32 sz_32) ?_
 have C1 := Fr.ll (Fr.ll (Fr.ll E0 m0) n0) o0
 have B1 := hL3.le C1
 refine gk (k_cl (f122 o0.ag B1) rfl fn_122 (map_cons (eh b0 rfl) map_nil) (fun z2 P2 x1 => ?_))
 obtain ⟨a2, rfl, p0⟩ := x1
 have b2 := p0.size
 refine gv (r_not (eh b0 rfl)) <| nl <| j1 <| cf (eh b0 rfl) <| ws <| g1 <| rn <| gv (r_add (j := 1) (eh b0 rfl) rfl (by decide)) <| mv b0 rfl <| nl <| un_next <| un_step (n := 0) <| sk fun _ M0 => rn <| gv (r_lss (j := 4) (eh b0 rfl) rfl) <| nl <| M0 <| sk fun _ K1 => ce b0 rfl <| we <| d1 <| sk fun _ N0 => rn <| gv (r_field (o' := 0) (eh b0 rfl) fo_35_0 (by rfl)) ?_
 have F0 := e0.t0 g0
 have G0 := i0.t0 j0
 have H0 := m0.t0 n0
 have x0 := (((((((((u0.f0 c0).f1 d0 (by omega)).f0 F0).f1 h0 (by omega)).f0 G0).f1 k0 (by omega)).f0 H0).f1 o0 (by omega)).f0 p0)
 refine gv (la (v := nn v1) (eh b0 rfl) x0.bk qr_3) <| gk (k_cl (f102 p0.ag (by omega) (by omega)) rfl fn_102 (map_cons (eh b0 rfl) map_nil) (fun t2 A2 r1 => ?_))
 obtain ⟨W1, rfl, r0⟩ := r1
 have c2 := r0.size
 refine mv b0 rfl <| sg (t := 17) rfl rfl b0 (eh b0 rfl) (kv (r_field (o' := 1) (eh b0 rfl) fo_35_1 (by rfl)) ?_)
 have k1 := (x0.f0 r0)
 refine sg (t := 17) rfl rfl b0 (eh b0 rfl) (kv (la (v := nn 1073741824) (eh b0 rfl) k1.bk qr_3) ?_)
 refine sg (t := 17) rfl rfl b0 (eh b0 rfl) (k_cl (f103 r0.ag (by omega)) rfl fn_103 (map_cons (eh b0 rfl) map_nil) (fun u2 B2 s1 => ?_))
 obtain ⟨D1, rfl, w0⟩ := s1
 have d2 := w0.size
 refine gv (r_pick_t (eh b0 rfl) (eh b0 rfl)) <| ms b0 rfl <| nl <| N0 <| wp_ret <| ret_of (res1 rfl _ _ (gh b0 rfl)) ((ov_defers _ _).trans I0) ?_
 exact ⟨D1, rfl, (((((((((((((((cu0.t0 s0).t0 c0).tn d0 (by omega)).t0 e0).t0 g0).tn h0 (by omega)).t0 i0).t0 j0).tn k0 (by omega)).t0 m0).t0 n0).tn o0 (by omega)).t0 p0).t0 r0).t0 w0)⟩

theorem f57 {m : Ctx} {w : World} (ag : Ag m w) {v1 v2 e1 lc : Nat} {L : Option Addr} (hL : Sl m L 1 lc 2 [.string (⟨#[116, 111, 112]⟩ : ByteArray), nn v2]) (hv : v1 < 128) (hv2 : v2 < 128) (he : e1 < 128) (hv1 : 1 ≤ v1) (hv3 : 1 ≤ v2) : Calls Tryz.prog 57 #[.agg ([nn v1, nn e1, .slice L 1 lc]).toArray] w (Ret fun v w' => ∃ m', v = .bool true ∧ Fr no m w m' w') := by
 refine enter Tryz.func57 rfl (fun r0 hT B0 => ?_)
 have b0 : r0.tmps.size = 54 := by rw [hT]; kernel_rfl
 have W0 : r0.tmps.getD 0 undef = .agg ([nn v1, nn e1, .slice L 1 lc]).toArray := by rw [hT]; kernel_rfl
 clear hT
 have cu0 : Fr (no) m w m w := Fr.refl ag
 refine sk fun _ C0 => rn <| gk (k_box (L := [nn v1, nn e1, .slice L 1 lc]) ag (em b0 rfl rfl W0) (by kernel_rfl) (fun x1 Z0 p0 i0 c1 => ?_))
 have r1 := i0.size
 have g1 := p0.lt
 refine gv (r_assign (v := .bool false) rfl) <| nl <| C0 <| sk fun _ K0 => sk fun _ L0 => rn <| gv (r_field (o' := 2) (eh b0 rfl) fo_56_2 (by rfl)) <| gv (la (v := .slice L 1 lc) (eh b0 rfl) p0.bk qr_54) <| gv (r_lenS (eh b0 rfl) rfl qu_54) <| gv (r_move (v := nn 0) rfl) <| nl <| L0 <| bl <| wp_unroll (n := 5) <| un_step (n := 4) <| sk fun _ D0 => rn <| gv (r_lss (eh b0 rfl) (eh b0 rfl)) <| nl <| D0 <| sk fun _ E0 => cd b0 rfl <| ws <| E0 <| sk fun _ F0 => bl <| sk fun _ G0 => rn <| mv b0 rfl ?_
 have U0 := (hL.up i0)
 obtain ⟨z0, y0, X0, rfl, O0, T0⟩ := U0.elem (by omega)
 refine gv (r_idxS (o' := y0 + 0) (eh b0 rfl) (eh b0 rfl) qs_54 (by decide) (by omega)) <| gv (r_loadN (cs := [.string (⟨#[116, 111, 112]⟩ : ByteArray), nn v2]) (eh b0 rfl) (i0.ag _ _ O0) (Eq.trans (rd_sub T0 (by omega)) (by kernel_rfl)) (by kernel_rfl) qr_85 sz_85) <| gk (k_alloc i0.ag qz_85 (fun y1 Y0 w0 k0 b1 => ?_))
 have k1 := k0.size
 have d1 := w0.lt
 refine ms b0 rfl <| gz (kt (L' := [.string (⟨#[116, 111, 112]⟩ : ByteArray), nn v2]) k0.ag (eh b0 rfl) (eh b0 rfl) w0 sz_85 (fun j0 N0 l0 => ?_))
 have l1 := l0.size
 refine nl <| G0 <| sk fun _ H0 => ?_
 have d0 : Fr no m j0 m { j0 with drawn := j0.drawn + 1 } := Fr.drw l0.ag
 obtain ⟨n0, x0⟩ : ∃ w_, w_ = ({ j0 with drawn := j0.drawn + 1 } : World) := ⟨_, rfl⟩
 rw [← x0] at d0
 have m1 := d0.size
 refine wp_region_T mixed (fun wz => ∃ mz, Fr (no) m n0 mz wz) (fun wz => ∃ mz, Fr (no) m n0 mz wz) 26 ?_
 rw [← x0]
 show wpAnyT _ _ _ _ _ 26 _ _ _
 have q0 : Fr (no) m n0 m n0 := Fr.refl d0.ag
 refine tkk (i := 0) rfl rfl (fun _ _ => r_field (o' := 0) (eh b0 rfl) fo_85_0 (by rfl)) ⟨_, q0⟩ ?_
 have s0 := (N0.f0 d0)
 refine tkk (i := 1) rfl rfl (fun wz ⟨mz, hz⟩ => la (v := .string (⟨#[116, 111, 112]⟩ : ByteArray)) (eh b0 rfl) (hz.ex s0.bk (fun h => h)) qr_9) ⟨_, q0⟩ <| ann (i := 2) (b := true) rfl rfl (k_cl (f101 d0.ag) rfl fn_101 (map_cons (eh b0 rfl) map_nil) (fun s1 z1 P0 => ?_))
 obtain ⟨h1, rfl, g0⟩ := P0
 have n1 := g0.size
 have e0 := q0.t0 g0
 refine ⟨(tbT ⟨_, e0⟩), ?_⟩
 refine tkk (i := 3) rfl rfl (fun _ _ => r_not (eh b0 rfl)) ⟨_, e0⟩ <| tkk (i := 4) rfl rfl (fun _ _ => r_move (eh b0 rfl)) ⟨_, e0⟩ <| tkk (i := 5) (hw := wg (t := 17) rfl b0 (eh b0 rfl)) rfl rfl (fun _ _ => r_field (o' := 1) (eh b0 rfl) fo_85_1 (by rfl)) ⟨_, e0⟩ <| tkk (i := 6) (hw := wg (t := 17) rfl b0 (eh b0 rfl)) rfl rfl (fun wz ⟨mz, hz⟩ => la (v := nn v2) (eh b0 rfl) (hz.ex s0.bk (fun h => h)) qr_3) ⟨_, e0⟩ <| ayy (i := 7) (b := true) rfl rfl (wg (t := 17) rfl b0 (eh b0 rfl)) (k_cl (f102 g0.ag (by omega) (by omega)) rfl fn_102 (map_cons (eh b0 rfl) map_nil) (fun t1 A1 Q0 => ?_))
 obtain ⟨i1, rfl, h0⟩ := Q0
 have o1 := h0.size
 have c0 := e0.t0 h0
 refine ⟨(tbT ⟨_, c0⟩), ?_⟩
 refine tkk (i := 8) (hw := wg (t := 17) rfl b0 (eh b0 rfl)) rfl rfl (fun _ _ => r_not (eh b0 rfl)) ⟨_, c0⟩ <| tkk (i := 9) rfl rfl (fun _ _ => r_pick_f (eh b0 rfl) (eh b0 rfl)) ⟨_, c0⟩ <| tkk (i := 10) rfl rfl (fun _ _ => r_move (eh b0 rfl)) ⟨_, c0⟩ <| tkk (i := 11) (hw := wg (t := 23) rfl b0 (eh b0 rfl)) rfl rfl (fun _ _ => r_move (eh b0 rfl)) ⟨_, c0⟩ <| tkk (i := 12) (hw := wg (t := 23) rfl b0 (eh b0 rfl)) rfl rfl (fun _ _ => r_gtr (j := 0) (eh b0 rfl) rfl) ⟨_, c0⟩ <| tkk (i := 13) (hw := wg (t := 23) rfl b0 (eh b0 rfl)) rfl rfl (fun _ _ => r_move (eh b0 rfl)) ⟨_, c0⟩ <| tnn (i := 14) (b := true) rfl rfl (fun _ h => h) (wn (t := 26) (c := false) rfl b0 (eb b0 rfl (by decide))) (tbT ⟨_, c0⟩) <| tnn (i := 15) (b := true) rfl rfl (fun _ h => h) (wn (t := 26) (c := false) rfl b0 (eb b0 rfl (by decide))) (tbT ⟨_, c0⟩) <| tnn (i := 16) (b := true) rfl rfl (fun _ h => h) (wn (t := 26) (c := false) rfl b0 (eb b0 rfl (by decide))) (tbT ⟨_, c0⟩) <| tnn (i := 17) (b := true) rfl rfl (fun _ h => h) (wn (t := 26) (c := false) rfl b0 (eb b0 rfl (by decide))) (tbT ⟨_, c0⟩) <| tnn (i := 18) (b := true) rfl rfl (fun _ h => h) (wn (t := 26) (c := false) rfl b0 (eb b0 rfl (by decide))) (tbT ⟨_, c0⟩) <| tnn (i := 19) (b := true) rfl rfl (fun _ h => h) (wn (t := 26) (c := false) rfl b0 (eb b0 rfl (by decide))) (tbT ⟨_, c0⟩) <| tnn (i := 20) (b := true) rfl rfl (fun _ h => h) (wn (t := 26) (c := false) rfl b0 (eb b0 rfl (by decide))) (tbT ⟨_, c0⟩) <| tnn (i := 21) (b := true) rfl rfl (fun _ h => h) (wn (t := 26) (c := false) rfl b0 (eb b0 rfl (by decide))) (tbT ⟨_, c0⟩) ?_
 refine tnn (i := 22) (b := true) rfl rfl (fun _ h => h) (wn (t := 26) (c := false) rfl b0 (eb b0 rfl (by decide))) (tbT ⟨_, c0⟩) <| tnn (i := 23) (b := true) rfl rfl (fun _ h => h) (wn (t := 26) (c := false) rfl b0 (eb b0 rfl (by decide))) (tbT ⟨_, c0⟩) <| tkk (i := 24) (hw := wg (t := 23) rfl b0 (eh b0 rfl)) rfl rfl (fun _ _ => r_pick_f (v := .bool false) (eb b0 rfl (by decide)) rfl) ⟨_, c0⟩ <| tkk (i := 25) rfl rfl (fun _ _ => r_pick_f (eh b0 rfl) (eh b0 rfl)) ⟨_, c0⟩ <| anyT_done (by kernel_rfl) ?_ _
 refine H0 <| cf (eh b0 rfl) <| ws <| F0 <| rn <| gv (r_add (j := 1) (eh b0 rfl) rfl (by decide)) <| mv b0 rfl <| nl <| un_next <| un_step (n := 3) <| sk fun _ I0 => rn <| gv (r_lss (eh b0 rfl) (eh b0 rfl)) <| nl <| I0 <| sk fun _ a1 => ce b0 rfl <| we <| K0 <| sk fun _ J0 => rn <| gv (r_field (o' := 0) (eh b0 rfl) fo_56_0 (by rfl)) ?_
 have A0 := (d0.t0 g0).t0 h0
 have u0 := (((p0.f0 k0).f1 l0 (by omega)).f0 A0)
 refine gv (la (v := nn v1) (eh b0 rfl) u0.bk qr_3) <| gk (k_cl (f102 h0.ag (by omega) (by omega)) rfl fn_102 (map_cons (eh b0 rfl) map_nil) (fun u1 B1 R0 => ?_))
 obtain ⟨j1, rfl, m0⟩ := R0
 have p1 := m0.size
 refine mv b0 rfl <| sg (t := 43) rfl rfl b0 (eh b0 rfl) (kv (r_field (o' := 1) (eh b0 rfl) fo_56_1 (by rfl)) ?_)
 have v0 := (u0.f0 m0)
 refine sg (t := 43) rfl rfl b0 (eh b0 rfl) (kv (la (v := nn e1) (eh b0 rfl) v0.bk qr_3) ?_)
 refine sg (t := 43) rfl rfl b0 (eh b0 rfl) (k_cl (f103 m0.ag (by omega)) rfl fn_103 (map_cons (eh b0 rfl) map_nil) (fun w1 C1 S0 => ?_))
 obtain ⟨V0, rfl, o0⟩ := S0
 have q1 := o0.size
 refine gv (r_pick_t (eh b0 rfl) (eh b0 rfl)) <| mv b0 rfl <| sg (t := 48) rfl rfl b0 (eh b0 rfl) (kv (r_field (o' := 2) (eh b0 rfl) fo_56_2 (by rfl)) ?_)
 have M0 := (v0.f0 o0)
 refine sg (t := 48) rfl rfl b0 (eh b0 rfl) (kv (la (v := .slice (some ⟨z0, y0, none⟩) 1 lc) (eh b0 rfl) M0.bk qr_54) ?_)
 refine sg (t := 48) rfl rfl b0 (eh b0 rfl) (kv (r_lenS (eh b0 rfl) rfl qu_54) ?_)
 refine sg (t := 48) rfl rfl b0 (eh b0 rfl) (kv (r_leq (j := 16) (eh b0 rfl) rfl) ?_)
 refine gv (r_pick_t (eh b0 rfl) (eh b0 rfl)) <| ms b0 rfl <| nl <| J0 <| wp_ret <| ret_of (res1 rfl _ _ (gh b0 rfl)) ((ov_defers _ _).trans B0) ?_
 exact ⟨V0, rfl, ((((((((cu0.t0 i0).t0 k0).tn l0 (by omega)).t0 d0).t0 g0).t0 h0).t0 m0).t0 o0)⟩

theorem f61 {m : Ctx} {w : World} (ag : Ag m w) {v1 e1 s1 : Nat} {h1 : Bytes} (hv : v1 < 128) (he : e1 < 128) (hs : s1 < 128) (hv1 : 1 ≤ v1) (hs1 : 1 ≤ s1) : Calls Tryz.prog 61 #[.agg ([nn v1, nn e1, nn s1] ++ (hc h1)).toArray] w (Ret fun v w' => ∃ m', v = .bool true ∧ Fr no m w m' w') := by
 refine enter Tryz.func61 rfl (fun h0 hT k0 => ?_)
 have b0 : h0.tmps.size = 16 := by rw [hT]; kernel_rfl
 have s0 : h0.tmps.getD 0 undef = .agg ([nn v1, nn e1, nn s1] ++ (hc h1)).toArray := by rw [hT]; kernel_rfl
 clear hT
 have cu0 : Fr (no) m w m w := Fr.refl ag
 refine sk fun _ l0 => rn <| gk (k_box (L := [nn v1, nn e1, nn s1] ++ (hc h1)) ag (em b0 rfl rfl s0) (by kernel_rfl) (fun I0 u0 g0 e0 v0 => ?_))
 have C0 := e0.size
 have w0 := g0.lt
 refine gv (r_assign (v := .bool false) rfl) <| nl <| l0 <| sk fun _ m0 => rn <| gv (r_field (o' := 0) (eh b0 rfl) fo_53_0 (by rfl)) <| gv (la (v := nn v1) (eh b0 rfl) g0.bk qr_3) <| gk (k_cl (f102 e0.ag (by omega) (by omega)) rfl fn_102 (map_cons (eh b0 rfl) map_nil) (fun F0 G0 o0 => ?_))
 obtain ⟨x0, rfl, c0⟩ := o0
 have z0 := c0.size
 refine mv b0 rfl <| sg (t := 6) rfl rfl b0 (eh b0 rfl) (kv (r_field (o' := 1) (eh b0 rfl) fo_53_1 (by rfl)) ?_)
 have j0 := (g0.f0 c0)
 refine sg (t := 6) rfl rfl b0 (eh b0 rfl) (kv (la (v := nn e1) (eh b0 rfl) j0.bk qr_3) ?_)
 refine sg (t := 6) rfl rfl b0 (eh b0 rfl) (k_cl (f103 c0.ag (by omega)) rfl fn_103 (map_cons (eh b0 rfl) map_nil) (fun D0 H0 p0 => ?_))
 obtain ⟨y0, rfl, d0⟩ := p0
 have A0 := d0.size
 refine gv (r_pick_t (eh b0 rfl) (eh b0 rfl)) <| mv b0 rfl <| sg (t := 11) rfl rfl b0 (eh b0 rfl) (kv (r_field (o' := 2) (eh b0 rfl) fo_53_2 (by rfl)) ?_)
 have n0 := (j0.f0 d0)
 refine sg (t := 11) rfl rfl b0 (eh b0 rfl) (kv (la (v := nn s1) (eh b0 rfl) n0.bk qr_3) ?_)
 refine sg (t := 11) rfl rfl b0 (eh b0 rfl) (k_cl (f102 d0.ag (by omega) (by omega)) rfl fn_102 (map_cons (eh b0 rfl) map_nil) (fun E0 J0 q0 => ?_))
 obtain ⟨r0, rfl, i0⟩ := q0
 have B0 := i0.size
 refine gv (r_pick_t (eh b0 rfl) (eh b0 rfl)) <| ms b0 rfl <| nl <| m0 <| wp_ret <| ret_of (res1 rfl _ _ (gh b0 rfl)) ((ov_defers _ _).trans k0) ?_
 exact ⟨r0, rfl, ((((cu0.t0 e0).t0 c0).t0 d0).t0 i0)⟩

theorem f49 {m : Ctx} {w : World} (ag : Ag m w) {v1 e1 : Nat} (hv : v1 < 128) (he : e1 < 128) (hv1 : 1 ≤ v1) : Calls Tryz.prog 49 #[.agg ([.string (⟨#[116, 111, 112]⟩ : ByteArray), nn v1, nn e1, .slice none 0 0, .slice none 0 0]).toArray] w (Ret fun v w' => ∃ m', v = .bool true ∧ Fr no m w m' w') := by
 refine enter Tryz.func49 rfl (fun j0 hT m0 => ?_)
 have b0 : j0.tmps.size = 82 := by rw [hT]; kernel_rfl
 have C0 : j0.tmps.getD 0 undef = .agg ([.string (⟨#[116, 111, 112]⟩ : ByteArray), nn v1, nn e1, .slice none 0 0, .slice none 0 0]).toArray := by rw [hT]; kernel_rfl
 clear hT
 have cu0 : Fr (no) m w m w := Fr.refl ag
 refine sk fun _ n0 => rn <| gk (k_box (L := [.string (⟨#[116, 111, 112]⟩ : ByteArray), nn v1, nn e1, .slice none 0 0, .slice none 0 0]) ag (em b0 rfl rfl C0) (by kernel_rfl) (fun T0 D0 i0 h0 G0 => ?_))
 have N0 := h0.size
 have H0 := i0.lt
 refine gv (r_assign (v := .bool false) rfl) <| nl <| n0 <| sk fun _ w0 => sk fun _ x0 => rn <| gv (r_field (o' := 0) (eh b0 rfl) fo_82_0 (by rfl)) <| gv (la (v := .string (⟨#[116, 111, 112]⟩ : ByteArray)) (eh b0 rfl) i0.bk qr_9) <| gk (k_cl (f101 h0.ag) rfl fn_101 (map_cons (eh b0 rfl) map_nil) (fun O0 R0 y0 => ?_))
 obtain ⟨I0, rfl, c0⟩ := y0
 have K0 := c0.size
 refine gv (r_not (eh b0 rfl)) <| mv b0 rfl <| sg (t := 11) rfl rfl b0 (eh b0 rfl) (kv (r_field (o' := 1) (eh b0 rfl) fo_82_1 (by rfl)) ?_)
 have k0 := (i0.f0 c0)
 refine sg (t := 11) rfl rfl b0 (eh b0 rfl) (kv (la (v := nn v1) (eh b0 rfl) k0.bk qr_3) ?_)
 refine sg (t := 11) rfl rfl b0 (eh b0 rfl) (k_cl (f102 c0.ag (by omega) (by omega)) rfl fn_102 (map_cons (eh b0 rfl) map_nil) (fun P0 S0 z0 => ?_))
 obtain ⟨J0, rfl, d0⟩ := z0
 have L0 := d0.size
 refine sg (t := 11) rfl rfl b0 (eh b0 rfl) (kv (r_not (eh b0 rfl)) ?_)
 refine gv (r_pick_f (eh b0 rfl) (eh b0 rfl)) <| mv b0 rfl <| sg (t := 17) rfl rfl b0 (eh b0 rfl) (kv (r_field (o' := 2) (eh b0 rfl) fo_82_2 (by rfl)) ?_)
 have l0 := (k0.f0 d0)
 refine sg (t := 17) rfl rfl b0 (eh b0 rfl) (kv (la (v := nn e1) (eh b0 rfl) l0.bk qr_3) ?_)
 refine sg (t := 17) rfl rfl b0 (eh b0 rfl) (k_cl (f103 d0.ag (by omega)) rfl fn_103 (map_cons (eh b0 rfl) map_nil) (fun Q0 U0 A0 => ?_))
 obtain ⟨B0, rfl, g0⟩ := A0
 have M0 := g0.size
 refine sg (t := 17) rfl rfl b0 (eh b0 rfl) (kv (r_not (eh b0 rfl)) ?_)
 refine gv (r_pick_f (eh b0 rfl) (eh b0 rfl)) <| mv b0 rfl <| sg (t := 23) rfl rfl b0 (eh b0 rfl) (kv (r_field (o' := 3) (eh b0 rfl) fo_82_3 (by rfl)) ?_)
 have e0 := (l0.f0 g0)
 refine sg (t := 23) rfl rfl b0 (eh b0 rfl) (kv (la (v := .slice none 0 0) (eh b0 rfl) e0.bk qr_36) ?_)
 refine sg (t := 23) rfl rfl b0 (eh b0 rfl) (kv (r_lenS (eh b0 rfl) rfl qu_36) ?_)
 refine sg (t := 23) rfl rfl b0 (eh b0 rfl) (kv (r_gtr (j := 16) (eh b0 rfl) rfl) ?_)
 refine gv (r_pick_f (eh b0 rfl) (eh b0 rfl)) <| mv b0 rfl <| sg (t := 29) rfl rfl b0 (eb b0 rfl (by decide)) (kv (r_field (o' := 4) (eh b0 rfl) fo_82_4 (by rfl)) ?_)
 refine sg (t := 29) rfl rfl b0 (eb b0 rfl (by decide)) (kv (la (v := .slice none 0 0) (eh b0 rfl) e0.bk qr_80) ?_)
 refine sg (t := 29) rfl rfl b0 (eb b0 rfl (by decide)) (kv (r_lenS (eh b0 rfl) rfl qu_80) ?_)
 refine sg (t := 29) rfl rfl b0 (eb b0 rfl (by decide)) (kv (r_gtr (j := 16) (eh b0 rfl) rfl) ?_)
 refine gv (r_pick_f (eb b0 rfl (by decide)) (eh b0 rfl)) <| nl <| x0 <| ce b0 rfl <| ws <| w0 <| sk fun _ o0 => sk fun _ p0 => rn <| gv (r_field (o' := 3) (eh b0 rfl) fo_82_3 (by rfl)) <| gv (la (v := .slice none 0 0) (eh b0 rfl) e0.bk qr_36) <| gv (r_lenS (eh b0 rfl) rfl qu_36) <| gv (r_move (v := nn 0) rfl) <| nl <| p0 <| bl <| wp_unroll (n := 5) <| un_step (n := 4) <| sk fun _ q0 => rn <| gv (r_lss (eh b0 rfl) (eh b0 rfl)) <| nl <| q0 <| sk fun _ E0 => ce b0 rfl <| we <| o0 <| sk fun _ r0 => sk fun _ s0 => rn <| gv (r_field (o' := 4) (eh b0 rfl) fo_82_4 (by rfl)) <| gv (la (v := .slice none 0 0) (eh b0 rfl) e0.bk qr_80) <| gv (r_lenS (eh b0 rfl) rfl qu_80) <| gv (r_move (v := nn 0) rfl) <| nl <| s0 <| bl <| wp_unroll (n := 5) <| un_step (n := 4) <| sk fun _ u0 => rn <| gv (r_lss (eh b0 rfl) (eh b0 rfl)) <| nl <| u0 <| sk fun _ F0 => ce b0 rfl <| we <| r0 <| sk fun _ v0 => rn <| gv (r_assign (v := .bool true) rfl) <| nl <| v0 <| wp_ret <| ret_of (res1 rfl _ _ (gh b0 rfl)) ((ov_defers _ _).trans m0) ?_
 exact ⟨B0, rfl, ((((cu0.t0 h0).t0 c0).t0 d0).t0 g0)⟩

end Go.Proofs.YtiggfalelcepbaaGreatDoor

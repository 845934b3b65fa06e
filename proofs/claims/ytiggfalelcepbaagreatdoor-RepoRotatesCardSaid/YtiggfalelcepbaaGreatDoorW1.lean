/- The walks of the compression of SHA-256. -/
import Derived.Test.YtiggfalelcepbaaGreatDoorK7
import Derived.Test.YtiggfalelcepbaaGreatDoorSX
import Derived.Test.YtiggfalelcepbaaGreatDoorW0
import Derived.Test.YtiggfalelcepbaaGreatDoorTX
namespace Go.Proofs.YtiggfalelcepbaaGreatDoor
open Go
set_option maxRecDepth 100000
set_option maxHeartbeats 4000000
theorem f64 {m : Ctx} {w : World} (ag : Ag m w) : Calls Tryz.prog 64 #[] w (Ret fun v w' => v = .agg (us kT).toArray ∧ Fr no m w m w') := by
 refine enter Tryz.func64 rfl (fun g0 hT i0 => ?_)
 have c0 : g0.tmps.size = 2 := by rw [hT]; kernel_rfl
 clear hT
 have cu0 : Fr (no) m w m w := Fr.refl ag
 refine sk fun _ j0 => rn <| gk (k_alloc ag qz_146 (fun q0 h0 e0 b0 m0 => ?_))
 have p0 := b0.size
 have n0 := e0.lt
 refine nl <| j0 <| sk fun _ k0 => rn <| gv (r_build (cs := us ([1116352408, 1899447441, 3049323471, 3921009573, 961987163, 1508970993, 2453635748, 2870763221, 3624381080, 310598401, 607225278, 1426881987, 1925078388, 2162078206, 2614888103, 3248222580, 3835390401, 4022224774, 264347078, 604807628, 770255983, 1249150122, 1555081692, 1996064986, 2554220882, 2821834349, 2952996808, 3210313671, 3336571891, 3584528711, 113926993, 338241895, 666307205, 773529912, 1294757372, 1396182291, 1695183700, 1986661051, 2177026350, 2456956037, 2730485921, 2820302411, 3259730800, 3345764771, 3516065817, 3600352804, 4094571909, 275423344, 430227734, 506948616, 659060556, 883997877, 958139571, 1322822218, 1537002063, 1747873779, 1955562222, 2024104815, 2227730452, 2361852424, 2428436474, 2756734187, 3204031479, 3329325298])) (pm_cons (v := u32 1116352408) rfl (pm_cons (v := u32 1899447441) rfl (pm_cons (v := u32 3049323471) rfl (pm_cons (v := u32 3921009573) rfl (pm_cons (v := u32 961987163) rfl (pm_cons (v := u32 1508970993) rfl (pm_cons (v := u32 2453635748) rfl (pm_cons (v := u32 2870763221) rfl (pm_cons (v := u32 3624381080) rfl (pm_cons (v := u32 310598401) rfl (pm_cons (v := u32 607225278) rfl (pm_cons (v := u32 1426881987) rfl (pm_cons (v := u32 1925078388) rfl (pm_cons (v := u32 2162078206) rfl (pm_cons (v := u32 2614888103) rfl (pm_cons (v := u32 3248222580) rfl (pm_cons (v := u32 3835390401) rfl (pm_cons (v := u32 4022224774) rfl (pm_cons (v := u32 264347078) rfl (pm_cons (v := u32 604807628) rfl (pm_cons (v := u32 770255983) rfl (pm_cons (v := u32 1249150122) rfl (pm_cons (v := u32 1555081692) rfl (pm_cons (v := u32 1996064986) rfl (pm_cons (v := u32 2554220882) rfl (pm_cons (v := u32 2821834349) rfl (pm_cons (v := u32 2952996808) rfl (pm_cons (v := u32 3210313671) rfl (pm_cons (v := u32 3336571891) rfl (pm_cons (v := u32 3584528711) rfl (pm_cons (v := u32 113926993) rfl (pm_cons (v := u32 338241895) rfl (pm_cons (v := u32 666307205) rfl (pm_cons (v := u32 773529912) rfl (pm_cons (v := u32 1294757372) rfl (pm_cons (v := u32 1396182291) rfl (pm_cons (v := u32 1695183700) rfl (pm_cons (v := u32 1986661051) rfl (pm_cons (v := u32 2177026350) rfl (pm_cons (v := u32 2456956037) rfl (pm_cons (v := u32 2730485921) rfl (pm_cons (v := u32 2820302411) rfl (pm_cons (v := u32 3259730800) rfl (pm_cons (v := u32 3345764771) rfl (pm_cons (v := u32 3516065817) rfl (pm_cons (v := u32 3600352804) rfl (pm_cons (v := u32 4094571909) rfl (pm_cons (v := u32 275423344) rfl (pm_cons (v := u32 430227734) rfl (pm_cons (v := u32 506948616) rfl (pm_cons (v := u32 659060556) rfl (pm_cons (v := u32 883997877) rfl (pm_cons (v := u32 958139571) rfl (pm_cons (v := u32 1322822218) rfl (pm_cons (v := u32 1537002063) rfl (pm_cons (v := u32 1747873779) rfl (pm_cons (v := u32 1955562222) rfl (pm_cons (v := u32 2024104815) rfl (pm_cons (v := u32 2227730452) rfl (pm_cons (v := u32 2361852424) rfl (pm_cons (v := u32 2428436474) rfl (pm_cons (v := u32 2756734187) rfl (pm_cons (v := u32 3204031479) rfl (pm_cons (v := u32 3329325298) rfl pm_nil)))))))))))))))))))))))))))))))))))))))))))))))))))))))))))))))) (by kernel_rfl)) ?_
 refine gz (k_store (L' := us ([1116352408, 1899447441, 3049323471, 3921009573, 961987163, 1508970993, 2453635748, 2870763221, 3624381080, 310598401, 607225278, 1426881987, 1925078388, 2162078206, 2614888103, 3248222580, 3835390401, 4022224774, 264347078, 604807628, 770255983, 1249150122, 1555081692, 1996064986, 2554220882, 2821834349, 2952996808, 3210313671, 3336571891, 3584528711, 113926993, 338241895, 666307205, 773529912, 1294757372, 1396182291, 1695183700, 1986661051, 2177026350, 2456956037, 2730485921, 2820302411, 3259730800, 3345764771, 3516065817, 3600352804, 4094571909, 275423344, 430227734, 506948616, 659060556, 883997877, 958139571, 1322822218, 1537002063, 1747873779, 1955562222, 2024104815, 2227730452, 2361852424, 2428436474, 2756734187, 3204031479, 3329325298])) (cs := us ([1116352408, 1899447441, 3049323471, 3921009573, 961987163, 1508970993, 2453635748, 2870763221, 3624381080, 310598401, 607225278, 1426881987, 1925078388, 2162078206, 2614888103, 3248222580, 3835390401, 4022224774, 264347078, 604807628, 770255983, 1249150122, 1555081692, 1996064986, 2554220882, 2821834349, 2952996808, 3210313671, 3336571891, 3584528711, 113926993, 338241895, 666307205, 773529912, 1294757372, 1396182291, 1695183700, 1986661051, 2177026350, 2456956037, 2730485921, 2820302411, 3259730800, 3345764771, 3516065817, 3600352804, 4094571909, 275423344, 430227734, 506948616, 659060556, 883997877, 958139571, 1322822218, 1537002063, 1747873779, 1955562222, 2024104815, 2227730452, 2361852424, 2428436474, 2756734187, 3204031479, 3329325298])) b0.ag (eh c0 rfl) (eh c0 rfl) e0 (by kernel_rfl) (sz_eq sz_146 (by kernel_rfl)) (one_us _) (le_all (Eq.trans (us_length _) List.length_replicate) (by kernel_rfl)) (wr_all (Eq.trans (Eq.trans (us_length _) List.length_replicate) (Eq.symm (by kernel_rfl)))) (fun r0 l0 d0 => ?_))
 have o0 := d0.size
 refine nl <| k0 <| wp_ret <| ret_of (res1c (b := h0) (n := 64) (cs := us ([1116352408, 1899447441, 3049323471, 3921009573, 961987163, 1508970993, 2453635748, 2870763221, 3624381080, 310598401, 607225278, 1426881987, 1925078388, 2162078206, 2614888103, 3248222580, 3835390401, 4022224774, 264347078, 604807628, 770255983, 1249150122, 1555081692, 1996064986, 2554220882, 2821834349, 2952996808, 3210313671, 3336571891, 3584528711, 113926993, 338241895, 666307205, 773529912, 1294757372, 1396182291, 1695183700, 1986661051, 2177026350, 2456956037, 2730485921, 2820302411, 3259730800, 3345764771, 3516065817, 3600352804, 4094571909, 275423344, 430227734, 506948616, 659060556, 883997877, 958139571, 1322822218, 1537002063, 1747873779, 1955562222, 2024104815, 2227730452, 2361852424, 2428436474, 2756734187, 3204031479, 3329325298])) rfl _ _ (gh c0 rfl) l0.bk (rd_all (by kernel_rfl)) (by kernel_rfl) qr_146 sz_146) ((ov_defers _ _).trans i0) ?_
 exact ⟨rfl, ((cu0.t0 b0).tn d0 (by omega))⟩

theorem f90 {m : Ctx} {w : World} (ag : Ag m w) : Calls Tryz.prog 90 #[] w (Ret fun v w' => v = .agg (us kT).toArray ∧ Fr no m w m w') := by
 refine enter Tryz.func90 rfl (fun g0 hT i0 => ?_)
 have c0 : g0.tmps.size = 2 := by rw [hT]; kernel_rfl
 clear hT
 have cu0 : Fr (no) m w m w := Fr.refl ag
 refine sk fun _ j0 => rn <| gk (k_alloc ag qz_146 (fun q0 h0 e0 b0 m0 => ?_))
 have p0 := b0.size
 have n0 := e0.lt
 refine nl <| j0 <| sk fun _ k0 => rn <| gv (r_build (cs := us ([1116352408, 1899447441, 3049323471, 3921009573, 961987163, 1508970993, 2453635748, 2870763221, 3624381080, 310598401, 607225278, 1426881987, 1925078388, 2162078206, 2614888103, 3248222580, 3835390401, 4022224774, 264347078, 604807628, 770255983, 1249150122, 1555081692, 1996064986, 2554220882, 2821834349, 2952996808, 3210313671, 3336571891, 3584528711, 113926993, 338241895, 666307205, 773529912, 1294757372, 1396182291, 1695183700, 1986661051, 2177026350, 2456956037, 2730485921, 2820302411, 3259730800, 3345764771, 3516065817, 3600352804, 4094571909, 275423344, 430227734, 506948616, 659060556, 883997877, 958139571, 1322822218, 1537002063, 1747873779, 1955562222, 2024104815, 2227730452, 2361852424, 2428436474, 2756734187, 3204031479, 3329325298])) (pm_cons (v := u32 1116352408) rfl (pm_cons (v := u32 1899447441) rfl (pm_cons (v := u32 3049323471) rfl (pm_cons (v := u32 3921009573) rfl (pm_cons (v := u32 961987163) rfl (pm_cons (v := u32 1508970993) rfl (pm_cons (v := u32 2453635748) rfl (pm_cons (v := u32 2870763221) rfl (pm_cons (v := u32 3624381080) rfl (pm_cons (v := u32 310598401) rfl (pm_cons (v := u32 607225278) rfl (pm_cons (v := u32 1426881987) rfl (pm_cons (v := u32 1925078388) rfl (pm_cons (v := u32 2162078206) rfl (pm_cons (v := u32 2614888103) rfl (pm_cons (v := u32 3248222580) rfl (pm_cons (v := u32 3835390401) rfl (pm_cons (v := u32 4022224774) rfl (pm_cons (v := u32 264347078) rfl (pm_cons (v := u32 604807628) rfl (pm_cons (v := u32 770255983) rfl (pm_cons (v := u32 1249150122) rfl (pm_cons (v := u32 1555081692) rfl (pm_cons (v := u32 1996064986) rfl (pm_cons (v := u32 2554220882) rfl (pm_cons (v := u32 2821834349) rfl (pm_cons (v := u32 2952996808) rfl (pm_cons (v := u32 3210313671) rfl (pm_cons (v := u32 3336571891) rfl (pm_cons (v := u32 3584528711) rfl (pm_cons (v := u32 113926993) rfl (pm_cons (v := u32 338241895) rfl (pm_cons (v := u32 666307205) rfl (pm_cons (v := u32 773529912) rfl (pm_cons (v := u32 1294757372) rfl (pm_cons (v := u32 1396182291) rfl (pm_cons (v := u32 1695183700) rfl (pm_cons (v := u32 1986661051) rfl (pm_cons (v := u32 2177026350) rfl (pm_cons (v := u32 2456956037) rfl (pm_cons (v := u32 2730485921) rfl (pm_cons (v := u32 2820302411) rfl (pm_cons (v := u32 3259730800) rfl (pm_cons (v := u32 3345764771) rfl (pm_cons (v := u32 3516065817) rfl (pm_cons (v := u32 3600352804) rfl (pm_cons (v := u32 4094571909) rfl (pm_cons (v := u32 275423344) rfl (pm_cons (v := u32 430227734) rfl (pm_cons (v := u32 506948616) rfl (pm_cons (v := u32 659060556) rfl (pm_cons (v := u32 883997877) rfl (pm_cons (v := u32 958139571) rfl (pm_cons (v := u32 1322822218) rfl (pm_cons (v := u32 1537002063) rfl (pm_cons (v := u32 1747873779) rfl (pm_cons (v := u32 1955562222) rfl (pm_cons (v := u32 2024104815) rfl (pm_cons (v := u32 2227730452) rfl (pm_cons (v := u32 2361852424) rfl (pm_cons (v := u32 2428436474) rfl (pm_cons (v := u32 2756734187) rfl (pm_cons (v := u32 3204031479) rfl (pm_cons (v := u32 3329325298) rfl pm_nil)))))))))))))))))))))))))))))))))))))))))))))))))))))))))))))))) (by kernel_rfl)) ?_
 refine gz (k_store (L' := us ([1116352408, 1899447441, 3049323471, 3921009573, 961987163, 1508970993, 2453635748, 2870763221, 3624381080, 310598401, 607225278, 1426881987, 1925078388, 2162078206, 2614888103, 3248222580, 3835390401, 4022224774, 264347078, 604807628, 770255983, 1249150122, 1555081692, 1996064986, 2554220882, 2821834349, 2952996808, 3210313671, 3336571891, 3584528711, 113926993, 338241895, 666307205, 773529912, 1294757372, 1396182291, 1695183700, 1986661051, 2177026350, 2456956037, 2730485921, 2820302411, 3259730800, 3345764771, 3516065817, 3600352804, 4094571909, 275423344, 430227734, 506948616, 659060556, 883997877, 958139571, 1322822218, 1537002063, 1747873779, 1955562222, 2024104815, 2227730452, 2361852424, 2428436474, 2756734187, 3204031479, 3329325298])) (cs := us ([1116352408, 1899447441, 3049323471, 3921009573, 961987163, 1508970993, 2453635748, 2870763221, 3624381080, 310598401, 607225278, 1426881987, 1925078388, 2162078206, 2614888103, 3248222580, 3835390401, 4022224774, 264347078, 604807628, 770255983, 1249150122, 1555081692, 1996064986, 2554220882, 2821834349, 2952996808, 3210313671, 3336571891, 3584528711, 113926993, 338241895, 666307205, 773529912, 1294757372, 1396182291, 1695183700, 1986661051, 2177026350, 2456956037, 2730485921, 2820302411, 3259730800, 3345764771, 3516065817, 3600352804, 4094571909, 275423344, 430227734, 506948616, 659060556, 883997877, 958139571, 1322822218, 1537002063, 1747873779, 1955562222, 2024104815, 2227730452, 2361852424, 2428436474, 2756734187, 3204031479, 3329325298])) b0.ag (eh c0 rfl) (eh c0 rfl) e0 (by kernel_rfl) (sz_eq sz_146 (by kernel_rfl)) (one_us _) (le_all (Eq.trans (us_length _) List.length_replicate) (by kernel_rfl)) (wr_all (Eq.trans (Eq.trans (us_length _) List.length_replicate) (Eq.symm (by kernel_rfl)))) (fun r0 l0 d0 => ?_))
 have o0 := d0.size
 refine nl <| k0 <| wp_ret <| ret_of (res1c (b := h0) (n := 64) (cs := us ([1116352408, 1899447441, 3049323471, 3921009573, 961987163, 1508970993, 2453635748, 2870763221, 3624381080, 310598401, 607225278, 1426881987, 1925078388, 2162078206, 2614888103, 3248222580, 3835390401, 4022224774, 264347078, 604807628, 770255983, 1249150122, 1555081692, 1996064986, 2554220882, 2821834349, 2952996808, 3210313671, 3336571891, 3584528711, 113926993, 338241895, 666307205, 773529912, 1294757372, 1396182291, 1695183700, 1986661051, 2177026350, 2456956037, 2730485921, 2820302411, 3259730800, 3345764771, 3516065817, 3600352804, 4094571909, 275423344, 430227734, 506948616, 659060556, 883997877, 958139571, 1322822218, 1537002063, 1747873779, 1955562222, 2024104815, 2227730452, 2361852424, 2428436474, 2756734187, 3204031479, 3329325298])) rfl _ _ (gh c0 rfl) l0.bk (rd_all (by kernel_rfl)) (by kernel_rfl) qr_146 sz_146) ((ov_defers _ _).trans i0) ?_
 exact ⟨rfl, ((cu0.t0 b0).tn d0 (by omega))⟩

theorem f65 {m : Ctx} {w : World} (ag : Ag m w) {bs bk n c : Nat} {A : Option Addr} {s : List UInt32} {p : Bytes} (hmS : Mu m w bs 145 (us s)) (hs8 : s.length = 8) (hmK : Mu m w bk 146 (us kT)) (hne : bs ≠ bk)
    (hsl : Sl m A n c 1 (bv p)) (hp : p.length = n) (h64 : 64 ≤ n) :
    Calls Tryz.prog 65 #[.pointer (some ⟨bs, 0, none⟩), .slice A n c, .pointer (some ⟨bk, 0, none⟩)] w (Ret fun v w' => ∃ m', Fr (on bs) m w m' w' ∧ Mu m' w' bs 145 (us (compress s p))) := by
 refine enter Tryz.func65 rfl (fun T0 hT M1 => ?_)
 have H0 : T0.tmps.size = 157 := by rw [hT]; kernel_rfl
 have T2 : T0.tmps.getD 0 undef = .pointer (some ⟨bs, 0, none⟩) := by rw [hT]; kernel_rfl
 have U2 : T0.tmps.getD 1 undef = .slice A n c := by rw [hT]; kernel_rfl
 have V2 : T0.tmps.getD 2 undef = .pointer (some ⟨bk, 0, none⟩) := by rw [hT]; kernel_rfl
 clear hT
 have cu0 : Fr (on bs) m w m w := Fr.refl ag
 have lt_bs := hmS.lt
 have lt_bk := hmK.lt
 refine sk fun _ N1 => rn <| gk (k_alloc ag qz_146 (fun X2 k0 x1 G0 q3 => ?_))
 have H3 := G0.size
 have s3 := x1.lt
 refine nl <| N1 <| sk fun _ j2 => sk fun _ o2 => rn <| gv (r_move (v := nn 0) rfl) <| nl <| o2 <| bl <| wp_loop_s (σ := Nat) (I := fun (i : Nat) (a' : Act) (w' : World) => ∃ (m' : Ctx), a'.tmps.size = 157 ∧ a'.defers = [] ∧ i ≤ 16 ∧ a'.tmps.getD 0 undef = .pointer (some ⟨bs, 0, none⟩) ∧ a'.tmps.getD 1 undef = .slice A n c ∧ a'.tmps.getD 2 undef = .pointer (some ⟨bk, 0, none⟩) ∧ a'.tmps.getD 6 undef = .pointer (some ⟨k0, 0, none⟩) ∧ a'.tmps.getD 14 undef = nn i ∧ Fr (on k0) m X2 m' w' ∧ Mu m' w' k0 146 (us (wA p i))) (μ := fun i => 16 - i) (s₀ := 0) ?_ ?_
 · exact ⟨m, ((ov_size _ _).trans H0), ((ov_defers _ _).trans M1), (by omega), (gm H0 rfl rfl T2), (gm H0 rfl rfl U2), (gm H0 rfl rfl V2), (gh H0 rfl), (gh H0 rfl), (Fr.refl G0.ag), x1⟩
 ·
  intro i Z2 K0 hI
  obtain ⟨p0, c0, j1, m3, H1, Q0, I1, d1, e1, w0, w1⟩ := hI
  refine of_ov ?_
  have D3 := w0.size
  refine sk fun _ c2 => rn <| gv (r_lss (j := 16) (em c0 rfl rfl e1) rfl) <| nl <| c2 <| sk fun _ d2 => ?_
  by_cases r1 : i < 16
  ·
   refine ct (eb c0 rfl (decide_eq_true r1)) <| ws <| d2 <| sk fun _ e2 => bl <| sk fun _ g2 => rn <| mw c0 e1 <| ms c0 rfl <| nl <| g2 ?_
   have y0 : Fr no p0 K0 p0 { K0 with drawn := K0.drawn + 1 } := Fr.drw w0.ag
   obtain ⟨N0, D1⟩ : ∃ w_, w_ = ({ K0 with drawn := K0.drawn + 1 } : World) := ⟨_, rfl⟩
   rw [← D1] at y0
   have F3 := y0.size
   refine wp_region_T mixed (fun wz => ∃ mz, Fr (no) p0 N0 mz wz) (fun wz => ∃ mz, Fr (on k0) p0 N0 mz wz) 35 ?_
   rw [← D1]
   show wpAnyT _ _ _ _ _ 36 _ _ _
   have e0 : Fr (no) p0 N0 p0 N0 := Fr.refl y0.ag
   have k3 : ∀ wz, (∃ mz, Fr (no) p0 N0 mz wz) → ∃ mz, Fr (on k0) p0 N0 mz wz := fun wz ⟨mz, hz⟩ => ⟨mz, hz.wk (fun x hx _ => hx.elim)⟩
   refine tk2 (i := 0) rfl rfl (fun _ _ => r_move (eh c0 rfl)) ⟨_, e0⟩ <| tk2 (i := 1) rfl rfl (fun _ _ => r_move (em c0 rfl rfl Q0)) ⟨_, e0⟩ <| tk2 (i := 2) rfl rfl (fun _ _ => r_move (eh c0 rfl)) ⟨_, e0⟩ <| tk2 (i := 3) rfl rfl (fun _ _ => r_mul (i := 4) rfl (eh c0 rfl) (by omega)) ⟨_, e0⟩ ?_
   have M2 := Fr.ll (Fr.l2 G0 w0) y0
   have H2 := hsl.le M2
   obtain ⟨e3, X0, Y2, rfl, V0, W0⟩ := H2.elem (by omega)
   refine tk2 (i := 4) rfl rfl (fun _ _ => r_idxS (o' := X0 + (4 * i)) (eh c0 rfl) (eh c0 rfl) qs_38 (by omega) (by omega)) ⟨_, e0⟩ <| tk2 (i := 5) rfl rfl (fun wz ⟨mz, hz⟩ => r_load1 (v := u8 ((p).getD (4 * i) 0)) (eh c0 rfl) (hz.ag _ _ (hz.le _ _ V0)) (at_sub W0 (bv_get (n := n) hp (by omega))) qr_5) ⟨_, e0⟩ <| tk2 (i := 6) rfl rfl (fun _ _ => r_cv_8_32 (c := (p).getD (4 * i) 0) (eh c0 rfl) qu_5 qu_143) ⟨_, e0⟩ <| tk2 (i := 7) rfl rfl (fun _ _ => r_shl32 (j := 24) (eh c0 rfl) rfl (by decide)) ⟨_, e0⟩ <| tk2 (i := 8) rfl rfl (fun _ _ => r_move (em c0 rfl rfl Q0)) ⟨_, e0⟩ <| tk2 (i := 9) rfl rfl (fun _ _ => r_move (eh c0 rfl)) ⟨_, e0⟩ <| tk2 (i := 10) rfl rfl (fun _ _ => r_mul (i := 4) rfl (eh c0 rfl) (by omega)) ⟨_, e0⟩ <| tk2 (i := 11) rfl rfl (fun _ _ => r_add (j := 1) (eh c0 rfl) rfl (by omega)) ⟨_, e0⟩ <| tk2 (i := 12) rfl rfl (fun _ _ => r_idxS (o' := X0 + ((4 * i) + 1)) (eh c0 rfl) (eh c0 rfl) qs_38 (by omega) (by omega)) ⟨_, e0⟩ <| tk2 (i := 13) rfl rfl (fun wz ⟨mz, hz⟩ => r_load1 (v := u8 ((p).getD ((4 * i) + 1) 0)) (eh c0 rfl) (hz.ag _ _ (hz.le _ _ V0)) (at_sub W0 (bv_get (n := n) hp (by omega))) qr_5) ⟨_, e0⟩ <| tk2 (i := 14) rfl rfl (fun _ _ => r_cv_8_32 (c := (p).getD ((4 * i) + 1) 0) (eh c0 rfl) qu_5 qu_143) ⟨_, e0⟩ <| tk2 (i := 15) rfl rfl (fun _ _ => r_shl32 (j := 16) (eh c0 rfl) rfl (by decide)) ⟨_, e0⟩ <| tk2 (i := 16) rfl rfl (fun _ _ => r_or32 (eh c0 rfl) (eh c0 rfl)) ⟨_, e0⟩ <| tk2 (i := 17) rfl rfl (fun _ _ => r_move (em c0 rfl rfl Q0)) ⟨_, e0⟩ <| tk2 (i := 18) rfl rfl (fun _ _ => r_move (eh c0 rfl)) ⟨_, e0⟩ ?_
   refine tk2 (i := 19) rfl rfl (fun _ _ => r_mul (i := 4) rfl (eh c0 rfl) (by omega)) ⟨_, e0⟩ <| tk2 (i := 20) rfl rfl (fun _ _ => r_add (j := 2) (eh c0 rfl) rfl (by omega)) ⟨_, e0⟩ <| tk2 (i := 21) rfl rfl (fun _ _ => r_idxS (o' := X0 + ((4 * i) + 2)) (eh c0 rfl) (eh c0 rfl) qs_38 (by omega) (by omega)) ⟨_, e0⟩ <| tk2 (i := 22) rfl rfl (fun wz ⟨mz, hz⟩ => r_load1 (v := u8 ((p).getD ((4 * i) + 2) 0)) (eh c0 rfl) (hz.ag _ _ (hz.le _ _ V0)) (at_sub W0 (bv_get (n := n) hp (by omega))) qr_5) ⟨_, e0⟩ <| tk2 (i := 23) rfl rfl (fun _ _ => r_cv_8_32 (c := (p).getD ((4 * i) + 2) 0) (eh c0 rfl) qu_5 qu_143) ⟨_, e0⟩ <| tk2 (i := 24) rfl rfl (fun _ _ => r_shl32 (j := 8) (eh c0 rfl) rfl (by decide)) ⟨_, e0⟩ <| tk2 (i := 25) rfl rfl (fun _ _ => r_or32 (eh c0 rfl) (eh c0 rfl)) ⟨_, e0⟩ <| tk2 (i := 26) rfl rfl (fun _ _ => r_move (em c0 rfl rfl Q0)) ⟨_, e0⟩ <| tk2 (i := 27) rfl rfl (fun _ _ => r_move (eh c0 rfl)) ⟨_, e0⟩ <| tk2 (i := 28) rfl rfl (fun _ _ => r_mul (i := 4) rfl (eh c0 rfl) (by omega)) ⟨_, e0⟩ <| tk2 (i := 29) rfl rfl (fun _ _ => r_add (j := 3) (eh c0 rfl) rfl (by omega)) ⟨_, e0⟩ <| tk2 (i := 30) rfl rfl (fun _ _ => r_idxS (o' := X0 + ((4 * i) + 3)) (eh c0 rfl) (eh c0 rfl) qs_38 (by omega) (by omega)) ⟨_, e0⟩ <| tk2 (i := 31) rfl rfl (fun wz ⟨mz, hz⟩ => r_load1 (v := u8 ((p).getD ((4 * i) + 3) 0)) (eh c0 rfl) (hz.ag _ _ (hz.le _ _ V0)) (at_sub W0 (bv_get (n := n) hp (by omega))) qr_5) ⟨_, e0⟩ <| tk2 (i := 32) rfl rfl (fun _ _ => r_cv_8_32 (c := (p).getD ((4 * i) + 3) 0) (eh c0 rfl) qu_5 qu_143) ⟨_, e0⟩ ?_
   refine tk2 (i := 33) rfl rfl (fun _ _ => r_or32 (eh c0 rfl) (eh c0 rfl)) ⟨_, e0⟩ <| tk2 (i := 34) rfl rfl (fun _ _ => r_idxA (o' := i) (em c0 rfl rfl d1) (eh c0 rfl) qa_146 (by omega) (by omega)) ⟨_, e0⟩ ?_
   have R2 : Fr (on k0) _ _ _ _ := e0.wk (fun x hx _ => hx.elim)
   have t2 := (w1.f0 y0)
   have i3 : ((wA p i).set i (((((((p).getD (4 * i) 0).toUInt32) <<< UInt32.ofNat 24) ||| ((((p).getD ((4 * i) + 1) 0).toUInt32) <<< UInt32.ofNat 16)) ||| ((((p).getD ((4 * i) + 2) 0).toUInt32) <<< UInt32.ofNat 8)) ||| (((p).getD ((4 * i) + 3) 0).toUInt32)) : List UInt32).length = 64 := (len_set (wA_len _ _))
   refine an00 (i := 35) (b := true) rfl rfl (k_store1 (b := k0) (off := i) (v := u32 (((((((p).getD (4 * i) 0).toUInt32) <<< UInt32.ofNat 24) ||| ((((p).getD ((4 * i) + 1) 0).toUInt32) <<< UInt32.ofNat 16)) ||| ((((p).getD ((4 * i) + 2) 0).toUInt32) <<< UInt32.ofNat 8)) ||| (((p).getD ((4 * i) + 3) 0).toUInt32))) (L' := us ((wA p i).set i (((((((p).getD (4 * i) 0).toUInt32) <<< UInt32.ofNat 24) ||| ((((p).getD ((4 * i) + 1) 0).toUInt32) <<< UInt32.ofNat 16)) ||| ((((p).getD ((4 * i) + 2) 0).toUInt32) <<< UInt32.ofNat 8)) ||| (((p).getD ((4 * i) + 3) 0).toUInt32)))) y0.ag (eh c0 rfl) (eh c0 rfl) t2 sz_143 rfl (lt_us (n := 64) (wA_len _ _) (by omega)) us_set (fun Z3 z2 b1 => ?_))
   have G3 := b1.size
   have S2 := R2.tr b1 (fun x hx => .inr (by cases hx; exact rfl))
   refine ⟨(tbT ⟨_, S2⟩), ?_⟩
   refine anyT_done (by kernel_rfl) ?_ _
   refine e2 <| rn <| gv (r_add (j := 1) (em c0 rfl rfl e1) rfl (by omega)) <| mv c0 rfl <| nl <| loop_back (s := i) ⟨i + 1, (show 16 - (i + 1) < 16 - (i) from (by omega)), ?_⟩
   exact ⟨p0, ((ov_size _ _).trans c0), ((ov_defers _ _).trans j1), (by omega), (gm c0 rfl rfl H1), (gm c0 rfl rfl Q0), (gm c0 rfl rfl I1), (gm c0 rfl rfl d1), (gh c0 rfl), ((w0.t0 y0).tr b1 (fun x hx => .inr (by cases hx; exact rfl))), z2⟩
  ·
   refine cf (eb c0 rfl (decide_eq_false r1)) <| we ?_
   have L2 : 16 = i := (by omega)
   subst L2
   refine j2 <| sk fun _ h2 => sk fun _ i2 => rn <| gv (r_assign (v := nn 16) rfl) <| nl <| i2 <| bl <| wp_loop_s (σ := Nat) (I := fun (j : Nat) (a' : Act) (w' : World) => ∃ (m' : Ctx), a'.tmps.size = 157 ∧ a'.defers = [] ∧ j ≤ 48 ∧ a'.tmps.getD 0 undef = .pointer (some ⟨bs, 0, none⟩) ∧ a'.tmps.getD 2 undef = .pointer (some ⟨bk, 0, none⟩) ∧ a'.tmps.getD 6 undef = .pointer (some ⟨k0, 0, none⟩) ∧ a'.tmps.getD 8 undef = nn (16 + j) ∧ Fr (on k0) p0 K0 m' w' ∧ Mu m' w' k0 146 (us (wB p j))) (μ := fun j => 48 - j) (s₀ := 0) ?_ ?_
   · exact ⟨p0, ((ov_size _ _).trans c0), ((ov_defers _ _).trans j1), (by omega), (gm c0 rfl rfl H1), (gm c0 rfl rfl I1), (gm c0 rfl rfl d1), (gh c0 rfl), (Fr.refl w0.ag), w1⟩
   ·
    intro j d3 S0 hI
    obtain ⟨q0, d0, m1, o3, h1, L1, A0, B0, z0, y1⟩ := hI
    refine of_ov ?_
    have I3 := z0.size
    refine sk fun _ k2 => sk fun _ m2 => rn <| mw d0 B0 <| gv (r_lss (j := 64) (eh d0 rfl) rfl) <| nl <| m2 ?_
    by_cases s1 : 16 + j < 64
    ·
     refine ct (eb d0 rfl (decide_eq_true s1)) <| ws <| k2 <| sk fun _ n2 => bl ?_
     have C0 : Fr no q0 S0 q0 { S0 with drawn := S0.drawn + 1 } := Fr.drw z0.ag
     obtain ⟨J0, z1⟩ : ∃ w_, w_ = ({ S0 with drawn := S0.drawn + 1 } : World) := ⟨_, rfl⟩
     rw [← z1] at C0
     have t3 := C0.size
     refine wp_region_T mixed (fun wz => ∃ mz, Fr (no) q0 J0 mz wz) (fun wz => ∃ mz, Fr (on k0) q0 J0 mz wz) 23 ?_
     rw [← z1]
     show wpAnyT _ _ _ _ _ 24 _ _ _
     have i0 : Fr (no) q0 J0 q0 J0 := Fr.refl C0.ag
     have j3 : ∀ wz, (∃ mz, Fr (no) q0 J0 mz wz) → ∃ mz, Fr (on k0) q0 J0 mz wz := fun wz ⟨mz, hz⟩ => ⟨mz, hz.wk (fun x hx _ => hx.elim)⟩
     refine tk2 (i := 0) rfl rfl (fun _ _ => r_move (em d0 rfl rfl B0)) ⟨_, i0⟩ <| tk2 (i := 1) rfl rfl (fun _ _ => r_move (em d0 rfl rfl B0)) ⟨_, i0⟩ <| tk2 (i := 2) rfl rfl (fun _ _ => r_sub (j := 16) (eh d0 rfl) rfl (by omega) (by omega)) ⟨_, i0⟩ <| tk2 (i := 3) rfl rfl (fun _ _ => r_idxA (o' := (16 + j) - 16) (em d0 rfl rfl A0) (eh d0 rfl) qa_146 (by omega) (by omega)) ⟨_, i0⟩ ?_
     have P0 := (y1.f0 C0)
     refine tk2 (i := 4) rfl rfl (fun wz ⟨mz, hz⟩ => r_load1 (v := u32 ((wB p j).getD ((16 + j) - 16) 0)) (eh d0 rfl) (hz.ex P0.bk (fun h => h)) (us_get (n := 64) (wB_len _ _) (by omega)) qr_143) ⟨_, i0⟩ <| tk2 (i := 5) rfl rfl (fun _ _ => r_move (em d0 rfl rfl B0)) ⟨_, i0⟩ <| tk2 (i := 6) rfl rfl (fun _ _ => r_sub (j := 15) (eh d0 rfl) rfl (by omega) (by omega)) ⟨_, i0⟩ <| tk2 (i := 7) rfl rfl (fun _ _ => r_idxA (o' := (16 + j) - 15) (em d0 rfl rfl A0) (eh d0 rfl) qa_146 (by omega) (by omega)) ⟨_, i0⟩ <| tk2 (i := 8) rfl rfl (fun wz ⟨mz, hz⟩ => r_load1 (v := u32 ((wB p j).getD ((16 + j) - 15) 0)) (eh d0 rfl) (hz.ex P0.bk (fun h => h)) (us_get (n := 64) (wB_len _ _) (by omega)) qr_143) ⟨_, i0⟩ <| tk2 (i := 11) rfl rfl (fun _ _ => r_move (em d0 rfl rfl B0)) ⟨_, i0⟩ <| tk2 (i := 12) rfl rfl (fun _ _ => r_sub (j := 7) (eh d0 rfl) rfl (by omega) (by omega)) ⟨_, i0⟩ <| tk2 (i := 13) rfl rfl (fun _ _ => r_idxA (o' := (16 + j) - 7) (em d0 rfl rfl A0) (eh d0 rfl) qa_146 (by omega) (by omega)) ⟨_, i0⟩ <| tk2 (i := 14) rfl rfl (fun wz ⟨mz, hz⟩ => r_load1 (v := u32 ((wB p j).getD ((16 + j) - 7) 0)) (eh d0 rfl) (hz.ex P0.bk (fun h => h)) (us_get (n := 64) (wB_len _ _) (by omega)) qr_143) ⟨_, i0⟩ <| tk2 (i := 16) rfl rfl (fun _ _ => r_move (em d0 rfl rfl B0)) ⟨_, i0⟩ <| tk2 (i := 17) rfl rfl (fun _ _ => r_sub (j := 2) (eh d0 rfl) rfl (by omega) (by omega)) ⟨_, i0⟩ <| tk2 (i := 18) rfl rfl (fun _ _ => r_idxA (o' := (16 + j) - 2) (em d0 rfl rfl A0) (eh d0 rfl) qa_146 (by omega) (by omega)) ⟨_, i0⟩ ?_
     refine tk2 (i := 19) rfl rfl (fun wz ⟨mz, hz⟩ => r_load1 (v := u32 ((wB p j).getD ((16 + j) - 2) 0)) (eh d0 rfl) (hz.ex P0.bk (fun h => h)) (us_get (n := 64) (wB_len _ _) (by omega)) qr_143) ⟨_, i0⟩ <| ann (i := 9) (b := false) rfl rfl (k_cl (f111 (x := (wB p j).getD ((16 + j) - 15) 0)) rfl fn_111 (map_cons (eh d0 rfl) map_nil) (fun J3 P3 B2 => ?_))
     obtain ⟨rfl, rfl⟩ := B2
     refine ⟨(tbF ⟨_, i0⟩), ?_⟩
     refine tk2 (i := 10) rfl rfl (fun _ _ => r_add32 (eh d0 rfl) (eh d0 rfl)) ⟨_, i0⟩ <| tk2 (i := 15) rfl rfl (fun _ _ => r_add32 (eh d0 rfl) (eh d0 rfl)) ⟨_, i0⟩ <| ann (i := 20) (b := false) rfl rfl (k_cl (f112 (x := (wB p j).getD ((16 + j) - 2) 0)) rfl fn_112 (map_cons (eh d0 rfl) map_nil) (fun K3 Q3 C2 => ?_))
     obtain ⟨rfl, rfl⟩ := C2
     refine ⟨(tbF ⟨_, i0⟩), ?_⟩
     refine tk2 (i := 21) rfl rfl (fun _ _ => r_add32 (eh d0 rfl) (eh d0 rfl)) ⟨_, i0⟩ <| tk2 (i := 22) rfl rfl (fun _ _ => r_idxA (o' := 16 + j) (em d0 rfl rfl A0) (eh d0 rfl) qa_146 (by omega) (by omega)) ⟨_, i0⟩ ?_
     have N2 : Fr (on k0) _ _ _ _ := i0.wk (fun x hx _ => hx.elim)
     have g3 : ((wB p j).set (16 + j) (((((wB p j).getD ((16 + j) - 16) 0) + (sS0 ((wB p j).getD ((16 + j) - 15) 0))) + ((wB p j).getD ((16 + j) - 7) 0)) + (sS1 ((wB p j).getD ((16 + j) - 2) 0))) : List UInt32).length = 64 := (len_set (wB_len _ _))
     refine an00 (i := 23) (b := true) rfl rfl (k_store1 (b := k0) (off := (16 + j)) (v := u32 (((((wB p j).getD ((16 + j) - 16) 0) + (sS0 ((wB p j).getD ((16 + j) - 15) 0))) + ((wB p j).getD ((16 + j) - 7) 0)) + (sS1 ((wB p j).getD ((16 + j) - 2) 0)))) (L' := us ((wB p j).set (16 + j) (((((wB p j).getD ((16 + j) - 16) 0) + (sS0 ((wB p j).getD ((16 + j) - 15) 0))) + ((wB p j).getD ((16 + j) - 7) 0)) + (sS1 ((wB p j).getD ((16 + j) - 2) 0))))) C0.ag (eh d0 rfl) (eh d0 rfl) P0 sz_143 rfl (lt_us (n := 64) (wB_len _ _) (by omega)) us_set (fun R3 u2 Z0 => ?_))
     have u3 := Z0.size
     have O2 := N2.tr Z0 (fun x hx => .inr (by cases hx; exact rfl))
     refine ⟨(tbT ⟨_, O2⟩), ?_⟩
     refine anyT_done (by kernel_rfl) ?_ _
     refine n2 <| rn <| mw d0 B0 <| gv (r_add (j := 1) (eh d0 rfl) rfl (by omega)) <| ms d0 rfl <| nl <| loop_back (s := j) ⟨j + 1, (show 48 - (j + 1) < 48 - (j) from (by omega)), ?_⟩
     exact ⟨q0, ((ov_size _ _).trans d0), ((ov_defers _ _).trans m1), (by omega), (gm d0 rfl rfl h1), (gm d0 rfl rfl L1), (gm d0 rfl rfl A0), (gh d0 rfl), ((z0.t0 C0).tr Z0 (fun x hx => .inr (by cases hx; exact rfl))), u2⟩
    ·
     refine cf (eb d0 rfl (decide_eq_false s1)) <| we ?_
     have I2 : 48 = j := (by omega)
     subst I2
     refine h2 <| sk fun _ O1 => rn <| mw d0 h1 <| nc d0 rfl ?_
     have n1 := (((hmS.f0 G0).f1 w0 (by omega)).f1 z0 (by omega))
     refine gv (r_loadN (cs := us s) (eh d0 rfl) n1.bk (rd_all (Eq.trans (us_length _) hs8)) (Eq.trans (us_length _) hs8) qr_145 sz_145) <| gk (k_alloc z0.ag qz_145 (fun S3 U0 t1 D0 p3 => ?_))
     have v3 := D0.size
     have r3 := t1.lt
     refine gz (k_store (L' := us s) (cs := us s) D0.ag (eh d0 rfl) (eh d0 rfl) t1 (by kernel_rfl) (sz_eq sz_145 (Eq.trans (us_length _) hs8)) (one_us _) (le_all (Eq.trans (us_length _) List.length_replicate) (Eq.trans (us_length _) hs8)) (wr_all (Eq.trans (Eq.trans (us_length _) List.length_replicate) (Eq.symm (Eq.trans (us_length _) hs8)))) (fun W2 v2 E0 => ?_))
     have w3 := E0.size
     refine nl <| O1 <| sk fun _ P1 => sk fun _ Q1 => rn <| gv (r_move (v := nn 0) rfl) <| nl <| Q1 <| bl <| wp_loop_s (σ := Nat) (I := fun (i : Nat) (a' : Act) (w' : World) => ∃ (m' : Ctx), a'.tmps.size = 157 ∧ a'.defers = [] ∧ i ≤ 64 ∧ a'.tmps.getD 0 undef = .pointer (some ⟨bs, 0, none⟩) ∧ a'.tmps.getD 2 undef = .pointer (some ⟨bk, 0, none⟩) ∧ a'.tmps.getD 6 undef = .pointer (some ⟨k0, 0, none⟩) ∧ a'.tmps.getD 9 undef = .pointer (some ⟨U0, 0, none⟩) ∧ a'.tmps.getD 83 undef = nn i ∧ Fr (on U0) q0 W2 m' w' ∧ Mu m' w' U0 145 (us (vC s (wB p 48) i))) (μ := fun i => 64 - i) (s₀ := 0) ?_ ?_
     · exact ⟨q0, ((ov_size _ _).trans d0), ((ov_defers _ _).trans m1), (by omega), (gm d0 rfl rfl h1), (gm d0 rfl rfl L1), (gm d0 rfl rfl A0), (gh d0 rfl), (gh d0 rfl), (Fr.refl E0.ag), v2⟩
     ·
      intro i a3 L0 hI
      obtain ⟨l0, b0, k1, l3, E1, F1, G1, j0, c1, u0, u1⟩ := hI
      refine of_ov ?_
      have x3 := u0.size
      refine sk fun _ R1 => rn <| gv (r_lss (j := 64) (em b0 rfl rfl c1) rfl) <| nl <| R1 <| sk fun _ S1 => ?_
      by_cases p1 : i < 64
      ·
       refine ct (eb b0 rfl (decide_eq_true p1)) <| ws <| S1 <| sk fun _ T1 => bl <| sk fun _ U1 => rn <| mw b0 c1 <| ms b0 rfl <| nl <| U1 <| sk fun _ V1 => ?_
       have v0 : Fr no l0 L0 l0 { L0 with drawn := L0.drawn + 1 } := Fr.drw u0.ag
       obtain ⟨s0, A1⟩ : ∃ w_, w_ = ({ L0 with drawn := L0.drawn + 1 } : World) := ⟨_, rfl⟩
       rw [← A1] at v0
       have y3 := v0.size
       refine wp_region_T mixed (fun wz => ∃ mz, Fr (no) l0 s0 mz wz) (fun wz => ∃ mz, Fr (no) l0 s0 mz wz) 25 ?_
       rw [← A1]
       show wpAnyT _ _ _ _ _ 25 _ _ _
       have h0 : Fr (no) l0 s0 l0 s0 := Fr.refl v0.ag
       refine tkk (i := 0) rfl rfl (fun _ _ => r_idxA (i := 7) (o' := 7) (em b0 rfl rfl j0) rfl qa_145 (by decide) (by rfl)) ⟨_, h0⟩ ?_
       have I0 := (u1.f0 v0)
       refine tkk (i := 1) rfl rfl (fun wz ⟨mz, hz⟩ => r_load1 (v := u32 ((vC s (wB p 48) i).getD 7 0)) (eh b0 rfl) (hz.ex I0.bk (fun h => h)) (us_get (n := 8) (vC_len hs8 _ _) (by decide)) qr_143) ⟨_, h0⟩ <| tkk (i := 2) rfl rfl (fun _ _ => r_idxA (i := 4) (o' := 4) (em b0 rfl rfl j0) rfl qa_145 (by decide) (by rfl)) ⟨_, h0⟩ <| tkk (i := 3) rfl rfl (fun wz ⟨mz, hz⟩ => r_load1 (v := u32 ((vC s (wB p 48) i).getD 4 0)) (eh b0 rfl) (hz.ex I0.bk (fun h => h)) (us_get (n := 8) (vC_len hs8 _ _) (by decide)) qr_143) ⟨_, h0⟩ <| tkk (i := 6) rfl rfl (fun _ _ => r_idxA (i := 4) (o' := 4) (em b0 rfl rfl j0) rfl qa_145 (by decide) (by rfl)) ⟨_, h0⟩ <| tkk (i := 7) rfl rfl (fun wz ⟨mz, hz⟩ => r_load1 (v := u32 ((vC s (wB p 48) i).getD 4 0)) (eh b0 rfl) (hz.ex I0.bk (fun h => h)) (us_get (n := 8) (vC_len hs8 _ _) (by decide)) qr_143) ⟨_, h0⟩ <| tkk (i := 8) rfl rfl (fun _ _ => r_idxA (i := 5) (o' := 5) (em b0 rfl rfl j0) rfl qa_145 (by decide) (by rfl)) ⟨_, h0⟩ <| tkk (i := 9) rfl rfl (fun wz ⟨mz, hz⟩ => r_load1 (v := u32 ((vC s (wB p 48) i).getD 5 0)) (eh b0 rfl) (hz.ex I0.bk (fun h => h)) (us_get (n := 8) (vC_len hs8 _ _) (by decide)) qr_143) ⟨_, h0⟩ <| tkk (i := 10) rfl rfl (fun _ _ => r_idxA (i := 6) (o' := 6) (em b0 rfl rfl j0) rfl qa_145 (by decide) (by rfl)) ⟨_, h0⟩ <| tkk (i := 11) rfl rfl (fun wz ⟨mz, hz⟩ => r_load1 (v := u32 ((vC s (wB p 48) i).getD 6 0)) (eh b0 rfl) (hz.ex I0.bk (fun h => h)) (us_get (n := 8) (vC_len hs8 _ _) (by decide)) qr_143) ⟨_, h0⟩ <| tkk (i := 14) rfl rfl (fun _ _ => r_move (em b0 rfl rfl F1)) ⟨_, h0⟩ ?_
       refine tkk (i := 15) rfl rfl (fun _ _ => r_move (eh b0 rfl)) ⟨_, h0⟩ <| tkk (i := 16) rfl rfl (fun _ _ => r_nilCheck (eh b0 rfl)) ⟨_, h0⟩ <| tkk (i := 17) rfl rfl (fun _ _ => r_idxA (o' := i) (eh b0 rfl) (eh b0 rfl) qa_146 (by omega) (by omega)) ⟨_, h0⟩ ?_
       have p2 := (((((((hmK.f0 G0).f1 w0 (by omega)).f1 z0 (by omega)).f0 D0).f1 E0 (by omega)).f1 u0 (by omega)).f0 v0)
       refine tkk (i := 18) rfl rfl (fun wz ⟨mz, hz⟩ => r_load1 (v := u32 ((kT).getD i 0)) (eh b0 rfl) (hz.ex p2.bk (fun h => h)) (us_get (n := 64) kT_len (by omega)) qr_143) ⟨_, h0⟩ <| tkk (i := 20) rfl rfl (fun _ _ => r_move (eh b0 rfl)) ⟨_, h0⟩ <| tkk (i := 21) rfl rfl (fun _ _ => r_idxA (o' := i) (em b0 rfl rfl G1) (eh b0 rfl) qa_146 (by omega) (by omega)) ⟨_, h0⟩ ?_
       have q2 := ((((y1.f0 D0).f1 E0 (by omega)).f1 u0 (by omega)).f0 v0)
       refine tkk (i := 22) rfl rfl (fun wz ⟨mz, hz⟩ => r_load1 (v := u32 ((wB p 48).getD i 0)) (eh b0 rfl) (hz.ex q2.bk (fun h => h)) (us_get (n := 64) (wB_len _ _) (by omega)) qr_143) ⟨_, h0⟩ <| ann (i := 4) (b := true) rfl rfl (k_cl (f113 (x := (vC s (wB p 48) i).getD 4 0)) rfl fn_113 (map_cons (eh b0 rfl) map_nil) (fun L3 T3 D2 => ?_))
       obtain ⟨rfl, rfl⟩ := D2
       refine ⟨(tbT ⟨_, h0⟩), ?_⟩
       refine tkk (i := 5) rfl rfl (fun _ _ => r_add32 (eh b0 rfl) (eh b0 rfl)) ⟨_, h0⟩ <| ann (i := 12) (b := true) rfl rfl (k_cl (f114 (x := (vC s (wB p 48) i).getD 4 0) (y := (vC s (wB p 48) i).getD 5 0) (z := (vC s (wB p 48) i).getD 6 0)) rfl fn_114 (map_cons (eh b0 rfl) (map_cons (eh b0 rfl) (map_cons (eh b0 rfl) map_nil))) (fun M3 U3 E2 => ?_))
       obtain ⟨rfl, rfl⟩ := E2
       refine ⟨(tbT ⟨_, h0⟩), ?_⟩
       refine tkk (i := 13) rfl rfl (fun _ _ => r_add32 (eh b0 rfl) (eh b0 rfl)) ⟨_, h0⟩ <| tkk (i := 19) rfl rfl (fun _ _ => r_add32 (eh b0 rfl) (eh b0 rfl)) ⟨_, h0⟩ <| tkk (i := 23) rfl rfl (fun _ _ => r_add32 (eh b0 rfl) (eh b0 rfl)) ⟨_, h0⟩ <| tkk (i := 24) rfl rfl (fun _ _ => r_assign (eh b0 rfl)) ⟨_, h0⟩ <| anyT_done (by kernel_rfl) ?_ _
       refine V1 <| sk fun _ W1 => ?_
       have F0 : Fr no l0 s0 l0 { s0 with drawn := s0.drawn + 1 } := Fr.drw v0.ag
       obtain ⟨Y0, B1⟩ : ∃ w_, w_ = ({ s0 with drawn := s0.drawn + 1 } : World) := ⟨_, rfl⟩
       rw [← B1] at F0
       have z3 := F0.size
       refine wp_region_T mixed (fun wz => ∃ mz, Fr (no) l0 Y0 mz wz) (fun wz => ∃ mz, Fr (no) l0 Y0 mz wz) 12 ?_
       rw [← B1]
       show wpAnyT _ _ _ _ _ 12 _ _ _
       have n0 : Fr (no) l0 Y0 l0 Y0 := Fr.refl F0.ag
       refine tkk (i := 0) rfl rfl (fun _ _ => r_idxA (i := 0) (o' := 0) (em b0 rfl rfl j0) rfl qa_145 (by decide) (by rfl)) ⟨_, n0⟩ ?_
       have m0 := (I0.f0 F0)
       refine tkk (i := 1) rfl rfl (fun wz ⟨mz, hz⟩ => r_load1 (v := u32 ((vC s (wB p 48) i).getD 0 0)) (eh b0 rfl) (hz.ex m0.bk (fun h => h)) (us_get (n := 8) (vC_len hs8 _ _) (by decide)) qr_143) ⟨_, n0⟩ <| tkk (i := 3) rfl rfl (fun _ _ => r_idxA (i := 0) (o' := 0) (em b0 rfl rfl j0) rfl qa_145 (by decide) (by rfl)) ⟨_, n0⟩ <| tkk (i := 4) rfl rfl (fun wz ⟨mz, hz⟩ => r_load1 (v := u32 ((vC s (wB p 48) i).getD 0 0)) (eh b0 rfl) (hz.ex m0.bk (fun h => h)) (us_get (n := 8) (vC_len hs8 _ _) (by decide)) qr_143) ⟨_, n0⟩ <| tkk (i := 5) rfl rfl (fun _ _ => r_idxA (i := 1) (o' := 1) (em b0 rfl rfl j0) rfl qa_145 (by decide) (by rfl)) ⟨_, n0⟩ <| tkk (i := 6) rfl rfl (fun wz ⟨mz, hz⟩ => r_load1 (v := u32 ((vC s (wB p 48) i).getD 1 0)) (eh b0 rfl) (hz.ex m0.bk (fun h => h)) (us_get (n := 8) (vC_len hs8 _ _) (by decide)) qr_143) ⟨_, n0⟩ <| tkk (i := 7) rfl rfl (fun _ _ => r_idxA (i := 2) (o' := 2) (em b0 rfl rfl j0) rfl qa_145 (by decide) (by rfl)) ⟨_, n0⟩ <| tkk (i := 8) rfl rfl (fun wz ⟨mz, hz⟩ => r_load1 (v := u32 ((vC s (wB p 48) i).getD 2 0)) (eh b0 rfl) (hz.ex m0.bk (fun h => h)) (us_get (n := 8) (vC_len hs8 _ _) (by decide)) qr_143) ⟨_, n0⟩ <| ann (i := 2) (b := true) rfl rfl (k_cl (f115 (x := (vC s (wB p 48) i).getD 0 0)) rfl fn_115 (map_cons (eh b0 rfl) map_nil) (fun N3 V3 F2 => ?_))
       obtain ⟨rfl, rfl⟩ := F2
       refine ⟨(tbT ⟨_, n0⟩), ?_⟩
       refine ann (i := 9) (b := true) rfl rfl (k_cl (f116 (x := (vC s (wB p 48) i).getD 0 0) (y := (vC s (wB p 48) i).getD 1 0) (z := (vC s (wB p 48) i).getD 2 0)) rfl fn_116 (map_cons (eh b0 rfl) (map_cons (eh b0 rfl) (map_cons (eh b0 rfl) map_nil))) (fun O3 W3 G2 => ?_))
       obtain ⟨rfl, rfl⟩ := G2
       refine ⟨(tbT ⟨_, n0⟩), ?_⟩
       refine tkk (i := 10) rfl rfl (fun _ _ => r_add32 (eh b0 rfl) (eh b0 rfl)) ⟨_, n0⟩ <| tkk (i := 11) rfl rfl (fun _ _ => r_assign (eh b0 rfl)) ⟨_, n0⟩ <| anyT_done (by kernel_rfl) ?_ _
       refine W1 <| rn <| mv b0 rfl <| mv b0 rfl <| gv (r_add32 (eh b0 rfl) (eh b0 rfl)) <| gv (r_idxA (i := 0) (o' := 0) (em b0 rfl rfl j0) rfl qa_145 (by decide) (by rfl)) <| gv (r_load1 (v := u32 ((vC s (wB p 48) i).getD 0 0)) (eh b0 rfl) m0.bk (us_get (n := 8) (vC_len hs8 _ _) (by decide)) qr_143) <| gv (r_idxA (i := 1) (o' := 1) (em b0 rfl rfl j0) rfl qa_145 (by decide) (by rfl)) <| gv (r_load1 (v := u32 ((vC s (wB p 48) i).getD 1 0)) (eh b0 rfl) m0.bk (us_get (n := 8) (vC_len hs8 _ _) (by decide)) qr_143) <| gv (r_idxA (i := 2) (o' := 2) (em b0 rfl rfl j0) rfl qa_145 (by decide) (by rfl)) <| gv (r_load1 (v := u32 ((vC s (wB p 48) i).getD 2 0)) (eh b0 rfl) m0.bk (us_get (n := 8) (vC_len hs8 _ _) (by decide)) qr_143) <| gv (r_idxA (i := 3) (o' := 3) (em b0 rfl rfl j0) rfl qa_145 (by decide) (by rfl)) <| gv (r_load1 (v := u32 ((vC s (wB p 48) i).getD 3 0)) (eh b0 rfl) m0.bk (us_get (n := 8) (vC_len hs8 _ _) (by decide)) qr_143) <| mv b0 rfl <| gv (r_add32 (eh b0 rfl) (eh b0 rfl)) <| gv (r_idxA (i := 4) (o' := 4) (em b0 rfl rfl j0) rfl qa_145 (by decide) (by rfl)) <| gv (r_load1 (v := u32 ((vC s (wB p 48) i).getD 4 0)) (eh b0 rfl) m0.bk (us_get (n := 8) (vC_len hs8 _ _) (by decide)) qr_143) <| gv (r_idxA (i := 5) (o' := 5) (em b0 rfl rfl j0) rfl qa_145 (by decide) (by rfl)) <| gv (r_load1 (v := u32 ((vC s (wB p 48) i).getD 5 0)) (eh b0 rfl) m0.bk (us_get (n := 8) (vC_len hs8 _ _) (by decide)) qr_143) <| gv (r_idxA (i := 6) (o' := 6) (em b0 rfl rfl j0) rfl qa_145 (by decide) (by rfl)) ?_
       refine gv (r_load1 (v := u32 ((vC s (wB p 48) i).getD 6 0)) (eh b0 rfl) m0.bk (us_get (n := 8) (vC_len hs8 _ _) (by decide)) qr_143) <| gv (r_build (cs := us ([((((((vC s (wB p 48) i).getD 7 0) + (sB1 ((vC s (wB p 48) i).getD 4 0))) + (sCh ((vC s (wB p 48) i).getD 4 0) ((vC s (wB p 48) i).getD 5 0) ((vC s (wB p 48) i).getD 6 0))) + ((kT).getD i 0)) + ((wB p 48).getD i 0)) + ((sB0 ((vC s (wB p 48) i).getD 0 0)) + (sMj ((vC s (wB p 48) i).getD 0 0) ((vC s (wB p 48) i).getD 1 0) ((vC s (wB p 48) i).getD 2 0))), (vC s (wB p 48) i).getD 0 0, (vC s (wB p 48) i).getD 1 0, (vC s (wB p 48) i).getD 2 0, ((vC s (wB p 48) i).getD 3 0) + ((((((vC s (wB p 48) i).getD 7 0) + (sB1 ((vC s (wB p 48) i).getD 4 0))) + (sCh ((vC s (wB p 48) i).getD 4 0) ((vC s (wB p 48) i).getD 5 0) ((vC s (wB p 48) i).getD 6 0))) + ((kT).getD i 0)) + ((wB p 48).getD i 0)), (vC s (wB p 48) i).getD 4 0, (vC s (wB p 48) i).getD 5 0, (vC s (wB p 48) i).getD 6 0])) (pm_cons (eh b0 rfl) (pm_cons (eh b0 rfl) (pm_cons (eh b0 rfl) (pm_cons (eh b0 rfl) (pm_cons (eh b0 rfl) (pm_cons (eh b0 rfl) (pm_cons (eh b0 rfl) (pm_cons (eh b0 rfl) pm_nil)))))))) (by kernel_rfl)) <| gz (k_store (L' := us ([((((((vC s (wB p 48) i).getD 7 0) + (sB1 ((vC s (wB p 48) i).getD 4 0))) + (sCh ((vC s (wB p 48) i).getD 4 0) ((vC s (wB p 48) i).getD 5 0) ((vC s (wB p 48) i).getD 6 0))) + ((kT).getD i 0)) + ((wB p 48).getD i 0)) + ((sB0 ((vC s (wB p 48) i).getD 0 0)) + (sMj ((vC s (wB p 48) i).getD 0 0) ((vC s (wB p 48) i).getD 1 0) ((vC s (wB p 48) i).getD 2 0))), (vC s (wB p 48) i).getD 0 0, (vC s (wB p 48) i).getD 1 0, (vC s (wB p 48) i).getD 2 0, ((vC s (wB p 48) i).getD 3 0) + ((((((vC s (wB p 48) i).getD 7 0) + (sB1 ((vC s (wB p 48) i).getD 4 0))) + (sCh ((vC s (wB p 48) i).getD 4 0) ((vC s (wB p 48) i).getD 5 0) ((vC s (wB p 48) i).getD 6 0))) + ((kT).getD i 0)) + ((wB p 48).getD i 0)), (vC s (wB p 48) i).getD 4 0, (vC s (wB p 48) i).getD 5 0, (vC s (wB p 48) i).getD 6 0])) (cs := us ([((((((vC s (wB p 48) i).getD 7 0) + (sB1 ((vC s (wB p 48) i).getD 4 0))) + (sCh ((vC s (wB p 48) i).getD 4 0) ((vC s (wB p 48) i).getD 5 0) ((vC s (wB p 48) i).getD 6 0))) + ((kT).getD i 0)) + ((wB p 48).getD i 0)) + ((sB0 ((vC s (wB p 48) i).getD 0 0)) + (sMj ((vC s (wB p 48) i).getD 0 0) ((vC s (wB p 48) i).getD 1 0) ((vC s (wB p 48) i).getD 2 0))), (vC s (wB p 48) i).getD 0 0, (vC s (wB p 48) i).getD 1 0, (vC s (wB p 48) i).getD 2 0, ((vC s (wB p 48) i).getD 3 0) + ((((((vC s (wB p 48) i).getD 7 0) + (sB1 ((vC s (wB p 48) i).getD 4 0))) + (sCh ((vC s (wB p 48) i).getD 4 0) ((vC s (wB p 48) i).getD 5 0) ((vC s (wB p 48) i).getD 6 0))) + ((kT).getD i 0)) + ((wB p 48).getD i 0)), (vC s (wB p 48) i).getD 4 0, (vC s (wB p 48) i).getD 5 0, (vC s (wB p 48) i).getD 6 0])) F0.ag (em b0 rfl rfl j0) (eh b0 rfl) m0 (by kernel_rfl) (sz_eq sz_145 (by kernel_rfl)) (one_us _) (le_all (Eq.trans (us_length _) (vC_len hs8 _ _)) (by kernel_rfl)) (wr_all (Eq.trans (Eq.trans (us_length _) (vC_len hs8 _ _)) (Eq.symm (by kernel_rfl)))) (fun X3 x2 i1 => ?_))
       have A3 := i1.size
       refine nl <| T1 <| rn <| gv (r_add (j := 1) (em b0 rfl rfl c1) rfl (by omega)) <| mv b0 rfl <| nl <| loop_back (s := i) ⟨i + 1, (show 64 - (i + 1) < 64 - (i) from (by omega)), ?_⟩
       exact ⟨l0, ((ov_size _ _).trans b0), ((ov_defers _ _).trans k1), (by omega), (gm b0 rfl rfl E1), (gm b0 rfl rfl F1), (gm b0 rfl rfl G1), (gm b0 rfl rfl j0), (gh b0 rfl), (((u0.t0 v0).t0 F0).tr i1 (fun x hx => .inr (by cases hx; exact rfl))), x2⟩
      ·
       refine cf (eb b0 rfl (decide_eq_false p1)) <| we ?_
       have J2 : 64 = i := (by omega)
       subst J2
       refine P1 <| sk fun _ X1 => rn <| gv (r_move (v := nn 0) rfl) <| nl <| X1 <| bl ?_
       have r2 := (((n1.f0 D0).f1 E0 (by omega)).f1 u0 (by omega))
       refine wp_loop_s (σ := Nat) (I := fun (i : Nat) (a' : Act) (w' : World) => ∃ (m' : Ctx), a'.tmps.size = 157 ∧ a'.defers = [] ∧ i ≤ 8 ∧ a'.tmps.getD 0 undef = .pointer (some ⟨bs, 0, none⟩) ∧ a'.tmps.getD 9 undef = .pointer (some ⟨U0, 0, none⟩) ∧ a'.tmps.getD 142 undef = nn i ∧ Fr (on bs) l0 L0 m' w' ∧ Mu m' w' bs 145 (us (sD s (vC s (wB p 48) 64) i))) (μ := fun i => 8 - i) (s₀ := 0) ?_ ?_
       · exact ⟨l0, ((ov_size _ _).trans b0), ((ov_defers _ _).trans k1), (by omega), (gm b0 rfl rfl E1), (gm b0 rfl rfl j0), (gh b0 rfl), (Fr.refl u0.ag), r2⟩
       ·
        intro i c3 R0 hI
        obtain ⟨r0, g0, l1, n3, J1, K1, g1, O0, v1⟩ := hI
        refine of_ov ?_
        have B3 := O0.size
        refine sk fun _ Y1 => rn <| gv (r_lss (j := 8) (em g0 rfl rfl g1) rfl) <| nl <| Y1 <| sk fun _ Z1 => ?_
        by_cases q1 : i < 8
        ·
         refine ct (eb g0 rfl (decide_eq_true q1)) <| ws <| Z1 <| sk fun _ a2 => bl <| sk fun _ b2 => rn <| mw g0 g1 <| ms g0 rfl <| nl <| b2 ?_
         have x0 : Fr no r0 R0 r0 { R0 with drawn := R0.drawn + 1 } := Fr.drw O0.ag
         obtain ⟨M0, C1⟩ : ∃ w_, w_ = ({ R0 with drawn := R0.drawn + 1 } : World) := ⟨_, rfl⟩
         rw [← C1] at x0
         have C3 := x0.size
         refine wp_region_T mixed (fun wz => ∃ mz, Fr (no) r0 M0 mz wz) (fun wz => ∃ mz, Fr (on bs) r0 M0 mz wz) 11 ?_
         rw [← C1]
         show wpAnyT _ _ _ _ _ 12 _ _ _
         have o0 : Fr (no) r0 M0 r0 M0 := Fr.refl x0.ag
         have A2 : ∀ wz, (∃ mz, Fr (no) r0 M0 mz wz) → ∃ mz, Fr (on bs) r0 M0 mz wz := fun wz ⟨mz, hz⟩ => ⟨mz, hz.wk (fun x hx _ => hx.elim)⟩
         refine tk2 (i := 0) rfl rfl (fun _ _ => r_move (em g0 rfl rfl J1)) ⟨_, o0⟩ <| tk2 (i := 1) rfl rfl (fun _ _ => r_move (eh g0 rfl)) ⟨_, o0⟩ <| tk2 (i := 2) rfl rfl (fun _ _ => r_nilCheck (eh g0 rfl)) ⟨_, o0⟩ <| tk2 (i := 3) rfl rfl (fun _ _ => r_idxA (o' := i) (eh g0 rfl) (eh g0 rfl) qa_145 (by omega) (by omega)) ⟨_, o0⟩ ?_
         have o1 := (v1.f0 x0)
         refine tk2 (i := 4) rfl rfl (fun wz ⟨mz, hz⟩ => r_load1 (v := u32 ((sD s (vC s (wB p 48) 64) i).getD i 0)) (eh g0 rfl) (hz.ex o1.bk (fun h => h)) (us_get (n := 8) (sD_len hs8 _ _) (by omega)) qr_143) ⟨_, o0⟩ <| tk2 (i := 5) rfl rfl (fun _ _ => r_move (eh g0 rfl)) ⟨_, o0⟩ <| tk2 (i := 6) rfl rfl (fun _ _ => r_idxA (o' := i) (em g0 rfl rfl K1) (eh g0 rfl) qa_145 (by omega) (by omega)) ⟨_, o0⟩ ?_
         have s2 := ((u1.f1 O0 (by omega)).f0 x0)
         refine tk2 (i := 7) rfl rfl (fun wz ⟨mz, hz⟩ => r_load1 (v := u32 ((vC s (wB p 48) 64).getD i 0)) (eh g0 rfl) (hz.ex s2.bk (fun h => h)) (us_get (n := 8) (vC_len hs8 _ _) (by omega)) qr_143) ⟨_, o0⟩ <| tk2 (i := 8) rfl rfl (fun _ _ => r_add32 (eh g0 rfl) (eh g0 rfl)) ⟨_, o0⟩ <| tk1 (i := 9) (b := false) rfl rfl A2 (fun _ _ => r_nilCheck (eh g0 rfl)) (tbF ⟨_, o0⟩) <| tk2 (i := 10) rfl rfl (fun _ _ => r_idxA (o' := i) (eh g0 rfl) (eh g0 rfl) qa_145 (by omega) (by omega)) ⟨_, o0⟩ ?_
         have P2 : Fr (on bs) _ _ _ _ := o0.wk (fun x hx _ => hx.elim)
         have h3 : ((sD s (vC s (wB p 48) 64) i).set i (((sD s (vC s (wB p 48) 64) i).getD i 0) + ((vC s (wB p 48) 64).getD i 0)) : List UInt32).length = 8 := (len_set (sD_len hs8 _ _))
         refine an00 (i := 11) (b := true) rfl rfl (k_store1 (b := bs) (off := i) (v := u32 (((sD s (vC s (wB p 48) 64) i).getD i 0) + ((vC s (wB p 48) 64).getD i 0))) (L' := us ((sD s (vC s (wB p 48) 64) i).set i (((sD s (vC s (wB p 48) 64) i).getD i 0) + ((vC s (wB p 48) 64).getD i 0)))) x0.ag (eh g0 rfl) (eh g0 rfl) o1 sz_143 rfl (lt_us (n := 8) (sD_len hs8 _ _) (by omega)) us_set (fun Y3 y2 a1 => ?_))
         have E3 := a1.size
         have Q2 := P2.tr a1 (fun x hx => .inr (by cases hx; exact rfl))
         refine ⟨(tbT ⟨_, Q2⟩), ?_⟩
         refine anyT_done (by kernel_rfl) ?_ _
         refine a2 <| rn <| gv (r_add (j := 1) (em g0 rfl rfl g1) rfl (by omega)) <| mv g0 rfl <| nl <| loop_back (s := i) ⟨i + 1, (show 8 - (i + 1) < 8 - (i) from (by omega)), ?_⟩
         exact ⟨r0, ((ov_size _ _).trans g0), ((ov_defers _ _).trans l1), (by omega), (gm g0 rfl rfl J1), (gm g0 rfl rfl K1), (gh g0 rfl), ((O0.t0 x0).tr a1 (fun x hx => .inr (by cases hx; exact rfl))), y2⟩
        ·
         refine cf (eb g0 rfl (decide_eq_false q1)) <| we ?_
         have K2 : 8 = i := (by omega)
         subst K2
         refine end_of (res0 rfl _ _ _) ((ov_defers _ _).trans l1) ?_
         exact ⟨r0, (((((((cu0.t0 G0).tn w0 (by omega)).tn z0 (by omega)).t0 D0).tn E0 (by omega)).tn u0 (by omega)).tr O0 (fun x hx => (by cases hx; exact .inr rfl))), v1⟩

end Go.Proofs.YtiggfalelcepbaaGreatDoor

/- The walks of chapter 16: seeds, roots, keys. -/
import Derived.Test.YtiggfalelcepbaaGreatDoorK7
import Derived.Test.YtiggfalelcepbaaGreatDoorSX
import Derived.Test.YtiggfalelcepbaaGreatDoorW11
import Derived.Test.YtiggfalelcepbaaGreatDoorTX
namespace Go.Proofs.YtiggfalelcepbaaGreatDoor
open Go
set_option maxRecDepth 100000
set_option maxHeartbeats 4000000
theorem f20 {m : Ctx} {w : World} (ag : Ag m w) {s : Bytes} {g : Nat} : Calls Tryz.prog 20 #[H s, nn g] w (Ret fun v w' => ∃ m', v = H (sdg s g) ∧ Fr no m w m' w') := by
 refine enter Tryz.func20 rfl (fun j0 hT v0 => ?_)
 have b0 : j0.tmps.size = 11 := by rw [hT]; kernel_rfl
 have F0 : j0.tmps.getD 0 undef = H s := by rw [hT]; kernel_rfl
 have G0 : j0.tmps.getD 1 undef = nn g := by rw [hT]; kernel_rfl
 clear hT
 have cu0 : Fr (no) m w m w := Fr.refl ag
 refine sk fun _ w0 => rn <| gk (k_box (L := hc s) ag (em b0 rfl rfl F0) (by kernel_rfl) (fun b1 J0 p0 k0 N0 => ?_))
 have Z0 := k0.size
 have P0 := p0.lt
 refine gk (k_alloc k0.ag qz_23 (fun g1 l0 n0 d0 L0 => ?_))
 have T0 := d0.size
 have Q0 := n0.lt
 refine nl <| w0 <| sk fun _ x0 => rn <| gv (r_sliceA (eh b0 rfl) qa_23) <| mw b0 G0 <| gv (r_cv_n_8 (i := g) (eh b0 rfl) qu_3 qu_5) <| gk (k_lit (e := 5) (L := bv ([UInt8.ofNat g])) d0.ag (pm_cons (eh b0 rfl) pm_nil) (by kernel_rfl) (fun q0 I0 o0 c0 M0 => ?_))
 have U0 := c0.size
 have O0 := o0.lt
 have r0 := d0.t0 c0
 have y0 := (p0.f0 r0)
 have A0 : ((n32 s) ++ ([UInt8.ofNat g]) : List UInt8).length = 33 := (len_app (n32_len _) rfl)
 refine gk (k_appgrow (n := 32) (k := 1) (L := bv (n32 s)) (N := bv ([UInt8.ofNat g])) c0.ag (eh b0 rfl) (eh b0 rfl) qs_38 qz_5 (by have h_ := (y0.bk.src (L := hc s) (n := 32) (o := 0) (k := 32) (by kernel_rfl)); rw [hc_n32] at h_; exact h_) (by rw [bv_length, show (n32 s : List UInt8).length = 32 from (n32_len _), Nat.mul_one]) (o0.bk.src (L := bv ([UInt8.ofNat g])) (n := 1) (o := 0) (k := 1) (by kernel_rfl)) (by rw [bv_length, show ([UInt8.ofNat g] : List UInt8).length = 1 from rfl, Nat.mul_one]) (by decide) (by omega) (by rw [maxLen_eq]; omega) (by omega) (fun H0 K0 c1 i0 e0 => ?_))
 have V0 := e0.size
 rw [← bv_append] at i0
 have S0 := i0.nilc
 obtain ⟨R0, s0, D0⟩ := i0.fz e0.ag
 have g0 : Fr (ge q0.heap.size) _ _ _ _ := s0.wk (fun x hx _ => i0.at x hx)
 have W0 := g0.size
 refine gk (k_cl (f26 g0.ag D0 A0 (by omega)) rfl fn_26 (map_cons (eh b0 rfl) map_nil) (fun a1 d1 C0 => ?_))
 obtain ⟨E0, rfl, h0⟩ := C0
 have X0 := h0.size
 have u0 := c0.t0 e0
 have z0 := (((n0.f0 u0).fs g0 (show ¬ q0.heap.size ≤ l0 from by omega)).f0 h0)
 refine gz (kt (L' := hc (sha ((n32 s) ++ ([UInt8.ofNat g])))) h0.ag (eh b0 rfl) (eh b0 rfl) z0 sz_23 (fun e1 B0 m0 => ?_))
 have Y0 := m0.size
 refine nl <| x0 <| wp_ret <| ret_of (res1c (b := l0) (n := 32) (cs := hc (sha ((n32 s) ++ ([UInt8.ofNat g])))) rfl _ _ (gh b0 rfl) B0.bk (by kernel_rfl) (by kernel_rfl) qr_23 sz_23) ((ov_defers _ _).trans v0) ?_
 exact ⟨E0, rfl, (((((((cu0.t0 k0).t0 d0).t0 c0).t0 e0).tg g0 (by omega)).t0 h0).tn m0 (by omega))⟩

theorem f15 {m : Ctx} {w : World} (ag : Ag m w) {s : Bytes} {g : Nat} : Calls Tryz.prog 15 #[H s, nn g] w (Ret fun v w' => ∃ m', v = H (sdg s g) ∧ Fr no m w m' w') := by
 refine enter Tryz.func15 rfl (fun n0 hT y0 => ?_)
 have b0 : n0.tmps.size = 13 := by rw [hT]; kernel_rfl
 have J0 : n0.tmps.getD 0 undef = H s := by rw [hT]; kernel_rfl
 have K0 : n0.tmps.getD 1 undef = nn g := by rw [hT]; kernel_rfl
 clear hT
 have cu0 : Fr (no) m w m w := Fr.refl ag
 refine sk fun _ z0 => rn <| gk (k_box (L := hc s) ag (em b0 rfl rfl J0) (by kernel_rfl) (fun p1 O0 u0 o0 V0 => ?_))
 have m1 := o0.size
 have X0 := u0.lt
 refine gk (k_alloc o0.ag qz_23 (fun c0 g0 q0 h0 S0 => ?_))
 have d1 := h0.size
 have Z0 := q0.lt
 refine nl <| z0 <| sk fun _ A0 => rn <| gk (k_lit (e := 5) (L := []) h0.ag pm_nil (by kernel_rfl) (fun o1 N0 r0 d0 T0 => ?_))
 have e1 := d0.size
 have W0 := r0.lt
 refine gv (r_sliceA (eh b0 rfl) qa_23) ?_
 have w0 := h0.t0 d0
 have B0 := (u0.f0 w0)
 refine gk (k_append0 (base := c0.heap.size) (N := bv (n32 s)) d0.ag (eh b0 rfl) (eh b0 rfl) qs_38 qz_5 (Own.of_mu r0 (by omega) (by kernel_rfl) (by decide)) (by have h_ := (B0.bk.src (L := hc s) (n := 32) (o := 0) (k := 32) (by kernel_rfl)); rw [hc_n32] at h_; exact h_) (fun h => by cases h) (by rw [bv_length, show (n32 s : List UInt8).length = 32 from (n32_len _), Nat.mul_one]) (one_bv _) (by omega) (by decide) (by rw [maxLen_eq]; omega) (by omega) (fun L0 Q0 q1 v0 i0 => ?_))
 have g1 := i0.size
 have b1 := v0.nilc
 refine mw b0 K0 <| gv (r_cv_n_8 (i := g) (eh b0 rfl) qu_3 qu_5) <| gk (k_lit (e := 5) (L := bv ([UInt8.ofNat g])) i0.ag (pm_cons (eh b0 rfl) pm_nil) (by kernel_rfl) (fun r1 P0 s0 e0 U0 => ?_))
 have h1 := e0.size
 have Y0 := s0.lt
 have G0 := (v0.f0 e0)
 have D0 : ((n32 s) ++ ([UInt8.ofNat g]) : List UInt8).length = 33 := (len_app (n32_len _) rfl)
 refine gk (k_append (base := c0.heap.size) (L := bv (n32 s)) (N := bv ([UInt8.ofNat g])) e0.ag (eh b0 rfl) (eh b0 rfl) qs_38 qz_5 G0 (s0.bk.src (L := bv ([UInt8.ofNat g])) (n := 1) (o := 0) (k := 1) (by kernel_rfl)) (fun h => by cases h) (by rw [bv_length, show ([UInt8.ofNat g] : List UInt8).length = 1 from rfl, Nat.mul_one]) (one_bv _) (by omega) (by decide) (by rw [maxLen_eq]; omega) (by omega) (fun M0 R0 s1 m0 j0 => ?_))
 have i1 := j0.size
 rw [← bv_append] at m0
 have c1 := m0.nilc
 obtain ⟨a1, x0, H0⟩ := m0.fz j0.ag
 have k0 : Fr (ge c0.heap.size) _ _ _ _ := x0.wk (fun x hx _ => m0.at x hx)
 have j1 := k0.size
 refine gk (k_cl (f41 k0.ag H0 D0 (by omega)) rfl fn_41 (map_cons (eh b0 rfl) map_nil) (fun n1 t1 F0 => ?_))
 obtain ⟨I0, rfl, l0⟩ := F0
 have k1 := l0.size
 have C0 := ((((((q0.f0 d0).fs i0 (show ¬ c0.heap.size ≤ g0 from by omega)).f0 e0).fs j0 (show ¬ c0.heap.size ≤ g0 from by omega)).fs k0 (show ¬ c0.heap.size ≤ g0 from by omega)).f0 l0)
 refine gz (kt (L' := hc (sha ((n32 s) ++ ([UInt8.ofNat g])))) l0.ag (eh b0 rfl) (eh b0 rfl) C0 sz_23 (fun u1 E0 p0 => ?_))
 have l1 := p0.size
 refine nl <| A0 <| wp_ret <| ret_of (res1c (b := g0) (n := 32) (cs := hc (sha ((n32 s) ++ ([UInt8.ofNat g])))) rfl _ _ (gh b0 rfl) E0.bk (by kernel_rfl) (by kernel_rfl) qr_23 sz_23) ((ov_defers _ _).trans y0) ?_
 exact ⟨I0, rfl, (((((((((cu0.t0 o0).t0 h0).t0 d0).tg i0 (by omega)).t0 e0).tg j0 (by omega)).tg k0 (by omega)).t0 l0).tn p0 (by omega))⟩

theorem f42 {m : Ctx} {w : World} (ag : Ag m w) {q : Bytes} : Calls Tryz.prog 42 #[H q] w (Ret fun v w' => ∃ m' A c, v = .agg ([.slice A 1 c, nn 1]).toArray ∧ Fr no m w m' w' ∧ Sl m' A 1 c 32 (hc q)) := by
 refine enter Tryz.func42 rfl (fun j0 hT q0 => ?_)
 have b0 : j0.tmps.size = 6 := by rw [hT]; kernel_rfl
 have z0 : j0.tmps.getD 0 undef = H q := by rw [hT]; kernel_rfl
 clear hT
 have cu0 : Fr (no) m w m w := Fr.refl ag
 refine sk fun _ r0 => rn <| gk (k_box (L := hc q) ag (em b0 rfl rfl z0) (by kernel_rfl) (fun N0 A0 m0 i0 D0 => ?_))
 have L0 := i0.size
 have F0 := m0.lt
 refine gk (k_alloc i0.ag qz_32 (fun P0 p0 k0 d0 B0 => ?_))
 have H0 := d0.size
 have G0 := k0.lt
 refine nl <| r0 <| sk fun _ s0 => rn ?_
 have u0 := (m0.f0 d0)
 refine gv (lb (cs := hc q) (eh b0 rfl) u0.bk qr_23 sz_23) <| gk (k_lit (e := 23) (L := hc q) d0.ag (pm_cons (eh b0 rfl) pm_nil) (by kernel_rfl) (fun M0 c0 l0 e0 C0 => ?_))
 have I0 := e0.size
 have E0 := l0.lt
 refine gv (r_build (cs := [.slice (some ⟨c0, 0, none⟩) 1 1, nn 1]) (pm_cons (eh b0 rfl) (pm_cons (v := nn 1) rfl pm_nil)) (by kernel_rfl)) ?_
 have v0 := (k0.f0 e0)
 refine gz (kt (L' := [.slice (some ⟨c0, 0, none⟩) 1 1, nn 1]) e0.ag (eh b0 rfl) (eh b0 rfl) v0 sz_32 (fun O0 x0 g0 => ?_))
 have J0 := g0.size
 refine nl <| s0 <| wp_ret <| ret_of (res1c (b := p0) (n := 2) (cs := [.slice (some ⟨c0, 0, none⟩) 1 1, nn 1]) rfl _ _ (gh b0 rfl) x0.bk (by kernel_rfl) (by kernel_rfl) qr_32 sz_32) ((ov_defers _ _).trans q0) ?_
 have w0 := (l0.f1 g0 (by omega))
 obtain ⟨h0, n0⟩ := w0.fz g0.ag
 generalize cput m c0 _ = o0 at h0 n0
 have K0 := h0.size
 have y0 : Sl o0 (some ⟨c0, 0, none⟩) 1 1 32 (hc q) := Sl.of (k := 32) n0 (by kernel_rfl) (by kernel_rfl) (by decide) (by decide)
 exact ⟨o0, some ⟨c0, 0, none⟩, 1, rfl, (((((cu0.t0 i0).t0 d0).t0 e0).tn g0 (by omega)).tn h0 (by omega)), y0⟩

theorem f27 {m : Ctx} {w : World} (ag : Ag m w) {k c u : Nat} {A : Option Addr} {s : Bytes} {D : Option Addr} {n d : Nat} {p q : Bytes} (hmK : Mu m w k 116 (hc s ++ ([.slice A 16 c, nn u]))) (hlv : Sl m A 16 c 32 (hcs (lv s))) (hsl : Sl m D n d 1 (bv p)) (hp : p.length = n) (hn : n < 4294967296) (hu : u < 16) : Calls Tryz.prog 27 #[H q, .func (.func 29) #[.pointer (some ⟨k, 0, none⟩)] #[], .slice D n d] w (Ret fun v w' => ∃ m' M mc A' c' B' d', v = .agg ([.slice D n d, .slice M 1 mc]).toArray ∧ Fr (on k) m w m' w' ∧ Mu m' w' k 116 (hc s ++ ([.slice A 16 c, nn (u + 1)])) ∧ Sl m' M 1 mc 35 (hc q ++ ([nn u, .slice A' 36 c', .slice B' 4 d'])) ∧ Sl m' A' 36 c' 32 (hcs (chL (sgf s u p) 36)) ∧ Sl m' B' 4 d' 32 (hcs (mp 4 (lv s) u))) := by
 refine enter Tryz.func27 rfl (fun p0 hT B0 => ?_)
 have b0 : p0.tmps.size = 21 := by rw [hT]; kernel_rfl
 have W0 : p0.tmps.getD 0 undef = H q := by rw [hT]; kernel_rfl
 have X0 : p0.tmps.getD 1 undef = .func (.func 29) #[.pointer (some ⟨k, 0, none⟩)] #[] := by rw [hT]; kernel_rfl
 have y0 : p0.tmps.getD 2 undef = .slice D n d := by rw [hT]; kernel_rfl
 clear hT
 have cu0 : Fr (on k) m w m w := Fr.refl ag
 have lt_k := hmK.lt
 refine sk fun _ C0 => rn <| gk (k_box (L := hc q) ag (em b0 rfl rfl W0) (by kernel_rfl) (fun t1 Y0 s0 l0 d1 => ?_))
 have q1 := l0.size
 have e1 := s0.lt
 refine gk (k_alloc l0.ag qz_41 (fun y1 z0 q0 g0 a1 => ?_))
 have j1 := g0.size
 have i1 := q0.lt
 refine nl <| C0 <| sk fun _ D0 => rn <| mw b0 X0 <| mw b0 y0 ?_
 have Q0 := ((hlv.up l0).up g0)
 have A0 := l0.t0 g0
 have F0 := (hmK.f0 A0)
 have R0 := ((hsl.up l0).up g0)
 refine gk (k_callv (eh b0 rfl) fn_29 (map_cons (eh b0 rfl) map_nil) (f29 g0.ag F0 Q0 R0 hp (by omega) (by omega)) (fun r1 s1 P0 => ?_))
 obtain ⟨V0, c0, d0, B26, e0, rfl, n0, K0, L0, M0⟩ := P0
 have k1 := n0.size
 refine mv b0 rfl <| gv (r_extract (v := .agg ([nn u, .slice c0 36 d0, .slice B26 4 e0]).toArray) (eh b0 rfl) (by kernel_rfl)) <| gv (r_extract (v := nn 0) (eh b0 rfl) (by kernel_rfl)) <| gk (k_alloc n0.ag qz_110 (fun u1 Z0 r0 h0 b1 => ?_))
 have l1 := h0.size
 have g1 := r0.lt
 refine gz (kt (L' := [nn u, .slice c0 36 d0, .slice B26 4 e0]) h0.ag (eh b0 rfl) (eh b0 rfl) r0 sz_110 (fun v1 N0 i0 => ?_))
 have m1 := i0.size
 refine ms b0 rfl <| nl <| D0 <| sk fun _ E0 => rn <| mw b0 y0 ?_
 have G0 := ((((s0.f0 g0).f1 n0 (by omega)).f0 h0).f1 i0 (by omega))
 refine gv (lb (cs := hc q) (eh b0 rfl) G0.bk qr_23 sz_23) <| gv (lb (cs := [nn u, .slice c0 36 d0, .slice B26 4 e0]) (eh b0 rfl) N0.bk qr_110 sz_110) <| gv (r_build (cs := hc q ++ ([nn u, .slice c0 36 d0, .slice B26 4 e0])) (pm_cons (eh b0 rfl) (pm_cons (eh b0 rfl) pm_nil)) (by kernel_rfl)) <| gk (k_lit (e := 114) (L := hc q ++ ([nn u, .slice c0 36 d0, .slice B26 4 e0])) i0.ag (pm_cons (eh b0 rfl) pm_nil) (by kernel_rfl) (fun w1 j0 u0 k0 c1 => ?_))
 have n1 := k0.size
 have h1 := u0.lt
 refine gv (r_build (cs := [.slice D n d, .slice (some ⟨j0, 0, none⟩) 1 1]) (pm_cons (eh b0 rfl) (pm_cons (eh b0 rfl) pm_nil)) (by kernel_rfl)) ?_
 have H0 := ((((q0.f1 n0 (by omega)).f0 h0).f1 i0 (by omega)).f0 k0)
 refine gz (kt (L' := [.slice D n d, .slice (some ⟨j0, 0, none⟩) 1 1]) k0.ag (eh b0 rfl) (eh b0 rfl) H0 sz_41 (fun x1 O0 m0 => ?_))
 have o1 := m0.size
 refine nl <| E0 <| wp_ret <| ret_of (res1c (b := z0) (n := 2) (cs := [.slice D n d, .slice (some ⟨j0, 0, none⟩) 1 1]) rfl _ _ (gh b0 rfl) O0.bk (by kernel_rfl) (by kernel_rfl) qr_41 sz_41) ((ov_defers _ _).trans B0) ?_
 have I0 := (u0.f1 m0 (by omega))
 obtain ⟨o0, v0⟩ := I0.fz m0.ag
 generalize cput V0 j0 _ = x0 at o0 v0
 have p1 := o0.size
 have S0 : Sl x0 (some ⟨j0, 0, none⟩) 1 1 35 (hc q ++ ([nn u, .slice c0 36 d0, .slice B26 4 e0])) := Sl.of (k := 35) v0 (by kernel_rfl) (by kernel_rfl) (by decide) (by decide)
 have w0 := Fr.ll (Fr.ll (Fr.ll (Fr.l2 h0 i0) k0) m0) o0
 have T0 := L0.le w0
 have U0 := M0.le w0
 have J0 := (((((K0.f0 h0).f1 i0 (by omega)).f0 k0).f1 m0 (by omega)).f1 o0 (by omega))
 exact ⟨x0, some ⟨j0, 0, none⟩, 1, c0, d0, B26, e0, rfl, ((((((((cu0.t0 l0).t0 g0).tr n0 (fun x hx => (by cases hx; exact .inr rfl))).t0 h0).tn i0 (by omega)).t0 k0).tn m0 (by omega)).tn o0 (by omega)), J0, S0, T0, U0⟩

theorem f18 {m : Ctx} {w : World} (ag : Ag m w) {k c u : Nat} {A : Option Addr} {s : Bytes} {D : Option Addr} {n d : Nat} {p q : Bytes} (hmK : Mu m w k 29 (hc s ++ ([.slice A 16 c] ++ (hc (pk s) ++ ([nn u]))))) (hlv : Sl m A 16 c 32 (hcs (lv s))) (hsl : Sl m D n d 1 (bv p)) (hp : p.length = n) (hn : n < 4294967296) (hu : u < 16) : Calls Tryz.prog 18 #[.pointer (some ⟨k, 0, none⟩), .slice D n d] w (Ret fun v w' => ∃ m' M mc A' c' B' d', v = .agg ([.slice D n d, .slice M 1 mc]).toArray ∧ Fr (on k) m w m' w' ∧ Mu m' w' k 29 (hc s ++ ([.slice A 16 c] ++ (hc (pk s) ++ ([nn (u + 1)])))) ∧ Sl m' M 1 mc 35 (hc (pk s) ++ ([nn u, .slice A' 36 c', .slice B' 4 d'])) ∧ Sl m' A' 36 c' 32 (hcs (chL (sgf s u p) 36)) ∧ Sl m' B' 4 d' 32 (hcs (mp 4 (lv s) u))) := by
 refine enter Tryz.func18 rfl (fun v0 hT I0 => ?_)
 have b0 : v0.tmps.size = 22 := by rw [hT]; kernel_rfl
 have F0 : v0.tmps.getD 0 undef = .pointer (some ⟨k, 0, none⟩) := by rw [hT]; kernel_rfl
 have G0 : v0.tmps.getD 1 undef = .slice D n d := by rw [hT]; kernel_rfl
 clear hT
 have cu0 : Fr (on k) m w m w := Fr.refl ag
 have lt_k := hmK.lt
 refine sk fun _ J0 => rn <| gk (k_alloc ag qz_41 (fun x1 s0 z0 o0 i1 => ?_))
 have s1 := o0.size
 have l1 := z0.lt
 refine nl <| J0 <| sk fun _ L0 => rn <| mw b0 F0 <| mw b0 G0 ?_
 have X0 := (hlv.up o0)
 have M0 := (hmK.f0 o0)
 have Y0 := (hsl.up o0)
 refine gk (k_cl (f46 o0.ag M0 X0 Y0 hp (by omega) (by omega)) rfl fn_46 (map_cons (eh b0 rfl) (map_cons (eh b0 rfl) map_nil)) (fun v1 w1 W0 => ?_))
 obtain ⟨d0, g0, h0, B19, i0, rfl, u0, R0, S0, T0⟩ := W0
 have n1 := u0.size
 refine mv b0 rfl <| gv (r_extract (v := .agg ([nn u, .slice g0 36 h0, .slice B19 4 i0]).toArray) (eh b0 rfl) (by kernel_rfl)) <| gv (r_extract (v := nn 0) (eh b0 rfl) (by kernel_rfl)) <| gk (k_alloc u0.ag qz_110 (fun y1 e1 y0 m0 h1 => ?_))
 have o1 := m0.size
 have k1 := y0.lt
 refine gz (kt (L' := [nn u, .slice g0 36 h0, .slice B19 4 i0]) m0.ag (eh b0 rfl) (eh b0 rfl) y0 sz_110 (fun r0 U0 n0 => ?_))
 have p1 := n0.size
 refine ms b0 rfl <| nl <| L0 <| sk fun _ K0 => ?_
 have c0 : Fr no d0 r0 d0 { r0 with drawn := r0.drawn + 1 } := Fr.drw n0.ag
 obtain ⟨p0, C0⟩ : ∃ w_, w_ = ({ r0 with drawn := r0.drawn + 1 } : World) := ⟨_, rfl⟩
 rw [← C0] at c0
 have q1 := c0.size
 refine wp_region_T mixed (fun wz => ∃ mz, Fr (no) d0 p0 mz wz) (fun wz => ∃ mz, Fr (on s0) d0 p0 mz wz) 9 ?_
 rw [← C0]
 show wpAnyT _ _ _ _ _ 10 _ _ _
 have e0 : Fr (no) d0 p0 d0 p0 := Fr.refl c0.ag
 have g1 : ∀ wz, (∃ mz, Fr (no) d0 p0 mz wz) → ∃ mz, Fr (on s0) d0 p0 mz wz := fun wz ⟨mz, hz⟩ => ⟨mz, hz.wk (fun x hx _ => hx.elim)⟩
 refine tk2 (i := 0) rfl rfl (fun _ _ => r_move (em b0 rfl rfl G0)) ⟨_, e0⟩ <| tk2 (i := 1) rfl rfl (fun _ _ => r_move (em b0 rfl rfl F0)) ⟨_, e0⟩ <| tk2 (i := 2) rfl rfl (fun _ _ => r_nilCheck (eh b0 rfl)) ⟨_, e0⟩ <| tk2 (i := 3) rfl rfl (fun _ _ => r_field (o' := 33) (eh b0 rfl) fo_29_2 (by rfl)) ⟨_, e0⟩ ?_
 have x0 := (((R0.f0 m0).f1 n0 (by omega)).f0 c0)
 refine tk2 (i := 4) rfl rfl (fun wz ⟨mz, hz⟩ => lb (cs := hc (pk s)) (eh b0 rfl) (hz.ex x0.bk (fun h => h)) qr_23 sz_23) ⟨_, e0⟩ ?_
 have N0 := (U0.f0 c0)
 refine tk2 (i := 5) rfl rfl (fun wz ⟨mz, hz⟩ => lb (cs := [nn u, .slice g0 36 h0, .slice B19 4 i0]) (eh b0 rfl) (hz.ex N0.bk (fun h => h)) qr_110 sz_110) ⟨_, e0⟩ <| tk2 (i := 6) rfl rfl (fun _ _ => r_build (cs := hc (pk s) ++ ([nn u, .slice g0 36 h0, .slice B19 4 i0])) (pm_cons (eh b0 rfl) (pm_cons (eh b0 rfl) pm_nil)) (by kernel_rfl)) ⟨_, e0⟩ <| ann (i := 7) (b := false) rfl rfl (k_lit (e := 114) (L := hc (pk s) ++ ([nn u, .slice g0 36 h0, .slice B19 4 i0])) c0.ag (pm_cons (eh b0 rfl) pm_nil) (by kernel_rfl) (fun z1 l0 A0 j0 j1 => ?_))
 have r1 := j0.size
 have w0 := e0.t0 j0
 have m1 := A0.lt
 refine ⟨(tbF ⟨_, w0⟩), ?_⟩
 refine tk2 (i := 8) rfl rfl (fun _ _ => r_build (cs := [.slice D n d, .slice (some ⟨l0, 0, none⟩) 1 1]) (pm_cons (eh b0 rfl) (pm_cons (eh b0 rfl) pm_nil)) (by kernel_rfl)) ⟨_, w0⟩ ?_
 have c1 : Fr (on s0) _ _ _ _ := w0.wk (fun x hx _ => hx.elim)
 have H0 := c0.t0 j0
 have O0 := ((((z0.f1 u0 (by omega)).f0 m0).f1 n0 (by omega)).f0 H0)
 refine an00 (i := 9) (b := true) rfl rfl (kt (L' := [.slice D n d, .slice (some ⟨l0, 0, none⟩) 1 1]) j0.ag (eh b0 rfl) (eh b0 rfl) O0 sz_41 (fun A1 V0 k0 => ?_))
 have t1 := k0.size
 have d1 := c1.tr k0 (fun x hx => .inr (by cases hx; exact rfl))
 refine ⟨(tbT ⟨_, d1⟩), ?_⟩
 refine anyT_done (by kernel_rfl) ?_ _
 refine K0 <| wp_ret <| ret_of (res1c (b := s0) (n := 2) (cs := [.slice D n d, .slice (some ⟨l0, 0, none⟩) 1 1]) rfl _ _ (gh b0 rfl) V0.bk (by kernel_rfl) (by kernel_rfl) qr_41 sz_41) ((ov_defers _ _).trans I0) ?_
 have P0 := (A0.f1 k0 (by omega))
 obtain ⟨q0, B0⟩ := P0.fz k0.ag
 generalize cput d0 l0 _ = E0 at q0 B0
 have u1 := q0.size
 have Z0 : Sl E0 (some ⟨l0, 0, none⟩) 1 1 35 (hc (pk s) ++ ([nn u, .slice g0 36 h0, .slice B19 4 i0])) := Sl.of (k := 35) B0 (by kernel_rfl) (by kernel_rfl) (by decide) (by decide)
 have D0 := Fr.ll (Fr.ll (Fr.ll (Fr.ll (Fr.l2 m0 n0) c0) j0) k0) q0
 have a1 := S0.le D0
 have b1 := T0.le D0
 have Q0 := (((x0.f0 j0).f1 k0 (by omega)).f1 q0 (by omega))
 exact ⟨E0, some ⟨l0, 0, none⟩, 1, g0, h0, B19, i0, rfl, ((((((((cu0.t0 o0).tr u0 (fun x hx => (by cases hx; exact .inr rfl))).t0 m0).tn n0 (by omega)).t0 c0).t0 j0).tn k0 (by omega)).tn q0 (by omega)), Q0, Z0, a1, b1⟩

end Go.Proofs.YtiggfalelcepbaaGreatDoor

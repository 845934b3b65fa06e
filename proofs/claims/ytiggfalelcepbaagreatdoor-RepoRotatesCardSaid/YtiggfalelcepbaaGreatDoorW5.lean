/- The walks of chapter 3: Walk, Secret, Public. -/
import Derived.Test.YtiggfalelcepbaaGreatDoorK7
import Derived.Test.YtiggfalelcepbaaGreatDoorSX
import Derived.Test.YtiggfalelcepbaaGreatDoorW3
import Derived.Test.YtiggfalelcepbaaGreatDoorW4
import Derived.Test.YtiggfalelcepbaaGreatDoorTX
namespace Go.Proofs.YtiggfalelcepbaaGreatDoor
open Go
set_option maxRecDepth 100000
set_option maxHeartbeats 4000000
theorem f120 {m : Ctx} {w : World} (ag : Ag m w) {h : Bytes} {c a b : Nat} (hab : a ≤ b) (hb : b ≤ 3) : Calls Tryz.prog 120 #[H h, nn c, nn a, nn b] w (Ret fun v w' => ∃ m', v = H (wk c h a (b - a)) ∧ Fr no m w m' w') := by
 refine enter Tryz.func120 rfl (fun e0 hT G0 => ?_)
 have c0 : e0.tmps.size = 27 := by rw [hT]; kernel_rfl
 have Z0 : e0.tmps.getD 0 undef = H h := by rw [hT]; kernel_rfl
 have a1 : e0.tmps.getD 1 undef = nn c := by rw [hT]; kernel_rfl
 have b1 : e0.tmps.getD 2 undef = nn a := by rw [hT]; kernel_rfl
 have c1 : e0.tmps.getD 3 undef = nn b := by rw [hT]; kernel_rfl
 clear hT
 have cu0 : Fr (no) m w m w := Fr.refl ag
 refine sk fun _ H0 => rn <| gk (k_box (L := hc h) ag (em c0 rfl rfl Z0) (by kernel_rfl) (fun D1 g0 C0 p0 n1 => ?_))
 have A1 := p0.size
 have o1 := C0.lt
 refine gk (k_alloc p0.ag qz_23 (fun d1 s0 z0 h0 l1 => ?_))
 have t1 := h0.size
 have q1 := z0.lt
 refine nl <| H0 <| sk fun _ I0 => sk fun _ J0 => rn <| mw c0 b1 <| gv (r_max0 (i := a) (eh c0 rfl) rfl) <| ms c0 rfl <| nl <| J0 <| bl ?_
 have O0 := (C0.f0 h0)
 refine wp_loop_s (σ := Nat) (I := fun (i : Nat) (a' : Act) (w' : World) => ∃ (m' : Ctx) (kx : Nat), a'.tmps.size = 27 ∧ a'.defers = [] ∧ i ≤ b - a ∧ kx = a + i ∧ a'.tmps.getD 1 undef = nn c ∧ a'.tmps.getD 3 undef = nn b ∧ a'.tmps.getD 4 undef = .pointer (some ⟨g0, 0, none⟩) ∧ a'.tmps.getD 8 undef = .pointer (some ⟨s0, 0, none⟩) ∧ a'.tmps.getD 9 undef = nn kx ∧ Fr (on g0) m d1 m' w' ∧ Mu m' w' g0 23 (hc (wk c h a i))) (μ := fun i => b - a - i) (s₀ := 0) ?_ ?_
 · exact ⟨m, a, ((ov_size _ _).trans c0), ((ov_defers _ _).trans G0), (by omega), (by omega), (gm c0 rfl rfl a1), (gm c0 rfl rfl c1), (gh c0 rfl), (gh c0 rfl), (gh c0 rfl), (Fr.refl h0.ag), O0⟩
 ·
  intro i g1 o0 hI
  obtain ⟨X0, kx22, b0, w0, j1, k1, D0, E0, n0, q0, r0, d0, A0⟩ := hI
  refine of_ov ?_
  have u1 := d0.size
  obtain rfl : kx22 = a + i := by omega
  refine sk fun _ K0 => sk fun _ L0 => rn <| mw b0 r0 <| mw b0 E0 <| gv (r_min (i := b) (j := 3) (eh b0 rfl) rfl) <| gv (r_lss (eh b0 rfl) (eh b0 rfl)) <| nl <| L0 ?_
  by_cases y0 : a + i < min b 3
  ·
   refine ct (eb b0 rfl (decide_eq_true y0)) <| ws <| K0 <| sk fun _ M0 => bl <| rn <| mw b0 D0 <| gv (r_cv_n_8 (i := c) (eh b0 rfl) qu_3 qu_5) <| mw b0 r0 <| gv (r_cv_n_8 (i := a + i) (eh b0 rfl) qu_3 qu_5) <| gk (k_lit (e := 5) (L := bv ([1, UInt8.ofNat c, UInt8.ofNat (a + i)])) d0.ag (pm_cons (v := u8 1) rfl (pm_cons (eh b0 rfl) (pm_cons (eh b0 rfl) pm_nil))) (by kernel_rfl) (fun E1 h1 B0 i0 m1 => ?_))
   have v1 := i0.size
   have p1 := B0.lt
   refine gv (r_sliceA (em b0 rfl rfl n0) qa_23) ?_
   have x0 := (A0.f0 i0)
   have R0 : (([1, UInt8.ofNat c, UInt8.ofNat (a + i)]) ++ (n32 (wk c h a i)) : List UInt8).length = 35 := (len_app rfl (n32_len _))
   refine gk (k_append (base := o0.heap.size) (L := bv ([1, UInt8.ofNat c, UInt8.ofNat (a + i)])) (N := bv (n32 (wk c h a i))) i0.ag (eh b0 rfl) (eh b0 rfl) qs_38 qz_5 (Own.of_mu B0 (by omega) (by kernel_rfl) (by decide)) (by have h_ := (x0.bk.src (L := hc (wk c h a i)) (n := 32) (o := 0) (k := 32) (by kernel_rfl)); rw [hc_n32] at h_; exact h_) (fun h => by cases h) (by rw [bv_length, show (n32 (wk c h a i) : List UInt8).length = 32 from (n32_len _), Nat.mul_one]) (one_bv _) (by omega) (by decide) (by rw [maxLen_eq]; omega) (by omega) (fun e1 i1 F1 m0 j0 => ?_))
   have w1 := j0.size
   rw [← bv_append] at m0
   have s1 := m0.nilc
   obtain ⟨r1, F0, V0⟩ := m0.fz j0.ag
   have k0 : Fr (ge o0.heap.size) _ _ _ _ := F0.wk (fun x hx _ => m0.at x hx)
   have x1 := k0.size
   refine gk (k_cl (f26 k0.ag V0 R0 (by omega)) rfl fn_26 (map_cons (eh b0 rfl) map_nil) (fun C1 G1 U0 => ?_))
   obtain ⟨Y0, rfl, l0⟩ := U0
   have y1 := l0.size
   have P0 := (((x0.fs j0 (show ¬ o0.heap.size ≤ g0 from by omega)).fs k0 (show ¬ o0.heap.size ≤ g0 from by omega)).f0 l0)
   refine gz (kt (L' := hc (sha (([1, UInt8.ofNat c, UInt8.ofNat (a + i)]) ++ (n32 (wk c h a i))))) l0.ag (em b0 rfl rfl n0) (eh b0 rfl) P0 sz_23 (fun H1 S0 u0 => ?_))
   have z1 := u0.size
   refine nl <| M0 <| rn <| mw b0 r0 <| gv (r_add (j := 1) (eh b0 rfl) rfl (by omega)) <| ms b0 rfl <| nl <| loop_back (s := i) ⟨i + 1, (show b - a - (i + 1) < b - a - (i) from (by omega)), ?_⟩
   exact ⟨Y0, (a + i) + 1, ((ov_size _ _).trans b0), ((ov_defers _ _).trans w0), (by omega), (by omega), (gm b0 rfl rfl D0), (gm b0 rfl rfl E0), (gm b0 rfl rfl n0), (gm b0 rfl rfl q0), (gh b0 rfl), (((((d0.t0 i0).tg j0 (by omega)).tg k0 (by omega)).t0 l0).tr u0 (fun x hx => .inr (by cases hx; exact rfl))), S0⟩
  ·
   refine cf (eb b0 rfl (decide_eq_false y0)) <| we ?_
   have W0 : b - a = i := (by omega)
   subst W0
   refine I0 <| sk fun _ N0 => rn <| gv (lb (cs := hc (wk c h a (b - a))) (em b0 rfl rfl n0) A0.bk qr_23 sz_23) ?_
   have Q0 := (z0.f1 d0 (by omega))
   refine gz (kt (L' := hc (wk c h a (b - a))) d0.ag (em b0 rfl rfl q0) (eh b0 rfl) Q0 sz_23 (fun I1 T0 v0 => ?_))
   have B1 := v0.size
   refine nl <| N0 <| wp_ret <| ret_of (res1c (b := s0) (n := 32) (cs := hc (wk c h a (b - a))) rfl _ _ (gm b0 rfl rfl q0) T0.bk (by kernel_rfl) (by kernel_rfl) qr_23 sz_23) ((ov_defers _ _).trans w0) ?_
   exact ⟨X0, rfl, ((((cu0.t0 p0).t0 h0).tn d0 (by omega)).tn v0 (by omega))⟩

theorem f121 {m : Ctx} {w : World} (ag : Ag m w) {s : Bytes} {n c : Nat} : Calls Tryz.prog 121 #[H s, nn n, nn c] w (Ret fun v w' => ∃ m', v = H (sec s n c) ∧ Fr no m w m' w') := by
 refine enter Tryz.func121 rfl (fun g0 hT y0 => ?_)
 have b0 : g0.tmps.size = 17 := by rw [hT]; kernel_rfl
 have K0 : g0.tmps.getD 0 undef = H s := by rw [hT]; kernel_rfl
 have L0 : g0.tmps.getD 1 undef = nn n := by rw [hT]; kernel_rfl
 have M0 : g0.tmps.getD 2 undef = nn c := by rw [hT]; kernel_rfl
 clear hT
 have cu0 : Fr (no) m w m w := Fr.refl ag
 refine sk fun _ z0 => rn <| gk (k_box (L := hc s) ag (em b0 rfl rfl K0) (by kernel_rfl) (fun r1 Q0 v0 o0 X0 => ?_))
 have o1 := o0.size
 have Z0 := v0.lt
 refine gk (k_alloc o0.ag qz_23 (fun c0 h0 r0 i0 U0 => ?_))
 have g1 := i0.size
 have b1 := r0.lt
 refine nl <| z0 <| sk fun _ A0 => rn <| gk (k_lit (e := 5) (L := bv ([0])) i0.ag (pm_cons (v := u8 0) rfl pm_nil) (by kernel_rfl) (fun q1 P0 s0 d0 V0 => ?_))
 have h1 := d0.size
 have Y0 := s0.lt
 refine gv (r_sliceA (eh b0 rfl) qa_23) ?_
 have w0 := i0.t0 d0
 have B0 := (v0.f0 w0)
 have D0 : (([0]) ++ (n32 s) : List UInt8).length = 33 := (len_app rfl (n32_len _))
 refine gk (k_append (base := c0.heap.size) (L := bv ([0])) (N := bv (n32 s)) d0.ag (eh b0 rfl) (eh b0 rfl) qs_38 qz_5 (Own.of_mu s0 (by omega) (by kernel_rfl) (by decide)) (by have h_ := (B0.bk.src (L := hc s) (n := 32) (o := 0) (k := 32) (by kernel_rfl)); rw [hc_n32] at h_; exact h_) (fun h => by cases h) (by rw [bv_length, show (n32 s : List UInt8).length = 32 from (n32_len _), Nat.mul_one]) (one_bv _) (by omega) (by decide) (by rw [maxLen_eq]; omega) (by omega) (fun N0 S0 s1 p0 j0 => ?_))
 have i1 := j0.size
 rw [← bv_append] at p0
 have d1 := p0.nilc
 refine mw b0 L0 <| gv (r_cv_n_8 (i := n) (eh b0 rfl) qu_3 qu_5) <| mw b0 M0 <| gv (r_cv_n_8 (i := c) (eh b0 rfl) qu_3 qu_5) <| gk (k_lit (e := 5) (L := bv ([UInt8.ofNat n, UInt8.ofNat c])) j0.ag (pm_cons (eh b0 rfl) (pm_cons (eh b0 rfl) pm_nil)) (by kernel_rfl) (fun t1 R0 u0 e0 W0 => ?_))
 have j1 := e0.size
 have a1 := u0.lt
 have H0 := (p0.f0 e0)
 have E0 : ((([0]) ++ (n32 s)) ++ ([UInt8.ofNat n, UInt8.ofNat c]) : List UInt8).length = 35 := (len_app D0 rfl)
 refine gk (k_append (base := c0.heap.size) (L := bv (([0]) ++ (n32 s))) (N := bv ([UInt8.ofNat n, UInt8.ofNat c])) e0.ag (eh b0 rfl) (eh b0 rfl) qs_38 qz_5 H0 (u0.bk.src (L := bv ([UInt8.ofNat n, UInt8.ofNat c])) (n := 2) (o := 0) (k := 2) (by kernel_rfl)) (fun h => by cases h) (by rw [bv_length, show ([UInt8.ofNat n, UInt8.ofNat c] : List UInt8).length = 2 from rfl, Nat.mul_one]) (one_bv _) (by omega) (by decide) (by rw [maxLen_eq]; omega) (by omega) (fun O0 T0 u1 n0 k0 => ?_))
 have k1 := k0.size
 rw [← bv_append] at n0
 have e1 := n0.nilc
 obtain ⟨c1, x0, I0⟩ := n0.fz k0.ag
 have l0 : Fr (ge c0.heap.size) _ _ _ _ := x0.wk (fun x hx _ => n0.at x hx)
 have l1 := l0.size
 refine gk (k_cl (f26 l0.ag I0 E0 (by omega)) rfl fn_26 (map_cons (eh b0 rfl) map_nil) (fun p1 v1 G0 => ?_))
 obtain ⟨J0, rfl, m0⟩ := G0
 have m1 := m0.size
 have C0 := ((((((r0.f0 d0).fs j0 (show ¬ c0.heap.size ≤ h0 from by omega)).f0 e0).fs k0 (show ¬ c0.heap.size ≤ h0 from by omega)).fs l0 (show ¬ c0.heap.size ≤ h0 from by omega)).f0 m0)
 refine gz (kt (L' := hc (sha ((([0]) ++ (n32 s)) ++ ([UInt8.ofNat n, UInt8.ofNat c])))) m0.ag (eh b0 rfl) (eh b0 rfl) C0 sz_23 (fun w1 F0 q0 => ?_))
 have n1 := q0.size
 refine nl <| A0 <| wp_ret <| ret_of (res1c (b := h0) (n := 32) (cs := hc (sha ((([0]) ++ (n32 s)) ++ ([UInt8.ofNat n, UInt8.ofNat c])))) rfl _ _ (gh b0 rfl) F0.bk (by kernel_rfl) (by kernel_rfl) qr_23 sz_23) ((ov_defers _ _).trans y0) ?_
 exact ⟨J0, rfl, (((((((((cu0.t0 o0).t0 i0).t0 d0).tg j0 (by omega)).t0 e0).tg k0 (by omega)).tg l0 (by omega)).t0 m0).tn q0 (by omega))⟩

theorem f85 {m : Ctx} {w : World} (ag : Ag m w) {h : Bytes} {c a b : Nat} (hab : a ≤ b) (hb : b ≤ 3) : Calls Tryz.prog 85 #[H h, nn c, nn a, nn b] w (Ret fun v w' => ∃ m', v = H (wk c h a (b - a)) ∧ Fr no m w m' w') := by
 refine enter Tryz.func85 rfl (fun e0 hT G0 => ?_)
 have c0 : e0.tmps.size = 27 := by rw [hT]; kernel_rfl
 have Z0 : e0.tmps.getD 0 undef = H h := by rw [hT]; kernel_rfl
 have a1 : e0.tmps.getD 1 undef = nn c := by rw [hT]; kernel_rfl
 have b1 : e0.tmps.getD 2 undef = nn a := by rw [hT]; kernel_rfl
 have c1 : e0.tmps.getD 3 undef = nn b := by rw [hT]; kernel_rfl
 clear hT
 have cu0 : Fr (no) m w m w := Fr.refl ag
 refine sk fun _ H0 => rn <| gk (k_box (L := hc h) ag (em c0 rfl rfl Z0) (by kernel_rfl) (fun D1 g0 C0 p0 n1 => ?_))
 have A1 := p0.size
 have o1 := C0.lt
 refine gk (k_alloc p0.ag qz_23 (fun d1 s0 z0 h0 l1 => ?_))
 have t1 := h0.size
 have q1 := z0.lt
 refine nl <| H0 <| sk fun _ I0 => sk fun _ J0 => rn <| mw c0 b1 <| gv (r_max0 (i := a) (eh c0 rfl) rfl) <| ms c0 rfl <| nl <| J0 <| bl ?_
 have O0 := (C0.f0 h0)
 refine wp_loop_s (σ := Nat) (I := fun (i : Nat) (a' : Act) (w' : World) => ∃ (m' : Ctx) (kx : Nat), a'.tmps.size = 27 ∧ a'.defers = [] ∧ i ≤ b - a ∧ kx = a + i ∧ a'.tmps.getD 1 undef = nn c ∧ a'.tmps.getD 3 undef = nn b ∧ a'.tmps.getD 4 undef = .pointer (some ⟨g0, 0, none⟩) ∧ a'.tmps.getD 8 undef = .pointer (some ⟨s0, 0, none⟩) ∧ a'.tmps.getD 9 undef = nn kx ∧ Fr (on g0) m d1 m' w' ∧ Mu m' w' g0 23 (hc (wk c h a i))) (μ := fun i => b - a - i) (s₀ := 0) ?_ ?_
 · exact ⟨m, a, ((ov_size _ _).trans c0), ((ov_defers _ _).trans G0), (by omega), (by omega), (gm c0 rfl rfl a1), (gm c0 rfl rfl c1), (gh c0 rfl), (gh c0 rfl), (gh c0 rfl), (Fr.refl h0.ag), O0⟩
 ·
  intro i g1 o0 hI
  obtain ⟨X0, kx22, b0, w0, j1, k1, D0, E0, n0, q0, r0, d0, A0⟩ := hI
  refine of_ov ?_
  have u1 := d0.size
  obtain rfl : kx22 = a + i := by omega
  refine sk fun _ K0 => sk fun _ L0 => rn <| mw b0 r0 <| mw b0 E0 <| gv (r_min (i := b) (j := 3) (eh b0 rfl) rfl) <| gv (r_lss (eh b0 rfl) (eh b0 rfl)) <| nl <| L0 ?_
  by_cases y0 : a + i < min b 3
  ·
   refine ct (eb b0 rfl (decide_eq_true y0)) <| ws <| K0 <| sk fun _ M0 => bl <| rn <| mw b0 D0 <| gv (r_cv_n_8 (i := c) (eh b0 rfl) qu_3 qu_5) <| mw b0 r0 <| gv (r_cv_n_8 (i := a + i) (eh b0 rfl) qu_3 qu_5) <| gk (k_lit (e := 5) (L := bv ([1, UInt8.ofNat c, UInt8.ofNat (a + i)])) d0.ag (pm_cons (v := u8 1) rfl (pm_cons (eh b0 rfl) (pm_cons (eh b0 rfl) pm_nil))) (by kernel_rfl) (fun E1 h1 B0 i0 m1 => ?_))
   have v1 := i0.size
   have p1 := B0.lt
   refine gv (r_sliceA (em b0 rfl rfl n0) qa_23) ?_
   have x0 := (A0.f0 i0)
   have R0 : (([1, UInt8.ofNat c, UInt8.ofNat (a + i)]) ++ (n32 (wk c h a i)) : List UInt8).length = 35 := (len_app rfl (n32_len _))
   refine gk (k_append (base := o0.heap.size) (L := bv ([1, UInt8.ofNat c, UInt8.ofNat (a + i)])) (N := bv (n32 (wk c h a i))) i0.ag (eh b0 rfl) (eh b0 rfl) qs_38 qz_5 (Own.of_mu B0 (by omega) (by kernel_rfl) (by decide)) (by have h_ := (x0.bk.src (L := hc (wk c h a i)) (n := 32) (o := 0) (k := 32) (by kernel_rfl)); rw [hc_n32] at h_; exact h_) (fun h => by cases h) (by rw [bv_length, show (n32 (wk c h a i) : List UInt8).length = 32 from (n32_len _), Nat.mul_one]) (one_bv _) (by omega) (by decide) (by rw [maxLen_eq]; omega) (by omega) (fun e1 i1 F1 m0 j0 => ?_))
   have w1 := j0.size
   rw [← bv_append] at m0
   have s1 := m0.nilc
   obtain ⟨r1, F0, V0⟩ := m0.fz j0.ag
   have k0 : Fr (ge o0.heap.size) _ _ _ _ := F0.wk (fun x hx _ => m0.at x hx)
   have x1 := k0.size
   refine gk (k_cl (f41 k0.ag V0 R0 (by omega)) rfl fn_41 (map_cons (eh b0 rfl) map_nil) (fun C1 G1 U0 => ?_))
   obtain ⟨Y0, rfl, l0⟩ := U0
   have y1 := l0.size
   have P0 := (((x0.fs j0 (show ¬ o0.heap.size ≤ g0 from by omega)).fs k0 (show ¬ o0.heap.size ≤ g0 from by omega)).f0 l0)
   refine gz (kt (L' := hc (sha (([1, UInt8.ofNat c, UInt8.ofNat (a + i)]) ++ (n32 (wk c h a i))))) l0.ag (em b0 rfl rfl n0) (eh b0 rfl) P0 sz_23 (fun H1 S0 u0 => ?_))
   have z1 := u0.size
   refine nl <| M0 <| rn <| mw b0 r0 <| gv (r_add (j := 1) (eh b0 rfl) rfl (by omega)) <| ms b0 rfl <| nl <| loop_back (s := i) ⟨i + 1, (show b - a - (i + 1) < b - a - (i) from (by omega)), ?_⟩
   exact ⟨Y0, (a + i) + 1, ((ov_size _ _).trans b0), ((ov_defers _ _).trans w0), (by omega), (by omega), (gm b0 rfl rfl D0), (gm b0 rfl rfl E0), (gm b0 rfl rfl n0), (gm b0 rfl rfl q0), (gh b0 rfl), (((((d0.t0 i0).tg j0 (by omega)).tg k0 (by omega)).t0 l0).tr u0 (fun x hx => .inr (by cases hx; exact rfl))), S0⟩
  ·
   refine cf (eb b0 rfl (decide_eq_false y0)) <| we ?_
   have W0 : b - a = i := (by omega)
   subst W0
   refine I0 <| sk fun _ N0 => rn <| gv (lb (cs := hc (wk c h a (b - a))) (em b0 rfl rfl n0) A0.bk qr_23 sz_23) ?_
   have Q0 := (z0.f1 d0 (by omega))
   refine gz (kt (L' := hc (wk c h a (b - a))) d0.ag (em b0 rfl rfl q0) (eh b0 rfl) Q0 sz_23 (fun I1 T0 v0 => ?_))
   have B1 := v0.size
   refine nl <| N0 <| wp_ret <| ret_of (res1c (b := s0) (n := 32) (cs := hc (wk c h a (b - a))) rfl _ _ (gm b0 rfl rfl q0) T0.bk (by kernel_rfl) (by kernel_rfl) qr_23 sz_23) ((ov_defers _ _).trans w0) ?_
   exact ⟨X0, rfl, ((((cu0.t0 p0).t0 h0).tn d0 (by omega)).tn v0 (by omega))⟩

theorem f86 {m : Ctx} {w : World} (ag : Ag m w) {s : Bytes} {n c : Nat} : Calls Tryz.prog 86 #[H s, nn n, nn c] w (Ret fun v w' => ∃ m', v = H (sec s n c) ∧ Fr no m w m' w') := by
 refine enter Tryz.func86 rfl (fun g0 hT y0 => ?_)
 have b0 : g0.tmps.size = 19 := by rw [hT]; kernel_rfl
 have L0 : g0.tmps.getD 0 undef = H s := by rw [hT]; kernel_rfl
 have M0 : g0.tmps.getD 1 undef = nn n := by rw [hT]; kernel_rfl
 have N0 : g0.tmps.getD 2 undef = nn c := by rw [hT]; kernel_rfl
 clear hT
 have cu0 : Fr (no) m w m w := Fr.refl ag
 refine sk fun _ z0 => rn <| gk (k_box (L := hc s) ag (em b0 rfl rfl L0) (by kernel_rfl) (fun s1 R0 v0 o0 Y0 => ?_))
 have p1 := o0.size
 have a1 := v0.lt
 refine gk (k_alloc o0.ag qz_23 (fun c0 h0 r0 i0 V0 => ?_))
 have h1 := i0.size
 have c1 := r0.lt
 refine nl <| z0 <| sk fun _ A0 => rn <| gk (k_lit (e := 5) (L := bv ([0])) i0.ag (pm_cons (v := u8 0) rfl pm_nil) (by kernel_rfl) (fun r1 Q0 s0 d0 W0 => ?_))
 have i1 := d0.size
 have Z0 := s0.lt
 refine gv (r_sliceA (eh b0 rfl) qa_23) ?_
 have w0 := i0.t0 d0
 have C0 := (v0.f0 w0)
 have E0 : (([0]) ++ (n32 s) : List UInt8).length = 33 := (len_app rfl (n32_len _))
 refine gk (k_append (base := c0.heap.size) (L := bv ([0])) (N := bv (n32 s)) d0.ag (eh b0 rfl) (eh b0 rfl) qs_38 qz_5 (Own.of_mu s0 (by omega) (by kernel_rfl) (by decide)) (by have h_ := (C0.bk.src (L := hc s) (n := 32) (o := 0) (k := 32) (by kernel_rfl)); rw [hc_n32] at h_; exact h_) (fun h => by cases h) (by rw [bv_length, show (n32 s : List UInt8).length = 32 from (n32_len _), Nat.mul_one]) (one_bv _) (by omega) (by decide) (by rw [maxLen_eq]; omega) (by omega) (fun O0 T0 t1 p0 j0 => ?_))
 have j1 := j0.size
 rw [← bv_append] at p0
 have e1 := p0.nilc
 refine ms b0 rfl <| nl <| A0 <| sk fun _ B0 => rn <| mv b0 rfl <| mw b0 M0 <| gv (r_cv_n_8 (i := n) (eh b0 rfl) qu_3 qu_5) <| mw b0 N0 <| gv (r_cv_n_8 (i := c) (eh b0 rfl) qu_3 qu_5) <| gk (k_lit (e := 5) (L := bv ([UInt8.ofNat n, UInt8.ofNat c])) j0.ag (pm_cons (eh b0 rfl) (pm_cons (eh b0 rfl) pm_nil)) (by kernel_rfl) (fun u1 S0 u0 e0 X0 => ?_))
 have k1 := e0.size
 have b1 := u0.lt
 have I0 := (p0.f0 e0)
 have F0 : ((([0]) ++ (n32 s)) ++ ([UInt8.ofNat n, UInt8.ofNat c]) : List UInt8).length = 35 := (len_app E0 rfl)
 refine gk (k_append (base := c0.heap.size) (L := bv (([0]) ++ (n32 s))) (N := bv ([UInt8.ofNat n, UInt8.ofNat c])) e0.ag (eh b0 rfl) (eh b0 rfl) qs_38 qz_5 I0 (u0.bk.src (L := bv ([UInt8.ofNat n, UInt8.ofNat c])) (n := 2) (o := 0) (k := 2) (by kernel_rfl)) (fun h => by cases h) (by rw [bv_length, show ([UInt8.ofNat n, UInt8.ofNat c] : List UInt8).length = 2 from rfl, Nat.mul_one]) (one_bv _) (by omega) (by decide) (by rw [maxLen_eq]; omega) (by omega) (fun P0 U0 v1 n0 k0 => ?_))
 have l1 := k0.size
 rw [← bv_append] at n0
 have g1 := n0.nilc
 obtain ⟨d1, x0, J0⟩ := n0.fz k0.ag
 have l0 : Fr (ge c0.heap.size) _ _ _ _ := x0.wk (fun x hx _ => n0.at x hx)
 have m1 := l0.size
 refine gk (k_cl (f41 l0.ag J0 F0 (by omega)) rfl fn_41 (map_cons (eh b0 rfl) map_nil) (fun q1 w1 H0 => ?_))
 obtain ⟨K0, rfl, m0⟩ := H0
 have n1 := m0.size
 have D0 := ((((((r0.f0 d0).fs j0 (show ¬ c0.heap.size ≤ h0 from by omega)).f0 e0).fs k0 (show ¬ c0.heap.size ≤ h0 from by omega)).fs l0 (show ¬ c0.heap.size ≤ h0 from by omega)).f0 m0)
 refine gz (kt (L' := hc (sha ((([0]) ++ (n32 s)) ++ ([UInt8.ofNat n, UInt8.ofNat c])))) m0.ag (eh b0 rfl) (eh b0 rfl) D0 sz_23 (fun x1 G0 q0 => ?_))
 have o1 := q0.size
 refine nl <| B0 <| wp_ret <| ret_of (res1c (b := h0) (n := 32) (cs := hc (sha ((([0]) ++ (n32 s)) ++ ([UInt8.ofNat n, UInt8.ofNat c])))) rfl _ _ (gh b0 rfl) G0.bk (by kernel_rfl) (by kernel_rfl) qr_23 sz_23) ((ov_defers _ _).trans y0) ?_
 exact ⟨K0, rfl, (((((((((cu0.t0 o0).t0 i0).t0 d0).tg j0 (by omega)).t0 e0).tg k0 (by omega)).tg l0 (by omega)).t0 m0).tn q0 (by omega))⟩

theorem f99 {m : Ctx} {w : World} (ag : Ag m w) {s : Bytes} {n c : Nat} : Calls Tryz.prog 99 #[.agg (hc s ++ ([nn n])).toArray, nn c] w (Ret fun v w' => ∃ m', v = H (wk c (sec s n c) 0 3) ∧ Fr no m w m' w') := by
 refine enter Tryz.func99 rfl (fun g0 hT q0 => ?_)
 have b0 : g0.tmps.size = 13 := by rw [hT]; kernel_rfl
 have y0 : g0.tmps.getD 0 undef = .agg (hc s ++ ([nn n])).toArray := by rw [hT]; kernel_rfl
 have n0 : g0.tmps.getD 1 undef = nn c := by rw [hT]; kernel_rfl
 clear hT
 have cu0 : Fr (no) m w m w := Fr.refl ag
 refine sk fun _ r0 => rn <| gk (k_box (L := hc s ++ ([nn n])) ag (em b0 rfl rfl y0) (by kernel_rfl) (fun N0 z0 l0 h0 B0 => ?_))
 have J0 := h0.size
 have C0 := l0.lt
 refine gk (k_alloc h0.ag qz_23 (fun Q0 o0 k0 c0 A0 => ?_))
 have F0 := c0.size
 have D0 := k0.lt
 refine nl <| r0 <| sk fun _ s0 => rn <| gv (r_field (o' := 0) (eh b0 rfl) fo_183_0 (by rfl)) ?_
 have j0 := (l0.f0 c0)
 refine gv (lb (cs := hc s) (eh b0 rfl) j0.bk qr_23 sz_23) <| gv (r_field (o' := 32) (eh b0 rfl) fo_183_1 (by rfl)) <| gv (la (v := nn n) (eh b0 rfl) j0.bk qr_3) <| mw b0 n0 <| gk (k_cl (f121 c0.ag) rfl fn_121 (map_cons (eh b0 rfl) (map_cons (eh b0 rfl) (map_cons (eh b0 rfl) map_nil))) (fun K0 M0 w0 => ?_))
 obtain ⟨E0, rfl, d0⟩ := w0
 have G0 := d0.size
 refine mw b0 n0 <| gk (k_cl (f120 (a := 0) (b := 3) d0.ag (by omega) (by omega)) rfl fn_120 (map_cons (eh b0 rfl) (map_cons (eh b0 rfl) (map_cons (v := nn 0) rfl (map_cons (v := nn 3) rfl map_nil)))) (fun L0 O0 m0 => ?_))
 rw [Nat.sub_zero] at m0
 obtain ⟨x0, rfl, e0⟩ := m0
 have H0 := e0.size
 have p0 := d0.t0 e0
 have u0 := (k0.f0 p0)
 refine gz (kt (L' := hc (wk c (sec s n c) 0 3)) e0.ag (eh b0 rfl) (eh b0 rfl) u0 sz_23 (fun P0 v0 i0 => ?_))
 have I0 := i0.size
 refine nl <| s0 <| wp_ret <| ret_of (res1c (b := o0) (n := 32) (cs := hc (wk c (sec s n c) 0 3)) rfl _ _ (gh b0 rfl) v0.bk (by kernel_rfl) (by kernel_rfl) qr_23 sz_23) ((ov_defers _ _).trans q0) ?_
 exact ⟨x0, rfl, (((((cu0.t0 h0).t0 c0).t0 d0).t0 e0).tn i0 (by omega))⟩

theorem f98 {m : Ctx} {w : World} (ag : Ag m w) {s : Bytes} {n : Nat} : Calls Tryz.prog 98 #[.func (.func 99) #[.agg (hc s ++ ([nn n])).toArray] #[]] w (Ret fun v w' => ∃ m', v = H (pubL s n) ∧ Fr no m w m' w') := by
 refine enter Tryz.func98 rfl (fun s0 hT H0 => ?_)
 have e0 : s0.tmps.size = 19 := by rw [hT]; kernel_rfl
 have e1 : s0.tmps.getD 0 undef = .func (.func 99) #[.agg (hc s ++ ([nn n])).toArray] #[] := by rw [hT]; kernel_rfl
 clear hT
 have cu0 : Fr (no) m w m w := Fr.refl ag
 refine sk fun _ I0 => rn <| gk (k_alloc ag qz_23 (fun c0 i0 z0 o0 n1 => ?_))
 have A1 := o0.size
 have p1 := z0.lt
 refine nl <| I0 <| sk fun _ R0 => rn <| gk (k_lit (e := 5) (L := bv ([2])) o0.ag (pm_cons (v := u8 2) rfl pm_nil) (by kernel_rfl) (fun g1 E0 y0 j0 m1 => ?_))
 have u1 := j0.size
 have o1 := y0.lt
 refine ms e0 rfl <| nl <| R0 <| sk fun _ J0 => sk fun _ K0 => rn <| gv (r_move (v := nn 0) rfl) <| nl <| K0 <| bl <| wp_loop_s (σ := Nat) (I := fun (i : Nat) (a' : Act) (w' : World) => ∃ (m' : Ctx) (Ax0 : Option Addr) (cx0 : Nat) (Nx0 : Nat), a'.tmps.size = 19 ∧ a'.defers = [] ∧ i ≤ 36 ∧ Nx0 = 1 + 32 * (i) ∧ a'.tmps.getD 0 undef = .func (.func 99) #[.agg (hc s ++ ([nn n])).toArray] #[] ∧ a'.tmps.getD 2 undef = .pointer (some ⟨i0, 0, none⟩) ∧ a'.tmps.getD 3 undef = .slice Ax0 Nx0 cx0 ∧ a'.tmps.getD 7 undef = nn i ∧ Fr (ge c0.heap.size) m g1 m' w' ∧ Own m' w' (c0.heap.size) Ax0 Nx0 cx0 5 1 (bv (endsB (pf s n) i))) (μ := fun i => 36 - i) (s₀ := 0) ?_ ?_
 · exact ⟨m, some ⟨E0, 0, none⟩, 1, 1, ((ov_size _ _).trans e0), ((ov_defers _ _).trans H0), (by omega), (by omega), (gm e0 rfl rfl e1), (gh e0 rfl), (gh e0 rfl), (gh e0 rfl), (Fr.refl j0.ag), (Own.of_mu y0 (by omega) (by kernel_rfl) (by decide))⟩
 ·
  intro i h1 G1 hI
  obtain ⟨r1, Ax022, cx023, Nx024, b0, w0, k1, l1, B0, q0, C0, r0, d0, h0⟩ := hI
  refine of_ov ?_
  have v1 := d0.size
  have nc_Ax022 := h0.nilc
  refine sk fun _ L0 => rn <| gv (r_lss (j := 36) (em b0 rfl rfl r0) rfl) <| nl <| L0 <| sk fun _ M0 => ?_
  by_cases x0 : i < 36
  ·
   refine ct (eb b0 rfl (decide_eq_true x0)) <| ws <| M0 <| sk fun _ N0 => bl <| sk fun _ O0 => rn <| mw b0 r0 <| ms b0 rfl <| nl <| O0 <| sk fun _ P0 => rn <| mw b0 B0 <| mv b0 rfl <| gk (k_callv (eh b0 rfl) fn_99 (map_cons (eh b0 rfl) map_nil) (f99 d0.ag) (fun E1 H1 V0 => ?_))
   obtain ⟨c1, rfl, g0⟩ := V0
   have w1 := g0.size
   refine gk (k_alloc g0.ag qz_23 (fun I1 i1 A0 k0 b1 => ?_))
   have x1 := k0.size
   have q1 := A0.lt
   refine gz (kt (L' := hc (pf s n i)) k0.ag (eh b0 rfl) (eh b0 rfl) A0 sz_23 (fun J1 T0 l0 => ?_))
   have y1 := l0.size
   refine nl <| P0 <| rn <| mw b0 C0 <| gv (r_sliceA (eh b0 rfl) qa_23) ?_
   have X0 := (((h0.f0 g0).f0 k0).fn l0 ((h0.f0 g0).ne b1))
   have j1 : ((endsB (pf s n) i) ++ (n32 (pf s n i)) : List UInt8).length = Nx024 + 32 := (len_app (Eq.trans (endsB_len _ _) (by omega)) (n32_len _))
   refine gk (k_append (base := c0.heap.size) (L := bv (endsB (pf s n) i)) (N := bv (n32 (pf s n i))) l0.ag (eh b0 rfl) (eh b0 rfl) qs_38 qz_5 X0 (by have h_ := (T0.bk.src (L := hc (pf s n i)) (n := 32) (o := 0) (k := 32) (by kernel_rfl)); rw [hc_n32] at h_; exact h_) (fun h => by cases h) (by rw [bv_length, show (n32 (pf s n i) : List UInt8).length = 32 from (n32_len _), Nat.mul_one]) (one_bv _) (by omega) (by decide) (by rw [maxLen_eq]; omega) (by omega) (fun D0 F0 K1 p0 u0 => ?_))
   have z1 := u0.size
   rw [← bv_append] at p0
   have t1 := p0.nilc
   refine ms b0 rfl <| nl <| N0 <| rn <| gv (r_add (j := 1) (em b0 rfl rfl r0) rfl (by omega)) <| mv b0 rfl <| nl <| loop_back (s := i) ⟨i + 1, (show 36 - (i + 1) < 36 - (i) from (by omega)), ?_⟩
   exact ⟨c1, D0, F0, Nx024 + 32, ((ov_size _ _).trans b0), ((ov_defers _ _).trans w0), (by omega), (by omega), (gm b0 rfl rfl B0), (gm b0 rfl rfl q0), (gh b0 rfl), (gh b0 rfl), ((((d0.t0 g0).t0 k0).tn l0 (by omega)).tr u0 (fun x hx => .inr (by have h_ : c0.heap.size ≤ x := hx; exact h_))), p0⟩
  ·
   refine cf (eb b0 rfl (decide_eq_false x0)) <| we ?_
   have Z0 : 36 = i := (by omega)
   subst Z0
   have a1 : 1153 = Nx024 := by omega
   subst a1
   refine J0 <| sk fun _ Q0 => rn <| mw b0 C0 ?_
   obtain ⟨s1, G0, Y0⟩ := h0.fz d0.ag
   have m0 : Fr (ge c0.heap.size) _ _ _ _ := G0.wk (fun x hx _ => h0.at x hx)
   have B1 := m0.size
   refine gk (k_cl (f26 m0.ag Y0 (Eq.trans (endsB_len _ _) (by decide)) (by omega)) rfl fn_26 (map_cons (eh b0 rfl) map_nil) (fun F1 L1 W0 => ?_))
   obtain ⟨d1, rfl, n0⟩ := W0
   have C1 := n0.size
   have S0 := ((((z0.f0 j0).fs d0 (show ¬ c0.heap.size ≤ i0 from by omega)).fs m0 (show ¬ c0.heap.size ≤ i0 from by omega)).f0 n0)
   refine gz (kt (L' := hc (sha (endsB (pf s n) 36))) n0.ag (em b0 rfl rfl q0) (eh b0 rfl) S0 sz_23 (fun M1 U0 v0 => ?_))
   have D1 := v0.size
   refine nl <| Q0 <| wp_ret <| ret_of (res1c (b := i0) (n := 32) (cs := hc (sha (endsB (pf s n) 36))) rfl _ _ (gm b0 rfl rfl q0) U0.bk (by kernel_rfl) (by kernel_rfl) qr_23 sz_23) ((ov_defers _ _).trans w0) ?_
   exact ⟨d1, rfl, ((((((cu0.t0 o0).t0 j0).tg d0 (by omega)).tg m0 (by omega)).t0 n0).tn v0 (by omega))⟩

theorem f47 {m : Ctx} {w : World} (ag : Ag m w) {s : Bytes} {n : Nat} : Calls Tryz.prog 47 #[H s, nn n] w (Ret fun v w' => ∃ m', v = H (pubL s n) ∧ Fr no m w m' w') := by
 refine enter Tryz.func47 rfl (fun e0 hT l0 => ?_)
 have b0 : e0.tmps.size = 10 := by rw [hT]; kernel_rfl
 have u0 : e0.tmps.getD 0 undef = H s := by rw [hT]; kernel_rfl
 have v0 : e0.tmps.getD 1 undef = nn n := by rw [hT]; kernel_rfl
 clear hT
 have cu0 : Fr (no) m w m w := Fr.refl ag
 refine sk fun _ m0 => rn <| gk (k_box (L := hc s) ag (em b0 rfl rfl u0) (by kernel_rfl) (fun H0 w0 j0 g0 y0 => ?_))
 have E0 := g0.size
 have z0 := j0.lt
 refine gk (k_alloc g0.ag qz_23 (fun J0 k0 i0 c0 x0 => ?_))
 have B0 := c0.size
 have A0 := i0.lt
 refine nl <| m0 <| sk fun _ n0 => rn ?_
 have o0 := (j0.f0 c0)
 refine gv (lb (cs := hc s) (eh b0 rfl) o0.bk qr_23 sz_23) <| mw b0 v0 <| gv (r_build (cs := hc s ++ ([nn n])) (pm_cons (eh b0 rfl) (pm_cons (eh b0 rfl) pm_nil)) (by kernel_rfl)) <| gv (r_makeFunc (map_cons (eh b0 rfl) map_nil) map_nil) <| gk (k_cl (f98 c0.ag) rfl fn_98 (map_cons (eh b0 rfl) map_nil) (fun F0 G0 r0 => ?_))
 obtain ⟨s0, rfl, d0⟩ := r0
 have C0 := d0.size
 have p0 := (i0.f0 d0)
 refine gz (kt (L' := hc (pubL s n)) d0.ag (eh b0 rfl) (eh b0 rfl) p0 sz_23 (fun I0 q0 h0 => ?_))
 have D0 := h0.size
 refine nl <| n0 <| wp_ret <| ret_of (res1c (b := k0) (n := 32) (cs := hc (pubL s n)) rfl _ _ (gh b0 rfl) q0.bk (by kernel_rfl) (by kernel_rfl) qr_23 sz_23) ((ov_defers _ _).trans l0) ?_
 exact ⟨s0, rfl, ((((cu0.t0 g0).t0 c0).t0 d0).tn h0 (by omega))⟩

theorem f87 {m : Ctx} {w : World} (ag : Ag m w) {A : Option Addr} {n c : Nat} {l : List Bytes} (hsl : Sl m A n c 32 (hcs l)) (hl : l.length = n) (hn : n ≤ 1000) : Calls Tryz.prog 87 #[.slice A n c] w (Ret fun v w' => ∃ m', v = H (sha (endsB (fun i => l.getD i []) n)) ∧ Fr no m w m' w') := by
 refine enter Tryz.func87 rfl (fun q0 hT G0 => ?_)
 have e0 : q0.tmps.size = 20 := by rw [hT]; kernel_rfl
 have a1 : q0.tmps.getD 0 undef = .slice A n c := by rw [hT]; kernel_rfl
 clear hT
 have cu0 : Fr (no) m w m w := Fr.refl ag
 refine sk fun _ H0 => rn <| gk (k_alloc ag qz_23 (fun d0 h0 x0 i0 j1 => ?_))
 have u1 := i0.size
 have l1 := x0.lt
 refine nl <| H0 <| sk fun _ O0 => rn <| gk (k_lit (e := 5) (L := bv ([2])) i0.ag (pm_cons (v := u8 2) rfl pm_nil) (by kernel_rfl) (fun b1 C0 w0 g0 i1 => ?_))
 have o1 := g0.size
 have k1 := w0.lt
 refine ms e0 rfl <| nl <| O0 <| sk fun _ I0 => sk fun _ J0 => rn <| gv (r_assign (v := nn 0) rfl) <| nl <| J0 <| bl <| wp_loop_s (σ := Nat) (I := fun (i : Nat) (a' : Act) (w' : World) => ∃ (m' : Ctx) (Ax0 : Option Addr) (cx0 : Nat) (Nx0 : Nat), a'.tmps.size = 20 ∧ a'.defers = [] ∧ i ≤ n ∧ Nx0 = 1 + 32 * (i) ∧ a'.tmps.getD 0 undef = .slice A n c ∧ a'.tmps.getD 2 undef = .pointer (some ⟨h0, 0, none⟩) ∧ a'.tmps.getD 3 undef = .slice Ax0 Nx0 cx0 ∧ a'.tmps.getD 4 undef = nn i ∧ Fr (ge d0.heap.size) m b1 m' w' ∧ Own m' w' (d0.heap.size) Ax0 Nx0 cx0 5 1 (bv (endsB (fun i => l.getD i []) i))) (μ := fun i => n - i) (s₀ := 0) ?_ ?_
 · exact ⟨m, some ⟨C0, 0, none⟩, 1, 1, ((ov_size _ _).trans e0), ((ov_defers _ _).trans G0), (by omega), (by omega), (gm e0 rfl rfl a1), (gh e0 rfl), (gh e0 rfl), (gh e0 rfl), (Fr.refl g0.ag), (Own.of_mu w0 (by omega) (by kernel_rfl) (by decide))⟩
 ·
  intro i d1 w1 hI
  obtain ⟨y0, Ax022, cx023, Nx024, b0, u0, g1, h1, n0, o0, A0, p0, c0, l0⟩ := hI
  refine of_ov ?_
  have p1 := c0.size
  have nc_Ax022 := l0.nilc
  refine sk fun _ K0 => sk fun _ L0 => rn <| mw b0 p0 <| mw b0 n0 <| gv (r_lenS (eh b0 rfl) rfl qu_27) <| gv (r_lss (eh b0 rfl) (eh b0 rfl)) <| nl <| L0 ?_
  by_cases v0 : i < n
  ·
   refine ct (eb b0 rfl (decide_eq_true v0)) <| ws <| K0 <| sk fun _ M0 => bl <| rn <| mw b0 A0 <| mw b0 n0 <| mw b0 p0 ?_
   have Y0 := Fr.ll (Fr.l2 i0 g0) c0
   have U0 := hsl.le Y0
   obtain ⟨D0, z0, c1, rfl, R0, T0⟩ := U0.elem (by omega)
   refine gv (r_idxS (o' := z0 + (i * 32)) (eh b0 rfl) (eh b0 rfl) qs_27 (by omega) (by omega)) ?_
   have V0 : Sl y0 (some ⟨D0, z0 + (i * 32), none⟩) 32 32 1 (hc ((l).getD i [])) := Sl.of (k := 32) R0 (Eq.trans (rd_sub T0 (by omega)) (hcs_get (i := i) hl (by omega))) rfl (by decide) (by decide)
   refine gv (r_sliceA (eh b0 rfl) qa_23) ?_
   have e1 : ((endsB (fun i => l.getD i []) i) ++ (n32 ((l).getD i [])) : List UInt8).length = Nx024 + 32 := (len_app (Eq.trans (endsB_len _ _) (by omega)) (n32_len _))
   refine gk (k_append (base := d0.heap.size) (L := bv (endsB (fun i => l.getD i []) i)) (N := bv (n32 ((l).getD i []))) c0.ag (eh b0 rfl) (eh b0 rfl) qs_38 qz_5 l0 (by have h_ := (V0.src c0.ag); rw [hc_n32] at h_; exact h_) (fun h => by cases h) (by rw [bv_length, show (n32 ((l).getD i []) : List UInt8).length = 32 from (n32_len _), Nat.mul_one]) (one_bv _) (by omega) (by decide) (by rw [maxLen_eq]; omega) (by omega) (fun B0 E0 x1 m0 r0 => ?_))
   have q1 := r0.size
   rw [← bv_append] at m0
   have n1 := m0.nilc
   refine ms b0 rfl <| nl <| M0 <| rn <| mw b0 p0 <| gv (r_add (j := 1) (eh b0 rfl) rfl (by omega)) <| ms b0 rfl <| nl <| loop_back (s := i) ⟨i + 1, (show n - (i + 1) < n - (i) from (by omega)), ?_⟩
   exact ⟨y0, B0, E0, Nx024 + 32, ((ov_size _ _).trans b0), ((ov_defers _ _).trans u0), (by omega), (by omega), (gm b0 rfl rfl n0), (gm b0 rfl rfl o0), (gh b0 rfl), (gh b0 rfl), (c0.tr r0 (fun x hx => .inr (by have h_ : d0.heap.size ≤ x := hx; exact h_))), m0⟩
  ·
   refine cf (eb b0 rfl (decide_eq_false v0)) <| we ?_
   have X0 : n = i := (by omega)
   subst X0
   refine I0 <| sk fun _ N0 => rn <| mw b0 A0 ?_
   obtain ⟨m1, F0, W0⟩ := l0.fz c0.ag
   have j0 : Fr (ge d0.heap.size) _ _ _ _ := F0.wk (fun x hx _ => l0.at x hx)
   have r1 := j0.size
   refine gk (k_cl (f41 j0.ag W0 (Eq.trans (endsB_len _ _) (by omega)) (by omega)) rfl fn_41 (map_cons (eh b0 rfl) map_nil) (fun v1 y1 S0 => ?_))
   obtain ⟨Z0, rfl, k0⟩ := S0
   have s1 := k0.size
   have P0 := ((((x0.f0 g0).fs c0 (show ¬ d0.heap.size ≤ h0 from by omega)).fs j0 (show ¬ d0.heap.size ≤ h0 from by omega)).f0 k0)
   refine gz (kt (L' := hc (sha (endsB (fun i => l.getD i []) n))) k0.ag (em b0 rfl rfl o0) (eh b0 rfl) P0 sz_23 (fun z1 Q0 s0 => ?_))
   have t1 := s0.size
   refine nl <| N0 <| wp_ret <| ret_of (res1c (b := h0) (n := 32) (cs := hc (sha (endsB (fun i => l.getD i []) n))) rfl _ _ (gm b0 rfl rfl o0) Q0.bk (by kernel_rfl) (by kernel_rfl) qr_23 sz_23) ((ov_defers _ _).trans u0) ?_
   exact ⟨Z0, rfl, ((((((cu0.t0 i0).t0 g0).tg c0 (by omega)).tg j0 (by omega)).t0 k0).tn s0 (by omega))⟩

theorem f38 {m : Ctx} {w : World} (ag : Ag m w) {s : Bytes} {n : Nat} : Calls Tryz.prog 38 #[H s, nn n] w (Ret fun v w' => ∃ m', v = H (pubL s n) ∧ Fr no m w m' w') := by
 refine enter Tryz.func38 rfl (fun o0 hT K0 => ?_)
 have d0 : o0.tmps.size = 22 := by rw [hT]; kernel_rfl
 have e1 : o0.tmps.getD 0 undef = H s := by rw [hT]; kernel_rfl
 have g1 : o0.tmps.getD 1 undef = nn n := by rw [hT]; kernel_rfl
 clear hT
 have cu0 : Fr (no) m w m w := Fr.refl ag
 refine sk fun _ L0 => rn <| gk (k_box (L := hc s) ag (em d0 rfl rfl e1) (by kernel_rfl) (fun K1 G0 z0 q0 o1 => ?_))
 have C1 := q0.size
 have p1 := z0.lt
 refine gk (k_alloc q0.ag qz_23 (fun e0 p0 y0 g0 m1 => ?_))
 have w1 := g0.size
 have r1 := y0.lt
 refine nl <| L0 <| sk fun _ M0 => rn <| gv (r_assign (v := .slice none 0 0) rfl) <| nl <| M0 <| sk fun _ N0 => sk fun _ O0 => rn <| gv (r_assign (v := nn 0) rfl) <| nl <| O0 <| bl <| wp_loop_s (σ := Nat) (I := fun (i : Nat) (a' : Act) (w' : World) => ∃ (m' : Ctx) (Ax0 : Option Addr) (cx0 : Nat) (Nx0 : Nat), a'.tmps.size = 22 ∧ a'.defers = [] ∧ i ≤ 36 ∧ Nx0 = i ∧ a'.tmps.getD 1 undef = nn n ∧ a'.tmps.getD 2 undef = .pointer (some ⟨G0, 0, none⟩) ∧ a'.tmps.getD 4 undef = .pointer (some ⟨p0, 0, none⟩) ∧ a'.tmps.getD 5 undef = .slice Ax0 Nx0 cx0 ∧ a'.tmps.getD 6 undef = nn i ∧ Fr (no) m e0 m' w' ∧ Own m' w' (e0.heap.size) Ax0 Nx0 cx0 23 32 (hcs (chL (pf s n) i))) (μ := fun i => 36 - i) (s₀ := 0) ?_ ?_
 · exact ⟨m, none, 0, 0, ((ov_size _ _).trans d0), ((ov_defers _ _).trans K0), (by omega), (by omega), (gm d0 rfl rfl g1), (gh d0 rfl), (gh d0 rfl), (gh d0 rfl), (gh d0 rfl), (Fr.refl g0.ag), (Own.nil _ _ _ _ _)⟩
 ·
  intro i h1 J1 hI
  obtain ⟨s1, Ax022, cx023, Nx024, b0, w0, k1, l1, C0, D0, s0, E0, n0, c0, m0⟩ := hI
  refine of_ov ?_
  have x1 := c0.size
  have nc_Ax022 := m0.nilc
  refine sk fun _ P0 => sk fun _ Q0 => rn <| mw b0 n0 <| gv (r_lss (j := 36) (eh b0 rfl) rfl) <| nl <| Q0 ?_
  by_cases x0 : i < 36
  ·
   refine ct (eb b0 rfl (decide_eq_true x0)) <| ws <| P0 <| sk fun _ R0 => bl <| rn <| mw b0 E0 ?_
   have I0 := g0.t0 c0
   have T0 := (z0.f0 I0)
   refine gv (lb (cs := hc s) (em b0 rfl rfl D0) T0.bk qr_23 sz_23) <| mw b0 C0 <| mw b0 n0 <| gk (k_cl (f86 c0.ag) rfl fn_86 (map_cons (eh b0 rfl) (map_cons (eh b0 rfl) (map_cons (eh b0 rfl) map_nil))) (fun G1 L1 W0 => ?_))
   obtain ⟨t1, rfl, h0⟩ := W0
   have y1 := h0.size
   refine mw b0 n0 <| gk (k_cl (f85 (a := 0) (b := 3) h0.ag (by omega) (by omega)) rfl fn_85 (map_cons (eh b0 rfl) (map_cons (eh b0 rfl) (map_cons (v := nn 0) rfl (map_cons (v := nn 3) rfl map_nil)))) (fun H1 M1 B0 => ?_))
   rw [Nat.sub_zero] at B0
   obtain ⟨c1, rfl, i0⟩ := B0
   have z1 := i0.size
   refine gk (k_lit (e := 23) (L := hc (wk i (sec s n i) 0 3)) i0.ag (pm_cons (eh b0 rfl) pm_nil) (by kernel_rfl) (fun N1 i1 A0 j0 n1 => ?_))
   have A1 := j0.size
   have q1 := A0.lt
   have Y0 := (((m0.f0 h0).f0 i0).f0 j0)
   have j1 : ((chL (pf s n) i) ++ ([wk i (sec s n i) 0 3]) : List Bytes).length = Nx024 + 1 := (len_app (Eq.trans (chL_len _ _) (by omega)) rfl)
   refine gk (k_append (base := e0.heap.size) (L := hcs (chL (pf s n) i)) (N := hcs ([wk i (sec s n i) 0 3])) j0.ag (eh b0 rfl) (eh b0 rfl) qs_27 qz_23 Y0 (by have h_ := (A0.bk.src (L := hc (wk i (sec s n i) 0 3)) (n := 1) (o := 0) (k := 32) (by kernel_rfl)); rw [← hcs_one] at h_; exact h_) (fun h => by cases h) (by rw [hcs_length, show ([wk i (sec s n i) 0 3] : List Bytes).length = 1 from rfl]) (one_hcs _) (by omega) (by decide) (by rw [maxLen_eq]; omega) (by omega) (fun F0 H0 O1 r0 u0 => ?_))
   have B1 := u0.size
   rw [← hcs_append] at r0
   have v1 := r0.nilc
   refine ms b0 rfl <| nl <| R0 <| rn <| mw b0 n0 <| gv (r_add (j := 1) (eh b0 rfl) rfl (by omega)) <| ms b0 rfl <| nl <| loop_back (s := i) ⟨i + 1, (show 36 - (i + 1) < 36 - (i) from (by omega)), ?_⟩
   exact ⟨c1, F0, H0, Nx024 + 1, ((ov_size _ _).trans b0), ((ov_defers _ _).trans w0), (by omega), (by omega), (gm b0 rfl rfl C0), (gm b0 rfl rfl D0), (gm b0 rfl rfl s0), (gh b0 rfl), (gh b0 rfl), ((((c0.t0 h0).t0 i0).t0 j0).tg u0 (by omega)), r0⟩
  ·
   refine cf (eb b0 rfl (decide_eq_false x0)) <| we ?_
   have a1 : 36 = i := (by omega)
   subst a1
   have b1 : 36 = Nx024 := by omega
   subst b1
   refine N0 <| sk fun _ S0 => rn <| mw b0 E0 ?_
   obtain ⟨u1, J0, Z0⟩ := m0.fz c0.ag
   have k0 : Fr (ge e0.heap.size) _ _ _ _ := J0.wk (fun x hx _ => m0.at x hx)
   have D1 := k0.size
   refine gk (k_cl (f87 k0.ag Z0 (Eq.trans (chL_len _ _) (by decide)) (by omega)) rfl fn_87 (map_cons (eh b0 rfl) map_nil) (fun I1 P1 X0 => ?_))
   obtain ⟨d1, rfl, l0⟩ := X0
   have E1 := l0.size
   have U0 := (((y0.f0 c0).fs k0 (show ¬ e0.heap.size ≤ p0 from by omega)).f0 l0)
   refine gz (kt (L' := hc (sha (endsB (fun i => (chL (pf s n) 36).getD i []) 36))) l0.ag (em b0 rfl rfl s0) (eh b0 rfl) U0 sz_23 (fun Q1 V0 v0 => ?_))
   have F1 := v0.size
   refine nl <| S0 <| wp_ret <| ret_of (res1c (b := p0) (n := 32) (cs := hc (sha (endsB (fun i => (chL (pf s n) 36).getD i []) 36))) rfl _ _ (gm b0 rfl rfl s0) V0.bk (by kernel_rfl) (by kernel_rfl) qr_23 sz_23) ((ov_defers _ _).trans w0) ?_
   exact ⟨d1, congrArg H (pub_eq (by omega)), ((((((cu0.t0 q0).t0 g0).t0 c0).tg k0 (by omega)).t0 l0).tn v0 (by omega))⟩

end Go.Proofs.YtiggfalelcepbaaGreatDoor

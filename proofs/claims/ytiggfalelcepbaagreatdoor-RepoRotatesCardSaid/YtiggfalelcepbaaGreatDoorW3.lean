/- The walk of the reference SHA-256. -/
import Derived.Test.YtiggfalelcepbaaGreatDoorK7
import Derived.Test.YtiggfalelcepbaaGreatDoorSX
import Derived.Test.YtiggfalelcepbaaGreatDoorW1
import Derived.Test.YtiggfalelcepbaaGreatDoorW2
import Derived.Test.YtiggfalelcepbaaGreatDoorTX
namespace Go.Proofs.YtiggfalelcepbaaGreatDoor
open Go
set_option maxRecDepth 100000
set_option maxHeartbeats 4000000
theorem f41 {m : Ctx} {w : World} (ag : Ag m w) {n c : Nat} {A : Option Addr} {p : Bytes} (hsl : Sl m A n c 1 (bv p)) (hp : p.length = n) (hn : n < 4294967296) :
    Calls Tryz.prog 41 #[.slice A n c] w (Ret fun v w' => ∃ m', v = H (sha p) ∧ Fr no m w m' w') := by
 refine enter Tryz.func41 rfl (fun t1 hT t2 => ?_)
 have i0 : t1.tmps.size = 73 := by rw [hT]; kernel_rfl
 have g2 : t1.tmps.getD 0 undef = .slice A n c := by rw [hT]; kernel_rfl
 clear hT
 have cu0 : Fr (no) m w m w := Fr.refl ag
 refine sk fun _ u2 => rn <| gk (k_alloc ag qz_23 (fun e0 g0 U1 W0 k5 => ?_))
 have x6 := W0.size
 have y5 := U1.lt
 refine nl <| u2 <| sk fun _ o3 => rn <| gk (k_lit (e := 5) (L := []) W0.ag pm_nil (by kernel_rfl) (fun h7 w4 H1 o0 Z4 => ?_))
 have S5 := o0.size
 have o5 := H1.lt
 refine mw i0 g2 ?_
 have Z1 := ((hsl.up W0).up o0)
 refine gk (k_append0 (base := e0.heap.size) (N := bv p) o0.ag (eh i0 rfl) (eh i0 rfl) qs_38 qz_5 (Own.of_mu H1 (by omega) (by kernel_rfl) (by decide)) (Z1.src o0.ag) (Z1.nilc) (by rw [bv_length, hp, Nat.mul_one]) (one_bv _) (by omega) (by decide) (by rw [maxLen_eq]; omega) (by omega) (fun p4 L4 N6 Y1 S0 => ?_))
 have c6 := S0.size
 have H5 := Y1.nilc
 refine gk (k_lit (e := 5) (L := bv ([128])) S0.ag (pm_cons (v := u8 128) rfl pm_nil) (by kernel_rfl) (fun S6 D4 Q1 D0 i5 => ?_))
 have l6 := D0.size
 have w5 := Q1.lt
 have V3 := (Y1.f0 D0)
 have Q4 : (p ++ ([128]) : List UInt8).length = n + 1 := (len_app hp rfl)
 refine gk (k_append (base := e0.heap.size) (L := bv p) (N := bv ([128])) D0.ag (eh i0 rfl) (eh i0 rfl) qs_38 qz_5 V3 (Q1.bk.src (L := bv ([128])) (n := 1) (o := 0) (k := 1) (by kernel_rfl)) (fun h => by cases h) (by rw [bv_length, show ([128] : List UInt8).length = 1 from rfl, Nat.mul_one]) (one_bv _) (by omega) (by decide) (by rw [maxLen_eq]; omega) (by omega) (fun n2 q2 k4 k1 V0 => ?_))
 have s6 := V0.size
 rw [← bv_append] at k1
 have L5 := k1.nilc
 refine ms i0 rfl <| nl <| o3 <| sk fun _ e3 => bl <| wp_loop_s (σ := Nat) (I := fun (i : Nat) (a' : Act) (w' : World) => ∃ (m' : Ctx) (Ax : Option Addr) (cx : Nat) (Nx : Nat), a'.tmps.size = 73 ∧ a'.defers = [] ∧ i ≤ (119 - n % 64) % 64 ∧ Nx = n + 1 + i ∧ a'.tmps.getD 0 undef = .slice A n c ∧ a'.tmps.getD 2 undef = .pointer (some ⟨g0, 0, none⟩) ∧ a'.tmps.getD 3 undef = .slice Ax Nx cx ∧ Fr (ge e0.heap.size) m k4 m' w' ∧ Own m' w' (e0.heap.size) Ax Nx cx 5 1 (bv (zs p i))) (μ := fun i => ((119 - n % 64) % 64) - i) (s₀ := 0) ?_ ?_
 · exact ⟨m, n2, q2, n + 1, ((ov_size _ _).trans i0), ((ov_defers _ _).trans t2), (by omega), (by omega), (gm i0 rfl rfl g2), (gh i0 rfl), (gh i0 rfl), (Fr.refl V0.ag), k1⟩
 ·
  intro i v4 b7 hI
  obtain ⟨e4, Ax42, cx43, Nx44, b0, A1, W4, X4, k2, m2, r1, q0, l1⟩ := hI
  refine of_ov ?_
  have u6 := q0.size
  have nc_Ax42 := l1.nilc
  refine sk fun _ g3 => sk fun _ h3 => rn <| mw b0 r1 <| gv (r_lenS (eh b0 rfl) rfl qu_38) <| gv (r_rem (j := 64) (eh b0 rfl) rfl (by omega)) <| gv (r_neq (j := 56) (eh b0 rfl) rfl) <| nl <| h3 ?_
  by_cases G1 : Nx44 % 64 ≠ 56
  ·
   refine ct (eb b0 rfl (decide_eq_true G1)) <| ws <| g3 <| bl <| rn <| mw b0 r1 <| gk (k_lit (e := 5) (L := bv ([0])) q0.ag (pm_cons (v := u8 0) rfl pm_nil) (by kernel_rfl) (fun c7 E4 V1 X0 l5 => ?_))
   have v6 := X0.size
   have A5 := V1.lt
   have X3 := (l1.f0 X0)
   have S4 : ((zs p i) ++ ([0]) : List UInt8).length = Nx44 + 1 := (len_app (by rw [zs_len, hp]; omega) rfl)
   refine gk (k_append (base := e0.heap.size) (L := bv (zs p i)) (N := bv ([0])) X0.ag (eh b0 rfl) (eh b0 rfl) qs_38 qz_5 X3 (V1.bk.src (L := bv ([0])) (n := 1) (o := 0) (k := 1) (by kernel_rfl)) (fun h => by cases h) (by rw [bv_length, show ([0] : List UInt8).length = 1 from rfl, Nat.mul_one]) (one_bv _) (by omega) (by decide) (by rw [maxLen_eq]; omega) (by omega) (fun o2 r2 d7 m1 x1 => ?_))
   have w6 := x1.size
   rw [← bv_append] at m1
   have M5 := m1.nilc
   refine ms b0 rfl <| nl <| in_blk <| loop_back (s := i) ⟨i + 1, (show ((119 - n % 64) % 64) - (i + 1) < ((119 - n % 64) % 64) - (i) from (by omega)), ?_⟩
   exact ⟨e4, o2, r2, Nx44 + 1, ((ov_size _ _).trans b0), ((ov_defers _ _).trans A1), (by omega), (by omega), (gm b0 rfl rfl k2), (gm b0 rfl rfl m2), (gh b0 rfl), ((q0.t0 X0).tr x1 (fun x hx => .inr (by have h_ : e0.heap.size ≤ x := hx; exact h_))), m1⟩
  ·
   refine cf (eb b0 rfl (decide_eq_false G1)) <| we ?_
   have b4 : (119 - n % 64) % 64 = i := (by omega)
   subst b4
   refine e3 <| sk fun _ i3 => rn <| mw b0 k2 <| gv (r_lenS (eh b0 rfl) rfl qu_38) <| gv (r_cv_n_u (i := n) (eh b0 rfl) qu_3 qu_151 (by omega)) <| gv (r_mulU (j := 8) (eh b0 rfl) rfl (by omega)) <| ms b0 rfl <| nl <| i3 <| sk fun _ j3 => sk fun _ k3 => rn <| gv (r_assign (v := nn 7) rfl) <| nl <| k3 <| bl <| wp_unroll (n := 9) <| un_step (n := 8) <| sk fun _ l3 => sk fun _ m3 => rn <| mv b0 rfl <| gv (r_geq (j := 0) (eh b0 rfl) rfl) <| nl <| m3 <| cd b0 rfl <| ws <| l3 <| sk fun _ n3 => bl <| rn <| mw b0 r1 <| mv b0 rfl <| mv b0 rfl <| gv (r_mul (i := 8) rfl (eh b0 rfl) (by decide)) <| gv (r_cv_n_u (i := 56) (eh b0 rfl) qu_3 qu_152 (by decide)) <| gv (r_shrU (eh b0 rfl) (eh b0 rfl) (by decide)) <| gv (r_cv_u_8 (i := (n * 8) / 2 ^ 56) (eh b0 rfl) qu_151 qu_5) <| gk (k_lit (e := 5) (L := bv ([UInt8.ofNat ((n * 8) / 2 ^ 56)])) q0.ag (pm_cons (eh b0 rfl) pm_nil) (by kernel_rfl) (fun e7 F4 W1 G0 m5 => ?_))
   have y6 := G0.size
   have B5 := W1.lt
   have Y3 := (l1.f0 G0)
   have F3 : ((zs p ((119 - n % 64) % 64)) ++ ([UInt8.ofNat ((n * 8) / 2 ^ 56)]) : List UInt8).length = Nx44 + 1 := (len_app (by rw [zs_len, hp]; omega) rfl)
   refine gk (k_append (base := e0.heap.size) (L := bv (zs p ((119 - n % 64) % 64))) (N := bv ([UInt8.ofNat ((n * 8) / 2 ^ 56)])) G0.ag (eh b0 rfl) (eh b0 rfl) qs_38 qz_5 Y3 (W1.bk.src (L := bv ([UInt8.ofNat ((n * 8) / 2 ^ 56)])) (n := 1) (o := 0) (k := 1) (by kernel_rfl)) (fun h => by cases h) (by rw [bv_length, show ([UInt8.ofNat ((n * 8) / 2 ^ 56)] : List UInt8).length = 1 from rfl, Nat.mul_one]) (one_bv _) (by omega) (by decide) (by rw [maxLen_eq]; omega) (by omega) (fun s4 O4 g7 n1 Y0 => ?_))
   have z6 := Y0.size
   rw [← bv_append] at n1
   have N5 := n1.nilc
   refine ms b0 rfl <| nl <| n3 <| rn <| mv b0 rfl <| gv (r_sub (j := 1) (eh b0 rfl) rfl (by decide) (by decide)) <| ms b0 rfl <| nl <| un_next <| un_step (n := 7) <| sk fun _ p3 => sk fun _ q3 => rn <| mv b0 rfl <| gv (r_geq (j := 0) (eh b0 rfl) rfl) <| nl <| q3 <| cd b0 rfl <| ws <| p3 <| sk fun _ r3 => bl <| rn <| mv b0 rfl <| mv b0 rfl <| mv b0 rfl <| gv (r_mul (i := 8) rfl (eh b0 rfl) (by decide)) <| gv (r_cv_n_u (i := 48) (eh b0 rfl) qu_3 qu_152 (by decide)) <| gv (r_shrU (eh b0 rfl) (eh b0 rfl) (by decide)) <| gv (r_cv_u_8 (i := (n * 8) / 2 ^ 48) (eh b0 rfl) qu_151 qu_5) <| gk (k_lit (e := 5) (L := bv ([UInt8.ofNat ((n * 8) / 2 ^ 48)])) Y0.ag (pm_cons (eh b0 rfl) pm_nil) (by kernel_rfl) (fun i7 G4 X1 H0 n5 => ?_))
   have A6 := H0.size
   have C5 := X1.lt
   have N3 := (n1.f0 H0)
   have x3 : (((zs p ((119 - n % 64) % 64)) ++ ([UInt8.ofNat ((n * 8) / 2 ^ 56)])) ++ ([UInt8.ofNat ((n * 8) / 2 ^ 48)]) : List UInt8).length = Nx44 + 1 + 1 := (len_app F3 rfl)
   refine gk (k_append (base := e0.heap.size) (L := bv ((zs p ((119 - n % 64) % 64)) ++ ([UInt8.ofNat ((n * 8) / 2 ^ 56)]))) (N := bv ([UInt8.ofNat ((n * 8) / 2 ^ 48)])) H0.ag (eh b0 rfl) (eh b0 rfl) qs_38 qz_5 N3 (X1.bk.src (L := bv ([UInt8.ofNat ((n * 8) / 2 ^ 48)])) (n := 1) (o := 0) (k := 1) (by kernel_rfl)) (fun h => by cases h) (by rw [bv_length, show ([UInt8.ofNat ((n * 8) / 2 ^ 48)] : List UInt8).length = 1 from rfl, Nat.mul_one]) (one_bv _) (by omega) (by decide) (by rw [maxLen_eq]; omega) (by omega) (fun l4 H4 D6 d1 M0 => ?_))
   have O5 := M0.size
   rw [← bv_append] at d1
   have D5 := d1.nilc
   refine ms b0 rfl <| nl <| r3 <| rn <| mv b0 rfl <| gv (r_sub (j := 1) (eh b0 rfl) rfl (by decide) (by decide)) <| ms b0 rfl <| nl <| un_next <| un_step (n := 6) <| sk fun _ v2 => sk fun _ x2 => rn <| mv b0 rfl <| gv (r_geq (j := 0) (eh b0 rfl) rfl) <| nl <| x2 <| cd b0 rfl <| ws <| v2 <| sk fun _ y2 => bl <| rn <| mv b0 rfl <| mv b0 rfl <| mv b0 rfl <| gv (r_mul (i := 8) rfl (eh b0 rfl) (by decide)) <| gv (r_cv_n_u (i := 40) (eh b0 rfl) qu_3 qu_152 (by decide)) <| gv (r_shrU (eh b0 rfl) (eh b0 rfl) (by decide)) <| gv (r_cv_u_8 (i := (n * 8) / 2 ^ 40) (eh b0 rfl) qu_151 qu_5) <| gk (k_lit (e := 5) (L := bv ([UInt8.ofNat ((n * 8) / 2 ^ 40)])) M0.ag (pm_cons (eh b0 rfl) pm_nil) (by kernel_rfl) (fun E6 x4 I1 s0 Y4 => ?_))
   have P5 := s0.size
   have p5 := I1.lt
   have O3 := (d1.f0 s0)
   have y3 : ((((zs p ((119 - n % 64) % 64)) ++ ([UInt8.ofNat ((n * 8) / 2 ^ 56)])) ++ ([UInt8.ofNat ((n * 8) / 2 ^ 48)])) ++ ([UInt8.ofNat ((n * 8) / 2 ^ 40)]) : List UInt8).length = Nx44 + 1 + 1 + 1 := (len_app x3 rfl)
   refine gk (k_append (base := e0.heap.size) (L := bv (((zs p ((119 - n % 64) % 64)) ++ ([UInt8.ofNat ((n * 8) / 2 ^ 56)])) ++ ([UInt8.ofNat ((n * 8) / 2 ^ 48)]))) (N := bv ([UInt8.ofNat ((n * 8) / 2 ^ 40)])) s0.ag (eh b0 rfl) (eh b0 rfl) qs_38 qz_5 O3 (I1.bk.src (L := bv ([UInt8.ofNat ((n * 8) / 2 ^ 40)])) (n := 1) (o := 0) (k := 1) (by kernel_rfl)) (fun h => by cases h) (by rw [bv_length, show ([UInt8.ofNat ((n * 8) / 2 ^ 40)] : List UInt8).length = 1 from rfl, Nat.mul_one]) (one_bv _) (by omega) (by decide) (by rw [maxLen_eq]; omega) (by omega) (fun m4 I4 F6 e1 N0 => ?_))
   have Q5 := N0.size
   rw [← bv_append] at e1
   have E5 := e1.nilc
   refine ms b0 rfl <| nl <| y2 <| rn <| mv b0 rfl <| gv (r_sub (j := 1) (eh b0 rfl) rfl (by decide) (by decide)) <| ms b0 rfl <| nl <| un_next <| un_step (n := 5) <| sk fun _ z2 => sk fun _ A2 => rn <| mv b0 rfl <| gv (r_geq (j := 0) (eh b0 rfl) rfl) <| nl <| A2 <| cd b0 rfl <| ws <| z2 <| sk fun _ B2 => bl <| rn <| mv b0 rfl <| mv b0 rfl <| mv b0 rfl <| gv (r_mul (i := 8) rfl (eh b0 rfl) (by decide)) <| gv (r_cv_n_u (i := 32) (eh b0 rfl) qu_3 qu_152 (by decide)) <| gv (r_shrU (eh b0 rfl) (eh b0 rfl) (by decide)) <| gv (r_cv_u_8 (i := (n * 8) / 2 ^ 32) (eh b0 rfl) qu_151 qu_5) <| gk (k_lit (e := 5) (L := bv ([UInt8.ofNat ((n * 8) / 2 ^ 32)])) N0.ag (pm_cons (eh b0 rfl) pm_nil) (by kernel_rfl) (fun G6 y4 J1 u0 a5 => ?_))
   have R5 := u0.size
   have q5 := J1.lt
   have P3 := (e1.f0 u0)
   have z3 : (((((zs p ((119 - n % 64) % 64)) ++ ([UInt8.ofNat ((n * 8) / 2 ^ 56)])) ++ ([UInt8.ofNat ((n * 8) / 2 ^ 48)])) ++ ([UInt8.ofNat ((n * 8) / 2 ^ 40)])) ++ ([UInt8.ofNat ((n * 8) / 2 ^ 32)]) : List UInt8).length = Nx44 + 1 + 1 + 1 + 1 := (len_app y3 rfl)
   refine gk (k_append (base := e0.heap.size) (L := bv ((((zs p ((119 - n % 64) % 64)) ++ ([UInt8.ofNat ((n * 8) / 2 ^ 56)])) ++ ([UInt8.ofNat ((n * 8) / 2 ^ 48)])) ++ ([UInt8.ofNat ((n * 8) / 2 ^ 40)]))) (N := bv ([UInt8.ofNat ((n * 8) / 2 ^ 32)])) u0.ag (eh b0 rfl) (eh b0 rfl) qs_38 qz_5 P3 (J1.bk.src (L := bv ([UInt8.ofNat ((n * 8) / 2 ^ 32)])) (n := 1) (o := 0) (k := 1) (by kernel_rfl)) (fun h => by cases h) (by rw [bv_length, show ([UInt8.ofNat ((n * 8) / 2 ^ 32)] : List UInt8).length = 1 from rfl, Nat.mul_one]) (one_bv _) (by omega) (by decide) (by rw [maxLen_eq]; omega) (by omega) (fun n4 J4 H6 g1 O0 => ?_))
   have T5 := O0.size
   rw [← bv_append] at g1
   have F5 := g1.nilc
   refine ms b0 rfl <| nl <| B2 <| rn <| mv b0 rfl <| gv (r_sub (j := 1) (eh b0 rfl) rfl (by decide) (by decide)) <| ms b0 rfl <| nl <| un_next <| un_step (n := 4) <| sk fun _ C2 => sk fun _ D2 => rn <| mv b0 rfl <| gv (r_geq (j := 0) (eh b0 rfl) rfl) <| nl <| D2 <| cd b0 rfl <| ws <| C2 <| sk fun _ E2 => bl <| rn <| mv b0 rfl <| mv b0 rfl <| mv b0 rfl <| gv (r_mul (i := 8) rfl (eh b0 rfl) (by decide)) <| gv (r_cv_n_u (i := 24) (eh b0 rfl) qu_3 qu_152 (by decide)) <| gv (r_shrU (eh b0 rfl) (eh b0 rfl) (by decide)) <| gv (r_cv_u_8 (i := (n * 8) / 2 ^ 24) (eh b0 rfl) qu_151 qu_5) <| gk (k_lit (e := 5) (L := bv ([UInt8.ofNat ((n * 8) / 2 ^ 24)])) O0.ag (pm_cons (eh b0 rfl) pm_nil) (by kernel_rfl) (fun I6 z4 K1 v0 b5 => ?_))
   have U5 := v0.size
   have r5 := K1.lt
   have Q3 := (g1.f0 v0)
   have A3 : ((((((zs p ((119 - n % 64) % 64)) ++ ([UInt8.ofNat ((n * 8) / 2 ^ 56)])) ++ ([UInt8.ofNat ((n * 8) / 2 ^ 48)])) ++ ([UInt8.ofNat ((n * 8) / 2 ^ 40)])) ++ ([UInt8.ofNat ((n * 8) / 2 ^ 32)])) ++ ([UInt8.ofNat ((n * 8) / 2 ^ 24)]) : List UInt8).length = Nx44 + 1 + 1 + 1 + 1 + 1 := (len_app z3 rfl)
   refine gk (k_append (base := e0.heap.size) (L := bv (((((zs p ((119 - n % 64) % 64)) ++ ([UInt8.ofNat ((n * 8) / 2 ^ 56)])) ++ ([UInt8.ofNat ((n * 8) / 2 ^ 48)])) ++ ([UInt8.ofNat ((n * 8) / 2 ^ 40)])) ++ ([UInt8.ofNat ((n * 8) / 2 ^ 32)]))) (N := bv ([UInt8.ofNat ((n * 8) / 2 ^ 24)])) v0.ag (eh b0 rfl) (eh b0 rfl) qs_38 qz_5 Q3 (K1.bk.src (L := bv ([UInt8.ofNat ((n * 8) / 2 ^ 24)])) (n := 1) (o := 0) (k := 1) (by kernel_rfl)) (fun h => by cases h) (by rw [bv_length, show ([UInt8.ofNat ((n * 8) / 2 ^ 24)] : List UInt8).length = 1 from rfl, Nat.mul_one]) (one_bv _) (by omega) (by decide) (by rw [maxLen_eq]; omega) (by omega) (fun o4 K4 J6 h1 P0 => ?_))
   have V5 := P0.size
   rw [← bv_append] at h1
   have G5 := h1.nilc
   refine ms b0 rfl <| nl <| E2 <| rn <| mv b0 rfl <| gv (r_sub (j := 1) (eh b0 rfl) rfl (by decide) (by decide)) <| ms b0 rfl <| nl <| un_next <| un_step (n := 3) <| sk fun _ F2 => sk fun _ G2 => rn <| mv b0 rfl <| gv (r_geq (j := 0) (eh b0 rfl) rfl) <| nl <| G2 <| cd b0 rfl <| ws <| F2 <| sk fun _ H2 => bl <| rn <| mv b0 rfl <| mv b0 rfl <| mv b0 rfl <| gv (r_mul (i := 8) rfl (eh b0 rfl) (by decide)) <| gv (r_cv_n_u (i := 16) (eh b0 rfl) qu_3 qu_152 (by decide)) <| gv (r_shrU (eh b0 rfl) (eh b0 rfl) (by decide)) <| gv (r_cv_u_8 (i := (n * 8) / 2 ^ 16) (eh b0 rfl) qu_151 qu_5) <| gk (k_lit (e := 5) (L := bv ([UInt8.ofNat ((n * 8) / 2 ^ 16)])) P0.ag (pm_cons (eh b0 rfl) pm_nil) (by kernel_rfl) (fun K6 A4 L1 w0 c5 => ?_))
   have W5 := w0.size
   have s5 := L1.lt
   have R3 := (h1.f0 w0)
   have B3 : (((((((zs p ((119 - n % 64) % 64)) ++ ([UInt8.ofNat ((n * 8) / 2 ^ 56)])) ++ ([UInt8.ofNat ((n * 8) / 2 ^ 48)])) ++ ([UInt8.ofNat ((n * 8) / 2 ^ 40)])) ++ ([UInt8.ofNat ((n * 8) / 2 ^ 32)])) ++ ([UInt8.ofNat ((n * 8) / 2 ^ 24)])) ++ ([UInt8.ofNat ((n * 8) / 2 ^ 16)]) : List UInt8).length = Nx44 + 1 + 1 + 1 + 1 + 1 + 1 := (len_app A3 rfl)
   refine gk (k_append (base := e0.heap.size) (L := bv ((((((zs p ((119 - n % 64) % 64)) ++ ([UInt8.ofNat ((n * 8) / 2 ^ 56)])) ++ ([UInt8.ofNat ((n * 8) / 2 ^ 48)])) ++ ([UInt8.ofNat ((n * 8) / 2 ^ 40)])) ++ ([UInt8.ofNat ((n * 8) / 2 ^ 32)])) ++ ([UInt8.ofNat ((n * 8) / 2 ^ 24)]))) (N := bv ([UInt8.ofNat ((n * 8) / 2 ^ 16)])) w0.ag (eh b0 rfl) (eh b0 rfl) qs_38 qz_5 R3 (L1.bk.src (L := bv ([UInt8.ofNat ((n * 8) / 2 ^ 16)])) (n := 1) (o := 0) (k := 1) (by kernel_rfl)) (fun h => by cases h) (by rw [bv_length, show ([UInt8.ofNat ((n * 8) / 2 ^ 16)] : List UInt8).length = 1 from rfl, Nat.mul_one]) (one_bv _) (by omega) (by decide) (by rw [maxLen_eq]; omega) (by omega) (fun q4 M4 L6 i1 Q0 => ?_))
   have X5 := Q0.size
   rw [← bv_append] at i1
   have I5 := i1.nilc
   refine ms b0 rfl <| nl <| H2 <| rn <| mv b0 rfl <| gv (r_sub (j := 1) (eh b0 rfl) rfl (by decide) (by decide)) <| ms b0 rfl <| nl <| un_next <| un_step (n := 2) <| sk fun _ I2 => sk fun _ J2 => rn <| mv b0 rfl <| gv (r_geq (j := 0) (eh b0 rfl) rfl) <| nl <| J2 <| cd b0 rfl <| ws <| I2 <| sk fun _ K2 => bl <| rn <| mv b0 rfl <| mv b0 rfl <| mv b0 rfl <| gv (r_mul (i := 8) rfl (eh b0 rfl) (by decide)) <| gv (r_cv_n_u (i := 8) (eh b0 rfl) qu_3 qu_152 (by decide)) <| gv (r_shrU (eh b0 rfl) (eh b0 rfl) (by decide)) <| gv (r_cv_u_8 (i := (n * 8) / 2 ^ 8) (eh b0 rfl) qu_151 qu_5) <| gk (k_lit (e := 5) (L := bv ([UInt8.ofNat ((n * 8) / 2 ^ 8)])) Q0.ag (pm_cons (eh b0 rfl) pm_nil) (by kernel_rfl) (fun M6 B4 M1 x0 d5 => ?_))
   have Y5 := x0.size
   have t5 := M1.lt
   have S3 := (i1.f0 x0)
   have C3 : ((((((((zs p ((119 - n % 64) % 64)) ++ ([UInt8.ofNat ((n * 8) / 2 ^ 56)])) ++ ([UInt8.ofNat ((n * 8) / 2 ^ 48)])) ++ ([UInt8.ofNat ((n * 8) / 2 ^ 40)])) ++ ([UInt8.ofNat ((n * 8) / 2 ^ 32)])) ++ ([UInt8.ofNat ((n * 8) / 2 ^ 24)])) ++ ([UInt8.ofNat ((n * 8) / 2 ^ 16)])) ++ ([UInt8.ofNat ((n * 8) / 2 ^ 8)]) : List UInt8).length = Nx44 + 1 + 1 + 1 + 1 + 1 + 1 + 1 := (len_app B3 rfl)
   refine gk (k_append (base := e0.heap.size) (L := bv (((((((zs p ((119 - n % 64) % 64)) ++ ([UInt8.ofNat ((n * 8) / 2 ^ 56)])) ++ ([UInt8.ofNat ((n * 8) / 2 ^ 48)])) ++ ([UInt8.ofNat ((n * 8) / 2 ^ 40)])) ++ ([UInt8.ofNat ((n * 8) / 2 ^ 32)])) ++ ([UInt8.ofNat ((n * 8) / 2 ^ 24)])) ++ ([UInt8.ofNat ((n * 8) / 2 ^ 16)]))) (N := bv ([UInt8.ofNat ((n * 8) / 2 ^ 8)])) x0.ag (eh b0 rfl) (eh b0 rfl) qs_38 qz_5 S3 (M1.bk.src (L := bv ([UInt8.ofNat ((n * 8) / 2 ^ 8)])) (n := 1) (o := 0) (k := 1) (by kernel_rfl)) (fun h => by cases h) (by rw [bv_length, show ([UInt8.ofNat ((n * 8) / 2 ^ 8)] : List UInt8).length = 1 from rfl, Nat.mul_one]) (one_bv _) (by omega) (by decide) (by rw [maxLen_eq]; omega) (by omega) (fun r4 N4 O6 j1 R0 => ?_))
   have Z5 := R0.size
   rw [← bv_append] at j1
   have J5 := j1.nilc
   refine ms b0 rfl <| nl <| K2 <| rn <| mv b0 rfl <| gv (r_sub (j := 1) (eh b0 rfl) rfl (by decide) (by decide)) <| ms b0 rfl <| nl <| un_next <| un_step (n := 1) <| sk fun _ L2 => sk fun _ M2 => rn <| mv b0 rfl <| gv (r_geq (j := 0) (eh b0 rfl) rfl) <| nl <| M2 <| cd b0 rfl <| ws <| L2 <| sk fun _ N2 => bl <| rn <| mv b0 rfl <| mv b0 rfl <| mv b0 rfl <| gv (r_mul (i := 8) rfl (eh b0 rfl) (by decide)) <| gv (r_cv_n_u (i := 0) (eh b0 rfl) qu_3 qu_152 (by decide)) <| gv (r_shrU (eh b0 rfl) (eh b0 rfl) (by decide)) <| gv (r_cv_u_8 (i := (n * 8) / 2 ^ 0) (eh b0 rfl) qu_151 qu_5) <| gk (k_lit (e := 5) (L := bv ([UInt8.ofNat ((n * 8) / 2 ^ 0)])) R0.ag (pm_cons (eh b0 rfl) pm_nil) (by kernel_rfl) (fun P6 C4 N1 y0 e5 => ?_))
   have a6 := y0.size
   have u5 := N1.lt
   have T3 := (j1.f0 y0)
   have D3 : (((((((((zs p ((119 - n % 64) % 64)) ++ ([UInt8.ofNat ((n * 8) / 2 ^ 56)])) ++ ([UInt8.ofNat ((n * 8) / 2 ^ 48)])) ++ ([UInt8.ofNat ((n * 8) / 2 ^ 40)])) ++ ([UInt8.ofNat ((n * 8) / 2 ^ 32)])) ++ ([UInt8.ofNat ((n * 8) / 2 ^ 24)])) ++ ([UInt8.ofNat ((n * 8) / 2 ^ 16)])) ++ ([UInt8.ofNat ((n * 8) / 2 ^ 8)])) ++ ([UInt8.ofNat ((n * 8) / 2 ^ 0)]) : List UInt8).length = Nx44 + 1 + 1 + 1 + 1 + 1 + 1 + 1 + 1 := (len_app C3 rfl)
   refine gk (k_append (base := e0.heap.size) (L := bv ((((((((zs p ((119 - n % 64) % 64)) ++ ([UInt8.ofNat ((n * 8) / 2 ^ 56)])) ++ ([UInt8.ofNat ((n * 8) / 2 ^ 48)])) ++ ([UInt8.ofNat ((n * 8) / 2 ^ 40)])) ++ ([UInt8.ofNat ((n * 8) / 2 ^ 32)])) ++ ([UInt8.ofNat ((n * 8) / 2 ^ 24)])) ++ ([UInt8.ofNat ((n * 8) / 2 ^ 16)])) ++ ([UInt8.ofNat ((n * 8) / 2 ^ 8)]))) (N := bv ([UInt8.ofNat ((n * 8) / 2 ^ 0)])) y0.ag (eh b0 rfl) (eh b0 rfl) qs_38 qz_5 T3 (N1.bk.src (L := bv ([UInt8.ofNat ((n * 8) / 2 ^ 0)])) (n := 1) (o := 0) (k := 1) (by kernel_rfl)) (fun h => by cases h) (by rw [bv_length, show ([UInt8.ofNat ((n * 8) / 2 ^ 0)] : List UInt8).length = 1 from rfl, Nat.mul_one]) (one_bv _) (by omega) (by decide) (by rw [maxLen_eq]; omega) (by omega) (fun s1 L0 Q6 Z0 T0 => ?_))
   have b6 := T0.size
   rw [← bv_append] at Z0
   have K5 := Z0.nilc
   refine ms b0 rfl <| nl <| N2 <| rn <| mv b0 rfl <| gv (r_sub01 (eh b0 rfl) rfl) <| ms b0 rfl <| nl <| un_next <| un_step (n := 0) <| sk fun _ P4 => sk fun _ O2 => rn <| mv b0 rfl <| gv (r_geqz0 (eh b0 rfl) rfl) <| nl <| O2 <| cf (eh b0 rfl) <| we ?_
   obtain ⟨c2, s2, U3⟩ := Z0.fz T0.ag
   have U0 : Fr (ge e0.heap.size) _ _ _ _ := s2.wk (fun x hx _ => Z0.at x hx)
   have d6 := U0.size
   refine j3 <| sk fun _ P2 => rn <| gv (r_build (cs := us ([1779033703, 3144134277, 1013904242, 2773480762, 1359893119, 2600822924, 528734635, 1541459225])) (pm_cons (v := u32 1779033703) rfl (pm_cons (v := u32 3144134277) rfl (pm_cons (v := u32 1013904242) rfl (pm_cons (v := u32 2773480762) rfl (pm_cons (v := u32 1359893119) rfl (pm_cons (v := u32 2600822924) rfl (pm_cons (v := u32 528734635) rfl (pm_cons (v := u32 1541459225) rfl pm_nil)))))))) (by kernel_rfl)) <| gk (k_alloc U0.ag qz_144 (fun R6 l0 O1 z0 g5 => ?_))
   have e6 := z0.size
   have v5 := O1.lt
   refine gz (k_store (L' := us ([1779033703, 3144134277, 1013904242, 2773480762, 1359893119, 2600822924, 528734635, 1541459225])) (cs := us ([1779033703, 3144134277, 1013904242, 2773480762, 1359893119, 2600822924, 528734635, 1541459225])) z0.ag (eh b0 rfl) (eh b0 rfl) O1 (by kernel_rfl) (sz_eq sz_144 (by kernel_rfl)) (one_us _) (le_all (Eq.trans (us_length _) List.length_replicate) (by kernel_rfl)) (wr_all (Eq.trans (Eq.trans (us_length _) List.length_replicate) (Eq.symm (by kernel_rfl)))) (fun T6 G3 A0 => ?_))
   have g6 := A0.size
   refine nl <| P2 <| sk fun _ Q2 => rn <| gk (k_cl (f90 A0.ag) rfl fn_90 map_nil (fun B6 U6 L3 => ?_))
   obtain ⟨rfl, B0⟩ := L3
   have h6 := B0.size
   refine gk (k_alloc B0.ag qz_146 (fun V6 p2 P1 C0 h5 => ?_))
   have i6 := C0.size
   have x5 := P1.lt
   refine gz (k_store (L' := us kT) (cs := us kT) C0.ag (eh b0 rfl) (eh b0 rfl) P1 (by kernel_rfl) (sz_eq sz_146 (Eq.trans (us_length _) kT_len)) (one_us _) (le_all (Eq.trans (us_length _) List.length_replicate) (Eq.trans (us_length _) kT_len)) (wr_all (Eq.trans (Eq.trans (us_length _) List.length_replicate) (Eq.symm (Eq.trans (us_length _) kT_len)))) (fun i4 H3 p0 => ?_))
   have j6 := p0.size
   refine nl <| Q2 <| sk fun _ R2 => sk fun _ S2 => rn <| gv (r_assign (v := nn 0) rfl) <| nl <| S2 <| bl ?_
   have u1 := B0.t0 C0
   have s3 := ((G3.f0 u1).f1 p0 (by omega))
   refine wp_loop_s (σ := Nat) (I := fun (i : Nat) (a' : Act) (w' : World) => ∃ (m' : Ctx), a'.tmps.size = 73 ∧ a'.defers = [] ∧ i ≤ ((n + 1 + (119 - n % 64) % 64 + 8) / 64) ∧ a'.tmps.getD 2 undef = .pointer (some ⟨g0, 0, none⟩) ∧ a'.tmps.getD 3 undef = .slice s1 (Nx44 + 1 + 1 + 1 + 1 + 1 + 1 + 1 + 1) L0 ∧ a'.tmps.getD 6 undef = .pointer (some ⟨l0, 0, none⟩) ∧ a'.tmps.getD 7 undef = .pointer (some ⟨p2, 0, none⟩) ∧ a'.tmps.getD 8 undef = nn (64 * i) ∧ Fr (on l0) c2 i4 m' w' ∧ Mu m' w' l0 144 (us (stt (padz p n ((119 - n % 64) % 64)) i))) (μ := fun i => ((n + 1 + (119 - n % 64) % 64 + 8) / 64) - i) (s₀ := 0) ?_ ?_
   · exact ⟨c2, ((ov_size _ _).trans b0), ((ov_defers _ _).trans A1), (by omega), (gm b0 rfl rfl m2), (gh b0 rfl), (gh b0 rfl), (gh b0 rfl), (gh b0 rfl), (Fr.refl p0.ag), s3⟩
   ·
    intro i t4 J0 hI
    obtain ⟨h0, c0, y1, U4, h2, o1, a1, i2, b1, j0, R1⟩ := hI
    refine of_ov ?_
    have k6 := j0.size
    refine sk fun _ T2 => sk fun _ U2 => rn <| mw c0 b1 <| mw c0 o1 <| gv (r_lenS (eh c0 rfl) rfl qu_38) <| gv (r_lss (eh c0 rfl) (eh c0 rfl)) <| nl <| U2 ?_
    by_cases E1 : 64 * i < Nx44 + 1 + 1 + 1 + 1 + 1 + 1 + 1 + 1
    ·
     refine ct (eb c0 rfl (decide_eq_true E1)) <| ws <| T2 <| sk fun _ V2 => bl ?_
     have k0 : Fr no h0 J0 h0 { J0 with drawn := J0.drawn + 1 } := Fr.drw j0.ag
     obtain ⟨r0, b2⟩ : ∃ w_, w_ = ({ J0 with drawn := J0.drawn + 1 } : World) := ⟨_, rfl⟩
     rw [← b2] at k0
     have m6 := k0.size
     refine wp_region_T mixed (fun wz => ∃ mz, Fr (no) h0 r0 mz wz) (fun wz => ∃ mz, Fr (on l0) h0 r0 mz wz) 7 ?_
     rw [← b2]
     show wpAnyT _ _ _ _ _ 8 _ _ _
     have n0 : Fr (no) h0 r0 h0 r0 := Fr.refl k0.ag
     have T4 : ∀ wz, (∃ mz, Fr (no) h0 r0 mz wz) → ∃ mz, Fr (on l0) h0 r0 mz wz := fun wz ⟨mz, hz⟩ => ⟨mz, hz.wk (fun x hx _ => hx.elim)⟩
     have B1 := (R1.f0 k0)
     refine tk2 (i := 0) rfl rfl (fun wz ⟨mz, hz⟩ => r_loadN (cs := us (stt (padz p n ((119 - n % 64) % 64)) i)) (em c0 rfl rfl a1) (hz.ex B1.bk (fun h => h)) (rd_all (Eq.trans (us_length _) (stt_len _ _))) (Eq.trans (us_length _) (stt_len _ _)) qr_144 sz_144) ⟨_, n0⟩ <| tk2 (i := 1) rfl rfl (fun _ _ => r_move (em c0 rfl rfl o1)) ⟨_, n0⟩ <| tk2 (i := 2) rfl rfl (fun _ _ => r_move (em c0 rfl rfl b1)) ⟨_, n0⟩ <| tk2 (i := 3) rfl rfl (fun _ _ => r_move (em c0 rfl rfl b1)) ⟨_, n0⟩ <| tk2 (i := 4) rfl rfl (fun _ _ => r_add (j := 64) (eh c0 rfl) rfl (by omega)) ⟨_, n0⟩ ?_
     have c4 := Fr.ll (Fr.ll (Fr.ll (Fr.ll (Fr.ll (Fr.l2 z0 A0) B0) C0) p0) j0) k0
     have a2 := U3.le c4
     have W3 : Sl h0 (sA s1 L0 (64 * i) 1) (((64 * i) + 64) - (64 * i)) (L0 - (64 * i)) 1 (bv (((((((((((zs p ((119 - n % 64) % 64)) ++ ([UInt8.ofNat ((n * 8) / 2 ^ 56)])) ++ ([UInt8.ofNat ((n * 8) / 2 ^ 48)])) ++ ([UInt8.ofNat ((n * 8) / 2 ^ 40)])) ++ ([UInt8.ofNat ((n * 8) / 2 ^ 32)])) ++ ([UInt8.ofNat ((n * 8) / 2 ^ 24)])) ++ ([UInt8.ofNat ((n * 8) / 2 ^ 16)])) ++ ([UInt8.ofNat ((n * 8) / 2 ^ 8)])) ++ ([UInt8.ofNat ((n * 8) / 2 ^ 0)])).take ((64 * i) + 64)).drop (64 * i))) := by have h_ := a2.lh (lo := 64 * i) (hi := (64 * i) + 64) (by omega) (by omega); rw [bv_take, bv_drop] at h_; exact h_
     have E3 : (((((((((((zs p ((119 - n % 64) % 64)) ++ ([UInt8.ofNat ((n * 8) / 2 ^ 56)])) ++ ([UInt8.ofNat ((n * 8) / 2 ^ 48)])) ++ ([UInt8.ofNat ((n * 8) / 2 ^ 40)])) ++ ([UInt8.ofNat ((n * 8) / 2 ^ 32)])) ++ ([UInt8.ofNat ((n * 8) / 2 ^ 24)])) ++ ([UInt8.ofNat ((n * 8) / 2 ^ 16)])) ++ ([UInt8.ofNat ((n * 8) / 2 ^ 8)])) ++ ([UInt8.ofNat ((n * 8) / 2 ^ 0)])).take ((64 * i) + 64)).drop (64 * i) : List UInt8).length = ((64 * i) + 64) - (64 * i) := (by rw [List.length_drop, List.length_take, show (((((((((zs p ((119 - n % 64) % 64)) ++ ([UInt8.ofNat ((n * 8) / 2 ^ 56)])) ++ ([UInt8.ofNat ((n * 8) / 2 ^ 48)])) ++ ([UInt8.ofNat ((n * 8) / 2 ^ 40)])) ++ ([UInt8.ofNat ((n * 8) / 2 ^ 32)])) ++ ([UInt8.ofNat ((n * 8) / 2 ^ 24)])) ++ ([UInt8.ofNat ((n * 8) / 2 ^ 16)])) ++ ([UInt8.ofNat ((n * 8) / 2 ^ 8)])) ++ ([UInt8.ofNat ((n * 8) / 2 ^ 0)])).length = Nx44 + 1 + 1 + 1 + 1 + 1 + 1 + 1 + 1 from D3]; omega)
     refine tk2 (i := 5) rfl rfl (fun _ _ => r_sliceLH (n := Nx44 + 1 + 1 + 1 + 1 + 1 + 1 + 1 + 1) (c := L0) (lo := 64 * i) (hi := (64 * i) + 64) (eh c0 rfl) (eh c0 rfl) (eh c0 rfl) qs_38 (by omega) (by have h_ := a2.cap; omega)) ⟨_, n0⟩ ?_
     have t3 := ((H3.f1 j0 (by omega)).f0 k0)
     refine ann (i := 6) (b := false) rfl rfl (k_cl (f91 k0.ag (stt_len _ _) t3 W3 E3 (by omega)) rfl fn_91 (map_cons (eh c0 rfl) (map_cons (eh c0 rfl) (map_cons (em c0 rfl rfl i2) map_nil))) (fun C6 W6 M3 => ?_))
     obtain ⟨d4, rfl, E0⟩ := M3
     have n6 := E0.size
     have e2 := n0.t0 E0
     refine ⟨(tbF ⟨_, e2⟩), ?_⟩
     have g4 : Fr (on l0) _ _ _ _ := e2.wk (fun x hx _ => hx.elim)
     have u3 := (B1.f0 E0)
     refine an00 (i := 7) (b := true) rfl rfl (k_store (L' := us (compress (stt (padz p n ((119 - n % 64) % 64)) i) (((((((((((zs p ((119 - n % 64) % 64)) ++ ([UInt8.ofNat ((n * 8) / 2 ^ 56)])) ++ ([UInt8.ofNat ((n * 8) / 2 ^ 48)])) ++ ([UInt8.ofNat ((n * 8) / 2 ^ 40)])) ++ ([UInt8.ofNat ((n * 8) / 2 ^ 32)])) ++ ([UInt8.ofNat ((n * 8) / 2 ^ 24)])) ++ ([UInt8.ofNat ((n * 8) / 2 ^ 16)])) ++ ([UInt8.ofNat ((n * 8) / 2 ^ 8)])) ++ ([UInt8.ofNat ((n * 8) / 2 ^ 0)])).take ((64 * i) + 64)).drop (64 * i)))) (cs := us (compress (stt (padz p n ((119 - n % 64) % 64)) i) (((((((((((zs p ((119 - n % 64) % 64)) ++ ([UInt8.ofNat ((n * 8) / 2 ^ 56)])) ++ ([UInt8.ofNat ((n * 8) / 2 ^ 48)])) ++ ([UInt8.ofNat ((n * 8) / 2 ^ 40)])) ++ ([UInt8.ofNat ((n * 8) / 2 ^ 32)])) ++ ([UInt8.ofNat ((n * 8) / 2 ^ 24)])) ++ ([UInt8.ofNat ((n * 8) / 2 ^ 16)])) ++ ([UInt8.ofNat ((n * 8) / 2 ^ 8)])) ++ ([UInt8.ofNat ((n * 8) / 2 ^ 0)])).take ((64 * i) + 64)).drop (64 * i)))) E0.ag (em c0 rfl rfl a1) (eh c0 rfl) u3 (by kernel_rfl) (sz_eq sz_144 (Eq.trans (us_length _) (compress_len (stt_len _ _) _))) (one_us _) (le_all (Eq.trans (us_length _) (stt_len _ _)) (Eq.trans (us_length _) (compress_len (stt_len _ _) _))) (wr_all (Eq.trans (Eq.trans (us_length _) (stt_len _ _)) (Eq.symm (Eq.trans (us_length _) (compress_len (stt_len _ _) _))))) (fun X6 I3 c1 => ?_))
     have o6 := c1.size
     have h4 := g4.tr c1 (fun x hx => .inr (by cases hx; exact rfl))
     refine ⟨(tbT ⟨_, h4⟩), ?_⟩
     refine anyT_done (by kernel_rfl) ?_ _
     refine V2 <| rn <| mw c0 b1 <| gv (r_add (j := 64) (eh c0 rfl) rfl (by omega)) <| ms c0 rfl <| nl <| loop_back (s := i) ⟨i + 1, (show ((n + 1 + (119 - n % 64) % 64 + 8) / 64) - (i + 1) < ((n + 1 + (119 - n % 64) % 64 + 8) / 64) - (i) from (by omega)), ?_⟩
     exact ⟨d4, ((ov_size _ _).trans c0), ((ov_defers _ _).trans y1), (by omega), (gm c0 rfl rfl h2), (gm c0 rfl rfl o1), (gm c0 rfl rfl a1), (gm c0 rfl rfl i2), (gh c0 rfl), (((j0.t0 k0).t0 E0).tr c1 (fun x hx => .inr (by cases hx; exact rfl))), (by have h_ := I3; rw [cmp_td] at h_; exact h_)⟩
    ·
     refine cf (eb c0 rfl (decide_eq_false E1)) <| we ?_
     have Z3 : ((n + 1 + (119 - n % 64) % 64 + 8) / 64) = i := (by omega)
     subst Z3
     refine R2 <| sk fun _ W2 => rn <| gk (k_alloc j0.ag qz_23 (fun j4 K0 S1 F0 j5 => ?_))
     have p6 := F0.size
     have z5 := S1.lt
     refine nl <| W2 <| sk fun _ X2 => sk fun _ Y2 => rn <| gv (r_assign (v := nn 0) rfl) <| nl <| Y2 <| bl ?_
     have C1 := S1
     rw [hc_eq List.length_replicate] at C1
     refine wp_loop_s (σ := Nat) (I := fun (i : Nat) (a' : Act) (w' : World) => ∃ (m' : Ctx), a'.tmps.size = 73 ∧ a'.defers = [] ∧ i ≤ 32 ∧ a'.tmps.getD 2 undef = .pointer (some ⟨g0, 0, none⟩) ∧ a'.tmps.getD 6 undef = .pointer (some ⟨l0, 0, none⟩) ∧ a'.tmps.getD 9 undef = .pointer (some ⟨K0, 0, none⟩) ∧ a'.tmps.getD 10 undef = nn i ∧ Fr (on K0) h0 j4 m' w' ∧ Mu m' w' K0 23 (bv (outB (stt (padz p n ((119 - n % 64) % 64)) ((n + 1 + (119 - n % 64) % 64 + 8) / 64)) i))) (μ := fun i => 32 - i) (s₀ := 0) ?_ ?_
     · exact ⟨h0, ((ov_size _ _).trans c0), ((ov_defers _ _).trans y1), (by omega), (gm c0 rfl rfl h2), (gm c0 rfl rfl a1), (gh c0 rfl), (gh c0 rfl), (Fr.refl F0.ag), C1⟩
     ·
      intro i u4 Y6 hI
      obtain ⟨d2, d0, z1, V4, p1, j2, q1, I0, m0, T1⟩ := hI
      refine of_ov ?_
      have q6 := m0.size
      refine sk fun _ Z2 => sk fun _ a3 => rn <| mw d0 I0 <| gv (r_lss (j := 32) (eh d0 rfl) rfl) <| nl <| a3 ?_
      by_cases F1 : i < 32
      ·
       refine ct (eb d0 rfl (decide_eq_true F1)) <| ws <| Z2 <| sk fun _ c3 => bl <| rn <| mw d0 I0 <| mw d0 I0 <| gv (r_quo (j := 4) (eh d0 rfl) rfl (by omega) (by omega)) <| gv (r_idxA (o' := i / 4) (em d0 rfl rfl j2) (eh d0 rfl) qa_144 (by omega) (by omega)) ?_
       have v3 := ((R1.f0 F0).f1 m0 (by omega))
       refine gv (r_load1 (v := u32 ((stt (padz p n ((119 - n % 64) % 64)) (((n + 1 + (119 - n % 64) % 64 + 8) / 64))).getD (i / 4) 0)) (eh d0 rfl) v3.bk (us_get (n := 8) (stt_len _ _) (by omega)) qr_143) <| mw d0 I0 <| gv (r_rem (j := 4) (eh d0 rfl) rfl (by omega)) <| gv (r_mul (i := 8) rfl (eh d0 rfl) (by omega)) <| gv (r_sub (i := 24) rfl (eh d0 rfl) (by omega) (by omega)) <| gv (r_cv_n_u (i := 24 - (8 * (i % 4))) (eh d0 rfl) qu_3 qu_152 (by omega)) <| gv (r_shr32 (eh d0 rfl) (eh d0 rfl) (by omega)) <| gv (r_cv_32_8 (p := ((stt (padz p n ((119 - n % 64) % 64)) (((n + 1 + (119 - n % 64) % 64 + 8) / 64))).getD (i / 4) 0) >>> UInt32.ofNat (24 - (8 * (i % 4)))) (eh d0 rfl) qu_143 qu_5) <| gv (r_idxA (o' := i) (em d0 rfl rfl q1) (eh d0 rfl) qa_23 (by omega) (by omega)) ?_
       have R4 : ((outB (stt (padz p n ((119 - n % 64) % 64)) ((n + 1 + (119 - n % 64) % 64 + 8) / 64)) i).set i ((((stt (padz p n ((119 - n % 64) % 64)) (((n + 1 + (119 - n % 64) % 64 + 8) / 64))).getD (i / 4) 0) >>> UInt32.ofNat (24 - (8 * (i % 4)))).toUInt8) : List UInt8).length = 32 := (len_set (outB_len _ _))
       refine gz (k_store1 (b := K0) (off := i) (v := u8 ((((stt (padz p n ((119 - n % 64) % 64)) (((n + 1 + (119 - n % 64) % 64 + 8) / 64))).getD (i / 4) 0) >>> UInt32.ofNat (24 - (8 * (i % 4)))).toUInt8)) (L' := bv ((outB (stt (padz p n ((119 - n % 64) % 64)) ((n + 1 + (119 - n % 64) % 64 + 8) / 64)) i).set i ((((stt (padz p n ((119 - n % 64) % 64)) (((n + 1 + (119 - n % 64) % 64 + 8) / 64))).getD (i / 4) 0) >>> UInt32.ofNat (24 - (8 * (i % 4)))).toUInt8))) m0.ag (eh d0 rfl) (eh d0 rfl) T1 sz_5 rfl (lt_bv (n := 32) (outB_len _ _) (by omega)) bv_set (fun Z6 J3 v1 => ?_))
       have r6 := v1.size
       refine nl <| c3 <| rn <| mw d0 I0 <| gv (r_add (j := 1) (eh d0 rfl) rfl (by omega)) <| ms d0 rfl <| nl <| loop_back (s := i) ⟨i + 1, (show 32 - (i + 1) < 32 - (i) from (by omega)), ?_⟩
       exact ⟨d2, ((ov_size _ _).trans d0), ((ov_defers _ _).trans z1), (by omega), (gm d0 rfl rfl p1), (gm d0 rfl rfl j2), (gm d0 rfl rfl q1), (gh d0 rfl), (m0.tr v1 (fun x hx => .inr (by cases hx; exact rfl))), J3⟩
      ·
       refine cf (eb d0 rfl (decide_eq_false F1)) <| we ?_
       have a4 : 32 = i := (by omega)
       subst a4
       have D1 := T1
       rw [← hc_eq (outB_len _ _)] at D1
       refine X2 <| sk fun _ d3 => rn <| gv (lb (cs := hc (outB (stt (padz p n ((119 - n % 64) % 64)) ((n + 1 + (119 - n % 64) % 64 + 8) / 64)) 32)) (em d0 rfl rfl q1) D1.bk qr_23 sz_23) ?_
       have w3 := (((((((((((((((((((((((((((((U1.f0 o0).fs S0 (show ¬ e0.heap.size ≤ g0 from by omega)).f0 D0).fs V0 (show ¬ e0.heap.size ≤ g0 from by omega)).fs q0 (show ¬ e0.heap.size ≤ g0 from by omega)).f0 G0).fs Y0 (show ¬ e0.heap.size ≤ g0 from by omega)).f0 H0).fs M0 (show ¬ e0.heap.size ≤ g0 from by omega)).f0 s0).fs N0 (show ¬ e0.heap.size ≤ g0 from by omega)).f0 u0).fs O0 (show ¬ e0.heap.size ≤ g0 from by omega)).f0 v0).fs P0 (show ¬ e0.heap.size ≤ g0 from by omega)).f0 w0).fs Q0 (show ¬ e0.heap.size ≤ g0 from by omega)).f0 x0).fs R0 (show ¬ e0.heap.size ≤ g0 from by omega)).f0 y0).fs T0 (show ¬ e0.heap.size ≤ g0 from by omega)).fs U0 (show ¬ e0.heap.size ≤ g0 from by omega)).f0 z0).f1 A0 (by omega)).f0 u1).f1 p0 (by omega)).f1 j0 (by omega)).f0 F0).f1 m0 (by omega))
       refine gz (kt (L' := hc (outB (stt (padz p n ((119 - n % 64) % 64)) ((n + 1 + (119 - n % 64) % 64 + 8) / 64)) 32)) m0.ag (em d0 rfl rfl p1) (eh d0 rfl) w3 sz_23 (fun a7 K3 w1 => ?_))
       have t6 := w1.size
       refine nl <| d3 <| wp_ret <| ret_of (res1c (b := g0) (n := 32) (cs := hc (outB (stt (padz p n ((119 - n % 64) % 64)) ((n + 1 + (119 - n % 64) % 64 + 8) / 64)) 32)) rfl _ _ (gm d0 rfl rfl p1) K3.bk (by kernel_rfl) (by kernel_rfl) qr_23 sz_23) ((ov_defers _ _).trans z1) ?_
       exact ⟨d2, congrArg H (by subst hp; rw [sha_eq]; rfl), ((((((((((((((((((((((((((((((((cu0.t0 W0).t0 o0).tg S0 (by omega)).t0 D0).tg V0 (by omega)).tg q0 (by omega)).t0 G0).tg Y0 (by omega)).t0 H0).tg M0 (by omega)).t0 s0).tg N0 (by omega)).t0 u0).tg O0 (by omega)).t0 v0).tg P0 (by omega)).t0 w0).tg Q0 (by omega)).t0 x0).tg R0 (by omega)).t0 y0).tg T0 (by omega)).tg U0 (by omega)).t0 z0).tn A0 (by omega)).t0 B0).t0 C0).tn p0 (by omega)).tn j0 (by omega)).t0 F0).tn m0 (by omega)).tn w1 (by omega))⟩

end Go.Proofs.YtiggfalelcepbaaGreatDoor

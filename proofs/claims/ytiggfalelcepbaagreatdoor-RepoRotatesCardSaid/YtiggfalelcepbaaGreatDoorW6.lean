/- The walks of chapter 3: Digits, Sign, Recover. -/
import Derived.Test.YtiggfalelcepbaaGreatDoorK7
import Derived.Test.YtiggfalelcepbaaGreatDoorSX
import Derived.Test.YtiggfalelcepbaaGreatDoorW5
import Derived.Test.YtiggfalelcepbaaGreatDoorTX
namespace Go.Proofs.YtiggfalelcepbaaGreatDoor
open Go
set_option maxRecDepth 100000
set_option maxHeartbeats 4000000
theorem f119 {m : Ctx} {w : World} (ag : Ag m w) {A : Option Addr} {n c : Nat} {p : Bytes} (hsl : Sl m A n c 1 (bv p)) (hp : p.length = n) (hn : n < 4294967296) : Calls Tryz.prog 119 #[.slice A n c] w (Ret fun v w' => ∃ m', v = .agg (ns (digits (sha p))).toArray ∧ Fr no m w m' w') := by
 refine enter Tryz.func119 rfl (fun w0 hT P0 => ?_)
 have c0 : w0.tmps.size = 44 := by rw [hT]; kernel_rfl
 have J1 : w0.tmps.getD 0 undef = .slice A n c := by rw [hT]; kernel_rfl
 clear hT
 have cu0 : Fr (no) m w m w := Fr.refl ag
 refine sk fun _ Q0 => rn <| gk (k_alloc ag qz_196 (fun p2 x0 I0 n0 U1 => ?_))
 have h2 := n0.size
 have X1 := I0.lt
 refine nl <| Q0 <| sk fun _ l1 => rn <| gk (k_alloc n0.ag qz_196 (fun u2 d0 G0 i0 S1 => ?_))
 have a2 := i0.size
 have V1 := G0.lt
 refine nl <| l1 <| sk fun _ U0 => rn <| mw c0 J1 ?_
 have H1 := ((hsl.up n0).up i0)
 refine gk (k_cl (f26 i0.ag H1 hp (by omega)) rfl fn_26 (map_cons (eh c0 rfl) map_nil) (fun l2 o2 G1 => ?_))
 obtain ⟨K0, rfl, j0⟩ := G1
 have b2 := j0.size
 refine gk (k_alloc j0.ag qz_23 (fun q2 M0 H0 k0 T1 => ?_))
 have c2 := k0.size
 have W1 := H0.lt
 refine gz (kt (L' := hc (sha (p))) k0.ag (eh c0 rfl) (eh c0 rfl) H0 sz_23 (fun K1 B1 l0 => ?_))
 have d2 := l0.size
 refine nl <| U0 <| sk fun _ V0 => rn <| gv (r_assign (v := nn 0) rfl) <| nl <| V0 <| sk fun _ W0 => sk fun _ X0 => rn <| gv (r_move (v := nn 0) rfl) <| nl <| X0 <| bl ?_
 have O0 := j0.t0 k0
 have x1 := ((G0.f0 O0).f1 l0 (by omega))
 refine wp_loop_s (σ := Nat) (I := fun (i : Nat) (a' : Act) (w' : World) => ∃ (m' : Ctx), a'.tmps.size = 44 ∧ a'.defers = [] ∧ i ≤ 32 ∧ a'.tmps.getD 2 undef = .pointer (some ⟨x0, 0, none⟩) ∧ a'.tmps.getD 3 undef = .pointer (some ⟨d0, 0, none⟩) ∧ a'.tmps.getD 4 undef = .pointer (some ⟨M0, 0, none⟩) ∧ a'.tmps.getD 5 undef = nn (lk (sha p) i) ∧ a'.tmps.getD 10 undef = nn i ∧ Fr (on d0) K0 K1 m' w' ∧ Mu m' w' d0 196 (ns (dg (sha p) i))) (μ := fun i => 32 - i) (s₀ := 0) ?_ ?_
 · exact ⟨K0, ((ov_size _ _).trans c0), ((ov_defers _ _).trans P0), (by omega), (gh c0 rfl), (gh c0 rfl), (gh c0 rfl), (gh c0 rfl), (gh c0 rfl), (Fr.refl l0.ag), x1⟩
 ·
  intro i M1 r2 hI
  obtain ⟨r0, b0, A0, P1, s0, e0, L0, u0, v0, g0, J0⟩ := hI
  refine of_ov ?_
  have e2 := g0.size
  have hqi := lk_le (sha p) i
  refine sk fun _ Y0 => rn <| gv (r_lss (j := 32) (em b0 rfl rfl v0) rfl) <| nl <| Y0 <| sk fun _ Z0 => ?_
  by_cases C0 : i < 32
  ·
   refine ct (eb b0 rfl (decide_eq_true C0)) <| ws <| Z0 <| sk fun _ a1 => bl <| sk fun _ b1 => rn <| mw b0 v0 <| ms b0 rfl <| nl <| b1 <| sk fun _ c1 => rn <| mv b0 rfl <| mv b0 rfl <| gv (r_quo (j := 4) (eh b0 rfl) rfl (by omega) (by omega)) <| gv (r_idxA (o' := i / 4) (em b0 rfl rfl L0) (eh b0 rfl) qa_23 (by omega) (by omega)) ?_
   have y1 := (B1.f1 g0 (by omega))
   refine gv (r_load1 (v := u8 ((sha (p)).getD (i / 4) 0)) (eh b0 rfl) y1.bk (hc_get (by omega)) qr_5) <| mv b0 rfl <| gv (r_rem (j := 4) (eh b0 rfl) rfl (by omega)) <| gv (r_mul (i := 2) rfl (eh b0 rfl) (by omega)) <| gv (r_sub (i := 6) rfl (eh b0 rfl) (by omega) (by omega)) <| gv (r_shr8 (eh b0 rfl) (eh b0 rfl) (by omega)) ?_
   have Q1 : (((sha (p)).getD (i / 4) 0) >>> UInt8.ofNat (6 - (2 * (i % 4)))).toNat < 256 := UInt8.toNat_lt _
   refine gv (r_cv_8_n (c := ((sha (p)).getD (i / 4) 0) >>> UInt8.ofNat (6 - (2 * (i % 4)))) (eh b0 rfl) qu_5 qu_3) <| gv (r_and (j := 3) (eh b0 rfl) rfl (by omega) (by omega)) <| gv (r_idxA (o' := i) (em b0 rfl rfl e0) (eh b0 rfl) qa_196 (by omega) (by omega)) ?_
   have O1 : ((dg (sha p) i).set i (((((sha (p)).getD (i / 4) 0) >>> UInt8.ofNat (6 - (2 * (i % 4)))).toNat) &&& 3) : List Nat).length = 36 := (len_set (dg_len _ _))
   refine gz (k_store1 (b := d0) (off := i) (v := nn (((((sha (p)).getD (i / 4) 0) >>> UInt8.ofNat (6 - (2 * (i % 4)))).toNat) &&& 3)) (L' := ns ((dg (sha p) i).set i (((((sha (p)).getD (i / 4) 0) >>> UInt8.ofNat (6 - (2 * (i % 4)))).toNat) &&& 3))) g0.ag (eh b0 rfl) (eh b0 rfl) J0 sz_3 rfl (lt_ns (n := 36) (dg_len _ _) (by omega)) ns_set (fun L1 C1 z0 => ?_))
   have g2 := z0.size
   have B0 : Mu r0 L1 d0 196 (ns (dg (sha p) (i + 1))) := C1
   refine nl <| c1 <| rn <| mw b0 u0 <| mv b0 rfl <| gv (r_idxA (o' := i) (em b0 rfl rfl e0) (eh b0 rfl) qa_196 (by omega) (by omega)) ?_
   have R1 := dg_le (sha p) (i + 1) i
   refine gv (r_load1 (v := nn ((dg (sha p) (i + 1)).getD i 0)) (eh b0 rfl) B0.bk (ns_get (n := 36) (dg_len _ _) (by omega)) qr_3) <| gv (r_sub (i := 3) rfl (eh b0 rfl) (by omega) (by omega)) <| gv (r_add (eh b0 rfl) (eh b0 rfl) (by omega)) <| ms b0 rfl <| nl <| a1 <| rn <| gv (r_add (j := 1) (em b0 rfl rfl v0) rfl (by omega)) <| mv b0 rfl <| nl <| loop_back (s := i) ⟨i + 1, (show 32 - (i + 1) < 32 - (i) from (by omega)), ?_⟩
   exact ⟨r0, ((ov_size _ _).trans b0), ((ov_defers _ _).trans A0), (by omega), (gm b0 rfl rfl s0), (gm b0 rfl rfl e0), (gm b0 rfl rfl L0), (gh b0 rfl), (gh b0 rfl), (g0.tr z0 (fun x hx => .inr (by cases hx; exact rfl))), B0⟩
  ·
   refine cf (eb b0 rfl (decide_eq_false C0)) <| we ?_
   have I1 : 32 = i := (by omega)
   subst I1
   refine W0 <| sk fun _ d1 => sk fun _ e1 => rn <| gv (r_assign (v := nn 32) rfl) <| nl <| e1 <| bl <| wp_unroll (n := 5) <| un_step (n := 4) <| sk fun _ g1 => sk fun _ h1 => rn <| mv b0 rfl <| gv (r_lss (j := 36) (eh b0 rfl) rfl) <| nl <| h1 <| cd b0 rfl <| ws <| g1 <| sk fun _ i1 => bl <| sk fun _ j1 => rn <| mv b0 rfl <| mw b0 u0 <| gv (r_and (j := 3) (eh b0 rfl) rfl (by omega) (by omega)) <| gv (r_idxA (o' := 32) (em b0 rfl rfl e0) (eh b0 rfl) qa_196 (by decide) (by rfl)) ?_
   have D0 : ((dg (sha p) 32).set 32 ((lk (sha p) 32) &&& 3) : List Nat).length = 36 := (len_set (dg_len _ _))
   refine gz (k_store1 (b := d0) (off := 32) (v := nn ((lk (sha p) 32) &&& 3)) (L' := ns ((dg (sha p) 32).set 32 ((lk (sha p) 32) &&& 3))) g0.ag (eh b0 rfl) (eh b0 rfl) J0 sz_3 rfl (lt_ns (n := 36) (dg_len _ _) (by omega)) ns_set (fun s2 D1 o0 => ?_))
   have i2 := o0.size
   refine nl <| j1 <| rn <| mw b0 u0 <| gv (r_shru (j := 2) (eh b0 rfl) rfl (by decide)) <| ms b0 rfl <| nl <| i1 <| rn <| mv b0 rfl <| gv (r_add (j := 1) (eh b0 rfl) rfl (by decide)) <| ms b0 rfl <| nl <| un_next <| un_step (n := 3) <| sk fun _ k1 => sk fun _ m1 => rn <| mv b0 rfl <| gv (r_lss (j := 36) (eh b0 rfl) rfl) <| nl <| m1 <| cd b0 rfl <| ws <| k1 <| sk fun _ n1 => bl <| sk fun _ o1 => rn <| mv b0 rfl <| mv b0 rfl <| gv (r_and (j := 3) (eh b0 rfl) rfl (by omega) (by omega)) <| gv (r_idxA (o' := 33) (em b0 rfl rfl e0) (eh b0 rfl) qa_196 (by decide) (by rfl)) ?_
   have E0 : (((dg (sha p) 32).set 32 ((lk (sha p) 32) &&& 3)).set 33 (((lk (sha p) 32) / 2 ^ 2) &&& 3) : List Nat).length = 36 := (len_set D0)
   refine gz (k_store1 (b := d0) (off := 33) (v := nn (((lk (sha p) 32) / 2 ^ 2) &&& 3)) (L' := ns (((dg (sha p) 32).set 32 ((lk (sha p) 32) &&& 3)).set 33 (((lk (sha p) 32) / 2 ^ 2) &&& 3))) o0.ag (eh b0 rfl) (eh b0 rfl) D1 sz_3 rfl (lt_ns (n := 36) D0 (by omega)) ns_set (fun t2 E1 p0 => ?_))
   have j2 := p0.size
   refine nl <| o1 <| rn <| mv b0 rfl <| gv (r_shru (j := 2) (eh b0 rfl) rfl (by decide)) <| ms b0 rfl <| nl <| n1 <| rn <| mv b0 rfl <| gv (r_add (j := 1) (eh b0 rfl) rfl (by decide)) <| ms b0 rfl <| nl <| un_next <| un_step (n := 2) <| sk fun _ p1 => sk fun _ q1 => rn <| mv b0 rfl <| gv (r_lss (j := 36) (eh b0 rfl) rfl) <| nl <| q1 <| cd b0 rfl <| ws <| p1 <| sk fun _ r1 => bl <| sk fun _ s1 => rn <| mv b0 rfl <| mv b0 rfl <| gv (r_and (j := 3) (eh b0 rfl) rfl (by omega) (by omega)) <| gv (r_idxA (o' := 34) (em b0 rfl rfl e0) (eh b0 rfl) qa_196 (by decide) (by rfl)) ?_
   have F0 : ((((dg (sha p) 32).set 32 ((lk (sha p) 32) &&& 3)).set 33 (((lk (sha p) 32) / 2 ^ 2) &&& 3)).set 34 ((((lk (sha p) 32) / 2 ^ 2) / 2 ^ 2) &&& 3) : List Nat).length = 36 := (len_set E0)
   refine gz (k_store1 (b := d0) (off := 34) (v := nn ((((lk (sha p) 32) / 2 ^ 2) / 2 ^ 2) &&& 3)) (L' := ns ((((dg (sha p) 32).set 32 ((lk (sha p) 32) &&& 3)).set 33 (((lk (sha p) 32) / 2 ^ 2) &&& 3)).set 34 ((((lk (sha p) 32) / 2 ^ 2) / 2 ^ 2) &&& 3))) p0.ag (eh b0 rfl) (eh b0 rfl) E1 sz_3 rfl (lt_ns (n := 36) E0 (by omega)) ns_set (fun v2 F1 q0 => ?_))
   have k2 := q0.size
   refine nl <| s1 <| rn <| mv b0 rfl <| gv (r_shru (j := 2) (eh b0 rfl) rfl (by decide)) <| ms b0 rfl <| nl <| r1 <| rn <| mv b0 rfl <| gv (r_add (j := 1) (eh b0 rfl) rfl (by decide)) <| ms b0 rfl <| nl <| un_next <| un_step (n := 1) <| sk fun _ t1 => sk fun _ u1 => rn <| mv b0 rfl <| gv (r_lss (j := 36) (eh b0 rfl) rfl) <| nl <| u1 <| cd b0 rfl <| ws <| t1 <| sk fun _ v1 => bl <| sk fun _ R0 => rn <| mv b0 rfl <| mv b0 rfl <| gv (r_and (j := 3) (eh b0 rfl) rfl (by omega) (by omega)) <| gv (r_idxA (o' := 35) (em b0 rfl rfl e0) (eh b0 rfl) qa_196 (by decide) (by rfl)) ?_
   have h0 : (((((dg (sha p) 32).set 32 ((lk (sha p) 32) &&& 3)).set 33 (((lk (sha p) 32) / 2 ^ 2) &&& 3)).set 34 ((((lk (sha p) 32) / 2 ^ 2) / 2 ^ 2) &&& 3)).set 35 (((((lk (sha p) 32) / 2 ^ 2) / 2 ^ 2) / 2 ^ 2) &&& 3) : List Nat).length = 36 := (len_set F0)
   refine gz (k_store1 (b := d0) (off := 35) (v := nn (((((lk (sha p) 32) / 2 ^ 2) / 2 ^ 2) / 2 ^ 2) &&& 3)) (L' := ns (((((dg (sha p) 32).set 32 ((lk (sha p) 32) &&& 3)).set 33 (((lk (sha p) 32) / 2 ^ 2) &&& 3)).set 34 ((((lk (sha p) 32) / 2 ^ 2) / 2 ^ 2) &&& 3)).set 35 (((((lk (sha p) 32) / 2 ^ 2) / 2 ^ 2) / 2 ^ 2) &&& 3))) q0.ag (eh b0 rfl) (eh b0 rfl) F1 sz_3 rfl (lt_ns (n := 36) F0 (by omega)) ns_set (fun m2 z1 m0 => ?_))
   have Y1 := m0.size
   refine nl <| R0 <| rn <| mv b0 rfl <| gv (r_shru (j := 2) (eh b0 rfl) rfl (by decide)) <| ms b0 rfl <| nl <| v1 <| rn <| mv b0 rfl <| gv (r_add (j := 1) (eh b0 rfl) rfl (by decide)) <| ms b0 rfl <| nl <| un_next <| un_step (n := 0) <| sk fun _ N1 => sk fun _ S0 => rn <| mv b0 rfl <| gv (r_lss (j := 36) (eh b0 rfl) rfl) <| nl <| S0 <| ce b0 rfl <| we <| d1 <| sk fun _ T0 => rn <| gv (r_loadN (cs := ns (((((dg (sha p) 32).set 32 ((lk (sha p) 32) &&& 3)).set 33 (((lk (sha p) 32) / 2 ^ 2) &&& 3)).set 34 ((((lk (sha p) 32) / 2 ^ 2) / 2 ^ 2) &&& 3)).set 35 (((((lk (sha p) 32) / 2 ^ 2) / 2 ^ 2) / 2 ^ 2) &&& 3))) (em b0 rfl rfl e0) z1.bk (rd_all (Eq.trans (ns_length _) h0)) (Eq.trans (ns_length _) h0) qr_196 sz_196) ?_
   have N0 := (i0.t0 j0).t0 k0
   have w1 := (((((((I0.f0 N0).f1 l0 (by omega)).f1 g0 (by omega)).f1 o0 (by omega)).f1 p0 (by omega)).f1 q0 (by omega)).f1 m0 (by omega))
   refine gz (k_store (L' := ns (((((dg (sha p) 32).set 32 ((lk (sha p) 32) &&& 3)).set 33 (((lk (sha p) 32) / 2 ^ 2) &&& 3)).set 34 ((((lk (sha p) 32) / 2 ^ 2) / 2 ^ 2) &&& 3)).set 35 (((((lk (sha p) 32) / 2 ^ 2) / 2 ^ 2) / 2 ^ 2) &&& 3))) (cs := ns (((((dg (sha p) 32).set 32 ((lk (sha p) 32) &&& 3)).set 33 (((lk (sha p) 32) / 2 ^ 2) &&& 3)).set 34 ((((lk (sha p) 32) / 2 ^ 2) / 2 ^ 2) &&& 3)).set 35 (((((lk (sha p) 32) / 2 ^ 2) / 2 ^ 2) / 2 ^ 2) &&& 3))) m0.ag (em b0 rfl rfl s0) (eh b0 rfl) w1 (by kernel_rfl) (sz_eq sz_196 (Eq.trans (ns_length _) h0)) (one_ns _) (le_all (Eq.trans (ns_length _) List.length_replicate) (Eq.trans (ns_length _) h0)) (wr_all (Eq.trans (Eq.trans (ns_length _) List.length_replicate) (Eq.symm (Eq.trans (ns_length _) h0)))) (fun n2 A1 y0 => ?_))
   have Z1 := y0.size
   refine nl <| T0 <| wp_ret <| ret_of (res1c (b := x0) (n := 36) (cs := ns (((((dg (sha p) 32).set 32 ((lk (sha p) 32) &&& 3)).set 33 (((lk (sha p) 32) / 2 ^ 2) &&& 3)).set 34 ((((lk (sha p) 32) / 2 ^ 2) / 2 ^ 2) &&& 3)).set 35 (((((lk (sha p) 32) / 2 ^ 2) / 2 ^ 2) / 2 ^ 2) &&& 3))) rfl _ _ (gm b0 rfl rfl s0) A1.bk (rd_all (Eq.trans (ns_length _) h0)) (Eq.trans (ns_length _) h0) qr_196 sz_196) ((ov_defers _ _).trans A0) ?_
   exact ⟨r0, rfl, (((((((((((cu0.t0 n0).t0 i0).t0 j0).t0 k0).tn l0 (by omega)).tn g0 (by omega)).tn o0 (by omega)).tn p0 (by omega)).tn q0 (by omega)).tn m0 (by omega)).tn y0 (by omega))⟩

theorem f137 {m : Ctx} {w : World} (ag : Ag m w) {A : Option Addr} {n c : Nat} {p : Bytes} (hsl : Sl m A n c 1 (bv p)) (hp : p.length = n) (hn : n < 4294967296) : Calls Tryz.prog 137 #[.slice A n c] w (Ret fun v w' => ∃ m', v = .agg (ns (digits (sha p))).toArray ∧ Fr no m w m' w') := by
 refine enter Tryz.func137 rfl (fun w0 hT P0 => ?_)
 have c0 : w0.tmps.size = 45 := by rw [hT]; kernel_rfl
 have I1 : w0.tmps.getD 0 undef = .slice A n c := by rw [hT]; kernel_rfl
 clear hT
 have cu0 : Fr (no) m w m w := Fr.refl ag
 refine sk fun _ Q0 => rn <| gk (k_alloc ag qz_196 (fun o2 x0 I0 o0 T1 => ?_))
 have g2 := o0.size
 have W1 := I0.lt
 refine nl <| Q0 <| sk fun _ k1 => rn <| gk (k_alloc o0.ag qz_196 (fun t2 d0 G0 j0 R1 => ?_))
 have Z1 := j0.size
 have U1 := G0.lt
 refine nl <| k1 <| sk fun _ T0 => rn <| mw c0 I1 ?_
 have G1 := ((hsl.up o0).up j0)
 refine gk (k_cl (f41 j0.ag G1 hp (by omega)) rfl fn_41 (map_cons (eh c0 rfl) map_nil) (fun k2 n2 F1 => ?_))
 obtain ⟨K0, rfl, k0⟩ := F1
 have a2 := k0.size
 refine gk (k_alloc k0.ag qz_23 (fun p2 M0 H0 l0 S1 => ?_))
 have b2 := l0.size
 have V1 := H0.lt
 refine gz (kt (L' := hc (sha (p))) l0.ag (eh c0 rfl) (eh c0 rfl) H0 sz_23 (fun J1 A1 m0 => ?_))
 have c2 := m0.size
 refine nl <| T0 <| sk fun _ U0 => rn <| gv (r_assign (v := nn 0) rfl) <| nl <| U0 <| sk fun _ V0 => sk fun _ W0 => rn <| gv (r_assign (v := nn 0) rfl) <| nl <| W0 <| bl ?_
 have O0 := k0.t0 l0
 have w1 := ((G0.f0 O0).f1 m0 (by omega))
 refine wp_loop_s (σ := Nat) (I := fun (i : Nat) (a' : Act) (w' : World) => ∃ (m' : Ctx), a'.tmps.size = 45 ∧ a'.defers = [] ∧ i ≤ 32 ∧ a'.tmps.getD 2 undef = .pointer (some ⟨x0, 0, none⟩) ∧ a'.tmps.getD 3 undef = .pointer (some ⟨d0, 0, none⟩) ∧ a'.tmps.getD 4 undef = .pointer (some ⟨M0, 0, none⟩) ∧ a'.tmps.getD 5 undef = nn (lk (sha p) i) ∧ a'.tmps.getD 6 undef = nn i ∧ Fr (on d0) K0 J1 m' w' ∧ Mu m' w' d0 196 (ns (dg (sha p) i))) (μ := fun i => 32 - i) (s₀ := 0) ?_ ?_
 · exact ⟨K0, ((ov_size _ _).trans c0), ((ov_defers _ _).trans P0), (by omega), (gh c0 rfl), (gh c0 rfl), (gh c0 rfl), (gh c0 rfl), (gh c0 rfl), (Fr.refl m0.ag), w1⟩
 ·
  intro i L1 q2 hI
  obtain ⟨s0, b0, A0, O1, u0, e0, L0, v0, i0, g0, J0⟩ := hI
  refine of_ov ?_
  have d2 := g0.size
  have hqi := lk_le (sha p) i
  refine sk fun _ X0 => sk fun _ Y0 => rn <| mw b0 i0 <| gv (r_lss (j := 32) (eh b0 rfl) rfl) <| nl <| Y0 ?_
  by_cases C0 : i < 32
  ·
   refine ct (eb b0 rfl (decide_eq_true C0)) <| ws <| X0 <| sk fun _ Z0 => bl <| sk fun _ a1 => rn <| mw b0 i0 <| mw b0 i0 <| gv (r_quo (j := 4) (eh b0 rfl) rfl (by omega) (by omega)) <| gv (r_idxA (o' := i / 4) (em b0 rfl rfl L0) (eh b0 rfl) qa_23 (by omega) (by omega)) ?_
   have x1 := (A1.f1 g0 (by omega))
   refine gv (r_load1 (v := u8 ((sha (p)).getD (i / 4) 0)) (eh b0 rfl) x1.bk (hc_get (by omega)) qr_5) <| mw b0 i0 <| gv (r_rem (j := 4) (eh b0 rfl) rfl (by omega)) <| gv (r_mul (i := 2) rfl (eh b0 rfl) (by omega)) <| gv (r_sub (i := 6) rfl (eh b0 rfl) (by omega) (by omega)) <| gv (r_cv_n_u (i := 6 - (2 * (i % 4))) (eh b0 rfl) qu_3 qu_152 (by omega)) <| gv (r_shr8u (eh b0 rfl) (eh b0 rfl) (by omega)) ?_
   have P1 : (((sha (p)).getD (i / 4) 0) >>> UInt8.ofNat (6 - (2 * (i % 4)))).toNat < 256 := UInt8.toNat_lt _
   refine gv (r_cv_8_n (c := ((sha (p)).getD (i / 4) 0) >>> UInt8.ofNat (6 - (2 * (i % 4)))) (eh b0 rfl) qu_5 qu_3) <| gv (r_and (j := 3) (eh b0 rfl) rfl (by omega) (by omega)) <| gv (r_idxA (o' := i) (em b0 rfl rfl e0) (eh b0 rfl) qa_196 (by omega) (by omega)) ?_
   have N1 : ((dg (sha p) i).set i (((((sha (p)).getD (i / 4) 0) >>> UInt8.ofNat (6 - (2 * (i % 4)))).toNat) &&& 3) : List Nat).length = 36 := (len_set (dg_len _ _))
   refine gz (k_store1 (b := d0) (off := i) (v := nn (((((sha (p)).getD (i / 4) 0) >>> UInt8.ofNat (6 - (2 * (i % 4)))).toNat) &&& 3)) (L' := ns ((dg (sha p) i).set i (((((sha (p)).getD (i / 4) 0) >>> UInt8.ofNat (6 - (2 * (i % 4)))).toNat) &&& 3))) g0.ag (eh b0 rfl) (eh b0 rfl) J0 sz_3 rfl (lt_ns (n := 36) (dg_len _ _) (by omega)) ns_set (fun K1 B1 z0 => ?_))
   have e2 := z0.size
   have B0 : Mu s0 K1 d0 196 (ns (dg (sha p) (i + 1))) := B1
   refine nl <| a1 <| rn <| mw b0 v0 <| gv (r_add (j := 3) (eh b0 rfl) rfl (by omega)) <| mw b0 i0 <| gv (r_idxA (o' := i) (em b0 rfl rfl e0) (eh b0 rfl) qa_196 (by omega) (by omega)) ?_
   have Q1 := dg_le (sha p) (i + 1) i
   refine gv (r_load1 (v := nn ((dg (sha p) (i + 1)).getD i 0)) (eh b0 rfl) B0.bk (ns_get (n := 36) (dg_len _ _) (by omega)) qr_3) <| gv (r_sub (eh b0 rfl) (eh b0 rfl) (by omega) (by omega)) <| ms b0 rfl <| nl <| Z0 <| rn <| mw b0 i0 <| gv (r_add (j := 1) (eh b0 rfl) rfl (by omega)) <| ms b0 rfl <| nl <| loop_back (s := i) ⟨i + 1, (show 32 - (i + 1) < 32 - (i) from (by omega)), ?_⟩
   exact ⟨s0, ((ov_size _ _).trans b0), ((ov_defers _ _).trans A0), (by omega), (gm b0 rfl rfl u0), (gm b0 rfl rfl e0), (gm b0 rfl rfl L0), (Eq.trans (gh b0 rfl) lk_turn), (gh b0 rfl), (g0.tr z0 (fun x hx => .inr (by cases hx; exact rfl))), B0⟩
  ·
   refine cf (eb b0 rfl (decide_eq_false C0)) <| we ?_
   have H1 : 32 = i := (by omega)
   subst H1
   refine V0 <| sk fun _ b1 => sk fun _ c1 => rn <| gv (r_assign (v := nn 32) rfl) <| nl <| c1 <| bl <| wp_unroll (n := 5) <| un_step (n := 4) <| sk fun _ d1 => sk fun _ e1 => rn <| mv b0 rfl <| gv (r_lss (j := 36) (eh b0 rfl) rfl) <| nl <| e1 <| cd b0 rfl <| ws <| d1 <| sk fun _ g1 => bl <| sk fun _ h1 => rn <| mv b0 rfl <| mw b0 v0 <| gv (r_and (j := 3) (eh b0 rfl) rfl (by omega) (by omega)) <| gv (r_idxA (o' := 32) (em b0 rfl rfl e0) (eh b0 rfl) qa_196 (by decide) (by rfl)) ?_
   have D0 : ((dg (sha p) 32).set 32 ((lk (sha p) 32) &&& 3) : List Nat).length = 36 := (len_set (dg_len _ _))
   refine gz (k_store1 (b := d0) (off := 32) (v := nn ((lk (sha p) 32) &&& 3)) (L' := ns ((dg (sha p) 32).set 32 ((lk (sha p) 32) &&& 3))) g0.ag (eh b0 rfl) (eh b0 rfl) J0 sz_3 rfl (lt_ns (n := 36) (dg_len _ _) (by omega)) ns_set (fun r2 C1 p0 => ?_))
   have h2 := p0.size
   refine nl <| h1 <| rn <| mw b0 v0 <| gv (r_shru (j := 2) (eh b0 rfl) rfl (by decide)) <| ms b0 rfl <| nl <| g1 <| rn <| mv b0 rfl <| gv (r_add (j := 1) (eh b0 rfl) rfl (by decide)) <| ms b0 rfl <| nl <| un_next <| un_step (n := 3) <| sk fun _ i1 => sk fun _ j1 => rn <| mv b0 rfl <| gv (r_lss (j := 36) (eh b0 rfl) rfl) <| nl <| j1 <| cd b0 rfl <| ws <| i1 <| sk fun _ l1 => bl <| sk fun _ m1 => rn <| mv b0 rfl <| mv b0 rfl <| gv (r_and (j := 3) (eh b0 rfl) rfl (by omega) (by omega)) <| gv (r_idxA (o' := 33) (em b0 rfl rfl e0) (eh b0 rfl) qa_196 (by decide) (by rfl)) ?_
   have E0 : (((dg (sha p) 32).set 32 ((lk (sha p) 32) &&& 3)).set 33 (((lk (sha p) 32) / 2 ^ 2) &&& 3) : List Nat).length = 36 := (len_set D0)
   refine gz (k_store1 (b := d0) (off := 33) (v := nn (((lk (sha p) 32) / 2 ^ 2) &&& 3)) (L' := ns (((dg (sha p) 32).set 32 ((lk (sha p) 32) &&& 3)).set 33 (((lk (sha p) 32) / 2 ^ 2) &&& 3))) p0.ag (eh b0 rfl) (eh b0 rfl) C1 sz_3 rfl (lt_ns (n := 36) D0 (by omega)) ns_set (fun s2 D1 q0 => ?_))
   have i2 := q0.size
   refine nl <| m1 <| rn <| mv b0 rfl <| gv (r_shru (j := 2) (eh b0 rfl) rfl (by decide)) <| ms b0 rfl <| nl <| l1 <| rn <| mv b0 rfl <| gv (r_add (j := 1) (eh b0 rfl) rfl (by decide)) <| ms b0 rfl <| nl <| un_next <| un_step (n := 2) <| sk fun _ n1 => sk fun _ o1 => rn <| mv b0 rfl <| gv (r_lss (j := 36) (eh b0 rfl) rfl) <| nl <| o1 <| cd b0 rfl <| ws <| n1 <| sk fun _ p1 => bl <| sk fun _ q1 => rn <| mv b0 rfl <| mv b0 rfl <| gv (r_and (j := 3) (eh b0 rfl) rfl (by omega) (by omega)) <| gv (r_idxA (o' := 34) (em b0 rfl rfl e0) (eh b0 rfl) qa_196 (by decide) (by rfl)) ?_
   have F0 : ((((dg (sha p) 32).set 32 ((lk (sha p) 32) &&& 3)).set 33 (((lk (sha p) 32) / 2 ^ 2) &&& 3)).set 34 ((((lk (sha p) 32) / 2 ^ 2) / 2 ^ 2) &&& 3) : List Nat).length = 36 := (len_set E0)
   refine gz (k_store1 (b := d0) (off := 34) (v := nn ((((lk (sha p) 32) / 2 ^ 2) / 2 ^ 2) &&& 3)) (L' := ns ((((dg (sha p) 32).set 32 ((lk (sha p) 32) &&& 3)).set 33 (((lk (sha p) 32) / 2 ^ 2) &&& 3)).set 34 ((((lk (sha p) 32) / 2 ^ 2) / 2 ^ 2) &&& 3))) q0.ag (eh b0 rfl) (eh b0 rfl) D1 sz_3 rfl (lt_ns (n := 36) E0 (by omega)) ns_set (fun u2 E1 r0 => ?_))
   have j2 := r0.size
   refine nl <| q1 <| rn <| mv b0 rfl <| gv (r_shru (j := 2) (eh b0 rfl) rfl (by decide)) <| ms b0 rfl <| nl <| p1 <| rn <| mv b0 rfl <| gv (r_add (j := 1) (eh b0 rfl) rfl (by decide)) <| ms b0 rfl <| nl <| un_next <| un_step (n := 1) <| sk fun _ r1 => sk fun _ s1 => rn <| mv b0 rfl <| gv (r_lss (j := 36) (eh b0 rfl) rfl) <| nl <| s1 <| cd b0 rfl <| ws <| r1 <| sk fun _ t1 => bl <| sk fun _ u1 => rn <| mv b0 rfl <| mv b0 rfl <| gv (r_and (j := 3) (eh b0 rfl) rfl (by omega) (by omega)) <| gv (r_idxA (o' := 35) (em b0 rfl rfl e0) (eh b0 rfl) qa_196 (by decide) (by rfl)) ?_
   have h0 : (((((dg (sha p) 32).set 32 ((lk (sha p) 32) &&& 3)).set 33 (((lk (sha p) 32) / 2 ^ 2) &&& 3)).set 34 ((((lk (sha p) 32) / 2 ^ 2) / 2 ^ 2) &&& 3)).set 35 (((((lk (sha p) 32) / 2 ^ 2) / 2 ^ 2) / 2 ^ 2) &&& 3) : List Nat).length = 36 := (len_set F0)
   refine gz (k_store1 (b := d0) (off := 35) (v := nn (((((lk (sha p) 32) / 2 ^ 2) / 2 ^ 2) / 2 ^ 2) &&& 3)) (L' := ns (((((dg (sha p) 32).set 32 ((lk (sha p) 32) &&& 3)).set 33 (((lk (sha p) 32) / 2 ^ 2) &&& 3)).set 34 ((((lk (sha p) 32) / 2 ^ 2) / 2 ^ 2) &&& 3)).set 35 (((((lk (sha p) 32) / 2 ^ 2) / 2 ^ 2) / 2 ^ 2) &&& 3))) r0.ag (eh b0 rfl) (eh b0 rfl) E1 sz_3 rfl (lt_ns (n := 36) F0 (by omega)) ns_set (fun l2 y1 n0 => ?_))
   have X1 := n0.size
   refine nl <| u1 <| rn <| mv b0 rfl <| gv (r_shru (j := 2) (eh b0 rfl) rfl (by decide)) <| ms b0 rfl <| nl <| t1 <| rn <| mv b0 rfl <| gv (r_add (j := 1) (eh b0 rfl) rfl (by decide)) <| ms b0 rfl <| nl <| un_next <| un_step (n := 0) <| sk fun _ M1 => sk fun _ R0 => rn <| mv b0 rfl <| gv (r_lss (j := 36) (eh b0 rfl) rfl) <| nl <| R0 <| ce b0 rfl <| we <| b1 <| sk fun _ S0 => rn <| gv (r_loadN (cs := ns (((((dg (sha p) 32).set 32 ((lk (sha p) 32) &&& 3)).set 33 (((lk (sha p) 32) / 2 ^ 2) &&& 3)).set 34 ((((lk (sha p) 32) / 2 ^ 2) / 2 ^ 2) &&& 3)).set 35 (((((lk (sha p) 32) / 2 ^ 2) / 2 ^ 2) / 2 ^ 2) &&& 3))) (em b0 rfl rfl e0) y1.bk (rd_all (Eq.trans (ns_length _) h0)) (Eq.trans (ns_length _) h0) qr_196 sz_196) ?_
   have N0 := (j0.t0 k0).t0 l0
   have v1 := (((((((I0.f0 N0).f1 m0 (by omega)).f1 g0 (by omega)).f1 p0 (by omega)).f1 q0 (by omega)).f1 r0 (by omega)).f1 n0 (by omega))
   refine gz (k_store (L' := ns (((((dg (sha p) 32).set 32 ((lk (sha p) 32) &&& 3)).set 33 (((lk (sha p) 32) / 2 ^ 2) &&& 3)).set 34 ((((lk (sha p) 32) / 2 ^ 2) / 2 ^ 2) &&& 3)).set 35 (((((lk (sha p) 32) / 2 ^ 2) / 2 ^ 2) / 2 ^ 2) &&& 3))) (cs := ns (((((dg (sha p) 32).set 32 ((lk (sha p) 32) &&& 3)).set 33 (((lk (sha p) 32) / 2 ^ 2) &&& 3)).set 34 ((((lk (sha p) 32) / 2 ^ 2) / 2 ^ 2) &&& 3)).set 35 (((((lk (sha p) 32) / 2 ^ 2) / 2 ^ 2) / 2 ^ 2) &&& 3))) n0.ag (em b0 rfl rfl u0) (eh b0 rfl) v1 (by kernel_rfl) (sz_eq sz_196 (Eq.trans (ns_length _) h0)) (one_ns _) (le_all (Eq.trans (ns_length _) List.length_replicate) (Eq.trans (ns_length _) h0)) (wr_all (Eq.trans (Eq.trans (ns_length _) List.length_replicate) (Eq.symm (Eq.trans (ns_length _) h0)))) (fun m2 z1 y0 => ?_))
   have Y1 := y0.size
   refine nl <| S0 <| wp_ret <| ret_of (res1c (b := x0) (n := 36) (cs := ns (((((dg (sha p) 32).set 32 ((lk (sha p) 32) &&& 3)).set 33 (((lk (sha p) 32) / 2 ^ 2) &&& 3)).set 34 ((((lk (sha p) 32) / 2 ^ 2) / 2 ^ 2) &&& 3)).set 35 (((((lk (sha p) 32) / 2 ^ 2) / 2 ^ 2) / 2 ^ 2) &&& 3))) rfl _ _ (gm b0 rfl rfl u0) z1.bk (rd_all (Eq.trans (ns_length _) h0)) (Eq.trans (ns_length _) h0) qr_196 sz_196) ((ov_defers _ _).trans A0) ?_
   exact ⟨s0, rfl, (((((((((((cu0.t0 o0).t0 j0).t0 k0).t0 l0).tn m0 (by omega)).tn g0 (by omega)).tn p0 (by omega)).tn q0 (by omega)).tn r0 (by omega)).tn n0 (by omega)).tn y0 (by omega))⟩

theorem f68 {m : Ctx} {w : World} (ag : Ag m w) {s : Bytes} {k : Nat} {A : Option Addr} {n c : Nat} {p : Bytes} (hsl : Sl m A n c 1 (bv p)) (hp : p.length = n) (hn : n < 4294967296) : Calls Tryz.prog 68 #[H s, nn k, .slice A n c] w (Ret fun v w' => ∃ m' A' c', v = .slice A' 36 c' ∧ Fr no m w m' w' ∧ Sl m' A' 36 c' 32 (hcs (chL (sgf s k p) 36))) := by
 refine enter Tryz.func68 rfl (fun e0 hT H0 => ?_)
 have c0 : e0.tmps.size = 28 := by rw [hT]; kernel_rfl
 have b1 : e0.tmps.getD 0 undef = H s := by rw [hT]; kernel_rfl
 have c1 : e0.tmps.getD 1 undef = nn k := by rw [hT]; kernel_rfl
 have d1 : e0.tmps.getD 2 undef = .slice A n c := by rw [hT]; kernel_rfl
 clear hT
 have cu0 : Fr (no) m w m w := Fr.refl ag
 refine sk fun _ I0 => rn <| gk (k_box (L := hc s) ag (em c0 rfl rfl b1) (by kernel_rfl) (fun E1 D0 u0 i0 l1 => ?_))
 have y1 := i0.size
 have n1 := u0.lt
 refine gv (r_assign (v := .slice none 0 0) rfl) <| nl <| I0 <| sk fun _ P0 => rn <| gv (r_assign (v := .slice none 0 0) rfl) <| nl <| P0 <| sk fun _ Q0 => sk fun _ J0 => rn <| mw c0 d1 ?_
 have U0 := (hsl.up i0)
 refine gk (k_cl (f119 i0.ag U0 hp (by omega)) rfl fn_119 (map_cons (eh c0 rfl) map_nil) (fun A1 n0 S0 => ?_))
 obtain ⟨x0, rfl, g0⟩ := S0
 have s1 := g0.size
 refine gv (r_move (v := nn 0) rfl) <| nl <| J0 <| bl <| wp_loop_s (σ := Nat) (I := fun (i : Nat) (a' : Act) (w' : World) => ∃ (m' : Ctx) (Ax0 : Option Addr) (cx0 : Nat) (Nx0 : Nat), a'.tmps.size = 28 ∧ a'.defers = [] ∧ i ≤ 36 ∧ Nx0 = i ∧ a'.tmps.getD 1 undef = nn k ∧ a'.tmps.getD 3 undef = .pointer (some ⟨D0, 0, none⟩) ∧ a'.tmps.getD 11 undef = .agg (ns (digits (sha (p)))).toArray ∧ a'.tmps.getD 7 undef = .slice Ax0 Nx0 cx0 ∧ a'.tmps.getD 12 undef = nn i ∧ Fr (no) x0 n0 m' w' ∧ Own m' w' (n0.heap.size) Ax0 Nx0 cx0 23 32 (hcs (chL (sgf s k p) i))) (μ := fun i => 36 - i) (s₀ := 0) ?_ ?_
 · exact ⟨x0, none, 0, 0, ((ov_size _ _).trans c0), ((ov_defers _ _).trans H0), (by omega), (by omega), (gm c0 rfl rfl c1), (gh c0 rfl), (gh c0 rfl), (gh c0 rfl), (gh c0 rfl), (Fr.refl g0.ag), (Own.nil _ _ _ _ _)⟩
 ·
  intro i e1 D1 hI
  obtain ⟨p1, Ax023, cx024, Nx025, b0, r0, i1, j1, y0, z0, A0, B0, m0, d0, l0⟩ := hI
  refine of_ov ?_
  have t1 := d0.size
  have nc_Ax023 := l0.nilc
  refine sk fun _ K0 => rn <| gv (r_lss (j := 36) (em b0 rfl rfl m0) rfl) <| nl <| K0 <| sk fun _ L0 => ?_
  by_cases s0 : i < 36
  ·
   refine ct (eb b0 rfl (decide_eq_true s0)) <| ws <| L0 <| sk fun _ M0 => bl <| sk fun _ N0 => rn <| mw b0 m0 ?_
   have k1 := digits_le (sha p) i
   refine gv (r_index1 (v := nn ((digits (sha (p))).getD i 0)) (i := i) (em b0 rfl rfl A0) (em b0 rfl rfl m0) qa_196 qr_3 (by omega) (ns_get (n := 36) (digits_len _) (by omega))) <| ms b0 rfl <| ms b0 rfl <| nl <| N0 <| rn <| mw b0 B0 ?_
   have F0 := g0.t0 d0
   have R0 := (u0.f0 F0)
   refine gv (lb (cs := hc s) (em b0 rfl rfl z0) R0.bk qr_23 sz_23) <| mw b0 y0 <| mv b0 rfl <| gk (k_cl (f121 d0.ag) rfl fn_121 (map_cons (eh b0 rfl) (map_cons (eh b0 rfl) (map_cons (eh b0 rfl) map_nil))) (fun B1 F1 T0 => ?_))
   obtain ⟨q1, rfl, h0⟩ := T0
   have u1 := h0.size
   refine mv b0 rfl <| mv b0 rfl <| gk (k_cl (f120 (a := 0) (b := (digits (sha (p))).getD i 0) h0.ag (by omega) (by omega)) rfl fn_120 (map_cons (eh b0 rfl) (map_cons (eh b0 rfl) (map_cons (v := nn 0) rfl (map_cons (eh b0 rfl) map_nil)))) (fun C1 G1 w0 => ?_))
   rw [Nat.sub_zero] at w0
   obtain ⟨Z0, rfl, j0⟩ := w0
   have v1 := j0.size
   refine gk (k_lit (e := 23) (L := hc (wk i (sec s k i) 0 ((digits (sha (p))).getD i 0))) j0.ag (pm_cons (eh b0 rfl) pm_nil) (by kernel_rfl) (fun H1 g1 v0 k0 m1 => ?_))
   have w1 := k0.size
   have o1 := v0.lt
   have V0 := (((l0.f0 h0).f0 j0).f0 k0)
   have h1 : ((chL (sgf s k p) i) ++ ([wk i (sec s k i) 0 ((digits (sha (p))).getD i 0)]) : List Bytes).length = Nx025 + 1 := (len_app (Eq.trans (chL_len _ _) (by omega)) rfl)
   refine gk (k_append (base := n0.heap.size) (L := hcs (chL (sgf s k p) i)) (N := hcs ([wk i (sec s k i) 0 ((digits (sha (p))).getD i 0)])) k0.ag (eh b0 rfl) (eh b0 rfl) qs_27 qz_23 V0 (by have h_ := (v0.bk.src (L := hc (wk i (sec s k i) 0 ((digits (sha (p))).getD i 0))) (n := 1) (o := 0) (k := 32) (by kernel_rfl)); rw [← hcs_one] at h_; exact h_) (fun h => by cases h) (by rw [hcs_length, show ([wk i (sec s k i) 0 ((digits (sha (p))).getD i 0)] : List Bytes).length = 1 from rfl]) (one_hcs _) (by omega) (by decide) (by rw [maxLen_eq]; omega) (by omega) (fun C0 E0 I1 o0 p0 => ?_))
   have x1 := p0.size
   rw [← hcs_append] at o0
   have r1 := o0.nilc
   refine ms b0 rfl <| nl <| M0 <| rn <| gv (r_add (j := 1) (em b0 rfl rfl m0) rfl (by omega)) <| mv b0 rfl <| nl <| loop_back (s := i) ⟨i + 1, (show 36 - (i + 1) < 36 - (i) from (by omega)), ?_⟩
   exact ⟨Z0, C0, E0, Nx025 + 1, ((ov_size _ _).trans b0), ((ov_defers _ _).trans r0), (by omega), (by omega), (gm b0 rfl rfl y0), (gm b0 rfl rfl z0), (gm b0 rfl rfl A0), (gh b0 rfl), (gh b0 rfl), ((((d0.t0 h0).t0 j0).t0 k0).tg p0 (by omega)), o0⟩
  ·
   refine cf (eb b0 rfl (decide_eq_false s0)) <| we ?_
   have X0 : 36 = i := (by omega)
   subst X0
   have Y0 : 36 = Nx025 := by omega
   subst Y0
   refine Q0 <| sk fun _ O0 => rn <| mw b0 B0 <| ms b0 rfl <| nl <| O0 <| wp_ret <| ret_of (res1 rfl _ _ (gh b0 rfl)) ((ov_defers _ _).trans r0) ?_
   obtain ⟨a1, G0, W0⟩ := l0.fz d0.ag
   have q0 : Fr (ge n0.heap.size) _ _ _ _ := G0.wk (fun x hx _ => l0.at x hx)
   have z1 := q0.size
   exact ⟨a1, Ax023, cx024, rfl, ((((cu0.t0 i0).t0 g0).t0 d0).tg q0 (by omega)), W0⟩

theorem f96 {m : Ctx} {w : World} (ag : Ag m w) {s : Bytes} {k : Nat} {A : Option Addr} {n c : Nat} {p : Bytes} (hsl : Sl m A n c 1 (bv p)) (hp : p.length = n) (hn : n < 4294967296) : Calls Tryz.prog 96 #[H s, nn k, .slice A n c] w (Ret fun v w' => ∃ m' A' c', v = .slice A' 36 c' ∧ Fr no m w m' w' ∧ Sl m' A' 36 c' 32 (hcs (chL (sgf s k p) 36))) := by
 refine enter Tryz.func96 rfl (fun q0 hT V0 => ?_)
 have c0 : q0.tmps.size = 29 := by rw [hT]; kernel_rfl
 have t1 : q0.tmps.getD 0 undef = H s := by rw [hT]; kernel_rfl
 have u1 : q0.tmps.getD 1 undef = nn k := by rw [hT]; kernel_rfl
 have v1 : q0.tmps.getD 2 undef = .slice A n c := by rw [hT]; kernel_rfl
 clear hT
 have cu0 : Fr (no) m w m w := Fr.refl ag
 refine sk fun _ W0 => rn <| gk (k_box (L := hc s) ag (em c0 rfl rfl t1) (by kernel_rfl) (fun d2 A0 G0 v0 E1 => ?_))
 have T1 := v0.size
 have H1 := G0.lt
 refine gv (r_assign (v := .slice none 0 0) rfl) <| nl <| W0 <| sk fun _ e1 => rn <| mw c0 v1 ?_
 have m1 := (hsl.up v0)
 refine gk (k_cl (f137 v0.ag m1 hp (by omega)) rfl fn_137 (map_cons (eh c0 rfl) map_nil) (fun W1 Y1 j1 => ?_))
 obtain ⟨J0, rfl, r0⟩ := j1
 have P1 := r0.size
 refine gk (k_alloc r0.ag qz_196 (fun c2 z0 F0 s0 D1 => ?_))
 have Q1 := s0.size
 have G1 := F0.lt
 refine gz (k_store (L' := ns (digits (sha (p)))) (cs := ns (digits (sha (p)))) s0.ag (eh c0 rfl) (eh c0 rfl) F0 (by kernel_rfl) (sz_eq sz_196 (Eq.trans (ns_length _) (digits_len _))) (one_ns _) (le_all (Eq.trans (ns_length _) List.length_replicate) (Eq.trans (ns_length _) (digits_len _))) (wr_all (Eq.trans (Eq.trans (ns_length _) List.length_replicate) (Eq.symm (Eq.trans (ns_length _) (digits_len _))))) (fun d0 i1 u0 => ?_))
 have R1 := u0.size
 refine nl <| e1 <| sk fun _ Y0 => rn <| gv (r_assign (v := .slice none 0 0) rfl) <| nl <| Y0 <| sk fun _ Z0 => sk fun _ a1 => rn <| gv (r_assign (v := nn 0) rfl) <| nl <| a1 <| bl <| wp_loop_s (σ := Nat) (I := fun (i : Nat) (a' : Act) (w' : World) => ∃ (m' : Ctx) (Ax0 : Option Addr) (cx0 : Nat) (Nx0 : Nat), a'.tmps.size = 29 ∧ a'.defers = [] ∧ i ≤ 36 ∧ Nx0 = i ∧ a'.tmps.getD 1 undef = nn k ∧ a'.tmps.getD 3 undef = .pointer (some ⟨A0, 0, none⟩) ∧ a'.tmps.getD 7 undef = .pointer (some ⟨z0, 0, none⟩) ∧ a'.tmps.getD 8 undef = .slice Ax0 Nx0 cx0 ∧ a'.tmps.getD 9 undef = nn i ∧ Fr (no) J0 d0 m' w' ∧ Own m' w' (d0.heap.size) Ax0 Nx0 cx0 23 32 (hcs (chL (sgf s k p) i))) (μ := fun i => 36 - i) (s₀ := 0) ?_ ?_
 · exact ⟨J0, none, 0, 0, ((ov_size _ _).trans c0), ((ov_defers _ _).trans V0), (by omega), (by omega), (gm c0 rfl rfl u1), (gh c0 rfl), (gh c0 rfl), (gh c0 rfl), (gh c0 rfl), (Fr.refl u0.ag), (Own.nil _ _ _ _ _)⟩
 ·
  intro i w1 p0 hI
  obtain ⟨i0, Ax034, cx035, Nx036, b0, C0, z1, A1, O0, P0, Q0, R0, o0, j0, w0⟩ := hI
  refine of_ov ?_
  have S1 := j0.size
  have nc_Ax034 := w0.nilc
  refine sk fun _ b1 => sk fun _ c1 => rn <| mw b0 o0 <| gv (r_lss (j := 36) (eh b0 rfl) rfl) <| nl <| c1 ?_
  by_cases D0 : i < 36
  ·
   refine ct (eb b0 rfl (decide_eq_true D0)) <| ws <| b1 <| sk fun _ d1 => bl ?_
   have g0 : Fr no i0 p0 i0 { p0 with drawn := p0.drawn + 1 } := Fr.drw j0.ag
   obtain ⟨k0, I0⟩ : ∃ w_, w_ = ({ p0 with drawn := p0.drawn + 1 } : World) := ⟨_, rfl⟩
   rw [← I0] at g0
   have U1 := g0.size
   refine wp_region_T mixed (fun wz => ∃ mz, Fr (no) i0 k0 mz wz) (fun wz => ∃ mz, Fr (ge d0.heap.size) i0 k0 mz wz) 11 ?_
   rw [← I0]
   show wpAnyT _ _ _ _ _ 13 _ _ _
   have e0 : Fr (no) i0 k0 i0 k0 := Fr.refl g0.ag
   have h0 : ∀ wz, (∃ mz, Fr (no) i0 k0 mz wz) → ∃ mz, Fr (ge d0.heap.size) i0 k0 mz wz := fun wz ⟨mz, hz⟩ => ⟨mz, hz.wk (fun x hx _ => hx.elim)⟩
   refine tk2 (i := 0) rfl rfl (fun _ _ => r_move (em b0 rfl rfl R0)) ⟨_, e0⟩ ?_
   have g1 := (((((G0.f0 r0).f0 s0).f1 u0 (by omega)).f0 j0).f0 g0)
   refine tk1 (i := 1) (b := false) rfl rfl h0 (fun wz ⟨mz, hz⟩ => lb (cs := hc s) (em b0 rfl rfl P0) (hz.ex g1.bk (show ¬ d0.heap.size ≤ A0 from by omega)) qr_23 sz_23) (tbF ⟨_, e0⟩) <| tk1 (i := 2) (b := false) rfl rfl h0 (fun _ _ => r_move (em b0 rfl rfl O0)) (tbF ⟨_, e0⟩) <| tk1 (i := 3) (b := false) rfl rfl h0 (fun _ _ => r_move (em b0 rfl rfl o0)) (tbF ⟨_, e0⟩) <| tk1 (i := 5) (b := false) rfl rfl h0 (fun _ _ => r_move (em b0 rfl rfl o0)) (tbF ⟨_, e0⟩) <| tk1 (i := 6) (b := false) rfl rfl h0 (fun _ _ => r_move (em b0 rfl rfl o0)) (tbF ⟨_, e0⟩) <| tk1 (i := 7) (b := false) rfl rfl h0 (fun _ _ => r_idxA (o' := i) (em b0 rfl rfl Q0) (eh b0 rfl) qa_196 (by omega) (by omega)) (tbF ⟨_, e0⟩) ?_
   have h1 := ((i1.f0 j0).f0 g0)
   have B1 := digits_le (sha p) i
   refine tk1 (i := 8) (b := false) rfl rfl h0 (fun wz ⟨mz, hz⟩ => r_load1 (v := nn ((digits (sha (p))).getD i 0)) (eh b0 rfl) (hz.ex h1.bk (show ¬ d0.heap.size ≤ z0 from by omega)) (ns_get (n := 36) (digits_len _) (by omega)) qr_3) (tbF ⟨_, e0⟩) <| ann (i := 4) (b := false) rfl rfl (k_cl (f86 g0.ag) rfl fn_86 (map_cons (eh b0 rfl) (map_cons (eh b0 rfl) (map_cons (eh b0 rfl) map_nil))) (fun X1 e2 k1 => ?_))
   obtain ⟨I1, rfl, l0⟩ := k1
   have K1 := l0.size
   have K0 := e0.t0 l0
   refine ⟨(tbF ⟨_, K0⟩), ?_⟩
   refine ann (i := 9) (b := false) rfl rfl (k_cl (f85 (a := 0) (b := (digits (sha (p))).getD i 0) l0.ag (by omega) (by omega)) rfl fn_85 (map_cons (eh b0 rfl) (map_cons (eh b0 rfl) (map_cons (v := nn 0) rfl (map_cons (eh b0 rfl) map_nil)))) (fun V1 Z1 H0 => ?_))
   rw [Nat.sub_zero] at H0
   obtain ⟨q1, rfl, m0⟩ := H0
   have L1 := m0.size
   have L0 := K0.t0 m0
   refine ⟨(tbF ⟨_, L0⟩), ?_⟩
   refine ann (i := 10) (b := false) rfl rfl (k_lit (e := 23) (L := hc (wk i (sec s k i) 0 ((digits (sha (p))).getD i 0))) m0.ag (pm_cons (eh b0 rfl) pm_nil) (by kernel_rfl) (fun a2 x1 E0 n0 C1 => ?_))
   have M1 := n0.size
   have M0 := L0.t0 n0
   have F1 := E0.lt
   refine ⟨(tbF ⟨_, M0⟩), ?_⟩
   have s1 : Fr (ge d0.heap.size) _ _ _ _ := M0.wk (fun x hx _ => hx.elim)
   have l1 := ((((w0.f0 g0).f0 l0).f0 m0).f0 n0)
   have y1 : ((chL (sgf s k p) i) ++ ([wk i (sec s k i) 0 ((digits (sha (p))).getD i 0)]) : List Bytes).length = Nx036 + 1 := (len_app (Eq.trans (chL_len _ _) (by omega)) rfl)
   refine ann (i := 11) (b := true) rfl rfl (k_append (base := d0.heap.size) (L := hcs (chL (sgf s k p) i)) (N := hcs ([wk i (sec s k i) 0 ((digits (sha (p))).getD i 0)])) n0.ag (eh b0 rfl) (eh b0 rfl) qs_27 qz_23 l1 (by have h_ := (E0.bk.src (L := hc (wk i (sec s k i) 0 ((digits (sha (p))).getD i 0))) (n := 1) (o := 0) (k := 32) (by kernel_rfl)); rw [← hcs_one] at h_; exact h_) (fun h => by cases h) (by rw [hcs_length, show ([wk i (sec s k i) 0 ((digits (sha (p))).getD i 0)] : List Bytes).length = 1 from rfl]) (one_hcs _) (by omega) (by decide) (by rw [maxLen_eq]; omega) (by omega) (fun S0 T0 b2 y0 x0 => ?_))
   have N1 := x0.size
   have N0 := s1.tr x0 (fun x hx => .inr (by have h_ : d0.heap.size ≤ x := hx; exact h_))
   rw [← hcs_append] at y0
   have J1 := y0.nilc
   refine ⟨(tbT ⟨_, N0⟩), ?_⟩
   refine tk1 (i := 12) (b := true) rfl rfl h0 (fun _ _ => r_assign (eh b0 rfl)) (tbT ⟨_, N0⟩) <| anyT_done (by kernel_rfl) ?_ _
   refine d1 <| rn <| mw b0 o0 <| gv (r_add (j := 1) (eh b0 rfl) rfl (by omega)) <| ms b0 rfl <| nl <| loop_back (s := i) ⟨i + 1, (show 36 - (i + 1) < 36 - (i) from (by omega)), ?_⟩
   exact ⟨q1, S0, T0, Nx036 + 1, ((ov_size _ _).trans b0), ((ov_defers _ _).trans C0), (by omega), (by omega), (gm b0 rfl rfl O0), (gm b0 rfl rfl P0), (gm b0 rfl rfl Q0), (gh b0 rfl), (gh b0 rfl), (((((j0.t0 g0).t0 l0).t0 m0).t0 n0).tg x0 (by omega)), y0⟩
  ·
   refine cf (eb b0 rfl (decide_eq_false D0)) <| we ?_
   have o1 : 36 = i := (by omega)
   subst o1
   have p1 : 36 = Nx036 := by omega
   subst p1
   refine Z0 <| sk fun _ X0 => rn <| mw b0 R0 <| ms b0 rfl <| nl <| X0 <| wp_ret <| ret_of (res1 rfl _ _ (gh b0 rfl)) ((ov_defers _ _).trans C0) ?_
   obtain ⟨r1, U0, n1⟩ := w0.fz j0.ag
   have B0 : Fr (ge d0.heap.size) _ _ _ _ := U0.wk (fun x hx _ => w0.at x hx)
   have O1 := B0.size
   exact ⟨r1, Ax034, cx035, rfl, ((((((cu0.t0 v0).t0 r0).t0 s0).tn u0 (by omega)).t0 j0).tg B0 (by omega)), n1⟩

theorem f165 {m : Ctx} {w : World} (ag : Ag m w) {A : Option Addr} {n c : Nat} {p : Bytes} {B : Option Addr} {d : Nat} {l : List Bytes} (hsl : Sl m A n c 1 (bv p)) (hp : p.length = n) (hn : n < 4294967296) (hsl2 : Sl m B 36 d 32 (hcs l)) (hl : l.length = 36) : Calls Tryz.prog 165 #[.slice A n c, .slice B 36 d] w (Ret fun v w' => ∃ m', v = .tuple #[H (sha (endsB (rcf l p) 36)), .bool true] ∧ Fr no m w m' w') := by
 refine enter Tryz.func165 rfl (fun x0 hT W0 => ?_)
 have c0 : x0.tmps.size = 33 := by rw [hT]; kernel_rfl
 have D1 : x0.tmps.getD 0 undef = .slice A n c := by rw [hT]; kernel_rfl
 have O0 : x0.tmps.getD 1 undef = .slice B 36 d := by rw [hT]; kernel_rfl
 clear hT
 have cu0 : Fr (no) m w m w := Fr.refl ag
 refine sk fun _ X0 => rn <| gk (k_alloc ag qz_23 (fun s2 y0 I0 q0 O1 => ?_))
 have e2 := q0.size
 have R1 := I0.lt
 refine gv (r_assign (v := .bool false) rfl) <| nl <| X0 <| sk fun _ h1 => sk fun _ i1 => rn <| mw c0 O0 <| gv (r_lenS (eh c0 rfl) rfl qu_27) <| gv (r_neq (j := 36) (eh c0 rfl) rfl) <| nl <| i1 <| ce c0 rfl <| ws <| h1 <| sk fun _ Y0 => rn <| mw c0 D1 ?_
 have v1 := (hsl.up q0)
 refine gk (k_cl (f137 q0.ag v1 hp (by omega)) rfl fn_137 (map_cons (eh c0 rfl) map_nil) (fun i2 n2 o1 => ?_))
 obtain ⟨K0, rfl, n0⟩ := o1
 have a2 := n0.size
 refine gk (k_alloc n0.ag qz_196 (fun r2 C0 H0 o0 N1 => ?_))
 have b2 := o0.size
 have Q1 := H0.lt
 refine gz (k_store (L' := ns (digits (sha (p)))) (cs := ns (digits (sha (p)))) o0.ag (eh c0 rfl) (eh c0 rfl) H0 (by kernel_rfl) (sz_eq sz_196 (Eq.trans (ns_length _) (digits_len _))) (one_ns _) (le_all (Eq.trans (ns_length _) List.length_replicate) (Eq.trans (ns_length _) (digits_len _))) (wr_all (Eq.trans (Eq.trans (ns_length _) List.length_replicate) (Eq.symm (Eq.trans (ns_length _) (digits_len _))))) (fun e0 m1 p0 => ?_))
 have c2 := p0.size
 refine nl <| Y0 <| sk fun _ a1 => rn <| gv (r_assign (v := .slice none 0 0) rfl) <| nl <| a1 <| sk fun _ b1 => sk fun _ c1 => rn <| gv (r_assign (v := nn 0) rfl) <| nl <| c1 <| bl <| wp_loop_s (σ := Nat) (I := fun (i : Nat) (a' : Act) (w' : World) => ∃ (m' : Ctx) (Ax0 : Option Addr) (cx0 : Nat) (Nx0 : Nat), a'.tmps.size = 33 ∧ a'.defers = [] ∧ i ≤ 36 ∧ Nx0 = i ∧ a'.tmps.getD 1 undef = .slice B 36 d ∧ a'.tmps.getD 4 undef = .pointer (some ⟨y0, 0, none⟩) ∧ a'.tmps.getD 6 undef = .pointer (some ⟨C0, 0, none⟩) ∧ a'.tmps.getD 7 undef = .slice Ax0 Nx0 cx0 ∧ a'.tmps.getD 8 undef = nn i ∧ Fr (no) K0 e0 m' w' ∧ Own m' w' (e0.heap.size) Ax0 Nx0 cx0 23 32 (hcs (chL (rcf l p) i))) (μ := fun i => 36 - i) (s₀ := 0) ?_ ?_
 · exact ⟨K0, none, 0, 0, ((ov_size _ _).trans c0), ((ov_defers _ _).trans W0), (by omega), (by omega), (gm c0 rfl rfl O0), (gh c0 rfl), (gh c0 rfl), (gh c0 rfl), (gh c0 rfl), (Fr.refl p0.ag), (Own.nil _ _ _ _ _)⟩
 ·
  intro i F1 s0 hI
  obtain ⟨j0, Ax036, cx037, Nx038, b0, E0, J1, K1, P0, B0, Q0, R0, r0, h0, w0⟩ := hI
  refine of_ov ?_
  have d2 := h0.size
  have nc_Ax036 := w0.nilc
  refine sk fun _ d1 => sk fun _ e1 => rn <| mw b0 r0 <| gv (r_lss (j := 36) (eh b0 rfl) rfl) <| nl <| e1 ?_
  by_cases F0 : i < 36
  ·
   refine ct (eb b0 rfl (decide_eq_true F0)) <| ws <| d1 <| sk fun _ g1 => bl ?_
   have i0 : Fr no j0 s0 j0 { s0 with drawn := s0.drawn + 1 } := Fr.drw h0.ag
   obtain ⟨k0, J0⟩ : ∃ w_, w_ = ({ s0 with drawn := s0.drawn + 1 } : World) := ⟨_, rfl⟩
   rw [← J0] at i0
   have g2 := i0.size
   refine wp_region_T mixed (fun wz => ∃ mz, Fr (no) j0 k0 mz wz) (fun wz => ∃ mz, Fr (ge e0.heap.size) j0 k0 mz wz) 11 ?_
   rw [← J0]
   show wpAnyT _ _ _ _ _ 13 _ _ _
   have d0 : Fr (no) j0 k0 j0 k0 := Fr.refl i0.ag
   have g0 : ∀ wz, (∃ mz, Fr (no) j0 k0 mz wz) → ∃ mz, Fr (ge e0.heap.size) j0 k0 mz wz := fun wz ⟨mz, hz⟩ => ⟨mz, hz.wk (fun x hx _ => hx.elim)⟩
   refine tk2 (i := 0) rfl rfl (fun _ _ => r_move (em b0 rfl rfl R0)) ⟨_, d0⟩ <| tk1 (i := 1) (b := false) rfl rfl g0 (fun _ _ => r_move (em b0 rfl rfl P0)) (tbF ⟨_, d0⟩) <| tk1 (i := 2) (b := false) rfl rfl g0 (fun _ _ => r_move (em b0 rfl rfl r0)) (tbF ⟨_, d0⟩) ?_
   have y1 := Fr.ll (Fr.ll (Fr.ll (Fr.ll (Fr.l2 q0 n0) o0) p0) h0) i0
   have s1 := hsl2.le y1
   obtain ⟨H1, B1, E1, rfl, q1, r1⟩ := s1.elem (by omega)
   refine tk1 (i := 3) (b := false) rfl rfl g0 (fun _ _ => r_idxS (o' := B1 + (i * 32)) (eh b0 rfl) (eh b0 rfl) qs_27 (by omega) (by omega)) (tbF ⟨_, d0⟩) <| tk1 (i := 4) (b := false) rfl rfl g0 (fun wz ⟨mz, hz⟩ => r_loadN (cs := hc ((l).getD i [])) (eh b0 rfl) (hz.ag _ _ (hz.le _ _ q1)) (Eq.trans (rd_sub r1 (by omega)) (hcs_get (i := i) hl (by omega))) (by kernel_rfl) qr_23 sz_23) (tbF ⟨_, d0⟩) <| tk1 (i := 5) (b := false) rfl rfl g0 (fun _ _ => r_move (em b0 rfl rfl r0)) (tbF ⟨_, d0⟩) <| tk1 (i := 6) (b := false) rfl rfl g0 (fun _ _ => r_move (em b0 rfl rfl r0)) (tbF ⟨_, d0⟩) <| tk1 (i := 7) (b := false) rfl rfl g0 (fun _ _ => r_idxA (o' := i) (em b0 rfl rfl Q0) (eh b0 rfl) qa_196 (by omega) (by omega)) (tbF ⟨_, d0⟩) ?_
   have j1 := ((m1.f0 h0).f0 i0)
   have L1 := digits_le (sha p) i
   refine tk1 (i := 8) (b := false) rfl rfl g0 (fun wz ⟨mz, hz⟩ => r_load1 (v := nn ((digits (sha (p))).getD i 0)) (eh b0 rfl) (hz.ex j1.bk (show ¬ e0.heap.size ≤ C0 from by omega)) (ns_get (n := 36) (digits_len _) (by omega)) qr_3) (tbF ⟨_, d0⟩) <| ann (i := 9) (b := false) rfl rfl (k_cl (f85 (a := (digits (sha (p))).getD i 0) (b := 3) i0.ag (by omega) (by omega)) rfl fn_85 (map_cons (eh b0 rfl) (map_cons (eh b0 rfl) (map_cons (eh b0 rfl) (map_cons (v := nn 3) rfl map_nil)))) (fun h2 k2 n1 => ?_))
   obtain ⟨z1, rfl, l0⟩ := n1
   have U1 := l0.size
   have L0 := d0.t0 l0
   refine ⟨(tbF ⟨_, L0⟩), ?_⟩
   refine ann (i := 10) (b := false) rfl rfl (k_lit (e := 23) (L := hc (wk i ((l).getD i []) ((digits (sha (p))).getD i 0) (3 - ((digits (sha (p))).getD i 0)))) l0.ag (pm_cons (eh b0 rfl) pm_nil) (by kernel_rfl) (fun m2 G1 G0 m0 M1 => ?_))
   have V1 := m0.size
   have M0 := L0.t0 m0
   have P1 := G0.lt
   refine ⟨(tbF ⟨_, M0⟩), ?_⟩
   have C1 : Fr (ge e0.heap.size) _ _ _ _ := M0.wk (fun x hx _ => hx.elim)
   have t1 := (((w0.f0 i0).f0 l0).f0 m0)
   have I1 : ((chL (rcf l p) i) ++ ([wk i ((l).getD i []) ((digits (sha (p))).getD i 0) (3 - ((digits (sha (p))).getD i 0))]) : List Bytes).length = Nx038 + 1 := (len_app (Eq.trans (chL_len _ _) (by omega)) rfl)
   refine ann (i := 11) (b := true) rfl rfl (k_append (base := e0.heap.size) (L := hcs (chL (rcf l p) i)) (N := hcs ([wk i ((l).getD i []) ((digits (sha (p))).getD i 0) (3 - ((digits (sha (p))).getD i 0))])) m0.ag (eh b0 rfl) (eh b0 rfl) qs_27 qz_23 t1 (by have h_ := (G0.bk.src (L := hc (wk i ((l).getD i []) ((digits (sha (p))).getD i 0) (3 - ((digits (sha (p))).getD i 0)))) (n := 1) (o := 0) (k := 32) (by kernel_rfl)); rw [← hcs_one] at h_; exact h_) (fun h => by cases h) (by rw [hcs_length, show ([wk i ((l).getD i []) ((digits (sha (p))).getD i 0) (3 - ((digits (sha (p))).getD i 0))] : List Bytes).length = 1 from rfl]) (one_hcs _) (by omega) (by decide) (by rw [maxLen_eq]; omega) (by omega) (fun S0 T0 o2 A0 z0 => ?_))
   have W1 := z0.size
   have N0 := C1.tr z0 (fun x hx => .inr (by have h_ : e0.heap.size ≤ x := hx; exact h_))
   rw [← hcs_append] at A0
   have T1 := A0.nilc
   refine ⟨(tbT ⟨_, N0⟩), ?_⟩
   refine tk1 (i := 12) (b := true) rfl rfl g0 (fun _ _ => r_assign (eh b0 rfl)) (tbT ⟨_, N0⟩) <| anyT_done (by kernel_rfl) ?_ _
   refine g1 <| rn <| mw b0 r0 <| gv (r_add (j := 1) (eh b0 rfl) rfl (by omega)) <| ms b0 rfl <| nl <| loop_back (s := i) ⟨i + 1, (show 36 - (i + 1) < 36 - (i) from (by omega)), ?_⟩
   exact ⟨z1, S0, T0, Nx038 + 1, ((ov_size _ _).trans b0), ((ov_defers _ _).trans E0), (by omega), (by omega), (gm b0 rfl rfl P0), (gm b0 rfl rfl B0), (gm b0 rfl rfl Q0), (gh b0 rfl), (gh b0 rfl), ((((h0.t0 i0).t0 l0).t0 m0).tg z0 (by omega)), A0⟩
  ·
   refine cf (eb b0 rfl (decide_eq_false F0)) <| we ?_
   have w1 : 36 = i := (by omega)
   subst w1
   have x1 : 36 = Nx038 := by omega
   subst x1
   refine b1 <| sk fun _ Z0 => rn <| mw b0 R0 ?_
   obtain ⟨S1, U0, u1⟩ := w0.fz h0.ag
   have u0 : Fr (ge e0.heap.size) _ _ _ _ := U0.wk (fun x hx _ => w0.at x hx)
   have X1 := u0.size
   refine gk (k_cl (f87 u0.ag u1 (Eq.trans (chL_len _ _) (by decide)) (by omega)) rfl fn_87 (map_cons (eh b0 rfl) map_nil) (fun j2 p2 p1 => ?_))
   obtain ⟨A1, rfl, v0⟩ := p1
   have Y1 := v0.size
   have V0 := n0.t0 o0
   have k1 := (((((I0.f0 V0).f1 p0 (by omega)).f0 h0).fs u0 (show ¬ e0.heap.size ≤ y0 from by omega)).f0 v0)
   refine gz (kt (L' := hc (sha (endsB (fun i => (chL (rcf l p) 36).getD i []) 36))) v0.ag (em b0 rfl rfl B0) (eh b0 rfl) k1 sz_23 (fun q2 l1 D0 => ?_))
   have Z1 := D0.size
   refine gv (r_assign (v := .bool true) rfl) <| nl <| Z0 <| wp_ret <| ret_of (res2ct (b := y0) (n := 32) (cs := hc (sha (endsB (fun i => (chL (rcf l p) 36).getD i []) 36))) (u := .bool true) rfl _ _ (gm b0 rfl rfl B0) (gh b0 rfl) l1.bk (by kernel_rfl) (by kernel_rfl) qr_23 sz_23) ((ov_defers _ _).trans E0) ?_
   exact ⟨A1, congrArg (fun x => Value.tuple #[H x, .bool true]) (rec_eq (by omega)), ((((((((cu0.t0 q0).t0 n0).t0 o0).tn p0 (by omega)).t0 h0).tg u0 (by omega)).t0 v0).tn D0 (by omega))⟩

end Go.Proofs.YtiggfalelcepbaaGreatDoor

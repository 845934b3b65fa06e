/- SHA-256, chains, trees, keys, records, envelopes as plain functions; their laws. No program text. -/
import Derived.Test.YtiggfalelcepbaaGreatDoorK4
import Derived.Test.YtiggfalelcepbaaGreatDoorK5
import Derived.Test.YtiggfalelcepbaaGreatDoorK6
import Derived.Test.YtiggfalelcepbaaGreatDoorK7
namespace Go.Proofs.YtiggfalelcepbaaGreatDoor
open Go
def rotr (x : UInt32) (n : Nat) : UInt32 := (x >>> UInt32.ofNat n) ||| (x <<< UInt32.ofNat (32 - n))
def sS0 (x : UInt32) : UInt32 := (rotr x 7 ^^^ rotr x 18) ^^^ (x >>> UInt32.ofNat 3)
def sS1 (x : UInt32) : UInt32 := (rotr x 17 ^^^ rotr x 19) ^^^ (x >>> UInt32.ofNat 10)
def sB0 (x : UInt32) : UInt32 := (rotr x 2 ^^^ rotr x 13) ^^^ rotr x 22
def sB1 (x : UInt32) : UInt32 := (rotr x 6 ^^^ rotr x 11) ^^^ rotr x 25
def sCh (x y z : UInt32) : UInt32 := (x &&& y) ^^^ ((~~~x) &&& z)
def sMj (x y z : UInt32) : UInt32 := ((x &&& y) ^^^ (x &&& z)) ^^^ (y &&& z)
end Go.Proofs.YtiggfalelcepbaaGreatDoor
namespace Go.Proofs.YtiggfalelcepbaaGreatDoor
open Go
def kT : List UInt32 := [1116352408, 1899447441, 3049323471, 3921009573, 961987163, 1508970993, 2453635748, 2870763221, 3624381080, 310598401, 607225278, 1426881987, 1925078388, 2162078206, 2614888103, 3248222580, 3835390401, 4022224774, 264347078, 604807628, 770255983, 1249150122, 1555081692, 1996064986, 2554220882, 2821834349, 2952996808, 3210313671, 3336571891, 3584528711, 113926993, 338241895, 666307205, 773529912, 1294757372, 1396182291, 1695183700, 1986661051, 2177026350, 2456956037, 2730485921, 2820302411, 3259730800, 3345764771, 3516065817, 3600352804, 4094571909, 275423344, 430227734, 506948616, 659060556, 883997877, 958139571, 1322822218, 1537002063, 1747873779, 1955562222, 2024104815, 2227730452, 2361852424, 2428436474, 2756734187, 3204031479, 3329325298]
theorem kT_len : kT.length = 64 := rfl
def word (p : Bytes) (i : Nat) : UInt32 :=
  ((((p.getD (4 * i) 0).toUInt32 <<< UInt32.ofNat 24) ||| ((p.getD (4 * i + 1) 0).toUInt32 <<< UInt32.ofNat 16)) ||| ((p.getD (4 * i + 2) 0).toUInt32 <<< UInt32.ofNat 8)) ||| (p.getD (4 * i + 3) 0).toUInt32
def wA (p : Bytes) : Nat → List UInt32
  | 0 => List.replicate 64 0
  | i + 1 => (wA p i).set i (word p i)
theorem wA_len (p : Bytes) (i : Nat) : (wA p i).length = 64 := by
  induction i with
  | zero => rfl
  | succ i ih => simp [wA, ih]
def wBs (W : List UInt32) (i : Nat) : List UInt32 := W.set i (((W.getD (i - 16) 0 + sS0 (W.getD (i - 15) 0)) + W.getD (i - 7) 0) + sS1 (W.getD (i - 2) 0))
def wB (p : Bytes) : Nat → List UInt32
  | 0 => wA p 16
  | j + 1 => wBs (wB p j) (16 + j)
theorem wB_len (p : Bytes) (i : Nat) : (wB p i).length = 64 := by
  induction i with
  | zero => exact wA_len p 16
  | succ i ih => simp [wB, wBs, ih]
def vT (v : List UInt32) (k w : UInt32) : UInt32 := (((v.getD 7 0 + sB1 (v.getD 4 0)) + sCh (v.getD 4 0) (v.getD 5 0) (v.getD 6 0)) + k) + w
def vU (v : List UInt32) : UInt32 := sB0 (v.getD 0 0) + sMj (v.getD 0 0) (v.getD 1 0) (v.getD 2 0)
def vS (v : List UInt32) (k w : UInt32) : List UInt32 :=
  [vT v k w + vU v, v.getD 0 0, v.getD 1 0, v.getD 2 0, v.getD 3 0 + vT v k w, v.getD 4 0, v.getD 5 0, v.getD 6 0]
def vC (s : List UInt32) (W : List UInt32) : Nat → List UInt32
  | 0 => s
  | i + 1 => vS (vC s W i) (kT.getD i 0) (W.getD i 0)
theorem vC_len {s : List UInt32} (h : s.length = 8) (W : List UInt32) (i : Nat) : (vC s W i).length = 8 := by
  cases i with
  | zero => exact h
  | succ i => rfl
def sD (s v : List UInt32) : Nat → List UInt32
  | 0 => s
  | i + 1 => (sD s v i).set i ((sD s v i).getD i 0 + v.getD i 0)
theorem sD_len {s : List UInt32} (h : s.length = 8) (v : List UInt32) (i : Nat) : (sD s v i).length = 8 := by
  induction i with
  | zero => exact h
  | succ i ih => simp [sD, ih]
def compress (s : List UInt32) (p : Bytes) : List UInt32 := sD s (vC s (wB p 48) 64) 8
theorem compress_len {s : List UInt32} (h : s.length = 8) (p : Bytes) : (compress s p).length = 8 := sD_len h _ _
end Go.Proofs.YtiggfalelcepbaaGreatDoor
namespace Go.Proofs.YtiggfalelcepbaaGreatDoor
open Go
def iv : List UInt32 := [1779033703, 3144134277, 1013904242, 2773480762, 1359893119, 2600822924, 528734635, 1541459225]
theorem iv_len : iv.length = 8 := rfl
def dr (m : Bytes) : Nat → Bytes
  | 0 => m
  | i + 1 => (dr m i).drop 64
theorem dr_eq (m : Bytes) (i : Nat) : dr m i = m.drop (64 * i) := by
  induction i with
  | zero => rfl
  | succ i ih => rw [dr, ih, List.drop_drop, Nat.mul_succ]
theorem dr_len (m : Bytes) (i : Nat) : (dr m i).length = m.length - 64 * i := by rw [dr_eq, List.length_drop]
/-- The digest under way behind so many blocks. -/
def stt (m : Bytes) : Nat → List UInt32
  | 0 => iv
  | i + 1 => compress (stt m i) (dr m i)
theorem stt_len (m : Bytes) (i : Nat) : (stt m i).length = 8 := by
  induction i with
  | zero => rfl
  | succ i ih => exact compress_len ih _
/-- The bytes, the mark, zeros. -/
def zs (p : Bytes) : Nat → Bytes
  | 0 => p ++ [128]
  | i + 1 => zs p i ++ [0]
theorem zs_eq (p : Bytes) (i : Nat) : zs p i = p ++ 128 :: List.replicate i 0 := by
  induction i with
  | zero => rfl
  | succ i ih => rw [zs, ih, List.replicate_succ', List.append_assoc, List.cons_append]
theorem zs_len (p : Bytes) (i : Nat) : (zs p i).length = p.length + 1 + i := by rw [zs_eq]; simp; omega
def padz (p : Bytes) (n z : Nat) : Bytes := ((((((((zs p z) ++ [UInt8.ofNat ((n * 8) / 2 ^ 56)]) ++ [UInt8.ofNat ((n * 8) / 2 ^ 48)]) ++ [UInt8.ofNat ((n * 8) / 2 ^ 40)]) ++ [UInt8.ofNat ((n * 8) / 2 ^ 32)]) ++ [UInt8.ofNat ((n * 8) / 2 ^ 24)]) ++ [UInt8.ofNat ((n * 8) / 2 ^ 16)]) ++ [UInt8.ofNat ((n * 8) / 2 ^ 8)]) ++ [UInt8.ofNat ((n * 8) / 2 ^ 0)]
def zn (n : Nat) : Nat := (119 - n % 64) % 64
def pad (p : Bytes) : Bytes := padz p p.length (zn p.length)
theorem padz_len (p : Bytes) (n z : Nat) : (padz p n z).length = p.length + 1 + z + 8 := by unfold padz; simp [zs_len]
def outA (s : List UInt32) : Nat → Bytes
  | 0 => List.replicate 32 0
  | i + 1 => ((((outA s i).set (4 * i) ((s.getD i 0) >>> UInt32.ofNat 24).toUInt8).set (4 * i + 1) ((s.getD i 0) >>> UInt32.ofNat 16).toUInt8).set (4 * i + 2) ((s.getD i 0) >>> UInt32.ofNat 8).toUInt8).set (4 * i + 3) (s.getD i 0).toUInt8
def outB (s : List UInt32) : Nat → Bytes
  | 0 => List.replicate 32 0
  | i + 1 => (outB s i).set i ((s.getD (i / 4) 0) >>> UInt32.ofNat (24 - 8 * (i % 4))).toUInt8
theorem outA_len (s : List UInt32) (i : Nat) : (outA s i).length = 32 := by
  induction i with
  | zero => rfl
  | succ i ih => simp [outA, ih]
theorem outB_len (s : List UInt32) (i : Nat) : (outB s i).length = 32 := by
  induction i with
  | zero => rfl
  | succ i ih => simp [outB, ih]
/-- SHA-256. -/
def shaR (p : Bytes) : Bytes := outB (stt (pad p) ((p.length + 1 + zn p.length + 8) / 64)) 32
/-- The same behind a recursion that no check of terms looks through: it is known by its law alone. -/
structure Bx where
  n : Nat
theorem bx_wf : WellFounded (fun a b : Bx => a.n < b.n) := Classical.choice ⟨InvImage.wf Bx.n Nat.lt_wfRel.wf⟩
instance : WellFoundedRelation Bx := ⟨_, bx_wf⟩
def shaS (n : Nat) (p : Bytes) : Bytes := if _h : n = 0 then shaR p else shaS (n - 1) p
 termination_by Bx.mk n
 decreasing_by
  show n - 1 < n
  omega
def sha (p : Bytes) : Bytes := shaS 0 p
theorem sha_eq (p : Bytes) : sha p = shaR p := by unfold sha; rw [shaS]; rfl
theorem sha_len (p : Bytes) : (sha p).length = 32 := by rw [sha_eq]; exact outB_len _ _
def lastA (q : Bytes) (r : Nat) : Bytes := (q ++ (List.replicate 128 0).drop r).set r 128
def last64 (q : Bytes) (r n : Nat) : Bytes := ((((((((lastA q r).set 63 (UInt8.ofNat ((n * 2 ^ 3) / 2 ^ 0))).set 62 (UInt8.ofNat ((n * 2 ^ 3) / 2 ^ 8))).set 61 (UInt8.ofNat ((n * 2 ^ 3) / 2 ^ 16))).set 60 (UInt8.ofNat ((n * 2 ^ 3) / 2 ^ 24))).set 59 (UInt8.ofNat ((n * 2 ^ 3) / 2 ^ 32))).set 58 (UInt8.ofNat ((n * 2 ^ 3) / 2 ^ 40))).set 57 (UInt8.ofNat ((n * 2 ^ 3) / 2 ^ 48))).set 56 (UInt8.ofNat ((n * 2 ^ 3) / 2 ^ 56))
def last128 (q : Bytes) (r n : Nat) : Bytes := ((((((((lastA q r).set 127 (UInt8.ofNat ((n * 2 ^ 3) / 2 ^ 0))).set 126 (UInt8.ofNat ((n * 2 ^ 3) / 2 ^ 8))).set 125 (UInt8.ofNat ((n * 2 ^ 3) / 2 ^ 16))).set 124 (UInt8.ofNat ((n * 2 ^ 3) / 2 ^ 24))).set 123 (UInt8.ofNat ((n * 2 ^ 3) / 2 ^ 32))).set 122 (UInt8.ofNat ((n * 2 ^ 3) / 2 ^ 40))).set 121 (UInt8.ofNat ((n * 2 ^ 3) / 2 ^ 48))).set 120 (UInt8.ofNat ((n * 2 ^ 3) / 2 ^ 56))
theorem last64_len {q : Bytes} {r n : Nat} (h : q.length = r) (hr : r ≤ 128) : (last64 q r n).length = 128 := by unfold last64 lastA; simp; omega
theorem last128_len {q : Bytes} {r n : Nat} (h : q.length = r) (hr : r ≤ 128) : (last128 q r n).length = 128 := by unfold last128 lastA; simp; omega
end Go.Proofs.YtiggfalelcepbaaGreatDoor
namespace Go.Proofs.YtiggfalelcepbaaGreatDoor
open Go
theorem word_congr {a b : Bytes} (h : ∀ k, k < 64 → a.getD k 0 = b.getD k 0) {i : Nat} (hi : i < 16) : word a i = word b i := by
  unfold word
  rw [h (4 * i) (by omega), h (4 * i + 1) (by omega), h (4 * i + 2) (by omega), h (4 * i + 3) (by omega)]
theorem wA_congr {a b : Bytes} (h : ∀ k, k < 64 → a.getD k 0 = b.getD k 0) : ∀ i, i ≤ 16 → wA a i = wA b i
  | 0, _ => rfl
  | i + 1, hi => by rw [wA, wA, wA_congr h i (by omega), word_congr h (by omega)]
theorem wB_congr {a b : Bytes} (h : ∀ k, k < 64 → a.getD k 0 = b.getD k 0) : ∀ i, wB a i = wB b i
  | 0 => wA_congr h 16 (by omega)
  | i + 1 => by rw [wB, wB, wB_congr h i]
theorem compress_congr {a b : Bytes} (h : ∀ k, k < 64 → a.getD k 0 = b.getD k 0) (s : List UInt32) : compress s a = compress s b := by
  unfold compress
  rw [wB_congr h]
theorem cmp_td {m : Bytes} {i : Nat} {s : List UInt32} : compress s ((m.take (64 * i + 64)).drop (64 * i)) = compress s (dr m i) := by
  apply compress_congr
  intro k hk
  rw [dr_eq, List.getD_eq_getElem?_getD, List.getD_eq_getElem?_getD, List.getElem?_drop, List.getElem?_drop, List.getElem?_take, if_pos (by omega)]
end Go.Proofs.YtiggfalelcepbaaGreatDoor
namespace Go.Proofs.YtiggfalelcepbaaGreatDoor
open Go
theorem getD_set8 (l : Bytes) (i k : Nat) (v : UInt8) : (l.set i v).getD k 0 = if i = k ∧ k < l.length then v else l.getD k 0 := by
  simp only [List.getD_eq_getElem?_getD, List.getElem?_set]
  by_cases h : i = k
  · subst h
    by_cases h2 : i < l.length
    · simp [h2]
    · simp [h2, List.getElem?_eq_none (Nat.le_of_not_lt h2)]
  · simp [h]
/-- What follows the bytes. -/
def tl (n z : Nat) : Bytes := 128 :: (List.replicate z 0 ++ [UInt8.ofNat (n * 8 / 2 ^ 56), UInt8.ofNat (n * 8 / 2 ^ 48), UInt8.ofNat (n * 8 / 2 ^ 40), UInt8.ofNat (n * 8 / 2 ^ 32), UInt8.ofNat (n * 8 / 2 ^ 24), UInt8.ofNat (n * 8 / 2 ^ 16), UInt8.ofNat (n * 8 / 2 ^ 8), UInt8.ofNat (n * 8 / 2 ^ 0)])
theorem padz_eq (p : Bytes) (n z : Nat) : padz p n z = p ++ tl n z := by
  unfold padz tl
  rw [zs_eq]
  simp
theorem stt_pre {p t : Bytes} : ∀ i, 64 * i ≤ p.length → stt (p ++ t) i = stt p i
  | 0, _ => rfl
  | i + 1, h => by
    rw [stt, stt, stt_pre i (by omega)]
    apply compress_congr
    intro k hk
    rw [dr_eq, dr_eq, List.getD_eq_getElem?_getD, List.getD_eq_getElem?_getD, List.getElem?_drop, List.getElem?_drop, List.getElem?_append_left (by omega)]
theorem dr_pre {p t : Bytes} {i : Nat} (h : 64 * i ≤ p.length) : dr (p ++ t) i = dr p i ++ t := by
  rw [dr_eq, dr_eq, List.drop_append_of_le_length h]
theorem getD_app (q t : Bytes) (k : Nat) : (q ++ t).getD k 0 = if k < q.length then q.getD k 0 else t.getD (k - q.length) 0 := by
  simp only [List.getD_eq_getElem?_getD, List.getElem?_append]
  split <;> rfl
theorem getD_rep (n k : Nat) : (List.replicate n (0 : UInt8)).getD k 0 = 0 := by
  simp only [List.getD_eq_getElem?_getD, List.getElem?_replicate]
  split <;> rfl
theorem getD_drop (q : Bytes) (n k : Nat) : (q.drop n).getD k 0 = q.getD (n + k) 0 := by
  simp only [List.getD_eq_getElem?_getD, List.getElem?_drop]
theorem getD_cons (x : UInt8) (q : Bytes) (k : Nat) : (x :: q).getD k 0 = if k = 0 then x else q.getD (k - 1) 0 := by
  cases k <;> simp
theorem lastA_getD {q : Bytes} {r : Nat} (hq : q.length = r) (hr : r < 64) (k : Nat) : (lastA q r).getD k 0 = if k < r then q.getD k 0 else if k = r then 128 else 0 := by
  unfold lastA
  rw [getD_set8, getD_app, getD_drop, getD_rep, List.length_append, List.length_drop, List.length_replicate, hq]
  by_cases h1 : k < r
  · simp [h1, show ¬ r = k by omega]
  · by_cases h2 : k = r
    · subst h2; simp; omega
    · simp [h1, h2, Ne.symm h2]
theorem tl_getD (n z k : Nat) : (tl n z).getD k 0 = if k = 0 then 128 else if k ≤ z then 0 else
    [UInt8.ofNat (n * 8 / 2 ^ 56), UInt8.ofNat (n * 8 / 2 ^ 48), UInt8.ofNat (n * 8 / 2 ^ 40), UInt8.ofNat (n * 8 / 2 ^ 32), UInt8.ofNat (n * 8 / 2 ^ 24), UInt8.ofNat (n * 8 / 2 ^ 16), UInt8.ofNat (n * 8 / 2 ^ 8), UInt8.ofNat (n * 8 / 2 ^ 0)].getD (k - 1 - z) 0 := by
  unfold tl
  rw [getD_cons, getD_app, getD_rep, List.length_replicate]
  by_cases h : k = 0
  · simp [h]
  · by_cases h2 : k ≤ z
    · simp [h, h2, show k - 1 < z by omega]
    · simp [h, h2, show ¬ k - 1 < z by omega]
theorem lastA_len {q : Bytes} {r : Nat} (h : q.length = r) (hr : r ≤ 128) : (lastA q r).length = 128 := by unfold lastA; simp; omega
theorem last64_getD {q : Bytes} {r n : Nat} (hq : q.length = r) (hr : r < 56) {k : Nat} (hk : k < 64) : (last64 q r n).getD k 0 = (q ++ tl n (55 - r)).getD k 0 := by
  rw [getD_app, tl_getD, hq]
  unfold last64
  simp only [getD_set8, List.length_set, lastA_len hq (by omega : r ≤ 128)]
  rw [lastA_getD hq (by omega)]
  rcases (by omega : k = 56 ∨ k = 57 ∨ k = 58 ∨ k = 59 ∨ k = 60 ∨ k = 61 ∨ k = 62 ∨ k = 63 ∨ k < 56) with h | h | h | h | h | h | h | h | h
  · subst h; simp [show ¬ 56 < r by omega, show ¬ 56 - r = 0 by omega, show ¬ 56 - r ≤ 55 - r by omega, show 56 - r - 1 - (55 - r) = 0 by omega]
  · subst h; simp [show ¬ 57 < r by omega, show ¬ 57 - r = 0 by omega, show ¬ 57 - r ≤ 55 - r by omega, show 57 - r - 1 - (55 - r) = 1 by omega]
  · subst h; simp [show ¬ 58 < r by omega, show ¬ 58 - r = 0 by omega, show ¬ 58 - r ≤ 55 - r by omega, show 58 - r - 1 - (55 - r) = 2 by omega]
  · subst h; simp [show ¬ 59 < r by omega, show ¬ 59 - r = 0 by omega, show ¬ 59 - r ≤ 55 - r by omega, show 59 - r - 1 - (55 - r) = 3 by omega]
  · subst h; simp [show ¬ 60 < r by omega, show ¬ 60 - r = 0 by omega, show ¬ 60 - r ≤ 55 - r by omega, show 60 - r - 1 - (55 - r) = 4 by omega]
  · subst h; simp [show ¬ 61 < r by omega, show ¬ 61 - r = 0 by omega, show ¬ 61 - r ≤ 55 - r by omega, show 61 - r - 1 - (55 - r) = 5 by omega]
  · subst h; simp [show ¬ 62 < r by omega, show ¬ 62 - r = 0 by omega, show ¬ 62 - r ≤ 55 - r by omega, show 62 - r - 1 - (55 - r) = 6 by omega]
  · subst h; simp [show ¬ 63 < r by omega, show ¬ 63 - r = 0 by omega, show ¬ 63 - r ≤ 55 - r by omega, show 63 - r - 1 - (55 - r) = 7 by omega]
  · simp only [show ¬ 56 = k by omega, show ¬ 57 = k by omega, show ¬ 58 = k by omega, show ¬ 59 = k by omega, show ¬ 60 = k by omega, show ¬ 61 = k by omega, show ¬ 62 = k by omega, show ¬ 63 = k by omega, false_and, if_false]
    by_cases h1 : k < r
    · simp [h1]
    · by_cases h2 : k = r
      · subst h2; simp
      · simp [h1, h2, show ¬ k - r = 0 by omega, show k - r ≤ 55 - r by omega]
theorem last128_getD {q : Bytes} {r n : Nat} (hq : q.length = r) (hr : 56 ≤ r) (hr2 : r < 64) {k : Nat} (hk : k < 128) : (last128 q r n).getD k 0 = (q ++ tl n (119 - r)).getD k 0 := by
  rw [getD_app, tl_getD, hq]
  unfold last128
  simp only [getD_set8, List.length_set, lastA_len hq (by omega : r ≤ 128)]
  rw [lastA_getD hq (by omega)]
  rcases (by omega : k = 120 ∨ k = 121 ∨ k = 122 ∨ k = 123 ∨ k = 124 ∨ k = 125 ∨ k = 126 ∨ k = 127 ∨ k < 120) with h | h | h | h | h | h | h | h | h
  · subst h; simp [show ¬ 120 < r by omega, show ¬ 120 - r = 0 by omega, show ¬ 120 - r ≤ 119 - r by omega, show 120 - r - 1 - (119 - r) = 0 by omega]
  · subst h; simp [show ¬ 121 < r by omega, show ¬ 121 - r = 0 by omega, show ¬ 121 - r ≤ 119 - r by omega, show 121 - r - 1 - (119 - r) = 1 by omega]
  · subst h; simp [show ¬ 122 < r by omega, show ¬ 122 - r = 0 by omega, show ¬ 122 - r ≤ 119 - r by omega, show 122 - r - 1 - (119 - r) = 2 by omega]
  · subst h; simp [show ¬ 123 < r by omega, show ¬ 123 - r = 0 by omega, show ¬ 123 - r ≤ 119 - r by omega, show 123 - r - 1 - (119 - r) = 3 by omega]
  · subst h; simp [show ¬ 124 < r by omega, show ¬ 124 - r = 0 by omega, show ¬ 124 - r ≤ 119 - r by omega, show 124 - r - 1 - (119 - r) = 4 by omega]
  · subst h; simp [show ¬ 125 < r by omega, show ¬ 125 - r = 0 by omega, show ¬ 125 - r ≤ 119 - r by omega, show 125 - r - 1 - (119 - r) = 5 by omega]
  · subst h; simp [show ¬ 126 < r by omega, show ¬ 126 - r = 0 by omega, show ¬ 126 - r ≤ 119 - r by omega, show 126 - r - 1 - (119 - r) = 6 by omega]
  · subst h; simp [show ¬ 127 < r by omega, show ¬ 127 - r = 0 by omega, show ¬ 127 - r ≤ 119 - r by omega, show 127 - r - 1 - (119 - r) = 7 by omega]
  · simp only [show ¬ 120 = k by omega, show ¬ 121 = k by omega, show ¬ 122 = k by omega, show ¬ 123 = k by omega, show ¬ 124 = k by omega, show ¬ 125 = k by omega, show ¬ 126 = k by omega, show ¬ 127 = k by omega, false_and, if_false]
    by_cases h1 : k < r
    · simp [h1]
    · by_cases h2 : k = r
      · subst h2; simp
      · simp [h1, h2, show ¬ k - r = 0 by omega, show k - r ≤ 119 - r by omega]
theorem out_eq (s : List UInt32) : outA s 8 = outB s 32 := by rfl
theorem sha64 {p : Bytes} {n r : Nat} (hp : p.length = n) (hr : r + 64 * (n / 64) = n) (h : ¬ 56 ≤ r) :
    outA (compress (stt p (n / 64)) (last64 (dr p (n / 64)) r n)) 8 = sha p := by
  subst hp
  have hz : zn p.length = 55 - r := by unfold zn; omega
  have hN : (p.length + 1 + zn p.length + 8) / 64 = p.length / 64 + 1 := by rw [hz]; omega
  rw [sha_eq]
  unfold shaR
  rw [out_eq, hN, stt]
  unfold pad
  rw [padz_eq, stt_pre _ (by omega), dr_pre (by omega), hz]
  refine congrArg (fun s => outB s 32) ?_
  apply compress_congr
  intro k hk
  exact last64_getD (by rw [dr_len]; omega) (by omega) hk
theorem sha128 {p : Bytes} {n r : Nat} (hp : p.length = n) (hr : r + 64 * (n / 64) = n) (h : 56 ≤ r) (h2 : r < 64) :
    outA (compress (compress (stt p (n / 64)) (last128 (dr p (n / 64)) r n)) ((last128 (dr p (n / 64)) r n).drop 64)) 8 = sha p := by
  subst hp
  have hz : zn p.length = 119 - r := by unfold zn; omega
  have hN : (p.length + 1 + zn p.length + 8) / 64 = p.length / 64 + 1 + 1 := by rw [hz]; omega
  have hq : (dr p (p.length / 64)).length = r := by rw [dr_len]; omega
  rw [sha_eq]
  unfold shaR
  rw [out_eq, hN, stt, stt, dr]
  unfold pad
  rw [padz_eq, stt_pre _ (by omega), dr_pre (by omega), hz]
  refine congrArg (fun s => outB s 32) ?_
  rw [compress_congr (a := last128 (dr p (p.length / 64)) r p.length) (fun k hk => last128_getD hq h h2 (by omega))]
  apply compress_congr
  intro k hk
  rw [getD_drop, getD_drop]
  exact last128_getD hq h h2 (by omega)
end Go.Proofs.YtiggfalelcepbaaGreatDoor
namespace Go.Proofs.YtiggfalelcepbaaGreatDoor
open Go
/-- A chain, from place a on, so many steps. -/
def wk (c : Nat) (h : Bytes) (a : Nat) : Nat → Bytes
  | 0 => h
  | i + 1 => sha ([1, UInt8.ofNat c, UInt8.ofNat (a + i)] ++ n32 (wk c h a i))
def sec (s : Bytes) (n c : Nat) : Bytes := sha (([0] ++ n32 s) ++ [UInt8.ofNat n, UInt8.ofNat c])
/-- A chain's end. -/
def pf (s : Bytes) (n c : Nat) : Bytes := wk c (sec s n c) 0 3
def endsB (f : Nat → Bytes) : Nat → Bytes
  | 0 => [2]
  | i + 1 => endsB f i ++ n32 (f i)
theorem endsB_len (f : Nat → Bytes) (i : Nat) : (endsB f i).length = 1 + 32 * i := by
  induction i with
  | zero => rfl
  | succ i ih => rw [endsB, List.length_append, ih, n32_len]; omega
theorem endsB_congr {f g : Nat → Bytes} : ∀ k, (∀ i, i < k → f i = g i) → endsB f k = endsB g k
  | 0, _ => rfl
  | k + 1, h => by rw [endsB, endsB, endsB_congr k (fun i hi => h i (by omega)), h k (by omega)]
def pubL (s : Bytes) (n : Nat) : Bytes := sha (endsB (pf s n) 36)
def chL (f : Nat → Bytes) : Nat → List Bytes
  | 0 => []
  | i + 1 => chL f i ++ [f i]
theorem chL_len (f : Nat → Bytes) (i : Nat) : (chL f i).length = i := by
  induction i with
  | zero => rfl
  | succ i ih => rw [chL, List.length_append, ih]; rfl
theorem chL_get (f : Nat → Bytes) : ∀ k i, i < k → (chL f k).getD i [] = f i
  | k + 1, i, h => by
    rw [chL, List.getD_eq_getElem?_getD]
    by_cases hi : i < k
    · rw [List.getElem?_append_left (by rw [chL_len]; exact hi), ← List.getD_eq_getElem?_getD, chL_get f k i hi]
    · obtain rfl : i = k := by omega
      rw [List.getElem?_append_right (by rw [chL_len]; omega), chL_len, Nat.sub_self]; rfl
theorem pub_eq {s : Bytes} {n N : Nat} (h : N = 36) : sha (endsB (fun i => (chL (pf s n) 36).getD i []) N) = pubL s n := by
  subst h
  unfold pubL
  rw [endsB_congr 36 (fun i hi => chL_get _ _ _ hi)]
end Go.Proofs.YtiggfalelcepbaaGreatDoor
namespace Go.Proofs.YtiggfalelcepbaaGreatDoor
open Go
def dg (h : Bytes) : Nat → List Nat
  | 0 => List.replicate 36 0
  | i + 1 => (dg h i).set i (((h.getD (i / 4) 0) >>> UInt8.ofNat (6 - (2 * (i % 4)))).toNat &&& 3)
theorem dg_len (h : Bytes) (i : Nat) : (dg h i).length = 36 := by
  induction i with
  | zero => rfl
  | succ i ih => rw [dg, List.length_set, ih]
theorem getD_setN (l : List Nat) (i k v : Nat) : (l.set i v).getD k 0 = if i = k ∧ k < l.length then v else l.getD k 0 := by
  simp only [List.getD_eq_getElem?_getD, List.getElem?_set]
  by_cases h : i = k
  · subst h
    by_cases h2 : i < l.length
    · simp [h2]
    · simp [h2, List.getElem?_eq_none (Nat.le_of_not_lt h2)]
  · simp [h]
theorem set_le {l : List Nat} {i v : Nat} (h : ∀ k, l.getD k 0 ≤ 3) (hv : v ≤ 3) (k : Nat) : (l.set i v).getD k 0 ≤ 3 := by
  rw [getD_setN]; split
  · exact hv
  · exact h k
theorem dg_le (h : Bytes) (i k : Nat) : (dg h i).getD k 0 ≤ 3 := by
  induction i generalizing k with
  | zero =>
    simp only [dg, List.getD_eq_getElem?_getD, List.getElem?_replicate]
    split <;> simp
  | succ i ih => exact set_le ih Nat.and_le_right k
def lk (h : Bytes) : Nat → Nat
  | 0 => 0
  | i + 1 => lk h i + (3 - (dg h (i + 1)).getD i 0)
theorem lk_le (h : Bytes) (i : Nat) : lk h i ≤ 3 * i := by
  induction i with
  | zero => exact Nat.le_refl _
  | succ i ih => rw [lk]; omega
theorem lk_turn {h : Bytes} {i : Nat} : nn ((lk h i + 3) - (dg h (i + 1)).getD i 0) = nn (lk h (i + 1)) := by
  have := dg_le h (i + 1) i
  rw [lk, Nat.add_sub_assoc this]
def digits (h : Bytes) : List Nat :=
  ((((dg h 32).set 32 (lk h 32 &&& 3)).set 33 ((lk h 32 / 2 ^ 2) &&& 3)).set 34 (((lk h 32 / 2 ^ 2) / 2 ^ 2) &&& 3)).set 35 ((((lk h 32 / 2 ^ 2) / 2 ^ 2) / 2 ^ 2) &&& 3)
theorem digits_len (h : Bytes) : (digits h).length = 36 := by simp [digits, dg_len]
theorem digits_le (h : Bytes) (k : Nat) : (digits h).getD k 0 ≤ 3 :=
  set_le (set_le (set_le (set_le (dg_le h 32) Nat.and_le_right) Nat.and_le_right) Nat.and_le_right) Nat.and_le_right k
/-- A chain of a signature; the chain walked to its end. -/
def sgf (s : Bytes) (n : Nat) (p : Bytes) (i : Nat) : Bytes := wk i (sec s n i) 0 ((digits (sha p)).getD i 0)
def rcf (l : List Bytes) (p : Bytes) (i : Nat) : Bytes := wk i (l.getD i []) ((digits (sha p)).getD i 0) (3 - (digits (sha p)).getD i 0)
theorem rec_eq {l : List Bytes} {p : Bytes} {N : Nat} (h : N = 36) : sha (endsB (fun i => (chL (rcf l p) 36).getD i []) N) = sha (endsB (rcf l p) 36) := by
  subst h
  rw [endsB_congr 36 (fun i hi => chL_get _ _ _ hi)]
theorem wk_len {c : Nat} {h : Bytes} {a : Nat} (hh : h.length = 32) (n : Nat) : (wk c h a n).length = 32 := by
  cases n with
  | zero => exact hh
  | succ n => exact sha_len _
theorem wk_add (c : Nat) (h : Bytes) (a j : Nat) : ∀ k, wk c (wk c h a j) (a + j) k = wk c h a (j + k)
  | 0 => rfl
  | k + 1 => by rw [wk, wk_add c h a j k, ← Nat.add_assoc, wk, Nat.add_assoc]
theorem sec_len (s : Bytes) (n c : Nat) : (sec s n c).length = 32 := sha_len _
/-- Who walks the chains of a signature to their ends finds what the leaf is known by. -/
theorem recover_sign (s : Bytes) (n : Nat) (p : Bytes) : sha (endsB (rcf (chL (sgf s n p) 36) p) 36) = pubL s n := by
  unfold pubL
  rw [endsB_congr 36 (fun i hi => ?_)]
  unfold rcf
  rw [chL_get _ _ _ hi]
  unfold sgf pf
  have h := digits_le (sha p) i
  have := wk_add i (sec s n i) 0 ((digits (sha p)).getD i 0) (3 - (digits (sha p)).getD i 0)
  rw [Nat.zero_add, show (digits (sha p)).getD i 0 + (3 - (digits (sha p)).getD i 0) = 3 by omega] at this
  exact this
end Go.Proofs.YtiggfalelcepbaaGreatDoor
namespace Go.Proofs.YtiggfalelcepbaaGreatDoor
open Go
def node (a b : Bytes) : Bytes := sha (([3] ++ n32 a) ++ n32 b)
/-- The root of a tree of that height; a leaf's path. -/
def mr : Nat → List Bytes → Bytes
  | 0, l => l.getD 0 []
  | d + 1, l => node (mr d (l.take (2 ^ d))) (mr d (l.drop (2 ^ d)))
def mp : Nat → List Bytes → Nat → List Bytes
  | 0, _, _ => []
  | d + 1, l, i => if i < 2 ^ d then mp d (l.take (2 ^ d)) i ++ [mr d (l.drop (2 ^ d))] else mp d (l.drop (2 ^ d)) (i - 2 ^ d) ++ [mr d (l.take (2 ^ d))]
theorem mp_len (d : Nat) (l : List Bytes) (i : Nat) : (mp d l i).length = d := by
  induction d generalizing l i with
  | zero => rfl
  | succ d ih => rw [mp]; split <;> simp [ih]
theorem mp_lo {d : Nat} {l : List Bytes} {i : Nat} (h : i < 2 ^ d) : mp d (l.take (2 ^ d)) i ++ [mr d (l.drop (2 ^ d))] = mp (d + 1) l i := by rw [mp, if_pos h]
theorem mp_hi {d : Nat} {l : List Bytes} {i : Nat} (h : ¬ i < 2 ^ d) : mp d (l.drop (2 ^ d)) (i - 2 ^ d) ++ [mr d (l.take (2 ^ d))] = mp (d + 1) l i := by rw [mp, if_neg h]
def sh (i : Nat) : Nat → Nat
  | 0 => i
  | k + 1 => sh i k / 2 ^ 1
theorem sh_le (i k : Nat) : sh i k ≤ i := by
  induction k with
  | zero => exact Nat.le_refl _
  | succ k ih => exact Nat.le_trans (Nat.div_le_self _ _) ih
def upv (x : Bytes) (i : Nat) (p : List Bytes) : Nat → Bytes
  | 0 => x
  | k + 1 => if sh i k &&& 1 = 0 then node (upv x i p k) (p.getD k []) else node (p.getD k []) (upv x i p k)
theorem up_even {x : Bytes} {i k : Nat} {p : List Bytes} (h : sh i k &&& 1 = 0) : node (upv x i p k) (p.getD k []) = upv x i p (k + 1) := by rw [upv, if_pos h]
theorem up_odd {x : Bytes} {i k : Nat} {p : List Bytes} (h : ¬ sh i k &&& 1 = 0) : node (p.getD k []) (upv x i p k) = upv x i p (k + 1) := by rw [upv, if_neg h]
/-- Who goes up by a leaf's path finds the root. -/
theorem up_path16 {L : List Bytes} (h : L.length = 16) {i : Nat} (hi : i < 16) : upv (L.getD i []) i (mp 4 L i) 4 = mr 4 L := by
  match L, h with
  | [x0, x1, x2, x3, x4, x5, x6, x7, x8, x9, x10, x11, x12, x13, x14, x15], _ =>
    rcases (by omega : i = 0 ∨ i = 1 ∨ i = 2 ∨ i = 3 ∨ i = 4 ∨ i = 5 ∨ i = 6 ∨ i = 7 ∨ i = 8 ∨ i = 9 ∨ i = 10 ∨ i = 11 ∨ i = 12 ∨ i = 13 ∨ i = 14 ∨ i = 15) with
      h | h | h | h | h | h | h | h | h | h | h | h | h | h | h | h <;> subst h <;> rfl
def nam (r : Bytes) : Bytes := sha ([4] ++ n32 r)
/-- A seed's leaves, what its key is known by. -/
def lv (s : Bytes) : List Bytes := chL (pubL s) 16
def pk (s : Bytes) : Bytes := nam (mr 4 (lv s))
theorem pk_len (s : Bytes) : (pk s).length = 32 := sha_len _
end Go.Proofs.YtiggfalelcepbaaGreatDoor
namespace Go.Proofs.YtiggfalelcepbaaGreatDoor
open Go
def sgL : Bytes := [97, 98, 99, 100, 101, 102, 103, 104, 105, 106, 107, 108, 109, 110, 111, 112, 113, 114, 115, 116, 117, 118, 119, 120, 121, 122, 48, 49, 50, 51, 52, 53, 54, 55, 56, 57, 45]
theorem sg_get {i : Nat} (h : i < 37) : (⟨#[97, 98, 99, 100, 101, 102, 103, 104, 105, 106, 107, 108, 109, 110, 111, 112, 113, 114, 115, 116, 117, 118, 119, 120, 121, 122, 48, 49, 50, 51, 52, 53, 54, 55, 56, 57, 45]⟩ : ByteArray)[i]? = some (sgL.getD i 0) := by
  have e : ∀ i : Fin 37, (⟨#[97, 98, 99, 100, 101, 102, 103, 104, 105, 106, 107, 108, 109, 110, 111, 112, 113, 114, 115, 116, 117, 118, 119, 120, 121, 122, 48, 49, 50, 51, 52, 53, 54, 55, 56, 57, 45]⟩ : ByteArray)[i.1]? = some (sgL.getD i.1 0) := by decide
  exact e ⟨i, h⟩
theorem sg_lt {i : Nat} (h : i < 37) : ¬ (128 : UInt8) ≤ sgL.getD i 0 := by
  have e : ∀ i : Fin 37, ¬ (128 : UInt8) ≤ sgL.getD i.1 0 := by decide
  exact e ⟨i, h⟩
def asf : Nat → List Bool
  | 0 => List.replicate 256 false
  | i + 1 => (asf i).set (sgL.getD i 0).toNat true
theorem asf_len (i : Nat) : (asf i).length = 256 := by
  induction i with
  | zero => exact List.length_replicate
  | succ i ih => rw [asf, List.length_set, ih]
end Go.Proofs.YtiggfalelcepbaaGreatDoor
namespace Go.Proofs.YtiggfalelcepbaaGreatDoor
open Go
/-- The seed of a generation's key. -/
def sdg (s : Bytes) (g : Nat) : Bytes := sha (n32 s ++ [UInt8.ofNat g])
end Go.Proofs.YtiggfalelcepbaaGreatDoor
namespace Go.Proofs.YtiggfalelcepbaaGreatDoor
open Go
theorem num_small {v : Nat} (h : v < 128) : 0 ||| (((([UInt8.ofNat v] : Bytes).getD 0 0) &&& 127).toNat * 2 ^ 0) = v := by
  have e : ∀ v : Fin 128, 0 ||| (((([UInt8.ofNat v.1] : Bytes).getD 0 0) &&& 127).toNat * 2 ^ 0) = v.1 := by decide
  exact e ⟨v, h⟩
theorem num_small2 {v : Nat} (h : v < 128) : ¬ (127 : UInt8) < ([UInt8.ofNat v] : Bytes).getD 0 0 := by
  have e : ∀ v : Fin 128, ¬ (127 : UInt8) < ([UInt8.ofNat v.1] : Bytes).getD 0 0 := by decide
  exact e ⟨v, h⟩
end Go.Proofs.YtiggfalelcepbaaGreatDoor
namespace Go.Proofs.YtiggfalelcepbaaGreatDoor
open Go
set_option maxRecDepth 100000
set_option maxHeartbeats 4000000
def rootB (v : Nat) (a b : Bytes) : Bytes := [UInt8.ofNat 1] ++ ([UInt8.ofNat v] ++ ([0 ||| 128] ++ ([0 ||| 128] ++ ([0 ||| 128] ++ ([0 ||| 128] ++ ([4] ++ ([UInt8.ofNat 1] ++ (n32 a ++ ([UInt8.ofNat 1] ++ ([UInt8.ofNat 1] ++ (n32 b ++ ([UInt8.ofNat 1] ++ ([UInt8.ofNat 1] ++ (n32 b ++ ([UInt8.ofNat 1] ++ ([UInt8.ofNat 1] ++ (n32 b ++ ([UInt8.ofNat 1] ++ ([])))))))))))))))))))
theorem rootB_len (v : Nat) (a b : Bytes) : (rootB v a b).length = 143 := by simp [rootB, n32_len]
def timeB (v e : Nat) (h : Bytes) : Bytes := [UInt8.ofNat 2] ++ ([UInt8.ofNat v] ++ ([UInt8.ofNat e] ++ ([UInt8.ofNat v] ++ (n32 h ++ ([])))))
theorem timeB_len (v e : Nat) (h : Bytes) : (timeB v e h).length = 36 := by simp [timeB, n32_len]
def snapB (v e : Nat) : Bytes := [UInt8.ofNat 3] ++ ([UInt8.ofNat v] ++ ([UInt8.ofNat e] ++ ([UInt8.ofNat 1] ++ ([UInt8.ofNat 3] ++ ([116, 111, 112] ++ ([UInt8.ofNat v] ++ ([])))))))
theorem snapB_len (v e : Nat) : (snapB v e).length = 9 := by simp [snapB, n32_len]
def targB (v e : Nat) : Bytes := [UInt8.ofNat 4] ++ ([UInt8.ofNat 3] ++ ([116, 111, 112] ++ ([UInt8.ofNat v] ++ ([UInt8.ofNat e] ++ ([UInt8.ofNat 0] ++ ([UInt8.ofNat 0] ++ ([])))))))
theorem targB_len (v e : Nat) : (targB v e).length = 9 := by simp [targB, n32_len]
theorem rootB_w (v : Nat) (a b : Bytes) : ((((((((((((((((((([]) ++ ([UInt8.ofNat 1])) ++ ([UInt8.ofNat v])) ++ ([0 ||| 128])) ++ ([0 ||| 128])) ++ ([0 ||| 128])) ++ ([0 ||| 128])) ++ ([4])) ++ ([UInt8.ofNat 1])) ++ (n32 a)) ++ ([UInt8.ofNat 1])) ++ ([UInt8.ofNat 1])) ++ (n32 b)) ++ ([UInt8.ofNat 1])) ++ ([UInt8.ofNat 1])) ++ (n32 b)) ++ ([UInt8.ofNat 1])) ++ ([UInt8.ofNat 1])) ++ (n32 b)) ++ ([UInt8.ofNat 1]) = rootB v a b := by simp only [rootB, List.append_assoc, List.nil_append, List.append_nil]
theorem timeB_w (v e : Nat) (h : Bytes) : ((((([]) ++ ([UInt8.ofNat 2])) ++ ([UInt8.ofNat v])) ++ ([UInt8.ofNat e])) ++ ([UInt8.ofNat v])) ++ (n32 h) = timeB v e h := by simp only [timeB, List.append_assoc, List.nil_append, List.append_nil]
theorem snapB_w (v e : Nat) : ((((((([]) ++ ([UInt8.ofNat 3])) ++ ([UInt8.ofNat v])) ++ ([UInt8.ofNat e])) ++ ([UInt8.ofNat 1])) ++ ([UInt8.ofNat 3])) ++ ([116, 111, 112])) ++ ([UInt8.ofNat v]) = snapB v e := by simp only [snapB, List.append_assoc, List.nil_append, List.append_nil]
theorem targB_w (v e : Nat) : ((((((([]) ++ ([UInt8.ofNat 4])) ++ ([UInt8.ofNat 3])) ++ ([116, 111, 112])) ++ ([UInt8.ofNat v])) ++ ([UInt8.ofNat e])) ++ ([UInt8.ofNat 0])) ++ ([UInt8.ofNat 0]) = targB v e := by simp only [targB, List.append_assoc, List.nil_append, List.append_nil]
theorem rootB_r (v : Nat) (a b : Bytes) : rootB v a b = (((((([UInt8.ofNat 1]) ++ ([UInt8.ofNat v])) ++ ((((([0 ||| 128]) ++ ([0 ||| 128])) ++ ([0 ||| 128])) ++ ([0 ||| 128])) ++ ([4]))) ++ ((([UInt8.ofNat 1]) ++ (n32 a)) ++ ([UInt8.ofNat 1]))) ++ ((([UInt8.ofNat 1]) ++ (n32 b)) ++ ([UInt8.ofNat 1]))) ++ ((([UInt8.ofNat 1]) ++ (n32 b)) ++ ([UInt8.ofNat 1]))) ++ ((([UInt8.ofNat 1]) ++ (n32 b)) ++ ([UInt8.ofNat 1])) := by simp only [rootB, List.append_assoc, List.nil_append, List.append_nil]
theorem timeB_r (v e : Nat) (h : Bytes) : timeB v e h = (((([UInt8.ofNat 2]) ++ ([UInt8.ofNat v])) ++ ([UInt8.ofNat e])) ++ ([UInt8.ofNat v])) ++ (n32 h) := by simp only [timeB, List.append_assoc, List.nil_append, List.append_nil]
theorem snapB_r (v e : Nat) : snapB v e = ((((([UInt8.ofNat 3]) ++ ([UInt8.ofNat v])) ++ ([UInt8.ofNat e])) ++ ([UInt8.ofNat 1])) ++ (([UInt8.ofNat 3]) ++ ([116, 111, 112]))) ++ ([UInt8.ofNat v]) := by simp only [snapB, List.append_assoc, List.nil_append, List.append_nil]
theorem targB_r (v e : Nat) : targB v e = ((([UInt8.ofNat 4]) ++ (([UInt8.ofNat 3]) ++ ([116, 111, 112]))) ++ ((([UInt8.ofNat v]) ++ ([UInt8.ofNat e])) ++ ([UInt8.ofNat 0]))) ++ ([UInt8.ofNat 0]) := by simp only [targB, List.append_assoc, List.nil_append, List.append_nil]
/-- An envelope: a slice of n bytes p, a slice of one mark: seed s's key, its leaf u, the chains, the path. -/
def Env (m : Ctx) (A : Option Addr) (n c : Nat) (D : Option Addr) (d : Nat) (p s : Bytes) (u : Nat) : Prop :=
  Sl m A n c 1 (bv p) ∧ ∃ A' c' B' d', Sl m D 1 d 35 (hc (pk s) ++ ([nn u, .slice A' 36 c', .slice B' 4 d'])) ∧ Sl m A' 36 c' 32 (hcs (chL (sgf s u p) 36)) ∧ Sl m B' 4 d' 32 (hcs (mp 4 (lv s) u))
theorem Env.le {m m1 : Ctx} {A D : Option Addr} {n c d u : Nat} {p s : Bytes} (h : Env m A n c D d p s u) (hl : ∀ b L, m b = some L → m1 b = some L) : Env m1 A n c D d p s u := by
  obtain ⟨h0, A', c', B', d', h1, h2, h3⟩ := h
  exact ⟨h0.le hl, A', c', B', d', h1.le hl, h2.le hl, h3.le hl⟩
theorem Env.up {S : Nat → Prop} {m m1 : Ctx} {w w1 : World} {A D : Option Addr} {n c d u : Nat} {p s : Bytes} (h : Env m A n c D d p s u) (hf : Fr S m w m1 w1) : Env m1 A n c D d p s u := h.le hf.le
theorem lv_get {s : Bytes} {u : Nat} (hu : u < 16) : (lv s).getD u [] = pubL s u := chL_get _ _ _ hu
/-- What a key signs, it verifies. -/
theorem ver_ok {s p : Bytes} {u : Nat} (hu : u < 16) : nam (upv (sha (endsB (rcf (chL (sgf s u p) 36) p) 36)) u (mp 4 (lv s) u) 4) = pk s := by
  rw [recover_sign, ← lv_get hu, up_path16 (L := lv s) (chL_len _ _) hu]
  rfl
end Go.Proofs.YtiggfalelcepbaaGreatDoor
namespace Go.Proofs.YtiggfalelcepbaaGreatDoor
open Go
/-- Row RL holds k envelopes; the one at place i is the root of version i + 2, with the keys of s and b (i + 2), signed by s. -/
def Rts (m : Ctx) (s : Bytes) (b : Nat → Bytes) (k : Nat) (RL : List Value) : Prop := RL.length = k * 2 ∧ ∀ i, i < k → ∃ A c D d u, rdL RL (i * 2) 2 = [.slice A 143 c, .slice D 1 d] ∧ Env m A 143 c D d (rootB (i + 2) (pk s) (b (i + 2))) s u ∧ u < 16
section
variable {m m1 : Ctx} {s : Bytes} {b : Nat → Bytes} {k : Nat} {RL X cs : List Value} {A D : Option Addr} {c d u o : Nat} {x y : Value}
theorem Rts.nil : Rts m s b 0 [] := ⟨rfl, fun i h => absurd h (Nat.not_lt_zero i)⟩
theorem Rts.rd (h : rdL RL o 2 = cs) (hl : o + 2 ≤ RL.length) : rdL (RL ++ X) o 2 = cs := by
  rw [← h]
  unfold rdL
  rw [List.drop_append_of_le_length (by omega), List.take_append_of_le_length (by rw [List.length_drop]; omega)]
theorem Rts.at0 (h : rdL RL o 2 = [x, y]) : RL[o]? = some x := by
  have h2 : (rdL RL o 2)[0]? = some x := by rw [h]; rfl
  simpa using rdL_get h2
theorem Rts.snoc (h : Rts m s b k RL) (hE : Env m A 143 c D d (rootB (k + 2) (pk s) (b (k + 2))) s u) (hu : u < 16) : Rts m s b (k + 1) (RL ++ [.slice A 143 c, .slice D 1 d]) := by
  refine ⟨by rw [List.length_append, h.1]; show k * 2 + 2 = _; omega, fun i hi => ?_⟩
  by_cases hk : i < k
  · obtain ⟨A', c', D', d', u', h1, h2, h3⟩ := h.2 i hk
    exact ⟨A', c', D', d', u', Rts.rd h1 (by rw [h.1]; omega), h2, h3⟩
  · obtain rfl : i = k := by omega
    refine ⟨A, c, D, d, u, ?_, hE, hu⟩
    unfold rdL
    rw [← h.1, List.drop_left]
    rfl
theorem Rts.le (h : Rts m s b k RL) (hl : ∀ b L, m b = some L → m1 b = some L) : Rts m1 s b k RL :=
  ⟨h.1, fun i hi => by obtain ⟨A, c, D, d, u, h1, h2, h3⟩ := h.2 i hi; exact ⟨A, c, D, d, u, h1, h2.le hl, h3⟩⟩
theorem Rts.len (h : Rts m s b k RL) {i : Nat} (hi : i < k) : i * 2 + 2 ≤ RL.length := by rw [h.1]; omega
end
/-- Blocks of two kinds are two. -/
theorem Mu.tn {m : Ctx} {w : World} {b c : Nat} {T T' : TypeId} {L L' : List Value} (h : Mu m w b T L) (h2 : Mu m w c T' L') (ht : (T == T') = false) : b ≠ c := by
  rintro rfl
  have h3 := h.1.symm.trans h2.1
  simp only [Option.some.injEq, Obj.cells.injEq] at h3
  rw [h3.2.1] at ht
  simp at ht
end Go.Proofs.YtiggfalelcepbaaGreatDoor

/- Plain facts on the product of GHASH: one turned bit of one block turns the hash, where the key is not nought. -/
import Derived.Test.YtiimjkpcljelpaaPa
set_option maxRecDepth 10000
set_option linter.unusedSimpArgs false
set_option linter.unusedVariables false
namespace Go.Proofs.Ytiimjkpcljelpaa.Gh

abbrev E := BitVec 128

def R : E := 0xe1000000000000000000000000000000#128
def on (e : E) : E := (e >>> 1) ^^^ (if e.getLsbD 0 then R else 0#128)
def onN : Nat → E → E
  | 0, f => f
  | n + 1, f => on (onN n f)
def one : E := 0x80000000000000000000000000000000#128
/-- The sum of the first n bits' products. -/
def M (e : E) : Nat → E → E
  | 0, _ => 0#128
  | n + 1, f => M e n f ^^^ (if e.getMsbD n then onN n f else 0#128)
def mul (e f : E) : E := M e 128 f

theorem xlc (a b c : E) : a ^^^ (b ^^^ c) = b ^^^ (a ^^^ c) := by rw [← BitVec.xor_assoc, BitVec.xor_comm a b, BitVec.xor_assoc]
theorem xcl (a b : E) : a ^^^ (a ^^^ b) = b := by rw [← BitVec.xor_assoc, BitVec.xor_self, BitVec.zero_xor]
theorem on_zero : on 0#128 = 0#128 := by decide
theorem on_xor (a b : E) : on (a ^^^ b) = on a ^^^ on b := by
  unfold on
  simp only [BitVec.getLsbD_xor, BitVec.ushiftRight_xor_distrib]
  cases a.getLsbD 0 <;> cases b.getLsbD 0 <;> simp [BitVec.xor_assoc, BitVec.xor_comm, xlc, xcl]
theorem onN_zero (n : Nat) : onN n 0#128 = 0#128 := by
  induction n with
  | zero => rfl
  | succ n ih => simp only [onN, ih, on_zero]
theorem onN_xor (n : Nat) (a b : E) : onN n (a ^^^ b) = onN n a ^^^ onN n b := by
  induction n with
  | zero => rfl
  | succ n ih => simp only [onN, ih, on_xor]
theorem onN_on (n : Nat) (a : E) : onN n (on a) = on (onN n a) := by
  induction n with
  | zero => rfl
  | succ n ih => simp only [onN, ih]
theorem onN_add (m n : Nat) (a : E) : onN m (onN n a) = onN (m + n) a := by
  induction m with
  | zero => simp [onN]
  | succ m ih => rw [Nat.succ_add]; simp only [onN, ih]

theorem xor4 (a b c d : E) : (a ^^^ b) ^^^ (c ^^^ d) = (a ^^^ c) ^^^ (b ^^^ d) := by
  simp [BitVec.xor_assoc, BitVec.xor_comm, xlc, xcl]

theorem M_left (a b : E) (n : Nat) (f : E) : M (a ^^^ b) n f = M a n f ^^^ M b n f := by
  induction n with
  | zero => simp [M]
  | succ n ih =>
    simp only [M, ih, BitVec.getMsbD_xor]
    cases a.getMsbD n <;> cases b.getMsbD n <;> simp [BitVec.xor_assoc, BitVec.xor_comm, xlc, xcl]
theorem M_zero_left (n : Nat) (f : E) : M 0#128 n f = 0#128 := by
  induction n with
  | zero => rfl
  | succ n ih => simp [M, ih]

/-- An operator that is additive and goes with 'on'. -/
structure Lin (A : E → E) : Prop where
  add : ∀ a b, A (a ^^^ b) = A a ^^^ A b
  on : ∀ a, A (on a) = Gh.on (A a)
theorem Lin.zero {A : E → E} (h : Lin A) : A 0#128 = 0#128 := by
  have := h.add 0#128 0#128
  simp at this
  exact this
theorem Lin.onN {A : E → E} (h : Lin A) (n : Nat) (a : E) : A (onN n a) = onN n (A a) := by
  induction n with
  | zero => rfl
  | succ n ih => simp only [Gh.onN, h.on, ih]
theorem Lin.M {A : E → E} (h : Lin A) (e : E) (n : Nat) (f : E) : A (M e n f) = M e n (A f) := by
  induction n with
  | zero => simp [Gh.M, h.zero]
  | succ n ih =>
    simp only [Gh.M, h.add, ih]
    cases e.getMsbD n
    · simp [h.zero]
    · simp [h.onN]
theorem M_lin (e : E) (n : Nat) : Lin (M e n) where
  add a b := by
    induction n with
    | zero => simp [Gh.M]
    | succ n ih =>
      simp only [Gh.M, ih, onN_xor]
      cases e.getMsbD n <;> simp [BitVec.xor_assoc, BitVec.xor_comm, xlc, xcl]
  on a := by
    induction n with
    | zero => simp [Gh.M, on_zero]
    | succ n ih =>
      simp only [Gh.M, ih, on_xor, onN_on]
      cases e.getMsbD n <;> simp [on_zero]
theorem mul_lin (e : E) : Lin (mul e) := M_lin e 128

theorem onN_one (i : Nat) (hi : i < 128) : ∀ j, (onN i one).getMsbD j = (decide (j = i)) := by
  induction i with
  | zero =>
    intro j
    simp only [onN, one]
    by_cases h : j = 0
    · subst h; decide
    · simp only [h, decide_false]
      by_cases hj : j < 128
      · have : ∀ j : Fin 128, ¬ j.1 = 0 → (0x80000000000000000000000000000000#128 : E).getMsbD j.1 = false := by decide
        exact this ⟨j, hj⟩ h
      · exact BitVec.getMsbD_of_ge _ _ (by omega)
  | succ i ih =>
    intro j
    have ih := ih (by omega)
    have hl : (onN i one).getLsbD 0 = false := by
      have := ih 127
      simp only [BitVec.getMsbD] at this
      have e : (127 = i) = False := by simp; omega
      simpa [e] using this
    simp only [onN, on, hl]
    simp only [Bool.false_eq_true, if_false, BitVec.xor_zero, BitVec.getMsbD_ushiftRight]
    rcases Nat.eq_zero_or_pos j with h | h
    · subst h; simp
    · rw [ih (j - 1)]
      by_cases hj : j = i + 1
      · subst hj; simp; omega
      · have e1 : ¬ (j - 1 = i) := by omega
        simp [hj, e1]

theorem recon_bits (v : E) (n : Nat) (hn : n ≤ 128) : ∀ j, (M v n one).getMsbD j = (decide (j < n) && v.getMsbD j) := by
  induction n with
  | zero => intro j; simp [M]
  | succ n ih =>
    intro j
    simp only [M, BitVec.getMsbD_xor, ih (by omega) j]
    cases hv : v.getMsbD n
    · by_cases h : j = n
      · subst h; simp [hv]
      · have : (j < n + 1) = (j < n) := by simp; omega
        simp [this]
    · simp only [if_true, onN_one n (by omega) j]
      by_cases h : j = n
      · subst h; simp [hv]
      · have : (j < n + 1) = (j < n) := by simp; omega
        simp [this, h]
theorem recon (v : E) : mul v one = v := by
  apply BitVec.eq_of_getMsbD_eq
  intro j hj
  rw [mul, recon_bits v 128 (by omega) j]
  simp [hj]
theorem mul_comm (e f : E) : mul e f = mul f e := by
  have h := (mul_lin e).M f 128 one
  have hf : M f 128 one = f := recon f
  rw [hf, recon e] at h
  exact h
theorem mul_left (x h p : E) : mul x (mul h p) = mul h (mul x p) := (mul_lin x).M h 128 p
theorem mul_xor (a b c : E) : mul a (b ^^^ c) = mul a b ^^^ mul a c := (mul_lin a).add b c
theorem xor_mul (a b c : E) : mul (a ^^^ b) c = mul a c ^^^ mul b c := M_left a b 128 c
theorem mul_zero (a : E) : mul a 0#128 = 0#128 := (mul_lin a).zero

theorem on_inj (e : E) (h : on e = 0#128) : e = 0#128 := by
  have h0 : (on e).getMsbD 0 = false := by rw [h]; exact BitVec.getMsbD_zero
  unfold on at h h0
  cases hl : e.getLsbD 0
  · simp only [hl, Bool.false_eq_true, if_false, BitVec.xor_zero] at h
    apply BitVec.eq_of_getLsbD_eq
    intro i hi
    rcases Nat.eq_zero_or_pos i with h1 | h1
    · subst h1; simpa using hl
    · have := congrArg (fun x : E => x.getLsbD (i - 1)) h
      simp only [BitVec.getLsbD_ushiftRight] at this
      have e1 : 1 + (i - 1) = i := by omega
      rw [e1] at this
      simpa using this
  · simp only [hl, if_true, BitVec.getMsbD_xor, BitVec.getMsbD_ushiftRight] at h0
    have hR : R.getMsbD 0 = true := by decide
    simp [hR] at h0
theorem onN_inj (n : Nat) (e : E) (h : onN n e = 0#128) : e = 0#128 := by
  induction n with
  | zero => exact h
  | succ n ih => exact ih (on_inj _ h)

/-! the squares -/
def sq (u : E) : E := mul u u
theorem sq_xor (u v : E) : sq (u ^^^ v) = sq u ^^^ sq v := by
  unfold sq
  rw [xor_mul, mul_xor, mul_xor, mul_comm v u]
  simp [BitVec.xor_assoc, BitVec.xor_comm, xlc, xcl]
theorem sq_on (i : Nat) : sq (onN i one) = onN (i + i) one := by
  unfold sq
  rw [(mul_lin _).onN, recon, onN_add]
def S (u : E) : Nat → E
  | 0 => 0#128
  | n + 1 => S u n ^^^ (if u.getMsbD n then onN (n + n) one else 0#128)
theorem sq_M (u : E) (n : Nat) : sq (M u n one) = S u n := by
  induction n with
  | zero => exact mul_zero _
  | succ n ih =>
    simp only [M, S, sq_xor, ih]
    cases u.getMsbD n
    · simp [sq, mul_zero]
    · simp [sq_on]
set_option maxRecDepth 100000 in
def ds : List Nat := [0xfedb6db6db6db6dadb6db6db6db6db6c, 0x10000000000000000, 0x3fb6db6db6db6db5b6db6db6db6db6d9, 0x20000000000000000, 0x7f6db6db6db6db6b6db6db6db6db6db2, 0x40000000000000000, 0xfedb6db6db6db6d6db6db6db6db6db64, 0x80000000000000000, 0x3fb6db6db6db6dadb6db6db6db6db6c9, 0x100000000000000000, 0x7f6db6db6db6db5b6db6db6db6db6d92, 0x200000000000000000, 0xfedb6db6db6db6b6db6db6db6db6db24, 0x400000000000000000, 0x3fb6db6db6db6d6db6db6db6db6db649, 0x800000000000000000, 0x7f6db6db6db6dadb6db6db6db6db6c92, 0x1000000000000000000, 0xfedb6db6db6db5b6db6db6db6db6d924, 0x2000000000000000000, 0x3fb6db6db6db6b6db6db6db6db6db249, 0x4000000000000000000, 0x7f6db6db6db6d6db6db6db6db6db6492, 0x8000000000000000000, 0xfedb6db6db6dadb6db6db6db6db6c924, 0x10000000000000000000, 0x3fb6db6db6db5b6db6db6db6db6d9249, 0x20000000000000000000, 0x7f6db6db6db6b6db6db6db6db6db2492, 0x40000000000000000000, 0xfedb6db6db6d6db6db6db6db6db64924, 0x80000000000000000000, 0x3fb6db6db6dadb6db6db6db6db6c9249, 0x100000000000000000000, 0x7f6db6db6db5b6db6db6db6db6d92492, 0x200000000000000000000, 0xfedb6db6db6b6db6db6db6db6db24924, 0x400000000000000000000, 0x3fb6db6db6d6db6db6db6db6db649249, 0x800000000000000000000, 0x7f6db6db6dadb6db6db6db6db6c92492, 0x1000000000000000000000, 0xfedb6db6db5b6db6db6db6db6d924924, 0x2000000000000000000000, 0x3fb6db6db6b6db6db6db6db6db249249, 0x4000000000000000000000, 0x7f6db6db6d6db6db6db6db6db6492492, 0x8000000000000000000000, 0xfedb6db6dadb6db6db6db6db6c924924, 0x10000000000000000000000, 0x3fb6db6db5b6db6db6db6db6d9249249, 0x20000000000000000000000, 0x7f6db6db6b6db6db6db6db6db2492492, 0x40000000000000000000000, 0xfedb6db6d6db6db6db6db6db64924924, 0x80000000000000000000000, 0x3fb6db6dadb6db6db6db6db6c9249249, 0x100000000000000000000000, 0x7f6db6db5b6db6db6db6db6d92492492, 0x200000000000000000000000, 0xfedb6db6b6db6db6db6db6db24924924, 0x400000000000000000000000, 0x3fb6db6d6db6db6db6db6db649249249, 0x800000000000000000000000, 0x7f6db6dadb6db6db6db6db6c92492492, 0x1000000000000000000000000, 0xfedb6db5b6db6db6db6db6d924924924, 0x2000000000000000000000000, 0x3fb6db6b6db6db6db6db6db249249249, 0x4000000000000000000000000, 0x7f6db6d6db6db6db6db6db6492492492, 0x8000000000000000000000000, 0xfedb6dadb6db6db6db6db6c924924924, 0x10000000000000000000000000, 0x3fb6db5b6db6db6db6db6d9249249249, 0x20000000000000000000000000, 0x7f6db6b6db6db6db6db6db2492492492, 0x40000000000000000000000000, 0xfedb6d6db6db6db6db6db64924924924, 0x80000000000000000000000000, 0x3fb6dadb6db6db6db6db6c9249249249, 0x100000000000000000000000000, 0x7f6db5b6db6db6db6db6d92492492492, 0x200000000000000000000000000, 0xfedb6b6db6db6db6db6db24924924924, 0x400000000000000000000000000, 0x3fb6d6db6db6db6db6db649249249249, 0x800000000000000000000000000, 0x7f6dadb6db6db6db6db6c92492492492, 0x1000000000000000000000000000, 0xfedb5b6db6db6db6db6d924924924924, 0x2000000000000000000000000000, 0x3fb6b6db6db6db6db6db249249249249, 0x4000000000000000000000000000, 0x7f6d6db6db6db6db6db6492492492492, 0x8000000000000000000000000000, 0xfedadb6db6db6db6db6c924924924924, 0x10000000000000000000000000000, 0x3fb5b6db6db6db6db6d9249249249249, 0x20000000000000000000000000000, 0x7f6b6db6db6db6db6db2492492492492, 0x40000000000000000000000000000, 0xfed6db6db6db6db6db64924924924924, 0x80000000000000000000000000000, 0x3fadb6db6db6db6db6c9249249249249, 0x100000000000000000000000000000, 0x7f5b6db6db6db6db6d92492492492492, 0x200000000000000000000000000000, 0xfeb6db6db6db6db6db24924924924924, 0x400000000000000000000000000000, 0x3f6db6db6db6db6db649249249249249, 0x800000000000000000000000000000, 0x7edb6db6db6db6db6c92492492492492, 0x1000000000000000000000000000000, 0xfdb6db6db6db6db6d924924924924924, 0x2000000000000000000000000000000, 0x396db6db6db6db6db249249249249249, 0x4000000000000000000000000000000, 0x72db6db6db6db6db6492492492492492, 0x8000000000000000000000000000000, 0xe5b6db6db6db6db6c924924924924924, 0x10000000000000000000000000000000, 0x96db6db6db6db6d9249249249249249, 0x20000000000000000000000000000000, 0x12db6db6db6db6db2492492492492492, 0x40000000000000000000000000000000, 0x25b6db6db6db6db64924924924924924, 0x80000000000000000000000000000000]
/-- The root: the sum of those constants whose bits are set. -/
def Lc (v : Nat) : List Nat → Nat → Nat
  | [], _ => 0
  | d :: l, j => Lc v l (j + 1) ^^^ (if v.testBit j then d else 0)
def onNat (e : Nat) : Nat := (e >>> 1) ^^^ (if e.testBit 0 then 0xe1000000000000000000000000000000 else 0)
/-- From f on, k further squares: each has its root. -/
def good : Nat → Nat → Nat → Bool
  | 0, _, _ => true
  | k + 1, f, b => (Lc f ds 0 == b) && good k (onNat (onNat f)) (b >>> 1)
theorem good_all : good 128 0x80000000000000000000000000000000 0x80000000000000000000000000000000 = true := by decide +kernel

theorem nlc (a b c : Nat) : a ^^^ (b ^^^ c) = b ^^^ (a ^^^ c) := by rw [← Nat.xor_assoc, Nat.xor_comm a b, Nat.xor_assoc]
theorem ncl (a b : Nat) : a ^^^ (a ^^^ b) = b := by rw [← Nat.xor_assoc, Nat.xor_self, Nat.zero_xor]
theorem Lc_xor (a b : Nat) (l : List Nat) (j : Nat) : Lc (a ^^^ b) l j = Lc a l j ^^^ Lc b l j := by
  induction l generalizing j with
  | nil => simp [Lc]
  | cons d l ih =>
    simp only [Lc, ih, Nat.testBit_xor]
    cases a.testBit j <;> cases b.testBit j <;> simp [Nat.xor_assoc, Nat.xor_comm, nlc, ncl]
theorem Lc_zero (l : List Nat) (j : Nat) : Lc 0 l j = 0 := by
  induction l generalizing j with
  | nil => rfl
  | cons d l ih => simp [Lc, ih]
theorem on_toNat (e : E) : (on e).toNat = onNat e.toNat := by
  unfold on onNat
  rw [BitVec.toNat_xor, BitVec.toNat_ushiftRight]
  have : e.getLsbD 0 = e.toNat.testBit 0 := rfl
  rw [this]
  cases e.toNat.testBit 0 <;> rfl
theorem good_step (k i : Nat) (hk : k + i = 128) (h : good k (onN (i + i) one).toNat (onN i one).toNat = true) : ∀ j, i ≤ j → j < 128 → Lc (onN (j + j) one).toNat ds 0 = (onN j one).toNat := by
  induction k generalizing i with
  | zero => intro j h1 h2; omega
  | succ k ih =>
    intro j h1 h2
    simp only [good, Bool.and_eq_true, beq_iff_eq] at h
    rcases Nat.eq_or_lt_of_le h1 with h3 | h3
    · subst h3; exact h.1
    · refine ih (i + 1) (by omega) ?_ j (by omega) h2
      have hs : (onN i one).getLsbD 0 = false := by
        have := onN_one i (by omega) 127
        simp only [BitVec.getMsbD] at this
        have e : (127 = i) = False := by simp; omega
        simpa [e] using this
      have e1 : (onN (i + 1) one).toNat = (onN i one).toNat >>> 1 := by
        show (on (onN i one)).toNat = _
        unfold on
        simp only [hs]
        simp
      have e2 : (onN (i + 1 + (i + 1)) one).toNat = onNat (onNat (onN (i + i) one).toNat) := by
        have : i + 1 + (i + 1) = i + i + 1 + 1 := by omega
        rw [this]
        show (on (on (onN (i + i) one))).toNat = _
        rw [on_toNat, on_toNat]
      rw [e1, e2]
      exact h.2
theorem root_on (j : Nat) (hj : j < 128) : Lc (onN (j + j) one).toNat ds 0 = (onN j one).toNat :=
  good_step 128 0 rfl good_all j (by omega) hj
theorem root_S (u : E) (n : Nat) (hn : n ≤ 128) : Lc (S u n).toNat ds 0 = (M u n one).toNat := by
  induction n with
  | zero => exact Lc_zero _ _
  | succ n ih =>
    simp only [S, M, BitVec.toNat_xor]
    rw [Lc_xor, ih (by omega)]
    cases u.getMsbD n
    · simp only [Bool.false_eq_true, if_false]
      have : Lc (0#128 : E).toNat ds 0 = 0 := Lc_zero _ _
      rw [this]; rfl
    · simp only [if_true]
      rw [root_on n (by omega)]
theorem sq_inj (u : E) (h : sq u = 0#128) : u = 0#128 := by
  have h1 := root_S u 128 (by omega)
  rw [← sq_M u 128] at h1
  have hr : M u 128 one = u := recon u
  rw [hr, h] at h1
  have : Lc (0#128 : E).toNat ds 0 = 0 := Lc_zero _ _
  rw [this] at h1
  apply BitVec.eq_of_toNat_eq
  exact h1.symm

/-! powers of a key -/
def P (h : E) : Nat → E
  | 0 => one
  | n + 1 => mul h (P h n)
theorem P_mul (h : E) (a : Nat) : ∀ b, mul (P h a) (P h b) = P h (a + b) := by
  intro b
  induction a with
  | zero => rw [P, mul_comm, recon, Nat.zero_add]
  | succ a ih =>
    rw [mul_comm, P, mul_left, mul_comm, mul_comm (P h b), ih, mul_comm]
    rw [Nat.succ_add]; rfl
theorem P_zero_more (h : E) (a b : Nat) (hz : P h a = 0#128) : P h (a + b) = 0#128 := by
  induction b with
  | zero => exact hz
  | succ b ih => rw [← Nat.add_assoc]; show mul h (P h (a + b)) = _; rw [ih, mul_zero]
theorem P_half (h : E) (a : Nat) (hz : P h (a + a) = 0#128) : P h a = 0#128 := by
  apply sq_inj
  rw [sq, P_mul h a, hz]
theorem P_ne (h : E) (hh : h ≠ 0#128) (m : Nat) (hm : m ≤ 16) : P h m ≠ 0#128 := by
  intro hz
  have h16 : P h 16 = 0#128 := by
    have := P_zero_more h m (16 - m) hz
    rwa [show m + (16 - m) = 16 from by omega] at this
  have h1 := P_half h 1 (P_half h 2 (P_half h 4 (P_half h 8 h16)))
  apply hh
  have : P h 1 = mul h one := rfl
  rw [this, recon] at h1
  exact h1

/-! the sum of blocks -/
def step (h y x : E) : E := mul (y ^^^ x) h
def sum (h : E) (l : List E) : E := l.foldl (step h) 0#128
theorem fold_xor (h : E) (l : List E) (y d : E) : l.foldl (step h) (y ^^^ d) = l.foldl (step h) y ^^^ l.foldl (fun d _ => mul d h) d := by
  induction l generalizing y d with
  | nil => rfl
  | cons x l ih =>
    simp only [List.foldl_cons]
    have : step h (y ^^^ d) x = step h y x ^^^ mul d h := by
      unfold step
      rw [show (y ^^^ d) ^^^ x = (y ^^^ x) ^^^ d from by rw [BitVec.xor_assoc, BitVec.xor_assoc, BitVec.xor_comm d x], xor_mul]
    rw [this, ih]
theorem fold_on (h : E) (l : List E) (j m : Nat) : l.foldl (fun d _ => mul d h) (onN j (P h m)) = onN j (P h (m + l.length)) := by
  induction l generalizing m with
  | nil => rfl
  | cons x l ih =>
    simp only [List.foldl_cons, List.length_cons]
    rw [mul_comm, (mul_lin h).onN]
    have : mul h (P h m) = P h (m + 1) := rfl
    rw [this, ih]
    rw [show m + 1 + l.length = m + (l.length + 1) from by omega]
/-- ONE BIT OF ONE BLOCK TURNED: the sum is another one. -/
theorem sum_bit (h : E) (hh : h ≠ 0#128) (l r : List E) (x : E) (j : Nat) (hr : r.length + 1 ≤ 16) :
    sum h (l ++ (x ^^^ onN j one) :: r) ≠ sum h (l ++ x :: r) := by
  intro he
  unfold sum at he
  simp only [List.foldl_append, List.foldl_cons] at he
  generalize l.foldl (step h) 0#128 = y at he
  have e1 : step h y (x ^^^ onN j one) = step h y x ^^^ onN j (P h 1) := by
    unfold step
    rw [← BitVec.xor_assoc, xor_mul]
    congr 1
    rw [mul_comm, (mul_lin h).onN]
    rfl
  rw [e1, fold_xor, fold_on] at he
  have hz : onN j (P h (1 + r.length)) = 0#128 := by
    have := congrArg (fun z => (r.foldl (step h) (step h y x)) ^^^ z) he
    simpa [xcl] using this
  exact P_ne h hh (1 + r.length) (by omega) (onN_inj _ _ hz)
end Go.Proofs.Ytiimjkpcljelpaa.Gh

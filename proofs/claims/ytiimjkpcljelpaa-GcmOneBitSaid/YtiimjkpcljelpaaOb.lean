/- The plain law of one bit: what is sealed, with one bit of the text or of the aad turned, is not opened. -/
import Derived.Test.YtiimjkpcljelpaaPl
import Derived.Test.YtiimjkpcljelpaaGh
set_option maxRecDepth 10000
open Go.RowKit Go.Eng
set_option linter.unusedSimpArgs false
set_option linter.unusedVariables false
namespace Go.Proofs.Ytiimjkpcljelpaa
def el (e : W2) : Gh.E := e.1 ++ e.2
theorem el_xor (a b c d : BitVec 64) : el (a ^^^ c, b ^^^ d) = el (a, b) ^^^ el (c, d) := by
  simp only [el]
  rw [BitVec.xor_append]
theorem and_one (x : BitVec 64) : x &&& 1#64 = 1#64 ↔ x.getLsbD 0 = true := by
  constructor
  · intro h
    have := congrArg (fun z => z.getLsbD 0) h
    simpa using this
  · intro h
    apply BitVec.eq_of_getLsbD_eq
    intro i hi
    rw [BitVec.getLsbD_and, BitVec.getLsbD_one]
    by_cases h0 : i = 0
    · subst h0; simp [h]
    · simp [h0]
theorem el_shift (a b : BitVec 64) : (el (a, b)) >>> 1 = el (a >>> 1, (b >>> 1) ||| (a <<< 63)) := by
  apply BitVec.eq_of_getLsbD_eq
  intro i hi
  simp only [el, BitVec.getLsbD_ushiftRight, BitVec.getLsbD_append, BitVec.getLsbD_or, BitVec.getLsbD_shiftLeft]
  by_cases h1 : i < 63
  · have e1 : 1 + i < 64 := by omega
    have e2 : i < 64 := by omega
    simp [h1, e1, e2]
  · by_cases h2 : i = 63
    · subst h2
      have : b.getLsbD 64 = false := BitVec.getLsbD_of_ge _ _ (by omega)
      simp [this]
    · have e1 : ¬ (1 + i < 64) := by omega
      have e2 : ¬ (i < 64) := by omega
      have e3 : 1 + (i - 64) = 1 + i - 64 := by omega
      simp [e1, e2, e3]
theorem R_el : Gh.R = el (16212958658533785600#64, 0#64) := by decide
theorem el_on (a b : BitVec 64) : el (onE a b) = Gh.on (el (a, b)) := by
  have hb : (el (a, b)).getLsbD 0 = b.getLsbD 0 := by
    rw [el, BitVec.getLsbD_append]
    simp only [show (0 : Nat) < 64 from by omega, if_true, decide_true, cond_true]
  unfold Gh.on
  rw [el_shift, hb, R_el, onE]
  by_cases h : b.getLsbD 0 = true
  · rw [if_pos ((and_one b).2 h), if_pos h, ← el_xor, BitVec.xor_zero]
  · rw [if_neg (fun hh => h ((and_one b).1 hh)), if_neg h, BitVec.xor_zero]
theorem bit_el (e : W2) (k : Nat) (hk : k < 128) : bitE e k = 1#64 ↔ (el e).getMsbD k = true := by
  obtain ⟨a, b⟩ := e
  unfold bitE
  by_cases h : 63 < k
  · rw [if_pos h, and_one, BitVec.getLsbD_ushiftRight]
    simp only [el, BitVec.getMsbD, BitVec.getLsbD_append]
    have e1 : 64 + 64 - 1 - k < 64 := by omega
    have e2 : 63 - (k - 63 - 1) + 0 = 64 + 64 - 1 - k := by omega
    have e3 : k < 64 + 64 := by omega
    simp only [e1, e2, e3, decide_true, Bool.true_and, if_true]
  · rw [if_neg h, and_one, BitVec.getLsbD_ushiftRight]
    simp only [el, BitVec.getMsbD, BitVec.getLsbD_append]
    have e1 : ¬ (64 + 64 - 1 - k < 64) := by omega
    have e2 : 63 - k + 0 = 64 + 64 - 1 - k - 64 := by omega
    have e3 : k < 64 + 64 := by omega
    simp only [e1, e2, e3, decide_true, Bool.true_and, if_false, decide_false, cond_false]
theorem times_el2 (e f : W2) (k : Nat) : el (timesTo e f k).2 = Gh.onN k (el f) := by
  induction k with
  | zero => rfl
  | succ k ih => rw [timesTo]; simp only; rw [el_on, Gh.onN, ← ih]
theorem times_el1 (e f : W2) (k : Nat) (hk : k ≤ 128) : el (timesTo e f k).1 = Gh.M (el e) k (el f) := by
  induction k with
  | zero => simp only [timesTo, Gh.M]; decide
  | succ k ih =>
    have ih := ih (by omega)
    rw [timesTo, Gh.M]
    simp only
    by_cases h : bitE e k = 1#64
    · rw [if_pos h, if_pos ((bit_el e k (by omega)).1 h), el_xor, ← times_el2 e f k, ← ih]
    · rw [if_neg h, if_neg (fun hh => h ((bit_el e k (by omega)).2 hh)), BitVec.xor_zero, ih]
theorem times_el (e f : W2) : el (timesL e f) = Gh.mul (el e) (el f) := times_el1 e f 128 (Nat.le_refl _)
theorem sum_el (key : W2) (bs : List B8) (N : Nat) : el (sumTo key bs N) = Gh.sum (el key) ((List.range N).map fun k => el (ofL (blkAt bs k))) := by
  induction N with
  | zero => simp only [sumTo, Gh.sum, List.range_zero, List.map_nil, List.foldl_nil]; decide
  | succ N ih =>
    rw [sumTo, times_el, el_xor, List.range_succ, List.map_append]
    rw [Gh.sum, List.foldl_append, ← Gh.sum, ← ih]
    rfl
theorem bigL_snoc (xs : List B8) (c : B8) : bigL (xs ++ [c]) = (bigL xs <<< 8) ||| c.setWidth 64 := by simp [bigL]
theorem bigL_bit : ∀ (n : Nat) (xs : List B8), xs.length = n → n ≤ 8 → ∀ i, i < 64 → (bigL xs).getLsbD i = (decide (i < 8 * n) && (xs.getD (n - 1 - i / 8) default).getLsbD (i % 8)) := by
  intro n
  induction n with
  | zero =>
    intro xs hx _ i hi
    obtain rfl : xs = [] := List.length_eq_zero_iff.1 hx
    simp [bigL]
  | succ n ih =>
    intro xs hx hn i hi
    obtain ⟨ys, c, rfl⟩ : ∃ ys c, xs = ys ++ [c] := ⟨xs.dropLast, xs.getLast (by intro h; subst h; simp at hx), (List.dropLast_concat_getLast _).symm⟩
    have hy : ys.length = n := by simpa using hx
    rw [bigL_snoc, BitVec.getLsbD_or, BitVec.getLsbD_shiftLeft, BitVec.getLsbD_setWidth]
    by_cases h8 : i < 8
    · have e1 : i / 8 = 0 := by omega
      have e2 : i % 8 = i := by omega
      have e3 : i < 8 * (n + 1) := by omega
      have e4 : (ys ++ [c]).getD (n + 1 - 1 - 0) default = c := by
        rw [List.getD_eq_getElem?_getD, List.getElem?_append_right (by omega)]; simp [hy]
      rw [e1, e2, e4]
      simp [h8, hi, e3]
    · have hih := ih ys hy (by omega) (i - 8) (by omega)
      have hc : c.getLsbD i = false := BitVec.getLsbD_of_ge _ _ (by omega)
      rw [hih, hc]
      have e2 : (i - 8) % 8 = i % 8 := by omega
      have e5 : (i - 8) / 8 = i / 8 - 1 := by omega
      by_cases h9 : i < 8 * (n + 1)
      · have e6 : i - 8 < 8 * n := by omega
        have e7 : n - 1 - (i / 8 - 1) = n + 1 - 1 - i / 8 := by omega
        have e8 : (ys ++ [c]).getD (n + 1 - 1 - i / 8) default = ys.getD (n + 1 - 1 - i / 8) default := by
          rw [List.getD_eq_getElem?_getD, List.getElem?_append_left (by omega), List.getD_eq_getElem?_getD]
        rw [e2, e5, e7, e8]
        simp [h8, hi, h9, e6]
      · have e6 : ¬ (i - 8 < 8 * n) := by omega
        simp [h9, e6]
theorem el_bit (blk : List B8) (h : blk.length = 16) (q : Nat) (hq : q < 128) : (el (ofL blk)).getMsbD q = (blk.getD (q / 8) default).getLsbD (7 - q % 8) := by
  simp only [el, ofL, BitVec.getMsbD, BitVec.getLsbD_append]
  have e3 : q < 64 + 64 := by omega
  by_cases h1 : q < 64
  · have e1 : ¬ (64 + 64 - 1 - q < 64) := by omega
    simp only [e1, e3, decide_true, Bool.true_and, decide_false, cond_false, if_false]
    rw [bigL_bit 8 _ (by rw [List.length_take]; omega) (by omega) _ (by omega)]
    have e4 : 8 - 1 - (64 + 64 - 1 - q - 64) / 8 = q / 8 := by omega
    have e5 : (64 + 64 - 1 - q - 64) % 8 = 7 - q % 8 := by omega
    have e6 : 64 + 64 - 1 - q - 64 < 8 * 8 := by omega
    rw [e4, e5]
    simp only [e6, decide_true, Bool.true_and]
    rw [List.getD_eq_getElem?_getD, List.getElem?_take, if_pos (by omega), List.getD_eq_getElem?_getD]
  · have e1 : 64 + 64 - 1 - q < 64 := by omega
    simp only [e1, e3, decide_true, Bool.true_and, cond_true, if_true]
    rw [bigL_bit 8 _ (by rw [List.length_drop]; omega) (by omega) _ (by omega)]
    have e4 : 8 - 1 - (64 + 64 - 1 - q) / 8 = q / 8 - 8 := by omega
    have e5 : (64 + 64 - 1 - q) % 8 = 7 - q % 8 := by omega
    have e6 : 64 + 64 - 1 - q < 8 * 8 := by omega
    rw [e4, e5]
    simp only [e6, decide_true, Bool.true_and]
    rw [List.getD_eq_getElem?_getD, List.getElem?_drop, List.getD_eq_getElem?_getD, show 8 + (q / 8 - 8) = q / 8 from by omega]
theorem one_shift (j p : Nat) (hj : j < 8) (hp : p < 8) : (1#8 <<< j).getLsbD p = decide (p = j) := by
  have : ∀ j p : Fin 8, (1#8 <<< j.1).getLsbD p.1 = decide (p.1 = j.1) := by decide
  exact this ⟨j, hj⟩ ⟨p, hp⟩
theorem el_flip (blk : List B8) (h : blk.length = 16) (i j : Nat) (hi : i < 16) (hj : j < 8) :
    el (ofL (blk.set i (blk.getD i default ^^^ (1#8 <<< j)))) = el (ofL blk) ^^^ Gh.onN (8 * i + (7 - j)) Gh.one := by
  apply BitVec.eq_of_getMsbD_eq
  intro q hq
  rw [el_bit _ (by rw [List.length_set, h]) q (by omega), BitVec.getMsbD_xor, el_bit _ h q (by omega), Gh.onN_one _ (by omega)]
  by_cases hqi : q / 8 = i
  · have e1 : (blk.set i (blk.getD i default ^^^ (1#8 <<< j))).getD (q / 8) default = blk.getD i default ^^^ (1#8 <<< j) := by
      rw [hqi, List.getD_eq_getElem?_getD, List.getElem?_set_self (by omega)]; rfl
    rw [e1, hqi, BitVec.getLsbD_xor, one_shift _ _ hj (by omega)]
    have : decide (7 - q % 8 = j) = decide (q = 8 * i + (7 - j)) := by
      rw [decide_eq_decide]; omega
    rw [this]
  · have e1 : (blk.set i (blk.getD i default ^^^ (1#8 <<< j))).getD (q / 8) default = blk.getD (q / 8) default := by
      rw [List.getD_eq_getElem?_getD, List.getElem?_set_ne (by omega), List.getD_eq_getElem?_getD]
    have e2 : ¬ (q = 8 * i + (7 - j)) := by omega
    rw [e1]; simp [e2]
theorem el_zero (blk : List B8) (h : blk.length = 16) (h0 : el (ofL blk) = 0#128) : blk = zeros16 := by
  apply List.ext_getElem (by rw [h]; rfl)
  intro i h1 h2
  have : blk[i] = 0#8 := by
    apply BitVec.eq_of_getLsbD_eq
    intro p hp
    have hb := el_bit blk h (8 * i + (7 - p)) (by omega)
    rw [h0] at hb
    have e1 : (8 * i + (7 - p)) / 8 = i := by omega
    have e2 : 7 - (8 * i + (7 - p)) % 8 = p := by omega
    rw [e1, e2, BitVec.getMsbD_zero] at hb
    rw [BitVec.getLsbD_zero, hb]
    simp [h1]
  rw [this]
  exact List.getElem_replicate (h := h2) |>.symm
theorem putBE8 (n : BitVec 64) : putBE n 8 = [leB n 7, leB n 6, leB n 5, leB n 4, leB n 3, leB n 2, leB n 1, leB n 0] := by simp [putBE, revL, putLE, revTo, List.range, List.range.loop]
theorem leB_inj (n m : BitVec 64) (h : ∀ i, i < 8 → leB n i = leB m i) : n = m := by
  apply BitVec.eq_of_getLsbD_eq
  intro p hp
  have := congrArg (fun z => z.getLsbD (p % 8)) (h (p / 8) (by omega))
  simp only [leB, if_neg (show ¬ 8 ≤ p / 8 by omega), BitVec.getLsbD_setWidth, BitVec.getLsbD_ushiftRight] at this
  have e1 : 8 * (p / 8) + p % 8 = p := by omega
  have e2 : p % 8 < 8 := by omega
  simpa [e1, e2] using this
theorem putBE8_inj (n m : BitVec 64) (h : putBE n 8 = putBE m 8) : n = m := by
  rw [putBE8, putBE8] at h
  simp only [List.cons.injEq, and_true] at h
  obtain ⟨h7, h6, h5, h4, h3, h2, h1, h0⟩ := h
  apply leB_inj
  intro i hi
  match i, hi with
  | 0, _ => exact h0
  | 1, _ => exact h1
  | 2, _ => exact h2
  | 3, _ => exact h3
  | 4, _ => exact h4
  | 5, _ => exact h5
  | 6, _ => exact h6
  | 7, _ => exact h7
theorem blockL_inj (e f : W2) (h : blockL e.1 e.2 = blockL f.1 f.2) : e = f := by
  obtain ⟨h1, h2⟩ := List.append_inj h (by rw [putBE_len, putBE_len])
  exact Prod.ext (putBE8_inj _ _ h1) (putBE8_inj _ _ h2)
theorem blkAt_set (X : List B8) (p : Nat) (v : B8) (k : Nat) : blkAt (X.set p v) k = if k = p / 16 then (blkAt X k).set (p % 16) v else blkAt X k := by
  unfold blkAt
  rw [List.drop_set]
  by_cases h : k = p / 16
  · rw [if_pos h, if_neg (by omega), List.take_set, show p - 16 * k = p % 16 from by omega]
  · rw [if_neg h]
    by_cases h1 : p < 16 * k
    · rw [if_pos h1]
    · rw [if_neg h1, List.take_set, List.set_eq_of_length_le (by rw [List.length_take]; omega)]
theorem hash_ne (h : List B8) (hh : h.length = 16) (hne : h ≠ zeros16) (X : List B8) (N : Nat) (hX : X.length = 16 * N) (hN : N ≤ 16) (p j : Nat) (hp : p < X.length) (hj : j < 8) :
    sumL h (X.set p (X.getD p default ^^^ (1#8 <<< j))) N ≠ sumL h X N := by
  intro he
  have he := congrArg el (blockL_inj _ _ he)
  rw [sum_el, sum_el] at he
  have hkey : el (ofL h) ≠ 0#128 := fun hz => hne (el_zero h hh hz)
  have hk0 : p / 16 < N := by omega
  have hbl : (blkAt X (p / 16)).length = 16 := by rw [blkAt, List.length_take, List.length_drop]; omega
  have hgd : X.getD p default = (blkAt X (p / 16)).getD (p % 16) default := by
    rw [blkAt, List.getD_eq_getElem?_getD, List.getD_eq_getElem?_getD, List.getElem?_take, if_pos (by omega), List.getElem?_drop, show 16 * (p / 16) + p % 16 = p from by omega]
  generalize hL : ((List.range N).map fun k => el (ofL (blkAt X k))) = L at he
  have hLl : L.length = N := by rw [← hL]; simp
  have hLg : ∀ k (hk : k < N), L[k]'(by omega) = el (ofL (blkAt X k)) := fun k hk => by subst hL; simp
  have hL' : ((List.range N).map fun k => el (ofL (blkAt (X.set p (X.getD p default ^^^ (1#8 <<< j))) k))) = L.set (p / 16) (L[p / 16]'(by omega) ^^^ Gh.onN (8 * (p % 16) + (7 - j)) Gh.one) := by
    apply List.ext_getElem (by simp [hLl])
    intro k h1 h2
    have hk : k < N := by simpa using h1
    rw [List.getElem_map, List.getElem_range, List.getElem_set, blkAt_set]
    by_cases hkp : p / 16 = k
    · rw [if_pos hkp.symm, if_pos hkp, hLg _ hk0, ← hkp, hgd, el_flip _ hbl _ _ (by omega) hj]
    · rw [if_neg (fun h => hkp h.symm), if_neg hkp, hLg k hk]
  rw [hL', List.set_eq_take_append_cons_drop, if_pos (by omega)] at he
  have hsp : L = L.take (p / 16) ++ L[p / 16]'(by omega) :: L.drop (p / 16 + 1) := by
    rw [← List.drop_eq_getElem_cons, List.take_append_drop]
  have hb := Gh.sum_bit (el (ofL h)) hkey (L.take (p / 16)) (L.drop (p / 16 + 1)) (L[p / 16]'(by omega)) (8 * (p % 16) + (7 - j)) (by rw [List.length_drop, hLl]; omega)
  rw [← hsp] at hb
  exact hb he
theorem xorL_inj (a b c : List B8) (ha : a.length = 16) (hb : b.length = 16) (hc : c.length = 16) (h : xorL a c = xorL b c) : a = b := by
  apply List.ext_getElem (by omega)
  intro i h1 h2
  have := congrArg (fun z : List B8 => z.getD i default) h
  have e1 : ∀ x : List B8, x.length = 16 → (xorL x c).getD i default = x.getD i default ^^^ c.getD i default := fun x hx => by
    rw [xorL, List.getD_eq_getElem?_getD, getmapN _ _ (by omega)]; rfl
  simp only [e1 a ha, e1 b hb] at this
  have := congrArg (fun z => z ^^^ c.getD i default) this
  simp only [BitVec.xor_assoc, BitVec.xor_self, BitVec.xor_zero] at this
  simpa [h1, h2] using this
where getmapN {f : Nat → B8} (n i : Nat) (h : i < n) : ((List.range n).map f)[i]? = some (f i) := by simp [h]
theorem padL_set (x : List B8) (i : Nat) (v : B8) (h : i < x.length) : padL (x.set i v) = (padL x).set i v := by
  simp only [padL, List.flatten_cons, List.flatten_nil, List.length_set]
  rw [List.set_append_left _ _ h]
theorem padL_get (x : List B8) (i : Nat) (h : i < x.length) : (padL x)[i]? = x[i]? := by
  simp only [padL, List.flatten_cons]
  rw [List.getElem?_append_left h]
theorem hashIn2 (n m : Nat) (x y : List B8) : hashIn n m [x, y] = (padL x ++ padL y) ++ lengthsL n m := by
  simp [hashIn, pcTo]
theorem hashIn2_len (n m : Nat) (x y : List B8) : (hashIn n m [x, y]).length = 16 * ((hashIn n m [x, y]).length / 16) := by
  have := padL_mod x; have := padL_mod y
  rw [hashIn2, List.length_append, List.length_append, lengthsL_len]; omega
theorem hash_aad (E : List B8 → List B8) (hE : ∀ x, (E x).length = 16) (hne : E zeros16 ≠ zeros16) (n m : Nat) (x y : List B8) (i j : Nat) (hi : i < x.length) (hj : j < 8) (hx : x.length ≤ 100) (hy : y.length ≤ 100) :
    hashL E n m [x.set i (x.getD i default ^^^ (1#8 <<< j)), y] ≠ hashL E n m [x, y] := by
  have hp := padN_lt x.length; have hq := padN_lt y.length
  have hl := hashIn2_len n m x y
  have hs : hashIn n m [x.set i (x.getD i default ^^^ (1#8 <<< j)), y] = (hashIn n m [x, y]).set i ((hashIn n m [x, y]).getD i default ^^^ (1#8 <<< j)) := by
    have hg : (hashIn n m [x, y]).getD i default = x.getD i default := by
      rw [hashIn2, List.append_assoc, List.getD_eq_getElem?_getD, List.getElem?_append_left (by rw [padL_len]; omega), List.getD_eq_getElem?_getD]
      simp only [padL, List.flatten_cons]
      rw [List.getElem?_append_left hi]
    rw [hg, hashIn2, hashIn2, padL_set _ _ _ hi, List.append_assoc, List.append_assoc, List.set_append_left _ _ (by rw [padL_len]; omega)]
  unfold hashL
  rw [hs, List.length_set]
  refine hash_ne _ (hE _) hne _ _ hl ?_ i j ?_ hj
  · rw [hashIn2, List.length_append, List.length_append, lengthsL_len, padL_len, padL_len]; omega
  · rw [hashIn2, List.length_append, List.length_append, padL_len]; omega
theorem hash_text (E : List B8 → List B8) (hE : ∀ x, (E x).length = 16) (hne : E zeros16 ≠ zeros16) (n m : Nat) (x y : List B8) (i j : Nat) (hi : i < y.length) (hj : j < 8) (hx : x.length ≤ 100) (hy : y.length ≤ 100) :
    hashL E n m [x, y.set i (y.getD i default ^^^ (1#8 <<< j))] ≠ hashL E n m [x, y] := by
  have hp := padN_lt x.length; have hq := padN_lt y.length
  have hl := hashIn2_len n m x y
  have hpy := padL_len y
  have hs : hashIn n m [x, y.set i (y.getD i default ^^^ (1#8 <<< j))] = (hashIn n m [x, y]).set ((padL x).length + i) ((hashIn n m [x, y]).getD ((padL x).length + i) default ^^^ (1#8 <<< j)) := by
    have hg : (hashIn n m [x, y]).getD ((padL x).length + i) default = y.getD i default := by
      rw [hashIn2, List.append_assoc, List.getD_eq_getElem?_getD, List.getElem?_append_right (by omega), List.getElem?_append_left (by omega), List.getD_eq_getElem?_getD]
      rw [show (padL x).length + i - (padL x).length = i from by omega, padL_get _ _ hi]
    rw [hg, hashIn2, hashIn2, padL_set _ _ _ hi, List.append_assoc, List.append_assoc, List.set_append_right _ _ (by omega), List.set_append_left _ _ (by omega), show (padL x).length + i - (padL x).length = i from by omega]
  unfold hashL
  rw [hs, List.length_set]
  refine hash_ne _ (hE _) hne _ _ hl ?_ _ j ?_ hj
  · rw [hashIn2, List.length_append, List.length_append, lengthsL_len, padL_len, padL_len]; omega
  · rw [hashIn2, List.length_append, List.length_append]; omega
theorem onebit_aad (E : List B8 → List B8) (hE : ∀ x, (E x).length = 16) (hne : E zeros16 ≠ zeros16) (iv aad b : List B8) (i j : Nat) (hi : i < aad.length) (hj : j < 8) (ha : aad.length ≤ 100) (hb : b.length ≤ 100) :
    openL E iv (aad.set i (aad.getD i default ^^^ (1#8 <<< j))) (sealL E iv aad b) = ([], 7) := by
  unfold openL sealL
  generalize firstL E iv = f
  have hl : (sealF E f aad b).length - 16 = b.length := by rw [sealF_len E hE]; omega
  rw [openF, if_neg (by rw [sealF_len E hE]; omega), hl, sealF_take E hE, sealF_drop E hE, if_neg]
  intro h
  have h := xorL_inj _ _ _ (hashL_len _ _ _ _) (hashL_len _ _ _ _) (hE f) h
  rw [List.length_set] at h
  exact hash_aad E hE hne _ _ _ _ i j hi hj ha (by rw [textL_len E hE]; exact hb) h.symm
theorem onebit_text (E : List B8 → List B8) (hE : ∀ x, (E x).length = 16) (hne : E zeros16 ≠ zeros16) (iv aad b : List B8) (i j : Nat) (hi : i < b.length) (hj : j < 8) (ha : aad.length ≤ 100) (hb : b.length ≤ 100) :
    openL E iv aad ((sealL E iv aad b).set i ((sealL E iv aad b).getD i default ^^^ (1#8 <<< j))) = ([], 7) := by
  unfold openL sealL
  generalize firstL E iv = f
  have htl := textL_len E hE f b
  have hg : (sealF E f aad b).getD i default = (textL E f b).getD i default := by
    rw [sealF, List.getD_eq_getElem?_getD, List.getElem?_append_left (by omega), List.getD_eq_getElem?_getD]
  have hs : (sealF E f aad b).set i ((sealF E f aad b).getD i default ^^^ (1#8 <<< j)) = (textL E f b).set i ((textL E f b).getD i default ^^^ (1#8 <<< j)) ++ tagL E f aad (textL E f b) := by
    rw [hg, sealF, List.set_append_left _ _ (by omega)]
  have hl : ((sealF E f aad b).set i ((sealF E f aad b).getD i default ^^^ (1#8 <<< j))).length = b.length + 16 := by rw [List.length_set, sealF_len E hE]
  rw [openF, hl, if_neg (by omega), show b.length + 16 - 16 = b.length from by omega, hs]
  have htl' : ((textL E f b).set i ((textL E f b).getD i default ^^^ (1#8 <<< j))).length = b.length := by rw [List.length_set, htl]
  rw [List.take_append_of_le_length (by omega), List.take_of_length_le (by omega), ← htl', List.drop_left, if_neg]
  intro h
  have h := xorL_inj _ _ _ (hashL_len _ _ _ _) (hashL_len _ _ _ _) (hE f) h
  rw [List.length_set] at h
  exact hash_text E hE hne _ _ _ _ i j (by omega) hj ha (by omega) h.symm
end Go.Proofs.Ytiimjkpcljelpaa

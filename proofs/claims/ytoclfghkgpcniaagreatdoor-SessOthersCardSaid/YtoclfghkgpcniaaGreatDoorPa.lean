/- Plain functions. -/
import Derived.Test.YtoclfghkgpcniaaGreatDoorEng
set_option maxRecDepth 10000
open Go.RowKit Go.Eng
set_option linter.unusedSimpArgs false
set_option linter.unusedVariables false
namespace Go.Proofs.YtoclfghkgpcniaaGreatDoor
/-! ### bits -/
abbrev B8 := BitVec 8
def ixor (xs ys : List B8) (i : Nat) : B8 := xs.getD i default ^^^ ys.getD i default
/-- What 'puts' has put so far. -/
def fillTo {α : Type} (g : Nat → α) (d : α) (k n : Nat) : List α := (List.range k).map g ++ List.replicate (n - k) d
theorem fillTo_len {α : Type} (g : Nat → α) (d : α) (k n : Nat) (h : k ≤ n) : (fillTo g d k n).length = n := by simp [fillTo]; omega
theorem fillTo_zero {α : Type} (g : Nat → α) (d : α) (n : Nat) : fillTo g d 0 n = List.replicate n d := by simp [fillTo]
theorem fillTo_full {α : Type} (g : Nat → α) (d : α) (n : Nat) : fillTo g d n n = (List.range n).map g := by simp [fillTo]
theorem fillTo_set {α : Type} (g : Nat → α) (d : α) (k n : Nat) (h : k < n) : (fillTo g d k n).set k (g k) = fillTo g d (k + 1) n := by
  unfold fillTo
  obtain ⟨m, rfl⟩ : ∃ m, n = k + 1 + m := ⟨n - (k + 1), by omega⟩
  rw [show k + 1 + m - k = m + 1 from by omega, show k + 1 + m - (k + 1) = m from by omega, List.replicate_succ, List.range_succ, List.map_append]
  rw [List.set_append_right _ _ (by simp)]
  simp
def xorL (xs ys : List B8) : List B8 := (List.range (min xs.length ys.length)).map (ixor xs ys)
theorem xorL_len (xs ys : List B8) : (xorL xs ys).length = min xs.length ys.length := by simp [xorL]
def bigL (xs : List B8) : BitVec 64 := xs.foldl (fun n c => (n <<< 8) ||| c.setWidth 64) 0#64
theorem bigL_step (xs : List B8) (k : Nat) (h : k < xs.length) : (bigL (xs.take k) <<< 8) ||| (xs.getD k default).setWidth 64 = bigL (xs.take (k + 1)) := by
  unfold bigL
  rw [List.take_succ_eq_append_getElem h, List.foldl_append]
  simp [h]
def leB (n : BitVec 64) (i : Nat) : B8 := if 8 ≤ i then 0#8 else (n >>> (8 * i)).setWidth 8
def putLE (n : BitVec 64) (many : Nat) : List B8 := (List.range many).map (leB n)
/-- A row turned round, as far as the i-th change. -/
def revTo (xs : List B8) : Nat → List B8
  | 0 => xs
  | i + 1 => ((revTo xs i).set i ((revTo xs i).getD (xs.length - 1 - i) default)).set (xs.length - 1 - i) ((revTo xs i).getD i default)
theorem revTo_len (xs : List B8) (i : Nat) : (revTo xs i).length = xs.length := by
  induction i with
  | zero => rfl
  | succ i ih => simp [revTo, ih]
def revL (xs : List B8) : List B8 := revTo xs (xs.length / 2)
theorem revL_len (xs : List B8) : (revL xs).length = xs.length := revTo_len _ _
def putBE (n : BitVec 64) (many : Nat) : List B8 := revL (putLE n many)
theorem putBE_len (n : BitVec 64) (many : Nat) : (putBE n many).length = many := by simp [putBE, revL_len, putLE]
/-- The differences of two rows, as far as the i-th byte. -/
def difTo (xs ys : List B8) : Nat → B8
  | 0 => 0#8
  | i + 1 => difTo xs ys i ||| ixor xs ys i
theorem or_zero {w : Nat} (a b : BitVec w) : a ||| b = 0#w ↔ a = 0#w ∧ b = 0#w := by
  constructor
  · intro h
    constructor
    · apply BitVec.eq_of_getLsbD_eq
      intro i hi
      have := congrArg (fun z => z.getLsbD i) h
      simp only [BitVec.getLsbD_or, BitVec.getLsbD_zero, Bool.or_eq_false_iff] at this
      simpa using this.1
    · apply BitVec.eq_of_getLsbD_eq
      intro i hi
      have := congrArg (fun z => z.getLsbD i) h
      simp only [BitVec.getLsbD_or, BitVec.getLsbD_zero, Bool.or_eq_false_iff] at this
      simpa using this.2
  · rintro ⟨rfl, rfl⟩; simp
theorem difTo_zero (xs ys : List B8) (k : Nat) : difTo xs ys k = 0#8 ↔ ∀ i, i < k → xs.getD i default = ys.getD i default := by
  induction k with
  | zero => simp [difTo]
  | succ k ih =>
    simp only [difTo, or_zero, ih]
    have hx : ixor xs ys k = 0#8 ↔ xs.getD k default = ys.getD k default := by
      unfold ixor
      constructor
      · intro h
        have := congrArg (fun z => z ^^^ ys.getD k default) h
        simpa [BitVec.xor_assoc] using this
      · intro h; rw [h]; simp
    rw [hx]
    constructor
    · rintro ⟨h1, h2⟩ i hi
      rcases Nat.lt_succ_iff_lt_or_eq.1 hi with h | h
      · exact h1 i h
      · subst h; exact h2
    · intro h
      exact ⟨fun i hi => h i (by omega), h k (by omega)⟩
theorem difTo_eq (xs ys : List B8) (h : xs.length = ys.length) : decide (difTo xs ys xs.length = 0#8) = decide (xs = ys) := by
  congr 1
  apply propext
  rw [difTo_zero]
  constructor
  · intro hi
    apply List.ext_getElem h
    intro i h1 h2
    have := hi i h1
    simpa [h1, h2] using this
  · rintro rfl i _; rfl
theorem revTo_step (xs : List B8) (i : Nat) : revTo xs (i + 1) = ((revTo xs i).set i ((revTo xs i).getD (xs.length - 1 - i) default)).set (xs.length - 1 - i) ((revTo xs i).getD i default) := rfl
/-- Turned in place, the i-th to g i, as far as k. -/
def turnTo {α : Type} (g : Nat → α) (xs : List α) (k : Nat) : List α := (List.range k).map g ++ xs.drop k
theorem turnTo_len {α : Type} (g : Nat → α) (xs : List α) (k : Nat) (h : k ≤ xs.length) : (turnTo g xs k).length = xs.length := by simp [turnTo]; omega
theorem turnTo_zero {α : Type} (g : Nat → α) (xs : List α) : turnTo g xs 0 = xs := by simp [turnTo]
theorem turnTo_full {α : Type} (g : Nat → α) (xs : List α) (k : Nat) (h : xs.length ≤ k) : turnTo g xs k = (List.range k).map g := by simp [turnTo, List.drop_eq_nil_of_le h]
theorem turnTo_set {α : Type} (g : Nat → α) (xs : List α) (k : Nat) (h : k < xs.length) : (turnTo g xs k).set k (g k) = turnTo g xs (k + 1) := by
  unfold turnTo
  rw [List.range_succ, List.map_append, List.set_append_right _ _ (by simp), List.drop_eq_getElem_cons h]
  simp only [List.length_map, List.length_range, Nat.sub_self, List.set_cons_zero, List.append_assoc, List.map_cons, List.map_nil, List.cons_append, List.nil_append]
theorem turnTo_getD {α : Type} (g : Nat → α) (xs : List α) (k : Nat) (d : α) : (turnTo g xs k).getD k d = xs.getD k d := by
  unfold turnTo
  rw [List.getD_eq_getElem?_getD, List.getElem?_append_right (by simp), List.getD_eq_getElem?_getD]
  simp
/-! ### aes -/
def dbl (x : BitVec 8) : BitVec 8 := if 128 ≤ (x.toNat : Int) then (x <<< 1) ^^^ 27#8 else x <<< 1
def trn (q : BitVec 8) : Nat → BitVec 8
  | 0 => q
  | i + 1 => trn q i ^^^ ((q <<< (i + 1)) ||| (q >>> (8 - (i + 1))))
theorem trn_step (q : BitVec 8) (k : Nat) (hk : k < 4) : trn q k ^^^ ((q <<< (1 + (k : Int)).toNat) ||| (q >>> (8 - (1 + (k : Int))).toNat)) = trn q (k + 1) := by
  have e1 : (1 + (k : Int)).toNat = k + 1 := by omega
  have e2 : (8 - (1 + (k : Int))).toNat = 8 - (k + 1) := by omega
  rw [e1, e2]; rfl
def stepP (p : B8) : B8 := p ^^^ dbl p
def stepQ0 (q : B8) : B8 := let a := q ^^^ (q <<< 1); let b := a ^^^ (a <<< 2); b ^^^ (b <<< 4)
def stepQ (q : B8) : B8 := if 128 ≤ ((stepQ0 q).toNat : Int) then stepQ0 q ^^^ 9#8 else stepQ0 q
def pAt : Nat → B8
  | 0 => 1#8
  | k + 1 => stepP (pAt k)
def qAt : Nat → B8
  | 0 => 1#8
  | k + 1 => stepQ (qAt k)
/-- the tables on the way -/
def thereTo : Nat → List B8
  | 0 => List.replicate 512 0#8
  | k + 1 => (thereTo k).set (pAt (k + 1)).toNat (trn (qAt (k + 1)) 4 ^^^ 99#8)
theorem thereTo_len (k : Nat) : (thereTo k).length = 512 := by
  induction k with
  | zero => rfl
  | succ k ih => simp [thereTo, ih]
def backTo : Nat → List B8
  | 0 => (thereTo 255).set 0 99#8
  | k + 1 => (backTo k).set (256 + ((backTo k).getD k default).toNat) (BitVec.ofInt 8 k)
theorem backTo_len (k : Nat) : (backTo k).length = 512 := by
  induction k with
  | zero => simp [backTo, thereTo_len]
  | succ k ih => simp [backTo, ih]
def tabs : List B8 := backTo 256
theorem tabs_len : tabs.length = 512 := backTo_len _
def subG (tab xs : List B8) (i : Nat) : B8 := tab.getD (xs.getD i default).toNat default
def subL (tab xs : List B8) : List B8 := (List.range xs.length).map (subG tab xs)
def addG (ws : List B8) (r : Nat) (xs : List B8) (i : Nat) : B8 := xs.getD i default ^^^ ws.getD (16 * r + i) default
def addL (ws : List B8) (r : Nat) (xs : List B8) : List B8 := (List.range 16).map (addG ws r xs)
def shiftG (xs : List B8) (i : Nat) : B8 := xs.getD (4 * ((i / 4 + i % 4 + 16) % 4) + i % 4) default
def shiftL (xs : List B8) : List B8 := (List.range 16).map (shiftG xs)
def mixedG (c : List B8) (i : Nat) : B8 := (c.getD i default ^^^ (((c.getD 0 default ^^^ c.getD 1 default) ^^^ c.getD 2 default) ^^^ c.getD 3 default)) ^^^ dbl (c.getD i default ^^^ c.getD ((i + 1) % 4) default)
def mixedL (c : List B8) : List B8 := (List.range 4).map (mixedG c)
def mixedN (c : List B8) : Nat → List B8
  | 0 => c
  | k + 1 => mixedL (mixedN c k)
theorem mixedN_len (c : List B8) (k : Nat) (h : c.length = 4) : (mixedN c k).length = 4 := by cases k <;> simp [mixedN, mixedL, h]
def mixTo (m : Nat) (xs : List B8) : Nat → List B8
  | 0 => xs
  | k + 1 => (mixTo m xs k).take (4 * k) ++ mixedN (((mixTo m xs k).drop (4 * k)).take 4) m ++ (mixTo m xs k).drop (4 * k + 4)
theorem mixTo_len (m : Nat) (xs : List B8) (h : xs.length = 16) (k : Nat) (hk : k ≤ 4) : (mixTo m xs k).length = 16 := by
  induction k with
  | zero => exact h
  | succ k ih =>
    have ih := ih (by omega)
    rw [mixTo, List.length_append, List.length_append, mixedN_len _ _ (by rw [List.length_take, List.length_drop, ih]; omega), List.length_take, List.length_drop, ih]
    omega
def mixL (m : Nat) (xs : List B8) : List B8 := mixTo m xs 4
theorem mixL_len (m : Nat) (xs : List B8) (h : xs.length = 16) : (mixL m xs).length = 16 := mixTo_len m xs h 4 (by omega)
def encTo (tab ws : List B8) (r : Nat) (xs : List B8) : Nat → List B8
  | 0 => addL ws 0 xs
  | k + 1 => addL ws (k + 1) (if k + 1 < r then mixL 1 (shiftL (subL tab (encTo tab ws r xs k))) else shiftL (subL tab (encTo tab ws r xs k)))
theorem encTo_len (tab ws : List B8) (r : Nat) (xs : List B8) (k : Nat) : (encTo tab ws r xs k).length = 16 := by cases k <;> simp [encTo, addL]
def enc (tab ws : List B8) (r : Nat) (xs : List B8) : List B8 := encTo tab ws r xs r
theorem subL_len (tab xs : List B8) : (subL tab xs).length = xs.length := by simp [subL]
theorem shiftL_len (xs : List B8) : (shiftL xs).length = 16 := by simp [shiftL]
theorem addL_len (ws : List B8) (r : Nat) (xs : List B8) : (addL ws r xs).length = 16 := by simp [addL]
/-- What is known of a key in memory. -/
def KeysAt (w : World) (F : List Nat) (kb : Nat) (tab ws : List B8) (r : Nat) : Prop :=
  ∃ tb wb wo c T1 T2 f1 f2, kb ∉ F ∧ tb ∉ F ∧ wb ∉ F ∧ w.heap[kb]? = some (.cells #[pt tb 0, .slice (some ⟨wb, wo, none⟩) (4 * (r + 1)) c] T1 f1) ∧ w.heap[tb]? = some (.cells (tab.map u8).toArray T2 f2) ∧
    Rw w (some ⟨wb, wo, none⟩) (ws.map u8) ∧ tab.length = 512 ∧ ws.length = 16 * (r + 1) ∧ r ≤ 100
theorem KeysAt.keepF {w0 w : World} {L : List Hl} {F : List Nat} {kb : Nat} {tab ws : List B8} {r : Nat} (h : KeysAt w0 [] kb tab ws r) (hT : Tr w0 [] L w) (hF : ∀ k ∈ F, w0.heap.size ≤ k) : KeysAt w F kb tab ws r := by
  obtain ⟨tb, wb, wo, c, T1, T2, f1, f2, h1, h2, h3, h4, h5, h6, h7, h8, h9⟩ := h
  have lt1 := (Array.getElem?_eq_some_iff.1 h4).1
  have lt2 := (Array.getElem?_eq_some_iff.1 h5).1
  have lt3 : wb < w0.heap.size := by
    obtain ⟨b', o', e1, e2⟩ := h6 0 _ (List.getElem?_eq_getElem (by rw [List.length_map]; omega))
    simp only [Option.some.injEq, Addr.mk.injEq, and_true] at e1
    obtain ⟨rfl, rfl⟩ := e1
    exact World.block_lt_of_cell? w0 _ e2
  exact ⟨tb, wb, wo, c, T1, T2, f1, f2, fun h => by have := hF _ h; omega, fun h => by have := hF _ h; omega, fun h => by have := hF _ h; omega, hT.old0 h4, hT.old0 h5, h6.keep hT, h7, h8, h9⟩
theorem KeysAt.keep {w0 w : World} {L : List Hl} {kb : Nat} {tab ws : List B8} {r : Nat} (h : KeysAt w0 [] kb tab ws r) (hT : Tr w0 [] L w) : KeysAt w [] kb tab ws r := h.keepF hT (by simp)
theorem KeysAt.keepB {w0 w : World} {L : List Hl} {kb b : Nat} {tab ws : List B8} {r : Nat} (h : KeysAt w0 [] kb tab ws r) (hT : Tr w0 [] L w) (hb : New w0 b) : KeysAt w [b] kb tab ws r := h.keepF hT (by simpa using hb)

def rotL (w : List B8) : List B8 := [w.getD 1 default, w.getD 2 default, w.getD 3 default, w.getD 0 default]
/-- the i-th word's turn in the expansion -/
def wordL (tab ws : List B8) (many i : Nat) (step : B8) : List B8 :=
  if i % many = 0 then (subL tab (rotL ((ws.drop (4 * (i - 1))).take 4))).set 0 ((subL tab (rotL ((ws.drop (4 * (i - 1))).take 4))).getD 0 default ^^^ step)
  else if 6 < many ∧ i % many = 4 then subL tab ((ws.drop (4 * (i - 1))).take 4) else (ws.drop (4 * (i - 1))).take 4
def expTo (tab key : List B8) (many : Nat) : Nat → List B8 × B8
  | 0 => (key, 1#8)
  | k + 1 => ((expTo tab key many k).1 ++ xorL (wordL tab (expTo tab key many k).1 many (many + k) (expTo tab key many k).2) (((expTo tab key many k).1.drop (4 * k)).take 4),
      if (many + k) % many = 0 then dbl (expTo tab key many k).2 else (expTo tab key many k).2)
theorem wordL_len (tab ws : List B8) (many i : Nat) (step : B8) (h : 4 * (i - 1) + 4 ≤ ws.length) : (wordL tab ws many i step).length = 4 := by
  unfold wordL
  split
  · simp [subL, rotL]
  · split
    · simp [subL]; omega
    · simp; omega
theorem expTo_len (tab key : List B8) (many k : Nat) (h : key.length = 4 * many) (hm : 0 < many) : (expTo tab key many k).1.length = 4 * (many + k) := by
  induction k with
  | zero => simpa [expTo] using h
  | succ k ih =>
    rw [expTo, List.length_append, xorL_len, wordL_len _ _ _ _ _ (by rw [ih]; omega), ih, List.length_take, List.length_drop, ih]
    omega
def expandL (tab key : List B8) : List B8 := (expTo tab key (key.length / 4) (3 * (key.length / 4) + 28)).1
theorem keysOf {w0 w : World} {F L wb kb tb n c T1 T2 T3} {tab ws : List B8} {r : Nat} (h : Tr w0 F L w) (h1 : Hl.row (some wb) T1 4 n c (ws.map u8) ∈ L) (h2 : Hl.blk kb T2 [pt tb 0, sl (some wb) n c] ∈ L) (h3 : Hl.blk tb T3 (tab.map u8) ∈ L)
    (hn : n = 4 * (r + 1)) (ht : tab.length = 512) (hr : r ≤ 100) : KeysAt w [] kb tab ws r := by
  subst hn
  have hl := h.sat _ h1
  rcases Hl.row_cases hl with ⟨h, _⟩ | ⟨g, spare, hg, _, _, _, hx, _⟩
  · cases h
  · refine ⟨tb, wb, 0, c, T2, T3, (0, 0), (0, 0), by simp, by simp, by simp, h.blk h2, h.blk h3, h.rwRow h1, ht, ?_, hr⟩
    rw [List.length_map] at hx
    omega

/-- What is known of the tables of a key. -/
def TabAt (w : World) (F : List Nat) (kb : Nat) (tab : List B8) : Prop :=
  ∃ tb v T1 T2 f1 f2, kb ∉ F ∧ tb ∉ F ∧ w.heap[kb]? = some (.cells #[pt tb 0, v] T1 f1) ∧ w.heap[tb]? = some (.cells (tab.map u8).toArray T2 f2) ∧ tab.length = 512
theorem KeysAt.tab {w : World} {F : List Nat} {kb : Nat} {tab ws : List B8} {r : Nat} (h : KeysAt w F kb tab ws r) : TabAt w F kb tab := by
  obtain ⟨tb, wb, wo, c, T1, T2, f1, f2, h1, h2, h3, h4, h5, h6, h7, h8, h9⟩ := h
  exact ⟨tb, _, T1, T2, f1, f2, h1, h2, h4, h5, h7⟩
theorem tabOff {w0 w : World} {F : List Nat} {L : List Hl} {b kb tb : Nat} {T T2 T3 : TypeId} {cs : List Value} {v : Value} {tab : List B8} (h : Tr w0 F (.blk b T cs :: L) w) (h1 : Hl.blk kb T2 [pt tb 0, v] ∈ L) (h2 : Hl.blk tb T3 (tab.map u8) ∈ L) (ht : tab.length = 512) : TabAt w [b] kb tab := by
  have ha := (List.pairwise_cons.1 h.apart).1
  refine ⟨tb, v, T2, T3, (0, 0), (0, 0), ?_, ?_, h.blk (List.mem_cons_of_mem _ h1), h.blk (List.mem_cons_of_mem _ h2), ht⟩
  · intro hm; simp only [List.mem_singleton] at hm; subst hm; exact ha _ h1 kb rfl rfl
  · intro hm; simp only [List.mem_singleton] at hm; subst hm; exact ha _ h2 tb rfl rfl

/-! ### slices -/
def catTo (xss : List (List B8)) (k : Nat) : List B8 := (xss.take k).flatten
theorem catTo_step (xss : List (List B8)) (k : Nat) (h : k < xss.length) : catTo xss (k + 1) = catTo xss k ++ xss.getD k default := by
  unfold catTo
  rw [List.take_succ_eq_append_getElem h, List.flatten_append, List.flatten_cons, List.flatten_nil, List.append_nil, List.getD_eq_getElem?_getD, List.getElem?_eq_getElem h, Option.getD_some]
theorem catTo_full (xss : List (List B8)) : catTo xss xss.length = xss.flatten := by rw [catTo, List.take_length]
theorem catTo_le (xss : List (List B8)) (k : Nat) : (catTo xss k).length ≤ xss.flatten.length := by
  have : xss.flatten = catTo xss k ++ (xss.drop k).flatten := by rw [catTo, ← List.flatten_append, List.take_append_drop]
  rw [this, List.length_append]; omega
/-- Slices of bytes: what they read. -/
def Parts (w : World) (vals : List Value) (xss : List (List B8)) : Prop := vals.length = xss.length ∧ ∀ k, k < xss.length → ∃ A c, vals[k]? = some (.slice A (xss.getD k default).length c) ∧ Rw w A ((xss.getD k default).map u8)
theorem Parts.keep {w w' : World} {L : List Hl} {vals : List Value} {xss : List (List B8)} (h : Parts w vals xss) (hT : Tr w [] L w') : Parts w' vals xss :=
  ⟨h.1, fun k hk => by obtain ⟨A, c, h1, h2⟩ := h.2 k hk; exact ⟨A, c, h1, h2.keep hT⟩⟩
theorem Parts.one {w : World} {A : Option Addr} {n c : Nat} {xs : List B8} (h : Rw w A (xs.map u8)) (hn : n = xs.length) : Parts w [.slice A n c] [xs] := by
  subst hn
  refine ⟨rfl, fun k hk => ?_⟩
  obtain rfl : k = 0 := by simp at hk; omega
  exact ⟨A, c, rfl, h⟩
theorem Parts.two {w : World} {A B : Option Addr} {n c m d : Nat} {xs ys : List B8} (h : Rw w A (xs.map u8)) (hn : n = xs.length) (h' : Rw w B (ys.map u8)) (hm : m = ys.length) : Parts w [.slice A n c, .slice B m d] [xs, ys] := by
  subst hn; subst hm
  refine ⟨rfl, fun k hk => ?_⟩
  have hk : k < 2 := hk
  rcases (by omega : k = 0 ∨ k = 1) with rfl | rfl
  · exact ⟨A, c, rfl, h⟩
  · exact ⟨B, d, rfl, h'⟩
theorem Hl.row_shrink {w : World} {ao : Option Nat} {T : TypeId} {n m c : Nat} {xs : List Value} (h : (Hl.row ao T 1 n c xs).holds w) (hm : m ≤ n) : (Hl.row ao T 1 m c (xs.take m)).holds w := by
  rcases Hl.row_cases h with ⟨rfl, rfl, rfl, rfl⟩ | ⟨g, spare, rfl, hg, h1, h2, h3, h4⟩
  · obtain rfl : m = 0 := by omega
    exact Hl.row_none _ _ _
  · have e1 : xs ++ spare = xs.take m ++ (xs.drop m ++ spare) := by rw [← List.append_assoc, List.take_append_drop]
    rw [e1] at hg h4
    exact Hl.row_some hg (by omega) h2 (by rw [List.length_take]; omega) h4
theorem Tr.shrink {w0 w : World} {F : List Nat} {L : List Hl} {ao : Option Nat} {T : TypeId} {n m c : Nat} {xs : List Value} (h : Tr w0 F (.row ao T 1 n c xs :: L) w) (hm : m ≤ n) : Tr w0 F (.row ao T 1 m c (xs.take m) :: L) w :=
  ⟨h.os, h.tape, h.output, h.size, h.keep, fun x hx => by
    rcases List.mem_cons.1 hx with rfl | hx
    · exact Hl.row_shrink (h.sat _ List.mem_cons_self) hm
    · exact h.sat x (List.mem_cons_of_mem _ hx),
   List.pairwise_cons.2 ⟨fun y hy k hk => (List.pairwise_cons.1 h.apart).1 y hy k hk, (List.pairwise_cons.1 h.apart).2⟩⟩
/-! ### ghash -/
abbrev W2 := BitVec 64 × BitVec 64
def ofL (xs : List B8) : W2 := (bigL (xs.take 8), bigL (xs.drop 8))
def blockL (a b : BitVec 64) : List B8 := putBE a 8 ++ putBE b 8
theorem blockL_len (a b : BitVec 64) : (blockL a b).length = 16 := by simp [blockL, putBE_len]
def onE (a b : BitVec 64) : W2 := ((if b &&& 1#64 = 1#64 then (a >>> 1) ^^^ 16212958658533785600#64 else a >>> 1), (b >>> 1) ||| (a <<< 63))
def bitE (e : W2) (k : Nat) : BitVec 64 := if 63 < k then (e.2 >>> (63 - (k - 63 - 1))) &&& 1#64 else (e.1 >>> (63 - k)) &&& 1#64
def timesTo (e f : W2) : Nat → W2 × W2
  | 0 => ((0#64, 0#64), f)
  | k + 1 => (if bitE e k = 1#64 then ((timesTo e f k).1.1 ^^^ (timesTo e f k).2.1, (timesTo e f k).1.2 ^^^ (timesTo e f k).2.2) else (timesTo e f k).1, onE (timesTo e f k).2.1 (timesTo e f k).2.2)
def timesL (e f : W2) : W2 := (timesTo e f 128).1
def padN (n : Nat) : Nat := (16 - n % 16) % 16
def lengthsL (n m : Nat) : List B8 := blockL (8#64 * BitVec.ofInt 64 n) (8#64 * BitVec.ofInt 64 m)
theorem lengthsL_len (n m : Nat) : (lengthsL n m).length = 16 := blockL_len _ _
def blkAt (bs : List B8) (k : Nat) : List B8 := (bs.drop (16 * k)).take 16
def sumTo (key : W2) (bs : List B8) : Nat → W2
  | 0 => (0#64, 0#64)
  | k + 1 => timesL ((sumTo key bs k).1 ^^^ (ofL (blkAt bs k)).1, (sumTo key bs k).2 ^^^ (ofL (blkAt bs k)).2) key
def sumL (h bs : List B8) (N : Nat) : List B8 := blockL (sumTo (ofL h) bs N).1 (sumTo (ofL h) bs N).2
theorem sumL_len (h bs : List B8) (N : Nat) : (sumL h bs N).length = 16 := blockL_len _ _
theorem one_copy (zs xs : List Value) (h : zs.length = xs.length) : zs.take 0 ++ xs ++ zs.drop (0 + xs.length) = xs := by
  rw [List.drop_eq_nil_of_le (by omega)]; simp
theorem two_copies (zs xs ys : List Value) (hx : xs.length = 8) (hy : ys.length = 8) (hz : zs.length = 16) : (zs.take 0 ++ xs ++ zs.drop (0 + xs.length)).take 8 ++ ys ++ (zs.take 0 ++ xs ++ zs.drop (0 + xs.length)).drop (8 + ys.length) = xs ++ ys := by
  rw [List.take_zero, List.nil_append, List.take_append_of_le_length (by omega), List.take_of_length_le (by omega), List.drop_eq_nil_of_le (as := xs ++ zs.drop (0 + xs.length)) (by rw [List.length_append, List.length_drop]; omega), List.append_nil]
structure SumX where
  k : Nat
  A : Option Addr
  c : Nat
  b5 : Nat
  b6 : Nat
  b7 : Nat
  b8 : Nat
  xc : List Value
  ec : List Value
def slideA (A : Option Addr) (c : Nat) : Option Addr := if c = 16 then A else A.map (·.add (16 * 1))
theorem slide_rw {w : World} {A : Option Addr} {bs : List B8} {k N c : Nat} (h : Rw w A ((bs.drop (16 * k)).map u8)) (hl : bs.length = 16 * N) (hk : k < N) (hc : 16 * (N - k) ≤ c) : Rw w (slideA A c) ((bs.drop (16 * (k + 1))).map u8) := by
  by_cases h0 : k + 1 = N
  · rw [List.drop_eq_nil_of_le (by omega)]
    exact Rw.nil
  · obtain ⟨b, o, rfl⟩ := h.addr (i := 0) (by rw [List.length_map, List.length_drop]; omega)
    have hd := h.drop 16
    rw [← List.map_drop, List.drop_drop] at hd
    unfold slideA
    rw [if_neg (by omega), Option.map_some, Addr.add_lit, Nat.mul_one, show 16 * (k + 1) = 16 * k + 16 from by omega]
    exact hd
/-! ### gcm -/
theorem padN_lt (n : Nat) : padN n < 16 := by unfold padN; omega
def padL (x : List B8) : List B8 := [x, List.replicate (padN x.length) 0#8].flatten
theorem padL_len (x : List B8) : (padL x).length = x.length + padN x.length := by simp [padL]
theorem padL_mod (x : List B8) : (padL x).length % 16 = 0 := by rw [padL_len]; unfold padN; omega
def pcTo (xss : List (List B8)) : Nat → List B8
  | 0 => []
  | k + 1 => pcTo xss k ++ padL (xss.getD k default)
theorem pcTo_mod (xss : List (List B8)) (k : Nat) : (pcTo xss k).length % 16 = 0 := by
  induction k with
  | zero => rfl
  | succ k ih => rw [pcTo, List.length_append]; have := padL_mod (xss.getD k default); omega
theorem pcTo_mono (xss : List (List B8)) (k m : Nat) (h : k ≤ m) : (pcTo xss k).length ≤ (pcTo xss m).length := by
  induction m with
  | zero => obtain rfl : k = 0 := by omega
            exact Nat.le_refl _
  | succ m ih =>
    rcases Nat.lt_or_ge k (m + 1) with h1 | h1
    · rw [pcTo, List.length_append]; have := ih (by omega); omega
    · obtain rfl : k = m + 1 := by omega
      exact Nat.le_refl _
abbrev zeros16 : List B8 := List.replicate 16 0#8
def hashIn (n m : Nat) (xss : List (List B8)) : List B8 := pcTo xss xss.length ++ lengthsL n m
theorem hashIn_len (n m : Nat) (xss : List (List B8)) : (hashIn n m xss).length = (pcTo xss xss.length).length + 16 := by rw [hashIn, List.length_append, lengthsL_len]
def hashL (E : List B8 → List B8) (n m : Nat) (xss : List (List B8)) : List B8 := sumL (E zeros16) (hashIn n m xss) ((hashIn n m xss).length / 16)
theorem hashL_len (E : List B8 → List B8) (n m : Nat) (xss : List (List B8)) : (hashL E n m xss).length = 16 := sumL_len _ _ _
def firstL (E : List B8 → List B8) (iv : List B8) : List B8 := if iv.length = 12 then [iv, [0#8, 0#8, 0#8, 1#8]].flatten else hashL E 0 iv.length [iv]
theorem firstL_len (E : List B8 → List B8) (iv : List B8) : (firstL E iv).length = 16 := by
  unfold firstL
  split
  · simp_all
  · exact hashL_len _ _ _ _
def ctrW (first : List B8) (i : Nat) : BitVec 64 := (((bigL (first.drop 12)).setWidth 32 + BitVec.ofInt 32 (i : Int)) + 1#32).setWidth 64
def fstTo (first : List B8) : Nat → List B8
  | 0 => first
  | i + 1 => (fstTo first i).take 12 ++ putBE (ctrW first i) 4 ++ (fstTo first i).drop (12 + 4)
theorem fstTo_len (first : List B8) (i : Nat) (h : first.length = 16) : (fstTo first i).length = 16 := by
  induction i with
  | zero => exact h
  | succ i ih => rw [fstTo, List.length_append, List.length_append, List.length_take, List.length_drop, putBE_len, ih]; rfl
def streamTo (E : List B8 → List B8) (first : List B8) : Nat → List B8
  | 0 => []
  | i + 1 => streamTo E first i ++ E (fstTo first (i + 1))
def streamL (E : List B8 → List B8) (first : List B8) (many : Nat) : List B8 := (streamTo E first ((many + 15) / 16)).take many
theorem streamTo_len (E : List B8 → List B8) (hE : ∀ x, (E x).length = 16) (first : List B8) (i : Nat) : (streamTo E first i).length = 16 * i := by
  induction i with
  | zero => rfl
  | succ i ih => rw [streamTo, List.length_append, ih, hE]; omega
theorem streamL_len (E : List B8 → List B8) (hE : ∀ x, (E x).length = 16) (first : List B8) (many : Nat) : (streamL E first many).length = many := by
  rw [streamL, List.length_take, streamTo_len E hE]; omega
def tagL (E : List B8 → List B8) (first aad sealed : List B8) : List B8 := xorL (hashL E aad.length sealed.length [aad, sealed]) (E first)
theorem tagL_len (E : List B8 → List B8) (hE : ∀ x, (E x).length = 16) (first aad sealed : List B8) : (tagL E first aad sealed).length = 16 := by rw [tagL, xorL_len, hashL_len, hE]; rfl
def textL (E : List B8 → List B8) (first b : List B8) : List B8 := xorL b (streamL E first b.length)
theorem textL_len (E : List B8 → List B8) (hE : ∀ x, (E x).length = 16) (first b : List B8) : (textL E first b).length = b.length := by rw [textL, xorL_len, streamL_len E hE, Nat.min_self]
def sealF (E : List B8 → List B8) (first aad b : List B8) : List B8 := textL E first b ++ tagL E first aad (textL E first b)
def sealL (E : List B8 → List B8) (iv aad b : List B8) : List B8 := sealF E (firstL E iv) aad b
def openF (E : List B8 → List B8) (first aad b : List B8) : List B8 × Int :=
  if b.length < 16 then ([], 17) else if b.drop (b.length - 16) = tagL E first aad (b.take (b.length - 16)) then (textL E first (b.take (b.length - 16)), 0) else ([], 7)
def openL (E : List B8 → List B8) (iv aad b : List B8) : List B8 × Int := openF E (firstL E iv) aad b
theorem enc_len (tab ws : List B8) (r : Nat) (xs : List B8) : (enc tab ws r xs).length = 16 := encTo_len _ _ _ _ _
theorem row_pos {w : World} {ao : Option Nat} {T : TypeId} {sz n c : Nat} {xs : List Value} (h : (Hl.row ao T sz n c xs).holds w) (h0 : 0 < n) : ∃ g, ao = some g := by
  rcases Hl.row_cases h with ⟨_, h, _⟩ | ⟨g, _, h, _⟩
  · omega
  · exact ⟨g, h⟩
/-! ### the laws' key -/
def keyV (K : List B8) (lg : Bool) (ivv adv : Value) : List Value := K.map u8 ++ [.bool lg, ivv, adv]
theorem keyV_len (K : List B8) (lg : Bool) (ivv adv : Value) (h : K.length = 32) : (keyV K lg ivv adv).length = 35 := by simp [keyV, h]
theorem keyV32 (K : List B8) (lg : Bool) (ivv adv : Value) (h : K.length = 32) : (keyV K lg ivv adv)[32]? = some (.bool lg) := by
  rw [keyV, List.getElem?_append_right (by simp [h])]; simp [h]
theorem keyV33 (K : List B8) (lg : Bool) (ivv adv : Value) (h : K.length = 32) : (keyV K lg ivv adv)[33]? = some ivv := by
  rw [keyV, List.getElem?_append_right (by simp [h])]; simp [h]
theorem keyV34 (K : List B8) (lg : Bool) (ivv adv : Value) (h : K.length = 32) : (keyV K lg ivv adv)[34]? = some adv := by
  rw [keyV, List.getElem?_append_right (by simp [h])]; simp [h]
def keyN (lg : Bool) : Nat := if lg then 32 else 16
def keyK (K : List B8) (lg : Bool) : List B8 := K.take (keyN lg)
theorem keyN_or (lg : Bool) : keyN lg = 16 ∨ keyN lg = 32 := by cases lg <;> simp [keyN]
theorem keyK_len (K : List B8) (lg : Bool) (h : K.length = 32) : (keyK K lg).length = keyN lg := by
  rw [keyK, List.length_take, h]; cases lg <;> rfl
theorem keyV_take (K : List B8) (lg : Bool) (ivv adv : Value) (h : K.length = 32) : (keyV K lg ivv adv).take (keyN lg) = (keyK K lg).map u8 := by
  rw [keyV, List.take_append_of_le_length (by rw [List.length_map, h]; have := keyN_or lg; omega), keyK, List.map_take]
theorem sealF_len (E : List B8 → List B8) (hE : ∀ x, (E x).length = 16) (first aad b : List B8) : (sealF E first aad b).length = b.length + 16 := by rw [sealF, List.length_append, textL_len E hE, tagL_len E hE]
theorem sealL_len (E : List B8 → List B8) (hE : ∀ x, (E x).length = 16) (iv aad b : List B8) : (sealL E iv aad b).length = b.length + 16 := sealF_len E hE _ _ _
theorem keyV_one (K : List B8) (lg : Bool) (C A : Option Addr) (nc cc na ca : Nat) : ∀ v ∈ keyV K lg (.slice C nc cc) (.slice A na ca), v.oneCell' = true := fun v hv => by
  rcases List.mem_append.1 hv with h | h
  · exact one_u8 _ v h
  · simp only [List.mem_cons, List.not_mem_nil, or_false] at h
    rcases h with rfl | rfl | rfl <;> rfl
def oneV (K : List B8) (lg : Bool) (ivv adv bv9 : Value) (att : Nat) (adb : Bool) : List Value := keyV K lg ivv adv ++ [bv9, .int .u16 att, .bool adb]
theorem oneV_key (K : List B8) (lg : Bool) (ivv adv bv9 : Value) (att : Nat) (adb : Bool) (h : K.length = 32) : ((oneV K lg ivv adv bv9 att adb).drop 0).take 35 = keyV K lg ivv adv := by
  rw [List.drop_zero, oneV, List.take_append_of_le_length (by rw [keyV_len _ _ _ _ h]; exact Nat.le_refl _), List.take_of_length_le (by rw [keyV_len _ _ _ _ h]; exact Nat.le_refl _)]
theorem oneV_at (K : List B8) (lg : Bool) (ivv adv bv9 : Value) (att : Nat) (adb : Bool) (h : K.length = 32) (i : Nat) : (oneV K lg ivv adv bv9 att adb)[35 + i]? = [bv9, .int .u16 att, .bool adb][i]? := by
  rw [oneV, List.getElem?_append_right (by rw [keyV_len _ _ _ _ h]; omega), keyV_len _ _ _ _ h, show 35 + i - 35 = i from by omega]

end Go.Proofs.YtoclfghkgpcniaaGreatDoor

/- Plain functions. -/
import Derived.Test.YtoclfghkgpcniaaGreatDoorPa
set_option maxRecDepth 10000
open Go.RowKit Go.Eng
set_option linter.unusedSimpArgs false
set_option linter.unusedVariables false
namespace Go.Proofs.YtoclfghkgpcniaaGreatDoor
/-! the first that fits -/
def ixf {α : Type} (p : α → Bool) : List α → Nat → Int
  | [], _ => -1
  | x :: r, i => if p x then i else ixf p r (i + 1)
theorem ixf_at_aux {α : Type} [Inhabited α] (p : α → Bool) : ∀ (xs : List α) (i k : Nat), k < xs.length → (∀ j, j < k → p (xs.getD j default) = false) → p (xs.getD k default) = true → ixf p xs i = (i + k : Nat)
  | [], _, _, h, _, _ => by simp at h
  | x :: r, i, 0, _, _, hp => by simp only [List.getD_cons_zero] at hp; simp [ixf, hp]
  | x :: r, i, k + 1, h, hn, hp => by
    have h0 : p x = false := by simpa using hn 0 (by omega)
    rw [ixf, h0, if_neg (by simp), ixf_at_aux p r (i + 1) k (by simpa using h) (fun j hj => by have := hn (j + 1) (by omega); simpa using this) (by simpa using hp)]
    omega
theorem ixf_at {α : Type} [Inhabited α] {p : α → Bool} {xs : List α} {k : Nat} (h : k < xs.length) (hn : ∀ j, j < k → p (xs.getD j default) = false) (hp : p (xs.getD k default) = true) : ixf p xs 0 = k := by
  rw [ixf_at_aux p xs 0 k h hn hp]; omega
theorem ixf_none_aux {α : Type} [Inhabited α] (p : α → Bool) : ∀ (xs : List α) (i : Nat), (∀ j, j < xs.length → p (xs.getD j default) = false) → ixf p xs i = -1
  | [], _, _ => rfl
  | x :: r, i, hn => by
    have h0 : p x = false := by simpa using hn 0 (by simp)
    rw [ixf, h0, if_neg (by simp)]
    exact ixf_none_aux p r (i + 1) (fun j hj => by have := hn (j + 1) (by simpa using hj); simpa using this)
theorem ixf_none {α : Type} [Inhabited α] {p : α → Bool} {xs : List α} (hn : ∀ j, j < xs.length → p (xs.getD j default) = false) : ixf p xs 0 = -1 := ixf_none_aux p xs 0 hn
theorem ixf_ge {α : Type} (p : α → Bool) : ∀ (xs : List α) (i : Nat), decide (0 ≤ ixf p xs i) = xs.any p
  | [], _ => rfl
  | x :: r, i => by
    rw [ixf, List.any_cons]
    cases h : p x with
    | true => simp
    | false => simpa using ixf_ge p r (i + 1)
theorem ixf_spec {α : Type} [Inhabited α] (p : α → Bool) : ∀ (xs : List α) (i : Nat), (ixf p xs i = -1 ∧ ∀ j, j < xs.length → p (xs.getD j default) = false) ∨ ∃ k, k < xs.length ∧ ixf p xs i = (i + k : Nat) ∧ p (xs.getD k default) = true ∧ ∀ j, j < k → p (xs.getD j default) = false
  | [], _ => .inl ⟨rfl, fun j h => by simp at h⟩
  | x :: r, i => by
    cases h : p x with
    | true => exact .inr ⟨0, by simp, by simp [ixf, h], by simpa using h, fun j hj => by omega⟩
    | false =>
      rcases ixf_spec p r (i + 1) with ⟨h1, h2⟩ | ⟨k, h1, h2, h3, h4⟩
      · refine .inl ⟨by simp [ixf, h, h1], fun j hj => ?_⟩
        cases j with
        | zero => simpa using h
        | succ j => simpa using h2 j (by simpa using hj)
      · refine .inr ⟨k + 1, by simpa using h1, by rw [ixf, h, if_neg (by simp), h2]; omega, by simpa using h3, fun j hj => ?_⟩
        cases j with
        | zero => simpa using h
        | succ j => simpa using h4 j (by omega)
/-! rows of records -/
section
variable {α : Type} {enc : α → List Value} {sz : Nat}
theorem flat_rep (h : ∀ x, (enc x).length = sz) (n : Nat) (x : α) : (List.replicate n (enc x)).flatten = (List.replicate n x).flatMap enc := by
  induction n with
  | zero => rfl
  | succ n ih => rw [List.replicate_succ, List.flatten_cons, ih, List.replicate_succ, List.flatMap_cons]
theorem flat_len (h : ∀ x, (enc x).length = sz) (xs : List α) : (xs.flatMap enc).length = xs.length * sz := by
  induction xs with
  | nil => simp
  | cons x r ih => rw [List.flatMap_cons, List.length_append, h, ih, List.length_cons, Nat.succ_mul]; omega
variable [Inhabited α]
theorem flat_split (h : ∀ x, (enc x).length = sz) (xs : List α) (k : Nat) (hk : k < xs.length) : xs.flatMap enc = (xs.take k).flatMap enc ++ (enc (xs.getD k default) ++ (xs.drop (k + 1)).flatMap enc) := by
  have e : xs = xs.take k ++ (xs.getD k default :: xs.drop (k + 1)) := by
    rw [List.getD_eq_getElem?_getD, List.getElem?_eq_getElem hk, Option.getD_some, ← List.drop_eq_getElem_cons hk, List.take_append_drop]
  conv => lhs; rw [e]
  rw [List.flatMap_append, List.flatMap_cons]
theorem flat_at (h : ∀ x, (enc x).length = sz) (xs : List α) (k : Nat) (hk : k < xs.length) : ((xs.flatMap enc).drop (k * sz)).take sz = enc (xs.getD k default) := by
  rw [flat_split h xs k hk, List.drop_append, List.drop_eq_nil_of_le (by rw [flat_len h, List.length_take]; exact Nat.mul_le_mul_right _ (Nat.min_le_left _ _)), flat_len h, List.length_take, Nat.min_eq_left (by omega), Nat.sub_self, List.drop_zero, List.nil_append, List.take_append_of_le_length (by rw [h]; exact Nat.le_refl _), ← h (xs.getD k default), List.take_length]
theorem flat_get (h : ∀ x, (enc x).length = sz) (xs : List α) (k j : Nat) (hk : k < xs.length) (hj : j < sz) : (xs.flatMap enc)[k * sz + j]? = (enc (xs.getD k default))[j]? := by
  rw [← flat_at h xs k hk, List.getElem?_take, if_pos hj, List.getElem?_drop]
theorem flat_get0 (h : ∀ x, (enc x).length = sz) (xs : List α) (k : Nat) (hk : k < xs.length) (hj : 0 < sz) : (xs.flatMap enc)[k * sz]? = (enc (xs.getD k default))[0]? := flat_get h xs k 0 hk hj
theorem flat_set (h : ∀ x, (enc x).length = sz) (xs : List α) (k : Nat) (y : α) (hk : k < xs.length) : (xs.flatMap enc).take (k * sz) ++ enc y ++ (xs.flatMap enc).drop (k * sz + sz) = (xs.set k y).flatMap enc := by
  have h1 : ((xs.take k).flatMap enc).length = k * sz := by rw [flat_len h, List.length_take, Nat.min_eq_left (by omega)]
  rw [flat_split h xs k hk, flat_split h (xs.set k y) k (by simpa using hk)]
  rw [List.take_append_of_le_length (by omega), ← h1, List.take_length, h1]
  rw [List.drop_append, List.drop_eq_nil_of_le (by omega), h1, List.nil_append, show k * sz + sz - k * sz = sz from by omega, List.drop_append, List.drop_eq_nil_of_le (by rw [h]; exact Nat.le_refl _), h, Nat.sub_self, List.drop_zero, List.nil_append]
  rw [List.take_set_of_le (Nat.le_refl _), List.drop_set_of_lt (by omega)]
  have : (xs.set k y).getD k default = y := by simp [hk]
  rw [this, List.append_assoc]
theorem flat_set1 (h : ∀ x, (enc x).length = sz) (xs : List α) (k j : Nat) (v : Value) (y : α) (hk : k < xs.length) (hj : j < sz) (hy : enc y = (enc (xs.getD k default)).set j v) : (xs.flatMap enc).set (k * sz + j) v = (xs.set k y).flatMap enc := by
  have h1 : ((xs.take k).flatMap enc).length = k * sz := by rw [flat_len h, List.length_take, Nat.min_eq_left (by omega)]
  rw [flat_split h xs k hk, flat_split h (xs.set k y) k (by simpa using hk)]
  rw [List.set_append_right _ _ (by omega), h1, show k * sz + j - k * sz = j from by omega, List.set_append_left _ _ (by rw [h]; exact hj), ← hy]
  rw [List.take_set_of_le (Nat.le_refl _), List.drop_set_of_lt (by omega)]
  have : (xs.set k y).getD k default = y := by simp [hk]
  rw [this]
end
/-- One more behind, where one stood: the old one comes to stand behind. -/
theorem perm_set {α β : Type} [Inhabited α] (f : α → β) (xs : List α) (k : Nat) (y : α) (hk : k < xs.length) : (xs.map f ++ [f y]).Perm ((xs.set k y).map f ++ [f (xs.getD k default)]) := by
  induction xs generalizing k with
  | nil => simp at hk
  | cons x r ih =>
    cases k with
    | zero =>
      simp only [List.map_cons, List.set_cons_zero, List.getD_cons_zero, List.cons_append]
      exact (List.perm_append_singleton _ _).cons _ |>.trans ((List.Perm.swap _ _ _).trans (((List.perm_append_singleton _ _).symm).cons _))
    | succ k =>
      simp only [List.map_cons, List.set_cons_succ, List.getD_cons_succ, List.cons_append]
      exact (ih k (by simpa using hk)).cons _
theorem perm_at {α β : Type} [Inhabited α] (f : α → β) (xs : List α) (k : Nat) (hk : k < xs.length) : ∃ R, (xs.map f).Perm (f (xs.getD k default) :: R) ∧ ∀ y, ((xs.set k y).map f).Perm (f y :: R) := by
  induction xs generalizing k with
  | nil => simp at hk
  | cons x r ih =>
    cases k with
    | zero => exact ⟨r.map f, by simp, fun y => by simp⟩
    | succ k =>
      obtain ⟨R, h1, h2⟩ := ih k (by simpa using hk)
      refine ⟨f x :: R, ?_, fun y => ?_⟩
      · simp only [List.map_cons, List.getD_cons_succ]
        exact (h1.cons _).trans (List.Perm.swap _ _ _)
      · simp only [List.map_cons, List.set_cons_succ]
        exact ((h2 y).cons _).trans (List.Perm.swap _ _ _)
theorem getD_mem {α : Type} [Inhabited α] {xs : List α} {k : Nat} (h : k < xs.length) : xs.getD k default ∈ xs := by
  rw [List.getD_eq_getElem?_getD, List.getElem?_eq_getElem h]; exact List.getElem_mem h
/-! spans -/
abbrev Sp := Int × Int
def spV (s : Sp) : List Value := [iv s.1, iv s.2]
theorem spV_len (s : Sp) : (spV s).length = 2 := rfl
def inM (n : Int) (l : List Sp) : Bool := l.any fun s => decide (s.1 ≤ n) && decide (n ≤ s.2)
structure KindI where
  cls : Int
  one : Bool
  kb : Nat
  ko : Nat
  kn : Nat
  sp : List Sp
  ivf : Int
  ivt : Int
  aad : Int
  fr : FuncId
  fd : FuncId
def kindBlk (b4 b7 b10 : Nat) (q : Nat) : Nat := if q = 0 then b4 else if q = 1 then b7 else b10
def kindVs (b4 b7 b10 : Nat) (k : KindI) : List Value := [iv k.cls, .bool k.one, .slice (some ⟨kindBlk b4 b7 b10 k.kb, k.ko, none⟩) k.kn k.kn, iv k.ivf, iv k.ivt, iv k.aad, .func (.func k.fr) #[] #[], .func (.func k.fd) #[] #[]]
theorem kindVs_one (b4 b7 b10 : Nat) (k : KindI) : ∀ v ∈ kindVs b4 b7 b10 k, v.oneCell' = true := by
  intro v hv
  simp only [kindVs, List.mem_cons, List.not_mem_nil, or_false] at hv
  rcases hv with rfl | rfl | rfl | rfl | rfl | rfl | rfl | rfl <;> rfl
def checkK (ki : KindI) (k v a : Nat) : Int := if inM k ki.sp = false then 5 else if inM v [(ki.ivf, ki.ivt)] = false then 6 else if ki.aad < a then 10 else 0
/-! tables of handles -/
structure Plc where
  opn : Bool
  cl : Nat
instance : Inhabited Plc := ⟨⟨false, 0⟩⟩
def plV (p : Plc) : List Value := [.bool p.opn, iv p.cl]
theorem plV_len (p : Plc) : (plV p).length = 2 := rfl
def handleM (n : Nat) (ps : List Plc) (i : Nat) : Int := 1 + i + n * (ps.getD i default).cl
def lookM (n : Nat) (ps : List Plc) (h : Int) : Option Nat := if h < 1 then none else if (ps.getD ((h - 1) % n).toNat default).opn = true ∧ handleM n ps ((h - 1) % n).toNat = h then some ((h - 1) % n).toNat else none
def lookV : Option Nat → Value
  | some i => .tuple #[iv i, iv 0]
  | none => .tuple #[iv 0, iv 3]
def freeM (ps : List Plc) : Int := ixf (fun p => !p.opn) ps 0
def openP (ps : List Plc) (i : Nat) : List Plc := ps.set i ⟨true, (ps.getD i default).cl⟩
def closeP (ps : List Plc) (i : Nat) : List Plc := ps.set i ⟨false, (ps.getD i default).cl + 1⟩
structure PlOk (n : Nat) (ps : List Plc) : Prop where
  len : ps.length = n
  pos : 1 ≤ n
  le : n ≤ 64
  cl : ∀ i, (ps.getD i default).cl ≤ 1099511627776
theorem PlOk.bd {n : Nat} {ps : List Plc} (h : PlOk n ps) (i : Nat) : 0 ≤ (n : Int) * (ps.getD i default).cl ∧ (n : Int) * (ps.getD i default).cl ≤ 70368744177664 := by
  have h1 := h.cl i
  have h2 := h.le
  have h3 : n * (ps.getD i default).cl ≤ 70368744177664 := Nat.mul_le_mul h2 h1
  have h4 := Int.ofNat_le.2 h3
  rw [Int.natCast_mul] at h4
  exact ⟨Int.mul_nonneg (Int.natCast_nonneg _) (Int.natCast_nonneg _), h4⟩
theorem openP_len (ps : List Plc) (i : Nat) : (openP ps i).length = ps.length := by simp [openP]
theorem closeP_len (ps : List Plc) (i : Nat) : (closeP ps i).length = ps.length := by simp [closeP]
theorem set_getD {α : Type} [Inhabited α] (xs : List α) (i j : Nat) (y : α) (hi : i < xs.length) : (xs.set i y).getD j default = if i = j then y else xs.getD j default := by
  simp only [List.getD_eq_getElem?_getD, List.getElem?_set]
  split
  · rename_i h; subst h; simp [hi]
  · rfl
theorem openP_cl (ps : List Plc) (i j : Nat) (hi : i < ps.length) : ((openP ps i).getD j default).cl = (ps.getD j default).cl := by
  rw [openP, set_getD _ _ _ _ hi]; split
  · rename_i h; subst h; rfl
  · rfl
theorem PlOk.open {n : Nat} {ps : List Plc} (h : PlOk n ps) {i : Nat} (hi : i < n) : PlOk n (openP ps i) := ⟨by rw [openP_len, h.len], h.pos, h.le, fun j => by rw [openP_cl _ _ _ (by rw [h.len]; exact hi)]; exact h.cl j⟩
theorem handleM_open (n : Nat) (ps : List Plc) (i j : Nat) (hi : i < ps.length) : handleM n (openP ps i) j = handleM n ps j := by rw [handleM, openP_cl _ _ _ hi, handleM]
theorem lookM_spec {n : Nat} {ps : List Plc} {h : Int} {i : Nat} (hn : 1 ≤ n) (hl : lookM n ps h = some i) : i < n ∧ (ps.getD i default).opn = true ∧ handleM n ps i = h ∧ i = ((h - 1) % n).toNat ∧ 1 ≤ h := by
  unfold lookM at hl
  split at hl
  · cases hl
  · split at hl
    · rename_i h1 h2
      cases hl
      have := Int.emod_lt_of_pos (h - 1) (show (0 : Int) < n by omega)
      have := Int.emod_nonneg (h - 1) (show (n : Int) ≠ 0 by omega)
      exact ⟨by omega, h2.1, h2.2, rfl, by omega⟩
    · cases hl
theorem handle_mod {n i : Nat} {ps : List Plc} (hi : i < n) : ((handleM n ps i - 1) % n).toNat = i := by
  have e : handleM n ps i - 1 = (i : Int) + n * ((ps.getD i default).cl : Int) := by simp only [handleM]; omega
  rw [e, Int.add_mul_emod_self_left, Int.emod_eq_of_lt (by omega) (by omega)]
  exact Int.toNat_natCast i
theorem lookM_handle {n i : Nat} {ps : List Plc} (hi : i < n) (ho : (ps.getD i default).opn = true) : lookM n ps (handleM n ps i) = some i := by
  have h1 : ¬ handleM n ps i < 1 := by
    simp only [handleM]
    have : 0 ≤ (n : Int) * ((ps.getD i default).cl : Int) := by exact_mod_cast Nat.zero_le _
    omega
  rw [lookM, if_neg h1, handle_mod hi, if_pos ⟨ho, rfl⟩]
theorem lookM_open {n i : Nat} {ps : List Plc} (hi : i < ps.length) (hn : i < n) : lookM n (openP ps i) (handleM n ps i) = some i := by
  rw [← handleM_open n ps i i hi]
  exact lookM_handle hn (by rw [openP, set_getD _ _ _ _ hi, if_pos rfl])
theorem freeM_lt {ps : List Plc} {i : Nat} (h : freeM ps = i) : i < ps.length ∧ (ps.getD i default).opn = false := by
  rcases ixf_spec (fun p : Plc => !p.opn) ps 0 with ⟨h1, _⟩ | ⟨k, h1, h2, h3, _⟩
  · rw [freeM, h1] at h; omega
  · rw [freeM, h2] at h
    obtain rfl : k = i := by omega
    exact ⟨h1, by simpa using h3⟩
def handlesTo (n : Nat) (ps : List Plc) (k : Nat) : List Int := ((List.range k).filter fun i => (ps.getD i default).opn).map (handleM n ps)
theorem handlesTo_succ (n : Nat) (ps : List Plc) (k : Nat) : handlesTo n ps (k + 1) = handlesTo n ps k ++ if (ps.getD k default).opn = true then [handleM n ps k] else [] := by
  rw [handlesTo, List.range_succ, List.filter_append, List.map_append, handlesTo]
  congr 1
  rw [List.filter_cons]
  split <;> simp
theorem handlesTo_le (n : Nat) (ps : List Plc) (k : Nat) : (handlesTo n ps k).length ≤ k := by
  rw [handlesTo, List.length_map]
  exact Nat.le_trans (List.length_filter_le _ _) (by simp)
/-! sessions -/
structure Ses where
  alg : Int
  key : List B8
  ao : Option Nat
  c : Nat
instance : Inhabited Ses := ⟨⟨0, [], none, 0⟩⟩
def sesV (s : Ses) : List Value := [iv s.alg, sl s.ao s.key.length s.c]
theorem sesV_len (s : Ses) : (sesV s).length = 2 := rfl
theorem sesV_one (s : Ses) : ∀ v ∈ sesV s, v.oneCell' = true := by
  intro v hv
  simp only [sesV, List.mem_cons, List.not_mem_nil, or_false] at hv
  rcases hv with rfl | rfl <;> rfl
theorem plV_one (s : Plc) : ∀ v ∈ plV s, v.oneCell' = true := by
  intro v hv
  simp only [plV, List.mem_cons, List.not_mem_nil, or_false] at hv
  rcases hv with rfl | rfl <;> rfl
theorem Tr.setMap {w0 w : World} {F : List Nat} {α : Type} [Inhabited α] {A : List Hl} {f : α → Hl} {xs : List α} {k : Nat} {y : α} (h : Tr w0 F (f y :: (A ++ xs.map f)) w) (hk : k < xs.length) : Tr w0 F (A ++ (xs.set k y).map f) w := by
  have h1 : Tr w0 F (A ++ ((xs.set k y).map f ++ [f (xs.getD k default)])) w := h.perm (by
    refine List.Perm.trans ?_ ((perm_set f xs k y hk).append_left A)
    rw [← List.append_assoc]
    exact (List.perm_append_singleton _ _).symm)
  exact h1.sub (List.Sublist.append (List.Sublist.refl _) (List.sublist_append_left _ _))
theorem perm1 {α : Type} {A B M R : List α} {x : α} (hp : M.Perm (x :: R)) : (A ++ (M ++ B)).Perm (x :: (A ++ (B ++ R))) := by
  refine ((hp.append_right B).append_left A).trans ?_
  rw [List.cons_append]
  exact List.perm_middle.trans (((List.perm_append_comm).append_left A).cons x)
theorem perm2 {α : Type} {A C B M R : List α} {x : α} (hp : M.Perm (x :: R)) : (A ++ (C ++ (M ++ B))).Perm (A ++ (x :: (C ++ (B ++ R)))) := (perm1 hp).append_left A
theorem rep_getD (n i : Nat) : (List.replicate n (default : Plc)).getD i default = default := by
  rw [List.getD_eq_getElem?_getD, List.getElem?_replicate]; split <;> rfl
theorem PlOk.rep {n : Nat} (h1 : 1 ≤ n) (h2 : n ≤ 64) : PlOk n (List.replicate n default) := ⟨by simp, h1, h2, fun i => by rw [rep_getD]; exact Nat.zero_le _⟩
theorem closeP_cl (ps : List Plc) (i j : Nat) (hi : i < ps.length) : ((closeP ps i).getD j default).cl ≤ (ps.getD j default).cl + 1 := by
  rw [closeP, set_getD _ _ _ _ hi]; split
  · rename_i h; subst h; exact Nat.le_refl _
  · exact Nat.le_succ _
theorem PlOk.close {n : Nat} {ps : List Plc} (h : PlOk n ps) {i : Nat} (hi : i < n) (hc : (ps.getD i default).cl < 1099511627776) : PlOk n (closeP ps i) := ⟨by rw [closeP_len, h.len], h.pos, h.le, fun j => by
  rw [closeP, set_getD _ _ _ _ (by rw [h.len]; exact hi)]; split
  · exact hc
  · exact h.cl j⟩
def xbG (key : List B8) (b : B8) (k : Nat) : B8 := key.getD k default ^^^ b
instance : DecidableEq Plc := fun a b => decidable_of_iff (a.opn = b.opn ∧ a.cl = b.cl) ⟨fun h => by cases a; cases b; cases h.1; cases h.2; rfl, fun h => by subst h; exact ⟨rfl, rfl⟩⟩
def psT (k : Nat) : List Plc := (List.range 20).map fun j => ⟨decide (j < k), 0⟩
theorem psT_zero : psT 0 = List.replicate 20 default := by decide +kernel
theorem psT_free : ∀ k, k < 20 → freeM (psT k) = (k : Int) := by decide +kernel
theorem psT_open : ∀ k, k < 20 → openP (psT k) k = psT (k + 1) := by decide +kernel
theorem psT_handle : ∀ k, k < 20 → handleM 20 (psT k) k = (k : Int) + 1 := by decide +kernel
theorem psT_look : ∀ n, n < 21 → ∀ i, i < n → lookM 20 (psT n) ((i : Int) + 1) = some i := by decide +kernel
theorem psT_gone : ∀ n, n < 21 → ∀ q, q < n → ∀ i, i < n → lookM 20 (closeP (psT n) q) ((i : Int) + 1) = if i = q then none else some i := by decide +kernel
theorem psT_count : ∀ n, n < 21 → ∀ q, q < n → (handlesTo 20 (closeP (psT n) q) 20).length = n - 1 := by decide +kernel
theorem psT_cl (k i : Nat) : ((psT k).getD i default).cl = 0 := by
  rw [psT, List.getD_eq_getElem?_getD, List.getElem?_map]
  cases (List.range 20)[i]? <;> rfl
theorem psT_ok (k : Nat) : PlOk 20 (psT k) := ⟨by simp [psT], by decide, by decide, fun i => by rw [psT_cl]; exact Nat.zero_le _⟩
def getS (own : List Ses) : Option Nat → Ses
  | some i => own.getD i default
  | none => default
def getE : Option Nat → Int
  | some _ => 0
  | none => 3
theorem rw_lt {w : World} {A : Option Addr} {ys : List Value} (h : Rw w A ys) (h0 : 0 < ys.length) : ∀ a, A = some a → a.block < w.heap.size := fun a ha => by
  obtain ⟨b, o, h1, h2⟩ := h 0 ys[0] (by simp [h0])
  rw [ha] at h1; cases h1
  exact World.block_lt_of_cell? w _ h2

end Go.Proofs.YtoclfghkgpcniaaGreatDoor

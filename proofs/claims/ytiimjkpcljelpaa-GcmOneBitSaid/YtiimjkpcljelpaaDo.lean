/- What comes in at the door: bytes, and the laws' key. -/
import Derived.Test.YtiimjkpcljelpaaPa
import Derived.Test.YtiimjkpcljelpaaRows
import Derived.ProofKit
import Derived.OpenShut
import Derived.ShutString
import Derived.ChangeOld
import Derived.Below
set_option maxRecDepth 10000
open Go.RowKit Go.Eng Go.ChangeShapes Go.WideShapes Go.ChangeAt
set_option linter.unusedSimpArgs false
set_option linter.unusedVariables false
namespace Go.Proofs.Ytiimjkpcljelpaa
theorem Tr.below {w w' : World} {L : List Hl} (h : Tr w [] L w') : Below w.heap.size w w' := ⟨h.os, h.tape, h.output, h.size, fun k hk => h.keep k hk (by simp)⟩
section
variable {H : Type} {enc : TypeId × Value → H} {P : Program} {w : World} {fuel : Nat} {t e : TypeId} {cs : List Value} {x : DataW H × List MemPlace}
theorem u8_of {n : Int} (h : (Lit.int .u8 n).wf = true) : Value.int .u8 n = u8 (BitVec.ofInt 8 n) := by
  have h1 : 0 ≤ n ∧ n ≤ 255 := by simpa [Lit.wf, IntKind.min, IntKind.max, IntKind.signed, IntKind.bits] using h
  have : ((BitVec.ofInt 8 n).toNat : Int) = n := by simp [BitVec.toNat_ofInt]; omega
  show Value.int .u8 n = .int .u8 ((BitVec.ofInt 8 n).toNat : Int)
  rw [this]
theorem open_bs (ht : P.underlying t = some (.slice e)) (he : P.underlying e = some (.int .u8)) (hc : P.cellsOf e = 1) (h : DataW.trod enc P w 0 (fun _ => true) true fuel t cs = some x) :
    ∃ (A : Option Addr) (n c : Nat) (xs : List B8), cs = [.slice A n c] ∧ Rw w A (xs.map u8) ∧ n = xs.length ∧ n ≤ c := by
  rcases open_ints ht he hc h with ⟨rfl, _⟩ | ⟨a, len, cap, zs, rfl, _, hl, _, hz, _, hcell, hwf⟩
  · exact ⟨none, 0, 0, [], rfl, Rw.nil, rfl, Nat.le_refl _⟩
  · simp only [if_true] at hz
    refine ⟨some a, len, cap, (zs.take len).map (BitVec.ofInt 8), rfl, ?_, by rw [List.length_map, List.length_take]; omega, hl⟩
    intro i v hv
    have hi : i < len ∧ i < zs.length := by
      have := (List.getElem?_eq_some_iff.1 hv).1
      simp only [List.length_map, List.length_take] at this
      omega
    have hz' : zs[i]? = some zs[i] := List.getElem?_eq_getElem hi.2
    have hg : zs.getD i 0 = zs[i] := by simp [hi.2]
    have hv' : v = u8 (BitVec.ofInt 8 zs[i]) := by
      simp only [List.getElem?_map, List.getElem?_take, if_pos hi.1, hz', Option.map_some, Option.some.injEq] at hv
      exact hv.symm
    have hcl := hcell i hi.2
    rw [hg, u8_of (hwf _ (List.getElem_mem hi.2)), ← hv'] at hcl
    obtain ⟨b, o, s⟩ := a
    have hs : s = none := by
      cases s with
      | none => rfl
      | some q =>
        have h0 := hcell 0 (by omega)
        simp only [World.cell?, Addr.add, if_true] at h0
        split at h0 <;> simp at h0
    subst hs
    rw [Addr.add_lit] at hcl
    exact ⟨b, o, rfl, hcl⟩
theorem open_ba {n : Nat} (ht : P.underlying t = some (.array n e)) (he : P.underlying e = some (.int .u8)) (hc : P.cellsOf e = 1) (hct : P.cellsOf t = n) (h : DataW.trod enc P w 0 (fun _ => true) true fuel t cs = some x) :
    ∃ xs : List B8, cs = xs.map u8 ∧ xs.length = n := by
  obtain ⟨ys, m, rfl, _, hl, hyl, hi⟩ := DataW.trod_array ht h
  rw [hc] at hi
  rw [hct] at hl
  have each : ∀ i, i < n → ∃ b : B8, cs[i]? = some (u8 b) := fun i hin => by
    have h1 := hi i hin
    rw [Nat.mul_one, List.getElem?_eq_getElem (by omega)] at h1
    obtain ⟨k, hk, _, hw⟩ := DataW.trod_int he h1
    refine ⟨BitVec.ofInt 8 k, ?_⟩
    rw [← u8_of hw]
    have h2 : ((cs.drop i).take 1)[0]? = some (.int .u8 k) := by rw [hk]; rfl
    rw [List.getElem?_take, if_pos (by omega), List.getElem?_drop, Nat.add_zero] at h2
    exact h2
  refine ⟨cs.map (fun v => match v with | .int _ k => BitVec.ofInt 8 k | _ => 0#8), ?_, by rw [List.length_map, hl]⟩
  apply List.ext_getElem?
  intro i
  rcases Nat.lt_or_ge i n with hin | hin
  · obtain ⟨b, hb⟩ := each i hin
    rw [List.map_map, List.getElem?_map, hb]
    simp
  · rw [List.getElem?_eq_none (by omega), List.getElem?_eq_none (by rw [List.length_map, List.length_map]; omega)]
theorem one_cell {cs : List Value} {k : Nat} {v : Value} (h : (cs.drop k).take 1 = [v]) : cs[k]? = some v := by
  have : ((cs.drop k).take 1)[0]? = some v := by rw [h]; rfl
  rw [List.getElem?_take, if_pos (by omega), List.getElem?_drop, Nat.add_zero] at this
  exact this
theorem open_key (h : DataW.trod enc Try.prog w 0 (fun _ => true) true fuel 25 cs = some x) :
    ∃ (ky : List B8) (lg : Bool) (C A : Option Addr) (nc cc na ca : Nat) (iv9 aad : List B8), cs = keyV ky lg (.slice C nc cc) (.slice A na ca) ∧ ky.length = 32 ∧ Rw w C (iv9.map u8) ∧ nc = iv9.length ∧ Rw w A (aad.map u8) ∧ na = aad.length := by
  obtain ⟨ys, m, rfl, _, hl, hyl, hf⟩ := DataW.trod_struct Try.underlying25 h
  have hyl : ys.length = 4 := hyl
  have hl : cs.length = 35 := hl
  have g : ∀ i, i < 4 → ∃ y, ys[i]? = some y := fun i hi => ⟨ys[i]'(by omega), List.getElem?_eq_getElem _⟩
  obtain ⟨y0, e0⟩ := g 0 (by omega)
  obtain ⟨y1, e1⟩ := g 1 (by omega)
  obtain ⟨y2, e2⟩ := g 2 (by omega)
  obtain ⟨y3, e3⟩ := g 3 (by omega)
  have h0 := (hf 0 _ rfl).trans e0
  have h1 := (hf 1 _ rfl).trans e1
  have h2 := (hf 2 _ rfl).trans e2
  have h3 := (hf 3 _ rfl).trans e3
  obtain ⟨ky, hk, hkl⟩ := open_ba Try.underlying22 Try.underlying5 (by kernel_rfl) (by kernel_rfl) h0
  obtain ⟨lg, hlg, _⟩ := DataW.trod_bool Try.underlying4 h1
  obtain ⟨C, nc, cc, iv9, hC, hrC, hnc, _⟩ := open_bs Try.underlying23 Try.underlying5 (by kernel_rfl) h2
  obtain ⟨A, na, ca, aad, hA, hrA, hna, _⟩ := open_bs Try.underlying23 Try.underlying5 (by kernel_rfl) h3
  have c0 : (cs.drop 0).take 32 = ky.map u8 := hk
  have c1 : (cs.drop 32).take 1 = [.bool lg] := hlg
  have c2 : (cs.drop 33).take 1 = [.slice C nc cc] := hC
  have c3 : (cs.drop 34).take 1 = [.slice A na ca] := hA
  refine ⟨ky, lg, C, A, nc, cc, na, ca, iv9, aad, ?_, hkl, hrC, hnc, hrA, hna⟩
  have d1 := one_cell c1
  have d2 := one_cell c2
  have d3 := one_cell c3
  rw [List.drop_zero] at c0
  have e : cs = cs.take 32 ++ cs.drop 32 := (List.take_append_drop 32 cs).symm
  rw [e, c0, keyV]
  congr 1
  apply List.ext_getElem?
  intro i
  rw [List.getElem?_drop]
  match i with
  | 0 => exact d1
  | 1 => exact d2
  | 2 => exact d3
  | i + 3 => rw [List.getElem?_eq_none (by omega), List.getElem?_eq_none (by simp)]
end
end Go.Proofs.Ytiimjkpcljelpaa

/- What comes in at the door: bytes, rows of bytes; the table that is laid. -/
import Derived.Test.YtoclfghkgpcniaaGreatDoorPs
import Derived.Test.YtoclfghkgpcniaaGreatDoorTie
import Derived.Test.YtoclfghkgpcniaaGreatDoorCards
import Derived.ProofKit
import Derived.LaidMore
import Derived.OpenShut
import Derived.ShutString
import Derived.ChangeOld
import Derived.Below
import Derived.Stop.Joined
set_option maxRecDepth 10000
open Go.RowKit Go.Eng Go.ChangeShapes Go.WideShapes Go.ChangeAt
set_option linter.unusedSimpArgs false
set_option linter.unusedVariables false
namespace Go.Proofs.YtoclfghkgpcniaaGreatDoor
theorem Tr.below {w w' : World} {L : List Hl} (h : Tr w [] L w') : Below w.heap.size w w' := ⟨h.os, h.tape, h.output, h.size, fun k hk => h.keep k hk (by simp)⟩
theorem ownTryz : ownKnob Tryz.prog.godebug = none := by kernel_rfl
theorem laidOutTryz : laidOutB Tryz.prog = true := by kernel_rfl
abbrev laidR : List (String × DataW Unit) := [("palfrey/sha.rounds", Rows.laid_palfrey_sha_rounds)]
theorem door_met (os : Os) (args : Array Value) : laidMetH Tryz.prog laidR ((World.doorLaid Tryz.prog 400 os).forCall (fun _ _ => 0) ⟨#[], args, []⟩).memory :=
  laidMetH_of_parts3 (fuel := 8) (laidMet_of_run' 8 (by kernel_rfl) (by kernel_rfl)) (by kernel_rfl) (by kernel_rfl)
section
variable {H : Type} {enc : TypeId × Value → H} {P : Program} {w : World} {fuel : Nat} {t e : TypeId} {cs : List Value} {x : DataW H × List MemPlace}
theorem u8_of {n : Int} (h : (Lit.int .u8 n).wf = true) : Value.int .u8 n = u8 (BitVec.ofInt 8 n) := by
  have h1 : 0 ≤ n ∧ n ≤ 255 := by simpa [Lit.wf, IntKind.min, IntKind.max, IntKind.signed, IntKind.bits] using h
  have : ((BitVec.ofInt 8 n).toNat : Int) = n := by simp [BitVec.toNat_ofInt]; omega
  show Value.int .u8 n = .int .u8 ((BitVec.ofInt 8 n).toNat : Int)
  rw [this]
theorem open_bs (ht : P.underlying t = some (.slice e)) (he : P.underlying e = some (.int .u8)) (hc : P.cellsOf e = 1) (h : DataW.trod enc P w 0 (fun _ => true) true fuel t cs = some x) :
    ∃ (A : Option Addr) (n c : Nat) (xs : List B8), cs = [.slice A n c] ∧ Rw w A (xs.map u8) ∧ n = xs.length ∧ n ≤ c := by
  rcases open_ints ht he hc h with ⟨rfl, _⟩ | ⟨a, len, cap, zs, rfl, _, hl, _, hz, _, hcell, hwf⟩
  · exact ⟨none, 0, 0, [], rfl, Rw.nil, rfl, Nat.le_refl _⟩
  · simp only [if_true] at hz
    refine ⟨some a, len, cap, (zs.take len).map (BitVec.ofInt 8), rfl, ?_, by rw [List.length_map, List.length_take]; omega, hl⟩
    intro i v hv
    have hi : i < len ∧ i < zs.length := by
      have := (List.getElem?_eq_some_iff.1 hv).1
      simp only [List.length_map, List.length_take] at this
      omega
    have hz' : zs[i]? = some zs[i] := List.getElem?_eq_getElem hi.2
    have hg : zs.getD i 0 = zs[i] := by simp [hi.2]
    have hv' : v = u8 (BitVec.ofInt 8 zs[i]) := by
      simp only [List.getElem?_map, List.getElem?_take, if_pos hi.1, hz', Option.map_some, Option.some.injEq] at hv
      exact hv.symm
    have hcl := hcell i hi.2
    rw [hg, u8_of (hwf _ (List.getElem_mem hi.2)), ← hv'] at hcl
    obtain ⟨b, o, s⟩ := a
    have hs : s = none := by
      cases s with
      | none => rfl
      | some q =>
        have h0 := hcell 0 (by omega)
        simp only [World.cell?, Addr.add, if_true] at h0
        split at h0 <;> simp at h0
    subst hs
    rw [Addr.add_lit] at hcl
    exact ⟨b, o, rfl, hcl⟩
theorem one_cell {cs : List Value} {k : Nat} {v : Value} (h : (cs.drop k).take 1 = [v]) : cs[k]? = some v := by
  have : ((cs.drop k).take 1)[0]? = some v := by rw [h]; rfl
  rw [List.getElem?_take, if_pos (by omega), List.getElem?_drop, Nat.add_zero] at this
  exact this
/-- rows of bytes -/
theorem open_bss {f : TypeId} (ht : P.underlying t = some (.slice e)) (he : P.underlying e = some (.slice f)) (hf : P.underlying f = some (.int .u8)) (hce : P.cellsOf e = 1) (hcf : P.cellsOf f = 1) (h : DataW.trod enc P w 0 (fun _ => true) true fuel t cs = some x) :
    ∃ (A : Option Addr) (n c : Nat) (vals : List Value) (xss : List (List B8)), cs = [.slice A n c] ∧ Rw w A vals ∧ Parts w vals xss ∧ n = xss.length := by
  rcases DataW.trod_slice ht h with ⟨rfl, _⟩ | ⟨a, len, cap, elems, rest, m, _, rfl, _, _, _, _, hel, hi, _⟩
  · exact ⟨none, 0, 0, [], [], rfl, Rw.nil, ⟨rfl, fun k hk => by simp at hk⟩, rfl⟩
  · have H : ∀ i, i < len → ∃ v : Value × List B8, w.cell? (a.add i) = some v.1 ∧ ∃ A c, v.1 = .slice A v.2.length c ∧ Rw w A (v.2.map u8) := fun i hil => by
      have h1 := hi i hil
      rw [hce, Nat.mul_one, List.getElem?_eq_getElem (by omega)] at h1
      obtain ⟨cs', hc1, hc2⟩ := Option.bind_eq_some_iff.1 h1
      obtain ⟨A, n, c, xs, rfl, hr, rfl, _⟩ := open_bs he hf hcf hc2
      exact ⟨(.slice A xs.length c, xs), Go.ChangeShapes.cell_of_cells?_one hc1, A, c, rfl, hr⟩
    have hlit : 0 < len → a.spot = none := fun h0 => by
      obtain ⟨v, hv, _⟩ := H 0 h0
      obtain ⟨b, o, s⟩ := a
      cases s with
      | none => rfl
      | some q =>
        simp only [World.cell?, Addr.add, if_true] at hv
        split at hv <;> simp at hv
    let pr : Nat → Value × List B8 := fun i => if hil : i < len then Classical.choose (H i hil) else (.slice none 0 0, [])
    have hpr : ∀ i, i < len → w.cell? (a.add i) = some (pr i).1 ∧ ∃ A c, (pr i).1 = .slice A (pr i).2.length c ∧ Rw w A ((pr i).2.map u8) := fun i hil => by
      have := Classical.choose_spec (H i hil)
      simpa only [pr, dif_pos hil] using this
    refine ⟨some a, len, cap, (List.range len).map fun i => (pr i).1, (List.range len).map fun i => (pr i).2, rfl, ?_, ⟨by simp, ?_⟩, by simp⟩
    · intro i v hv
      have hil : i < len := by
        have := (List.getElem?_eq_some_iff.1 hv).1
        simpa using this
      simp only [List.getElem?_map, List.getElem?_range hil, Option.map_some, Option.some.injEq] at hv
      have hs := hlit (by omega)
      obtain ⟨b, o, s⟩ := a
      subst hs
      refine ⟨b, o, rfl, ?_⟩
      have := (hpr i hil).1
      rw [Addr.add_lit] at this
      rw [this, hv]
    · intro k hk
      have hil : k < len := by simpa using hk
      obtain ⟨_, A, c, h1, h2⟩ := hpr k hil
      have hg : (((List.range len).map fun i => (pr i).2).getD k default) = (pr k).2 := by simp [hil]
      refine ⟨A, c, ?_, ?_⟩
      · rw [hg, ← h1]; simp [hil]
      · rw [hg]; exact h2
end
end Go.Proofs.YtoclfghkgpcniaaGreatDoor

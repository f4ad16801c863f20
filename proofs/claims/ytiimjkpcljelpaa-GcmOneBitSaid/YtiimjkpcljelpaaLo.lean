/- The statement GcmOneBit: whatever comes in, the law returns true, and what came in reads as it did. -/
import Derived.Test.YtiimjkpcljelpaaFl
import Derived.Test.YtiimjkpcljelpaaDo
set_option maxRecDepth 10000
open Go.RowKit Go.Eng Go.ChangeShapes Go.WideShapes Go.ChangeAt
set_option linter.unusedSimpArgs false
set_option linter.unusedVariables false
namespace Go.Proofs.Ytiimjkpcljelpaa
theorem ownTry : ownKnob Try.prog.godebug = none := by kernel_rfl
theorem laidOutTry : laidOutB Try.prog = true := by kernel_rfl
theorem oneV_of {cs : List Value} {ky : List B8} {lg : Bool} {C A B : Option Addr} {nc cc na ca nb cb : Nat} {att : Int} {adb : Bool} (hl : cs.length = 38) (h0 : cs.take 35 = keyV ky lg (.slice C nc cc) (.slice A na ca)) (h1 : cs[35]? = some (.slice B nb cb)) (h2 : cs[36]? = some (.int .u16 att)) (h3 : cs[37]? = some (.bool adb)) (h4 : 0 ≤ att) :
    cs = oneV ky lg (.slice C nc cc) (.slice A na ca) (.slice B nb cb) att.toNat adb := by
  have e : cs = cs.take 35 ++ cs.drop 35 := (List.take_append_drop 35 cs).symm
  rw [e, h0, oneV]
  congr 1
  apply List.ext_getElem?
  intro i
  rw [List.getElem?_drop]
  match i with
  | 0 => exact h1
  | 1 => rw [h2, show ((att.toNat : Nat) : Int) = att from by omega]; rfl
  | 2 => exact h3
  | i + 3 => rw [List.getElem?_eq_none (by omega), List.getElem?_eq_none (by simp)]
theorem open_one {H : Type} {enc : TypeId × Value → H} {w : World} {fuel : Nat} {cs : List Value} {x : DataW H × List MemPlace} (h : DataW.trod enc Try.prog w 0 (fun _ => true) true fuel 28 cs = some x) :
    ∃ (ky : List B8) (lg : Bool) (C A B : Option Addr) (nc cc na ca nb cb : Nat) (iv9 aad b : List B8) (att : Nat) (adb : Bool), cs = oneV ky lg (.slice C nc cc) (.slice A na ca) (.slice B nb cb) att adb ∧ ky.length = 32 ∧ Rw w C (iv9.map u8) ∧ nc = iv9.length ∧ Rw w A (aad.map u8) ∧ na = aad.length ∧ Rw w B (b.map u8) ∧ nb = b.length ∧ att ≤ 65535 := by
  obtain ⟨ys, m, rfl, _, hl, hyl, hf⟩ := DataW.trod_struct Try.underlying28 h
  have hyl : ys.length = 4 := hyl
  have hl : cs.length = 38 := hl
  have g : ∀ i, i < 4 → ∃ y, ys[i]? = some y := fun i hi => ⟨ys[i]'(by omega), List.getElem?_eq_getElem _⟩
  obtain ⟨y0, e0⟩ := g 0 (by omega)
  obtain ⟨y1, e1⟩ := g 1 (by omega)
  obtain ⟨y2, e2⟩ := g 2 (by omega)
  obtain ⟨y3, e3⟩ := g 3 (by omega)
  have h0 := (hf 0 _ rfl).trans e0
  have h1 := (hf 1 _ rfl).trans e1
  have h2 := (hf 2 _ rfl).trans e2
  have h3 := (hf 3 _ rfl).trans e3
  obtain ⟨ky, lg, C, A, nc, cc, na, ca, iv9, aad, hk, hky, hC, hnc, hA, hna⟩ := open_key h0
  obtain ⟨B, nb, cb, b, hB, hrB, hnb, _⟩ := open_bs Try.underlying23 Try.underlying5 (by kernel_rfl) h1
  obtain ⟨att, hat, _, hw⟩ := DataW.trod_int Try.underlying26 h2
  obtain ⟨adb, had, _⟩ := DataW.trod_bool Try.underlying4 h3
  have c0 : (cs.drop 0).take 35 = keyV ky lg (.slice C nc cc) (.slice A na ca) := hk
  have c1 : (cs.drop 35).take 1 = [.slice B nb cb] := hB
  have c2 : (cs.drop 36).take 1 = [.int .u16 att] := hat
  have c3 : (cs.drop 37).take 1 = [.bool adb] := had
  have hb : 0 ≤ att ∧ att ≤ 65535 := by simpa [Lit.wf, IntKind.min, IntKind.max, IntKind.signed, IntKind.bits] using hw
  exact ⟨ky, lg, C, A, B, nc, cc, na, ca, nb, cb, iv9, aad, b, att.toNat, adb, oneV_of hl (by rw [List.drop_zero] at c0; exact c0) (one_cell c1) (one_cell c2) (one_cell c3) hb.1, hky, hC, hnc, hA, hna, hrB, hnb, by omega⟩
set_option maxRecDepth 100000 in
theorem lifted_gcmOneBit (os : Os) (started : os.Started) (H : Type) (enc : TypeId × Value → H) :
    ReturnsInHanded {} Try.checked os 3 .any (Rows.gcmOneBitSpec.pre6 enc Try.prog Try.f3 Rows.gcmOneBitRow.domain false) (Rows.gcmOneBitSpec.post enc Try.prog Try.f3 false true false false) := by
  refine returnsInHanded_of_change (C := Try.checked) ownTry started (by kernel_rfl) Try.func3
    (ChangeSpec.witness6 (enc := enc) (C := Try.checked) false ⟨#[], #[.agg (oneV (List.replicate 32 0#8) false (.slice none 0 0) (.slice none 0 0) (.slice none 0 0) 0 false).toArray], []⟩ 8 (by kernel_rfl) (by kernel_rfl) (by kernel_rfl) (by kernel_rfl)) ?_
  intro W base args ds gs before hval0 hW hcnd _
  have hval : ∀ (j : Nat) t v, Try.f3.params[j]? = some t → args[j]? = some v → Value.okWide Try.prog W .any base t v := hval0
  have hW' := hW
  obtain ⟨p, q, hA0, hV, rfl, hfz, hnd⟩ := hW
  have hA : DataW.TrodAll enc Try.prog W 0 (fun _ => true) true Try.f3.params.toList args.toList ds p := hA0
  rw [Try.params3] at hA hval
  obtain ⟨v0, vs0, d0, ds0, p0, q0, hargs, rfl, rfl, h0, r0⟩ := trodAll_cons hA
  obtain ⟨rfl, rfl, rfl⟩ := trodAll_nil r0
  obtain rfl : args = #[v0] := by cases args; simp_all
  obtain ⟨rfl, rfl⟩ := trodVars_none hV
  have k0 := h0
  have lt0 : ∀ x ∈ p0, x.block < W.heap.size := by obtain ⟨m, hm⟩ := k0; exact DataW.trod_lt m _ _ _ hm
  obtain ⟨cs0, rfl, _⟩ := okWide_struct Try.underlying28 (hval 0 28 v0 rfl rfl)
  obtain ⟨m0, hm0⟩ := h0
  obtain ⟨ky, lg, C, A, B, nc, cc, na, ca, nb, cb, iv9, aad, b, att, adb, hk, hky, hC, hnc, hrA, hna, hrB, hnb, hat⟩ := open_one hm0
  obtain rfl : cs0 = (oneV ky lg (.slice C nc cc) (.slice A na ca) (.slice B nb cb) att adb).toArray := by rw [← hk]; rfl
  clear hA0 hval0
  refine (c_palfrey_palfreylaw10_GcmOneBit W ky lg C A B iv9 aad b nc cc na ca nb cb hky hC hrA hrB hnc hna hnb att hat adb).mono fun e W' ⟨he, hT⟩ => ?_
  subst he
  have bel := Tr.below hT
  exact ⟨_, rfl, _, _, _, [], _, [], hW', trodAll_mk1 (shut_bool Try.underlying4 _), (trodAll_cons_mk (Below.trod laidOutTry (by kernel_rfl) (of_decide_eq_true (by kernel_rfl)) k0 bel lt0) trodAll_mk0), rfl, bel.frame _, fun h => by cases h⟩
theorem gcmOneBit_holds : Rows.GcmOneBitSaid :=
  OpenClaim.holds_of_wide 3 Try.f3 rfl rfl rfl rfl rfl rfl rfl ⟨rfl, rfl, rfl, rfl, rfl⟩ rfl rfl rfl rfl rfl (by kernel_rfl) Try.func3 (by kernel_rfl)
    (of_decide_eq_true (by kernel_rfl)) (by unfold Func.isWrapper; first | (rw [if_pos (by decide +kernel)]; kernel_rfl) | (rw [if_neg (by decide +kernel)]; exact ⟨rfl, rfl⟩))
    (fun os started H enc _ => lifted_gcmOneBit os started H enc)
end Go.Proofs.Ytiimjkpcljelpaa

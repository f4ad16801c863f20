/- Walks of functions. -/
import Derived.Test.YtiimjkpcljelpaaFi
import Derived.Test.YtiimjkpcljelpaaAw
set_option maxRecDepth 10000
open Go.RowKit Go.Eng
set_option linter.unusedSimpArgs false
set_option linter.unusedVariables false
namespace Go.Proofs.Ytiimjkpcljelpaa

theorem c__palfrey_palfreylaw10_Key__bytes (w : World) (ky : List B8) (lg : Bool) (ivv adv : Value) (hky : ky.length = 32) : Makes Try.prog 12 #[.agg (keyV ky lg ivv adv).toArray] w (fun _ => True) (fun b : Nat => .slice (some ⟨b, 0, none⟩) (keyN lg) 32) (fun b => [.blk b 25 (keyV ky lg ivv adv)]) := by
  refine Calls.enter (S := Tr w [] []) Try.func12 rfl (Tr.refl w []) (fun K hK => ?_)
  refine Wp.seq fun K1 n1 r1 => ?_
  refine Wp.region ?_
  refine Ops.f (Ef.boxA rfl) (New.ex _) fun b1 hb1 => ?_
  refine Ops.v (Yl.asS rfl) ?_
  refine Ops.nil ?_
  refine n1 _ _ _ ?_
  refine Wp.seq fun K2 n2 r2 => ?_
  refine Wp.seq fun K3 n3 r3 => ?_
  refine Wp.region ?_
  refine Ops.v ((by first | exact Yl.fieldAddrZ fo25_1 rfl | exact Yl.fieldAddr fo25_1 rfl)) ?_
  refine Ops.v (Yl.load1z na4 rfl (by first | exact Rd.blk (by repeat (first | exact List.Mem.head _ | apply List.Mem.tail)) | exact Rd.row (by repeat (first | exact List.Mem.head _ | apply List.Mem.tail)) | assumption) (keyV32 _ _ _ _ hky)) ?_
  refine Ops.nil ?_
  refine n3 _ _ _ ?_
  refine Wp.cond _ rfl (fun h4 => ?_) (fun h4 => ?_)
  ·
    try simp only [decide_eq_true_eq, decide_eq_false_iff_not, Bool.not_eq_true, Bool.not_eq_false, Bool.not_true, Bool.not_false, Bool.not_eq_eq_eq_not, ne_eq, Decidable.not_not] at h4
    refine Wp.seq fun K4 n4 r4 => ?_
    refine Wp.region ?_
    refine Ops.v ((by first | exact Yl.fieldAddrZ fo25_0 rfl | exact Yl.fieldAddr fo25_0 rfl)) ?_
    refine Ops.v (Yl.sliceArrD Try.underlying22 sz5 rfl .none (by omega)) ?_
    refine Ops.v (Yl.asS rfl) ?_
    refine Ops.nil ?_
    refine n4 _ _ _ ?_
    refine Wp.ret ?_
    refine r2 _ _ _ _ (by simp) ?_
    refine (hK _ _ _ ⟨9, rfl⟩ (Res.one ⟨9, rfl⟩ rfl rfl) ?_).1
    exact fun w' h => ⟨b1, trivial, NewH.blk hb1 NewH.nil, by rw [h4]; rfl, h⟩
  ·
    try simp only [decide_eq_true_eq, decide_eq_false_iff_not, Bool.not_eq_true, Bool.not_eq_false, Bool.not_true, Bool.not_false, Bool.not_eq_eq_eq_not, ne_eq, Decidable.not_not] at h4
    refine Wp.skip ?_
    refine n2 _ _ _ ?_
    refine Wp.seq fun K5 n5 r5 => ?_
    refine Wp.region ?_
    refine Ops.v ((by first | exact Yl.fieldAddrZ fo25_0 rfl | exact Yl.fieldAddr fo25_0 rfl)) ?_
    refine Ops.v (Yl.sliceArrT Try.underlying22 sz5 rfl (.some (i := 16) rfl rfl) (by omega) (by omega)) ?_
    refine Ops.v (Yl.asS rfl) ?_
    refine Ops.nil ?_
    refine n5 _ _ _ ?_
    refine Wp.ret ?_
    refine (hK _ _ _ ⟨9, rfl⟩ (Res.one ⟨9, rfl⟩ rfl rfl) ?_).1
    exact fun w' h => ⟨b1, trivial, NewH.blk hb1 NewH.nil, by rw [h4]; rfl, h⟩

theorem c__palfrey_palfreylaw10_Key__short (w : World) (ky : List B8) (lg : Bool) (C A : Option Addr) (nc cc na ca : Nat) (hky : ky.length = 32) : Pure Try.prog 5 #[.agg (keyV ky lg (.slice C nc cc) (.slice A na ca)).toArray] w (.bool (decide (nc ≤ 100) && decide (na ≤ 100))) := by
  refine Calls.enter (S := Tr w [] []) Try.func5 rfl (Tr.refl w []) (fun K hK => ?_)
  refine Wp.seq fun K1 n1 r1 => ?_
  refine Wp.region ?_
  refine Ops.f (Ef.boxA rfl) (New.ex _) fun b1 hb1 => ?_
  refine Ops.v (Yl.asB rfl) ?_
  refine Ops.nil ?_
  refine n1 _ _ _ ?_
  refine Wp.seq fun K2 n2 r2 => ?_
  refine Wp.region ?_
  refine Ops.v ((by first | exact Yl.fieldAddrZ fo25_2 rfl | exact Yl.fieldAddr fo25_2 rfl)) ?_
  refine Ops.v (Yl.load1z na23 rfl (by first | exact Rd.blk (by repeat (first | exact List.Mem.head _ | apply List.Mem.tail)) | exact Rd.row (by repeat (first | exact List.Mem.head _ | apply List.Mem.tail)) | assumption) (keyV33 _ _ _ _ hky)) ?_
  refine Ops.v (Yl.len Try.underlying23 rfl rfl) ?_
  refine Ops.v (Yl.leq rfl rfl) ?_
  refine Ops.vB (Yl.mvB rfl) (fun hg1_4 => ?_) (fun hg1_4 => ?_)
  ·
    try simp only [decide_eq_true_eq, decide_eq_false_iff_not, Bool.not_eq_true, Bool.not_eq_false, Bool.not_true, Bool.not_false, Bool.not_eq_eq_eq_not, ne_eq, Decidable.not_not] at hg1_4
    refine Ops.guard_val rfl rfl rfl rfl rfl ((by first | exact Yl.fieldAddrZ fo25_3 rfl | exact Yl.fieldAddr fo25_3 rfl)) ?_
    refine Ops.guard_val rfl rfl rfl rfl rfl (Yl.load1z na23 rfl (by first | exact Rd.blk (by repeat (first | exact List.Mem.head _ | apply List.Mem.tail)) | exact Rd.row (by repeat (first | exact List.Mem.head _ | apply List.Mem.tail)) | assumption) (keyV34 _ _ _ _ hky)) ?_
    refine Ops.guard_val rfl rfl rfl rfl rfl (Yl.len Try.underlying23 rfl rfl) ?_
    refine Ops.guard_val rfl rfl rfl rfl rfl (Yl.leq rfl rfl) ?_
    refine Ops.v (Yl.pick_t rfl (v := .bool _) rfl) ?_
    refine Ops.v (Yl.asB rfl) ?_
    refine Ops.nil ?_
    refine n2 _ _ _ ?_
    refine Wp.ret ?_
    refine (hK _ _ _ ⟨13, rfl⟩ (Res.one ⟨13, rfl⟩ rfl rfl) ?_).1
    exact fun w' h => ⟨congrArg (fun z => Ending.returned (.bool z)) (by rw [Bool.eq_iff_iff]; simp; omega), h.clear⟩
  ·
    try simp only [decide_eq_true_eq, decide_eq_false_iff_not, Bool.not_eq_true, Bool.not_eq_false, Bool.not_true, Bool.not_false, Bool.not_eq_eq_eq_not, ne_eq, Decidable.not_not] at hg1_4
    refine Ops.guard_no rfl rfl rfl rfl rfl ?_
    refine Ops.guard_no rfl rfl rfl rfl rfl ?_
    refine Ops.guard_no rfl rfl rfl rfl rfl ?_
    refine Ops.guard_no rfl rfl rfl rfl rfl ?_
    refine Ops.v (Yl.pick_f rfl (v := .bool _) rfl) ?_
    refine Ops.v (Yl.asB rfl) ?_
    refine Ops.nil ?_
    refine n2 _ _ _ ?_
    refine Wp.ret ?_
    refine (hK _ _ _ ⟨13, rfl⟩ (Res.one ⟨13, rfl⟩ rfl rfl) ?_).1
    exact fun w' h => ⟨congrArg (fun z => Ending.returned (.bool z)) (by rw [Bool.eq_iff_iff]; simp; omega), h.clear⟩

theorem c_palfrey_palfreylaw10_keys (w : World) (ky : List B8) (lg : Bool) (ivv adv : Value) (hky : ky.length = 32) : Makes Try.prog 6 #[.agg (keyV ky lg ivv adv).toArray] w (fun _ => True) (fun x : Nat × Nat × Nat × Nat => .tuple #[pt x.1 0, .bool true]) (fun x => [.row (some x.2.2.1) 59 4 (4 * (keyN lg / 4 + 7)) x.2.2.2 ((expandL tabs (keyK ky lg)).map u8), .blk x.1 58 [pt x.2.1 0, sl (some x.2.2.1) (4 * (keyN lg / 4 + 7)) x.2.2.2], .blk x.2.1 63 (tabs.map u8)]) := by
  have hkl := keyK_len ky lg hky
  have hko := keyN_or lg
  refine Calls.enter (S := Tr w [] []) Try.func6 rfl (Tr.refl w []) (fun K hK => ?_)
  refine Wp.seq fun K1 n1 r1 => ?_
  refine Wp.region ?_
  refine Ops.f (Ef.boxA rfl) (New.ex _) fun b1 hb1 => ?_
  refine Ops.v (Yl.asP rfl) ?_
  refine Ops.v (Yl.asB rfl) ?_
  refine Ops.nil ?_
  refine n1 _ _ _ ?_
  refine Wp.seq fun K2 n2 r2 => ?_
  refine Wp.region ?_
  refine Ops.v (Yl.loadAz ag25 rfl (by first | exact Rd.blk (by repeat (first | exact List.Mem.head _ | apply List.Mem.tail)) | exact Rd.row (by repeat (first | exact List.Mem.head _ | apply List.Mem.tail)) | assumption) (keyV_len _ _ _ _ hky)) ?_
  refine Ops.f (Ef.makes bd12 rfl (fun wc hw => c__palfrey_palfreylaw10_Key__bytes wc ky lg ivv adv hky)) (by exact ⟨_, trivial, NewH.blk (Nat.le_refl _) NewH.nil⟩) fun bb hbb => ?_
  refine Ops.f (Ef.makes bd11 rfl (fun wc hw => c_palfrey_aes_Expand wc (some ⟨bb, 0, none⟩) (keyK ky lg) _ _ (by rw [← keyV_take ky lg ivv adv hky]; exact (hw.rwBlk (b := bb) (by repeat (first | exact List.Mem.head _ | apply List.Mem.tail))).take _) hkl.symm (by omega) (by omega))) (by exact ⟨(_, _, _, 0), trivial, NewH.row1 (Nat.le_refl _) (NewH.blk (Nat.le_refl _) (NewH.blk (Nat.le_refl _) NewH.nil))⟩) fun x9 hx9 => ?_
  refine Ops.v (Yl.move' rfl) ?_
  refine Ops.v (Yl.extract (vs := [pt x9.1 0, iv 0]) rfl rfl) ?_
  refine Ops.v (Yl.extract (vs := [pt x9.1 0, iv 0]) rfl rfl) ?_
  refine Ops.v (Yl.asP rfl) ?_
  refine Ops.v (Yl.asI rfl) ?_
  refine Ops.nil ?_
  refine n2 _ _ _ ?_
  refine Wp.seq fun K3 n3 r3 => ?_
  refine Wp.region ?_
  refine Ops.v (Yl.mvP rfl) ?_
  refine Ops.v (Yl.mvI rfl) ?_
  refine Ops.v (Yl.eql rfl rfl) ?_
  refine Ops.vB (Yl.mvB rfl) (fun hg2_3 => ?_) (fun hg2_3 => ?_)
  ·
    try simp only [decide_eq_true_eq, decide_eq_false_iff_not, Bool.not_eq_true, Bool.not_eq_false, Bool.not_true, Bool.not_false, Bool.not_eq_eq_eq_not, ne_eq, Decidable.not_not] at hg2_3
    refine Ops.guard_val rfl rfl rfl rfl rfl (Yl.mvP rfl) ?_
    refine Ops.guard_val rfl rfl rfl rfl rfl (Yl.neNil Try.underlying30 rfl rfl) ?_
    refine Ops.v (Yl.pick_t rfl (v := .bool _) rfl) ?_
    refine Ops.v (Yl.asP rfl) ?_
    refine Ops.v (Yl.asB rfl) ?_
    refine Ops.nil ?_
    refine n3 _ _ _ ?_
    refine Wp.ret ?_
    refine (hK _ _ _ ⟨19, rfl⟩ (Res.two ⟨19, rfl⟩ rfl rfl rfl) ?_).1
    exact fun w' h => ⟨x9, trivial, by rw [← hkl]; exact hx9.2, rfl, by rw [← hkl]; exact h.sub (by repeat (first | exact List.Sublist.refl _ | exact List.nil_sublist _ | apply List.Sublist.cons_cons | apply List.Sublist.cons))⟩
  ·
    try simp only [decide_eq_true_eq, decide_eq_false_iff_not, Bool.not_eq_true, Bool.not_eq_false, Bool.not_true, Bool.not_false, Bool.not_eq_eq_eq_not, ne_eq, Decidable.not_not] at hg2_3
    all_goals (simp at hg2_3; done)

theorem c_palfrey_palfreylaw10_awake (w : World) : Pure Try.prog 8 #[] w (.bool true) := by
  have hlen : (sealL (enc tabs (expandL tabs (List.replicate 16 0#8)) 10) (List.replicate 12 0#8) [] []).length = 16 := sealL_len _ (enc_len _ _ _) _ _ _
  have hb0 : (sealL (enc tabs (expandL tabs (List.replicate 16 0#8)) 10) (List.replicate 12 0#8) [] []).getD 0 default = 88#8 := by rw [awake_tag]; rfl
  have hb1 : (sealL (enc tabs (expandL tabs (List.replicate 16 0#8)) 10) (List.replicate 12 0#8) [] []).getD 1 default = 226#8 := by rw [awake_tag]; rfl
  have hb2 : (sealL (enc tabs (expandL tabs (List.replicate 16 0#8)) 10) (List.replicate 12 0#8) [] []).getD 2 default = 252#8 := by rw [awake_tag]; rfl
  have hb3 : (sealL (enc tabs (expandL tabs (List.replicate 16 0#8)) 10) (List.replicate 12 0#8) [] []).getD 3 default = 206#8 := by rw [awake_tag]; rfl
  refine Calls.enter (S := Tr w [] []) Try.func8 rfl (Tr.refl w []) (fun K hK => ?_)
  refine Wp.seq fun K1 n1 r1 => ?_
  refine Wp.region ?_
  refine Ops.v (Yl.asB rfl) ?_
  refine Ops.nil ?_
  refine n1 _ _ _ ?_
  refine Wp.seq fun K2 n2 r2 => ?_
  refine Wp.region ?_
  refine Ops.f (Ef.make 16 Try.underlying23 el5 rfl rfl rfl (by decide) (by omega) (by omega)) (New.ex _) fun b6 hb6 => ?_
  refine Ops.f (Ef.makes bd11 rfl (fun wc hw => c_palfrey_aes_Expand wc (some ⟨b6, 0, none⟩) (List.replicate 16 0#8) 16 16 (by have h7 : Rw wc (some ⟨b6, 0, none⟩) _ := hw.rwRow (ao := some b6) (by repeat (first | exact List.Mem.head _ | apply List.Mem.tail)); simpa only [List.map_replicate, List.flatten_replicate_singleton] using h7) (by simp) (by omega) (by simp))) (by exact ⟨(_, _, _, 0), trivial, NewH.row1 (Nat.le_refl _) (NewH.blk (Nat.le_refl _) (NewH.blk (Nat.le_refl _) NewH.nil))⟩) fun x7 hx7 => ?_
  refine Ops.v (Yl.move' rfl) ?_
  refine Ops.v (Yl.extract (vs := [pt x7.1 0, iv 0]) rfl rfl) ?_
  refine Ops.v (Yl.extract (vs := [pt x7.1 0, iv 0]) rfl rfl) ?_
  refine Ops.v (Yl.asP rfl) ?_
  refine Ops.v (Yl.asI rfl) ?_
  refine Ops.nil ?_
  refine n2 _ _ _ ?_
  refine Wp.seq fun K3 n3 r3 => ?_
  refine Wp.region ?_
  refine Ops.v (Yl.mvP rfl) ?_
  refine Ops.f (Ef.make 12 Try.underlying23 el5 rfl rfl rfl (by decide) (by omega) (by omega)) (New.ex _) fun b12 hb12 => ?_
  refine Ops.f (Ef.makes bd9 rfl (fun wc hw => c_palfrey_gcm_Seal wc x7.1 tabs (expandL tabs (List.replicate 16 0#8)) 10 (keysOf hw (by repeat (first | exact List.Mem.head _ | apply List.Mem.tail)) (by repeat (first | exact List.Mem.head _ | apply List.Mem.tail)) (by repeat (first | exact List.Mem.head _ | apply List.Mem.tail)) (by first | rfl | simp) tabs_len (by omega)) (by omega) (some ⟨b12, 0, none⟩) none none (List.replicate 12 0#8) [] [] 12 12 0 0 0 0 (by have h7 : Rw wc (some ⟨b12, 0, none⟩) _ := hw.rwRow (ao := some b12) (by repeat (first | exact List.Mem.head _ | apply List.Mem.tail)); simpa only [List.map_replicate, List.flatten_replicate_singleton] using h7) Rw.nil Rw.nil (by simp) rfl rfl (by omega) (by omega) (by simp) (by simp))) (by exact ⟨(_, _), Nat.le_refl _, NewH.row1 (Nat.le_refl _) NewH.nil⟩) fun x13 hx13 => ?_
  generalize (sealL (enc tabs (expandL tabs (List.replicate 16 0#8)) 10) (List.replicate 12 0#8) [] []) = aw at hx13 hlen hb0 hb1 hb2 hb3 ⊢
  refine Ops.v (Yl.move' rfl) ?_
  refine Ops.v (Yl.extract (vs := [sl (some x13.1) aw.length x13.2, iv 0]) rfl rfl) ?_
  refine Ops.v (Yl.extract (vs := [sl (some x13.1) aw.length x13.2, iv 0]) rfl rfl) ?_
  refine Ops.v (Yl.asS rfl) ?_
  refine Ops.v (Yl.asI rfl) ?_
  refine Ops.nil ?_
  refine n3 _ _ _ ?_
  refine Wp.seq fun K4 n4 r4 => ?_
  refine Wp.region ?_
  refine Ops.v (Yl.mvI rfl) ?_
  refine Ops.v (Yl.eql rfl rfl) ?_
  refine Ops.vB (Yl.mvB rfl) (fun hg3_2 => ?_) (fun hg3_2 => ?_)
  ·
    try simp only [decide_eq_true_eq, decide_eq_false_iff_not, Bool.not_eq_true, Bool.not_eq_false, Bool.not_true, Bool.not_false, Bool.not_eq_eq_eq_not, ne_eq, Decidable.not_not] at hg3_2
    refine Ops.guard_val rfl rfl rfl rfl rfl (Yl.mvI rfl) ?_
    refine Ops.guard_val rfl rfl rfl rfl rfl (Yl.eql rfl rfl) ?_
    refine Ops.v (Yl.pick_t rfl (v := .bool _) rfl) ?_
    refine Ops.vB (Yl.mvB rfl) (fun hg3_6 => ?_) (fun hg3_6 => ?_)
    ·
      try simp only [decide_eq_true_eq, decide_eq_false_iff_not, Bool.not_eq_true, Bool.not_eq_false, Bool.not_true, Bool.not_false, Bool.not_eq_eq_eq_not, ne_eq, Decidable.not_not] at hg3_6
      refine Ops.guard_val rfl rfl rfl rfl rfl (Yl.mvS rfl) ?_
      refine Ops.guard_val rfl rfl rfl rfl rfl (Yl.len Try.underlying23 rfl rfl) ?_
      refine Ops.guard_val rfl rfl rfl rfl rfl (Yl.eql rfl rfl) ?_
      refine Ops.v (Yl.pick_t rfl (v := .bool _) rfl) ?_
      refine Ops.vB (Yl.mvB rfl) (fun hg3_11 => ?_) (fun hg3_11 => ?_)
      ·
        try simp only [decide_eq_true_eq, decide_eq_false_iff_not, Bool.not_eq_true, Bool.not_eq_false, Bool.not_true, Bool.not_false, Bool.not_eq_eq_eq_not, ne_eq, Decidable.not_not] at hg3_11
        refine Ops.guard_val rfl rfl rfl rfl rfl (Yl.mvS rfl) ?_
        refine Ops.guard_val rfl rfl rfl rfl rfl ((by first | exact Yl.indexSliceZ Try.underlying23 sz5 rfl rfl 0 rfl (by omega) | exact Yl.indexSlice1 Try.underlying23 sz5 rfl rfl 0 rfl (by omega))) ?_
        refine Ops.guard_val rfl rfl rfl rfl rfl (Yl.load1z na5 rfl (by first | exact Rd.blk (by repeat (first | exact List.Mem.head _ | apply List.Mem.tail)) | exact Rd.row (by repeat (first | exact List.Mem.head _ | apply List.Mem.tail)) | assumption) (by first | rfl | exact getmap (by omega) | assumption)) ?_
        refine Ops.guard_val rfl rfl rfl rfl rfl (Yl.eq8 (b := 88#8) rfl rfl) ?_
        refine Ops.v (Yl.pick_t rfl (v := .bool _) rfl) ?_
        refine Ops.vB (Yl.mvB rfl) (fun hg3_17 => ?_) (fun hg3_17 => ?_)
        ·
          try simp only [decide_eq_true_eq, decide_eq_false_iff_not, Bool.not_eq_true, Bool.not_eq_false, Bool.not_true, Bool.not_false, Bool.not_eq_eq_eq_not, ne_eq, Decidable.not_not] at hg3_17
          refine Ops.guard_val rfl rfl rfl rfl rfl (Yl.mvS rfl) ?_
          refine Ops.guard_val rfl rfl rfl rfl rfl ((by first | exact Yl.indexSliceZ Try.underlying23 sz5 rfl rfl 1 rfl (by omega) | exact Yl.indexSlice1 Try.underlying23 sz5 rfl rfl 1 rfl (by omega))) ?_
          refine Ops.guard_val rfl rfl rfl rfl rfl (Yl.load1z na5 rfl (by first | exact Rd.blk (by repeat (first | exact List.Mem.head _ | apply List.Mem.tail)) | exact Rd.row (by repeat (first | exact List.Mem.head _ | apply List.Mem.tail)) | assumption) (by first | rfl | exact getmap (by omega) | assumption)) ?_
          refine Ops.guard_val rfl rfl rfl rfl rfl (Yl.eq8 (b := 226#8) rfl rfl) ?_
          refine Ops.v (Yl.pick_t rfl (v := .bool _) rfl) ?_
          refine Ops.vB (Yl.mvB rfl) (fun hg3_23 => ?_) (fun hg3_23 => ?_)
          ·
            try simp only [decide_eq_true_eq, decide_eq_false_iff_not, Bool.not_eq_true, Bool.not_eq_false, Bool.not_true, Bool.not_false, Bool.not_eq_eq_eq_not, ne_eq, Decidable.not_not] at hg3_23
            refine Ops.guard_val rfl rfl rfl rfl rfl (Yl.mvS rfl) ?_
            refine Ops.guard_val rfl rfl rfl rfl rfl ((by first | exact Yl.indexSliceZ Try.underlying23 sz5 rfl rfl 2 rfl (by omega) | exact Yl.indexSlice1 Try.underlying23 sz5 rfl rfl 2 rfl (by omega))) ?_
            refine Ops.guard_val rfl rfl rfl rfl rfl (Yl.load1z na5 rfl (by first | exact Rd.blk (by repeat (first | exact List.Mem.head _ | apply List.Mem.tail)) | exact Rd.row (by repeat (first | exact List.Mem.head _ | apply List.Mem.tail)) | assumption) (by first | rfl | exact getmap (by omega) | assumption)) ?_
            refine Ops.guard_val rfl rfl rfl rfl rfl (Yl.eq8 (b := 252#8) rfl rfl) ?_
            refine Ops.v (Yl.pick_t rfl (v := .bool _) rfl) ?_
            refine Ops.vB (Yl.mvB rfl) (fun hg3_29 => ?_) (fun hg3_29 => ?_)
            ·
              try simp only [decide_eq_true_eq, decide_eq_false_iff_not, Bool.not_eq_true, Bool.not_eq_false, Bool.not_true, Bool.not_false, Bool.not_eq_eq_eq_not, ne_eq, Decidable.not_not] at hg3_29
              refine Ops.guard_val rfl rfl rfl rfl rfl (Yl.mvS rfl) ?_
              refine Ops.guard_val rfl rfl rfl rfl rfl ((by first | exact Yl.indexSliceZ Try.underlying23 sz5 rfl rfl 3 rfl (by omega) | exact Yl.indexSlice1 Try.underlying23 sz5 rfl rfl 3 rfl (by omega))) ?_
              refine Ops.guard_val rfl rfl rfl rfl rfl (Yl.load1z na5 rfl (by first | exact Rd.blk (by repeat (first | exact List.Mem.head _ | apply List.Mem.tail)) | exact Rd.row (by repeat (first | exact List.Mem.head _ | apply List.Mem.tail)) | assumption) (by first | rfl | exact getmap (by omega) | assumption)) ?_
              refine Ops.guard_val rfl rfl rfl rfl rfl (Yl.eq8 (b := 206#8) rfl rfl) ?_
              refine Ops.v (Yl.pick_t rfl (v := .bool _) rfl) ?_
              refine Ops.v (Yl.asB rfl) ?_
              refine Ops.nil ?_
              refine n4 _ _ _ ?_
              refine Wp.ret ?_
              refine (hK _ _ _ ⟨51, rfl⟩ (Res.one ⟨51, rfl⟩ rfl rfl) ?_).1
              exact fun w' h => ⟨congrArg (fun z => Ending.returned (.bool z)) (decide_eq_true hb3), h.clear⟩
            ·
              try simp only [decide_eq_true_eq, decide_eq_false_iff_not, Bool.not_eq_true, Bool.not_eq_false, Bool.not_true, Bool.not_false, Bool.not_eq_eq_eq_not, ne_eq, Decidable.not_not] at hg3_29
              all_goals (exact absurd hb2 hg3_29)
          ·
            try simp only [decide_eq_true_eq, decide_eq_false_iff_not, Bool.not_eq_true, Bool.not_eq_false, Bool.not_true, Bool.not_false, Bool.not_eq_eq_eq_not, ne_eq, Decidable.not_not] at hg3_23
            all_goals (exact absurd hb1 hg3_23)
        ·
          try simp only [decide_eq_true_eq, decide_eq_false_iff_not, Bool.not_eq_true, Bool.not_eq_false, Bool.not_true, Bool.not_false, Bool.not_eq_eq_eq_not, ne_eq, Decidable.not_not] at hg3_17
          all_goals (exact absurd hb0 hg3_17)
      ·
        try simp only [decide_eq_true_eq, decide_eq_false_iff_not, Bool.not_eq_true, Bool.not_eq_false, Bool.not_true, Bool.not_false, Bool.not_eq_eq_eq_not, ne_eq, Decidable.not_not] at hg3_11
        all_goals (exfalso; omega)
    ·
      try simp only [decide_eq_true_eq, decide_eq_false_iff_not, Bool.not_eq_true, Bool.not_eq_false, Bool.not_true, Bool.not_false, Bool.not_eq_eq_eq_not, ne_eq, Decidable.not_not] at hg3_6
      all_goals (simp at hg3_6; done)
  ·
    try simp only [decide_eq_true_eq, decide_eq_false_iff_not, Bool.not_eq_true, Bool.not_eq_false, Bool.not_true, Bool.not_false, Bool.not_eq_eq_eq_not, ne_eq, Decidable.not_not] at hg3_2
    all_goals (simp at hg3_2; done)

end Go.Proofs.Ytiimjkpcljelpaa

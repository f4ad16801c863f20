/- Walks of functions. -/
import Derived.Test.YtiimjkpcljelpaaFj
import Derived.Test.YtiimjkpcljelpaaOb
set_option maxRecDepth 10000
open Go.RowKit Go.Eng
set_option linter.unusedSimpArgs false
set_option linter.unusedVariables false
namespace Go.Proofs.Ytiimjkpcljelpaa

set_option maxHeartbeats 1000000 in
theorem c_palfrey_palfreylaw10_GcmOneBit (w : World) (ky : List B8) (lg : Bool) (C A B : Option Addr) (iv9 aad b : List B8) (nc cc na ca nb cb : Nat) (hky : ky.length = 32) (hC : Rw w C (iv9.map u8)) (hA : Rw w A (aad.map u8)) (hB : Rw w B (b.map u8)) (hnc : nc = iv9.length) (hna : na = aad.length) (hnb : nb = b.length) (att : Nat) (hat9 : att ≤ 65535) (adb : Bool) : Pure Try.prog 3 #[.agg (oneV ky lg (.slice C nc cc) (.slice A na ca) (.slice B nb cb) att adb).toArray] w (.bool true) := by
  have hko := keyN_or lg
  have hE := enc_len tabs (expandL tabs (keyK ky lg)) (keyN lg / 4 + 6)
  have hls := sealL_len _ hE iv9 aad b
  refine Calls.enter (S := Tr w [] []) Try.func3 rfl (Tr.refl w []) (fun K hK => ?_)
  refine Wp.seq fun K1 n1 r1 => ?_
  refine Wp.region ?_
  refine Ops.f (Ef.boxA rfl) (New.ex _) fun b1 hb1 => ?_
  refine Ops.v (Yl.asB rfl) ?_
  refine Ops.nil ?_
  refine n1 _ _ _ ?_
  refine Wp.seq fun K2 n2 r2 => ?_
  refine Wp.draw hmix (fun i => [1, 0, 1, 0, 1, 0, 1, 0, 0, 0, 1, 1, 1].getD i 0) ((Tr w [] [.blk b1 28 (oneV ky lg (.slice C nc cc) (.slice A na ca) (.slice B nb cb) att adb)])) (fun _ h => h.drawn _) fun N1 hN1 => ?_
  refine G.p 0 (by kernel_rfl) rfl ((by first | exact Yl.fieldAddrZ fo28_0 rfl | exact Yl.fieldAddr fo28_0 rfl)) ?_
  refine G.t 1 (by kernel_rfl) rfl (Yl.loadAp ag25 rfl (Rd.blk (by repeat (first | exact List.Mem.head _ | apply List.Mem.tail))) (keyV ky lg (.slice C nc cc) (.slice A na ca)) (oneV_key _ _ _ _ _ _ _ hky) (keyV_len _ _ _ _ hky)) ?_
  refine G.p 2 (by kernel_rfl) rfl ((by first | exact Yl.fieldAddrZ fo28_1 rfl | exact Yl.fieldAddr fo28_1 rfl)) ?_
  refine G.t 3 (by kernel_rfl) rfl (Yl.load1z na23 rfl (by first | exact Rd.blk (by repeat (first | exact List.Mem.head _ | apply List.Mem.tail)) | exact Rd.row (by repeat (first | exact List.Mem.head _ | apply List.Mem.tail)) | assumption) (oneV_at _ _ _ _ _ _ _ hky 0)) ?_
  refine G.p 4 (by kernel_rfl) rfl ((by first | exact Yl.fieldAddrZ fo28_2 rfl | exact Yl.fieldAddr fo28_2 rfl)) ?_
  refine G.t 5 (by kernel_rfl) rfl (Yl.load1z na26 rfl (by first | exact Rd.blk (by repeat (first | exact List.Mem.head _ | apply List.Mem.tail)) | exact Rd.row (by repeat (first | exact List.Mem.head _ | apply List.Mem.tail)) | assumption) (oneV_at _ _ _ _ _ _ _ hky 1)) ?_
  refine G.p 6 (by kernel_rfl) rfl ((by first | exact Yl.fieldAddrZ fo28_3 rfl | exact Yl.fieldAddr fo28_3 rfl)) ?_
  refine G.t 7 (by kernel_rfl) rfl (Yl.load1z na4 rfl (by first | exact Rd.blk (by repeat (first | exact List.Mem.head _ | apply List.Mem.tail)) | exact Rd.row (by repeat (first | exact List.Mem.head _ | apply List.Mem.tail)) | assumption) (oneV_at _ _ _ _ _ _ _ hky 2)) ?_
  refine G.run 8 (by kernel_rfl) rfl rfl rfl (Ef.alloc zo25) (New.ex _) (fun _ h => h.sub (by repeat (first | exact List.Sublist.refl _ | exact List.nil_sublist _ | apply List.Sublist.cons_cons | apply List.Sublist.cons))) (fun _ _ _ h => h.sub (by repeat (first | exact List.Sublist.refl _ | exact List.nil_sublist _ | apply List.Sublist.cons_cons | apply List.Sublist.cons))) (fun _ => (Tr w [] [.blk b1 28 (oneV ky lg (.slice C nc cc) (.slice A na ca) (.slice B nb cb) att adb)])) (fun _ _ _ h => h) fun b3 hb3 => ?_
  simp only [En.put, List.cons_append, List.nil_append]
  refine G.run 9 (by kernel_rfl) rfl rfl rfl (Ef.storeN sz25 rfl rfl (by repeat (first | exact At.head | apply At.tail)) (keyV_len _ _ _ _ hky) (by rfl) (keyV_one _ _ _ _ _ _ _ _) (by first | exact .inr (by assumption) | exact .inl (by simp))) ⟨(), trivial⟩ (fun _ h => h.sub (by repeat (first | exact List.Sublist.refl _ | exact List.nil_sublist _ | apply List.Sublist.cons_cons | apply List.Sublist.cons))) (fun _ _ _ h => h.sub (by repeat (first | exact List.Sublist.refl _ | exact List.nil_sublist _ | apply List.Sublist.cons_cons | apply List.Sublist.cons))) (fun _ => (Tr w [] [.blk b1 28 (oneV ky lg (.slice C nc cc) (.slice A na ca) (.slice B nb cb) att adb)])) (fun _ _ _ h => h) fun _ _ => ?_
  simp only [En.put, List.cons_append, List.nil_append]
  refine G.p 10 (by kernel_rfl) rfl (Yl.asS rfl) ?_
  refine G.p 11 (by kernel_rfl) rfl (Yl.asI rfl) ?_
  refine G.p 12 (by kernel_rfl) rfl (Yl.asB rfl) ?_
  refine G.done (by kernel_rfl) (fun _ h => h.sub (by repeat (first | exact List.Sublist.refl _ | exact List.nil_sublist _ | apply List.Sublist.cons_cons | apply List.Sublist.cons))) (hN1 _ _ _ ?_)
  refine n2 _ _ _ ?_
  refine Wp.seq fun K3 n3 r3 => ?_
  refine Wp.seq fun K4 n4 r4 => ?_
  refine Wp.region ?_
  refine Ops.v (Yl.mvS rfl) ?_
  refine Ops.v (Yl.len Try.underlying23 rfl rfl) ?_
  refine Ops.v (Yl.gtr rfl rfl) ?_
  refine Ops.vB (Yl.mvB rfl) (fun hg2_3 => ?_) (fun hg2_3 => ?_)
  ·
    try simp only [decide_eq_true_eq, decide_eq_false_iff_not, Bool.not_eq_true, Bool.not_eq_false, Bool.not_true, Bool.not_false, Bool.not_eq_eq_eq_not, ne_eq, Decidable.not_not] at hg2_3
    refine Ops.guard_no rfl rfl rfl rfl rfl ?_
    refine Ops.guard_no rfl rfl rfl rfl rfl ?_
    refine Ops.guard_no rfl rfl rfl rfl rfl ?_
    refine Ops.v (Yl.pick_t rfl (v := .bool _) rfl) ?_
    refine Ops.v (Yl.mvB rfl) ?_
    refine Ops.guard_no rfl rfl rfl rfl rfl ?_
    refine Ops.guard_no rfl rfl rfl rfl rfl ?_
    refine Ops.guard_no rfl rfl rfl rfl rfl ?_
    refine Ops.guard_no rfl rfl rfl rfl rfl ?_
    refine Ops.v (Yl.pick_t rfl (v := .bool _) rfl) ?_
    refine Ops.nil ?_
    refine n4 _ _ _ ?_
    refine Wp.cond_t rfl ?_
    refine Wp.seq fun K5 n5 r5 => ?_
    refine Wp.region ?_
    refine Ops.v (Yl.asB rfl) ?_
    refine Ops.nil ?_
    refine n5 _ _ _ ?_
    refine Wp.ret ?_
    refine r3 _ _ _ _ (by simp) ?_
    refine (hK _ _ _ ⟨140, rfl⟩ (Res.one ⟨140, rfl⟩ rfl rfl) ?_).1
    exact fun w' h => ⟨rfl, h.clear⟩
  ·
    try simp only [decide_eq_true_eq, decide_eq_false_iff_not, Bool.not_eq_true, Bool.not_eq_false, Bool.not_true, Bool.not_false, Bool.not_eq_eq_eq_not, ne_eq, Decidable.not_not] at hg2_3
    refine Ops.guard_val rfl rfl rfl rfl rfl (Yl.loadAz ag25 rfl (by first | exact Rd.blk (by repeat (first | exact List.Mem.head _ | apply List.Mem.tail)) | exact Rd.row (by repeat (first | exact List.Mem.head _ | apply List.Mem.tail)) | assumption) (keyV_len _ _ _ _ hky)) ?_
    refine Ops.guard_yes rfl rfl rfl rfl rfl (Ef.pure bd5 rfl (fun wc hw => c__palfrey_palfreylaw10_Key__short wc ky lg C A nc cc na ca hky)) ⟨(), trivial⟩ fun _ _ => ?_
    refine Ops.guard_val rfl rfl rfl rfl rfl (Yl.not rfl) ?_
    refine Ops.v (Yl.pick_f rfl (v := .bool _) rfl) ?_
    refine Ops.vB (Yl.mvB rfl) (fun hg2_8 => ?_) (fun hg2_8 => ?_)
    ·
      try simp only [decide_eq_true_eq, decide_eq_false_iff_not, Bool.not_eq_true, Bool.not_eq_false, Bool.not_true, Bool.not_false, Bool.not_eq_eq_eq_not, ne_eq, Decidable.not_not] at hg2_8
      refine Ops.guard_no rfl rfl rfl rfl rfl ?_
      refine Ops.guard_no rfl rfl rfl rfl rfl ?_
      refine Ops.guard_no rfl rfl rfl rfl rfl ?_
      refine Ops.guard_no rfl rfl rfl rfl rfl ?_
      refine Ops.v (Yl.pick_t rfl (v := .bool _) rfl) ?_
      refine Ops.nil ?_
      refine n4 _ _ _ ?_
      refine Wp.cond_t rfl ?_
      refine Wp.seq fun K6 n6 r6 => ?_
      refine Wp.region ?_
      refine Ops.v (Yl.asB rfl) ?_
      refine Ops.nil ?_
      refine n6 _ _ _ ?_
      refine Wp.ret ?_
      refine r3 _ _ _ _ (by simp) ?_
      refine (hK _ _ _ ⟨140, rfl⟩ (Res.one ⟨140, rfl⟩ rfl rfl) ?_).1
      exact fun w' h => ⟨rfl, h.clear⟩
    ·
      try simp only [decide_eq_true_eq, decide_eq_false_iff_not, Bool.not_eq_true, Bool.not_eq_false, Bool.not_true, Bool.not_false, Bool.not_eq_eq_eq_not, ne_eq, Decidable.not_not] at hg2_8
      refine Ops.guard_val rfl rfl rfl rfl rfl ((by first | exact Yl.fieldAddrZ fo25_2 rfl | exact Yl.fieldAddr fo25_2 rfl)) ?_
      refine Ops.guard_val rfl rfl rfl rfl rfl (Yl.load1z na23 rfl (by first | exact Rd.blk (by repeat (first | exact List.Mem.head _ | apply List.Mem.tail)) | exact Rd.row (by repeat (first | exact List.Mem.head _ | apply List.Mem.tail)) | assumption) (keyV33 _ _ _ _ hky)) ?_
      refine Ops.guard_val rfl rfl rfl rfl rfl (Yl.len Try.underlying23 rfl rfl) ?_
      refine Ops.guard_val rfl rfl rfl rfl rfl (Yl.eql rfl rfl) ?_
      refine Ops.v (Yl.pick_f rfl (v := .bool _) rfl) ?_
      refine Ops.nil ?_
      refine n4 _ _ _ ?_
      refine Wp.cond _ rfl (fun h37 => ?_) (fun h37 => ?_)
      ·
        try simp only [decide_eq_true_eq, decide_eq_false_iff_not, Bool.not_eq_true, Bool.not_eq_false, Bool.not_true, Bool.not_false, Bool.not_eq_eq_eq_not, ne_eq, Decidable.not_not] at h37
        refine Wp.seq fun K7 n7 r7 => ?_
        refine Wp.region ?_
        refine Ops.v (Yl.asB rfl) ?_
        refine Ops.nil ?_
        refine n7 _ _ _ ?_
        refine Wp.ret ?_
        refine r3 _ _ _ _ (by simp) ?_
        refine (hK _ _ _ ⟨140, rfl⟩ (Res.one ⟨140, rfl⟩ rfl rfl) ?_).1
        exact fun w' h => ⟨rfl, h.clear⟩
      ·
        try simp only [decide_eq_true_eq, decide_eq_false_iff_not, Bool.not_eq_true, Bool.not_eq_false, Bool.not_true, Bool.not_false, Bool.not_eq_eq_eq_not, ne_eq, Decidable.not_not] at h37
        refine Wp.skip ?_
        refine n3 _ _ _ ?_
        refine Wp.seq fun K8 n8 r8 => ?_
        refine Wp.region ?_
        have hsh : nc ≤ 100 ∧ na ≤ 100 := by simpa using hg2_8
        refine Ops.v (Yl.loadAz ag25 rfl (by first | exact Rd.blk (by repeat (first | exact List.Mem.head _ | apply List.Mem.tail)) | exact Rd.row (by repeat (first | exact List.Mem.head _ | apply List.Mem.tail)) | assumption) (keyV_len _ _ _ _ hky)) ?_
        refine Ops.f (Ef.makes bd6 rfl (fun wc hw => c_palfrey_palfreylaw10_keys wc ky lg _ _ hky)) (by exact ⟨(_, _, _, 0), trivial, NewH.row1 (Nat.le_refl _) (NewH.blk (Nat.le_refl _) (NewH.blk (Nat.le_refl _) NewH.nil))⟩) fun x40 hx40 => ?_
        refine Ops.v (Yl.move' rfl) ?_
        refine Ops.v (Yl.extract (vs := [pt x40.1 0, .bool true]) rfl rfl) ?_
        refine Ops.v (Yl.extract (vs := [pt x40.1 0, .bool true]) rfl rfl) ?_
        refine Ops.v (Yl.asP rfl) ?_
        refine Ops.v (Yl.asB rfl) ?_
        refine Ops.nil ?_
        refine n8 _ _ _ ?_
        refine Wp.seq fun K9 n9 r9 => ?_
        refine Wp.seq fun K10 n10 r10 => ?_
        refine Wp.region ?_
        refine Ops.v (Yl.mvB rfl) ?_
        refine Ops.v (Yl.not rfl) ?_
        refine Ops.nil ?_
        refine n10 _ _ _ ?_
        refine Wp.cond_f rfl ?_
        refine Wp.skip ?_
        refine n9 _ _ _ ?_
        refine Wp.seq fun K11 n11 r11 => ?_
        refine Wp.seq fun K12 n12 r12 => ?_
        refine Wp.region ?_
        refine Ops.v (Yl.mvP rfl) ?_
        refine Ops.v (Yl.buildArr' (r := ((List.replicate 16 0#8).map u8)) Try.underlying33 zo33 sz5 rfl) ?_
        refine Ops.f (Ef.pure bd7 rfl (fun wc hw => c___palfrey_aes_Keys__Encrypt wc x40.1 tabs (expandL tabs (keyK ky lg)) zeros16 (keyN lg / 4 + 6) (keysOf hw (by repeat (first | exact List.Mem.head _ | apply List.Mem.tail)) (by repeat (first | exact List.Mem.head _ | apply List.Mem.tail)) (by repeat (first | exact List.Mem.head _ | apply List.Mem.tail)) (by omega) tabs_len (by omega)) (by simp) (by omega))) ⟨(), trivial⟩ fun _ _ => ?_
        refine Ops.v (Yl.buildArr' (r := ((List.replicate 16 0#8).map u8)) Try.underlying33 zo33 sz5 rfl) ?_
        refine Ops.v (Yl.eqArr8 (xs := (enc tabs (expandL tabs (keyK ky lg)) (keyN lg / 4 + 6)) zeros16) (ys := zeros16) Try.underlying33 Try.underlying5 sz5 na5 (by kernel_rfl) rfl rfl (hE _) (by simp)) ?_
        refine Ops.nil ?_
        refine n12 _ _ _ ?_
        refine Wp.cond _ rfl (fun h49 => ?_) (fun h49 => ?_)
        ·
          try simp only [decide_eq_true_eq, decide_eq_false_iff_not, Bool.not_eq_true, Bool.not_eq_false, Bool.not_true, Bool.not_false, Bool.not_eq_eq_eq_not, ne_eq, Decidable.not_not] at h49
          refine Wp.seq fun K13 n13 r13 => ?_
          refine Wp.region ?_
          refine Ops.f (Ef.pure bd8 rfl (fun wc hw => c_palfrey_palfreylaw10_awake wc)) ⟨(), trivial⟩ fun _ _ => ?_
          refine Ops.v (Yl.asB rfl) ?_
          refine Ops.nil ?_
          refine n13 _ _ _ ?_
          refine Wp.ret ?_
          refine r11 _ _ _ _ (by simp) ?_
          refine (hK _ _ _ ⟨140, rfl⟩ (Res.one ⟨140, rfl⟩ rfl rfl) ?_).1
          exact fun w' h => ⟨rfl, h.clear⟩
        ·
          try simp only [decide_eq_true_eq, decide_eq_false_iff_not, Bool.not_eq_true, Bool.not_eq_false, Bool.not_true, Bool.not_false, Bool.not_eq_eq_eq_not, ne_eq, Decidable.not_not] at h49
          refine Wp.skip ?_
          refine n11 _ _ _ ?_
          refine Wp.seq fun K14 n14 r14 => ?_
          refine Wp.region ?_
          refine Ops.v (Yl.mvP rfl) ?_
          refine Ops.v ((by first | exact Yl.fieldAddrZ fo25_2 rfl | exact Yl.fieldAddr fo25_2 rfl)) ?_
          refine Ops.v (Yl.load1z na23 rfl (by first | exact Rd.blk (by repeat (first | exact List.Mem.head _ | apply List.Mem.tail)) | exact Rd.row (by repeat (first | exact List.Mem.head _ | apply List.Mem.tail)) | assumption) (keyV33 _ _ _ _ hky)) ?_
          refine Ops.v ((by first | exact Yl.fieldAddrZ fo25_3 rfl | exact Yl.fieldAddr fo25_3 rfl)) ?_
          refine Ops.v (Yl.load1z na23 rfl (by first | exact Rd.blk (by repeat (first | exact List.Mem.head _ | apply List.Mem.tail)) | exact Rd.row (by repeat (first | exact List.Mem.head _ | apply List.Mem.tail)) | assumption) (keyV34 _ _ _ _ hky)) ?_
          refine Ops.v (Yl.mvS rfl) ?_
          refine Ops.f (Ef.makes bd9 rfl (fun wc hw => c_palfrey_gcm_Seal wc x40.1 tabs (expandL tabs (keyK ky lg)) (keyN lg / 4 + 6) (keysOf hw (by repeat (first | exact List.Mem.head _ | apply List.Mem.tail)) (by repeat (first | exact List.Mem.head _ | apply List.Mem.tail)) (by repeat (first | exact List.Mem.head _ | apply List.Mem.tail)) (by omega) tabs_len (by omega)) (by omega) C A B iv9 aad b nc cc na ca nb cb (hC.keep hw) (hA.keep hw) (hB.keep hw) hnc (by omega) hnb (by omega) (by omega) (by omega) (by omega))) (by exact ⟨(_, _), Nat.le_refl _, NewH.row1 (Nat.le_refl _) NewH.nil⟩) fun x58 hx58 => ?_
          refine Ops.v (Yl.move' rfl) ?_
          refine Ops.v (Yl.extract (vs := [sl (some x58.1) (sealL (enc tabs (expandL tabs (keyK ky lg)) (keyN lg / 4 + 6)) iv9 aad b).length x58.2, iv 0]) rfl rfl) ?_
          refine Ops.v (Yl.extract (vs := [sl (some x58.1) (sealL (enc tabs (expandL tabs (keyK ky lg)) (keyN lg / 4 + 6)) iv9 aad b).length x58.2, iv 0]) rfl rfl) ?_
          refine Ops.v (Yl.asS rfl) ?_
          refine Ops.v (Yl.asI rfl) ?_
          refine Ops.nil ?_
          refine n14 _ _ _ ?_
          refine Wp.seq fun K15 n15 r15 => ?_
          refine Wp.seq fun K16 n16 r16 => ?_
          refine Wp.region ?_
          refine Ops.v (Yl.mvI rfl) ?_
          refine Ops.v (Yl.neq rfl rfl) ?_
          refine Ops.vB (Yl.mvB rfl) (fun hg10_2 => ?_) (fun hg10_2 => ?_)
          ·
            try simp only [decide_eq_true_eq, decide_eq_false_iff_not, Bool.not_eq_true, Bool.not_eq_false, Bool.not_true, Bool.not_false, Bool.not_eq_eq_eq_not, ne_eq, Decidable.not_not] at hg10_2
            all_goals (simp at hg10_2; done)
          ·
            try simp only [decide_eq_true_eq, decide_eq_false_iff_not, Bool.not_eq_true, Bool.not_eq_false, Bool.not_true, Bool.not_false, Bool.not_eq_eq_eq_not, ne_eq, Decidable.not_not] at hg10_2
            refine Ops.guard_val rfl rfl rfl rfl rfl (Yl.mvS rfl) ?_
            refine Ops.guard_val rfl rfl rfl rfl rfl (Yl.len Try.underlying23 rfl rfl) ?_
            refine Ops.guard_val rfl rfl rfl rfl rfl (Yl.mvS rfl) ?_
            refine Ops.guard_val rfl rfl rfl rfl rfl (Yl.len Try.underlying23 rfl rfl) ?_
            refine Ops.guard_val rfl rfl rfl rfl rfl (Yl.add rfl rfl (by omega) (by omega)) ?_
            refine Ops.guard_val rfl rfl rfl rfl rfl (Yl.neq rfl rfl) ?_
            refine Ops.v (Yl.pick_f rfl (v := .bool _) rfl) ?_
            refine Ops.nil ?_
            refine n16 _ _ _ ?_
            refine Wp.cond _ rfl (fun h70 => ?_) (fun h70 => ?_)
            ·
              try simp only [decide_eq_true_eq, decide_eq_false_iff_not, Bool.not_eq_true, Bool.not_eq_false, Bool.not_true, Bool.not_false, Bool.not_eq_eq_eq_not, ne_eq, Decidable.not_not] at h70
              all_goals (exfalso; omega)
            ·
              try simp only [decide_eq_true_eq, decide_eq_false_iff_not, Bool.not_eq_true, Bool.not_eq_false, Bool.not_true, Bool.not_false, Bool.not_eq_eq_eq_not, ne_eq, Decidable.not_not] at h70
              refine Wp.skip ?_
              refine n15 _ _ _ ?_
              refine Wp.seq fun K17 n17 r17 => ?_
              refine Wp.region ?_
              refine Ops.f (Ef.buildSlice0 Try.underlying23 el5) (New.ex _) fun b71 hb71 => ?_
              refine Ops.v ((by first | exact Yl.fieldAddrZ fo25_3 rfl | exact Yl.fieldAddr fo25_3 rfl)) ?_
              refine Ops.v (Yl.load1z na23 rfl (by first | exact Rd.blk (by repeat (first | exact List.Mem.head _ | apply List.Mem.tail)) | exact Rd.row (by repeat (first | exact List.Mem.head _ | apply List.Mem.tail)) | assumption) (keyV34 _ _ _ _ hky)) ?_
              refine Ops.f (Ef.append (ao := some b71) Try.underlying23 rfl el5 rfl (by repeat (first | exact At.head | apply At.tail)) rfl (RdS.of hA) (by rw [List.length_map]; omega) (one_u8 _) (by omega) (by omega) (by omega) (fun j hj => by cases hj; exact .inr hb71)) ⟨(none, 0), fun _ h => by cases h⟩ fun p74 hp74 => ?_
              refine Ops.v (Yl.asS rfl) ?_
              refine Ops.nil ?_
              refine n17 _ _ _ ?_
              refine Wp.seq fun K18 n18 r18 => ?_
              refine Wp.seq fun K19 n19 r19 => ?_
              refine Wp.region ?_
              refine Ops.v (Yl.mvB rfl) ?_
              refine Ops.vB (Yl.mvB rfl) (fun hg13_1 => ?_) (fun hg13_1 => ?_)
              ·
                try simp only [decide_eq_true_eq, decide_eq_false_iff_not, Bool.not_eq_true, Bool.not_eq_false, Bool.not_true, Bool.not_false, Bool.not_eq_eq_eq_not, ne_eq, Decidable.not_not] at hg13_1
                refine Ops.guard_val rfl rfl rfl rfl rfl (Yl.mvS rfl) ?_
                refine Ops.guard_val rfl rfl rfl rfl rfl (Yl.len Try.underlying23 rfl rfl) ?_
                refine Ops.guard_val rfl rfl rfl rfl rfl (Yl.gtr rfl rfl) ?_
                refine Ops.v (Yl.pick_t rfl (v := .bool _) rfl) ?_
                refine Ops.nil ?_
                refine n19 _ _ _ ?_
                refine Wp.cond _ rfl (fun h80 => ?_) (fun h80 => ?_)
                ·
                  try simp only [decide_eq_true_eq, decide_eq_false_iff_not, Bool.not_eq_true, Bool.not_eq_false, Bool.not_true, Bool.not_false, Bool.not_eq_eq_eq_not, ne_eq, Decidable.not_not] at h80
                  refine Wp.seq fun K20 n20 r20 => ?_
                  refine Wp.region ?_
                  have hlt : att % (8 * na) < 8 * na := Nat.mod_lt _ (by omega)
                  refine Ops.v (Yl.mvI rfl) ?_
                  refine Ops.v (Yl.toIk Try.underlying26 Try.underlying3 rfl (by omega) (by omega)) ?_
                  refine Ops.v (Yl.mvS rfl) ?_
                  refine Ops.v (Yl.len Try.underlying23 rfl rfl) ?_
                  refine Ops.v (Yl.mul rfl rfl (by omega) (by omega)) ?_
                  refine Ops.v (Yl.remN (m := att) (n := 8 * na) rfl rfl rfl (by omega) (by omega)) ?_
                  refine Ops.v (Yl.asI rfl) ?_
                  refine Ops.nil ?_
                  refine n20 _ _ _ ?_
                  generalize att % (8 * na) = nn at hlt ⊢
                  refine Wp.rowSome (ao := p74.1) (n := 0 + na) (by omega) (by repeat (first | exact List.Mem.head _ | apply List.Mem.tail)) ⟨140, rfl⟩ fun g hg => ?_
                  obtain ⟨a74, c74⟩ := p74
                  obtain rfl : a74 = some g := hg
                  have hgn : New w g := (hp74 g rfl).resolve_left (by simp)
                  refine Wp.drawS hmix (fun i => [1, 1, 1, 1, 0, 1, 1, 1, 1, 1, 2].getD i 0) (fun _ h => h.drawn _) fun N15 hN15 => ?_
                  refine G.p 0 (by kernel_rfl) rfl (Yl.mvS rfl) ?_
                  refine G.p 1 (by kernel_rfl) rfl (Yl.mvI rfl) ?_
                  refine G.p 2 (by kernel_rfl) rfl (Yl.quo rfl rfl (by omega) (by omega) (by omega)) ?_
                  refine G.p 3 (by kernel_rfl) rfl (Yl.indexSliceZ Try.underlying23 sz5 rfl rfl (nn / 8) (by omega) (by omega)) ?_
                  refine G.t 4 (by kernel_rfl) rfl (Yl.load1z na5 rfl (Rd.row (b := g) (by repeat (first | exact List.Mem.head _ | apply List.Mem.tail))) (by rw [List.nil_append]; exact getmap (by omega))) ?_
                  refine G.p 5 (by kernel_rfl) rfl (Yl.mvI rfl) ?_
                  refine G.p 6 (by kernel_rfl) rfl (Yl.rem rfl rfl (by omega) (by omega)) ?_
                  refine G.p 7 (by kernel_rfl) rfl (Yl.shl8 (j := .i64) (a := 1#8) (nn % 8) rfl (congrArg iv (by omega))) ?_
                  refine G.p 8 (by kernel_rfl) rfl (Yl.xor8 rfl rfl) ?_
                  refine G.p 9 (by kernel_rfl) rfl (Yl.indexSliceZ Try.underlying23 sz5 rfl rfl (nn / 8) (by omega) (by omega)) ?_
                  refine G.last (by kernel_rfl) (fun _ h => h) ?_
                  refine G0.run 10 (by kernel_rfl) rfl rfl (Ef.store1r sz5 rfl rfl (by repeat (first | exact At.head | apply At.tail)) (by rw [List.nil_append, List.length_map]; omega) rfl (by first | exact .inr (by assumption) | exact .inl (by simp))) ⟨(), trivial⟩ fun _ _ => ?_
                  simp only [En.put, List.cons_append, List.nil_append]
                  refine G0.done (by kernel_rfl) (hN15 _ _ _ ?_)
                  refine n18 _ _ _ ?_
                  refine Wp.seq fun K21 n21 r21 => ?_
                  have hob : openL (enc tabs (expandL tabs (keyK ky lg)) (keyN lg / 4 + 6)) iv9 (aad.set (nn / 8) (aad.getD (nn / 8) default ^^^ (1#8 <<< (nn % 8)))) (sealL (enc tabs (expandL tabs (keyK ky lg)) (keyN lg / 4 + 6)) iv9 aad b) = ([], 7) := onebit_aad _ hE h49 iv9 aad b (nn / 8) (nn % 8) (by omega) (by omega) (by omega) (by omega)
                  refine Wp.region ?_
                  refine Ops.v (Yl.mvP rfl) ?_
                  refine Ops.v ((by first | exact Yl.fieldAddrZ fo25_2 rfl | exact Yl.fieldAddr fo25_2 rfl)) ?_
                  refine Ops.v (Yl.load1z na23 rfl (by first | exact Rd.blk (by repeat (first | exact List.Mem.head _ | apply List.Mem.tail)) | exact Rd.row (by repeat (first | exact List.Mem.head _ | apply List.Mem.tail)) | assumption) (keyV33 _ _ _ _ hky)) ?_
                  refine Ops.v (Yl.mvS rfl) ?_
                  refine Ops.v (Yl.mvS rfl) ?_
                  refine Ops.f (Ef.makes bd10 rfl (fun wc hw => by
                    have hop := c_palfrey_gcm_Open wc x40.1 tabs (expandL tabs (keyK ky lg)) (keyN lg / 4 + 6) (keysOf hw (by repeat (first | exact List.Mem.head _ | apply List.Mem.tail)) (by repeat (first | exact List.Mem.head _ | apply List.Mem.tail)) (by repeat (first | exact List.Mem.head _ | apply List.Mem.tail)) (by omega) tabs_len (by omega)) (by omega) C (some ⟨g, 0, none⟩) (some ⟨x58.1, 0, none⟩) iv9 (aad.set (nn / 8) (aad.getD (nn / 8) default ^^^ (1#8 <<< (nn % 8)))) (sealL (enc tabs (expandL tabs (keyK ky lg)) (keyN lg / 4 + 6)) iv9 aad b) nc cc (0 + na) c74 (sealL (enc tabs (expandL tabs (keyK ky lg)) (keyN lg / 4 + 6)) iv9 aad b).length x58.2 (hC.keep hw) (by have h7 := hw.rwRow (ao := some g) (by repeat (first | exact List.Mem.head _ | apply List.Mem.tail)); rw [List.map_set]; exact h7) (hw.rwRow (ao := some x58.1) (by repeat (first | exact List.Mem.head _ | apply List.Mem.tail))) hnc (by first | omega | (rw [List.length_set]; omega) | rw [List.length_set]) (by first | omega | (rw [List.length_set]; omega) | rw [List.length_set]) (by omega) (by omega) (by first | omega | (rw [List.length_set]; omega) | rw [List.length_set]) (by first | omega | (rw [List.length_set]; omega) | rw [List.length_set]) hx58.1
                    rw [hob] at hop
                    exact hop)) (by exact ⟨none, trivial, NewH.row (by simp) NewH.nil⟩) fun x127 hx127 => ?_
                  refine Ops.v (Yl.move' rfl) ?_
                  refine Ops.v (Yl.extract (vs := [sl x127 0 0, iv 7]) rfl rfl) ?_
                  refine Ops.v (Yl.extract (vs := [sl x127 0 0, iv 7]) rfl rfl) ?_
                  refine Ops.v (Yl.asS rfl) ?_
                  refine Ops.v (Yl.asI rfl) ?_
                  refine Ops.nil ?_
                  refine n21 _ _ _ ?_
                  refine Wp.seq fun K22 n22 r22 => ?_
                  refine Wp.region ?_
                  refine Ops.v (Yl.mvS rfl) ?_
                  refine Ops.v (Yl.len Try.underlying23 rfl rfl) ?_
                  refine Ops.v (Yl.eql rfl rfl) ?_
                  refine Ops.vB (Yl.mvB rfl) (fun hg21_3 => ?_) (fun hg21_3 => ?_)
                  ·
                    try simp only [decide_eq_true_eq, decide_eq_false_iff_not, Bool.not_eq_true, Bool.not_eq_false, Bool.not_true, Bool.not_false, Bool.not_eq_eq_eq_not, ne_eq, Decidable.not_not] at hg21_3
                    refine Ops.guard_val rfl rfl rfl rfl rfl (Yl.mvI rfl) ?_
                    refine Ops.guard_val rfl rfl rfl rfl rfl (Yl.eql rfl rfl) ?_
                    refine Ops.v (Yl.pick_t rfl (v := .bool _) rfl) ?_
                    refine Ops.vB (Yl.mvB rfl) (fun hg21_7 => ?_) (fun hg21_7 => ?_)
                    ·
                      try simp only [decide_eq_true_eq, decide_eq_false_iff_not, Bool.not_eq_true, Bool.not_eq_false, Bool.not_true, Bool.not_false, Bool.not_eq_eq_eq_not, ne_eq, Decidable.not_not] at hg21_7
                      refine Ops.guard_yes rfl rfl rfl rfl rfl (Ef.pure bd8 rfl (fun wc hw => c_palfrey_palfreylaw10_awake wc)) ⟨(), trivial⟩ fun _ _ => ?_
                      refine Ops.v (Yl.pick_t rfl (v := .bool _) rfl) ?_
                      refine Ops.v (Yl.asB rfl) ?_
                      refine Ops.nil ?_
                      refine n22 _ _ _ ?_
                      refine Wp.ret ?_
                      refine (hK _ _ _ ⟨140, rfl⟩ (Res.one ⟨140, rfl⟩ rfl rfl) ?_).1
                      exact fun w' h => ⟨rfl, h.clear⟩
                    ·
                      try simp only [decide_eq_true_eq, decide_eq_false_iff_not, Bool.not_eq_true, Bool.not_eq_false, Bool.not_true, Bool.not_false, Bool.not_eq_eq_eq_not, ne_eq, Decidable.not_not] at hg21_7
                      all_goals (simp at hg21_7; done)
                  ·
                    try simp only [decide_eq_true_eq, decide_eq_false_iff_not, Bool.not_eq_true, Bool.not_eq_false, Bool.not_true, Bool.not_false, Bool.not_eq_eq_eq_not, ne_eq, Decidable.not_not] at hg21_3
                    all_goals (simp at hg21_3; done)
                ·
                  try simp only [decide_eq_true_eq, decide_eq_false_iff_not, Bool.not_eq_true, Bool.not_eq_false, Bool.not_true, Bool.not_false, Bool.not_eq_eq_eq_not, ne_eq, Decidable.not_not] at h80
                  refine Wp.seq fun K23 n23 r23 => ?_
                  refine Wp.region ?_
                  refine Ops.v (Yl.mvB rfl) ?_
                  refine Ops.v (Yl.not rfl) ?_
                  refine Ops.vB (Yl.mvB rfl) (fun hg16_2 => ?_) (fun hg16_2 => ?_)
                  ·
                    try simp only [decide_eq_true_eq, decide_eq_false_iff_not, Bool.not_eq_true, Bool.not_eq_false, Bool.not_true, Bool.not_false, Bool.not_eq_eq_eq_not, ne_eq, Decidable.not_not] at hg16_2
                    all_goals (rw [hg13_1] at hg16_2; cases hg16_2)
                  ·
                    try simp only [decide_eq_true_eq, decide_eq_false_iff_not, Bool.not_eq_true, Bool.not_eq_false, Bool.not_true, Bool.not_false, Bool.not_eq_eq_eq_not, ne_eq, Decidable.not_not] at hg16_2
                    refine Ops.guard_no rfl rfl rfl rfl rfl ?_
                    refine Ops.guard_no rfl rfl rfl rfl rfl ?_
                    refine Ops.guard_no rfl rfl rfl rfl rfl ?_
                    refine Ops.v (Yl.pick_f rfl (v := .bool _) rfl) ?_
                    refine Ops.nil ?_
                    refine n23 _ _ _ ?_
                    refine Wp.cond_f rfl ?_
                    refine Wp.seq fun K24 n24 r24 => ?_
                    refine Wp.region ?_
                    refine Ops.f (Ef.pure bd8 rfl (fun wc hw => c_palfrey_palfreylaw10_awake wc)) ⟨(), trivial⟩ fun _ _ => ?_
                    refine Ops.v (Yl.asB rfl) ?_
                    refine Ops.nil ?_
                    refine n24 _ _ _ ?_
                    refine Wp.ret ?_
                    refine r18 _ _ _ _ (by simp) ?_
                    refine (hK _ _ _ ⟨140, rfl⟩ (Res.one ⟨140, rfl⟩ rfl rfl) ?_).1
                    exact fun w' h => ⟨rfl, h.clear⟩
              ·
                try simp only [decide_eq_true_eq, decide_eq_false_iff_not, Bool.not_eq_true, Bool.not_eq_false, Bool.not_true, Bool.not_false, Bool.not_eq_eq_eq_not, ne_eq, Decidable.not_not] at hg13_1
                refine Ops.guard_no rfl rfl rfl rfl rfl ?_
                refine Ops.guard_no rfl rfl rfl rfl rfl ?_
                refine Ops.guard_no rfl rfl rfl rfl rfl ?_
                refine Ops.v (Yl.pick_f rfl (v := .bool _) rfl) ?_
                refine Ops.nil ?_
                refine n19 _ _ _ ?_
                refine Wp.cond_f rfl ?_
                refine Wp.seq fun K25 n25 r25 => ?_
                refine Wp.region ?_
                refine Ops.v (Yl.mvB rfl) ?_
                refine Ops.v (Yl.not rfl) ?_
                refine Ops.vB (Yl.mvB rfl) (fun hg16_2 => ?_) (fun hg16_2 => ?_)
                ·
                  try simp only [decide_eq_true_eq, decide_eq_false_iff_not, Bool.not_eq_true, Bool.not_eq_false, Bool.not_true, Bool.not_false, Bool.not_eq_eq_eq_not, ne_eq, Decidable.not_not] at hg16_2
                  refine Ops.guard_val rfl rfl rfl rfl rfl (Yl.mvS rfl) ?_
                  refine Ops.guard_val rfl rfl rfl rfl rfl (Yl.len Try.underlying23 rfl rfl) ?_
                  refine Ops.guard_val rfl rfl rfl rfl rfl (Yl.gtr rfl rfl) ?_
                  refine Ops.v (Yl.pick_t rfl (v := .bool _) rfl) ?_
                  refine Ops.nil ?_
                  refine n25 _ _ _ ?_
                  refine Wp.cond _ rfl (fun h103 => ?_) (fun h103 => ?_)
                  ·
                    try simp only [decide_eq_true_eq, decide_eq_false_iff_not, Bool.not_eq_true, Bool.not_eq_false, Bool.not_true, Bool.not_false, Bool.not_eq_eq_eq_not, ne_eq, Decidable.not_not] at h103
                    refine Wp.seq fun K26 n26 r26 => ?_
                    refine Wp.region ?_
                    have hlt : att % (8 * nb) < 8 * nb := Nat.mod_lt _ (by omega)
                    refine Ops.v (Yl.mvI rfl) ?_
                    refine Ops.v (Yl.toIk Try.underlying26 Try.underlying3 rfl (by omega) (by omega)) ?_
                    refine Ops.v (Yl.mvS rfl) ?_
                    refine Ops.v (Yl.len Try.underlying23 rfl rfl) ?_
                    refine Ops.v (Yl.mul rfl rfl (by omega) (by omega)) ?_
                    refine Ops.v (Yl.remN (m := att) (n := 8 * nb) rfl rfl rfl (by omega) (by omega)) ?_
                    refine Ops.v (Yl.asI rfl) ?_
                    refine Ops.nil ?_
                    refine n26 _ _ _ ?_
                    generalize att % (8 * nb) = nn at hlt ⊢
                    have hgn : New w x58.1 := hx58.2.hd _ rfl
                    refine Wp.drawS hmix (fun i => [1, 1, 1, 1, 0, 1, 1, 1, 1, 1, 2].getD i 0) (fun _ h => h.drawn _) fun N18 hN18 => ?_
                    refine G.p 0 (by kernel_rfl) rfl (Yl.mvS rfl) ?_
                    refine G.p 1 (by kernel_rfl) rfl (Yl.mvI rfl) ?_
                    refine G.p 2 (by kernel_rfl) rfl (Yl.quo rfl rfl (by omega) (by omega) (by omega)) ?_
                    refine G.p 3 (by kernel_rfl) rfl (Yl.indexSliceZ Try.underlying23 sz5 rfl rfl (nn / 8) (by omega) (by omega)) ?_
                    refine G.t 4 (by kernel_rfl) rfl (Yl.load1z na5 rfl (Rd.row (b := x58.1) (by repeat (first | exact List.Mem.head _ | apply List.Mem.tail))) (getmap (by omega))) ?_
                    refine G.p 5 (by kernel_rfl) rfl (Yl.mvI rfl) ?_
                    refine G.p 6 (by kernel_rfl) rfl (Yl.rem rfl rfl (by omega) (by omega)) ?_
                    refine G.p 7 (by kernel_rfl) rfl (Yl.shl8 (j := .i64) (a := 1#8) (nn % 8) rfl (congrArg iv (by omega))) ?_
                    refine G.p 8 (by kernel_rfl) rfl (Yl.xor8 rfl rfl) ?_
                    refine G.p 9 (by kernel_rfl) rfl (Yl.indexSliceZ Try.underlying23 sz5 rfl rfl (nn / 8) (by omega) (by omega)) ?_
                    refine G.last (by kernel_rfl) (fun _ h => h) ?_
                    refine G0.run 10 (by kernel_rfl) rfl rfl (Ef.store1r sz5 rfl rfl (by repeat (first | exact At.head | apply At.tail)) (by rw [List.length_map]; omega) rfl (by first | exact .inr (by assumption) | exact .inl (by simp))) ⟨(), trivial⟩ fun _ _ => ?_
                    simp only [En.put, List.cons_append, List.nil_append]
                    refine G0.done (by kernel_rfl) (hN18 _ _ _ ?_)
                    refine n18 _ _ _ ?_
                    refine Wp.seq fun K27 n27 r27 => ?_
                    have hob : openL (enc tabs (expandL tabs (keyK ky lg)) (keyN lg / 4 + 6)) iv9 aad ((sealL (enc tabs (expandL tabs (keyK ky lg)) (keyN lg / 4 + 6)) iv9 aad b).set (nn / 8) ((sealL (enc tabs (expandL tabs (keyK ky lg)) (keyN lg / 4 + 6)) iv9 aad b).getD (nn / 8) default ^^^ (1#8 <<< (nn % 8)))) = ([], 7) := onebit_text _ hE h49 iv9 aad b (nn / 8) (nn % 8) (by omega) (by omega) (by omega) (by omega)
                    refine Wp.region ?_
                    refine Ops.v (Yl.mvP rfl) ?_
                    refine Ops.v ((by first | exact Yl.fieldAddrZ fo25_2 rfl | exact Yl.fieldAddr fo25_2 rfl)) ?_
                    refine Ops.v (Yl.load1z na23 rfl (by first | exact Rd.blk (by repeat (first | exact List.Mem.head _ | apply List.Mem.tail)) | exact Rd.row (by repeat (first | exact List.Mem.head _ | apply List.Mem.tail)) | assumption) (keyV33 _ _ _ _ hky)) ?_
                    refine Ops.v (Yl.mvS rfl) ?_
                    refine Ops.v (Yl.mvS rfl) ?_
                    refine Ops.f (Ef.makes bd10 rfl (fun wc hw => by
                      have hop := c_palfrey_gcm_Open wc x40.1 tabs (expandL tabs (keyK ky lg)) (keyN lg / 4 + 6) (keysOf hw (by repeat (first | exact List.Mem.head _ | apply List.Mem.tail)) (by repeat (first | exact List.Mem.head _ | apply List.Mem.tail)) (by repeat (first | exact List.Mem.head _ | apply List.Mem.tail)) (by omega) tabs_len (by omega)) (by omega) C _ (some ⟨x58.1, 0, none⟩) iv9 aad ((sealL (enc tabs (expandL tabs (keyK ky lg)) (keyN lg / 4 + 6)) iv9 aad b).set (nn / 8) ((sealL (enc tabs (expandL tabs (keyK ky lg)) (keyN lg / 4 + 6)) iv9 aad b).getD (nn / 8) default ^^^ (1#8 <<< (nn % 8)))) nc cc (0 + na) p74.2 (sealL (enc tabs (expandL tabs (keyK ky lg)) (keyN lg / 4 + 6)) iv9 aad b).length x58.2 (hC.keep hw) (hw.rwRow (ao := p74.1) (by repeat (first | exact List.Mem.head _ | apply List.Mem.tail))) (by have h7 := hw.rwRow (ao := some x58.1) (by repeat (first | exact List.Mem.head _ | apply List.Mem.tail)); rw [List.map_set]; exact h7) hnc (by first | omega | (rw [List.length_set]; omega) | rw [List.length_set]) (by first | omega | (rw [List.length_set]; omega) | rw [List.length_set]) (by omega) (by omega) (by first | omega | (rw [List.length_set]; omega) | rw [List.length_set]) (by first | omega | (rw [List.length_set]; omega) | rw [List.length_set]) hx58.1
                      rw [hob] at hop
                      exact hop)) (by exact ⟨none, trivial, NewH.row (by simp) NewH.nil⟩) fun x127 hx127 => ?_
                    refine Ops.v (Yl.move' rfl) ?_
                    refine Ops.v (Yl.extract (vs := [sl x127 0 0, iv 7]) rfl rfl) ?_
                    refine Ops.v (Yl.extract (vs := [sl x127 0 0, iv 7]) rfl rfl) ?_
                    refine Ops.v (Yl.asS rfl) ?_
                    refine Ops.v (Yl.asI rfl) ?_
                    refine Ops.nil ?_
                    refine n27 _ _ _ ?_
                    refine Wp.seq fun K28 n28 r28 => ?_
                    refine Wp.region ?_
                    refine Ops.v (Yl.mvS rfl) ?_
                    refine Ops.v (Yl.len Try.underlying23 rfl rfl) ?_
                    refine Ops.v (Yl.eql rfl rfl) ?_
                    refine Ops.vB (Yl.mvB rfl) (fun hg21_3 => ?_) (fun hg21_3 => ?_)
                    ·
                      try simp only [decide_eq_true_eq, decide_eq_false_iff_not, Bool.not_eq_true, Bool.not_eq_false, Bool.not_true, Bool.not_false, Bool.not_eq_eq_eq_not, ne_eq, Decidable.not_not] at hg21_3
                      refine Ops.guard_val rfl rfl rfl rfl rfl (Yl.mvI rfl) ?_
                      refine Ops.guard_val rfl rfl rfl rfl rfl (Yl.eql rfl rfl) ?_
                      refine Ops.v (Yl.pick_t rfl (v := .bool _) rfl) ?_
                      refine Ops.vB (Yl.mvB rfl) (fun hg21_7 => ?_) (fun hg21_7 => ?_)
                      ·
                        try simp only [decide_eq_true_eq, decide_eq_false_iff_not, Bool.not_eq_true, Bool.not_eq_false, Bool.not_true, Bool.not_false, Bool.not_eq_eq_eq_not, ne_eq, Decidable.not_not] at hg21_7
                        refine Ops.guard_yes rfl rfl rfl rfl rfl (Ef.pure bd8 rfl (fun wc hw => c_palfrey_palfreylaw10_awake wc)) ⟨(), trivial⟩ fun _ _ => ?_
                        refine Ops.v (Yl.pick_t rfl (v := .bool _) rfl) ?_
                        refine Ops.v (Yl.asB rfl) ?_
                        refine Ops.nil ?_
                        refine n28 _ _ _ ?_
                        refine Wp.ret ?_
                        refine (hK _ _ _ ⟨140, rfl⟩ (Res.one ⟨140, rfl⟩ rfl rfl) ?_).1
                        exact fun w' h => ⟨rfl, h.clear⟩
                      ·
                        try simp only [decide_eq_true_eq, decide_eq_false_iff_not, Bool.not_eq_true, Bool.not_eq_false, Bool.not_true, Bool.not_false, Bool.not_eq_eq_eq_not, ne_eq, Decidable.not_not] at hg21_7
                        all_goals (simp at hg21_7; done)
                    ·
                      try simp only [decide_eq_true_eq, decide_eq_false_iff_not, Bool.not_eq_true, Bool.not_eq_false, Bool.not_true, Bool.not_false, Bool.not_eq_eq_eq_not, ne_eq, Decidable.not_not] at hg21_3
                      all_goals (simp at hg21_3; done)
                  ·
                    try simp only [decide_eq_true_eq, decide_eq_false_iff_not, Bool.not_eq_true, Bool.not_eq_false, Bool.not_true, Bool.not_false, Bool.not_eq_eq_eq_not, ne_eq, Decidable.not_not] at h103
                    refine Wp.seq fun K29 n29 r29 => ?_
                    refine Wp.region ?_
                    refine Ops.f (Ef.pure bd8 rfl (fun wc hw => c_palfrey_palfreylaw10_awake wc)) ⟨(), trivial⟩ fun _ _ => ?_
                    refine Ops.v (Yl.asB rfl) ?_
                    refine Ops.nil ?_
                    refine n29 _ _ _ ?_
                    refine Wp.ret ?_
                    refine r18 _ _ _ _ (by simp) ?_
                    refine (hK _ _ _ ⟨140, rfl⟩ (Res.one ⟨140, rfl⟩ rfl rfl) ?_).1
                    exact fun w' h => ⟨rfl, h.clear⟩
                ·
                  try simp only [decide_eq_true_eq, decide_eq_false_iff_not, Bool.not_eq_true, Bool.not_eq_false, Bool.not_true, Bool.not_false, Bool.not_eq_eq_eq_not, ne_eq, Decidable.not_not] at hg16_2
                  refine Ops.guard_no rfl rfl rfl rfl rfl ?_
                  refine Ops.guard_no rfl rfl rfl rfl rfl ?_
                  refine Ops.guard_no rfl rfl rfl rfl rfl ?_
                  refine Ops.v (Yl.pick_f rfl (v := .bool _) rfl) ?_
                  refine Ops.nil ?_
                  refine n25 _ _ _ ?_
                  refine Wp.cond_f rfl ?_
                  refine Wp.seq fun K30 n30 r30 => ?_
                  refine Wp.region ?_
                  refine Ops.f (Ef.pure bd8 rfl (fun wc hw => c_palfrey_palfreylaw10_awake wc)) ⟨(), trivial⟩ fun _ _ => ?_
                  refine Ops.v (Yl.asB rfl) ?_
                  refine Ops.nil ?_
                  refine n30 _ _ _ ?_
                  refine Wp.ret ?_
                  refine r18 _ _ _ _ (by simp) ?_
                  refine (hK _ _ _ ⟨140, rfl⟩ (Res.one ⟨140, rfl⟩ rfl rfl) ?_).1
                  exact fun w' h => ⟨rfl, h.clear⟩

end Go.Proofs.Ytiimjkpcljelpaa

/- Walks of functions. -/
import Derived.Test.YtiimjkpcljelpaaFj
import Derived.Test.YtiimjkpcljelpaaPl
set_option maxRecDepth 10000
open Go.RowKit Go.Eng
set_option linter.unusedSimpArgs false
set_option linter.unusedVariables false
namespace Go.Proofs.Ytiimjkpcljelpaa

theorem c_palfrey_palfreylaw10_GcmAad (w : World) (ky : List B8) (lg : Bool) (C A B : Option Addr) (iv9 aad b : List B8) (nc cc na ca nb cb : Nat) (hky : ky.length = 32) (hC : Rw w C (iv9.map u8)) (hA : Rw w A (aad.map u8)) (hB : Rw w B (b.map u8)) (hnc : nc = iv9.length) (hna : na = aad.length) (hnb : nb = b.length) (O : Option Addr) (oth : List B8) (no co : Nat) (hO : Rw w O (oth.map u8)) (hno : no = oth.length) : Pure Try.prog 4 #[.agg (keyV ky lg (.slice C nc cc) (.slice A na ca)).toArray, .slice O no co, .slice B nb cb] w (.bool true) := by
  have hko := keyN_or lg
  have hE := enc_len tabs (expandL tabs (keyK ky lg)) (keyN lg / 4 + 6)
  have hls := sealL_len _ hE iv9 aad b
  have hlo := sealL_len _ hE iv9 oth b
  have hts : (sealL (enc tabs (expandL tabs (keyK ky lg)) (keyN lg / 4 + 6)) iv9 aad b).take nb = (sealL (enc tabs (expandL tabs (keyK ky lg)) (keyN lg / 4 + 6)) iv9 oth b).take nb := by rw [hnb, sealL_take _ hE, sealL_take _ hE]
  have haad : (decide ((openL (enc tabs (expandL tabs (keyK ky lg)) (keyN lg / 4 + 6)) iv9 oth (sealL (enc tabs (expandL tabs (keyK ky lg)) (keyN lg / 4 + 6)) iv9 aad b)).2 = 0) == decide ((sealL (enc tabs (expandL tabs (keyK ky lg)) (keyN lg / 4 + 6)) iv9 aad b) = (sealL (enc tabs (expandL tabs (keyK ky lg)) (keyN lg / 4 + 6)) iv9 oth b))) = true := aad_law _ hE iv9 aad oth b
  refine Calls.enter (S := Tr w [] []) Try.func4 rfl (Tr.refl w []) (fun K hK => ?_)
  refine Wp.seq fun K1 n1 r1 => ?_
  refine Wp.region ?_
  refine Ops.f (Ef.boxA rfl) (New.ex _) fun b3 hb3 => ?_
  refine Ops.v (Yl.asB rfl) ?_
  refine Ops.nil ?_
  refine n1 _ _ _ ?_
  refine Wp.seq fun K2 n2 r2 => ?_
  refine Wp.seq fun K3 n3 r3 => ?_
  refine Wp.region ?_
  refine Ops.v (Yl.mvS rfl) ?_
  refine Ops.v (Yl.len Try.underlying23 rfl rfl) ?_
  refine Ops.v (Yl.gtr rfl rfl) ?_
  refine Ops.vB (Yl.mvB rfl) (fun hg1_3 => ?_) (fun hg1_3 => ?_)
  ·
    try simp only [decide_eq_true_eq, decide_eq_false_iff_not, Bool.not_eq_true, Bool.not_eq_false, Bool.not_true, Bool.not_false, Bool.not_eq_eq_eq_not, ne_eq, Decidable.not_not] at hg1_3
    refine Ops.guard_no rfl rfl rfl rfl rfl ?_
    refine Ops.guard_no rfl rfl rfl rfl rfl ?_
    refine Ops.guard_no rfl rfl rfl rfl rfl ?_
    refine Ops.v (Yl.pick_t rfl (v := .bool _) rfl) ?_
    refine Ops.v (Yl.mvB rfl) ?_
    refine Ops.guard_no rfl rfl rfl rfl rfl ?_
    refine Ops.guard_no rfl rfl rfl rfl rfl ?_
    refine Ops.guard_no rfl rfl rfl rfl rfl ?_
    refine Ops.v (Yl.pick_t rfl (v := .bool _) rfl) ?_
    refine Ops.v (Yl.mvB rfl) ?_
    refine Ops.guard_no rfl rfl rfl rfl rfl ?_
    refine Ops.guard_no rfl rfl rfl rfl rfl ?_
    refine Ops.guard_no rfl rfl rfl rfl rfl ?_
    refine Ops.guard_no rfl rfl rfl rfl rfl ?_
    refine Ops.v (Yl.pick_t rfl (v := .bool _) rfl) ?_
    refine Ops.nil ?_
    refine n3 _ _ _ ?_
    refine Wp.cond_t rfl ?_
    refine Wp.seq fun K4 n4 r4 => ?_
    refine Wp.region ?_
    refine Ops.v (Yl.asB rfl) ?_
    refine Ops.nil ?_
    refine n4 _ _ _ ?_
    refine Wp.ret ?_
    refine r2 _ _ _ _ (by simp) ?_
    refine (hK _ _ _ ⟨114, rfl⟩ (Res.one ⟨114, rfl⟩ rfl rfl) ?_).1
    exact fun w' h => ⟨rfl, h.clear⟩
  ·
    try simp only [decide_eq_true_eq, decide_eq_false_iff_not, Bool.not_eq_true, Bool.not_eq_false, Bool.not_true, Bool.not_false, Bool.not_eq_eq_eq_not, ne_eq, Decidable.not_not] at hg1_3
    refine Ops.guard_val rfl rfl rfl rfl rfl (Yl.mvS rfl) ?_
    refine Ops.guard_val rfl rfl rfl rfl rfl (Yl.len Try.underlying23 rfl rfl) ?_
    refine Ops.guard_val rfl rfl rfl rfl rfl (Yl.gtr rfl rfl) ?_
    refine Ops.v (Yl.pick_f rfl (v := .bool _) rfl) ?_
    refine Ops.vB (Yl.mvB rfl) (fun hg1_8 => ?_) (fun hg1_8 => ?_)
    ·
      try simp only [decide_eq_true_eq, decide_eq_false_iff_not, Bool.not_eq_true, Bool.not_eq_false, Bool.not_true, Bool.not_false, Bool.not_eq_eq_eq_not, ne_eq, Decidable.not_not] at hg1_8
      refine Ops.guard_no rfl rfl rfl rfl rfl ?_
      refine Ops.guard_no rfl rfl rfl rfl rfl ?_
      refine Ops.guard_no rfl rfl rfl rfl rfl ?_
      refine Ops.v (Yl.pick_t rfl (v := .bool _) rfl) ?_
      refine Ops.v (Yl.mvB rfl) ?_
      refine Ops.guard_no rfl rfl rfl rfl rfl ?_
      refine Ops.guard_no rfl rfl rfl rfl rfl ?_
      refine Ops.guard_no rfl rfl rfl rfl rfl ?_
      refine Ops.guard_no rfl rfl rfl rfl rfl ?_
      refine Ops.v (Yl.pick_t rfl (v := .bool _) rfl) ?_
      refine Ops.nil ?_
      refine n3 _ _ _ ?_
      refine Wp.cond_t rfl ?_
      refine Wp.seq fun K5 n5 r5 => ?_
      refine Wp.region ?_
      refine Ops.v (Yl.asB rfl) ?_
      refine Ops.nil ?_
      refine n5 _ _ _ ?_
      refine Wp.ret ?_
      refine r2 _ _ _ _ (by simp) ?_
      refine (hK _ _ _ ⟨114, rfl⟩ (Res.one ⟨114, rfl⟩ rfl rfl) ?_).1
      exact fun w' h => ⟨rfl, h.clear⟩
    ·
      try simp only [decide_eq_true_eq, decide_eq_false_iff_not, Bool.not_eq_true, Bool.not_eq_false, Bool.not_true, Bool.not_false, Bool.not_eq_eq_eq_not, ne_eq, Decidable.not_not] at hg1_8
      refine Ops.guard_val rfl rfl rfl rfl rfl (Yl.loadAz ag25 rfl (by first | exact Rd.blk (by repeat (first | exact List.Mem.head _ | apply List.Mem.tail)) | exact Rd.row (by repeat (first | exact List.Mem.head _ | apply List.Mem.tail)) | assumption) (keyV_len _ _ _ _ hky)) ?_
      refine Ops.guard_yes rfl rfl rfl rfl rfl (Ef.pure bd5 rfl (fun wc hw => c__palfrey_palfreylaw10_Key__short wc ky lg C A nc cc na ca hky)) ⟨(), trivial⟩ fun _ _ => ?_
      refine Ops.guard_val rfl rfl rfl rfl rfl (Yl.not rfl) ?_
      refine Ops.v (Yl.pick_f rfl (v := .bool _) rfl) ?_
      refine Ops.vB (Yl.mvB rfl) (fun hg1_13 => ?_) (fun hg1_13 => ?_)
      ·
        try simp only [decide_eq_true_eq, decide_eq_false_iff_not, Bool.not_eq_true, Bool.not_eq_false, Bool.not_true, Bool.not_false, Bool.not_eq_eq_eq_not, ne_eq, Decidable.not_not] at hg1_13
        refine Ops.guard_no rfl rfl rfl rfl rfl ?_
        refine Ops.guard_no rfl rfl rfl rfl rfl ?_
        refine Ops.guard_no rfl rfl rfl rfl rfl ?_
        refine Ops.guard_no rfl rfl rfl rfl rfl ?_
        refine Ops.v (Yl.pick_t rfl (v := .bool _) rfl) ?_
        refine Ops.nil ?_
        refine n3 _ _ _ ?_
        refine Wp.cond_t rfl ?_
        refine Wp.seq fun K6 n6 r6 => ?_
        refine Wp.region ?_
        refine Ops.v (Yl.asB rfl) ?_
        refine Ops.nil ?_
        refine n6 _ _ _ ?_
        refine Wp.ret ?_
        refine r2 _ _ _ _ (by simp) ?_
        refine (hK _ _ _ ⟨114, rfl⟩ (Res.one ⟨114, rfl⟩ rfl rfl) ?_).1
        exact fun w' h => ⟨rfl, h.clear⟩
      ·
        try simp only [decide_eq_true_eq, decide_eq_false_iff_not, Bool.not_eq_true, Bool.not_eq_false, Bool.not_true, Bool.not_false, Bool.not_eq_eq_eq_not, ne_eq, Decidable.not_not] at hg1_13
        refine Ops.guard_val rfl rfl rfl rfl rfl ((by first | exact Yl.fieldAddrZ fo25_2 rfl | exact Yl.fieldAddr fo25_2 rfl)) ?_
        refine Ops.guard_val rfl rfl rfl rfl rfl (Yl.load1z na23 rfl (by first | exact Rd.blk (by repeat (first | exact List.Mem.head _ | apply List.Mem.tail)) | exact Rd.row (by repeat (first | exact List.Mem.head _ | apply List.Mem.tail)) | assumption) (keyV33 _ _ _ _ hky)) ?_
        refine Ops.guard_val rfl rfl rfl rfl rfl (Yl.len Try.underlying23 rfl rfl) ?_
        refine Ops.guard_val rfl rfl rfl rfl rfl (Yl.eql rfl rfl) ?_
        refine Ops.v (Yl.pick_f rfl (v := .bool _) rfl) ?_
        refine Ops.nil ?_
        refine n3 _ _ _ ?_
        refine Wp.cond _ rfl (fun h33 => ?_) (fun h33 => ?_)
        ·
          try simp only [decide_eq_true_eq, decide_eq_false_iff_not, Bool.not_eq_true, Bool.not_eq_false, Bool.not_true, Bool.not_false, Bool.not_eq_eq_eq_not, ne_eq, Decidable.not_not] at h33
          refine Wp.seq fun K7 n7 r7 => ?_
          refine Wp.region ?_
          refine Ops.v (Yl.asB rfl) ?_
          refine Ops.nil ?_
          refine n7 _ _ _ ?_
          refine Wp.ret ?_
          refine r2 _ _ _ _ (by simp) ?_
          refine (hK _ _ _ ⟨114, rfl⟩ (Res.one ⟨114, rfl⟩ rfl rfl) ?_).1
          exact fun w' h => ⟨rfl, h.clear⟩
        ·
          try simp only [decide_eq_true_eq, decide_eq_false_iff_not, Bool.not_eq_true, Bool.not_eq_false, Bool.not_true, Bool.not_false, Bool.not_eq_eq_eq_not, ne_eq, Decidable.not_not] at h33
          refine Wp.skip ?_
          refine n2 _ _ _ ?_
          refine Wp.seq fun K8 n8 r8 => ?_
          refine Wp.region ?_
          have hsh : nc ≤ 100 ∧ na ≤ 100 := by simpa using hg1_13
          refine Ops.v (Yl.loadAz ag25 rfl (by first | exact Rd.blk (by repeat (first | exact List.Mem.head _ | apply List.Mem.tail)) | exact Rd.row (by repeat (first | exact List.Mem.head _ | apply List.Mem.tail)) | assumption) (keyV_len _ _ _ _ hky)) ?_
          refine Ops.f (Ef.makes bd6 rfl (fun wc hw => c_palfrey_palfreylaw10_keys wc ky lg _ _ hky)) (by exact ⟨(_, _, _, 0), trivial, NewH.row1 (Nat.le_refl _) (NewH.blk (Nat.le_refl _) (NewH.blk (Nat.le_refl _) NewH.nil))⟩) fun x36 hx36 => ?_
          refine Ops.v (Yl.move' rfl) ?_
          refine Ops.v (Yl.extract (vs := [pt x36.1 0, .bool true]) rfl rfl) ?_
          refine Ops.v (Yl.extract (vs := [pt x36.1 0, .bool true]) rfl rfl) ?_
          refine Ops.v (Yl.asP rfl) ?_
          refine Ops.v (Yl.asB rfl) ?_
          refine Ops.nil ?_
          refine n8 _ _ _ ?_
          refine Wp.seq fun K9 n9 r9 => ?_
          refine Wp.seq fun K10 n10 r10 => ?_
          refine Wp.region ?_
          refine Ops.v (Yl.mvB rfl) ?_
          refine Ops.v (Yl.not rfl) ?_
          refine Ops.nil ?_
          refine n10 _ _ _ ?_
          refine Wp.cond_f rfl ?_
          refine Wp.skip ?_
          refine n9 _ _ _ ?_
          refine Wp.seq fun K11 n11 r11 => ?_
          refine Wp.region ?_
          refine Ops.v (Yl.mvP rfl) ?_
          refine Ops.v ((by first | exact Yl.fieldAddrZ fo25_2 rfl | exact Yl.fieldAddr fo25_2 rfl)) ?_
          refine Ops.v (Yl.load1z na23 rfl (by first | exact Rd.blk (by repeat (first | exact List.Mem.head _ | apply List.Mem.tail)) | exact Rd.row (by repeat (first | exact List.Mem.head _ | apply List.Mem.tail)) | assumption) (keyV33 _ _ _ _ hky)) ?_
          refine Ops.v ((by first | exact Yl.fieldAddrZ fo25_3 rfl | exact Yl.fieldAddr fo25_3 rfl)) ?_
          refine Ops.v (Yl.load1z na23 rfl (by first | exact Rd.blk (by repeat (first | exact List.Mem.head _ | apply List.Mem.tail)) | exact Rd.row (by repeat (first | exact List.Mem.head _ | apply List.Mem.tail)) | assumption) (keyV34 _ _ _ _ hky)) ?_
          refine Ops.v (Yl.mvS rfl) ?_
          refine Ops.f (Ef.makes bd9 rfl (fun wc hw => c_palfrey_gcm_Seal wc x36.1 tabs (expandL tabs (keyK ky lg)) (keyN lg / 4 + 6) (keysOf hw (by repeat (first | exact List.Mem.head _ | apply List.Mem.tail)) (by repeat (first | exact List.Mem.head _ | apply List.Mem.tail)) (by repeat (first | exact List.Mem.head _ | apply List.Mem.tail)) (by omega) tabs_len (by omega)) (by omega) C A B iv9 aad b nc cc na ca nb cb (hC.keep hw) (hA.keep hw) (hB.keep hw) hnc (by omega) hnb (by omega) (by omega) (by omega) (by omega))) (by exact ⟨(_, _), Nat.le_refl _, NewH.row1 (Nat.le_refl _) NewH.nil⟩) fun x48 hx48 => ?_
          refine Ops.v (Yl.move' rfl) ?_
          refine Ops.v (Yl.extract (vs := [sl (some x48.1) (sealL (enc tabs (expandL tabs (keyK ky lg)) (keyN lg / 4 + 6)) iv9 aad b).length x48.2, iv 0]) rfl rfl) ?_
          refine Ops.v (Yl.extract (vs := [sl (some x48.1) (sealL (enc tabs (expandL tabs (keyK ky lg)) (keyN lg / 4 + 6)) iv9 aad b).length x48.2, iv 0]) rfl rfl) ?_
          refine Ops.v (Yl.asS rfl) ?_
          refine Ops.v (Yl.asI rfl) ?_
          refine Ops.nil ?_
          refine n11 _ _ _ ?_
          refine Wp.seq fun K12 n12 r12 => ?_
          refine Wp.region ?_
          refine Ops.v (Yl.mvP rfl) ?_
          refine Ops.v ((by first | exact Yl.fieldAddrZ fo25_2 rfl | exact Yl.fieldAddr fo25_2 rfl)) ?_
          refine Ops.v (Yl.load1z na23 rfl (by first | exact Rd.blk (by repeat (first | exact List.Mem.head _ | apply List.Mem.tail)) | exact Rd.row (by repeat (first | exact List.Mem.head _ | apply List.Mem.tail)) | assumption) (keyV33 _ _ _ _ hky)) ?_
          refine Ops.v (Yl.mvS rfl) ?_
          refine Ops.v (Yl.mvS rfl) ?_
          refine Ops.f (Ef.makes bd9 rfl (fun wc hw => c_palfrey_gcm_Seal wc x36.1 tabs (expandL tabs (keyK ky lg)) (keyN lg / 4 + 6) (keysOf hw (by repeat (first | exact List.Mem.head _ | apply List.Mem.tail)) (by repeat (first | exact List.Mem.head _ | apply List.Mem.tail)) (by repeat (first | exact List.Mem.head _ | apply List.Mem.tail)) (by omega) tabs_len (by omega)) (by omega) C O B iv9 oth b nc cc no co nb cb (hC.keep hw) (hO.keep hw) (hB.keep hw) hnc (by omega) hnb (by omega) (by omega) (by omega) (by omega))) (by exact ⟨(_, _), Nat.le_refl _, NewH.row1 (Nat.le_refl _) NewH.nil⟩) fun x57 hx57 => ?_
          refine Ops.v (Yl.move' rfl) ?_
          refine Ops.v (Yl.extract (vs := [sl (some x57.1) (sealL (enc tabs (expandL tabs (keyK ky lg)) (keyN lg / 4 + 6)) iv9 oth b).length x57.2, iv 0]) rfl rfl) ?_
          refine Ops.v (Yl.extract (vs := [sl (some x57.1) (sealL (enc tabs (expandL tabs (keyK ky lg)) (keyN lg / 4 + 6)) iv9 oth b).length x57.2, iv 0]) rfl rfl) ?_
          refine Ops.v (Yl.asS rfl) ?_
          refine Ops.v (Yl.asI rfl) ?_
          refine Ops.nil ?_
          refine n12 _ _ _ ?_
          refine Wp.seq fun K13 n13 r13 => ?_
          refine Wp.seq fun K14 n14 r14 => ?_
          refine Wp.drawS hmix (fun i => [1, 1, 1, 1, 1, 1, 1, 1, 1, 1, 1, 1, 1, 1, 1, 1, 1, 1, 1, 1, 1, 1, 1, 1, 1, 1, 0, 1, 1, 1, 1, 0, 1, 1].getD i 0) (fun _ h => h.drawn _) fun N8 hN8 => ?_
          refine G.p 0 (by kernel_rfl) rfl (Yl.mvI rfl) ?_
          refine G.p 1 (by kernel_rfl) rfl (Yl.neq rfl rfl) ?_
          refine G.vB 2 (by kernel_rfl) rfl (Yl.mvB rfl) (fun hg8_2 => ?_) (fun hg8_2 => ?_)
          ·
            try simp only [decide_eq_true_eq, decide_eq_false_iff_not, Bool.not_eq_true, Bool.not_eq_false, Bool.not_true, Bool.not_false, Bool.not_eq_eq_eq_not, ne_eq, Decidable.not_not] at hg8_2
            all_goals (simp at hg8_2; done)
          ·
            try simp only [decide_eq_true_eq, decide_eq_false_iff_not, Bool.not_eq_true, Bool.not_eq_false, Bool.not_true, Bool.not_false, Bool.not_eq_eq_eq_not, ne_eq, Decidable.not_not] at hg8_2
            refine G.pyes 3 (by kernel_rfl) rfl rfl rfl rfl rfl (Yl.mvI rfl) ?_
            refine G.pyes 4 (by kernel_rfl) rfl rfl rfl rfl rfl (Yl.neq rfl rfl) ?_
            refine G.p 5 (by kernel_rfl) rfl (Yl.pick_f rfl (v := .bool _) rfl) ?_
            refine G.vB 6 (by kernel_rfl) rfl (Yl.mvB rfl) (fun hg8_6 => ?_) (fun hg8_6 => ?_)
            ·
              try simp only [decide_eq_true_eq, decide_eq_false_iff_not, Bool.not_eq_true, Bool.not_eq_false, Bool.not_true, Bool.not_false, Bool.not_eq_eq_eq_not, ne_eq, Decidable.not_not] at hg8_6
              all_goals (simp at hg8_6; done)
            ·
              try simp only [decide_eq_true_eq, decide_eq_false_iff_not, Bool.not_eq_true, Bool.not_eq_false, Bool.not_true, Bool.not_false, Bool.not_eq_eq_eq_not, ne_eq, Decidable.not_not] at hg8_6
              refine G.pyes 7 (by kernel_rfl) rfl rfl rfl rfl rfl (Yl.mvS rfl) ?_
              refine G.pyes 8 (by kernel_rfl) rfl rfl rfl rfl rfl (Yl.len Try.underlying23 rfl rfl) ?_
              refine G.pyes 9 (by kernel_rfl) rfl rfl rfl rfl rfl (Yl.mvS rfl) ?_
              refine G.pyes 10 (by kernel_rfl) rfl rfl rfl rfl rfl (Yl.len Try.underlying23 rfl rfl) ?_
              refine G.pyes 11 (by kernel_rfl) rfl rfl rfl rfl rfl (Yl.add rfl rfl (by omega) (by omega)) ?_
              refine G.pyes 12 (by kernel_rfl) rfl rfl rfl rfl rfl (Yl.neq rfl rfl) ?_
              refine G.p 13 (by kernel_rfl) rfl (Yl.pick_f rfl (v := .bool _) rfl) ?_
              refine G.vB 14 (by kernel_rfl) rfl (Yl.mvB rfl) (fun hg8_14 => ?_) (fun hg8_14 => ?_)
              ·
                try simp only [decide_eq_true_eq, decide_eq_false_iff_not, Bool.not_eq_true, Bool.not_eq_false, Bool.not_true, Bool.not_false, Bool.not_eq_eq_eq_not, ne_eq, Decidable.not_not] at hg8_14
                all_goals (exfalso; omega)
              ·
                try simp only [decide_eq_true_eq, decide_eq_false_iff_not, Bool.not_eq_true, Bool.not_eq_false, Bool.not_true, Bool.not_false, Bool.not_eq_eq_eq_not, ne_eq, Decidable.not_not] at hg8_14
                refine G.pyes 15 (by kernel_rfl) rfl rfl rfl rfl rfl (Yl.mvS rfl) ?_
                refine G.pyes 16 (by kernel_rfl) rfl rfl rfl rfl rfl (Yl.len Try.underlying23 rfl rfl) ?_
                refine G.pyes 17 (by kernel_rfl) rfl rfl rfl rfl rfl (Yl.mvS rfl) ?_
                refine G.pyes 18 (by kernel_rfl) rfl rfl rfl rfl rfl (Yl.len Try.underlying23 rfl rfl) ?_
                refine G.pyes 19 (by kernel_rfl) rfl rfl rfl rfl rfl (Yl.neq rfl rfl) ?_
                refine G.p 20 (by kernel_rfl) rfl (Yl.pick_f rfl (v := .bool _) rfl) ?_
                refine G.vB 21 (by kernel_rfl) rfl (Yl.mvB rfl) (fun hg8_21 => ?_) (fun hg8_21 => ?_)
                ·
                  try simp only [decide_eq_true_eq, decide_eq_false_iff_not, Bool.not_eq_true, Bool.not_eq_false, Bool.not_true, Bool.not_false, Bool.not_eq_eq_eq_not, ne_eq, Decidable.not_not] at hg8_21
                  all_goals (exfalso; omega)
                ·
                  try simp only [decide_eq_true_eq, decide_eq_false_iff_not, Bool.not_eq_true, Bool.not_eq_false, Bool.not_true, Bool.not_false, Bool.not_eq_eq_eq_not, ne_eq, Decidable.not_not] at hg8_21
                  refine G.pyes 22 (by kernel_rfl) rfl rfl rfl rfl rfl (Yl.mvS rfl) ?_
                  refine G.pyes 23 (by kernel_rfl) rfl rfl rfl rfl rfl (Yl.mvS rfl) ?_
                  refine G.pyes 24 (by kernel_rfl) rfl rfl rfl rfl rfl (Yl.len Try.underlying23 rfl rfl) ?_
                  have hr48 := hx48.1
                  have hr57 := hx57.1
                  refine G.pyes 25 (by kernel_rfl) rfl rfl rfl rfl rfl (Yl.sliceTo Try.underlying23 sz5 rfl (.some (i := nb) rfl rfl) (by omega)) ?_
                  refine G.tyes 26 (by kernel_rfl) rfl rfl rfl rfl rfl (Yl.toStr (xs := (sealL (enc tabs (expandL tabs (keyK ky lg)) (keyN lg / 4 + 6)) iv9 aad b).take nb) Try.underlying23 Try.underlying5 Try.underlying9 rfl (by rw [List.map_take]; exact (RdS.row (ao := some x48.1) (by repeat (first | exact List.Mem.head _ | apply List.Mem.tail))).take _) (by rw [List.length_take]; omega)) ?_
                  refine G.pyes 27 (by kernel_rfl) rfl rfl rfl rfl rfl (Yl.mvS rfl) ?_
                  refine G.pyes 28 (by kernel_rfl) rfl rfl rfl rfl rfl (Yl.mvS rfl) ?_
                  refine G.pyes 29 (by kernel_rfl) rfl rfl rfl rfl rfl (Yl.len Try.underlying23 rfl rfl) ?_
                  refine G.pyes 30 (by kernel_rfl) rfl rfl rfl rfl rfl (Yl.sliceTo Try.underlying23 sz5 rfl (.some (i := nb) rfl rfl) (by omega)) ?_
                  refine G.tyes 31 (by kernel_rfl) rfl rfl rfl rfl rfl (Yl.toStr (xs := (sealL (enc tabs (expandL tabs (keyK ky lg)) (keyN lg / 4 + 6)) iv9 oth b).take nb) Try.underlying23 Try.underlying5 Try.underlying9 rfl (by rw [List.map_take]; exact (RdS.row (ao := some x57.1) (by repeat (first | exact List.Mem.head _ | apply List.Mem.tail))).take _) (by rw [List.length_take]; omega)) ?_
                  refine G.pyes 32 (by kernel_rfl) rfl rfl rfl rfl rfl (Yl.neStr Try.underlying9 rfl rfl) ?_
                  refine G.p 33 (by kernel_rfl) rfl (Yl.pick_f rfl (v := .bool _) rfl) ?_
                  refine G.done (by kernel_rfl) (fun _ h => h) (hN8 _ _ _ ?_)
                  refine n14 _ _ _ ?_
                  refine Wp.cond _ rfl (fun h93 => ?_) (fun h93 => ?_)
                  ·
                    try simp only [decide_eq_true_eq, decide_eq_false_iff_not, Bool.not_eq_true, Bool.not_eq_false, Bool.not_true, Bool.not_false, Bool.not_eq_eq_eq_not, ne_eq, Decidable.not_not] at h93
                    all_goals (exact absurd hts h93)
                  ·
                    try simp only [decide_eq_true_eq, decide_eq_false_iff_not, Bool.not_eq_true, Bool.not_eq_false, Bool.not_true, Bool.not_false, Bool.not_eq_eq_eq_not, ne_eq, Decidable.not_not] at h93
                    refine Wp.skip ?_
                    refine n13 _ _ _ ?_
                    refine Wp.seq fun K15 n15 r15 => ?_
                    refine Wp.region ?_
                    refine Ops.v (Yl.mvP rfl) ?_
                    refine Ops.v ((by first | exact Yl.fieldAddrZ fo25_2 rfl | exact Yl.fieldAddr fo25_2 rfl)) ?_
                    refine Ops.v (Yl.load1z na23 rfl (by first | exact Rd.blk (by repeat (first | exact List.Mem.head _ | apply List.Mem.tail)) | exact Rd.row (by repeat (first | exact List.Mem.head _ | apply List.Mem.tail)) | assumption) (keyV33 _ _ _ _ hky)) ?_
                    refine Ops.v (Yl.mvS rfl) ?_
                    refine Ops.v (Yl.mvS rfl) ?_
                    refine Ops.f (Ef.makes bd10 rfl (fun wc hw => c_palfrey_gcm_Open wc x36.1 tabs (expandL tabs (keyK ky lg)) (keyN lg / 4 + 6) (keysOf hw (by repeat (first | exact List.Mem.head _ | apply List.Mem.tail)) (by repeat (first | exact List.Mem.head _ | apply List.Mem.tail)) (by repeat (first | exact List.Mem.head _ | apply List.Mem.tail)) (by omega) tabs_len (by omega)) (by omega) C O (some ⟨x48.1, 0, none⟩) iv9 oth (sealL (enc tabs (expandL tabs (keyK ky lg)) (keyN lg / 4 + 6)) iv9 aad b) nc cc no co _ _ (hC.keep hw) (hO.keep hw) (hw.rwRow (ao := some x48.1) (by repeat (first | exact List.Mem.head _ | apply List.Mem.tail))) hnc hno rfl (by omega) (by omega) (by omega) (by omega) hx48.1)) (by exact ⟨none, trivial, NewH.row (by simp) NewH.nil⟩) fun x100 hx100 => ?_
                    refine Ops.v (Yl.move' rfl) ?_
                    refine Ops.v (Yl.extract (vs := [sl x100 (openL (enc tabs (expandL tabs (keyK ky lg)) (keyN lg / 4 + 6)) iv9 oth (sealL (enc tabs (expandL tabs (keyK ky lg)) (keyN lg / 4 + 6)) iv9 aad b)).1.length (openL (enc tabs (expandL tabs (keyK ky lg)) (keyN lg / 4 + 6)) iv9 oth (sealL (enc tabs (expandL tabs (keyK ky lg)) (keyN lg / 4 + 6)) iv9 aad b)).1.length, iv (openL (enc tabs (expandL tabs (keyK ky lg)) (keyN lg / 4 + 6)) iv9 oth (sealL (enc tabs (expandL tabs (keyK ky lg)) (keyN lg / 4 + 6)) iv9 aad b)).2]) rfl rfl) ?_
                    refine Ops.v (Yl.extract (vs := [sl x100 (openL (enc tabs (expandL tabs (keyK ky lg)) (keyN lg / 4 + 6)) iv9 oth (sealL (enc tabs (expandL tabs (keyK ky lg)) (keyN lg / 4 + 6)) iv9 aad b)).1.length (openL (enc tabs (expandL tabs (keyK ky lg)) (keyN lg / 4 + 6)) iv9 oth (sealL (enc tabs (expandL tabs (keyK ky lg)) (keyN lg / 4 + 6)) iv9 aad b)).1.length, iv (openL (enc tabs (expandL tabs (keyK ky lg)) (keyN lg / 4 + 6)) iv9 oth (sealL (enc tabs (expandL tabs (keyK ky lg)) (keyN lg / 4 + 6)) iv9 aad b)).2]) rfl rfl) ?_
                    refine Ops.v (Yl.asS rfl) ?_
                    refine Ops.v (Yl.asI rfl) ?_
                    refine Ops.nil ?_
                    refine n15 _ _ _ ?_
                    refine Wp.seq fun K16 n16 r16 => ?_
                    refine Wp.region ?_
                    refine Ops.v (Yl.mvI rfl) ?_
                    refine Ops.v (Yl.eql rfl rfl) ?_
                    refine Ops.v (Yl.mvS rfl) ?_
                    refine Ops.v (Yl.toStr (xs := (sealL (enc tabs (expandL tabs (keyK ky lg)) (keyN lg / 4 + 6)) iv9 aad b)) Try.underlying23 Try.underlying5 Try.underlying9 rfl (RdS.row (ao := some x48.1) (by repeat (first | exact List.Mem.head _ | apply List.Mem.tail))) rfl) ?_
                    refine Ops.v (Yl.mvS rfl) ?_
                    refine Ops.v (Yl.toStr (xs := (sealL (enc tabs (expandL tabs (keyK ky lg)) (keyN lg / 4 + 6)) iv9 oth b)) Try.underlying23 Try.underlying5 Try.underlying9 rfl (RdS.row (ao := some x57.1) (by repeat (first | exact List.Mem.head _ | apply List.Mem.tail))) rfl) ?_
                    refine Ops.v (Yl.eqStr Try.underlying9 rfl rfl) ?_
                    refine Ops.v (Yl.eqB Try.underlying4 rfl rfl) ?_
                    refine Ops.vB (Yl.mvB rfl) (fun hg11_8 => ?_) (fun hg11_8 => ?_)
                    ·
                      try simp only [decide_eq_true_eq, decide_eq_false_iff_not, Bool.not_eq_true, Bool.not_eq_false, Bool.not_true, Bool.not_false, Bool.not_eq_eq_eq_not, ne_eq, Decidable.not_not] at hg11_8
                      refine Ops.guard_yes rfl rfl rfl rfl rfl (Ef.pure bd8 rfl (fun wc hw => c_palfrey_palfreylaw10_awake wc)) ⟨(), trivial⟩ fun _ _ => ?_
                      refine Ops.v (Yl.pick_t rfl (v := .bool _) rfl) ?_
                      refine Ops.v (Yl.asB rfl) ?_
                      refine Ops.nil ?_
                      refine n16 _ _ _ ?_
                      refine Wp.ret ?_
                      refine (hK _ _ _ ⟨114, rfl⟩ (Res.one ⟨114, rfl⟩ rfl rfl) ?_).1
                      exact fun w' h => ⟨rfl, h.clear⟩
                    ·
                      try simp only [decide_eq_true_eq, decide_eq_false_iff_not, Bool.not_eq_true, Bool.not_eq_false, Bool.not_true, Bool.not_false, Bool.not_eq_eq_eq_not, ne_eq, Decidable.not_not] at hg11_8
                      all_goals (first | (rw [haad] at hg11_8; exact Bool.noConfusion hg11_8) | (simp [haad] at hg11_8; done))

end Go.Proofs.Ytiimjkpcljelpaa

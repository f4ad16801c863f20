/- Walks of functions. -/
import Derived.Test.YtiimjkpcljelpaaFc
set_option maxRecDepth 10000
open Go.RowKit Go.Eng
set_option linter.unusedSimpArgs false
set_option linter.unusedVariables false
namespace Go.Proofs.Ytiimjkpcljelpaa

theorem c_palfrey_aes_Expand (w : World) (A : Option Addr) (key : List B8) (n c : Nat) (hA : Rw w A (key.map u8)) (hn : n = key.length) (hc : n ≤ c) (hk : key.length = 16 ∨ key.length = 32) : Makes Try.prog 11 #[.slice A n c] w (fun _ => True) (fun x : Nat × Nat × Nat × Nat => .tuple #[pt x.1 0, iv 0]) (fun x => [.row (some x.2.2.1) 59 4 (4 * (key.length / 4 + 7)) x.2.2.2 ((expandL tabs key).map u8), .blk x.1 58 [pt x.2.1 0, sl (some x.2.2.1) (4 * (key.length / 4 + 7)) x.2.2.2], .blk x.2.1 63 (tabs.map u8)]) := by
  subst hn
  obtain ⟨bk, ok, rfl⟩ := hA.addr (i := 0) (by rw [List.length_map]; omega)
  obtain ⟨mm, hm, hm2⟩ : ∃ mm, key.length = 4 * mm ∧ (mm = 4 ∨ mm = 8) := ⟨key.length / 4, by omega, by omega⟩
  have e4 : (key.length : Int) / 4 = (mm : Int) := by omega
  have e5 : key.length / 4 = mm := by omega
  refine Calls.enter (S := Tr w [] []) Try.func11 rfl (Tr.refl w []) (fun K hK => ?_)
  refine Wp.seq fun K1 n1 r1 => ?_
  refine Wp.region ?_
  refine Ops.v (Yl.asP rfl) ?_
  refine Ops.v (Yl.asI rfl) ?_
  refine Ops.nil ?_
  refine n1 _ _ _ ?_
  refine Wp.seq fun K2 n2 r2 => ?_
  refine Wp.seq fun K3 n3 r3 => ?_
  refine Wp.region ?_
  refine Ops.v (Yl.mvS rfl) ?_
  refine Ops.v (Yl.len Try.underlying23 rfl rfl) ?_
  refine Ops.v (Yl.neq rfl rfl) ?_
  refine Ops.vB (Yl.mvB rfl) (fun hg1_3 => ?_) (fun hg1_3 => ?_)
  ·
    try simp only [decide_eq_true_eq, decide_eq_false_iff_not, Bool.not_eq_true, Bool.not_eq_false, Bool.not_true, Bool.not_false, Bool.not_eq_eq_eq_not, ne_eq, Decidable.not_not] at hg1_3
    refine Ops.guard_val rfl rfl rfl rfl rfl (Yl.mvS rfl) ?_
    refine Ops.guard_val rfl rfl rfl rfl rfl (Yl.len Try.underlying23 rfl rfl) ?_
    refine Ops.guard_val rfl rfl rfl rfl rfl (Yl.neq rfl rfl) ?_
    refine Ops.v (Yl.pick_t rfl (v := .bool _) rfl) ?_
    refine Ops.nil ?_
    refine n3 _ _ _ ?_
    refine Wp.cond _ rfl (fun h17 => ?_) (fun h17 => ?_)
    ·
      try simp only [decide_eq_true_eq, decide_eq_false_iff_not, Bool.not_eq_true, Bool.not_eq_false, Bool.not_true, Bool.not_false, Bool.not_eq_eq_eq_not, ne_eq, Decidable.not_not] at h17
      all_goals first | omega | (simp at h17; done)
    ·
      try simp only [decide_eq_true_eq, decide_eq_false_iff_not, Bool.not_eq_true, Bool.not_eq_false, Bool.not_true, Bool.not_false, Bool.not_eq_eq_eq_not, ne_eq, Decidable.not_not] at h17
      refine Wp.skip ?_
      refine n2 _ _ _ ?_
      refine Wp.seq fun K4 n4 r4 => ?_
      refine Wp.region ?_
      refine Ops.f (Ef.makes bd25 rfl (fun wc hw => c_palfrey_aes_made wc)) (by exact ⟨_, trivial, NewH.blk (Nat.le_refl _) NewH.nil⟩) fun tb htb => ?_
      refine Ops.v (Yl.buildS' (r := [_, _]) pl58 zo58 rfl) ?_
      refine Ops.f (Ef.boxA rfl) (New.ex _) fun b20 hb20 => ?_
      refine Ops.v (Yl.asP rfl) ?_
      refine Ops.nil ?_
      refine n4 _ _ _ ?_
      refine Wp.seq fun K5 n5 r5 => ?_
      refine Wp.region ?_
      refine Ops.v (Yl.mvS rfl) ?_
      refine Ops.v (Yl.len Try.underlying23 rfl rfl) ?_
      refine Ops.v (Yl.quo rfl rfl (by omega) (by omega) (by omega)) ?_
      refine Ops.v (Yl.asI rfl) ?_
      refine Ops.nil ?_
      refine n5 _ _ _ ?_
      refine Wp.seq fun K6 n6 r6 => ?_
      refine Wp.seq fun K7 n7 r7 => ?_
      refine Wp.region ?_
      refine Ops.v (Yl.mvI rfl) ?_
      refine Ops.v (Yl.mvI rfl) ?_
      refine Ops.nil ?_
      refine n7 _ _ _ ?_
      refine Wp.block fun K8 n8 x8 r8 => ?_
      skip
      refine Wp.loopI 1 [6, 25, 26, 27, 28, 29, 30, 31, 32, 33, 34, 35, 36, 37, 38, 39, 40, 41, 42, 43] [25] (fun (p : Nat × Option Nat × Nat) => p.1 ≤ mm ∧ (∀ j, p.2.1 = some j → New w j) ∧ (0 < p.1 → ∃ j, p.2.1 = some j)) (fun p => [iv p.1]) (fun (p : Nat × Option Nat × Nat) => Tr w [] [.row p.2.1 59 4 p.1 p.2.2 ((key.take (4 * p.1)).map u8), .blk b20 58 [pt tb 0, sl p.2.1 p.1 p.2.2], .blk tb 63 (tabs.map u8)]) (fun (p : Nat × Option Nat × Nat) => mm - p.1) ((0, none, 0)) ⟨by simp, by simp, by simp⟩ (fun _ => rfl) rfl (fun _ h => by exact h.addRow _ _) ?_
      rintro ⟨k, ao, cc⟩ hI9 J9 K9 n9 r9
      try dsimp only at hI9 n9 ⊢
      obtain ⟨hk1, hao, hso⟩ := hI9
      refine Wp.seq fun K10 n10 r10 => ?_
      refine Wp.region ?_
      refine Ops.v (Yl.lss rfl rfl) ?_
      refine Ops.nil ?_
      refine n10 _ _ _ ?_
      refine Wp.seq fun K11 n11 r11 => ?_
      refine Wp.cond _ rfl (fun h26 => ?_) (fun h26 => ?_)
      ·
        try simp only [decide_eq_true_eq, decide_eq_false_iff_not, Bool.not_eq_true, Bool.not_eq_false, Bool.not_true, Bool.not_false, Bool.not_eq_eq_eq_not, ne_eq, Decidable.not_not] at h26
        refine Wp.skip ?_
        refine n11 _ _ _ ?_
        refine Wp.seq fun K12 n12 r12 => ?_
        refine Wp.block fun K13 n13 x13 r13 => ?_
        refine Wp.seq fun K14 n14 r14 => ?_
        refine Wp.region ?_
        refine Ops.v (Yl.mvI rfl) ?_
        refine Ops.v (Yl.asI rfl) ?_
        refine Ops.nil ?_
        refine n14 _ _ _ ?_
        refine Wp.draw hmix (fun i => [1, 1, 1, 1, 0, 1, 1, 1, 1, 1, 0, 0, 0, 1, 1, 2].getD i 0) ((Tr w [] [.blk b20 58 [pt tb 0, sl ao k cc], .blk tb 63 (tabs.map u8)])) (fun _ h => h.drawn _) fun N8 hN8 => ?_
        refine G.p 0 (by kernel_rfl) rfl (Yl.mvP rfl) ?_
        refine G.p 1 (by kernel_rfl) rfl (Yl.mvP rfl) ?_
        refine G.p 2 (by kernel_rfl) rfl (Yl.nilCheck rfl) ?_
        refine G.p 3 (by kernel_rfl) rfl ((by first | exact Yl.fieldAddrZ fo58_1 rfl | exact Yl.fieldAddr fo58_1 rfl)) ?_
        refine G.t 4 (by kernel_rfl) rfl (Yl.load1z na56 rfl (by first | exact Rd.blk (by repeat (first | exact List.Mem.head _ | apply List.Mem.tail)) | exact Rd.row (by repeat (first | exact List.Mem.head _ | apply List.Mem.tail)) | assumption) (by first | rfl | exact getmap (by omega) | assumption)) ?_
        refine G.p 5 (by kernel_rfl) rfl (Yl.mvS rfl) ?_
        refine G.p 6 (by kernel_rfl) rfl (Yl.mvI rfl) ?_
        refine G.p 7 (by kernel_rfl) rfl (Yl.mul rfl rfl (by omega) (by omega)) ?_
        refine G.p 8 (by kernel_rfl) rfl (Yl.sliceFrom Try.underlying23 sz5 rfl (.some (i := 4 * k) rfl (by omega)) (by omega) hc) ?_
        refine G.p 9 (by kernel_rfl) rfl (Yl.s2ap Try.underlying59 rfl (by omega)) ?_
        refine G.t 10 (by kernel_rfl) rfl (Yl.loadA ag59 rfl (4 * k) (Rd.ofRw hA (by simp)) rfl (((key.drop (4 * k)).take 4).map u8) (by rw [List.map_take, List.map_drop]) (by rw [List.length_map, List.length_take, List.length_drop]; omega)) ?_
        refine G.run 11 (by kernel_rfl) rfl rfl rfl (Ef.buildSlice1 Try.underlying56 el59 (by omega) (by omega) rfl (by rw [List.length_map, List.length_take, List.length_drop]; omega)) (New.ex _) (fun _ h => h.sub (by repeat (first | exact List.Sublist.refl _ | exact List.nil_sublist _ | apply List.Sublist.cons_cons | apply List.Sublist.cons))) (fun _ _ _ h => h.sub (by repeat (first | exact List.Sublist.refl _ | exact List.nil_sublist _ | apply List.Sublist.cons_cons | apply List.Sublist.cons))) (fun _ => (Tr w [] [.blk b20 58 [pt tb 0, sl ao k cc], .blk tb 63 (tabs.map u8)])) (fun _ _ _ h => h) fun b39 hb39 => ?_
        simp only [En.put, List.cons_append, List.nil_append]
        refine G.run 12 (by kernel_rfl) rfl rfl rfl (Ef.appendS (ao := ao) Try.underlying56 rfl el59 rfl (by repeat (first | exact At.head | apply At.tail)) rfl (RdS.blk (by repeat (first | exact List.Mem.head _ | apply List.Mem.tail))) (by rw [List.length_map, List.length_take, List.length_drop]; omega) (one_u8 _) (by omega) (by omega) (by omega) (by omega) (fun j hj => .inr (hao j hj))) ⟨(_, 0), .inr (Nat.le_refl _)⟩ (fun _ h => h.sub (by repeat (first | exact List.Sublist.refl _ | exact List.nil_sublist _ | apply List.Sublist.cons_cons | apply List.Sublist.cons))) (fun _ _ _ h => h.sub (by repeat (first | exact List.Sublist.refl _ | exact List.nil_sublist _ | apply List.Sublist.cons_cons | apply List.Sublist.cons))) (fun _ => (Tr w [] [.blk b20 58 [pt tb 0, sl ao k cc], .blk tb 63 (tabs.map u8)])) (fun _ _ _ h => h) fun p40 hp40 => ?_
        simp only [En.put, List.cons_append, List.nil_append]
        refine G.p 13 (by kernel_rfl) rfl (Yl.nilCheck rfl) ?_
        refine G.p 14 (by kernel_rfl) rfl ((by first | exact Yl.fieldAddrZ fo58_1 rfl | exact Yl.fieldAddr fo58_1 rfl)) ?_
        refine G.last (by kernel_rfl) (fun _ h => h.sub (by repeat (first | exact List.Sublist.refl _ | exact List.nil_sublist _ | apply List.Sublist.cons_cons | apply List.Sublist.cons))) ?_
        refine G0.run 15 (by kernel_rfl) rfl rfl (Ef.store1b sz56 rfl rfl (by repeat (first | exact At.head | apply At.tail)) (by first | decide | (simp; done) | (simp; omega) | omega) rfl (by first | exact .inr (by assumption) | exact .inl (by simp))) ⟨(), trivial⟩ fun _ _ => ?_
        simp only [En.put, List.cons_append, List.nil_append]
        refine G0.done (by kernel_rfl) (hN8 _ _ _ ?_)
        refine n13 _ _ _ ?_
        refine n12 _ _ _ ?_
        refine Wp.region ?_
        refine Ops.v (Yl.add rfl rfl (by omega) (by omega)) ?_
        refine Ops.v (Yl.mvI rfl) ?_
        refine Ops.nil ?_
        refine n9 (k + 1, some p40.1, p40.2) _ _ ⟨by omega, fun j hj => by cases hj; exact hp40.resolve_left (by simp), fun _ => ⟨_, rfl⟩⟩ ⟨119, rfl⟩ rfl rfl (l1 (congrArg iv (by omega))) (by omega) (fun _ h => by rw [Nat.mul_add, List.take_add, List.map_append]; exact h.sub (by repeat (first | exact List.Sublist.refl _ | exact List.nil_sublist _ | apply List.Sublist.cons_cons | apply List.Sublist.cons)))
      ·
        try simp only [decide_eq_true_eq, decide_eq_false_iff_not, Bool.not_eq_true, Bool.not_eq_false, Bool.not_true, Bool.not_false, Bool.not_eq_eq_eq_not, ne_eq, Decidable.not_not] at h26
        refine Wp.exit ?_
        refine r11 _ _ _ _ (by simp) ?_
        refine r9 _ _ _ _ (by simp) ?_
        refine x8 _ _ _ ?_
        refine n6 _ _ _ ?_
        refine Wp.seq fun K15 n15 r15 => ?_
        refine Wp.region ?_
        have hkm : k = mm := by omega
        obtain ⟨g0, rfl⟩ := hso (by omega)
        refine Ops.v (Yl.assign' (v := u8 1#8) rfl) ?_
        refine Ops.nil ?_
        refine n15 _ _ _ ?_
        refine Wp.seq fun K16 n16 r16 => ?_
        refine Wp.seq fun K17 n17 r17 => ?_
        refine Wp.region ?_
        refine Ops.v (Yl.mvI rfl) ?_
        refine Ops.v (Yl.asI rfl) ?_
        refine Ops.nil ?_
        refine n17 _ _ _ ?_
        refine Wp.block fun K18 n18 x18 r18 => ?_
        skip
        refine Wp.loopI 2 [7, 8, 9, 45, 46, 47, 48, 49, 50, 51, 52, 53, 54, 55, 56, 57, 58, 59, 60, 61, 62, 63, 64, 65, 66, 67, 68, 69, 70, 71, 72, 73, 74, 75, 76, 77, 78, 79, 80, 81, 82, 83, 84, 85, 86, 87, 88, 89, 90, 91, 92, 93, 94, 95, 96, 97, 98, 99, 100, 101, 102, 103, 104, 105, 106, 107, 108, 109, 110, 111, 112, 113, 114, 115, 116, 117] [8, 7] (fun (p : Nat × Nat × Nat) => p.1 ≤ 3 * mm + 28 ∧ New w p.2.1) (fun p => [iv ((mm + p.1 : Nat) : Int), u8 (expTo tabs key mm p.1).2]) (fun (p : Nat × Nat × Nat) => Tr w [] [.row (some p.2.1) 59 4 (mm + p.1) p.2.2 ((expTo tabs key mm p.1).1.map u8), .blk b20 58 [pt tb 0, sl (some p.2.1) (mm + p.1) p.2.2], .blk tb 63 (tabs.map u8)]) (fun (p : Nat × Nat × Nat) => 3 * mm + 28 - p.1) ((0, g0, cc)) ⟨by simp, hao _ rfl⟩ (fun _ => rfl) (l2 (congrArg iv (by omega)) rfl) (fun _ h => by rw [hkm, ← hm, List.take_length] at h; exact h) ?_
        rintro ⟨i, g, c2⟩ hI19 J19 K19 n19 r19
        try dsimp only at hI19 n19 ⊢
        obtain ⟨hi1, hg⟩ := hI19
        have hel : (expTo tabs key mm i).1.length = 4 * (mm + i) := expTo_len _ _ _ _ hm (by omega)
        obtain ⟨wp, hwp⟩ : ∃ wp, wp = ((expTo tabs key mm i).1.drop (4 * (mm + i - 1))).take 4 := ⟨_, rfl⟩
        have hwl : wp.length = 4 := by rw [hwp, List.length_take, List.length_drop, hel]; omega
        have hVl : (wordL tabs (expTo tabs key mm i).1 mm (mm + i) (expTo tabs key mm i).2).length = 4 := wordL_len _ _ _ _ _ (by rw [hel]; omega)
        have hYl : (((expTo tabs key mm i).1.drop (4 * i)).take 4).length = 4 := by rw [List.length_take, List.length_drop, hel]; omega
        refine Wp.seq fun K20 n20 r20 => ?_
        refine Wp.seq fun K21 n21 r21 => ?_
        refine Wp.region ?_
        refine Ops.v (Yl.mvI rfl) ?_
        refine Ops.v (Yl.mvI rfl) ?_
        refine Ops.v (Yl.add rfl rfl (by omega) (by omega)) ?_
        refine Ops.v (Yl.mul rfl rfl (by omega) (by omega)) ?_
        refine Ops.v (Yl.lss rfl rfl) ?_
        refine Ops.nil ?_
        refine n21 _ _ _ ?_
        refine Wp.cond _ rfl (fun h49 => ?_) (fun h49 => ?_)
        ·
          try simp only [decide_eq_true_eq, decide_eq_false_iff_not, Bool.not_eq_true, Bool.not_eq_false, Bool.not_true, Bool.not_false, Bool.not_eq_eq_eq_not, ne_eq, Decidable.not_not] at h49
          refine Wp.skip ?_
          refine n20 _ _ _ ?_
          refine Wp.seq fun K22 n22 r22 => ?_
          refine Wp.block fun K23 n23 x23 r23 => ?_
          refine Wp.seq fun K24 n24 r24 => ?_
          refine Wp.region ?_
          refine Ops.v (Yl.mvP rfl) ?_
          refine Ops.v (Yl.nilCheck rfl) ?_
          refine Ops.v ((by first | exact Yl.fieldAddrZ fo58_1 rfl | exact Yl.fieldAddr fo58_1 rfl)) ?_
          refine Ops.v (Yl.load1z na56 rfl (by first | exact Rd.blk (by repeat (first | exact List.Mem.head _ | apply List.Mem.tail)) | exact Rd.row (by repeat (first | exact List.Mem.head _ | apply List.Mem.tail)) | assumption) (by first | rfl | exact getmap (by omega) | assumption)) ?_
          refine Ops.v (Yl.mvI rfl) ?_
          refine Ops.v (Yl.sub rfl rfl (by omega) (by omega)) ?_
          refine Ops.v (Yl.indexSlice Try.underlying56 sz59 rfl rfl (mm + i - 1) (by omega) (by omega)) ?_
          refine Ops.v (Yl.loadA ag59 rfl (4 * (mm + i - 1)) (Rd.row (by repeat (first | exact List.Mem.head _ | apply List.Mem.tail))) (by omega) (wp.map u8) (by rw [hwp, List.map_take, List.map_drop]) (by rw [List.length_map, hwl])) ?_
          refine Ops.f (Ef.alloc zo59) (New.ex _) fun b9 hb9 => ?_
          refine Ops.s (Ef.storeU wp sz59 rfl rfl (by repeat (first | exact At.head | apply At.tail)) hwl (by simp) (.inr hb9)) ?_
          refine Ops.nil ?_
          refine n24 _ _ _ ?_
          refine Wp.seq fun K25 n25 r25 => ?_
          refine Wp.block fun K26 n26 x26 r26 => ?_
          refine Wp.seq fun K27 n27 r27 => ?_
          refine Wp.region ?_
          refine Ops.v (Yl.mvI rfl) ?_
          refine Ops.v (Yl.mvI rfl) ?_
          refine Ops.v (Yl.rem rfl rfl (by omega) (by omega)) ?_
          refine Ops.v (Yl.eql rfl rfl) ?_
          refine Ops.v (Yl.asB rfl) ?_
          refine Ops.nil ?_
          refine n27 _ _ _ ?_
          refine Wp.cond _ rfl (fun h60 => ?_) (fun h60 => ?_)
          ·
            try simp only [decide_eq_true_eq, decide_eq_false_iff_not, Bool.not_eq_true, Bool.not_eq_false, Bool.not_true, Bool.not_false, Bool.not_eq_eq_eq_not, ne_eq, Decidable.not_not] at h60
            have hmod : (mm + i) % mm = 0 := by rw [e4] at h60; exact_mod_cast h60
            refine Wp.seq fun K28 n28 r28 => ?_
            refine Wp.region ?_
            refine Ops.v ((by first | exact Yl.indexArrZ Try.underlying59 sz5 rfl rfl 1 rfl (by omega) | exact Yl.indexArr1 Try.underlying59 sz5 rfl rfl 1 rfl (by omega))) ?_
            refine Ops.v (Yl.load1z na5 rfl (by first | exact Rd.blk (by repeat (first | exact List.Mem.head _ | apply List.Mem.tail)) | exact Rd.row (by repeat (first | exact List.Mem.head _ | apply List.Mem.tail)) | assumption) (by first | rfl | exact getmap (by omega) | assumption)) ?_
            refine Ops.v ((by first | exact Yl.indexArrZ Try.underlying59 sz5 rfl rfl 2 rfl (by omega) | exact Yl.indexArr1 Try.underlying59 sz5 rfl rfl 2 rfl (by omega))) ?_
            refine Ops.v (Yl.load1z na5 rfl (by first | exact Rd.blk (by repeat (first | exact List.Mem.head _ | apply List.Mem.tail)) | exact Rd.row (by repeat (first | exact List.Mem.head _ | apply List.Mem.tail)) | assumption) (by first | rfl | exact getmap (by omega) | assumption)) ?_
            refine Ops.v ((by first | exact Yl.indexArrZ Try.underlying59 sz5 rfl rfl 3 rfl (by omega) | exact Yl.indexArr1 Try.underlying59 sz5 rfl rfl 3 rfl (by omega))) ?_
            refine Ops.v (Yl.load1z na5 rfl (by first | exact Rd.blk (by repeat (first | exact List.Mem.head _ | apply List.Mem.tail)) | exact Rd.row (by repeat (first | exact List.Mem.head _ | apply List.Mem.tail)) | assumption) (by first | rfl | exact getmap (by omega) | assumption)) ?_
            refine Ops.v ((by first | exact Yl.indexArrZ Try.underlying59 sz5 rfl rfl 0 rfl (by omega) | exact Yl.indexArr1 Try.underlying59 sz5 rfl rfl 0 rfl (by omega))) ?_
            refine Ops.v (Yl.load1z na5 rfl (by first | exact Rd.blk (by repeat (first | exact List.Mem.head _ | apply List.Mem.tail)) | exact Rd.row (by repeat (first | exact List.Mem.head _ | apply List.Mem.tail)) | assumption) (by first | rfl | exact getmap (by omega) | assumption)) ?_
            refine Ops.v (Yl.buildArr' (r := [.int _ _, .int _ _, .int _ _, .int _ _]) Try.underlying59 zo59 sz5 rfl) ?_
            refine Ops.s (Ef.storeU (rotL wp) sz59 rfl rfl (by repeat (first | exact At.head | apply At.tail)) rfl (by rw [List.length_map, hwl]) (.inr hb9)) ?_
            refine Ops.nil ?_
            refine n28 _ _ _ ?_
            refine Wp.seq fun K29 n29 r29 => ?_
            refine Wp.region ?_
            refine Ops.v (Yl.mvP rfl) ?_
            refine Ops.v (Yl.sliceArrD Try.underlying59 sz5 rfl .none (by omega)) ?_
            refine Ops.f (Ef.turns (h := .blk b9 _ _) bd15 rfl (by repeat (first | exact At.head | apply At.tail)) rfl (.inr hb9) (fun wc hw => c___palfrey_aes_Keys__subs wc b20 b9 _ _ tabs (rotL wp) _ (tabOff hw (by repeat (first | exact List.Mem.head _ | apply List.Mem.tail)) (by repeat (first | exact List.Mem.head _ | apply List.Mem.tail)) tabs_len) (hw.sat _ (by repeat (first | exact List.Mem.head _ | apply List.Mem.tail))) rfl (by simp [rotL]))) (by exact ⟨(), trivial, NewH.nil⟩) fun _ _ => ?_
            refine Ops.nil ?_
            refine n29 _ _ _ ?_
            refine Wp.seq fun K30 n30 r30 => ?_
            refine Wp.region ?_
            refine Ops.v ((by first | exact Yl.indexArrZ Try.underlying59 sz5 rfl rfl 0 rfl (by omega) | exact Yl.indexArr1 Try.underlying59 sz5 rfl rfl 0 rfl (by omega))) ?_
            refine Ops.v (Yl.load1z na5 rfl (by first | exact Rd.blk (by repeat (first | exact List.Mem.head _ | apply List.Mem.tail)) | exact Rd.row (by repeat (first | exact List.Mem.head _ | apply List.Mem.tail)) | assumption) (getmap (by rw [subL_len]; simp [rotL]))) ?_
            refine Ops.v (Yl.mvI rfl) ?_
            refine Ops.v (Yl.xor8 rfl rfl) ?_
            refine Ops.v ((by first | exact Yl.indexArrZ Try.underlying59 sz5 rfl rfl 0 rfl (by omega) | exact Yl.indexArr1 Try.underlying59 sz5 rfl rfl 0 rfl (by omega))) ?_
            refine Ops.s (Ef.store1b sz5 rfl rfl (by repeat (first | exact At.head | apply At.tail)) (by rw [List.length_map, subL_len]; simp [rotL]) rfl (by first | exact .inr (by assumption) | exact .inl (by simp))) ?_
            refine Ops.nil ?_
            refine n30 _ _ _ ?_
            refine Wp.region ?_
            refine Ops.v (Yl.mvI rfl) ?_
            refine Ops.f (Ef.pure bd26 rfl (fun wc hw => c_palfrey_aes_double wc _)) ⟨(), trivial⟩ fun _ _ => ?_
            refine Ops.v (Yl.asI rfl) ?_
            refine Ops.nil ?_
            refine n26 _ _ _ ?_
            refine n25 _ _ _ ?_
            refine Wp.mono (S' := Tr w [] [.blk b9 59 ((wordL tabs (expTo tabs key mm i).1 mm (mm + i) (expTo tabs key mm i).2).map u8), .row (some g) 59 4 (mm + i) c2 ((expTo tabs key mm i).1.map u8), .blk b20 58 [pt tb 0, sl (some g) (mm + i) c2], .blk tb 63 (tabs.map u8)]) ?_ (fun _ h => by
                rw [wordL, ← hwp]
                first
                  | (rw [if_pos hmod, List.map_set]; exact h)
                  | (rw [if_neg hmod, if_pos ⟨by omega, by rw [e4] at h84; exact_mod_cast h84⟩]; exact h)
                  | (rw [if_neg hmod, if_neg (fun hh => by have := hh.2; rw [e4] at h84; exact h84 (by exact_mod_cast this))]; exact h)
                  | (rw [if_neg hmod, if_neg (by omega)]; exact h))
            refine Wp.draw hmix (fun i => [1, 1, 1, 1, 0, 1, 1, 1, 1, 0, 1, 1, 1, 1, 1, 0, 1, 0, 0, 0, 1, 1, 2].getD i 0) ((Tr w [] [.blk b20 58 [pt tb 0, sl (some g) (mm + i) c2], .blk tb 63 (tabs.map u8)])) (fun _ h => h.drawn _) fun N22 hN22 => ?_
            refine G.p 0 (by kernel_rfl) rfl (Yl.mvP rfl) ?_
            refine G.p 1 (by kernel_rfl) rfl (Yl.mvP rfl) ?_
            refine G.p 2 (by kernel_rfl) rfl (Yl.nilCheck rfl) ?_
            refine G.p 3 (by kernel_rfl) rfl ((by first | exact Yl.fieldAddrZ fo58_1 rfl | exact Yl.fieldAddr fo58_1 rfl)) ?_
            refine G.t 4 (by kernel_rfl) rfl (Yl.load1z na56 rfl (by first | exact Rd.blk (by repeat (first | exact List.Mem.head _ | apply List.Mem.tail)) | exact Rd.row (by repeat (first | exact List.Mem.head _ | apply List.Mem.tail)) | assumption) (by first | rfl | exact getmap (by omega) | assumption)) ?_
            refine G.p 5 (by kernel_rfl) rfl (Yl.sliceArrD Try.underlying59 sz5 rfl .none (by omega)) ?_
            refine G.p 6 (by kernel_rfl) rfl (Yl.mvP rfl) ?_
            refine G.p 7 (by kernel_rfl) rfl (Yl.nilCheck rfl) ?_
            refine G.p 8 (by kernel_rfl) rfl ((by first | exact Yl.fieldAddrZ fo58_1 rfl | exact Yl.fieldAddr fo58_1 rfl)) ?_
            refine G.t 9 (by kernel_rfl) rfl (Yl.load1z na56 rfl (by first | exact Rd.blk (by repeat (first | exact List.Mem.head _ | apply List.Mem.tail)) | exact Rd.row (by repeat (first | exact List.Mem.head _ | apply List.Mem.tail)) | assumption) (by first | rfl | exact getmap (by omega) | assumption)) ?_
            refine G.p 10 (by kernel_rfl) rfl (Yl.mvI rfl) ?_
            refine G.p 11 (by kernel_rfl) rfl (Yl.mvI rfl) ?_
            refine G.p 12 (by kernel_rfl) rfl (Yl.sub rfl rfl (by omega) (by omega)) ?_
            refine G.p 13 (by kernel_rfl) rfl (Yl.indexSlice Try.underlying56 sz59 rfl rfl i (by omega) (by omega)) ?_
            refine G.p 14 (by kernel_rfl) rfl (Yl.sliceArrO Try.underlying59 sz5 rfl (by omega)) ?_
            refine G.run 15 (by kernel_rfl) rfl rfl rfl (Ef.makes bd20 rfl (fun wc hw => c_palfrey_bits_Xor wc _ _ (wordL tabs (expTo tabs key mm i).1 mm (mm + i) (expTo tabs key mm i).2) (((expTo tabs key mm i).1.drop (4 * i)).take 4) _ _ _ _ (hw.rwBlk (by repeat (first | exact List.Mem.head _ | apply List.Mem.tail))) (by rw [List.map_take, List.map_drop, Nat.mul_comm i 4]; exact ((hw.rwRow (ao := some g) (by repeat (first | exact List.Mem.head _ | apply List.Mem.tail))).drop (4 * i)).take 4) (by rw [hVl]) (by rw [hYl]) (by omega))) (by exact ⟨_, trivial, NewH.row1 (Nat.le_refl _) NewH.nil⟩) (fun _ h => h.sub (by repeat (first | exact List.Sublist.refl _ | exact List.nil_sublist _ | apply List.Sublist.cons_cons | apply List.Sublist.cons))) (fun _ _ _ h => h.sub (by repeat (first | exact List.Sublist.refl _ | exact List.nil_sublist _ | apply List.Sublist.cons_cons | apply List.Sublist.cons))) (fun bx => (Tr w [] [.row (some bx) 5 1 (min (wordL tabs (expTo tabs key mm i).1 mm (mm + i) (expTo tabs key mm i).2).length (((expTo tabs key mm i).1.drop (4 * i)).take 4).length) (min (wordL tabs (expTo tabs key mm i).1 mm (mm + i) (expTo tabs key mm i).2).length (((expTo tabs key mm i).1.drop (4 * i)).take 4).length) ((xorL (wordL tabs (expTo tabs key mm i).1 mm (mm + i) (expTo tabs key mm i).2) (((expTo tabs key mm i).1.drop (4 * i)).take 4)).map u8), .blk b20 58 [pt tb 0, sl (some g) (mm + i) c2], .blk tb 63 (tabs.map u8)])) (fun _ _ _ h => h.sub (by repeat (first | exact List.Sublist.refl _ | exact List.nil_sublist _ | apply List.Sublist.cons_cons | apply List.Sublist.cons))) fun bx hbx => ?_
            simp only [En.put, List.cons_append, List.nil_append]
            refine G.p 16 (by kernel_rfl) rfl (Yl.s2ap Try.underlying59 rfl (by omega)) ?_
            refine G.t 17 (by kernel_rfl) rfl (Yl.loadAz ag59 rfl (Rd.row (by repeat (first | exact List.Mem.head _ | apply List.Mem.tail))) (by rw [List.length_map, xorL_len, hVl, hYl]; rfl)) ?_
            refine G.run 18 (by kernel_rfl) rfl rfl rfl (Ef.buildSlice1 Try.underlying56 el59 (by omega) (by omega) rfl (by rw [List.length_map, xorL_len, hVl, hYl]; rfl)) (New.ex _) (fun _ h => h.sub (by repeat (first | exact List.Sublist.refl _ | exact List.nil_sublist _ | apply List.Sublist.cons_cons | apply List.Sublist.cons))) (fun _ _ _ h => h.sub (by repeat (first | exact List.Sublist.refl _ | exact List.nil_sublist _ | apply List.Sublist.cons_cons | apply List.Sublist.cons))) (fun _ => (Tr w [] [.row (some bx) 5 1 (min (wordL tabs (expTo tabs key mm i).1 mm (mm + i) (expTo tabs key mm i).2).length (((expTo tabs key mm i).1.drop (4 * i)).take 4).length) (min (wordL tabs (expTo tabs key mm i).1 mm (mm + i) (expTo tabs key mm i).2).length (((expTo tabs key mm i).1.drop (4 * i)).take 4).length) ((xorL (wordL tabs (expTo tabs key mm i).1 mm (mm + i) (expTo tabs key mm i).2) (((expTo tabs key mm i).1.drop (4 * i)).take 4)).map u8), .blk b20 58 [pt tb 0, sl (some g) (mm + i) c2], .blk tb 63 (tabs.map u8)])) (fun _ _ _ h => h) fun b114 hb114 => ?_
            simp only [En.put, List.cons_append, List.nil_append]
            refine G.run 19 (by kernel_rfl) rfl rfl rfl (Ef.appendS (ao := some g) Try.underlying56 rfl el59 rfl (by repeat (first | exact At.head | apply At.tail)) rfl (RdS.blk (by repeat (first | exact List.Mem.head _ | apply List.Mem.tail))) (by rw [List.length_map, xorL_len, hVl, hYl]; rfl) (one_u8 _) (by omega) (by omega) (by omega) (by omega) (fun j hj => by cases hj; exact .inr hg)) ⟨(_, 0), .inr (Nat.le_refl _)⟩ (fun _ h => h.sub (by repeat (first | exact List.Sublist.refl _ | exact List.nil_sublist _ | apply List.Sublist.cons_cons | apply List.Sublist.cons))) (fun _ _ _ h => h.sub (by repeat (first | exact List.Sublist.refl _ | exact List.nil_sublist _ | apply List.Sublist.cons_cons | apply List.Sublist.cons))) (fun _ => (Tr w [] [.row (some bx) 5 1 (min (wordL tabs (expTo tabs key mm i).1 mm (mm + i) (expTo tabs key mm i).2).length (((expTo tabs key mm i).1.drop (4 * i)).take 4).length) (min (wordL tabs (expTo tabs key mm i).1 mm (mm + i) (expTo tabs key mm i).2).length (((expTo tabs key mm i).1.drop (4 * i)).take 4).length) ((xorL (wordL tabs (expTo tabs key mm i).1 mm (mm + i) (expTo tabs key mm i).2) (((expTo tabs key mm i).1.drop (4 * i)).take 4)).map u8), .blk b20 58 [pt tb 0, sl (some g) (mm + i) c2], .blk tb 63 (tabs.map u8)])) (fun _ _ _ h => h) fun p115 hp115 => ?_
            simp only [En.put, List.cons_append, List.nil_append]
            refine G.p 20 (by kernel_rfl) rfl (Yl.nilCheck rfl) ?_
            refine G.p 21 (by kernel_rfl) rfl ((by first | exact Yl.fieldAddrZ fo58_1 rfl | exact Yl.fieldAddr fo58_1 rfl)) ?_
            refine G.last (by kernel_rfl) (fun _ h => h.sub (by repeat (first | exact List.Sublist.refl _ | exact List.nil_sublist _ | apply List.Sublist.cons_cons | apply List.Sublist.cons))) ?_
            refine G0.run 22 (by kernel_rfl) rfl rfl (Ef.store1b sz56 rfl rfl (by repeat (first | exact At.head | apply At.tail)) (by first | decide | (simp; done) | (simp; omega) | omega) rfl (by first | exact .inr (by assumption) | exact .inl (by simp))) ⟨(), trivial⟩ fun _ _ => ?_
            simp only [En.put, List.cons_append, List.nil_append]
            refine G0.done (by kernel_rfl) (hN22 _ _ _ ?_)
            refine n23 _ _ _ ?_
            refine n22 _ _ _ ?_
            refine Wp.region ?_
            refine Ops.v (Yl.mvI rfl) ?_
            refine Ops.v (Yl.add rfl rfl (by omega) (by omega)) ?_
            refine Ops.v (Yl.asI rfl) ?_
            refine Ops.nil ?_
            refine n19 (i + 1, p115.1, p115.2) _ _ ⟨by omega, hp115.resolve_left (by simp)⟩ ⟨119, rfl⟩ rfl rfl (l2 (congrArg iv (by omega)) (congrArg u8 (by simp only [expTo]; first | rw [if_pos hmod] | rw [if_neg hmod]))) (by omega) (fun _ h => by rw [expTo, List.map_append]; exact h.sub (by repeat (first | exact List.Sublist.refl _ | exact List.nil_sublist _ | apply List.Sublist.cons_cons | apply List.Sublist.cons)))
          ·
            try simp only [decide_eq_true_eq, decide_eq_false_iff_not, Bool.not_eq_true, Bool.not_eq_false, Bool.not_true, Bool.not_false, Bool.not_eq_eq_eq_not, ne_eq, Decidable.not_not] at h60
            have hmod : ¬ (mm + i) % mm = 0 := by rw [e4] at h60; exact_mod_cast h60
            refine Wp.seq fun K31 n31 r31 => ?_
            refine Wp.region ?_
            refine Ops.v (Yl.mvI rfl) ?_
            refine Ops.v (Yl.gtr rfl rfl) ?_
            refine Ops.vB (Yl.mvB rfl) (fun hg20_2 => ?_) (fun hg20_2 => ?_)
            ·
              try simp only [decide_eq_true_eq, decide_eq_false_iff_not, Bool.not_eq_true, Bool.not_eq_false, Bool.not_true, Bool.not_false, Bool.not_eq_eq_eq_not, ne_eq, Decidable.not_not] at hg20_2
              refine Ops.guard_val rfl rfl rfl rfl rfl (Yl.mvI rfl) ?_
              refine Ops.guard_val rfl rfl rfl rfl rfl (Yl.mvI rfl) ?_
              refine Ops.guard_val rfl rfl rfl rfl rfl (Yl.rem rfl rfl (by omega) (by omega)) ?_
              refine Ops.guard_val rfl rfl rfl rfl rfl (Yl.eql rfl rfl) ?_
              refine Ops.v (Yl.pick_t rfl (v := .bool _) rfl) ?_
              refine Ops.v (Yl.asB rfl) ?_
              refine Ops.nil ?_
              refine n31 _ _ _ ?_
              refine Wp.cond _ rfl (fun h84 => ?_) (fun h84 => ?_)
              ·
                try simp only [decide_eq_true_eq, decide_eq_false_iff_not, Bool.not_eq_true, Bool.not_eq_false, Bool.not_true, Bool.not_false, Bool.not_eq_eq_eq_not, ne_eq, Decidable.not_not] at h84
                refine Wp.region ?_
                refine Ops.v (Yl.mvP rfl) ?_
                refine Ops.v (Yl.sliceArrD Try.underlying59 sz5 rfl .none (by omega)) ?_
                refine Ops.f (Ef.turns (h := .blk b9 _ _) bd15 rfl (by repeat (first | exact At.head | apply At.tail)) rfl (.inr hb9) (fun wc hw => c___palfrey_aes_Keys__subs wc b20 b9 _ _ tabs wp _ (tabOff hw (by repeat (first | exact List.Mem.head _ | apply List.Mem.tail)) (by repeat (first | exact List.Mem.head _ | apply List.Mem.tail)) tabs_len) (hw.sat _ (by repeat (first | exact List.Mem.head _ | apply List.Mem.tail))) (by rw [hwl]) (by omega))) (by exact ⟨(), trivial, NewH.nil⟩) fun _ _ => ?_
                refine Ops.nil ?_
                refine n26 _ _ _ ?_
                refine n25 _ _ _ ?_
                refine Wp.mono (S' := Tr w [] [.blk b9 59 ((wordL tabs (expTo tabs key mm i).1 mm (mm + i) (expTo tabs key mm i).2).map u8), .row (some g) 59 4 (mm + i) c2 ((expTo tabs key mm i).1.map u8), .blk b20 58 [pt tb 0, sl (some g) (mm + i) c2], .blk tb 63 (tabs.map u8)]) ?_ (fun _ h => by
                    rw [wordL, ← hwp]
                    first
                      | (rw [if_pos hmod, List.map_set]; exact h)
                      | (rw [if_neg hmod, if_pos ⟨by omega, by rw [e4] at h84; exact_mod_cast h84⟩]; exact h)
                      | (rw [if_neg hmod, if_neg (fun hh => by have := hh.2; rw [e4] at h84; exact h84 (by exact_mod_cast this))]; exact h)
                      | (rw [if_neg hmod, if_neg (by omega)]; exact h))
                refine Wp.draw hmix (fun i => [1, 1, 1, 1, 0, 1, 1, 1, 1, 0, 1, 1, 1, 1, 1, 0, 1, 0, 0, 0, 1, 1, 2].getD i 0) ((Tr w [] [.blk b20 58 [pt tb 0, sl (some g) (mm + i) c2], .blk tb 63 (tabs.map u8)])) (fun _ h => h.drawn _) fun N22 hN22 => ?_
                refine G.p 0 (by kernel_rfl) rfl (Yl.mvP rfl) ?_
                refine G.p 1 (by kernel_rfl) rfl (Yl.mvP rfl) ?_
                refine G.p 2 (by kernel_rfl) rfl (Yl.nilCheck rfl) ?_
                refine G.p 3 (by kernel_rfl) rfl ((by first | exact Yl.fieldAddrZ fo58_1 rfl | exact Yl.fieldAddr fo58_1 rfl)) ?_
                refine G.t 4 (by kernel_rfl) rfl (Yl.load1z na56 rfl (by first | exact Rd.blk (by repeat (first | exact List.Mem.head _ | apply List.Mem.tail)) | exact Rd.row (by repeat (first | exact List.Mem.head _ | apply List.Mem.tail)) | assumption) (by first | rfl | exact getmap (by omega) | assumption)) ?_
                refine G.p 5 (by kernel_rfl) rfl (Yl.sliceArrD Try.underlying59 sz5 rfl .none (by omega)) ?_
                refine G.p 6 (by kernel_rfl) rfl (Yl.mvP rfl) ?_
                refine G.p 7 (by kernel_rfl) rfl (Yl.nilCheck rfl) ?_
                refine G.p 8 (by kernel_rfl) rfl ((by first | exact Yl.fieldAddrZ fo58_1 rfl | exact Yl.fieldAddr fo58_1 rfl)) ?_
                refine G.t 9 (by kernel_rfl) rfl (Yl.load1z na56 rfl (by first | exact Rd.blk (by repeat (first | exact List.Mem.head _ | apply List.Mem.tail)) | exact Rd.row (by repeat (first | exact List.Mem.head _ | apply List.Mem.tail)) | assumption) (by first | rfl | exact getmap (by omega) | assumption)) ?_
                refine G.p 10 (by kernel_rfl) rfl (Yl.mvI rfl) ?_
                refine G.p 11 (by kernel_rfl) rfl (Yl.mvI rfl) ?_
                refine G.p 12 (by kernel_rfl) rfl (Yl.sub rfl rfl (by omega) (by omega)) ?_
                refine G.p 13 (by kernel_rfl) rfl (Yl.indexSlice Try.underlying56 sz59 rfl rfl i (by omega) (by omega)) ?_
                refine G.p 14 (by kernel_rfl) rfl (Yl.sliceArrO Try.underlying59 sz5 rfl (by omega)) ?_
                refine G.run 15 (by kernel_rfl) rfl rfl rfl (Ef.makes bd20 rfl (fun wc hw => c_palfrey_bits_Xor wc _ _ (wordL tabs (expTo tabs key mm i).1 mm (mm + i) (expTo tabs key mm i).2) (((expTo tabs key mm i).1.drop (4 * i)).take 4) _ _ _ _ (hw.rwBlk (by repeat (first | exact List.Mem.head _ | apply List.Mem.tail))) (by rw [List.map_take, List.map_drop, Nat.mul_comm i 4]; exact ((hw.rwRow (ao := some g) (by repeat (first | exact List.Mem.head _ | apply List.Mem.tail))).drop (4 * i)).take 4) (by rw [hVl]) (by rw [hYl]) (by omega))) (by exact ⟨_, trivial, NewH.row1 (Nat.le_refl _) NewH.nil⟩) (fun _ h => h.sub (by repeat (first | exact List.Sublist.refl _ | exact List.nil_sublist _ | apply List.Sublist.cons_cons | apply List.Sublist.cons))) (fun _ _ _ h => h.sub (by repeat (first | exact List.Sublist.refl _ | exact List.nil_sublist _ | apply List.Sublist.cons_cons | apply List.Sublist.cons))) (fun bx => (Tr w [] [.row (some bx) 5 1 (min (wordL tabs (expTo tabs key mm i).1 mm (mm + i) (expTo tabs key mm i).2).length (((expTo tabs key mm i).1.drop (4 * i)).take 4).length) (min (wordL tabs (expTo tabs key mm i).1 mm (mm + i) (expTo tabs key mm i).2).length (((expTo tabs key mm i).1.drop (4 * i)).take 4).length) ((xorL (wordL tabs (expTo tabs key mm i).1 mm (mm + i) (expTo tabs key mm i).2) (((expTo tabs key mm i).1.drop (4 * i)).take 4)).map u8), .blk b20 58 [pt tb 0, sl (some g) (mm + i) c2], .blk tb 63 (tabs.map u8)])) (fun _ _ _ h => h.sub (by repeat (first | exact List.Sublist.refl _ | exact List.nil_sublist _ | apply List.Sublist.cons_cons | apply List.Sublist.cons))) fun bx hbx => ?_
                simp only [En.put, List.cons_append, List.nil_append]
                refine G.p 16 (by kernel_rfl) rfl (Yl.s2ap Try.underlying59 rfl (by omega)) ?_
                refine G.t 17 (by kernel_rfl) rfl (Yl.loadAz ag59 rfl (Rd.row (by repeat (first | exact List.Mem.head _ | apply List.Mem.tail))) (by rw [List.length_map, xorL_len, hVl, hYl]; rfl)) ?_
                refine G.run 18 (by kernel_rfl) rfl rfl rfl (Ef.buildSlice1 Try.underlying56 el59 (by omega) (by omega) rfl (by rw [List.length_map, xorL_len, hVl, hYl]; rfl)) (New.ex _) (fun _ h => h.sub (by repeat (first | exact List.Sublist.refl _ | exact List.nil_sublist _ | apply List.Sublist.cons_cons | apply List.Sublist.cons))) (fun _ _ _ h => h.sub (by repeat (first | exact List.Sublist.refl _ | exact List.nil_sublist _ | apply List.Sublist.cons_cons | apply List.Sublist.cons))) (fun _ => (Tr w [] [.row (some bx) 5 1 (min (wordL tabs (expTo tabs key mm i).1 mm (mm + i) (expTo tabs key mm i).2).length (((expTo tabs key mm i).1.drop (4 * i)).take 4).length) (min (wordL tabs (expTo tabs key mm i).1 mm (mm + i) (expTo tabs key mm i).2).length (((expTo tabs key mm i).1.drop (4 * i)).take 4).length) ((xorL (wordL tabs (expTo tabs key mm i).1 mm (mm + i) (expTo tabs key mm i).2) (((expTo tabs key mm i).1.drop (4 * i)).take 4)).map u8), .blk b20 58 [pt tb 0, sl (some g) (mm + i) c2], .blk tb 63 (tabs.map u8)])) (fun _ _ _ h => h) fun b114 hb114 => ?_
                simp only [En.put, List.cons_append, List.nil_append]
                refine G.run 19 (by kernel_rfl) rfl rfl rfl (Ef.appendS (ao := some g) Try.underlying56 rfl el59 rfl (by repeat (first | exact At.head | apply At.tail)) rfl (RdS.blk (by repeat (first | exact List.Mem.head _ | apply List.Mem.tail))) (by rw [List.length_map, xorL_len, hVl, hYl]; rfl) (one_u8 _) (by omega) (by omega) (by omega) (by omega) (fun j hj => by cases hj; exact .inr hg)) ⟨(_, 0), .inr (Nat.le_refl _)⟩ (fun _ h => h.sub (by repeat (first | exact List.Sublist.refl _ | exact List.nil_sublist _ | apply List.Sublist.cons_cons | apply List.Sublist.cons))) (fun _ _ _ h => h.sub (by repeat (first | exact List.Sublist.refl _ | exact List.nil_sublist _ | apply List.Sublist.cons_cons | apply List.Sublist.cons))) (fun _ => (Tr w [] [.row (some bx) 5 1 (min (wordL tabs (expTo tabs key mm i).1 mm (mm + i) (expTo tabs key mm i).2).length (((expTo tabs key mm i).1.drop (4 * i)).take 4).length) (min (wordL tabs (expTo tabs key mm i).1 mm (mm + i) (expTo tabs key mm i).2).length (((expTo tabs key mm i).1.drop (4 * i)).take 4).length) ((xorL (wordL tabs (expTo tabs key mm i).1 mm (mm + i) (expTo tabs key mm i).2) (((expTo tabs key mm i).1.drop (4 * i)).take 4)).map u8), .blk b20 58 [pt tb 0, sl (some g) (mm + i) c2], .blk tb 63 (tabs.map u8)])) (fun _ _ _ h => h) fun p115 hp115 => ?_
                simp only [En.put, List.cons_append, List.nil_append]
                refine G.p 20 (by kernel_rfl) rfl (Yl.nilCheck rfl) ?_
                refine G.p 21 (by kernel_rfl) rfl ((by first | exact Yl.fieldAddrZ fo58_1 rfl | exact Yl.fieldAddr fo58_1 rfl)) ?_
                refine G.last (by kernel_rfl) (fun _ h => h.sub (by repeat (first | exact List.Sublist.refl _ | exact List.nil_sublist _ | apply List.Sublist.cons_cons | apply List.Sublist.cons))) ?_
                refine G0.run 22 (by kernel_rfl) rfl rfl (Ef.store1b sz56 rfl rfl (by repeat (first | exact At.head | apply At.tail)) (by first | decide | (simp; done) | (simp; omega) | omega) rfl (by first | exact .inr (by assumption) | exact .inl (by simp))) ⟨(), trivial⟩ fun _ _ => ?_
                simp only [En.put, List.cons_append, List.nil_append]
                refine G0.done (by kernel_rfl) (hN22 _ _ _ ?_)
                refine n23 _ _ _ ?_
                refine n22 _ _ _ ?_
                refine Wp.region ?_
                refine Ops.v (Yl.mvI rfl) ?_
                refine Ops.v (Yl.add rfl rfl (by omega) (by omega)) ?_
                refine Ops.v (Yl.asI rfl) ?_
                refine Ops.nil ?_
                refine n19 (i + 1, p115.1, p115.2) _ _ ⟨by omega, hp115.resolve_left (by simp)⟩ ⟨119, rfl⟩ rfl rfl (l2 (congrArg iv (by omega)) (congrArg u8 (by simp only [expTo]; first | rw [if_pos hmod] | rw [if_neg hmod]))) (by omega) (fun _ h => by rw [expTo, List.map_append]; exact h.sub (by repeat (first | exact List.Sublist.refl _ | exact List.nil_sublist _ | apply List.Sublist.cons_cons | apply List.Sublist.cons)))
              ·
                try simp only [decide_eq_true_eq, decide_eq_false_iff_not, Bool.not_eq_true, Bool.not_eq_false, Bool.not_true, Bool.not_false, Bool.not_eq_eq_eq_not, ne_eq, Decidable.not_not] at h84
                refine Wp.skip ?_
                refine n26 _ _ _ ?_
                refine n25 _ _ _ ?_
                refine Wp.mono (S' := Tr w [] [.blk b9 59 ((wordL tabs (expTo tabs key mm i).1 mm (mm + i) (expTo tabs key mm i).2).map u8), .row (some g) 59 4 (mm + i) c2 ((expTo tabs key mm i).1.map u8), .blk b20 58 [pt tb 0, sl (some g) (mm + i) c2], .blk tb 63 (tabs.map u8)]) ?_ (fun _ h => by
                    rw [wordL, ← hwp]
                    first
                      | (rw [if_pos hmod, List.map_set]; exact h)
                      | (rw [if_neg hmod, if_pos ⟨by omega, by rw [e4] at h84; exact_mod_cast h84⟩]; exact h)
                      | (rw [if_neg hmod, if_neg (fun hh => by have := hh.2; rw [e4] at h84; exact h84 (by exact_mod_cast this))]; exact h)
                      | (rw [if_neg hmod, if_neg (by omega)]; exact h))
                refine Wp.draw hmix (fun i => [1, 1, 1, 1, 0, 1, 1, 1, 1, 0, 1, 1, 1, 1, 1, 0, 1, 0, 0, 0, 1, 1, 2].getD i 0) ((Tr w [] [.blk b20 58 [pt tb 0, sl (some g) (mm + i) c2], .blk tb 63 (tabs.map u8)])) (fun _ h => h.drawn _) fun N22 hN22 => ?_
                refine G.p 0 (by kernel_rfl) rfl (Yl.mvP rfl) ?_
                refine G.p 1 (by kernel_rfl) rfl (Yl.mvP rfl) ?_
                refine G.p 2 (by kernel_rfl) rfl (Yl.nilCheck rfl) ?_
                refine G.p 3 (by kernel_rfl) rfl ((by first | exact Yl.fieldAddrZ fo58_1 rfl | exact Yl.fieldAddr fo58_1 rfl)) ?_
                refine G.t 4 (by kernel_rfl) rfl (Yl.load1z na56 rfl (by first | exact Rd.blk (by repeat (first | exact List.Mem.head _ | apply List.Mem.tail)) | exact Rd.row (by repeat (first | exact List.Mem.head _ | apply List.Mem.tail)) | assumption) (by first | rfl | exact getmap (by omega) | assumption)) ?_
                refine G.p 5 (by kernel_rfl) rfl (Yl.sliceArrD Try.underlying59 sz5 rfl .none (by omega)) ?_
                refine G.p 6 (by kernel_rfl) rfl (Yl.mvP rfl) ?_
                refine G.p 7 (by kernel_rfl) rfl (Yl.nilCheck rfl) ?_
                refine G.p 8 (by kernel_rfl) rfl ((by first | exact Yl.fieldAddrZ fo58_1 rfl | exact Yl.fieldAddr fo58_1 rfl)) ?_
                refine G.t 9 (by kernel_rfl) rfl (Yl.load1z na56 rfl (by first | exact Rd.blk (by repeat (first | exact List.Mem.head _ | apply List.Mem.tail)) | exact Rd.row (by repeat (first | exact List.Mem.head _ | apply List.Mem.tail)) | assumption) (by first | rfl | exact getmap (by omega) | assumption)) ?_
                refine G.p 10 (by kernel_rfl) rfl (Yl.mvI rfl) ?_
                refine G.p 11 (by kernel_rfl) rfl (Yl.mvI rfl) ?_
                refine G.p 12 (by kernel_rfl) rfl (Yl.sub rfl rfl (by omega) (by omega)) ?_
                refine G.p 13 (by kernel_rfl) rfl (Yl.indexSlice Try.underlying56 sz59 rfl rfl i (by omega) (by omega)) ?_
                refine G.p 14 (by kernel_rfl) rfl (Yl.sliceArrO Try.underlying59 sz5 rfl (by omega)) ?_
                refine G.run 15 (by kernel_rfl) rfl rfl rfl (Ef.makes bd20 rfl (fun wc hw => c_palfrey_bits_Xor wc _ _ (wordL tabs (expTo tabs key mm i).1 mm (mm + i) (expTo tabs key mm i).2) (((expTo tabs key mm i).1.drop (4 * i)).take 4) _ _ _ _ (hw.rwBlk (by repeat (first | exact List.Mem.head _ | apply List.Mem.tail))) (by rw [List.map_take, List.map_drop, Nat.mul_comm i 4]; exact ((hw.rwRow (ao := some g) (by repeat (first | exact List.Mem.head _ | apply List.Mem.tail))).drop (4 * i)).take 4) (by rw [hVl]) (by rw [hYl]) (by omega))) (by exact ⟨_, trivial, NewH.row1 (Nat.le_refl _) NewH.nil⟩) (fun _ h => h.sub (by repeat (first | exact List.Sublist.refl _ | exact List.nil_sublist _ | apply List.Sublist.cons_cons | apply List.Sublist.cons))) (fun _ _ _ h => h.sub (by repeat (first | exact List.Sublist.refl _ | exact List.nil_sublist _ | apply List.Sublist.cons_cons | apply List.Sublist.cons))) (fun bx => (Tr w [] [.row (some bx) 5 1 (min (wordL tabs (expTo tabs key mm i).1 mm (mm + i) (expTo tabs key mm i).2).length (((expTo tabs key mm i).1.drop (4 * i)).take 4).length) (min (wordL tabs (expTo tabs key mm i).1 mm (mm + i) (expTo tabs key mm i).2).length (((expTo tabs key mm i).1.drop (4 * i)).take 4).length) ((xorL (wordL tabs (expTo tabs key mm i).1 mm (mm + i) (expTo tabs key mm i).2) (((expTo tabs key mm i).1.drop (4 * i)).take 4)).map u8), .blk b20 58 [pt tb 0, sl (some g) (mm + i) c2], .blk tb 63 (tabs.map u8)])) (fun _ _ _ h => h.sub (by repeat (first | exact List.Sublist.refl _ | exact List.nil_sublist _ | apply List.Sublist.cons_cons | apply List.Sublist.cons))) fun bx hbx => ?_
                simp only [En.put, List.cons_append, List.nil_append]
                refine G.p 16 (by kernel_rfl) rfl (Yl.s2ap Try.underlying59 rfl (by omega)) ?_
                refine G.t 17 (by kernel_rfl) rfl (Yl.loadAz ag59 rfl (Rd.row (by repeat (first | exact List.Mem.head _ | apply List.Mem.tail))) (by rw [List.length_map, xorL_len, hVl, hYl]; rfl)) ?_
                refine G.run 18 (by kernel_rfl) rfl rfl rfl (Ef.buildSlice1 Try.underlying56 el59 (by omega) (by omega) rfl (by rw [List.length_map, xorL_len, hVl, hYl]; rfl)) (New.ex _) (fun _ h => h.sub (by repeat (first | exact List.Sublist.refl _ | exact List.nil_sublist _ | apply List.Sublist.cons_cons | apply List.Sublist.cons))) (fun _ _ _ h => h.sub (by repeat (first | exact List.Sublist.refl _ | exact List.nil_sublist _ | apply List.Sublist.cons_cons | apply List.Sublist.cons))) (fun _ => (Tr w [] [.row (some bx) 5 1 (min (wordL tabs (expTo tabs key mm i).1 mm (mm + i) (expTo tabs key mm i).2).length (((expTo tabs key mm i).1.drop (4 * i)).take 4).length) (min (wordL tabs (expTo tabs key mm i).1 mm (mm + i) (expTo tabs key mm i).2).length (((expTo tabs key mm i).1.drop (4 * i)).take 4).length) ((xorL (wordL tabs (expTo tabs key mm i).1 mm (mm + i) (expTo tabs key mm i).2) (((expTo tabs key mm i).1.drop (4 * i)).take 4)).map u8), .blk b20 58 [pt tb 0, sl (some g) (mm + i) c2], .blk tb 63 (tabs.map u8)])) (fun _ _ _ h => h) fun b114 hb114 => ?_
                simp only [En.put, List.cons_append, List.nil_append]
                refine G.run 19 (by kernel_rfl) rfl rfl rfl (Ef.appendS (ao := some g) Try.underlying56 rfl el59 rfl (by repeat (first | exact At.head | apply At.tail)) rfl (RdS.blk (by repeat (first | exact List.Mem.head _ | apply List.Mem.tail))) (by rw [List.length_map, xorL_len, hVl, hYl]; rfl) (one_u8 _) (by omega) (by omega) (by omega) (by omega) (fun j hj => by cases hj; exact .inr hg)) ⟨(_, 0), .inr (Nat.le_refl _)⟩ (fun _ h => h.sub (by repeat (first | exact List.Sublist.refl _ | exact List.nil_sublist _ | apply List.Sublist.cons_cons | apply List.Sublist.cons))) (fun _ _ _ h => h.sub (by repeat (first | exact List.Sublist.refl _ | exact List.nil_sublist _ | apply List.Sublist.cons_cons | apply List.Sublist.cons))) (fun _ => (Tr w [] [.row (some bx) 5 1 (min (wordL tabs (expTo tabs key mm i).1 mm (mm + i) (expTo tabs key mm i).2).length (((expTo tabs key mm i).1.drop (4 * i)).take 4).length) (min (wordL tabs (expTo tabs key mm i).1 mm (mm + i) (expTo tabs key mm i).2).length (((expTo tabs key mm i).1.drop (4 * i)).take 4).length) ((xorL (wordL tabs (expTo tabs key mm i).1 mm (mm + i) (expTo tabs key mm i).2) (((expTo tabs key mm i).1.drop (4 * i)).take 4)).map u8), .blk b20 58 [pt tb 0, sl (some g) (mm + i) c2], .blk tb 63 (tabs.map u8)])) (fun _ _ _ h => h) fun p115 hp115 => ?_
                simp only [En.put, List.cons_append, List.nil_append]
                refine G.p 20 (by kernel_rfl) rfl (Yl.nilCheck rfl) ?_
                refine G.p 21 (by kernel_rfl) rfl ((by first | exact Yl.fieldAddrZ fo58_1 rfl | exact Yl.fieldAddr fo58_1 rfl)) ?_
                refine G.last (by kernel_rfl) (fun _ h => h.sub (by repeat (first | exact List.Sublist.refl _ | exact List.nil_sublist _ | apply List.Sublist.cons_cons | apply List.Sublist.cons))) ?_
                refine G0.run 22 (by kernel_rfl) rfl rfl (Ef.store1b sz56 rfl rfl (by repeat (first | exact At.head | apply At.tail)) (by first | decide | (simp; done) | (simp; omega) | omega) rfl (by first | exact .inr (by assumption) | exact .inl (by simp))) ⟨(), trivial⟩ fun _ _ => ?_
                simp only [En.put, List.cons_append, List.nil_append]
                refine G0.done (by kernel_rfl) (hN22 _ _ _ ?_)
                refine n23 _ _ _ ?_
                refine n22 _ _ _ ?_
                refine Wp.region ?_
                refine Ops.v (Yl.mvI rfl) ?_
                refine Ops.v (Yl.add rfl rfl (by omega) (by omega)) ?_
                refine Ops.v (Yl.asI rfl) ?_
                refine Ops.nil ?_
                refine n19 (i + 1, p115.1, p115.2) _ _ ⟨by omega, hp115.resolve_left (by simp)⟩ ⟨119, rfl⟩ rfl rfl (l2 (congrArg iv (by omega)) (congrArg u8 (by simp only [expTo]; first | rw [if_pos hmod] | rw [if_neg hmod]))) (by omega) (fun _ h => by rw [expTo, List.map_append]; exact h.sub (by repeat (first | exact List.Sublist.refl _ | exact List.nil_sublist _ | apply List.Sublist.cons_cons | apply List.Sublist.cons)))
            ·
              try simp only [decide_eq_true_eq, decide_eq_false_iff_not, Bool.not_eq_true, Bool.not_eq_false, Bool.not_true, Bool.not_false, Bool.not_eq_eq_eq_not, ne_eq, Decidable.not_not] at hg20_2
              refine Ops.guard_no rfl rfl rfl rfl rfl ?_
              refine Ops.guard_no rfl rfl rfl rfl rfl ?_
              refine Ops.guard_no rfl rfl rfl rfl rfl ?_
              refine Ops.guard_no rfl rfl rfl rfl rfl ?_
              refine Ops.v (Yl.pick_f rfl (v := .bool _) rfl) ?_
              refine Ops.v (Yl.asB rfl) ?_
              refine Ops.nil ?_
              refine n31 _ _ _ ?_
              refine Wp.cond_f rfl ?_
              refine Wp.skip ?_
              refine n26 _ _ _ ?_
              refine n25 _ _ _ ?_
              refine Wp.mono (S' := Tr w [] [.blk b9 59 ((wordL tabs (expTo tabs key mm i).1 mm (mm + i) (expTo tabs key mm i).2).map u8), .row (some g) 59 4 (mm + i) c2 ((expTo tabs key mm i).1.map u8), .blk b20 58 [pt tb 0, sl (some g) (mm + i) c2], .blk tb 63 (tabs.map u8)]) ?_ (fun _ h => by
                  rw [wordL, ← hwp]
                  first
                    | (rw [if_pos hmod, List.map_set]; exact h)
                    | (rw [if_neg hmod, if_pos ⟨by omega, by rw [e4] at h84; exact_mod_cast h84⟩]; exact h)
                    | (rw [if_neg hmod, if_neg (fun hh => by have := hh.2; rw [e4] at h84; exact h84 (by exact_mod_cast this))]; exact h)
                    | (rw [if_neg hmod, if_neg (by omega)]; exact h))
              refine Wp.draw hmix (fun i => [1, 1, 1, 1, 0, 1, 1, 1, 1, 0, 1, 1, 1, 1, 1, 0, 1, 0, 0, 0, 1, 1, 2].getD i 0) ((Tr w [] [.blk b20 58 [pt tb 0, sl (some g) (mm + i) c2], .blk tb 63 (tabs.map u8)])) (fun _ h => h.drawn _) fun N22 hN22 => ?_
              refine G.p 0 (by kernel_rfl) rfl (Yl.mvP rfl) ?_
              refine G.p 1 (by kernel_rfl) rfl (Yl.mvP rfl) ?_
              refine G.p 2 (by kernel_rfl) rfl (Yl.nilCheck rfl) ?_
              refine G.p 3 (by kernel_rfl) rfl ((by first | exact Yl.fieldAddrZ fo58_1 rfl | exact Yl.fieldAddr fo58_1 rfl)) ?_
              refine G.t 4 (by kernel_rfl) rfl (Yl.load1z na56 rfl (by first | exact Rd.blk (by repeat (first | exact List.Mem.head _ | apply List.Mem.tail)) | exact Rd.row (by repeat (first | exact List.Mem.head _ | apply List.Mem.tail)) | assumption) (by first | rfl | exact getmap (by omega) | assumption)) ?_
              refine G.p 5 (by kernel_rfl) rfl (Yl.sliceArrD Try.underlying59 sz5 rfl .none (by omega)) ?_
              refine G.p 6 (by kernel_rfl) rfl (Yl.mvP rfl) ?_
              refine G.p 7 (by kernel_rfl) rfl (Yl.nilCheck rfl) ?_
              refine G.p 8 (by kernel_rfl) rfl ((by first | exact Yl.fieldAddrZ fo58_1 rfl | exact Yl.fieldAddr fo58_1 rfl)) ?_
              refine G.t 9 (by kernel_rfl) rfl (Yl.load1z na56 rfl (by first | exact Rd.blk (by repeat (first | exact List.Mem.head _ | apply List.Mem.tail)) | exact Rd.row (by repeat (first | exact List.Mem.head _ | apply List.Mem.tail)) | assumption) (by first | rfl | exact getmap (by omega) | assumption)) ?_
              refine G.p 10 (by kernel_rfl) rfl (Yl.mvI rfl) ?_
              refine G.p 11 (by kernel_rfl) rfl (Yl.mvI rfl) ?_
              refine G.p 12 (by kernel_rfl) rfl (Yl.sub rfl rfl (by omega) (by omega)) ?_
              refine G.p 13 (by kernel_rfl) rfl (Yl.indexSlice Try.underlying56 sz59 rfl rfl i (by omega) (by omega)) ?_
              refine G.p 14 (by kernel_rfl) rfl (Yl.sliceArrO Try.underlying59 sz5 rfl (by omega)) ?_
              refine G.run 15 (by kernel_rfl) rfl rfl rfl (Ef.makes bd20 rfl (fun wc hw => c_palfrey_bits_Xor wc _ _ (wordL tabs (expTo tabs key mm i).1 mm (mm + i) (expTo tabs key mm i).2) (((expTo tabs key mm i).1.drop (4 * i)).take 4) _ _ _ _ (hw.rwBlk (by repeat (first | exact List.Mem.head _ | apply List.Mem.tail))) (by rw [List.map_take, List.map_drop, Nat.mul_comm i 4]; exact ((hw.rwRow (ao := some g) (by repeat (first | exact List.Mem.head _ | apply List.Mem.tail))).drop (4 * i)).take 4) (by rw [hVl]) (by rw [hYl]) (by omega))) (by exact ⟨_, trivial, NewH.row1 (Nat.le_refl _) NewH.nil⟩) (fun _ h => h.sub (by repeat (first | exact List.Sublist.refl _ | exact List.nil_sublist _ | apply List.Sublist.cons_cons | apply List.Sublist.cons))) (fun _ _ _ h => h.sub (by repeat (first | exact List.Sublist.refl _ | exact List.nil_sublist _ | apply List.Sublist.cons_cons | apply List.Sublist.cons))) (fun bx => (Tr w [] [.row (some bx) 5 1 (min (wordL tabs (expTo tabs key mm i).1 mm (mm + i) (expTo tabs key mm i).2).length (((expTo tabs key mm i).1.drop (4 * i)).take 4).length) (min (wordL tabs (expTo tabs key mm i).1 mm (mm + i) (expTo tabs key mm i).2).length (((expTo tabs key mm i).1.drop (4 * i)).take 4).length) ((xorL (wordL tabs (expTo tabs key mm i).1 mm (mm + i) (expTo tabs key mm i).2) (((expTo tabs key mm i).1.drop (4 * i)).take 4)).map u8), .blk b20 58 [pt tb 0, sl (some g) (mm + i) c2], .blk tb 63 (tabs.map u8)])) (fun _ _ _ h => h.sub (by repeat (first | exact List.Sublist.refl _ | exact List.nil_sublist _ | apply List.Sublist.cons_cons | apply List.Sublist.cons))) fun bx hbx => ?_
              simp only [En.put, List.cons_append, List.nil_append]
              refine G.p 16 (by kernel_rfl) rfl (Yl.s2ap Try.underlying59 rfl (by omega)) ?_
              refine G.t 17 (by kernel_rfl) rfl (Yl.loadAz ag59 rfl (Rd.row (by repeat (first | exact List.Mem.head _ | apply List.Mem.tail))) (by rw [List.length_map, xorL_len, hVl, hYl]; rfl)) ?_
              refine G.run 18 (by kernel_rfl) rfl rfl rfl (Ef.buildSlice1 Try.underlying56 el59 (by omega) (by omega) rfl (by rw [List.length_map, xorL_len, hVl, hYl]; rfl)) (New.ex _) (fun _ h => h.sub (by repeat (first | exact List.Sublist.refl _ | exact List.nil_sublist _ | apply List.Sublist.cons_cons | apply List.Sublist.cons))) (fun _ _ _ h => h.sub (by repeat (first | exact List.Sublist.refl _ | exact List.nil_sublist _ | apply List.Sublist.cons_cons | apply List.Sublist.cons))) (fun _ => (Tr w [] [.row (some bx) 5 1 (min (wordL tabs (expTo tabs key mm i).1 mm (mm + i) (expTo tabs key mm i).2).length (((expTo tabs key mm i).1.drop (4 * i)).take 4).length) (min (wordL tabs (expTo tabs key mm i).1 mm (mm + i) (expTo tabs key mm i).2).length (((expTo tabs key mm i).1.drop (4 * i)).take 4).length) ((xorL (wordL tabs (expTo tabs key mm i).1 mm (mm + i) (expTo tabs key mm i).2) (((expTo tabs key mm i).1.drop (4 * i)).take 4)).map u8), .blk b20 58 [pt tb 0, sl (some g) (mm + i) c2], .blk tb 63 (tabs.map u8)])) (fun _ _ _ h => h) fun b114 hb114 => ?_
              simp only [En.put, List.cons_append, List.nil_append]
              refine G.run 19 (by kernel_rfl) rfl rfl rfl (Ef.appendS (ao := some g) Try.underlying56 rfl el59 rfl (by repeat (first | exact At.head | apply At.tail)) rfl (RdS.blk (by repeat (first | exact List.Mem.head _ | apply List.Mem.tail))) (by rw [List.length_map, xorL_len, hVl, hYl]; rfl) (one_u8 _) (by omega) (by omega) (by omega) (by omega) (fun j hj => by cases hj; exact .inr hg)) ⟨(_, 0), .inr (Nat.le_refl _)⟩ (fun _ h => h.sub (by repeat (first | exact List.Sublist.refl _ | exact List.nil_sublist _ | apply List.Sublist.cons_cons | apply List.Sublist.cons))) (fun _ _ _ h => h.sub (by repeat (first | exact List.Sublist.refl _ | exact List.nil_sublist _ | apply List.Sublist.cons_cons | apply List.Sublist.cons))) (fun _ => (Tr w [] [.row (some bx) 5 1 (min (wordL tabs (expTo tabs key mm i).1 mm (mm + i) (expTo tabs key mm i).2).length (((expTo tabs key mm i).1.drop (4 * i)).take 4).length) (min (wordL tabs (expTo tabs key mm i).1 mm (mm + i) (expTo tabs key mm i).2).length (((expTo tabs key mm i).1.drop (4 * i)).take 4).length) ((xorL (wordL tabs (expTo tabs key mm i).1 mm (mm + i) (expTo tabs key mm i).2) (((expTo tabs key mm i).1.drop (4 * i)).take 4)).map u8), .blk b20 58 [pt tb 0, sl (some g) (mm + i) c2], .blk tb 63 (tabs.map u8)])) (fun _ _ _ h => h) fun p115 hp115 => ?_
              simp only [En.put, List.cons_append, List.nil_append]
              refine G.p 20 (by kernel_rfl) rfl (Yl.nilCheck rfl) ?_
              refine G.p 21 (by kernel_rfl) rfl ((by first | exact Yl.fieldAddrZ fo58_1 rfl | exact Yl.fieldAddr fo58_1 rfl)) ?_
              refine G.last (by kernel_rfl) (fun _ h => h.sub (by repeat (first | exact List.Sublist.refl _ | exact List.nil_sublist _ | apply List.Sublist.cons_cons | apply List.Sublist.cons))) ?_
              refine G0.run 22 (by kernel_rfl) rfl rfl (Ef.store1b sz56 rfl rfl (by repeat (first | exact At.head | apply At.tail)) (by first | decide | (simp; done) | (simp; omega) | omega) rfl (by first | exact .inr (by assumption) | exact .inl (by simp))) ⟨(), trivial⟩ fun _ _ => ?_
              simp only [En.put, List.cons_append, List.nil_append]
              refine G0.done (by kernel_rfl) (hN22 _ _ _ ?_)
              refine n23 _ _ _ ?_
              refine n22 _ _ _ ?_
              refine Wp.region ?_
              refine Ops.v (Yl.mvI rfl) ?_
              refine Ops.v (Yl.add rfl rfl (by omega) (by omega)) ?_
              refine Ops.v (Yl.asI rfl) ?_
              refine Ops.nil ?_
              refine n19 (i + 1, p115.1, p115.2) _ _ ⟨by omega, hp115.resolve_left (by simp)⟩ ⟨119, rfl⟩ rfl rfl (l2 (congrArg iv (by omega)) (congrArg u8 (by simp only [expTo]; first | rw [if_pos hmod] | rw [if_neg hmod]))) (by omega) (fun _ h => by rw [expTo, List.map_append]; exact h.sub (by repeat (first | exact List.Sublist.refl _ | exact List.nil_sublist _ | apply List.Sublist.cons_cons | apply List.Sublist.cons)))
        ·
          try simp only [decide_eq_true_eq, decide_eq_false_iff_not, Bool.not_eq_true, Bool.not_eq_false, Bool.not_true, Bool.not_false, Bool.not_eq_eq_eq_not, ne_eq, Decidable.not_not] at h49
          refine Wp.exit ?_
          refine r20 _ _ _ _ (by simp) ?_
          refine r19 _ _ _ _ (by simp) ?_
          refine x18 _ _ _ ?_
          refine n16 _ _ _ ?_
          refine Wp.seq fun K32 n32 r32 => ?_
          refine Wp.region ?_
          refine Ops.v (Yl.mvP rfl) ?_
          refine Ops.v (Yl.asP rfl) ?_
          refine Ops.v (Yl.asI rfl) ?_
          refine Ops.nil ?_
          refine n32 _ _ _ ?_
          refine Wp.ret ?_
          refine (hK _ _ _ ⟨119, rfl⟩ (Res.two ⟨119, rfl⟩ rfl rfl rfl) ?_).1
          obtain rfl : i = 3 * mm + 28 := by omega
          exact fun w' h => ⟨(b20, tb, g, c2), trivial, NewH.row1 hg (NewH.blk hb20 (NewH.blk (htb.2.hd _ rfl) NewH.nil)), rfl, by simp only [expandL, e5, show 4 * (mm + 7) = mm + (3 * mm + 28) from by omega]; exact h⟩
  ·
    try simp only [decide_eq_true_eq, decide_eq_false_iff_not, Bool.not_eq_true, Bool.not_eq_false, Bool.not_true, Bool.not_false, Bool.not_eq_eq_eq_not, ne_eq, Decidable.not_not] at hg1_3
    refine Ops.guard_no rfl rfl rfl rfl rfl ?_
    refine Ops.guard_no rfl rfl rfl rfl rfl ?_
    refine Ops.guard_no rfl rfl rfl rfl rfl ?_
    refine Ops.v (Yl.pick_f rfl (v := .bool _) rfl) ?_
    refine Ops.nil ?_
    refine n3 _ _ _ ?_
    refine Wp.cond _ rfl (fun h17 => ?_) (fun h17 => ?_)
    ·
      try simp only [decide_eq_true_eq, decide_eq_false_iff_not, Bool.not_eq_true, Bool.not_eq_false, Bool.not_true, Bool.not_false, Bool.not_eq_eq_eq_not, ne_eq, Decidable.not_not] at h17
      all_goals first | omega | (simp at h17; done)
    ·
      try simp only [decide_eq_true_eq, decide_eq_false_iff_not, Bool.not_eq_true, Bool.not_eq_false, Bool.not_true, Bool.not_false, Bool.not_eq_eq_eq_not, ne_eq, Decidable.not_not] at h17
      refine Wp.skip ?_
      refine n2 _ _ _ ?_
      refine Wp.seq fun K33 n33 r33 => ?_
      refine Wp.region ?_
      refine Ops.f (Ef.makes bd25 rfl (fun wc hw => c_palfrey_aes_made wc)) (by exact ⟨_, trivial, NewH.blk (Nat.le_refl _) NewH.nil⟩) fun tb htb => ?_
      refine Ops.v (Yl.buildS' (r := [_, _]) pl58 zo58 rfl) ?_
      refine Ops.f (Ef.boxA rfl) (New.ex _) fun b20 hb20 => ?_
      refine Ops.v (Yl.asP rfl) ?_
      refine Ops.nil ?_
      refine n33 _ _ _ ?_
      refine Wp.seq fun K34 n34 r34 => ?_
      refine Wp.region ?_
      refine Ops.v (Yl.mvS rfl) ?_
      refine Ops.v (Yl.len Try.underlying23 rfl rfl) ?_
      refine Ops.v (Yl.quo rfl rfl (by omega) (by omega) (by omega)) ?_
      refine Ops.v (Yl.asI rfl) ?_
      refine Ops.nil ?_
      refine n34 _ _ _ ?_
      refine Wp.seq fun K35 n35 r35 => ?_
      refine Wp.seq fun K36 n36 r36 => ?_
      refine Wp.region ?_
      refine Ops.v (Yl.mvI rfl) ?_
      refine Ops.v (Yl.mvI rfl) ?_
      refine Ops.nil ?_
      refine n36 _ _ _ ?_
      refine Wp.block fun K37 n37 x37 r37 => ?_
      skip
      refine Wp.loopI 3 [6, 25, 26, 27, 28, 29, 30, 31, 32, 33, 34, 35, 36, 37, 38, 39, 40, 41, 42, 43] [25] (fun (p : Nat × Option Nat × Nat) => p.1 ≤ mm ∧ (∀ j, p.2.1 = some j → New w j) ∧ (0 < p.1 → ∃ j, p.2.1 = some j)) (fun p => [iv p.1]) (fun (p : Nat × Option Nat × Nat) => Tr w [] [.row p.2.1 59 4 p.1 p.2.2 ((key.take (4 * p.1)).map u8), .blk b20 58 [pt tb 0, sl p.2.1 p.1 p.2.2], .blk tb 63 (tabs.map u8)]) (fun (p : Nat × Option Nat × Nat) => mm - p.1) ((0, none, 0)) ⟨by simp, by simp, by simp⟩ (fun _ => rfl) rfl (fun _ h => by exact h.addRow _ _) ?_
      rintro ⟨k, ao, cc⟩ hI38 J38 K38 n38 r38
      try dsimp only at hI38 n38 ⊢
      obtain ⟨hk1, hao, hso⟩ := hI38
      refine Wp.seq fun K39 n39 r39 => ?_
      refine Wp.region ?_
      refine Ops.v (Yl.lss rfl rfl) ?_
      refine Ops.nil ?_
      refine n39 _ _ _ ?_
      refine Wp.seq fun K40 n40 r40 => ?_
      refine Wp.cond _ rfl (fun h26 => ?_) (fun h26 => ?_)
      ·
        try simp only [decide_eq_true_eq, decide_eq_false_iff_not, Bool.not_eq_true, Bool.not_eq_false, Bool.not_true, Bool.not_false, Bool.not_eq_eq_eq_not, ne_eq, Decidable.not_not] at h26
        refine Wp.skip ?_
        refine n40 _ _ _ ?_
        refine Wp.seq fun K41 n41 r41 => ?_
        refine Wp.block fun K42 n42 x42 r42 => ?_
        refine Wp.seq fun K43 n43 r43 => ?_
        refine Wp.region ?_
        refine Ops.v (Yl.mvI rfl) ?_
        refine Ops.v (Yl.asI rfl) ?_
        refine Ops.nil ?_
        refine n43 _ _ _ ?_
        refine Wp.draw hmix (fun i => [1, 1, 1, 1, 0, 1, 1, 1, 1, 1, 0, 0, 0, 1, 1, 2].getD i 0) ((Tr w [] [.blk b20 58 [pt tb 0, sl ao k cc], .blk tb 63 (tabs.map u8)])) (fun _ h => h.drawn _) fun N8 hN8 => ?_
        refine G.p 0 (by kernel_rfl) rfl (Yl.mvP rfl) ?_
        refine G.p 1 (by kernel_rfl) rfl (Yl.mvP rfl) ?_
        refine G.p 2 (by kernel_rfl) rfl (Yl.nilCheck rfl) ?_
        refine G.p 3 (by kernel_rfl) rfl ((by first | exact Yl.fieldAddrZ fo58_1 rfl | exact Yl.fieldAddr fo58_1 rfl)) ?_
        refine G.t 4 (by kernel_rfl) rfl (Yl.load1z na56 rfl (by first | exact Rd.blk (by repeat (first | exact List.Mem.head _ | apply List.Mem.tail)) | exact Rd.row (by repeat (first | exact List.Mem.head _ | apply List.Mem.tail)) | assumption) (by first | rfl | exact getmap (by omega) | assumption)) ?_
        refine G.p 5 (by kernel_rfl) rfl (Yl.mvS rfl) ?_
        refine G.p 6 (by kernel_rfl) rfl (Yl.mvI rfl) ?_
        refine G.p 7 (by kernel_rfl) rfl (Yl.mul rfl rfl (by omega) (by omega)) ?_
        refine G.p 8 (by kernel_rfl) rfl (Yl.sliceFrom Try.underlying23 sz5 rfl (.some (i := 4 * k) rfl (by omega)) (by omega) hc) ?_
        refine G.p 9 (by kernel_rfl) rfl (Yl.s2ap Try.underlying59 rfl (by omega)) ?_
        refine G.t 10 (by kernel_rfl) rfl (Yl.loadA ag59 rfl (4 * k) (Rd.ofRw hA (by simp)) rfl (((key.drop (4 * k)).take 4).map u8) (by rw [List.map_take, List.map_drop]) (by rw [List.length_map, List.length_take, List.length_drop]; omega)) ?_
        refine G.run 11 (by kernel_rfl) rfl rfl rfl (Ef.buildSlice1 Try.underlying56 el59 (by omega) (by omega) rfl (by rw [List.length_map, List.length_take, List.length_drop]; omega)) (New.ex _) (fun _ h => h.sub (by repeat (first | exact List.Sublist.refl _ | exact List.nil_sublist _ | apply List.Sublist.cons_cons | apply List.Sublist.cons))) (fun _ _ _ h => h.sub (by repeat (first | exact List.Sublist.refl _ | exact List.nil_sublist _ | apply List.Sublist.cons_cons | apply List.Sublist.cons))) (fun _ => (Tr w [] [.blk b20 58 [pt tb 0, sl ao k cc], .blk tb 63 (tabs.map u8)])) (fun _ _ _ h => h) fun b39 hb39 => ?_
        simp only [En.put, List.cons_append, List.nil_append]
        refine G.run 12 (by kernel_rfl) rfl rfl rfl (Ef.appendS (ao := ao) Try.underlying56 rfl el59 rfl (by repeat (first | exact At.head | apply At.tail)) rfl (RdS.blk (by repeat (first | exact List.Mem.head _ | apply List.Mem.tail))) (by rw [List.length_map, List.length_take, List.length_drop]; omega) (one_u8 _) (by omega) (by omega) (by omega) (by omega) (fun j hj => .inr (hao j hj))) ⟨(_, 0), .inr (Nat.le_refl _)⟩ (fun _ h => h.sub (by repeat (first | exact List.Sublist.refl _ | exact List.nil_sublist _ | apply List.Sublist.cons_cons | apply List.Sublist.cons))) (fun _ _ _ h => h.sub (by repeat (first | exact List.Sublist.refl _ | exact List.nil_sublist _ | apply List.Sublist.cons_cons | apply List.Sublist.cons))) (fun _ => (Tr w [] [.blk b20 58 [pt tb 0, sl ao k cc], .blk tb 63 (tabs.map u8)])) (fun _ _ _ h => h) fun p40 hp40 => ?_
        simp only [En.put, List.cons_append, List.nil_append]
        refine G.p 13 (by kernel_rfl) rfl (Yl.nilCheck rfl) ?_
        refine G.p 14 (by kernel_rfl) rfl ((by first | exact Yl.fieldAddrZ fo58_1 rfl | exact Yl.fieldAddr fo58_1 rfl)) ?_
        refine G.last (by kernel_rfl) (fun _ h => h.sub (by repeat (first | exact List.Sublist.refl _ | exact List.nil_sublist _ | apply List.Sublist.cons_cons | apply List.Sublist.cons))) ?_
        refine G0.run 15 (by kernel_rfl) rfl rfl (Ef.store1b sz56 rfl rfl (by repeat (first | exact At.head | apply At.tail)) (by first | decide | (simp; done) | (simp; omega) | omega) rfl (by first | exact .inr (by assumption) | exact .inl (by simp))) ⟨(), trivial⟩ fun _ _ => ?_
        simp only [En.put, List.cons_append, List.nil_append]
        refine G0.done (by kernel_rfl) (hN8 _ _ _ ?_)
        refine n42 _ _ _ ?_
        refine n41 _ _ _ ?_
        refine Wp.region ?_
        refine Ops.v (Yl.add rfl rfl (by omega) (by omega)) ?_
        refine Ops.v (Yl.mvI rfl) ?_
        refine Ops.nil ?_
        refine n38 (k + 1, some p40.1, p40.2) _ _ ⟨by omega, fun j hj => by cases hj; exact hp40.resolve_left (by simp), fun _ => ⟨_, rfl⟩⟩ ⟨119, rfl⟩ rfl rfl (l1 (congrArg iv (by omega))) (by omega) (fun _ h => by rw [Nat.mul_add, List.take_add, List.map_append]; exact h.sub (by repeat (first | exact List.Sublist.refl _ | exact List.nil_sublist _ | apply List.Sublist.cons_cons | apply List.Sublist.cons)))
      ·
        try simp only [decide_eq_true_eq, decide_eq_false_iff_not, Bool.not_eq_true, Bool.not_eq_false, Bool.not_true, Bool.not_false, Bool.not_eq_eq_eq_not, ne_eq, Decidable.not_not] at h26
        refine Wp.exit ?_
        refine r40 _ _ _ _ (by simp) ?_
        refine r38 _ _ _ _ (by simp) ?_
        refine x37 _ _ _ ?_
        refine n35 _ _ _ ?_
        refine Wp.seq fun K44 n44 r44 => ?_
        refine Wp.region ?_
        have hkm : k = mm := by omega
        obtain ⟨g0, rfl⟩ := hso (by omega)
        refine Ops.v (Yl.assign' (v := u8 1#8) rfl) ?_
        refine Ops.nil ?_
        refine n44 _ _ _ ?_
        refine Wp.seq fun K45 n45 r45 => ?_
        refine Wp.seq fun K46 n46 r46 => ?_
        refine Wp.region ?_
        refine Ops.v (Yl.mvI rfl) ?_
        refine Ops.v (Yl.asI rfl) ?_
        refine Ops.nil ?_
        refine n46 _ _ _ ?_
        refine Wp.block fun K47 n47 x47 r47 => ?_
        skip
        refine Wp.loopI 4 [7, 8, 9, 45, 46, 47, 48, 49, 50, 51, 52, 53, 54, 55, 56, 57, 58, 59, 60, 61, 62, 63, 64, 65, 66, 67, 68, 69, 70, 71, 72, 73, 74, 75, 76, 77, 78, 79, 80, 81, 82, 83, 84, 85, 86, 87, 88, 89, 90, 91, 92, 93, 94, 95, 96, 97, 98, 99, 100, 101, 102, 103, 104, 105, 106, 107, 108, 109, 110, 111, 112, 113, 114, 115, 116, 117] [8, 7] (fun (p : Nat × Nat × Nat) => p.1 ≤ 3 * mm + 28 ∧ New w p.2.1) (fun p => [iv ((mm + p.1 : Nat) : Int), u8 (expTo tabs key mm p.1).2]) (fun (p : Nat × Nat × Nat) => Tr w [] [.row (some p.2.1) 59 4 (mm + p.1) p.2.2 ((expTo tabs key mm p.1).1.map u8), .blk b20 58 [pt tb 0, sl (some p.2.1) (mm + p.1) p.2.2], .blk tb 63 (tabs.map u8)]) (fun (p : Nat × Nat × Nat) => 3 * mm + 28 - p.1) ((0, g0, cc)) ⟨by simp, hao _ rfl⟩ (fun _ => rfl) (l2 (congrArg iv (by omega)) rfl) (fun _ h => by rw [hkm, ← hm, List.take_length] at h; exact h) ?_
        rintro ⟨i, g, c2⟩ hI48 J48 K48 n48 r48
        try dsimp only at hI48 n48 ⊢
        obtain ⟨hi1, hg⟩ := hI48
        have hel : (expTo tabs key mm i).1.length = 4 * (mm + i) := expTo_len _ _ _ _ hm (by omega)
        obtain ⟨wp, hwp⟩ : ∃ wp, wp = ((expTo tabs key mm i).1.drop (4 * (mm + i - 1))).take 4 := ⟨_, rfl⟩
        have hwl : wp.length = 4 := by rw [hwp, List.length_take, List.length_drop, hel]; omega
        have hVl : (wordL tabs (expTo tabs key mm i).1 mm (mm + i) (expTo tabs key mm i).2).length = 4 := wordL_len _ _ _ _ _ (by rw [hel]; omega)
        have hYl : (((expTo tabs key mm i).1.drop (4 * i)).take 4).length = 4 := by rw [List.length_take, List.length_drop, hel]; omega
        refine Wp.seq fun K49 n49 r49 => ?_
        refine Wp.seq fun K50 n50 r50 => ?_
        refine Wp.region ?_
        refine Ops.v (Yl.mvI rfl) ?_
        refine Ops.v (Yl.mvI rfl) ?_
        refine Ops.v (Yl.add rfl rfl (by omega) (by omega)) ?_
        refine Ops.v (Yl.mul rfl rfl (by omega) (by omega)) ?_
        refine Ops.v (Yl.lss rfl rfl) ?_
        refine Ops.nil ?_
        refine n50 _ _ _ ?_
        refine Wp.cond _ rfl (fun h49 => ?_) (fun h49 => ?_)
        ·
          try simp only [decide_eq_true_eq, decide_eq_false_iff_not, Bool.not_eq_true, Bool.not_eq_false, Bool.not_true, Bool.not_false, Bool.not_eq_eq_eq_not, ne_eq, Decidable.not_not] at h49
          refine Wp.skip ?_
          refine n49 _ _ _ ?_
          refine Wp.seq fun K51 n51 r51 => ?_
          refine Wp.block fun K52 n52 x52 r52 => ?_
          refine Wp.seq fun K53 n53 r53 => ?_
          refine Wp.region ?_
          refine Ops.v (Yl.mvP rfl) ?_
          refine Ops.v (Yl.nilCheck rfl) ?_
          refine Ops.v ((by first | exact Yl.fieldAddrZ fo58_1 rfl | exact Yl.fieldAddr fo58_1 rfl)) ?_
          refine Ops.v (Yl.load1z na56 rfl (by first | exact Rd.blk (by repeat (first | exact List.Mem.head _ | apply List.Mem.tail)) | exact Rd.row (by repeat (first | exact List.Mem.head _ | apply List.Mem.tail)) | assumption) (by first | rfl | exact getmap (by omega) | assumption)) ?_
          refine Ops.v (Yl.mvI rfl) ?_
          refine Ops.v (Yl.sub rfl rfl (by omega) (by omega)) ?_
          refine Ops.v (Yl.indexSlice Try.underlying56 sz59 rfl rfl (mm + i - 1) (by omega) (by omega)) ?_
          refine Ops.v (Yl.loadA ag59 rfl (4 * (mm + i - 1)) (Rd.row (by repeat (first | exact List.Mem.head _ | apply List.Mem.tail))) (by omega) (wp.map u8) (by rw [hwp, List.map_take, List.map_drop]) (by rw [List.length_map, hwl])) ?_
          refine Ops.f (Ef.alloc zo59) (New.ex _) fun b9 hb9 => ?_
          refine Ops.s (Ef.storeU wp sz59 rfl rfl (by repeat (first | exact At.head | apply At.tail)) hwl (by simp) (.inr hb9)) ?_
          refine Ops.nil ?_
          refine n53 _ _ _ ?_
          refine Wp.seq fun K54 n54 r54 => ?_
          refine Wp.block fun K55 n55 x55 r55 => ?_
          refine Wp.seq fun K56 n56 r56 => ?_
          refine Wp.region ?_
          refine Ops.v (Yl.mvI rfl) ?_
          refine Ops.v (Yl.mvI rfl) ?_
          refine Ops.v (Yl.rem rfl rfl (by omega) (by omega)) ?_
          refine Ops.v (Yl.eql rfl rfl) ?_
          refine Ops.v (Yl.asB rfl) ?_
          refine Ops.nil ?_
          refine n56 _ _ _ ?_
          refine Wp.cond _ rfl (fun h60 => ?_) (fun h60 => ?_)
          ·
            try simp only [decide_eq_true_eq, decide_eq_false_iff_not, Bool.not_eq_true, Bool.not_eq_false, Bool.not_true, Bool.not_false, Bool.not_eq_eq_eq_not, ne_eq, Decidable.not_not] at h60
            have hmod : (mm + i) % mm = 0 := by rw [e4] at h60; exact_mod_cast h60
            refine Wp.seq fun K57 n57 r57 => ?_
            refine Wp.region ?_
            refine Ops.v ((by first | exact Yl.indexArrZ Try.underlying59 sz5 rfl rfl 1 rfl (by omega) | exact Yl.indexArr1 Try.underlying59 sz5 rfl rfl 1 rfl (by omega))) ?_
            refine Ops.v (Yl.load1z na5 rfl (by first | exact Rd.blk (by repeat (first | exact List.Mem.head _ | apply List.Mem.tail)) | exact Rd.row (by repeat (first | exact List.Mem.head _ | apply List.Mem.tail)) | assumption) (by first | rfl | exact getmap (by omega) | assumption)) ?_
            refine Ops.v ((by first | exact Yl.indexArrZ Try.underlying59 sz5 rfl rfl 2 rfl (by omega) | exact Yl.indexArr1 Try.underlying59 sz5 rfl rfl 2 rfl (by omega))) ?_
            refine Ops.v (Yl.load1z na5 rfl (by first | exact Rd.blk (by repeat (first | exact List.Mem.head _ | apply List.Mem.tail)) | exact Rd.row (by repeat (first | exact List.Mem.head _ | apply List.Mem.tail)) | assumption) (by first | rfl | exact getmap (by omega) | assumption)) ?_
            refine Ops.v ((by first | exact Yl.indexArrZ Try.underlying59 sz5 rfl rfl 3 rfl (by omega) | exact Yl.indexArr1 Try.underlying59 sz5 rfl rfl 3 rfl (by omega))) ?_
            refine Ops.v (Yl.load1z na5 rfl (by first | exact Rd.blk (by repeat (first | exact List.Mem.head _ | apply List.Mem.tail)) | exact Rd.row (by repeat (first | exact List.Mem.head _ | apply List.Mem.tail)) | assumption) (by first | rfl | exact getmap (by omega) | assumption)) ?_
            refine Ops.v ((by first | exact Yl.indexArrZ Try.underlying59 sz5 rfl rfl 0 rfl (by omega) | exact Yl.indexArr1 Try.underlying59 sz5 rfl rfl 0 rfl (by omega))) ?_
            refine Ops.v (Yl.load1z na5 rfl (by first | exact Rd.blk (by repeat (first | exact List.Mem.head _ | apply List.Mem.tail)) | exact Rd.row (by repeat (first | exact List.Mem.head _ | apply List.Mem.tail)) | assumption) (by first | rfl | exact getmap (by omega) | assumption)) ?_
            refine Ops.v (Yl.buildArr' (r := [.int _ _, .int _ _, .int _ _, .int _ _]) Try.underlying59 zo59 sz5 rfl) ?_
            refine Ops.s (Ef.storeU (rotL wp) sz59 rfl rfl (by repeat (first | exact At.head | apply At.tail)) rfl (by rw [List.length_map, hwl]) (.inr hb9)) ?_
            refine Ops.nil ?_
            refine n57 _ _ _ ?_
            refine Wp.seq fun K58 n58 r58 => ?_
            refine Wp.region ?_
            refine Ops.v (Yl.mvP rfl) ?_
            refine Ops.v (Yl.sliceArrD Try.underlying59 sz5 rfl .none (by omega)) ?_
            refine Ops.f (Ef.turns (h := .blk b9 _ _) bd15 rfl (by repeat (first | exact At.head | apply At.tail)) rfl (.inr hb9) (fun wc hw => c___palfrey_aes_Keys__subs wc b20 b9 _ _ tabs (rotL wp) _ (tabOff hw (by repeat (first | exact List.Mem.head _ | apply List.Mem.tail)) (by repeat (first | exact List.Mem.head _ | apply List.Mem.tail)) tabs_len) (hw.sat _ (by repeat (first | exact List.Mem.head _ | apply List.Mem.tail))) rfl (by simp [rotL]))) (by exact ⟨(), trivial, NewH.nil⟩) fun _ _ => ?_
            refine Ops.nil ?_
            refine n58 _ _ _ ?_
            refine Wp.seq fun K59 n59 r59 => ?_
            refine Wp.region ?_
            refine Ops.v ((by first | exact Yl.indexArrZ Try.underlying59 sz5 rfl rfl 0 rfl (by omega) | exact Yl.indexArr1 Try.underlying59 sz5 rfl rfl 0 rfl (by omega))) ?_
            refine Ops.v (Yl.load1z na5 rfl (by first | exact Rd.blk (by repeat (first | exact List.Mem.head _ | apply List.Mem.tail)) | exact Rd.row (by repeat (first | exact List.Mem.head _ | apply List.Mem.tail)) | assumption) (getmap (by rw [subL_len]; simp [rotL]))) ?_
            refine Ops.v (Yl.mvI rfl) ?_
            refine Ops.v (Yl.xor8 rfl rfl) ?_
            refine Ops.v ((by first | exact Yl.indexArrZ Try.underlying59 sz5 rfl rfl 0 rfl (by omega) | exact Yl.indexArr1 Try.underlying59 sz5 rfl rfl 0 rfl (by omega))) ?_
            refine Ops.s (Ef.store1b sz5 rfl rfl (by repeat (first | exact At.head | apply At.tail)) (by rw [List.length_map, subL_len]; simp [rotL]) rfl (by first | exact .inr (by assumption) | exact .inl (by simp))) ?_
            refine Ops.nil ?_
            refine n59 _ _ _ ?_
            refine Wp.region ?_
            refine Ops.v (Yl.mvI rfl) ?_
            refine Ops.f (Ef.pure bd26 rfl (fun wc hw => c_palfrey_aes_double wc _)) ⟨(), trivial⟩ fun _ _ => ?_
            refine Ops.v (Yl.asI rfl) ?_
            refine Ops.nil ?_
            refine n55 _ _ _ ?_
            refine n54 _ _ _ ?_
            refine Wp.mono (S' := Tr w [] [.blk b9 59 ((wordL tabs (expTo tabs key mm i).1 mm (mm + i) (expTo tabs key mm i).2).map u8), .row (some g) 59 4 (mm + i) c2 ((expTo tabs key mm i).1.map u8), .blk b20 58 [pt tb 0, sl (some g) (mm + i) c2], .blk tb 63 (tabs.map u8)]) ?_ (fun _ h => by
                rw [wordL, ← hwp]
                first
                  | (rw [if_pos hmod, List.map_set]; exact h)
                  | (rw [if_neg hmod, if_pos ⟨by omega, by rw [e4] at h84; exact_mod_cast h84⟩]; exact h)
                  | (rw [if_neg hmod, if_neg (fun hh => by have := hh.2; rw [e4] at h84; exact h84 (by exact_mod_cast this))]; exact h)
                  | (rw [if_neg hmod, if_neg (by omega)]; exact h))
            refine Wp.draw hmix (fun i => [1, 1, 1, 1, 0, 1, 1, 1, 1, 0, 1, 1, 1, 1, 1, 0, 1, 0, 0, 0, 1, 1, 2].getD i 0) ((Tr w [] [.blk b20 58 [pt tb 0, sl (some g) (mm + i) c2], .blk tb 63 (tabs.map u8)])) (fun _ h => h.drawn _) fun N22 hN22 => ?_
            refine G.p 0 (by kernel_rfl) rfl (Yl.mvP rfl) ?_
            refine G.p 1 (by kernel_rfl) rfl (Yl.mvP rfl) ?_
            refine G.p 2 (by kernel_rfl) rfl (Yl.nilCheck rfl) ?_
            refine G.p 3 (by kernel_rfl) rfl ((by first | exact Yl.fieldAddrZ fo58_1 rfl | exact Yl.fieldAddr fo58_1 rfl)) ?_
            refine G.t 4 (by kernel_rfl) rfl (Yl.load1z na56 rfl (by first | exact Rd.blk (by repeat (first | exact List.Mem.head _ | apply List.Mem.tail)) | exact Rd.row (by repeat (first | exact List.Mem.head _ | apply List.Mem.tail)) | assumption) (by first | rfl | exact getmap (by omega) | assumption)) ?_
            refine G.p 5 (by kernel_rfl) rfl (Yl.sliceArrD Try.underlying59 sz5 rfl .none (by omega)) ?_
            refine G.p 6 (by kernel_rfl) rfl (Yl.mvP rfl) ?_
            refine G.p 7 (by kernel_rfl) rfl (Yl.nilCheck rfl) ?_
            refine G.p 8 (by kernel_rfl) rfl ((by first | exact Yl.fieldAddrZ fo58_1 rfl | exact Yl.fieldAddr fo58_1 rfl)) ?_
            refine G.t 9 (by kernel_rfl) rfl (Yl.load1z na56 rfl (by first | exact Rd.blk (by repeat (first | exact List.Mem.head _ | apply List.Mem.tail)) | exact Rd.row (by repeat (first | exact List.Mem.head _ | apply List.Mem.tail)) | assumption) (by first | rfl | exact getmap (by omega) | assumption)) ?_
            refine G.p 10 (by kernel_rfl) rfl (Yl.mvI rfl) ?_
            refine G.p 11 (by kernel_rfl) rfl (Yl.mvI rfl) ?_
            refine G.p 12 (by kernel_rfl) rfl (Yl.sub rfl rfl (by omega) (by omega)) ?_
            refine G.p 13 (by kernel_rfl) rfl (Yl.indexSlice Try.underlying56 sz59 rfl rfl i (by omega) (by omega)) ?_
            refine G.p 14 (by kernel_rfl) rfl (Yl.sliceArrO Try.underlying59 sz5 rfl (by omega)) ?_
            refine G.run 15 (by kernel_rfl) rfl rfl rfl (Ef.makes bd20 rfl (fun wc hw => c_palfrey_bits_Xor wc _ _ (wordL tabs (expTo tabs key mm i).1 mm (mm + i) (expTo tabs key mm i).2) (((expTo tabs key mm i).1.drop (4 * i)).take 4) _ _ _ _ (hw.rwBlk (by repeat (first | exact List.Mem.head _ | apply List.Mem.tail))) (by rw [List.map_take, List.map_drop, Nat.mul_comm i 4]; exact ((hw.rwRow (ao := some g) (by repeat (first | exact List.Mem.head _ | apply List.Mem.tail))).drop (4 * i)).take 4) (by rw [hVl]) (by rw [hYl]) (by omega))) (by exact ⟨_, trivial, NewH.row1 (Nat.le_refl _) NewH.nil⟩) (fun _ h => h.sub (by repeat (first | exact List.Sublist.refl _ | exact List.nil_sublist _ | apply List.Sublist.cons_cons | apply List.Sublist.cons))) (fun _ _ _ h => h.sub (by repeat (first | exact List.Sublist.refl _ | exact List.nil_sublist _ | apply List.Sublist.cons_cons | apply List.Sublist.cons))) (fun bx => (Tr w [] [.row (some bx) 5 1 (min (wordL tabs (expTo tabs key mm i).1 mm (mm + i) (expTo tabs key mm i).2).length (((expTo tabs key mm i).1.drop (4 * i)).take 4).length) (min (wordL tabs (expTo tabs key mm i).1 mm (mm + i) (expTo tabs key mm i).2).length (((expTo tabs key mm i).1.drop (4 * i)).take 4).length) ((xorL (wordL tabs (expTo tabs key mm i).1 mm (mm + i) (expTo tabs key mm i).2) (((expTo tabs key mm i).1.drop (4 * i)).take 4)).map u8), .blk b20 58 [pt tb 0, sl (some g) (mm + i) c2], .blk tb 63 (tabs.map u8)])) (fun _ _ _ h => h.sub (by repeat (first | exact List.Sublist.refl _ | exact List.nil_sublist _ | apply List.Sublist.cons_cons | apply List.Sublist.cons))) fun bx hbx => ?_
            simp only [En.put, List.cons_append, List.nil_append]
            refine G.p 16 (by kernel_rfl) rfl (Yl.s2ap Try.underlying59 rfl (by omega)) ?_
            refine G.t 17 (by kernel_rfl) rfl (Yl.loadAz ag59 rfl (Rd.row (by repeat (first | exact List.Mem.head _ | apply List.Mem.tail))) (by rw [List.length_map, xorL_len, hVl, hYl]; rfl)) ?_
            refine G.run 18 (by kernel_rfl) rfl rfl rfl (Ef.buildSlice1 Try.underlying56 el59 (by omega) (by omega) rfl (by rw [List.length_map, xorL_len, hVl, hYl]; rfl)) (New.ex _) (fun _ h => h.sub (by repeat (first | exact List.Sublist.refl _ | exact List.nil_sublist _ | apply List.Sublist.cons_cons | apply List.Sublist.cons))) (fun _ _ _ h => h.sub (by repeat (first | exact List.Sublist.refl _ | exact List.nil_sublist _ | apply List.Sublist.cons_cons | apply List.Sublist.cons))) (fun _ => (Tr w [] [.row (some bx) 5 1 (min (wordL tabs (expTo tabs key mm i).1 mm (mm + i) (expTo tabs key mm i).2).length (((expTo tabs key mm i).1.drop (4 * i)).take 4).length) (min (wordL tabs (expTo tabs key mm i).1 mm (mm + i) (expTo tabs key mm i).2).length (((expTo tabs key mm i).1.drop (4 * i)).take 4).length) ((xorL (wordL tabs (expTo tabs key mm i).1 mm (mm + i) (expTo tabs key mm i).2) (((expTo tabs key mm i).1.drop (4 * i)).take 4)).map u8), .blk b20 58 [pt tb 0, sl (some g) (mm + i) c2], .blk tb 63 (tabs.map u8)])) (fun _ _ _ h => h) fun b114 hb114 => ?_
            simp only [En.put, List.cons_append, List.nil_append]
            refine G.run 19 (by kernel_rfl) rfl rfl rfl (Ef.appendS (ao := some g) Try.underlying56 rfl el59 rfl (by repeat (first | exact At.head | apply At.tail)) rfl (RdS.blk (by repeat (first | exact List.Mem.head _ | apply List.Mem.tail))) (by rw [List.length_map, xorL_len, hVl, hYl]; rfl) (one_u8 _) (by omega) (by omega) (by omega) (by omega) (fun j hj => by cases hj; exact .inr hg)) ⟨(_, 0), .inr (Nat.le_refl _)⟩ (fun _ h => h.sub (by repeat (first | exact List.Sublist.refl _ | exact List.nil_sublist _ | apply List.Sublist.cons_cons | apply List.Sublist.cons))) (fun _ _ _ h => h.sub (by repeat (first | exact List.Sublist.refl _ | exact List.nil_sublist _ | apply List.Sublist.cons_cons | apply List.Sublist.cons))) (fun _ => (Tr w [] [.row (some bx) 5 1 (min (wordL tabs (expTo tabs key mm i).1 mm (mm + i) (expTo tabs key mm i).2).length (((expTo tabs key mm i).1.drop (4 * i)).take 4).length) (min (wordL tabs (expTo tabs key mm i).1 mm (mm + i) (expTo tabs key mm i).2).length (((expTo tabs key mm i).1.drop (4 * i)).take 4).length) ((xorL (wordL tabs (expTo tabs key mm i).1 mm (mm + i) (expTo tabs key mm i).2) (((expTo tabs key mm i).1.drop (4 * i)).take 4)).map u8), .blk b20 58 [pt tb 0, sl (some g) (mm + i) c2], .blk tb 63 (tabs.map u8)])) (fun _ _ _ h => h) fun p115 hp115 => ?_
            simp only [En.put, List.cons_append, List.nil_append]
            refine G.p 20 (by kernel_rfl) rfl (Yl.nilCheck rfl) ?_
            refine G.p 21 (by kernel_rfl) rfl ((by first | exact Yl.fieldAddrZ fo58_1 rfl | exact Yl.fieldAddr fo58_1 rfl)) ?_
            refine G.last (by kernel_rfl) (fun _ h => h.sub (by repeat (first | exact List.Sublist.refl _ | exact List.nil_sublist _ | apply List.Sublist.cons_cons | apply List.Sublist.cons))) ?_
            refine G0.run 22 (by kernel_rfl) rfl rfl (Ef.store1b sz56 rfl rfl (by repeat (first | exact At.head | apply At.tail)) (by first | decide | (simp; done) | (simp; omega) | omega) rfl (by first | exact .inr (by assumption) | exact .inl (by simp))) ⟨(), trivial⟩ fun _ _ => ?_
            simp only [En.put, List.cons_append, List.nil_append]
            refine G0.done (by kernel_rfl) (hN22 _ _ _ ?_)
            refine n52 _ _ _ ?_
            refine n51 _ _ _ ?_
            refine Wp.region ?_
            refine Ops.v (Yl.mvI rfl) ?_
            refine Ops.v (Yl.add rfl rfl (by omega) (by omega)) ?_
            refine Ops.v (Yl.asI rfl) ?_
            refine Ops.nil ?_
            refine n48 (i + 1, p115.1, p115.2) _ _ ⟨by omega, hp115.resolve_left (by simp)⟩ ⟨119, rfl⟩ rfl rfl (l2 (congrArg iv (by omega)) (congrArg u8 (by simp only [expTo]; first | rw [if_pos hmod] | rw [if_neg hmod]))) (by omega) (fun _ h => by rw [expTo, List.map_append]; exact h.sub (by repeat (first | exact List.Sublist.refl _ | exact List.nil_sublist _ | apply List.Sublist.cons_cons | apply List.Sublist.cons)))
          ·
            try simp only [decide_eq_true_eq, decide_eq_false_iff_not, Bool.not_eq_true, Bool.not_eq_false, Bool.not_true, Bool.not_false, Bool.not_eq_eq_eq_not, ne_eq, Decidable.not_not] at h60
            have hmod : ¬ (mm + i) % mm = 0 := by rw [e4] at h60; exact_mod_cast h60
            refine Wp.seq fun K60 n60 r60 => ?_
            refine Wp.region ?_
            refine Ops.v (Yl.mvI rfl) ?_
            refine Ops.v (Yl.gtr rfl rfl) ?_
            refine Ops.vB (Yl.mvB rfl) (fun hg20_2 => ?_) (fun hg20_2 => ?_)
            ·
              try simp only [decide_eq_true_eq, decide_eq_false_iff_not, Bool.not_eq_true, Bool.not_eq_false, Bool.not_true, Bool.not_false, Bool.not_eq_eq_eq_not, ne_eq, Decidable.not_not] at hg20_2
              refine Ops.guard_val rfl rfl rfl rfl rfl (Yl.mvI rfl) ?_
              refine Ops.guard_val rfl rfl rfl rfl rfl (Yl.mvI rfl) ?_
              refine Ops.guard_val rfl rfl rfl rfl rfl (Yl.rem rfl rfl (by omega) (by omega)) ?_
              refine Ops.guard_val rfl rfl rfl rfl rfl (Yl.eql rfl rfl) ?_
              refine Ops.v (Yl.pick_t rfl (v := .bool _) rfl) ?_
              refine Ops.v (Yl.asB rfl) ?_
              refine Ops.nil ?_
              refine n60 _ _ _ ?_
              refine Wp.cond _ rfl (fun h84 => ?_) (fun h84 => ?_)
              ·
                try simp only [decide_eq_true_eq, decide_eq_false_iff_not, Bool.not_eq_true, Bool.not_eq_false, Bool.not_true, Bool.not_false, Bool.not_eq_eq_eq_not, ne_eq, Decidable.not_not] at h84
                refine Wp.region ?_
                refine Ops.v (Yl.mvP rfl) ?_
                refine Ops.v (Yl.sliceArrD Try.underlying59 sz5 rfl .none (by omega)) ?_
                refine Ops.f (Ef.turns (h := .blk b9 _ _) bd15 rfl (by repeat (first | exact At.head | apply At.tail)) rfl (.inr hb9) (fun wc hw => c___palfrey_aes_Keys__subs wc b20 b9 _ _ tabs wp _ (tabOff hw (by repeat (first | exact List.Mem.head _ | apply List.Mem.tail)) (by repeat (first | exact List.Mem.head _ | apply List.Mem.tail)) tabs_len) (hw.sat _ (by repeat (first | exact List.Mem.head _ | apply List.Mem.tail))) (by rw [hwl]) (by omega))) (by exact ⟨(), trivial, NewH.nil⟩) fun _ _ => ?_
                refine Ops.nil ?_
                refine n55 _ _ _ ?_
                refine n54 _ _ _ ?_
                refine Wp.mono (S' := Tr w [] [.blk b9 59 ((wordL tabs (expTo tabs key mm i).1 mm (mm + i) (expTo tabs key mm i).2).map u8), .row (some g) 59 4 (mm + i) c2 ((expTo tabs key mm i).1.map u8), .blk b20 58 [pt tb 0, sl (some g) (mm + i) c2], .blk tb 63 (tabs.map u8)]) ?_ (fun _ h => by
                    rw [wordL, ← hwp]
                    first
                      | (rw [if_pos hmod, List.map_set]; exact h)
                      | (rw [if_neg hmod, if_pos ⟨by omega, by rw [e4] at h84; exact_mod_cast h84⟩]; exact h)
                      | (rw [if_neg hmod, if_neg (fun hh => by have := hh.2; rw [e4] at h84; exact h84 (by exact_mod_cast this))]; exact h)
                      | (rw [if_neg hmod, if_neg (by omega)]; exact h))
                refine Wp.draw hmix (fun i => [1, 1, 1, 1, 0, 1, 1, 1, 1, 0, 1, 1, 1, 1, 1, 0, 1, 0, 0, 0, 1, 1, 2].getD i 0) ((Tr w [] [.blk b20 58 [pt tb 0, sl (some g) (mm + i) c2], .blk tb 63 (tabs.map u8)])) (fun _ h => h.drawn _) fun N22 hN22 => ?_
                refine G.p 0 (by kernel_rfl) rfl (Yl.mvP rfl) ?_
                refine G.p 1 (by kernel_rfl) rfl (Yl.mvP rfl) ?_
                refine G.p 2 (by kernel_rfl) rfl (Yl.nilCheck rfl) ?_
                refine G.p 3 (by kernel_rfl) rfl ((by first | exact Yl.fieldAddrZ fo58_1 rfl | exact Yl.fieldAddr fo58_1 rfl)) ?_
                refine G.t 4 (by kernel_rfl) rfl (Yl.load1z na56 rfl (by first | exact Rd.blk (by repeat (first | exact List.Mem.head _ | apply List.Mem.tail)) | exact Rd.row (by repeat (first | exact List.Mem.head _ | apply List.Mem.tail)) | assumption) (by first | rfl | exact getmap (by omega) | assumption)) ?_
                refine G.p 5 (by kernel_rfl) rfl (Yl.sliceArrD Try.underlying59 sz5 rfl .none (by omega)) ?_
                refine G.p 6 (by kernel_rfl) rfl (Yl.mvP rfl) ?_
                refine G.p 7 (by kernel_rfl) rfl (Yl.nilCheck rfl) ?_
                refine G.p 8 (by kernel_rfl) rfl ((by first | exact Yl.fieldAddrZ fo58_1 rfl | exact Yl.fieldAddr fo58_1 rfl)) ?_
                refine G.t 9 (by kernel_rfl) rfl (Yl.load1z na56 rfl (by first | exact Rd.blk (by repeat (first | exact List.Mem.head _ | apply List.Mem.tail)) | exact Rd.row (by repeat (first | exact List.Mem.head _ | apply List.Mem.tail)) | assumption) (by first | rfl | exact getmap (by omega) | assumption)) ?_
                refine G.p 10 (by kernel_rfl) rfl (Yl.mvI rfl) ?_
                refine G.p 11 (by kernel_rfl) rfl (Yl.mvI rfl) ?_
                refine G.p 12 (by kernel_rfl) rfl (Yl.sub rfl rfl (by omega) (by omega)) ?_
                refine G.p 13 (by kernel_rfl) rfl (Yl.indexSlice Try.underlying56 sz59 rfl rfl i (by omega) (by omega)) ?_
                refine G.p 14 (by kernel_rfl) rfl (Yl.sliceArrO Try.underlying59 sz5 rfl (by omega)) ?_
                refine G.run 15 (by kernel_rfl) rfl rfl rfl (Ef.makes bd20 rfl (fun wc hw => c_palfrey_bits_Xor wc _ _ (wordL tabs (expTo tabs key mm i).1 mm (mm + i) (expTo tabs key mm i).2) (((expTo tabs key mm i).1.drop (4 * i)).take 4) _ _ _ _ (hw.rwBlk (by repeat (first | exact List.Mem.head _ | apply List.Mem.tail))) (by rw [List.map_take, List.map_drop, Nat.mul_comm i 4]; exact ((hw.rwRow (ao := some g) (by repeat (first | exact List.Mem.head _ | apply List.Mem.tail))).drop (4 * i)).take 4) (by rw [hVl]) (by rw [hYl]) (by omega))) (by exact ⟨_, trivial, NewH.row1 (Nat.le_refl _) NewH.nil⟩) (fun _ h => h.sub (by repeat (first | exact List.Sublist.refl _ | exact List.nil_sublist _ | apply List.Sublist.cons_cons | apply List.Sublist.cons))) (fun _ _ _ h => h.sub (by repeat (first | exact List.Sublist.refl _ | exact List.nil_sublist _ | apply List.Sublist.cons_cons | apply List.Sublist.cons))) (fun bx => (Tr w [] [.row (some bx) 5 1 (min (wordL tabs (expTo tabs key mm i).1 mm (mm + i) (expTo tabs key mm i).2).length (((expTo tabs key mm i).1.drop (4 * i)).take 4).length) (min (wordL tabs (expTo tabs key mm i).1 mm (mm + i) (expTo tabs key mm i).2).length (((expTo tabs key mm i).1.drop (4 * i)).take 4).length) ((xorL (wordL tabs (expTo tabs key mm i).1 mm (mm + i) (expTo tabs key mm i).2) (((expTo tabs key mm i).1.drop (4 * i)).take 4)).map u8), .blk b20 58 [pt tb 0, sl (some g) (mm + i) c2], .blk tb 63 (tabs.map u8)])) (fun _ _ _ h => h.sub (by repeat (first | exact List.Sublist.refl _ | exact List.nil_sublist _ | apply List.Sublist.cons_cons | apply List.Sublist.cons))) fun bx hbx => ?_
                simp only [En.put, List.cons_append, List.nil_append]
                refine G.p 16 (by kernel_rfl) rfl (Yl.s2ap Try.underlying59 rfl (by omega)) ?_
                refine G.t 17 (by kernel_rfl) rfl (Yl.loadAz ag59 rfl (Rd.row (by repeat (first | exact List.Mem.head _ | apply List.Mem.tail))) (by rw [List.length_map, xorL_len, hVl, hYl]; rfl)) ?_
                refine G.run 18 (by kernel_rfl) rfl rfl rfl (Ef.buildSlice1 Try.underlying56 el59 (by omega) (by omega) rfl (by rw [List.length_map, xorL_len, hVl, hYl]; rfl)) (New.ex _) (fun _ h => h.sub (by repeat (first | exact List.Sublist.refl _ | exact List.nil_sublist _ | apply List.Sublist.cons_cons | apply List.Sublist.cons))) (fun _ _ _ h => h.sub (by repeat (first | exact List.Sublist.refl _ | exact List.nil_sublist _ | apply List.Sublist.cons_cons | apply List.Sublist.cons))) (fun _ => (Tr w [] [.row (some bx) 5 1 (min (wordL tabs (expTo tabs key mm i).1 mm (mm + i) (expTo tabs key mm i).2).length (((expTo tabs key mm i).1.drop (4 * i)).take 4).length) (min (wordL tabs (expTo tabs key mm i).1 mm (mm + i) (expTo tabs key mm i).2).length (((expTo tabs key mm i).1.drop (4 * i)).take 4).length) ((xorL (wordL tabs (expTo tabs key mm i).1 mm (mm + i) (expTo tabs key mm i).2) (((expTo tabs key mm i).1.drop (4 * i)).take 4)).map u8), .blk b20 58 [pt tb 0, sl (some g) (mm + i) c2], .blk tb 63 (tabs.map u8)])) (fun _ _ _ h => h) fun b114 hb114 => ?_
                simp only [En.put, List.cons_append, List.nil_append]
                refine G.run 19 (by kernel_rfl) rfl rfl rfl (Ef.appendS (ao := some g) Try.underlying56 rfl el59 rfl (by repeat (first | exact At.head | apply At.tail)) rfl (RdS.blk (by repeat (first | exact List.Mem.head _ | apply List.Mem.tail))) (by rw [List.length_map, xorL_len, hVl, hYl]; rfl) (one_u8 _) (by omega) (by omega) (by omega) (by omega) (fun j hj => by cases hj; exact .inr hg)) ⟨(_, 0), .inr (Nat.le_refl _)⟩ (fun _ h => h.sub (by repeat (first | exact List.Sublist.refl _ | exact List.nil_sublist _ | apply List.Sublist.cons_cons | apply List.Sublist.cons))) (fun _ _ _ h => h.sub (by repeat (first | exact List.Sublist.refl _ | exact List.nil_sublist _ | apply List.Sublist.cons_cons | apply List.Sublist.cons))) (fun _ => (Tr w [] [.row (some bx) 5 1 (min (wordL tabs (expTo tabs key mm i).1 mm (mm + i) (expTo tabs key mm i).2).length (((expTo tabs key mm i).1.drop (4 * i)).take 4).length) (min (wordL tabs (expTo tabs key mm i).1 mm (mm + i) (expTo tabs key mm i).2).length (((expTo tabs key mm i).1.drop (4 * i)).take 4).length) ((xorL (wordL tabs (expTo tabs key mm i).1 mm (mm + i) (expTo tabs key mm i).2) (((expTo tabs key mm i).1.drop (4 * i)).take 4)).map u8), .blk b20 58 [pt tb 0, sl (some g) (mm + i) c2], .blk tb 63 (tabs.map u8)])) (fun _ _ _ h => h) fun p115 hp115 => ?_
                simp only [En.put, List.cons_append, List.nil_append]
                refine G.p 20 (by kernel_rfl) rfl (Yl.nilCheck rfl) ?_
                refine G.p 21 (by kernel_rfl) rfl ((by first | exact Yl.fieldAddrZ fo58_1 rfl | exact Yl.fieldAddr fo58_1 rfl)) ?_
                refine G.last (by kernel_rfl) (fun _ h => h.sub (by repeat (first | exact List.Sublist.refl _ | exact List.nil_sublist _ | apply List.Sublist.cons_cons | apply List.Sublist.cons))) ?_
                refine G0.run 22 (by kernel_rfl) rfl rfl (Ef.store1b sz56 rfl rfl (by repeat (first | exact At.head | apply At.tail)) (by first | decide | (simp; done) | (simp; omega) | omega) rfl (by first | exact .inr (by assumption) | exact .inl (by simp))) ⟨(), trivial⟩ fun _ _ => ?_
                simp only [En.put, List.cons_append, List.nil_append]
                refine G0.done (by kernel_rfl) (hN22 _ _ _ ?_)
                refine n52 _ _ _ ?_
                refine n51 _ _ _ ?_
                refine Wp.region ?_
                refine Ops.v (Yl.mvI rfl) ?_
                refine Ops.v (Yl.add rfl rfl (by omega) (by omega)) ?_
                refine Ops.v (Yl.asI rfl) ?_
                refine Ops.nil ?_
                refine n48 (i + 1, p115.1, p115.2) _ _ ⟨by omega, hp115.resolve_left (by simp)⟩ ⟨119, rfl⟩ rfl rfl (l2 (congrArg iv (by omega)) (congrArg u8 (by simp only [expTo]; first | rw [if_pos hmod] | rw [if_neg hmod]))) (by omega) (fun _ h => by rw [expTo, List.map_append]; exact h.sub (by repeat (first | exact List.Sublist.refl _ | exact List.nil_sublist _ | apply List.Sublist.cons_cons | apply List.Sublist.cons)))
              ·
                try simp only [decide_eq_true_eq, decide_eq_false_iff_not, Bool.not_eq_true, Bool.not_eq_false, Bool.not_true, Bool.not_false, Bool.not_eq_eq_eq_not, ne_eq, Decidable.not_not] at h84
                refine Wp.skip ?_
                refine n55 _ _ _ ?_
                refine n54 _ _ _ ?_
                refine Wp.mono (S' := Tr w [] [.blk b9 59 ((wordL tabs (expTo tabs key mm i).1 mm (mm + i) (expTo tabs key mm i).2).map u8), .row (some g) 59 4 (mm + i) c2 ((expTo tabs key mm i).1.map u8), .blk b20 58 [pt tb 0, sl (some g) (mm + i) c2], .blk tb 63 (tabs.map u8)]) ?_ (fun _ h => by
                    rw [wordL, ← hwp]
                    first
                      | (rw [if_pos hmod, List.map_set]; exact h)
                      | (rw [if_neg hmod, if_pos ⟨by omega, by rw [e4] at h84; exact_mod_cast h84⟩]; exact h)
                      | (rw [if_neg hmod, if_neg (fun hh => by have := hh.2; rw [e4] at h84; exact h84 (by exact_mod_cast this))]; exact h)
                      | (rw [if_neg hmod, if_neg (by omega)]; exact h))
                refine Wp.draw hmix (fun i => [1, 1, 1, 1, 0, 1, 1, 1, 1, 0, 1, 1, 1, 1, 1, 0, 1, 0, 0, 0, 1, 1, 2].getD i 0) ((Tr w [] [.blk b20 58 [pt tb 0, sl (some g) (mm + i) c2], .blk tb 63 (tabs.map u8)])) (fun _ h => h.drawn _) fun N22 hN22 => ?_
                refine G.p 0 (by kernel_rfl) rfl (Yl.mvP rfl) ?_
                refine G.p 1 (by kernel_rfl) rfl (Yl.mvP rfl) ?_
                refine G.p 2 (by kernel_rfl) rfl (Yl.nilCheck rfl) ?_
                refine G.p 3 (by kernel_rfl) rfl ((by first | exact Yl.fieldAddrZ fo58_1 rfl | exact Yl.fieldAddr fo58_1 rfl)) ?_
                refine G.t 4 (by kernel_rfl) rfl (Yl.load1z na56 rfl (by first | exact Rd.blk (by repeat (first | exact List.Mem.head _ | apply List.Mem.tail)) | exact Rd.row (by repeat (first | exact List.Mem.head _ | apply List.Mem.tail)) | assumption) (by first | rfl | exact getmap (by omega) | assumption)) ?_
                refine G.p 5 (by kernel_rfl) rfl (Yl.sliceArrD Try.underlying59 sz5 rfl .none (by omega)) ?_
                refine G.p 6 (by kernel_rfl) rfl (Yl.mvP rfl) ?_
                refine G.p 7 (by kernel_rfl) rfl (Yl.nilCheck rfl) ?_
                refine G.p 8 (by kernel_rfl) rfl ((by first | exact Yl.fieldAddrZ fo58_1 rfl | exact Yl.fieldAddr fo58_1 rfl)) ?_
                refine G.t 9 (by kernel_rfl) rfl (Yl.load1z na56 rfl (by first | exact Rd.blk (by repeat (first | exact List.Mem.head _ | apply List.Mem.tail)) | exact Rd.row (by repeat (first | exact List.Mem.head _ | apply List.Mem.tail)) | assumption) (by first | rfl | exact getmap (by omega) | assumption)) ?_
                refine G.p 10 (by kernel_rfl) rfl (Yl.mvI rfl) ?_
                refine G.p 11 (by kernel_rfl) rfl (Yl.mvI rfl) ?_
                refine G.p 12 (by kernel_rfl) rfl (Yl.sub rfl rfl (by omega) (by omega)) ?_
                refine G.p 13 (by kernel_rfl) rfl (Yl.indexSlice Try.underlying56 sz59 rfl rfl i (by omega) (by omega)) ?_
                refine G.p 14 (by kernel_rfl) rfl (Yl.sliceArrO Try.underlying59 sz5 rfl (by omega)) ?_
                refine G.run 15 (by kernel_rfl) rfl rfl rfl (Ef.makes bd20 rfl (fun wc hw => c_palfrey_bits_Xor wc _ _ (wordL tabs (expTo tabs key mm i).1 mm (mm + i) (expTo tabs key mm i).2) (((expTo tabs key mm i).1.drop (4 * i)).take 4) _ _ _ _ (hw.rwBlk (by repeat (first | exact List.Mem.head _ | apply List.Mem.tail))) (by rw [List.map_take, List.map_drop, Nat.mul_comm i 4]; exact ((hw.rwRow (ao := some g) (by repeat (first | exact List.Mem.head _ | apply List.Mem.tail))).drop (4 * i)).take 4) (by rw [hVl]) (by rw [hYl]) (by omega))) (by exact ⟨_, trivial, NewH.row1 (Nat.le_refl _) NewH.nil⟩) (fun _ h => h.sub (by repeat (first | exact List.Sublist.refl _ | exact List.nil_sublist _ | apply List.Sublist.cons_cons | apply List.Sublist.cons))) (fun _ _ _ h => h.sub (by repeat (first | exact List.Sublist.refl _ | exact List.nil_sublist _ | apply List.Sublist.cons_cons | apply List.Sublist.cons))) (fun bx => (Tr w [] [.row (some bx) 5 1 (min (wordL tabs (expTo tabs key mm i).1 mm (mm + i) (expTo tabs key mm i).2).length (((expTo tabs key mm i).1.drop (4 * i)).take 4).length) (min (wordL tabs (expTo tabs key mm i).1 mm (mm + i) (expTo tabs key mm i).2).length (((expTo tabs key mm i).1.drop (4 * i)).take 4).length) ((xorL (wordL tabs (expTo tabs key mm i).1 mm (mm + i) (expTo tabs key mm i).2) (((expTo tabs key mm i).1.drop (4 * i)).take 4)).map u8), .blk b20 58 [pt tb 0, sl (some g) (mm + i) c2], .blk tb 63 (tabs.map u8)])) (fun _ _ _ h => h.sub (by repeat (first | exact List.Sublist.refl _ | exact List.nil_sublist _ | apply List.Sublist.cons_cons | apply List.Sublist.cons))) fun bx hbx => ?_
                simp only [En.put, List.cons_append, List.nil_append]
                refine G.p 16 (by kernel_rfl) rfl (Yl.s2ap Try.underlying59 rfl (by omega)) ?_
                refine G.t 17 (by kernel_rfl) rfl (Yl.loadAz ag59 rfl (Rd.row (by repeat (first | exact List.Mem.head _ | apply List.Mem.tail))) (by rw [List.length_map, xorL_len, hVl, hYl]; rfl)) ?_
                refine G.run 18 (by kernel_rfl) rfl rfl rfl (Ef.buildSlice1 Try.underlying56 el59 (by omega) (by omega) rfl (by rw [List.length_map, xorL_len, hVl, hYl]; rfl)) (New.ex _) (fun _ h => h.sub (by repeat (first | exact List.Sublist.refl _ | exact List.nil_sublist _ | apply List.Sublist.cons_cons | apply List.Sublist.cons))) (fun _ _ _ h => h.sub (by repeat (first | exact List.Sublist.refl _ | exact List.nil_sublist _ | apply List.Sublist.cons_cons | apply List.Sublist.cons))) (fun _ => (Tr w [] [.row (some bx) 5 1 (min (wordL tabs (expTo tabs key mm i).1 mm (mm + i) (expTo tabs key mm i).2).length (((expTo tabs key mm i).1.drop (4 * i)).take 4).length) (min (wordL tabs (expTo tabs key mm i).1 mm (mm + i) (expTo tabs key mm i).2).length (((expTo tabs key mm i).1.drop (4 * i)).take 4).length) ((xorL (wordL tabs (expTo tabs key mm i).1 mm (mm + i) (expTo tabs key mm i).2) (((expTo tabs key mm i).1.drop (4 * i)).take 4)).map u8), .blk b20 58 [pt tb 0, sl (some g) (mm + i) c2], .blk tb 63 (tabs.map u8)])) (fun _ _ _ h => h) fun b114 hb114 => ?_
                simp only [En.put, List.cons_append, List.nil_append]
                refine G.run 19 (by kernel_rfl) rfl rfl rfl (Ef.appendS (ao := some g) Try.underlying56 rfl el59 rfl (by repeat (first | exact At.head | apply At.tail)) rfl (RdS.blk (by repeat (first | exact List.Mem.head _ | apply List.Mem.tail))) (by rw [List.length_map, xorL_len, hVl, hYl]; rfl) (one_u8 _) (by omega) (by omega) (by omega) (by omega) (fun j hj => by cases hj; exact .inr hg)) ⟨(_, 0), .inr (Nat.le_refl _)⟩ (fun _ h => h.sub (by repeat (first | exact List.Sublist.refl _ | exact List.nil_sublist _ | apply List.Sublist.cons_cons | apply List.Sublist.cons))) (fun _ _ _ h => h.sub (by repeat (first | exact List.Sublist.refl _ | exact List.nil_sublist _ | apply List.Sublist.cons_cons | apply List.Sublist.cons))) (fun _ => (Tr w [] [.row (some bx) 5 1 (min (wordL tabs (expTo tabs key mm i).1 mm (mm + i) (expTo tabs key mm i).2).length (((expTo tabs key mm i).1.drop (4 * i)).take 4).length) (min (wordL tabs (expTo tabs key mm i).1 mm (mm + i) (expTo tabs key mm i).2).length (((expTo tabs key mm i).1.drop (4 * i)).take 4).length) ((xorL (wordL tabs (expTo tabs key mm i).1 mm (mm + i) (expTo tabs key mm i).2) (((expTo tabs key mm i).1.drop (4 * i)).take 4)).map u8), .blk b20 58 [pt tb 0, sl (some g) (mm + i) c2], .blk tb 63 (tabs.map u8)])) (fun _ _ _ h => h) fun p115 hp115 => ?_
                simp only [En.put, List.cons_append, List.nil_append]
                refine G.p 20 (by kernel_rfl) rfl (Yl.nilCheck rfl) ?_
                refine G.p 21 (by kernel_rfl) rfl ((by first | exact Yl.fieldAddrZ fo58_1 rfl | exact Yl.fieldAddr fo58_1 rfl)) ?_
                refine G.last (by kernel_rfl) (fun _ h => h.sub (by repeat (first | exact List.Sublist.refl _ | exact List.nil_sublist _ | apply List.Sublist.cons_cons | apply List.Sublist.cons))) ?_
                refine G0.run 22 (by kernel_rfl) rfl rfl (Ef.store1b sz56 rfl rfl (by repeat (first | exact At.head | apply At.tail)) (by first | decide | (simp; done) | (simp; omega) | omega) rfl (by first | exact .inr (by assumption) | exact .inl (by simp))) ⟨(), trivial⟩ fun _ _ => ?_
                simp only [En.put, List.cons_append, List.nil_append]
                refine G0.done (by kernel_rfl) (hN22 _ _ _ ?_)
                refine n52 _ _ _ ?_
                refine n51 _ _ _ ?_
                refine Wp.region ?_
                refine Ops.v (Yl.mvI rfl) ?_
                refine Ops.v (Yl.add rfl rfl (by omega) (by omega)) ?_
                refine Ops.v (Yl.asI rfl) ?_
                refine Ops.nil ?_
                refine n48 (i + 1, p115.1, p115.2) _ _ ⟨by omega, hp115.resolve_left (by simp)⟩ ⟨119, rfl⟩ rfl rfl (l2 (congrArg iv (by omega)) (congrArg u8 (by simp only [expTo]; first | rw [if_pos hmod] | rw [if_neg hmod]))) (by omega) (fun _ h => by rw [expTo, List.map_append]; exact h.sub (by repeat (first | exact List.Sublist.refl _ | exact List.nil_sublist _ | apply List.Sublist.cons_cons | apply List.Sublist.cons)))
            ·
              try simp only [decide_eq_true_eq, decide_eq_false_iff_not, Bool.not_eq_true, Bool.not_eq_false, Bool.not_true, Bool.not_false, Bool.not_eq_eq_eq_not, ne_eq, Decidable.not_not] at hg20_2
              refine Ops.guard_no rfl rfl rfl rfl rfl ?_
              refine Ops.guard_no rfl rfl rfl rfl rfl ?_
              refine Ops.guard_no rfl rfl rfl rfl rfl ?_
              refine Ops.guard_no rfl rfl rfl rfl rfl ?_
              refine Ops.v (Yl.pick_f rfl (v := .bool _) rfl) ?_
              refine Ops.v (Yl.asB rfl) ?_
              refine Ops.nil ?_
              refine n60 _ _ _ ?_
              refine Wp.cond_f rfl ?_
              refine Wp.skip ?_
              refine n55 _ _ _ ?_
              refine n54 _ _ _ ?_
              refine Wp.mono (S' := Tr w [] [.blk b9 59 ((wordL tabs (expTo tabs key mm i).1 mm (mm + i) (expTo tabs key mm i).2).map u8), .row (some g) 59 4 (mm + i) c2 ((expTo tabs key mm i).1.map u8), .blk b20 58 [pt tb 0, sl (some g) (mm + i) c2], .blk tb 63 (tabs.map u8)]) ?_ (fun _ h => by
                  rw [wordL, ← hwp]
                  first
                    | (rw [if_pos hmod, List.map_set]; exact h)
                    | (rw [if_neg hmod, if_pos ⟨by omega, by rw [e4] at h84; exact_mod_cast h84⟩]; exact h)
                    | (rw [if_neg hmod, if_neg (fun hh => by have := hh.2; rw [e4] at h84; exact h84 (by exact_mod_cast this))]; exact h)
                    | (rw [if_neg hmod, if_neg (by omega)]; exact h))
              refine Wp.draw hmix (fun i => [1, 1, 1, 1, 0, 1, 1, 1, 1, 0, 1, 1, 1, 1, 1, 0, 1, 0, 0, 0, 1, 1, 2].getD i 0) ((Tr w [] [.blk b20 58 [pt tb 0, sl (some g) (mm + i) c2], .blk tb 63 (tabs.map u8)])) (fun _ h => h.drawn _) fun N22 hN22 => ?_
              refine G.p 0 (by kernel_rfl) rfl (Yl.mvP rfl) ?_
              refine G.p 1 (by kernel_rfl) rfl (Yl.mvP rfl) ?_
              refine G.p 2 (by kernel_rfl) rfl (Yl.nilCheck rfl) ?_
              refine G.p 3 (by kernel_rfl) rfl ((by first | exact Yl.fieldAddrZ fo58_1 rfl | exact Yl.fieldAddr fo58_1 rfl)) ?_
              refine G.t 4 (by kernel_rfl) rfl (Yl.load1z na56 rfl (by first | exact Rd.blk (by repeat (first | exact List.Mem.head _ | apply List.Mem.tail)) | exact Rd.row (by repeat (first | exact List.Mem.head _ | apply List.Mem.tail)) | assumption) (by first | rfl | exact getmap (by omega) | assumption)) ?_
              refine G.p 5 (by kernel_rfl) rfl (Yl.sliceArrD Try.underlying59 sz5 rfl .none (by omega)) ?_
              refine G.p 6 (by kernel_rfl) rfl (Yl.mvP rfl) ?_
              refine G.p 7 (by kernel_rfl) rfl (Yl.nilCheck rfl) ?_
              refine G.p 8 (by kernel_rfl) rfl ((by first | exact Yl.fieldAddrZ fo58_1 rfl | exact Yl.fieldAddr fo58_1 rfl)) ?_
              refine G.t 9 (by kernel_rfl) rfl (Yl.load1z na56 rfl (by first | exact Rd.blk (by repeat (first | exact List.Mem.head _ | apply List.Mem.tail)) | exact Rd.row (by repeat (first | exact List.Mem.head _ | apply List.Mem.tail)) | assumption) (by first | rfl | exact getmap (by omega) | assumption)) ?_
              refine G.p 10 (by kernel_rfl) rfl (Yl.mvI rfl) ?_
              refine G.p 11 (by kernel_rfl) rfl (Yl.mvI rfl) ?_
              refine G.p 12 (by kernel_rfl) rfl (Yl.sub rfl rfl (by omega) (by omega)) ?_
              refine G.p 13 (by kernel_rfl) rfl (Yl.indexSlice Try.underlying56 sz59 rfl rfl i (by omega) (by omega)) ?_
              refine G.p 14 (by kernel_rfl) rfl (Yl.sliceArrO Try.underlying59 sz5 rfl (by omega)) ?_
              refine G.run 15 (by kernel_rfl) rfl rfl rfl (Ef.makes bd20 rfl (fun wc hw => c_palfrey_bits_Xor wc _ _ (wordL tabs (expTo tabs key mm i).1 mm (mm + i) (expTo tabs key mm i).2) (((expTo tabs key mm i).1.drop (4 * i)).take 4) _ _ _ _ (hw.rwBlk (by repeat (first | exact List.Mem.head _ | apply List.Mem.tail))) (by rw [List.map_take, List.map_drop, Nat.mul_comm i 4]; exact ((hw.rwRow (ao := some g) (by repeat (first | exact List.Mem.head _ | apply List.Mem.tail))).drop (4 * i)).take 4) (by rw [hVl]) (by rw [hYl]) (by omega))) (by exact ⟨_, trivial, NewH.row1 (Nat.le_refl _) NewH.nil⟩) (fun _ h => h.sub (by repeat (first | exact List.Sublist.refl _ | exact List.nil_sublist _ | apply List.Sublist.cons_cons | apply List.Sublist.cons))) (fun _ _ _ h => h.sub (by repeat (first | exact List.Sublist.refl _ | exact List.nil_sublist _ | apply List.Sublist.cons_cons | apply List.Sublist.cons))) (fun bx => (Tr w [] [.row (some bx) 5 1 (min (wordL tabs (expTo tabs key mm i).1 mm (mm + i) (expTo tabs key mm i).2).length (((expTo tabs key mm i).1.drop (4 * i)).take 4).length) (min (wordL tabs (expTo tabs key mm i).1 mm (mm + i) (expTo tabs key mm i).2).length (((expTo tabs key mm i).1.drop (4 * i)).take 4).length) ((xorL (wordL tabs (expTo tabs key mm i).1 mm (mm + i) (expTo tabs key mm i).2) (((expTo tabs key mm i).1.drop (4 * i)).take 4)).map u8), .blk b20 58 [pt tb 0, sl (some g) (mm + i) c2], .blk tb 63 (tabs.map u8)])) (fun _ _ _ h => h.sub (by repeat (first | exact List.Sublist.refl _ | exact List.nil_sublist _ | apply List.Sublist.cons_cons | apply List.Sublist.cons))) fun bx hbx => ?_
              simp only [En.put, List.cons_append, List.nil_append]
              refine G.p 16 (by kernel_rfl) rfl (Yl.s2ap Try.underlying59 rfl (by omega)) ?_
              refine G.t 17 (by kernel_rfl) rfl (Yl.loadAz ag59 rfl (Rd.row (by repeat (first | exact List.Mem.head _ | apply List.Mem.tail))) (by rw [List.length_map, xorL_len, hVl, hYl]; rfl)) ?_
              refine G.run 18 (by kernel_rfl) rfl rfl rfl (Ef.buildSlice1 Try.underlying56 el59 (by omega) (by omega) rfl (by rw [List.length_map, xorL_len, hVl, hYl]; rfl)) (New.ex _) (fun _ h => h.sub (by repeat (first | exact List.Sublist.refl _ | exact List.nil_sublist _ | apply List.Sublist.cons_cons | apply List.Sublist.cons))) (fun _ _ _ h => h.sub (by repeat (first | exact List.Sublist.refl _ | exact List.nil_sublist _ | apply List.Sublist.cons_cons | apply List.Sublist.cons))) (fun _ => (Tr w [] [.row (some bx) 5 1 (min (wordL tabs (expTo tabs key mm i).1 mm (mm + i) (expTo tabs key mm i).2).length (((expTo tabs key mm i).1.drop (4 * i)).take 4).length) (min (wordL tabs (expTo tabs key mm i).1 mm (mm + i) (expTo tabs key mm i).2).length (((expTo tabs key mm i).1.drop (4 * i)).take 4).length) ((xorL (wordL tabs (expTo tabs key mm i).1 mm (mm + i) (expTo tabs key mm i).2) (((expTo tabs key mm i).1.drop (4 * i)).take 4)).map u8), .blk b20 58 [pt tb 0, sl (some g) (mm + i) c2], .blk tb 63 (tabs.map u8)])) (fun _ _ _ h => h) fun b114 hb114 => ?_
              simp only [En.put, List.cons_append, List.nil_append]
              refine G.run 19 (by kernel_rfl) rfl rfl rfl (Ef.appendS (ao := some g) Try.underlying56 rfl el59 rfl (by repeat (first | exact At.head | apply At.tail)) rfl (RdS.blk (by repeat (first | exact List.Mem.head _ | apply List.Mem.tail))) (by rw [List.length_map, xorL_len, hVl, hYl]; rfl) (one_u8 _) (by omega) (by omega) (by omega) (by omega) (fun j hj => by cases hj; exact .inr hg)) ⟨(_, 0), .inr (Nat.le_refl _)⟩ (fun _ h => h.sub (by repeat (first | exact List.Sublist.refl _ | exact List.nil_sublist _ | apply List.Sublist.cons_cons | apply List.Sublist.cons))) (fun _ _ _ h => h.sub (by repeat (first | exact List.Sublist.refl _ | exact List.nil_sublist _ | apply List.Sublist.cons_cons | apply List.Sublist.cons))) (fun _ => (Tr w [] [.row (some bx) 5 1 (min (wordL tabs (expTo tabs key mm i).1 mm (mm + i) (expTo tabs key mm i).2).length (((expTo tabs key mm i).1.drop (4 * i)).take 4).length) (min (wordL tabs (expTo tabs key mm i).1 mm (mm + i) (expTo tabs key mm i).2).length (((expTo tabs key mm i).1.drop (4 * i)).take 4).length) ((xorL (wordL tabs (expTo tabs key mm i).1 mm (mm + i) (expTo tabs key mm i).2) (((expTo tabs key mm i).1.drop (4 * i)).take 4)).map u8), .blk b20 58 [pt tb 0, sl (some g) (mm + i) c2], .blk tb 63 (tabs.map u8)])) (fun _ _ _ h => h) fun p115 hp115 => ?_
              simp only [En.put, List.cons_append, List.nil_append]
              refine G.p 20 (by kernel_rfl) rfl (Yl.nilCheck rfl) ?_
              refine G.p 21 (by kernel_rfl) rfl ((by first | exact Yl.fieldAddrZ fo58_1 rfl | exact Yl.fieldAddr fo58_1 rfl)) ?_
              refine G.last (by kernel_rfl) (fun _ h => h.sub (by repeat (first | exact List.Sublist.refl _ | exact List.nil_sublist _ | apply List.Sublist.cons_cons | apply List.Sublist.cons))) ?_
              refine G0.run 22 (by kernel_rfl) rfl rfl (Ef.store1b sz56 rfl rfl (by repeat (first | exact At.head | apply At.tail)) (by first | decide | (simp; done) | (simp; omega) | omega) rfl (by first | exact .inr (by assumption) | exact .inl (by simp))) ⟨(), trivial⟩ fun _ _ => ?_
              simp only [En.put, List.cons_append, List.nil_append]
              refine G0.done (by kernel_rfl) (hN22 _ _ _ ?_)
              refine n52 _ _ _ ?_
              refine n51 _ _ _ ?_
              refine Wp.region ?_
              refine Ops.v (Yl.mvI rfl) ?_
              refine Ops.v (Yl.add rfl rfl (by omega) (by omega)) ?_
              refine Ops.v (Yl.asI rfl) ?_
              refine Ops.nil ?_
              refine n48 (i + 1, p115.1, p115.2) _ _ ⟨by omega, hp115.resolve_left (by simp)⟩ ⟨119, rfl⟩ rfl rfl (l2 (congrArg iv (by omega)) (congrArg u8 (by simp only [expTo]; first | rw [if_pos hmod] | rw [if_neg hmod]))) (by omega) (fun _ h => by rw [expTo, List.map_append]; exact h.sub (by repeat (first | exact List.Sublist.refl _ | exact List.nil_sublist _ | apply List.Sublist.cons_cons | apply List.Sublist.cons)))
        ·
          try simp only [decide_eq_true_eq, decide_eq_false_iff_not, Bool.not_eq_true, Bool.not_eq_false, Bool.not_true, Bool.not_false, Bool.not_eq_eq_eq_not, ne_eq, Decidable.not_not] at h49
          refine Wp.exit ?_
          refine r49 _ _ _ _ (by simp) ?_
          refine r48 _ _ _ _ (by simp) ?_
          refine x47 _ _ _ ?_
          refine n45 _ _ _ ?_
          refine Wp.seq fun K61 n61 r61 => ?_
          refine Wp.region ?_
          refine Ops.v (Yl.mvP rfl) ?_
          refine Ops.v (Yl.asP rfl) ?_
          refine Ops.v (Yl.asI rfl) ?_
          refine Ops.nil ?_
          refine n61 _ _ _ ?_
          refine Wp.ret ?_
          refine (hK _ _ _ ⟨119, rfl⟩ (Res.two ⟨119, rfl⟩ rfl rfl rfl) ?_).1
          obtain rfl : i = 3 * mm + 28 := by omega
          exact fun w' h => ⟨(b20, tb, g, c2), trivial, NewH.row1 hg (NewH.blk hb20 (NewH.blk (htb.2.hd _ rfl) NewH.nil)), rfl, by simp only [expandL, e5, show 4 * (mm + 7) = mm + (3 * mm + 28) from by omega]; exact h⟩

end Go.Proofs.Ytiimjkpcljelpaa

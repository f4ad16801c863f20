/- Walks of functions. -/
import Derived.Test.YtiimjkpcljelpaaFb
set_option maxRecDepth 10000
open Go.RowKit Go.Eng
set_option linter.unusedSimpArgs false
set_option linter.unusedVariables false
namespace Go.Proofs.Ytiimjkpcljelpaa

theorem c_palfrey_aes_mix (w : World) (b m : Nat) (xs : List B8) (T : TypeId) (hb : (Hl.blk b T (xs.map u8)).holds w) (hx : xs.length = 16) (hm : m ≤ 100) : Turns Try.prog 17 #[pt b 0, iv m] w b (fun _ : Unit => True) (fun _ => .tuple #[]) (fun _ => .blk b T ((mixL m xs).map u8)) (fun _ => []) := by
  refine Calls.enter (S := Tr w [b] [.blk b T (xs.map u8)]) Try.func17 rfl (Tr.start1 [b] hb) (fun K hK => ?_)
  refine Wp.seq fun K1 n1 r1 => ?_
  refine Wp.region ?_
  refine Ops.v (Yl.mvI rfl) ?_
  refine Ops.nil ?_
  refine n1 _ _ _ ?_
  refine Wp.block fun K2 n2 x2 r2 => ?_
  skip
  refine Wp.loopI 1 [4, 5, 6, 7, 8, 9, 10, 11, 12, 13, 14, 15, 16, 17, 18, 19, 20, 21, 22, 23, 24, 25, 26, 27, 28, 29] [6] (fun (k : Nat) => k ≤ 4) (fun (k : Nat) => [iv k]) (fun (k : Nat) => Tr w [b] [.blk b T ((mixTo m xs k).map u8)]) (fun (k : Nat) => 4 - k) (0) (by omega) (fun _ => rfl) rfl (fun _ h => h) ?_
  intro k hI3 J3 K3 n3 r3
  try dsimp only at hI3 n3 ⊢
  have hlen : (mixTo m xs k).length = 16 := mixTo_len m xs hx k (by omega)
  refine Wp.seq fun K4 n4 r4 => ?_
  refine Wp.region ?_
  refine Ops.v (Yl.lss rfl rfl) ?_
  refine Ops.nil ?_
  refine n4 _ _ _ ?_
  refine Wp.seq fun K5 n5 r5 => ?_
  refine Wp.cond _ rfl (fun h7 => ?_) (fun h7 => ?_)
  ·
    try simp only [decide_eq_true_eq, decide_eq_false_iff_not, Bool.not_eq_true, Bool.not_eq_false, Bool.not_true, Bool.not_false, Bool.not_eq_eq_eq_not, ne_eq, Decidable.not_not] at h7
    refine Wp.skip ?_
    refine n5 _ _ _ ?_
    refine Wp.seq fun K6 n6 r6 => ?_
    refine Wp.block fun K7 n7 x7 r7 => ?_
    refine Wp.seq fun K8 n8 r8 => ?_
    refine Wp.region ?_
    refine Ops.v (Yl.mvI rfl) ?_
    refine Ops.v (Yl.asI rfl) ?_
    refine Ops.nil ?_
    refine n8 _ _ _ ?_
    refine Wp.seq fun K9 n9 r9 => ?_
    refine Wp.region ?_
    refine Ops.v (Yl.mvP rfl) ?_
    refine Ops.v (Yl.nilCheck rfl) ?_
    refine Ops.v (Yl.mvI rfl) ?_
    refine Ops.v (Yl.mul rfl rfl (by omega) (by omega)) ?_
    refine Ops.v (Yl.sliceArrD Try.underlying33 sz5 rfl (.some (i := 4 * k) rfl (by omega)) (by omega)) ?_
    refine Ops.v (Yl.s2ap Try.underlying59 rfl (by omega)) ?_
    refine Ops.v (Yl.loadAp ag59 rfl (Rd.blk (by repeat (first | exact List.Mem.head _ | apply List.Mem.tail))) ((((mixTo m xs k).drop (4 * k)).take 4).map u8) (by rw [List.map_take, List.map_drop]) (by rw [List.length_map, List.length_take, List.length_drop, hlen]; omega)) ?_
    refine Ops.f (Ef.alloc zo59) (New.ex _) fun b5 hb5 => ?_
    refine Ops.s (Ef.storeU (((mixTo m xs k).drop (4 * k)).take 4) sz59 rfl rfl (by repeat (first | exact At.head | apply At.tail)) (by rw [List.length_take, List.length_drop, hlen]; omega) (by simp) (.inr hb5)) ?_
    refine Ops.nil ?_
    refine n9 _ _ _ ?_
    refine Wp.seq fun K10 n10 r10 => ?_
    refine Wp.seq fun K11 n11 r11 => ?_
    refine Wp.region ?_
    refine Ops.v (Yl.mvI rfl) ?_
    refine Ops.v (Yl.mvI rfl) ?_
    refine Ops.nil ?_
    refine n11 _ _ _ ?_
    refine Wp.block fun K12 n12 x12 r12 => ?_
    have hl4 : ∀ j, (mixedN (((mixTo m xs k).drop (4 * k)).take 4) j).length = 4 := fun j => mixedN_len _ _ (by rw [List.length_take, List.length_drop, hlen]; omega)
    refine Wp.loopI 2 [17, 18, 19, 20, 21] [17] (fun (j : Nat) => j ≤ m) (fun (j : Nat) => [iv j]) (fun (j : Nat) => Tr w [b] [.blk b5 59 ((mixedN (((mixTo m xs k).drop (4 * k)).take 4) j).map u8), .blk b T ((mixTo m xs k).map u8)]) (fun (j : Nat) => m - j) (0) (by omega) (fun _ => rfl) rfl (fun _ h => h) ?_
    intro j hI13 J13 K13 n13 r13
    try dsimp only at hI13 n13 ⊢
    refine Wp.seq fun K14 n14 r14 => ?_
    refine Wp.region ?_
    refine Ops.v (Yl.lss rfl rfl) ?_
    refine Ops.nil ?_
    refine n14 _ _ _ ?_
    refine Wp.seq fun K15 n15 r15 => ?_
    refine Wp.cond _ rfl (fun h18 => ?_) (fun h18 => ?_)
    ·
      try simp only [decide_eq_true_eq, decide_eq_false_iff_not, Bool.not_eq_true, Bool.not_eq_false, Bool.not_true, Bool.not_false, Bool.not_eq_eq_eq_not, ne_eq, Decidable.not_not] at h18
      refine Wp.skip ?_
      refine n15 _ _ _ ?_
      refine Wp.seq fun K16 n16 r16 => ?_
      refine Wp.block fun K17 n17 x17 r17 => ?_
      refine Wp.region ?_
      refine Ops.v (Yl.loadAz ag59 rfl (by first | exact Rd.blk (by repeat (first | exact List.Mem.head _ | apply List.Mem.tail)) | exact Rd.row (by repeat (first | exact List.Mem.head _ | apply List.Mem.tail)) | assumption) (by rw [List.length_map, hl4])) ?_
      refine Ops.f (Ef.pure bd27 rfl (fun wc hw => c_palfrey_aes_mixed wc _ (hl4 j))) ⟨(), trivial⟩ fun _ _ => ?_
      refine Ops.s (Ef.storeU (mixedL (mixedN (((mixTo m xs k).drop (4 * k)).take 4) j)) sz59 rfl rfl (by repeat (first | exact At.head | apply At.tail)) (by simp [mixedL]) (by rw [List.length_map, hl4]) (.inr hb5)) ?_
      refine Ops.nil ?_
      refine n17 _ _ _ ?_
      refine n16 _ _ _ ?_
      refine Wp.region ?_
      refine Ops.v (Yl.add rfl rfl (by omega) (by omega)) ?_
      refine Ops.v (Yl.mvI rfl) ?_
      refine Ops.nil ?_
      refine n13 (j + 1) _ _ (by omega) ⟨30, rfl⟩ rfl rfl (l1 (congrArg iv (by omega))) (by omega) (fun _ h => h)
    ·
      try simp only [decide_eq_true_eq, decide_eq_false_iff_not, Bool.not_eq_true, Bool.not_eq_false, Bool.not_true, Bool.not_false, Bool.not_eq_eq_eq_not, ne_eq, Decidable.not_not] at h18
      refine Wp.exit ?_
      refine r15 _ _ _ _ (by simp) ?_
      refine r13 _ _ _ _ (by simp) ?_
      refine x12 _ _ _ ?_
      refine n10 _ _ _ ?_
      refine Wp.drawS hmix (fun i => [1, 1, 1, 1, 1, 1, 2].getD i 0) (fun _ h => h.drawn _) fun N8 hN8 => ?_
      obtain rfl : j = m := by omega
      refine G.p 0 (by kernel_rfl) rfl (Yl.mvP rfl) ?_
      refine G.p 1 (by kernel_rfl) rfl (Yl.nilCheck rfl) ?_
      refine G.p 2 (by kernel_rfl) rfl (Yl.mvI rfl) ?_
      refine G.p 3 (by kernel_rfl) rfl (Yl.mul rfl rfl (by omega) (by omega)) ?_
      refine G.p 4 (by kernel_rfl) rfl (Yl.sliceArrD Try.underlying33 sz5 rfl (.some (i := 4 * k) rfl (by omega)) (by omega)) ?_
      refine G.p 5 (by kernel_rfl) rfl (Yl.sliceArr Try.underlying59 sz5 rfl .none .none .none (by first | exact .inl rfl | exact .inr (by simp)) (by omega) (by omega) (by omega) (by omega)) ?_
      refine G.last (by kernel_rfl) (fun _ h => h) ?_
      refine G0.run 6 (by kernel_rfl) rfl rfl (Ef.copy Try.underlying23 rfl sz5 rfl rfl (RdS.blk (by repeat (first | exact List.Mem.head _ | apply List.Mem.tail))) (by rw [List.length_map, hl4]; omega) (one_u8 _) (by repeat (first | exact At.head | apply At.tail)) .blk rfl (by rw [List.length_map, hl4, List.length_map, hlen]; omega) (.inl (by simp))) ⟨(), trivial⟩ fun _ _ => ?_
      simp only [En.put, List.cons_append, List.nil_append]
      refine G0.done (by kernel_rfl) (hN8 _ _ _ ?_)
      refine n7 _ _ _ ?_
      refine n6 _ _ _ ?_
      refine Wp.region ?_
      refine Ops.v (Yl.add rfl rfl (by omega) (by omega)) ?_
      refine Ops.v (Yl.mvI rfl) ?_
      refine Ops.nil ?_
      refine n3 (k + 1) _ _ (by omega) ⟨30, rfl⟩ rfl rfl (l1 (congrArg iv (by omega))) (by omega) (fun _ h => by rw [List.length_map, hl4] at h; rw [mixTo, List.map_append, List.map_append, List.map_take, List.map_drop]; exact h.sub (by repeat (first | exact List.Sublist.refl _ | exact List.nil_sublist _ | apply List.Sublist.cons_cons | apply List.Sublist.cons)))
  ·
    try simp only [decide_eq_true_eq, decide_eq_false_iff_not, Bool.not_eq_true, Bool.not_eq_false, Bool.not_true, Bool.not_false, Bool.not_eq_eq_eq_not, ne_eq, Decidable.not_not] at h7
    refine Wp.exit ?_
    refine r5 _ _ _ _ (by simp) ?_
    refine r3 _ _ _ _ (by simp) ?_
    refine x2 _ _ _ ?_
    refine (hK _ _ _ ⟨30, rfl⟩ (Res.none rfl) ?_).2
    obtain rfl : k = 4 := by omega
    exact fun w' h => ⟨(), trivial, NewH.nil, rfl, rfl, h⟩

theorem c___palfrey_aes_Keys__Encrypt (w : World) (kb : Nat) (tab ws xs : List B8) (r : Nat) (hk : KeysAt w [] kb tab ws r) (hx : xs.length = 16) (hr : 1 ≤ r) : Pure Try.prog 7 #[pt kb 0, .agg (xs.map u8).toArray] w (.agg ((enc tab ws r xs).map u8).toArray) := by
  have hr9 : r ≤ 100 := by obtain ⟨_, _, _, _, _, _, _, _, _, _, _, _, _, _, _, _, h⟩ := hk; exact h
  refine Calls.enter (S := Tr w [] []) Try.func7 rfl (Tr.refl w []) (fun K hK => ?_)
  refine Wp.seq fun K1 n1 r1 => ?_
  refine Wp.region ?_
  refine Ops.f (Ef.boxA rfl) (New.ex _) fun b3 hb3 => ?_
  refine Ops.f (Ef.alloc zo33) (New.ex _) fun b4 hb4 => ?_
  refine Ops.nil ?_
  refine n1 _ _ _ ?_
  refine Wp.seq fun K2 n2 r2 => ?_
  refine Wp.region ?_
  refine Ops.v (Yl.mvP rfl) ?_
  refine Ops.f (Ef.pure bd13 rfl (fun wc hw => c___palfrey_aes_Keys__Rounds wc kb tab ws r (hk.keep hw))) ⟨(), trivial⟩ fun _ _ => ?_
  refine Ops.v (Yl.asI rfl) ?_
  refine Ops.nil ?_
  refine n2 _ _ _ ?_
  refine Wp.seq fun K3 n3 r3 => ?_
  refine Wp.seq fun K4 n4 r4 => ?_
  refine Wp.region ?_
  refine Ops.v (Yl.mvI rfl) ?_
  refine Ops.v (Yl.eql rfl rfl) ?_
  refine Ops.nil ?_
  refine n4 _ _ _ ?_
  refine Wp.cond _ rfl (fun h10 => ?_) (fun h10 => ?_)
  ·
    try simp only [decide_eq_true_eq, decide_eq_false_iff_not, Bool.not_eq_true, Bool.not_eq_false, Bool.not_true, Bool.not_false, Bool.not_eq_eq_eq_not, ne_eq, Decidable.not_not] at h10
    omega
  ·
    try simp only [decide_eq_true_eq, decide_eq_false_iff_not, Bool.not_eq_true, Bool.not_eq_false, Bool.not_true, Bool.not_false, Bool.not_eq_eq_eq_not, ne_eq, Decidable.not_not] at h10
    refine Wp.skip ?_
    refine n3 _ _ _ ?_
    refine Wp.seq fun K5 n5 r5 => ?_
    refine Wp.region ?_
    refine Ops.v (Yl.mvP rfl) ?_
    refine Ops.f (Ef.turns (h := .blk b3 _ _) bd14 rfl (by repeat (first | exact At.head | apply At.tail)) rfl (.inr hb3) (fun wc hw => c___palfrey_aes_Keys__add wc kb b3 0 tab ws xs r _ (hk.keepB hw hb3) (hw.sat _ (by repeat (first | exact List.Mem.head _ | apply List.Mem.tail))) hx (by omega))) (by exact ⟨(), trivial, NewH.nil⟩) fun _ _ => ?_
    refine Ops.nil ?_
    refine n5 _ _ _ ?_
    refine Wp.seq fun K6 n6 r6 => ?_
    refine Wp.seq fun K7 n7 r7 => ?_
    refine Wp.region ?_
    refine Ops.v (Yl.asI rfl) ?_
    refine Ops.nil ?_
    refine n7 _ _ _ ?_
    refine Wp.block fun K8 n8 x8 r8 => ?_
    skip
    refine Wp.loopI 1 [6, 14, 15, 16, 17, 18, 19, 20, 21, 22, 23, 24, 25, 26, 27, 28, 29, 30] [6] (fun (k : Nat) => k ≤ r) (fun (k : Nat) => [iv ((k + 1 : Nat) : Int)]) (fun (k : Nat) => Tr w [] [.blk b4 33 ((List.replicate 16 0#8).map u8), .blk b3 33 ((encTo tab ws r xs k).map u8)]) (fun (k : Nat) => r - k) (0) (by omega) (fun _ => rfl) rfl (fun _ h => h) ?_
    intro k hI9 J9 K9 n9 r9
    try dsimp only at hI9 n9 ⊢
    have hlen : (encTo tab ws r xs k).length = 16 := encTo_len tab ws r xs k
    refine Wp.seq fun K10 n10 r10 => ?_
    refine Wp.seq fun K11 n11 r11 => ?_
    refine Wp.region ?_
    refine Ops.v (Yl.mvI rfl) ?_
    refine Ops.v (Yl.mvI rfl) ?_
    refine Ops.v (Yl.leq rfl rfl) ?_
    refine Ops.nil ?_
    refine n11 _ _ _ ?_
    refine Wp.cond _ rfl (fun h16 => ?_) (fun h16 => ?_)
    ·
      try simp only [decide_eq_true_eq, decide_eq_false_iff_not, Bool.not_eq_true, Bool.not_eq_false, Bool.not_true, Bool.not_false, Bool.not_eq_eq_eq_not, ne_eq, Decidable.not_not] at h16
      refine Wp.skip ?_
      refine n10 _ _ _ ?_
      refine Wp.seq fun K12 n12 r12 => ?_
      refine Wp.block fun K13 n13 x13 r13 => ?_
      refine Wp.seq fun K14 n14 r14 => ?_
      refine Wp.region ?_
      refine Ops.v (Yl.mvP rfl) ?_
      refine Ops.v (Yl.sliceArrD Try.underlying33 sz5 rfl .none (by omega)) ?_
      refine Ops.f (Ef.turns (h := .blk b3 _ _) bd15 rfl (by repeat (first | exact At.head | apply At.tail)) rfl (.inr hb3) (fun wc hw => c___palfrey_aes_Keys__subs wc kb b3 _ _ tab (encTo tab ws r xs k) _ (hk.keepB hw hb3).tab (hw.sat _ (by repeat (first | exact List.Mem.head _ | apply List.Mem.tail))) (by rw [hlen]) (by omega))) (by exact ⟨(), trivial, NewH.nil⟩) fun _ _ => ?_
      refine Ops.nil ?_
      refine n14 _ _ _ ?_
      refine Wp.seq fun K15 n15 r15 => ?_
      refine Wp.region ?_
      refine Ops.v (Yl.loadAz ag33 rfl (by first | exact Rd.blk (by repeat (first | exact List.Mem.head _ | apply List.Mem.tail)) | exact Rd.row (by repeat (first | exact List.Mem.head _ | apply List.Mem.tail)) | assumption) (by rw [List.length_map, subL_len, hlen])) ?_
      refine Ops.f (Ef.pure bd16 rfl (fun wc hw => c_palfrey_aes_shift wc _ (by rw [subL_len, hlen]))) ⟨(), trivial⟩ fun _ _ => ?_
      refine Ops.s (Ef.storeU (shiftL (subL tab (encTo tab ws r xs k))) sz33 rfl rfl (by repeat (first | exact At.head | apply At.tail)) (shiftL_len _) (by rw [List.length_map, subL_len, hlen]) (.inr hb3)) ?_
      refine Ops.nil ?_
      refine n15 _ _ _ ?_
      refine Wp.seq fun K16 n16 r16 => ?_
      refine Wp.seq fun K17 n17 r17 => ?_
      refine Wp.region ?_
      refine Ops.v (Yl.mvI rfl) ?_
      refine Ops.v (Yl.mvI rfl) ?_
      refine Ops.v (Yl.lss rfl rfl) ?_
      refine Ops.nil ?_
      refine n17 _ _ _ ?_
      refine Wp.cond _ rfl (fun h26 => ?_) (fun h26 => ?_)
      ·
        try simp only [decide_eq_true_eq, decide_eq_false_iff_not, Bool.not_eq_true, Bool.not_eq_false, Bool.not_true, Bool.not_false, Bool.not_eq_eq_eq_not, ne_eq, Decidable.not_not] at h26
        refine Wp.region ?_
        refine Ops.f (Ef.turns (h := .blk b3 _ _) bd17 rfl (by repeat (first | exact At.head | apply At.tail)) rfl (.inr hb3) (fun wc hw => c_palfrey_aes_mix wc b3 1 (shiftL (subL tab (encTo tab ws r xs k))) _ (hw.sat _ (by repeat (first | exact List.Mem.head _ | apply List.Mem.tail))) (shiftL_len _) (by omega))) (by exact ⟨(), trivial, NewH.nil⟩) fun _ _ => ?_
        refine Ops.nil ?_
        refine n16 _ _ _ ?_
        refine Wp.region ?_
        refine Ops.v (Yl.mvP rfl) ?_
        refine Ops.v (Yl.mvI rfl) ?_
        first
          | refine Ops.f (Ef.turns (h := .blk b3 _ _) bd14 rfl (by repeat (first | exact At.head | apply At.tail)) rfl (.inr hb3) (fun wc hw => c___palfrey_aes_Keys__add wc kb b3 (k + 1) tab ws (mixL 1 (shiftL (subL tab (encTo tab ws r xs k)))) r _ (hk.keepB hw hb3) (hw.sat _ (by repeat (first | exact List.Mem.head _ | apply List.Mem.tail))) (mixL_len _ _ (shiftL_len _)) (by omega))) (by exact ⟨(), trivial, NewH.nil⟩) fun _ _ => ?_
          | refine Ops.f (Ef.turns (h := .blk b3 _ _) bd14 rfl (by repeat (first | exact At.head | apply At.tail)) rfl (.inr hb3) (fun wc hw => c___palfrey_aes_Keys__add wc kb b3 (k + 1) tab ws (shiftL (subL tab (encTo tab ws r xs k))) r _ (hk.keepB hw hb3) (hw.sat _ (by repeat (first | exact List.Mem.head _ | apply List.Mem.tail))) (shiftL_len _) (by omega))) (by exact ⟨(), trivial, NewH.nil⟩) fun _ _ => ?_
        refine Ops.nil ?_
        refine n13 _ _ _ ?_
        refine n12 _ _ _ ?_
        refine Wp.region ?_
        refine Ops.v (Yl.mvI rfl) ?_
        refine Ops.v (Yl.add rfl rfl (by omega) (by omega)) ?_
        refine Ops.v (Yl.asI rfl) ?_
        refine Ops.nil ?_
        refine n9 (k + 1) _ _ (by omega) ⟨32, rfl⟩ rfl rfl (l1 (congrArg iv (by omega))) (by omega) (fun _ h => by first | (rw [encTo, if_pos (by omega)]; exact h) | (rw [encTo, if_neg (by omega)]; exact h))
      ·
        try simp only [decide_eq_true_eq, decide_eq_false_iff_not, Bool.not_eq_true, Bool.not_eq_false, Bool.not_true, Bool.not_false, Bool.not_eq_eq_eq_not, ne_eq, Decidable.not_not] at h26
        refine Wp.skip ?_
        refine n16 _ _ _ ?_
        refine Wp.region ?_
        refine Ops.v (Yl.mvP rfl) ?_
        refine Ops.v (Yl.mvI rfl) ?_
        first
          | refine Ops.f (Ef.turns (h := .blk b3 _ _) bd14 rfl (by repeat (first | exact At.head | apply At.tail)) rfl (.inr hb3) (fun wc hw => c___palfrey_aes_Keys__add wc kb b3 (k + 1) tab ws (mixL 1 (shiftL (subL tab (encTo tab ws r xs k)))) r _ (hk.keepB hw hb3) (hw.sat _ (by repeat (first | exact List.Mem.head _ | apply List.Mem.tail))) (mixL_len _ _ (shiftL_len _)) (by omega))) (by exact ⟨(), trivial, NewH.nil⟩) fun _ _ => ?_
          | refine Ops.f (Ef.turns (h := .blk b3 _ _) bd14 rfl (by repeat (first | exact At.head | apply At.tail)) rfl (.inr hb3) (fun wc hw => c___palfrey_aes_Keys__add wc kb b3 (k + 1) tab ws (shiftL (subL tab (encTo tab ws r xs k))) r _ (hk.keepB hw hb3) (hw.sat _ (by repeat (first | exact List.Mem.head _ | apply List.Mem.tail))) (shiftL_len _) (by omega))) (by exact ⟨(), trivial, NewH.nil⟩) fun _ _ => ?_
        refine Ops.nil ?_
        refine n13 _ _ _ ?_
        refine n12 _ _ _ ?_
        refine Wp.region ?_
        refine Ops.v (Yl.mvI rfl) ?_
        refine Ops.v (Yl.add rfl rfl (by omega) (by omega)) ?_
        refine Ops.v (Yl.asI rfl) ?_
        refine Ops.nil ?_
        refine n9 (k + 1) _ _ (by omega) ⟨32, rfl⟩ rfl rfl (l1 (congrArg iv (by omega))) (by omega) (fun _ h => by first | (rw [encTo, if_pos (by omega)]; exact h) | (rw [encTo, if_neg (by omega)]; exact h))
    ·
      try simp only [decide_eq_true_eq, decide_eq_false_iff_not, Bool.not_eq_true, Bool.not_eq_false, Bool.not_true, Bool.not_false, Bool.not_eq_eq_eq_not, ne_eq, Decidable.not_not] at h16
      refine Wp.exit ?_
      refine r10 _ _ _ _ (by simp) ?_
      refine r9 _ _ _ _ (by simp) ?_
      refine x8 _ _ _ ?_
      refine n6 _ _ _ ?_
      refine Wp.seq fun K18 n18 r18 => ?_
      refine Wp.region ?_
      obtain rfl : k = r := by omega
      refine Ops.v (Yl.loadAz ag33 rfl (by first | exact Rd.blk (by repeat (first | exact List.Mem.head _ | apply List.Mem.tail)) | exact Rd.row (by repeat (first | exact List.Mem.head _ | apply List.Mem.tail)) | assumption) (by rw [List.length_map, encTo_len])) ?_
      refine Ops.s (Ef.storeU (encTo tab ws k xs k) sz33 rfl rfl (by repeat (first | exact At.head | apply At.tail)) (encTo_len _ _ _ _ _) (by simp) (.inr hb4)) ?_
      refine Ops.nil ?_
      refine n18 _ _ _ ?_
      refine Wp.ret ?_
      refine (hK _ _ _ ⟨32, rfl⟩ (Res.cellM ⟨32, rfl⟩ rfl rfl (by repeat (first | exact List.Mem.head _ | apply List.Mem.tail)) ag33 (by rw [List.length_map, encTo_len])) ?_).1
      exact fun w' h => ⟨rfl, h.clear⟩

end Go.Proofs.Ytiimjkpcljelpaa

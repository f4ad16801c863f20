/- Walks of functions. -/
import Derived.Test.YtiimjkpcljelpaaFa
set_option maxRecDepth 10000
open Go.RowKit Go.Eng
set_option linter.unusedSimpArgs false
set_option linter.unusedVariables false
namespace Go.Proofs.Ytiimjkpcljelpaa

theorem c_palfrey_aes_double (w : World) (x : BitVec 8) : Pure Try.prog 26 #[u8 x] w (u8 (dbl x)) := by
  refine Calls.enter (S := Tr w [] []) Try.func26 rfl (Tr.refl w []) (fun K hK => ?_)
  refine Wp.seq fun K1 n1 r1 => ?_
  refine Wp.region ?_
  refine Ops.v (Yl.assign' (v := u8 0#8) rfl) ?_
  refine Ops.nil ?_
  refine n1 _ _ _ ?_
  refine Wp.seq fun K2 n2 r2 => ?_
  refine Wp.seq fun K3 n3 r3 => ?_
  refine Wp.region ?_
  refine Ops.v (Yl.mvI rfl) ?_
  refine Ops.v (Yl.geq rfl rfl) ?_
  refine Ops.nil ?_
  refine n3 _ _ _ ?_
  refine Wp.cond _ rfl (fun h4 => ?_) (fun h4 => ?_)
  ·
    try simp only [decide_eq_true_eq, decide_eq_false_iff_not, Bool.not_eq_true, Bool.not_eq_false, Bool.not_true, Bool.not_false, Bool.not_eq_eq_eq_not, ne_eq, Decidable.not_not] at h4
    refine Wp.seq fun K4 n4 r4 => ?_
    refine Wp.region ?_
    refine Ops.v (Yl.mvI rfl) ?_
    refine Ops.v (Yl.shl8 1 rfl rfl) ?_
    refine Ops.v (Yl.xor8 (b := 27#8) rfl rfl) ?_
    refine Ops.v (Yl.asI rfl) ?_
    refine Ops.nil ?_
    refine n4 _ _ _ ?_
    refine Wp.ret ?_
    refine r2 _ _ _ _ (by simp) ?_
    refine (hK _ _ _ ⟨10, rfl⟩ (Res.one ⟨10, rfl⟩ rfl rfl) ?_).1
    exact fun w' h => ⟨congrArg (fun z => Ending.returned (u8 z)) (if_pos h4).symm, h⟩
  ·
    try simp only [decide_eq_true_eq, decide_eq_false_iff_not, Bool.not_eq_true, Bool.not_eq_false, Bool.not_true, Bool.not_false, Bool.not_eq_eq_eq_not, ne_eq, Decidable.not_not] at h4
    refine Wp.skip ?_
    refine n2 _ _ _ ?_
    refine Wp.seq fun K5 n5 r5 => ?_
    refine Wp.region ?_
    refine Ops.v (Yl.mvI rfl) ?_
    refine Ops.v (Yl.shl8 1 rfl rfl) ?_
    refine Ops.v (Yl.asI rfl) ?_
    refine Ops.nil ?_
    refine n5 _ _ _ ?_
    refine Wp.ret ?_
    refine (hK _ _ _ ⟨10, rfl⟩ (Res.one ⟨10, rfl⟩ rfl rfl) ?_).1
    exact fun w' h => ⟨congrArg (fun z => Ending.returned (u8 z)) (if_neg (by omega)).symm, h⟩

theorem c_palfrey_aes_turned (w : World) (q : BitVec 8) : Pure Try.prog 35 #[u8 q] w (u8 (trn q 4)) := by
  refine Calls.enter (S := Tr w [] []) Try.func35 rfl (Tr.refl w []) (fun K hK => ?_)
  refine Wp.seq fun K1 n1 r1 => ?_
  refine Wp.region ?_
  refine Ops.v (Yl.assign' (v := u8 0#8) rfl) ?_
  refine Ops.nil ?_
  refine n1 _ _ _ ?_
  refine Wp.seq fun K2 n2 r2 => ?_
  refine Wp.region ?_
  refine Ops.v (Yl.mvI rfl) ?_
  refine Ops.v (Yl.asI rfl) ?_
  refine Ops.nil ?_
  refine n2 _ _ _ ?_
  refine Wp.seq fun K3 n3 r3 => ?_
  refine Wp.seq fun K4 n4 r4 => ?_
  refine Wp.region ?_
  refine Ops.v (Yl.asI rfl) ?_
  refine Ops.nil ?_
  refine n4 _ _ _ ?_
  refine Wp.block fun K5 n5 x5 r5 => ?_
  skip
  refine Wp.loopI 1 [3, 4, 6, 7, 8, 9, 10, 11, 12, 13, 14, 15, 16, 17, 18, 19] [3, 4] (fun (k : Nat) => k ≤ 4) (fun (k : Nat) => [u8 (trn q k), iv (1 + k)]) (fun (k : Nat) => Tr w [] []) (fun (k : Nat) => 4 - k) (0) (by omega) (fun _ => rfl) rfl (fun _ h => h) ?_
  intro k hI6 J6 K6 n6 r6
  try dsimp only at hI6 n6 ⊢
  refine Wp.seq fun K7 n7 r7 => ?_
  refine Wp.seq fun K8 n8 r8 => ?_
  refine Wp.region ?_
  refine Ops.v (Yl.mvI rfl) ?_
  refine Ops.v (Yl.leq rfl rfl) ?_
  refine Ops.nil ?_
  refine n8 _ _ _ ?_
  refine Wp.cond _ rfl (fun h7 => ?_) (fun h7 => ?_)
  ·
    try simp only [decide_eq_true_eq, decide_eq_false_iff_not, Bool.not_eq_true, Bool.not_eq_false, Bool.not_true, Bool.not_false, Bool.not_eq_eq_eq_not, ne_eq, Decidable.not_not] at h7
    refine Wp.skip ?_
    refine n7 _ _ _ ?_
    refine Wp.seq fun K9 n9 r9 => ?_
    refine Wp.block fun K10 n10 x10 r10 => ?_
    refine Wp.drawS hmix (fun i => [1, 1, 1, 1, 1, 1, 1, 1, 1, 1, 1].getD i 0) (fun _ h => h.drawn _) fun N5 hN5 => ?_
    refine G.p 0 (by kernel_rfl) rfl (Yl.mvI rfl) ?_
    refine G.p 1 (by kernel_rfl) rfl (Yl.mvI rfl) ?_
    refine G.p 2 (by kernel_rfl) rfl (Yl.mvI rfl) ?_
    refine G.p 3 (by kernel_rfl) rfl (Yl.shlv8 rfl rfl (by omega)) ?_
    refine G.p 4 (by kernel_rfl) rfl (Yl.mvI rfl) ?_
    refine G.p 5 (by kernel_rfl) rfl (Yl.mvI rfl) ?_
    refine G.p 6 (by kernel_rfl) rfl (Yl.sub rfl rfl (by omega) (by omega)) ?_
    refine G.p 7 (by kernel_rfl) rfl (Yl.shrv8 rfl rfl (by omega)) ?_
    refine G.p 8 (by kernel_rfl) rfl (Yl.or8 rfl rfl) ?_
    refine G.p 9 (by kernel_rfl) rfl (Yl.xor8 rfl rfl) ?_
    refine G.p 10 (by kernel_rfl) rfl (Yl.asI rfl) ?_
    refine G.done (by kernel_rfl) (fun _ h => h) (hN5 _ _ _ ?_)
    refine n10 _ _ _ ?_
    refine n9 _ _ _ ?_
    refine Wp.region ?_
    refine Ops.v (Yl.mvI rfl) ?_
    refine Ops.v (Yl.add rfl rfl (by omega) (by omega)) ?_
    refine Ops.v (Yl.asI rfl) ?_
    refine Ops.nil ?_
    refine n6 (k + 1) _ _ (by omega) ⟨21, rfl⟩ rfl rfl (l2 (congrArg u8 (trn_step q k (by omega))) (congrArg iv (by omega))) (by omega) (fun _ h => h)
  ·
    try simp only [decide_eq_true_eq, decide_eq_false_iff_not, Bool.not_eq_true, Bool.not_eq_false, Bool.not_true, Bool.not_false, Bool.not_eq_eq_eq_not, ne_eq, Decidable.not_not] at h7
    refine Wp.exit ?_
    refine r7 _ _ _ _ (by simp) ?_
    refine r6 _ _ _ _ (by simp) ?_
    refine x5 _ _ _ ?_
    refine n3 _ _ _ ?_
    refine Wp.seq fun K11 n11 r11 => ?_
    refine Wp.region ?_
    refine Ops.v (Yl.mvI rfl) ?_
    refine Ops.v (Yl.asI rfl) ?_
    refine Ops.nil ?_
    refine n11 _ _ _ ?_
    refine Wp.ret ?_
    refine (hK _ _ _ ⟨21, rfl⟩ (Res.one ⟨21, rfl⟩ rfl rfl) ?_).1
    obtain rfl : k = 4 := by omega
    exact fun w' h => ⟨rfl, h⟩

theorem c_palfrey_aes_made (w : World) : Makes Try.prog 25 #[] w (fun _ => True) (fun b : Nat => pt b 0) (fun b => [.blk b 63 (tabs.map u8)]) := by
  refine Calls.enter (S := Tr w [] []) Try.func25 rfl (Tr.refl w []) (fun K hK => ?_)
  refine Wp.seq fun K1 n1 r1 => ?_
  refine Wp.region ?_
  refine Ops.v (Yl.asP rfl) ?_
  refine Ops.nil ?_
  refine n1 _ _ _ ?_
  refine Wp.seq fun K2 n2 r2 => ?_
  refine Wp.region ?_
  refine Ops.v (Yl.buildS' pl63 zo63 rfl) ?_
  refine Ops.f (Ef.boxA rfl) (New.ex _) fun b6 hb6 => ?_
  refine Ops.v (Yl.asP rfl) ?_
  refine Ops.nil ?_
  refine n2 _ _ _ ?_
  refine Wp.seq fun K3 n3 r3 => ?_
  refine Wp.region ?_
  refine Ops.v (Yl.assign' (v := u8 1#8) rfl) ?_
  refine Ops.v (Yl.assign' (v := u8 1#8) rfl) ?_
  refine Ops.nil ?_
  refine n3 _ _ _ ?_
  refine Wp.seq fun K4 n4 r4 => ?_
  refine Wp.seq fun K5 n5 r5 => ?_
  refine Wp.region ?_
  refine Ops.v (Yl.mvI rfl) ?_
  refine Ops.nil ?_
  refine n5 _ _ _ ?_
  refine Wp.block fun K6 n6 x6 r6 => ?_
  skip
  refine Wp.loopI 1 [2, 3, 7, 8, 9, 10, 11, 12, 13, 14, 15, 16, 17, 18, 19, 20, 21, 22, 23, 24, 25, 26, 27, 28, 29, 30, 31, 32, 33, 34, 35, 36, 37] [7, 2, 3] (fun (k : Nat) => k ≤ 255) (fun (k : Nat) => [iv k, u8 (pAt k), u8 (qAt k)]) (fun (k : Nat) => Tr w [] [.blk b6 63 ((thereTo k).map u8)]) (fun (k : Nat) => 255 - k) (0) (by omega) (fun _ => rfl) rfl (fun _ h => h) ?_
  intro k hI7 J7 K7 n7 r7
  try dsimp only at hI7 n7 ⊢
  refine Wp.seq fun K8 n8 r8 => ?_
  refine Wp.region ?_
  refine Ops.v (Yl.lss rfl rfl) ?_
  refine Ops.nil ?_
  refine n8 _ _ _ ?_
  refine Wp.seq fun K9 n9 r9 => ?_
  refine Wp.cond _ rfl (fun h8 => ?_) (fun h8 => ?_)
  ·
    try simp only [decide_eq_true_eq, decide_eq_false_iff_not, Bool.not_eq_true, Bool.not_eq_false, Bool.not_true, Bool.not_false, Bool.not_eq_eq_eq_not, ne_eq, Decidable.not_not] at h8
    refine Wp.skip ?_
    refine n9 _ _ _ ?_
    refine Wp.seq fun K10 n10 r10 => ?_
    refine Wp.block fun K11 n11 x11 r11 => ?_
    refine Wp.seq fun K12 n12 r12 => ?_
    refine Wp.region ?_
    refine Ops.v (Yl.mvI rfl) ?_
    refine Ops.v (Yl.mvI rfl) ?_
    refine Ops.f (Ef.pure bd26 rfl (fun wc hw => c_palfrey_aes_double wc _)) ⟨(), trivial⟩ fun _ _ => ?_
    refine Ops.v (Yl.xor8 rfl rfl) ?_
    refine Ops.v (Yl.asI rfl) ?_
    refine Ops.nil ?_
    refine n12 _ _ _ ?_
    refine Wp.seq fun K13 n13 r13 => ?_
    refine Wp.region ?_
    refine Ops.v (Yl.mvI rfl) ?_
    refine Ops.v (Yl.mvI rfl) ?_
    refine Ops.v (Yl.shl8 1 rfl rfl) ?_
    refine Ops.v (Yl.xor8 rfl rfl) ?_
    refine Ops.v (Yl.asI rfl) ?_
    refine Ops.nil ?_
    refine n13 _ _ _ ?_
    refine Wp.seq fun K14 n14 r14 => ?_
    refine Wp.region ?_
    refine Ops.v (Yl.mvI rfl) ?_
    refine Ops.v (Yl.mvI rfl) ?_
    refine Ops.v (Yl.shl8 2 rfl rfl) ?_
    refine Ops.v (Yl.xor8 rfl rfl) ?_
    refine Ops.v (Yl.asI rfl) ?_
    refine Ops.nil ?_
    refine n14 _ _ _ ?_
    refine Wp.seq fun K15 n15 r15 => ?_
    refine Wp.region ?_
    refine Ops.v (Yl.mvI rfl) ?_
    refine Ops.v (Yl.mvI rfl) ?_
    refine Ops.v (Yl.shl8 4 rfl rfl) ?_
    refine Ops.v (Yl.xor8 rfl rfl) ?_
    refine Ops.v (Yl.asI rfl) ?_
    refine Ops.nil ?_
    refine n15 _ _ _ ?_
    refine Wp.seq fun K16 n16 r16 => ?_
    refine Wp.seq fun K17 n17 r17 => ?_
    refine Wp.region ?_
    refine Ops.v (Yl.mvI rfl) ?_
    refine Ops.v (Yl.geq rfl rfl) ?_
    refine Ops.nil ?_
    refine n17 _ _ _ ?_
    refine Wp.cond _ rfl (fun h26 => ?_) (fun h26 => ?_)
    ·
      try simp only [decide_eq_true_eq, decide_eq_false_iff_not, Bool.not_eq_true, Bool.not_eq_false, Bool.not_true, Bool.not_false, Bool.not_eq_eq_eq_not, ne_eq, Decidable.not_not] at h26
      refine Wp.region ?_
      refine Ops.v (Yl.mvI rfl) ?_
      refine Ops.v (Yl.xor8 (b := 9#8) rfl rfl) ?_
      refine Ops.v (Yl.asI rfl) ?_
      refine Ops.nil ?_
      refine n16 _ _ _ ?_
      refine Wp.drawS hmix (fun i => [1, 1, 1, 0, 1, 1, 1, 1, 2].getD i 0) (fun _ h => h.drawn _) fun N11 hN11 => ?_
      refine G.p 0 (by kernel_rfl) rfl (Yl.mvP rfl) ?_
      refine G.p 1 (by kernel_rfl) rfl (Yl.mvI rfl) ?_
      refine G.p 2 (by kernel_rfl) rfl (Yl.mvI rfl) ?_
      refine G.p 5 (by kernel_rfl) rfl (Yl.nilCheck rfl) ?_
      refine G.p 6 (by kernel_rfl) rfl ((by first | exact Yl.fieldAddrZ fo63_0 rfl | exact Yl.fieldAddr fo63_0 rfl)) ?_
      refine G.runT 3 (by kernel_rfl) rfl rfl rfl (Ef.pure bd35 rfl (fun wc hw => c_palfrey_aes_turned wc _)) ⟨(), trivial⟩ (fun _ h => h) (fun _ _ _ h => h.sub (by first | exact List.Sublist.refl _ | exact List.sublist_cons_self _ _ | exact List.sublist_append_right _ _)) fun _ _ => ?_
      simp only [En.put, List.cons_append, List.nil_append]
      refine G.p 4 (by kernel_rfl) rfl (Yl.xor8 (b := 99#8) rfl rfl) ?_
      refine G.p 7 (by kernel_rfl) rfl (Yl.indexArrZ Try.underlying61 sz5 rfl rfl (pAt (k + 1)).toNat rfl (by have := (pAt (k + 1)).isLt; omega)) ?_
      refine G.last (by kernel_rfl) (fun _ h => h) ?_
      refine G0.run 8 (by kernel_rfl) rfl rfl (Ef.store1b sz5 rfl rfl (by repeat (first | exact At.head | apply At.tail)) (by rw [List.length_map, thereTo_len]; have := (pAt (k + 1)).isLt; omega) rfl (by first | exact .inr (by assumption) | exact .inl (by simp))) ⟨(), trivial⟩ fun _ _ => ?_
      simp only [En.put, List.cons_append, List.nil_append]
      refine G0.done (by kernel_rfl) (hN11 _ _ _ ?_)
      refine n11 _ _ _ ?_
      refine n10 _ _ _ ?_
      refine Wp.region ?_
      refine Ops.v (Yl.add rfl rfl (by omega) (by omega)) ?_
      refine Ops.v (Yl.mvI rfl) ?_
      refine Ops.nil ?_
      have hq : qAt (k + 1) = _ := (if_pos h26 : stepQ (qAt k) = _)
      refine n7 (k + 1) _ _ (by omega) ⟨59, rfl⟩ rfl rfl (l3 (congrArg iv (by omega)) rfl (congrArg u8 hq.symm)) (by omega) (fun _ h => by rw [thereTo, hq, List.map_set]; exact h)
    ·
      try simp only [decide_eq_true_eq, decide_eq_false_iff_not, Bool.not_eq_true, Bool.not_eq_false, Bool.not_true, Bool.not_false, Bool.not_eq_eq_eq_not, ne_eq, Decidable.not_not] at h26
      refine Wp.skip ?_
      refine n16 _ _ _ ?_
      refine Wp.drawS hmix (fun i => [1, 1, 1, 0, 1, 1, 1, 1, 2].getD i 0) (fun _ h => h.drawn _) fun N11 hN11 => ?_
      refine G.p 0 (by kernel_rfl) rfl (Yl.mvP rfl) ?_
      refine G.p 1 (by kernel_rfl) rfl (Yl.mvI rfl) ?_
      refine G.p 2 (by kernel_rfl) rfl (Yl.mvI rfl) ?_
      refine G.p 5 (by kernel_rfl) rfl (Yl.nilCheck rfl) ?_
      refine G.p 6 (by kernel_rfl) rfl ((by first | exact Yl.fieldAddrZ fo63_0 rfl | exact Yl.fieldAddr fo63_0 rfl)) ?_
      refine G.runT 3 (by kernel_rfl) rfl rfl rfl (Ef.pure bd35 rfl (fun wc hw => c_palfrey_aes_turned wc _)) ⟨(), trivial⟩ (fun _ h => h) (fun _ _ _ h => h.sub (by first | exact List.Sublist.refl _ | exact List.sublist_cons_self _ _ | exact List.sublist_append_right _ _)) fun _ _ => ?_
      simp only [En.put, List.cons_append, List.nil_append]
      refine G.p 4 (by kernel_rfl) rfl (Yl.xor8 (b := 99#8) rfl rfl) ?_
      refine G.p 7 (by kernel_rfl) rfl (Yl.indexArrZ Try.underlying61 sz5 rfl rfl (pAt (k + 1)).toNat rfl (by have := (pAt (k + 1)).isLt; omega)) ?_
      refine G.last (by kernel_rfl) (fun _ h => h) ?_
      refine G0.run 8 (by kernel_rfl) rfl rfl (Ef.store1b sz5 rfl rfl (by repeat (first | exact At.head | apply At.tail)) (by rw [List.length_map, thereTo_len]; have := (pAt (k + 1)).isLt; omega) rfl (by first | exact .inr (by assumption) | exact .inl (by simp))) ⟨(), trivial⟩ fun _ _ => ?_
      simp only [En.put, List.cons_append, List.nil_append]
      refine G0.done (by kernel_rfl) (hN11 _ _ _ ?_)
      refine n11 _ _ _ ?_
      refine n10 _ _ _ ?_
      refine Wp.region ?_
      refine Ops.v (Yl.add rfl rfl (by omega) (by omega)) ?_
      refine Ops.v (Yl.mvI rfl) ?_
      refine Ops.nil ?_
      have hq : qAt (k + 1) = _ := (if_neg h26 : stepQ (qAt k) = _)
      refine n7 (k + 1) _ _ (by omega) ⟨59, rfl⟩ rfl rfl (l3 (congrArg iv (by omega)) rfl (congrArg u8 hq.symm)) (by omega) (fun _ h => by rw [thereTo, hq, List.map_set]; exact h)
  ·
    try simp only [decide_eq_true_eq, decide_eq_false_iff_not, Bool.not_eq_true, Bool.not_eq_false, Bool.not_true, Bool.not_false, Bool.not_eq_eq_eq_not, ne_eq, Decidable.not_not] at h8
    refine Wp.exit ?_
    refine r9 _ _ _ _ (by simp) ?_
    refine r7 _ _ _ _ (by simp) ?_
    refine x6 _ _ _ ?_
    refine n4 _ _ _ ?_
    refine Wp.seq fun K18 n18 r18 => ?_
    refine Wp.region ?_
    obtain rfl : k = 255 := by omega
    refine Ops.v (Yl.mvP rfl) ?_
    refine Ops.v (Yl.nilCheck rfl) ?_
    refine Ops.v ((by first | exact Yl.fieldAddrZ fo63_0 rfl | exact Yl.fieldAddr fo63_0 rfl)) ?_
    refine Ops.v ((by first | exact Yl.indexArrZ Try.underlying61 sz5 rfl rfl 0 rfl (by omega) | exact Yl.indexArr1 Try.underlying61 sz5 rfl rfl 0 rfl (by omega))) ?_
    refine Ops.s (Ef.store1b sz5 rfl rfl (by repeat (first | exact At.head | apply At.tail)) (by rw [List.length_map, thereTo_len]; omega) rfl (by first | exact .inr (by assumption) | exact .inl (by simp))) ?_
    refine Ops.nil ?_
    refine n18 _ _ _ ?_
    refine Wp.seq fun K19 n19 r19 => ?_
    refine Wp.seq fun K20 n20 r20 => ?_
    refine Wp.region ?_
    refine Ops.v (Yl.mvI rfl) ?_
    refine Ops.nil ?_
    refine n20 _ _ _ ?_
    refine Wp.block fun K21 n21 x21 r21 => ?_
    skip
    refine Wp.loopI 2 [4, 42, 43, 44, 45, 46, 47, 48, 49, 50, 51, 52, 53, 54, 55, 56, 57] [42] (fun (j : Nat) => j ≤ 256) (fun (j : Nat) => [iv j]) (fun (j : Nat) => Tr w [] [.blk b6 63 ((backTo j).map u8)]) (fun (j : Nat) => 256 - j) (0) (by omega) (fun _ => rfl) rfl (fun _ h => by rw [backTo, List.map_set]; exact h) ?_
    intro j hI22 J22 K22 n22 r22
    try dsimp only at hI22 n22 ⊢
    refine Wp.seq fun K23 n23 r23 => ?_
    refine Wp.region ?_
    refine Ops.v (Yl.lss rfl rfl) ?_
    refine Ops.nil ?_
    refine n23 _ _ _ ?_
    refine Wp.seq fun K24 n24 r24 => ?_
    refine Wp.cond _ rfl (fun h43 => ?_) (fun h43 => ?_)
    ·
      try simp only [decide_eq_true_eq, decide_eq_false_iff_not, Bool.not_eq_true, Bool.not_eq_false, Bool.not_true, Bool.not_false, Bool.not_eq_eq_eq_not, ne_eq, Decidable.not_not] at h43
      refine Wp.skip ?_
      refine n24 _ _ _ ?_
      refine Wp.seq fun K25 n25 r25 => ?_
      refine Wp.block fun K26 n26 x26 r26 => ?_
      refine Wp.seq fun K27 n27 r27 => ?_
      refine Wp.region ?_
      refine Ops.v (Yl.mvI rfl) ?_
      refine Ops.v (Yl.asI rfl) ?_
      refine Ops.nil ?_
      refine n27 _ _ _ ?_
      refine Wp.drawS hmix (fun i => [1, 1, 1, 1, 1, 1, 0, 1, 1, 1, 1, 1, 2].getD i 0) (fun _ h => h.drawn _) fun N17 hN17 => ?_
      refine G.p 0 (by kernel_rfl) rfl (Yl.mvP rfl) ?_
      refine G.p 1 (by kernel_rfl) rfl (Yl.mvP rfl) ?_
      refine G.p 2 (by kernel_rfl) rfl (Yl.mvI rfl) ?_
      refine G.p 3 (by kernel_rfl) rfl (Yl.nilCheck rfl) ?_
      refine G.p 4 (by kernel_rfl) rfl ((by first | exact Yl.fieldAddrZ fo63_0 rfl | exact Yl.fieldAddr fo63_0 rfl)) ?_
      refine G.p 5 (by kernel_rfl) rfl ((by first | exact Yl.indexArrZ Try.underlying61 sz5 rfl rfl _ rfl (by omega) | exact Yl.indexArr1 Try.underlying61 sz5 rfl rfl _ rfl (by omega))) ?_
      refine G.t 6 (by kernel_rfl) rfl (Yl.load1z na5 rfl (by first | exact Rd.blk (by repeat (first | exact List.Mem.head _ | apply List.Mem.tail)) | exact Rd.row (by repeat (first | exact List.Mem.head _ | apply List.Mem.tail)) | assumption) (getmap (by rw [backTo_len]; omega))) ?_
      refine G.p 7 (by kernel_rfl) rfl (Yl.mvI rfl) ?_
      refine G.p 8 (by kernel_rfl) rfl (Yl.to8 Try.underlying3 Try.underlying5 rfl) ?_
      refine G.p 9 (by kernel_rfl) rfl (Yl.nilCheck rfl) ?_
      refine G.p 10 (by kernel_rfl) rfl ((by first | exact Yl.fieldAddrZ fo63_1 rfl | exact Yl.fieldAddr fo63_1 rfl)) ?_
      refine G.p 11 (by kernel_rfl) rfl (Yl.indexArr1 Try.underlying61 sz5 rfl rfl ((backTo j).getD j default).toNat rfl (by have := ((backTo j).getD j default).isLt; omega)) ?_
      refine G.last (by kernel_rfl) (fun _ h => h) ?_
      refine G0.run 12 (by kernel_rfl) rfl rfl (Ef.store1b sz5 rfl rfl (by repeat (first | exact At.head | apply At.tail)) (by rw [List.length_map, backTo_len]; have := ((backTo j).getD j default).isLt; omega) rfl (by first | exact .inr (by assumption) | exact .inl (by simp))) ⟨(), trivial⟩ fun _ _ => ?_
      simp only [En.put, List.cons_append, List.nil_append]
      refine G0.done (by kernel_rfl) (hN17 _ _ _ ?_)
      refine n26 _ _ _ ?_
      refine n25 _ _ _ ?_
      refine Wp.region ?_
      refine Ops.v (Yl.add rfl rfl (by omega) (by omega)) ?_
      refine Ops.v (Yl.mvI rfl) ?_
      refine Ops.nil ?_
      refine n22 (j + 1) _ _ (by omega) ⟨59, rfl⟩ rfl rfl (l1 (congrArg iv (by omega))) (by omega) (fun _ h => by rw [backTo, List.map_set]; exact h)
    ·
      try simp only [decide_eq_true_eq, decide_eq_false_iff_not, Bool.not_eq_true, Bool.not_eq_false, Bool.not_true, Bool.not_false, Bool.not_eq_eq_eq_not, ne_eq, Decidable.not_not] at h43
      refine Wp.exit ?_
      refine r24 _ _ _ _ (by simp) ?_
      refine r22 _ _ _ _ (by simp) ?_
      refine x21 _ _ _ ?_
      refine n19 _ _ _ ?_
      refine Wp.seq fun K28 n28 r28 => ?_
      refine Wp.region ?_
      refine Ops.v (Yl.mvP rfl) ?_
      refine Ops.v (Yl.asP rfl) ?_
      refine Ops.nil ?_
      refine n28 _ _ _ ?_
      refine Wp.ret ?_
      refine (hK _ _ _ ⟨59, rfl⟩ (Res.one ⟨59, rfl⟩ rfl rfl) ?_).1
      obtain rfl : j = 256 := by omega
      exact fun w' h => ⟨b6, trivial, NewH.blk hb6 NewH.nil, rfl, h⟩

theorem c___palfrey_aes_Keys__subs (w : World) (kb b n c : Nat) (tab xs : List B8) (T : TypeId) (hk : TabAt w [b] kb tab) (hb : (Hl.blk b T (xs.map u8)).holds w) (hn : n = xs.length) (hle : xs.length ≤ 1099511627776) : Turns Try.prog 15 #[pt kb 0, .slice (some ⟨b, 0, none⟩) n c] w b (fun _ : Unit => True) (fun _ => .tuple #[]) (fun _ => .blk b T ((subL tab xs).map u8)) (fun _ => []) := by
  subst hn
  obtain ⟨tb, v0, T1, T2, f1, f2, m1, m2, m4, m5, m7⟩ := hk
  refine Calls.enter (S := Tr w [b] [.blk b T (xs.map u8)]) Try.func15 rfl (Tr.start1 [b] hb) (fun K hK => ?_)
  refine Wp.seq fun K1 n1 r1 => ?_
  refine Wp.region ?_
  refine Ops.v (Yl.mvS rfl) ?_
  refine Ops.v (Yl.len Try.underlying23 rfl rfl) ?_
  refine Ops.v (Yl.mvI rfl) ?_
  refine Ops.nil ?_
  refine n1 _ _ _ ?_
  refine Wp.block fun K2 n2 x2 r2 => ?_
  skip
  refine Wp.loopI 1 [4, 5, 8, 9, 10, 11, 12, 13, 14, 15, 16, 17, 18, 19, 20, 21, 22, 23, 24, 25] [8] (fun (k : Nat) => k ≤ xs.length) (fun (k : Nat) => [iv k]) (fun (k : Nat) => Tr w [b] [.blk b T ((turnTo (subG tab xs) xs k).map u8)]) (fun (k : Nat) => xs.length - k) (0) (by omega) (fun _ => rfl) rfl (fun _ h => by rw [turnTo_zero]; exact h) ?_
  intro k hI3 J3 K3 n3 r3
  try dsimp only at hI3 n3 ⊢
  refine Wp.seq fun K4 n4 r4 => ?_
  refine Wp.region ?_
  refine Ops.v (Yl.lss rfl rfl) ?_
  refine Ops.nil ?_
  refine n4 _ _ _ ?_
  refine Wp.seq fun K5 n5 r5 => ?_
  refine Wp.cond _ rfl (fun h9 => ?_) (fun h9 => ?_)
  ·
    try simp only [decide_eq_true_eq, decide_eq_false_iff_not, Bool.not_eq_true, Bool.not_eq_false, Bool.not_true, Bool.not_false, Bool.not_eq_eq_eq_not, ne_eq, Decidable.not_not] at h9
    refine Wp.skip ?_
    refine n5 _ _ _ ?_
    refine Wp.seq fun K6 n6 r6 => ?_
    refine Wp.block fun K7 n7 x7 r7 => ?_
    refine Wp.seq fun K8 n8 r8 => ?_
    refine Wp.region ?_
    refine Ops.v (Yl.mvI rfl) ?_
    refine Ops.v (Yl.indexSliceZ Try.underlying23 sz5 rfl rfl k rfl (by omega)) ?_
    refine Ops.v (Yl.load1z na5 rfl (by first | exact Rd.blk (by repeat (first | exact List.Mem.head _ | apply List.Mem.tail)) | exact Rd.row (by repeat (first | exact List.Mem.head _ | apply List.Mem.tail)) | assumption) (getmap (by rw [turnTo_len _ _ _ (by omega)]; omega))) ?_
    refine Ops.v (Yl.asI rfl) ?_
    refine Ops.v (Yl.asI rfl) ?_
    refine Ops.nil ?_
    refine n8 _ _ _ ?_
    refine Wp.region ?_
    refine Ops.v (Yl.mvS rfl) ?_
    refine Ops.v (Yl.mvI rfl) ?_
    refine Ops.v (Yl.mvP rfl) ?_
    refine Ops.v (Yl.nilCheck rfl) ?_
    refine Ops.v ((by first | exact Yl.fieldAddrZ fo58_0 rfl | exact Yl.fieldAddr fo58_0 rfl)) ?_
    refine Ops.v (Yl.load1z na54 rfl (Rd.oldb (cs := [_, _]) m4 m1) (by first | rfl | exact getmap (by omega) | assumption)) ?_
    refine Ops.v (Yl.mvI rfl) ?_
    refine Ops.v (Yl.nilCheck rfl) ?_
    refine Ops.v ((by first | exact Yl.fieldAddrZ fo63_0 rfl | exact Yl.fieldAddr fo63_0 rfl)) ?_
    refine Ops.v (Yl.indexArrZ Try.underlying61 sz5 rfl rfl ((turnTo (subG tab xs) xs k).getD k default).toNat rfl (by have := ((turnTo (subG tab xs) xs k).getD k default).isLt; omega)) ?_
    refine Ops.v (Yl.load1z na5 rfl (Rd.oldb m5 m2) (getmap (by rw [m7]; have := ((turnTo (subG tab xs) xs k).getD k default).isLt; omega))) ?_
    refine Ops.v (Yl.indexSliceZ Try.underlying23 sz5 rfl rfl k rfl (by omega)) ?_
    refine Ops.s (Ef.store1b sz5 rfl rfl (by repeat (first | exact At.head | apply At.tail)) (by rw [List.length_map, turnTo_len _ _ _ (by omega)]; omega) rfl (by first | exact .inr (by assumption) | exact .inl (by simp))) ?_
    refine Ops.nil ?_
    refine n7 _ _ _ ?_
    refine n6 _ _ _ ?_
    refine Wp.region ?_
    refine Ops.v (Yl.add rfl rfl (by omega) (by omega)) ?_
    refine Ops.v (Yl.mvI rfl) ?_
    refine Ops.nil ?_
    refine n3 (k + 1) _ _ (by omega) ⟨26, rfl⟩ rfl rfl (l1 (congrArg iv (by omega))) (by omega) (fun _ h => by rw [← turnTo_set (subG tab xs) xs k (by omega), List.map_set, subG, ← turnTo_getD (subG tab xs) xs k default]; exact h)
  ·
    try simp only [decide_eq_true_eq, decide_eq_false_iff_not, Bool.not_eq_true, Bool.not_eq_false, Bool.not_true, Bool.not_false, Bool.not_eq_eq_eq_not, ne_eq, Decidable.not_not] at h9
    refine Wp.exit ?_
    refine r5 _ _ _ _ (by simp) ?_
    refine r3 _ _ _ _ (by simp) ?_
    refine x2 _ _ _ ?_
    refine (hK _ _ _ ⟨26, rfl⟩ (Res.none rfl) ?_).2
    obtain rfl : k = xs.length := by omega
    exact fun w' h => ⟨(), trivial, NewH.nil, rfl, rfl, by rw [turnTo_full _ _ _ (Nat.le_refl _)] at h; exact h⟩

theorem c___palfrey_aes_Keys__Rounds (w : World) (kb : Nat) (tab ws : List B8) (r : Nat) (hk : KeysAt w [] kb tab ws r) : Pure Try.prog 13 #[pt kb 0] w (iv r) := by
  obtain ⟨tb, wb, wo, cw, T1, T2, f1, f2, m1, m2, m3, m4, m5, m6, m7, m8, m9⟩ := hk
  refine Calls.enter (S := Tr w [] []) Try.func13 rfl (Tr.refl w []) (fun K hK => ?_)
  refine Wp.seq fun K1 n1 r1 => ?_
  refine Wp.region ?_
  refine Ops.v (Yl.asI rfl) ?_
  refine Ops.nil ?_
  refine n1 _ _ _ ?_
  refine Wp.seq fun K2 n2 r2 => ?_
  refine Wp.seq fun K3 n3 r3 => ?_
  refine Wp.region ?_
  refine Ops.v (Yl.mvP rfl) ?_
  refine Ops.v (Yl.eqNil Try.underlying30 rfl rfl) ?_
  refine Ops.vB (Yl.mvB rfl) (fun hg1_2 => ?_) (fun hg1_2 => ?_)
  ·
    try simp only [decide_eq_true_eq, decide_eq_false_iff_not, Bool.not_eq_true, Bool.not_eq_false, Bool.not_true, Bool.not_false, Bool.not_eq_eq_eq_not, ne_eq, Decidable.not_not] at hg1_2
    simp at hg1_2
  ·
    try simp only [decide_eq_true_eq, decide_eq_false_iff_not, Bool.not_eq_true, Bool.not_eq_false, Bool.not_true, Bool.not_false, Bool.not_eq_eq_eq_not, ne_eq, Decidable.not_not] at hg1_2
    refine Ops.guard_val rfl rfl rfl rfl rfl (Yl.mvP rfl) ?_
    refine Ops.guard_val rfl rfl rfl rfl rfl (Yl.nilCheck rfl) ?_
    refine Ops.guard_val rfl rfl rfl rfl rfl ((by first | exact Yl.fieldAddrZ fo58_0 rfl | exact Yl.fieldAddr fo58_0 rfl)) ?_
    refine Ops.guard_val rfl rfl rfl rfl rfl (Yl.load1z na54 rfl (Rd.oldb (cs := [_, _]) m4 m1) (by first | rfl | exact getmap (by omega) | assumption)) ?_
    refine Ops.guard_val rfl rfl rfl rfl rfl (Yl.eqNil Try.underlying54 rfl rfl) ?_
    refine Ops.v (Yl.pick_f rfl (v := .bool _) rfl) ?_
    refine Ops.nil ?_
    refine n3 _ _ _ ?_
    refine Wp.cond _ rfl (fun h11 => ?_) (fun h11 => ?_)
    ·
      try simp only [decide_eq_true_eq, decide_eq_false_iff_not, Bool.not_eq_true, Bool.not_eq_false, Bool.not_true, Bool.not_false, Bool.not_eq_eq_eq_not, ne_eq, Decidable.not_not] at h11
      simp at h11
    ·
      try simp only [decide_eq_true_eq, decide_eq_false_iff_not, Bool.not_eq_true, Bool.not_eq_false, Bool.not_true, Bool.not_false, Bool.not_eq_eq_eq_not, ne_eq, Decidable.not_not] at h11
      refine Wp.skip ?_
      refine n2 _ _ _ ?_
      refine Wp.seq fun K4 n4 r4 => ?_
      refine Wp.region ?_
      refine Ops.v (Yl.mvP rfl) ?_
      refine Ops.v (Yl.nilCheck rfl) ?_
      refine Ops.v ((by first | exact Yl.fieldAddrZ fo58_1 rfl | exact Yl.fieldAddr fo58_1 rfl)) ?_
      refine Ops.v (Yl.load1z na56 rfl (Rd.oldb (cs := [_, _]) m4 m1) (by first | rfl | exact getmap (by omega) | assumption)) ?_
      refine Ops.v (Yl.len Try.underlying56 rfl rfl) ?_
      refine Ops.v (Yl.quo rfl rfl (by omega) (by omega) (by omega)) ?_
      refine Ops.v (Yl.sub rfl rfl (by omega) (by omega)) ?_
      refine Ops.v (Yl.asI rfl) ?_
      refine Ops.nil ?_
      refine n4 _ _ _ ?_
      refine Wp.ret ?_
      refine (hK _ _ _ ⟨19, rfl⟩ (Res.one ⟨19, rfl⟩ rfl rfl) ?_).1
      exact fun w' h => ⟨congrArg (fun z => Ending.returned (iv z)) (by omega), h⟩

theorem c___palfrey_aes_Keys__add (w : World) (kb b round : Nat) (tab ws xs : List B8) (r : Nat) (T : TypeId) (hk : KeysAt w [b] kb tab ws r) (hb : (Hl.blk b T (xs.map u8)).holds w) (hx : xs.length = 16) (hr : round ≤ r) : Turns Try.prog 14 #[pt kb 0, pt b 0, iv round] w b (fun _ : Unit => True) (fun _ => .tuple #[]) (fun _ => .blk b T ((addL ws round xs).map u8)) (fun _ => []) := by
  obtain ⟨tb, wb, wo, cw, T1, T2, f1, f2, m1, m2, m3, m4, m5, m6, m7, m8, m9⟩ := hk
  refine Calls.enter (S := Tr w [b] [.blk b T (xs.map u8)]) Try.func14 rfl (Tr.start1 [b] hb) (fun K hK => ?_)
  refine Wp.seq fun K1 n1 r1 => ?_
  refine Wp.region ?_
  refine Ops.v (Yl.mvI rfl) ?_
  refine Ops.nil ?_
  refine n1 _ _ _ ?_
  refine Wp.block fun K2 n2 x2 r2 => ?_
  skip
  refine Wp.loopI 1 [6, 7, 8, 9, 10, 11, 12, 13, 14, 15, 16, 17, 18, 19, 20, 21, 22, 23, 24, 25, 26, 27, 28, 29, 30, 31, 32] [7] (fun (k : Nat) => k ≤ 16) (fun (k : Nat) => [iv k]) (fun (k : Nat) => Tr w [b] [.blk b T ((turnTo (addG ws round xs) xs k).map u8)]) (fun (k : Nat) => 16 - k) (0) (by omega) (fun _ => rfl) rfl (fun _ h => by rw [turnTo_zero]; exact h) ?_
  intro k hI3 J3 K3 n3 r3
  try dsimp only at hI3 n3 ⊢
  refine Wp.seq fun K4 n4 r4 => ?_
  refine Wp.region ?_
  refine Ops.v (Yl.lss rfl rfl) ?_
  refine Ops.nil ?_
  refine n4 _ _ _ ?_
  refine Wp.seq fun K5 n5 r5 => ?_
  refine Wp.cond _ rfl (fun h8 => ?_) (fun h8 => ?_)
  ·
    try simp only [decide_eq_true_eq, decide_eq_false_iff_not, Bool.not_eq_true, Bool.not_eq_false, Bool.not_true, Bool.not_false, Bool.not_eq_eq_eq_not, ne_eq, Decidable.not_not] at h8
    refine Wp.skip ?_
    refine n5 _ _ _ ?_
    refine Wp.seq fun K6 n6 r6 => ?_
    refine Wp.block fun K7 n7 x7 r7 => ?_
    refine Wp.seq fun K8 n8 r8 => ?_
    refine Wp.region ?_
    refine Ops.v (Yl.mvI rfl) ?_
    refine Ops.v (Yl.asI rfl) ?_
    refine Ops.nil ?_
    refine n8 _ _ _ ?_
    refine Wp.drawS hmix (fun i => [1, 1, 1, 1, 0, 1, 1, 1, 0, 1, 1, 1, 1, 1, 1, 1, 1, 1, 0, 1, 1, 1, 2].getD i 0) (fun _ h => h.drawn _) fun N3 hN3 => ?_
    refine G.p 0 (by kernel_rfl) rfl (Yl.mvP rfl) ?_
    refine G.p 1 (by kernel_rfl) rfl (Yl.mvI rfl) ?_
    refine G.p 2 (by kernel_rfl) rfl (Yl.nilCheck rfl) ?_
    refine G.p 3 (by kernel_rfl) rfl ((by first | exact Yl.indexArrZ Try.underlying33 sz5 rfl rfl _ rfl (by omega) | exact Yl.indexArr1 Try.underlying33 sz5 rfl rfl _ rfl (by omega))) ?_
    refine G.t 4 (by kernel_rfl) rfl (Yl.load1z na5 rfl (by first | exact Rd.blk (by repeat (first | exact List.Mem.head _ | apply List.Mem.tail)) | exact Rd.row (by repeat (first | exact List.Mem.head _ | apply List.Mem.tail)) | assumption) (getmap (by rw [turnTo_len _ _ _ (by omega)]; omega))) ?_
    refine G.p 5 (by kernel_rfl) rfl (Yl.mvP rfl) ?_
    refine G.p 6 (by kernel_rfl) rfl (Yl.nilCheck rfl) ?_
    refine G.p 7 (by kernel_rfl) rfl ((by first | exact Yl.fieldAddrZ fo58_1 rfl | exact Yl.fieldAddr fo58_1 rfl)) ?_
    refine G.t 8 (by kernel_rfl) rfl (Yl.load1z na56 rfl (Rd.oldb (cs := [_, _]) m4 m1) (by first | rfl | exact getmap (by omega) | assumption)) ?_
    refine G.p 9 (by kernel_rfl) rfl (Yl.mvI rfl) ?_
    refine G.p 10 (by kernel_rfl) rfl (Yl.mul rfl rfl (by omega) (by omega)) ?_
    refine G.p 11 (by kernel_rfl) rfl (Yl.mvI rfl) ?_
    refine G.p 12 (by kernel_rfl) rfl (Yl.quo rfl rfl (by omega) (by omega) (by omega)) ?_
    refine G.p 13 (by kernel_rfl) rfl (Yl.add rfl rfl (by omega) (by omega)) ?_
    refine G.p 14 (by kernel_rfl) rfl (Yl.mvI rfl) ?_
    refine G.p 15 (by kernel_rfl) rfl (Yl.rem rfl rfl (by omega) (by omega)) ?_
    refine G.p 16 (by kernel_rfl) rfl (Yl.indexSlice Try.underlying56 sz59 rfl rfl (4 * round + k / 4) (by omega) (by omega)) ?_
    refine G.p 17 (by kernel_rfl) rfl (Yl.indexArr1 Try.underlying59 sz5 rfl rfl (k % 4) (by omega) (by omega)) ?_
    refine G.t 18 (by kernel_rfl) rfl (Yl.load1 na5 rfl (16 * round + k) (Rd.ofRw m6 m3) (by omega) (getmap (by rw [m8]; omega))) ?_
    refine G.p 19 (by kernel_rfl) rfl (Yl.xor8 rfl rfl) ?_
    refine G.p 20 (by kernel_rfl) rfl (Yl.nilCheck rfl) ?_
    refine G.p 21 (by kernel_rfl) rfl ((by first | exact Yl.indexArrZ Try.underlying33 sz5 rfl rfl _ rfl (by omega) | exact Yl.indexArr1 Try.underlying33 sz5 rfl rfl _ rfl (by omega))) ?_
    refine G.last (by kernel_rfl) (fun _ h => h) ?_
    refine G0.run 22 (by kernel_rfl) rfl rfl (Ef.store1b sz5 rfl rfl (by repeat (first | exact At.head | apply At.tail)) (by rw [List.length_map, turnTo_len _ _ _ (by omega)]; omega) rfl (by first | exact .inr (by assumption) | exact .inl (by simp))) ⟨(), trivial⟩ fun _ _ => ?_
    simp only [En.put, List.cons_append, List.nil_append]
    refine G0.done (by kernel_rfl) (hN3 _ _ _ ?_)
    refine n7 _ _ _ ?_
    refine n6 _ _ _ ?_
    refine Wp.region ?_
    refine Ops.v (Yl.add rfl rfl (by omega) (by omega)) ?_
    refine Ops.v (Yl.mvI rfl) ?_
    refine Ops.nil ?_
    refine n3 (k + 1) _ _ (by omega) ⟨33, rfl⟩ rfl rfl (l1 (congrArg iv (by omega))) (by omega) (fun _ h => by rw [← turnTo_set (addG ws round xs) xs k (by omega), List.map_set, addG, ← turnTo_getD (addG ws round xs) xs k default]; exact h)
  ·
    try simp only [decide_eq_true_eq, decide_eq_false_iff_not, Bool.not_eq_true, Bool.not_eq_false, Bool.not_true, Bool.not_false, Bool.not_eq_eq_eq_not, ne_eq, Decidable.not_not] at h8
    refine Wp.exit ?_
    refine r5 _ _ _ _ (by simp) ?_
    refine r3 _ _ _ _ (by simp) ?_
    refine x2 _ _ _ ?_
    refine (hK _ _ _ ⟨33, rfl⟩ (Res.none rfl) ?_).2
    obtain rfl : k = 16 := by omega
    exact fun w' h => ⟨(), trivial, NewH.nil, rfl, rfl, by rw [turnTo_full _ _ _ (by omega)] at h; exact h⟩

theorem c_palfrey_aes_shift (w : World) (xs : List B8) (hx : xs.length = 16) : Pure Try.prog 16 #[.agg (xs.map u8).toArray, iv 1] w (.agg ((shiftL xs).map u8).toArray) := by
  refine Calls.enter (S := Tr w [] []) Try.func16 rfl (Tr.refl w []) (fun K hK => ?_)
  refine Wp.seq fun K1 n1 r1 => ?_
  refine Wp.region ?_
  refine Ops.f (Ef.boxA rfl) (New.ex _) fun b2 hb2 => ?_
  refine Ops.f (Ef.alloc zo33) (New.ex _) fun b4 hb4 => ?_
  refine Ops.nil ?_
  refine n1 _ _ _ ?_
  refine Wp.seq fun K2 n2 r2 => ?_
  refine Wp.region ?_
  refine Ops.f (Ef.alloc zo33) (New.ex _) fun b5 hb5 => ?_
  refine Ops.nil ?_
  refine n2 _ _ _ ?_
  refine Wp.seq fun K3 n3 r3 => ?_
  refine Wp.seq fun K4 n4 r4 => ?_
  refine Wp.region ?_
  refine Ops.v (Yl.mvI rfl) ?_
  refine Ops.nil ?_
  refine n4 _ _ _ ?_
  refine Wp.block fun K5 n5 x5 r5 => ?_
  skip
  refine Wp.loopI 1 [6, 7, 8, 9, 10, 11, 12, 13, 14, 15, 16, 17, 18, 19, 20, 21, 22, 23, 24, 25, 26, 27, 28, 29, 30] [9] (fun (k : Nat) => k ≤ 16) (fun (k : Nat) => [iv k]) (fun (k : Nat) => Tr w [] [.blk b5 33 ((turnTo (shiftG xs) (List.replicate 16 0#8) k).map u8), .blk b4 33 ((List.replicate 16 0#8).map u8), .blk b2 33 (xs.map u8)]) (fun (k : Nat) => 16 - k) (0) (by omega) (fun _ => rfl) rfl (fun _ h => by rw [turnTo_zero]; exact h) ?_
  intro k hI6 J6 K6 n6 r6
  try dsimp only at hI6 n6 ⊢
  refine Wp.seq fun K7 n7 r7 => ?_
  refine Wp.region ?_
  refine Ops.v (Yl.lss rfl rfl) ?_
  refine Ops.nil ?_
  refine n7 _ _ _ ?_
  refine Wp.seq fun K8 n8 r8 => ?_
  refine Wp.cond _ rfl (fun h10 => ?_) (fun h10 => ?_)
  ·
    try simp only [decide_eq_true_eq, decide_eq_false_iff_not, Bool.not_eq_true, Bool.not_eq_false, Bool.not_true, Bool.not_false, Bool.not_eq_eq_eq_not, ne_eq, Decidable.not_not] at h10
    refine Wp.skip ?_
    refine n8 _ _ _ ?_
    refine Wp.seq fun K9 n9 r9 => ?_
    refine Wp.block fun K10 n10 x10 r10 => ?_
    refine Wp.seq fun K11 n11 r11 => ?_
    refine Wp.region ?_
    refine Ops.v (Yl.mvI rfl) ?_
    refine Ops.v (Yl.asI rfl) ?_
    refine Ops.nil ?_
    refine n11 _ _ _ ?_
    refine Wp.seq fun K12 n12 r12 => ?_
    refine Wp.region ?_
    refine Ops.v (Yl.mvI rfl) ?_
    refine Ops.v (Yl.rem rfl rfl (by omega) (by omega)) ?_
    refine Ops.v (Yl.mvI rfl) ?_
    refine Ops.v (Yl.quo rfl rfl (by omega) (by omega) (by omega)) ?_
    refine Ops.v (Yl.asI rfl) ?_
    refine Ops.v (Yl.asI rfl) ?_
    refine Ops.nil ?_
    refine n12 _ _ _ ?_
    refine Wp.region ?_
    refine Ops.v (Yl.mvI rfl) ?_
    refine Ops.v (Yl.mvI rfl) ?_
    refine Ops.v (Yl.mvI rfl) ?_
    refine Ops.v (Yl.mvI rfl) ?_
    refine Ops.v (Yl.mul rfl rfl (by omega) (by omega)) ?_
    refine Ops.v (Yl.add rfl rfl (by omega) (by omega)) ?_
    refine Ops.v (Yl.add rfl rfl (by omega) (by omega)) ?_
    refine Ops.v (Yl.rem rfl rfl (by omega) (by omega)) ?_
    refine Ops.v (Yl.mul rfl rfl (by omega) (by omega)) ?_
    refine Ops.v (Yl.mvI rfl) ?_
    refine Ops.v (Yl.add rfl rfl (by omega) (by omega)) ?_
    refine Ops.v (Yl.indexArrZ Try.underlying33 sz5 rfl rfl (4 * ((k / 4 + k % 4 + 16) % 4) + k % 4) (by omega) (by omega)) ?_
    refine Ops.v (Yl.load1z na5 rfl (by first | exact Rd.blk (by repeat (first | exact List.Mem.head _ | apply List.Mem.tail)) | exact Rd.row (by repeat (first | exact List.Mem.head _ | apply List.Mem.tail)) | assumption) (by first | rfl | exact getmap (by omega) | assumption)) ?_
    refine Ops.v ((by first | exact Yl.indexArrZ Try.underlying33 sz5 rfl rfl _ rfl (by omega) | exact Yl.indexArr1 Try.underlying33 sz5 rfl rfl _ rfl (by omega))) ?_
    refine Ops.s (Ef.store1b sz5 rfl rfl (by repeat (first | exact At.head | apply At.tail)) (by rw [List.length_map, turnTo_len _ _ _ (by rw [List.length_replicate]; omega), List.length_replicate]; omega) rfl (by first | exact .inr (by assumption) | exact .inl (by simp))) ?_
    refine Ops.nil ?_
    refine n10 _ _ _ ?_
    refine n9 _ _ _ ?_
    refine Wp.region ?_
    refine Ops.v (Yl.add rfl rfl (by omega) (by omega)) ?_
    refine Ops.v (Yl.mvI rfl) ?_
    refine Ops.nil ?_
    refine n6 (k + 1) _ _ (by omega) ⟨32, rfl⟩ rfl rfl (l1 (congrArg iv (by omega))) (by omega) (fun _ h => by rw [← turnTo_set (shiftG xs) (List.replicate 16 0#8) k (by rw [List.length_replicate]; omega), List.map_set]; exact h)
  ·
    try simp only [decide_eq_true_eq, decide_eq_false_iff_not, Bool.not_eq_true, Bool.not_eq_false, Bool.not_true, Bool.not_false, Bool.not_eq_eq_eq_not, ne_eq, Decidable.not_not] at h10
    refine Wp.exit ?_
    refine r8 _ _ _ _ (by simp) ?_
    refine r6 _ _ _ _ (by simp) ?_
    refine x5 _ _ _ ?_
    refine n3 _ _ _ ?_
    refine Wp.seq fun K13 n13 r13 => ?_
    refine Wp.region ?_
    refine Ops.v (Yl.loadAz ag33 rfl (by first | exact Rd.blk (by repeat (first | exact List.Mem.head _ | apply List.Mem.tail)) | exact Rd.row (by repeat (first | exact List.Mem.head _ | apply List.Mem.tail)) | assumption) (by rw [List.length_map, turnTo_len _ _ _ (by rw [List.length_replicate]; omega), List.length_replicate])) ?_
    refine Ops.s (Ef.storeU (turnTo (shiftG xs) (List.replicate 16 0#8) k) sz33 rfl rfl (by repeat (first | exact At.head | apply At.tail)) (by rw [turnTo_len _ _ _ (by rw [List.length_replicate]; omega), List.length_replicate]) (by simp) (.inr hb4)) ?_
    refine Ops.nil ?_
    refine n13 _ _ _ ?_
    refine Wp.ret ?_
    refine (hK _ _ _ ⟨32, rfl⟩ (Res.cellM ⟨32, rfl⟩ rfl rfl (by repeat (first | exact List.Mem.head _ | apply List.Mem.tail)) ag33 (by rw [List.length_map, turnTo_len _ _ _ (by rw [List.length_replicate]; omega), List.length_replicate])) ?_).1
    obtain rfl : k = 16 := by omega
    exact fun w' h => ⟨congrArg (fun z => Ending.returned (.agg (List.map u8 z).toArray)) (turnTo_full _ _ _ (by simp)), h.clear⟩

theorem c_palfrey_aes_mixed (w : World) (c : List B8) (hc : c.length = 4) : Pure Try.prog 27 #[.agg (c.map u8).toArray] w (.agg ((mixedL c).map u8).toArray) := by
  refine Calls.enter (S := Tr w [] []) Try.func27 rfl (Tr.refl w []) (fun K hK => ?_)
  refine Wp.seq fun K1 n1 r1 => ?_
  refine Wp.region ?_
  refine Ops.f (Ef.boxA rfl) (New.ex _) fun b1 hb1 => ?_
  refine Ops.f (Ef.alloc zo59) (New.ex _) fun b2 hb2 => ?_
  refine Ops.nil ?_
  refine n1 _ _ _ ?_
  refine Wp.seq fun K2 n2 r2 => ?_
  refine Wp.region ?_
  refine Ops.v ((by first | exact Yl.indexArrZ Try.underlying59 sz5 rfl rfl 0 rfl (by omega) | exact Yl.indexArr1 Try.underlying59 sz5 rfl rfl 0 rfl (by omega))) ?_
  refine Ops.v (Yl.load1z na5 rfl (by first | exact Rd.blk (by repeat (first | exact List.Mem.head _ | apply List.Mem.tail)) | exact Rd.row (by repeat (first | exact List.Mem.head _ | apply List.Mem.tail)) | assumption) (by first | rfl | exact getmap (by omega) | assumption)) ?_
  refine Ops.v ((by first | exact Yl.indexArrZ Try.underlying59 sz5 rfl rfl 1 rfl (by omega) | exact Yl.indexArr1 Try.underlying59 sz5 rfl rfl 1 rfl (by omega))) ?_
  refine Ops.v (Yl.load1z na5 rfl (by first | exact Rd.blk (by repeat (first | exact List.Mem.head _ | apply List.Mem.tail)) | exact Rd.row (by repeat (first | exact List.Mem.head _ | apply List.Mem.tail)) | assumption) (by first | rfl | exact getmap (by omega) | assumption)) ?_
  refine Ops.v (Yl.xor8 rfl rfl) ?_
  refine Ops.v ((by first | exact Yl.indexArrZ Try.underlying59 sz5 rfl rfl 2 rfl (by omega) | exact Yl.indexArr1 Try.underlying59 sz5 rfl rfl 2 rfl (by omega))) ?_
  refine Ops.v (Yl.load1z na5 rfl (by first | exact Rd.blk (by repeat (first | exact List.Mem.head _ | apply List.Mem.tail)) | exact Rd.row (by repeat (first | exact List.Mem.head _ | apply List.Mem.tail)) | assumption) (by first | rfl | exact getmap (by omega) | assumption)) ?_
  refine Ops.v (Yl.xor8 rfl rfl) ?_
  refine Ops.v ((by first | exact Yl.indexArrZ Try.underlying59 sz5 rfl rfl 3 rfl (by omega) | exact Yl.indexArr1 Try.underlying59 sz5 rfl rfl 3 rfl (by omega))) ?_
  refine Ops.v (Yl.load1z na5 rfl (by first | exact Rd.blk (by repeat (first | exact List.Mem.head _ | apply List.Mem.tail)) | exact Rd.row (by repeat (first | exact List.Mem.head _ | apply List.Mem.tail)) | assumption) (by first | rfl | exact getmap (by omega) | assumption)) ?_
  refine Ops.v (Yl.xor8 rfl rfl) ?_
  refine Ops.v (Yl.asI rfl) ?_
  refine Ops.nil ?_
  refine n2 _ _ _ ?_
  refine Wp.seq fun K3 n3 r3 => ?_
  refine Wp.region ?_
  refine Ops.f (Ef.alloc zo59) (New.ex _) fun b4 hb4 => ?_
  refine Ops.nil ?_
  refine n3 _ _ _ ?_
  refine Wp.seq fun K4 n4 r4 => ?_
  refine Wp.seq fun K5 n5 r5 => ?_
  refine Wp.region ?_
  refine Ops.v (Yl.mvI rfl) ?_
  refine Ops.nil ?_
  refine n5 _ _ _ ?_
  refine Wp.block fun K6 n6 x6 r6 => ?_
  skip
  refine Wp.loopI 1 [5, 17, 18, 19, 20, 21, 22, 23, 24, 25, 26, 27, 28, 29, 30, 31, 32, 33, 34, 35, 36, 37, 38] [17] (fun (k : Nat) => k ≤ 4) (fun (k : Nat) => [iv k]) (fun (k : Nat) => Tr w [] [.blk b4 59 ((turnTo (mixedG c) (List.replicate 4 0#8) k).map u8), .blk b2 59 ((List.replicate 4 0#8).map u8), .blk b1 59 (c.map u8)]) (fun (k : Nat) => 4 - k) (0) (by omega) (fun _ => rfl) rfl (fun _ h => by rw [turnTo_zero]; exact h) ?_
  intro k hI7 J7 K7 n7 r7
  try dsimp only at hI7 n7 ⊢
  refine Wp.seq fun K8 n8 r8 => ?_
  refine Wp.region ?_
  refine Ops.v (Yl.lss rfl rfl) ?_
  refine Ops.nil ?_
  refine n8 _ _ _ ?_
  refine Wp.seq fun K9 n9 r9 => ?_
  refine Wp.cond _ rfl (fun h18 => ?_) (fun h18 => ?_)
  ·
    try simp only [decide_eq_true_eq, decide_eq_false_iff_not, Bool.not_eq_true, Bool.not_eq_false, Bool.not_true, Bool.not_false, Bool.not_eq_eq_eq_not, ne_eq, Decidable.not_not] at h18
    refine Wp.skip ?_
    refine n9 _ _ _ ?_
    refine Wp.seq fun K10 n10 r10 => ?_
    refine Wp.block fun K11 n11 x11 r11 => ?_
    refine Wp.seq fun K12 n12 r12 => ?_
    refine Wp.region ?_
    refine Ops.v (Yl.mvI rfl) ?_
    refine Ops.v (Yl.asI rfl) ?_
    refine Ops.nil ?_
    refine n12 _ _ _ ?_
    refine Wp.drawS hmix (fun i => [1, 1, 1, 0, 1, 1, 1, 1, 0, 1, 1, 1, 1, 0, 1, 0, 1, 1, 2].getD i 0) (fun _ h => h.drawn _) fun N6 hN6 => ?_
    refine G.p 0 (by kernel_rfl) rfl (Yl.mvI rfl) ?_
    refine G.p 1 (by kernel_rfl) rfl (Yl.mvI rfl) ?_
    refine G.p 2 (by kernel_rfl) rfl ((by first | exact Yl.indexArrZ Try.underlying59 sz5 rfl rfl _ rfl (by omega) | exact Yl.indexArr1 Try.underlying59 sz5 rfl rfl _ rfl (by omega))) ?_
    refine G.t 3 (by kernel_rfl) rfl (Yl.load1z na5 rfl (by first | exact Rd.blk (by repeat (first | exact List.Mem.head _ | apply List.Mem.tail)) | exact Rd.row (by repeat (first | exact List.Mem.head _ | apply List.Mem.tail)) | assumption) (by first | rfl | exact getmap (by omega) | assumption)) ?_
    refine G.p 4 (by kernel_rfl) rfl (Yl.mvI rfl) ?_
    refine G.p 5 (by kernel_rfl) rfl (Yl.xor8 rfl rfl) ?_
    refine G.p 6 (by kernel_rfl) rfl (Yl.mvI rfl) ?_
    refine G.p 7 (by kernel_rfl) rfl ((by first | exact Yl.indexArrZ Try.underlying59 sz5 rfl rfl _ rfl (by omega) | exact Yl.indexArr1 Try.underlying59 sz5 rfl rfl _ rfl (by omega))) ?_
    refine G.t 8 (by kernel_rfl) rfl (Yl.load1z na5 rfl (by first | exact Rd.blk (by repeat (first | exact List.Mem.head _ | apply List.Mem.tail)) | exact Rd.row (by repeat (first | exact List.Mem.head _ | apply List.Mem.tail)) | assumption) (by first | rfl | exact getmap (by omega) | assumption)) ?_
    refine G.p 9 (by kernel_rfl) rfl (Yl.mvI rfl) ?_
    refine G.p 10 (by kernel_rfl) rfl (Yl.add rfl rfl (by omega) (by omega)) ?_
    refine G.p 11 (by kernel_rfl) rfl (Yl.rem rfl rfl (by omega) (by omega)) ?_
    refine G.p 12 (by kernel_rfl) rfl (Yl.indexArrZ Try.underlying59 sz5 rfl rfl ((k + 1) % 4) (by omega) (by omega)) ?_
    refine G.t 13 (by kernel_rfl) rfl (Yl.load1z na5 rfl (by first | exact Rd.blk (by repeat (first | exact List.Mem.head _ | apply List.Mem.tail)) | exact Rd.row (by repeat (first | exact List.Mem.head _ | apply List.Mem.tail)) | assumption) (by first | rfl | exact getmap (by omega) | assumption)) ?_
    refine G.p 14 (by kernel_rfl) rfl (Yl.xor8 rfl rfl) ?_
    refine G.runT 15 (by kernel_rfl) rfl rfl rfl (Ef.pure bd26 rfl (fun wc hw => c_palfrey_aes_double wc _)) ⟨(), trivial⟩ (fun _ h => h) (fun _ _ _ h => h.sub (by first | exact List.Sublist.refl _ | exact List.sublist_cons_self _ _ | exact List.sublist_append_right _ _)) fun _ _ => ?_
    simp only [En.put, List.cons_append, List.nil_append]
    refine G.p 16 (by kernel_rfl) rfl (Yl.xor8 rfl rfl) ?_
    refine G.p 17 (by kernel_rfl) rfl ((by first | exact Yl.indexArrZ Try.underlying59 sz5 rfl rfl _ rfl (by omega) | exact Yl.indexArr1 Try.underlying59 sz5 rfl rfl _ rfl (by omega))) ?_
    refine G.last (by kernel_rfl) (fun _ h => h) ?_
    refine G0.run 18 (by kernel_rfl) rfl rfl (Ef.store1b sz5 rfl rfl (by repeat (first | exact At.head | apply At.tail)) (by rw [List.length_map, turnTo_len _ _ _ (by rw [List.length_replicate]; omega), List.length_replicate]; omega) rfl (by first | exact .inr (by assumption) | exact .inl (by simp))) ⟨(), trivial⟩ fun _ _ => ?_
    simp only [En.put, List.cons_append, List.nil_append]
    refine G0.done (by kernel_rfl) (hN6 _ _ _ ?_)
    refine n11 _ _ _ ?_
    refine n10 _ _ _ ?_
    refine Wp.region ?_
    refine Ops.v (Yl.add rfl rfl (by omega) (by omega)) ?_
    refine Ops.v (Yl.mvI rfl) ?_
    refine Ops.nil ?_
    refine n7 (k + 1) _ _ (by omega) ⟨40, rfl⟩ rfl rfl (l1 (congrArg iv (by omega))) (by omega) (fun _ h => by rw [← turnTo_set (mixedG c) (List.replicate 4 0#8) k (by rw [List.length_replicate]; omega), List.map_set]; exact h)
  ·
    try simp only [decide_eq_true_eq, decide_eq_false_iff_not, Bool.not_eq_true, Bool.not_eq_false, Bool.not_true, Bool.not_false, Bool.not_eq_eq_eq_not, ne_eq, Decidable.not_not] at h18
    refine Wp.exit ?_
    refine r9 _ _ _ _ (by simp) ?_
    refine r7 _ _ _ _ (by simp) ?_
    refine x6 _ _ _ ?_
    refine n4 _ _ _ ?_
    refine Wp.seq fun K13 n13 r13 => ?_
    refine Wp.region ?_
    refine Ops.v (Yl.loadAz ag59 rfl (by first | exact Rd.blk (by repeat (first | exact List.Mem.head _ | apply List.Mem.tail)) | exact Rd.row (by repeat (first | exact List.Mem.head _ | apply List.Mem.tail)) | assumption) (by rw [List.length_map, turnTo_len _ _ _ (by rw [List.length_replicate]; omega), List.length_replicate])) ?_
    refine Ops.s (Ef.storeU (turnTo (mixedG c) (List.replicate 4 0#8) k) sz59 rfl rfl (by repeat (first | exact At.head | apply At.tail)) (by rw [turnTo_len _ _ _ (by rw [List.length_replicate]; omega), List.length_replicate]) (by simp) (.inr hb2)) ?_
    refine Ops.nil ?_
    refine n13 _ _ _ ?_
    refine Wp.ret ?_
    refine (hK _ _ _ ⟨40, rfl⟩ (Res.cellM ⟨40, rfl⟩ rfl rfl (by repeat (first | exact List.Mem.head _ | apply List.Mem.tail)) ag59 (by rw [List.length_map, turnTo_len _ _ _ (by rw [List.length_replicate]; omega), List.length_replicate])) ?_).1
    obtain rfl : k = 4 := by omega
    exact fun w' h => ⟨congrArg (fun z => Ending.returned (.agg (List.map u8 z).toArray)) (turnTo_full _ _ _ (by simp)), h.clear⟩

end Go.Proofs.Ytiimjkpcljelpaa

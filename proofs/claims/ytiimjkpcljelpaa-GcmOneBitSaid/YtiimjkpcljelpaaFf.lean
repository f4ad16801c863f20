/- Walks of functions. -/
import Derived.Test.YtiimjkpcljelpaaFe
set_option maxRecDepth 10000
open Go.RowKit Go.Eng
set_option linter.unusedSimpArgs false
set_option linter.unusedVariables false
namespace Go.Proofs.Ytiimjkpcljelpaa

theorem c_palfrey_ghash_of (w : World) (xs : List B8) (hx : xs.length = 16) : Pure Try.prog 46 #[.agg (xs.map u8).toArray] w (.agg [u64 (ofL xs).1, u64 (ofL xs).2].toArray) := by
  refine Calls.enter (S := Tr w [] []) Try.func46 rfl (Tr.refl w []) (fun K hK => ?_)
  refine Wp.seq fun K1 n1 r1 => ?_
  refine Wp.region ?_
  refine Ops.f (Ef.boxA rfl) (New.ex _) fun b1 hb1 => ?_
  refine Ops.f (Ef.alloc zo83) (New.ex _) fun b2 hb2 => ?_
  refine Ops.nil ?_
  refine n1 _ _ _ ?_
  refine Wp.seq fun K2 n2 r2 => ?_
  refine Wp.drawS hmix (fun i => [1, 0, 1, 0, 1, 2].getD i 0) (fun _ h => h.drawn _) fun N1 hN1 => ?_
  refine G.p 0 (by kernel_rfl) rfl (Yl.sliceArrT Try.underlying33 sz5 rfl (.some (i := 8) rfl rfl) (by omega) (by omega)) ?_
  refine G.p 2 (by kernel_rfl) rfl (Yl.sliceArrD Try.underlying33 sz5 rfl (.some (i := 8) rfl rfl) (by omega)) ?_
  refine G.runT 1 (by kernel_rfl) rfl rfl rfl (Ef.pure bd32 rfl (fun wc hw => c_palfrey_bits_Big wc _ (xs.take 8) _ _ (by rw [List.map_take]; exact (hw.rwBlk (by repeat (first | exact List.Mem.head _ | apply List.Mem.tail))).take 8) (by rw [List.length_take]; omega) (by rw [List.length_take]; omega))) ⟨(), trivial⟩ (fun _ h => h) (fun _ _ _ h => h.sub (by first | exact List.Sublist.refl _ | exact List.sublist_cons_self _ _ | exact List.sublist_append_right _ _)) fun _ _ => ?_
  simp only [En.put, List.cons_append, List.nil_append]
  refine G.runT 3 (by kernel_rfl) rfl rfl rfl (Ef.pure bd32 rfl (fun wc hw => c_palfrey_bits_Big wc _ (xs.drop 8) _ _ (by have h8 := (hw.rwBlk (b := b1) (by repeat (first | exact List.Mem.head _ | apply List.Mem.tail))).drop 8; rw [← List.map_drop] at h8; exact h8) (by rw [List.length_drop]; omega) (by rw [List.length_drop]; omega))) ⟨(), trivial⟩ (fun _ h => h) (fun _ _ _ h => h.sub (by first | exact List.Sublist.refl _ | exact List.sublist_cons_self _ _ | exact List.sublist_append_right _ _)) fun _ _ => ?_
  simp only [En.put, List.cons_append, List.nil_append]
  refine G.p 4 (by kernel_rfl) rfl (Yl.buildS' (r := [.int _ _, .int _ _]) pl83 zo83 rfl) ?_
  refine G.last (by kernel_rfl) (fun _ h => h) ?_
  refine G0.run 5 (by kernel_rfl) rfl rfl (Ef.storeN sz83 rfl rfl (by repeat (first | exact At.head | apply At.tail)) (by first | rfl | assumption | (simp; done) | (simp; omega) | omega) (by first | rfl | assumption | (simp; done) | (simp; omega) | omega) (by first | exact List.all_eq_true.1 rfl | exact one_u8 _ | (simp; done)) (by first | exact .inr (by assumption) | exact .inl (by simp))) ⟨(), trivial⟩ fun _ _ => ?_
  simp only [En.put, List.cons_append, List.nil_append]
  refine G0.done (by kernel_rfl) (hN1 _ _ _ ?_)
  refine n2 _ _ _ ?_
  refine Wp.ret ?_
  refine (hK _ _ _ ⟨8, rfl⟩ (Res.cellM ⟨8, rfl⟩ rfl rfl (by repeat (first | exact List.Mem.head _ | apply List.Mem.tail)) ag83 rfl) ?_).1
  exact fun w' h => ⟨rfl, h.clear⟩

theorem c__palfrey_ghash_element__block (w : World) (a b : BitVec 64) : Pure Try.prog 45 #[.agg [u64 a, u64 b].toArray] w (.agg ((blockL a b).map u8).toArray) := by
  refine Calls.enter (S := Tr w [] []) Try.func45 rfl (Tr.refl w []) (fun K hK => ?_)
  refine Wp.seq fun K1 n1 r1 => ?_
  refine Wp.region ?_
  refine Ops.f (Ef.boxA rfl) (New.ex _) fun b1 hb1 => ?_
  refine Ops.f (Ef.alloc zo33) (New.ex _) fun b2 hb2 => ?_
  refine Ops.nil ?_
  refine n1 _ _ _ ?_
  refine Wp.seq fun K2 n2 r2 => ?_
  refine Wp.region ?_
  refine Ops.f (Ef.alloc zo33) (New.ex _) fun b3 hb3 => ?_
  refine Ops.nil ?_
  refine n2 _ _ _ ?_
  refine Wp.seq fun K3 n3 r3 => ?_
  refine Wp.draw hmix (fun i => [1, 1, 0, 0, 0].getD i 0) ((Tr w [] [.blk b1 83 [u64 a, u64 b]])) (fun _ h => h.drawn _) fun N2 hN2 => ?_
  refine G.p 0 (by kernel_rfl) rfl (Yl.sliceArrD Try.underlying33 sz5 rfl .none (by omega)) ?_
  refine G.p 1 (by kernel_rfl) rfl ((by first | exact Yl.fieldAddrZ fo83_0 rfl | exact Yl.fieldAddr fo83_0 rfl)) ?_
  refine G.t 2 (by kernel_rfl) rfl (Yl.load1z na70 rfl (by first | exact Rd.blk (by repeat (first | exact List.Mem.head _ | apply List.Mem.tail)) | exact Rd.row (by repeat (first | exact List.Mem.head _ | apply List.Mem.tail)) | assumption) (by first | rfl | exact getmap (by omega) | assumption)) ?_
  refine G.run 3 (by kernel_rfl) rfl rfl rfl (Ef.makes bd33 rfl (fun wc hw => c_palfrey_bits_PutBig wc a 8 (by omega))) (by exact ⟨_, trivial, NewH.row1 (Nat.le_refl _) NewH.nil⟩) (fun _ h => h.sub (by repeat (first | exact List.Sublist.refl _ | exact List.nil_sublist _ | apply List.Sublist.cons_cons | apply List.Sublist.cons))) (fun _ _ _ h => h.sub (by repeat (first | exact List.Sublist.refl _ | exact List.nil_sublist _ | apply List.Sublist.cons_cons | apply List.Sublist.cons))) (fun _ => (Tr w [] [.blk b1 83 [u64 a, u64 b]])) (fun _ _ _ h => h) fun p7 hp7 => ?_
  simp only [En.put, List.cons_append, List.nil_append]
  refine G.run 4 (by kernel_rfl) rfl rfl rfl (Ef.copy Try.underlying23 rfl sz5 rfl rfl (RdS.row (by repeat (first | exact List.Mem.head _ | apply List.Mem.tail))) (by rw [List.length_map, putBE_len]; rfl) (one_u8 _) (by repeat (first | exact At.head | apply At.tail)) .blk rfl (by rw [List.length_map, putBE_len]; simp) (.inr hb3)) ⟨(), trivial⟩ (fun _ h => h.sub (by repeat (first | exact List.Sublist.refl _ | exact List.nil_sublist _ | apply List.Sublist.cons_cons | apply List.Sublist.cons))) (fun _ _ _ h => h.sub (by repeat (first | exact List.Sublist.refl _ | exact List.nil_sublist _ | apply List.Sublist.cons_cons | apply List.Sublist.cons))) (fun _ => (Tr w [] [.blk b1 83 [u64 a, u64 b]])) (fun _ _ _ h => h) fun _ _ => ?_
  simp only [En.put, List.cons_append, List.nil_append]
  refine G.done (by kernel_rfl) (fun _ h => h.sub (by repeat (first | exact List.Sublist.refl _ | exact List.nil_sublist _ | apply List.Sublist.cons_cons | apply List.Sublist.cons))) (hN2 _ _ _ ?_)
  refine n3 _ _ _ ?_
  refine Wp.seq fun K4 n4 r4 => ?_
  refine Wp.draw hmix (fun i => [1, 1, 0, 0, 0].getD i 0) ((Tr w [] [.blk b1 83 [u64 a, u64 b]])) (fun _ h => h.drawn _) fun N3 hN3 => ?_
  refine G.p 0 (by kernel_rfl) rfl (Yl.sliceArrD Try.underlying33 sz5 rfl (.some (i := 8) rfl rfl) (by omega)) ?_
  refine G.p 1 (by kernel_rfl) rfl ((by first | exact Yl.fieldAddrZ fo83_1 rfl | exact Yl.fieldAddr fo83_1 rfl)) ?_
  refine G.t 2 (by kernel_rfl) rfl (Yl.load1z na70 rfl (by first | exact Rd.blk (by repeat (first | exact List.Mem.head _ | apply List.Mem.tail)) | exact Rd.row (by repeat (first | exact List.Mem.head _ | apply List.Mem.tail)) | assumption) (by first | rfl | exact getmap (by omega) | assumption)) ?_
  refine G.run 3 (by kernel_rfl) rfl rfl rfl (Ef.makes bd33 rfl (fun wc hw => c_palfrey_bits_PutBig wc b 8 (by omega))) (by exact ⟨_, trivial, NewH.row1 (Nat.le_refl _) NewH.nil⟩) (fun _ h => h.sub (by repeat (first | exact List.Sublist.refl _ | exact List.nil_sublist _ | apply List.Sublist.cons_cons | apply List.Sublist.cons))) (fun _ _ _ h => h.sub (by repeat (first | exact List.Sublist.refl _ | exact List.nil_sublist _ | apply List.Sublist.cons_cons | apply List.Sublist.cons))) (fun _ => (Tr w [] [.blk b1 83 [u64 a, u64 b]])) (fun _ _ _ h => h) fun p12 hp12 => ?_
  simp only [En.put, List.cons_append, List.nil_append]
  refine G.run 4 (by kernel_rfl) rfl rfl rfl (Ef.copy Try.underlying23 rfl sz5 rfl rfl (RdS.row (by repeat (first | exact List.Mem.head _ | apply List.Mem.tail))) (by rw [List.length_map, putBE_len]; rfl) (one_u8 _) (by repeat (first | exact At.head | apply At.tail)) .blk rfl (by rw [List.length_map, putBE_len]; simp [putBE_len]) (.inr hb3)) ⟨(), trivial⟩ (fun _ h => h.sub (by repeat (first | exact List.Sublist.refl _ | exact List.nil_sublist _ | apply List.Sublist.cons_cons | apply List.Sublist.cons))) (fun _ _ _ h => h.sub (by repeat (first | exact List.Sublist.refl _ | exact List.nil_sublist _ | apply List.Sublist.cons_cons | apply List.Sublist.cons))) (fun _ => (Tr w [] [.blk b1 83 [u64 a, u64 b]])) (fun _ _ _ h => h) fun _ _ => ?_
  simp only [En.put, List.cons_append, List.nil_append]
  refine G.done (by kernel_rfl) (fun _ h => h.sub (by repeat (first | exact List.Sublist.refl _ | exact List.nil_sublist _ | apply List.Sublist.cons_cons | apply List.Sublist.cons))) (hN3 _ _ _ ?_)
  refine n4 _ _ _ ?_
  refine Wp.seq fun K5 n5 r5 => ?_
  refine Wp.mono (S' := Tr w [] [.blk b3 33 ((blockL a b).map u8), .blk b2 33 ((List.replicate 16 0#8).map u8)]) ?_ (fun _ h => by
      rw [two_copies _ _ _ (by rw [List.length_map, putBE_len]) (by rw [List.length_map, putBE_len]) (by simp), ← List.map_append] at h
      exact h.sub (by repeat (first | exact List.Sublist.refl _ | exact List.nil_sublist _ | apply List.Sublist.cons_cons | apply List.Sublist.cons)))
  refine Wp.region ?_
  refine Ops.v (Yl.loadAz ag33 rfl (by first | exact Rd.blk (by repeat (first | exact List.Mem.head _ | apply List.Mem.tail)) | exact Rd.row (by repeat (first | exact List.Mem.head _ | apply List.Mem.tail)) | assumption) (by rw [List.length_map, blockL_len])) ?_
  refine Ops.s (Ef.storeU (blockL a b) sz33 rfl rfl (by repeat (first | exact At.head | apply At.tail)) (blockL_len _ _) (by simp) (.inr hb2)) ?_
  refine Ops.nil ?_
  refine n5 _ _ _ ?_
  refine Wp.ret ?_
  refine (hK _ _ _ ⟨15, rfl⟩ (Res.cellM ⟨15, rfl⟩ rfl rfl (by repeat (first | exact List.Mem.head _ | apply List.Mem.tail)) ag33 (by rw [List.length_map, blockL_len])) ?_).1
  exact fun w' h => ⟨rfl, h.clear⟩

theorem c__palfrey_ghash_element__on (w : World) (a b : BitVec 64) : Pure Try.prog 48 #[.agg [u64 a, u64 b].toArray] w (.agg [u64 (onE a b).1, u64 (onE a b).2].toArray) := by
  refine Calls.enter (S := Tr w [] []) Try.func48 rfl (Tr.refl w []) (fun K hK => ?_)
  refine Wp.seq fun K1 n1 r1 => ?_
  refine Wp.region ?_
  refine Ops.f (Ef.boxA rfl) (New.ex _) fun b1 hb1 => ?_
  refine Ops.f (Ef.alloc zo83) (New.ex _) fun b2 hb2 => ?_
  refine Ops.nil ?_
  refine n1 _ _ _ ?_
  refine Wp.seq fun K2 n2 r2 => ?_
  refine Wp.region ?_
  refine Ops.v ((by first | exact Yl.fieldAddrZ fo83_0 rfl | exact Yl.fieldAddr fo83_0 rfl)) ?_
  refine Ops.v (Yl.load1z na70 rfl (by first | exact Rd.blk (by repeat (first | exact List.Mem.head _ | apply List.Mem.tail)) | exact Rd.row (by repeat (first | exact List.Mem.head _ | apply List.Mem.tail)) | assumption) (by first | rfl | exact getmap (by omega) | assumption)) ?_
  refine Ops.v (Yl.shr64 1 rfl rfl) ?_
  refine Ops.v ((by first | exact Yl.fieldAddrZ fo83_1 rfl | exact Yl.fieldAddr fo83_1 rfl)) ?_
  refine Ops.v (Yl.load1z na70 rfl (by first | exact Rd.blk (by repeat (first | exact List.Mem.head _ | apply List.Mem.tail)) | exact Rd.row (by repeat (first | exact List.Mem.head _ | apply List.Mem.tail)) | assumption) (by first | rfl | exact getmap (by omega) | assumption)) ?_
  refine Ops.v (Yl.shr64 1 rfl rfl) ?_
  refine Ops.v ((by first | exact Yl.fieldAddrZ fo83_0 rfl | exact Yl.fieldAddr fo83_0 rfl)) ?_
  refine Ops.v (Yl.load1z na70 rfl (by first | exact Rd.blk (by repeat (first | exact List.Mem.head _ | apply List.Mem.tail)) | exact Rd.row (by repeat (first | exact List.Mem.head _ | apply List.Mem.tail)) | assumption) (by first | rfl | exact getmap (by omega) | assumption)) ?_
  refine Ops.v (Yl.shl64 63 rfl rfl) ?_
  refine Ops.v (Yl.or64 rfl rfl) ?_
  refine Ops.v (Yl.buildS' (r := [.int _ _, .int _ _]) pl83 zo83 rfl) ?_
  refine Ops.f (Ef.alloc zo83) (New.ex _) fun b3 hb3 => ?_
  refine Ops.s (Ef.storeN sz83 rfl rfl (by repeat (first | exact At.head | apply At.tail)) (by first | rfl | assumption | (simp; done) | (simp; omega) | omega) (by first | rfl | assumption | (simp; done) | (simp; omega) | omega) (by first | exact List.all_eq_true.1 rfl | exact one_u8 _ | (simp; done)) (by first | exact .inr (by assumption) | exact .inl (by simp))) ?_
  refine Ops.nil ?_
  refine n2 _ _ _ ?_
  refine Wp.seq fun K3 n3 r3 => ?_
  refine Wp.seq fun K4 n4 r4 => ?_
  refine Wp.region ?_
  refine Ops.v ((by first | exact Yl.fieldAddrZ fo83_1 rfl | exact Yl.fieldAddr fo83_1 rfl)) ?_
  refine Ops.v (Yl.load1z na70 rfl (by first | exact Rd.blk (by repeat (first | exact List.Mem.head _ | apply List.Mem.tail)) | exact Rd.row (by repeat (first | exact List.Mem.head _ | apply List.Mem.tail)) | assumption) (by first | rfl | exact getmap (by omega) | assumption)) ?_
  refine Ops.v (Yl.and64 (b := 1#64) rfl rfl) ?_
  refine Ops.v (Yl.eq64 (b := 1#64) rfl rfl) ?_
  refine Ops.nil ?_
  refine n4 _ _ _ ?_
  refine Wp.cond _ rfl (fun h18 => ?_) (fun h18 => ?_)
  ·
    try simp only [decide_eq_true_eq, decide_eq_false_iff_not, Bool.not_eq_true, Bool.not_eq_false, Bool.not_true, Bool.not_false, Bool.not_eq_eq_eq_not, ne_eq, Decidable.not_not] at h18
    refine Wp.region ?_
    refine Ops.v ((by first | exact Yl.fieldAddrZ fo83_0 rfl | exact Yl.fieldAddr fo83_0 rfl)) ?_
    refine Ops.v (Yl.load1z na70 rfl (by first | exact Rd.blk (by repeat (first | exact List.Mem.head _ | apply List.Mem.tail)) | exact Rd.row (by repeat (first | exact List.Mem.head _ | apply List.Mem.tail)) | assumption) (by first | rfl | exact getmap (by omega) | assumption)) ?_
    refine Ops.v (Yl.xor64 (b := 16212958658533785600#64) rfl rfl) ?_
    refine Ops.v ((by first | exact Yl.fieldAddrZ fo83_0 rfl | exact Yl.fieldAddr fo83_0 rfl)) ?_
    refine Ops.s (Ef.store1b sz70 rfl rfl (by repeat (first | exact At.head | apply At.tail)) (by first | decide | (simp; done) | (simp; omega) | omega) rfl (by first | exact .inr (by assumption) | exact .inl (by simp))) ?_
    refine Ops.nil ?_
    refine n3 _ _ _ ?_
    refine Wp.seq fun K5 n5 r5 => ?_
    refine Wp.region ?_
    refine Ops.v (Yl.loadAz ag83 rfl (by first | exact Rd.blk (by repeat (first | exact List.Mem.head _ | apply List.Mem.tail)) | exact Rd.row (by repeat (first | exact List.Mem.head _ | apply List.Mem.tail)) | assumption) (by first | rfl | assumption | (simp; done) | (simp; omega))) ?_
    refine Ops.s (Ef.storeN sz83 rfl rfl (by repeat (first | exact At.head | apply At.tail)) (by first | rfl | assumption | (simp; done) | (simp; omega) | omega) (by first | rfl | assumption | (simp; done) | (simp; omega) | omega) (by first | exact List.all_eq_true.1 rfl | exact one_u8 _ | (simp; done)) (by first | exact .inr (by assumption) | exact .inl (by simp))) ?_
    refine Ops.nil ?_
    refine n5 _ _ _ ?_
    refine Wp.ret ?_
    refine (hK _ _ _ ⟨24, rfl⟩ (Res.cellM ⟨24, rfl⟩ rfl rfl (by repeat (first | exact List.Mem.head _ | apply List.Mem.tail)) ag83 rfl) ?_).1
    exact fun w' h => ⟨by rw [onE, if_pos h18]; rfl, h.clear⟩
  ·
    try simp only [decide_eq_true_eq, decide_eq_false_iff_not, Bool.not_eq_true, Bool.not_eq_false, Bool.not_true, Bool.not_false, Bool.not_eq_eq_eq_not, ne_eq, Decidable.not_not] at h18
    refine Wp.skip ?_
    refine n3 _ _ _ ?_
    refine Wp.seq fun K6 n6 r6 => ?_
    refine Wp.region ?_
    refine Ops.v (Yl.loadAz ag83 rfl (by first | exact Rd.blk (by repeat (first | exact List.Mem.head _ | apply List.Mem.tail)) | exact Rd.row (by repeat (first | exact List.Mem.head _ | apply List.Mem.tail)) | assumption) (by first | rfl | assumption | (simp; done) | (simp; omega))) ?_
    refine Ops.s (Ef.storeN sz83 rfl rfl (by repeat (first | exact At.head | apply At.tail)) (by first | rfl | assumption | (simp; done) | (simp; omega) | omega) (by first | rfl | assumption | (simp; done) | (simp; omega) | omega) (by first | exact List.all_eq_true.1 rfl | exact one_u8 _ | (simp; done)) (by first | exact .inr (by assumption) | exact .inl (by simp))) ?_
    refine Ops.nil ?_
    refine n6 _ _ _ ?_
    refine Wp.ret ?_
    refine (hK _ _ _ ⟨24, rfl⟩ (Res.cellM ⟨24, rfl⟩ rfl rfl (by repeat (first | exact List.Mem.head _ | apply List.Mem.tail)) ag83 rfl) ?_).1
    exact fun w' h => ⟨by rw [onE, if_neg h18], h.clear⟩

theorem c__palfrey_ghash_element__times (w : World) (a b c d : BitVec 64) : Pure Try.prog 47 #[.agg [u64 a, u64 b].toArray, .agg [u64 c, u64 d].toArray] w (.agg [u64 (timesL (a, b) (c, d)).1, u64 (timesL (a, b) (c, d)).2].toArray) := by
  refine Calls.enter (S := Tr w [] []) Try.func47 rfl (Tr.refl w []) (fun K hK => ?_)
  refine Wp.seq fun K1 n1 r1 => ?_
  refine Wp.region ?_
  refine Ops.f (Ef.boxA rfl) (New.ex _) fun b2 hb2 => ?_
  refine Ops.f (Ef.boxA rfl) (New.ex _) fun b3 hb3 => ?_
  refine Ops.f (Ef.alloc zo83) (New.ex _) fun b4 hb4 => ?_
  refine Ops.nil ?_
  refine n1 _ _ _ ?_
  refine Wp.seq fun K2 n2 r2 => ?_
  refine Wp.region ?_
  refine Ops.f (Ef.alloc zo83) (New.ex _) fun b5 hb5 => ?_
  refine Ops.nil ?_
  refine n2 _ _ _ ?_
  refine Wp.seq fun K3 n3 r3 => ?_
  refine Wp.seq fun K4 n4 r4 => ?_
  refine Wp.region ?_
  refine Ops.v (Yl.mvI rfl) ?_
  refine Ops.nil ?_
  refine n4 _ _ _ ?_
  refine Wp.block fun K5 n5 x5 r5 => ?_
  skip
  refine Wp.loopI 1 [6, 7, 8, 9, 10, 11, 12, 13, 14, 15, 16, 17, 18, 19, 20, 21, 22, 23, 24, 25, 26, 27, 28, 29, 30, 31, 32, 33, 34, 35, 36, 37, 38, 39, 40, 41, 42] [9] (fun (k : Nat) => k ≤ 128) (fun (k : Nat) => [iv k]) (fun (k : Nat) => Tr w [] [.blk b5 83 [u64 (timesTo (a, b) (c, d) k).1.1, u64 (timesTo (a, b) (c, d) k).1.2], .blk b4 83 [u64 0#64, u64 0#64], .blk b3 83 [u64 (timesTo (a, b) (c, d) k).2.1, u64 (timesTo (a, b) (c, d) k).2.2], .blk b2 83 [u64 a, u64 b]]) (fun (k : Nat) => 128 - k) (0) (by omega) (fun _ => rfl) rfl (fun _ h => h) ?_
  intro k hI6 J6 K6 n6 r6
  try dsimp only at hI6 n6 ⊢
  refine Wp.seq fun K7 n7 r7 => ?_
  refine Wp.region ?_
  refine Ops.v (Yl.lss rfl rfl) ?_
  refine Ops.nil ?_
  refine n7 _ _ _ ?_
  refine Wp.seq fun K8 n8 r8 => ?_
  refine Wp.cond _ rfl (fun h10 => ?_) (fun h10 => ?_)
  ·
    try simp only [decide_eq_true_eq, decide_eq_false_iff_not, Bool.not_eq_true, Bool.not_eq_false, Bool.not_true, Bool.not_false, Bool.not_eq_eq_eq_not, ne_eq, Decidable.not_not] at h10
    refine Wp.skip ?_
    refine n8 _ _ _ ?_
    refine Wp.seq fun K9 n9 r9 => ?_
    refine Wp.block fun K10 n10 x10 r10 => ?_
    refine Wp.seq fun K11 n11 r11 => ?_
    refine Wp.region ?_
    refine Ops.v (Yl.mvI rfl) ?_
    refine Ops.v (Yl.asI rfl) ?_
    refine Ops.nil ?_
    refine n11 _ _ _ ?_
    refine Wp.seq fun K12 n12 r12 => ?_
    refine Wp.region ?_
    refine Ops.v ((by first | exact Yl.fieldAddrZ fo83_0 rfl | exact Yl.fieldAddr fo83_0 rfl)) ?_
    refine Ops.v (Yl.load1z na70 rfl (by first | exact Rd.blk (by repeat (first | exact List.Mem.head _ | apply List.Mem.tail)) | exact Rd.row (by repeat (first | exact List.Mem.head _ | apply List.Mem.tail)) | assumption) (by first | rfl | exact getmap (by omega) | assumption)) ?_
    refine Ops.v (Yl.mvI rfl) ?_
    refine Ops.v (Yl.asI rfl) ?_
    refine Ops.v (Yl.asI rfl) ?_
    refine Ops.nil ?_
    refine n12 _ _ _ ?_
    refine Wp.seq fun K13 n13 r13 => ?_
    refine Wp.seq fun K14 n14 r14 => ?_
    refine Wp.region ?_
    refine Ops.v (Yl.mvI rfl) ?_
    refine Ops.v (Yl.gtr rfl rfl) ?_
    refine Ops.nil ?_
    refine n14 _ _ _ ?_
    refine Wp.cond _ rfl (fun h16 => ?_) (fun h16 => ?_)
    ·
      try simp only [decide_eq_true_eq, decide_eq_false_iff_not, Bool.not_eq_true, Bool.not_eq_false, Bool.not_true, Bool.not_false, Bool.not_eq_eq_eq_not, ne_eq, Decidable.not_not] at h16
      refine Wp.region ?_
      refine Ops.v ((by first | exact Yl.fieldAddrZ fo83_1 rfl | exact Yl.fieldAddr fo83_1 rfl)) ?_
      refine Ops.v (Yl.load1z na70 rfl (by first | exact Rd.blk (by repeat (first | exact List.Mem.head _ | apply List.Mem.tail)) | exact Rd.row (by repeat (first | exact List.Mem.head _ | apply List.Mem.tail)) | assumption) (by first | rfl | exact getmap (by omega) | assumption)) ?_
      refine Ops.v (Yl.mvI rfl) ?_
      refine Ops.v (Yl.sub rfl rfl (by omega) (by omega)) ?_
      refine Ops.v (Yl.sub rfl rfl (by omega) (by omega)) ?_
      refine Ops.v (Yl.asI rfl) ?_
      refine Ops.v (Yl.asI rfl) ?_
      refine Ops.nil ?_
      refine n13 _ _ _ ?_
      refine Wp.seq fun K15 n15 r15 => ?_
      refine Wp.seq fun K16 n16 r16 => ?_
      refine Wp.region ?_
      refine Ops.v (Yl.mvI rfl) ?_
      refine Ops.v (Yl.mvI rfl) ?_
      refine Ops.v (Yl.sub rfl rfl (by omega) (by omega)) ?_
      refine Ops.v (Yl.shrv64 rfl rfl (by omega)) ?_
      refine Ops.v (Yl.and64 (b := 1#64) rfl rfl) ?_
      refine Ops.v (Yl.eq64 (b := 1#64) rfl rfl) ?_
      refine Ops.nil ?_
      refine n16 _ _ _ ?_
      refine Wp.cond _ rfl (fun h27 => ?_) (fun h27 => ?_)
      ·
        try simp only [decide_eq_true_eq, decide_eq_false_iff_not, Bool.not_eq_true, Bool.not_eq_false, Bool.not_true, Bool.not_false, Bool.not_eq_eq_eq_not, ne_eq, Decidable.not_not] at h27
        have hbit : bitE (a, b) k = 1#64 := by
          unfold bitE
          first
            | (rw [if_pos (by omega), show 63 - (k - 63 - 1) = (63 - ((k : Int) - 63 - 1)).toNat from by omega]; exact h27)
            | (rw [if_neg (by omega), show 63 - k = (63 - (k : Int)).toNat from by omega]; exact h27)
        refine Wp.seq fun K17 n17 r17 => ?_
        refine Wp.region ?_
        refine Ops.v ((by first | exact Yl.fieldAddrZ fo83_0 rfl | exact Yl.fieldAddr fo83_0 rfl)) ?_
        refine Ops.v (Yl.load1z na70 rfl (by first | exact Rd.blk (by repeat (first | exact List.Mem.head _ | apply List.Mem.tail)) | exact Rd.row (by repeat (first | exact List.Mem.head _ | apply List.Mem.tail)) | assumption) (by first | rfl | exact getmap (by omega) | assumption)) ?_
        refine Ops.v ((by first | exact Yl.fieldAddrZ fo83_0 rfl | exact Yl.fieldAddr fo83_0 rfl)) ?_
        refine Ops.v (Yl.load1z na70 rfl (by first | exact Rd.blk (by repeat (first | exact List.Mem.head _ | apply List.Mem.tail)) | exact Rd.row (by repeat (first | exact List.Mem.head _ | apply List.Mem.tail)) | assumption) (by first | rfl | exact getmap (by omega) | assumption)) ?_
        refine Ops.v (Yl.xor64 rfl rfl) ?_
        refine Ops.v ((by first | exact Yl.fieldAddrZ fo83_0 rfl | exact Yl.fieldAddr fo83_0 rfl)) ?_
        refine Ops.s (Ef.store1b sz70 rfl rfl (by repeat (first | exact At.head | apply At.tail)) (by first | decide | (simp; done) | (simp; omega) | omega) rfl (by first | exact .inr (by assumption) | exact .inl (by simp))) ?_
        refine Ops.nil ?_
        refine n17 _ _ _ ?_
        refine Wp.region ?_
        refine Ops.v ((by first | exact Yl.fieldAddrZ fo83_1 rfl | exact Yl.fieldAddr fo83_1 rfl)) ?_
        refine Ops.v (Yl.load1z na70 rfl (by first | exact Rd.blk (by repeat (first | exact List.Mem.head _ | apply List.Mem.tail)) | exact Rd.row (by repeat (first | exact List.Mem.head _ | apply List.Mem.tail)) | assumption) (by first | rfl | exact getmap (by omega) | assumption)) ?_
        refine Ops.v ((by first | exact Yl.fieldAddrZ fo83_1 rfl | exact Yl.fieldAddr fo83_1 rfl)) ?_
        refine Ops.v (Yl.load1z na70 rfl (by first | exact Rd.blk (by repeat (first | exact List.Mem.head _ | apply List.Mem.tail)) | exact Rd.row (by repeat (first | exact List.Mem.head _ | apply List.Mem.tail)) | assumption) (by first | rfl | exact getmap (by omega) | assumption)) ?_
        refine Ops.v (Yl.xor64 rfl rfl) ?_
        refine Ops.v ((by first | exact Yl.fieldAddrZ fo83_1 rfl | exact Yl.fieldAddr fo83_1 rfl)) ?_
        refine Ops.s (Ef.store1b sz70 rfl rfl (by repeat (first | exact At.head | apply At.tail)) (by first | decide | (simp; done) | (simp; omega) | omega) rfl (by first | exact .inr (by assumption) | exact .inl (by simp))) ?_
        refine Ops.nil ?_
        refine n15 _ _ _ ?_
        refine Wp.region ?_
        refine Ops.v (Yl.loadAz ag83 rfl (by first | exact Rd.blk (by repeat (first | exact List.Mem.head _ | apply List.Mem.tail)) | exact Rd.row (by repeat (first | exact List.Mem.head _ | apply List.Mem.tail)) | assumption) (by first | rfl | assumption | (simp; done) | (simp; omega))) ?_
        refine Ops.f (Ef.pure bd48 rfl (fun wc hw => c__palfrey_ghash_element__on wc _ _)) ⟨(), trivial⟩ fun _ _ => ?_
        refine Ops.s (Ef.storeN sz83 rfl rfl (by repeat (first | exact At.head | apply At.tail)) (by first | rfl | assumption | (simp; done) | (simp; omega) | omega) (by first | rfl | assumption | (simp; done) | (simp; omega) | omega) (by first | exact List.all_eq_true.1 rfl | exact one_u8 _ | (simp; done)) (by first | exact .inr (by assumption) | exact .inl (by simp))) ?_
        refine Ops.nil ?_
        refine n10 _ _ _ ?_
        refine n9 _ _ _ ?_
        refine Wp.region ?_
        refine Ops.v (Yl.add rfl rfl (by omega) (by omega)) ?_
        refine Ops.v (Yl.mvI rfl) ?_
        refine Ops.nil ?_
        refine n6 (k + 1) _ _ (by omega) ⟨44, rfl⟩ rfl rfl (l1 (congrArg iv (by omega))) (by omega) (fun _ h => by rw [timesTo]; first | (rw [if_pos hbit]; exact h) | (rw [if_neg hbit]; exact h))
      ·
        try simp only [decide_eq_true_eq, decide_eq_false_iff_not, Bool.not_eq_true, Bool.not_eq_false, Bool.not_true, Bool.not_false, Bool.not_eq_eq_eq_not, ne_eq, Decidable.not_not] at h27
        have hbit : ¬ bitE (a, b) k = 1#64 := by
          unfold bitE
          first
            | (rw [if_pos (by omega), show 63 - (k - 63 - 1) = (63 - ((k : Int) - 63 - 1)).toNat from by omega]; exact h27)
            | (rw [if_neg (by omega), show 63 - k = (63 - (k : Int)).toNat from by omega]; exact h27)
        refine Wp.skip ?_
        refine n15 _ _ _ ?_
        refine Wp.region ?_
        refine Ops.v (Yl.loadAz ag83 rfl (by first | exact Rd.blk (by repeat (first | exact List.Mem.head _ | apply List.Mem.tail)) | exact Rd.row (by repeat (first | exact List.Mem.head _ | apply List.Mem.tail)) | assumption) (by first | rfl | assumption | (simp; done) | (simp; omega))) ?_
        refine Ops.f (Ef.pure bd48 rfl (fun wc hw => c__palfrey_ghash_element__on wc _ _)) ⟨(), trivial⟩ fun _ _ => ?_
        refine Ops.s (Ef.storeN sz83 rfl rfl (by repeat (first | exact At.head | apply At.tail)) (by first | rfl | assumption | (simp; done) | (simp; omega) | omega) (by first | rfl | assumption | (simp; done) | (simp; omega) | omega) (by first | exact List.all_eq_true.1 rfl | exact one_u8 _ | (simp; done)) (by first | exact .inr (by assumption) | exact .inl (by simp))) ?_
        refine Ops.nil ?_
        refine n10 _ _ _ ?_
        refine n9 _ _ _ ?_
        refine Wp.region ?_
        refine Ops.v (Yl.add rfl rfl (by omega) (by omega)) ?_
        refine Ops.v (Yl.mvI rfl) ?_
        refine Ops.nil ?_
        refine n6 (k + 1) _ _ (by omega) ⟨44, rfl⟩ rfl rfl (l1 (congrArg iv (by omega))) (by omega) (fun _ h => by rw [timesTo]; first | (rw [if_pos hbit]; exact h) | (rw [if_neg hbit]; exact h))
    ·
      try simp only [decide_eq_true_eq, decide_eq_false_iff_not, Bool.not_eq_true, Bool.not_eq_false, Bool.not_true, Bool.not_false, Bool.not_eq_eq_eq_not, ne_eq, Decidable.not_not] at h16
      refine Wp.skip ?_
      refine n13 _ _ _ ?_
      refine Wp.seq fun K18 n18 r18 => ?_
      refine Wp.seq fun K19 n19 r19 => ?_
      refine Wp.region ?_
      refine Ops.v (Yl.mvI rfl) ?_
      refine Ops.v (Yl.mvI rfl) ?_
      refine Ops.v (Yl.sub rfl rfl (by omega) (by omega)) ?_
      refine Ops.v (Yl.shrv64 rfl rfl (by omega)) ?_
      refine Ops.v (Yl.and64 (b := 1#64) rfl rfl) ?_
      refine Ops.v (Yl.eq64 (b := 1#64) rfl rfl) ?_
      refine Ops.nil ?_
      refine n19 _ _ _ ?_
      refine Wp.cond _ rfl (fun h27 => ?_) (fun h27 => ?_)
      ·
        try simp only [decide_eq_true_eq, decide_eq_false_iff_not, Bool.not_eq_true, Bool.not_eq_false, Bool.not_true, Bool.not_false, Bool.not_eq_eq_eq_not, ne_eq, Decidable.not_not] at h27
        have hbit : bitE (a, b) k = 1#64 := by
          unfold bitE
          first
            | (rw [if_pos (by omega), show 63 - (k - 63 - 1) = (63 - ((k : Int) - 63 - 1)).toNat from by omega]; exact h27)
            | (rw [if_neg (by omega), show 63 - k = (63 - (k : Int)).toNat from by omega]; exact h27)
        refine Wp.seq fun K20 n20 r20 => ?_
        refine Wp.region ?_
        refine Ops.v ((by first | exact Yl.fieldAddrZ fo83_0 rfl | exact Yl.fieldAddr fo83_0 rfl)) ?_
        refine Ops.v (Yl.load1z na70 rfl (by first | exact Rd.blk (by repeat (first | exact List.Mem.head _ | apply List.Mem.tail)) | exact Rd.row (by repeat (first | exact List.Mem.head _ | apply List.Mem.tail)) | assumption) (by first | rfl | exact getmap (by omega) | assumption)) ?_
        refine Ops.v ((by first | exact Yl.fieldAddrZ fo83_0 rfl | exact Yl.fieldAddr fo83_0 rfl)) ?_
        refine Ops.v (Yl.load1z na70 rfl (by first | exact Rd.blk (by repeat (first | exact List.Mem.head _ | apply List.Mem.tail)) | exact Rd.row (by repeat (first | exact List.Mem.head _ | apply List.Mem.tail)) | assumption) (by first | rfl | exact getmap (by omega) | assumption)) ?_
        refine Ops.v (Yl.xor64 rfl rfl) ?_
        refine Ops.v ((by first | exact Yl.fieldAddrZ fo83_0 rfl | exact Yl.fieldAddr fo83_0 rfl)) ?_
        refine Ops.s (Ef.store1b sz70 rfl rfl (by repeat (first | exact At.head | apply At.tail)) (by first | decide | (simp; done) | (simp; omega) | omega) rfl (by first | exact .inr (by assumption) | exact .inl (by simp))) ?_
        refine Ops.nil ?_
        refine n20 _ _ _ ?_
        refine Wp.region ?_
        refine Ops.v ((by first | exact Yl.fieldAddrZ fo83_1 rfl | exact Yl.fieldAddr fo83_1 rfl)) ?_
        refine Ops.v (Yl.load1z na70 rfl (by first | exact Rd.blk (by repeat (first | exact List.Mem.head _ | apply List.Mem.tail)) | exact Rd.row (by repeat (first | exact List.Mem.head _ | apply List.Mem.tail)) | assumption) (by first | rfl | exact getmap (by omega) | assumption)) ?_
        refine Ops.v ((by first | exact Yl.fieldAddrZ fo83_1 rfl | exact Yl.fieldAddr fo83_1 rfl)) ?_
        refine Ops.v (Yl.load1z na70 rfl (by first | exact Rd.blk (by repeat (first | exact List.Mem.head _ | apply List.Mem.tail)) | exact Rd.row (by repeat (first | exact List.Mem.head _ | apply List.Mem.tail)) | assumption) (by first | rfl | exact getmap (by omega) | assumption)) ?_
        refine Ops.v (Yl.xor64 rfl rfl) ?_
        refine Ops.v ((by first | exact Yl.fieldAddrZ fo83_1 rfl | exact Yl.fieldAddr fo83_1 rfl)) ?_
        refine Ops.s (Ef.store1b sz70 rfl rfl (by repeat (first | exact At.head | apply At.tail)) (by first | decide | (simp; done) | (simp; omega) | omega) rfl (by first | exact .inr (by assumption) | exact .inl (by simp))) ?_
        refine Ops.nil ?_
        refine n18 _ _ _ ?_
        refine Wp.region ?_
        refine Ops.v (Yl.loadAz ag83 rfl (by first | exact Rd.blk (by repeat (first | exact List.Mem.head _ | apply List.Mem.tail)) | exact Rd.row (by repeat (first | exact List.Mem.head _ | apply List.Mem.tail)) | assumption) (by first | rfl | assumption | (simp; done) | (simp; omega))) ?_
        refine Ops.f (Ef.pure bd48 rfl (fun wc hw => c__palfrey_ghash_element__on wc _ _)) ⟨(), trivial⟩ fun _ _ => ?_
        refine Ops.s (Ef.storeN sz83 rfl rfl (by repeat (first | exact At.head | apply At.tail)) (by first | rfl | assumption | (simp; done) | (simp; omega) | omega) (by first | rfl | assumption | (simp; done) | (simp; omega) | omega) (by first | exact List.all_eq_true.1 rfl | exact one_u8 _ | (simp; done)) (by first | exact .inr (by assumption) | exact .inl (by simp))) ?_
        refine Ops.nil ?_
        refine n10 _ _ _ ?_
        refine n9 _ _ _ ?_
        refine Wp.region ?_
        refine Ops.v (Yl.add rfl rfl (by omega) (by omega)) ?_
        refine Ops.v (Yl.mvI rfl) ?_
        refine Ops.nil ?_
        refine n6 (k + 1) _ _ (by omega) ⟨44, rfl⟩ rfl rfl (l1 (congrArg iv (by omega))) (by omega) (fun _ h => by rw [timesTo]; first | (rw [if_pos hbit]; exact h) | (rw [if_neg hbit]; exact h))
      ·
        try simp only [decide_eq_true_eq, decide_eq_false_iff_not, Bool.not_eq_true, Bool.not_eq_false, Bool.not_true, Bool.not_false, Bool.not_eq_eq_eq_not, ne_eq, Decidable.not_not] at h27
        have hbit : ¬ bitE (a, b) k = 1#64 := by
          unfold bitE
          first
            | (rw [if_pos (by omega), show 63 - (k - 63 - 1) = (63 - ((k : Int) - 63 - 1)).toNat from by omega]; exact h27)
            | (rw [if_neg (by omega), show 63 - k = (63 - (k : Int)).toNat from by omega]; exact h27)
        refine Wp.skip ?_
        refine n18 _ _ _ ?_
        refine Wp.region ?_
        refine Ops.v (Yl.loadAz ag83 rfl (by first | exact Rd.blk (by repeat (first | exact List.Mem.head _ | apply List.Mem.tail)) | exact Rd.row (by repeat (first | exact List.Mem.head _ | apply List.Mem.tail)) | assumption) (by first | rfl | assumption | (simp; done) | (simp; omega))) ?_
        refine Ops.f (Ef.pure bd48 rfl (fun wc hw => c__palfrey_ghash_element__on wc _ _)) ⟨(), trivial⟩ fun _ _ => ?_
        refine Ops.s (Ef.storeN sz83 rfl rfl (by repeat (first | exact At.head | apply At.tail)) (by first | rfl | assumption | (simp; done) | (simp; omega) | omega) (by first | rfl | assumption | (simp; done) | (simp; omega) | omega) (by first | exact List.all_eq_true.1 rfl | exact one_u8 _ | (simp; done)) (by first | exact .inr (by assumption) | exact .inl (by simp))) ?_
        refine Ops.nil ?_
        refine n10 _ _ _ ?_
        refine n9 _ _ _ ?_
        refine Wp.region ?_
        refine Ops.v (Yl.add rfl rfl (by omega) (by omega)) ?_
        refine Ops.v (Yl.mvI rfl) ?_
        refine Ops.nil ?_
        refine n6 (k + 1) _ _ (by omega) ⟨44, rfl⟩ rfl rfl (l1 (congrArg iv (by omega))) (by omega) (fun _ h => by rw [timesTo]; first | (rw [if_pos hbit]; exact h) | (rw [if_neg hbit]; exact h))
  ·
    try simp only [decide_eq_true_eq, decide_eq_false_iff_not, Bool.not_eq_true, Bool.not_eq_false, Bool.not_true, Bool.not_false, Bool.not_eq_eq_eq_not, ne_eq, Decidable.not_not] at h10
    refine Wp.exit ?_
    refine r8 _ _ _ _ (by simp) ?_
    refine r6 _ _ _ _ (by simp) ?_
    refine x5 _ _ _ ?_
    refine n3 _ _ _ ?_
    refine Wp.seq fun K21 n21 r21 => ?_
    refine Wp.region ?_
    refine Ops.v (Yl.loadAz ag83 rfl (by first | exact Rd.blk (by repeat (first | exact List.Mem.head _ | apply List.Mem.tail)) | exact Rd.row (by repeat (first | exact List.Mem.head _ | apply List.Mem.tail)) | assumption) (by first | rfl | assumption | (simp; done) | (simp; omega))) ?_
    refine Ops.s (Ef.storeN sz83 rfl rfl (by repeat (first | exact At.head | apply At.tail)) (by first | rfl | assumption | (simp; done) | (simp; omega) | omega) (by first | rfl | assumption | (simp; done) | (simp; omega) | omega) (by first | exact List.all_eq_true.1 rfl | exact one_u8 _ | (simp; done)) (by first | exact .inr (by assumption) | exact .inl (by simp))) ?_
    refine Ops.nil ?_
    refine n21 _ _ _ ?_
    refine Wp.ret ?_
    refine (hK _ _ _ ⟨44, rfl⟩ (Res.cellM ⟨44, rfl⟩ rfl rfl (by repeat (first | exact List.Mem.head _ | apply List.Mem.tail)) ag83 rfl) ?_).1
    obtain rfl : k = 128 := by omega
    exact fun w' h => ⟨rfl, h.clear⟩

theorem c_palfrey_ghash_Pad (w : World) (n : Nat) (hle : n ≤ 1099511627776) : Pure Try.prog 44 #[iv n] w (iv (padN n)) := by
  refine Calls.enter (S := Tr w [] []) Try.func44 rfl (Tr.refl w []) (fun K hK => ?_)
  refine Wp.seq fun K1 n1 r1 => ?_
  refine Wp.region ?_
  refine Ops.v (Yl.asI rfl) ?_
  refine Ops.nil ?_
  refine n1 _ _ _ ?_
  refine Wp.seq fun K2 n2 r2 => ?_
  refine Wp.seq fun K3 n3 r3 => ?_
  refine Wp.region ?_
  refine Ops.v (Yl.mvI rfl) ?_
  refine Ops.v (Yl.lss rfl rfl) ?_
  refine Ops.nil ?_
  refine n3 _ _ _ ?_
  refine Wp.cond _ rfl (fun h4 => ?_) (fun h4 => ?_)
  ·
    try simp only [decide_eq_true_eq, decide_eq_false_iff_not, Bool.not_eq_true, Bool.not_eq_false, Bool.not_true, Bool.not_false, Bool.not_eq_eq_eq_not, ne_eq, Decidable.not_not] at h4
    refine Wp.seq fun K4 n4 r4 => ?_
    refine Wp.region ?_
    refine Ops.v (Yl.asI rfl) ?_
    refine Ops.nil ?_
    refine n4 _ _ _ ?_
    refine Wp.ret ?_
    refine r2 _ _ _ _ (by simp) ?_
    refine (hK _ _ _ ⟨9, rfl⟩ (Res.one ⟨9, rfl⟩ rfl rfl) ?_).1
    exact fun w' h => ⟨congrArg (fun z => Ending.returned (iv z)) (by unfold padN; omega), h⟩
  ·
    try simp only [decide_eq_true_eq, decide_eq_false_iff_not, Bool.not_eq_true, Bool.not_eq_false, Bool.not_true, Bool.not_false, Bool.not_eq_eq_eq_not, ne_eq, Decidable.not_not] at h4
    refine Wp.skip ?_
    refine n2 _ _ _ ?_
    refine Wp.seq fun K5 n5 r5 => ?_
    refine Wp.region ?_
    refine Ops.v (Yl.mvI rfl) ?_
    refine Ops.v (Yl.rem rfl rfl (by omega) (by omega)) ?_
    refine Ops.v (Yl.sub rfl rfl (by omega) (by omega)) ?_
    refine Ops.v (Yl.rem rfl rfl (by omega) (by omega)) ?_
    refine Ops.v (Yl.asI rfl) ?_
    refine Ops.nil ?_
    refine n5 _ _ _ ?_
    refine Wp.ret ?_
    refine (hK _ _ _ ⟨9, rfl⟩ (Res.one ⟨9, rfl⟩ rfl rfl) ?_).1
    exact fun w' h => ⟨congrArg (fun z => Ending.returned (iv z)) (by unfold padN; omega), h⟩

theorem c_palfrey_ghash_Lengths (w : World) (n m : Nat) : Pure Try.prog 40 #[iv n, iv m] w (.agg ((lengthsL n m).map u8).toArray) := by
  refine Calls.enter (S := Tr w [] []) Try.func40 rfl (Tr.refl w []) (fun K hK => ?_)
  refine Wp.seq fun K1 n1 r1 => ?_
  refine Wp.region ?_
  refine Ops.f (Ef.alloc zo33) (New.ex _) fun b4 hb4 => ?_
  refine Ops.nil ?_
  refine n1 _ _ _ ?_
  refine Wp.seq fun K2 n2 r2 => ?_
  refine Wp.region ?_
  refine Ops.v (Yl.mvI rfl) ?_
  refine Ops.v (Yl.to64 Try.underlying3 Try.underlying70 rfl) ?_
  refine Ops.v (Yl.mul64 (a := 8#64) rfl rfl) ?_
  refine Ops.v (Yl.mvI rfl) ?_
  refine Ops.v (Yl.to64 Try.underlying3 Try.underlying70 rfl) ?_
  refine Ops.v (Yl.mul64 (a := 8#64) rfl rfl) ?_
  refine Ops.v (Yl.buildS' (r := [.int _ _, .int _ _]) pl83 zo83 rfl) ?_
  refine Ops.f (Ef.pure bd45 rfl (fun wc hw => c__palfrey_ghash_element__block wc _ _)) ⟨(), trivial⟩ fun _ _ => ?_
  refine Ops.s (Ef.storeU (lengthsL n m) sz33 rfl rfl (by repeat (first | exact At.head | apply At.tail)) (lengthsL_len _ _) (by simp) (.inr hb4)) ?_
  refine Ops.nil ?_
  refine n2 _ _ _ ?_
  refine Wp.ret ?_
  refine (hK _ _ _ ⟨13, rfl⟩ (Res.cellM ⟨13, rfl⟩ rfl rfl (by repeat (first | exact List.Mem.head _ | apply List.Mem.tail)) ag33 (by rw [List.length_map, lengthsL_len])) ?_).1
  exact fun w' h => ⟨rfl, h.clear⟩

theorem c_palfrey_ghash_Sum (w : World) (hs bs : List B8) (A : Option Addr) (n c N : Nat) (hh : hs.length = 16) (hA : Rw w A (bs.map u8)) (hn : n = bs.length) (hc : n ≤ c) (hN : bs.length = 16 * N) (hle : N ≤ 1099511627776) : Pure Try.prog 41 #[.agg (hs.map u8).toArray, .slice A n c] w (.agg ((sumL hs bs N).map u8).toArray) := by
  subst hn
  refine Calls.enter (S := Tr w [] []) Try.func41 rfl (Tr.refl w []) (fun K hK => ?_)
  refine Wp.seq fun K1 n1 r1 => ?_
  refine Wp.region ?_
  refine Ops.f (Ef.boxA rfl) (New.ex _) fun b2 hb2 => ?_
  refine Ops.f (Ef.alloc zo33) (New.ex _) fun b4 hb4 => ?_
  refine Ops.nil ?_
  refine n1 _ _ _ ?_
  refine Wp.scopeI 0 1 [1, 5, 6, 7, 8, 9, 10, 11, 12, 13, 14, 15, 16, 17, 18, 19, 20, 21, 22, 23, 24, 25, 26, 27, 28, 29, 30, 31, 32, 33, 34, 35, 36] [1, 5, 6, 7, 8] (fun (p : SumX) => p.k ≤ N ∧ Rw w p.A ((bs.drop (16 * p.k)).map u8) ∧ 16 * (N - p.k) ≤ p.c ∧ New w p.b5 ∧ New w p.b6 ∧ New w p.b7 ∧ New w p.b8 ∧ p.xc.length = 16 ∧ p.ec.length = 2) (fun p => [.slice p.A (16 * (N - p.k)) p.c, pt p.b5 0, pt p.b6 0, pt p.b7 0, pt p.b8 0]) (fun (p : SumX) => Tr w [] [.blk p.b8 83 [u64 (ofL hs).1, u64 (ofL hs).2], .blk p.b7 33 p.xc, .blk p.b6 83 p.ec, .blk p.b5 83 [u64 (sumTo (ofL hs) bs p.k).1, u64 (sumTo (ofL hs) bs p.k).2], .blk b4 33 ((List.replicate 16 0#8).map u8), .blk b2 33 (hs.map u8)]) (fun (p : SumX) => N - p.k) (fun _ => rfl) rfl (fun K2 hE2 r2 => ?_) ?_
  ·
    refine Wp.seq fun K3 n3 r3 => ?_
    refine Wp.region ?_
    refine Ops.f (Ef.alloc zo83) (New.ex _) fun b5 hb5 => ?_
    refine Ops.f (Ef.alloc zo83) (New.ex _) fun b6 hb6 => ?_
    refine Ops.nil ?_
    refine n3 _ _ _ ?_
    refine Wp.seq fun K4 n4 r4 => ?_
    refine Wp.region ?_
    refine Ops.f (Ef.alloc zo33) (New.ex _) fun b7 hb7 => ?_
    refine Ops.nil ?_
    refine n4 _ _ _ ?_
    refine Wp.seq fun K5 n5 r5 => ?_
    refine Wp.region ?_
    refine Ops.v (Yl.loadAz ag33 rfl (by first | exact Rd.blk (by repeat (first | exact List.Mem.head _ | apply List.Mem.tail)) | exact Rd.row (by repeat (first | exact List.Mem.head _ | apply List.Mem.tail)) | assumption) (by first | rfl | assumption | (simp; done) | (simp; omega))) ?_
    refine Ops.f (Ef.pure bd46 rfl (fun wc hw => c_palfrey_ghash_of wc _ hh)) ⟨(), trivial⟩ fun _ _ => ?_
    refine Ops.f (Ef.alloc zo83) (New.ex _) fun b8 hb8 => ?_
    refine Ops.s (Ef.storeN sz83 rfl rfl (by repeat (first | exact At.head | apply At.tail)) (by first | rfl | assumption | (simp; done) | (simp; omega) | omega) (by first | rfl | assumption | (simp; done) | (simp; omega) | omega) (by first | exact List.all_eq_true.1 rfl | exact one_u8 _ | (simp; done)) (by first | exact .inr (by assumption) | exact .inl (by simp))) ?_
    refine Ops.nil ?_
    refine n5 _ _ _ ?_
    exact hE2 ⟨0, A, c, b5, b6, b7, b8, ((List.replicate 16 0#8).map u8), [u64 0#64, u64 0#64]⟩ _ _ ⟨Nat.zero_le _, by simpa using hA, by dsimp only; omega, hb5, hb6, hb7, hb8, by simp, rfl⟩ ⟨37, rfl⟩ rfl rfl (l5 (congrArg (fun z => Value.slice A z c) (by omega)) rfl rfl rfl rfl) (fun _ h => h)
  ·
    intro p hI2 J2 K2 n2 r2
    try dsimp only at hI2 n2 ⊢
    obtain ⟨hk1, hA1, hcc, hb5, hb6, hb7, hb8, hxc, hec⟩ := hI2
    refine Wp.seq fun K6 n6 r6 => ?_
    refine Wp.seq fun K7 n7 r7 => ?_
    refine Wp.region ?_
    refine Ops.v (Yl.mvS rfl) ?_
    refine Ops.v (Yl.len Try.underlying23 rfl rfl) ?_
    refine Ops.v (Yl.eql rfl rfl) ?_
    refine Ops.nil ?_
    refine n7 _ _ _ ?_
    refine Wp.cond _ rfl (fun h13 => ?_) (fun h13 => ?_)
    ·
      try simp only [decide_eq_true_eq, decide_eq_false_iff_not, Bool.not_eq_true, Bool.not_eq_false, Bool.not_true, Bool.not_false, Bool.not_eq_eq_eq_not, ne_eq, Decidable.not_not] at h13
      refine Wp.seq fun K8 n8 r8 => ?_
      refine Wp.region ?_
      refine Ops.v (Yl.loadAz ag83 rfl (by first | exact Rd.blk (by repeat (first | exact List.Mem.head _ | apply List.Mem.tail)) | exact Rd.row (by repeat (first | exact List.Mem.head _ | apply List.Mem.tail)) | assumption) (by first | rfl | assumption | (simp; done) | (simp; omega))) ?_
      refine Ops.f (Ef.pure bd45 rfl (fun wc hw => c__palfrey_ghash_element__block wc _ _)) ⟨(), trivial⟩ fun _ _ => ?_
      refine Ops.s (Ef.storeU (blockL (sumTo (ofL hs) bs p.k).1 (sumTo (ofL hs) bs p.k).2) sz33 rfl rfl (by repeat (first | exact At.head | apply At.tail)) (blockL_len _ _) (by simp) (.inr hb4)) ?_
      refine Ops.nil ?_
      refine n8 _ _ _ ?_
      refine Wp.ret ?_
      refine r6 _ _ _ _ (by simp) ?_
      refine r2 _ _ _ _ (by simp) ?_
      refine (hK _ _ _ ⟨37, rfl⟩ (Res.cellM ⟨37, rfl⟩ rfl rfl (by repeat (first | exact List.Mem.head _ | apply List.Mem.tail)) ag33 (by rw [List.length_map, blockL_len])) ?_).1
      have e : p.k = N := by omega
      exact fun w' h => ⟨congrArg (fun z => Ending.returned (.agg ((blockL (sumTo (ofL hs) bs z).1 (sumTo (ofL hs) bs z).2).map u8).toArray)) e, h.clear⟩
    ·
      try simp only [decide_eq_true_eq, decide_eq_false_iff_not, Bool.not_eq_true, Bool.not_eq_false, Bool.not_true, Bool.not_false, Bool.not_eq_eq_eq_not, ne_eq, Decidable.not_not] at h13
      refine Wp.skip ?_
      refine n6 _ _ _ ?_
      refine Wp.seq fun K9 n9 r9 => ?_
      refine Wp.region ?_
      refine Ops.v (Yl.buildArr' (r := ((List.replicate 16 0#8).map u8)) Try.underlying33 zo33 sz5 rfl) ?_
      refine Ops.s (Ef.storeU (List.replicate 16 0#8) sz33 rfl rfl (by repeat (first | exact At.head | apply At.tail)) (by simp) hxc (.inr hb7)) ?_
      refine Ops.nil ?_
      refine n9 _ _ _ ?_
      refine Wp.seq fun K10 n10 r10 => ?_
      refine Wp.region ?_
      refine Ops.v (Yl.mvS rfl) ?_
      refine Ops.v (Yl.sliceArrD Try.underlying33 sz5 rfl .none (by omega)) ?_
      refine Ops.v (Yl.mvS rfl) ?_
      refine Ops.f (Ef.copy (ys := (blkAt bs p.k).map u8) Try.underlying23 rfl sz5 rfl rfl (by rw [blkAt, List.map_take]; exact (RdS.of hA1).take 16) (by simp [blkAt]; omega) (one_u8 _) (by repeat (first | exact At.head | apply At.tail)) .blk rfl (by simp [blkAt]; omega) (.inr hb7)) ⟨(), trivial⟩ fun _ _ => ?_
      refine Ops.v (Yl.slice Try.underlying23 sz5 rfl (.some (i := 16) rfl (by omega)) .none .none (.inl rfl) (by omega) (by omega) (by omega)) ?_
      refine Ops.v (Yl.asS rfl) ?_
      refine Ops.nil ?_
      refine n10 _ _ _ ?_
      refine Wp.seq fun K11 n11 r11 => ?_
      have hbl : (blkAt bs p.k).length = 16 := by simp [blkAt]; omega
      refine Wp.mono (S' := Tr w [] [.blk p.b8 83 [u64 (ofL hs).1, u64 (ofL hs).2], .blk p.b7 33 ((blkAt bs p.k).map u8), .blk p.b6 83 p.ec, .blk p.b5 83 [u64 (sumTo (ofL hs) bs p.k).1, u64 (sumTo (ofL hs) bs p.k).2], .blk b4 33 ((List.replicate 16 0#8).map u8), .blk b2 33 (hs.map u8)]) ?_ (fun _ h => by
          rw [one_copy _ _ (by simp [hbl])] at h
          exact h)
      refine Wp.region ?_
      refine Ops.v (Yl.loadAz ag33 rfl (by first | exact Rd.blk (by repeat (first | exact List.Mem.head _ | apply List.Mem.tail)) | exact Rd.row (by repeat (first | exact List.Mem.head _ | apply List.Mem.tail)) | assumption) (by rw [List.length_map, hbl])) ?_
      refine Ops.f (Ef.pure bd46 rfl (fun wc hw => c_palfrey_ghash_of wc _ hbl)) ⟨(), trivial⟩ fun _ _ => ?_
      refine Ops.s (Ef.storeN sz83 rfl rfl (by repeat (first | exact At.head | apply At.tail)) (by first | rfl | assumption | (simp; done) | (simp; omega) | omega) hec (by first | exact List.all_eq_true.1 rfl | exact one_u8 _ | (simp; done)) (by first | exact .inr (by assumption) | exact .inl (by simp))) ?_
      refine Ops.nil ?_
      refine n11 _ _ _ ?_
      refine Wp.seq fun K12 n12 r12 => ?_
      refine Wp.region ?_
      refine Ops.v ((by first | exact Yl.fieldAddrZ fo83_0 rfl | exact Yl.fieldAddr fo83_0 rfl)) ?_
      refine Ops.v (Yl.load1z na70 rfl (by first | exact Rd.blk (by repeat (first | exact List.Mem.head _ | apply List.Mem.tail)) | exact Rd.row (by repeat (first | exact List.Mem.head _ | apply List.Mem.tail)) | assumption) (by first | rfl | exact getmap (by omega) | assumption)) ?_
      refine Ops.v ((by first | exact Yl.fieldAddrZ fo83_0 rfl | exact Yl.fieldAddr fo83_0 rfl)) ?_
      refine Ops.v (Yl.load1z na70 rfl (by first | exact Rd.blk (by repeat (first | exact List.Mem.head _ | apply List.Mem.tail)) | exact Rd.row (by repeat (first | exact List.Mem.head _ | apply List.Mem.tail)) | assumption) (by first | rfl | exact getmap (by omega) | assumption)) ?_
      refine Ops.v (Yl.xor64 rfl rfl) ?_
      refine Ops.v ((by first | exact Yl.fieldAddrZ fo83_1 rfl | exact Yl.fieldAddr fo83_1 rfl)) ?_
      refine Ops.v (Yl.load1z na70 rfl (by first | exact Rd.blk (by repeat (first | exact List.Mem.head _ | apply List.Mem.tail)) | exact Rd.row (by repeat (first | exact List.Mem.head _ | apply List.Mem.tail)) | assumption) (by first | rfl | exact getmap (by omega) | assumption)) ?_
      refine Ops.v ((by first | exact Yl.fieldAddrZ fo83_1 rfl | exact Yl.fieldAddr fo83_1 rfl)) ?_
      refine Ops.v (Yl.load1z na70 rfl (by first | exact Rd.blk (by repeat (first | exact List.Mem.head _ | apply List.Mem.tail)) | exact Rd.row (by repeat (first | exact List.Mem.head _ | apply List.Mem.tail)) | assumption) (by first | rfl | exact getmap (by omega) | assumption)) ?_
      refine Ops.v (Yl.xor64 rfl rfl) ?_
      refine Ops.v (Yl.buildS' (r := [.int _ _, .int _ _]) pl83 zo83 rfl) ?_
      refine Ops.v (Yl.loadAz ag83 rfl (by first | exact Rd.blk (by repeat (first | exact List.Mem.head _ | apply List.Mem.tail)) | exact Rd.row (by repeat (first | exact List.Mem.head _ | apply List.Mem.tail)) | assumption) (by first | rfl | assumption | (simp; done) | (simp; omega))) ?_
      refine Ops.f (Ef.pure bd47 rfl (fun wc hw => c__palfrey_ghash_element__times wc _ _ _ _)) ⟨(), trivial⟩ fun _ _ => ?_
      refine Ops.s (Ef.storeN sz83 rfl rfl (by repeat (first | exact At.head | apply At.tail)) (by first | rfl | assumption | (simp; done) | (simp; omega) | omega) (by first | rfl | assumption | (simp; done) | (simp; omega) | omega) (by first | exact List.all_eq_true.1 rfl | exact one_u8 _ | (simp; done)) (by first | exact .inr (by assumption) | exact .inl (by simp))) ?_
      refine Ops.nil ?_
      refine n12 _ _ _ ?_
      refine Wp.goto ?_
      exact n2 ⟨p.k + 1, slideA p.A p.c, p.c - 16, p.b5, p.b6, p.b7, p.b8, (blkAt bs p.k).map u8, [u64 (ofL (blkAt bs p.k)).1, u64 (ofL (blkAt bs p.k)).2]⟩ _ _ ⟨by dsimp only; omega, slide_rw hA1 hN (by omega) hcc, by dsimp only; omega, hb5, hb6, hb7, hb8, by simp [blkAt]; omega, rfl⟩ ⟨37, rfl⟩ rfl rfl (l5 (congrArg (fun z => Value.slice _ z _) (by dsimp only; omega)) rfl rfl rfl rfl) (by dsimp only; omega) (fun _ h => h)

end Go.Proofs.Ytiimjkpcljelpaa

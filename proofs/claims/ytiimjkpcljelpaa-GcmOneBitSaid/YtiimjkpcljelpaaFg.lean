/- Walks of functions. -/
import Derived.Test.YtiimjkpcljelpaaFf
set_option maxRecDepth 10000
open Go.RowKit Go.Eng
set_option linter.unusedSimpArgs false
set_option linter.unusedVariables false
namespace Go.Proofs.Ytiimjkpcljelpaa

theorem c_palfrey_gcm_padded (w : World) (A : Option Addr) (xs : List B8) (n c : Nat) (hA : Rw w A (xs.map u8)) (hn : n = xs.length) (hle : xs.length ≤ 1073741824) : Makes Try.prog 39 #[.slice A n c] w (fun _ => True) (fun x : Option Nat × Nat => sl x.1 (padL xs).length x.2) (fun x => [.row x.1 5 1 (padL xs).length x.2 ((padL xs).map u8)]) := by
  subst hn
  have hp := padN_lt xs.length
  refine Calls.enter (S := Tr w [] []) Try.func39 rfl (Tr.refl w []) (fun K hK => ?_)
  refine Wp.seq fun K1 n1 r1 => ?_
  refine Wp.region ?_
  refine Ops.v (Yl.asS rfl) ?_
  refine Ops.nil ?_
  refine n1 _ _ _ ?_
  refine Wp.seq fun K2 n2 r2 => ?_
  refine Wp.region ?_
  refine Ops.v (Yl.mvS rfl) ?_
  refine Ops.v (Yl.mvS rfl) ?_
  refine Ops.v (Yl.len Try.underlying23 rfl rfl) ?_
  refine Ops.f (Ef.pure bd44 rfl (fun wc hw => c_palfrey_ghash_Pad wc xs.length (by omega))) ⟨(), trivial⟩ fun _ _ => ?_
  refine Ops.f (Ef.make (padN xs.length) Try.underlying23 el5 rfl rfl rfl (by decide) (by omega) (by omega)) (New.ex _) fun b7 hb7 => ?_
  refine Ops.f (Ef.buildSlice' (r := [.slice _ _ _, .slice _ _ _]) Try.underlying76 el23 (by omega) (by omega) rfl) (New.ex _) fun b8 hb8 => ?_
  refine Ops.f (Ef.makes bd36 rfl (fun wc hw => c_slices_Concat___byte_byte_ wc _ _ [xs, List.replicate (padN xs.length) 0#8] _ _ (hw.rwBlk (by repeat (first | exact List.Mem.head _ | apply List.Mem.tail))) (Parts.two (hA.keep hw) rfl (by have h7 := hw.rwRow (ao := some b7) (by repeat (first | exact List.Mem.head _ | apply List.Mem.tail)); simpa only [List.map_replicate, List.flatten_replicate_singleton] using h7) (by simp)) rfl (by omega) (by simp; omega))) (by exact ⟨(some _, 0), fun _ => ⟨_, rfl⟩, NewH.row1 (Nat.le_refl _) NewH.nil⟩) fun p9 hp9 => ?_
  refine Ops.v (Yl.asS rfl) ?_
  refine Ops.nil ?_
  refine n2 _ _ _ ?_
  refine Wp.ret ?_
  refine (hK _ _ _ ⟨10, rfl⟩ (Res.one ⟨10, rfl⟩ rfl rfl) ?_).1
  exact fun w' h => ⟨p9, trivial, hp9.2, rfl, h.sub (by repeat (first | exact List.Sublist.refl _ | exact List.nil_sublist _ | apply List.Sublist.cons_cons | apply List.Sublist.cons))⟩

theorem c_palfrey_gcm_hash (w : World) (kb : Nat) (tab ws : List B8) (r : Nat) (hk : KeysAt w [] kb tab ws r) (hr : 1 ≤ r) (n m : Nat) (A : Option Addr) (vals : List Value) (xss : List (List B8)) (q c : Nat) (hA : Rw w A vals) (hv : Parts w vals xss) (hq : q = xss.length) (hq9 : q ≤ 1073741824) (hle : (pcTo xss xss.length).length ≤ 1073741824) : Pure Try.prog 34 #[pt kb 0, iv n, iv m, .slice A q c] w (.agg ((hashL (enc tab ws r) n m xss).map u8).toArray) := by
  subst hq
  obtain ⟨hvl, hv⟩ := hv
  refine Calls.enter (S := Tr w [] []) Try.func34 rfl (Tr.refl w []) (fun K hK => ?_)
  refine Wp.seq fun K1 n1 r1 => ?_
  refine Wp.region ?_
  refine Ops.f (Ef.alloc zo33) (New.ex _) fun b8 hb8 => ?_
  refine Ops.nil ?_
  refine n1 _ _ _ ?_
  refine Wp.seq fun K2 n2 r2 => ?_
  refine Wp.region ?_
  refine Ops.v (Yl.asS rfl) ?_
  refine Ops.nil ?_
  refine n2 _ _ _ ?_
  refine Wp.seq fun K3 n3 r3 => ?_
  refine Wp.seq fun K4 n4 r4 => ?_
  refine Wp.region ?_
  refine Ops.v (Yl.mvS rfl) ?_
  refine Ops.v (Yl.len Try.underlying76 rfl rfl) ?_
  refine Ops.v (Yl.mvI rfl) ?_
  refine Ops.nil ?_
  refine n4 _ _ _ ?_
  refine Wp.block fun K5 n5 x5 r5 => ?_
  skip
  refine Wp.loopI 1 [9, 11, 15, 16, 17, 18, 19, 20, 21, 22, 23] [15, 9] (fun (p : Nat × Option Nat × Nat) => p.1 ≤ xss.length ∧ ∀ j, p.2.1 = some j → New w j) (fun p => [iv p.1, sl p.2.1 (pcTo xss p.1).length p.2.2]) (fun (p : Nat × Option Nat × Nat) => Tr w [] [.row p.2.1 5 1 (pcTo xss p.1).length p.2.2 ((pcTo xss p.1).map u8), .blk b8 33 ((List.replicate 16 0#8).map u8)]) (fun (p : Nat × Option Nat × Nat) => xss.length - p.1) ((0, none, 0)) ⟨by simp, by simp⟩ (fun _ => rfl) rfl (fun _ h => by exact h.addRow _ _) ?_
  rintro ⟨k, ao, cc⟩ hI6 J6 K6 n6 r6
  try dsimp only at hI6 n6 ⊢
  obtain ⟨hk1, hao⟩ := hI6
  refine Wp.seq fun K7 n7 r7 => ?_
  refine Wp.region ?_
  refine Ops.v (Yl.lss rfl rfl) ?_
  refine Ops.nil ?_
  refine n7 _ _ _ ?_
  refine Wp.seq fun K8 n8 r8 => ?_
  refine Wp.cond _ rfl (fun h16 => ?_) (fun h16 => ?_)
  ·
    try simp only [decide_eq_true_eq, decide_eq_false_iff_not, Bool.not_eq_true, Bool.not_eq_false, Bool.not_true, Bool.not_false, Bool.not_eq_eq_eq_not, ne_eq, Decidable.not_not] at h16
    refine Wp.skip ?_
    refine n8 _ _ _ ?_
    refine Wp.seq fun K9 n9 r9 => ?_
    refine Wp.block fun K10 n10 x10 r10 => ?_
    refine Wp.seq fun K11 n11 r11 => ?_
    refine Wp.region ?_
    obtain ⟨b1, o1, rfl⟩ := hA.addr (i := k) (by omega)
    obtain ⟨A1, c1, hv1, hr1⟩ := hv k (by omega)
    have hc1 := pcTo_mono xss (k + 1) xss.length (by omega)
    rw [pcTo, List.length_append] at hc1
    have hc2 := padL_len (xss.getD k default)
    refine Ops.v (Yl.indexSlice1 Try.underlying76 sz23 rfl rfl k rfl (by omega)) ?_
    refine Ops.v (Yl.load1 na23 rfl k hA.rd rfl hv1) ?_
    refine Ops.v (Yl.asS rfl) ?_
    refine Ops.nil ?_
    refine n11 _ _ _ ?_
    refine Wp.region ?_
    refine Ops.v (Yl.mvS rfl) ?_
    refine Ops.v (Yl.mvS rfl) ?_
    refine Ops.f (Ef.makes bd39 rfl (fun wc hw => c_palfrey_gcm_padded wc A1 (xss.getD k default) _ c1 (hr1.keep hw) rfl (by omega))) (by exact ⟨(some _, 0), trivial, NewH.row1 (Nat.le_refl _) NewH.nil⟩) fun p21 hp21 => ?_
    refine Ops.f (Ef.append (ao := ao) Try.underlying23 rfl el5 rfl (by repeat (first | exact At.head | apply At.tail)) rfl (RdS.row (by repeat (first | exact List.Mem.head _ | apply List.Mem.tail))) (by rw [List.length_map, Nat.mul_one]) (one_u8 _) (by omega) (by omega) (by omega) (fun j hj => .inr (hao j hj))) ⟨(none, 0), fun _ h => by cases h⟩ fun p22 hp22 => ?_
    refine Ops.v (Yl.asS rfl) ?_
    refine Ops.nil ?_
    refine n10 _ _ _ ?_
    refine n9 _ _ _ ?_
    refine Wp.region ?_
    refine Ops.v (Yl.add rfl rfl (by omega) (by omega)) ?_
    refine Ops.v (Yl.mvI rfl) ?_
    refine Ops.nil ?_
    refine n6 (k + 1, p22.1, p22.2) _ _ ⟨by omega, fun j hj => (hp22 j hj).resolve_left (by simp)⟩ ⟨34, rfl⟩ rfl rfl (l2 (congrArg iv (by omega)) (by rw [pcTo, List.length_append]; rfl)) (by omega) (fun _ h => by rw [pcTo, List.length_append, List.map_append]; exact h.sub (by repeat (first | exact List.Sublist.refl _ | exact List.nil_sublist _ | apply List.Sublist.cons_cons | apply List.Sublist.cons)))
  ·
    try simp only [decide_eq_true_eq, decide_eq_false_iff_not, Bool.not_eq_true, Bool.not_eq_false, Bool.not_true, Bool.not_false, Bool.not_eq_eq_eq_not, ne_eq, Decidable.not_not] at h16
    refine Wp.exit ?_
    refine r8 _ _ _ _ (by simp) ?_
    refine r6 _ _ _ _ (by simp) ?_
    refine x5 _ _ _ ?_
    refine n3 _ _ _ ?_
    refine Wp.seq fun K12 n12 r12 => ?_
    refine Wp.region ?_
    have hkx : k = xss.length := by omega
    have hlk : (pcTo xss k).length ≤ 1073741824 := by rw [hkx]; exact hle
    have hin : hashIn n m xss = pcTo xss k ++ lengthsL n m := by rw [hkx]; rfl
    refine Ops.v (Yl.mvI rfl) ?_
    refine Ops.v (Yl.mvI rfl) ?_
    refine Ops.f (Ef.pure bd40 rfl (fun wc hw => c_palfrey_ghash_Lengths wc n m)) ⟨(), trivial⟩ fun _ _ => ?_
    refine Ops.f (Ef.alloc zo33) (New.ex _) fun b12 hb12 => ?_
    refine Ops.s (Ef.storeU (lengthsL n m) sz33 rfl rfl (by repeat (first | exact At.head | apply At.tail)) (lengthsL_len _ _) (by simp) (.inr hb12)) ?_
    refine Ops.nil ?_
    refine n12 _ _ _ ?_
    refine Wp.seq fun K13 n13 r13 => ?_
    refine Wp.draw hmix (fun i => [1, 1, 0, 1, 1, 0, 0, 2].getD i 0) ((Tr w [] [])) (fun _ h => h.drawn _) fun N8 hN8 => ?_
    refine G.p 0 (by kernel_rfl) rfl (Yl.mvP rfl) ?_
    refine G.p 1 (by kernel_rfl) rfl (Yl.buildArr' (r := ((List.replicate 16 0#8).map u8)) Try.underlying33 zo33 sz5 rfl) ?_
    refine G.p 3 (by kernel_rfl) rfl (Yl.mvS rfl) ?_
    refine G.p 4 (by kernel_rfl) rfl (Yl.sliceArrD Try.underlying33 sz5 rfl .none (by omega)) ?_
    refine G.run 2 (by kernel_rfl) rfl rfl rfl (Ef.pure bd7 rfl (fun wc hw => c___palfrey_aes_Keys__Encrypt wc kb tab ws zeros16 r (hk.keep hw) (by simp) hr)) ⟨(), trivial⟩ (fun _ h => h.sub (by repeat (first | exact List.Sublist.refl _ | exact List.nil_sublist _ | apply List.Sublist.cons_cons | apply List.Sublist.cons))) (fun _ _ _ h => h.sub (by repeat (first | exact List.Sublist.refl _ | exact List.nil_sublist _ | apply List.Sublist.cons_cons | apply List.Sublist.cons))) (fun _ => (Tr w [] [])) (fun _ _ _ h => h) fun _ _ => ?_
    simp only [En.put, List.cons_append, List.nil_append]
    refine G.run 5 (by kernel_rfl) rfl rfl rfl (Ef.append (ao := ao) Try.underlying23 rfl el5 rfl (by repeat (first | exact At.head | apply At.tail)) rfl (RdS.blk (by repeat (first | exact List.Mem.head _ | apply List.Mem.tail))) (by rw [List.length_map, lengthsL_len]) (one_u8 _) (by omega) (by omega) (by omega) (fun j hj => .inr (hao j hj))) ⟨(none, 0), fun _ h => by cases h⟩ (fun _ h => h.sub (by repeat (first | exact List.Sublist.refl _ | exact List.nil_sublist _ | apply List.Sublist.cons_cons | apply List.Sublist.cons))) (fun _ _ _ h => h.sub (by repeat (first | exact List.Sublist.refl _ | exact List.nil_sublist _ | apply List.Sublist.cons_cons | apply List.Sublist.cons))) (fun _ => (Tr w [] [])) (fun _ _ _ h => h) fun p32 hp32 => ?_
    simp only [En.put, List.cons_append, List.nil_append]
    refine G.run 6 (by kernel_rfl) rfl rfl rfl (Ef.pure bd41 rfl (fun wc hw => c_palfrey_ghash_Sum wc ((enc tab ws r) zeros16) (hashIn n m xss) _ _ _ ((hashIn n m xss).length / 16) (enc_len _ _ _ _) (by rw [hin, List.map_append]; exact hw.rwRow (ao := p32.1) (by repeat (first | exact List.Mem.head _ | apply List.Mem.tail))) (by rw [hin, List.length_append, lengthsL_len]) (room_of (hw.sat (Hl.row p32.1 _ _ _ _ _) (by repeat (first | exact List.Mem.head _ | apply List.Mem.tail)))).1 (by have := pcTo_mod xss k; rw [hin, List.length_append, lengthsL_len]; omega) (by rw [hin, List.length_append, lengthsL_len]; omega))) ⟨(), trivial⟩ (fun _ h => h.sub (by repeat (first | exact List.Sublist.refl _ | exact List.nil_sublist _ | apply List.Sublist.cons_cons | apply List.Sublist.cons))) (fun _ _ _ h => h.sub (by repeat (first | exact List.Sublist.refl _ | exact List.nil_sublist _ | apply List.Sublist.cons_cons | apply List.Sublist.cons))) (fun _ => (Tr w [] [])) (fun _ _ _ h => h) fun _ _ => ?_
    simp only [En.put, List.cons_append, List.nil_append]
    refine G.last (by kernel_rfl) (fun _ h => h.sub (by repeat (first | exact List.Sublist.refl _ | exact List.nil_sublist _ | apply List.Sublist.cons_cons | apply List.Sublist.cons))) ?_
    refine G0.run 7 (by kernel_rfl) rfl rfl (Ef.storeU (hashL (enc tab ws r) n m xss) sz33 rfl rfl (by repeat (first | exact At.head | apply At.tail)) (hashL_len _ _ _ _) (by simp) (.inr hb8)) ⟨(), trivial⟩ fun _ _ => ?_
    simp only [En.put, List.cons_append, List.nil_append]
    refine G0.done (by kernel_rfl) (hN8 _ _ _ ?_)
    refine n13 _ _ _ ?_
    refine Wp.ret ?_
    refine (hK _ _ _ ⟨34, rfl⟩ (Res.cellM ⟨34, rfl⟩ rfl rfl (by repeat (first | exact List.Mem.head _ | apply List.Mem.tail)) ag33 (by rw [List.length_map, hashL_len])) ?_).1
    exact fun w' h => ⟨rfl, h.clear⟩

theorem c_palfrey_gcm_right (w : World) (kb : Nat) (tab ws : List B8) (r : Nat) (hk : KeysAt w [] kb tab ws r) (hr : 1 ≤ r) (A : Option Addr) (n c : Nat) (hn : 0 < n) : Pure Try.prog 28 #[pt kb 0, .slice A n c] w (iv 0) := by
  refine Calls.enter (S := Tr w [] []) Try.func28 rfl (Tr.refl w []) (fun K hK => ?_)
  refine Wp.seq fun K1 n1 r1 => ?_
  refine Wp.region ?_
  refine Ops.v (Yl.asI rfl) ?_
  refine Ops.nil ?_
  refine n1 _ _ _ ?_
  refine Wp.seq fun K2 n2 r2 => ?_
  refine Wp.block fun K3 n3 x3 r3 => ?_
  refine Wp.seq fun K4 n4 r4 => ?_
  refine Wp.region ?_
  refine Ops.v (Yl.mvP rfl) ?_
  refine Ops.f (Ef.pure bd13 rfl (fun wc hw => c___palfrey_aes_Keys__Rounds wc kb tab ws r (hk.keep hw))) ⟨(), trivial⟩ fun _ _ => ?_
  refine Ops.v (Yl.eql rfl rfl) ?_
  refine Ops.v (Yl.asB rfl) ?_
  refine Ops.nil ?_
  refine n4 _ _ _ ?_
  refine Wp.cond _ rfl (fun h5 => ?_) (fun h5 => ?_)
  ·
    try simp only [decide_eq_true_eq, decide_eq_false_iff_not, Bool.not_eq_true, Bool.not_eq_false, Bool.not_true, Bool.not_false, Bool.not_eq_eq_eq_not, ne_eq, Decidable.not_not] at h5
    omega
  ·
    try simp only [decide_eq_true_eq, decide_eq_false_iff_not, Bool.not_eq_true, Bool.not_eq_false, Bool.not_true, Bool.not_false, Bool.not_eq_eq_eq_not, ne_eq, Decidable.not_not] at h5
    refine Wp.seq fun K5 n5 r5 => ?_
    refine Wp.region ?_
    refine Ops.v (Yl.mvS rfl) ?_
    refine Ops.v (Yl.len Try.underlying23 rfl rfl) ?_
    refine Ops.v (Yl.eql rfl rfl) ?_
    refine Ops.v (Yl.asB rfl) ?_
    refine Ops.nil ?_
    refine n5 _ _ _ ?_
    refine Wp.cond _ rfl (fun h9 => ?_) (fun h9 => ?_)
    ·
      try simp only [decide_eq_true_eq, decide_eq_false_iff_not, Bool.not_eq_true, Bool.not_eq_false, Bool.not_true, Bool.not_false, Bool.not_eq_eq_eq_not, ne_eq, Decidable.not_not] at h9
      omega
    ·
      try simp only [decide_eq_true_eq, decide_eq_false_iff_not, Bool.not_eq_true, Bool.not_eq_false, Bool.not_true, Bool.not_false, Bool.not_eq_eq_eq_not, ne_eq, Decidable.not_not] at h9
      refine Wp.skip ?_
      refine n3 _ _ _ ?_
      refine n2 _ _ _ ?_
      refine Wp.seq fun K6 n6 r6 => ?_
      refine Wp.region ?_
      refine Ops.v (Yl.asI rfl) ?_
      refine Ops.nil ?_
      refine n6 _ _ _ ?_
      refine Wp.ret ?_
      refine (hK _ _ _ ⟨13, rfl⟩ (Res.one ⟨13, rfl⟩ rfl rfl) ?_).1
      exact fun w' h => ⟨rfl, h⟩

theorem c_palfrey_gcm_First (w : World) (kb : Nat) (tab ws : List B8) (r : Nat) (hk : KeysAt w [] kb tab ws r) (hr : 1 ≤ r) (A : Option Addr) (iv9 : List B8) (n c : Nat) (hA : Rw w A (iv9.map u8)) (hn : n = iv9.length) (h0 : 0 < n) (hle : n ≤ 1048576) : Pure Try.prog 29 #[pt kb 0, .slice A n c] w (.agg ((firstL (enc tab ws r) iv9).map u8).toArray) := by
  subst hn
  refine Calls.enter (S := Tr w [] []) Try.func29 rfl (Tr.refl w []) (fun K hK => ?_)
  refine Wp.seq fun K1 n1 r1 => ?_
  refine Wp.region ?_
  refine Ops.f (Ef.alloc zo33) (New.ex _) fun b4 hb4 => ?_
  refine Ops.nil ?_
  refine n1 _ _ _ ?_
  refine Wp.seq fun K2 n2 r2 => ?_
  refine Wp.block fun K3 n3 x3 r3 => ?_
  refine Wp.seq fun K4 n4 r4 => ?_
  refine Wp.region ?_
  refine Ops.v (Yl.mvP rfl) ?_
  refine Ops.v (Yl.mvS rfl) ?_
  refine Ops.f (Ef.pure bd28 rfl (fun wc hw => c_palfrey_gcm_right wc kb tab ws r (hk.keep hw) hr _ _ _ h0)) ⟨(), trivial⟩ fun _ _ => ?_
  refine Ops.v (Yl.neq rfl rfl) ?_
  refine Ops.v (Yl.asB rfl) ?_
  refine Ops.nil ?_
  refine n4 _ _ _ ?_
  refine Wp.cond_f rfl ?_
  refine Wp.seq fun K5 n5 r5 => ?_
  refine Wp.region ?_
  refine Ops.v (Yl.mvS rfl) ?_
  refine Ops.v (Yl.len Try.underlying23 rfl rfl) ?_
  refine Ops.v (Yl.eql rfl rfl) ?_
  refine Ops.v (Yl.asB rfl) ?_
  refine Ops.nil ?_
  refine n5 _ _ _ ?_
  refine Wp.cond _ rfl (fun h11 => ?_) (fun h11 => ?_)
  ·
    try simp only [decide_eq_true_eq, decide_eq_false_iff_not, Bool.not_eq_true, Bool.not_eq_false, Bool.not_true, Bool.not_false, Bool.not_eq_eq_eq_not, ne_eq, Decidable.not_not] at h11
    refine Wp.seq fun K6 n6 r6 => ?_
    refine Wp.region ?_
    refine Ops.v (Yl.mvS rfl) ?_
    refine Ops.f (Ef.buildSlice' (r := ([0#8, 0#8, 0#8, 1#8] : List B8).map u8) Try.underlying23 el5 (by omega) (by omega) rfl) (New.ex _) fun b16 hb16 => ?_
    refine Ops.f (Ef.buildSlice' (r := [.slice _ _ _, .slice _ _ _]) Try.underlying76 el23 (by omega) (by omega) rfl) (New.ex _) fun b17 hb17 => ?_
    refine Ops.f (Ef.makes bd36 rfl (fun wc hw => c_slices_Concat___byte_byte_ wc _ _ [iv9, [0#8, 0#8, 0#8, 1#8]] _ _ (hw.rwBlk (by repeat (first | exact List.Mem.head _ | apply List.Mem.tail))) (Parts.two (hA.keep hw) rfl (hw.rwBlk (b := b16) (by repeat (first | exact List.Mem.head _ | apply List.Mem.tail))) rfl) rfl (by omega) (by simp; omega))) (by exact ⟨(some _, 0), fun _ => ⟨_, rfl⟩, NewH.row1 (Nat.le_refl _) NewH.nil⟩) fun p18 hp18 => ?_
    obtain ⟨a18, c18⟩ := p18
    dsimp only at hp18 ⊢
    obtain ⟨g18, rfl⟩ := hp18.1 (by simp)
    refine Ops.v (Yl.s2ap Try.underlying33 rfl (by simp; omega)) ?_
    refine Ops.v (Yl.loadAz ag33 rfl (Rd.row (by repeat (first | exact List.Mem.head _ | apply List.Mem.tail))) (by simp; omega)) ?_
    refine Ops.s (Ef.storeU [iv9, [0#8, 0#8, 0#8, 1#8]].flatten sz33 rfl rfl (by repeat (first | exact At.head | apply At.tail)) (by simp; omega) (by simp) (.inr hb4)) ?_
    refine Ops.nil ?_
    refine n6 _ _ _ ?_
    refine Wp.ret ?_
    refine r3 _ _ _ _ (by simp) (by simp) ?_
    refine r2 _ _ _ _ (by simp) ?_
    refine (hK _ _ _ ⟨27, rfl⟩ (Res.cellM ⟨27, rfl⟩ rfl rfl (by repeat (first | exact List.Mem.head _ | apply List.Mem.tail)) ag33 (by first | (rw [List.length_map, hashL_len]) | (simp; omega))) ?_).1
    exact fun w' h => ⟨congrArg (fun z => Ending.returned (.agg (List.map u8 z).toArray)) (by rw [firstL, if_pos (by omega)]), h.clear⟩
  ·
    try simp only [decide_eq_true_eq, decide_eq_false_iff_not, Bool.not_eq_true, Bool.not_eq_false, Bool.not_true, Bool.not_false, Bool.not_eq_eq_eq_not, ne_eq, Decidable.not_not] at h11
    refine Wp.skip ?_
    refine n3 _ _ _ ?_
    refine n2 _ _ _ ?_
    refine Wp.seq fun K7 n7 r7 => ?_
    refine Wp.region ?_
    refine Ops.v (Yl.mvP rfl) ?_
    refine Ops.v (Yl.mvS rfl) ?_
    refine Ops.v (Yl.len Try.underlying23 rfl rfl) ?_
    refine Ops.v (Yl.mvS rfl) ?_
    refine Ops.f (Ef.buildSlice' (r := [.slice _ _ _]) Try.underlying76 el23 (by omega) (by omega) rfl) (New.ex _) fun b25 hb25 => ?_
    refine Ops.f (Ef.pure bd34 rfl (fun wc hw => c_palfrey_gcm_hash wc kb tab ws r (hk.keep hw) hr 0 iv9.length _ _ [iv9] _ _ (hw.rwBlk (by repeat (first | exact List.Mem.head _ | apply List.Mem.tail))) (Parts.one (hA.keep hw) rfl) rfl (by omega) (by have := padL_len iv9; have := padN_lt iv9.length; simp [pcTo]; omega))) ⟨(), trivial⟩ fun _ _ => ?_
    refine Ops.s (Ef.storeU (hashL (enc tab ws r) 0 iv9.length [iv9]) sz33 rfl rfl (by repeat (first | exact At.head | apply At.tail)) (hashL_len _ _ _ _) (by simp) (.inr hb4)) ?_
    refine Ops.nil ?_
    refine n7 _ _ _ ?_
    refine Wp.ret ?_
    refine (hK _ _ _ ⟨27, rfl⟩ (Res.cellM ⟨27, rfl⟩ rfl rfl (by repeat (first | exact List.Mem.head _ | apply List.Mem.tail)) ag33 (by first | (rw [List.length_map, hashL_len]) | (simp; omega))) ?_).1
    exact fun w' h => ⟨congrArg (fun z => Ending.returned (.agg (List.map u8 z).toArray)) (by rw [firstL, if_neg (by omega)]), h.clear⟩

end Go.Proofs.Ytiimjkpcljelpaa

/- Walks of functions. -/
import Derived.Test.YtiimjkpcljelpaaFg
set_option maxRecDepth 10000
open Go.RowKit Go.Eng
set_option linter.unusedSimpArgs false
set_option linter.unusedVariables false
namespace Go.Proofs.Ytiimjkpcljelpaa

theorem c_palfrey_gcm_stream (w : World) (kb : Nat) (tab ws : List B8) (r : Nat) (hk : KeysAt w [] kb tab ws r) (hr : 1 ≤ r) (first : List B8) (many : Nat) (hf : first.length = 16) (hle : many ≤ 1073741824) : Makes Try.prog 21 #[pt kb 0, .agg (first.map u8).toArray, iv many] w (fun _ => True) (fun x : Option Nat × Nat => sl x.1 many x.2) (fun x => [.row x.1 5 1 many x.2 ((streamL (enc tab ws r) first many).map u8)]) := by
  have hE : ∀ x, ((enc tab ws r) x).length = 16 := enc_len tab ws r
  refine Calls.enter (S := Tr w [] []) Try.func21 rfl (Tr.refl w []) (fun K hK => ?_)
  refine Wp.seq fun K1 n1 r1 => ?_
  refine Wp.region ?_
  refine Ops.f (Ef.boxA rfl) (New.ex _) fun b4 hb4 => ?_
  refine Ops.v (Yl.asS rfl) ?_
  refine Ops.nil ?_
  refine n1 _ _ _ ?_
  refine Wp.seq fun K2 n2 r2 => ?_
  refine Wp.region ?_
  refine Ops.v (Yl.sliceArrD Try.underlying33 sz5 rfl (.some (i := 12) rfl rfl) (by omega)) ?_
  refine Ops.f (Ef.pure bd32 rfl (fun wc hw => c_palfrey_bits_Big wc _ (first.drop 12) _ _ (by have h8 := (hw.rwBlk (b := b4) (by repeat (first | exact List.Mem.head _ | apply List.Mem.tail))).drop 12; rw [← List.map_drop] at h8; exact h8) (by rw [List.length_drop]; omega) (by rw [List.length_drop]; omega))) ⟨(), trivial⟩ fun _ _ => ?_
  refine Ops.v (Yl.w64to32 Try.underlying70 Try.underlying69 rfl) ?_
  refine Ops.v (Yl.asI rfl) ?_
  refine Ops.nil ?_
  refine n2 _ _ _ ?_
  refine Wp.seq fun K3 n3 r3 => ?_
  refine Wp.region ?_
  refine Ops.v (Yl.asS rfl) ?_
  refine Ops.nil ?_
  refine n3 _ _ _ ?_
  refine Wp.seq fun K4 n4 r4 => ?_
  refine Wp.seq fun K5 n5 r5 => ?_
  refine Wp.region ?_
  refine Ops.v (Yl.mvI rfl) ?_
  refine Ops.v (Yl.add rfl rfl (by omega) (by omega)) ?_
  refine Ops.v (Yl.sub rfl rfl (by omega) (by omega)) ?_
  refine Ops.v (Yl.quo rfl rfl (by omega) (by omega) (by omega)) ?_
  refine Ops.v (Yl.mvI rfl) ?_
  refine Ops.nil ?_
  refine n5 _ _ _ ?_
  refine Wp.block fun K6 n6 x6 r6 => ?_
  skip
  refine Wp.loopI 1 [8, 9, 10, 18, 19, 20, 21, 22, 23, 24, 25, 26, 27, 28, 29, 30, 31, 32, 33, 34, 35, 36] [18, 8] (fun (p : Nat × Option Nat × Nat) => p.1 ≤ (many + 15) / 16 ∧ (∀ j, p.2.1 = some j → New w j) ∧ 16 * p.1 ≤ p.2.2) (fun p => [iv p.1, sl p.2.1 (16 * p.1) p.2.2]) (fun (p : Nat × Option Nat × Nat) => Tr w [] [.row p.2.1 5 1 (16 * p.1) p.2.2 ((streamTo (enc tab ws r) first p.1).map u8), .blk b4 33 ((fstTo first p.1).map u8)]) (fun (p : Nat × Option Nat × Nat) => (many + 15) / 16 - p.1) ((0, none, 0)) ⟨by simp, by simp, by simp⟩ (fun _ => rfl) rfl (fun _ h => by exact h.addRow _ _) ?_
  rintro ⟨i, ao, cc⟩ hI7 J7 K7 n7 r7
  try dsimp only at hI7 n7 ⊢
  obtain ⟨hi1, hao, hcc⟩ := hI7
  have hfl := fstTo_len first i hf
  have hfl1 := fstTo_len first (i + 1) hf
  refine Wp.seq fun K8 n8 r8 => ?_
  refine Wp.region ?_
  refine Ops.v (Yl.lss rfl rfl) ?_
  refine Ops.nil ?_
  refine n8 _ _ _ ?_
  refine Wp.seq fun K9 n9 r9 => ?_
  refine Wp.cond _ rfl (fun h19 => ?_) (fun h19 => ?_)
  ·
    try simp only [decide_eq_true_eq, decide_eq_false_iff_not, Bool.not_eq_true, Bool.not_eq_false, Bool.not_true, Bool.not_false, Bool.not_eq_eq_eq_not, ne_eq, Decidable.not_not] at h19
    refine Wp.skip ?_
    refine n9 _ _ _ ?_
    refine Wp.seq fun K10 n10 r10 => ?_
    refine Wp.block fun K11 n11 x11 r11 => ?_
    refine Wp.seq fun K12 n12 r12 => ?_
    refine Wp.region ?_
    refine Ops.v (Yl.mvI rfl) ?_
    refine Ops.v (Yl.asI rfl) ?_
    refine Ops.nil ?_
    refine n12 _ _ _ ?_
    refine Wp.seq fun K13 n13 r13 => ?_
    refine Wp.drawS hmix (fun i => [1, 1, 1, 1, 1, 1, 1, 0, 2].getD i 0) (fun _ h => h.drawn _) fun N6 hN6 => ?_
    refine G.p 0 (by kernel_rfl) rfl (Yl.sliceArrD Try.underlying33 sz5 rfl (.some (i := 12) rfl rfl) (by omega)) ?_
    refine G.p 1 (by kernel_rfl) rfl (Yl.mvI rfl) ?_
    refine G.p 2 (by kernel_rfl) rfl (Yl.mvI rfl) ?_
    refine G.p 3 (by kernel_rfl) rfl (Yl.to32 Try.underlying3 Try.underlying69 rfl) ?_
    refine G.p 4 (by kernel_rfl) rfl (Yl.add32 rfl rfl) ?_
    refine G.p 5 (by kernel_rfl) rfl (Yl.add32 (b := 1#32) rfl rfl) ?_
    refine G.p 6 (by kernel_rfl) rfl (Yl.w32to64 Try.underlying69 Try.underlying70 rfl) ?_
    refine G.runT 7 (by kernel_rfl) rfl rfl rfl (Ef.makes bd33 rfl (fun wc hw => c_palfrey_bits_PutBig wc (ctrW first i) 4 (by omega))) (by exact ⟨_, trivial, NewH.row1 (Nat.le_refl _) NewH.nil⟩) (fun _ h => h) (fun _ _ _ h => h.sub (by first | exact List.Sublist.refl _ | exact List.sublist_cons_self _ _ | exact List.sublist_append_right _ _)) fun p28 hp28 => ?_
    simp only [En.put, List.cons_append, List.nil_append]
    refine G.last (by kernel_rfl) (fun _ h => h) ?_
    refine G0.run 8 (by kernel_rfl) rfl rfl (Ef.copy Try.underlying23 rfl sz5 rfl rfl (RdS.row (by repeat (first | exact List.Mem.head _ | apply List.Mem.tail))) (by rw [List.length_map, putBE_len]; rfl) (one_u8 _) (by repeat (first | exact At.head | apply At.tail)) .blk rfl (by rw [List.length_map, putBE_len, List.length_map, hfl]; omega) (.inr hb4)) ⟨(), trivial⟩ fun _ _ => ?_
    simp only [En.put, List.cons_append, List.nil_append]
    refine G0.done (by kernel_rfl) (hN6 _ _ _ ?_)
    refine n13 _ _ _ ?_
    refine Wp.seq fun K14 n14 r14 => ?_
    refine Wp.mono (S' := Tr w [] [.row ao 5 1 (16 * i) cc ((streamTo (enc tab ws r) first i).map u8), .blk b4 33 ((fstTo first (i + 1)).map u8)]) ?_ (fun _ h => by
        rw [List.length_map, putBE_len] at h
        rw [fstTo, List.map_append, List.map_append, List.map_take, List.map_drop]
        exact h.sub (by repeat (first | exact List.Sublist.refl _ | exact List.nil_sublist _ | apply List.Sublist.cons_cons | apply List.Sublist.cons)))
    refine Wp.region ?_
    refine Ops.v (Yl.mvP rfl) ?_
    refine Ops.v (Yl.loadAz ag33 rfl (by first | exact Rd.blk (by repeat (first | exact List.Mem.head _ | apply List.Mem.tail)) | exact Rd.row (by repeat (first | exact List.Mem.head _ | apply List.Mem.tail)) | assumption) (by rw [List.length_map, hfl1])) ?_
    refine Ops.f (Ef.pure bd7 rfl (fun wc hw => c___palfrey_aes_Keys__Encrypt wc kb tab ws (fstTo first (i + 1)) r (hk.keep hw) hfl1 hr)) ⟨(), trivial⟩ fun _ _ => ?_
    refine Ops.f (Ef.alloc zo33) (New.ex _) fun b10 hb10 => ?_
    refine Ops.s (Ef.storeU ((enc tab ws r) (fstTo first (i + 1))) sz33 rfl rfl (by repeat (first | exact At.head | apply At.tail)) (hE _) (by simp) (.inr hb10)) ?_
    refine Ops.nil ?_
    refine n14 _ _ _ ?_
    refine Wp.region ?_
    refine Ops.v (Yl.mvS rfl) ?_
    refine Ops.v (Yl.sliceArrD Try.underlying33 sz5 rfl .none (by omega)) ?_
    refine Ops.f (Ef.appendC (ao := ao) Try.underlying23 rfl el5 rfl (by repeat (first | exact At.head | apply At.tail)) rfl (RdS.blk (by repeat (first | exact List.Mem.head _ | apply List.Mem.tail))) (by rw [List.length_map, hE]) (one_u8 _) (by omega) (by omega) (by omega) (fun j hj => .inr (hao j hj))) ⟨(none, 16 * i + 16), (fun _ h => by cases h), Nat.le_refl _⟩ fun p35 hp35 => ?_
    refine Ops.v (Yl.asS rfl) ?_
    refine Ops.nil ?_
    refine n11 _ _ _ ?_
    refine n10 _ _ _ ?_
    refine Wp.region ?_
    refine Ops.v (Yl.add rfl rfl (by omega) (by omega)) ?_
    refine Ops.v (Yl.mvI rfl) ?_
    refine Ops.nil ?_
    refine n7 (i + 1, p35.1, p35.2) _ _ ⟨by omega, fun j hj => (hp35.1 j hj).resolve_left (by simp), by have := hp35.2; dsimp only; omega⟩ ⟨40, rfl⟩ rfl rfl (l2 (congrArg iv (by omega)) rfl) (by omega) (fun _ h => by rw [streamTo, List.map_append]; exact h.sub (by repeat (first | exact List.Sublist.refl _ | exact List.nil_sublist _ | apply List.Sublist.cons_cons | apply List.Sublist.cons)))
  ·
    try simp only [decide_eq_true_eq, decide_eq_false_iff_not, Bool.not_eq_true, Bool.not_eq_false, Bool.not_true, Bool.not_false, Bool.not_eq_eq_eq_not, ne_eq, Decidable.not_not] at h19
    refine Wp.exit ?_
    refine r9 _ _ _ _ (by simp) ?_
    refine r7 _ _ _ _ (by simp) ?_
    refine x6 _ _ _ ?_
    refine n4 _ _ _ ?_
    refine Wp.seq fun K15 n15 r15 => ?_
    refine Wp.region ?_
    refine Ops.v (Yl.mvS rfl) ?_
    refine Ops.v (Yl.mvI rfl) ?_
    refine Ops.v (Yl.sliceTo Try.underlying23 sz5 rfl (.some (i := many) rfl rfl) (by omega)) ?_
    refine Ops.v (Yl.asS rfl) ?_
    refine Ops.nil ?_
    refine n15 _ _ _ ?_
    refine Wp.ret ?_
    refine (hK _ _ _ ⟨40, rfl⟩ (Res.one ⟨40, rfl⟩ rfl rfl) ?_).1
    exact fun w' h => ⟨(ao, cc), trivial, NewH.row hao NewH.nil, rfl, by
      have h2 := Tr.shrink (h.sub (L' := [_]) (List.Sublist.cons_cons _ (List.nil_sublist _))) (m := many) (by omega)
      rw [← List.map_take, show i = (many + 15) / 16 from by omega] at h2
      exact h2⟩

theorem c_palfrey_gcm_tag (w : World) (kb : Nat) (tab ws : List B8) (r : Nat) (hk : KeysAt w [] kb tab ws r) (hr : 1 ≤ r) (first : List B8) (hf : first.length = 16) (A B : Option Addr) (aad sealed : List B8) (na ca nb cb : Nat) (hA : Rw w A (aad.map u8)) (hB : Rw w B (sealed.map u8)) (hna : na = aad.length) (hnb : nb = sealed.length) (hla : aad.length ≤ 1048576) (hlb : sealed.length ≤ 1048576) : Makes Try.prog 22 #[pt kb 0, .agg (first.map u8).toArray, .slice A na ca, .slice B nb cb] w (fun _ => True) (fun b : Nat => sl (some b) 16 16) (fun b => [.row (some b) 5 1 16 16 ((tagL (enc tab ws r) first aad sealed).map u8)]) := by
  subst hna; subst hnb
  have hE : ∀ x, ((enc tab ws r) x).length = 16 := enc_len tab ws r
  refine Calls.enter (S := Tr w [] []) Try.func22 rfl (Tr.refl w []) (fun K hK => ?_)
  refine Wp.seq fun K1 n1 r1 => ?_
  refine Wp.region ?_
  refine Ops.f (Ef.boxA rfl) (New.ex _) fun b5 hb5 => ?_
  refine Ops.v (Yl.asS rfl) ?_
  refine Ops.nil ?_
  refine n1 _ _ _ ?_
  refine Wp.seq fun K2 n2 r2 => ?_
  refine Wp.region ?_
  refine Ops.v (Yl.mvP rfl) ?_
  refine Ops.v (Yl.mvS rfl) ?_
  refine Ops.v (Yl.len Try.underlying23 rfl rfl) ?_
  refine Ops.v (Yl.mvS rfl) ?_
  refine Ops.v (Yl.len Try.underlying23 rfl rfl) ?_
  refine Ops.v (Yl.mvS rfl) ?_
  refine Ops.v (Yl.mvS rfl) ?_
  refine Ops.f (Ef.buildSlice' (r := [.slice _ _ _, .slice _ _ _]) Try.underlying76 el23 (by omega) (by omega) rfl) (New.ex _) fun b18 hb18 => ?_
  refine Ops.f (Ef.pure bd34 rfl (fun wc hw => c_palfrey_gcm_hash wc kb tab ws r (hk.keep hw) hr aad.length sealed.length _ _ [aad, sealed] _ _ (hw.rwBlk (by repeat (first | exact List.Mem.head _ | apply List.Mem.tail))) (Parts.two (hA.keep hw) rfl (hB.keep hw) rfl) rfl (by omega) (by have := padL_len aad; have := padN_lt aad.length; have := padL_len sealed; have := padN_lt sealed.length; simp [pcTo]; omega))) ⟨(), trivial⟩ fun _ _ => ?_
  refine Ops.f (Ef.alloc zo33) (New.ex _) fun b9 hb9 => ?_
  refine Ops.s (Ef.storeU (hashL (enc tab ws r) aad.length sealed.length [aad, sealed]) sz33 rfl rfl (by repeat (first | exact At.head | apply At.tail)) (hashL_len _ _ _ _) (by simp) (.inr hb9)) ?_
  refine Ops.nil ?_
  refine n2 _ _ _ ?_
  refine Wp.seq fun K3 n3 r3 => ?_
  refine Wp.region ?_
  refine Ops.v (Yl.mvP rfl) ?_
  refine Ops.v (Yl.loadAz ag33 rfl (by first | exact Rd.blk (by repeat (first | exact List.Mem.head _ | apply List.Mem.tail)) | exact Rd.row (by repeat (first | exact List.Mem.head _ | apply List.Mem.tail)) | assumption) (by rw [List.length_map, hf])) ?_
  refine Ops.f (Ef.pure bd7 rfl (fun wc hw => c___palfrey_aes_Keys__Encrypt wc kb tab ws first r (hk.keep hw) hf hr)) ⟨(), trivial⟩ fun _ _ => ?_
  refine Ops.f (Ef.alloc zo33) (New.ex _) fun b10 hb10 => ?_
  refine Ops.s (Ef.storeU ((enc tab ws r) first) sz33 rfl rfl (by repeat (first | exact At.head | apply At.tail)) (hE _) (by simp) (.inr hb10)) ?_
  refine Ops.nil ?_
  refine n3 _ _ _ ?_
  refine Wp.seq fun K4 n4 r4 => ?_
  refine Wp.drawS hmix (fun i => [1, 1, 0, 1].getD i 0) (fun _ h => h.drawn _) fun N3 hN3 => ?_
  refine G.p 0 (by kernel_rfl) rfl (Yl.sliceArrD Try.underlying33 sz5 rfl .none (by omega)) ?_
  refine G.p 1 (by kernel_rfl) rfl (Yl.sliceArrD Try.underlying33 sz5 rfl .none (by omega)) ?_
  refine G.runT 2 (by kernel_rfl) rfl rfl rfl (Ef.makes bd20 rfl (fun wc hw => c_palfrey_bits_Xor wc _ _ (hashL (enc tab ws r) aad.length sealed.length [aad, sealed]) ((enc tab ws r) first) _ _ _ _ (hw.rwBlk (by repeat (first | exact List.Mem.head _ | apply List.Mem.tail))) (hw.rwBlk (by repeat (first | exact List.Mem.head _ | apply List.Mem.tail))) (by rw [hashL_len]) (by rw [hE]) (by rw [hE]; omega))) (by exact ⟨_, trivial, NewH.row1 (Nat.le_refl _) NewH.nil⟩) (fun _ h => h) (fun _ _ _ h => h.sub (by first | exact List.Sublist.refl _ | exact List.sublist_cons_self _ _ | exact List.sublist_append_right _ _)) fun bx hbx => ?_
  simp only [En.put, List.cons_append, List.nil_append]
  refine G.p 3 (by kernel_rfl) rfl (Yl.asS rfl) ?_
  refine G.done (by kernel_rfl) (fun _ h => h) (hN3 _ _ _ ?_)
  refine n4 _ _ _ ?_
  refine Wp.ret ?_
  refine (hK _ _ _ ⟨26, rfl⟩ (Res.one ⟨26, rfl⟩ rfl rfl) ?_).1
  have e16 : min (hashL (enc tab ws r) aad.length sealed.length [aad, sealed]).length ((enc tab ws r) first).length = 16 := by rw [hashL_len, hE]; rfl
  exact fun w' h => ⟨bx, trivial, NewH.row1 (hbx.2.hd _ rfl) NewH.nil, congrArg (fun z => Ending.returned (sl (some bx) z z)) e16, by rw [e16] at h; exact h.sub (by repeat (first | exact List.Sublist.refl _ | exact List.nil_sublist _ | apply List.Sublist.cons_cons | apply List.Sublist.cons))⟩

theorem c_palfrey_gcm_does (w : World) (kb : Nat) (tab ws : List B8) (r : Nat) (hk : KeysAt w [] kb tab ws r) (hr : 1 ≤ r) (A : Option Addr) (iv9 : List B8) (n c : Nat) (hA : Rw w A (iv9.map u8)) (hn : n = iv9.length) (h0 : 0 < n) (hle : n ≤ 1048576) (f : FuncId) (cp : List Value) (hb : Body Try.prog f) {X : Type} (q : X → Prop) (ao : X → Option Nat) (nn cc : X → Nat) (cd : X → Int) (N : X → List Hl) (hdo : ∀ w', Tr w [] [] w' → Makes Try.prog f ([Value.agg ((firstL (enc tab ws r) iv9).map u8).toArray] ++ cp).toArray w' q (fun x => .tuple #[sl (ao x) (nn x) (cc x), iv (cd x)]) N) (hne : ∃ x, q x ∧ NewH w (N x)) : Makes Try.prog 18 #[pt kb 0, .slice A n c, .func (.func f) #[] cp.toArray] w q (fun x => .tuple #[sl (ao x) (nn x) (cc x), iv (cd x)]) N := by
  refine Calls.enter (S := Tr w [] []) Try.func18 rfl (Tr.refl w []) (fun K hK => ?_)
  refine Wp.seq fun K1 n1 r1 => ?_
  refine Wp.region ?_
  refine Ops.v (Yl.asS rfl) ?_
  refine Ops.v (Yl.asI rfl) ?_
  refine Ops.nil ?_
  refine n1 _ _ _ ?_
  refine Wp.seq fun K2 n2 r2 => ?_
  refine Wp.seq fun K3 n3 r3 => ?_
  refine Wp.region ?_
  refine Ops.v (Yl.mvP rfl) ?_
  refine Ops.v (Yl.mvS rfl) ?_
  refine Ops.f (Ef.pure bd28 rfl (fun wc hw => c_palfrey_gcm_right wc kb tab ws r (hk.keep hw) hr _ _ _ h0)) ⟨(), trivial⟩ fun _ _ => ?_
  refine Ops.v (Yl.asI rfl) ?_
  refine Ops.nil ?_
  refine n3 _ _ _ ?_
  refine Wp.seq fun K4 n4 r4 => ?_
  refine Wp.region ?_
  refine Ops.v (Yl.mvI rfl) ?_
  refine Ops.v (Yl.neq rfl rfl) ?_
  refine Ops.nil ?_
  refine n4 _ _ _ ?_
  refine Wp.cond_f rfl ?_
  refine Wp.skip ?_
  refine n2 _ _ _ ?_
  refine Wp.seq fun K5 n5 r5 => ?_
  refine Wp.region ?_
  refine Ops.v (Yl.mvF rfl) ?_
  refine Ops.v (Yl.mvP rfl) ?_
  refine Ops.v (Yl.mvS rfl) ?_
  refine Ops.f (Ef.pure bd29 rfl (fun wc hw => c_palfrey_gcm_First wc kb tab ws r (hk.keep hw) hr _ iv9 _ _ (hA.keep hw) hn h0 hle)) ⟨(), trivial⟩ fun _ _ => ?_
  refine Ops.f (Ef.makesV (fst := []) (cp := cp) (vs := [Value.agg ((firstL (enc tab ws r) iv9).map u8).toArray] ++ cp) hb rfl rfl (fun w' hw => hdo w' hw.clear)) hne fun x hx => ?_
  refine Ops.v (Yl.extract (vs := [sl (ao x) (nn x) (cc x), iv (cd x)]) rfl rfl) ?_
  refine Ops.v (Yl.extract (vs := [sl (ao x) (nn x) (cc x), iv (cd x)]) rfl rfl) ?_
  refine Ops.v (Yl.asS rfl) ?_
  refine Ops.v (Yl.asI rfl) ?_
  refine Ops.nil ?_
  refine n5 _ _ _ ?_
  refine Wp.ret ?_
  refine (hK _ _ _ ⟨22, rfl⟩ (Res.two ⟨22, rfl⟩ rfl rfl rfl) ?_).1
  exact fun w' h => ⟨x, hx.1, hx.2, rfl, by rw [List.append_nil] at h; exact h⟩

end Go.Proofs.Ytiimjkpcljelpaa

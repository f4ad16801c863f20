/- Walks of functions. -/
import Derived.Test.YtiimjkpcljelpaaFh
set_option maxRecDepth 10000
open Go.RowKit Go.Eng
set_option linter.unusedSimpArgs false
set_option linter.unusedVariables false
namespace Go.Proofs.Ytiimjkpcljelpaa

theorem c_palfrey_gcm_Seal_1 (w : World) (kb : Nat) (tab ws : List B8) (r : Nat) (hk : KeysAt w [] kb tab ws r) (hr : 1 ≤ r) (first : List B8) (hf : first.length = 16) (p1 p2 p3 : Nat) (T1 T2 T3 : TypeId) (f1 f2 f3 : Nat × Nat) (B A : Option Addr) (b aad : List B8) (nb cb na ca : Nat) (h1 : w.heap[p1]? = some (.cells #[.slice B nb cb] T1 f1)) (h2 : w.heap[p2]? = some (.cells #[pt kb 0] T2 f2)) (h3 : w.heap[p3]? = some (.cells #[.slice A na ca] T3 f3)) (hB : Rw w B (b.map u8)) (hA : Rw w A (aad.map u8)) (hnb : nb = b.length) (hna : na = aad.length) (hlb : b.length ≤ 1000000) (hla : aad.length ≤ 1000000) : Makes Try.prog 19 #[.agg (first.map u8).toArray, pt p1 0, pt p2 0, pt p3 0] w (fun x : Nat × Nat => (sealF (enc tab ws r) first aad b).length ≤ x.2) (fun x => .tuple #[sl (some x.1) (sealF (enc tab ws r) first aad b).length x.2, iv 0]) (fun x => [.row (some x.1) 5 1 (sealF (enc tab ws r) first aad b).length x.2 ((sealF (enc tab ws r) first aad b).map u8)]) := by
  subst hnb; subst hna
  have hE : ∀ x, ((enc tab ws r) x).length = 16 := enc_len tab ws r
  have hsl := streamL_len (enc tab ws r) hE first b.length
  refine Calls.enter (S := Tr w [] []) Try.func19 rfl (Tr.refl w []) (fun K hK => ?_)
  refine Wp.seq fun K1 n1 r1 => ?_
  refine Wp.region ?_
  refine Ops.f (Ef.boxA rfl) (New.ex _) fun b4 hb4 => ?_
  refine Ops.v (Yl.asS rfl) ?_
  refine Ops.v (Yl.asI rfl) ?_
  refine Ops.nil ?_
  refine n1 _ _ _ ?_
  refine Wp.seq fun K2 n2 r2 => ?_
  refine Wp.drawS hmix (fun i => [0, 0, 0, 0, 1, 0, 0, 1].getD i 0) (fun _ h => h.drawn _) fun N1 hN1 => ?_
  refine G.t 0 (by kernel_rfl) rfl (Yl.load1z na23 rfl (Rd.oldb (cs := [_]) h1 (by simp)) (by first | rfl | exact getmap (by omega) | assumption)) ?_
  refine G.t 1 (by kernel_rfl) rfl (Yl.load1z na30 rfl (Rd.oldb (cs := [_]) h2 (by simp)) (by first | rfl | exact getmap (by omega) | assumption)) ?_
  refine G.t 2 (by kernel_rfl) rfl (Yl.loadAz ag33 rfl (by first | exact Rd.blk (by repeat (first | exact List.Mem.head _ | apply List.Mem.tail)) | exact Rd.row (by repeat (first | exact List.Mem.head _ | apply List.Mem.tail)) | assumption) (by rw [List.length_map, hf])) ?_
  refine G.t 3 (by kernel_rfl) rfl (Yl.load1z na23 rfl (Rd.oldb (cs := [_]) h1 (by simp)) (by first | rfl | exact getmap (by omega) | assumption)) ?_
  refine G.p 4 (by kernel_rfl) rfl (Yl.len Try.underlying23 rfl rfl) ?_
  refine G.runT 5 (by kernel_rfl) rfl rfl rfl (Ef.makes bd21 rfl (fun wc hw => c_palfrey_gcm_stream wc kb tab ws r (hk.keep hw) hr first b.length hf (by omega))) (by exact ⟨(some _, 0), trivial, NewH.row1 (Nat.le_refl _) NewH.nil⟩) (fun _ h => h) (fun _ _ _ h => h.sub (by first | exact List.Sublist.refl _ | exact List.sublist_cons_self _ _ | exact List.sublist_append_right _ _)) fun p13 hp13 => ?_
  simp only [En.put, List.cons_append, List.nil_append]
  refine G.runT 6 (by kernel_rfl) rfl rfl rfl (Ef.makes bd20 rfl (fun wc hw => c_palfrey_bits_Xor wc B _ b (streamL (enc tab ws r) first b.length) _ _ _ _ (hB.keep hw) (hw.rwRow (ao := p13.1) (by repeat (first | exact List.Mem.head _ | apply List.Mem.tail))) rfl (by rw [hsl]) (by omega))) (by exact ⟨_, trivial, NewH.row1 (Nat.le_refl _) NewH.nil⟩) (fun _ h => h) (fun _ _ _ h => h.sub (by first | exact List.Sublist.refl _ | exact List.sublist_cons_self _ _ | exact List.sublist_append_right _ _)) fun bx hbx => ?_
  simp only [En.put, List.cons_append, List.nil_append]
  refine G.p 7 (by kernel_rfl) rfl (Yl.asS rfl) ?_
  refine G.done (by kernel_rfl) (fun _ h => h) (hN1 _ _ _ ?_)
  refine n2 _ _ _ ?_
  refine Wp.seq fun K3 n3 r3 => ?_
  refine Wp.region ?_
  refine Ops.v (Yl.mvS rfl) ?_
  refine Ops.v (Yl.load1z na30 rfl (Rd.oldb (cs := [_]) h2 (by simp)) (by first | rfl | exact getmap (by omega) | assumption)) ?_
  refine Ops.v (Yl.loadAz ag33 rfl (by first | exact Rd.blk (by repeat (first | exact List.Mem.head _ | apply List.Mem.tail)) | exact Rd.row (by repeat (first | exact List.Mem.head _ | apply List.Mem.tail)) | assumption) (by rw [List.length_map, hf])) ?_
  refine Ops.v (Yl.load1z na23 rfl (Rd.oldb (cs := [_]) h3 (by simp)) (by first | rfl | exact getmap (by omega) | assumption)) ?_
  refine Ops.v (Yl.mvS rfl) ?_
  refine Ops.f (Ef.makes bd22 rfl (fun wc hw => c_palfrey_gcm_tag wc kb tab ws r (hk.keep hw) hr first hf _ _ aad (textL (enc tab ws r) first b) _ _ _ _ (hA.keep hw) (hw.rwRow (ao := some bx) (by repeat (first | exact List.Mem.head _ | apply List.Mem.tail))) rfl (by rw [textL, xorL_len]) (by omega) (by rw [textL_len _ hE]; omega))) (by exact ⟨_, trivial, NewH.row1 (Nat.le_refl _) NewH.nil⟩) fun bt hbt => ?_
  refine Ops.f (Ef.appendS (ao := some bx) Try.underlying23 rfl el5 rfl (by repeat (first | exact At.head | apply At.tail)) rfl (RdS.row (by repeat (first | exact List.Mem.head _ | apply List.Mem.tail))) (by rw [List.length_map, tagL_len _ hE]) (one_u8 _) (by omega) (by omega) (by omega) (by omega) (fun j hj => by cases hj; exact .inr (hbx.2.hd _ rfl))) ⟨(_, 0), .inr (Nat.le_refl _)⟩ fun p21 hp21 => ?_
  refine Ops.v (Yl.asS rfl) ?_
  refine Ops.v (Yl.asI rfl) ?_
  refine Ops.nil ?_
  refine n3 _ _ _ ?_
  refine Wp.ret ?_
  refine (hK _ _ _ ⟨22, rfl⟩ (Res.two ⟨22, rfl⟩ rfl rfl rfl) ?_).1
  have eM : min b.length (streamL (enc tab ws r) first b.length).length + 16 = (sealF (enc tab ws r) first aad b).length := by rw [sealF, List.length_append, textL, xorL_len, tagL_len _ hE]
  exact fun w' h => ⟨p21, by rw [← eM]; exact (room_of (h.sat (Hl.row (some p21.1) _ _ _ _ _) (by repeat (first | exact List.Mem.head _ | apply List.Mem.tail)))).1, NewH.row1 (hp21.resolve_left (by simp)) NewH.nil, congrArg (fun z => Ending.returned (.tuple #[sl (some p21.1) z p21.2, iv 0])) eM, by rw [eM, ← List.map_append] at h; exact h.sub (by repeat (first | exact List.Sublist.refl _ | exact List.nil_sublist _ | apply List.Sublist.cons_cons | apply List.Sublist.cons))⟩

theorem c_palfrey_gcm_Seal (w : World) (kb : Nat) (tab ws : List B8) (r : Nat) (hk : KeysAt w [] kb tab ws r) (hr : 1 ≤ r) (C A B : Option Addr) (iv9 aad b : List B8) (nc cc na ca nb cb : Nat) (hC : Rw w C (iv9.map u8)) (hA : Rw w A (aad.map u8)) (hB : Rw w B (b.map u8)) (hnc : nc = iv9.length) (hna : na = aad.length) (hnb : nb = b.length) (h0 : 0 < nc) (hlc : nc ≤ 1000000) (hlb : b.length ≤ 1000000) (hla : aad.length ≤ 1000000) : Makes Try.prog 9 #[pt kb 0, .slice C nc cc, .slice A na ca, .slice B nb cb] w (fun x : Nat × Nat => (sealL (enc tab ws r) iv9 aad b).length ≤ x.2) (fun x => .tuple #[sl (some x.1) (sealL (enc tab ws r) iv9 aad b).length x.2, iv 0]) (fun x => [.row (some x.1) 5 1 (sealL (enc tab ws r) iv9 aad b).length x.2 ((sealL (enc tab ws r) iv9 aad b).map u8)]) := by
  refine Calls.enter (S := Tr w [] []) Try.func9 rfl (Tr.refl w []) (fun K hK => ?_)
  refine Wp.seq fun K1 n1 r1 => ?_
  refine Wp.region ?_
  refine Ops.f (Ef.box1 (v := .pointer _) rfl rfl) (New.ex _) fun b4 hb4 => ?_
  refine Ops.f (Ef.box1 (v := .slice _ _ _) rfl rfl) (New.ex _) fun b6 hb6 => ?_
  refine Ops.f (Ef.box1 (v := .slice _ _ _) rfl rfl) (New.ex _) fun b7 hb7 => ?_
  refine Ops.v (Yl.asS rfl) ?_
  refine Ops.v (Yl.asI rfl) ?_
  refine Ops.nil ?_
  refine n1 _ _ _ ?_
  refine Wp.seq fun K2 n2 r2 => ?_
  refine Wp.region ?_
  refine Ops.v (Yl.load1z na30 rfl (by first | exact Rd.blk (by repeat (first | exact List.Mem.head _ | apply List.Mem.tail)) | exact Rd.row (by repeat (first | exact List.Mem.head _ | apply List.Mem.tail)) | assumption) (by first | rfl | exact getmap (by omega) | assumption)) ?_
  refine Ops.v (Yl.mvS rfl) ?_
  refine Ops.v (Yl.makeFunc' (fv := []) (cv := [.pointer _, .pointer _, .pointer _]) rfl rfl) ?_
  refine Ops.f (Ef.makes bd18 rfl (fun wc hw => c_palfrey_gcm_does wc kb tab ws r (hk.keep hw) hr C iv9 _ _ (hC.keep hw) hnc h0 (by omega) 19 [pt b7 0, pt b4 0, pt b6 0] bd19 (fun x : Nat × Nat => (sealL (enc tab ws r) iv9 aad b).length ≤ x.2) (fun x => some x.1) (fun _ => (sealL (enc tab ws r) iv9 aad b).length) (fun x => x.2) (fun _ => 0) (fun x => [.row (some x.1) 5 1 (sealL (enc tab ws r) iv9 aad b).length x.2 ((sealL (enc tab ws r) iv9 aad b).map u8)]) (fun w' hw' => c_palfrey_gcm_Seal_1 w' kb tab ws r ((hk.keep hw).keep hw') hr (firstL (enc tab ws r) iv9) (firstL_len _ _) b7 b4 b6 _ _ _ _ _ _ B A b aad _ _ _ _ (hw'.old0 (hw.blk (by repeat (first | exact List.Mem.head _ | apply List.Mem.tail)))) (hw'.old0 (hw.blk (by repeat (first | exact List.Mem.head _ | apply List.Mem.tail)))) (hw'.old0 (hw.blk (by repeat (first | exact List.Mem.head _ | apply List.Mem.tail)))) ((hB.keep hw).keep hw') ((hA.keep hw).keep hw') hnb hna hlb hla) (by exact ⟨(_, _), Nat.le_refl _, NewH.row1 (Nat.le_refl _) NewH.nil⟩))) (by exact ⟨(_, _), Nat.le_refl _, NewH.row1 (Nat.le_refl _) NewH.nil⟩) fun x hx => ?_
  refine Ops.v (Yl.extract (vs := [sl (some x.1) (sealL (enc tab ws r) iv9 aad b).length x.2, iv 0]) rfl rfl) ?_
  refine Ops.v (Yl.extract (vs := [sl (some x.1) (sealL (enc tab ws r) iv9 aad b).length x.2, iv 0]) rfl rfl) ?_
  refine Ops.v (Yl.asS rfl) ?_
  refine Ops.v (Yl.asI rfl) ?_
  refine Ops.nil ?_
  refine n2 _ _ _ ?_
  refine Wp.ret ?_
  refine (hK _ _ _ ⟨16, rfl⟩ (Res.two ⟨16, rfl⟩ rfl rfl rfl) ?_).1
  exact fun w' h => ⟨x, hx.1, hx.2, rfl, h.sub (by repeat (first | exact List.Sublist.refl _ | exact List.nil_sublist _ | apply List.Sublist.cons_cons | apply List.Sublist.cons))⟩

theorem c_palfrey_gcm_Open_1 (w : World) (kb : Nat) (tab ws : List B8) (r : Nat) (hk : KeysAt w [] kb tab ws r) (hr : 1 ≤ r) (first : List B8) (hf : first.length = 16) (p1 p2 p3 : Nat) (T1 T2 T3 : TypeId) (f1 f2 f3 : Nat × Nat) (B A : Option Addr) (b aad : List B8) (nb cb na ca : Nat) (h1 : w.heap[p1]? = some (.cells #[.slice B nb cb] T1 f1)) (h2 : w.heap[p2]? = some (.cells #[pt kb 0] T2 f2)) (h3 : w.heap[p3]? = some (.cells #[.slice A na ca] T3 f3)) (hB : Rw w B (b.map u8)) (hA : Rw w A (aad.map u8)) (hnb : nb = b.length) (hna : na = aad.length) (hlb : b.length ≤ 1000000) (hla : aad.length ≤ 1000000) (hcb : nb ≤ cb) : Makes Try.prog 23 #[.agg (first.map u8).toArray, pt p1 0, pt p2 0, pt p3 0] w (fun _ : Option Nat => True) (fun x => .tuple #[sl x (openF (enc tab ws r) first aad b).1.length (openF (enc tab ws r) first aad b).1.length, iv (openF (enc tab ws r) first aad b).2]) (fun x => [.row x 5 1 (openF (enc tab ws r) first aad b).1.length (openF (enc tab ws r) first aad b).1.length ((openF (enc tab ws r) first aad b).1.map u8)]) := by
  subst hnb; subst hna
  have hE : ∀ x, ((enc tab ws r) x).length = 16 := enc_len tab ws r
  refine Calls.enter (S := Tr w [] []) Try.func23 rfl (Tr.refl w []) (fun K hK => ?_)
  refine Wp.seq fun K1 n1 r1 => ?_
  refine Wp.region ?_
  refine Ops.f (Ef.boxA rfl) (New.ex _) fun b4 hb4 => ?_
  refine Ops.v (Yl.asS rfl) ?_
  refine Ops.v (Yl.asI rfl) ?_
  refine Ops.nil ?_
  refine n1 _ _ _ ?_
  refine Wp.seq fun K2 n2 r2 => ?_
  refine Wp.region ?_
  refine Ops.v (Yl.load1z na23 rfl (Rd.oldb (cs := [_]) h1 (by simp)) (by first | rfl | exact getmap (by omega) | assumption)) ?_
  refine Ops.v (Yl.len Try.underlying23 rfl rfl) ?_
  refine Ops.v (Yl.sub rfl rfl (by omega) (by omega)) ?_
  refine Ops.v (Yl.asI rfl) ?_
  refine Ops.nil ?_
  refine n2 _ _ _ ?_
  refine Wp.seq fun K3 n3 r3 => ?_
  refine Wp.block fun K4 n4 x4 r4 => ?_
  refine Wp.seq fun K5 n5 r5 => ?_
  refine Wp.region ?_
  refine Ops.v (Yl.mvI rfl) ?_
  refine Ops.v (Yl.lss rfl rfl) ?_
  refine Ops.v (Yl.asB rfl) ?_
  refine Ops.nil ?_
  refine n5 _ _ _ ?_
  refine Wp.cond _ rfl (fun h11 => ?_) (fun h11 => ?_)
  ·
    try simp only [decide_eq_true_eq, decide_eq_false_iff_not, Bool.not_eq_true, Bool.not_eq_false, Bool.not_true, Bool.not_false, Bool.not_eq_eq_eq_not, ne_eq, Decidable.not_not] at h11
    refine Wp.seq fun K6 n6 r6 => ?_
    refine Wp.region ?_
    refine Ops.v (Yl.asS rfl) ?_
    refine Ops.v (Yl.asI rfl) ?_
    refine Ops.nil ?_
    refine n6 _ _ _ ?_
    refine Wp.ret ?_
    refine r4 _ _ _ _ (by simp) (by simp) ?_
    refine r3 _ _ _ _ (by simp) ?_
    refine (hK _ _ _ ⟨35, rfl⟩ (Res.two ⟨35, rfl⟩ rfl rfl rfl) ?_).1
    have ht : (openF (enc tab ws r) first aad b) = ([], 17) := by rw [openF, if_pos (by omega)]
    exact fun w' h => ⟨none, trivial, NewH.row (by simp) NewH.nil, by rw [ht]; rfl, by rw [ht]; exact h.clear.addRow _ _⟩
  ·
    try simp only [decide_eq_true_eq, decide_eq_false_iff_not, Bool.not_eq_true, Bool.not_eq_false, Bool.not_true, Bool.not_false, Bool.not_eq_eq_eq_not, ne_eq, Decidable.not_not] at h11
    refine Wp.seq fun K7 n7 r7 => ?_
    refine Wp.drawS hmix (fun i => [0, 1, 1, 0, 0, 0, 0, 1, 1, 0, 0, 1, 1].getD i 0) (fun _ h => h.drawn _) fun N4 hN4 => ?_
    obtain ⟨bb, ob, rfl⟩ := hB.addr (i := 0) (by rw [List.length_map]; omega)
    have hn16 : ((b.length - 16 : Nat) : Int) = (b.length : Int) - 16 := by omega
    have htl : (b.take (b.length - 16)).length = b.length - 16 := by rw [List.length_take]; omega
    have hsl := streamL_len (enc tab ws r) hE first (b.length - 16)
    refine G.t 0 (by kernel_rfl) rfl (Yl.load1z na23 rfl (Rd.oldb (cs := [_]) h1 (by simp)) (by first | rfl | exact getmap (by omega) | assumption)) ?_
    refine G.p 1 (by kernel_rfl) rfl (Yl.mvI rfl) ?_
    refine G.p 2 (by kernel_rfl) rfl (Yl.sliceFrom Try.underlying23 sz5 rfl (.some (i := b.length - 16) rfl (by omega)) (by omega) hcb) ?_
    refine G.t 3 (by kernel_rfl) rfl (Yl.load1z na30 rfl (Rd.oldb (cs := [_]) h2 (by simp)) (by first | rfl | exact getmap (by omega) | assumption)) ?_
    refine G.t 4 (by kernel_rfl) rfl (Yl.loadAz ag33 rfl (by first | exact Rd.blk (by repeat (first | exact List.Mem.head _ | apply List.Mem.tail)) | exact Rd.row (by repeat (first | exact List.Mem.head _ | apply List.Mem.tail)) | assumption) (by rw [List.length_map, hf])) ?_
    refine G.t 5 (by kernel_rfl) rfl (Yl.load1z na23 rfl (Rd.oldb (cs := [_]) h3 (by simp)) (by first | rfl | exact getmap (by omega) | assumption)) ?_
    refine G.t 6 (by kernel_rfl) rfl (Yl.load1z na23 rfl (Rd.oldb (cs := [_]) h1 (by simp)) (by first | rfl | exact getmap (by omega) | assumption)) ?_
    refine G.p 7 (by kernel_rfl) rfl (Yl.mvI rfl) ?_
    refine G.p 8 (by kernel_rfl) rfl (Yl.sliceTo Try.underlying23 sz5 rfl (.some (i := b.length - 16) rfl (by omega)) (by omega)) ?_
    refine G.runT 9 (by kernel_rfl) rfl rfl rfl (Ef.makes bd22 rfl (fun wc hw => c_palfrey_gcm_tag wc kb tab ws r (hk.keep hw) hr first hf _ _ aad (b.take (b.length - 16)) _ _ _ _ (hA.keep hw) (by rw [List.map_take]; exact (hB.keep hw).take _) rfl (by rw [htl]) (by omega) (by rw [htl]; omega))) (by exact ⟨_, trivial, NewH.row1 (Nat.le_refl _) NewH.nil⟩) (fun _ h => h) (fun _ _ _ h => h.sub (by first | exact List.Sublist.refl _ | exact List.sublist_cons_self _ _ | exact List.sublist_append_right _ _)) fun bt hbt => ?_
    simp only [En.put, List.cons_append, List.nil_append]
    refine G.runT 10 (by kernel_rfl) rfl rfl rfl (Ef.pure bd24 rfl (fun wc hw => c_palfrey_bits_Equal wc _ _ (b.drop (b.length - 16)) (tagL (enc tab ws r) first aad (b.take (b.length - 16))) _ _ _ _ (by rw [List.map_drop]; exact (hB.keep hw).drop _) (hw.rwRow (ao := some bt) (by repeat (first | exact List.Mem.head _ | apply List.Mem.tail))) (by rw [List.length_drop]) (by rw [tagL_len _ hE]) (by rw [List.length_drop]; omega))) ⟨(), trivial⟩ (fun _ h => h) (fun _ _ _ h => h.sub (by first | exact List.Sublist.refl _ | exact List.sublist_cons_self _ _ | exact List.sublist_append_right _ _)) fun _ _ => ?_
    simp only [En.put, List.cons_append, List.nil_append]
    refine G.p 11 (by kernel_rfl) rfl (Yl.not rfl) ?_
    refine G.p 12 (by kernel_rfl) rfl (Yl.asB rfl) ?_
    refine G.done (by kernel_rfl) (fun _ h => h) (hN4 _ _ _ ?_)
    refine n7 _ _ _ ?_
    refine Wp.cond _ rfl (fun h14 => ?_) (fun h14 => ?_)
    ·
      try simp only [decide_eq_true_eq, decide_eq_false_iff_not, Bool.not_eq_true, Bool.not_eq_false, Bool.not_true, Bool.not_false, Bool.not_eq_eq_eq_not, ne_eq, Decidable.not_not] at h14
      refine Wp.seq fun K8 n8 r8 => ?_
      refine Wp.region ?_
      refine Ops.v (Yl.asS rfl) ?_
      refine Ops.v (Yl.asI rfl) ?_
      refine Ops.nil ?_
      refine n8 _ _ _ ?_
      refine Wp.ret ?_
      refine r4 _ _ _ _ (by simp) (by simp) ?_
      refine r3 _ _ _ _ (by simp) ?_
      refine (hK _ _ _ ⟨35, rfl⟩ (Res.two ⟨35, rfl⟩ rfl rfl rfl) ?_).1
      have ht : (openF (enc tab ws r) first aad b) = ([], 7) := by rw [openF, if_neg (by omega), if_neg h14]
      exact fun w' h => ⟨none, trivial, NewH.row (by simp) NewH.nil, by rw [ht]; rfl, by rw [ht]; exact h.clear.addRow _ _⟩
    ·
      try simp only [decide_eq_true_eq, decide_eq_false_iff_not, Bool.not_eq_true, Bool.not_eq_false, Bool.not_true, Bool.not_false, Bool.not_eq_eq_eq_not, ne_eq, Decidable.not_not] at h14
      refine Wp.skip ?_
      refine n4 _ _ _ ?_
      refine n3 _ _ _ ?_
      refine Wp.seq fun K9 n9 r9 => ?_
      refine Wp.drawS hmix (fun i => [0, 1, 1, 0, 0, 1, 0, 0, 1, 1].getD i 0) (fun _ h => h.drawn _) fun N6 hN6 => ?_
      refine G.t 0 (by kernel_rfl) rfl (Yl.load1z na23 rfl (Rd.oldb (cs := [_]) h1 (by simp)) (by first | rfl | exact getmap (by omega) | assumption)) ?_
      refine G.p 1 (by kernel_rfl) rfl (Yl.mvI rfl) ?_
      refine G.p 2 (by kernel_rfl) rfl (Yl.sliceTo Try.underlying23 sz5 rfl (.some (i := b.length - 16) rfl (by omega)) (by omega)) ?_
      refine G.t 3 (by kernel_rfl) rfl (Yl.load1z na30 rfl (Rd.oldb (cs := [_]) h2 (by simp)) (by first | rfl | exact getmap (by omega) | assumption)) ?_
      refine G.t 4 (by kernel_rfl) rfl (Yl.loadAz ag33 rfl (by first | exact Rd.blk (by repeat (first | exact List.Mem.head _ | apply List.Mem.tail)) | exact Rd.row (by repeat (first | exact List.Mem.head _ | apply List.Mem.tail)) | assumption) (by rw [List.length_map, hf])) ?_
      refine G.p 5 (by kernel_rfl) rfl (Yl.mvI rfl) ?_
      refine G.runT 6 (by kernel_rfl) rfl rfl rfl (Ef.makes bd21 rfl (fun wc hw => by
        rw [← hn16]
        exact c_palfrey_gcm_stream wc kb tab ws r (hk.keep hw) hr first (b.length - 16) hf (by omega))) (by exact ⟨(some _, 0), trivial, NewH.row1 (Nat.le_refl _) NewH.nil⟩) (fun _ h => h) (fun _ _ _ h => h.sub (by first | exact List.Sublist.refl _ | exact List.sublist_cons_self _ _ | exact List.sublist_append_right _ _)) fun p33 hp33 => ?_
      simp only [En.put, List.cons_append, List.nil_append]
      refine G.runT 7 (by kernel_rfl) rfl rfl rfl (Ef.makes bd20 rfl (fun wc hw => c_palfrey_bits_Xor wc _ _ (b.take (b.length - 16)) (streamL (enc tab ws r) first (b.length - 16)) _ _ _ _ (by rw [List.map_take]; exact (hB.keep hw).take _) (hw.rwRow (ao := p33.1) (by repeat (first | exact List.Mem.head _ | apply List.Mem.tail))) (by rw [htl]) (by rw [hsl]) (by omega))) (by exact ⟨_, trivial, NewH.row1 (Nat.le_refl _) NewH.nil⟩) (fun _ h => h) (fun _ _ _ h => h.sub (by first | exact List.Sublist.refl _ | exact List.sublist_cons_self _ _ | exact List.sublist_append_right _ _)) fun bx hbx => ?_
      simp only [En.put, List.cons_append, List.nil_append]
      refine G.p 8 (by kernel_rfl) rfl (Yl.asS rfl) ?_
      refine G.p 9 (by kernel_rfl) rfl (Yl.asI rfl) ?_
      refine G.done (by kernel_rfl) (fun _ h => h) (hN6 _ _ _ ?_)
      refine n9 _ _ _ ?_
      refine Wp.ret ?_
      refine (hK _ _ _ ⟨35, rfl⟩ (Res.two ⟨35, rfl⟩ rfl rfl rfl) ?_).1
      have ht : (openF (enc tab ws r) first aad b) = (textL (enc tab ws r) first (b.take (b.length - 16)), 0) := by rw [openF, if_neg (by omega), if_pos h14]
      have eM : min (b.take (b.length - 16)).length (streamL (enc tab ws r) first (b.length - 16)).length = (textL (enc tab ws r) first (b.take (b.length - 16))).length := by rw [textL_len _ hE, hsl, htl, Nat.min_self]
      have eT : xorL (b.take (b.length - 16)) (streamL (enc tab ws r) first (b.length - 16)) = textL (enc tab ws r) first (b.take (b.length - 16)) := by rw [textL, htl]
      exact fun w' h => ⟨some bx, trivial, NewH.row1 (hbx.2.hd _ rfl) NewH.nil, by rw [ht]; exact congrArg (fun z => Ending.returned (.tuple #[sl (some bx) z z, iv 0])) eM, by rw [ht]; rw [eM, eT] at h; exact h.sub (by repeat (first | exact List.Sublist.refl _ | exact List.nil_sublist _ | apply List.Sublist.cons_cons | apply List.Sublist.cons))⟩

theorem c_palfrey_gcm_Open (w : World) (kb : Nat) (tab ws : List B8) (r : Nat) (hk : KeysAt w [] kb tab ws r) (hr : 1 ≤ r) (C A B : Option Addr) (iv9 aad b : List B8) (nc cc na ca nb cb : Nat) (hC : Rw w C (iv9.map u8)) (hA : Rw w A (aad.map u8)) (hB : Rw w B (b.map u8)) (hnc : nc = iv9.length) (hna : na = aad.length) (hnb : nb = b.length) (h0 : 0 < nc) (hlc : nc ≤ 1000000) (hlb : b.length ≤ 1000000) (hla : aad.length ≤ 1000000) (hcb : nb ≤ cb) : Makes Try.prog 10 #[pt kb 0, .slice C nc cc, .slice A na ca, .slice B nb cb] w (fun _ : Option Nat => True) (fun x => .tuple #[sl x (openL (enc tab ws r) iv9 aad b).1.length (openL (enc tab ws r) iv9 aad b).1.length, iv (openL (enc tab ws r) iv9 aad b).2]) (fun x => [.row x 5 1 (openL (enc tab ws r) iv9 aad b).1.length (openL (enc tab ws r) iv9 aad b).1.length ((openL (enc tab ws r) iv9 aad b).1.map u8)]) := by
  refine Calls.enter (S := Tr w [] []) Try.func10 rfl (Tr.refl w []) (fun K hK => ?_)
  refine Wp.seq fun K1 n1 r1 => ?_
  refine Wp.region ?_
  refine Ops.f (Ef.box1 (v := .pointer _) rfl rfl) (New.ex _) fun b4 hb4 => ?_
  refine Ops.f (Ef.box1 (v := .slice _ _ _) rfl rfl) (New.ex _) fun b6 hb6 => ?_
  refine Ops.f (Ef.box1 (v := .slice _ _ _) rfl rfl) (New.ex _) fun b7 hb7 => ?_
  refine Ops.v (Yl.asS rfl) ?_
  refine Ops.v (Yl.asI rfl) ?_
  refine Ops.nil ?_
  refine n1 _ _ _ ?_
  refine Wp.seq fun K2 n2 r2 => ?_
  refine Wp.region ?_
  refine Ops.v (Yl.load1z na30 rfl (by first | exact Rd.blk (by repeat (first | exact List.Mem.head _ | apply List.Mem.tail)) | exact Rd.row (by repeat (first | exact List.Mem.head _ | apply List.Mem.tail)) | assumption) (by first | rfl | exact getmap (by omega) | assumption)) ?_
  refine Ops.v (Yl.mvS rfl) ?_
  refine Ops.v (Yl.makeFunc' (fv := []) (cv := [.pointer _, .pointer _, .pointer _]) rfl rfl) ?_
  refine Ops.f (Ef.makes bd18 rfl (fun wc hw => c_palfrey_gcm_does wc kb tab ws r (hk.keep hw) hr C iv9 _ _ (hC.keep hw) hnc h0 (by omega) 23 [pt b7 0, pt b4 0, pt b6 0] bd23 (fun _ : Option Nat => True) (fun x => x) (fun _ => (openL (enc tab ws r) iv9 aad b).1.length) (fun _ => (openL (enc tab ws r) iv9 aad b).1.length) (fun _ => (openL (enc tab ws r) iv9 aad b).2) (fun x => [.row x 5 1 (openL (enc tab ws r) iv9 aad b).1.length (openL (enc tab ws r) iv9 aad b).1.length ((openL (enc tab ws r) iv9 aad b).1.map u8)]) (fun w' hw' => c_palfrey_gcm_Open_1 w' kb tab ws r ((hk.keep hw).keep hw') hr (firstL (enc tab ws r) iv9) (firstL_len _ _) b7 b4 b6 _ _ _ _ _ _ B A b aad _ _ _ _ (hw'.old0 (hw.blk (by repeat (first | exact List.Mem.head _ | apply List.Mem.tail)))) (hw'.old0 (hw.blk (by repeat (first | exact List.Mem.head _ | apply List.Mem.tail)))) (hw'.old0 (hw.blk (by repeat (first | exact List.Mem.head _ | apply List.Mem.tail)))) ((hB.keep hw).keep hw') ((hA.keep hw).keep hw') hnb hna hlb hla hcb) (by exact ⟨none, trivial, NewH.row (by simp) NewH.nil⟩))) (by exact ⟨none, trivial, NewH.row (by simp) NewH.nil⟩) fun x hx => ?_
  refine Ops.v (Yl.extract (vs := [sl x (openL (enc tab ws r) iv9 aad b).1.length (openL (enc tab ws r) iv9 aad b).1.length, iv (openL (enc tab ws r) iv9 aad b).2]) rfl rfl) ?_
  refine Ops.v (Yl.extract (vs := [sl x (openL (enc tab ws r) iv9 aad b).1.length (openL (enc tab ws r) iv9 aad b).1.length, iv (openL (enc tab ws r) iv9 aad b).2]) rfl rfl) ?_
  refine Ops.v (Yl.asS rfl) ?_
  refine Ops.v (Yl.asI rfl) ?_
  refine Ops.nil ?_
  refine n2 _ _ _ ?_
  refine Wp.ret ?_
  refine (hK _ _ _ ⟨16, rfl⟩ (Res.two ⟨16, rfl⟩ rfl rfl rfl) ?_).1
  exact fun w' h => ⟨x, trivial, hx.2, rfl, h.sub (by repeat (first | exact List.Sublist.refl _ | exact List.nil_sublist _ | apply List.Sublist.cons_cons | apply List.Sublist.cons))⟩

end Go.Proofs.Ytiimjkpcljelpaa

/- Walks of functions. -/
import Derived.Test.YtiimjkpcljelpaaTy
import Derived.Test.YtiimjkpcljelpaaPa
set_option maxRecDepth 10000
open Go.RowKit Go.Eng
set_option linter.unusedSimpArgs false
set_option linter.unusedVariables false
namespace Go.Proofs.Ytiimjkpcljelpaa

theorem c_palfrey_bits_Xor_1 (w : World) (i : Nat) (ba bb : Nat) (A B : Option Addr) (xs ys : List B8) (na ca nb cb : Nat) (Ta Tb : TypeId) (fa fb : Nat × Nat) (ha : w.heap[ba]? = some (.cells #[.slice A na ca] Ta fa)) (hb : w.heap[bb]? = some (.cells #[.slice B nb cb] Tb fb)) (hA : Rw w A (xs.map u8)) (hB : Rw w B (ys.map u8)) (hna : na = xs.length) (hnb : nb = ys.length) (h1 : i < xs.length) (h2 : i < ys.length) : Pure Try.prog 31 #[iv i, pt ba 0, pt bb 0] w (u8 (ixor xs ys i)) := by
  obtain ⟨b1, o1, rfl⟩ := hA.addr (i := i) (by simpa using h1)
  obtain ⟨b2, o2, rfl⟩ := hB.addr (i := i) (by simpa using h2)
  refine Calls.enter (S := Tr w [] []) Try.func31 rfl (Tr.refl w []) (fun K hK => ?_)
  refine Wp.seq fun K1 n1 r1 => ?_
  refine Wp.region ?_
  refine Ops.v (Yl.assign' (v := u8 0#8) rfl) ?_
  refine Ops.nil ?_
  refine n1 _ _ _ ?_
  refine Wp.seq fun K2 n2 r2 => ?_
  refine Wp.drawS hmix (fun i => [0, 1, 1, 0, 0, 1, 1, 0, 1, 1].getD i 0) (fun _ h => h.drawn _) fun N1 hN1 => ?_
  refine G.t 0 (by kernel_rfl) rfl (Yl.load1z na23 rfl (Rd.oldb (cs := [_]) ha (by simp)) (by first | rfl | exact getmap (by omega) | assumption)) ?_
  refine G.p 1 (by kernel_rfl) rfl (Yl.mvI rfl) ?_
  refine G.p 2 (by kernel_rfl) rfl (Yl.indexSlice1 Try.underlying23 sz5 rfl rfl i rfl (by omega)) ?_
  refine G.t 3 (by kernel_rfl) rfl (Yl.load1 na5 rfl i hA.rd rfl (getmap (by omega))) ?_
  refine G.t 4 (by kernel_rfl) rfl (Yl.load1z na23 rfl (Rd.oldb (cs := [_]) hb (by simp)) (by first | rfl | exact getmap (by omega) | assumption)) ?_
  refine G.p 5 (by kernel_rfl) rfl (Yl.mvI rfl) ?_
  refine G.p 6 (by kernel_rfl) rfl (Yl.indexSlice1 Try.underlying23 sz5 rfl rfl i rfl (by omega)) ?_
  refine G.t 7 (by kernel_rfl) rfl (Yl.load1 na5 rfl i hB.rd rfl (getmap (by omega))) ?_
  refine G.p 8 (by kernel_rfl) rfl (Yl.xor8 rfl rfl) ?_
  refine G.p 9 (by kernel_rfl) rfl (Yl.asI rfl) ?_
  refine G.done (by kernel_rfl) (fun _ h => h) (hN1 _ _ _ ?_)
  refine n2 _ _ _ ?_
  refine Wp.ret ?_
  refine (hK _ _ _ ⟨14, rfl⟩ (Res.one ⟨14, rfl⟩ rfl rfl) ?_).1
  exact fun w' h => ⟨rfl, h⟩

theorem c_palfrey_bits_puts (w : World) (n : Nat) (f : FuncId) (cp : List Value) (g : Nat → B8) (hn : n ≤ 1099511627776) (hb : Body Try.prog f) (hf : ∀ w' i, i < n → Tr w [] [] w' → Pure Try.prog f ([iv i] ++ cp).toArray w' (u8 (g i))) : Makes Try.prog 30 #[iv n, .func (.func f) #[] cp.toArray] w (fun _ => True) (fun b : Nat => sl (some b) n n) (fun b => [.row (some b) 5 1 n n (((List.range n).map g).map u8)]) := by
  refine Calls.enter (S := Tr w [] []) Try.func30 rfl (Tr.refl w []) (fun K hK => ?_)
  refine Wp.seq fun K1 n1 r1 => ?_
  refine Wp.region ?_
  refine Ops.v (Yl.asS rfl) ?_
  refine Ops.nil ?_
  refine n1 _ _ _ ?_
  refine Wp.seq fun K2 n2 r2 => ?_
  refine Wp.region ?_
  refine Ops.v (Yl.mvI rfl) ?_
  refine Ops.v (Yl.max rfl rfl) ?_
  refine Ops.f (Ef.make n Try.underlying23 el5 rfl rfl (by omega) (by decide) (by omega) (by omega)) (New.ex _) fun b hb9 => ?_
  refine Ops.v (Yl.asS rfl) ?_
  refine Ops.nil ?_
  refine n2 _ _ _ ?_
  refine Wp.seq fun K3 n3 r3 => ?_
  refine Wp.seq fun K4 n4 r4 => ?_
  refine Wp.region ?_
  refine Ops.v (Yl.mvS rfl) ?_
  refine Ops.v (Yl.len Try.underlying23 rfl rfl) ?_
  refine Ops.v (Yl.mvI rfl) ?_
  refine Ops.nil ?_
  refine n4 _ _ _ ?_
  refine Wp.block fun K5 n5 x5 r5 => ?_
  skip
  refine Wp.loopI 1 [6, 12, 13, 14, 15, 16, 17, 18, 19, 20, 21] [12] (fun (k : Nat) => k ≤ n) (fun (k : Nat) => [iv k]) (fun (k : Nat) => Tr w [] [.row (some b) 5 1 n n ((fillTo g 0#8 k n).map u8)]) (fun (k : Nat) => n - k) (0) (by omega) (fun _ => rfl) rfl (fun _ h => by simpa only [fillTo_zero, List.map_replicate, List.flatten_replicate_singleton] using h) ?_
  intro k hI6 J6 K6 n6 r6
  try dsimp only at hI6 n6 ⊢
  refine Wp.seq fun K7 n7 r7 => ?_
  refine Wp.region ?_
  refine Ops.v (Yl.lss rfl rfl) ?_
  refine Ops.nil ?_
  refine n7 _ _ _ ?_
  refine Wp.seq fun K8 n8 r8 => ?_
  refine Wp.cond _ rfl (fun h13 => ?_) (fun h13 => ?_)
  ·
    try simp only [decide_eq_true_eq, decide_eq_false_iff_not, Bool.not_eq_true, Bool.not_eq_false, Bool.not_true, Bool.not_false, Bool.not_eq_eq_eq_not, ne_eq, Decidable.not_not] at h13
    refine Wp.skip ?_
    refine n8 _ _ _ ?_
    refine Wp.seq fun K9 n9 r9 => ?_
    refine Wp.block fun K10 n10 x10 r10 => ?_
    refine Wp.seq fun K11 n11 r11 => ?_
    refine Wp.region ?_
    refine Ops.v (Yl.mvI rfl) ?_
    refine Ops.v (Yl.asI rfl) ?_
    refine Ops.nil ?_
    refine n11 _ _ _ ?_
    refine Wp.region ?_
    refine Ops.v (Yl.mvS rfl) ?_
    refine Ops.v (Yl.mvI rfl) ?_
    refine Ops.v (Yl.mvF rfl) ?_
    refine Ops.v (Yl.mvI rfl) ?_
    refine Ops.f (Ef.pureV (fst := []) (cp := cp) (vs := [iv k] ++ cp) hb rfl rfl (fun w' hw => hf w' k (by omega) hw.clear)) ⟨(), trivial⟩ fun _ _ => ?_
    refine Ops.v ((by first | exact Yl.indexSliceZ Try.underlying23 sz5 rfl rfl _ rfl (by omega) | exact Yl.indexSlice1 Try.underlying23 sz5 rfl rfl _ rfl (by omega))) ?_
    refine Ops.s (Ef.store1r sz5 rfl rfl (by repeat (first | exact At.head | apply At.tail)) (by rw [List.length_map, fillTo_len _ _ _ _ (by omega)]; omega) rfl (by first | exact .inr (by assumption) | exact .inl (by simp))) ?_
    refine Ops.nil ?_
    refine n10 _ _ _ ?_
    refine n9 _ _ _ ?_
    refine Wp.region ?_
    refine Ops.v (Yl.add rfl rfl (by omega) (by omega)) ?_
    refine Ops.v (Yl.mvI rfl) ?_
    refine Ops.nil ?_
    refine n6 (k + 1) _ _ (by omega) ⟨23, rfl⟩ rfl rfl (l1 (congrArg iv (by omega))) (by omega) (fun _ h => by rw [← fillTo_set g 0#8 k n (by omega), List.map_set]; exact h)
  ·
    try simp only [decide_eq_true_eq, decide_eq_false_iff_not, Bool.not_eq_true, Bool.not_eq_false, Bool.not_true, Bool.not_false, Bool.not_eq_eq_eq_not, ne_eq, Decidable.not_not] at h13
    refine Wp.exit ?_
    refine r8 _ _ _ _ (by simp) ?_
    refine r6 _ _ _ _ (by simp) ?_
    refine x5 _ _ _ ?_
    refine n3 _ _ _ ?_
    refine Wp.seq fun K12 n12 r12 => ?_
    refine Wp.region ?_
    refine Ops.v (Yl.mvS rfl) ?_
    refine Ops.v (Yl.asS rfl) ?_
    refine Ops.nil ?_
    refine n12 _ _ _ ?_
    refine Wp.ret ?_
    refine (hK _ _ _ ⟨23, rfl⟩ (Res.one ⟨23, rfl⟩ rfl rfl) ?_).1
    obtain rfl : k = n := by omega
    exact fun w' h => ⟨b, trivial, NewH.row1 hb9 NewH.nil, rfl, by rw [fillTo_full] at h; exact h⟩

theorem c_palfrey_bits_Xor (w : World) (A B : Option Addr) (xs ys : List B8) (na ca nb cb : Nat) (hA : Rw w A (xs.map u8)) (hB : Rw w B (ys.map u8)) (hna : na = xs.length) (hnb : nb = ys.length) (hle : min xs.length ys.length ≤ 1099511627776) : Makes Try.prog 20 #[.slice A na ca, .slice B nb cb] w (fun _ => True) (fun b : Nat => sl (some b) (min xs.length ys.length) (min xs.length ys.length)) (fun b => [.row (some b) 5 1 (min xs.length ys.length) (min xs.length ys.length) ((xorL xs ys).map u8)]) := by
  subst hna; subst hnb
  have hm : ((min xs.length ys.length : Nat) : Int) = min (xs.length : Int) (ys.length : Int) := by omega
  refine Calls.enter (S := Tr w [] []) Try.func20 rfl (Tr.refl w []) (fun K hK => ?_)
  refine Wp.seq fun K1 n1 r1 => ?_
  refine Wp.region ?_
  refine Ops.f (Ef.box1 (v := .slice _ _ _) rfl rfl) (New.ex _) fun b2 hb2 => ?_
  refine Ops.f (Ef.box1 (v := .slice _ _ _) rfl rfl) (New.ex _) fun b3 hb3 => ?_
  refine Ops.v (Yl.asS rfl) ?_
  refine Ops.nil ?_
  refine n1 _ _ _ ?_
  refine Wp.seq fun K2 n2 r2 => ?_
  refine Wp.region ?_
  refine Ops.v (Yl.load1z na23 rfl (by first | exact Rd.blk (by repeat (first | exact List.Mem.head _ | apply List.Mem.tail)) | exact Rd.row (by repeat (first | exact List.Mem.head _ | apply List.Mem.tail)) | assumption) (by first | rfl | exact getmap (by omega) | assumption)) ?_
  refine Ops.v (Yl.len Try.underlying23 rfl rfl) ?_
  refine Ops.v (Yl.load1z na23 rfl (by first | exact Rd.blk (by repeat (first | exact List.Mem.head _ | apply List.Mem.tail)) | exact Rd.row (by repeat (first | exact List.Mem.head _ | apply List.Mem.tail)) | assumption) (by first | rfl | exact getmap (by omega) | assumption)) ?_
  refine Ops.v (Yl.len Try.underlying23 rfl rfl) ?_
  refine Ops.v (Yl.min rfl rfl) ?_
  refine Ops.v (Yl.makeFunc' (fv := []) (cv := [.pointer _, .pointer _]) rfl rfl) ?_
  refine Ops.f (Ef.makes bd30 rfl (fun wc hw => by
    rw [← hm]
    exact c_palfrey_bits_puts wc (min xs.length ys.length) 31 [pt b2 0, pt b3 0] (ixor xs ys) hle bd31 (fun w' i hi hT => c_palfrey_bits_Xor_1 w' i b2 b3 A B xs ys _ _ _ _ _ _ _ _ (hT.old0 (hw.blk (by repeat (first | exact List.Mem.head _ | apply List.Mem.tail)))) (hT.old0 (hw.blk (by repeat (first | exact List.Mem.head _ | apply List.Mem.tail)))) ((hA.keep hw).keep hT) ((hB.keep hw).keep hT) rfl rfl (by omega) (by omega)))) (by exact ⟨_, trivial, NewH.row1 (Nat.le_refl _) NewH.nil⟩) fun bb hbb => ?_
  refine Ops.v (Yl.asS rfl) ?_
  refine Ops.nil ?_
  refine n2 _ _ _ ?_
  refine Wp.ret ?_
  refine (hK _ _ _ ⟨12, rfl⟩ (Res.one ⟨12, rfl⟩ rfl rfl) ?_).1
  exact fun w' h => ⟨bb, trivial, hbb.2, rfl, h.sub (by repeat (first | exact List.Sublist.refl _ | exact List.nil_sublist _ | apply List.Sublist.cons_cons | apply List.Sublist.cons))⟩

theorem c_palfrey_bits_Big (w : World) (A : Option Addr) (xs : List B8) (n c : Nat) (hA : Rw w A (xs.map u8)) (hn : n = xs.length) (hle : xs.length ≤ 1099511627776) : Pure Try.prog 32 #[.slice A n c] w (u64 (bigL xs)) := by
  subst hn
  refine Calls.enter (S := Tr w [] []) Try.func32 rfl (Tr.refl w []) (fun K hK => ?_)
  refine Wp.seq fun K1 n1 r1 => ?_
  refine Wp.region ?_
  refine Ops.v (Yl.assign' (v := u64 0#64) rfl) ?_
  refine Ops.nil ?_
  refine n1 _ _ _ ?_
  refine Wp.seq fun K2 n2 r2 => ?_
  refine Wp.region ?_
  refine Ops.v (Yl.assign' (v := u64 0#64) rfl) ?_
  refine Ops.nil ?_
  refine n2 _ _ _ ?_
  refine Wp.seq fun K3 n3 r3 => ?_
  refine Wp.seq fun K4 n4 r4 => ?_
  refine Wp.region ?_
  refine Ops.v (Yl.mvS rfl) ?_
  refine Ops.v (Yl.len Try.underlying23 rfl rfl) ?_
  refine Ops.v (Yl.mvI rfl) ?_
  refine Ops.nil ?_
  refine n4 _ _ _ ?_
  refine Wp.block fun K5 n5 x5 r5 => ?_
  skip
  refine Wp.loopI 1 [3, 5, 8, 9, 10, 11, 12, 13, 14, 15, 16, 17] [8, 3] (fun (k : Nat) => k ≤ xs.length) (fun (k : Nat) => [iv k, u64 (bigL (xs.take k))]) (fun (k : Nat) => Tr w [] []) (fun (k : Nat) => xs.length - k) (0) (by omega) (fun _ => rfl) rfl (fun _ h => h) ?_
  intro k hI6 J6 K6 n6 r6
  try dsimp only at hI6 n6 ⊢
  refine Wp.seq fun K7 n7 r7 => ?_
  refine Wp.region ?_
  refine Ops.v (Yl.lss rfl rfl) ?_
  refine Ops.nil ?_
  refine n7 _ _ _ ?_
  refine Wp.seq fun K8 n8 r8 => ?_
  refine Wp.cond _ rfl (fun h9 => ?_) (fun h9 => ?_)
  ·
    try simp only [decide_eq_true_eq, decide_eq_false_iff_not, Bool.not_eq_true, Bool.not_eq_false, Bool.not_true, Bool.not_false, Bool.not_eq_eq_eq_not, ne_eq, Decidable.not_not] at h9
    refine Wp.skip ?_
    refine n8 _ _ _ ?_
    refine Wp.seq fun K9 n9 r9 => ?_
    refine Wp.block fun K10 n10 x10 r10 => ?_
    refine Wp.seq fun K11 n11 r11 => ?_
    refine Wp.region ?_
    obtain ⟨b1, o1, rfl⟩ := hA.addr (i := k) (by rw [List.length_map]; omega)
    refine Ops.v (Yl.indexSlice1 Try.underlying23 sz5 rfl rfl k rfl (by omega)) ?_
    refine Ops.v (Yl.load1 na5 rfl k hA.rd rfl (getmap (by omega))) ?_
    refine Ops.v (Yl.asI rfl) ?_
    refine Ops.nil ?_
    refine n11 _ _ _ ?_
    refine Wp.region ?_
    refine Ops.v (Yl.mvI rfl) ?_
    refine Ops.v (Yl.shl64 8 rfl rfl) ?_
    refine Ops.v (Yl.mvI rfl) ?_
    refine Ops.v (Yl.w8to64 Try.underlying5 Try.underlying70 rfl) ?_
    refine Ops.v (Yl.or64 rfl rfl) ?_
    refine Ops.v (Yl.asI rfl) ?_
    refine Ops.nil ?_
    refine n10 _ _ _ ?_
    refine n9 _ _ _ ?_
    refine Wp.region ?_
    refine Ops.v (Yl.add rfl rfl (by omega) (by omega)) ?_
    refine Ops.v (Yl.mvI rfl) ?_
    refine Ops.nil ?_
    refine n6 (k + 1) _ _ (by omega) ⟨19, rfl⟩ rfl rfl (l2 (congrArg iv (by omega)) (congrArg u64 (bigL_step xs k (by omega)))) (by omega) (fun _ h => h)
  ·
    try simp only [decide_eq_true_eq, decide_eq_false_iff_not, Bool.not_eq_true, Bool.not_eq_false, Bool.not_true, Bool.not_false, Bool.not_eq_eq_eq_not, ne_eq, Decidable.not_not] at h9
    refine Wp.exit ?_
    refine r8 _ _ _ _ (by simp) ?_
    refine r6 _ _ _ _ (by simp) ?_
    refine x5 _ _ _ ?_
    refine n3 _ _ _ ?_
    refine Wp.seq fun K12 n12 r12 => ?_
    refine Wp.region ?_
    refine Ops.v (Yl.mvI rfl) ?_
    refine Ops.v (Yl.asI rfl) ?_
    refine Ops.nil ?_
    refine n12 _ _ _ ?_
    refine Wp.ret ?_
    refine (hK _ _ _ ⟨19, rfl⟩ (Res.one ⟨19, rfl⟩ rfl rfl) ?_).1
    obtain rfl : k = xs.length := by omega
    exact fun w' h => ⟨congrArg (fun z => Ending.returned (u64 (bigL z))) (List.take_length), h⟩

theorem c_palfrey_bits_PutLittle_1 (w : World) (i : Nat) (bn : Nat) (n : BitVec 64) (Tn : TypeId) (fn : Nat × Nat) (hn : w.heap[bn]? = some (.cells #[u64 n] Tn fn)) (hi : i ≤ 1099511627776) : Pure Try.prog 43 #[iv i, pt bn 0] w (u8 (leB n i)) := by
  refine Calls.enter (S := Tr w [] []) Try.func43 rfl (Tr.refl w []) (fun K hK => ?_)
  refine Wp.seq fun K1 n1 r1 => ?_
  refine Wp.region ?_
  refine Ops.v (Yl.assign' (v := u8 0#8) rfl) ?_
  refine Ops.nil ?_
  refine n1 _ _ _ ?_
  refine Wp.seq fun K2 n2 r2 => ?_
  refine Wp.seq fun K3 n3 r3 => ?_
  refine Wp.region ?_
  refine Ops.v (Yl.mvI rfl) ?_
  refine Ops.v (Yl.geq rfl rfl) ?_
  refine Ops.nil ?_
  refine n3 _ _ _ ?_
  refine Wp.cond _ rfl (fun h5 => ?_) (fun h5 => ?_)
  ·
    try simp only [decide_eq_true_eq, decide_eq_false_iff_not, Bool.not_eq_true, Bool.not_eq_false, Bool.not_true, Bool.not_false, Bool.not_eq_eq_eq_not, ne_eq, Decidable.not_not] at h5
    refine Wp.seq fun K4 n4 r4 => ?_
    refine Wp.region ?_
    refine Ops.v (Yl.assign' (v := u8 0#8) rfl) ?_
    refine Ops.nil ?_
    refine n4 _ _ _ ?_
    refine Wp.ret ?_
    refine r2 _ _ _ _ (by simp) ?_
    refine (hK _ _ _ ⟨11, rfl⟩ (Res.one ⟨11, rfl⟩ rfl rfl) ?_).1
    exact fun w' h => ⟨congrArg (fun z => Ending.returned (u8 z)) (by rw [leB, if_pos (by omega)]), h⟩
  ·
    try simp only [decide_eq_true_eq, decide_eq_false_iff_not, Bool.not_eq_true, Bool.not_eq_false, Bool.not_true, Bool.not_false, Bool.not_eq_eq_eq_not, ne_eq, Decidable.not_not] at h5
    refine Wp.skip ?_
    refine n2 _ _ _ ?_
    refine Wp.seq fun K5 n5 r5 => ?_
    refine Wp.region ?_
    refine Ops.v (Yl.load1z na70 rfl (Rd.oldb (cs := [_]) hn (by simp)) (by first | rfl | exact getmap (by omega) | assumption)) ?_
    refine Ops.v (Yl.mvI rfl) ?_
    refine Ops.v (Yl.mul rfl rfl (by omega) (by omega)) ?_
    refine Ops.v (Yl.shrv64 rfl rfl (by omega)) ?_
    refine Ops.v (Yl.w64to8 Try.underlying70 Try.underlying5 rfl) ?_
    refine Ops.v (Yl.asI rfl) ?_
    refine Ops.nil ?_
    refine n5 _ _ _ ?_
    refine Wp.ret ?_
    refine (hK _ _ _ ⟨11, rfl⟩ (Res.one ⟨11, rfl⟩ rfl rfl) ?_).1
    exact fun w' h => ⟨congrArg (fun z => Ending.returned (u8 z)) (by rw [leB, if_neg (by omega), show (8 * (i : Int)).toNat = 8 * i from by omega]), h⟩

theorem c_palfrey_bits_PutLittle (w : World) (n : BitVec 64) (many : Nat) (hle : many ≤ 1099511627776) : Makes Try.prog 37 #[u64 n, iv many] w (fun _ => True) (fun b : Nat => sl (some b) many many) (fun b => [.row (some b) 5 1 many many ((putLE n many).map u8)]) := by
  refine Calls.enter (S := Tr w [] []) Try.func37 rfl (Tr.refl w []) (fun K hK => ?_)
  refine Wp.seq fun K1 n1 r1 => ?_
  refine Wp.region ?_
  refine Ops.f (Ef.box1 (v := .int _ _) rfl rfl) (New.ex _) fun b2 hb2 => ?_
  refine Ops.v (Yl.asS rfl) ?_
  refine Ops.nil ?_
  refine n1 _ _ _ ?_
  refine Wp.seq fun K2 n2 r2 => ?_
  refine Wp.region ?_
  refine Ops.v (Yl.mvI rfl) ?_
  refine Ops.v (Yl.makeFunc' (fv := []) (cv := [.pointer _]) rfl rfl) ?_
  refine Ops.f (Ef.makes bd30 rfl (fun wc hw => c_palfrey_bits_puts wc many 43 [pt b2 0] (leB n) hle bd43 (fun w' i hi hT => c_palfrey_bits_PutLittle_1 w' i b2 n _ _ (hT.old0 (hw.blk (by repeat (first | exact List.Mem.head _ | apply List.Mem.tail)))) (by omega)))) (by exact ⟨_, trivial, NewH.row1 (Nat.le_refl _) NewH.nil⟩) fun bb hbb => ?_
  refine Ops.v (Yl.asS rfl) ?_
  refine Ops.nil ?_
  refine n2 _ _ _ ?_
  refine Wp.ret ?_
  refine (hK _ _ _ ⟨8, rfl⟩ (Res.one ⟨8, rfl⟩ rfl rfl) ?_).1
  exact fun w' h => ⟨bb, trivial, hbb.2, rfl, h.sub (by repeat (first | exact List.Sublist.refl _ | exact List.nil_sublist _ | apply List.Sublist.cons_cons | apply List.Sublist.cons))⟩

theorem c_slices_Reverse___byte_byte_ (w : World) (b : Nat) (xs : List B8) (n c : Nat) (T : TypeId) (hb : (Hl.row (some b) T 1 n c (xs.map u8)).holds w) (hn : n = xs.length) (hle : n ≤ 1099511627776) : Turns Try.prog 38 #[sl (some b) n c] w b (fun _ : Unit => True) (fun _ => .tuple #[]) (fun _ => .row (some b) T 1 n c ((revL xs).map u8)) (fun _ => []) := by
  subst hn
  refine Calls.enter (S := Tr w [b] [.row (some b) T 1 xs.length c (xs.map u8)]) Try.func38 rfl (Tr.start1 [b] hb) (fun K hK => ?_)
  refine Wp.seq fun K1 n1 r1 => ?_
  refine Wp.region ?_
  refine Ops.v (Yl.mvS rfl) ?_
  refine Ops.v (Yl.len Try.underlying23 rfl rfl) ?_
  refine Ops.v (Yl.sub rfl rfl (by omega) (by omega)) ?_
  refine Ops.v (Yl.asI rfl) ?_
  refine Ops.v (Yl.asI rfl) ?_
  refine Ops.nil ?_
  refine n1 _ _ _ ?_
  refine Wp.block fun K2 n2 x2 r2 => ?_
  skip
  refine Wp.loopI 1 [2, 3, 7, 8, 9, 10, 11, 12, 13, 14, 15, 16, 17, 18, 19, 20, 21, 22, 23, 24, 25, 26, 27] [2, 3] (fun (k : Nat) => k ≤ xs.length / 2) (fun (k : Nat) => [iv k, iv (xs.length - 1 - k)]) (fun (k : Nat) => Tr w [b] [.row (some b) T 1 xs.length c ((revTo xs k).map u8)]) (fun (k : Nat) => xs.length - k) (0) (by omega) (fun _ => rfl) (l2 rfl (congrArg iv (by omega))) (fun _ h => h) ?_
  intro k hI3 J3 K3 n3 r3
  try dsimp only at hI3 n3 ⊢
  refine Wp.seq fun K4 n4 r4 => ?_
  refine Wp.seq fun K5 n5 r5 => ?_
  refine Wp.region ?_
  refine Ops.v (Yl.mvI rfl) ?_
  refine Ops.v (Yl.mvI rfl) ?_
  refine Ops.v (Yl.lss rfl rfl) ?_
  refine Ops.nil ?_
  refine n5 _ _ _ ?_
  refine Wp.cond _ rfl (fun h9 => ?_) (fun h9 => ?_)
  ·
    try simp only [decide_eq_true_eq, decide_eq_false_iff_not, Bool.not_eq_true, Bool.not_eq_false, Bool.not_true, Bool.not_false, Bool.not_eq_eq_eq_not, ne_eq, Decidable.not_not] at h9
    refine Wp.skip ?_
    refine n4 _ _ _ ?_
    refine Wp.seq fun K6 n6 r6 => ?_
    refine Wp.block fun K7 n7 x7 r7 => ?_
    refine Wp.drawS hmix (fun i => [1, 1, 1, 1, 1, 1, 1, 0, 1, 1, 1, 0, 1, 2, 2, 2].getD i 0) (fun _ h => h.drawn _) fun N3 hN3 => ?_
    refine G.p 0 (by kernel_rfl) rfl (Yl.mvS rfl) ?_
    refine G.p 1 (by kernel_rfl) rfl (Yl.mvI rfl) ?_
    refine G.p 2 (by kernel_rfl) rfl (Yl.mvS rfl) ?_
    refine G.p 3 (by kernel_rfl) rfl (Yl.mvI rfl) ?_
    refine G.p 4 (by kernel_rfl) rfl (Yl.mvS rfl) ?_
    refine G.p 5 (by kernel_rfl) rfl (Yl.mvI rfl) ?_
    refine G.p 6 (by kernel_rfl) rfl (Yl.indexSliceZ Try.underlying23 sz5 rfl rfl (xs.length - 1 - k) (by omega) (by omega)) ?_
    refine G.t 7 (by kernel_rfl) rfl (Yl.load1z na5 rfl (by first | exact Rd.blk (by repeat (first | exact List.Mem.head _ | apply List.Mem.tail)) | exact Rd.row (by repeat (first | exact List.Mem.head _ | apply List.Mem.tail)) | assumption) (getmap (by rw [revTo_len]; omega))) ?_
    refine G.p 8 (by kernel_rfl) rfl (Yl.mvS rfl) ?_
    refine G.p 9 (by kernel_rfl) rfl (Yl.mvI rfl) ?_
    refine G.p 10 (by kernel_rfl) rfl (Yl.indexSliceZ Try.underlying23 sz5 rfl rfl k rfl (by omega)) ?_
    refine G.t 11 (by kernel_rfl) rfl (Yl.load1z na5 rfl (by first | exact Rd.blk (by repeat (first | exact List.Mem.head _ | apply List.Mem.tail)) | exact Rd.row (by repeat (first | exact List.Mem.head _ | apply List.Mem.tail)) | assumption) (getmap (by rw [revTo_len]; omega))) ?_
    refine G.p 12 (by kernel_rfl) rfl (Yl.indexSliceZ Try.underlying23 sz5 rfl rfl k rfl (by omega)) ?_
    refine G.last (by kernel_rfl) (fun _ h => h) ?_
    refine G0.run 13 (by kernel_rfl) rfl rfl (Ef.store1r sz5 rfl rfl (by repeat (first | exact At.head | apply At.tail)) (by rw [List.length_map, revTo_len]; omega) rfl (by first | exact .inr (by assumption) | exact .inl (by simp))) ⟨(), trivial⟩ fun _ _ => ?_
    simp only [En.put, List.cons_append, List.nil_append]
    refine G0.val 14 (by kernel_rfl) rfl rfl (Yl.indexSliceZ Try.underlying23 sz5 rfl rfl (xs.length - 1 - k) (by omega) (by omega)) ?_
    simp only [En.put, List.cons_append, List.nil_append]
    refine G0.run 15 (by kernel_rfl) rfl rfl (Ef.store1r sz5 rfl rfl (by repeat (first | exact At.head | apply At.tail)) (by rw [List.length_set, List.length_map, revTo_len]; omega) rfl (by first | exact .inr (by assumption) | exact .inl (by simp))) ⟨(), trivial⟩ fun _ _ => ?_
    simp only [En.put, List.cons_append, List.nil_append]
    refine G0.done (by kernel_rfl) (hN3 _ _ _ ?_)
    refine n7 _ _ _ ?_
    refine n6 _ _ _ ?_
    refine Wp.region ?_
    refine Ops.v (Yl.mvI rfl) ?_
    refine Ops.v (Yl.add rfl rfl (by omega) (by omega)) ?_
    refine Ops.v (Yl.mvI rfl) ?_
    refine Ops.v (Yl.sub rfl rfl (by omega) (by omega)) ?_
    refine Ops.v (Yl.asI rfl) ?_
    refine Ops.v (Yl.asI rfl) ?_
    refine Ops.nil ?_
    refine n3 (k + 1) _ _ (by omega) ⟨28, rfl⟩ rfl rfl (l2 (congrArg iv (by omega)) (congrArg iv (by omega))) (by omega) (fun _ h => by rw [revTo_step, List.map_set, List.map_set]; exact h)
  ·
    try simp only [decide_eq_true_eq, decide_eq_false_iff_not, Bool.not_eq_true, Bool.not_eq_false, Bool.not_true, Bool.not_false, Bool.not_eq_eq_eq_not, ne_eq, Decidable.not_not] at h9
    refine Wp.exit ?_
    refine r4 _ _ _ _ (by simp) ?_
    refine r3 _ _ _ _ (by simp) ?_
    refine x2 _ _ _ ?_
    refine (hK _ _ _ ⟨28, rfl⟩ (Res.none rfl) ?_).2
    have e : k = xs.length / 2 := by omega
    subst e
    exact fun w' h => ⟨(), trivial, NewH.nil, rfl, rfl, h⟩

theorem c_palfrey_bits_PutBig (w : World) (n : BitVec 64) (many : Nat) (hle : many ≤ 1099511627776) : Makes Try.prog 33 #[u64 n, iv many] w (fun _ => True) (fun b : Nat => sl (some b) many many) (fun b => [.row (some b) 5 1 many many ((putBE n many).map u8)]) := by
  refine Calls.enter (S := Tr w [] []) Try.func33 rfl (Tr.refl w []) (fun K hK => ?_)
  refine Wp.seq fun K1 n1 r1 => ?_
  refine Wp.region ?_
  refine Ops.v (Yl.asS rfl) ?_
  refine Ops.nil ?_
  refine n1 _ _ _ ?_
  refine Wp.seq fun K2 n2 r2 => ?_
  refine Wp.region ?_
  refine Ops.v (Yl.mvI rfl) ?_
  refine Ops.v (Yl.mvI rfl) ?_
  refine Ops.f (Ef.makes bd37 rfl (fun wc hw => c_palfrey_bits_PutLittle wc n many hle)) (by exact ⟨_, trivial, NewH.row1 (Nat.le_refl _) NewH.nil⟩) fun bb hbb => ?_
  refine Ops.v (Yl.asS rfl) ?_
  refine Ops.nil ?_
  refine n2 _ _ _ ?_
  refine Wp.seq fun K3 n3 r3 => ?_
  refine Wp.region ?_
  refine Ops.v (Yl.mvS rfl) ?_
  refine Ops.f (Ef.turns bd38 rfl (by repeat (first | exact At.head | apply At.tail)) rfl (.inr (hbb.2.hd _ rfl)) (fun wc hw => c_slices_Reverse___byte_byte_ wc bb (putLE n many) many many _ (hw.sat _ (by repeat (first | exact List.Mem.head _ | apply List.Mem.tail))) (by simp [putLE]) hle)) (by exact ⟨(), trivial, NewH.nil⟩) fun _ _ => ?_
  refine Ops.nil ?_
  refine n3 _ _ _ ?_
  refine Wp.seq fun K4 n4 r4 => ?_
  refine Wp.region ?_
  refine Ops.v (Yl.mvS rfl) ?_
  refine Ops.v (Yl.asS rfl) ?_
  refine Ops.nil ?_
  refine n4 _ _ _ ?_
  refine Wp.ret ?_
  refine (hK _ _ _ ⟨12, rfl⟩ (Res.one ⟨12, rfl⟩ rfl rfl) ?_).1
  exact fun w' h => ⟨bb, trivial, NewH.row1 (hbb.2.hd _ rfl) NewH.nil, rfl, h.sub (by repeat (first | exact List.Sublist.refl _ | exact List.nil_sublist _ | apply List.Sublist.cons_cons | apply List.Sublist.cons))⟩

theorem c_palfrey_bits_Equal (w : World) (A B : Option Addr) (xs ys : List B8) (na ca nb cb : Nat) (hA : Rw w A (xs.map u8)) (hB : Rw w B (ys.map u8)) (hna : na = xs.length) (hnb : nb = ys.length) (hle : xs.length ≤ 1099511627776) : Pure Try.prog 24 #[.slice A na ca, .slice B nb cb] w (.bool (decide (xs = ys))) := by
  subst hna; subst hnb
  refine Calls.enter (S := Tr w [] []) Try.func24 rfl (Tr.refl w []) (fun K hK => ?_)
  refine Wp.seq fun K1 n1 r1 => ?_
  refine Wp.region ?_
  refine Ops.v (Yl.asB rfl) ?_
  refine Ops.nil ?_
  refine n1 _ _ _ ?_
  refine Wp.seq fun K2 n2 r2 => ?_
  refine Wp.seq fun K3 n3 r3 => ?_
  refine Wp.region ?_
  refine Ops.v (Yl.mvS rfl) ?_
  refine Ops.v (Yl.len Try.underlying23 rfl rfl) ?_
  refine Ops.v (Yl.mvS rfl) ?_
  refine Ops.v (Yl.len Try.underlying23 rfl rfl) ?_
  refine Ops.v (Yl.neq rfl rfl) ?_
  refine Ops.nil ?_
  refine n3 _ _ _ ?_
  refine Wp.cond _ rfl (fun h11 => ?_) (fun h11 => ?_)
  ·
    try simp only [decide_eq_true_eq, decide_eq_false_iff_not, Bool.not_eq_true, Bool.not_eq_false, Bool.not_true, Bool.not_false, Bool.not_eq_eq_eq_not, ne_eq, Decidable.not_not] at h11
    refine Wp.seq fun K4 n4 r4 => ?_
    refine Wp.region ?_
    refine Ops.v (Yl.asB rfl) ?_
    refine Ops.nil ?_
    refine n4 _ _ _ ?_
    refine Wp.ret ?_
    refine r2 _ _ _ _ (by simp) ?_
    refine (hK _ _ _ ⟨31, rfl⟩ (Res.one ⟨31, rfl⟩ rfl rfl) ?_).1
    exact fun w' h => ⟨congrArg (fun z => Ending.returned (.bool z)) (by symm; rw [decide_eq_false_iff_not]; intro e; apply h11; rw [e]), h⟩
  ·
    try simp only [decide_eq_true_eq, decide_eq_false_iff_not, Bool.not_eq_true, Bool.not_eq_false, Bool.not_true, Bool.not_false, Bool.not_eq_eq_eq_not, ne_eq, Decidable.not_not] at h11
    refine Wp.skip ?_
    refine n2 _ _ _ ?_
    refine Wp.seq fun K5 n5 r5 => ?_
    refine Wp.region ?_
    refine Ops.v (Yl.assign' (v := u8 0#8) rfl) ?_
    refine Ops.nil ?_
    refine n5 _ _ _ ?_
    refine Wp.seq fun K6 n6 r6 => ?_
    refine Wp.seq fun K7 n7 r7 => ?_
    refine Wp.region ?_
    refine Ops.v (Yl.mvS rfl) ?_
    refine Ops.v (Yl.len Try.underlying23 rfl rfl) ?_
    refine Ops.v (Yl.mvI rfl) ?_
    refine Ops.nil ?_
    refine n7 _ _ _ ?_
    refine Wp.block fun K8 n8 x8 r8 => ?_
    skip
    refine Wp.loopI 1 [5, 6, 14, 15, 16, 17, 18, 19, 20, 21, 22, 23, 24, 25, 26, 27, 28] [14, 5] (fun (k : Nat) => k ≤ xs.length) (fun (k : Nat) => [iv k, u8 (difTo xs ys k)]) (fun (k : Nat) => Tr w [] []) (fun (k : Nat) => xs.length - k) (0) (by omega) (fun _ => rfl) rfl (fun _ h => h) ?_
    intro k hI9 J9 K9 n9 r9
    try dsimp only at hI9 n9 ⊢
    refine Wp.seq fun K10 n10 r10 => ?_
    refine Wp.region ?_
    refine Ops.v (Yl.lss rfl rfl) ?_
    refine Ops.nil ?_
    refine n10 _ _ _ ?_
    refine Wp.seq fun K11 n11 r11 => ?_
    refine Wp.cond _ rfl (fun h15 => ?_) (fun h15 => ?_)
    ·
      try simp only [decide_eq_true_eq, decide_eq_false_iff_not, Bool.not_eq_true, Bool.not_eq_false, Bool.not_true, Bool.not_false, Bool.not_eq_eq_eq_not, ne_eq, Decidable.not_not] at h15
      refine Wp.skip ?_
      refine n11 _ _ _ ?_
      refine Wp.seq fun K12 n12 r12 => ?_
      refine Wp.block fun K13 n13 x13 r13 => ?_
      refine Wp.seq fun K14 n14 r14 => ?_
      refine Wp.region ?_
      refine Ops.v (Yl.mvI rfl) ?_
      refine Ops.v (Yl.asI rfl) ?_
      refine Ops.nil ?_
      refine n14 _ _ _ ?_
      refine Wp.drawS hmix (fun i => [1, 1, 1, 1, 0, 1, 1, 1, 0, 1, 1, 1].getD i 0) (fun _ h => h.drawn _) fun N7 hN7 => ?_
      obtain ⟨b1, o1, rfl⟩ := hA.addr (i := k) (by rw [List.length_map]; omega)
      obtain ⟨b2, o2, rfl⟩ := hB.addr (i := k) (by rw [List.length_map]; omega)
      refine G.p 0 (by kernel_rfl) rfl (Yl.mvI rfl) ?_
      refine G.p 1 (by kernel_rfl) rfl (Yl.mvS rfl) ?_
      refine G.p 2 (by kernel_rfl) rfl (Yl.mvI rfl) ?_
      refine G.p 3 (by kernel_rfl) rfl (Yl.indexSlice1 Try.underlying23 sz5 rfl rfl k rfl (by omega)) ?_
      refine G.t 4 (by kernel_rfl) rfl (Yl.load1 na5 rfl k hA.rd rfl (getmap (by omega))) ?_
      refine G.p 5 (by kernel_rfl) rfl (Yl.mvS rfl) ?_
      refine G.p 6 (by kernel_rfl) rfl (Yl.mvI rfl) ?_
      refine G.p 7 (by kernel_rfl) rfl (Yl.indexSlice1 Try.underlying23 sz5 rfl rfl k rfl (by omega)) ?_
      refine G.t 8 (by kernel_rfl) rfl (Yl.load1 na5 rfl k hB.rd rfl (getmap (by omega))) ?_
      refine G.p 9 (by kernel_rfl) rfl (Yl.xor8 rfl rfl) ?_
      refine G.p 10 (by kernel_rfl) rfl (Yl.or8 rfl rfl) ?_
      refine G.p 11 (by kernel_rfl) rfl (Yl.asI rfl) ?_
      refine G.done (by kernel_rfl) (fun _ h => h) (hN7 _ _ _ ?_)
      refine n13 _ _ _ ?_
      refine n12 _ _ _ ?_
      refine Wp.region ?_
      refine Ops.v (Yl.add rfl rfl (by omega) (by omega)) ?_
      refine Ops.v (Yl.mvI rfl) ?_
      refine Ops.nil ?_
      refine n9 (k + 1) _ _ (by omega) ⟨31, rfl⟩ rfl rfl (l2 (congrArg iv (by omega)) rfl) (by omega) (fun _ h => h)
    ·
      try simp only [decide_eq_true_eq, decide_eq_false_iff_not, Bool.not_eq_true, Bool.not_eq_false, Bool.not_true, Bool.not_false, Bool.not_eq_eq_eq_not, ne_eq, Decidable.not_not] at h15
      refine Wp.exit ?_
      refine r11 _ _ _ _ (by simp) ?_
      refine r9 _ _ _ _ (by simp) ?_
      refine x8 _ _ _ ?_
      refine n6 _ _ _ ?_
      refine Wp.seq fun K15 n15 r15 => ?_
      refine Wp.region ?_
      refine Ops.v (Yl.mvI rfl) ?_
      refine Ops.v (Yl.eq8 (b := 0#8) rfl rfl) ?_
      refine Ops.v (Yl.asB rfl) ?_
      refine Ops.nil ?_
      refine n15 _ _ _ ?_
      refine Wp.ret ?_
      refine (hK _ _ _ ⟨31, rfl⟩ (Res.one ⟨31, rfl⟩ rfl rfl) ?_).1
      obtain rfl : k = xs.length := by omega
      exact fun w' h => ⟨congrArg (fun z => Ending.returned (.bool z)) (by rw [← difTo_eq _ _ (by omega)]), h⟩

end Go.Proofs.Ytiimjkpcljelpaa

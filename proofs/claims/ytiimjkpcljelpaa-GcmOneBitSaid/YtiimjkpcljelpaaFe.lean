/- Walks of functions. -/
import Derived.Test.YtiimjkpcljelpaaFd
set_option maxRecDepth 10000
open Go.RowKit Go.Eng
set_option linter.unusedSimpArgs false
set_option linter.unusedVariables false
namespace Go.Proofs.Ytiimjkpcljelpaa

theorem c_slices_Grow___byte_byte_ (w : World) (n : Nat) (hle : n ≤ 1099511627776) : Makes Try.prog 42 #[.slice none 0 0, iv n] w (fun _ => True) (fun x : Option Nat × Nat => sl x.1 0 x.2) (fun x => [.row x.1 5 1 0 x.2 []]) := by
  refine Calls.enter (S := Tr w [] []) Try.func42 rfl (Tr.refl w []) (fun K hK => ?_)
  refine Wp.seq fun K1 n1 r1 => ?_
  refine Wp.region ?_
  refine Ops.v (Yl.asS rfl) ?_
  refine Ops.nil ?_
  refine n1 _ _ _ ?_
  refine Wp.seq fun K2 n2 r2 => ?_
  refine Wp.seq fun K3 n3 r3 => ?_
  refine Wp.region ?_
  refine Ops.v (Yl.mvI rfl) ?_
  refine Ops.v (Yl.lss rfl rfl) ?_
  refine Ops.nil ?_
  refine n3 _ _ _ ?_
  refine Wp.cond _ rfl (fun h6 => ?_) (fun h6 => ?_)
  ·
    try simp only [decide_eq_true_eq, decide_eq_false_iff_not, Bool.not_eq_true, Bool.not_eq_false, Bool.not_true, Bool.not_false, Bool.not_eq_eq_eq_not, ne_eq, Decidable.not_not] at h6
    omega
  ·
    try simp only [decide_eq_true_eq, decide_eq_false_iff_not, Bool.not_eq_true, Bool.not_eq_false, Bool.not_true, Bool.not_false, Bool.not_eq_eq_eq_not, ne_eq, Decidable.not_not] at h6
    refine Wp.skip ?_
    refine n2 _ _ _ ?_
    refine Wp.seq fun K4 n4 r4 => ?_
    refine Wp.seq fun K5 n5 r5 => ?_
    refine Wp.region ?_
    refine Ops.v (Yl.mvI rfl) ?_
    refine Ops.v (Yl.mvS rfl) ?_
    refine Ops.v (Yl.capS Try.underlying23 rfl rfl) ?_
    refine Ops.v (Yl.mvS rfl) ?_
    refine Ops.v (Yl.len Try.underlying23 rfl rfl) ?_
    refine Ops.v (Yl.sub rfl rfl (by omega) (by omega)) ?_
    refine Ops.v (Yl.sub rfl rfl (by omega) (by omega)) ?_
    refine Ops.v (Yl.asI rfl) ?_
    refine Ops.nil ?_
    refine n5 _ _ _ ?_
    refine Wp.seq fun K6 n6 r6 => ?_
    refine Wp.region ?_
    refine Ops.v (Yl.mvI rfl) ?_
    refine Ops.v (Yl.gtr rfl rfl) ?_
    refine Ops.nil ?_
    refine n6 _ _ _ ?_
    refine Wp.cond _ rfl (fun h16 => ?_) (fun h16 => ?_)
    ·
      try simp only [decide_eq_true_eq, decide_eq_false_iff_not, Bool.not_eq_true, Bool.not_eq_false, Bool.not_true, Bool.not_false, Bool.not_eq_eq_eq_not, ne_eq, Decidable.not_not] at h16
      refine Wp.region ?_
      refine Ops.v (Yl.mvS rfl) ?_
      refine Ops.v (Yl.mvS rfl) ?_
      refine Ops.v (Yl.capS Try.underlying23 rfl rfl) ?_
      refine Ops.v (Yl.sliceTo Try.underlying23 sz5 rfl (.some (i := 0) rfl rfl) (by omega)) ?_
      refine Ops.v (Yl.mvI rfl) ?_
      refine Ops.f (Ef.appendZ (m := n) Try.underlying23 Try.underlying3 rfl el5 rfl rfl (by omega) (by omega) (by omega) (by omega) (by omega)) ⟨(_, n), Nat.le_refl _, Nat.le_refl _⟩ fun p22 hp22 => ?_
      refine Ops.v (Yl.mvS rfl) ?_
      refine Ops.v (Yl.len Try.underlying23 rfl rfl) ?_
      refine Ops.v (Yl.sliceTo Try.underlying23 sz5 rfl (.some (i := 0) rfl rfl) (by omega)) ?_
      refine Ops.v (Yl.asS rfl) ?_
      refine Ops.nil ?_
      refine n4 _ _ _ ?_
      refine Wp.seq fun K7 n7 r7 => ?_
      refine Wp.region ?_
      refine Ops.v (Yl.mvS rfl) ?_
      refine Ops.v (Yl.asS rfl) ?_
      refine Ops.nil ?_
      refine n7 _ _ _ ?_
      refine Wp.ret ?_
      refine (hK _ _ _ ⟨27, rfl⟩ (Res.one ⟨27, rfl⟩ rfl rfl) ?_).1
      exact fun w' h => ⟨(some p22.1, p22.2), trivial, NewH.row1 hp22.1 NewH.nil, rfl, h⟩
    ·
      try simp only [decide_eq_true_eq, decide_eq_false_iff_not, Bool.not_eq_true, Bool.not_eq_false, Bool.not_true, Bool.not_false, Bool.not_eq_eq_eq_not, ne_eq, Decidable.not_not] at h16
      refine Wp.skip ?_
      refine n4 _ _ _ ?_
      refine Wp.seq fun K8 n8 r8 => ?_
      refine Wp.region ?_
      refine Ops.v (Yl.mvS rfl) ?_
      refine Ops.v (Yl.asS rfl) ?_
      refine Ops.nil ?_
      refine n8 _ _ _ ?_
      refine Wp.ret ?_
      refine (hK _ _ _ ⟨27, rfl⟩ (Res.one ⟨27, rfl⟩ rfl rfl) ?_).1
      exact fun w' h => ⟨(none, 0), trivial, NewH.row (by simp) NewH.nil, rfl, h.addRow _ _⟩

theorem c_slices_Concat___byte_byte_ (w : World) (A : Option Addr) (vals : List Value) (xss : List (List B8)) (n c : Nat) (hA : Rw w A vals) (hv : Parts w vals xss) (hn : n = xss.length) (hn9 : n ≤ 1099511627776) (hle : xss.flatten.length ≤ 1099511627776) : Makes Try.prog 36 #[.slice A n c] w (fun x : Option Nat × Nat => 0 < xss.flatten.length → ∃ g, x.1 = some g) (fun x => sl x.1 xss.flatten.length x.2) (fun x => [.row x.1 5 1 xss.flatten.length x.2 (xss.flatten.map u8)]) := by
  subst hn
  obtain ⟨hvl, hv⟩ := hv
  refine Calls.enter (S := Tr w [] []) Try.func36 rfl (Tr.refl w []) (fun K hK => ?_)
  refine Wp.seq fun K1 n1 r1 => ?_
  refine Wp.region ?_
  refine Ops.v (Yl.asS rfl) ?_
  refine Ops.nil ?_
  refine n1 _ _ _ ?_
  refine Wp.seq fun K2 n2 r2 => ?_
  refine Wp.region ?_
  refine Ops.v (Yl.asI rfl) ?_
  refine Ops.nil ?_
  refine n2 _ _ _ ?_
  refine Wp.seq fun K3 n3 r3 => ?_
  refine Wp.seq fun K4 n4 r4 => ?_
  refine Wp.region ?_
  refine Ops.v (Yl.mvS rfl) ?_
  refine Ops.v (Yl.len Try.underlying76 rfl rfl) ?_
  refine Ops.v (Yl.mvI rfl) ?_
  refine Ops.nil ?_
  refine n4 _ _ _ ?_
  refine Wp.block fun K5 n5 x5 r5 => ?_
  skip
  refine Wp.loopI 1 [3, 5, 11, 12, 13, 14, 15, 16, 17, 18, 19, 20, 21, 22] [11, 3] (fun (k : Nat) => k ≤ xss.length) (fun (k : Nat) => [iv k, iv ((catTo xss k).length : Int)]) (fun (k : Nat) => Tr w [] []) (fun (k : Nat) => xss.length - k) (0) (by omega) (fun _ => rfl) rfl (fun _ h => h) ?_
  intro k hI6 J6 K6 n6 r6
  try dsimp only at hI6 n6 ⊢
  refine Wp.seq fun K7 n7 r7 => ?_
  refine Wp.region ?_
  refine Ops.v (Yl.lss rfl rfl) ?_
  refine Ops.nil ?_
  refine n7 _ _ _ ?_
  refine Wp.seq fun K8 n8 r8 => ?_
  refine Wp.cond _ rfl (fun h12 => ?_) (fun h12 => ?_)
  ·
    try simp only [decide_eq_true_eq, decide_eq_false_iff_not, Bool.not_eq_true, Bool.not_eq_false, Bool.not_true, Bool.not_false, Bool.not_eq_eq_eq_not, ne_eq, Decidable.not_not] at h12
    refine Wp.skip ?_
    refine n8 _ _ _ ?_
    refine Wp.seq fun K9 n9 r9 => ?_
    refine Wp.block fun K10 n10 x10 r10 => ?_
    refine Wp.seq fun K11 n11 r11 => ?_
    refine Wp.region ?_
    obtain ⟨b1, o1, rfl⟩ := hA.addr (i := k) (by omega)
    obtain ⟨A1, c1, hv1, hr1⟩ := hv k (by omega)
    have hc1 := catTo_le xss (k + 1)
    rw [catTo_step _ _ (by omega), List.length_append] at hc1
    refine Ops.v (Yl.indexSlice1 Try.underlying76 sz23 rfl rfl k rfl (by omega)) ?_
    refine Ops.v (Yl.load1 na23 rfl k hA.rd rfl hv1) ?_
    refine Ops.v (Yl.asS rfl) ?_
    refine Ops.nil ?_
    refine n11 _ _ _ ?_
    refine Wp.seq fun K12 n12 r12 => ?_
    refine Wp.region ?_
    refine Ops.v (Yl.mvI rfl) ?_
    refine Ops.v (Yl.mvS rfl) ?_
    refine Ops.v (Yl.len Try.underlying23 rfl rfl) ?_
    refine Ops.v (Yl.add rfl rfl (by omega) (by omega)) ?_
    refine Ops.v (Yl.asI rfl) ?_
    refine Ops.nil ?_
    refine n12 _ _ _ ?_
    refine Wp.seq fun K13 n13 r13 => ?_
    refine Wp.region ?_
    refine Ops.v (Yl.mvI rfl) ?_
    refine Ops.v (Yl.lss rfl rfl) ?_
    refine Ops.nil ?_
    refine n13 _ _ _ ?_
    refine Wp.cond _ rfl (fun h20 => ?_) (fun h20 => ?_)
    ·
      try simp only [decide_eq_true_eq, decide_eq_false_iff_not, Bool.not_eq_true, Bool.not_eq_false, Bool.not_true, Bool.not_false, Bool.not_eq_eq_eq_not, ne_eq, Decidable.not_not] at h20
      omega
    ·
      try simp only [decide_eq_true_eq, decide_eq_false_iff_not, Bool.not_eq_true, Bool.not_eq_false, Bool.not_true, Bool.not_false, Bool.not_eq_eq_eq_not, ne_eq, Decidable.not_not] at h20
      refine Wp.skip ?_
      refine n10 _ _ _ ?_
      refine n9 _ _ _ ?_
      refine Wp.region ?_
      refine Ops.v (Yl.add rfl rfl (by omega) (by omega)) ?_
      refine Ops.v (Yl.mvI rfl) ?_
      refine Ops.nil ?_
      refine n6 (k + 1) _ _ (by omega) ⟨36, rfl⟩ rfl rfl (l2 (congrArg iv (by omega)) (congrArg iv (by rw [catTo_step _ _ (by omega), List.length_append]; omega))) (by omega) (fun _ h => h)
  ·
    try simp only [decide_eq_true_eq, decide_eq_false_iff_not, Bool.not_eq_true, Bool.not_eq_false, Bool.not_true, Bool.not_false, Bool.not_eq_eq_eq_not, ne_eq, Decidable.not_not] at h12
    refine Wp.exit ?_
    refine r8 _ _ _ _ (by simp) ?_
    refine r6 _ _ _ _ (by simp) ?_
    refine x5 _ _ _ ?_
    refine n3 _ _ _ ?_
    refine Wp.seq fun K14 n14 r14 => ?_
    refine Wp.region ?_
    refine Ops.v (Yl.mvI rfl) ?_
    refine Ops.f (Ef.makes bd42 rfl (fun wc hw => c_slices_Grow___byte_byte_ wc (catTo xss k).length (by have := catTo_le xss k; omega))) (by exact ⟨(none, 0), trivial, NewH.row (by simp) NewH.nil⟩) fun g24 hg24 => ?_
    refine Ops.v (Yl.asS rfl) ?_
    refine Ops.nil ?_
    refine n14 _ _ _ ?_
    refine Wp.seq fun K15 n15 r15 => ?_
    refine Wp.seq fun K16 n16 r16 => ?_
    refine Wp.region ?_
    refine Ops.v (Yl.mvS rfl) ?_
    refine Ops.v (Yl.len Try.underlying76 rfl rfl) ?_
    refine Ops.v (Yl.mvI rfl) ?_
    refine Ops.nil ?_
    refine n16 _ _ _ ?_
    refine Wp.block fun K17 n17 x17 r17 => ?_
    skip
    refine Wp.loopI 2 [6, 8, 27, 28, 29, 30, 31, 32, 33, 34] [27, 6] (fun (p : Nat × Option Nat × Nat) => p.1 ≤ xss.length ∧ ∀ j, p.2.1 = some j → New w j) (fun p => [iv p.1, sl p.2.1 (catTo xss p.1).length p.2.2]) (fun (p : Nat × Option Nat × Nat) => Tr w [] [.row p.2.1 5 1 (catTo xss p.1).length p.2.2 ((catTo xss p.1).map u8)]) (fun (p : Nat × Option Nat × Nat) => xss.length - p.1) ((0, g24.1, g24.2)) ⟨by simp, fun j hj => hg24.2.hd j hj⟩ (fun _ => rfl) rfl (fun _ h => h) ?_
    rintro ⟨i, ao, cc⟩ hI18 J18 K18 n18 r18
    try dsimp only at hI18 n18 ⊢
    obtain ⟨hi1, hao⟩ := hI18
    refine Wp.seq fun K19 n19 r19 => ?_
    refine Wp.region ?_
    refine Ops.v (Yl.lss rfl rfl) ?_
    refine Ops.nil ?_
    refine n19 _ _ _ ?_
    refine Wp.seq fun K20 n20 r20 => ?_
    refine Wp.cond _ rfl (fun h28 => ?_) (fun h28 => ?_)
    ·
      try simp only [decide_eq_true_eq, decide_eq_false_iff_not, Bool.not_eq_true, Bool.not_eq_false, Bool.not_true, Bool.not_false, Bool.not_eq_eq_eq_not, ne_eq, Decidable.not_not] at h28
      refine Wp.skip ?_
      refine n20 _ _ _ ?_
      refine Wp.seq fun K21 n21 r21 => ?_
      refine Wp.block fun K22 n22 x22 r22 => ?_
      refine Wp.seq fun K23 n23 r23 => ?_
      refine Wp.region ?_
      obtain ⟨b1, o1, rfl⟩ := hA.addr (i := i) (by omega)
      obtain ⟨A1, c1, hv1, hr1⟩ := hv i (by omega)
      have hc1 := catTo_le xss (i + 1)
      rw [catTo_step _ _ (by omega), List.length_append] at hc1
      refine Ops.v (Yl.indexSlice1 Try.underlying76 sz23 rfl rfl i rfl (by omega)) ?_
      refine Ops.v (Yl.load1 na23 rfl i hA.rd rfl hv1) ?_
      refine Ops.v (Yl.asS rfl) ?_
      refine Ops.nil ?_
      refine n23 _ _ _ ?_
      refine Wp.region ?_
      refine Ops.v (Yl.mvS rfl) ?_
      refine Ops.v (Yl.mvS rfl) ?_
      refine Ops.f (Ef.append (ao := ao) Try.underlying23 rfl el5 rfl (by repeat (first | exact At.head | apply At.tail)) rfl (RdS.of hr1) (by rw [List.length_map, Nat.mul_one]) (one_u8 _) (by omega) (by omega) (by omega) (fun j hj => .inr (hao j hj))) ⟨(none, 0), fun _ h => by cases h⟩ fun p33 hp33 => ?_
      refine Ops.v (Yl.asS rfl) ?_
      refine Ops.nil ?_
      refine n22 _ _ _ ?_
      refine n21 _ _ _ ?_
      refine Wp.region ?_
      refine Ops.v (Yl.add rfl rfl (by omega) (by omega)) ?_
      refine Ops.v (Yl.mvI rfl) ?_
      refine Ops.nil ?_
      refine n18 (i + 1, p33.1, p33.2) _ _ ⟨by omega, fun j hj => (hp33 j hj).resolve_left (by simp)⟩ ⟨36, rfl⟩ rfl rfl (l2 (congrArg iv (by omega)) (by rw [catTo_step _ _ (by omega), List.length_append]; rfl)) (by omega) (fun _ h => by rw [catTo_step _ _ (by omega), List.length_append, List.map_append]; exact h)
    ·
      try simp only [decide_eq_true_eq, decide_eq_false_iff_not, Bool.not_eq_true, Bool.not_eq_false, Bool.not_true, Bool.not_false, Bool.not_eq_eq_eq_not, ne_eq, Decidable.not_not] at h28
      refine Wp.exit ?_
      refine r20 _ _ _ _ (by simp) ?_
      refine r18 _ _ _ _ (by simp) ?_
      refine x17 _ _ _ ?_
      refine n15 _ _ _ ?_
      refine Wp.seq fun K24 n24 r24 => ?_
      refine Wp.region ?_
      refine Ops.v (Yl.mvS rfl) ?_
      refine Ops.v (Yl.asS rfl) ?_
      refine Ops.nil ?_
      refine n24 _ _ _ ?_
      refine Wp.ret ?_
      refine (hK _ _ _ ⟨36, rfl⟩ (Res.one ⟨36, rfl⟩ rfl rfl) ?_).1
      obtain rfl : i = xss.length := by omega
      exact fun w' h => ⟨(ao, cc), fun h0 => row_pos (h.sat _ List.mem_cons_self) (by rw [catTo_full]; exact h0), NewH.row hao NewH.nil, by rw [← catTo_full]; rfl, by rw [← catTo_full]; exact h⟩

end Go.Proofs.Ytiimjkpcljelpaa

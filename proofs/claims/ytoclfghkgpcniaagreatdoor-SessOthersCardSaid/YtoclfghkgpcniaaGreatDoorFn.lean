/- Walks of functions. -/
import Derived.Test.YtoclfghkgpcniaaGreatDoorFm
set_option maxRecDepth 10000
open Go.RowKit Go.Eng
set_option linter.unusedSimpArgs false
set_option linter.unusedVariables false
namespace Go.Proofs.YtoclfghkgpcniaaGreatDoor

abbrev tabL (tb pb n c : Nat) (ps : List Plc) : List Hl := [.blk tb 125 [sl (some pb) n c], .row (some pb) 128 2 n c (ps.flatMap plV)]

theorem c_ixf_place (w : World) (A : Option Addr) (xs : List Plc) (n c : Nat) (hA : Rw w A (xs.flatMap plV)) (hn : n = xs.length) (hle : n ≤ 1099511627776) (f : FuncId) (cp : List Value) (p : Plc → Bool) (hb : Body Tryz.prog f) (hf : ∀ w' x, x ∈ xs → Tr w [] [] w' → Pure Tryz.prog f (Value.agg (plV x).toArray :: cp).toArray w' (.bool (p x))) : Pure Tryz.prog 92 #[.slice A n c, .func (.func f) #[] cp.toArray] w (iv (ixf p xs 0)) := by
  subst hn
  refine en0 Tryz.func92 fun K hK => ?_
  refine .sr fun K1 n1 r1 => ?_
  refine .v .asI ?_
  refine .nl n1 ?_
  refine .seq fun K2 n2 r2 => ?_
  refine .sr fun K3 n3 r3 => ?_
  refine .v .mvS ?_
  refine .v .len1 ?_
  refine .v .mvI ?_
  refine .nl n3 ?_
  refine .block fun K4 n4 x4 r4 => ?_
  refine .loopI 1 [4, 5, 8, 9, 10, 11, 12, 13, 14, 15, 16, 17, 18] [8] (fun (k : Nat) => k ≤ xs.length ∧ ∀ j, j < k → p (xs.getD j default) = false) (fun (k : Nat) => [iv k]) (fun (k : Nat) => Tr w [] []) (fun (k : Nat) => xs.length - k) (0) ⟨Nat.zero_le _, fun j h => absurd h (Nat.not_lt_zero j)⟩ (fun _ => rfl) rfl (fun _ h => h) ?_
  intro k hI5 J5 K5 n5 r5
  try dsimp only at hI5 n5 ⊢
  obtain ⟨hk1, hk2⟩ := hI5
  refine .sr fun K6 n6 r6 => ?_
  refine .v .lss ?_
  refine .nl n6 ?_
  refine .seq fun K7 n7 r7 => ?_
  refine .cd rfl (fun h9 => ?_) fun h9 => ?_
  ·
    refine .skip ?_
    refine n7 _ _ _ ?_
    refine .seq fun K8 n8 r8 => ?_
    refine .block fun K9 n9 x9 r9 => ?_
    refine .sr fun K10 n10 r10 => ?_
    refine .v .mvI ?_
    refine .v .asI ?_
    refine .nl n10 ?_
    refine .sr fun K11 n11 r11 => ?_
    refine .v .mvF ?_
    refine .v .mvS ?_
    refine .v .mvI ?_
    obtain ⟨b1, o1, rfl⟩ := hA.addr (i := k * 2) (by rw [flat_len plV_len]; omega)
    refine .v (.xsw (i := k) (hn := by omega)) ?_
    refine .v (Yl.loadA (i := k * 2) (hr := hA.rd) (ho := rfl) (ys := plV (xs.getD k default)) (hys := flat_at plV_len xs k (by omega))) ?_
    refine .u (Ef.pureV (fst := []) (cp := cp) (vs := Value.agg (plV (xs.getD k default)).toArray :: cp) hb rfl rfl (fun w' hw => hf w' _ (getD_mem (by omega)) hw.clear)) ?_
    refine .nl n11 ?_
    refine .cond _ rfl (fun h16 => ?_) fun h16 => ?_
    ·
      try simp only [decide_eq_true_eq, decide_eq_false_iff_not, Bool.not_eq_true, Bool.not_eq_false, Bool.not_true, Bool.not_false, Bool.not_eq_eq_eq_not, ne_eq, Decidable.not_not] at h16
      refine .sr fun K12 n12 r12 => ?_
      refine .v .mvI ?_
      refine .v .asI ?_
      refine .nl n12 ?_
      refine .ret ?_
      refine r9 _ _ _ _ (by simp) (by simp) ?_
      refine r8 _ _ _ _ (by simp) ?_
      refine r5 _ _ _ _ (by simp) ?_
      refine r4 _ _ _ _ (by simp) (by simp) ?_
      refine r2 _ _ _ _ (by simp) ?_
      refine (hK _ _ _ ⟨19, rfl⟩ (Res.o ⟨19, rfl⟩) ?_).1
      exact fun w' h => ⟨congrArg (fun z => Ending.returned (iv z)) (ixf_at (by omega) hk2 h16).symm, h⟩
    ·
      try simp only [decide_eq_true_eq, decide_eq_false_iff_not, Bool.not_eq_true, Bool.not_eq_false, Bool.not_true, Bool.not_false, Bool.not_eq_eq_eq_not, ne_eq, Decidable.not_not] at h16
      refine .skip ?_
      refine n9 _ _ _ ?_
      refine n8 _ _ _ ?_
      refine .region ?_
      refine .v .add ?_
      refine .v .mvI ?_
      refine .nil ?_
      refine n5 (k + 1) _ _ ⟨by omega, fun j hj => by rcases Nat.lt_succ_iff_lt_or_eq.1 hj with h | h; exact hk2 j h; subst h; exact h16⟩ ⟨19, rfl⟩ rfl rfl (l1 (congrArg iv (by omega))) (by omega) (fun _ h => h)
  ·
    refine .exit ?_
    refine r7 _ _ _ _ (by simp) ?_
    refine r5 _ _ _ _ (by simp) ?_
    refine x4 _ _ _ ?_
    refine n2 _ _ _ ?_
    refine .sr fun K13 n13 r13 => ?_
    refine .v .asI ?_
    refine .nl n13 ?_
    refine .ret ?_
    refine (hK _ _ _ ⟨19, rfl⟩ (Res.o ⟨19, rfl⟩) ?_).1
    obtain rfl : k = xs.length := by omega
    exact fun w' h => ⟨congrArg (fun z => Ending.returned (iv z)) (ixf_none hk2).symm, h⟩

theorem c_open1 (w : World) (p : Plc) : Pure Tryz.prog 93 #[.agg (plV p).toArray] w (.bool (!p.opn)) := by
  refine en0 Tryz.func93 fun K hK => ?_
  refine .sr fun K1 n1 r1 => ?_
  refine .m .boxA fun b1 hb1 => ?_
  refine .v .asB ?_
  refine .nl n1 ?_
  refine .sr fun K2 n2 r2 => ?_
  refine .v .fa ?_
  refine .v .load1z ?_
  refine .v .not ?_
  refine .v .asB ?_
  refine .nl n2 ?_
  refine .ret ?_
  refine (hK _ _ _ ⟨6, rfl⟩ (Res.o ⟨6, rfl⟩) ?_).1
  exact fun w' h => ⟨rfl, h.clear⟩

theorem c_handle (w : World) (tb pb n c : Nat) (ps : List Plc) (hL : Has w (tabL tb pb n c ps)) (hok : PlOk n ps) (i : Nat) (hi : i < n) : Pure Tryz.prog 94 #[pt tb 0, iv i] w (iv (handleM n ps i)) := by
  have hb := hok.bd i
  have hl := hok.len
  have h64 := hok.le
  refine enR hL Tryz.func94 fun K hK => ?_
  refine .sr fun K1 n1 r1 => ?_
  refine .v .asI ?_
  refine .nl n1 ?_
  refine .sd [1, 1, 1, 1, 1, 0, 1, 1, 1, 1, 0, 1, 1, 1, 0, 1, 1, 1] hmix fun N1 hN1 => ?_
  refine .q 0 rfl .mvI ?_
  refine .q 1 rfl .add ?_
  refine .q 2 rfl .mvP ?_
  refine .q 3 rfl .nilCheck ?_
  refine .q 4 rfl .fa ?_
  refine .l 5 rfl .load1z ?_
  refine .q 6 rfl .len1 ?_
  refine .q 7 rfl .mvP ?_
  refine .q 8 rfl .nilCheck ?_
  refine .q 9 rfl .fa ?_
  refine .l 10 rfl .load1z ?_
  refine .q 11 rfl .mvI ?_
  refine .q 12 rfl (.xsw (i := i) (hn := by omega)) ?_
  refine .q 13 rfl .fa ?_
  refine .l 14 rfl (.load1z (hv := (flat_get plV_len ps i 1 (by omega) (by decide)).trans rfl)) ?_
  refine .q 15 rfl .mul ?_
  refine .q 16 rfl .add ?_
  refine .q 17 rfl .asI ?_
  refine .dn hN1 ?_
  refine .ret ?_
  refine (hK _ _ _ ⟨22, rfl⟩ (Res.o ⟨22, rfl⟩) ?_).1
  exact fun w' h => ⟨rfl, h.clear⟩

theorem c_newtable (w : World) (n : Nat) (h1 : 1 ≤ n) (h2 : n ≤ 64) : Makes Tryz.prog 41 #[iv n] w (fun _ => True) (fun x : Nat × Nat => .tuple #[pt x.1 0, iv 0]) (fun x => tabL x.1 x.2 n n (List.replicate n default)) := by
  refine en0 Tryz.func41 fun K hK => ?_
  refine .sr fun K1 n1 r1 => ?_
  refine .v .asP ?_
  refine .v .asI ?_
  refine .nl n1 ?_
  refine .seq fun K2 n2 r2 => ?_
  refine .sr fun K3 n3 r3 => ?_
  refine .v .mvI ?_
  refine .v .lss ?_
  refine .v (.mvN (hp := (by omega))) ?_
  refine .gy .mvI ?_
  refine .gy .gtr ?_
  refine .v (.pick_f rfl (v := .bool _) rfl) ?_
  refine .nl n3 ?_
  refine .cF (hp := (by omega)) (h := ?_)
  refine .skip ?_
  refine n2 _ _ _ ?_
  refine .sr fun K4 n4 r4 => ?_
  refine .v .mvI ?_
  refine .m (.make (hl := by omega) n) fun b11 hb11 => ?_
  refine .v (.bs (r := [.slice _ _ _])) ?_
  refine .m .boxA fun b13 hb13 => ?_
  refine .v .asP ?_
  refine .v .asI ?_
  refine .nl n4 ?_
  refine .ret ?_
  refine (hK _ _ _ ⟨14, rfl⟩ (Res.t ⟨14, rfl⟩) ?_).1
  exact fun w' h => ⟨(b13, b11), trivial, NewH.blk hb13 (NewH.row1 hb11 NewH.nil), rfl, by rw [show (List.replicate n [bv false, iv 0]).flatten = _ from flat_rep plV_len n (default : Plc)] at h; exact h⟩

theorem c_newtable_n (w : World) (n : Int) (h1 : n < 1 ∨ 64 < n) : Pure Tryz.prog 41 #[iv n] w (.tuple #[.pointer none, iv 1]) := by
  refine en0 Tryz.func41 fun K hK => ?_
  refine .sr fun K1 n1 r1 => ?_
  refine .v .asP ?_
  refine .v .asI ?_
  refine .nl n1 ?_
  refine .seq fun K2 n2 r2 => ?_
  refine .sr fun K3 n3 r3 => ?_
  refine .v .mvI ?_
  refine .v .lss ?_
  refine .vp .mvB (fun hg1_2 => ?_) fun hg1_2 => ?_
  ·
    refine .gn ?_
    refine .gn ?_
    refine .v (.pick_t rfl (v := .bool _) rfl) ?_
    refine .nl n3 ?_
    refine .cond_t rfl ?_
    refine .sr fun K4 n4 r4 => ?_
    refine .v .asP ?_
    refine .v .asI ?_
    refine .nl n4 ?_
    refine .ret ?_
    refine r2 _ _ _ _ (by simp) ?_
    refine (hK _ _ _ ⟨14, rfl⟩ (Res.t ⟨14, rfl⟩) ?_).1
    exact fun w' h => ⟨rfl, h.clear⟩
  ·
    refine .gy .mvI ?_
    refine .gy .gtr ?_
    refine .v (.pick_f rfl (v := .bool _) rfl) ?_
    refine .nl n3 ?_
    refine .cd rfl (fun h9 => ?_) fun h9 => ?_
    ·
      refine .sr fun K5 n5 r5 => ?_
      refine .v .asP ?_
      refine .v .asI ?_
      refine .nl n5 ?_
      refine .ret ?_
      refine r2 _ _ _ _ (by simp) ?_
      refine (hK _ _ _ ⟨14, rfl⟩ (Res.t ⟨14, rfl⟩) ?_).1
      exact fun w' h => ⟨rfl, h.clear⟩
    ·
      exfalso; omega

theorem c_open_y (w : World) (tb pb n c : Nat) (ps : List Plc) (hL : Has w (tabL tb pb n c ps)) (hok : PlOk n ps) (i : Nat) (hf : freeM ps = i) : Upd Tryz.prog 42 #[pt tb 0] w (tabL tb pb n c ps) (fun _ : Unit => True) (fun _ => .tuple #[iv (handleM n ps i), iv 0]) (fun _ => tabL tb pb n c (openP ps i)) := by
  have hb := hok.bd i
  have hl := hok.len
  have h64 := hok.le
  have hi := (freeM_lt hf).1
  refine enU hL Tryz.func42 fun K hK => ?_
  refine .sr fun K1 n1 r1 => ?_
  refine .v .asI ?_
  refine .v .asI ?_
  refine .nl n1 ?_
  refine .seq fun K2 n2 r2 => ?_
  refine .sr fun K3 n3 r3 => ?_
  refine .v .mvP ?_
  refine .v .eqNil ?_
  refine .nl n3 ?_
  refine .cF' (hp := rfl) (h := ?_)
  refine .skip ?_
  refine n2 _ _ _ ?_
  refine .sr fun K4 n4 r4 => ?_
  refine .v .mvP ?_
  refine .v .nilCheck ?_
  refine .v .fa ?_
  refine .v .load1z ?_
  refine .u (.pc rfl fun wc hw => by have h := c_ixf_place wc (some ⟨pb, 0, none⟩) ps n c (hw.rwRow (ao := some pb) AtR.ha.mem) hl.symm (by omega) 93 [] (fun p => !p.opn) inferInstance (fun w' x _ _ => c_open1 w' x); rw [show ixf _ ps 0 = (i : Int) from hf] at h; exact h) ?_
  refine .v .asI ?_
  refine .nl n4 ?_
  refine .seq fun K5 n5 r5 => ?_
  refine .sr fun K6 n6 r6 => ?_
  refine .v .mvI ?_
  refine .v .lss ?_
  refine .nl n6 ?_
  refine .cF (hp := (by omega)) (h := ?_)
  refine .skip ?_
  refine n5 _ _ _ ?_
  refine .sr fun K7 n7 r7 => ?_
  refine .v .mvP ?_
  refine .v .nilCheck ?_
  refine .v .fa ?_
  refine .v .load1z ?_
  refine .v .mvI ?_
  refine .v (.xsw (i := i) (hn := by omega)) ?_
  refine .v .fa ?_
  refine .s (.st (v := .bool _) (hle := by rw [flat_len plV_len]; omega)) ?_
  refine .nl n7 ?_
  refine .cg (tabL tb pb n c (openP ps i)) ?_ (by have e := flat_set1 plV_len ps i 0 (.bool true) ⟨true, (ps.getD i default).cl⟩ hi (by decide) rfl; simp only [Nat.add_zero] at e; rw [e]; rfl)
  refine .sr fun K8 n8 r8 => ?_
  refine .v .mvP ?_
  refine .v .mvI ?_
  refine .u (.pc rfl fun wc hw => c_handle wc tb pb n c (openP ps i) hw.has (hok.open (by omega)) i (by omega)) ?_
  refine .v .asI ?_
  refine .v .asI ?_
  refine .nl n8 ?_
  refine .ret ?_
  refine (hK _ _ _ ⟨24, rfl⟩ (Res.t ⟨24, rfl⟩) ?_).1
  exact fun w' h => ⟨(), trivial, fun k hk => .inl hk, by rw [handleM_open n ps i i hi]; rfl, h⟩

theorem c_open_n (w : World) (tb pb n c : Nat) (ps : List Plc) (hL : Has w (tabL tb pb n c ps)) (hok : PlOk n ps) (hf : freeM ps = -1) : Pure Tryz.prog 42 #[pt tb 0] w (.tuple #[iv 0, iv 12]) := by
  have hl := hok.len
  have h64 := hok.le
  refine enR hL Tryz.func42 fun K hK => ?_
  refine .sr fun K1 n1 r1 => ?_
  refine .v .asI ?_
  refine .v .asI ?_
  refine .nl n1 ?_
  refine .seq fun K2 n2 r2 => ?_
  refine .sr fun K3 n3 r3 => ?_
  refine .v .mvP ?_
  refine .v .eqNil ?_
  refine .nl n3 ?_
  refine .cF' (hp := rfl) (h := ?_)
  refine .skip ?_
  refine n2 _ _ _ ?_
  refine .sr fun K4 n4 r4 => ?_
  refine .v .mvP ?_
  refine .v .nilCheck ?_
  refine .v .fa ?_
  refine .v .load1z ?_
  refine .u (.pc rfl fun wc hw => by have h := c_ixf_place wc (some ⟨pb, 0, none⟩) ps n c (hw.rwRow (ao := some pb) AtR.ha.mem) hl.symm (by omega) 93 [] (fun p => !p.opn) inferInstance (fun w' x _ _ => c_open1 w' x); rw [show ixf _ ps 0 = (-1 : Int) from hf] at h; exact h) ?_
  refine .v .asI ?_
  refine .nl n4 ?_
  refine .seq fun K5 n5 r5 => ?_
  refine .sr fun K6 n6 r6 => ?_
  refine .v .mvI ?_
  refine .v .lss ?_
  refine .nl n6 ?_
  refine .cT (hp := (by omega)) (h := ?_)
  refine .sr fun K7 n7 r7 => ?_
  refine .v .asI ?_
  refine .v .asI ?_
  refine .nl n7 ?_
  refine .ret ?_
  refine r5 _ _ _ _ (by simp) ?_
  refine (hK _ _ _ ⟨24, rfl⟩ (Res.t ⟨24, rfl⟩) ?_).1
  exact fun w' h => ⟨rfl, h.clear⟩

theorem c_open_0 (w : World) : Pure Tryz.prog 42 #[.pointer none] w (.tuple #[iv 0, iv 12]) := by
  refine en0 Tryz.func42 fun K hK => ?_
  refine .sr fun K1 n1 r1 => ?_
  refine .v .asI ?_
  refine .v .asI ?_
  refine .nl n1 ?_
  refine .seq fun K2 n2 r2 => ?_
  refine .sr fun K3 n3 r3 => ?_
  refine .v .mvP ?_
  refine .v .eqNil ?_
  refine .nl n3 ?_
  refine .cT' (hp := rfl) (h := ?_)
  refine .sr fun K4 n4 r4 => ?_
  refine .v .asI ?_
  refine .v .asI ?_
  refine .nl n4 ?_
  refine .ret ?_
  refine r2 _ _ _ _ (by simp) ?_
  refine (hK _ _ _ ⟨24, rfl⟩ (Res.t ⟨24, rfl⟩) ?_).1
  exact fun w' h => ⟨rfl, h.clear⟩

theorem c_look (w : World) (tb pb n c : Nat) (ps : List Plc) (hL : Has w (tabL tb pb n c ps)) (hok : PlOk n ps) (h : Int) (h63 : h ≤ 9223372036854775807) : Pure Tryz.prog 43 #[pt tb 0, iv h] w (lookV (lookM n ps h)) := by
  have hl := hok.len
  have h64 := hok.le
  have h1 := hok.pos
  refine enR hL Tryz.func43 fun K hK => ?_
  refine .sr fun K1 n1 r1 => ?_
  refine .v .asI ?_
  refine .v .asI ?_
  refine .nl n1 ?_
  refine .seq fun K2 n2 r2 => ?_
  refine .sr fun K3 n3 r3 => ?_
  refine .v .mvP ?_
  refine .v .eqNil ?_
  refine .v (.mvN' (hp := rfl)) ?_
  refine .gy .mvI ?_
  refine .gy .lss ?_
  refine .v (.pick_f rfl (v := .bool _) rfl) ?_
  refine .nl n3 ?_
  refine .cd rfl (fun h12 => ?_) fun h12 => ?_
  ·
    refine .sr fun K4 n4 r4 => ?_
    refine .v .asI ?_
    refine .v .asI ?_
    refine .nl n4 ?_
    refine .ret ?_
    refine r2 _ _ _ _ (by simp) ?_
    refine (hK _ _ _ ⟨38, rfl⟩ (Res.t ⟨38, rfl⟩) ?_).1
    exact fun w' hT => ⟨congrArg Ending.returned (by rw [lookM, if_pos h12]; rfl), hT.clear⟩
  ·
    refine .skip ?_
    refine n2 _ _ _ ?_
    refine .sr fun K5 n5 r5 => ?_
    refine .v .mvI ?_
    refine .v .sub ?_
    refine .v .mvP ?_
    refine .v .nilCheck ?_
    refine .v .fa ?_
    refine .v .load1z ?_
    refine .v .len1 ?_
    have hm1 := Int.emod_nonneg (h - 1) (show (n : Int) ≠ 0 by omega)
    have hm2 := Int.emod_lt_of_pos (h - 1) (show (0 : Int) < n by omega)
    obtain ⟨i, hi⟩ : ∃ i : Nat, (h - 1) % (n : Int) = i := ⟨((h - 1) % n).toNat, by omega⟩
    have hin : ((h - 1) % (n : Int)).toNat = i := by omega
    have hb := hok.bd i
    refine .v (.rem' (hr := hi)) ?_
    refine .v .asI ?_
    refine .nl n5 ?_
    refine .seq fun K6 n6 r6 => ?_
    refine .sr fun K7 n7 r7 => ?_
    refine .v .mvP ?_
    refine .v .nilCheck ?_
    refine .v .fa ?_
    refine .v .load1z ?_
    refine .v .mvI ?_
    refine .v (.xsw (i := i) (hn := by omega)) ?_
    refine .v .fa ?_
    refine .v (.load1z (hv := (flat_get0 plV_len ps i (by omega) (by decide)).trans rfl)) ?_
    refine .v .not ?_
    refine .vB .mvB (fun hg4_9 => ?_) (fun hg4_9 => ?_)
    ·
      try simp only [decide_eq_true_eq, decide_eq_false_iff_not, Bool.not_eq_true, Bool.not_eq_false, Bool.not_true, Bool.not_false, Bool.not_eq_eq_eq_not, ne_eq, Decidable.not_not] at hg4_9
      refine .gn ?_
      refine .gn ?_
      refine .gn ?_
      refine .gn ?_
      refine .gn ?_
      refine .v (.pick_t rfl (v := .bool _) rfl) ?_
      refine .nl n7 ?_
      refine .cond_t rfl ?_
      refine .sr fun K8 n8 r8 => ?_
      refine .v .asI ?_
      refine .v .asI ?_
      refine .nl n8 ?_
      refine .ret ?_
      refine r6 _ _ _ _ (by simp) ?_
      refine (hK _ _ _ ⟨38, rfl⟩ (Res.t ⟨38, rfl⟩) ?_).1
      exact fun w' hT => ⟨congrArg Ending.returned (by rw [lookM, if_neg h12, hin, if_neg (fun hh => by rw [hg4_9] at hh; cases hh.1)]; rfl), hT.clear⟩
    ·
      try simp only [decide_eq_true_eq, decide_eq_false_iff_not, Bool.not_eq_true, Bool.not_eq_false, Bool.not_true, Bool.not_false, Bool.not_eq_eq_eq_not, ne_eq, Decidable.not_not] at hg4_9
      refine .gy .mvP ?_
      refine .gy .mvI ?_
      refine .ge (.pc rfl fun wc hw => c_handle wc tb pb n c ps hw.has hok i (by omega)) ?_
      refine .gy .mvI ?_
      refine .gy .neq ?_
      refine .v (.pick_f rfl (v := .bool _) rfl) ?_
      refine .nl n7 ?_
      refine .cd rfl (fun h36 => ?_) fun h36 => ?_
      ·
        refine .sr fun K9 n9 r9 => ?_
        refine .v .asI ?_
        refine .v .asI ?_
        refine .nl n9 ?_
        refine .ret ?_
        refine r6 _ _ _ _ (by simp) ?_
        refine (hK _ _ _ ⟨38, rfl⟩ (Res.t ⟨38, rfl⟩) ?_).1
        exact fun w' hT => ⟨congrArg Ending.returned (by rw [lookM, if_neg h12, hin, if_neg (fun hh => h36 hh.2)]; rfl), hT.clear⟩
      ·
        refine .skip ?_
        refine n6 _ _ _ ?_
        refine .sr fun K10 n10 r10 => ?_
        refine .v .mvI ?_
        refine .v .asI ?_
        refine .v .asI ?_
        refine .nl n10 ?_
        refine .ret ?_
        refine (hK _ _ _ ⟨38, rfl⟩ (Res.t ⟨38, rfl⟩) ?_).1
        exact fun w' hT => ⟨congrArg Ending.returned (by rw [lookM, if_neg h12, hin, if_pos ⟨hg4_9, Decidable.not_not.1 h36⟩]; rfl), hT.clear⟩

theorem c_close_y (w : World) (tb pb n c : Nat) (ps : List Plc) (hL : Has w (tabL tb pb n c ps)) (hok : PlOk n ps) (h : Int) (h63 : h ≤ 9223372036854775807) (i : Nat) (hl0 : lookM n ps h = some i) : Upd Tryz.prog 47 #[pt tb 0, iv h] w (tabL tb pb n c ps) (fun _ : Unit => True) (fun _ => iv 0) (fun _ => tabL tb pb n c (closeP ps i)) := by
  have hl := hok.len
  have h64 := hok.le
  have h1 := hok.pos
  have hi := (lookM_spec h1 hl0).1
  have hci := hok.cl i
  refine enU hL Tryz.func47 fun K hK => ?_
  refine .sr fun K1 n1 r1 => ?_
  refine .v .asI ?_
  refine .nl n1 ?_
  refine .sr fun K2 n2 r2 => ?_
  refine .v .mvP ?_
  refine .v .mvI ?_
  refine .u (.pc rfl fun wc hw => by have h9 := c_look wc tb pb n c ps hw.has hok h h63; rw [hl0] at h9; exact h9) ?_
  refine .v .mvU ?_
  refine .v .extract ?_
  refine .v .extract ?_
  refine .v .asI ?_
  refine .v .asI ?_
  refine .nl n2 ?_
  refine .seq fun K3 n3 r3 => ?_
  refine .sr fun K4 n4 r4 => ?_
  refine .v .mvI ?_
  refine .v .neq ?_
  refine .nl n4 ?_
  refine .cF (hp := (by omega)) (h := ?_)
  refine .skip ?_
  refine n3 _ _ _ ?_
  refine .sd [1, 1, 1, 0, 1, 1, 1, 1, 0, 1, 1, 1, 0, 1, 1, 1, 2] hmix fun N4 hN4 => ?_
  refine .q 0 rfl .mvP ?_
  refine .q 1 rfl .nilCheck ?_
  refine .q 2 rfl .fa ?_
  refine .l 3 rfl .load1z ?_
  refine .q 4 rfl .mvI ?_
  refine .q 5 rfl .mvP ?_
  refine .q 6 rfl .nilCheck ?_
  refine .q 7 rfl .fa ?_
  refine .l 8 rfl .load1z ?_
  refine .q 9 rfl .mvI ?_
  refine .q 10 rfl (.xsw (i := i) (hn := by omega)) ?_
  refine .q 11 rfl .fa ?_
  refine .l 12 rfl (.load1z (hv := (flat_get plV_len ps i 1 (by omega) (by decide)).trans rfl)) ?_
  refine .q 13 rfl .add ?_
  refine .q 14 rfl (.bs (r := [.bool _, .int _ _])) ?_
  refine .q 15 rfl (.xsw (i := i) (hn := by omega)) ?_
  refine .lst ?_
  refine .s 16 rfl (.sta (vs := plV ⟨false, (ps.getD i default).cl + 1⟩) (hl := by rfl) (hle := by rw [flat_len plV_len]; show i * 2 + 2 ≤ _; omega) (h1 := plV_one _)) ?_
  refine .dn hN4 ?_
  refine .cg (tabL tb pb n c (closeP ps i)) ?_ (by have e := flat_set plV_len ps i ⟨false, (ps.getD i default).cl + 1⟩ (by omega); rw [show (plV ⟨false, (ps.getD i default).cl + 1⟩).length = 2 from rfl, e]; rfl)
  refine .sr fun K6 n6 r6 => ?_
  refine .v .asI ?_
  refine .nl n6 ?_
  refine .ret ?_
  refine (hK _ _ _ ⟨32, rfl⟩ (Res.o ⟨32, rfl⟩) ?_).1
  exact fun w' h => ⟨(), trivial, fun k hk => .inl hk, rfl, h⟩

theorem c_close_n (w : World) (tb pb n c : Nat) (ps : List Plc) (hL : Has w (tabL tb pb n c ps)) (hok : PlOk n ps) (h : Int) (h63 : h ≤ 9223372036854775807) (hl0 : lookM n ps h = none) : Pure Tryz.prog 47 #[pt tb 0, iv h] w (iv 3) := by
  refine enR hL Tryz.func47 fun K hK => ?_
  refine .sr fun K1 n1 r1 => ?_
  refine .v .asI ?_
  refine .nl n1 ?_
  refine .sr fun K2 n2 r2 => ?_
  refine .v .mvP ?_
  refine .v .mvI ?_
  refine .u (.pc rfl fun wc hw => by have h9 := c_look wc tb pb n c ps hw.has hok h h63; rw [hl0] at h9; exact h9) ?_
  refine .v .mvU ?_
  refine .v .extract ?_
  refine .v .extract ?_
  refine .v .asI ?_
  refine .v .asI ?_
  refine .nl n2 ?_
  refine .seq fun K3 n3 r3 => ?_
  refine .sr fun K4 n4 r4 => ?_
  refine .v .mvI ?_
  refine .v .neq ?_
  refine .nl n4 ?_
  refine .cT (hp := (by omega)) (h := ?_)
  refine .sr fun K5 n5 r5 => ?_
  refine .v .mvI ?_
  refine .v .asI ?_
  refine .nl n5 ?_
  refine .ret ?_
  refine r3 _ _ _ _ (by simp) ?_
  refine (hK _ _ _ ⟨32, rfl⟩ (Res.o ⟨32, rfl⟩) ?_).1
  exact fun w' h => ⟨rfl, h.clear⟩

theorem c_handles (w : World) (tb pb n c : Nat) (ps : List Plc) (hL : Has w (tabL tb pb n c ps)) (hok : PlOk n ps) : Makes Tryz.prog 49 #[pt tb 0] w (fun _ => True) (fun x : Option Nat × Nat => sl x.1 (handlesTo n ps n).length x.2) (fun x => [.row x.1 3 1 (handlesTo n ps n).length x.2 ((handlesTo n ps n).map iv)]) := by
  have hl := hok.len
  have h64 := hok.le
  refine enR hL Tryz.func49 fun K hK => ?_
  refine .sr fun K1 n1 r1 => ?_
  refine .v .asS ?_
  refine .nl n1 ?_
  refine .seq fun K2 n2 r2 => ?_
  refine .sr fun K3 n3 r3 => ?_
  refine .v .mvP ?_
  refine .v .eqNil ?_
  refine .nl n3 ?_
  refine .cF' (hp := rfl) (h := ?_)
  refine .skip ?_
  refine n2 _ _ _ ?_
  refine .sr fun K4 n4 r4 => ?_
  refine .v .asS ?_
  refine .nl n4 ?_
  refine .seq fun K5 n5 r5 => ?_
  refine .sr fun K6 n6 r6 => ?_
  refine .v .mvP ?_
  refine .v .nilCheck ?_
  refine .v .fa ?_
  refine .v .load1z ?_
  refine .v .len1 ?_
  refine .v .mvI ?_
  refine .nl n6 ?_
  refine .block fun K7 n7 x7 r7 => ?_
  refine .loopI 1 [3, 4, 5, 13, 14, 15, 16, 17, 18, 19, 20, 21, 22, 23, 24, 25, 26] [13, 3] (fun (p : Nat × Option Nat × Nat) => p.1 ≤ n ∧ ∀ j, p.2.1 = some j → New w j) (fun p => [iv p.1, sl p.2.1 (handlesTo n ps p.1).length p.2.2]) (fun (p : Nat × Option Nat × Nat) => Tr w [] (.row p.2.1 3 1 (handlesTo n ps p.1).length p.2.2 ((handlesTo n ps p.1).map iv) :: tabL tb pb n c ps)) (fun (p : Nat × Option Nat × Nat) => n - p.1) ((0, none, 0)) ⟨by simp, by simp⟩ (fun _ => rfl) rfl (fun _ h => by exact h.addRow _ _) ?_
  rintro ⟨k, ao, cc⟩ hI8 J8 K8 n8 r8
  try dsimp only at hI8 n8 ⊢
  obtain ⟨hk1, hao⟩ := hI8
  have hle := handlesTo_le n ps k
  refine .sr fun K9 n9 r9 => ?_
  refine .v .lss ?_
  refine .nl n9 ?_
  refine .seq fun K10 n10 r10 => ?_
  refine .cd rfl (fun h14 => ?_) fun h14 => ?_
  ·
    refine .skip ?_
    refine n10 _ _ _ ?_
    refine .seq fun K11 n11 r11 => ?_
    refine .block fun K12 n12 x12 r12 => ?_
    refine .sr fun K13 n13 r13 => ?_
    refine .v .mvI ?_
    refine .v (.xsw (i := k) (hn := by omega)) ?_
    refine .v (.loadAp (ys := plV (ps.getD k default)) (hys := flat_at plV_len ps k (by omega)) (hl := by rfl)) ?_
    refine .m .alloc fun b5 hb5 => ?_
    refine .v .asI ?_
    refine .s (.storeN (vs := plV (ps.getD k default)) (h1 := plV_one _)) ?_
    refine .nl n13 ?_
    refine .sr fun K14 n14 r14 => ?_
    refine .v .fa ?_
    refine .v .load1z ?_
    refine .nl n14 ?_
    refine .cond _ rfl (fun h19 => ?_) fun h19 => ?_
    ·
      try simp only [decide_eq_true_eq, decide_eq_false_iff_not, Bool.not_eq_true, Bool.not_eq_false, Bool.not_true, Bool.not_false, Bool.not_eq_eq_eq_not, ne_eq, Decidable.not_not] at h19
      refine .region ?_
      refine .v .mvS ?_
      refine .v .mvP ?_
      refine .v .mvI ?_
      refine .u (.pc rfl fun wc hw => c_handle wc tb pb n c ps (hw.hasP (A := tabL tb pb n c ps) (R := [_, _]) (by exact (List.perm_append_comm (l₁ := [_, _])))) hok k (by omega)) ?_
      refine .m (.bsl (r := [.int _ _])) fun b24 hb24 => ?_
      refine .w (.app (ao := ao) (hw := fun j hj => .inr (hao j hj))) fun p25 hp25 => ?_
      refine .v .asS ?_
      refine .nil ?_
      refine n12 _ _ _ ?_
      refine n11 _ _ _ ?_
      refine .region ?_
      refine .v .add ?_
      refine .v .mvI ?_
      refine .nil ?_
      have hsu := handlesTo_succ n ps k
      rw [if_pos h19] at hsu
      refine n8 (k + 1, p25.1, p25.2) _ _ ⟨by omega, fun j hj => (hp25 j hj).resolve_left (by simp)⟩ ⟨28, rfl⟩ rfl rfl (l2 (congrArg iv (by omega)) (by rw [hsu, List.length_append]; rfl)) (by omega) (fun _ h => by rw [hsu, List.length_append, List.map_append]; exact h.sb)
    ·
      try simp only [decide_eq_true_eq, decide_eq_false_iff_not, Bool.not_eq_true, Bool.not_eq_false, Bool.not_true, Bool.not_false, Bool.not_eq_eq_eq_not, ne_eq, Decidable.not_not] at h19
      refine .skip ?_
      refine n12 _ _ _ ?_
      refine n11 _ _ _ ?_
      refine .region ?_
      refine .v .add ?_
      refine .v .mvI ?_
      refine .nil ?_
      have hsu := handlesTo_succ n ps k
      rw [if_neg (by rw [h19]; decide), List.append_nil] at hsu
      refine n8 (k + 1, ao, cc) _ _ ⟨by omega, hao⟩ ⟨28, rfl⟩ rfl rfl (l2 (congrArg iv (by omega)) (by rw [hsu]; rfl)) (by omega) (fun _ h => by rw [hsu]; exact h.sb)
  ·
    refine .exit ?_
    refine r10 _ _ _ _ (by simp) ?_
    refine r8 _ _ _ _ (by simp) ?_
    refine x7 _ _ _ ?_
    refine n5 _ _ _ ?_
    refine .sr fun K15 n15 r15 => ?_
    refine .v .mvS ?_
    refine .v .asS ?_
    refine .nl n15 ?_
    refine .ret ?_
    refine (hK _ _ _ ⟨28, rfl⟩ (Res.o ⟨28, rfl⟩) ?_).1
    obtain rfl : k = n := by omega
    exact fun w' h => ⟨(ao, cc), trivial, NewH.row hao NewH.nil, rfl, h.sb⟩

abbrev sesH (s : Ses) : Hl := .row s.ao 5 1 s.key.length s.c (s.key.map u8)
abbrev sesA (sb tb ob n : Nat) (own : List Ses) : List Hl := [.blk sb 86 [pt tb 0, sl (some ob) n n], .row (some ob) 51 2 n n (own.flatMap sesV)]
abbrev sessL (sb tb pb ob n : Nat) (ps : List Plc) (own : List Ses) : List Hl := .blk tb 125 [sl (some pb) n n] :: .row (some pb) 128 2 n n (ps.flatMap plV) :: .blk sb 86 [pt tb 0, sl (some ob) n n] :: .row (some ob) 51 2 n n (own.flatMap sesV) :: own.map sesH
theorem mem_ses {own : List Ses} {i : Nat} (h : i < own.length) : sesH (own.getD i default) ∈ own.map sesH := List.mem_map_of_mem (getD_mem h)
theorem sess_own (sb tb pb ob n : Nat) (ps : List Plc) (own : List Ses) : (tb ∈ ids (sessL sb tb pb ob n ps own) ∧ pb ∈ ids (sessL sb tb pb ob n ps own) ∧ sb ∈ ids (sessL sb tb pb ob n ps own) ∧ ob ∈ ids (sessL sb tb pb ob n ps own)) ∧ ∀ s ∈ own, ∀ k, s.ao = some k → k ∈ ids (sessL sb tb pb ob n ps own) := by
  refine ⟨⟨?_, ?_, ?_, ?_⟩, fun s hs k hk => mem_ids.2 ⟨sesH s, ?_, hk⟩⟩
  · simp [ids_append]
  · simp [ids_append]
  · simp [ids_append]
  · simp [ids_append]
  · exact List.mem_append_right (tabL tb pb n n ps) (List.mem_append_right (sesA sb tb ob n own) (List.mem_map_of_mem hs))
theorem sess_out {F : List Nat} {w : World} {sb tb pb ob n : Nat} {ps : List Plc} {own : List Ses} (ht : tb ∈ F) (hp : pb ∈ F) (hs : sb ∈ F) (ho : ob ∈ F) (hk : ∀ s ∈ own, ∀ k, s.ao = some k → k ∈ F ∨ w.heap.size ≤ k) : ∀ k ∈ ids (sessL sb tb pb ob n ps own), k ∈ F ∨ w.heap.size ≤ k := by
  intro k hkk
  obtain ⟨h, hh, hid⟩ := mem_ids.1 hkk
  rcases List.mem_append.1 (show h ∈ tabL tb pb n n ps ++ (sesA sb tb ob n own ++ own.map sesH) from hh) with hh | hh
  · simp only [tabL, List.mem_cons, List.not_mem_nil, or_false] at hh
    rcases hh with rfl | rfl <;> cases hid
    · exact .inl ht
    · exact .inl hp
  · rcases List.mem_append.1 hh with hh | hh
    · simp only [List.mem_cons, List.not_mem_nil, or_false] at hh
      rcases hh with rfl | rfl <;> cases hid
      · exact .inl hs
      · exact .inl ho
    · obtain ⟨s, hs', rfl⟩ := List.mem_map.1 hh
      exact hk s hs' k hid
theorem own_tab {F : List Nat} {w : World} {tb pb n c : Nat} {ps : List Plc} (ht : tb ∈ F) (hp : pb ∈ F) : ∀ k ∈ ids (tabL tb pb n c ps), Own w F k := by
  intro k hk
  simp only [tabL, ids_blk, ids_row, ids_nil, List.mem_cons, List.not_mem_nil, or_false] at hk
  rcases hk with rfl | rfl
  · exact .inl ht
  · exact .inl hp
theorem mem_setS {own : List Ses} {i : Nat} {y s : Ses} {Q : Ses → Prop} (h : s ∈ own.set i y) (h1 : ∀ s ∈ own, Q s) (h2 : Q y) : Q s := by
  rcases List.mem_or_eq_of_mem_set h with h | rfl
  · exact h1 s h
  · exact h2
theorem zero_ses (n : Nat) (x : Hl) (h : x ∈ (List.replicate n (default : Ses)).map sesH) : ∃ T sz, x = .row none T sz 0 0 [] := by
  obtain ⟨s, hs, rfl⟩ := List.mem_map.1 h
  rw [List.mem_replicate] at hs
  rw [hs.2]
  exact ⟨_, _, rfl⟩

theorem c_clone (w : World) (A : Option Addr) (xs : List B8) (n c : Nat) (hA : Rw w A (xs.map u8)) (hn : n = xs.length) (hle : n ≤ 1099511627776) : Makes Tryz.prog 44 #[.slice A n c] w (fun _ => True) (fun x : Option Nat × Nat => sl x.1 xs.length x.2) (fun x => [.row x.1 5 1 xs.length x.2 (xs.map u8)]) := by
  subst hn
  refine en0 Tryz.func44 fun K hK => ?_
  refine .sr fun K1 n1 r1 => ?_
  refine .v .asS ?_
  refine .nl n1 ?_
  refine .seq fun K2 n2 r2 => ?_
  refine .sr fun K3 n3 r3 => ?_
  refine .v .mvS ?_
  refine .v .eqNilS ?_
  refine .nl n3 ?_
  refine .cond _ rfl (fun h4 => ?_) fun h4 => ?_
  ·
    try simp only [decide_eq_true_eq, decide_eq_false_iff_not, Bool.not_eq_true, Bool.not_eq_false, Bool.not_true, Bool.not_false, Bool.not_eq_eq_eq_not, ne_eq, Decidable.not_not] at h4
    obtain rfl : A = none := by cases A with | none => rfl | some a => simp at h4
    obtain rfl : xs = [] := by cases xs with | nil => rfl | cons x l => obtain ⟨_, _, h1, _⟩ := hA 0 (u8 x) rfl; cases h1
    refine .sr fun K4 n4 r4 => ?_
    refine .v .asS ?_
    refine .nl n4 ?_
    refine .ret ?_
    refine r2 _ _ _ _ (by simp) ?_
    refine (hK _ _ _ ⟨8, rfl⟩ (Res.o ⟨8, rfl⟩) ?_).1
    exact fun w' h => ⟨(none, 0), trivial, NewH.row (by simp) NewH.nil, rfl, h.addRow _ _⟩
  ·
    try simp only [decide_eq_true_eq, decide_eq_false_iff_not, Bool.not_eq_true, Bool.not_eq_false, Bool.not_true, Bool.not_false, Bool.not_eq_eq_eq_not, ne_eq, Decidable.not_not] at h4
    refine .skip ?_
    refine n2 _ _ _ ?_
    refine .sr fun K5 n5 r5 => ?_
    refine .m .buildSlice0 fun b5 hb5 => ?_
    refine .v .mvS ?_
    refine .w (.app (ao := some b5) (hr := RdS.of hA) (hl := by rw [List.length_map, Nat.mul_one])) fun p7 hp7 => ?_
    refine .v .asS ?_
    refine .nl n5 ?_
    refine .ret ?_
    refine (hK _ _ _ ⟨8, rfl⟩ (Res.o ⟨8, rfl⟩) ?_).1
    exact fun w' h => ⟨p7, trivial, NewH.row (fun k hk => (hp7 k hk).resolve_left (by simp)) NewH.nil, by show Ending.returned (sl p7.1 (0 + xs.length) p7.2) = _; rw [Nat.zero_add], by rw [Nat.zero_add] at h; exact h⟩

theorem c_new (w : World) (n : Nat) (h1 : 1 ≤ n) (h2 : n ≤ 64) : Makes Tryz.prog 22 #[iv n] w (fun _ => True) (fun x : Nat × Nat × Nat × Nat => .tuple #[pt x.1 0, iv 0]) (fun x => sessL x.1 x.2.1 x.2.2.1 x.2.2.2 n (List.replicate n default) (List.replicate n default)) := by
  refine en0 Tryz.func22 fun K hK => ?_
  refine .sr fun K1 n1 r1 => ?_
  refine .v .asP ?_
  refine .v .asI ?_
  refine .nl n1 ?_
  refine .sr fun K2 n2 r2 => ?_
  refine .v .mvI ?_
  refine .w (.mc rfl fun wc hw => c_newtable wc n h1 h2) fun x8 hx8 => ?_
  try simp only [List.cons_append, List.nil_append]
  refine .v .mvU ?_
  refine .v .extract ?_
  refine .v .extract ?_
  refine .v .asP ?_
  refine .v .asI ?_
  refine .nl n2 ?_
  refine .seq fun K3 n3 r3 => ?_
  refine .sr fun K4 n4 r4 => ?_
  refine .v .mvI ?_
  refine .v .neq ?_
  refine .nl n4 ?_
  refine .cF (hp := (by omega)) (h := ?_)
  refine .skip ?_
  refine n3 _ _ _ ?_
  refine .sr fun K5 n5 r5 => ?_
  refine .v .mvP ?_
  refine .v .mvI ?_
  refine .m (.make (hl := by omega) n) fun b16 hb16 => ?_
  refine .v (.bs (r := [.pointer _, .slice _ _ _])) ?_
  refine .m .boxA fun b18 hb18 => ?_
  refine .v .asP ?_
  refine .v .asI ?_
  refine .nl n5 ?_
  refine .ret ?_
  refine (hK _ _ _ ⟨19, rfl⟩ (Res.t ⟨19, rfl⟩) ?_).1
  have hN : NewH w (sessL b18 x8.1 x8.2 b16 n (List.replicate n default) (List.replicate n default)) := by
    intro h hh k hk
    rcases List.mem_append.1 (show h ∈ tabL x8.1 x8.2 n n (List.replicate n default) ++ (sesA b18 x8.1 b16 n (List.replicate n default) ++ (List.replicate n default).map sesH) from hh) with hh | hh
    · exact hx8.2 h hh k hk
    · rcases List.mem_append.1 hh with hh | hh
      · exact NewH.blk hb18 (NewH.row1 hb16 NewH.nil) h hh k hk
      · obtain ⟨T, sz, rfl⟩ := zero_ses n h hh
        cases hk
  exact fun w' h => ⟨(b18, x8.1, x8.2, b16), trivial, hN, rfl, by
    rw [show (List.replicate n [iv 0, .slice none 0 0]).flatten = _ from flat_rep sesV_len n (default : Ses)] at h
    have h3 := h.nils (zero_ses n)
    refine h3.perm ?_
    exact List.perm_append_comm (l₁ := [_, _]) (l₂ := tabL x8.1 x8.2 n n (List.replicate n default)) |>.append_right _ |>.trans (by rw [List.append_assoc]; exact List.Perm.refl _)⟩

theorem c_new_n (w : World) (n : Int) (h1 : n < 1 ∨ 64 < n) : Pure Tryz.prog 22 #[iv n] w (.tuple #[.pointer none, iv 1]) := by
  refine en0 Tryz.func22 fun K hK => ?_
  refine .sr fun K1 n1 r1 => ?_
  refine .v .asP ?_
  refine .v .asI ?_
  refine .nl n1 ?_
  refine .sr fun K2 n2 r2 => ?_
  refine .v .mvI ?_
  refine .u (.pc rfl fun wc hw => c_newtable_n wc n h1) ?_
  refine .v .mvU ?_
  refine .v .extract ?_
  refine .v .extract ?_
  refine .v .asP ?_
  refine .v .asI ?_
  refine .nl n2 ?_
  refine .seq fun K3 n3 r3 => ?_
  refine .sr fun K4 n4 r4 => ?_
  refine .v .mvI ?_
  refine .v .neq ?_
  refine .nl n4 ?_
  refine .cT (hp := (by omega)) (h := ?_)
  refine .sr fun K5 n5 r5 => ?_
  refine .v .mvI ?_
  refine .v .asP ?_
  refine .v .asI ?_
  refine .nl n5 ?_
  refine .ret ?_
  refine r3 _ _ _ _ (by simp) ?_
  refine (hK _ _ _ ⟨19, rfl⟩ (Res.t ⟨19, rfl⟩) ?_).1
  exact fun w' h => ⟨rfl, h.clear⟩

theorem c_add_y (w : World) (sb tb pb ob n : Nat) (ps : List Plc) (own : List Ses) (hL : Has w (sessL sb tb pb ob n ps own)) (hok : PlOk n ps) (hon : own.length = n) (alg : Int) (A : Option Addr) (key : List B8) (nk ck : Nat) (hA : Rw w A (key.map u8)) (hnk : nk = key.length) (hle : nk ≤ 1099511627776) (hAF : ∀ a, A = some a → a.block ∉ ids (sessL sb tb pb ob n ps own)) (hck : checkM alg false key.length 0 0 ≠ 4 ∧ checkM alg false key.length 0 0 ≠ 5) (i : Nat) (hf : freeM ps = i) : Upd Tryz.prog 23 #[pt sb 0, iv alg, .slice A nk ck] w (sessL sb tb pb ob n ps own) (fun _ : Option Nat × Nat => True) (fun _ => .tuple #[iv (handleM n ps i), iv 0]) (fun x => sessL sb tb pb ob n (openP ps i) (own.set i ⟨alg, key, x.1, x.2⟩)) := by
  subst hnk
  have hl := hok.len
  have h64 := hok.le
  have hi := (freeM_lt hf).1
  have hb := hok.bd i
  refine enU hL Tryz.func23 fun K hK => ?_
  obtain ⟨⟨ht, hp, hs, ho⟩, hk⟩ := sess_own sb tb pb ob n ps own
  generalize ids (sessL sb tb pb ob n ps own) = F0 at *
  refine .sr fun K1 n1 r1 => ?_
  refine .v .asI ?_
  refine .v .asI ?_
  refine .nl n1 ?_
  refine .seq fun K2 n2 r2 => ?_
  refine .sr fun K3 n3 r3 => ?_
  refine .v .mvP ?_
  refine .v .eqNil ?_
  refine .nl n3 ?_
  refine .cF' (hp := rfl) (h := ?_)
  refine .skip ?_
  refine n2 _ _ _ ?_
  refine .seq fun K4 n4 r4 => ?_
  refine .sr fun K5 n5 r5 => ?_
  refine .v .mvI ?_
  refine .v .mvS ?_
  refine .v (.bs (r := [.int _ _, .bool _, .slice _ _ _, .slice _ _ _, .slice _ _ _])) ?_
  refine .u (.pc rfl fun wc hw => c_check wc alg false A none none key.length ck 0 0 0 0) ?_
  refine .v .asI ?_
  refine .nl n5 ?_
  refine .sr fun K6 n6 r6 => ?_
  refine .v .mvI ?_
  refine .v .eql ?_
  refine .v (.mvN (hp := hck.1)) ?_
  refine .gy .mvI ?_
  refine .gy .eql ?_
  refine .v (.pick_f rfl (v := .bool _) rfl) ?_
  refine .nl n6 ?_
  refine .cF (hp := hck.2) (h := ?_)
  refine .skip ?_
  refine n4 _ _ _ ?_
  refine .sr fun K7 n7 r7 => ?_
  refine .v .mvP ?_
  refine .v .nilCheck ?_
  refine .v .fa ?_
  refine .v .load1z ?_
  refine .w (.uc (sesA sb tb ob n own ++ own.map sesH) rfl (fun wc hw => c_open_y wc tb pb n n ps (hw.hasP (List.Perm.refl _)) hok i hf) (hp := List.Perm.refl _) (hD := own_tab ht hp)) (hne := ⟨(), trivial, own_tab ht hp⟩) fun _ _ => ?_
  try simp only [List.cons_append, List.nil_append]
  refine .v .mvU ?_
  refine .v .extract ?_
  refine .v .extract ?_
  refine .v .asI ?_
  refine .v .asI ?_
  refine .nl n7 ?_
  refine .seq fun K8 n8 r8 => ?_
  refine .sr fun K9 n9 r9 => ?_
  refine .v .mvI ?_
  refine .v .neq ?_
  refine .nl n9 ?_
  refine .cF (hp := (by omega)) (h := ?_)
  refine .skip ?_
  refine n8 _ _ _ ?_
  refine .sr fun K10 n10 r10 => ?_
  refine .v .mvP ?_
  refine .v .nilCheck ?_
  refine .v .fa ?_
  refine .v .load1z ?_
  refine .v .mvI ?_
  refine .u (.pc rfl fun wc hw => by have h9 := c_look wc tb pb n n (openP ps i) (hw.hasP (R := sesA sb tb ob n own ++ own.map sesH) (List.Perm.refl _)) (hok.open (by omega)) (handleM n ps i) (by simp only [handleM]; omega); rw [lookM_open hi (by omega)] at h9; exact h9) ?_
  refine .v .mvU ?_
  refine .v .extract ?_
  refine .v .extract ?_
  refine .v .asI ?_
  refine .v .asI ?_
  refine .nl n10 ?_
  refine .sd [1, 1, 1, 0, 1, 1, 1, 0, 1, 1, 2] hmix fun N10 hN10 => ?_
  refine .q 0 rfl .mvP ?_
  refine .q 1 rfl .nilCheck ?_
  refine .q 2 rfl .fa ?_
  refine .l 3 rfl .load1z ?_
  refine .q 4 rfl .mvI ?_
  refine .q 5 rfl .mvI ?_
  refine .q 6 rfl .mvS ?_
  refine .r 7 rfl (.mc rfl fun wc hw => c_clone wc A key _ ck ((RdS.ofF hA hAF).rw hw) rfl hle) fun x53 hx53 => ?_
  try simp only [List.cons_append, List.nil_append]
  refine .q 8 rfl (.bs (r := [.int _ _, .slice _ _ _])) ?_
  refine .q 9 rfl (.xsw (i := i) (hn := by omega)) ?_
  refine .lst ?_
  refine .s 10 rfl (.sta (vs := sesV ⟨alg, key, x53.1, x53.2⟩) (hl := by rfl) (hle := by rw [flat_len sesV_len]; show i * 2 + 2 ≤ _; omega) (h1 := sesV_one _)) ?_
  refine .dn hN10 ?_
  refine .sr fun K12 n12 r12 => ?_
  refine .v .mvI ?_
  refine .v .asI ?_
  refine .v .asI ?_
  refine .nl n12 ?_
  refine .ret ?_
  refine (hK _ _ _ ⟨57, rfl⟩ (Res.t ⟨57, rfl⟩) ?_).1
  exact fun w' h => ⟨x53, trivial, sess_out ht hp hs ho (fun s hs k hk' => mem_setS (Q := fun s => ∀ k, s.ao = some k → k ∈ F0 ∨ w.heap.size ≤ k) hs (fun s hs k hk' => .inl (hk s hs k hk')) (fun k hk' => .inr (hx53.2.hd k hk')) k hk'), rfl, by
    have e := flat_set sesV_len own i ⟨alg, key, x53.1, x53.2⟩ (by omega)
    rw [show (sesV ⟨alg, key, x53.1, x53.2⟩).length = 2 from rfl, e] at h
    exact Tr.setMap (A := tabL tb pb n n (openP ps i) ++ sesA sb tb ob n (own.set i ⟨alg, key, x53.1, x53.2⟩)) (f := sesH) (y := ⟨alg, key, x53.1, x53.2⟩) (by simpa using h) (by omega)⟩

theorem c_get1 (w : World) (bo : Nat) (cs0 : List Value) (hc0 : cs0.length = 2) (sb tb pb ob n : Nat) (ps : List Plc) (own : List Ses) (hL : Has w ([.blk bo 51 cs0] ++ sessL sb tb pb ob n ps own)) (hok : PlOk n ps) (hon : own.length = n) (hkl : ∀ s ∈ own, s.key.length ≤ 1099511627776) (i : Nat) (hi : i < n) : Upd Tryz.prog 46 #[pt ob (i * 2), pt bo 0] w [.blk bo 51 cs0] (fun _ : Option Nat × Nat => True) (fun _ => .tuple #[]) (fun x => [.blk bo 51 [iv (own.getD i default).alg, sl x.1 (own.getD i default).key.length x.2], .row x.1 5 1 (own.getD i default).key.length x.2 ((own.getD i default).key.map u8)]) := by
  refine enUR hL Tryz.func46 fun K hK => ?_
  simp only [List.cons_append, List.nil_append]
  have hkl := hkl _ (getD_mem (xs := own) (k := i) (by omega))
  refine .draw hmix (kdl [1, 1, 1, 0, 1, 1, 1, 0, 0, 0, 1, 0, 1, 2]) ((Tr w (ids [.blk bo 51 cs0]) (sessL sb tb pb ob n ps own))) (fun _ h => h.drawn _) fun N0 hN0 => ?_
  refine .q 0 rfl .mvP ?_
  refine .q 1 rfl .nilCheck ?_
  refine .q 2 rfl .fa ?_
  refine .l 3 rfl (.load1z (hv := (flat_get0 sesV_len own i (by omega) (by decide)).trans rfl)) ?_
  refine .q 4 rfl .mvP ?_
  refine .q 5 rfl .nilCheck ?_
  refine .q 6 rfl .fa ?_
  refine .l 7 rfl (.load1z (hv := (flat_get sesV_len own i 1 (by omega) (by decide)).trans rfl)) ?_
  refine .rk 8 rfl (.mc rfl fun wc hw => c_clone wc _ (own.getD i default).key _ _ (hw.rwRow (ao := (own.getD i default).ao) (by repeat (first | exact mem_ses (by omega) | apply List.mem_cons_of_mem))) rfl hkl) fun x11 hx11 => ?_
  try simp only [List.cons_append, List.nil_append]
  refine .ks 9 rfl (.storeN (vs := [iv 0, .slice none 0 0]) (hc := hc0)) ?_
  refine .q 10 rfl .fa ?_
  refine .ks 11 rfl (.st (v := .int _ _)) ?_
  refine .q 12 rfl .fa ?_
  refine .lst ?_
  refine .s 13 rfl (.st (v := .slice _ _ _)) ?_
  refine G0.done (by kernel_rfl) (hN0 _ _ _ ?_)
  refine (hK _ _ _ ⟨14, rfl⟩ (Res.none rfl) ?_).2
  exact fun w' h => ⟨x11, trivial, (fun k hk => by
    rw [ids_blk, ids_rowm] at hk
    rcases List.mem_cons.1 hk with rfl | hk
    · exact .inl (by simp)
    · simp only [ids_nil, List.append_nil, Option.mem_toList] at hk
      exact .inr (hx11.2.hd k hk)), rfl, (h.perm (List.Perm.swap _ _ _)).sb⟩

theorem c_at_get (w : World) (bo : Nat) (cs0 : List Value) (hc0 : cs0.length = 2) (sb tb pb ob n : Nat) (ps : List Plc) (own : List Ses) (hL : Has w ([.blk bo 51 cs0] ++ sessL sb tb pb ob n ps own)) (hok : PlOk n ps) (hon : own.length = n) (hkl : ∀ s ∈ own, s.key.length ≤ 1099511627776) (h : Int) (h63 : h ≤ 9223372036854775807) (i : Nat) (hl0 : lookM n ps h = some i) : Upd Tryz.prog 45 #[pt sb 0, iv h, .func (.func 46) #[] #[pt bo 0]] w [.blk bo 51 cs0] (fun _ : Option Nat × Nat => True) (fun _ => iv 0) (fun x => [.blk bo 51 [iv (own.getD i default).alg, sl x.1 (own.getD i default).key.length x.2], .row x.1 5 1 (own.getD i default).key.length x.2 ((own.getD i default).key.map u8)]) := by
  have hi := (lookM_spec hok.pos hl0).1
  refine enUR hL Tryz.func45 fun K hK => ?_
  simp only [List.cons_append, List.nil_append]
  refine .sr fun K1 n1 r1 => ?_
  refine .v .asI ?_
  refine .nl n1 ?_
  refine .seq fun K2 n2 r2 => ?_
  refine .sr fun K3 n3 r3 => ?_
  refine .v .mvP ?_
  refine .v .eqNil ?_
  refine .nl n3 ?_
  refine .cF' (hp := rfl) (h := ?_)
  refine .skip ?_
  refine n2 _ _ _ ?_
  refine .sr fun K4 n4 r4 => ?_
  refine .v .mvP ?_
  refine .v .nilCheck ?_
  refine .v .fa ?_
  refine .v .load1z ?_
  refine .v .mvI ?_
  refine .u (.pc rfl fun wc hw => by have h9 := c_look wc tb pb n n ps (hw.hasP (A := tabL tb pb n n ps) (R := .blk bo 51 cs0 :: (sesA sb tb ob n own ++ own.map sesH)) (by exact (List.perm_middle (l₁ := [_, _]).symm))) hok h h63; rw [hl0] at h9; exact h9) ?_
  refine .v .mvU ?_
  refine .v .extract ?_
  refine .v .extract ?_
  refine .v .asI ?_
  refine .v .asI ?_
  refine .nl n4 ?_
  refine .seq fun K5 n5 r5 => ?_
  refine .sr fun K6 n6 r6 => ?_
  refine .v .mvI ?_
  refine .v .eql ?_
  refine .nl n6 ?_
  refine .cT (hp := (by omega)) (h := ?_)
  refine .region ?_
  refine .v .mvF ?_
  refine .v .mvP ?_
  refine .v .nilCheck ?_
  refine .v .fa ?_
  refine .v .load1z ?_
  refine .v .mvI ?_
  refine .v (.xsw (i := i) (hn := by omega)) ?_
  refine .w (.ucV (sessL sb tb pb ob n ps own) (fst := []) (cp := [pt bo 0]) rfl rfl (fun wc hw => c_get1 wc bo cs0 hc0 sb tb pb ob n ps own hw.has hok hon hkl i hi) (hp := List.Perm.refl _) (hD := by intro k hk; exact .inl hk)) (hne := ⟨(some w.heap.size, 0), trivial, by intro k hk; simp only [ids_blk, ids_row, ids_nil, List.mem_cons, List.not_mem_nil, or_false] at hk; rcases hk with rfl | rfl; exact .inl (by simp); exact .inr (Nat.le_refl _)⟩) fun x29 hx29 => ?_
  try simp only [List.cons_append, List.nil_append]
  refine .nil ?_
  refine n5 _ _ _ ?_
  refine .sr fun K7 n7 r7 => ?_
  refine .v .mvI ?_
  refine .v .asI ?_
  refine .nl n7 ?_
  refine .ret ?_
  refine (hK _ _ _ ⟨31, rfl⟩ (Res.o ⟨31, rfl⟩) ?_).1
  exact fun w' h => ⟨x29, trivial, hx29.2, rfl, h.sub (by exact List.sublist_append_left _ (sessL sb tb pb ob n ps own))⟩

theorem c_at_n (w : World) (sb tb pb ob n : Nat) (ps : List Plc) (own : List Ses) (hL : Has w (sessL sb tb pb ob n ps own)) (hok : PlOk n ps) (hon : own.length = n) (h : Int) (h63 : h ≤ 9223372036854775807) (fv : FuncId) (cp : List Value) (hl0 : lookM n ps h = none) : Pure Tryz.prog 45 #[pt sb 0, iv h, .func (.func fv) #[] cp.toArray] w (iv 3) := by
  refine enR hL Tryz.func45 fun K hK => ?_
  refine .sr fun K1 n1 r1 => ?_
  refine .v .asI ?_
  refine .nl n1 ?_
  refine .seq fun K2 n2 r2 => ?_
  refine .sr fun K3 n3 r3 => ?_
  refine .v .mvP ?_
  refine .v .eqNil ?_
  refine .nl n3 ?_
  refine .cF' (hp := rfl) (h := ?_)
  refine .skip ?_
  refine n2 _ _ _ ?_
  refine .sr fun K4 n4 r4 => ?_
  refine .v .mvP ?_
  refine .v .nilCheck ?_
  refine .v .fa ?_
  refine .v .load1z ?_
  refine .v .mvI ?_
  refine .u (.pc rfl fun wc hw => by have h9 := c_look wc tb pb n n ps (hw.hasP (A := tabL tb pb n n ps) (R := sesA sb tb ob n own ++ own.map sesH) (List.Perm.refl _)) hok h h63; rw [hl0] at h9; exact h9) ?_
  refine .v .mvU ?_
  refine .v .extract ?_
  refine .v .extract ?_
  refine .v .asI ?_
  refine .v .asI ?_
  refine .nl n4 ?_
  refine .seq fun K5 n5 r5 => ?_
  refine .sr fun K6 n6 r6 => ?_
  refine .v .mvI ?_
  refine .v .eql ?_
  refine .nl n6 ?_
  refine .cF (hp := (by omega)) (h := ?_)
  refine .skip ?_
  refine n5 _ _ _ ?_
  refine .sr fun K7 n7 r7 => ?_
  refine .v .mvI ?_
  refine .v .asI ?_
  refine .nl n7 ?_
  refine .ret ?_
  refine (hK _ _ _ ⟨31, rfl⟩ (Res.o ⟨31, rfl⟩) ?_).1
  exact fun w' h => ⟨rfl, h.clear⟩

theorem c_get_y (w : World) (sb tb pb ob n : Nat) (ps : List Plc) (own : List Ses) (hL : Has w (sessL sb tb pb ob n ps own)) (hok : PlOk n ps) (hon : own.length = n) (hkl : ∀ s ∈ own, s.key.length ≤ 1099511627776) (h : Int) (h63 : h ≤ 9223372036854775807) (i : Nat) (hl0 : lookM n ps h = some i) : Makes Tryz.prog 24 #[pt sb 0, iv h] w (fun _ => True) (fun x : Option Nat × Nat => .tuple #[.agg [iv (own.getD i default).alg, sl x.1 (own.getD i default).key.length x.2].toArray, iv 0]) (fun x => [.row x.1 5 1 (own.getD i default).key.length x.2 ((own.getD i default).key.map u8)]) := by
  refine enR hL Tryz.func24 fun K hK => ?_
  refine .sr fun K1 n1 r1 => ?_
  refine .m .alloc fun b4 hb4 => ?_
  refine .v .asI ?_
  refine .nl n1 ?_
  refine .sr fun K2 n2 r2 => ?_
  refine .m .alloc fun b6 hb6 => ?_
  refine .nl n2 ?_
  refine .sr fun K3 n3 r3 => ?_
  refine .v .mvP ?_
  refine .v .mvI ?_
  refine .v (.makeFunc' (fv := []) (cv := [.pointer _]) rfl rfl) ?_
  refine .w (.uc (.blk b4 51 [iv 0, .slice none 0 0] :: sessL sb tb pb ob n ps own) rfl (fun wc hw => c_at_get wc b6 [iv 0, .slice none 0 0] rfl sb tb pb ob n ps own ((hw.has.perm (List.Perm.swap _ _ _)).sub (List.sublist_cons_self _ _) |>.perm (List.Perm.refl _)) hok hon hkl h h63 i hl0) (hp := List.Perm.refl _) (hD := by intro k hk; simp only [ids_blk, ids_nil, List.mem_singleton] at hk; subst hk; exact .inr hb6)) (hne := ⟨(some w.heap.size, 0), trivial, (by intro k hk; simp only [ids_blk, ids_row, ids_nil, List.mem_cons, List.not_mem_nil, or_false] at hk; rcases hk with rfl | rfl; exact .inr hb6; exact .inr (Nat.le_refl _))⟩) fun x hx => ?_
  try simp only [List.cons_append, List.nil_append]
  refine .v .asI ?_
  refine .nl n3 ?_
  refine .sr fun K4 n4 r4 => ?_
  refine .v .loadAz ?_
  refine .v .mvI ?_
  refine .s (.storeN (vs := [iv (own.getD i default).alg, sl x.1 (own.getD i default).key.length x.2]) (h1 := (by intro v hv; simp only [List.mem_cons, List.not_mem_nil, or_false] at hv; rcases hv with rfl | rfl <;> rfl))) ?_
  refine .v .asI ?_
  refine .nl n4 ?_
  refine .ret ?_
  refine (hK _ _ _ ⟨14, rfl⟩ (Res.d ⟨14, rfl⟩) ?_).1
  exact fun w' h => ⟨x, trivial, NewH.row (fun k hk => (hx.2 k (by rw [ids_blk, ids_rowm, hk]; simp)).resolve_left (by simp)) NewH.nil, rfl, h.sb⟩

theorem c_get_n (w : World) (sb tb pb ob n : Nat) (ps : List Plc) (own : List Ses) (hL : Has w (sessL sb tb pb ob n ps own)) (hok : PlOk n ps) (hon : own.length = n) (h : Int) (h63 : h ≤ 9223372036854775807) (hl0 : lookM n ps h = none) : Pure Tryz.prog 24 #[pt sb 0, iv h] w (.tuple #[.agg [iv 0, .slice none 0 0].toArray, iv 3]) := by
  refine enR hL Tryz.func24 fun K hK => ?_
  refine .sr fun K1 n1 r1 => ?_
  refine .m .alloc fun b4 hb4 => ?_
  refine .v .asI ?_
  refine .nl n1 ?_
  refine .sr fun K2 n2 r2 => ?_
  refine .m .alloc fun b6 hb6 => ?_
  refine .nl n2 ?_
  refine .sr fun K3 n3 r3 => ?_
  refine .v .mvP ?_
  refine .v .mvI ?_
  refine .v (.makeFunc' (fv := []) (cv := [.pointer _]) rfl rfl) ?_
  refine .u (.pc rfl fun wc hw => c_at_n wc sb tb pb ob n ps own (hw.has.sub ((List.sublist_cons_self _ _).trans (List.sublist_cons_self _ _))) hok hon h h63 _ [pt b6 0] hl0) ?_
  refine .v .asI ?_
  refine .nl n3 ?_
  refine .sr fun K4 n4 r4 => ?_
  refine .v .loadAz ?_
  refine .v .mvI ?_
  refine .s .storeN ?_
  refine .v .asI ?_
  refine .nl n4 ?_
  refine .ret ?_
  refine (hK _ _ _ ⟨14, rfl⟩ (Res.d ⟨14, rfl⟩) ?_).1
  exact fun w' h => ⟨rfl, h.clear⟩

theorem c_end1 (w : World) (b2 b3 : Nat) (h : Int) (h63 : h ≤ 9223372036854775807) (sb tb pb ob n : Nat) (ps : List Plc) (own : List Ses) (hL : Has w (sessL sb tb pb ob n ps own ++ [.blk b3 3 [iv h], .blk b2 46 [pt sb 0]])) (hok : PlOk n ps) (hon : own.length = n) (i : Nat) (hl0 : lookM n ps h = some i) : Upd Tryz.prog 48 #[pt ob (i * 2), pt b2 0, pt b3 0] w (sessL sb tb pb ob n ps own) (fun _ : Unit => True) (fun _ => .tuple #[]) (fun _ => sessL sb tb pb ob n (closeP ps i) (own.set i default)) := by
  have hi := (lookM_spec hok.pos hl0).1
  refine enUR hL Tryz.func48 fun K hK => ?_
  obtain ⟨⟨ht, hp, hs, ho⟩, hk⟩ := sess_own sb tb pb ob n ps own
  generalize ids (sessL sb tb pb ob n ps own) = F0 at *
  obtain ⟨R, hp1, hp2⟩ := perm_at sesH own i (by omega)
  refine .pm (.blk tb 125 [sl (some pb) n n] :: .row (some pb) 128 2 n n (ps.flatMap plV) :: sesH (own.getD i default) :: .blk sb 86 [pt tb 0, sl (some ob) n n] :: .row (some ob) 51 2 n n (own.flatMap sesV) :: .blk b3 3 [iv h] :: .blk b2 46 [pt sb 0] :: R) ?_ (perm2 (A := tabL tb pb n n ps) (C := sesA sb tb ob n own) (B := [.blk b3 3 [iv h], .blk b2 46 [pt sb 0]]) hp1)
  refine .sr fun K1 n1 r1 => ?_
  refine .v .mvP ?_
  refine .v .nilCheck ?_
  refine .v .fa ?_
  refine .v (.load1z (hv := (flat_get sesV_len own i 1 (by omega) (by decide)).trans rfl)) ?_
  refine .s (.clr (hw := fun k hk' => .inl (hk _ (getD_mem (by omega)) k hk'))) ?_
  refine .nl n1 ?_
  refine .sr fun K2 n2 r2 => ?_
  refine .v .mvP ?_
  refine .v (.bs (r := [.int _ _, .slice _ _ _])) ?_
  refine .v .nilCheck ?_
  refine .s (.sta (vs := sesV default) (hl := by rfl) (hle := by rw [flat_len sesV_len]; show i * 2 + 2 ≤ _; omega) (h1 := sesV_one _)) ?_
  refine .nl n2 ?_
  refine .draw hmix (kdl [0, 1, 1, 0, 0, 0]) ((Tr w F0 [.blk sb 86 [pt tb 0, sl (some ob) n n], .blk b3 3 [iv h], .blk b2 46 [pt sb 0]])) (fun _ h => h.drawn _) fun N2 hN2 => ?_
  refine .l 0 rfl .load1z ?_
  refine .q 1 rfl .nilCheck ?_
  refine .q 2 rfl .fa ?_
  refine .l 3 rfl .load1z ?_
  refine .l 4 rfl .load1z ?_
  refine .rk 5 rfl (.uc (_ :: .blk sb 86 [pt tb 0, sl (some ob) n n] :: .row (some ob) 51 2 n n ((own.flatMap sesV).take (i * 2) ++ sesV default ++ (own.flatMap sesV).drop (i * 2 + (sesV default).length)) :: .blk b3 3 [iv h] :: .blk b2 46 [pt sb 0] :: R) rfl (fun wc hw => c_close_y wc tb pb n n ps (hw.hasP (List.Perm.refl _)) hok h h63 i hl0) (hp := List.Perm.refl _) (hD := own_tab ht hp)) (hne := ⟨(), trivial, own_tab ht hp⟩) fun _ _ => ?_
  try simp only [List.cons_append, List.nil_append]
  refine G.done (by kernel_rfl) (fun _ h => h.sub (by repeat (first | exact List.Sublist.refl _ | exact List.nil_sublist _ | apply List.Sublist.cons_cons | apply List.Sublist.cons))) (hN2 _ _ _ ?_)
  refine (hK _ _ _ ⟨17, rfl⟩ (Res.none rfl) ?_).2
  exact fun w' h => ⟨(), trivial, sess_out ht hp hs ho (fun s hs k hk' => mem_setS (Q := fun s => ∀ k, s.ao = some k → k ∈ F0 ∨ w.heap.size ≤ k) hs (fun s hs k hk' => .inl (hk s hs k hk')) (fun k hk' => by cases hk') k hk'), rfl, by
    have e := flat_set sesV_len own i default (by omega)
    rw [show (sesV default).length = 2 from rfl, e] at h
    have h2 := Tr.addRow (h.sub (L' := tabL tb pb n n (closeP ps i) ++ (sesA sb tb ob n (own.set i default) ++ R)) (by repeat (first | exact List.Sublist.refl _ | apply List.Sublist.cons_cons | apply List.Sublist.cons))) 5 1
    exact h2.perm ((List.perm_middle (l₁ := tabL tb pb n n (closeP ps i) ++ sesA sb tb ob n (own.set i default)) (l₂ := R)).symm.trans (((hp2 default).symm).append_left _))⟩

theorem c_at_end (w : World) (b2 b3 : Nat) (h : Int) (h63 : h ≤ 9223372036854775807) (sb tb pb ob n : Nat) (ps : List Plc) (own : List Ses) (hL : Has w (sessL sb tb pb ob n ps own ++ [.blk b3 3 [iv h], .blk b2 46 [pt sb 0]])) (hok : PlOk n ps) (hon : own.length = n) (i : Nat) (hl0 : lookM n ps h = some i) : Upd Tryz.prog 45 #[pt sb 0, iv h, .func (.func 48) #[] #[pt b2 0, pt b3 0]] w (sessL sb tb pb ob n ps own) (fun _ : Unit => True) (fun _ => iv 0) (fun _ => sessL sb tb pb ob n (closeP ps i) (own.set i default)) := by
  have hi := (lookM_spec hok.pos hl0).1
  refine enUR hL Tryz.func45 fun K hK => ?_
  simp only [List.cons_append, List.nil_append]
  refine .sr fun K1 n1 r1 => ?_
  refine .v .asI ?_
  refine .nl n1 ?_
  refine .seq fun K2 n2 r2 => ?_
  refine .sr fun K3 n3 r3 => ?_
  refine .v .mvP ?_
  refine .v .eqNil ?_
  refine .nl n3 ?_
  refine .cF' (hp := rfl) (h := ?_)
  refine .skip ?_
  refine n2 _ _ _ ?_
  refine .sr fun K4 n4 r4 => ?_
  refine .v .mvP ?_
  refine .v .nilCheck ?_
  refine .v .fa ?_
  refine .v .load1z ?_
  refine .v .mvI ?_
  refine .u (.pc rfl fun wc hw => by have h9 := c_look wc tb pb n n ps (hw.hasP (A := tabL tb pb n n ps) (R := sesA sb tb ob n own ++ (own.map sesH ++ [.blk b3 3 [iv h], .blk b2 46 [pt sb 0]])) (List.Perm.refl _)) hok h h63; rw [hl0] at h9; exact h9) ?_
  refine .v .mvU ?_
  refine .v .extract ?_
  refine .v .extract ?_
  refine .v .asI ?_
  refine .v .asI ?_
  refine .nl n4 ?_
  refine .seq fun K5 n5 r5 => ?_
  refine .sr fun K6 n6 r6 => ?_
  refine .v .mvI ?_
  refine .v .eql ?_
  refine .nl n6 ?_
  refine .cT (hp := (by omega)) (h := ?_)
  refine .region ?_
  refine .v .mvF ?_
  refine .v .mvP ?_
  refine .v .nilCheck ?_
  refine .v .fa ?_
  refine .v .load1z ?_
  refine .v .mvI ?_
  refine .v (.xsw (i := i) (hn := by omega)) ?_
  refine .w (.ucV [.blk b3 3 [iv h], .blk b2 46 [pt sb 0]] (fst := []) (cp := [pt b2 0, pt b3 0]) rfl rfl (fun wc hw => c_end1 wc b2 b3 h h63 sb tb pb ob n ps own hw.has hok hon i hl0) (hp := List.Perm.refl _) (hD := by intro k hk; exact .inl hk)) (hne := ⟨(), trivial, (by obtain ⟨⟨ht, hp, hs, ho⟩, hk⟩ := sess_own sb tb pb ob n ps own; exact sess_out (w := w) ht hp hs ho (fun s hs k hk' => mem_setS (Q := fun s => ∀ k, s.ao = some k → k ∈ ids (sessL sb tb pb ob n ps own) ∨ w.heap.size ≤ k) hs (fun s hs k hk' => .inl (hk s hs k hk')) (fun k hk' => by cases hk') k hk'))⟩) fun _ hx29 => ?_
  try simp only [List.cons_append, List.nil_append]
  refine .nil ?_
  refine n5 _ _ _ ?_
  refine .sr fun K7 n7 r7 => ?_
  refine .v .mvI ?_
  refine .v .asI ?_
  refine .nl n7 ?_
  refine .ret ?_
  refine (hK _ _ _ ⟨31, rfl⟩ (Res.o ⟨31, rfl⟩) ?_).1
  exact fun w' h => ⟨(), trivial, hx29.2, rfl, h.sub (List.sublist_append_left _ _)⟩

theorem c_end_y (w : World) (h : Int) (h63 : h ≤ 9223372036854775807) (sb tb pb ob n : Nat) (ps : List Plc) (own : List Ses) (hL : Has w (sessL sb tb pb ob n ps own)) (hok : PlOk n ps) (hon : own.length = n) (i : Nat) (hl0 : lookM n ps h = some i) : Upd Tryz.prog 26 #[pt sb 0, iv h] w (sessL sb tb pb ob n ps own) (fun _ : Unit => True) (fun _ => iv 0) (fun _ => sessL sb tb pb ob n (closeP ps i) (own.set i default)) := by
  refine enU hL Tryz.func26 fun K hK => ?_
  refine .sr fun K1 n1 r1 => ?_
  refine .m (.box1 (v := .pointer _) (hv := rfl)) fun b2 hb2 => ?_
  refine .m (.box1 (v := .int _ _) (hv := rfl)) fun b3 hb3 => ?_
  refine .v .asI ?_
  refine .nl n1 ?_
  refine .sr fun K2 n2 r2 => ?_
  refine .v .load1z ?_
  refine .v .load1z ?_
  refine .v (.makeFunc' (fv := []) (cv := [.pointer _, .pointer _]) rfl rfl) ?_
  refine .w (.uc [.blk b3 3 [iv h], .blk b2 46 [pt sb 0]] rfl (fun wc hw => c_at_end wc b2 b3 h h63 sb tb pb ob n ps own (hw.has.perm (List.perm_append_comm (l₁ := ([.blk b3 3 [iv h], .blk b2 46 [pt sb 0]] : List Hl)))) hok hon i hl0) (hp := List.perm_append_comm (l₁ := ([.blk b3 3 [iv h], .blk b2 46 [pt sb 0]] : List Hl))) (hD := by intro k hk; exact .inl hk)) (hne := ⟨(), trivial, (by obtain ⟨⟨ht, hp, hs, ho⟩, hk⟩ := sess_own sb tb pb ob n ps own; exact sess_out (w := w) ht hp hs ho (fun s hs k hk' => mem_setS (Q := fun s => ∀ k, s.ao = some k → k ∈ ids (sessL sb tb pb ob n ps own) ∨ w.heap.size ≤ k) hs (fun s hs k hk' => .inl (hk s hs k hk')) (fun k hk' => by cases hk') k hk'))⟩) fun _ hx8 => ?_
  try simp only [List.cons_append, List.nil_append]
  refine .v .asI ?_
  refine .nl n2 ?_
  refine .ret ?_
  refine (hK _ _ _ ⟨9, rfl⟩ (Res.o ⟨9, rfl⟩) ?_).1
  exact fun w' h => ⟨(), trivial, hx8.2, rfl, h.sub (List.sublist_append_left _ _)⟩

theorem c_shandles (w : World) (sb tb pb ob n : Nat) (ps : List Plc) (own : List Ses) (hL : Has w (sessL sb tb pb ob n ps own)) (hok : PlOk n ps) (hon : own.length = n) : Makes Tryz.prog 27 #[pt sb 0] w (fun _ => True) (fun x : Option Nat × Nat => sl x.1 (handlesTo n ps n).length x.2) (fun x => [.row x.1 3 1 (handlesTo n ps n).length x.2 ((handlesTo n ps n).map iv)]) := by
  refine enR hL Tryz.func27 fun K hK => ?_
  refine .sr fun K1 n1 r1 => ?_
  refine .v .asS ?_
  refine .nl n1 ?_
  refine .seq fun K2 n2 r2 => ?_
  refine .sr fun K3 n3 r3 => ?_
  refine .v .mvP ?_
  refine .v .eqNil ?_
  refine .nl n3 ?_
  refine .cF' (hp := rfl) (h := ?_)
  refine .skip ?_
  refine n2 _ _ _ ?_
  refine .sr fun K4 n4 r4 => ?_
  refine .v .mvP ?_
  refine .v .nilCheck ?_
  refine .v .fa ?_
  refine .v .load1z ?_
  refine .w (.mc rfl fun wc hw => c_handles wc tb pb n n ps (hw.hasP (A := tabL tb pb n n ps) (R := sesA sb tb ob n own ++ own.map sesH) (List.Perm.refl _)) hok) fun x9 hx9 => ?_
  try simp only [List.cons_append, List.nil_append]
  refine .v .asS ?_
  refine .nl n4 ?_
  refine .ret ?_
  refine (hK _ _ _ ⟨10, rfl⟩ (Res.o ⟨10, rfl⟩) ?_).1
  exact fun w' h => ⟨x9, trivial, hx9.2, rfl, h.sb⟩

end Go.Proofs.YtoclfghkgpcniaaGreatDoor

/- Walks of functions. -/
import Derived.Test.YtoclfghkgpcniaaGreatDoorFn
set_option maxRecDepth 10000
open Go.RowKit Go.Eng
set_option linter.unusedSimpArgs false
set_option linter.unusedVariables false
namespace Go.Proofs.YtoclfghkgpcniaaGreatDoor

theorem ne_new (w : World) (n : Nat) : ∃ x : Nat × Nat × Nat × Nat, True ∧ NewH w (sessL x.1 x.2.1 x.2.2.1 x.2.2.2 n (List.replicate n default) (List.replicate n default)) :=
  ⟨(w.heap.size, w.heap.size, w.heap.size, w.heap.size), trivial, NewH.blk (Nat.le_refl _) (NewH.row1 (Nat.le_refl _) (NewH.blk (Nat.le_refl _) (NewH.row1 (Nat.le_refl _) (fun h hh k hk => by
    obtain ⟨T, sz, rfl⟩ := zero_ses n h hh
    cases hk))))⟩
theorem newH_tab {w : World} {F : List Nat} {tb pb n c : Nat} {ps : List Plc} (h : NewH w (tabL tb pb n c ps)) (ps' : List Plc) : ∀ k ∈ ids (tabL tb pb n c ps'), Own w F k := newH_own (N := tabL tb pb n c ps') (fun x hx k hk => by
  simp only [tabL, List.mem_cons, List.not_mem_nil, or_false] at hx
  rcases hx with rfl | rfl
  · exact h _ (List.mem_cons_self) k hk
  · exact h _ (List.mem_cons_of_mem _ List.mem_cons_self) k hk)

theorem c_awake19 (w : World) : Pure Tryz.prog 25 #[] w (.bool true) := by
  refine en0 Tryz.func25 fun K hK => ?_
  refine .sr fun K1 n1 r1 => ?_
  refine .v .asB ?_
  refine .nl n1 ?_
  refine .sr fun K2 n2 r2 => ?_
  refine .w (.mc rfl fun wc hw => c_newtable wc 2 (by decide) (by decide)) fun x11 hx11 => ?_
  simp only [List.append_nil]
  try simp only [List.cons_append, List.nil_append]
  refine .v .mvU ?_
  refine .v .extract ?_
  refine .v .extract ?_
  refine .v .asP ?_
  refine .v .asI ?_
  refine .nl n2 ?_
  refine .sr fun K3 n3 r3 => ?_
  refine .v .mvP ?_
  refine .w (.uc [] rfl (fun wc hw => c_open_y wc x11.1 x11.2 2 2 (List.replicate 2 default) hw.has (PlOk.rep (by decide) (by decide)) 0 rfl) (hp := by rw [List.append_nil]) (hD := newH_tab hx11.2 _)) (hne := ⟨(), trivial, newH_tab hx11.2 _⟩) fun _ _ => ?_
  try simp only [List.append_nil]
  try simp only [List.cons_append, List.nil_append]
  refine .v .mvU ?_
  refine .v .extract ?_
  refine .v .extract ?_
  refine .v .asI ?_
  refine .v .asI ?_
  refine .nl n3 ?_
  refine .sr fun K4 n4 r4 => ?_
  refine .v .mvP ?_
  refine .w (.uc [] rfl (fun wc hw => c_open_y wc x11.1 x11.2 2 2 (openP (List.replicate 2 default) 0) hw.has ((PlOk.rep (by decide) (by decide)).open (i := 0) (by decide)) 1 rfl) (hp := by rw [List.append_nil]) (hD := newH_tab hx11.2 _)) (hne := ⟨(), trivial, newH_tab hx11.2 _⟩) fun _ _ => ?_
  try simp only [List.append_nil]
  try simp only [List.cons_append, List.nil_append]
  refine .v .mvU ?_
  refine .v .extract ?_
  refine .v .extract ?_
  refine .v .asI ?_
  refine .v .asI ?_
  refine .nl n4 ?_
  refine .sr fun K5 n5 r5 => ?_
  refine .v .mvP ?_
  refine .w (.uc [] rfl (fun wc hw => c_close_y wc x11.1 x11.2 2 2 (openP (openP (List.replicate 2 default) 0) 1) hw.has (((PlOk.rep (by decide) (by decide)).open (i := 0) (by decide)).open (i := 1) (by decide)) 1 (by decide) 0 (by decide)) (hp := by rw [List.append_nil]) (hD := newH_tab hx11.2 _)) (hne := ⟨(), trivial, newH_tab hx11.2 _⟩) fun _ _ => ?_
  try simp only [List.append_nil]
  try simp only [List.cons_append, List.nil_append]
  refine .v .asI ?_
  refine .nl n5 ?_
  refine .sr fun K6 n6 r6 => ?_
  refine .v .mvP ?_
  refine .w (.uc [] rfl (fun wc hw => c_open_y wc x11.1 x11.2 2 2 (closeP (openP (openP (List.replicate 2 default) 0) 1) 0) hw.has ((((PlOk.rep (by decide) (by decide)).open (i := 0) (by decide)).open (i := 1) (by decide)).close (i := 0) (by decide) (by decide)) 0 rfl) (hp := by rw [List.append_nil]) (hD := newH_tab hx11.2 _)) (hne := ⟨(), trivial, newH_tab hx11.2 _⟩) fun _ _ => ?_
  try simp only [List.append_nil]
  try simp only [List.cons_append, List.nil_append]
  refine .v .mvU ?_
  refine .v .extract ?_
  refine .v .extract ?_
  refine .v .asI ?_
  refine .v .asI ?_
  refine .nl n6 ?_
  refine .sr fun K7 n7 r7 => ?_
  refine .v .mvI ?_
  refine .v .eql ?_
  refine .v (.mvT (hp := by decide)) ?_
  refine .gy .mvI ?_
  refine .gy .eql ?_
  refine .v (.pick_t rfl (v := .bool _) rfl) ?_
  refine .v (.mvT (hp := by decide)) ?_
  refine .gy .mvI ?_
  refine .gy .eql ?_
  refine .v (.pick_t rfl (v := .bool _) rfl) ?_
  refine .v (.mvT (hp := by decide)) ?_
  refine .gy .mvI ?_
  refine .gy .eql ?_
  refine .v (.pick_t rfl (v := .bool _) rfl) ?_
  refine .v (.mvT (hp := by decide)) ?_
  refine .gy .mvI ?_
  refine .gy .eql ?_
  refine .v (.pick_t rfl (v := .bool _) rfl) ?_
  refine .v (.mvT (hp := by decide)) ?_
  refine .gy .mvI ?_
  refine .gy .eql ?_
  refine .v (.pick_t rfl (v := .bool _) rfl) ?_
  refine .v (.mvT (hp := by decide)) ?_
  refine .gy .mvI ?_
  refine .gy .eql ?_
  refine .v (.pick_t rfl (v := .bool _) rfl) ?_
  refine .v (.mvT (hp := by decide)) ?_
  refine .gy .mvI ?_
  refine .gy .eql ?_
  refine .v (.pick_t rfl (v := .bool _) rfl) ?_
  refine .v .asB ?_
  refine .nl n7 ?_
  refine .ret ?_
  refine (hK _ _ _ ⟨61, rfl⟩ (Res.o ⟨61, rfl⟩) ?_).1
  exact fun w' h => ⟨by rfl, h.clear⟩

theorem check_hmac (k : Nat) (h1 : 1 ≤ k) (h2 : k ≤ 100) : checkM 2 false k 0 0 = 0 := by
  have e : inM (k : Int) [((1 : Int), (100 : Int))] = true := by simp [inM]; omega
  show (if inM (k : Int) [((1 : Int), (100 : Int))] = false then (5 : Int) else _) = 0
  rw [e]; rfl

theorem c_kept (w : World) (K : Option Addr) (key : List B8) (nk ck : Nat) (hKk : Rw w K (key.map u8)) (hnk : nk = key.length) (by9 : B8) : Pure Tryz.prog 9 #[.slice K nk ck, u8 by9] w (.bool true) := by
  subst hnk
  refine en0 Tryz.func9 fun K hK => ?_
  refine .sr fun K1 n1 r1 => ?_
  refine .v .asB ?_
  refine .nl n1 ?_
  refine .seq fun K2 n2 r2 => ?_
  refine .sr fun K3 n3 r3 => ?_
  refine .v .mvS ?_
  refine .v .len1 ?_
  refine .v .lss ?_
  refine .vp .mvB (fun hg1_3 => ?_) fun hg1_3 => ?_
  ·
    refine .gn ?_
    refine .gn ?_
    refine .gn ?_
    refine .v (.pick_t rfl (v := .bool _) rfl) ?_
    refine .nl n3 ?_
    refine .cond_t rfl ?_
    refine .sr fun K4 n4 r4 => ?_
    refine .v .asB ?_
    refine .nl n4 ?_
    refine .ret ?_
    refine r2 _ _ _ _ (by simp) ?_
    refine (hK _ _ _ ⟨105, rfl⟩ (Res.o ⟨105, rfl⟩) ?_).1
    exact fun w' h => ⟨rfl, h.clear⟩
  ·
    refine .gy .mvS ?_
    refine .gy .len1 ?_
    refine .gy .gtr ?_
    refine .v (.pick_f rfl (v := .bool _) rfl) ?_
    refine .nl n3 ?_
    refine .cd rfl (fun h23 => ?_) fun h23 => ?_
    ·
      refine .sr fun K5 n5 r5 => ?_
      refine .v .asB ?_
      refine .nl n5 ?_
      refine .ret ?_
      refine r2 _ _ _ _ (by simp) ?_
      refine (hK _ _ _ ⟨105, rfl⟩ (Res.o ⟨105, rfl⟩) ?_).1
      exact fun w' h => ⟨rfl, h.clear⟩
    ·
      refine .skip ?_
      refine n2 _ _ _ ?_
      refine .sr fun K6 n6 r6 => ?_
      refine .w (.mc rfl fun wc hw => c_new wc 3 (by decide) (by decide)) (hne := (ne_new w 3)) fun x25 hx25 => ?_
      simp only [List.append_nil]
      try simp only [List.cons_append, List.nil_append]
      refine .v .mvU ?_
      refine .v .extract ?_
      refine .v .extract ?_
      refine .v .asP ?_
      refine .v .asI ?_
      refine .nl n6 ?_
      refine .sr fun K7 n7 r7 => ?_
      refine .m .buildSlice0 fun b28 hb28 => ?_
      refine .v .mvS ?_
      refine .w (.appS (ao := some b28) (hr := RdS.of hKk) (hl := by rw [List.length_map, Nat.mul_one])) fun p30 hp30 => ?_
      simp only [List.nil_append]
      have hp30 : New w p30.1 := hp30.resolve_left (by simp)
      refine .v .asS ?_
      refine .nl n7 ?_
      refine .sr fun K8 n8 r8 => ?_
      refine .v .mvP ?_
      refine .v .mvS ?_
      refine .w (.uc [.row (some p30.1) 5 1 (0 + key.length) p30.2 (key.map u8)] rfl (fun wc hw => c_add_y wc x25.1 x25.2.1 x25.2.2.1 x25.2.2.2 3 (List.replicate 3 default) (List.replicate 3 default) (hw.has.sub (List.sublist_cons_self _ _)) (PlOk.rep (by decide) (by decide)) rfl 2 (some ⟨p30.1, 0, none⟩) key _ p30.2 (hw.rwRow (ao := some p30.1) AtR.ha.mem) (Nat.zero_add _) (by omega) (fun a ha => by cases ha; exact hw.has.notin rfl) (by rw [check_hmac _ (by omega) (by omega)]; decide) 0 rfl) (hp := List.perm_append_comm (l₁ := ([.row (some p30.1) 5 1 (0 + key.length) p30.2 (key.map u8)] : List Hl))) (hD := newH_own hx25.2)) (hne := ⟨(none, 0), trivial, newH_own (N := sessL x25.1 x25.2.1 x25.2.2.1 x25.2.2.2 3 (List.replicate 3 default) (List.replicate 3 default)) hx25.2⟩) fun x34 hx34 => ?_
      refine .pm (.row (some p30.1) 5 1 (0 + key.length) p30.2 (key.map u8) :: sessL x25.1 x25.2.1 x25.2.2.1 x25.2.2.2 3 (openP (List.replicate 3 default) 0) [(⟨2, key, x34.1, x34.2⟩ : Ses), default, default]) ?_ (List.perm_append_comm (l₂ := [_]))
      try simp only [List.cons_append, List.nil_append]
      refine .v .mvU ?_
      refine .v .extract ?_
      refine .v .extract ?_
      refine .v .asI ?_
      refine .v .asI ?_
      refine .nl n8 ?_
      refine .seq fun K9 n9 r9 => ?_
      refine .sr fun K10 n10 r10 => ?_
      refine .v .mvI ?_
      refine .v .neq ?_
      refine .v (.mvN (hp := by decide)) ?_
      refine .gy .mvI ?_
      refine .gy .neq ?_
      refine .v (.pick_f rfl (v := .bool _) rfl) ?_
      refine .nl n10 ?_
      refine .cF (hp := by decide) (h := ?_)
      refine .skip ?_
      refine n9 _ _ _ ?_
      refine .seq fun K11 n11 r11 => ?_
      refine .sr fun K12 n12 r12 => ?_
      refine .v .asI ?_
      refine .nl n12 ?_
      refine .block fun K13 n13 x13 r13 => ?_
      refine .loopI 1 [10, 43, 44, 45, 46, 47, 48, 49, 50, 51, 52, 53, 54, 55] [10] (fun (k : Nat) => k ≤ key.length) (fun (k : Nat) => [iv k]) (fun (k : Nat) => Tr w [] (.row (some p30.1) 5 1 (0 + key.length) p30.2 ((turnTo (xbG key by9) key k).map u8) :: sessL x25.1 x25.2.1 x25.2.2.1 x25.2.2.2 3 (openP (List.replicate 3 default) 0) [(⟨2, key, x34.1, x34.2⟩ : Ses), default, default])) (fun (k : Nat) => key.length - k) (0) (by omega) (fun _ => rfl) rfl (fun _ h => by rw [turnTo_zero]; exact h) ?_
      intro k hI14 J14 K14 n14 r14
      try dsimp only at hI14 n14 ⊢
      refine .seq fun K15 n15 r15 => ?_
      refine .sr fun K16 n16 r16 => ?_
      refine .v .mvI ?_
      refine .v .mvS ?_
      refine .v .len1 ?_
      refine .v .lss ?_
      refine .nl n16 ?_
      refine .cd rfl (fun h46 => ?_) fun h46 => ?_
      ·
        refine .skip ?_
        refine n15 _ _ _ ?_
        refine .seq fun K17 n17 r17 => ?_
        refine .block fun K18 n18 x18 r18 => ?_
        refine .region ?_
        refine .v .mvS ?_
        refine .v .mvI ?_
        refine .v (.xs (i := k) (hn := by omega)) ?_
        refine .v (.load1z (hv := getmap (by rw [turnTo_len _ _ _ (by omega)]; omega))) ?_
        refine .v .mvI ?_
        refine .v .xor8 ?_
        refine .v (.xs (i := k) (hn := by omega)) ?_
        refine .s (.st (v := .int _ _) (hle := by rw [List.length_map, turnTo_len _ _ _ (by omega)]; omega)) ?_
        refine .nil ?_
        refine n18 _ _ _ ?_
        refine n17 _ _ _ ?_
        refine .region ?_
        refine .v .mvI ?_
        refine .v .add ?_
        refine .v .asI ?_
        refine .nil ?_
        refine n14 (k + 1) _ _ (by omega) ⟨105, rfl⟩ rfl rfl (l1 (congrArg iv (by omega))) (by omega) (fun _ h => by rw [← turnTo_set (xbG key by9) key k (by omega), List.map_set, xbG, ← turnTo_getD (xbG key by9) key k default]; exact h)
      ·
        refine .exit ?_
        refine r15 _ _ _ _ (by simp) ?_
        refine r14 _ _ _ _ (by simp) ?_
        refine x13 _ _ _ ?_
        refine n11 _ _ _ ?_
        refine .sr fun K19 n19 r19 => ?_
        obtain ⟨q, rfl⟩ : ∃ q, q = k := ⟨_, rfl⟩
        refine .v .mvP ?_
        refine .v .mvI ?_
        refine .w (.mc rfl fun wc hw => by have h9 := c_get_y wc x25.1 x25.2.1 x25.2.2.1 x25.2.2.2 3 (openP (List.replicate 3 default) 0) [(⟨2, key, x34.1, x34.2⟩ : Ses), default, default] (hw.has.sub (List.sublist_cons_self _ _)) ((PlOk.rep (by decide) (by decide)).open (i := 0) (by decide)) rfl (by intro s hs; simp only [List.mem_cons, List.not_mem_nil, or_false] at hs; rcases hs with rfl | rfl | rfl; exact Nat.le_trans (by omega : key.length ≤ 100) (by decide); exact Nat.zero_le _; exact Nat.zero_le _) (handleM 3 (List.replicate 3 default) 0) (by decide) 0 (by decide); simp only [List.getD_cons_zero] at h9; exact h9) fun x59 hx59 => ?_
        obtain ⟨a59, c59⟩ := x59
        dsimp only at hx59 ⊢
        simp only [List.cons_append, List.nil_append]
        refine .rs (ao := a59) key.length ⟨105, rfl⟩ ?_
        intro g59 hg59
        subst hg59
        have hg59 : New w g59 := hx59.2.hd g59 rfl
        try simp only [List.cons_append, List.nil_append]
        refine .v .mvU ?_
        refine .v .extract ?_
        refine .v .extract ?_
        refine .m .alloc fun b11 hb11 => ?_
        refine .s .storeN ?_
        refine .v .asI ?_
        refine .nl n19 ?_
        refine .seq fun K20 n20 r20 => ?_
        refine .sr fun K21 n21 r21 => ?_
        refine .v .asI ?_
        refine .nl n21 ?_
        refine .block fun K22 n22 x22 r22 => ?_
        refine .loopI 2 [13, 62, 63, 64, 65, 66, 67, 68, 69, 70, 71, 72, 73, 74, 75, 76] [13] (fun (k : Nat) => k ≤ key.length) (fun (k : Nat) => [iv k]) (fun (k : Nat) => Tr w [] (.blk b11 51 [iv 2, sl (some g59) key.length c59] :: .row (some g59) 5 1 key.length c59 ((turnTo (xbG key by9) key k).map u8) :: .row (some p30.1) 5 1 (0 + key.length) p30.2 ((turnTo (xbG key by9) key q).map u8) :: sessL x25.1 x25.2.1 x25.2.2.1 x25.2.2.2 3 (openP (List.replicate 3 default) 0) [(⟨2, key, x34.1, x34.2⟩ : Ses), default, default])) (fun (k : Nat) => key.length - k) (0) (by omega) (fun _ => rfl) rfl (fun _ h => by rw [turnTo_zero]; exact h) ?_
        intro k hI23 J23 K23 n23 r23
        try dsimp only at hI23 n23 ⊢
        refine .seq fun K24 n24 r24 => ?_
        refine .sr fun K25 n25 r25 => ?_
        refine .v .mvI ?_
        refine .v .fa ?_
        refine .v .load1z ?_
        refine .v .len1 ?_
        refine .v .lss ?_
        refine .nl n25 ?_
        refine .cd rfl (fun h66 => ?_) fun h66 => ?_
        ·
          refine .skip ?_
          refine n24 _ _ _ ?_
          refine .seq fun K26 n26 r26 => ?_
          refine .block fun K27 n27 x27 r27 => ?_
          refine .region ?_
          refine .v .fa ?_
          refine .v .load1z ?_
          refine .v .mvI ?_
          refine .v (.xs (i := k) (hn := by omega)) ?_
          refine .v (.load1z (hv := getmap (by rw [turnTo_len _ _ _ (by omega)]; omega))) ?_
          refine .v .mvI ?_
          refine .v .xor8 ?_
          refine .v (.xs (i := k) (hn := by omega)) ?_
          refine .s (.st (v := .int _ _) (hle := by rw [List.length_map, turnTo_len _ _ _ (by omega)]; omega)) ?_
          refine .nil ?_
          refine n27 _ _ _ ?_
          refine n26 _ _ _ ?_
          refine .region ?_
          refine .v .mvI ?_
          refine .v .add ?_
          refine .v .asI ?_
          refine .nil ?_
          refine n23 (k + 1) _ _ (by omega) ⟨105, rfl⟩ rfl rfl (l1 (congrArg iv (by omega))) (by omega) (fun _ h => by rw [← turnTo_set (xbG key by9) key k (by omega), List.map_set, xbG, ← turnTo_getD (xbG key by9) key k default]; exact h)
        ·
          refine .exit ?_
          refine r24 _ _ _ _ (by simp) ?_
          refine r23 _ _ _ _ (by simp) ?_
          refine x22 _ _ _ ?_
          refine n20 _ _ _ ?_
          refine .sr fun K28 n28 r28 => ?_
          refine .v .mvP ?_
          refine .v .mvI ?_
          refine .w (.mc rfl fun wc hw => by have h9 := c_get_y wc x25.1 x25.2.1 x25.2.2.1 x25.2.2.2 3 (openP (List.replicate 3 default) 0) [(⟨2, key, x34.1, x34.2⟩ : Ses), default, default] (hw.has.sub ((List.sublist_cons_self _ _).trans ((List.sublist_cons_self _ _).trans (List.sublist_cons_self _ _)))) ((PlOk.rep (by decide) (by decide)).open (i := 0) (by decide)) rfl (by intro s hs; simp only [List.mem_cons, List.not_mem_nil, or_false] at hs; rcases hs with rfl | rfl | rfl; exact Nat.le_trans (by omega : key.length ≤ 100) (by decide); exact Nat.zero_le _; exact Nat.zero_le _) (handleM 3 (List.replicate 3 default) 0) (by decide) 0 (by decide); simp only [List.getD_cons_zero] at h9; exact h9) fun x80 hx80 => ?_
          try simp only [List.cons_append, List.nil_append]
          refine .v .mvU ?_
          refine .v .extract ?_
          refine .v .extract ?_
          refine .m .alloc fun b14 hb14 => ?_
          refine .s .storeN ?_
          refine .v .asI ?_
          refine .nl n28 ?_
          refine .sr fun K29 n29 r29 => ?_
          refine .v .mvI ?_
          refine .v .eql ?_
          refine .v (.mvT (hp := rfl)) ?_
          refine .gy .mvI ?_
          refine .gy .eql ?_
          refine .v (.pick_t rfl (v := .bool _) rfl) ?_
          refine .v (.mvT (hp := rfl)) ?_
          refine .gy .fa ?_
          refine .gy .load1z ?_
          refine .gy (.toStr (xs := key)) ?_
          refine .gy .mvS ?_
          refine .gy (.toStr (xs := key) (hr := RdS.of hKk)) ?_
          refine .gy .eqStr ?_
          refine .v (.pick_t rfl (v := .bool _) rfl) ?_
          refine .v (.mvT (hp := rfl)) ?_
          refine .gy .fa ?_
          refine .gy .load1z ?_
          refine .gy .eql ?_
          refine .v (.pick_t rfl (v := .bool _) rfl) ?_
          refine .v (.mvT (hp := rfl)) ?_
          refine .ge (.pc rfl fun wc hw => c_awake19 wc) ?_
          refine .v (.pick_t rfl (v := .bool _) rfl) ?_
          refine .v .asB ?_
          refine .nl n29 ?_
          refine .ret ?_
          refine (hK _ _ _ ⟨105, rfl⟩ (Res.o ⟨105, rfl⟩) ?_).1
          exact fun w' h => ⟨rfl, h.clear⟩

theorem newH_ses {w : World} {sb tb pb ob n : Nat} {ps : List Plc} {own : List Ses} (h : New w tb ∧ New w pb ∧ New w sb ∧ New w ob) (hk : ∀ s ∈ own, ∀ k, s.ao = some k → New w k) : NewH w (sessL sb tb pb ob n ps own) :=
  NewH.blk h.1 (NewH.row1 h.2.1 (NewH.blk h.2.2.1 (NewH.row1 h.2.2.2 (fun x hx k hk' => by
    obtain ⟨s, hs, rfl⟩ := List.mem_map.1 hx
    exact hk s hs k hk'))))
theorem c_get (w : World) (sb tb pb ob n : Nat) (ps : List Plc) (own : List Ses) (hL : Has w (sessL sb tb pb ob n ps own)) (hok : PlOk n ps) (hon : own.length = n) (hkl : ∀ s ∈ own, s.key.length ≤ 1099511627776) (h : Int) (h63 : h ≤ 9223372036854775807) : Makes Tryz.prog 24 #[pt sb 0, iv h] w (fun _ => True) (fun x : Option Nat × Nat => .tuple #[.agg [iv (getS own (lookM n ps h)).alg, sl x.1 (getS own (lookM n ps h)).key.length x.2].toArray, iv (getE (lookM n ps h))]) (fun x => [.row x.1 5 1 (getS own (lookM n ps h)).key.length x.2 ((getS own (lookM n ps h)).key.map u8)]) := by
  cases hl : lookM n ps h with
  | some i => exact c_get_y w sb tb pb ob n ps own hL hok hon hkl h h63 i hl
  | none => exact (c_get_n w sb tb pb ob n ps own hL hok hon h h63 hl).mono fun en w' ⟨h1, h2⟩ => ⟨(none, 0), trivial, NewH.row (fun k hk => by cases hk) NewH.nil, h1, h2.addRow _ _⟩

theorem c_others (w : World) (A : Option Addr) (vals : List Value) (xss : List (List B8)) (n c : Nat) (hA : Rw w A vals) (hv : Parts w vals xss) (hn : n = xss.length) (which : B8) : Pure Tryz.prog 10 #[.slice A n c, u8 which] w (.bool true) := by
  obtain ⟨hvl, hv⟩ := hv
  refine en0 Tryz.func10 fun K hK => ?_
  refine .sr fun K1 n1 r1 => ?_
  refine .v .asB ?_
  refine .nl n1 ?_
  refine .seq fun K2 n2 r2 => ?_
  refine .sr fun K3 n3 r3 => ?_
  refine .v .mvS ?_
  refine .v .len1 ?_
  refine .v .lss ?_
  refine .vp .mvB (fun hg1_3 => ?_) fun hg1_3 => ?_
  ·
    refine .gn ?_
    refine .gn ?_
    refine .gn ?_
    refine .v (.pick_t rfl (v := .bool _) rfl) ?_
    refine .nl n3 ?_
    refine .cond_t rfl ?_
    refine .sr fun K4 n4 r4 => ?_
    refine .v .asB ?_
    refine .nl n4 ?_
    refine .ret ?_
    refine r2 _ _ _ _ (by simp) ?_
    refine (hK _ _ _ ⟨131, rfl⟩ (Res.o ⟨131, rfl⟩) ?_).1
    exact fun w' h => ⟨rfl, h.clear⟩
  ·
    refine .gy .mvS ?_
    refine .gy .len1 ?_
    refine .gy .gtr ?_
    refine .v (.pick_f rfl (v := .bool _) rfl) ?_
    refine .nl n3 ?_
    refine .cd rfl (fun h21 => ?_) fun h21 => ?_
    ·
      refine .sr fun K5 n5 r5 => ?_
      refine .v .asB ?_
      refine .nl n5 ?_
      refine .ret ?_
      refine r2 _ _ _ _ (by simp) ?_
      refine (hK _ _ _ ⟨131, rfl⟩ (Res.o ⟨131, rfl⟩) ?_).1
      exact fun w' h => ⟨rfl, h.clear⟩
    ·
      refine .skip ?_
      refine n2 _ _ _ ?_
      refine .sr fun K6 n6 r6 => ?_
      refine .w (.mc rfl fun wc hw => c_new wc 20 (by decide) (by decide)) (hne := (ne_new w 20)) fun x22 hx22 => ?_
      simp only [List.append_nil, ← psT_zero]
      have hnw := (⟨hx22.2 _ (List.mem_cons_self) _ rfl, hx22.2 _ (List.mem_cons_of_mem _ List.mem_cons_self) _ rfl, hx22.2 _ (List.mem_cons_of_mem _ (List.mem_cons_of_mem _ List.mem_cons_self)) _ rfl, hx22.2 _ (List.mem_cons_of_mem _ (List.mem_cons_of_mem _ (List.mem_cons_of_mem _ List.mem_cons_self))) _ rfl⟩ : New w x22.2.1 ∧ New w x22.2.2.1 ∧ New w x22.1 ∧ New w x22.2.2.2)
      try simp only [List.cons_append, List.nil_append]
      refine .v .mvU ?_
      refine .v .extract ?_
      refine .v .extract ?_
      refine .v .asP ?_
      refine .v .asI ?_
      refine .nl n6 ?_
      refine .seq fun K7 n7 r7 => ?_
      refine .sr fun K8 n8 r8 => ?_
      refine .v .mvI ?_
      refine .v .neq ?_
      refine .nl n8 ?_
      refine .cF (hp := by decide) (h := ?_)
      refine .skip ?_
      refine n7 _ _ _ ?_
      refine .seq fun K9 n9 r9 => ?_
      refine .sr fun K10 n10 r10 => ?_
      refine .v .asI ?_
      refine .nl n10 ?_
      refine .block fun K11 n11 x11 r11 => ?_
      refine .loopI 1 [4, 7, 8, 9, 28, 29, 30, 31, 32, 33, 34, 35, 36, 37, 38, 39, 40, 41, 42, 43, 44, 45, 46, 47, 48, 49, 50, 51, 52, 53, 54, 55, 56, 57, 58, 59, 60, 61, 62, 63, 64] [7] (fun (p : Nat × List Ses) => p.1 ≤ n ∧ p.2.length = 20 ∧ (∀ j, j < p.1 → (p.2.getD j default).key = xss.getD j default) ∧ (∀ s ∈ p.2, s.key.length ≤ 100) ∧ (∀ s ∈ p.2, ∀ k, s.ao = some k → New w k)) (fun p => [iv p.1]) (fun (p : Nat × List Ses) => Tr w [] (sessL x22.1 x22.2.1 x22.2.2.1 x22.2.2.2 20 (psT p.1) p.2)) (fun (p : Nat × List Ses) => n - p.1) ((0, List.replicate 20 default)) ⟨Nat.zero_le _, by simp, fun j hj => absurd hj (Nat.not_lt_zero j), fun s hs => by rw [(List.mem_replicate.1 hs).2]; exact Nat.zero_le _, fun s hs k hk => by rw [(List.mem_replicate.1 hs).2] at hk; cases hk⟩ (fun _ => rfl) rfl (fun _ h => h) ?_
      rintro ⟨k, own⟩ hI12 J12 K12 n12 r12
      try dsimp only at hI12 n12 ⊢
      obtain ⟨hk1, hol, hok, hkl, hon⟩ := hI12
      refine .seq fun K13 n13 r13 => ?_
      refine .sr fun K14 n14 r14 => ?_
      refine .v .mvI ?_
      refine .v .mvS ?_
      refine .v .len1 ?_
      refine .v .lss ?_
      refine .nl n14 ?_
      refine .cd rfl (fun h31 => ?_) fun h31 => ?_
      ·
        refine .skip ?_
        refine n13 _ _ _ ?_
        refine .seq fun K15 n15 r15 => ?_
        refine .block fun K16 n16 x16 r16 => ?_
        refine .seq fun K17 n17 r17 => ?_
        refine .sr fun K18 n18 r18 => ?_
        obtain ⟨b1, o1, rfl⟩ := hA.addr (i := k) (by omega)
        obtain ⟨A1, c1, hv1, hr1⟩ := hv k (by omega)
        refine .v .mvS ?_
        refine .v .mvI ?_
        refine .v (.xs (i := k) (hn := by omega)) ?_
        refine .v (Yl.load1 (i := k) (hr := hA.rd) (ho := rfl) (hv := hv1)) ?_
        refine .v .len1 ?_
        refine .v .lss ?_
        refine .vp .mvB (fun hg9_6 => ?_) fun hg9_6 => ?_
        ·
          refine .gn ?_
          refine .gn ?_
          refine .gn ?_
          refine .gn ?_
          refine .gn ?_
          refine .gn ?_
          refine .v (.pick_t rfl (v := .bool _) rfl) ?_
          refine .nl n18 ?_
          refine .cond_t rfl ?_
          refine .sr fun K19 n19 r19 => ?_
          refine .v .asB ?_
          refine .nl n19 ?_
          refine .ret ?_
          refine r17 _ _ _ _ (by simp) ?_
          refine r16 _ _ _ _ (by simp) (by simp) ?_
          refine r15 _ _ _ _ (by simp) ?_
          refine r12 _ _ _ _ (by simp) ?_
          refine r11 _ _ _ _ (by simp) (by simp) ?_
          refine r9 _ _ _ _ (by simp) ?_
          refine (hK _ _ _ ⟨131, rfl⟩ (Res.o ⟨131, rfl⟩) ?_).1
          exact fun w' h => ⟨rfl, h.clear⟩
        ·
          refine .gy .mvS ?_
          refine .gy .mvI ?_
          refine .gy (.xs (i := k) (hn := by omega)) ?_
          refine .gy (Yl.load1 (i := k) (hr := hA.rd) (ho := rfl) (hv := hv1)) ?_
          refine .gy .len1 ?_
          refine .gy .gtr ?_
          refine .v (.pick_f rfl (v := .bool _) rfl) ?_
          refine .nl n18 ?_
          refine .cd rfl (fun h47 => ?_) fun h47 => ?_
          ·
            refine .sr fun K20 n20 r20 => ?_
            refine .v .asB ?_
            refine .nl n20 ?_
            refine .ret ?_
            refine r17 _ _ _ _ (by simp) ?_
            refine r16 _ _ _ _ (by simp) (by simp) ?_
            refine r15 _ _ _ _ (by simp) ?_
            refine r12 _ _ _ _ (by simp) ?_
            refine r11 _ _ _ _ (by simp) (by simp) ?_
            refine r9 _ _ _ _ (by simp) ?_
            refine (hK _ _ _ ⟨131, rfl⟩ (Res.o ⟨131, rfl⟩) ?_).1
            exact fun w' h => ⟨rfl, h.clear⟩
          ·
            refine .skip ?_
            refine n17 _ _ _ ?_
            refine .sr fun K21 n21 r21 => ?_
            refine .v .mvP ?_
            refine .v .mvS ?_
            refine .v .mvI ?_
            refine .v (.xs (i := k) (hn := by omega)) ?_
            refine .v (Yl.load1 (i := k) (hr := hA.rd) (ho := rfl) (hv := hv1)) ?_
            refine .w (.uc [] rfl (fun wc hw => by have h9 := c_add_y wc x22.1 x22.2.1 x22.2.2.1 x22.2.2.2 20 (psT k) own hw.has (psT_ok k) hol 2 A1 (xss.getD k default) _ c1 (hr1.keep hw) rfl (by omega) (fun a ha hm => by have h1 := rw_lt hr1 (by rw [List.length_map]; omega) a ha; have h2 := newH_own (F := []) (newH_ses (n := 20) (ps := psT k) hnw hon) _ hm; have h3 := h2.resolve_left (by simp); omega) (by rw [check_hmac _ (by omega) (by omega)]; decide) k (psT_free k (by omega)); rw [psT_handle k (by omega), psT_open k (by omega)] at h9; exact h9) (hp := by rw [List.append_nil]) (hD := newH_own (newH_ses hnw hon))) (hne := ⟨(none, 0), trivial, newH_own (newH_ses hnw (fun s hs k hk => mem_setS (Q := fun s => ∀ k, s.ao = some k → New w k) hs hon (fun k (hk : none = some k) => by cases hk) k hk))⟩) fun x54 hx54 => ?_
            simp only [List.append_nil]
            have hmk : ∀ j : Nat, sesH (⟨2, xss.getD k default, x54.1, x54.2⟩ : Ses) ∈ sessL x22.1 x22.2.1 x22.2.2.1 x22.2.2.2 20 (psT (k + 1)) (own.set k ⟨2, xss.getD k default, x54.1, x54.2⟩) := fun _ => by
              have := mem_ses (own := own.set k ⟨2, xss.getD k default, x54.1, x54.2⟩) (i := k) (by rw [List.length_set]; omega)
              rw [set_getD _ _ _ _ (by omega), if_pos rfl] at this
              exact List.mem_cons_of_mem _ (List.mem_cons_of_mem _ (List.mem_cons_of_mem _ (List.mem_cons_of_mem _ this)))
            try simp only [List.cons_append, List.nil_append]
            refine .v .mvU ?_
            refine .v .extract ?_
            refine .v .extract ?_
            refine .v .asI ?_
            refine .v .asI ?_
            refine .nl n21 ?_
            refine .sr fun K22 n22 r22 => ?_
            refine .v .mvI ?_
            refine .v .neq ?_
            refine .v (.mvN (hp := by decide)) ?_
            refine .gy .mvI ?_
            refine .gy .mvI ?_
            refine .gy .add ?_
            refine .gy .neq ?_
            refine .v (.pick_f rfl (v := .bool _) rfl) ?_
            refine .nl n22 ?_
            refine .cF (hp := by omega) (h := ?_)
            refine .skip ?_
            refine n16 _ _ _ ?_
            refine n15 _ _ _ ?_
            refine .region ?_
            refine .v .mvI ?_
            refine .v .add ?_
            refine .v .asI ?_
            refine .nil ?_
            refine n12 (k + 1, own.set k ⟨2, xss.getD k default, x54.1, x54.2⟩) _ _ ⟨by omega, by simpa using hol, fun j hj => by rw [set_getD _ _ _ _ (by omega)]; by_cases h : k = j; exact (by rw [if_pos h, ← h]); exact (by rw [if_neg h]; exact hok j (by dsimp only at hj; omega)), fun s hs => mem_setS (Q := fun s => s.key.length ≤ 100) hs hkl (by dsimp only; omega), fun s hs k hk => mem_setS (Q := fun s => ∀ k, s.ao = some k → New w k) hs hon (fun k hk => (hx54.2 k (mem_ids.2 ⟨sesH _, hmk k, hk⟩)).resolve_left (by simp)) k hk⟩ ⟨131, rfl⟩ rfl rfl (l1 (congrArg iv (by omega))) (by omega) (fun _ h => h)
      ·
        refine .exit ?_
        refine r13 _ _ _ _ (by simp) ?_
        refine r12 _ _ _ _ (by simp) ?_
        refine x11 _ _ _ ?_
        refine n9 _ _ _ ?_
        refine .sr fun K23 n23 r23 => ?_
        obtain rfl : k = n := by omega
        have hn20 : k < 21 := by omega
        obtain ⟨q, hq⟩ : ∃ q : Nat, ((which.toNat : Int) % (k : Int)) = q := ⟨which.toNat % k, by omega⟩
        have hqk : q < k := by have := Int.emod_lt_of_pos (which.toNat : Int) (show (0 : Int) < k by omega); omega
        have hgone := fun i hi => psT_gone k hn20 q hqk i hi
        have hcok : PlOk 20 (closeP (psT k) q) := (psT_ok k).close (by omega) (by rw [psT_cl]; decide)
        have hon2 : ∀ s ∈ own.set q default, ∀ k, s.ao = some k → New w k := fun s hs k hk => mem_setS (Q := fun s => ∀ k, s.ao = some k → New w k) hs hon (fun k hk => by cases hk) k hk
        refine .v .mvI ?_
        refine .v .toI8 ?_
        refine .v .mvS ?_
        refine .v .len1 ?_
        refine .v (.rem' (hr := hq)) ?_
        refine .v .asI ?_
        refine .nl n23 ?_
        refine .seq fun K24 n24 r24 => ?_
        refine .sr fun K25 n25 r25 => ?_
        refine .v .mvP ?_
        refine .v .mvI ?_
        refine .v .add ?_
        refine .w (.uc [] rfl (fun wc hw => c_end_y wc ((q : Int) + 1) (by omega) x22.1 x22.2.1 x22.2.2.1 x22.2.2.2 20 (psT k) own hw.has (psT_ok k) hol q (psT_look k hn20 q hqk)) (hp := by rw [List.append_nil]) (hD := newH_own (newH_ses hnw hon))) (hne := ⟨(), trivial, newH_own (newH_ses hnw hon2)⟩) fun _ _ => ?_
        simp only [List.append_nil]
        try simp only [List.cons_append, List.nil_append]
        refine .v .neq ?_
        refine .v (.mvN (hp := by decide)) ?_
        refine .gy .mvP ?_
        refine .gw (.mc rfl fun wc hw => c_shandles wc x22.1 x22.2.1 x22.2.2.1 x22.2.2.2 20 (closeP (psT k) q) (own.set q default) hw.has hcok (by simpa using hol)) fun x77 hx77 => ?_
        try simp only [List.cons_append, List.nil_append]
        refine .gy .len1 ?_
        refine .gy .mvS ?_
        refine .gy .len1 ?_
        refine .gy .sub ?_
        refine .gy .neq ?_
        refine .v (.pick_f rfl (v := .bool _) rfl) ?_
        refine .nl n25 ?_
        refine .cF (hp := by rw [psT_count k hn20 q hqk]; omega) (h := ?_)
        refine .skip ?_
        refine n24 _ _ _ ?_
        refine .seq fun K26 n26 r26 => ?_
        refine .sr fun K27 n27 r27 => ?_
        refine .v .asI ?_
        refine .nl n27 ?_
        refine .block fun K28 n28 x28 r28 => ?_
        refine .loopI 2 [4, 11, 12, 13, 84, 85, 86, 87, 88, 89, 90, 91, 92, 93, 94, 95, 96, 97, 98, 99, 100, 101, 102, 103, 104, 105, 106, 107, 108, 109, 110, 111, 112, 113, 114, 115, 116, 117, 118, 119, 120, 121, 122, 123, 124, 125, 126, 127, 128, 129] [11] (fun (i : Nat) => i ≤ k) (fun (i : Nat) => [iv i]) (fun (i : Nat) => Tr w [] (sessL x22.1 x22.2.1 x22.2.2.1 x22.2.2.2 20 (closeP (psT k) q) (own.set q default))) (fun (i : Nat) => k - i) (0) (by omega) (fun _ => rfl) rfl (fun _ h => h.sb) ?_
        intro i hI29 J29 K29 n29 r29
        try dsimp only at hI29 n29 ⊢
        refine .seq fun K30 n30 r30 => ?_
        refine .sr fun K31 n31 r31 => ?_
        refine .v .mvI ?_
        refine .v .mvS ?_
        refine .v .len1 ?_
        refine .v .lss ?_
        refine .nl n31 ?_
        refine .cd rfl (fun h87 => ?_) fun h87 => ?_
        ·
          refine .skip ?_
          refine n30 _ _ _ ?_
          refine .seq fun K32 n32 r32 => ?_
          refine .block fun K33 n33 x33 r33 => ?_
          refine .sr fun K34 n34 r34 => ?_
          have hgi := hgone i (by omega)
          have hgq : i = q → getE (lookM 20 (closeP (psT k) q) ((i : Int) + 1)) = 3 ∧ (getS (own.set q default) (lookM 20 (closeP (psT k) q) ((i : Int) + 1))).key = [] := fun h => by rw [hgi, if_pos h]; exact ⟨rfl, rfl⟩
          have hgn : i ≠ q → getE (lookM 20 (closeP (psT k) q) ((i : Int) + 1)) = 0 ∧ (getS (own.set q default) (lookM 20 (closeP (psT k) q) ((i : Int) + 1))).key = xss.getD i default := fun h => by rw [hgi, if_neg h]; exact ⟨rfl, by show ((own.set q default).getD i default).key = _; rw [set_getD _ _ _ _ (by omega), if_neg (fun hh => h hh.symm)]; exact hok i (by omega)⟩
          obtain ⟨b1, o1, rfl⟩ := hA.addr (i := i) (by omega)
          obtain ⟨A1, c1, hv1, hr1⟩ := hv i (by omega)
          refine .v .mvP ?_
          refine .v .mvI ?_
          refine .v .add ?_
          refine .w (.mc rfl fun wc hw => c_get wc x22.1 x22.2.1 x22.2.2.1 x22.2.2.2 20 (closeP (psT k) q) (own.set q default) hw.has hcok (by simpa using hol) (fun s hs => mem_setS (Q := fun s => s.key.length ≤ 1099511627776) hs (fun s hs => Nat.le_trans (hkl s hs) (by decide)) (Nat.zero_le _)) ((i : Int) + 1) (by omega)) fun x94 hx94 => ?_
          try simp only [List.cons_append, List.nil_append]
          refine .v .mvU ?_
          refine .v .extract ?_
          refine .v .extract ?_
          refine .m .alloc fun b12 hb12 => ?_
          refine .s .storeN ?_
          refine .v .asI ?_
          refine .nl n34 ?_
          refine .sd [1, 1, 1, 1, 1, 1, 1, 1, 0, 1, 1, 1, 1, 1, 1, 1, 1, 1, 1, 1, 1, 1, 0, 0, 1, 1, 1, 0, 0, 1, 1, 1, 1] hmix fun N21 hN21 => ?_
          refine .q 0 rfl .mvI ?_
          refine .q 1 rfl .mvI ?_
          refine .q 2 rfl .eql ?_
          refine .vp 3 rfl .mvB (fun hg21_3 => ?_) fun hg21_3 => ?_
          ·
            refine .gy 4 rfl .mvI ?_
            refine .gy 5 rfl .neq ?_
            refine .gy 6 rfl (.mvN (hp := by rw [(hgq (by omega)).1]; decide)) ?_
            refine .gy 7 rfl .fa ?_
            refine .gl 8 rfl .load1z ?_
            refine .gy 9 rfl .len1 ?_
            refine .gy 10 rfl .neq ?_
            refine .gy 11 rfl (.pick_f rfl (v := .bool _) rfl) ?_
            refine .q 12 rfl (.pick_t rfl (v := .bool _) rfl) ?_
            refine .q 13 rfl (.mvN (hp := by rw [(hgq (by omega)).2]; decide)) ?_
            refine .gy 14 rfl .mvI ?_
            refine .gy 15 rfl .mvI ?_
            refine .gy 16 rfl .neq ?_
            refine .gy 17 rfl (.mvN (hp := by omega)) ?_
            refine .gn 18 rfl ?_
            refine .gn 19 rfl ?_
            refine .gn 20 rfl ?_
            refine .gu 21 rfl ?_
            refine .gul 22 rfl ?_
            refine .gul 23 rfl ?_
            refine .gu 24 rfl ?_
            refine .gu 25 rfl ?_
            refine .gu 26 rfl ?_
            refine .gul 27 rfl ?_
            refine .gul 28 rfl ?_
            refine .gu 29 rfl ?_
            refine .gn 30 rfl ?_
            refine .gy 31 rfl (.pick_f rfl (v := .bool _) rfl) ?_
            refine .q 32 rfl (.pick_f rfl (v := .bool _) rfl) ?_
            refine .dn hN21 ?_
            refine .cond_f rfl ?_
            refine .skip ?_
            refine n33 _ _ _ ?_
            refine n32 _ _ _ ?_
            refine .region ?_
            refine .v .mvI ?_
            refine .v .add ?_
            refine .v .asI ?_
            refine .nil ?_
            refine n29 (i + 1) _ _ (by omega) ⟨131, rfl⟩ rfl rfl (l1 (congrArg iv (by omega))) (by omega) (fun _ h => h.sb)
          ·
            refine .gn 4 rfl ?_
            refine .gn 5 rfl ?_
            refine .gn 6 rfl ?_
            refine .gu 7 rfl ?_
            refine .gul 8 rfl ?_
            refine .gu 9 rfl ?_
            refine .gu 10 rfl ?_
            refine .gn 11 rfl ?_
            refine .q 12 rfl (.pick_f rfl (v := .bool _) rfl) ?_
            refine .q 13 rfl .mvB ?_
            refine .gy 14 rfl .mvI ?_
            refine .gy 15 rfl .mvI ?_
            refine .gy 16 rfl .neq ?_
            refine .gy 17 rfl (.mvT (hp := by omega)) ?_
            refine .gy 18 rfl .mvI ?_
            refine .gy 19 rfl .neq ?_
            refine .gy 20 rfl (.mvN (hp := by rw [(hgn (by omega)).1]; decide)) ?_
            refine .gy 21 rfl .fa ?_
            refine .gl 22 rfl .load1z ?_
            refine .gl 23 rfl (.toStr (xs := (getS (own.set q default) (lookM 20 (closeP (psT k) q) ((i : Int) + 1))).key)) ?_
            refine .gy 24 rfl .mvS ?_
            refine .gy 25 rfl .mvI ?_
            refine .gy 26 rfl (.xs (i := i) (hn := by omega)) ?_
            refine .gl 27 rfl (Yl.load1 (i := i) (hr := hA.rd) (ho := rfl) (hv := hv1)) ?_
            refine .gl 28 rfl (.toStr (xs := xss.getD i default) (hr := (RdS.of hr1))) ?_
            refine .gy 29 rfl .neStr ?_
            refine .gy 30 rfl (.pick_f rfl (v := .bool _) rfl) ?_
            refine .gy 31 rfl (.pick_t rfl (v := .bool _) rfl) ?_
            refine .q 32 rfl (.pick_f rfl (v := .bool _) rfl) ?_
            refine .dn hN21 ?_
            refine .cF (hp := by exact fun h => h ((hgn (by omega)).2)) (h := ?_)
            refine .skip ?_
            refine n33 _ _ _ ?_
            refine n32 _ _ _ ?_
            refine .region ?_
            refine .v .mvI ?_
            refine .v .add ?_
            refine .v .asI ?_
            refine .nil ?_
            refine n29 (i + 1) _ _ (by omega) ⟨131, rfl⟩ rfl rfl (l1 (congrArg iv (by omega))) (by omega) (fun _ h => h.sb)
        ·
          refine .exit ?_
          refine r30 _ _ _ _ (by simp) ?_
          refine r29 _ _ _ _ (by simp) ?_
          refine x28 _ _ _ ?_
          refine n26 _ _ _ ?_
          refine .sr fun K36 n36 r36 => ?_
          refine .u (.pc rfl fun wc hw => c_awake19 wc) ?_
          refine .v .asB ?_
          refine .nl n36 ?_
          refine .ret ?_
          refine (hK _ _ _ ⟨131, rfl⟩ (Res.o ⟨131, rfl⟩) ?_).1
          exact fun w' h => ⟨rfl, h.clear⟩

end Go.Proofs.YtoclfghkgpcniaaGreatDoor

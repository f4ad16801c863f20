/- Walks of functions. -/
import Derived.Test.YtoclfghkgpcniaaGreatDoorTy
import Derived.Test.YtoclfghkgpcniaaGreatDoorPs
set_option maxRecDepth 10000
open Go.RowKit Go.Eng
set_option linter.unusedSimpArgs false
set_option linter.unusedVariables false
namespace Go.Proofs.YtoclfghkgpcniaaGreatDoor

theorem c_in1 (w : World) (n a b : Int) (bn : Nat) (Tn : TypeId) (fn : Nat × Nat) (hn : w.heap[bn]? = some (.cells #[iv n] Tn fn)) : Pure Tryz.prog 91 #[.agg [iv a, iv b].toArray, pt bn 0] w (.bool (decide (a ≤ n) && decide (n ≤ b))) := by
  refine en0 Tryz.func91 fun K hK => ?_
  refine .sr fun K1 n1 r1 => ?_
  refine .m .boxA fun b2 hb2 => ?_
  refine .v .asB ?_
  refine .nl n1 ?_
  refine .sr fun K2 n2 r2 => ?_
  refine .v (.load1z (hr := (Rd.oldb (cs := [_]) hn (by simp)))) ?_
  refine .v .fa ?_
  refine .v .load1z ?_
  refine .v .geq ?_
  refine .vp .mvB (fun hg1_4 => ?_) fun hg1_4 => ?_
  ·
    refine .gy (.load1z (hr := (Rd.oldb (cs := [_]) hn (by simp)))) ?_
    refine .gy .fa ?_
    refine .gy .load1z ?_
    refine .gy .leq ?_
    refine .v (.pick_t rfl (v := .bool _) rfl) ?_
    refine .v .asB ?_
    refine .nl n2 ?_
    refine .ret ?_
    refine (hK _ _ _ ⟨14, rfl⟩ (Res.o ⟨14, rfl⟩) ?_).1
    exact fun w' h => ⟨congrArg (fun z => Ending.returned (.bool z)) (by simp [hg1_4]), h.clear⟩
  ·
    refine .gn ?_
    refine .gn ?_
    refine .gn ?_
    refine .gn ?_
    refine .v (.pick_f rfl (v := .bool _) rfl) ?_
    refine .v .asB ?_
    refine .nl n2 ?_
    refine .ret ?_
    refine (hK _ _ _ ⟨14, rfl⟩ (Res.o ⟨14, rfl⟩) ?_).1
    exact fun w' h => ⟨congrArg (fun z => Ending.returned (.bool z)) (by simp [hg1_4]), h.clear⟩

theorem c_ixf_span (w : World) (A : Option Addr) (xs : List Sp) (n c : Nat) (hA : Rw w A (xs.flatMap spV)) (hn : n = xs.length) (hle : n ≤ 1099511627776) (f : FuncId) (cp : List Value) (p : Sp → Bool) (hb : Body Tryz.prog f) (hf : ∀ w' x, x ∈ xs → Tr w [] [] w' → Pure Tryz.prog f (Value.agg (spV x).toArray :: cp).toArray w' (.bool (p x))) : Pure Tryz.prog 139 #[.slice A n c, .func (.func f) #[] cp.toArray] w (iv (ixf p xs 0)) := by
  subst hn
  refine en0 Tryz.func139 fun K hK => ?_
  refine .sr fun K1 n1 r1 => ?_
  refine .v .asI ?_
  refine .nl n1 ?_
  refine .seq fun K2 n2 r2 => ?_
  refine .sr fun K3 n3 r3 => ?_
  refine .v .mvS ?_
  refine .v .len1 ?_
  refine .v .mvI ?_
  refine .nl n3 ?_
  refine .block fun K4 n4 x4 r4 => ?_
  refine .loopI 1 [4, 5, 8, 9, 10, 11, 12, 13, 14, 15, 16, 17, 18] [8] (fun (k : Nat) => k ≤ xs.length ∧ ∀ j, j < k → p (xs.getD j default) = false) (fun (k : Nat) => [iv k]) (fun (k : Nat) => Tr w [] []) (fun (k : Nat) => xs.length - k) (0) ⟨Nat.zero_le _, fun j h => absurd h (Nat.not_lt_zero j)⟩ (fun _ => rfl) rfl (fun _ h => h) ?_
  intro k hI5 J5 K5 n5 r5
  try dsimp only at hI5 n5 ⊢
  obtain ⟨hk1, hk2⟩ := hI5
  refine .sr fun K6 n6 r6 => ?_
  refine .v .lss ?_
  refine .nl n6 ?_
  refine .seq fun K7 n7 r7 => ?_
  refine .cd rfl (fun h9 => ?_) fun h9 => ?_
  ·
    refine .skip ?_
    refine n7 _ _ _ ?_
    refine .seq fun K8 n8 r8 => ?_
    refine .block fun K9 n9 x9 r9 => ?_
    refine .sr fun K10 n10 r10 => ?_
    refine .v .mvI ?_
    refine .v .asI ?_
    refine .nl n10 ?_
    refine .sr fun K11 n11 r11 => ?_
    refine .v .mvF ?_
    refine .v .mvS ?_
    refine .v .mvI ?_
    obtain ⟨b1, o1, rfl⟩ := hA.addr (i := k * 2) (by rw [flat_len spV_len]; omega)
    refine .v (.xsw (i := k) (hn := by omega)) ?_
    refine .v (Yl.loadA (i := k * 2) (hr := hA.rd) (ho := rfl) (ys := spV (xs.getD k default)) (hys := flat_at spV_len xs k (by omega))) ?_
    refine .u (Ef.pureV (fst := []) (cp := cp) (vs := Value.agg (spV (xs.getD k default)).toArray :: cp) hb rfl rfl (fun w' hw => hf w' _ (getD_mem (by omega)) hw.clear)) ?_
    refine .nl n11 ?_
    refine .cond _ rfl (fun h16 => ?_) fun h16 => ?_
    ·
      try simp only [decide_eq_true_eq, decide_eq_false_iff_not, Bool.not_eq_true, Bool.not_eq_false, Bool.not_true, Bool.not_false, Bool.not_eq_eq_eq_not, ne_eq, Decidable.not_not] at h16
      refine .sr fun K12 n12 r12 => ?_
      refine .v .mvI ?_
      refine .v .asI ?_
      refine .nl n12 ?_
      refine .ret ?_
      refine r9 _ _ _ _ (by simp) (by simp) ?_
      refine r8 _ _ _ _ (by simp) ?_
      refine r5 _ _ _ _ (by simp) ?_
      refine r4 _ _ _ _ (by simp) (by simp) ?_
      refine r2 _ _ _ _ (by simp) ?_
      refine (hK _ _ _ ⟨19, rfl⟩ (Res.o ⟨19, rfl⟩) ?_).1
      exact fun w' h => ⟨congrArg (fun z => Ending.returned (iv z)) (ixf_at (by omega) hk2 h16).symm, h⟩
    ·
      try simp only [decide_eq_true_eq, decide_eq_false_iff_not, Bool.not_eq_true, Bool.not_eq_false, Bool.not_true, Bool.not_false, Bool.not_eq_eq_eq_not, ne_eq, Decidable.not_not] at h16
      refine .skip ?_
      refine n9 _ _ _ ?_
      refine n8 _ _ _ ?_
      refine .region ?_
      refine .v .add ?_
      refine .v .mvI ?_
      refine .nil ?_
      refine n5 (k + 1) _ _ ⟨by omega, fun j hj => by rcases Nat.lt_succ_iff_lt_or_eq.1 hj with h | h; exact hk2 j h; subst h; exact h16⟩ ⟨19, rfl⟩ rfl rfl (l1 (congrArg iv (by omega))) (by omega) (fun _ h => h)
  ·
    refine .exit ?_
    refine r7 _ _ _ _ (by simp) ?_
    refine r5 _ _ _ _ (by simp) ?_
    refine x4 _ _ _ ?_
    refine n2 _ _ _ ?_
    refine .sr fun K13 n13 r13 => ?_
    refine .v .asI ?_
    refine .nl n13 ?_
    refine .ret ?_
    refine (hK _ _ _ ⟨19, rfl⟩ (Res.o ⟨19, rfl⟩) ?_).1
    obtain rfl : k = xs.length := by omega
    exact fun w' h => ⟨congrArg (fun z => Ending.returned (iv z)) (ixf_none hk2).symm, h⟩

theorem c_cont_span (w : World) (A : Option Addr) (xs : List Sp) (n c : Nat) (hA : Rw w A (xs.flatMap spV)) (hn : n = xs.length) (hle : n ≤ 1099511627776) (f : FuncId) (cp : List Value) (p : Sp → Bool) (hb : Body Tryz.prog f) (hf : ∀ w' x, x ∈ xs → Tr w [] [] w' → Pure Tryz.prog f (Value.agg (spV x).toArray :: cp).toArray w' (.bool (p x))) : Pure Tryz.prog 90 #[.slice A n c, .func (.func f) #[] cp.toArray] w (.bool (xs.any p)) := by
  refine en0 Tryz.func90 fun K hK => ?_
  refine .sr fun K1 n1 r1 => ?_
  refine .v .asB ?_
  refine .nl n1 ?_
  refine .sr fun K2 n2 r2 => ?_
  refine .v .mvS ?_
  refine .v .mvF ?_
  refine .u (.pc rfl fun wc hw => c_ixf_span wc A xs n c (hA.keep hw) hn hle f cp p hb (fun w' x hx hT => hf w' x hx (hw.call0 hT))) ?_
  refine .v .geq ?_
  refine .v .asB ?_
  refine .nl n2 ?_
  refine .ret ?_
  refine (hK _ _ _ ⟨9, rfl⟩ (Res.o ⟨9, rfl⟩) ?_).1
  exact fun w' h => ⟨congrArg (fun z => Ending.returned (.bool z)) (ixf_ge p xs 0), h⟩

theorem c_in (w : World) (n : Int) (A : Option Addr) (xs : List Sp) (m c : Nat) (hA : Rw w A (xs.flatMap spV)) (hm : m = xs.length) (hle : m ≤ 1099511627776) : Pure Tryz.prog 40 #[iv n, .slice A m c] w (.bool (inM n xs)) := by
  refine en0 Tryz.func40 fun K hK => ?_
  refine .sr fun K1 n1 r1 => ?_
  refine .m (.box1 (v := .int _ _) (hv := rfl)) fun b2 hb2 => ?_
  refine .v .asB ?_
  refine .nl n1 ?_
  refine .sr fun K2 n2 r2 => ?_
  refine .v .mvS ?_
  refine .v (.makeFunc' (fv := []) (cv := [.pointer _]) rfl rfl) ?_
  refine .u (.pc rfl fun wc hw => c_cont_span wc A xs m c (hA.keep hw) hm hle 91 [pt b2 0] (fun s => decide (s.1 ≤ n) && decide (n ≤ s.2)) inferInstance (fun w' x _ hT => c_in1 w' n x.1 x.2 b2 _ _ (hT.old0 (hw.blk AtB.ha.mem)))) ?_
  refine .v .asB ?_
  refine .nl n2 ?_
  refine .ret ?_
  refine (hK _ _ _ ⟨8, rfl⟩ (Res.o ⟨8, rfl⟩) ?_).1
  exact fun w' h => ⟨rfl, h.clear⟩

def kindI (alg : Int) : Option KindI :=
  if alg = 1 then some ⟨1, true, 1, 0, 1, [(0, 0)], 0, 0, 0, 50, 51⟩
  else if alg = 2 then some ⟨1, true, 2, 0, 1, [(1, 100)], 0, 0, 0, 50, 54⟩
  else if alg = 3 then some ⟨2, false, 0, 0, 2, [(16, 16), (32, 32)], 16, 16, 0, 56, 57⟩
  else if alg = 4 then some ⟨3, false, 0, 0, 2, [(16, 16), (32, 32)], 16, 16, 0, 61, 62⟩
  else if alg = 5 then some ⟨4, false, 0, 0, 2, [(16, 16), (32, 32)], 1, 64, 1000, 66, 67⟩
  else if alg = 6 then some ⟨5, false, 0, 2, 1, [(32, 32)], 12, 12, 1000, 66, 71⟩
  else none
def foundM (alg : Int) (op : Bool) : Option KindI := (kindI alg).bind fun ki => if (op && ki.one) = true then none else some ki
def checkM (alg : Int) (op : Bool) (k v a : Nat) : Int := match foundM alg op with
  | none => 4
  | some ki => checkK ki k v a
def kv (alg : Int) (b4 b7 b10 : Nat) : Int × Value := (alg, .agg (((kindI alg).map (kindVs b4 b7 b10)).getD []).toArray)
def kindsKV (b4 b7 b10 : Nat) : List (Int × Value) := [kv 1 b4 b7 0, kv 2 b4 b7 b10, kv 3 b4 b7 b10, kv 4 b4 b7 b10, kv 5 b4 b7 b10, kv 6 b4 b7 b10]
theorem lk_kinds (b4 b7 b10 : Nat) (alg : Int) : lk (kindsKV b4 b7 b10) alg = (kindI alg).map (fun k => .agg (kindVs b4 b7 b10 k).toArray) := by
  simp only [kindsKV, kv, lk]
  by_cases h1 : alg = 1
  · subst h1; rfl
  by_cases h2 : alg = 2
  · subst h2; rfl
  by_cases h3 : alg = 3
  · subst h3; rfl
  by_cases h4 : alg = 4
  · subst h4; rfl
  by_cases h5 : alg = 5
  · subst h5; rfl
  by_cases h6 : alg = 6
  · subst h6; rfl
  simp only [kindI, h1, h2, h3, h4, h5, h6, if_false, Option.map_none]
theorem kind_rd {w : World} {alg : Int} {ki : KindI} {b4 b7 b10 : Nat} (hki : kindI alg = some ki) (h4 : Rw w (some ⟨b4, 0, none⟩) [iv 16, iv 16, iv 32, iv 32]) (h7 : Rw w (some ⟨b7, 0, none⟩) [iv 0, iv 0]) (h10 : Rw w (some ⟨b10, 0, none⟩) [iv 1, iv 100]) :
    Rw w (some ⟨kindBlk b4 b7 b10 ki.kb, ki.ko, none⟩) (ki.sp.flatMap spV) ∧ ki.kn = ki.sp.length ∧ ki.kn ≤ 2 := by
  unfold kindI at hki
  split at hki
  · cases hki; exact ⟨h7, rfl, by decide⟩
  split at hki
  · cases hki; exact ⟨h10, rfl, by decide⟩
  split at hki
  · cases hki; exact ⟨h4, rfl, by decide⟩
  split at hki
  · cases hki; exact ⟨h4, rfl, by decide⟩
  split at hki
  · cases hki; exact ⟨h4, rfl, by decide⟩
  split at hki
  · cases hki; exact ⟨h4.drop 2, rfl, by decide⟩
  · cases hki

theorem c_kinds (w : World) : Makes Tryz.prog 28 #[] w (fun _ => True) (fun x : Nat × Nat × Nat × Nat => .map (some x.1)) (fun x => [.blk x.2.2.2 62 [iv 1, iv 100], .blk x.2.2.1 62 [iv 0, iv 0], .obj x.1 (mapO (kindsKV x.2.1 x.2.2.1 x.2.2.2)), .blk x.2.1 62 [iv 16, iv 16, iv 32, iv 32]]) := by
  refine en0 Tryz.func28 fun K hK => ?_
  refine .sr fun K1 n1 r1 => ?_
  refine .v .asM ?_
  refine .nl n1 ?_
  refine .sr fun K2 n2 r2 => ?_
  refine .v (.bs (r := [.int _ _, .int _ _])) ?_
  refine .v (.bs (r := [.int _ _, .int _ _])) ?_
  refine .m (.bsl (r := [.int _ _, .int _ _, .int _ _, .int _ _])) fun b4 hb4 => ?_
  refine .v .asS ?_
  refine .nl n2 ?_
  refine .sr fun K3 n3 r3 => ?_
  refine .m .makeMap fun b5 hb5 => ?_
  refine .v (.bs (r := [.int _ _, .int _ _])) ?_
  refine .m (.bsl (r := [.int _ _, .int _ _])) fun b7 hb7 => ?_
  refine .v (.bs (r := [.int _ _, .bool _, .slice _ _ _, .int _ _, .int _ _, .int _ _, _, _])) ?_
  refine .s (.insert (v := (kv 1 b4 b7 0).2) (hf := rfl)) ?_
  refine .v (.bs (r := [.int _ _, .int _ _])) ?_
  refine .m (.bsl (r := [.int _ _, .int _ _])) fun b10 hb10 => ?_
  refine .v (.bs (r := [.int _ _, .bool _, .slice _ _ _, .int _ _, .int _ _, .int _ _, _, _])) ?_
  refine .s (.insert (v := (kv 2 b4 b7 b10).2) (hf := rfl)) ?_
  refine .v .mvS ?_
  refine .v (.bs (r := [.int _ _, .int _ _])) ?_
  refine .v (.bs (r := [.int _ _, .bool _, .slice _ _ _, .int _ _, .int _ _, .int _ _, _, _])) ?_
  refine .s (.insert (v := (kv 3 b4 b7 b10).2) (hf := rfl)) ?_
  refine .v .mvS ?_
  refine .v (.bs (r := [.int _ _, .int _ _])) ?_
  refine .v (.bs (r := [.int _ _, .bool _, .slice _ _ _, .int _ _, .int _ _, .int _ _, _, _])) ?_
  refine .s (.insert (v := (kv 4 b4 b7 b10).2) (hf := rfl)) ?_
  refine .v .mvS ?_
  refine .v (.bs (r := [.int _ _, .int _ _])) ?_
  refine .v (.bs (r := [.int _ _, .bool _, .slice _ _ _, .int _ _, .int _ _, .int _ _, _, _])) ?_
  refine .s (.insert (v := (kv 5 b4 b7 b10).2) (hf := rfl)) ?_
  refine .v .mvS ?_
  refine .v (.sliceFromW (hl := (.some (i := 1) rfl rfl))) ?_
  refine .v (.bs (r := [.int _ _, .int _ _])) ?_
  refine .v (.bs (r := [.int _ _, .bool _, .slice _ _ _, .int _ _, .int _ _, .int _ _, _, _])) ?_
  refine .s (.insert (v := (kv 6 b4 b7 b10).2) (hf := rfl)) ?_
  refine .v .mvM ?_
  refine .v .asM ?_
  refine .nl n3 ?_
  refine .ret ?_
  refine (hK _ _ _ ⟨26, rfl⟩ (Res.o ⟨26, rfl⟩) ?_).1
  exact fun w' h => ⟨(b5, b4, b7, b10), trivial, NewH.blk hb10 (NewH.blk hb7 (NewH.cons (fun k hk => by simp only [Hl.id, Option.some.injEq] at hk; subst hk; exact hb5) (NewH.blk hb4 NewH.nil))), rfl, h⟩

theorem c_found_c (w : World) (alg : Int) (ki : KindI) (hki : kindI alg = some ki) : Makes Tryz.prog 39 #[iv alg, .bool false] w (fun _ => True) (fun x : Nat × Nat × Nat × Nat => .tuple #[.agg (kindVs x.2.1 x.2.2.1 x.2.2.2 ki).toArray, iv 0]) (fun x => [.blk x.2.2.2 62 [iv 1, iv 100], .blk x.2.2.1 62 [iv 0, iv 0], .obj x.1 (mapO (kindsKV x.2.1 x.2.2.1 x.2.2.2)), .blk x.2.1 62 [iv 16, iv 16, iv 32, iv 32]]) := by
  refine en0 Tryz.func39 fun K hK => ?_
  refine .sr fun K1 n1 r1 => ?_
  refine .m .alloc fun b4 hb4 => ?_
  refine .v .asI ?_
  refine .nl n1 ?_
  refine .sr fun K2 n2 r2 => ?_
  refine .w (.mc rfl fun wc hw => c_kinds wc) fun x9 hx9 => ?_
  try simp only [List.cons_append, List.nil_append]
  refine .v .mvI ?_
  refine .v (Yl.lookupY (hf := by rw [lk_kinds, hki]; rfl)) ?_
  refine .v .mvU ?_
  refine .v (Yl.extract (vs := [.agg (kindVs x9.2.1 x9.2.2.1 x9.2.2.2 ki).toArray, .bool true]) rfl rfl) ?_
  refine .v (Yl.extract (vs := [.agg (kindVs x9.2.1 x9.2.2.1 x9.2.2.2 ki).toArray, .bool true]) rfl rfl) ?_
  refine .m .alloc fun b6 hb6 => ?_
  refine .s (.storeN (vs := kindVs x9.2.1 x9.2.2.1 x9.2.2.2 ki) (h1 := kindVs_one _ _ _ _)) ?_
  refine .v .asB ?_
  refine .nl n2 ?_
  refine .seq fun K3 n3 r3 => ?_
  refine .sr fun K4 n4 r4 => ?_
  refine .v .mvB ?_
  refine .v .not ?_
  refine .v (.mvN' (hp := rfl)) ?_
  refine .gy .mvB ?_
  refine .gy .mvB ?_
  refine .gn ?_
  refine .gn ?_
  refine .gy (.pick_f rfl (v := .bool _) rfl) ?_
  refine .v (.pick_f rfl (v := .bool _) rfl) ?_
  refine .nl n4 ?_
  refine .cond_f rfl ?_
  refine .skip ?_
  refine n3 _ _ _ ?_
  refine .sr fun K5 n5 r5 => ?_
  refine .v .loadAz ?_
  refine .s (.storeN (vs := kindVs x9.2.1 x9.2.2.1 x9.2.2.2 ki) (h1 := kindVs_one _ _ _ _)) ?_
  refine .v .asI ?_
  refine .nl n5 ?_
  refine .ret ?_
  refine (hK _ _ _ ⟨25, rfl⟩ (Res.d ⟨25, rfl⟩) ?_).1
  exact fun w' h => ⟨x9, trivial, hx9.2, rfl, h.sb⟩

theorem c_found_o (w : World) (alg : Int) (ki : KindI) (hki : kindI alg = some ki) (ho : ki.one = false) : Makes Tryz.prog 39 #[iv alg, .bool true] w (fun _ => True) (fun x : Nat × Nat × Nat × Nat => .tuple #[.agg (kindVs x.2.1 x.2.2.1 x.2.2.2 ki).toArray, iv 0]) (fun x => [.blk x.2.2.2 62 [iv 1, iv 100], .blk x.2.2.1 62 [iv 0, iv 0], .obj x.1 (mapO (kindsKV x.2.1 x.2.2.1 x.2.2.2)), .blk x.2.1 62 [iv 16, iv 16, iv 32, iv 32]]) := by
  refine en0 Tryz.func39 fun K hK => ?_
  refine .sr fun K1 n1 r1 => ?_
  refine .m .alloc fun b4 hb4 => ?_
  refine .v .asI ?_
  refine .nl n1 ?_
  refine .sr fun K2 n2 r2 => ?_
  refine .w (.mc rfl fun wc hw => c_kinds wc) fun x9 hx9 => ?_
  try simp only [List.cons_append, List.nil_append]
  refine .v .mvI ?_
  refine .v (Yl.lookupY (hf := by rw [lk_kinds, hki]; rfl)) ?_
  refine .v .mvU ?_
  refine .v (Yl.extract (vs := [.agg (kindVs x9.2.1 x9.2.2.1 x9.2.2.2 ki).toArray, .bool true]) rfl rfl) ?_
  refine .v (Yl.extract (vs := [.agg (kindVs x9.2.1 x9.2.2.1 x9.2.2.2 ki).toArray, .bool true]) rfl rfl) ?_
  refine .m .alloc fun b6 hb6 => ?_
  refine .s (.storeN (vs := kindVs x9.2.1 x9.2.2.1 x9.2.2.2 ki) (h1 := kindVs_one _ _ _ _)) ?_
  refine .v .asB ?_
  refine .nl n2 ?_
  refine .seq fun K3 n3 r3 => ?_
  refine .sr fun K4 n4 r4 => ?_
  refine .v .mvB ?_
  refine .v .not ?_
  refine .v (.mvN' (hp := rfl)) ?_
  refine .gy .mvB ?_
  refine .gy .mvB ?_
  refine .gy .fa ?_
  refine .gy .load1z ?_
  refine .gy (.pick_t rfl (v := .bool _) rfl) ?_
  refine .v (.pick_f rfl (v := .bool _) rfl) ?_
  refine .nl n4 ?_
  refine .cF' (hp := ho) (h := ?_)
  refine .skip ?_
  refine n3 _ _ _ ?_
  refine .sr fun K5 n5 r5 => ?_
  refine .v .loadAz ?_
  refine .s (.storeN (vs := kindVs x9.2.1 x9.2.2.1 x9.2.2.2 ki) (h1 := kindVs_one _ _ _ _)) ?_
  refine .v .asI ?_
  refine .nl n5 ?_
  refine .ret ?_
  refine (hK _ _ _ ⟨25, rfl⟩ (Res.d ⟨25, rfl⟩) ?_).1
  exact fun w' h => ⟨x9, trivial, hx9.2, rfl, h.sb⟩

theorem c_found_1 (w : World) (alg : Int) (ki : KindI) (hki : kindI alg = some ki) (ho : ki.one = true) : Pure Tryz.prog 39 #[iv alg, .bool true] w (.tuple #[.agg [iv 0, .bool false, .slice none 0 0, iv 0, iv 0, iv 0, .nilFunc, .nilFunc].toArray, iv 4]) := by
  refine en0 Tryz.func39 fun K hK => ?_
  refine .sr fun K1 n1 r1 => ?_
  refine .m .alloc fun b4 hb4 => ?_
  refine .v .asI ?_
  refine .nl n1 ?_
  refine .sr fun K2 n2 r2 => ?_
  refine .w (.mc rfl fun wc hw => c_kinds wc) fun x9 hx9 => ?_
  try simp only [List.cons_append, List.nil_append]
  refine .v .mvI ?_
  refine .v (Yl.lookupY (hf := by rw [lk_kinds, hki]; rfl)) ?_
  refine .v .mvU ?_
  refine .v (Yl.extract (vs := [.agg (kindVs x9.2.1 x9.2.2.1 x9.2.2.2 ki).toArray, .bool true]) rfl rfl) ?_
  refine .v (Yl.extract (vs := [.agg (kindVs x9.2.1 x9.2.2.1 x9.2.2.2 ki).toArray, .bool true]) rfl rfl) ?_
  refine .m .alloc fun b6 hb6 => ?_
  refine .s (.storeN (vs := kindVs x9.2.1 x9.2.2.1 x9.2.2.2 ki) (h1 := kindVs_one _ _ _ _)) ?_
  refine .v .asB ?_
  refine .nl n2 ?_
  refine .seq fun K3 n3 r3 => ?_
  refine .sr fun K4 n4 r4 => ?_
  refine .v .mvB ?_
  refine .v .not ?_
  refine .v (.mvN' (hp := rfl)) ?_
  refine .gy .mvB ?_
  refine .gy .mvB ?_
  refine .gy .fa ?_
  refine .gy .load1z ?_
  refine .gy (.pick_t rfl (v := .bool _) rfl) ?_
  refine .v (.pick_f rfl (v := .bool _) rfl) ?_
  refine .nl n4 ?_
  refine .cT' (hp := ho) (h := ?_)
  refine .sr fun K5 n5 r5 => ?_
  refine .v (.bs (r := [.int _ _, .bool _, .slice _ _ _, .int _ _, .int _ _, .int _ _, _, _])) ?_
  refine .s .storeN ?_
  refine .v .asI ?_
  refine .nl n5 ?_
  refine .ret ?_
  refine r3 _ _ _ _ (by simp) ?_
  refine (hK _ _ _ ⟨25, rfl⟩ (Res.d ⟨25, rfl⟩) ?_).1
  exact fun w' h => ⟨rfl, h.clear⟩

theorem c_found_0 (w : World) (alg : Int) (op : Bool) (hki : kindI alg = none) : Pure Tryz.prog 39 #[iv alg, .bool op] w (.tuple #[.agg [iv 0, .bool false, .slice none 0 0, iv 0, iv 0, iv 0, .nilFunc, .nilFunc].toArray, iv 4]) := by
  refine en0 Tryz.func39 fun K hK => ?_
  refine .sr fun K1 n1 r1 => ?_
  refine .m .alloc fun b4 hb4 => ?_
  refine .v .asI ?_
  refine .nl n1 ?_
  refine .sr fun K2 n2 r2 => ?_
  refine .w (.mc rfl fun wc hw => c_kinds wc) fun x9 hx9 => ?_
  try simp only [List.cons_append, List.nil_append]
  refine .v .mvI ?_
  refine .v (Yl.lookupN (v := .agg [iv 0, .bool false, .slice none 0 0, iv 0, iv 0, iv 0, .nilFunc, .nilFunc].toArray) (hf := by rw [lk_kinds, hki]; rfl) (hz := run_zeroV (by kernel_rfl))) ?_
  refine .v .mvU ?_
  refine .v (Yl.extract (vs := [.agg ([iv 0, .bool false, .slice none 0 0, iv 0, iv 0, iv 0, .nilFunc, .nilFunc]).toArray, .bool false]) rfl rfl) ?_
  refine .v (Yl.extract (vs := [.agg ([iv 0, .bool false, .slice none 0 0, iv 0, iv 0, iv 0, .nilFunc, .nilFunc]).toArray, .bool false]) rfl rfl) ?_
  refine .m .alloc fun b6 hb6 => ?_
  refine .s .storeN ?_
  refine .v .asB ?_
  refine .nl n2 ?_
  refine .seq fun K3 n3 r3 => ?_
  refine .sr fun K4 n4 r4 => ?_
  refine .v .mvB ?_
  refine .v .not ?_
  refine .v (.mvT' (hp := rfl)) ?_
  refine .gn ?_
  refine .gn ?_
  refine .gu ?_
  refine .gu ?_
  refine .gn ?_
  refine .v (.pick_t rfl (v := .bool _) rfl) ?_
  refine .nl n4 ?_
  refine .cond_t rfl ?_
  refine .sr fun K5 n5 r5 => ?_
  refine .v (.bs (r := [.int _ _, .bool _, .slice _ _ _, .int _ _, .int _ _, .int _ _, _, _])) ?_
  refine .s .storeN ?_
  refine .v .asI ?_
  refine .nl n5 ?_
  refine .ret ?_
  refine r3 _ _ _ _ (by simp) ?_
  refine (hK _ _ _ ⟨25, rfl⟩ (Res.d ⟨25, rfl⟩) ?_).1
  exact fun w' h => ⟨rfl, h.clear⟩

theorem c_found (w : World) (alg : Int) (op : Bool) (ki : KindI) (hf : foundM alg op = some ki) : Makes Tryz.prog 39 #[iv alg, .bool op] w (fun _ => True) (fun x : Nat × Nat × Nat × Nat => .tuple #[.agg (kindVs x.2.1 x.2.2.1 x.2.2.2 ki).toArray, iv 0]) (fun x => [.blk x.2.2.2 62 [iv 1, iv 100], .blk x.2.2.1 62 [iv 0, iv 0], .obj x.1 (mapO (kindsKV x.2.1 x.2.2.1 x.2.2.2)), .blk x.2.1 62 [iv 16, iv 16, iv 32, iv 32]]) := by
  unfold foundM at hf
  obtain ⟨k, hk, hf⟩ := Option.bind_eq_some_iff.1 hf
  split at hf
  · cases hf
  · cases hf
    cases op with
    | false => exact c_found_c w alg _ hk
    | true => exact c_found_o w alg _ hk (by rename_i h; simpa using h)
theorem c_found_no (w : World) (alg : Int) (op : Bool) (hf : foundM alg op = none) : Pure Tryz.prog 39 #[iv alg, .bool op] w (.tuple #[.agg [iv 0, .bool false, .slice none 0 0, iv 0, iv 0, iv 0, .nilFunc, .nilFunc].toArray, iv 4]) := by
  unfold foundM at hf
  cases hk : kindI alg with
  | none => exact c_found_0 w alg op hk
  | some k =>
    rw [hk, Option.bind_some] at hf
    split at hf
    · rename_i h
      simp only [Bool.and_eq_true] at h
      rw [h.1]
      exact c_found_1 w alg k hk h.2
    · cases hf
theorem foundM_kind {alg : Int} {op : Bool} {ki : KindI} (hf : foundM alg op = some ki) : kindI alg = some ki := by
  unfold foundM at hf
  obtain ⟨k, hk, hf⟩ := Option.bind_eq_some_iff.1 hf
  split at hf
  · cases hf
  · cases hf; exact hk

theorem c_check_y (w : World) (alg : Int) (op : Bool) (K V A : Option Addr) (nk ck nv cv na ca : Nat) (ki : KindI) (hf : foundM alg op = some ki) : Pure Tryz.prog 16 #[.agg [iv alg, .bool op, .slice K nk ck, .slice V nv cv, .slice A na ca].toArray] w (iv (checkM alg op nk nv na)) := by
  refine en0 Tryz.func16 fun K hK => ?_
  refine .sr fun K1 n1 r1 => ?_
  refine .m .boxA fun b1 hb1 => ?_
  refine .v .asI ?_
  refine .nl n1 ?_
  refine .sr fun K2 n2 r2 => ?_
  refine .v .fa ?_
  refine .v .load1z ?_
  refine .v .fa ?_
  refine .v .load1z ?_
  refine .w (.mc rfl fun wc hw => c_found wc alg op ki hf) fun x9 hx9 => ?_
  try simp only [List.cons_append, List.nil_append]
  refine .v .mvU ?_
  refine .v (Yl.extract (vs := [.agg (kindVs x9.2.1 x9.2.2.1 x9.2.2.2 ki).toArray, iv 0]) rfl rfl) ?_
  refine .v (Yl.extract (vs := [.agg (kindVs x9.2.1 x9.2.2.1 x9.2.2.2 ki).toArray, iv 0]) rfl rfl) ?_
  refine .m .alloc fun b3 hb3 => ?_
  refine .s (.storeN (vs := kindVs x9.2.1 x9.2.2.1 x9.2.2.2 ki) (h1 := kindVs_one _ _ _ _)) ?_
  refine .v .asI ?_
  refine .nl n2 ?_
  refine .seq fun K3 n3 r3 => ?_
  refine .block fun K4 n4 x4 r4 => ?_
  refine .sr fun K5 n5 r5 => ?_
  refine .v .mvI ?_
  refine .v .neq ?_
  refine .v .asB ?_
  refine .nl n5 ?_
  refine .cF (hp := (by decide)) (h := ?_)
  refine .sr fun K6 n6 r6 => ?_
  refine .v .fa ?_
  refine .v .load1z ?_
  refine .v .len1 ?_
  refine .v .fa ?_
  refine .v .load1z ?_
  refine .u (.pc rfl fun wc hw => by have h9 := kind_rd (b4 := x9.2.1) (b7 := x9.2.2.1) (b10 := x9.2.2.2) (foundM_kind hf) (hw.rwBlk AtB.ha.mem) (hw.rwBlk AtB.ha.mem) (hw.rwBlk AtB.ha.mem); exact c_in wc nk _ ki.sp _ _ h9.1 h9.2.1 (by omega)) ?_
  refine .v .not ?_
  refine .v .asB ?_
  refine .nl n6 ?_
  refine .cond _ rfl (fun h17 => ?_) fun h17 => ?_
  ·
    try simp only [decide_eq_true_eq, decide_eq_false_iff_not, Bool.not_eq_true, Bool.not_eq_false, Bool.not_true, Bool.not_false, Bool.not_eq_eq_eq_not, ne_eq, Decidable.not_not] at h17
    refine .sr fun K7 n7 r7 => ?_
    refine .v .asI ?_
    refine .nl n7 ?_
    refine .ret ?_
    refine r4 _ _ _ _ (by simp) (by simp) ?_
    refine r3 _ _ _ _ (by simp) ?_
    refine (hK _ _ _ ⟨41, rfl⟩ (Res.o ⟨41, rfl⟩) ?_).1
    exact fun w' h => ⟨congrArg (fun z => Ending.returned (iv z)) (by simp [checkM, hf, checkK, h17]), h.clear⟩
  ·
    try simp only [decide_eq_true_eq, decide_eq_false_iff_not, Bool.not_eq_true, Bool.not_eq_false, Bool.not_true, Bool.not_false, Bool.not_eq_eq_eq_not, ne_eq, Decidable.not_not] at h17
    refine .sr fun K8 n8 r8 => ?_
    refine .v .fa ?_
    refine .v .load1z ?_
    refine .v .len1 ?_
    refine .v .fa ?_
    refine .v (.loadAp (ys := [iv ki.ivf, iv ki.ivt]) (hys := rfl)) ?_
    refine .m (.bsl (r := [.int _ _, .int _ _])) fun b31 hb31 => ?_
    refine .u (.pc rfl fun wc hw => c_in wc nv _ [(ki.ivf, ki.ivt)] _ _ (hw.rwBlk AtB.ha.mem) rfl (by decide)) ?_
    refine .v .not ?_
    refine .v .asB ?_
    refine .nl n8 ?_
    refine .cond _ rfl (fun h25 => ?_) fun h25 => ?_
    ·
      try simp only [decide_eq_true_eq, decide_eq_false_iff_not, Bool.not_eq_true, Bool.not_eq_false, Bool.not_true, Bool.not_false, Bool.not_eq_eq_eq_not, ne_eq, Decidable.not_not] at h25
      refine .sr fun K9 n9 r9 => ?_
      refine .v .asI ?_
      refine .nl n9 ?_
      refine .ret ?_
      refine r4 _ _ _ _ (by simp) (by simp) ?_
      refine r3 _ _ _ _ (by simp) ?_
      refine (hK _ _ _ ⟨41, rfl⟩ (Res.o ⟨41, rfl⟩) ?_).1
      exact fun w' h => ⟨congrArg (fun z => Ending.returned (iv z)) (by simp [checkM, hf, checkK, h17, h25]), h.clear⟩
    ·
      try simp only [decide_eq_true_eq, decide_eq_false_iff_not, Bool.not_eq_true, Bool.not_eq_false, Bool.not_true, Bool.not_false, Bool.not_eq_eq_eq_not, ne_eq, Decidable.not_not] at h25
      refine .sr fun K10 n10 r10 => ?_
      refine .v .fa ?_
      refine .v .load1z ?_
      refine .v .len1 ?_
      refine .v .fa ?_
      refine .v .load1z ?_
      refine .v .gtr ?_
      refine .v .asB ?_
      refine .nl n10 ?_
      refine .cd rfl (fun h34 => ?_) fun h34 => ?_
      ·
        refine .sr fun K11 n11 r11 => ?_
        refine .v .asI ?_
        refine .nl n11 ?_
        refine .ret ?_
        refine r4 _ _ _ _ (by simp) (by simp) ?_
        refine r3 _ _ _ _ (by simp) ?_
        refine (hK _ _ _ ⟨41, rfl⟩ (Res.o ⟨41, rfl⟩) ?_).1
        exact fun w' h => ⟨congrArg (fun z => Ending.returned (iv z)) (by simp only [checkM, hf, checkK, h17, h25]; simp [h34]), h.clear⟩
      ·
        refine .skip ?_
        refine n4 _ _ _ ?_
        refine n3 _ _ _ ?_
        refine .sr fun K12 n12 r12 => ?_
        refine .v .asI ?_
        refine .nl n12 ?_
        refine .ret ?_
        refine (hK _ _ _ ⟨41, rfl⟩ (Res.o ⟨41, rfl⟩) ?_).1
        exact fun w' h => ⟨congrArg (fun z => Ending.returned (iv z)) (by simp only [checkM, hf, checkK, h17, h25]; simp [h34]), h.clear⟩

theorem c_check_n (w : World) (alg : Int) (op : Bool) (K V A : Option Addr) (nk ck nv cv na ca : Nat) (hf : foundM alg op = none) : Pure Tryz.prog 16 #[.agg [iv alg, .bool op, .slice K nk ck, .slice V nv cv, .slice A na ca].toArray] w (iv (checkM alg op nk nv na)) := by
  refine en0 Tryz.func16 fun K hK => ?_
  refine .sr fun K1 n1 r1 => ?_
  refine .m .boxA fun b1 hb1 => ?_
  refine .v .asI ?_
  refine .nl n1 ?_
  refine .sr fun K2 n2 r2 => ?_
  refine .v .fa ?_
  refine .v .load1z ?_
  refine .v .fa ?_
  refine .v .load1z ?_
  refine .u (.pc rfl fun wc hw => c_found_no wc alg op hf) ?_
  refine .v .mvU ?_
  refine .v (Yl.extract (vs := [.agg ([iv 0, .bool false, .slice none 0 0, iv 0, iv 0, iv 0, .nilFunc, .nilFunc]).toArray, iv 4]) rfl rfl) ?_
  refine .v (Yl.extract (vs := [.agg ([iv 0, .bool false, .slice none 0 0, iv 0, iv 0, iv 0, .nilFunc, .nilFunc]).toArray, iv 4]) rfl rfl) ?_
  refine .m .alloc fun b3 hb3 => ?_
  refine .s .storeN ?_
  refine .v .asI ?_
  refine .nl n2 ?_
  refine .seq fun K3 n3 r3 => ?_
  refine .block fun K4 n4 x4 r4 => ?_
  refine .sr fun K5 n5 r5 => ?_
  refine .v .mvI ?_
  refine .v .neq ?_
  refine .v .asB ?_
  refine .nl n5 ?_
  refine .cT (hp := (by decide)) (h := ?_)
  refine .sr fun K6 n6 r6 => ?_
  refine .v .mvI ?_
  refine .v .asI ?_
  refine .nl n6 ?_
  refine .ret ?_
  refine r4 _ _ _ _ (by simp) (by simp) ?_
  refine r3 _ _ _ _ (by simp) ?_
  refine (hK _ _ _ ⟨41, rfl⟩ (Res.o ⟨41, rfl⟩) ?_).1
  exact fun w' h => ⟨congrArg (fun z => Ending.returned (iv z)) (by simp [checkM, hf]), h.clear⟩

theorem c_check (w : World) (alg : Int) (op : Bool) (K V A : Option Addr) (nk ck nv cv na ca : Nat) : Pure Tryz.prog 16 #[.agg [iv alg, .bool op, .slice K nk ck, .slice V nv cv, .slice A na ca].toArray] w (iv (checkM alg op nk nv na)) := by
  cases hf : foundM alg op with
  | none => exact c_check_n w alg op K V A nk ck nv cv na ca hf
  | some ki => exact c_check_y w alg op K V A nk ck nv cv na ca ki hf

end Go.Proofs.YtoclfghkgpcniaaGreatDoor

/- A small calculus over the kit's rules (second part): the short forms; no statement of the program is proved here. -/
import Derived.Test.YtoclfghkgpcniaaGreatDoorEnga
set_option maxRecDepth 10000
set_option linter.unusedSimpArgs false
set_option linter.unusedVariables false
/- Loops, by what they write. -/
open Go.RowKit
namespace Go.Eng
section
variable {P : Program} {ops : Array Oper} {Q : Exit → Act → World → Prop} {e : En} {ds : List Deferred} {S : WS}

def En.junk : List Nat → List Value → En → En
  | [], _, e => e
  | d :: ws, J, e => .upd d (J.headD undef) (En.junk ws J.tail e)
def En.upds : List (Nat × Value) → En → En
  | [], e => e
  | p :: l, e => .upd p.1 p.2 (En.upds l e)
/-- Down to the mark all that is written is in ws. -/
def En.upTo (m : Nat) (ws : List Nat) : En → Bool
  | .base _ _ => false
  | .upd d _ e => ws.any (Nat.beq d) && e.upTo m ws
  | .mark n e => Nat.beq n m || e.upTo m ws
def En.under (m : Nat) : En → En
  | .base n l => .base n l
  | .upd _ _ e => e.under m
  | .mark n e => bif Nat.beq n m then e else e.under m

theorem En.arr_eq {n : Nat} {a b : En} (ha : a.ok n = true) (hb : b.ok n = true) (h : ∀ t, a.get t = b.get t) : a.arr = b.arr := by
  apply Array.ext
  · rw [En.size_of_ok ha, En.size_of_ok hb]
  · intro i h1 h2
    have e1 := En.getD_of_ok ha i
    have e2 := En.getD_of_ok hb i
    rw [h i, ← e2] at e1
    simpa [Array.getD_eq_getD_getElem?, h1, h2] using e1
theorem En.get_junk (f : Nat → Value) (e : En) : ∀ (ws : List Nat) (t : Nat), (En.junk ws (ws.map f) e).get t = if t ∈ ws then f t else e.get t
  | [], t => by simp [En.junk]
  | d :: ws, t => by
    simp only [En.junk, List.map_cons, List.headD_cons, List.tail_cons, En.get]
    cases hb : Nat.beq t d with
    | true => have := Nat.eq_of_beq_eq_true hb; subst this; simp
    | false =>
      have hne : t ≠ d := fun h => by subst h; simp at hb
      rw [cond_false, En.get_junk f e ws t]
      simp [hne]
theorem En.get_upds {f : Nat → Value} {e : En} : ∀ {l : List (Nat × Value)}, l.map (fun p => f p.1) = l.map (·.2) → (∀ t, e.get t = f t) → ∀ t, (En.upds l e).get t = f t
  | [], _, he, t => he t
  | p :: l, hl, he, t => by
    simp only [List.map_cons, List.cons.injEq] at hl
    simp only [En.upds, En.get]
    cases hb : Nat.beq t p.1 with
    | true => have := Nat.eq_of_beq_eq_true hb; subst this; rw [cond_true]; exact hl.1.symm
    | false => rw [cond_false]; exact En.get_upds hl.2 he t
theorem En.get_under {m : Nat} {ws : List Nat} : ∀ {e : En}, e.upTo m ws = true → ∀ t, t ∉ ws → e.get t = (e.under m).get t
  | .base _ _, h, _, _ => by simp [En.upTo] at h
  | .upd d v e, h, t, ht => by
    simp only [En.upTo, Bool.and_eq_true, List.any_eq_true] at h
    obtain ⟨⟨x, hx, hd⟩, h⟩ := h
    have := Nat.eq_of_beq_eq_true hd; subst this
    have hne : Nat.beq t d = false := by
      cases hb : Nat.beq t d with
      | false => rfl
      | true => have := Nat.eq_of_beq_eq_true hb; subst this; exact absurd hx ht
    simp only [En.get, hne, cond_false, En.under]
    exact En.get_under h t ht
  | .mark n e, h, t, ht => by
    simp only [En.get, En.under]
    cases hb : Nat.beq n m with
    | true => rfl
    | false =>
      simp only [En.upTo, hb, Bool.false_or] at h
      rw [cond_false]; exact En.get_under h t ht
theorem En.ok_upds {n : Nat} : ∀ {l : List (Nat × Value)} {e : En}, (En.upds l e).ok n = true → e.ok n = true
  | [], _, h => h
  | _ :: l, _, h => by simp only [En.upds, En.ok, Bool.and_eq_true] at h; exact En.ok_upds h.2
theorem En.ok_junk {n : Nat} : ∀ {ws : List Nat} {J : List Value} {e : En}, (En.junk ws J e).ok n = true → e.ok n = true
  | [], _, _, h => h
  | _ :: ws, _, _, h => by simp only [En.junk, En.ok, Bool.and_eq_true] at h; exact En.ok_junk h.2
theorem En.ok_same {n : Nat} {l l' : List (Nat × Value)} (hl : l.map (·.1) = l'.map (·.1)) : ∀ {ws : List Nat} {J J' : List Value} {e : En}, (En.upds l (En.junk ws J e)).ok n = (En.upds l' (En.junk ws J' e)).ok n := by
  have hj : ∀ (ws : List Nat) (J J' : List Value) (e : En), (En.junk ws J e).ok n = (En.junk ws J' e).ok n := by
    intro ws
    induction ws with
    | nil => intros; rfl
    | cons d ws ih => intro J J' e; simp only [En.junk, En.ok]; rw [ih]
  induction l generalizing l' with
  | nil => cases l' with
    | nil => intros; exact hj _ _ _ _
    | cons p l' => simp at hl
  | cons p l ih => cases l' with
    | nil => simp at hl
    | cons p' l' =>
      simp only [List.map_cons, List.cons.injEq] at hl
      intro ws J J' e
      simp only [En.upds, En.ok, hl.1]
      rw [ih hl.2]

/-- The frame at the loop's head. -/
def En.head (m : Nat) (ws : List Nat) (l : List (Nat × Value)) (J : List Value) (e : En) : En := En.upds l (En.junk ws J (.mark m e))
theorem En.head_arr {m : Nat} {ws : List Nat} {l : List (Nat × Value)} {e e' : En} {n : Nat} (hok : (En.head m ws l (ws.map e'.get) e).ok n = true) (hok' : e'.ok n = true) (hg : ∀ t, t ∉ ws → e'.get t = e.get t)
    (hl : l.map (fun p => e'.get p.1) = l.map (·.2)) : e'.arr = (En.head m ws l (ws.map e'.get) e).arr := by
  refine En.arr_eq hok' hok fun t => ?_
  unfold En.head
  refine (En.get_upds hl (fun t => ?_) t).symm
  rw [En.get_junk]
  split
  · rfl
  · rename_i h; exact (hg t h).symm
theorem Wp.loopJ {X : Type} {c : Code} (m : Nat) (ws : List Nat) (keys : List Nat) (live : X → List Value) (T : X → WS) (μ : X → Nat) (x0 : X) (hk : ∀ x, (live x).length = keys.length) (hl : keys.map e.get = live x0) (hs : ∀ w, S w → T x0 w)
    (h : ∀ x J, ∀ K : Exit → Act → World → Prop, (∀ y e' S', e'.Ok → e'.upTo m ws = true → e'.under m = e → keys.map e'.get = live y → μ y < μ x → (∀ w, S' w → T y w) → Fin K .normal e' ds S') →
      (∀ z e ds S, z ≠ .normal → Fin Q z e ds S → Fin K z e ds S) → Wp P c K (En.head m ws (keys.zip (live x)) J e) ds (T x)) : Wp P (.loop c) Q e ds S := by
  have hkeys : ∀ x, (keys.zip (live x)).map (·.1) = keys := fun x => List.map_fst_zip (by rw [hk x]; exact Nat.le_refl _)
  have hzip : ∀ x (f : Nat → Value), keys.map f = live x → (keys.zip (live x)).map (fun p => f p.1) = (keys.zip (live x)).map (·.2) := fun x f hf => by
    have h1 : (keys.zip (live x)).map (fun p => f p.1) = ((keys.zip (live x)).map (·.1)).map f := by rw [List.map_map]; rfl
    rw [h1, hkeys, hf, List.map_snd_zip (by rw [hk x]; exact Nat.le_refl _)]
  have hwp : ∀ x J, ∃ n, (En.head m ws (keys.zip (live x)) J e).ok n = true := fun x J => by
    have := (h x J (fun _ _ _ => True) (fun _ e' S' ho _ _ _ _ _ => ⟨ho, fun _ _ => trivial⟩) (fun z e ds S _ hf => ⟨hf.1, fun _ _ => trivial⟩)).1
    exact this
  obtain ⟨n, hn⟩ := hwp x0 (ws.map e.get)
  have hne : e.ok n = true := by have := En.ok_junk (En.ok_upds hn); exact this
  refine Wp.loop (X := X × List Value) (fun p => En.head m ws (keys.zip (live p.1)) p.2 e) (fun p => T p.1) (fun p => μ p.1) (x0, ws.map e.get)
    ⟨⟨n, hne⟩, En.head_arr hn hne (fun _ _ => rfl) (hzip x0 _ hl)⟩ hs ?_
  rintro ⟨x, J⟩ K hK hr
  refine h x J K ?_ hr
  intro y e' S' hok' hup hun hly hμ hS'
  refine hK (y, ws.map e'.get) e' hμ ⟨hok', ?_⟩ S' hS'
  obtain ⟨n', hn'⟩ := hok'
  have hsz : n' = n := by
    have h1 : (e'.under m).ok n' = true := by
      have : ∀ {e' : En}, e'.ok n' = true → (e'.under m).ok n' = true := by
        intro e'
        induction e' with
        | base k l => exact fun h => h
        | upd d v e ih => intro h; simp only [En.ok, Bool.and_eq_true] at h; exact ih h.2
        | mark k e ih => intro h; simp only [En.under]; cases Nat.beq k m <;> first | exact h | exact ih h
      exact this hn'
    rw [hun] at h1
    rw [← En.size_of_ok h1, En.size_of_ok hne]
  subst hsz
  refine En.head_arr ?_ hn' (fun t ht => by rw [En.get_under hup t ht, hun]) (hzip y _ hly)
  unfold En.head
  rw [En.ok_same (l' := keys.zip (live x0)) (by rw [hkeys, hkeys]) (J' := ws.map e.get)]
  exact hn

/-- The same, with what holds of the loop's state besides. -/
theorem Wp.loopI {X : Type} {c : Code} (m : Nat) (ws : List Nat) (keys : List Nat) (I : X → Prop) (live : X → List Value) (T : X → WS) (μ : X → Nat) (x0 : X) (hI : I x0) (hk : ∀ x, (live x).length = keys.length) (hl : keys.map e.get = live x0) (hs : ∀ w, S w → T x0 w)
    (h : ∀ x, I x → ∀ J, ∀ K : Exit → Act → World → Prop, (∀ y e' S', I y → e'.Ok → e'.upTo m ws = true → e'.under m = e → keys.map e'.get = live y → μ y < μ x → (∀ w, S' w → T y w) → Fin K .normal e' ds S') →
      (∀ z e ds S, z ≠ .normal → Fin Q z e ds S → Fin K z e ds S) → Wp P c K (En.head m ws (keys.zip (live x)) J e) ds (T x)) : Wp P (.loop c) Q e ds S :=
  Wp.loopJ (X := {x : X // I x}) m ws keys (fun x => live x.1) (fun x => T x.1) (fun x => μ x.1) ⟨x0, hI⟩ (fun x => hk x.1) hl hs
    (fun x J K hK hr => h x.1 x.2 J K (fun y e' S' hy => hK ⟨y, hy⟩ e' S') hr)
theorem l1 {a a' : Value} (h : a = a') : [a] = [a'] := by rw [h]
theorem l2 {a a' b b' : Value} (h1 : a = a') (h2 : b = b') : [a, b] = [a', b'] := by rw [h1, h2]
theorem l3 {a a' b b' c c' : Value} (h1 : a = a') (h2 : b = b') (h3 : c = c') : [a, b, c] = [a', b', c'] := by rw [h1, h2, h3]
theorem l4 {a a' b b' c c' d d' : Value} (h1 : a = a') (h2 : b = b') (h3 : c = c') (h4 : d = d') : [a, b, c, d] = [a', b', c', d'] := by rw [h1, h2, h3, h4]
theorem l5 {a a' b b' c c' d d' f f' : Value} (h1 : a = a') (h2 : b = b') (h3 : c = c') (h4 : d = d') (h5 : f = f') : [a, b, c, d, f] = [a', b', c', d', f'] := by rw [h1, h2, h3, h4, h5]

/-! #### the steps as the printer uses them -/
variable {o : Op} {rest : List Oper} {d : Nat} {ty : TypeId} {pos : String} {aft : Array Edge} {g : Option (Nat × Bool)}
theorem Ops.v {v : Value} (hy : Yl P S e ⟨some d, o, ty, pos, aft, none⟩ v) (h : Ops P ops Q rest (.upd d v e) ds S) : Ops P ops Q (⟨some d, o, ty, pos, aft, none⟩ :: rest) e ds S := Ops.val rfl hy h
theorem Ops.f {X : Type} {p : X → Prop} {val : X → Value} {T : X → WS} (he : Ef P Q e ds S ⟨some d, o, ty, pos, aft, none⟩ p val T) (hne : ∃ x, p x) (h : ∀ x, p x → Ops P ops Q rest (.upd d (val x) e) ds (T x)) :
    Ops P ops Q (⟨some d, o, ty, pos, aft, none⟩ :: rest) e ds S := Ops.eff rfl he hne h
theorem Ops.s {T : Unit → WS} (he : Ef P Q e ds S ⟨none, o, ty, pos, aft, none⟩ Top (fun _ => undef) T) (h : Ops P ops Q rest e ds (T ())) :
    Ops P ops Q (⟨none, o, ty, pos, aft, none⟩ :: rest) e ds S := Ops.eff rfl he ⟨(), trivial⟩ fun _ _ => h
end
end Go.Eng

/- Handy forms. -/
open Go.RowKit
namespace Go.Eng
section
variable {P : Program} {ops : Array Oper} {Q : Exit → Act → World → Prop} {e : En} {ds : List Deferred} {S : WS} {rest : List Oper}
variable {w0 : World} {F : List Nat} {L : List Hl} {d : Option Tmp} {ty t yt elem sT dT : TypeId} {pos : String} {aft : Array Edge} {g : Option (Nat × Bool)} {x y : Operand} {k j : IntKind} {m n : Int}
variable {b ofs base sz bytes ln cap : Nat} {cs xs ys zs vs : List Value} {v : Value} {T : TypeId} {u : Hl → List Hl} {A : Option Addr} {ao : Option Nat}

theorem getmap {α : Type} [Inhabited α] {f : α → Value} {xs : List α} {i : Nat} (h : i < xs.length) : (xs.map f)[i]? = some (f (xs.getD i default)) := by
  simp [h]
/-! moves, by kind -/
theorem Yl.mvI (h : e.ev x = .int k n := by rfl) : Yl P S e ⟨d, .move x, ty, pos, aft, g⟩ (.int k n) := Yl.move' h
theorem Yl.asI (h : e.ev x = .int k n := by rfl) : Yl P S e ⟨d, .assign x, ty, pos, aft, g⟩ (.int k n) := Yl.assign' h
theorem Yl.mvB {c : Bool} (h : e.ev x = .bool c := by rfl) : Yl P S e ⟨d, .move x, ty, pos, aft, g⟩ (.bool c) := Yl.move' h
theorem Yl.asB {c : Bool} (h : e.ev x = .bool c := by rfl) : Yl P S e ⟨d, .assign x, ty, pos, aft, g⟩ (.bool c) := Yl.assign' h
theorem Yl.mvS {n c : Nat} (h : e.ev x = .slice A n c := by rfl) : Yl P S e ⟨d, .move x, ty, pos, aft, g⟩ (.slice A n c) := Yl.move' h
theorem Yl.asS {n c : Nat} (h : e.ev x = .slice A n c := by rfl) : Yl P S e ⟨d, .assign x, ty, pos, aft, g⟩ (.slice A n c) := Yl.assign' h
theorem Yl.mvP (h : e.ev x = .pointer A := by rfl) : Yl P S e ⟨d, .move x, ty, pos, aft, g⟩ (.pointer A) := Yl.move' h
theorem Yl.asP (h : e.ev x = .pointer A := by rfl) : Yl P S e ⟨d, .assign x, ty, pos, aft, g⟩ (.pointer A) := Yl.assign' h
theorem Yl.mvA {c : Array Value} (h : e.ev x = .agg c := by rfl) : Yl P S e ⟨d, .move x, ty, pos, aft, g⟩ (.agg c) := Yl.move' h
theorem Yl.asA {c : Array Value} (h : e.ev x = .agg c := by rfl) : Yl P S e ⟨d, .assign x, ty, pos, aft, g⟩ (.agg c) := Yl.assign' h
theorem Yl.mvStr {s : ByteArray} (h : e.ev x = .string s := by rfl) : Yl P S e ⟨d, .move x, ty, pos, aft, g⟩ (.string s) := Yl.move' h
theorem Yl.asStr {s : ByteArray} (h : e.ev x = .string s := by rfl) : Yl P S e ⟨d, .assign x, ty, pos, aft, g⟩ (.string s) := Yl.assign' h
theorem Yl.mvF {fn : Fn} {a c : Array Value} (h : e.ev x = .func fn a c := by rfl) : Yl P S e ⟨d, .move x, ty, pos, aft, g⟩ (.func fn a c) := Yl.move' h
theorem Yl.asF {fn : Fn} {a c : Array Value} (h : e.ev x = .func fn a c := by rfl) : Yl P S e ⟨d, .assign x, ty, pos, aft, g⟩ (.func fn a c) := Yl.assign' h
theorem Yl.mvM {r : Option Nat} (h : e.ev x = .map r := by rfl) : Yl P S e ⟨d, .move x, ty, pos, aft, g⟩ (.map r) := Yl.move' h
theorem Yl.asM {r : Option Nat} (h : e.ev x = .map r := by rfl) : Yl P S e ⟨d, .assign x, ty, pos, aft, g⟩ (.map r) := Yl.assign' h
/-! memory at the head of a block -/
theorem Yl.load1z (hT : NoAgg P t := by infer_instance) (hx : e.ev x = pt b ofs := by rfl) (hr : Rd w0 F L b 0 xs := by first | exact Sees.rd | assumption) (hv : xs[ofs]? = some v := by first | rfl | exact getmap (by omega) | assumption) : Yl P (Tr w0 F L) e ⟨d, .load t x, ty, pos, aft, g⟩ v :=
  Yl.load1 hT hx ofs hr (by omega) hv
theorem Yl.loadAz (hT : AggOf P t sz := by infer_instance) (hx : e.ev x = pt b 0 := by rfl) (hr : Rd w0 F L b 0 xs := by first | exact Sees.rd | assumption) (hl : xs.length = sz := by first | rfl | assumption | (simp; done) | (simp; omega) | omega) : Yl P (Tr w0 F L) e ⟨d, .load t x, ty, pos, aft, g⟩ (.agg xs.toArray) :=
  Yl.loadA hT hx 0 hr rfl xs (by rw [List.drop_zero, ← hl, List.take_length]) hl
theorem Yl.loadAp (hT : AggOf P t sz := by infer_instance) (hx : e.ev x = pt b ofs := by rfl) (hr : Rd w0 F L b 0 xs := by first | exact Sees.rd | assumption) (ys : List Value) (hys : (xs.drop ofs).take sz = ys) (hl : ys.length = sz := by first | rfl | assumption | (simp; done) | (simp; omega) | omega) : Yl P (Tr w0 F L) e ⟨d, .load t x, ty, pos, aft, g⟩ (.agg ys.toArray) :=
  Yl.loadA hT hx ofs hr (by omega) ys hys hl
theorem Yl.indexArrZ {N : Nat} (hu : P.underlying t = some (.array N elem) := by exact Und.out) (hs : SizeOf P elem 1 := by infer_instance) (hx : e.ev x = pt b 0 := by rfl) (hi : e.ev y = .int k n := by rfl) (i : Nat) (hn : n = i := by omega) (hlt : i < N := by omega) :
    Yl P S e ⟨d, .indexAddr t x y, ty, pos, aft, g⟩ (pt b i) := by
  have := Yl.indexArr1 (P := P) (S := S) (d := d) (ty := ty) (pos := pos) (aft := aft) (g := g) hu hs hx hi i hn hlt
  rwa [Nat.zero_add] at this
theorem Yl.indexSliceZ {ln cap : Nat} (hu : P.underlying t = some (.slice elem) := by exact Und.out) (hs : SizeOf P elem 1 := by infer_instance) (hx : e.ev x = .slice (some ⟨b, 0, none⟩) ln cap := by rfl) (hi : e.ev y = .int k n := by rfl) (i : Nat) (hn : n = i := by omega) (hlt : i < ln := by omega) :
    Yl P S e ⟨d, .indexAddr t x y, ty, pos, aft, g⟩ (pt b i) := by
  have := Yl.indexSlice1 (P := P) (S := S) (d := d) (ty := ty) (pos := pos) (aft := aft) (g := g) hu hs hx hi i hn hlt
  rwa [Nat.zero_add] at this
theorem Yl.fieldAddrZ {i off : Nat} (hf : FieldOf P t i off := by infer_instance) (hx : e.ev x = pt b 0 := by rfl) : Yl P S e ⟨d, .fieldAddr t x i, ty, pos, aft, g⟩ (pt b off) := by
  have := Yl.fieldAddr (P := P) (S := S) (d := d) (ty := ty) (pos := pos) (aft := aft) (g := g) hf hx
  rwa [Nat.zero_add] at this
theorem Ef.box1 (hx : e.ev x = v := by rfl) (hv : v.cells = #[v]) : Ef P Q e ds (Tr w0 F L) ⟨d, .box t x, ty, pos, aft, g⟩ (New w0) (fun b => pt b 0) (fun b => Tr w0 F (.blk b t [v] :: L)) := Ef.box hx (by rw [hv])
theorem Ef.boxA (hx : e.ev x = .agg cs.toArray := by rfl) : Ef P Q e ds (Tr w0 F L) ⟨d, .box t x, ty, pos, aft, g⟩ (New w0) (fun b => pt b 0) (fun b => Tr w0 F (.blk b t cs :: L)) := Ef.box hx rfl
theorem Yl.makeFunc' {fn : Fn} {fst cp : List Operand} {fv cv : List Value} (h1 : fst.map e.ev = fv) (h2 : cp.map e.ev = cv) : Yl P S e ⟨d, .makeFunc fn fst.toArray cp.toArray, ty, pos, aft, g⟩ (.func fn fv.toArray cv.toArray) := by
  subst h1; subst h2; exact Yl.makeFunc

/-! parts put together, in lists -/
def fillL (place : Nat → Option (Nat × Nat)) (cells : List Value) : List (Nat × Value) → Option (List Value)
  | [] => some cells
  | (i, v) :: rest => match place i with
    | none => none
    | some (off, size) => bif Nat.beq v.cells.toList.length size && Nat.ble (off + v.cells.toList.length) cells.length then fillL place (cells.take off ++ v.cells.toList ++ cells.drop (off + v.cells.toList.length)) rest else none
theorem foldl_set (vs : List Value) : ∀ (off k : Nat) (cells : List Value), off + k + vs.length ≤ cells.length →
    (vs.zipIdx k).foldl (fun (cs : Array Value) (p : Value × Nat) => cs.setIfInBounds (off + p.2) p.1) cells.toArray = (cells.take (off + k) ++ vs ++ cells.drop (off + k + vs.length)).toArray := by
  induction vs with
  | nil => intro off k cells _; simp
  | cons v vs ih =>
    intro off k cells h
    simp only [List.zipIdx_cons, List.foldl_cons, List.length_cons] at h ⊢
    rw [List.setIfInBounds_toArray, ih off (k + 1) _ (by simp; omega)]
    congr 1
    rw [List.set_eq_take_append_cons_drop, if_pos (by omega)]
    have e1 : (cells.take (off + k) ++ v :: cells.drop (off + k + 1)).take (off + (k + 1)) = cells.take (off + k) ++ [v] := by
      rw [List.take_append, List.length_take, Nat.min_eq_left (by omega)]
      rw [show off + (k + 1) - (off + k) = 1 from by omega]
      simp [List.take_take, Nat.min_eq_right (show off + k ≤ off + (k + 1) by omega)]
    have e2 : (cells.take (off + k) ++ v :: cells.drop (off + k + 1)).drop (off + (k + 1) + vs.length) = cells.drop (off + k + (vs.length + 1)) := by
      rw [List.drop_append, List.length_take, Nat.min_eq_left (by omega)]
      rw [show off + (k + 1) + vs.length - (off + k) = vs.length + 1 from by omega]
      rw [List.drop_eq_nil_of_le (by simp; omega)]
      simp [List.drop_drop]
      congr 1; omega
    rw [e1, e2]
    simp
theorem fill_eq (place : Nat → Option (Nat × Nat)) : ∀ (parts : List (Nat × Value)) (cells r : List Value), fillL place cells parts = some r → Instr.fill place cells.toArray parts = some r.toArray := by
  intro parts
  induction parts with
  | nil => intro cells r h; simp only [fillL, Option.some.injEq] at h; subst h; rfl
  | cons p rest ih =>
    obtain ⟨i, v⟩ := p
    intro cells r h
    simp only [fillL] at h
    unfold Instr.fill
    cases hp : place i with
    | none => rw [hp] at h; cases h
    | some q =>
      obtain ⟨off, size⟩ := q
      rw [hp] at h
      simp only at h ⊢
      cases hc : Nat.beq v.cells.toList.length size && Nat.ble (off + v.cells.toList.length) cells.length with
      | false => rw [hc] at h; cases h
      | true =>
        rw [hc] at h
        simp only [cond_true] at h
        simp only [Bool.and_eq_true] at hc
        have h1 := Nat.eq_of_beq_eq_true hc.1
        have h2 := Nat.le_of_ble_eq_true hc.2
        rw [Array.length_toList] at h1 h2
        have h3 : ¬ (off + v.cells.size > cells.length) := by omega
        simp only [h1, bne_self_eq_false, List.size_toArray, Bool.false_or, decide_eq_true_eq]
        rw [if_neg (by rw [← h1]; simpa using h3)]
        rw [← ih _ _ h]
        congr 1
        have := foldl_set v.cells.toList off 0 cells (by simpa using h2)
        simp only [Nat.add_zero] at this
        rw [← this, ← Array.foldl_toList, Array.toList_zipIdx]
class Places (P : Program) (t : TypeId) (places : outParam (List (Nat × Nat))) : Prop where
  ex : ∃ fs, P.underlying t = some (.struct fs) ∧ ∀ w, (fs.mapM (m := Sem) fun f => do pure (f.offset, ← sizeOf f.type)).run P w = .ok places.toArray w
theorem Yl.buildS' {parts : List (Nat × Operand)} {zs : List Value} {places : List (Nat × Nat)} {r : List Value} (hp : Places P t places := by infer_instance) (hz : ZeroOf P t zs := by infer_instance)
    (hf : fillL (places[·]?) zs (parts.map fun p => (p.1, e.ev p.2)) = some r := by rfl) : Yl P S e ⟨d, .build t parts.toArray, ty, pos, aft, g⟩ (.agg r.toArray) := by
  obtain ⟨fs, hu, hp⟩ := hp
  exact Yl.buildS hu hz hp (by have := fill_eq _ _ _ _ hf; simpa using this)
theorem Yl.buildArr' {N : Nat} {parts : List (Nat × Operand)} {zs : List Value} {r : List Value} (hu : P.underlying t = some (.array N elem) := by exact Und.out) (hz : ZeroOf P t zs := by infer_instance) (hs : SizeOf P elem sz := by infer_instance)
    (hf : fillL (fun i => some (i * sz, sz)) zs (parts.map fun p => (p.1, e.ev p.2)) = some r := by rfl) : Yl P S e ⟨d, .build t parts.toArray, ty, pos, aft, g⟩ (.agg r.toArray) :=
  Yl.buildArr hu hz hs (fill_eq _ _ _ _ hf)
theorem Ef.buildSlice' {parts : List (Nat × Operand)} {N : Nat} {r : List Value} (hu : P.underlying t = some (.slice elem) := by exact Und.out) (hel : ElemOf P elem sz bytes zs := by infer_instance) (hN : N * sz ≤ 16777216 := by omega) (hN0 : N * sz ≠ 0 := by omega)
    (hf : fillL (fun i => some (i * sz, sz)) (List.replicate N zs).flatten (parts.map fun p => (p.1, e.ev p.2)) = some r := by rfl) :
    Ef P Q e ds (Tr w0 F L) ⟨d, .buildSlice t N parts.toArray, ty, pos, aft, g⟩ (New w0) (fun b => .slice (some ⟨b, 0, none⟩) N N) (fun b => Tr w0 F (.blk b elem r :: L)) :=
  Ef.buildSlice hu hel hN hN0 (fill_eq _ _ _ _ hf) rfl

/-! #### contracts -/
/-- The call hands back v, and leaves all that was there. -/
def Pure (P : Program) (f : FuncId) (args : Array Value) (w : World) (v : Value) : Prop := Calls P f args w fun en w' => en = .returned v ∧ Tr w [] [] w'
def NewH (w0 : World) (N : List Hl) : Prop := ∀ h ∈ N, ∀ k, h.id = some k → w0.heap.size ≤ k
/-- The call hands back something new: for some x with q x its value, and what lies in new memory. -/
def Makes (P : Program) (f : FuncId) (args : Array Value) (w : World) {X : Type} (q : X → Prop) (val : X → Value) (N : X → List Hl) : Prop :=
  Calls P f args w fun en w' => ∃ x, q x ∧ NewH w (N x) ∧ en = .returned (val x) ∧ Tr w [] (N x) w'
/-- The call turns block b. -/
def Turns (P : Program) (f : FuncId) (args : Array Value) (w : World) (b : Nat) {X : Type} (q : X → Prop) (val : X → Value) (h' : X → Hl) (N : X → List Hl) : Prop :=
  Calls P f args w fun en w' => ∃ x, q x ∧ NewH w (N x) ∧ (h' x).id = some b ∧ en = .returned (val x) ∧ Tr w [b] (h' x :: N x) w'
variable {f : FuncId} {fo : Operand} {args : List Operand} {fst cp : List Value} {ts : Array TypeId}
theorem Ef.pure (hb : Body P f := by infer_instance) (hv : args.map e.ev = vs) (hc : ∀ w, Tr w0 F L w → Pure P f vs.toArray w v) :
    Ef P Q e ds (Tr w0 F L) ⟨d, .call { callee := .value (.func f), args := args.toArray, argTypes := ts }, ty, pos, aft, g⟩ Top (fun _ => v) (fun _ => Tr w0 F L) :=
  Ef.call hb hv fun w hw => (hc w hw).mono fun _ _ ⟨h1, h2⟩ => ⟨(), trivial, h1, hw.call0 h2⟩
theorem Ef.pureV (hb : Body P f := by infer_instance) (hf : e.ev fo = .func (.func f) fst.toArray cp.toArray := by rfl) (hv : fst ++ args.map e.ev ++ cp = vs) (hc : ∀ w, Tr w0 F L w → Pure P f vs.toArray w v) :
    Ef P Q e ds (Tr w0 F L) ⟨d, .call { callee := .value fo, args := args.toArray, argTypes := ts }, ty, pos, aft, g⟩ Top (fun _ => v) (fun _ => Tr w0 F L) :=
  Ef.callV hb hf hv fun w hw => (hc w hw).mono fun _ _ ⟨h1, h2⟩ => ⟨(), trivial, h1, hw.call0 h2⟩
theorem makes_mono {X : Type} {q : X → Prop} {val : X → Value} {N : X → List Hl} {w : World} (hw : Tr w0 F L w) {as : Array Value} (hc : Makes P f as w q val N) :
    Calls P f as w (fun en w' => ∃ x, (q x ∧ NewH w0 (N x)) ∧ en = .returned (val x) ∧ Tr w0 F (N x ++ L) w') :=
  hc.mono fun _ _ ⟨x, h1, h2, h3, h4⟩ => ⟨x, ⟨h1, fun h hh k hk => Nat.le_trans hw.size (h2 h hh k hk)⟩, h3, hw.callN h4 h2⟩
theorem Ef.makes {X : Type} {q : X → Prop} {val : X → Value} {N : X → List Hl} (hb : Body P f := by infer_instance) (hv : args.map e.ev = vs) (hc : ∀ w, Tr w0 F L w → Makes P f vs.toArray w q val N) :
    Ef P Q e ds (Tr w0 F L) ⟨d, .call { callee := .value (.func f), args := args.toArray, argTypes := ts }, ty, pos, aft, g⟩ (fun x => q x ∧ NewH w0 (N x)) val (fun x => Tr w0 F (N x ++ L)) :=
  Ef.call hb hv fun w hw => makes_mono hw (hc w hw)
theorem Ef.makesV {X : Type} {q : X → Prop} {val : X → Value} {N : X → List Hl} (hb : Body P f := by infer_instance) (hf : e.ev fo = .func (.func f) fst.toArray cp.toArray := by rfl) (hv : fst ++ args.map e.ev ++ cp = vs) (hc : ∀ w, Tr w0 F L w → Makes P f vs.toArray w q val N) :
    Ef P Q e ds (Tr w0 F L) ⟨d, .call { callee := .value fo, args := args.toArray, argTypes := ts }, ty, pos, aft, g⟩ (fun x => q x ∧ NewH w0 (N x)) val (fun x => Tr w0 F (N x ++ L)) :=
  Ef.callV hb hf hv fun w hw => makes_mono hw (hc w hw)
theorem turns_mono {X : Type} {q : X → Prop} {val : X → Value} {h : Hl} {h' : X → Hl} {N : X → List Hl} {w : World} (hw : Tr w0 F L w) (hat : At h L u) (hid : h.id = some b) (how : Own w0 F b) {as : Array Value} (hc : Turns P f as w b q val h' N) :
    Calls P f as w (fun en w' => ∃ x, (q x ∧ NewH w0 (N x)) ∧ en = .returned (val x) ∧ Tr w0 F (N x ++ u (h' x)) w') :=
  hc.mono fun _ _ ⟨x, h1, h2, h3, h4, h5⟩ => ⟨x, ⟨h1, fun h hh k hk => Nat.le_trans hw.size (h2 h hh k hk)⟩, h4,
    hw.at_step hat h5 (by intro k hk; simp only [List.mem_singleton] at hk; subst hk; exact ⟨hid, how⟩)
      (by
        intro y hy k hk
        rcases List.mem_cons.1 hy with rfl | hy
        · rw [h3] at hk; exact .inl (hid.trans hk)
        · exact .inr (h2 y hy k hk))⟩
theorem Ef.turns {X : Type} {q : X → Prop} {val : X → Value} {h : Hl} {h' : X → Hl} {N : X → List Hl} (hb : Body P f := by infer_instance) (hv : args.map e.ev = vs) (hat : At h L u) (hid : h.id = some b) (how : Own w0 F b := by first | exact .inr ‹_› | exact .inl ‹_› | exact .inl (by simp)) (hc : ∀ w, Tr w0 F L w → Turns P f vs.toArray w b q val h' N) :
    Ef P Q e ds (Tr w0 F L) ⟨d, .call { callee := .value (.func f), args := args.toArray, argTypes := ts }, ty, pos, aft, g⟩ (fun x => q x ∧ NewH w0 (N x)) val (fun x => Tr w0 F (N x ++ u (h' x))) :=
  Ef.call hb hv fun w hw => turns_mono hw hat hid how (hc w hw)
theorem Ef.turnsV {X : Type} {q : X → Prop} {val : X → Value} {h : Hl} {h' : X → Hl} {N : X → List Hl} (hb : Body P f := by infer_instance) (hf : e.ev fo = .func (.func f) fst.toArray cp.toArray := by rfl) (hv : fst ++ args.map e.ev ++ cp = vs) (hat : At h L u) (hid : h.id = some b) (how : Own w0 F b := by first | exact .inr ‹_› | exact .inl ‹_› | exact .inl (by simp)) (hc : ∀ w, Tr w0 F L w → Turns P f vs.toArray w b q val h' N) :
    Ef P Q e ds (Tr w0 F L) ⟨d, .call { callee := .value fo, args := args.toArray, argTypes := ts }, ty, pos, aft, g⟩ (fun x => q x ∧ NewH w0 (N x)) val (fun x => Tr w0 F (N x ++ u (h' x))) :=
  Ef.callV hb hf hv fun w hw => turns_mono hw hat hid how (hc w hw)

/-! #### a test that guards what follows -/
theorem Ops.vB {op : Op} {dd : Nat} {c : Bool} (hy : Yl P S e ⟨some dd, op, ty, pos, aft, none⟩ (.bool c)) (ht : c = true → Ops P ops Q rest (.upd dd (.bool true) e) ds S) (hf : c = false → Ops P ops Q rest (.upd dd (.bool false) e) ds S) :
    Ops P ops Q (⟨some dd, op, ty, pos, aft, none⟩ :: rest) e ds S := by
  cases c with
  | true => exact Ops.v hy (ht rfl)
  | false => exact Ops.v hy (hf rfl)
theorem Yl.mvB' {c : Bool} (h : e.ev x = .bool c := by rfl) : Yl P S e ⟨d, .move x, ty, pos, aft, g⟩ (.bool c) := Yl.move' h
theorem G.vB {kd : Nat → Nat} {N : Act → World → Prop} {S0 : WS} {op : Op} {dd : Nat} {c : Bool} {fuel : Nat} (i : Nat) {listed : Array Bool} (hok : takeOkP ops kd listed i = true) (ho : ops[i]? = some ⟨some dd, op, ty, pos, aft, none⟩) (hy : Yl P (fun _ => True) e ⟨some dd, op, ty, pos, aft, none⟩ (.bool c))
    (ht : c = true → G P ops kd N S0 fuel (listed.setIfInBounds i true) (.upd dd (.bool true) e) ds S) (hf : c = false → G P ops kd N S0 fuel (listed.setIfInBounds i true) (.upd dd (.bool false) e) ds S) : G P ops kd N S0 (fuel + 1) listed e ds S := by
  cases c with
  | true => exact G.p i hok ho hy (ht rfl)
  | false => exact G.p i hok ho hy (hf rfl)

/-! #### pointers against nil -/
theorem run_eqNil {el : TypeId} (hu : P.underlying t = some (.pointer el)) (A : Option Addr) (w : World) : (Op.equal t (.pointer A) (.pointer none)).run P w = .ok A.isNone w := by
  unfold Op.equal
  rw [show Op.maxDepth = 9999 + 1 from rfl]
  unfold Op.equalIn
  simp only [Sem.run_bind, run_underlying hu, Result.andThen_ok]
  cases A <;> rfl
theorem run_eqGuard_ptr (op : BinOp) (A B : Option Addr) (w : World) : (eqGuard op t x y (.pointer A) (.pointer B)).run P w = .ok () w := by
  unfold eqGuard
  cases op <;> rfl
theorem Yl.eqNil {el : TypeId} (hu : P.underlying t = some (.pointer el) := by exact Und.out) (hx : e.ev x = .pointer A := by rfl) (hy : e.ev y = .pointer none := by rfl) : Yl P S e ⟨d, .binOp .eql t x y yt, ty, pos, aft, g⟩ (.bool A.isNone) := fun w _ => by
  simp only [execOp, hx, hy, Sem.run_bind, run_eqGuard_ptr, Result.andThen_ok]
  cases A <;> simp [binOp, run_eqNil hu]
theorem Yl.neNil {el : TypeId} (hu : P.underlying t = some (.pointer el) := by exact Und.out) (hx : e.ev x = .pointer A := by rfl) (hy : e.ev y = .pointer none := by rfl) : Yl P S e ⟨d, .binOp .neq t x y yt, ty, pos, aft, g⟩ (.bool (!A.isNone)) := fun w _ => by
  simp only [execOp, hx, hy, Sem.run_bind, run_eqGuard_ptr, Result.andThen_ok]
  cases A <;> simp [binOp, run_eqNil hu]

/-! #### what a call may read -/
/-- In world w the cells from address A on read ys. -/
def Rw (w : World) (A : Option Addr) (ys : List Value) : Prop := ∀ i v, ys[i]? = some v → ∃ b ofs, A = some ⟨b, ofs, none⟩ ∧ w.cell? ⟨b, ofs + i, none⟩ = some v
theorem RdS.of (h : Rw w0 A ys) : RdS w0 [] L A ys := fun w hw i v hv => by
  obtain ⟨b, ofs, h1, h2⟩ := h i v hv
  exact ⟨b, ofs, h1, (World.cell?_of_block (w := w0) (hw.keep b (World.block_lt_of_cell? w0 _ h2) (by simp))).trans h2⟩
theorem RdS.rw {w : World} (h : RdS w0 F L A ys) (hw : Tr w0 F L w) : Rw w A ys := fun i v hv => h w hw i v hv
theorem Rw.nil {w : World} : Rw w A [] := fun i v h => by simp at h
theorem Rw.blk {w : World} {fr : Nat × Nat} (h : w.heap[b]? = some (.cells cs.toArray T fr)) : Rw w (some ⟨b, 0, none⟩) cs := fun i v hv => ⟨b, 0, rfl, by rw [cell_of_row w b (0 + i) _ _ _ h]; simpa using hv⟩
theorem RdS.take (h : RdS w0 F L A ys) (k : Nat) : RdS w0 F L A (ys.take k) := fun w hw i v hv => by
  rw [List.getElem?_take] at hv
  split at hv
  · exact h w hw i v hv
  · cases hv
theorem RdS.blk (h : Hl.blk b T cs ∈ L) : RdS w0 F L (some ⟨b, 0, none⟩) cs := RdS.mk' (Rd.blk h)
theorem RdS.blkD (h : Hl.blk b T cs ∈ L) (k : Nat) : RdS w0 F L (some ⟨b, k, none⟩) (cs.drop k) := by
  have := (Rd.blk (w0 := w0) (F := F) h).shift k
  rw [Nat.zero_add] at this
  exact RdS.mk' this
/-- Index and load at once, of a slice that is read: the address is there. -/
theorem RdS.at {i : Nat} (h : RdS w0 F L A ys) (hv : ys[i]? = some v) (hS : ∃ w, Tr w0 F L w) : ∃ b ofs, A = some ⟨b, ofs, none⟩ := by
  obtain ⟨w, hw⟩ := hS
  obtain ⟨b, ofs, h1, _⟩ := h w hw i v hv
  exact ⟨b, ofs, h1⟩
theorem Rw.addr {w : World} {i : Nat} (h : Rw w A ys) (hi : i < ys.length) : ∃ b ofs, A = some ⟨b, ofs, none⟩ := by
  obtain ⟨b, ofs, h1, _⟩ := h i ys[i] (by simp [hi])
  exact ⟨b, ofs, h1⟩
theorem Rw.rd {w : World} (h : Rw w (some ⟨b, ofs, none⟩) ys) : Rd w [] L b ofs ys := (RdS.of h).rd rfl

theorem Ef.store1b (hsz : SizeOf P t 1 := by infer_instance) (hx : e.ev x = pt b ofs := by rfl) (hy : e.ev y = v := by rfl) (hat : At (.blk b T cs) L u := by exact AtB.ha) (hle : ofs < cs.length := by omega) (h1 : v.oneCell' = true := by rfl) (hw : Own w0 F b := by first | exact .inr ‹_› | exact .inl ‹_› | exact .inl (by simp)) :
    Ef P Q e ds (Tr w0 F L) ⟨d, .store t x y, ty, pos, aft, g⟩ Top (fun _ => undef) (fun _ => Tr w0 F (u (.blk b T (cs.set ofs v)))) := Ef.store1 hsz hx hy hat .blk rfl hle h1 hw
theorem Ef.store1r {sz n c : Nat} (hsz : SizeOf P t 1 := by infer_instance) (hx : e.ev x = pt b ofs := by rfl) (hy : e.ev y = v := by rfl) (hat : At (.row (some b) T sz n c cs) L u := by exact AtR.ha) (hle : ofs < cs.length := by omega) (h1 : v.oneCell' = true := by rfl) (hw : Own w0 F b := by first | exact .inr ‹_› | exact .inl ‹_› | exact .inl (by simp)) :
    Ef P Q e ds (Tr w0 F L) ⟨d, .store t x y, ty, pos, aft, g⟩ Top (fun _ => undef) (fun _ => Tr w0 F (u (.row (some b) T sz n c (cs.set ofs v)))) := Ef.store1 hsz hx hy hat .row rfl hle h1 hw
theorem NewH.nil : NewH w0 [] := fun h hh => by simp at hh
theorem NewH.cons {h : Hl} {N : List Hl} (h1 : ∀ k, h.id = some k → w0.heap.size ≤ k) (h2 : NewH w0 N) : NewH w0 (h :: N) := fun x hx k hk => by
  rcases List.mem_cons.1 hx with rfl | hx
  · exact h1 k hk
  · exact h2 x hx k hk
theorem NewH.blk {N : List Hl} (hb : New w0 b) (h : NewH w0 N) : NewH w0 (.blk b T cs :: N) := h.cons fun k hk => by simp only [Hl.id, Option.some.injEq] at hk; subst hk; exact hb
theorem NewH.row {sz n c : Nat} {N : List Hl} (hb : ∀ k, ao = some k → New w0 k) (h : NewH w0 N) : NewH w0 (.row ao T sz n c cs :: N) := h.cons fun k hk => hb k hk
theorem NewH.row1 {sz n c : Nat} {N : List Hl} (hb : New w0 b) (h : NewH w0 N) : NewH w0 (.row (some b) T sz n c cs :: N) := h.cons fun k hk => by simp only [Hl.id, Option.some.injEq] at hk; subst hk; exact hb
theorem NewH.hd {h : Hl} {N : List Hl} (hn : NewH w0 (h :: N)) : ∀ k, h.id = some k → New w0 k := fun k hk => hn h (List.mem_cons_self) k hk

theorem Tr.old {w w' : World} {D : List Nat} (h : Tr w D L w') {ob : Obj} (hb : w.heap[b]? = some ob) (hD : b ∉ D) : w'.heap[b]? = some ob := (h.keep b (Array.getElem?_eq_some_iff.1 hb).1 hD).trans hb
theorem Tr.old0 {w w' : World} (h : Tr w [] L w') {ob : Obj} (hb : w.heap[b]? = some ob) : w'.heap[b]? = some ob := h.old hb (by simp)
theorem Rw.keep {w w' : World} (h : Rw w A ys) (hw : Tr w [] L w') : Rw w' A ys := (RdS.of h).rw hw
theorem Tr.blk {w : World} (h : Tr w0 F L w) (hm : Hl.blk b T cs ∈ L) : w.heap[b]? = some (.cells cs.toArray T (0, 0)) := h.sat _ hm
theorem Tr.rwBlk {w : World} (h : Tr w0 F L w) (hm : Hl.blk b T cs ∈ L) : Rw w (some ⟨b, 0, none⟩) cs := Rw.blk (h.blk hm)
theorem Tr.rwRow {w : World} {sz n c : Nat} (h : Tr w0 F L w) (hm : Hl.row ao T sz n c cs ∈ L) : Rw w (ao.map fun g => ⟨g, 0, none⟩) cs := (RdS.row hm).rw h
theorem Rw.drop {w : World} (h : Rw w (some ⟨b, ofs, none⟩) ys) (k : Nat) : Rw w (some ⟨b, ofs + k, none⟩) (ys.drop k) := fun i v hv => by
  rw [List.getElem?_drop] at hv
  obtain ⟨b', o', h1, h2⟩ := h (k + i) v hv
  simp only [Option.some.injEq, Addr.mk.injEq, and_true] at h1
  obtain ⟨rfl, rfl⟩ := h1
  exact ⟨b, ofs + k, rfl, by rw [Nat.add_assoc]; exact h2⟩
theorem Rw.take {w : World} (h : Rw w A ys) (k : Nat) : Rw w A (ys.take k) := fun i v hv => by
  rw [List.getElem?_take] at hv
  split at hv
  · exact h i v hv
  · cases hv
end
end Go.Eng

/- Bytes in aggregates; slices from a place on. -/
open Go.RowKit
namespace Go.Eng
section
variable {P : Program} {ops : Array Oper} {Q : Exit → Act → World → Prop} {e : En} {ds : List Deferred} {S : WS} {rest : List Oper}
variable {w0 : World} {F : List Nat} {L : List Hl} {d : Option Tmp} {ty t yt elem sT dT : TypeId} {pos : String} {aft : Array Edge} {g : Option (Nat × Bool)} {x y : Operand} {k j : IntKind} {m n : Int}
variable {b ofs base sz bytes ln cap : Nat} {cs ys zs vs : List Value} {v : Value} {T : TypeId} {u : Hl → List Hl} {A : Option Addr} {ao : Option Nat}
theorem G.runT {kd : Nat → Nat} {N : Act → World → Prop} {S0 : WS} {o : Oper} {fuel : Nat} (i : Nat) {listed : Array Bool} {X : Type} {p : X → Prop} {val : X → Value} {T : X → WS} (hr : Region.ready .any ops listed = [i]) (hk : kd i = 0) (ho : ops[i]? = some o) (hg : o.guard = none)
    (he : Ef P (Qn N) e ds S o p val T) (hne : ∃ x, p x) (hs : ∀ w, S w → S0 w) (hsub : ∀ x, p x → ∀ w, T x w → S0 w) (h : ∀ x, p x → G P ops kd N (T x) fuel (listed.setIfInBounds i true) (e.put o.dst (val x)) ds (T x)) :
    G P ops kd N S0 (fuel + 1) listed e ds S := G.run i hr hk ho hg he hne hs hsub T hsub h
theorem one_u8 (xs : List (BitVec 8)) : ∀ v ∈ xs.map u8, v.oneCell' = true := fun v h => by
  obtain ⟨a, _, rfl⟩ := List.mem_map.1 h
  rfl
/-- An aggregate of bytes is put at the place of a block. -/
theorem Ef.storeU {N : Nat} (xs : List (BitVec 8)) (hsz : SizeOf P t N := by infer_instance) (hx : e.ev x = pt b 0 := by rfl) (hy : e.ev y = .agg (xs.map u8).toArray := by rfl) (hat : At (.blk b T cs) L u := by exact AtB.ha) (hl : xs.length = N := by first | rfl | assumption | (simp; done) | (simp; omega) | omega) (hc : cs.length = N := by first | rfl | assumption | (simp; done) | (simp; omega) | omega) (hw : Own w0 F b := by first | exact .inr ‹_› | exact .inl ‹_› | exact .inl (by simp)) :
    Ef P Q e ds (Tr w0 F L) ⟨d, .store t x y, ty, pos, aft, g⟩ Top (fun _ => undef) (fun _ => Tr w0 F (u (.blk b T (xs.map u8)))) :=
  Ef.storeA (by rw [List.length_map, hl]; exact hsz) hx hy hat (by rw [List.length_map, hl, hc]) (one_u8 xs) hw
theorem Ef.storeN {N : Nat} (hsz : SizeOf P t N := by infer_instance) (hx : e.ev x = pt b 0 := by rfl) (hy : e.ev y = .agg vs.toArray := by rfl) (hat : At (.blk b T cs) L u := by exact AtB.ha) (hl : vs.length = N := by first | rfl | assumption | (simp; done) | (simp; omega) | omega) (hc : cs.length = N := by first | rfl | assumption | (simp; done) | (simp; omega) | omega) (h1 : ∀ v ∈ vs, v.oneCell' = true := by first | exact one_u8 _ | exact List.all_eq_true.1 rfl | (simp; done)) (hw : Own w0 F b := by first | exact .inr ‹_› | exact .inl ‹_› | exact .inl (by simp)) :
    Ef P Q e ds (Tr w0 F L) ⟨d, .store t x y, ty, pos, aft, g⟩ Top (fun _ => undef) (fun _ => Tr w0 F (u (.blk b T vs))) :=
  Ef.storeA (by rw [hl]; exact hsz) hx hy hat (by rw [hl, hc]) h1 hw
theorem Res.cellM {N : Nat} {fn : Func} {t : Tmp} {ty : TypeId} (hok : e.Ok) (hr : fn.results = #[.cell t ty]) (hv : e.get t = pt b 0) (hm : Hl.blk b T cs ∈ L) (hT : AggOf P ty N) (hl : cs.length = N) :
    Res P fn e (Tr w0 F L) (.agg cs.toArray) := Res.cell hok hr hv (by rw [hl]; exact hT) hm
theorem Tr.addRow {w : World} (h : Tr w0 F L w) (T : TypeId) (sz : Nat) : Tr w0 F (.row none T sz 0 0 [] :: L) w :=
  ⟨h.os, h.tape, h.output, h.size, h.keep, fun x hx => by
    rcases List.mem_cons.1 hx with rfl | hx
    · exact Hl.row_none _ _ _
    · exact h.sat x hx, List.pairwise_cons.2 ⟨fun y _ k hk => by simp [Hl.id] at hk, h.apart⟩⟩
theorem Yl.sliceArrD {N l : Nat} {lo : Option Operand} (hu : P.underlying t = some (.array N elem) := by exact Und.out) (hs : SizeOf P elem 1 := by infer_instance) (hx : e.ev x = pt b 0 := by rfl) (hl : Bd e lo l) (h : l < N := by omega) :
    Yl P S e ⟨d, .slice t x lo none none, ty, pos, aft, g⟩ (.slice (some ⟨b, l, none⟩) (N - l) (N - l)) := by
  have := Yl.sliceArr (P := P) (S := S) (d := d) (ty := ty) (pos := pos) (aft := aft) (g := g) (hi := none) (mx := none) hu hs hx hl .none .none (.inl rfl) (by omega) (Nat.le_refl _) (Nat.le_refl _) h
  rwa [Nat.zero_add, Nat.mul_one] at this
theorem Yl.sliceArrT {N h : Nat} {hi : Option Operand} (hu : P.underlying t = some (.array N elem) := by exact Und.out) (hs : SizeOf P elem 1 := by infer_instance) (hx : e.ev x = pt b 0 := by rfl) (hh : Bh e N hi h) (h2 : h ≤ N := by omega) (h0 : 0 < N := by omega) :
    Yl P S e ⟨d, .slice t x none hi none, ty, pos, aft, g⟩ (.slice (some ⟨b, 0, none⟩) h N) :=
  Yl.sliceArr (P := P) (S := S) (d := d) (ty := ty) (pos := pos) (aft := aft) (g := g) (lo := none) (mx := none) (l := 0) (q := N) hu hs hx .none hh .none (.inl rfl) (by omega) (by omega) (Nat.le_refl _) h0
theorem Yl.sliceFrom {l : Nat} {lo : Option Operand} (hu : P.underlying t = some (.slice elem) := by exact Und.out) (hs : SizeOf P elem 1 := by infer_instance) (hx : e.ev x = .slice (some ⟨b, ofs, none⟩) ln cap := by rfl) (hl : Bd e lo l) (h : l < ln := by omega) (hc : ln ≤ cap := by omega) :
    Yl P S e ⟨d, .slice t x lo none none, ty, pos, aft, g⟩ (.slice (some ⟨b, ofs + l, none⟩) (ln - l) (cap - l)) := by
  have := Yl.slice (P := P) (S := S) (d := d) (ty := ty) (pos := pos) (aft := aft) (g := g) (hi := none) (mx := none) hu hs hx hl .none .none (.inl rfl) (by omega) hc (Nat.le_refl _)
  rw [if_neg (by omega)] at this
  rw [Option.map_some, Addr.add_lit, Nat.mul_one] at this
  exact this
/-- From the beginning to a place. -/
theorem Yl.sliceTo {h : Nat} {hi : Option Operand} (hu : P.underlying t = some (.slice elem) := by exact Und.out) (hs : SizeOf P elem sz := by infer_instance) (hx : e.ev x = .slice A ln cap := by rfl) (hh : Bh e ln hi h) (hc : h ≤ cap := by omega) :
    Yl P S e ⟨d, .slice t x none hi none, ty, pos, aft, g⟩ (.slice A h cap) := by
  have := Yl.slice (P := P) (S := S) (d := d) (ty := ty) (pos := pos) (aft := aft) (g := g) (lo := none) (mx := none) (l := 0) hu hs hx .none hh .none (.inl rfl) (by omega) hc (Nat.le_refl _)
  have e1 : (if cap = 0 then A else A.map (·.add (0 * sz))) = A := by
    split
    · rfl
    · cases A <;> simp [Addr.add]
  rw [e1, Nat.sub_zero, Nat.sub_zero] at this
  exact this
theorem fillL_one (sz : Nat) (zs vs : List Value) (hz : zs.length = sz) (hv : vs.length = sz) : fillL (fun i => some (i * sz, sz)) (List.replicate 1 zs).flatten [(0, .agg vs.toArray)] = some vs := by
  have e0 : (Value.agg vs.toArray).cells.toList = vs := rfl
  have e1 : Nat.ble (0 + sz) sz = true := by simp
  simp only [fillL, e0, Nat.zero_mul, hv, hz, List.replicate_one, List.flatten_cons, List.flatten_nil, List.append_nil, Nat.beq_refl, e1, Bool.and_self, cond_true, List.take_zero, List.nil_append, Nat.zero_add]
  subst hz
  rw [show zs.length.ble zs.length = true from Nat.ble_eq_true_of_le (Nat.le_refl _)]
  simp
/-- A slice of one aggregate. -/
theorem Ef.buildSlice1 {p : Operand} (hu : P.underlying t = some (.slice elem) := by exact Und.out) (hel : ElemOf P elem sz bytes zs := by infer_instance) (h0 : 0 < sz := by omega) (hN : sz ≤ 16777216 := by omega) (hp : e.ev p = .agg vs.toArray := by rfl) (hv : vs.length = sz := by first | rfl | assumption | (simp; done) | (simp; omega) | omega) :
    Ef P Q e ds (Tr w0 F L) ⟨d, .buildSlice t 1 [(0, p)].toArray, ty, pos, aft, g⟩ (New w0) (fun b => .slice (some ⟨b, 0, none⟩) 1 1) (fun b => Tr w0 F (.blk b elem vs :: L)) := by
  have hz : zs.length = sz := by obtain ⟨_, _, _, _, _, _, _, h⟩ := hel; exact h
  exact Ef.buildSlice' hu hel (by omega) (by omega) (by rw [List.map_cons, List.map_nil, hp]; exact fillL_one sz zs vs hz hv)
theorem Yl.sliceArrO {N : Nat} (hu : P.underlying t = some (.array N elem) := by exact Und.out) (hs : SizeOf P elem 1 := by infer_instance) (hx : e.ev x = pt b ofs := by rfl) (h : 0 < N := by omega) :
    Yl P S e ⟨d, .slice t x none none none, ty, pos, aft, g⟩ (.slice (some ⟨b, ofs, none⟩) N N) :=
  Yl.sliceArr (P := P) (S := S) (d := d) (ty := ty) (pos := pos) (aft := aft) (g := g) (lo := none) (hi := none) (mx := none) (l := 0) (h := N) (q := N) hu hs hx .none .none .none (.inl rfl) (by omega) (Nat.le_refl _) (Nat.le_refl _) h
/-- 'append' of something: what comes of it lies in memory. -/
theorem Ef.appendS {ts : Array TypeId} {n m c : Nat} {xs : List Value} (hu : P.underlying t = some (.slice elem) := by exact Und.out) (hts : ts = #[t, t] := by rfl) (hel : ElemOf P elem sz bytes zs := by infer_instance) (hx : e.ev x = sl ao n c := by rfl) (hat : At (.row ao elem sz n c xs) L u := by exact AtR.ha) (hy : e.ev y = .slice A m cap := by rfl) (hr : RdS w0 F L A ys := by first | exact SeesS.rd | assumption) (hl : ys.length = m * sz := by first | rfl | assumption | (simp; done) | (simp; omega) | omega)
    (h1 : ∀ u ∈ ys, u.oneCell' = true := by first | exact one_u8 _ | exact List.all_eq_true.1 rfl | (simp; done)) (hsz : 0 < sz := by omega) (hb : (n + m) * bytes ≤ 140737488355328 := by omega) (h63 : n + m ≤ 9223372036854775807 := by omega) (h0 : 0 < n + m := by omega) (hw : ∀ k, ao = some k → Own w0 F k) :
    Ef P Q e ds (Tr w0 F L) ⟨d, .call { callee := .builtin .append, args := [x, y].toArray, argTypes := ts }, ty, pos, aft, g⟩ (fun p : Nat × Nat => Own w0 F p.1) (fun p => sl (some p.1) (n + m) p.2)
      (fun p => Tr w0 F (u (.row (some p.1) elem sz (n + m) p.2 (xs ++ ys)))) := by
  refine ⟨fun hok w hT => ?_⟩
  obtain ⟨i, z, h2, h3, h4, h5, h6, h7⟩ := hel
  subst h5; subst h6; subst hts
  have hzs : z.cells.size = i.size := by rw [← h7, ← h4]; simp
  obtain ⟨ao', c', w', hrun, hT', hk⟩ := run_append_src (P := P) (ty := ty) hu h2 h3 hzs hT hat.mem hr hl hsz h1 hb (by simp only [maxLen]; omega) cap
  obtain ⟨g', rfl⟩ : ∃ g', ao' = some g' := by
    rcases Hl.row_cases (hT'.sat _ (List.mem_singleton.2 rfl)) with ⟨_, h, _⟩ | ⟨g', _, h, _⟩
    · omega
    · exact ⟨g', h⟩
  unfold Oper.wp
  rw [En.eval_eq hok]
  have : (execOp e.ev (⟨d, .call { callee := .builtin .append, args := [x, y].toArray, argTypes := #[t, t] }, ty, pos, aft, g⟩ : Oper)).run P w = .ok (.value (sl (some g') (n + m) c')) w' := by
    refine run_builtin fun cst => ?_
    simp only [builtin, List.map_cons, List.map_nil, hx, hy, Sem.run_bind]
    rw [hrun]
    simp
  rw [this, Oper.upon_value, En.put_arr]
  refine ⟨(g', c'), ?_, rfl, ?_⟩
  · rcases hk g' rfl with h | h
    · exact hw g' h
    · exact .inr (Nat.le_trans hT.size h)
  · have := hT.at_step hat (N := []) hT' (by intro k hkk; simp only [Option.mem_toList] at hkk; exact ⟨hkk, hw k hkk⟩) (by intro x hx k hkk; simp only [List.mem_singleton] at hx; subst hx; exact hk k hkk)
    simpa using this
theorem Rd.ofRw (h : Rw w0 (some ⟨b, ofs, none⟩) ys) (hF : b ∉ F) : Rd w0 F L b ofs ys := Rd.old (fun i v hv => by
  obtain ⟨b', o', e1, e2⟩ := h i v hv
  simp only [Option.some.injEq, Addr.mk.injEq, and_true] at e1
  obtain ⟨rfl, rfl⟩ := e1
  exact e2) hF
theorem RdS.ofRwF (h : Rw w0 (some ⟨b, ofs, none⟩) ys) (hF : b ∉ F) : RdS w0 F L (some ⟨b, ofs, none⟩) ys := RdS.mk' (Rd.ofRw h hF)
end
end Go.Eng

/- Scopes with a label; more builtins; strings. -/
open Go.RowKit
namespace Go.Eng
section
variable {P : Program} {ops : Array Oper} {Q : Exit → Act → World → Prop} {e : En} {ds : List Deferred} {S : WS}
def jumpTo (l : Nat) (J : Act → World → Prop) (Q : Exit → Act → World → Prop) : Exit → Act → World → Prop
  | .goto l', a, w => l' = l ∧ J a w
  | e, a, w => Q e a w
theorem wp_scope_ex {c rest : Code} {a : Act} {w : World} (l : Nat) (I : Act → World → Nat → Prop) (hf : findLabel c l = some rest)
    (first : c.wp P (jumpTo l (fun a w => ∃ n, I a w n) Q) a w)
    (pass : ∀ a w n, I a w n → rest.wp P (jumpTo l (fun a' w' => ∃ m, I a' w' m ∧ m < n) Q) a w) : (Code.scope c).wp P Q a w := by
  intro b k cs
  have hg : gotoIn l (.inScope c :: k) = some (.code rest :: .inScope c :: k) := by simp [gotoIn, hf]
  have key : ∀ n a w, I a w n → ∃ e a' w', Q e a' w' ∧ Arrives P (lone (b.at a (.code rest :: .inScope c :: k)) cs w) b k cs e a' w' := by
    intro n
    induction n using Nat.strongRecOn with
    | _ n ih =>
      intro a w hJ
      obtain ⟨e, a₁, w₁, hq, harr⟩ := pass a w n hJ b (.inScope c :: k) cs
      cases e with
      | normal => exact ⟨.normal, a₁, w₁, hq, Steps.trans harr (.one step_inScope)⟩
      | exit id => exact ⟨.exit id, a₁, w₁, hq, fun k' hk => harr k' (by simp [exitTo, hk])⟩
      | goto l' =>
        obtain ⟨rfl, m, hJ', hlt⟩ := hq
        obtain ⟨e₂, a₂, w₂, hq₂, harr₂⟩ := ih m hlt a₁ w₁ hJ'
        exact ⟨e₂, a₂, w₂, hq₂, .of_steps (harr _ hg) harr₂⟩
      | ret => exact ⟨_, a₁, w₁, hq, harr⟩
      | panic ch => exact ⟨_, a₁, w₁, hq, harr⟩
      | outgrown => exact ⟨_, a₁, w₁, hq, harr⟩
  obtain ⟨e, a₁, w₁, hq, harr⟩ := first b (.inScope c :: k) cs
  cases e with
  | normal => exact ⟨.normal, a₁, w₁, hq, .head step_scope (Steps.trans harr (.one step_inScope))⟩
  | exit id => exact ⟨.exit id, a₁, w₁, hq, fun k' hk => .head step_scope (harr k' (by simp [exitTo, hk]))⟩
  | goto l' =>
    obtain ⟨rfl, n, hJ'⟩ := hq
    obtain ⟨e₂, a₂, w₂, hq₂, harr₂⟩ := key n a₁ w₁ hJ'
    exact ⟨e₂, a₂, w₂, hq₂, .of_steps (.head step_scope (harr _ hg)) harr₂⟩
  | ret => exact ⟨_, a₁, w₁, hq, .of_steps (.one step_scope) harr⟩
  | panic ch => exact ⟨_, a₁, w₁, hq, .of_steps (.one step_scope) harr⟩
  | outgrown => exact ⟨_, a₁, w₁, hq, .of_steps (.one step_scope) harr⟩
theorem En.ok_under {m n : Nat} : ∀ {e' : En}, e'.ok n = true → (e'.under m).ok n = true
  | .base _ _, h => h
  | .upd d v e, h => by simp only [En.ok, Bool.and_eq_true] at h; exact En.ok_under (e' := e) h.2
  | .mark k e, h => by simp only [En.under]; cases Nat.beq k m <;> first | exact h | exact En.ok_under (e' := e) h
theorem En.to_head {m n : Nat} {ws keys : List Nat} {live live0 : List Value} {J0 : List Value} {e e' : En} (hn : (En.head m ws (keys.zip live0) J0 e).ok n = true) (hk0 : live0.length = keys.length) (hk : live.length = keys.length)
    (hok : e'.Ok) (hup : e'.upTo m ws = true) (hun : e'.under m = e) (hly : keys.map e'.get = live) : e'.arr = (En.head m ws (keys.zip live) (ws.map e'.get) e).arr := by
  have hkeys : ∀ live : List Value, live.length = keys.length → (keys.zip live).map (·.1) = keys := fun live h => List.map_fst_zip (by omega)
  have hzip : (keys.zip live).map (fun p => e'.get p.1) = (keys.zip live).map (·.2) := by
    have h1 : (keys.zip live).map (fun p => e'.get p.1) = ((keys.zip live).map (·.1)).map e'.get := by rw [List.map_map]; rfl
    rw [h1, hkeys _ hk, hly, List.map_snd_zip (by omega)]
  have hne : e.ok n = true := by have := En.ok_junk (En.ok_upds hn); exact this
  obtain ⟨n', hn'⟩ := hok
  have hsz : n' = n := by
    have h1 := En.ok_under (m := m) hn'
    rw [hun] at h1
    rw [← En.size_of_ok h1, En.size_of_ok hne]
  subst hsz
  refine En.head_arr ?_ hn' (fun t ht => by rw [En.get_under hup t ht, hun]) hzip
  unfold En.head
  rw [En.ok_same (l' := keys.zip live0) (by rw [hkeys _ hk, hkeys _ hk0]) (J' := J0)]
  exact hn
theorem Wp.label {l : Nat} (h : Fin Q .normal e ds S) : Wp P (.label l) Q e ds S := ⟨h.1, fun w hw => wp_label (h.2 w hw)⟩
theorem Wp.goto {l : Nat} (h : Fin Q (.goto l) e ds S) : Wp P (.goto l) Q e ds S := ⟨h.1, fun w hw => wp_goto (h.2 w hw)⟩
/-- A scope in which the run jumps back to one label. -/
theorem Wp.scopeI {X : Type} {c R : Code} (l m : Nat) (ws : List Nat) (keys : List Nat) (I : X → Prop) (live : X → List Value) (T : X → WS) (μ : X → Nat) (hk : ∀ x, (live x).length = keys.length) (hf : findLabel c l = some (.seq .skip R))
    (first : ∀ K : Exit → Act → World → Prop, (∀ y e' S', I y → e'.Ok → e'.upTo m ws = true → e'.under m = e → keys.map e'.get = live y → (∀ w, S' w → T y w) → Wp P (.seq (.label l) R) K e' ds S') →
      (∀ z e ds S, (∀ j, z ≠ .goto j) → Fin Q z e ds S → Fin K z e ds S) → Wp P c K (.mark m e) ds S)
    (pass : ∀ x, I x → ∀ J, ∀ K : Exit → Act → World → Prop, (∀ y e' S', I y → e'.Ok → e'.upTo m ws = true → e'.under m = e → keys.map e'.get = live y → μ y < μ x → (∀ w, S' w → T y w) → Fin K (.goto l) e' ds S') →
      (∀ z e ds S, (∀ j, z ≠ .goto j) → Fin Q z e ds S → Fin K z e ds S) → Wp P R K (En.head m ws (keys.zip (live x)) J e) ds (T x)) : Wp P (.scope c) Q e ds S := by
  have hq : ∀ (J : Act → World → Prop) z e ds S, (∀ j, z ≠ .goto j) → Fin Q z e ds S → Fin (jumpTo l J Q) z e ds S := by
    intro J z e ds S hz hfin
    refine ⟨hfin.1, fun w hw => ?_⟩
    have := hfin.2 w hw
    cases z <;> first | exact absurd rfl (hz _) | exact this
  have hwf : ∀ x, I x → ∀ J, ∃ n, (En.head m ws (keys.zip (live x)) J e).ok n = true := fun x hx J =>
    (pass x hx J (fun _ _ _ => True) (fun _ e' S' _ ho _ _ _ _ _ => ⟨ho, fun _ _ => trivial⟩) (fun z e ds S _ hf => ⟨hf.1, fun _ _ => trivial⟩)).1
  let II : Act → World → Nat → Prop := fun a w n => ∃ x J, I x ∧ a = ⟨(En.head m ws (keys.zip (live x)) J e).arr, ds⟩ ∧ T x w ∧ n = μ x
  have harr : ∀ y (e' : En), I y → e'.Ok → e'.upTo m ws = true → e'.under m = e → keys.map e'.get = live y → e'.arr = (En.head m ws (keys.zip (live y)) (ws.map e'.get) e).arr := fun y e' hy ho hup hun hly => by
    obtain ⟨n, hn⟩ := hwf y hy []
    exact En.to_head hn (hk y) (hk y) ho hup hun hly
  have hfirst := first (jumpTo l (fun a w => ∃ n, II a w n) Q) ?_ (hq _)
  · refine ⟨hfirst.1, fun w hw => ?_⟩
    refine wp_scope_ex l II hf (hfirst.2 w hw) ?_
    rintro a w n ⟨x, J, hx, rfl, hT, rfl⟩
    refine wp_seq (wp_skip ?_)
    refine (pass x hx J (jumpTo l (fun a' w' => ∃ k, II a' w' k ∧ k < μ x) Q) ?_ (hq _)).2 w hT
    intro y e' S' hy ho hup hun hly hμ hS
    exact ⟨ho, fun w hw => ⟨rfl, μ y, ⟨y, _, hy, by rw [harr y e' hy ho hup hun hly], hS w hw, rfl⟩, hμ⟩⟩
  · intro y e' S' hy ho hup hun hly hS
    have hp := pass y hy (ws.map e'.get) (jumpTo l (fun a w => ∃ n, II a w n) Q) (fun y e' S' hy ho hup hun hly _ hS => ⟨ho, fun w hw => ⟨rfl, μ y, y, _, hy, by rw [harr y e' hy ho hup hun hly], hS w hw, rfl⟩⟩) (hq _)
    refine Wp.seq fun K hn _ => Wp.label (hn _ _ _ ⟨ho, fun w hw => ?_⟩)
    have := hp.2 w (hS w hw)
    rw [← harr y e' hy ho hup hun hly] at this
    exact this
end
section
variable {P : Program} {ops : Array Oper} {Q : Exit → Act → World → Prop} {e : En} {ds : List Deferred} {S : WS} {rest : List Oper}
variable {w0 : World} {F : List Nat} {L : List Hl} {d : Option Tmp} {ty t yt elem sT dT tn : TypeId} {pos : String} {aft : Array Edge} {g : Option (Nat × Bool)} {x y : Operand} {k j : IntKind} {n : Int}
variable {b ofs base sz bytes ln cap : Nat} {cs ys zs vs : List Value} {v : Value} {T : TypeId} {u : Hl → List Hl} {A : Option Addr} {ao : Option Nat}
theorem Yl.capS {ts : Array TypeId} (hts : ts[0]? = some t := by rfl) (hu : P.underlying t = some (.slice elem) := by exact Und.out) (hx : e.ev x = .slice A ln cap := by rfl) :
    Yl P S e ⟨d, .call { callee := .builtin .cap, args := [x].toArray, argTypes := ts }, ty, pos, aft, g⟩ (iv cap) := fun w _ => by
  refine run_builtin fun cst => ?_
  simp [builtin, Builtin.cap_, hts, hx, run_underlying hu, goInt]
theorem Yl.eqB {a c : Bool} (hu : P.underlying t = some .bool := by exact Und.out) (hx : e.ev x = .bool a := by rfl) (hy : e.ev y = .bool c := by rfl) : Yl P S e ⟨d, .binOp .eql t x y yt, ty, pos, aft, g⟩ (.bool (a == c)) := fun w _ => by
  have h1 : (eqGuard .eql t x y (.bool a) (.bool c)).run P w = .ok () w := by unfold eqGuard; rfl
  have h2 : (Op.equal t (.bool a) (.bool c)).run P w = .ok (a == c) w := by
    unfold Op.equal
    rw [show Op.maxDepth = 9999 + 1 from rfl]
    unfold Op.equalIn
    simp only [Sem.run_bind, run_underlying hu, Result.andThen_ok]
    rfl
  simp only [execOp, hx, hy, Sem.run_bind, h1, Result.andThen_ok]
  simp [binOp, h2]
/-- 'append' of so many noughts to the nil slice. -/
theorem Ef.appendZ {ts : Array TypeId} {m : Nat} (hu : P.underlying t = some (.slice elem) := by exact Und.out) (hn : P.underlying tn = some (.int j) := by exact Und.out) (hts : ts = #[t, tn] := by rfl) (hel : ElemOf P elem sz bytes zs := by infer_instance) (hx : e.ev x = .slice none 0 0 := by rfl) (hy : e.ev y = .int k n := by rfl) (hm : n = (m : Int) := by omega) (hsz : 0 < sz := by omega) (h0 : 0 < m := by omega) (hb : m * bytes ≤ 140737488355328 := by omega) (h63 : m ≤ 9223372036854775807 := by omega) :
    Ef P Q e ds (Tr w0 F L) ⟨d, .call { callee := .builtin .append, args := [x, y].toArray, argTypes := ts }, ty, pos, aft, g⟩ (fun p : Nat × Nat => New w0 p.1 ∧ m ≤ p.2) (fun p => sl (some p.1) m p.2)
      (fun p => Tr w0 F (.row (some p.1) elem sz 0 p.2 [] :: L)) := by
  subst hm
  refine ⟨fun hok w hT => ?_⟩
  obtain ⟨i, z, h2, h3, h4, h5, h6, h7⟩ := hel
  subst h5; subst h6; subst hts
  have hzs : z.cells.size = i.size := by rw [← h7, ← h4]; simp
  have hr : (Builtin.append_ #[t, tn] ty #[.slice none 0 0, .int k m]).run P w = .ok (.slice (some ⟨w.heap.size, 0, none⟩) m (grownCap w m 0 elem)) (w.drew.alloc (.cells (Builtin.zeroCells z.cells m ++ Builtin.zeroCells z.cells (grownCap w m 0 elem - m)) elem)) := by
    have hn' : m ≠ 0 := by omega
    have h63' : ¬ (9223372036854775807 < (m : Int)) := by omega
    have h48' : ¬ (281474976710656 < Builtin.nextslicecap m 0 * i.bytes) := by rw [nextslicecap_zero h0]; omega
    have hw : IntKind.i64.wrap (m : Int) = m := wrap_i64 _ (by omega) (by omega)
    have h0' : ¬ ((m : Int) < 0) := by omega
    have h48'' : ¬ (281474976710656 < (m : Int) * (i.bytes : Int)) := by rw [← Int.natCast_mul]; omega
    have hsz' : i.size ≠ 0 := by omega
    have hms : ¬ (m * i.size = 0) := fun h => by rcases Nat.mul_eq_zero.1 h with h | h <;> omega
    simp [Builtin.append_, run_underlying hu, run_underlying hn, sizeOf, typeInfo, zeroValue, h2, h3, asInt, asIntOf, hw, h0', h48'', hn', hsz', hms, h63', h48', Question.forced, run_firstCells_none, newRow, grownCap]
  unfold Oper.wp
  rw [En.eval_eq hok]
  have : (execOp e.ev (⟨d, .call { callee := .builtin .append, args := [x, y].toArray, argTypes := #[t, tn] }, ty, pos, aft, g⟩ : Oper)).run P w = .ok (.value (sl (some w.heap.size) m (grownCap w m 0 elem))) (w.drew.alloc (.cells (Builtin.zeroCells z.cells m ++ Builtin.zeroCells z.cells (grownCap w m 0 elem - m)) elem)) := by
    refine run_builtin fun cst => ?_
    simp only [builtin, List.map_cons, List.map_nil, hx, hy, Sem.run_bind]
    rw [hr]
    simp
  rw [this, Oper.upon_value, En.put_arr]
  have hge := grownCap_ge w m 0 elem
  refine ⟨(w.heap.size, grownCap w m 0 elem), ⟨hT.size, hge⟩, rfl, ?_⟩
  have hc : (Builtin.zeroCells z.cells m ++ Builtin.zeroCells z.cells (grownCap w m 0 elem - m)) = ([] ++ (Builtin.zeroCells z.cells m ++ Builtin.zeroCells z.cells (grownCap w m 0 elem - m)).toList).toArray := by simp
  rw [hc]
  refine hT.callN (N := [_]) (grown_row (sz := i.size) (n := 0) [] _ elem (Nat.zero_le _) (grownCap_le_maxLen w m 0 elem (by simpa [maxLen] using h63)) (by simp) ?_) ?_
  · simp only [List.nil_append, Array.toList_append, List.length_append, Array.length_toList, size_zeroCells, hzs, ← Nat.add_mul]; congr 1; omega
  · intro h hh q hq; simp only [List.mem_singleton] at hh; subst hh; simp only [Hl.id, Option.some.injEq] at hq; omega

/-- 'append', and there is room. -/
theorem Ef.appendC {ts : Array TypeId} {n m c : Nat} {xs : List Value} (hu : P.underlying t = some (.slice elem) := by exact Und.out) (hts : ts = #[t, t] := by rfl) (hel : ElemOf P elem sz bytes zs := by infer_instance) (hx : e.ev x = sl ao n c := by rfl) (hat : At (.row ao elem sz n c xs) L u := by exact AtR.ha) (hy : e.ev y = .slice A m cap := by rfl) (hr : RdS w0 F L A ys := by first | exact SeesS.rd | assumption) (hl : ys.length = m * sz := by first | rfl | assumption | (simp; done) | (simp; omega) | omega)
    (h1 : ∀ u ∈ ys, u.oneCell' = true := by first | exact one_u8 _ | exact List.all_eq_true.1 rfl | (simp; done)) (hsz : 0 < sz := by omega) (hb : (n + m) * bytes ≤ 140737488355328 := by omega) (h63 : n + m ≤ 9223372036854775807 := by omega) (hw : ∀ k, ao = some k → Own w0 F k) :
    Ef P Q e ds (Tr w0 F L) ⟨d, .call { callee := .builtin .append, args := [x, y].toArray, argTypes := ts }, ty, pos, aft, g⟩ (fun p : Option Nat × Nat => (∀ k, p.1 = some k → Own w0 F k) ∧ n + m ≤ p.2) (fun p => sl p.1 (n + m) p.2)
      (fun p => Tr w0 F (u (.row p.1 elem sz (n + m) p.2 (xs ++ ys)))) := by
  have h := Ef.append (P := P) (Q := Q) (e := e) (ds := ds) (d := d) (ty := ty) (pos := pos) (aft := aft) (g := g) hu hts hel hx hat hy hr hl h1 hsz hb h63 hw
  refine ⟨fun hok w hT => ?_⟩
  have := h.out hok w hT
  refine Oper.wp_mono ?_ this
  rintro a w' ⟨p, hp, hv, hT'⟩
  have hat' : Hl.row p.1 elem sz (n + m) p.2 (xs ++ ys) ∈ u (.row p.1 elem sz (n + m) p.2 (xs ++ ys)) := by
    obtain ⟨A', B', _, hu'⟩ := hat.split
    rw [hu']; simp
  exact ⟨p, ⟨hp, (room_of (hT'.sat _ hat')).1⟩, hv, hT'⟩
theorem row_pos' {w : World} {ao : Option Nat} {T : TypeId} {sz n c : Nat} {xs : List Value} (h : (Hl.row ao T sz n c xs).holds w) (h0 : 0 < n) : ∃ g, ao = some g := by
  rcases Hl.row_cases h with ⟨_, h, _⟩ | ⟨g, _, h, _⟩
  · omega
  · exact ⟨g, h⟩
/-- Of a row that is not empty the block is there. -/
theorem Wp.rowSome {c : Code} {n q : Nat} {xs : List Value} (h0 : 0 < n) (hm : Hl.row ao T sz n q xs ∈ L) (hok : e.Ok) (h : ∀ g, ao = some g → Wp P c Q e ds (Tr w0 F L)) : Wp P c Q e ds (Tr w0 F L) :=
  ⟨hok, fun w hw => by obtain ⟨g, hg⟩ := row_pos' (hw.sat _ hm) h0; exact (h g hg).2 w hw⟩
theorem Yl.remN {a c : Int} {m n : Nat} (hx : e.ev x = iv a := by rfl) (hy : e.ev y = iv c := by rfl) (ha : a = (m : Int)) (hb : c = (n : Int)) (hn : 0 < n := by omega) : Yl P S e ⟨d, .binOp .rem t x y yt, ty, pos, aft, g⟩ (iv ((m % n : Nat) : Int)) := by
  subst ha; subst hb
  exact Yl.rem hx hy (by omega) (by omega)
theorem Yl.toIk {a : Int} (hs : P.underlying sT = some (.int j) := by exact Und.out) (hd : P.underlying dT = some (.int .i64) := by exact Und.out) (hx : e.ev x = .int j a := by rfl) (h1 : -9223372036854775808 ≤ a := by omega) (h2 : a ≤ 9223372036854775807 := by omega) : Yl P S e ⟨d, .convert sT dT x, ty, pos, aft, g⟩ (iv a) := fun w _ => by
  simp only [execOp, hx, convert, Sem.run_bind, run_underlying hs, run_underlying hd, Result.andThen_ok, Conv.intToInt, wrap_i64 _ h1 h2, Sem.run_pure]
/-! #### strings -/
def str (xs : List (BitVec 8)) : ByteArray := ⟨(xs.map UInt8.ofBitVec).toArray⟩
theorem str_inj {xs ys : List (BitVec 8)} : ((str xs).toList == (str ys).toList) = decide (xs = ys) := by
  rw [ByteArray.toList_eq, ByteArray.toList_eq]
  simp only [str]
  have : (List.map UInt8.ofBitVec xs == List.map UInt8.ofBitVec ys) = decide (xs = ys) := by
    rw [Bool.eq_iff_iff, beq_iff_eq, decide_eq_true_iff]
    constructor
    · intro h
      have := congrArg (List.map UInt8.toBitVec) h
      simpa [List.map_map, Function.comp_def] using this
    · rintro rfl; rfl
  simpa using this
theorem str_fold (xs : List (BitVec 8)) (acc : ByteArray) : (xs.map fun b => (b.toNat : Int)).foldl (fun r n => r.push (UInt8.ofNat n.toNat)) acc = ⟨acc.data ++ (xs.map UInt8.ofBitVec).toArray⟩ := by
  induction xs generalizing acc with
  | nil => simp
  | cons x xs ih =>
    rw [List.map_cons, List.foldl_cons, ih]
    have : UInt8.ofNat ((x.toNat : Int)).toNat = UInt8.ofBitVec x := by
      apply UInt8.toBitVec_inj.1
      apply BitVec.eq_of_toNat_eq
      simp
    rw [this]
    congr 1
    simp only [ByteArray.push, List.map_cons]
    apply Array.ext'
    simp
theorem Yl.toStr {xs : List (BitVec 8)} (hs : P.underlying sT = some (.slice elem) := by exact Und.out) (he : P.underlying elem = some (.int .u8) := by exact Und.out) (hd : P.underlying dT = some .string := by exact Und.out) (hx : e.ev x = .slice A ln cap := by rfl) (hr : RdS w0 F L A (xs.map u8) := by first | exact SeesS.rd | assumption) (hl : ln = xs.length := by first | rfl | assumption | (simp; done) | (simp; omega) | omega) :
    Yl P (Tr w0 F L) e ⟨d, .convert sT dT x, ty, pos, aft, g⟩ (.string (str xs)) := fun w hw => by
  subst hl
  have hmain : (Conv.bytesToString (.slice A xs.length cap)).run P w = .ok (.string (str xs)) w := by
    cases hA : A with
    | none =>
      have h0 : xs = [] := by
        cases xs with
        | nil => rfl
        | cons a l =>
          obtain ⟨b, o, h1, _⟩ := hr w hw 0 (u8 a) rfl
          rw [hA] at h1; cases h1
      subst h0
      rfl
    | some a =>
      have hc := hr.cells (P := P) (sz := 1) (n := xs.length) hw (by simp) 0 0
      rw [hA] at hc
      simp only [Builtin.firstCells, Nat.mul_one] at hc
      have hm : (xs.map u8) = (xs.map fun b => (b.toNat : Int)).map (Value.int .u8) := by rw [List.map_map]; rfl
      rw [hm] at hc
      rw [run_bytesToString w a xs.length cap _ hc, str_fold]
      congr 2
      simp only [str]
      congr 1
      simp
  simp only [execOp, hx, Sem.run_bind, run_convert_bytes_string w sT dT elem A xs.length cap hs he hd, hmain, Result.andThen_ok, Sem.run_pure]
theorem run_eqStr (hu : P.underlying t = some .string) (a c : ByteArray) (w : World) : (Op.equal t (.string a) (.string c)).run P w = .ok (a == c) w := by
  unfold Op.equal
  rw [show Op.maxDepth = 9999 + 1 from rfl]
  unfold Op.equalIn
  simp only [Sem.run_bind, run_underlying hu, Result.andThen_ok]
  rfl
theorem run_eqGuard_str (op : BinOp) (a c : ByteArray) (w : World) : (eqGuard op t x y (.string a) (.string c)).run P w = .ok () w := by
  unfold eqGuard
  cases op <;> rfl
theorem Yl.eqStr {as bs : List (BitVec 8)} (hu : P.underlying t = some .string := by exact Und.out) (hx : e.ev x = .string (str as) := by rfl) (hy : e.ev y = .string (str bs) := by rfl) : Yl P S e ⟨d, .binOp .eql t x y yt, ty, pos, aft, g⟩ (.bool (decide (as = bs))) := fun w _ => by
  simp only [execOp, hx, hy, Sem.run_bind, run_eqGuard_str, Result.andThen_ok]
  simp [binOp, Op.stringOp, run_eqStr hu, str_inj]
theorem Yl.neStr {as bs : List (BitVec 8)} (hu : P.underlying t = some .string := by exact Und.out) (hx : e.ev x = .string (str as) := by rfl) (hy : e.ev y = .string (str bs) := by rfl) : Yl P S e ⟨d, .binOp .neq t x y yt, ty, pos, aft, g⟩ (.bool (decide (as ≠ bs))) := fun w _ => by
  simp only [execOp, hx, hy, Sem.run_bind, run_eqGuard_str, Result.andThen_ok]
  simp [binOp, Op.stringOp, run_eqStr hu, str_inj]
/-! #### arrays of bytes against each other -/
theorem all_eq {xs ys : List (BitVec 8)} {N : Nat} (hx : xs.length = N) (hy : ys.length = N) : ((List.range' 0 N 1).all fun i => xs.getD i default == ys.getD i default) = decide (xs = ys) := by
  rw [Bool.eq_iff_iff, decide_eq_true_iff, List.all_eq_true]
  constructor
  · intro h
    apply List.ext_getElem (by omega)
    intro i h1 h2
    have := h i (by rw [List.mem_range'_1]; omega)
    simpa [h1, h2] using this
  · rintro rfl i _; simp
theorem run_eqArr8 {N : Nat} (hu : P.underlying t = some (.array N elem)) (he : P.underlying elem = some (.int .u8)) (hs : SizeOf P elem 1) (hT : NoAgg P elem) {xs ys : List (BitVec 8)} (hx : xs.length = N) (hy : ys.length = N) (w : World) :
    (Op.equalIn 10000 t (.agg (xs.map u8).toArray) (.agg (ys.map u8).toArray)).run P w = .ok (decide (xs = ys)) w := by
  rw [show 10000 = 9998 + 1 + 1 from rfl]
  unfold Op.equalIn
  simp only [Sem.run_bind, run_underlying hu, Result.andThen_ok, run_sizeOf hs, Nat.mul_one, Std.Legacy.Range.forIn_eq_forIn_range', Std.Legacy.Range.size, Nat.sub_zero, Nat.add_sub_cancel, Nat.div_one]
  rw [← all_eq hx hy]
  have key : ∀ l : List Nat, (∀ i ∈ l, i < N) → (forIn l ((none : Option Bool), ()) fun i __s => do
            let __do_lift ← part elem (xs.map u8).toArray i
            let __do_lift_1 ← part elem (ys.map u8).toArray i
            let __do_lift ← Op.equalIn (9998 + 1) elem __do_lift __do_lift_1
            if (!__do_lift) = true then pure (ForInStep.done (some false, ())) else pure (ForInStep.yield (none, ()))).run P w = .ok (if (l.all fun i => xs.getD i default == ys.getD i default) then (none, ()) else (some false, ())) w := by
    intro l
    induction l with
    | nil => intro _; simp
    | cons i l ih =>
      intro hl
      have hi := hl i List.mem_cons_self
      have e1 : (part elem (xs.map u8).toArray i).run P w = .ok (u8 (xs.getD i default)) w := by
        simp only [part, Sem.run_bind, run_isAgg_no hT, Result.andThen_ok, Bool.false_eq_true, if_false, List.getElem?_toArray, getmap (f := u8) (xs := xs) (i := i) (by omega), Sem.run_pure]
      have e2 : (part elem (ys.map u8).toArray i).run P w = .ok (u8 (ys.getD i default)) w := by
        simp only [part, Sem.run_bind, run_isAgg_no hT, Result.andThen_ok, Bool.false_eq_true, if_false, List.getElem?_toArray, getmap (f := u8) (xs := ys) (i := i) (by omega), Sem.run_pure]
      have e4 : (((xs.getD i default).toNat : Int) == ((ys.getD i default).toNat : Int)) = (xs.getD i default == ys.getD i default) := by
        rw [Bool.eq_iff_iff, beq_iff_eq, beq_iff_eq, Int.ofNat_inj, BitVec.toNat_inj]
      have e3 : (Op.equalIn (9998 + 1) elem (u8 (xs.getD i default)) (u8 (ys.getD i default))).run P w = .ok (xs.getD i default == ys.getD i default) w := by
        rw [run_equalIn_int w 9998 elem .u8 .u8 _ _ he, e4]
      rw [List.forIn_cons]
      simp only [Sem.run_bind, e1, e2, e3, Result.andThen_ok, List.all_cons]
      have hbb : ∀ c : Bool, c = false ∨ c = true := by decide
      rcases hbb (xs.getD i default == ys.getD i default) with hb | hb
      · simp only [hb]; simp
      · simp only [hb, Bool.not_true, Bool.false_eq_true, if_false, Sem.run_pure, Result.andThen_ok, Bool.true_and]
        exact ih (fun j hj => hl j (List.mem_cons_of_mem _ hj))
  rw [key _ (fun i hi => by rw [List.mem_range'_1] at hi; omega)]
  simp only [Result.andThen_ok]
  cases (List.range' 0 N 1).all fun i => xs.getD i default == ys.getD i default <;> simp
theorem Yl.eqArr8 {N : Nat} {xs ys : List (BitVec 8)} (hu : P.underlying t = some (.array N elem) := by exact Und.out) (he : P.underlying elem = some (.int .u8) := by exact Und.out) (hs : SizeOf P elem 1 := by infer_instance) (hT : NoAgg P elem := by infer_instance) (hg : P.eqGuardType P.depth t = false) (hx : e.ev x = .agg (xs.map u8).toArray := by rfl) (hy : e.ev y = .agg (ys.map u8).toArray := by rfl) (hxl : xs.length = N := by first | rfl | assumption | (simp; done) | (simp; omega) | omega) (hyl : ys.length = N := by first | rfl | assumption | (simp; done) | (simp; omega) | omega) :
    Yl P S e ⟨d, .binOp .eql t x y yt, ty, pos, aft, g⟩ (.bool (decide (xs = ys))) := fun w _ => by
  have h1 : (eqGuard .eql t x y (.agg (xs.map u8).toArray) (.agg (ys.map u8).toArray)).run P w = .ok () w := by
    unfold eqGuard
    simp [hg]
  simp only [execOp, hx, hy, Sem.run_bind, h1, Result.andThen_ok, run_eql_struct, run_eqArr8 hu he hs hT hxl hyl, Sem.run_pure]
end
end Go.Eng

/- Maps with int keys; contracts over several blocks. -/
open Go.RowKit
namespace Go.Eng
/-- The entries of a literal's map, the n-th born first. -/
def ent (n : Nat) : List (Int × Value) → List MapEntry
  | [] => []
  | (k, v) :: r => ⟨.int .i64 k, v, n⟩ :: ent (n + 1) r
def mapO (kvs : List (Int × Value)) : Obj := .map (ent 0 kvs).toArray kvs.length
def lk : List (Int × Value) → Int → Option Value
  | [], _ => none
  | (k, v) :: r, q => if q = k then some v else lk r q
theorem ent_append (n : Nat) (a : List (Int × Value)) (k : Int) (v : Value) : ent n (a ++ [(k, v)]) = ent n a ++ [⟨.int .i64 k, v, n + a.length⟩] := by
  induction a generalizing n with
  | nil => rfl
  | cons x a ih =>
    obtain ⟨q, u⟩ := x
    simp only [List.cons_append, ent, ih, List.length_cons]
    rw [show n + 1 + a.length = n + (a.length + 1) from by omega]
theorem findNow_lk (q : IntKind) (k : Int) : ∀ (kvs : List (Int × Value)) (n i : Nat), ∃ r, Instr.findNow (.int q) (.int .i64 k) (ent n kvs) i = some r ∧ r.map (·.2) = lk kvs k
  | [], _, _ => ⟨none, rfl, rfl⟩
  | (k', v) :: r, n, i => by
    simp only [ent, Instr.findNow, Instr.sameNow, if_true, lk]
    by_cases h : k = k'
    · subst h; exact ⟨some (i, v), by simp, by simp⟩
    · have hb : (k == k') = false := by simpa using h
      rw [hb, if_neg h]
      exact findNow_lk q k r (n + 1) (i + 1)
section
variable {P : Program} {ops : Array Oper} {Q : Exit → Act → World → Prop} {e : En} {ds : List Deferred} {S : WS} {rest : List Oper}
variable {w0 : World} {F : List Nat} {L : List Hl} {d : Option Tmp} {ty t elem kt : TypeId} {pos : String} {aft : Array Edge} {g : Option (Nat × Bool)} {x y z : Operand} {q : IntKind} {k : Int}
variable {b : Nat} {v : Value} {u : Hl → List Hl} {kvs : List (Int × Value)} {zs : List Value}
theorem run_findKey (hk : P.underlying kt = some (.int q)) (w : World) : ∃ r, (Instr.findKey kt (.int .i64 k) (ent 0 kvs)).run P w = .ok r w ∧ r.map (·.2) = lk kvs k := by
  obtain ⟨r, h1, h2⟩ := findNow_lk q k kvs 0 0
  refine ⟨r, ?_, h2⟩
  simp only [Instr.findKey, Sem.run_bind, run_underlying hk, Result.andThen_ok, h1, Sem.run_pure]
theorem run_checkKey (hk : P.underlying kt = some (.int q)) (c : Bool) (w : World) : (Instr.checkKey c 10000 kt (.int .i64 k)).run P w = .ok () w := by
  rw [show 10000 = 9999 + 1 from rfl]
  unfold Instr.checkKey
  simp only [Sem.run_bind, run_underlying hk, Result.andThen_ok]
  rfl
theorem run_getMap {w : World} (hb : w.heap[b]? = some (mapO kvs)) : (getObj b).run P w = .ok (mapO kvs) w := by simp [getObj, Sem.run, hb, mapO]
theorem Yl.lookupY (hu : P.underlying t = some (.map kt elem) := by exact Und.out) (hk : P.underlying kt = some (.int q) := by exact Und.out) (hx : e.ev x = .map (some b) := by rfl) (hy : e.ev y = .int .i64 k := by rfl) (hm : Hl.obj b (mapO kvs) ∈ L := by exact AtO.ha.mem) (hf : lk kvs k = some v) :
    Yl P (Tr w0 F L) e ⟨d, .lookup t x y true, ty, pos, aft, g⟩ (.tuple #[v, .bool true]) := fun w hw => by
  obtain ⟨r, h1, h2⟩ := run_findKey (P := P) (kvs := kvs) (k := k) hk w
  have hb : w.heap[b]? = some (mapO kvs) := (hw.sat _ hm).1
  rw [hf] at h2
  obtain ⟨⟨i, v'⟩, rfl, hv⟩ := Option.map_eq_some_iff.1 h2
  simp only at hv
  subst hv
  simp only [execOp, hx, hy, Instr.lookup, Sem.run_bind, run_underlying hu, Result.andThen_ok]
  rw [run_getMap hb]
  simp [mapO, run_checkKey hk, h1]
theorem Yl.lookupN (hu : P.underlying t = some (.map kt elem) := by exact Und.out) (hk : P.underlying kt = some (.int q) := by exact Und.out) (hx : e.ev x = .map (some b) := by rfl) (hy : e.ev y = .int .i64 k := by rfl) (hm : Hl.obj b (mapO kvs) ∈ L := by exact AtO.ha.mem) (hf : lk kvs k = none) (hz : ∀ w, (zeroValue elem).run P w = .ok v w) :
    Yl P (Tr w0 F L) e ⟨d, .lookup t x y true, ty, pos, aft, g⟩ (.tuple #[v, .bool false]) := fun w hw => by
  obtain ⟨r, h1, h2⟩ := run_findKey (P := P) (kvs := kvs) (k := k) hk w
  have hb : w.heap[b]? = some (mapO kvs) := (hw.sat _ hm).1
  rw [hf] at h2
  obtain rfl : r = none := Option.map_eq_none_iff.1 h2
  simp only [execOp, hx, hy, Instr.lookup, Sem.run_bind, run_underlying hu, Result.andThen_ok]
  rw [run_getMap hb]
  simp [mapO, run_checkKey hk, h1, hz]

/-- 'make(map[int]..)' -/
theorem Ef.makeMap : Ef P Q e ds (Tr w0 F L) ⟨d, .makeMap t none, ty, pos, aft, g⟩ (New w0) (fun b => .map (some b)) (fun b => Tr w0 F (.obj b (mapO []) :: L)) := by
  refine ⟨fun hok w hT => ?_⟩
  unfold Oper.wp
  rw [En.eval_eq hok]
  have : (execOp e.ev (⟨d, .makeMap t none, ty, pos, aft, g⟩ : Oper)).run P w = .ok (.value (.map (some w.heap.size))) (w.alloc (mapO [])) := by
    simp [execOp, Instr.makeMap, mapO, ent]
  rw [this, Oper.upon_value, En.put_arr]
  refine ⟨w.heap.size, hT.size, rfl, hT.callN (N := [_]) (alloc_tr _ _ ?_ (by simp)) ?_⟩
  · intro h hh; simp only [List.mem_singleton] at hh; subst hh
    exact ⟨heap_alloc_new w _, fun cs T f h => by simp [mapO] at h⟩
  · intro h hh q hq; simp only [List.mem_singleton] at hh; subst hh; simp only [Hl.id, Option.some.injEq] at hq; omega
/-- One key more of a map's literal. -/
theorem Ef.insert (hu : P.underlying t = some (.map kt elem) := by exact Und.out) (hk : P.underlying kt = some (.int q) := by exact Und.out) (hx : e.ev x = .map (some b) := by rfl) (hy : e.ev y = .int .i64 k := by rfl) (hz : e.ev z = v := by rfl) (hat : At (.obj b (mapO kvs)) L u := by exact AtO.ha) (hf : lk kvs k = none) (hw : Own w0 F b := by first | exact .inr ‹_› | exact .inl ‹_› | exact .inl (by simp)) :
    Ef P Q e ds (Tr w0 F L) ⟨none, .insert t x y z, ty, pos, aft, g⟩ Top (fun _ => undef) (fun _ => Tr w0 F (u (.obj b (mapO (kvs ++ [(k, v)]))))) := by
  refine ⟨fun hok w hT => ?_⟩
  obtain ⟨r, h1, h2⟩ := run_findKey (P := P) (kvs := kvs) (k := k) hk w
  rw [hf] at h2
  obtain rfl : r = none := Option.map_eq_none_iff.1 h2
  have hb : w.heap[b]? = some (mapO kvs) := (hT.sat _ hat.mem).1
  have hlt : b < w.heap.size := (Array.getElem?_eq_some_iff.1 hb).1
  unfold Oper.wp
  rw [En.eval_eq hok]
  have hset : (setObj b (mapO (kvs ++ [(k, v)]))).run P w = .ok () { w with heap := w.heap.setIfInBounds b (mapO (kvs ++ [(k, v)])) } := by
    have hb' := hb
    unfold mapO at hb'
    simp [setObj, Sem.run, hb']
  have he : (Obj.map (ent 0 kvs ++ [(⟨.int .i64 k, v, kvs.length⟩ : MapEntry)]).toArray (kvs.length + 1)) = mapO (kvs ++ [(k, v)]) := by
    simp [mapO, ent_append]
  have : (execOp e.ev (⟨none, .insert t x y z, ty, pos, aft, g⟩ : Oper)).run P w = .ok .skip { w with heap := w.heap.setIfInBounds b (mapO (kvs ++ [(k, v)])) } := by
    simp only [execOp, hx, hy, hz, Instr.mapUpdate, Sem.run_bind, run_underlying hu, Result.andThen_ok]
    rw [run_getMap hb]
    simp only [mapO, Sem.run_bind, run_checkKey hk, Result.andThen_ok, h1, List.push_toArray]
    rw [he, hset]
    rfl
  rw [this, Oper.upon_skip, En.put_arr]
  refine ⟨(), trivial, rfl, ?_⟩
  have hst := hT.at_step hat (N := []) (h' := .obj b (mapO (kvs ++ [(k, v)]))) (D := [b]) (w' := { w with heap := w.heap.setIfInBounds b (mapO (kvs ++ [(k, v)])) }) ?_ (by intro j hj; simp only [List.mem_singleton] at hj; subst hj; exact ⟨rfl, hw⟩) (by intro y hy j hj; simp only [List.mem_singleton] at hy; subst hy; exact .inl hj)
  · simpa using hst
  · refine ⟨rfl, rfl, rfl, by simp, fun j hj hn => ?_, ?_, by simp⟩
    · simp only [List.mem_singleton] at hn
      rw [Array.getElem?_setIfInBounds_ne (fun h => hn h.symm)]
    · intro h hh
      simp only [List.mem_singleton] at hh
      subst hh
      exact ⟨by simp [Array.getElem?_setIfInBounds, hlt], fun cs T f h => by simp [mapO] at h⟩
theorem wanted_un {o : Oper} {j dd : Nat} {c : Bool} {oj : Oper} (hok : e.Ok) (hg : o.guard = some (j, c)) (hj : ops[j]? = some oj) (hd : oj.dst = some dd) (hv : e.get dd = undef) : Region.wanted o (yielded ops e.arr) = false := by
  obtain ⟨n, hn⟩ := hok
  have hget := En.getD_of_ok hn dd
  rw [hv] at hget
  simp only [Region.wanted, hg, yielded, hj, hd, Option.bind_some]
  cases hx : e.arr[dd]? with
  | none => simp
  | some u =>
    simp only [Array.getD_eq_getD_getElem?, hx, Option.getD_some] at hget
    subst hget
    simp [undef]
/-- A guard on what was not done. -/
theorem Ops.guard_un {o : Oper} {j dd : Nat} {c : Bool} {oj : Oper} (hg : o.guard = some (j, c)) (hj : ops[j]? = some oj) (hd : oj.dst = some dd) (hv : e.get dd = undef)
    (h : Ops P ops Q rest (e.put o.dst undef) ds S) : Ops P ops Q (o :: rest) e ds S := by
  have hok := h.1.of_put
  refine ⟨hok, fun w hw => ?_⟩
  refine wpList_skip (wanted_un hok hg hj hd hv) ?_
  rw [En.put_arr]
  exact h.2 w hw
theorem G.pun {kd : Nat → Nat} {N : Act → World → Prop} {S0 : WS} {fuel dn : Nat} {o : Op} (i : Nat) {j dd : Nat} {c : Bool} {oj : Oper} {listed : Array Bool} (hok : takeOkP ops kd listed i = true) (ho : ops[i]? = some ⟨some dn, o, ty, pos, aft, some (j, c)⟩) (hj : ops[j]? = some oj) (hd : oj.dst = some dd)
    (hv : e.get dd = undef) (h : G P ops kd N S0 fuel (listed.setIfInBounds i true) (.upd dn undef e) ds S) : G P ops kd N S0 (fuel + 1) listed e ds S :=
  G.take_ofP hok ho (fun hk => .inr ⟨wanted_un hk rfl hj hd hv, rfl⟩) h
/-- A result that lies in memory, and one that does not. -/
theorem Res.cellTmp {N : Nat} {fn : Func} {t1 t2 : Tmp} {ty : TypeId} {T : TypeId} {cs : List Value} (hok : e.Ok) (hr : fn.results = #[.cell t1 ty, .tmp t2]) (hv : e.get t1 = pt b 0) (hm : Hl.blk b T cs ∈ L) (hT : AggOf P ty N) (hl : cs.length = N) (hx : e.get t2 = v) :
    Res P fn e (Tr w0 F L) (.tuple #[.agg cs.toArray, v]) := fun w hw => by
  obtain ⟨n, hn⟩ := hok
  have h1 := En.getD_of_ok hn t1
  have h2 := En.getD_of_ok hn t2
  rw [hv] at h1
  rw [hx] at h2
  simp only [Array.getD_eq_getD_getElem?] at h1 h2
  have hh := hw.sat _ hm
  have hld := run_loadCells_list (P := P) w (ad b 0) cs (fun i v hv => by rw [Addr.add_lit, cell_of_row w b (0 + i) _ _ _ hh]; simpa using hv)
  rw [hl] at hld
  simp [results, hr, h1, h2, asAddr, loadVar, run_isAgg_yes hT, run_sizeOf hT.size, hld]
/-! #### contracts over several blocks -/
/-- The call turns the blocks D: what lies there then is told by H x; besides, new memory. -/
def Changes (P : Program) (f : FuncId) (args : Array Value) (w : World) (D : List Nat) {X : Type} (q : X → Prop) (val : X → Value) (N : X → List Hl) : Prop :=
  Calls P f args w fun en w' => ∃ x, q x ∧ (∀ h ∈ N x, ∀ k, h.id = some k → k ∈ D ∨ w.heap.size ≤ k) ∧ en = .returned (val x) ∧ Tr w D (N x) w'
variable {f : FuncId} {args : List Operand} {vs : List Value} {ts : Array TypeId}
theorem changes_mono {X : Type} {q : X → Prop} {val : X → Value} {N : X → List Hl} {w : World} {Hin R : List Hl} {D : List Nat} (hw : Tr w0 F L w) (hp : L.Perm (Hin ++ R)) (hD : ∀ k ∈ D, (∃ h ∈ Hin, h.id = some k) ∧ Own w0 F k) {as : Array Value} (hc : Changes P f as w D q val N) :
    Calls P f as w (fun en w' => ∃ x, (q x ∧ ∀ h ∈ N x, ∀ k, h.id = some k → k ∈ D ∨ w0.heap.size ≤ k) ∧ en = .returned (val x) ∧ Tr w0 F (N x ++ R) w') :=
  hc.mono fun _ _ ⟨x, h1, h2, h3, h4⟩ => by
    have hw' := hw.perm hp
    refine ⟨x, ⟨h1, fun h hh k hk => (h2 h hh k hk).imp id (Nat.le_trans hw.size)⟩, h3, ?_⟩
    refine hw'.step h4 (fun k hk => (hD k hk).2) (List.sublist_append_right _ _) ?_ h2
    intro y hy k hk hkd
    obtain ⟨⟨h, hh, hid⟩, _⟩ := hD k hkd
    exact (List.pairwise_append.1 hw'.apart).2.2 h hh y hy k hid hk
theorem Ef.changes {X : Type} {q : X → Prop} {val : X → Value} {N : X → List Hl} {Hin R : List Hl} {D : List Nat} (hb : Body P f := by infer_instance) (hv : args.map e.ev = vs) (hp : L.Perm (Hin ++ R)) (hD : ∀ k ∈ D, (∃ h ∈ Hin, h.id = some k) ∧ Own w0 F k) (hc : ∀ w, Tr w0 F L w → Changes P f vs.toArray w D q val N) :
    Ef P Q e ds (Tr w0 F L) ⟨d, .call { callee := .value (.func f), args := args.toArray, argTypes := ts }, ty, pos, aft, g⟩ (fun x => q x ∧ ∀ h ∈ N x, ∀ k, h.id = some k → k ∈ D ∨ w0.heap.size ≤ k) val (fun x => Tr w0 F (N x ++ R)) :=
  Ef.call hb hv fun w hw => changes_mono hw hp hD (hc w hw)
end
end Go.Eng

/- Short forms of the steps, as the printer uses them. -/
open Go.RowKit
namespace Go.Eng
/-- a sum, brought to its plain form where one side is nought -/
class AddN (a b : Nat) (c : outParam Nat) : Prop where
  eq : a + b = c
instance (priority := low) AddN.gen {a b : Nat} : AddN a b (a + b) := ⟨rfl⟩
instance AddN.zl {b : Nat} : AddN 0 b b := ⟨Nat.zero_add b⟩
instance AddN.zr {a : Nat} : AddN a 0 a := ⟨rfl⟩
/-- some thing of a type, made of a number -/
class Pt (X : Type) where
  pt : Nat → X
instance : Pt Unit := ⟨fun _ => ()⟩
instance : Pt Nat := ⟨id⟩
instance : Pt (Option Nat) := ⟨some⟩
instance {X Y : Type} [Pt X] [Pt Y] : Pt (X × Y) := ⟨fun n => (Pt.pt n, Pt.pt n)⟩
theorem ne_makes {X : Type} [Pt X] {q : X → Prop} {N : X → List Hl} {w0 : World} (hq : q (Pt.pt w0.heap.size)) (h : ∀ h ∈ N (Pt.pt w0.heap.size), h.id = none ∨ h.id = some w0.heap.size) : ∃ x, q x ∧ NewH w0 (N x) :=
  ⟨_, hq, fun y hy k hk => by rcases h y hy with h | h <;> rw [h] at hk <;> cases hk; exact Nat.le_refl _⟩
theorem ne_changes {X : Type} [Pt X] {q : X → Prop} {N : X → List Hl} {D : List Nat} {w0 : World} (hq : q (Pt.pt w0.heap.size)) (h : ∀ h ∈ N (Pt.pt w0.heap.size), ∀ k, h.id = some k → k ∈ D ∨ k = w0.heap.size) : ∃ x, q x ∧ ∀ h ∈ N x, ∀ k, h.id = some k → k ∈ D ∨ w0.heap.size ≤ k :=
  ⟨_, hq, fun y hy k hk => (h y hy k hk).imp id fun h => by omega⟩
section
variable {P : Program} {ops : Array Oper} {Q K : Exit → Act → World → Prop} {e : En} {ds : List Deferred} {S : WS} {rest : List Oper} {y : Code}
/-- A region, and what comes behind it. -/
theorem Wp.sr {id : Nat} {l : List Oper} (h : ∀ K : Exit → Act → World → Prop, (∀ e ds S, Wp P y Q e ds S → Fin K .normal e ds S) → (∀ z e ds S, z ≠ .normal → Fin Q z e ds S → Fin K z e ds S) → Ops P l.toArray K l e ds S) : Wp P (.seq (.region id l.toArray false) y) Q e ds S :=
  Wp.seq fun K n r => Wp.region (h K n r)
theorem Ops.nl (n : ∀ e ds S, Wp P y Q e ds S → Fin K .normal e ds S) (h : Wp P y Q e ds S) : Ops P ops K [] e ds S := Ops.nil (n _ _ _ h)
def kdl (l : List Nat) (i : Nat) : Nat := l.getD i 0
theorem Wp.sd {id : Nat} {l : List Oper} {w0 : World} {F : List Nat} {L : List Hl} (kd : List Nat) (hm : P.follows .mixedOrders = true)
    (h : ∀ N : Act → World → Prop, (∀ e ds S, Wp P y Q e ds S → e.Ok ∧ ∀ w, S w → N ⟨e.arr, ds⟩ w) → G P l.toArray (kdl kd) N (Tr w0 F L) l.length (Array.replicate l.length false) e ds (Tr w0 F L)) : Wp P (.seq (.region id l.toArray true) y) Q e ds (Tr w0 F L) :=
  Wp.seq fun _ n _ => Wp.draw hm (kdl kd) _ (fun _ h => h.drawn _) fun N hN => h N fun e ds S hy => hN e ds S (n e ds S hy)
theorem Wp.sD {id : Nat} {l : List Oper} {w0 : World} {F : List Nat} {L : List Hl} (kd : List Nat) (S0 : WS) (hm : P.follows .mixedOrders = true)
    (h : ∀ N : Act → World → Prop, (∀ e ds S, Wp P y Q e ds S → e.Ok ∧ ∀ w, S w → N ⟨e.arr, ds⟩ w) → G P l.toArray (kdl kd) N S0 l.length (Array.replicate l.length false) e ds (Tr w0 F L)) : Wp P (.seq (.region id l.toArray true) y) Q e ds (Tr w0 F L) :=
  Wp.seq fun _ n _ => Wp.draw hm (kdl kd) S0 (fun _ h => h.drawn _) fun N hN => h N fun e ds S hy => hN e ds S (n e ds S hy)
/-- A test, as a proposition. -/
theorem Wp.cd {c : Operand} {a b : Code} {p : Prop} {_ : Decidable p} (hc : e.ev c = .bool (decide p)) (ht : p → Wp P a Q e ds S) (hf : ¬p → Wp P b Q e ds S) : Wp P (.cond c a b) Q e ds S :=
  Wp.cond _ hc (fun h => ht (of_decide_eq_true h)) (fun h => hf (of_decide_eq_false h))
theorem Wp.cn {c : Operand} {a b : Code} {p : Prop} {_ : Decidable p} (hc : e.ev c = .bool (!decide p)) (ht : ¬p → Wp P a Q e ds S) (hf : p → Wp P b Q e ds S) : Wp P (.cond c a b) Q e ds S :=
  Wp.cond _ hc (fun h => ht (by simpa using h)) (fun h => hf (by simpa using h))
variable {o : Op} {d : Nat} {ty : TypeId} {pos : String} {aft : Array Edge}
theorem Ops.w {X : Type} {p : X → Prop} {val : X → Value} {T : X → WS} (he : Ef P Q e ds S ⟨some d, o, ty, pos, aft, none⟩ p val T) (h : ∀ x, p x → Ops P ops Q rest (.upd d (val x) e) ds (T x))
    (hne : ∃ x, p x := by first | exact ⟨(), trivial⟩ | exact New.ex _ | exact ne_makes trivial (by simp [Hl.id, Pt.pt]) | exact ⟨(none, 0), fun _ h => by cases h⟩ | exact ⟨(_, 0), .inr (Nat.le_refl _)⟩) :
    Ops P ops Q (⟨some d, o, ty, pos, aft, none⟩ :: rest) e ds S := Ops.eff rfl he hne h
/-- .. that makes something: by its new name b -/
theorem Ops.m {val : Nat → Value} {T : Nat → WS} {w0 : World} (he : Ef P Q e ds S ⟨some d, o, ty, pos, aft, none⟩ (New w0) val T) (h : ∀ b, New w0 b → Ops P ops Q rest (.upd d (val b) e) ds (T b)) :
    Ops P ops Q (⟨some d, o, ty, pos, aft, none⟩ :: rest) e ds S := Ops.eff rfl he (New.ex _) h
/-- .. that makes nothing -/
theorem Ops.u {v : Value} {T : WS} (he : Ef P Q e ds S ⟨some d, o, ty, pos, aft, none⟩ Top (fun _ => v) (fun _ => T)) (h : Ops P ops Q rest (.upd d v e) ds T) :
    Ops P ops Q (⟨some d, o, ty, pos, aft, none⟩ :: rest) e ds S := Ops.eff rfl he ⟨(), trivial⟩ fun _ _ => h
theorem Ops.gn {j dd : Nat} {b c : Bool} {oj : Oper} {dn : Nat} (h : Ops P ops Q rest (.upd dn undef e) ds S) (hj : ops[j]? = some oj := by rfl) (hd : oj.dst = some dd := by rfl) (hv : e.get dd = .bool c := by rfl) (hc : c = !b := by rfl) :
    Ops P ops Q (⟨some dn, o, ty, pos, aft, some (j, b)⟩ :: rest) e ds S := Ops.guard_no rfl hj hd hv hc h
theorem Ops.gu {j dd : Nat} {b : Bool} {oj : Oper} {dn : Nat} (h : Ops P ops Q rest (.upd dn undef e) ds S) (hj : ops[j]? = some oj := by rfl) (hd : oj.dst = some dd := by rfl) (hv : e.get dd = undef := by rfl) :
    Ops P ops Q (⟨some dn, o, ty, pos, aft, some (j, b)⟩ :: rest) e ds S := Ops.guard_un rfl hj hd hv h
theorem Ops.gy {v : Value} {j dd : Nat} {b c : Bool} {oj : Oper} {dn : Nat} (hy : Yl P S e ⟨some dn, o, ty, pos, aft, some (j, b)⟩ v) (h : Ops P ops Q rest (.upd dn v e) ds S) (hj : ops[j]? = some oj := by rfl) (hd : oj.dst = some dd := by rfl) (hv : e.get dd = .bool c := by rfl) (hc : c = b := by rfl) :
    Ops P ops Q (⟨some dn, o, ty, pos, aft, some (j, b)⟩ :: rest) e ds S := Ops.guard_val rfl hj hd hv hc hy h
section
variable {kd : Nat → Nat} {N : Act → World → Prop} {S0 : WS} {fuel : Nat} {listed : Array Bool}
theorem G.q {v : Value} (i : Nat) (ho : ops[i]? = some ⟨some d, o, ty, pos, aft, none⟩) (hy : Yl P (fun _ => True) e ⟨some d, o, ty, pos, aft, none⟩ v)
    (h : G P ops kd N S0 fuel (listed.setIfInBounds i true) (.upd d v e) ds S) (hok : takeOkP ops kd listed i = true := by kernel_rfl) : G P ops kd N S0 (fuel + 1) listed e ds S := G.p i hok ho hy h
theorem G.l {v : Value} (i : Nat) (ho : ops[i]? = some ⟨some d, o, ty, pos, aft, none⟩) (hy : Yl P S0 e ⟨some d, o, ty, pos, aft, none⟩ v)
    (h : G P ops kd N S0 fuel (listed.setIfInBounds i true) (.upd d v e) ds S) (hok : takeOk ops kd listed i = true := by kernel_rfl) : G P ops kd N S0 (fuel + 1) listed e ds S := G.t i hok ho hy h
theorem G.gy {v : Value} {d' j : Nat} {b c : Bool} {oj : Oper} (i : Nat) (ho : ops[i]? = some ⟨some d, o, ty, pos, aft, some (j, b)⟩) (hy : Yl P (fun _ => True) e ⟨some d, o, ty, pos, aft, some (j, b)⟩ v)
    (h : G P ops kd N S0 fuel (listed.setIfInBounds i true) (.upd d v e) ds S) (hj : ops[j]? = some oj := by rfl) (hd : oj.dst = some d' := by rfl) (hv : e.get d' = .bool c := by rfl) (hc : c = b := by rfl) (hok : takeOkP ops kd listed i = true := by kernel_rfl) : G P ops kd N S0 (fuel + 1) listed e ds S := G.pyes i hok ho hj hd hv hc hy h
theorem G.gl {v : Value} {d' j : Nat} {b c : Bool} {oj : Oper} (i : Nat) (ho : ops[i]? = some ⟨some d, o, ty, pos, aft, some (j, b)⟩) (hy : Yl P S0 e ⟨some d, o, ty, pos, aft, some (j, b)⟩ v)
    (h : G P ops kd N S0 fuel (listed.setIfInBounds i true) (.upd d v e) ds S) (hj : ops[j]? = some oj := by rfl) (hd : oj.dst = some d' := by rfl) (hv : e.get d' = .bool c := by rfl) (hc : c = b := by rfl) (hok : takeOk ops kd listed i = true := by kernel_rfl) : G P ops kd N S0 (fuel + 1) listed e ds S := G.tyes i hok ho hj hd hv hc hy h
theorem G.gn {d' j : Nat} {b c : Bool} {oj : Oper} (i : Nat) (ho : ops[i]? = some ⟨some d, o, ty, pos, aft, some (j, b)⟩)
    (h : G P ops kd N S0 fuel (listed.setIfInBounds i true) (.upd d undef e) ds S) (hj : ops[j]? = some oj := by rfl) (hd : oj.dst = some d' := by rfl) (hv : e.get d' = .bool c := by rfl) (hc : c = !b := by rfl) (hok : takeOkP ops kd listed i = true := by kernel_rfl) : G P ops kd N S0 (fuel + 1) listed e ds S := G.pno i hok ho hj hd hv hc h
theorem G.gu {d' j : Nat} {b : Bool} {oj : Oper} (i : Nat) (ho : ops[i]? = some ⟨some d, o, ty, pos, aft, some (j, b)⟩)
    (h : G P ops kd N S0 fuel (listed.setIfInBounds i true) (.upd d undef e) ds S) (hj : ops[j]? = some oj := by rfl) (hd : oj.dst = some d' := by rfl) (hv : e.get d' = undef := by rfl) (hok : takeOkP ops kd listed i = true := by kernel_rfl) : G P ops kd N S0 (fuel + 1) listed e ds S := G.pun i hok ho hj hd hv h
variable {w0 : World} {F : List Nat} {L L0 : List Hl} {od : Option Nat}
/-- One that may come up alone, and what it knows then. -/
theorem G.r {X : Type} {p : X → Prop} {val : X → Value} {L' : X → List Hl} (i : Nat) (ho : ops[i]? = some ⟨some d, o, ty, pos, aft, none⟩) (he : Ef P (Qn N) e ds (Tr w0 F L) ⟨some d, o, ty, pos, aft, none⟩ p val (fun x => Tr w0 F (L' x)))
    (h : ∀ x, p x → G P ops kd N (Tr w0 F (L' x)) fuel (listed.setIfInBounds i true) (.upd d (val x) e) ds (Tr w0 F (L' x)))
    (hne : ∃ x, p x := by first | exact ⟨(), trivial⟩ | exact New.ex _ | exact ne_makes trivial (by simp [Hl.id, Pt.pt]) | exact ⟨(none, 0), fun _ h => by cases h⟩ | exact ⟨(_, 0), .inr (Nat.le_refl _)⟩)
    (hs : L0.Sublist L := by repeat (first | exact List.Sublist.refl _ | exact List.nil_sublist _ | apply List.Sublist.cons_cons | apply List.Sublist.cons))
    (hsub : ∀ x, p x → L0.Sublist (L' x) := by exact fun _ _ => by first | exact List.Sublist.refl _ | exact List.sublist_cons_self _ _ | exact List.sublist_append_right _ _ | (repeat (first | exact List.Sublist.refl _ | exact List.nil_sublist _ | apply List.Sublist.cons_cons | apply List.Sublist.cons)))
    (hr : Region.ready .any ops listed = [i] := by kernel_rfl) (hk : kd i = 0 := by rfl) : G P ops kd N (Tr w0 F L0) (fuel + 1) listed e ds (Tr w0 F L) :=
  G.run i hr hk ho rfl he hne (fun _ h => h.sub hs) (fun x hx _ h => h.sub (hsub x hx)) _ (fun x hx _ h => h.sub (hsub x hx)) h
theorem G.lst (h : G0 P ops N fuel listed e ds (Tr w0 F L)) (hs : L0.Sublist L := by repeat (first | exact List.Sublist.refl _ | exact List.nil_sublist _ | apply List.Sublist.cons_cons | apply List.Sublist.cons)) (hf : allFin ops kd listed = true := by kernel_rfl) : G P ops kd N (Tr w0 F L0) fuel listed e ds (Tr w0 F L) :=
  G.last hf (fun _ h => h.sub hs) h
theorem G.dn (hN : ∀ e ds S, Wp P y Q e ds S → e.Ok ∧ ∀ w, S w → N ⟨e.arr, ds⟩ w) (h : Wp P y Q e ds (Tr w0 F L)) (hs : L0.Sublist L := by repeat (first | exact List.Sublist.refl _ | exact List.nil_sublist _ | apply List.Sublist.cons_cons | apply List.Sublist.cons)) (hr : Region.ready .any ops listed = [] := by kernel_rfl) :
    G P ops kd N (Tr w0 F L0) 0 listed e ds (Tr w0 F L) := G.done hr (fun _ h => h.sub hs) (hN _ _ _ h)
theorem G0.s {T : Unit → WS} (i : Nat) (ho : ops[i]? = some ⟨none, o, ty, pos, aft, none⟩) (he : Ef P (Qn N) e ds S ⟨none, o, ty, pos, aft, none⟩ Top (fun _ => undef) T) (h : G0 P ops N fuel (listed.setIfInBounds i true) e ds (T ())) (hr : Region.ready .any ops listed = [i] := by kernel_rfl) : G0 P ops N (fuel + 1) listed e ds S :=
  G0.run i hr ho rfl he ⟨(), trivial⟩ fun _ _ => h
theorem G0.v {v : Value} (i : Nat) (ho : ops[i]? = some ⟨some d, o, ty, pos, aft, none⟩) (hy : Yl P S e ⟨some d, o, ty, pos, aft, none⟩ v) (h : G0 P ops N fuel (listed.setIfInBounds i true) (.upd d v e) ds S) (hr : Region.ready .any ops listed = [i] := by kernel_rfl) : G0 P ops N (fuel + 1) listed e ds S :=
  G0.val i hr ho rfl hy h
theorem G0.w {X : Type} {p : X → Prop} {val : X → Value} {T : X → WS} (i : Nat) (ho : ops[i]? = some ⟨some d, o, ty, pos, aft, none⟩) (he : Ef P (Qn N) e ds S ⟨some d, o, ty, pos, aft, none⟩ p val T) (h : ∀ x, p x → G0 P ops N fuel (listed.setIfInBounds i true) (.upd d (val x) e) ds (T x))
    (hne : ∃ x, p x := by first | exact ⟨(), trivial⟩ | exact New.ex _ | exact ne_makes trivial (by simp [Hl.id, Pt.pt]) | exact ⟨(none, 0), fun _ h => by cases h⟩ | exact ⟨(_, 0), .inr (Nat.le_refl _)⟩) (hr : Region.ready .any ops listed = [i] := by kernel_rfl) : G0 P ops N (fuel + 1) listed e ds S :=
  G0.run i hr ho rfl he hne h
theorem G0.dn (hN : ∀ e ds S, Wp P y Q e ds S → e.Ok ∧ ∀ w, S w → N ⟨e.arr, ds⟩ w) (h : Wp P y Q e ds S) (hr : Region.ready .any ops listed = [] := by kernel_rfl) : G0 P ops N 0 listed e ds S := G0.done hr (hN _ _ _ h)
end
end
section
variable {P : Program} {ops : Array Oper} {Q : Exit → Act → World → Prop} {e : En} {ds : List Deferred} {S : WS} {rest : List Oper}
variable {w0 : World} {F : List Nat} {L : List Hl} {d : Option Tmp} {ty t yt elem sT dT : TypeId} {pos : String} {aft : Array Edge} {g : Option (Nat × Bool)} {x y : Operand} {k j : IntKind} {m n : Int}
variable {b ofs o' base sz bytes ln cap : Nat} {cs ys zs vs : List Value} {v : Value} {T : TypeId} {u : Hl → List Hl} {A : Option Addr} {ao : Option Nat}
/-- an index of a slice -/
theorem Yl.xs {i : Nat} (hu : P.underlying t = some (.slice elem) := by exact Und.out) (hs : SizeOf P elem 1 := by infer_instance) (hx : e.ev x = .slice (some ⟨b, ofs, none⟩) ln cap := by rfl) (hi : e.ev y = .int k n := by rfl) (hn : n = i := by rfl) (hlt : i < ln := by omega) (a : AddN ofs i o' := by infer_instance) :
    Yl P S e ⟨d, .indexAddr t x y, ty, pos, aft, g⟩ (pt b o') := by
  have := Yl.indexSlice1 (P := P) (S := S) (d := d) (ty := ty) (pos := pos) (aft := aft) (g := g) hu hs hx hi i hn hlt
  rwa [a.eq] at this
theorem Yl.xsw {i : Nat} (hu : P.underlying t = some (.slice elem) := by exact Und.out) (hs : SizeOf P elem sz := by infer_instance) (hx : e.ev x = .slice (some ⟨b, ofs, none⟩) ln cap := by rfl) (hi : e.ev y = .int k n := by rfl) (hn : n = i := by rfl) (hlt : i < ln := by omega) (a : AddN ofs (i * sz) o' := by infer_instance) :
    Yl P S e ⟨d, .indexAddr t x y, ty, pos, aft, g⟩ (pt b o') := by
  have := Yl.indexSlice (P := P) (S := S) (d := d) (ty := ty) (pos := pos) (aft := aft) (g := g) hu hs hx hi i hn hlt
  rwa [a.eq] at this
/-- an index of an array in memory -/
theorem Yl.xa {N i : Nat} (hu : P.underlying t = some (.array N elem) := by exact Und.out) (hs : SizeOf P elem 1 := by infer_instance) (hx : e.ev x = pt b ofs := by rfl) (hi : e.ev y = .int k n := by rfl) (hn : n = i := by rfl) (hlt : i < N := by omega) (a : AddN ofs i o' := by infer_instance) :
    Yl P S e ⟨d, .indexAddr t x y, ty, pos, aft, g⟩ (pt b o') := by
  have := Yl.indexArr1 (P := P) (S := S) (d := d) (ty := ty) (pos := pos) (aft := aft) (g := g) hu hs hx hi i hn hlt
  rwa [a.eq] at this
theorem Yl.xaw {N i : Nat} (hu : P.underlying t = some (.array N elem) := by exact Und.out) (hs : SizeOf P elem sz := by infer_instance) (hx : e.ev x = pt b ofs := by rfl) (hi : e.ev y = .int k n := by rfl) (hn : n = i := by rfl) (hlt : i < N := by omega) (a : AddN ofs (i * sz) o' := by infer_instance) :
    Yl P S e ⟨d, .indexAddr t x y, ty, pos, aft, g⟩ (pt b o') := by
  have := Yl.indexArr (P := P) (S := S) (d := d) (ty := ty) (pos := pos) (aft := aft) (g := g) hu hs hx hi i hn hlt
  rwa [a.eq] at this
theorem Yl.fa {i off : Nat} (hf : FieldOf P t i off := by infer_instance) (hx : e.ev x = pt b ofs := by rfl) (a : AddN ofs off o' := by infer_instance) : Yl P S e ⟨d, .fieldAddr t x i, ty, pos, aft, g⟩ (pt b o') := by
  have := Yl.fieldAddr (P := P) (S := S) (d := d) (ty := ty) (pos := pos) (aft := aft) (g := g) hf hx
  rwa [a.eq] at this
/-- a part of a slice that is not without room -/
theorem Yl.sliceMid {lo hi : Option Operand} {l h : Nat} (hu : P.underlying t = some (.slice elem) := by exact Und.out) (hs : SizeOf P elem 1 := by infer_instance) (hx : e.ev x = .slice (some ⟨b, ofs, none⟩) ln cap := by rfl) (hl : Bd e lo l) (hh : Bh e ln hi h) (h1 : l ≤ h := by omega) (h2 : h ≤ cap := by omega) (h3 : l < cap := by omega) (a : AddN ofs l o' := by infer_instance) :
    Yl P S e ⟨d, .slice t x lo hi none, ty, pos, aft, g⟩ (.slice (some ⟨b, o', none⟩) (h - l) (cap - l)) := by
  have := Yl.slice (P := P) (S := S) (d := d) (ty := ty) (pos := pos) (aft := aft) (g := g) (mx := none) hu hs hx hl hh .none (.inl rfl) h1 h2 (Nat.le_refl _)
  rw [if_neg (by omega)] at this
  rw [Option.map_some, Addr.add_lit, Nat.mul_one, a.eq] at this
  exact this
theorem Yl.bs {parts : List (Nat × Operand)} {places : List (Nat × Nat)} {r : List Value} (hp : Places P t places := by infer_instance) (hz : ZeroOf P t zs := by infer_instance)
    (hf : fillL (places[·]?) zs (parts.map fun p => (p.1, e.ev p.2)) = some r := by rfl) : Yl P S e ⟨d, .build t parts.toArray, ty, pos, aft, g⟩ (.agg r.toArray) := Yl.buildS' hp hz hf
theorem Yl.ba {N : Nat} {parts : List (Nat × Operand)} {r : List Value} (hu : P.underlying t = some (.array N elem) := by exact Und.out) (hz : ZeroOf P t zs := by infer_instance) (hs : SizeOf P elem sz := by infer_instance)
    (hf : fillL (fun i => some (i * sz, sz)) zs (parts.map fun p => (p.1, e.ev p.2)) = some r := by rfl) : Yl P S e ⟨d, .build t parts.toArray, ty, pos, aft, g⟩ (.agg r.toArray) := Yl.buildArr' hu hz hs hf
theorem Ef.bsl {parts : List (Nat × Operand)} {N : Nat} {r : List Value} (hu : P.underlying t = some (.slice elem) := by exact Und.out) (hel : ElemOf P elem sz bytes zs := by infer_instance)
    (hf : fillL (fun i => some (i * sz, sz)) (List.replicate N zs).flatten (parts.map fun p => (p.1, e.ev p.2)) = some r := by rfl) (hN : N * sz ≤ 16777216 := by decide) (hN0 : N * sz ≠ 0 := by decide) :
    Ef P Q e ds (Tr w0 F L) ⟨d, .buildSlice t N parts.toArray, ty, pos, aft, g⟩ (New w0) (fun b => .slice (some ⟨b, 0, none⟩) N N) (fun b => Tr w0 F (.blk b elem r :: L)) := Ef.buildSlice' hu hel hN hN0 hf
/-- a store of one cell -/
class CelB (b : Nat) (L : List Hl) (cs : outParam (List Value)) (u : outParam (List Value → List Hl)) : Prop where
  ex : ∃ h f v, At h L v ∧ Cells h cs f ∧ h.id = some b ∧ ∀ ys, u ys = v (f ys)
instance CelB.hb {b : Nat} {T : TypeId} {cs : List Value} {l : List Hl} : CelB b (.blk b T cs :: l) cs (fun ys => .blk b T ys :: l) := ⟨_, _, _, .head, .blk, rfl, fun _ => rfl⟩
instance CelB.hr {b : Nat} {T : TypeId} {sz n c : Nat} {cs : List Value} {l : List Hl} : CelB b (.row (some b) T sz n c cs :: l) cs (fun ys => .row (some b) T sz n c ys :: l) := ⟨_, _, _, .head, .row, rfl, fun _ => rfl⟩
instance CelB.tl {b : Nat} {a : Hl} {cs : List Value} {l : List Hl} {u : List Value → List Hl} [h : CelB b l cs u] : CelB b (a :: l) cs (fun ys => a :: u ys) := ⟨by
  obtain ⟨h, f, v, h1, h2, h3, h4⟩ := h.ex
  exact ⟨h, f, _, .tail h1, h2, h3, fun ys => by rw [h4]⟩⟩
theorem Ef.st {u : List Value → List Hl} (hsz : SizeOf P t 1 := by infer_instance) (hx : e.ev x = pt b ofs := by rfl) (hy : e.ev y = v := by rfl) (hc : CelB b L cs u := by infer_instance)
    (hle : ofs < cs.length := by first | decide | omega | (simp; done) | (simp; omega)) (h1 : v.oneCell' = true := by rfl) (hw : Own w0 F b := by first | exact .inr ‹_› | exact .inl ‹_› | exact .inl (by simp)) :
    Ef P Q e ds (Tr w0 F L) ⟨d, .store t x y, ty, pos, aft, g⟩ Top (fun _ => undef) (fun _ => Tr w0 F (u (cs.set ofs v))) := by
  obtain ⟨h, f, v', h2, h3, h4, h5⟩ := hc.ex
  rw [h5]
  exact Ef.store1 hsz hx hy h2 h3 h4 hle h1 hw
/-- .. of an aggregate, somewhere in a block -/
theorem Ef.sta {u : List Value → List Hl} {N : Nat} (hsz : SizeOf P t N := by infer_instance) (hx : e.ev x = pt b ofs := by rfl) (hy : e.ev y = .agg vs.toArray := by rfl) (hc : CelB b L cs u := by infer_instance)
    (hl : vs.length = N := by first | rfl | assumption | (simp; done) | (simp; omega)) (hle : ofs + vs.length ≤ cs.length := by first | decide | omega | (simp; done) | (simp; omega)) (h1 : ∀ v ∈ vs, v.oneCell' = true := by first | exact one_u8 _ | exact List.all_eq_true.1 rfl | (simp; done)) (hw : Own w0 F b := by first | exact .inr ‹_› | exact .inl ‹_› | exact .inl (by simp)) :
    Ef P Q e ds (Tr w0 F L) ⟨d, .store t x y, ty, pos, aft, g⟩ Top (fun _ => undef) (fun _ => Tr w0 F (u (cs.take ofs ++ vs ++ cs.drop (ofs + vs.length)))) := by
  obtain ⟨h, f, v', h2, h3, h4, h5⟩ := hc.ex
  rw [h5]
  exact Ef.storeCells (by rw [hl]; exact hsz) hx hy rfl h2 h3 h4 hle h1 hw
variable {f : FuncId} {fo : Operand} {args : List Operand} {fst cp : List Value} {ts : Array TypeId}
theorem Ef.pc (hv : args.map e.ev = vs) (hc : ∀ w, Tr w0 F L w → Pure P f vs.toArray w v) (hb : Body P f := by infer_instance) :
    Ef P Q e ds (Tr w0 F L) ⟨d, .call { callee := .value (.func f), args := args.toArray, argTypes := ts }, ty, pos, aft, g⟩ Top (fun _ => v) (fun _ => Tr w0 F L) := Ef.pure hb hv hc
theorem Ef.mc {X : Type} {q : X → Prop} {val : X → Value} {N : X → List Hl} (hv : args.map e.ev = vs) (hc : ∀ w, Tr w0 F L w → Makes P f vs.toArray w q val N) (hb : Body P f := by infer_instance) :
    Ef P Q e ds (Tr w0 F L) ⟨d, .call { callee := .value (.func f), args := args.toArray, argTypes := ts }, ty, pos, aft, g⟩ (fun x => q x ∧ NewH w0 (N x)) val (fun x => Tr w0 F (N x ++ L)) := Ef.makes hb hv hc
theorem Ef.tc {X : Type} {q : X → Prop} {val : X → Value} {h : Hl} {h' : X → Hl} {N : X → List Hl} (hv : args.map e.ev = vs) (hat : At h L u) (hc : ∀ w, Tr w0 F L w → Turns P f vs.toArray w b q val h' N) (hid : h.id = some b := by rfl) (how : Own w0 F b := by first | exact .inr ‹_› | exact .inl ‹_› | exact .inl (by simp)) (hb : Body P f := by infer_instance) :
    Ef P Q e ds (Tr w0 F L) ⟨d, .call { callee := .value (.func f), args := args.toArray, argTypes := ts }, ty, pos, aft, g⟩ (fun x => q x ∧ NewH w0 (N x)) val (fun x => Tr w0 F (N x ++ u (h' x))) := Ef.turns hb hv hat hid how hc
end
end Go.Eng
namespace Go.Eng
section
variable {P : Program} {ops : Array Oper} {Q K : Exit → Act → World → Prop} {e : En} {ds : List Deferred} {S : WS} {rest : List Oper}
variable {w0 : World} {F : List Nat} {L L0 : List Hl} {d : Option Tmp} {ty t yt elem sT dT : TypeId} {pos : String} {aft : Array Edge} {g : Option (Nat × Bool)} {x y : Operand} {k j : IntKind} {m n : Int}
variable {b ofs o' base sz bytes ln cap : Nat} {cs ys zs vs : List Value} {v : Value} {T : TypeId} {u : Hl → List Hl} {A : Option Addr} {ao : Option Nat} {o : Op} {dd : Nat}
/-- A field: its offset and its type. -/
class FldV (P : Program) (t : TypeId) (i : Nat) (off : outParam Nat) (ft : outParam TypeId) : Prop where
  ex : ∃ fs f, P.underlying t = some (.struct fs) ∧ fs[i]? = some f ∧ f.offset = off ∧ f.type = ft
theorem Yl.fv {i off : Nat} {ft : TypeId} (hf : FldV P t i off ft := by infer_instance) (hT : NoAgg P ft := by infer_instance) (hx : e.ev x = .agg cs.toArray := by rfl) (hv : cs[off]? = some v := by first | rfl | exact getmap (by omega) | assumption) :
    Yl P S e ⟨d, .field t x i, ty, pos, aft, g⟩ v := by
  obtain ⟨fs, f, h1, h2, h3, rfl⟩ := hf
  exact Yl.field1 h1 h2 h3 hT hx hv
theorem Yl.fA {i off : Nat} {ft : TypeId} (hf : FldV P t i off ft := by infer_instance) (hT : AggOf P ft sz := by infer_instance) (hx : e.ev x = .agg cs.toArray := by rfl) (hv : (cs.drop off).take sz = vs := by rfl) :
    Yl P S e ⟨d, .field t x i, ty, pos, aft, g⟩ (.agg vs.toArray) := by
  obtain ⟨fs, f, h1, h2, h3, rfl⟩ := hf
  exact Yl.fieldA h1 h2 h3 hT hx hv
theorem Yl.xv {N i : Nat} (hu : P.underlying t = some (.array N elem) := by exact Und.out) (hT : NoAgg P elem := by infer_instance) (hs : SizeOf P elem 1 := by infer_instance) (hx : e.ev x = .agg cs.toArray := by rfl) (hi : e.ev y = .int k n := by rfl) (hn : n = i := by rfl) (hlt : i < N := by omega) (hv : cs[i]? = some v := by first | rfl | exact getmap (by omega) | assumption) :
    Yl P S e ⟨d, .index t x y, ty, pos, aft, g⟩ v := Yl.indexV1 hu hT hs hx hi i hn hlt hv
theorem Ops.vp {p : Prop} {_ : Decidable p} (hy : Yl P S e ⟨some dd, o, ty, pos, aft, none⟩ (.bool (decide p))) (ht : p → Ops P ops Q rest (.upd dd (.bool true) e) ds S) (hf : ¬p → Ops P ops Q rest (.upd dd (.bool false) e) ds S) :
    Ops P ops Q (⟨some dd, o, ty, pos, aft, none⟩ :: rest) e ds S := Ops.vB hy (fun h => ht (of_decide_eq_true h)) (fun h => hf (of_decide_eq_false h))
theorem Ops.vn {p : Prop} {_ : Decidable p} (hy : Yl P S e ⟨some dd, o, ty, pos, aft, none⟩ (.bool (!decide p))) (ht : ¬p → Ops P ops Q rest (.upd dd (.bool true) e) ds S) (hf : p → Ops P ops Q rest (.upd dd (.bool false) e) ds S) :
    Ops P ops Q (⟨some dd, o, ty, pos, aft, none⟩ :: rest) e ds S := Ops.vB hy (fun h => ht (by simpa using h)) (fun h => hf (by simpa using h))
section
variable {kd : Nat → Nat} {N : Act → World → Prop} {S0 : WS} {fuel : Nat} {listed : Array Bool}
theorem G.vp {p : Prop} {_ : Decidable p} (i : Nat) (ho : ops[i]? = some ⟨some dd, o, ty, pos, aft, none⟩) (hy : Yl P (fun _ => True) e ⟨some dd, o, ty, pos, aft, none⟩ (.bool (decide p)))
    (ht : p → G P ops kd N S0 fuel (listed.setIfInBounds i true) (.upd dd (.bool true) e) ds S) (hf : ¬p → G P ops kd N S0 fuel (listed.setIfInBounds i true) (.upd dd (.bool false) e) ds S) (hok : takeOkP ops kd listed i = true := by kernel_rfl) : G P ops kd N S0 (fuel + 1) listed e ds S :=
  G.vB i hok ho hy (fun h => ht (of_decide_eq_true h)) (fun h => hf (of_decide_eq_false h))
theorem G.vn {p : Prop} {_ : Decidable p} (i : Nat) (ho : ops[i]? = some ⟨some dd, o, ty, pos, aft, none⟩) (hy : Yl P (fun _ => True) e ⟨some dd, o, ty, pos, aft, none⟩ (.bool (!decide p)))
    (ht : ¬p → G P ops kd N S0 fuel (listed.setIfInBounds i true) (.upd dd (.bool true) e) ds S) (hf : p → G P ops kd N S0 fuel (listed.setIfInBounds i true) (.upd dd (.bool false) e) ds S) (hok : takeOkP ops kd listed i = true := by kernel_rfl) : G P ops kd N S0 (fuel + 1) listed e ds S :=
  G.vB i hok ho hy (fun h => ht (by simpa using h)) (fun h => hf (by simpa using h))
/-- .. that keeps what is held -/
theorem G.rk {X : Type} {p : X → Prop} {val : X → Value} {L' : X → List Hl} (i : Nat) (ho : ops[i]? = some ⟨some dd, o, ty, pos, aft, none⟩) (he : Ef P (Qn N) e ds (Tr w0 F L) ⟨some dd, o, ty, pos, aft, none⟩ p val (fun x => Tr w0 F (L' x)))
    (h : ∀ x, p x → G P ops kd N (Tr w0 F L0) fuel (listed.setIfInBounds i true) (.upd dd (val x) e) ds (Tr w0 F (L' x)))
    (hne : ∃ x, p x := by first | exact ⟨(), trivial⟩ | exact New.ex _ | exact ne_makes trivial (by simp [Hl.id, Pt.pt]) | exact ⟨(none, 0), fun _ h => by cases h⟩ | exact ⟨(_, 0), .inr (Nat.le_refl _)⟩)
    (hs : L0.Sublist L := by repeat (first | exact List.Sublist.refl _ | exact List.nil_sublist _ | apply List.Sublist.cons_cons | apply List.Sublist.cons))
    (hsub : ∀ x, p x → L0.Sublist (L' x) := by exact fun _ _ => by (repeat (first | exact List.Sublist.refl _ | exact List.nil_sublist _ | apply List.Sublist.cons_cons | apply List.Sublist.cons)))
    (hr : Region.ready .any ops listed = [i] := by kernel_rfl) (hk : kd i = 0 := by rfl) : G P ops kd N (Tr w0 F L0) (fuel + 1) listed e ds (Tr w0 F L) :=
  G.run i hr hk ho rfl he hne (fun _ h => h.sub hs) (fun x hx _ h => h.sub (hsub x hx)) (fun _ => Tr w0 F L0) (fun _ _ _ h => h) h
theorem G.rS {X : Type} {p : X → Prop} {val : X → Value} {L' : X → List Hl} (i : Nat) (L1 : X → List Hl) (ho : ops[i]? = some ⟨some dd, o, ty, pos, aft, none⟩) (he : Ef P (Qn N) e ds (Tr w0 F L) ⟨some dd, o, ty, pos, aft, none⟩ p val (fun x => Tr w0 F (L' x)))
    (h : ∀ x, p x → G P ops kd N (Tr w0 F (L1 x)) fuel (listed.setIfInBounds i true) (.upd dd (val x) e) ds (Tr w0 F (L' x)))
    (hne : ∃ x, p x := by first | exact ⟨(), trivial⟩ | exact New.ex _ | exact ne_makes trivial (by simp [Hl.id, Pt.pt]) | exact ⟨(none, 0), fun _ h => by cases h⟩ | exact ⟨(_, 0), .inr (Nat.le_refl _)⟩)
    (hs : L0.Sublist L := by repeat (first | exact List.Sublist.refl _ | exact List.nil_sublist _ | apply List.Sublist.cons_cons | apply List.Sublist.cons))
    (hsub : ∀ x, p x → L0.Sublist (L' x) := by exact fun _ _ => by (repeat (first | exact List.Sublist.refl _ | exact List.nil_sublist _ | apply List.Sublist.cons_cons | apply List.Sublist.cons)))
    (hsub1 : ∀ x, p x → L0.Sublist (L1 x) := by exact fun _ _ => by (repeat (first | exact List.Sublist.refl _ | exact List.nil_sublist _ | apply List.Sublist.cons_cons | apply List.Sublist.cons)))
    (hr : Region.ready .any ops listed = [i] := by kernel_rfl) (hk : kd i = 0 := by rfl) : G P ops kd N (Tr w0 F L0) (fuel + 1) listed e ds (Tr w0 F L) :=
  G.run i hr hk ho rfl he hne (fun _ h => h.sub hs) (fun x hx _ h => h.sub (hsub x hx)) (fun x => Tr w0 F (L1 x)) (fun x hx _ h => h.sub (hsub1 x hx)) h
end
theorem Tr.sb {w : World} {L' : List Hl} (h : Tr w0 F L w) (hs : L'.Sublist L := by repeat (first | exact List.Sublist.refl _ | exact List.nil_sublist _ | apply List.Sublist.cons_cons | apply List.Sublist.cons)) : Tr w0 F L' w := h.sub hs
/-- Into a function that finds nothing of its own. -/
theorem en0 {f : FuncId} {fn : Func} {c : Code} {args : List Value} {w : World} {R : Ending → World → Prop} (hf : P.funcs[f]? = some fn)
    (h : ∀ K : Exit → Act → World → Prop, (∀ e S v, e.Ok → Res P fn e S v → (∀ w, S w → R (.returned v) w) → Fin K .ret e [] S ∧ Fin K .normal e [] S) → Wp P c K (.base fn.ntmps args) [] (Tr w [] [])) (hb : fn.body = some c := by rfl) : Calls P f args.toArray w R :=
  Calls.enter hf hb (Tr.refl w []) h
theorem Res.two' {fn : Func} {t u : Tmp} {v x : Value} (hok : e.Ok) (hr : fn.results = #[.tmp t, .tmp u]) (hv : e.get t = v) (hx : e.get u = x) : Res P fn e S (.tuple #[v, x]) := Res.two hok hr hv hx
end
end Go.Eng
namespace Go.Eng
section
variable {P : Program} {t e k ft : TypeId} {z v : Value} {zs : List Value} {sz n b off i : Nat} {ik : IntKind}
theorem ty_parts (h : (P.info? t).map (fun i => (i.zero, i.size, i.bytes)) = some (some z, sz, b)) : ∃ i, P.info? t = some i ∧ i.zero = some z ∧ i.size = sz ∧ i.bytes = b := by
  cases hi : P.info? t with
  | none => rw [hi] at h; cases h
  | some i =>
    rw [hi] at h
    simp only [Option.map_some, Option.some.injEq, Prod.mk.injEq] at h
    exact ⟨i, rfl, h.1, h.2.1, h.2.2⟩
theorem elA (h : (P.info? t).map (fun i => (i.zero, i.size, i.bytes)) = some (some (.agg zs.toArray), sz, b)) (hl : zs.length = sz := by first | (simp only [List.length_map, List.length_replicate]; done) | rfl | simp) : ElemOf P t sz b zs := by
  obtain ⟨i, h1, h2, h3, h4⟩ := ty_parts h
  exact ⟨i, _, h1, h2, rfl, h3, h4, hl⟩
theorem el1 (h : (P.info? t).map (fun i => (i.zero, i.size, i.bytes)) = some (some v, 1, b)) (hv : v.cells = #[v] := by rfl) : ElemOf P t 1 b [v] := by
  obtain ⟨i, h1, h2, h3, h4⟩ := ty_parts h
  exact ⟨i, _, h1, h2, by rw [hv], h3, h4, rfl⟩
instance ElemOf.size' [h : ElemOf P t sz b zs] : SizeOf P t sz := by obtain ⟨i, _, h1, _, _, h2, _⟩ := h; exact ⟨i, h1, h2⟩
instance ElemOf.zero' [h : ElemOf P t sz b zs] : ZeroOf P t zs := by obtain ⟨i, z, h1, h2, h3, _⟩ := h; exact ⟨i, z, h1, h2, h3⟩
instance FldV.fo [h : FldV P t i off ft] [s : SizeOf P ft sz] [q : NeZero sz] : FieldOf P t i off := by
  obtain ⟨fs, f, h1, h2, h3, rfl⟩ := h
  exact ⟨fs, f, h1, h2, h3, sz, s, q.out⟩
theorem aggS {fs : Array Field} (hu : P.underlying t = some (.struct fs)) [s : SizeOf P t sz] : AggOf P t sz := ⟨⟨_, hu, .inl ⟨_, rfl⟩⟩, s.ex⟩
instance Und.agg [u : Und P t (.array n e)] [s : SizeOf P t sz] : AggOf P t sz := ⟨⟨_, u.out, .inr ⟨_, _, rfl⟩⟩, s.ex⟩
instance Und.naI [u : Und P t (.int ik)] : NoAgg P t := ⟨⟨_, u.out, fun _ h => (by cases h), fun _ _ h => (by cases h)⟩⟩
instance Und.naB [u : Und P t .bool] : NoAgg P t := ⟨⟨_, u.out, fun _ h => (by cases h), fun _ _ h => (by cases h)⟩⟩
instance Und.naT [u : Und P t .string] : NoAgg P t := ⟨⟨_, u.out, fun _ h => (by cases h), fun _ _ h => (by cases h)⟩⟩
instance Und.naS [u : Und P t (.slice e)] : NoAgg P t := ⟨⟨_, u.out, fun _ h => (by cases h), fun _ _ h => (by cases h)⟩⟩
instance Und.naP [u : Und P t (.pointer e)] : NoAgg P t := ⟨⟨_, u.out, fun _ h => (by cases h), fun _ _ h => (by cases h)⟩⟩
instance Und.naM [u : Und P t (.map k e)] : NoAgg P t := ⟨⟨_, u.out, fun _ h => (by cases h), fun _ _ h => (by cases h)⟩⟩
end
end Go.Eng
namespace Go.Eng
section
variable {P : Program} {Q : Exit → Act → World → Prop} {e : En} {ds : List Deferred} {S : WS}
variable {w0 : World} {F : List Nat} {L : List Hl} {d : Option Tmp} {ty t elem : TypeId} {pos : String} {aft : Array Edge} {g : Option (Nat × Bool)} {x y : Operand} {k j : IntKind}
variable {b ofs sz bytes ln cap n m c : Nat} {cs ys zs xs : List Value} {u : Hl → List Hl} {A : Option Addr} {ao : Option Nat} {tl : List TypeId}
theorem Yl.len1 (hu : P.underlying t = some (.slice elem) := by exact Und.out) (hx : e.ev x = .slice A ln cap := by rfl) :
    Yl P S e ⟨d, .call { callee := .builtin .len, args := [x].toArray, argTypes := (t :: tl).toArray }, ty, pos, aft, g⟩ (iv ln) := Yl.len rfl hu hx
theorem Yl.len1A {N : Nat} (hu : P.underlying t = some (.array N elem) := by exact Und.out) :
    Yl P S e ⟨d, .call { callee := .builtin .len, args := [x].toArray, argTypes := (t :: tl).toArray }, ty, pos, aft, g⟩ (iv N) := Yl.lenArr rfl hu
theorem Yl.len1S {s : ByteArray} (hu : P.underlying t = some .string := by exact Und.out) (hx : e.ev x = .string s := by rfl) :
    Yl P S e ⟨d, .call { callee := .builtin .len, args := [x].toArray, argTypes := (t :: tl).toArray }, ty, pos, aft, g⟩ (iv s.size) := Yl.lenStr rfl hu hx
theorem Yl.cap1 (hu : P.underlying t = some (.slice elem) := by exact Und.out) (hx : e.ev x = .slice A ln cap := by rfl) :
    Yl P S e ⟨d, .call { callee := .builtin .cap, args := [x].toArray, argTypes := (t :: tl).toArray }, ty, pos, aft, g⟩ (iv cap) := Yl.capS rfl hu hx
/-- 'append': where it comes to lie is not told -/
theorem Ef.app (hx : e.ev x = sl ao n c := by rfl) (hy : e.ev y = .slice A m cap := by rfl) (hu : P.underlying t = some (.slice elem) := by exact Und.out) (hel : ElemOf P elem sz bytes zs := by infer_instance) (hat : At (.row ao elem sz n c xs) L u := by exact AtR.ha) (hr : RdS w0 F L A ys := by first | exact SeesS.rd | assumption) (hl : ys.length = m * sz := by first | rfl | (simp; done) | (simp; omega) | omega)
    (h1 : ∀ u ∈ ys, u.oneCell' = true := by first | exact one_u8 _ | exact List.all_eq_true.1 rfl | (simp; done)) (hsz : 0 < sz := by decide) (hb : (n + m) * bytes ≤ 140737488355328 := by omega) (h63 : n + m ≤ 9223372036854775807 := by omega) (hw : ∀ k, ao = some k → Own w0 F k := by first | exact fun j hj => .inr (‹∀ j, _› j hj) | (intro j hj; cases hj; first | exact .inr ‹_› | exact .inl ‹_› | exact .inl (by simp))) :
    Ef P Q e ds (Tr w0 F L) ⟨d, .call { callee := .builtin .append, args := [x, y].toArray, argTypes := [t, t].toArray }, ty, pos, aft, g⟩ (fun p : Option Nat × Nat => ∀ k, p.1 = some k → Own w0 F k) (fun p => sl p.1 (n + m) p.2)
      (fun p => Tr w0 F (u (.row p.1 elem sz (n + m) p.2 (xs ++ ys)))) := Ef.append hu rfl hel hx hat hy hr hl h1 hsz hb h63 hw
/-- .. of something -/
theorem Ef.appS (hx : e.ev x = sl ao n c := by rfl) (hy : e.ev y = .slice A m cap := by rfl) (hu : P.underlying t = some (.slice elem) := by exact Und.out) (hel : ElemOf P elem sz bytes zs := by infer_instance) (hat : At (.row ao elem sz n c xs) L u := by exact AtR.ha) (hr : RdS w0 F L A ys := by first | exact SeesS.rd | assumption) (hl : ys.length = m * sz := by first | rfl | (simp; done) | (simp; omega) | omega)
    (h1 : ∀ u ∈ ys, u.oneCell' = true := by first | exact one_u8 _ | exact List.all_eq_true.1 rfl | (simp; done)) (hsz : 0 < sz := by decide) (hb : (n + m) * bytes ≤ 140737488355328 := by omega) (h63 : n + m ≤ 9223372036854775807 := by omega) (h0 : 0 < n + m := by omega) (hw : ∀ k, ao = some k → Own w0 F k := by first | exact fun j hj => .inr (‹∀ j, _› j hj) | (intro j hj; cases hj; first | exact .inr ‹_› | exact .inl ‹_› | exact .inl (by simp))) :
    Ef P Q e ds (Tr w0 F L) ⟨d, .call { callee := .builtin .append, args := [x, y].toArray, argTypes := [t, t].toArray }, ty, pos, aft, g⟩ (fun p : Nat × Nat => Own w0 F p.1) (fun p => sl (some p.1) (n + m) p.2)
      (fun p => Tr w0 F (u (.row (some p.1) elem sz (n + m) p.2 (xs ++ ys)))) := Ef.appendS hu rfl hel hx hat hy hr hl h1 hsz hb h63 h0 hw
/-- 'copy' into a block -/
theorem Ef.cpy {v : List Value → List Hl} {dl dc sln scap : Nat} (hx : e.ev x = .slice (some ⟨b, ofs, none⟩) dl dc := by rfl) (hy : e.ev y = .slice A sln scap := by rfl) (hu : P.underlying t = some (.slice elem) := by exact Und.out) (hs : SizeOf P elem 1 := by infer_instance) (hc : CelB b L cs v := by infer_instance)
    (hr : RdS w0 F L A ys := by first | exact SeesS.rd | assumption) (hl : ys.length = min sln dl := by first | rfl | (simp; done) | (simp; omega) | omega) (h1 : ∀ u ∈ ys, u.oneCell' = true := by first | exact one_u8 _ | exact List.all_eq_true.1 rfl | (simp; done)) (hle : ofs + ys.length ≤ cs.length := by first | (simp; done) | (simp; omega) | omega) (hw : Own w0 F b := by first | exact .inr ‹_› | exact .inl ‹_› | exact .inl (by simp)) :
    Ef P Q e ds (Tr w0 F L) ⟨d, .call { callee := .builtin .copy, args := [x, y].toArray, argTypes := (t :: tl).toArray }, ty, pos, aft, g⟩ Top (fun _ => iv (min sln dl : Nat)) (fun _ => Tr w0 F (v (cs.take ofs ++ ys ++ cs.drop (ofs + ys.length)))) := by
  obtain ⟨h, f, v', h2, h3, h4, h5⟩ := hc.ex
  rw [h5]
  exact Ef.copy hu rfl hs hx hy hr hl h1 h2 h3 h4 hle hw
end
end Go.Eng
namespace Go.Eng
section
variable {P : Program} {e : En} {S : WS} {w0 : World} {F : List Nat} {L : List Hl} {cs : List Value} {v x y : Value} {b : Nat} {T : TypeId} {u : Hl → List Hl}
theorem Res.o {fn : Func} {t : Tmp} (hok : e.Ok) (hr : fn.results = #[.tmp t] := by rfl) (hv : e.get t = v := by rfl) : Res P fn e S v := Res.one hok hr hv
theorem Res.t {fn : Func} {t u : Tmp} (hok : e.Ok) (hr : fn.results = #[.tmp t, .tmp u] := by rfl) (hv : e.get t = v := by rfl) (hx : e.get u = x := by rfl) : Res P fn e S (.tuple #[v, x]) := Res.two hok hr hv hx
theorem Res.h {fn : Func} {t u z : Tmp} (hok : e.Ok) (hr : fn.results = #[.tmp t, .tmp u, .tmp z] := by rfl) (hv : e.get t = v := by rfl) (hx : e.get u = x := by rfl) (hy : e.get z = y := by rfl) : Res P fn e S (.tuple #[v, x, y]) := Res.three hok hr hv hx hy
theorem Res.c {N : Nat} {fn : Func} {t : Tmp} {ty : TypeId} (hok : e.Ok) (hr : fn.results = #[.cell t ty] := by rfl) (hv : e.get t = pt b 0 := by rfl) (ha : At (.blk b T cs) L u := by exact AtB.ha) (hT : AggOf P ty N := by infer_instance) (hl : cs.length = N := by first | rfl | (simp; done)) :
    Res P fn e (Tr w0 F L) (.agg cs.toArray) := Res.cellM hok hr hv ha.mem hT hl
theorem Res.d {N : Nat} {fn : Func} {t1 t2 : Tmp} {ty : TypeId} (hok : e.Ok) (hr : fn.results = #[.cell t1 ty, .tmp t2] := by rfl) (hv : e.get t1 = pt b 0 := by rfl) (ha : At (.blk b T cs) L u := by exact AtB.ha) (hT : AggOf P ty N := by infer_instance) (hl : cs.length = N := by first | rfl | (simp; done)) (hx : e.get t2 = v := by rfl) :
    Res P fn e (Tr w0 F L) (.tuple #[.agg cs.toArray, v]) := Res.cellTmp hok hr hv ha.mem hT hl hx
end
end Go.Eng

/- Contracts over what is owned; known outcomes. -/
open Go.RowKit
namespace Go.Eng
def ids (L : List Hl) : List Nat := L.filterMap Hl.id
theorem mem_ids {L : List Hl} {k : Nat} : k ∈ ids L ↔ ∃ h ∈ L, h.id = some k := by simp [ids]
theorem ids_append (A B : List Hl) : ids (A ++ B) = ids A ++ ids B := by simp [ids]
/-- What L says holds, and no block is told of twice. -/
def Has (w : World) (L : List Hl) : Prop := (∀ h ∈ L, h.holds w) ∧ L.Pairwise Hl.apart
/-- The call turns what L tells into what N x tells; new memory besides. -/
def Upd (P : Program) (f : FuncId) (args : Array Value) (w : World) (L : List Hl) {X : Type} (q : X → Prop) (val : X → Value) (N : X → List Hl) : Prop :=
  Calls P f args w fun en w' => ∃ x, q x ∧ (∀ k ∈ ids (N x), k ∈ ids L ∨ w.heap.size ≤ k) ∧ en = .returned (val x) ∧ Tr w (ids L) (N x) w'
section
variable {P : Program} {Q : Exit → Act → World → Prop} {e : En} {ds : List Deferred} {S : WS}
variable {w0 w : World} {F : List Nat} {L : List Hl} {d : Option Tmp} {ty t yt : TypeId} {pos : String} {aft : Array Edge} {g : Option (Nat × Bool)} {x y : Operand}
variable {f : FuncId} {fo : Operand} {args : List Operand} {fst cp vs : List Value} {ts : Array TypeId}
theorem Tr.has (h : Tr w0 F L w) : Has w L := ⟨h.sat, h.apart⟩
theorem Has.sub {L' : List Hl} (h : Has w L) (hs : L'.Sublist L) : Has w L' := ⟨fun x hx => h.1 x (hs.subset hx), h.2.sublist hs⟩
theorem Has.perm {L' : List Hl} (h : Has w L) (hp : L.Perm L') : Has w L' := ⟨fun x hx => h.1 x (hp.mem_iff.2 hx), (List.Perm.pairwise_iff (fun h => Hl.apart_symm h) hp).1 h.2⟩
theorem Has.left {A B : List Hl} (h : Has w (A ++ B)) : Has w A := h.sub (List.sublist_append_left _ _)
theorem Tr.hasP {A R : List Hl} (h : Tr w0 F L w) (hp : L.Perm (A ++ R)) : Has w A := (h.has.perm hp).left
theorem Has.tr (h : Has w L) : Tr w (ids L) L w := Tr.start _ h.1 h.2
theorem Has.keep {w' : World} (h : Has w L) (hT : Tr w [] [] w') : Has w' L := ⟨fun x hx => Hl.keep (h.1 x hx) fun k hk => hT.keep k (Hl.lt (h.1 x hx) hk) (by simp), h.2⟩
theorem upd_mono {X : Type} {q : X → Prop} {val : X → Value} {N : X → List Hl} {Hin R : List Hl} (hw : Tr w0 F L w) (hp : L.Perm (Hin ++ R)) (hD : ∀ k ∈ ids Hin, Own w0 F k) {as : Array Value} (hc : Upd P f as w Hin q val N) :
    Calls P f as w (fun en w' => ∃ x, (q x ∧ ∀ k ∈ ids (N x), Own w0 F k) ∧ en = .returned (val x) ∧ Tr w0 F (N x ++ R) w') :=
  hc.mono fun _ _ ⟨x, h1, h2, h3, h4⟩ => by
    have hw' := hw.perm hp
    refine ⟨x, ⟨h1, fun k hk => (h2 k hk).elim (hD k) fun h => .inr (Nat.le_trans hw.size h)⟩, h3, ?_⟩
    refine hw'.step h4 hD (List.sublist_append_right _ _) ?_ (fun y hy k hk => h2 k (mem_ids.2 ⟨y, hy, hk⟩))
    intro y hy k hk hkd
    obtain ⟨h, hh, hid⟩ := mem_ids.1 hkd
    exact (List.pairwise_append.1 hw'.apart).2.2 h hh y hy k hid hk
/-- A call that turns what it is given. R: what it does not see. -/
theorem Ef.uc {X : Type} {q : X → Prop} {val : X → Value} {N : X → List Hl} {Hin : List Hl} (R : List Hl) (hv : args.map e.ev = vs) (hc : ∀ w, Tr w0 F L w → Upd P f vs.toArray w Hin q val N) (hp : L.Perm (Hin ++ R) := by first | exact List.Perm.refl _ | (rw [List.append_nil]; done) | (simp; done)) (hD : ∀ k ∈ ids Hin, Own w0 F k) (hb : Body P f := by infer_instance) :
    Ef P Q e ds (Tr w0 F L) ⟨d, .call { callee := .value (.func f), args := args.toArray, argTypes := ts }, ty, pos, aft, g⟩ (fun x => q x ∧ ∀ k ∈ ids (N x), Own w0 F k) val (fun x => Tr w0 F (N x ++ R)) :=
  Ef.call hb hv fun w hw => upd_mono hw hp hD (hc w hw)
theorem Ef.ucV {X : Type} {q : X → Prop} {val : X → Value} {N : X → List Hl} {Hin : List Hl} (R : List Hl) (hf : e.ev fo = .func (.func f) fst.toArray cp.toArray) (hv : fst ++ args.map e.ev ++ cp = vs) (hc : ∀ w, Tr w0 F L w → Upd P f vs.toArray w Hin q val N) (hp : L.Perm (Hin ++ R) := by first | exact List.Perm.refl _ | (rw [List.append_nil]; done) | (simp; done)) (hD : ∀ k ∈ ids Hin, Own w0 F k) (hb : Body P f := by infer_instance) :
    Ef P Q e ds (Tr w0 F L) ⟨d, .call { callee := .value fo, args := args.toArray, argTypes := ts }, ty, pos, aft, g⟩ (fun x => q x ∧ ∀ k ∈ ids (N x), Own w0 F k) val (fun x => Tr w0 F (N x ++ R)) :=
  Ef.callV hb hf hv fun w hw => upd_mono hw hp hD (hc w hw)
/-- Into a function that owns L. -/
theorem enU {fn : Func} {c : Code} {as : List Value} {R : Ending → World → Prop} (hL : Has w L) (hf : P.funcs[f]? = some fn)
    (h : ∀ K : Exit → Act → World → Prop, (∀ e S v, e.Ok → Res P fn e S v → (∀ w, S w → R (.returned v) w) → Fin K .ret e [] S ∧ Fin K .normal e [] S) → Wp P c K (.base fn.ntmps as) [] (Tr w (ids L) L)) (hb : fn.body = some c := by rfl) : Calls P f as.toArray w R :=
  Calls.enter hf hb hL.tr h
/-- The order of what is known does not matter. -/
theorem Wp.pm {c : Code} (L' : List Hl) (h : Wp P c Q e ds (Tr w0 F L')) (hp : L.Perm L') : Wp P c Q e ds (Tr w0 F L) := h.mono fun _ hw => hw.perm hp
theorem Ops.pm {ops : Array Oper} {l : List Oper} (L' : List Hl) (h : Ops P ops Q l e ds (Tr w0 F L')) (hp : L.Perm L') : Ops P ops Q l e ds (Tr w0 F L) := h.mono fun _ hw => hw.perm hp
theorem Wp.sb {c : Code} (L' : List Hl) (h : Wp P c Q e ds (Tr w0 F L')) (hs : L'.Sublist L := by repeat (first | exact List.Sublist.refl _ | exact List.nil_sublist _ | apply List.Sublist.cons_cons | apply List.Sublist.cons)) : Wp P c Q e ds (Tr w0 F L) := h.mono fun _ hw => hw.sub hs
theorem Wp.cg {c : Code} (L' : List Hl) (h : Wp P c Q e ds (Tr w0 F L')) (hs : L = L') : Wp P c Q e ds (Tr w0 F L) := by rw [hs]; exact h
/-! known outcomes -/
theorem Yl.mvT {p : Prop} {_ : Decidable p} (h : e.ev x = .bool (decide p) := by rfl) (hp : p) : Yl P S e ⟨d, .move x, ty, pos, aft, g⟩ (.bool true) := by
  have := Yl.mvB (P := P) (S := S) (d := d) (ty := ty) (pos := pos) (aft := aft) (g := g) h
  rwa [decide_eq_true hp] at this
theorem Yl.mvN {p : Prop} {_ : Decidable p} (h : e.ev x = .bool (decide p) := by rfl) (hp : ¬p) : Yl P S e ⟨d, .move x, ty, pos, aft, g⟩ (.bool false) := by
  have := Yl.mvB (P := P) (S := S) (d := d) (ty := ty) (pos := pos) (aft := aft) (g := g) h
  rwa [decide_eq_false hp] at this
theorem Yl.mvT' {c : Bool} (h : e.ev x = .bool c := by rfl) (hp : c = true) : Yl P S e ⟨d, .move x, ty, pos, aft, g⟩ (.bool true) := by
  have := Yl.mvB (P := P) (S := S) (d := d) (ty := ty) (pos := pos) (aft := aft) (g := g) h
  rwa [hp] at this
theorem Yl.mvN' {c : Bool} (h : e.ev x = .bool c := by rfl) (hp : c = false) : Yl P S e ⟨d, .move x, ty, pos, aft, g⟩ (.bool false) := by
  have := Yl.mvB (P := P) (S := S) (d := d) (ty := ty) (pos := pos) (aft := aft) (g := g) h
  rwa [hp] at this
theorem Wp.cT {c : Operand} {a b : Code} {p : Prop} {_ : Decidable p} (hc : e.ev c = .bool (decide p) := by rfl) (hp : p) (h : Wp P a Q e ds S) : Wp P (.cond c a b) Q e ds S := Wp.cond _ hc (fun _ => h) (fun h => absurd hp (of_decide_eq_false h))
theorem Wp.cF {c : Operand} {a b : Code} {p : Prop} {_ : Decidable p} (hc : e.ev c = .bool (decide p) := by rfl) (hp : ¬p) (h : Wp P b Q e ds S) : Wp P (.cond c a b) Q e ds S := Wp.cond _ hc (fun h => absurd (of_decide_eq_true h) hp) (fun _ => h)
theorem Wp.cT' {c : Operand} {a b : Code} {q : Bool} (hc : e.ev c = .bool q := by rfl) (hp : q = true) (h : Wp P a Q e ds S) : Wp P (.cond c a b) Q e ds S := Wp.cond _ hc (fun _ => h) (fun h => by rw [hp] at h; cases h)
theorem Wp.cF' {c : Operand} {a b : Code} {q : Bool} (hc : e.ev c = .bool q := by rfl) (hp : q = false) (h : Wp P b Q e ds S) : Wp P (.cond c a b) Q e ds S := Wp.cond _ hc (fun h => by rw [hp] at h; cases h) (fun _ => h)
end
end Go.Eng
namespace Go.Eng
section
variable {P : Program} {ops : Array Oper} {Q : Exit → Act → World → Prop} {e : En} {ds : List Deferred} {S : WS} {rest : List Oper} {o : Op} {ty : TypeId} {pos : String} {aft : Array Edge} {j dd dn : Nat} {b c : Bool} {oj : Oper}
theorem Ops.gvB {r : Bool} (hy : Yl P S e ⟨some dn, o, ty, pos, aft, some (j, b)⟩ (.bool r)) (ht : r = true → Ops P ops Q rest (.upd dn (.bool true) e) ds S) (hf : r = false → Ops P ops Q rest (.upd dn (.bool false) e) ds S)
    (hj : ops[j]? = some oj := by rfl) (hd : oj.dst = some dd := by rfl) (hv : e.get dd = .bool c := by rfl) (hc : c = b := by rfl) : Ops P ops Q (⟨some dn, o, ty, pos, aft, some (j, b)⟩ :: rest) e ds S := by
  cases r with
  | true => exact Ops.gy hy (ht rfl) hj hd hv hc
  | false => exact Ops.gy hy (hf rfl) hj hd hv hc
theorem Ops.gvp {p : Prop} {_ : Decidable p} (hy : Yl P S e ⟨some dn, o, ty, pos, aft, some (j, b)⟩ (.bool (decide p))) (ht : p → Ops P ops Q rest (.upd dn (.bool true) e) ds S) (hf : ¬p → Ops P ops Q rest (.upd dn (.bool false) e) ds S)
    (hj : ops[j]? = some oj := by rfl) (hd : oj.dst = some dd := by rfl) (hv : e.get dd = .bool c := by rfl) (hc : c = b := by rfl) : Ops P ops Q (⟨some dn, o, ty, pos, aft, some (j, b)⟩ :: rest) e ds S :=
  Ops.gvB hy (fun h => ht (of_decide_eq_true h)) (fun h => hf (of_decide_eq_false h)) hj hd hv hc
theorem Ops.gvn {p : Prop} {_ : Decidable p} (hy : Yl P S e ⟨some dn, o, ty, pos, aft, some (j, b)⟩ (.bool (!decide p))) (ht : ¬p → Ops P ops Q rest (.upd dn (.bool true) e) ds S) (hf : p → Ops P ops Q rest (.upd dn (.bool false) e) ds S)
    (hj : ops[j]? = some oj := by rfl) (hd : oj.dst = some dd := by rfl) (hv : e.get dd = .bool c := by rfl) (hc : c = b := by rfl) : Ops P ops Q (⟨some dn, o, ty, pos, aft, some (j, b)⟩ :: rest) e ds S :=
  Ops.gvB hy (fun h => ht (by simpa using h)) (fun h => hf (by simpa using h)) hj hd hv hc
section
variable {kd : Nat → Nat} {N : Act → World → Prop} {S0 : WS} {fuel : Nat} {listed : Array Bool}
theorem G.gvB {r : Bool} (i : Nat) (ho : ops[i]? = some ⟨some dn, o, ty, pos, aft, some (j, b)⟩) (hy : Yl P (fun _ => True) e ⟨some dn, o, ty, pos, aft, some (j, b)⟩ (.bool r))
    (ht : r = true → G P ops kd N S0 fuel (listed.setIfInBounds i true) (.upd dn (.bool true) e) ds S) (hf : r = false → G P ops kd N S0 fuel (listed.setIfInBounds i true) (.upd dn (.bool false) e) ds S)
    (hj : ops[j]? = some oj := by rfl) (hd : oj.dst = some dd := by rfl) (hv : e.get dd = .bool c := by rfl) (hc : c = b := by rfl) (hok : takeOkP ops kd listed i = true := by kernel_rfl) : G P ops kd N S0 (fuel + 1) listed e ds S := by
  cases r with
  | true => exact G.gy i ho hy (ht rfl) hj hd hv hc hok
  | false => exact G.gy i ho hy (hf rfl) hj hd hv hc hok
theorem G.gvp {p : Prop} {_ : Decidable p} (i : Nat) (ho : ops[i]? = some ⟨some dn, o, ty, pos, aft, some (j, b)⟩) (hy : Yl P (fun _ => True) e ⟨some dn, o, ty, pos, aft, some (j, b)⟩ (.bool (decide p)))
    (ht : p → G P ops kd N S0 fuel (listed.setIfInBounds i true) (.upd dn (.bool true) e) ds S) (hf : ¬p → G P ops kd N S0 fuel (listed.setIfInBounds i true) (.upd dn (.bool false) e) ds S)
    (hj : ops[j]? = some oj := by rfl) (hd : oj.dst = some dd := by rfl) (hv : e.get dd = .bool c := by rfl) (hc : c = b := by rfl) (hok : takeOkP ops kd listed i = true := by kernel_rfl) : G P ops kd N S0 (fuel + 1) listed e ds S :=
  G.gvB i ho hy (fun h => ht (of_decide_eq_true h)) (fun h => hf (of_decide_eq_false h)) hj hd hv hc hok
theorem G.gvn {p : Prop} {_ : Decidable p} (i : Nat) (ho : ops[i]? = some ⟨some dn, o, ty, pos, aft, some (j, b)⟩) (hy : Yl P (fun _ => True) e ⟨some dn, o, ty, pos, aft, some (j, b)⟩ (.bool (!decide p)))
    (ht : ¬p → G P ops kd N S0 fuel (listed.setIfInBounds i true) (.upd dn (.bool true) e) ds S) (hf : p → G P ops kd N S0 fuel (listed.setIfInBounds i true) (.upd dn (.bool false) e) ds S)
    (hj : ops[j]? = some oj := by rfl) (hd : oj.dst = some dd := by rfl) (hv : e.get dd = .bool c := by rfl) (hc : c = b := by rfl) (hok : takeOkP ops kd listed i = true := by kernel_rfl) : G P ops kd N S0 (fuel + 1) listed e ds S :=
  G.gvB i ho hy (fun h => ht (by simpa using h)) (fun h => hf (by simpa using h)) hj hd hv hc hok
end
end
end Go.Eng

/- clear; entries that read. -/
open Go.RowKit
namespace Go.Eng
section
variable {P : Program} {Q : Exit → Act → World → Prop} {e : En} {ds : List Deferred} {S : WS}
variable {w0 w : World} {F : List Nat} {L : List Hl} {d : Option Tmp} {ty t yt elem : TypeId} {pos : String} {aft : Array Edge} {g : Option (Nat × Bool)} {x y : Operand}
variable {f : FuncId} {ao : Option Nat} {n c sz bytes : Nat} {xs zs : List Value} {tl : List TypeId} {u : Hl → List Hl}
/-- 'clear(s)' of a slice of one's own -/
theorem Ef.clr (hx : e.ev x = sl ao n c := by rfl) (hu : P.underlying t = some (.slice elem) := by exact Und.out) (hel : ElemOf P elem sz bytes zs := by infer_instance) (hat : At (.row ao elem sz n c xs) L u := by exact AtR.ha) (h1 : ∀ v ∈ zs, v.oneCell' = true := by first | exact one_u8 _ | exact List.all_eq_true.1 rfl | (simp; done)) (hs : 0 < sz := by decide) (hw : ∀ k, ao = some k → Own w0 F k) :
    Ef P Q e ds (Tr w0 F L) ⟨none, .call { callee := .builtin .clear, args := [x].toArray, argTypes := (t :: tl).toArray }, ty, pos, aft, g⟩ Top (fun _ => undef) (fun _ => Tr w0 F (u (.row ao elem sz n c (List.replicate n zs).flatten))) := by
  refine ⟨fun hok w hT => ?_⟩
  obtain ⟨i, z, h2, h3, h4, h5, h6, h7⟩ := hel
  subst h5; subst h6
  have hh := hT.sat _ hat.mem
  unfold Oper.wp
  rw [En.eval_eq hok]
  rcases Hl.row_cases hh with ⟨rfl, rfl, rfl, rfl⟩ | ⟨g', spare, rfl, hg, hn, hc, hxl, hsl⟩
  · have : (execOp e.ev (⟨none, .call { callee := .builtin .clear, args := [x].toArray, argTypes := (t :: tl).toArray }, ty, pos, aft, g⟩ : Oper)).run P w = .ok (.value (.tuple #[])) w := by
      refine run_builtin fun cst => ?_
      simp [builtin, Builtin.clear_, hx, run_underlying hu, sl]
    rw [this, Oper.upon_value]
    refine ⟨(), trivial, by rw [En.put_arr]; rfl, ?_⟩
    obtain ⟨A, B, hL, hu'⟩ := hat.split
    rw [hu']
    simpa [hL] using hT
  · have hrun : ∃ w', (Builtin.clear_ (t :: tl).toArray ty #[sl (some g') n c]).run P w = .ok (.tuple #[]) w' ∧ Tr w0 F (u (.row (some g') elem i.size n c (List.replicate n zs).flatten)) w' := by
      have hlen : (List.replicate n zs).flatten.length = n * i.size := by rw [List.length_flatten, List.map_replicate, h7, List.sum_replicate_nat]
      cases n with
      | zero =>
        refine ⟨w, by simp [Builtin.clear_, run_underlying hu, sl], ?_⟩
        obtain ⟨A, B, hL, hu'⟩ := hat.split
        have hx0 : xs = [] := by simpa using hxl
        rw [hu']
        simpa [hL, hx0] using hT
      | succ m =>
        have hall : ∀ v ∈ (List.replicate (m + 1) zs).flatten, v.oneCell' = true := fun v hv => by
          rw [List.mem_flatten] at hv
          obtain ⟨l, hl, hv⟩ := hv
          rw [List.mem_replicate] at hl
          exact h1 v (hl.2 ▸ hv)
        obtain ⟨w', hr, hT'⟩ := run_storeCells_known (P := P) (ofs := 0) (vs := (List.replicate (m + 1) zs).flatten) hT hat .row rfl (hw _ rfl) (by rw [hlen, hxl]; omega) hall
        refine ⟨w', ?_, ?_⟩
        · have hz : (Builtin.zeroCells z.cells (m + 1)).toList = (List.replicate (m + 1) zs).flatten := by
            have hzz : z.cells = zs.toArray := by rw [← h4]
            rw [hzz]
            have := madeCells_eq zs.toArray zs rfl (by rw [h7]; exact hs) (m + 1)
            rw [← List.toList_toArray (as := (List.replicate (m + 1) zs).flatten), ← this]
            simp only [madeCells, Builtin.zeroCells, List.size_toArray]
          simp [Builtin.clear_, run_underlying hu, zeroValue, typeInfo, h2, h3, hz, hr, sl]
        · rw [List.take_zero, List.nil_append, Nat.zero_add, hlen, List.drop_eq_nil_of_le (by omega), List.append_nil] at hT'
          exact hT'
    obtain ⟨w', hr, hT'⟩ := hrun
    have : (execOp e.ev (⟨none, .call { callee := .builtin .clear, args := [x].toArray, argTypes := (t :: tl).toArray }, ty, pos, aft, g⟩ : Oper)).run P w = .ok (.value (.tuple #[])) w' := by
      refine run_builtin fun cst => ?_
      simp only [builtin, List.map_cons, List.map_nil, hx, Sem.run_bind]
      rw [hr]
      simp
    rw [this, Oper.upon_value]
    exact ⟨(), trivial, by rw [En.put_arr]; rfl, hT'⟩
/-- Into a function that owns X, and may read L besides. -/
theorem enUR {X : List Hl} {fn : Func} {cd : Code} {as : List Value} {R : Ending → World → Prop} (hL : Has w (X ++ L)) (hf : P.funcs[f]? = some fn)
    (h : ∀ K : Exit → Act → World → Prop, (∀ e S v, e.Ok → Res P fn e S v → (∀ w, S w → R (.returned v) w) → Fin K .ret e [] S ∧ Fin K .normal e [] S) → Wp P cd K (.base fn.ntmps as) [] (Tr w (ids X) (X ++ L))) (hb : fn.body = some cd := by rfl) : Calls P f as.toArray w R :=
  Calls.enter hf hb (Tr.start _ hL.1 hL.2) h
/-- Into a function that reads L. -/
theorem enR {fn : Func} {cd : Code} {as : List Value} {R : Ending → World → Prop} (hL : Has w L) (hf : P.funcs[f]? = some fn)
    (h : ∀ K : Exit → Act → World → Prop, (∀ e S v, e.Ok → Res P fn e S v → (∀ w, S w → R (.returned v) w) → Fin K .ret e [] S ∧ Fin K .normal e [] S) → Wp P cd K (.base fn.ntmps as) [] (Tr w [] L)) (hb : fn.body = some cd := by rfl) : Calls P f as.toArray w R :=
  Calls.enter hf hb (Tr.start _ hL.1 hL.2) h
end
end Go.Eng
namespace Go.Eng
theorem run_zeroV {P : Program} {t : TypeId} {v : Value} (h : (P.info? t).map (fun i => i.zero) = some (some v)) (w : World) : (zeroValue t).run P w = .ok v w := by
  cases hi : P.info? t with
  | none => rw [hi] at h; cases h
  | some i =>
    rw [hi] at h
    simp only [Option.map_some, Option.some.injEq] at h
    simp [zeroValue, typeInfo, hi, h]
end Go.Eng
namespace Go.Eng
section
variable {P : Program} {e : En} {S : WS} {d : Option Tmp} {ty t elem : TypeId} {pos : String} {aft : Array Edge} {g : Option (Nat × Bool)} {x : Operand} {b ofs o' ln cap sz : Nat}
theorem Yl.sliceFromW {l : Nat} {lo : Option Operand} (hu : P.underlying t = some (.slice elem) := by exact Und.out) (hs : SizeOf P elem sz := by infer_instance) (hx : e.ev x = .slice (some ⟨b, ofs, none⟩) ln cap := by rfl) (hl : Bd e lo l) (h : l < ln := by omega) (hc : ln ≤ cap := by omega) (a : AddN ofs (l * sz) o' := by infer_instance) :
    Yl P S e ⟨d, .slice t x lo none none, ty, pos, aft, g⟩ (.slice (some ⟨b, o', none⟩) (ln - l) (cap - l)) := by
  have := Yl.slice (P := P) (S := S) (d := d) (ty := ty) (pos := pos) (aft := aft) (g := g) (hi := none) (mx := none) hu hs hx hl .none .none (.inl rfl) (by omega) hc (Nat.le_refl _)
  rw [if_neg (by omega)] at this
  rw [Option.map_some, Addr.add_lit, a.eq] at this
  exact this
end
end Go.Eng
namespace Go.Eng
section
variable {P : Program} {e : En} {S : WS} {d : Option Tmp} {ty : TypeId} {pos : String} {aft : Array Edge} {g : Option (Nat × Bool)} {x : Operand} {vs : Array Value}
theorem Yl.mvU (h : e.ev x = .tuple vs := by rfl) : Yl P S e ⟨d, .move x, ty, pos, aft, g⟩ (.tuple vs) := Yl.move' h
theorem Yl.asU (h : e.ev x = .tuple vs := by rfl) : Yl P S e ⟨d, .assign x, ty, pos, aft, g⟩ (.tuple vs) := Yl.assign' h
end
end Go.Eng
namespace Go.Eng
@[simp] theorem ids_nil : ids [] = [] := rfl
@[simp] theorem ids_blk {b : Nat} {T : TypeId} {cs : List Value} {L : List Hl} : ids (.blk b T cs :: L) = b :: ids L := rfl
@[simp] theorem ids_obj {b : Nat} {o : Obj} {L : List Hl} : ids (.obj b o :: L) = b :: ids L := rfl
@[simp] theorem ids_row {b : Nat} {T : TypeId} {sz n c : Nat} {cs : List Value} {L : List Hl} : ids (.row (some b) T sz n c cs :: L) = b :: ids L := rfl
@[simp] theorem ids_row0 {T : TypeId} {sz n c : Nat} {cs : List Value} {L : List Hl} : ids (.row none T sz n c cs :: L) = ids L := rfl
theorem ids_rowm {ao : Option Nat} {T : TypeId} {sz n c : Nat} {cs : List Value} {L : List Hl} : ids (.row ao T sz n c cs :: L) = ao.toList ++ ids L := by cases ao <;> rfl
theorem Tr.nils {w0 w : World} {F : List Nat} {L Z : List Hl} (h : Tr w0 F L w) (hz : ∀ x ∈ Z, ∃ T sz, x = .row none T sz 0 0 []) : Tr w0 F (L ++ Z) w := by
  induction Z generalizing L with
  | nil => simpa using h
  | cons z Z ih =>
    obtain ⟨T, sz, rfl⟩ := hz z List.mem_cons_self
    have h1 := ih (h.addRow T sz) (fun x hx => hz x (List.mem_cons_of_mem _ hx))
    exact h1.perm (by simpa using List.perm_middle.symm)
theorem RdS.ofF {w0 : World} {F : List Nat} {L : List Hl} {A : Option Addr} {ys : List Value} (h : Rw w0 A ys) (hF : ∀ a, A = some a → a.block ∉ F) : RdS w0 F L A ys := fun w hw i v hv => by
  obtain ⟨b, ofs, h1, h2⟩ := h i v hv
  exact ⟨b, ofs, h1, (World.cell?_of_block (w := w0) (hw.keep b (World.block_lt_of_cell? w0 _ h2) (hF _ h1))).trans h2⟩
section
variable {P : Program} {e : En} {S : WS} {d : Option Tmp} {ty t yt elem : TypeId} {pos : String} {aft : Array Edge} {g : Option (Nat × Bool)} {x y : Operand} {A : Option Addr} {n c : Nat}
theorem run_eqNilS (hu : P.underlying t = some (.slice elem)) (w : World) : (Op.equal t (.slice A n c) (.slice none 0 0)).run P w = .ok A.isNone w := by
  unfold Op.equal
  rw [show Op.maxDepth = 9999 + 1 from rfl]
  unfold Op.equalIn
  simp only [Sem.run_bind, run_underlying hu, Result.andThen_ok]
  cases A <;> rfl
theorem run_eqGuard_sl (op : BinOp) (B : Option Addr) (n c m q : Nat) (w : World) : (eqGuard op t x y (.slice A n c) (.slice B m q)).run P w = .ok () w := by
  unfold eqGuard
  cases op <;> rfl
theorem Yl.eqNilS (hu : P.underlying t = some (.slice elem) := by exact Und.out) (hx : e.ev x = .slice A n c := by rfl) (hy : e.ev y = .slice none 0 0 := by rfl) : Yl P S e ⟨d, .binOp .eql t x y yt, ty, pos, aft, g⟩ (.bool A.isNone) := fun w _ => by
  simp only [execOp, hx, hy, Sem.run_bind, run_eqGuard_sl, Result.andThen_ok]
  simp [binOp, run_eqNilS hu]
theorem Yl.neNilS (hu : P.underlying t = some (.slice elem) := by exact Und.out) (hx : e.ev x = .slice A n c := by rfl) (hy : e.ev y = .slice none 0 0 := by rfl) : Yl P S e ⟨d, .binOp .neq t x y yt, ty, pos, aft, g⟩ (.bool (!A.isNone)) := fun w _ => by
  simp only [execOp, hx, hy, Sem.run_bind, run_eqGuard_sl, Result.andThen_ok]
  simp [binOp, run_eqNilS hu]
end
end Go.Eng
namespace Go.Eng
section
variable {P : Program} {ops : Array Oper} {Q : Exit → Act → World → Prop} {e : En} {ds : List Deferred} {S : WS} {rest : List Oper} {o : Op} {ty : TypeId} {pos : String} {aft : Array Edge} {j dd dn : Nat} {b c : Bool} {oj : Oper}
theorem Ops.ge {v : Value} {T : WS} (he : Ef P Q e ds S ⟨some dn, o, ty, pos, aft, some (j, b)⟩ Top (fun _ => v) (fun _ => T)) (h : Ops P ops Q rest (.upd dn v e) ds T)
    (hj : ops[j]? = some oj := by rfl) (hd : oj.dst = some dd := by rfl) (hv : e.get dd = .bool c := by rfl) (hc : c = b := by rfl) : Ops P ops Q (⟨some dn, o, ty, pos, aft, some (j, b)⟩ :: rest) e ds S :=
  Ops.guard_yes rfl hj hd hv hc he ⟨(), trivial⟩ fun _ _ => h
theorem Ops.gw {X : Type} {p : X → Prop} {val : X → Value} {T : X → WS} (he : Ef P Q e ds S ⟨some dn, o, ty, pos, aft, some (j, b)⟩ p val T) (h : ∀ x, p x → Ops P ops Q rest (.upd dn (val x) e) ds (T x))
    (hne : ∃ x, p x := by first | exact ⟨(), trivial⟩ | exact New.ex _ | exact ne_makes trivial (by simp [Hl.id, Pt.pt]) | exact ⟨(none, 0), fun _ h => by cases h⟩ | exact ⟨(_, 0), .inr (Nat.le_refl _)⟩)
    (hj : ops[j]? = some oj := by rfl) (hd : oj.dst = some dd := by rfl) (hv : e.get dd = .bool c := by rfl) (hc : c = b := by rfl) : Ops P ops Q (⟨some dn, o, ty, pos, aft, some (j, b)⟩ :: rest) e ds S :=
  Ops.guard_yes rfl hj hd hv hc he hne h
end
end Go.Eng
namespace Go.Eng
section
variable {P : Program} {e : En} {S : WS} {d : Option Tmp} {ty t yt : TypeId} {pos : String} {aft : Array Edge} {g : Option (Nat × Bool)} {x y : Operand} {k : IntKind} {m n r : Int}
theorem Yl.rem' (hx : e.ev x = .int k m := by rfl) (hy : e.ev y = .int k n := by rfl) (h0 : 0 ≤ m := by omega) (h1 : n ≠ 0 := by omega) (hr : m % n = r) : Yl P S e ⟨d, .binOp .rem t x y yt, ty, pos, aft, g⟩ (.int k r) := by
  have := Yl.rem (P := P) (S := S) (d := d) (ty := ty) (t := t) (yt := yt) (pos := pos) (aft := aft) (g := g) hx hy h0 h1
  rwa [hr] at this
/-- A value, said in another way. -/
theorem Yl.as {v v' : Value} {o : Oper} (h : Yl P S e o v) (hv : v = v') : Yl P S e o v' := by rwa [hv] at h
end
end Go.Eng

/- More. -/
open Go.RowKit
namespace Go.Eng
section
variable {P : Program} {ops : Array Oper} {e : En} {ds : List Deferred} {o : Op} {ty : TypeId} {pos : String} {aft : Array Edge}
variable {kd : Nat → Nat} {N : Act → World → Prop} {fuel : Nat} {listed : Array Bool} {w0 : World} {F : List Nat} {L L0 L' : List Hl}
/-- A store that others may come before or behind: what they look at is held. -/
theorem G.ks (i : Nat) (ho : ops[i]? = some ⟨none, o, ty, pos, aft, none⟩) (he : Ef P (Qn N) e ds (Tr w0 F L) ⟨none, o, ty, pos, aft, none⟩ Top (fun _ => undef) (fun _ => Tr w0 F L'))
    (h : G P ops kd N (Tr w0 F L0) fuel (listed.setIfInBounds i true) e ds (Tr w0 F L'))
    (hs : L0.Sublist L := by repeat (first | exact List.Sublist.refl _ | exact List.nil_sublist _ | apply List.Sublist.cons_cons | apply List.Sublist.cons))
    (hsub : L0.Sublist L' := by repeat (first | exact List.Sublist.refl _ | exact List.nil_sublist _ | apply List.Sublist.cons_cons | apply List.Sublist.cons))
    (hr : Region.ready .any ops listed = [i] := by kernel_rfl) (hk : kd i = 0 := by rfl) : G P ops kd N (Tr w0 F L0) (fuel + 1) listed e ds (Tr w0 F L) :=
  G.run i hr hk ho rfl he ⟨(), trivial⟩ (fun _ h => h.sub hs) (fun _ _ _ h => h.sub hsub) (fun _ => Tr w0 F L0) (fun _ _ _ h => h) fun _ _ => h
end
end Go.Eng
namespace Go.Eng
section
variable {P : Program} {ops : Array Oper} {Q : Exit → Act → World → Prop} {e : En} {ds : List Deferred} {rest : List Oper} {w0 w : World} {F : List Nat} {L : List Hl} {ao : Option Nat} {T : TypeId} {sz n c : Nat} {xs : List Value}
/-- Of a row that is not empty the block is there. -/
theorem Ops.rs (n : Nat) (hok : e.Ok) (h : ∀ g, ao = some g → Ops P ops Q rest e ds (Tr w0 F L)) {u : Hl → List Hl} (hat : At (.row ao T sz n c xs) L u := by exact AtR.ha) (h0 : 0 < n := by omega) : Ops P ops Q rest e ds (Tr w0 F L) :=
  ⟨hok, fun w hw => by obtain ⟨g, hg⟩ := row_pos' (hw.sat _ hat.mem) h0; exact (h g hg).2 w hw⟩
theorem Has.notin {x : Hl} {k : Nat} (h : Has w (x :: L)) (hk : x.id = some k) : k ∉ ids L := fun hm => by
  obtain ⟨y, hy, hid⟩ := mem_ids.1 hm
  exact (List.pairwise_cons.1 h.2).1 y hy k hk hid
theorem newH_own {N : List Hl} (h : NewH w0 N) : ∀ k ∈ ids N, Own w0 F k := fun k hk => by
  obtain ⟨y, hy, hid⟩ := mem_ids.1 hk
  exact .inr (h y hy k hid)
end
end Go.Eng
namespace Go.Eng
section
variable {P : Program} {ops : Array Oper} {e : En} {ds : List Deferred} {S : WS} {o : Op} {d : Nat} {ty : TypeId} {pos : String} {aft : Array Edge} {kd : Nat → Nat} {N : Act → World → Prop} {S0 : WS} {fuel : Nat} {listed : Array Bool}
theorem G.gnl {d' j : Nat} {b c : Bool} {oj : Oper} (i : Nat) (ho : ops[i]? = some ⟨some d, o, ty, pos, aft, some (j, b)⟩)
    (h : G P ops kd N S0 fuel (listed.setIfInBounds i true) (.upd d undef e) ds S) (hj : ops[j]? = some oj := by rfl) (hd : oj.dst = some d' := by rfl) (hv : e.get d' = .bool c := by rfl) (hc : c = !b := by rfl) (hok : takeOk ops kd listed i = true := by kernel_rfl) : G P ops kd N S0 (fuel + 1) listed e ds S :=
  G.take_of hok ho (fun hk => .inr ⟨wanted_no hk rfl hj hd hv hc, rfl⟩) h
theorem G.gul {d' j : Nat} {b : Bool} {oj : Oper} (i : Nat) (ho : ops[i]? = some ⟨some d, o, ty, pos, aft, some (j, b)⟩)
    (h : G P ops kd N S0 fuel (listed.setIfInBounds i true) (.upd d undef e) ds S) (hj : ops[j]? = some oj := by rfl) (hd : oj.dst = some d' := by rfl) (hv : e.get d' = undef := by rfl) (hok : takeOk ops kd listed i = true := by kernel_rfl) : G P ops kd N S0 (fuel + 1) listed e ds S :=
  G.take_of hok ho (fun hk => .inr ⟨wanted_un hk rfl hj hd hv, rfl⟩) h
end
end Go.Eng

/- A small calculus over the kit's rules (first part): frames as updates, memory as blocks that are known; no statement of the program is proved here. -/
import Derived.WalkKit
import Derived.OrdersHeld
import Derived.KernelRfl
set_option maxRecDepth 10000
set_option linter.unusedSimpArgs false
set_option linter.unusedVariables false
/- A small calculus over the walk's own rules: frames as updates, states as blocks that are known. -/
namespace Go.Eng

/-- A frame: a list of slots, and updates on it. -/
inductive En where
  | base (n : Nat) (l : List Value)
  | upd (d : Nat) (v : Value) (e : En)
  | mark (n : Nat) (e : En)
def En.arr : En → Array Value
  | .mark _ e => e.arr
  | .base n l => (l ++ List.replicate (n - l.length) undef).toArray
  | .upd d v e => e.arr.setIfInBounds d v
def En.get : En → Nat → Value
  | .mark _ e, t => e.get t
  | .base _ l, t => l.getD t undef
  | .upd d v e, t => bif Nat.beq t d then v else e.get t
def En.ok (n : Nat) : En → Bool
  | .mark _ e => e.ok n
  | .base m l => Nat.beq m n && Nat.ble l.length m
  | .upd d _ e => Nat.blt d n && e.ok n
def En.Ok (e : En) : Prop := ∃ n, e.ok n = true
theorem En.Ok.tail {d : Nat} {v : Value} {e : En} (h : (En.upd d v e).Ok) : e.Ok := by
  obtain ⟨n, h⟩ := h
  simp only [En.ok, Bool.and_eq_true] at h
  exact ⟨n, h.2⟩
theorem En.size_of_ok {n : Nat} : ∀ {e : En}, e.ok n = true → e.arr.size = n
  | .mark _ e, h => En.size_of_ok (e := e) h
  | .base m l, h => by
    simp only [En.ok, Bool.and_eq_true] at h
    have h1 := Nat.eq_of_beq_eq_true h.1
    have h2 := Nat.le_of_ble_eq_true h.2
    simp [En.arr]; omega
  | .upd d v e, h => by
    simp only [En.ok, Bool.and_eq_true] at h
    simpa [En.arr] using En.size_of_ok h.2
theorem En.getD_of_ok {n : Nat} : ∀ {e : En}, e.ok n = true → ∀ t, e.arr.getD t undef = e.get t
  | .mark _ e, h, t => En.getD_of_ok (e := e) h t
  | .base m l, _, t => by
    simp only [En.arr, En.get, Array.getD_eq_getD_getElem?, List.getElem?_toArray, List.getD_eq_getElem?_getD, List.getElem?_append, List.getElem?_replicate]
    split
    · rfl
    · rename_i h
      rw [List.getElem?_eq_none (by omega)]
      split <;> rfl
  | .upd d v e, h, t => by
    have h' := h
    simp only [En.ok, Bool.and_eq_true] at h
    have hs := En.size_of_ok h.2
    have hd : d < n := by simpa using h.1
    have ih := En.getD_of_ok h.2 t
    simp only [Array.getD_eq_getD_getElem?] at ih
    simp only [En.arr, En.get, Array.getD_eq_getD_getElem?]
    cases hb : Nat.beq t d with
    | true =>
      have e1 : t = d := Nat.eq_of_beq_eq_true hb
      subst e1
      rw [Array.getElem?_setIfInBounds_self_of_lt (by omega)]
      rfl
    | false =>
      have e1 : d ≠ t := fun h => by subst h; simp at hb
      rw [Array.getElem?_setIfInBounds_ne e1]
      simpa using ih
def En.ev (e : En) : Operand → Value
  | .tmp t => e.get t
  | .const v => v
  | .global g => .pointer (some ⟨g, 0, none⟩)
  | .func f => .func (.func f) #[] #[]
theorem En.eval_eq {e : En} (h : e.Ok) (ds : List Deferred) : (Act.mk e.arr ds).eval = e.ev := by
  obtain ⟨n, h⟩ := h
  funext x
  cases x <;> simp only [Act.eval, En.ev]
  exact En.getD_of_ok h _

abbrev WS := World → Prop
section
variable {P : Program} {ops : Array Oper} {Q : Exit → Act → World → Prop} {e : En} {ds : List Deferred} {S : WS}

/-- From every world of S the code c comes to Q. -/
def Wp (P : Program) (c : Code) (Q : Exit → Act → World → Prop) (e : En) (ds : List Deferred) (S : WS) : Prop :=
  e.Ok ∧ ∀ w, S w → c.wp P Q ⟨e.arr, ds⟩ w
def Fin (Q : Exit → Act → World → Prop) (x : Exit) (e : En) (ds : List Deferred) (S : WS) : Prop :=
  e.Ok ∧ ∀ w, S w → Q x ⟨e.arr, ds⟩ w
def Ops (P : Program) (ops : Array Oper) (Q : Exit → Act → World → Prop) (l : List Oper) (e : En) (ds : List Deferred) (S : WS) : Prop :=
  e.Ok ∧ ∀ w, S w → wpList P ops Q l ⟨e.arr, ds⟩ w

theorem Wp.seq {x y : Code} (h : ∀ K : Exit → Act → World → Prop, (∀ e ds S, Wp P y Q e ds S → Fin K .normal e ds S) → (∀ z e ds S, z ≠ .normal → Fin Q z e ds S → Fin K z e ds S) → Wp P x K e ds S) :
    Wp P (.seq x y) Q e ds S := by
  have := h (Exit.then (y.wp P Q) Q) (fun e ds S h => h) (fun z e ds S hz h => ⟨h.1, fun w hw => by
    have := h.2 w hw
    cases z <;> first | exact absurd rfl hz | exact this⟩)
  exact ⟨this.1, fun w hw => wp_seq (this.2 w hw)⟩
theorem Wp.skip (h : Fin Q .normal e ds S) : Wp P .skip Q e ds S := ⟨h.1, fun w hw => wp_skip (h.2 w hw)⟩
theorem Wp.ret (h : Fin Q .ret e ds S) : Wp P .ret Q e ds S := ⟨h.1, fun w hw => wp_ret (h.2 w hw)⟩
theorem Wp.exit {id : Nat} (h : Fin Q (.exit id) e ds S) : Wp P (.exit id) Q e ds S := ⟨h.1, fun w hw => wp_exit (h.2 w hw)⟩
theorem Wp.block {id : Nat} {c : Code} (h : ∀ K : Exit → Act → World → Prop, (∀ e ds S, Fin Q .normal e ds S → Fin K .normal e ds S) → (∀ e ds S, Fin Q .normal e ds S → Fin K (.exit id) e ds S) →
    (∀ z e ds S, z ≠ .normal → z ≠ .exit id → Fin Q z e ds S → Fin K z e ds S) → Wp P c K e ds S) : Wp P (.block id c) Q e ds S := by
  have := h (Exit.inBlock id Q) (fun e ds S h => h) (fun e ds S h => ⟨h.1, fun w hw => by simpa [Exit.inBlock] using h.2 w hw⟩)
    (fun z e ds S h1 h2 h => ⟨h.1, fun w hw => by
      have := h.2 w hw
      cases z <;> first | exact absurd rfl h1 | exact this | (rename_i i; have hi : i ≠ id := fun e => h2 (by rw [e]); simpa [Exit.inBlock, hi] using this)⟩)
  exact ⟨this.1, fun w hw => wp_block (this.2 w hw)⟩
theorem Wp.cond {c : Operand} {x y : Code} (b : Bool) (hc : e.ev c = .bool b) (ht : b = true → Wp P x Q e ds S) (hf : b = false → Wp P y Q e ds S) :
    Wp P (.cond c x y) Q e ds S := by
  have key : ∀ hok : e.Ok, ∀ w, S w → (Code.cond c x y).wp P Q ⟨e.arr, ds⟩ w := fun hok w hw => by
    refine wp_cond_split (t := b) ?_ (fun h => (ht h).2 w hw) (fun h => (hf h).2 w hw)
    rw [En.eval_eq hok]; exact hc
  cases b with
  | true => exact ⟨(ht rfl).1, key (ht rfl).1⟩
  | false => exact ⟨(hf rfl).1, key (hf rfl).1⟩
theorem Wp.cond_t {c : Operand} {x y : Code} (hc : e.ev c = .bool true) (h : Wp P x Q e ds S) : Wp P (.cond c x y) Q e ds S :=
  Wp.cond true hc (fun _ => h) (fun h => by cases h)
theorem Wp.cond_f {c : Operand} {x y : Code} (hc : e.ev c = .bool false) (h : Wp P y Q e ds S) : Wp P (.cond c x y) Q e ds S :=
  Wp.cond false hc (fun h => by cases h) (fun _ => h)
theorem Wp.mono {c : Code} {S' : WS} (h : Wp P c Q e ds S') (hs : ∀ w, S w → S' w) : Wp P c Q e ds S := ⟨h.1, fun w hw => h.2 w (hs w hw)⟩
theorem Fin.mono {x : Exit} {S' : WS} (h : Fin Q x e ds S') (hs : ∀ w, S w → S' w) : Fin Q x e ds S := ⟨h.1, fun w hw => h.2 w (hs w hw)⟩
theorem Ops.mono {l : List Oper} {S' : WS} (h : Ops P ops Q l e ds S') (hs : ∀ w, S w → S' w) : Ops P ops Q l e ds S := ⟨h.1, fun w hw => h.2 w (hs w hw)⟩
theorem Wp.region {id : Nat} {l : List Oper} (h : Ops P l.toArray Q l e ds S) : Wp P (.region id l.toArray false) Q e ds S :=
  ⟨h.1, fun w hw => wp_region_lit (h.2 w hw)⟩
theorem Ops.nil (h : Fin Q .normal e ds S) : Ops P ops Q [] e ds S := ⟨h.1, fun w hw => wpList_nil (h.2 w hw)⟩
/-- An existential in the state is opened. -/
theorem Wp.ex {X : Type} {c : Code} {T : X → WS} (hok : e.Ok) (h : ∀ x, Wp P c Q e ds (T x)) : Wp P c Q e ds (fun w => ∃ x, T x w) := ⟨hok, fun w ⟨x, hx⟩ => (h x).2 w hx⟩

/-! loops: a frame of its own for each state x of the loop -/
theorem wp_loop_ex {c : Code} {a : Act} {w : World} (I : Act → World → Nat → Prop) (h0 : ∃ n, I a w n)
    (round : ∀ a w n, I a w n → c.wp P (Exit.then (fun a' w' => ∃ m, I a' w' m ∧ m < n) Q) a w) : (Code.loop c).wp P Q a w := by
  intro b k cs
  have key : ∀ n a w, I a w n →
      ∃ e a' w', Q e a' w' ∧ Arrives P (lone (b.at a (.code c :: .inLoop c :: k)) cs w) b k cs e a' w' := by
    intro n
    induction n using Nat.strongRecOn with
    | _ n ih =>
      intro a w hI
      obtain ⟨e, a₁, w₁, hq, harr⟩ := round a w n hI b (.inLoop c :: k) cs
      cases e with
      | normal =>
        obtain ⟨m, hI₁, hlt⟩ := hq
        obtain ⟨e₂, a₂, w₂, hq₂, harr₂⟩ := ih m hlt a₁ w₁ hI₁
        exact ⟨e₂, a₂, w₂, hq₂, .of_steps (Steps.trans harr (.one step_inLoop)) harr₂⟩
      | exit id => exact ⟨_, a₁, w₁, hq, .pass (x := .inLoop c) rfl (fun _ _ => .inl (by simp)) harr⟩
      | goto l => exact ⟨_, a₁, w₁, hq, .pass (x := .inLoop c) rfl (fun _ _ => .inl (by simp)) harr⟩
      | ret => exact ⟨_, a₁, w₁, hq, .pass (x := .inLoop c) rfl (fun _ _ => .inl (by simp)) harr⟩
      | panic ch => exact ⟨_, a₁, w₁, hq, .pass (x := .inLoop c) rfl (fun _ _ => .inl (by simp)) harr⟩
      | outgrown => exact ⟨_, a₁, w₁, hq, .pass (x := .inLoop c) rfl (fun _ _ => .inl (by simp)) harr⟩
  obtain ⟨n, h0⟩ := h0
  obtain ⟨e, a', w', hq, harr⟩ := key n _ _ h0
  exact ⟨e, a', w', hq, .of_steps (.one step_loop) harr⟩
theorem Wp.loop {X : Type} {c : Code} (fr : X → En) (T : X → WS) (μ : X → Nat) (x0 : X) (h0 : e.Ok ∧ e.arr = (fr x0).arr) (hs : ∀ w, S w → T x0 w)
    (h : ∀ x, ∀ K : Exit → Act → World → Prop, (∀ y e', μ y < μ x → e'.Ok ∧ e'.arr = (fr y).arr → ∀ S', (∀ w, S' w → T y w) → Fin K .normal e' ds S') →
      (∀ z e ds S, z ≠ .normal → Fin Q z e ds S → Fin K z e ds S) → Wp P c K (fr x) ds (T x)) : Wp P (.loop c) Q e ds S := by
  refine ⟨h0.1, fun w hw => ?_⟩
  refine wp_loop_ex (fun a w n => ∃ x, a = ⟨(fr x).arr, ds⟩ ∧ T x w ∧ n = μ x) ⟨_, x0, by rw [h0.2], hs w hw, rfl⟩ ?_
  rintro a w n ⟨x, rfl, hx, rfl⟩
  refine (h x (Exit.then (fun a' w' => ∃ m, (∃ x, a' = ⟨(fr x).arr, ds⟩ ∧ T x w' ∧ m = μ x) ∧ m < μ x) Q) ?_ ?_).2 w hx
  · intro y e' hy he' S' hS'
    exact ⟨he'.1, fun w hw => ⟨μ y, ⟨y, by rw [he'.2], hS' w hw, rfl⟩, hy⟩⟩
  · intro z e ds S hz hf
    refine ⟨hf.1, fun w hw => ?_⟩
    have := hf.2 w hw
    cases z <;> first | exact absurd rfl hz | exact this
end
end Go.Eng

/- Operations without memory. -/
namespace Go.Eng
class Und (P : Program) (t : TypeId) (d : outParam TypeDesc) : Prop where
  out : P.underlying t = some d
section
variable {P : Program} {ops : Array Oper} {Q : Exit → Act → World → Prop} {e : En} {ds : List Deferred} {S : WS} {o : Oper} {rest : List Oper}

/-- In every world of S the operation o yields v, and the world stays. -/
def Yl (P : Program) (S : WS) (e : En) (o : Oper) (v : Value) : Prop := ∀ w, S w → (execOp e.ev o).run P w = .ok (.value v) w
/-- .. yields nothing. -/
def En.put (e : En) : Option Tmp → Value → En
  | some d, v => .upd d v e
  | none, _ => e
theorem En.put_arr (e : En) (d : Option Tmp) (v : Value) : (Act.mk e.arr ds).put d v = ⟨(e.put d v).arr, ds⟩ := by cases d <;> rfl
theorem En.Ok.of_put {d : Option Tmp} {v : Value} (h : (e.put d v).Ok) : e.Ok := by cases d with | none => exact h | some d => exact h.tail
/-- From every world of S the operation o comes to some x with p x: its value, and the worlds of T x. -/
structure Ef (P : Program) (Q : Exit → Act → World → Prop) (e : En) (ds : List Deferred) (S : WS) (o : Oper) {X : Type} (p : X → Prop) (val : X → Value) (T : X → WS) : Prop where
  out : e.Ok → ∀ w, S w → o.wp P ⟨e.arr, ds⟩ w (fun a' w' => ∃ x, p x ∧ a' = ⟨(e.put o.dst (val x)).arr, ds⟩ ∧ T x w') Q
def Top : Unit → Prop := fun _ => True
theorem Yl.ef {v : Value} (h : Yl P S e o v) : Ef P Q e ds S o Top (fun _ => v) (fun _ => S) := by
  refine ⟨fun hok w hw => ?_⟩
  unfold Oper.wp
  rw [En.eval_eq hok, h w hw, Oper.upon_value, En.put_arr]
  exact ⟨(), trivial, rfl, hw⟩
theorem Ops.eff {X : Type} {p : X → Prop} {val : X → Value} {T : X → WS} (hg : o.guard = none) (he : Ef P Q e ds S o p val T) (hne : ∃ x, p x)
    (h : ∀ x, p x → Ops P ops Q rest (e.put o.dst (val x)) ds (T x)) : Ops P ops Q (o :: rest) e ds S := by
  obtain ⟨x0, hx0⟩ := hne
  have hok : e.Ok := (h x0 hx0).1.of_put
  refine ⟨hok, fun w hw => wpList_plain hg fun K hK => ?_⟩
  refine Oper.wp_mono ?_ (he.out hok w hw)
  rintro a w ⟨x, hx, rfl, hT⟩
  exact hK _ _ ((h x hx).2 w hT)
theorem Ops.val {v : Value} (hg : o.guard = none) (hy : Yl P S e o v) (h : Ops P ops Q rest (e.put o.dst v) ds S) : Ops P ops Q (o :: rest) e ds S :=
  Ops.eff hg hy.ef ⟨(), trivial⟩ fun _ _ => h
/-- A guard that says no. -/
theorem Ops.guard_no {j d : Nat} {b c : Bool} {oj : Oper} (hg : o.guard = some (j, b)) (hj : ops[j]? = some oj) (hd : oj.dst = some d) (hv : e.get d = .bool c) (hc : c = !b)
    (h : Ops P ops Q rest (e.put o.dst undef) ds S) : Ops P ops Q (o :: rest) e ds S := by
  have hok := h.1.of_put
  refine ⟨hok, fun w hw => ?_⟩
  have hw' : Region.wanted o (yielded ops e.arr) = false := by
    obtain ⟨n, hn⟩ := hok
    have hget := En.getD_of_ok hn d
    rw [hv] at hget
    simp only [Region.wanted, hg, yielded, hj, hd, Option.bind_some]
    cases hx : e.arr[d]? with
    | none => simp [Array.getD_eq_getD_getElem?, hx, undef] at hget
    | some u =>
      simp only [Array.getD_eq_getD_getElem?, hx, Option.getD_some] at hget
      subst hget; subst hc
      cases b <;> rfl
  refine wpList_skip hw' ?_
  rw [En.put_arr]
  exact h.2 w hw
theorem wanted_yes {j d : Nat} {b c : Bool} {oj : Oper} (hok : e.Ok) (hg : o.guard = some (j, b)) (hj : ops[j]? = some oj) (hd : oj.dst = some d) (hv : e.get d = .bool c) (hc : c = b) :
    Region.wanted o (yielded ops e.arr) = true := by
  obtain ⟨n, hn⟩ := hok
  have hget := En.getD_of_ok hn d
  rw [hv] at hget
  simp only [Region.wanted, hg, yielded, hj, hd, Option.bind_some]
  cases hx : e.arr[d]? with
  | none => simp [Array.getD_eq_getD_getElem?, hx, undef] at hget
  | some u =>
    simp only [Array.getD_eq_getD_getElem?, hx, Option.getD_some] at hget
    subst hget; subst hc
    cases c <;> rfl
/-- A guard that says yes. -/
theorem Ops.guard_yes {X : Type} {p : X → Prop} {val : X → Value} {T : X → WS} {j d : Nat} {b c : Bool} {oj : Oper} (hg : o.guard = some (j, b)) (hj : ops[j]? = some oj) (hd : oj.dst = some d) (hv : e.get d = .bool c) (hc : c = b)
    (he : Ef P Q e ds S o p val T) (hne : ∃ x, p x) (h : ∀ x, p x → Ops P ops Q rest (e.put o.dst (val x)) ds (T x)) : Ops P ops Q (o :: rest) e ds S := by
  obtain ⟨x0, hx0⟩ := hne
  have hok : e.Ok := (h x0 hx0).1.of_put
  refine ⟨hok, fun w hw => wpList_step fun K hK => ?_⟩
  rw [if_pos (wanted_yes hok hg hj hd hv hc)]
  refine Oper.wp_mono ?_ (he.out hok w hw)
  rintro a w ⟨x, hx, rfl, hT⟩
  exact hK _ _ ((h x hx).2 w hT)
theorem Ops.guard_val {v : Value} {j d : Nat} {b c : Bool} {oj : Oper} (hg : o.guard = some (j, b)) (hj : ops[j]? = some oj) (hd : oj.dst = some d) (hv : e.get d = .bool c) (hc : c = b)
    (hy : Yl P S e o v) (h : Ops P ops Q rest (e.put o.dst v) ds S) : Ops P ops Q (o :: rest) e ds S :=
  Ops.guard_yes hg hj hd hv hc hy.ef ⟨(), trivial⟩ fun _ _ => h

/-! ### values -/
abbrev u8 (x : BitVec 8) : Value := .int .u8 (x.toNat : Int)
abbrev u16 (x : BitVec 16) : Value := .int .u16 (x.toNat : Int)
abbrev u32 (x : BitVec 32) : Value := .int .u32 (x.toNat : Int)
abbrev u64 (x : BitVec 64) : Value := .int .u64 (x.toNat : Int)
abbrev iv (n : Int) : Value := .int .i64 n
abbrev bv (b : Bool) : Value := .bool b

section pure
variable {d : Option Tmp} {ty t yt : TypeId} {pos : String} {aft : Array Edge} {g : Option (Nat × Bool)} {x y : Operand}
theorem Yl.move : Yl P S e ⟨d, .move x, ty, pos, aft, g⟩ (e.ev x) := fun _ _ => rfl
theorem Yl.assign : Yl P S e ⟨d, .assign x, ty, pos, aft, g⟩ (e.ev x) := fun _ _ => rfl
theorem Yl.move' {v : Value} (h : e.ev x = v := by rfl) : Yl P S e ⟨d, .move x, ty, pos, aft, g⟩ v := fun _ _ => by rw [← h]; rfl
theorem Yl.assign' {v : Value} (h : e.ev x = v := by rfl) : Yl P S e ⟨d, .assign x, ty, pos, aft, g⟩ v := fun _ _ => by rw [← h]; rfl
theorem Yl.pick_t {c : Operand} {v : Value} (hc : e.ev c = .bool true := by rfl) (h : e.ev x = v := by rfl) : Yl P S e ⟨d, .pick c x y, ty, pos, aft, g⟩ v := fun _ _ => by simp [execOp, hc, asBool, h]
theorem Yl.pick_f {c : Operand} {v : Value} (hc : e.ev c = .bool false := by rfl) (h : e.ev y = v := by rfl) : Yl P S e ⟨d, .pick c x y, ty, pos, aft, g⟩ v := fun _ _ => by simp [execOp, hc, asBool, h]

theorem run_eqGuard_int (op : BinOp) (k j : IntKind) (m n : Int) (w : World) : (eqGuard op t x y (.int k m) (.int j n)).run P w = .ok () w := by
  unfold eqGuard
  cases op <;> rfl
theorem Yl.bin_int {op : BinOp} {k j : IntKind} {m n : Int} {v : Value} (hx : e.ev x = .int k m := by rfl) (hy : e.ev y = .int j n := by rfl) (h : ∀ w, (binOp op t (.int k m) (.int j n)).run P w = .ok v w) :
    Yl P S e ⟨d, .binOp op t x y yt, ty, pos, aft, g⟩ v := fun w _ => by
  simp only [execOp, hx, hy, Sem.run_bind, run_eqGuard_int, Result.andThen_ok, h, Sem.run_pure]
theorem wrap_i64 (n : Int) (h1 : -9223372036854775808 ≤ n) (h2 : n ≤ 9223372036854775807) : IntKind.i64.wrap n = n := IntWalk.i64_in n ⟨h1, h2⟩
end pure
end
end Go.Eng

/- Operations on numbers. -/
namespace Go.Eng
section
variable {P : Program} {e : En} {S : WS} {d : Option Tmp} {ty t yt : TypeId} {pos : String} {aft : Array Edge} {g : Option (Nat × Bool)} {x y : Operand} {k j : IntKind} {m n : Int}

/-! #### int -/
theorem Yl.add (hx : e.ev x = iv m := by rfl) (hy : e.ev y = iv n := by rfl) (h1 : -9223372036854775808 ≤ m + n := by omega) (h2 : m + n ≤ 9223372036854775807 := by omega) :
    Yl P S e ⟨d, .binOp .add t x y yt, ty, pos, aft, g⟩ (iv (m + n)) :=
  Yl.bin_int hx hy fun w => by simp [binOp, Op.intArith, wrap_i64 _ h1 h2]
theorem Yl.sub (hx : e.ev x = iv m := by rfl) (hy : e.ev y = iv n := by rfl) (h1 : -9223372036854775808 ≤ m - n := by omega) (h2 : m - n ≤ 9223372036854775807 := by omega) :
    Yl P S e ⟨d, .binOp .sub t x y yt, ty, pos, aft, g⟩ (iv (m - n)) :=
  Yl.bin_int hx hy fun w => by simp [binOp, Op.intArith, wrap_i64 _ h1 h2]
theorem Yl.mul (hx : e.ev x = iv m := by rfl) (hy : e.ev y = iv n := by rfl) (h1 : -9223372036854775808 ≤ m * n := by omega) (h2 : m * n ≤ 9223372036854775807 := by omega) :
    Yl P S e ⟨d, .binOp .mul t x y yt, ty, pos, aft, g⟩ (iv (m * n)) :=
  Yl.bin_int hx hy fun w => by simp [binOp, Op.intArith, wrap_i64 _ h1 h2]
theorem Yl.addw (hx : e.ev x = .int k m := by rfl) (hy : e.ev y = .int k n := by rfl) : Yl P S e ⟨d, .binOp .add t x y yt, ty, pos, aft, g⟩ (.int k (k.wrap (m + n))) :=
  Yl.bin_int hx hy fun w => by cases k <;> simp [binOp, Op.intArith]
theorem Yl.subw (hx : e.ev x = .int k m := by rfl) (hy : e.ev y = .int k n := by rfl) : Yl P S e ⟨d, .binOp .sub t x y yt, ty, pos, aft, g⟩ (.int k (k.wrap (m - n))) :=
  Yl.bin_int hx hy fun w => by cases k <;> simp [binOp, Op.intArith]
theorem Yl.mulw (hx : e.ev x = .int k m := by rfl) (hy : e.ev y = .int k n := by rfl) : Yl P S e ⟨d, .binOp .mul t x y yt, ty, pos, aft, g⟩ (.int k (k.wrap (m * n))) :=
  Yl.bin_int hx hy fun w => by cases k <;> simp [binOp, Op.intArith]
theorem Yl.rem (hx : e.ev x = .int k m := by rfl) (hy : e.ev y = .int k n := by rfl) (h0 : 0 ≤ m := by omega) (h1 : n ≠ 0 := by omega) : Yl P S e ⟨d, .binOp .rem t x y yt, ty, pos, aft, g⟩ (.int k (m % n)) :=
  Yl.bin_int hx hy fun w => by
    have : m.tmod n = m % n := by rw [Int.tmod_eq_emod_of_nonneg h0]
    cases k <;> simp [binOp, Op.intDiv, h1, this]
theorem Yl.quo (hx : e.ev x = iv m := by rfl) (hy : e.ev y = iv n := by rfl) (h0 : 0 ≤ m := by omega) (h2 : m ≤ 9223372036854775807 := by omega) (h1 : 0 < n := by omega) : Yl P S e ⟨d, .binOp .quo t x y yt, ty, pos, aft, g⟩ (iv (m / n)) :=
  Yl.bin_int hx hy fun w => by
    have e1 : m.tdiv n = m / n := by rw [Int.tdiv_eq_ediv_of_nonneg h0]
    have e2 : 0 ≤ m / n := Int.ediv_nonneg h0 (by omega)
    have e3 : m / n ≤ m := Int.ediv_le_self n h0
    have : n ≠ 0 := by omega
    simp [binOp, Op.intDiv, this, e1, wrap_i64 _ (by omega : -9223372036854775808 ≤ m / n) (by omega)]
theorem Yl.neg (hx : e.ev x = iv m := by rfl) (h1 : -9223372036854775808 ≤ 0 - m := by omega) (h2 : 0 - m ≤ 9223372036854775807 := by omega) : Yl P S e ⟨d, .unOp .neg t x, ty, pos, aft, g⟩ (iv (0 - m)) :=
  fun w _ => by simp only [execOp, hx, Op.unary, Op.intArith, wrap_i64 _ h1 h2, Sem.run_bind, Sem.run_pure, Result.andThen_ok]
theorem Yl.not {b : Bool} (hx : e.ev x = .bool b := by rfl) : Yl P S e ⟨d, .unOp .not t x, ty, pos, aft, g⟩ (.bool !b) := fun w _ => by simp [execOp, hx, Op.unary]

/-! #### comparisons -/
theorem Yl.eql (hx : e.ev x = .int k m := by rfl) (hy : e.ev y = .int k n := by rfl) : Yl P S e ⟨d, .binOp .eql t x y yt, ty, pos, aft, g⟩ (.bool (decide (m = n))) :=
  Yl.bin_int hx hy fun w => by cases k <;> simp [binOp, Op.intCmp] <;> rfl
theorem Yl.neq (hx : e.ev x = .int k m := by rfl) (hy : e.ev y = .int k n := by rfl) : Yl P S e ⟨d, .binOp .neq t x y yt, ty, pos, aft, g⟩ (.bool (decide (m ≠ n))) :=
  Yl.bin_int hx hy fun w => by cases k <;> simp [binOp, Op.intCmp, bne] <;> rfl
theorem Yl.lss (hx : e.ev x = .int k m := by rfl) (hy : e.ev y = .int k n := by rfl) : Yl P S e ⟨d, .binOp .lss t x y yt, ty, pos, aft, g⟩ (.bool (decide (m < n))) :=
  Yl.bin_int hx hy fun w => by cases k <;> simp [binOp, Op.intCmp]
theorem Yl.leq (hx : e.ev x = .int k m := by rfl) (hy : e.ev y = .int k n := by rfl) : Yl P S e ⟨d, .binOp .leq t x y yt, ty, pos, aft, g⟩ (.bool (decide (m ≤ n))) :=
  Yl.bin_int hx hy fun w => by cases k <;> simp [binOp, Op.intCmp]
theorem Yl.gtr (hx : e.ev x = .int k m := by rfl) (hy : e.ev y = .int k n := by rfl) : Yl P S e ⟨d, .binOp .gtr t x y yt, ty, pos, aft, g⟩ (.bool (decide (n < m))) :=
  Yl.bin_int hx hy fun w => by cases k <;> simp [binOp, Op.intCmp]
theorem Yl.geq (hx : e.ev x = .int k m := by rfl) (hy : e.ev y = .int k n := by rfl) : Yl P S e ⟨d, .binOp .geq t x y yt, ty, pos, aft, g⟩ (.bool (decide (n ≤ m))) :=
  Yl.bin_int hx hy fun w => by cases k <;> simp [binOp, Op.intCmp]

/-! #### words of bits -/
theorem wrap_u8 (n : Int) : IntKind.u8.wrap n = ((BitVec.ofInt 8 n).toNat : Int) := by
  rw [IntKind.wrap_u8]; simp [BitVec.toNat_ofInt]; omega
theorem wrap_u32 (n : Int) : IntKind.u32.wrap n = ((BitVec.ofInt 32 n).toNat : Int) := by
  simp [IntKind.wrap, IntKind.bits, IntKind.signed, BitVec.toNat_ofInt]; omega
theorem wrap_u64 (n : Int) : IntKind.u64.wrap n = ((BitVec.ofInt 64 n).toNat : Int) := by
  simp [IntKind.wrap, IntKind.bits, IntKind.signed, BitVec.toNat_ofInt]; omega
theorem wrap_u16 (n : Int) : IntKind.u16.wrap n = ((BitVec.ofInt 16 n).toNat : Int) := by
  simp [IntKind.wrap, IntKind.bits, IntKind.signed, BitVec.toNat_ofInt]; omega
theorem ofInt_toNat {w : Nat} (a : BitVec w) : BitVec.ofInt w (a.toNat : Int) = a := by simp
theorem ofInt_sub' {w : Nat} (x y : Int) : BitVec.ofInt w (x - y) = BitVec.ofInt w x - BitVec.ofInt w y := by
  rw [Int.sub_eq_add_neg, BitVec.ofInt_add, BitVec.ofInt_neg, BitVec.sub_eq_add_neg]
theorem shl_bits {w : Nat} (a : BitVec w) (n : Nat) : BitVec.ofInt w ((a.toNat : Int) * 2 ^ (min n w)) = a <<< n := by
  apply BitVec.eq_of_toNat_eq
  have e1 : ((a.toNat : Int) * 2 ^ (min n w)) = ((a.toNat * 2 ^ (min n w) : Nat) : Int) := by simp
  rw [e1, BitVec.toNat_shiftLeft, BitVec.ofInt_natCast, BitVec.toNat_ofNat, Nat.shiftLeft_eq]
  rcases Nat.le_total n w with h | h
  · rw [Nat.min_eq_left h]
  · rw [Nat.min_eq_right h]
    have : 2 ^ n = 2 ^ w * 2 ^ (n - w) := by rw [← Nat.pow_add]; congr 1; omega
    rw [this, Nat.mul_comm (2 ^ w), ← Nat.mul_assoc]
    simp
theorem shr_bits {w : Nat} (a : BitVec w) (n : Nat) : ((a.toNat : Int)).fdiv (2 ^ (min n w)) = ((a >>> n).toNat : Int) := by
  have e1 : (2 : Int) ^ (min n w) = ((2 ^ (min n w) : Nat) : Int) := by simp
  rw [e1, Int.fdiv_eq_ediv_of_nonneg _ (Int.natCast_nonneg _), BitVec.toNat_ushiftRight, Nat.shiftRight_eq_div_pow]
  rcases Nat.le_total n w with h | h
  · rw [Nat.min_eq_left h]; simp
  · rw [Nat.min_eq_right h]
    have h1 : a.toNat / 2 ^ w = 0 := Nat.div_eq_of_lt a.isLt
    have h2 : a.toNat / 2 ^ n = 0 := Nat.div_eq_of_lt (Nat.lt_of_lt_of_le a.isLt (Nat.pow_le_pow_right (by omega) h))
    rw [h2]; exact_mod_cast h1
end
end Go.Eng
namespace Go.Eng
section
variable {P : Program} {e : En} {S : WS} {d : Option Tmp} {ty t yt sT dT : TypeId} {pos : String} {aft : Array Edge} {g : Option (Nat × Bool)} {x y : Operand} {k j : IntKind} {m n : Int}
theorem Yl.xor8 {a b : BitVec 8} (hx : e.ev x = u8 a := by rfl) (hy : e.ev y = u8 b := by rfl) : Yl P S e ⟨d, .binOp .xor t x y yt, ty, pos, aft, g⟩ (u8 (a ^^^ b)) :=
  Yl.bin_int hx hy fun w => by simp only [binOp, Op.intBits, IntKind.bits, ofInt_toNat, wrap_u8]; rfl
theorem Yl.or8 {a b : BitVec 8} (hx : e.ev x = u8 a := by rfl) (hy : e.ev y = u8 b := by rfl) : Yl P S e ⟨d, .binOp .or t x y yt, ty, pos, aft, g⟩ (u8 (a ||| b)) :=
  Yl.bin_int hx hy fun w => by simp only [binOp, Op.intBits, IntKind.bits, ofInt_toNat, wrap_u8]; rfl
theorem Yl.and8 {a b : BitVec 8} (hx : e.ev x = u8 a := by rfl) (hy : e.ev y = u8 b := by rfl) : Yl P S e ⟨d, .binOp .and t x y yt, ty, pos, aft, g⟩ (u8 (a &&& b)) :=
  Yl.bin_int hx hy fun w => by simp only [binOp, Op.intBits, IntKind.bits, ofInt_toNat, wrap_u8]; rfl
theorem Yl.andNot8 {a b : BitVec 8} (hx : e.ev x = u8 a := by rfl) (hy : e.ev y = u8 b := by rfl) : Yl P S e ⟨d, .binOp .andNot t x y yt, ty, pos, aft, g⟩ (u8 (a &&& ~~~b)) :=
  Yl.bin_int hx hy fun w => by simp only [binOp, Op.intBits, IntKind.bits, ofInt_toNat, wrap_u8]; rfl
theorem Yl.add8 {a b : BitVec 8} (hx : e.ev x = u8 a := by rfl) (hy : e.ev y = u8 b := by rfl) : Yl P S e ⟨d, .binOp .add t x y yt, ty, pos, aft, g⟩ (u8 (a + b)) :=
  Yl.bin_int hx hy fun w => by simp only [binOp, Op.intArith, wrap_u8, BitVec.ofInt_add, ofInt_toNat]; rfl
theorem Yl.sub8 {a b : BitVec 8} (hx : e.ev x = u8 a := by rfl) (hy : e.ev y = u8 b := by rfl) : Yl P S e ⟨d, .binOp .sub t x y yt, ty, pos, aft, g⟩ (u8 (a - b)) :=
  Yl.bin_int hx hy fun w => by simp only [binOp, Op.intArith, wrap_u8, ofInt_sub', ofInt_toNat]; rfl
theorem Yl.mul8 {a b : BitVec 8} (hx : e.ev x = u8 a := by rfl) (hy : e.ev y = u8 b := by rfl) : Yl P S e ⟨d, .binOp .mul t x y yt, ty, pos, aft, g⟩ (u8 (a * b)) :=
  Yl.bin_int hx hy fun w => by simp only [binOp, Op.intArith, wrap_u8, BitVec.ofInt_mul, ofInt_toNat]; rfl
theorem Yl.shl8 {a : BitVec 8} (c : Nat) (hx : e.ev x = u8 a := by rfl) (hy : e.ev y = .int j (c : Int) := by rfl) : Yl P S e ⟨d, .binOp .shl t x y yt, ty, pos, aft, g⟩ (u8 (a <<< c)) :=
  Yl.bin_int hx hy fun w => by
    have : ¬ ((c : Int) < 0) := by omega
    simp only [binOp, Op.shift, this, if_false, Int.toNat_natCast, IntKind.bits, wrap_u8, shl_bits]; rfl
theorem Yl.shr8 {a : BitVec 8} (c : Nat) (hx : e.ev x = u8 a := by rfl) (hy : e.ev y = .int j (c : Int) := by rfl) : Yl P S e ⟨d, .binOp .shr t x y yt, ty, pos, aft, g⟩ (u8 (a >>> c)) :=
  Yl.bin_int hx hy fun w => by
    have : ¬ ((c : Int) < 0) := by omega
    simp only [binOp, Op.shift, this, if_false, Int.toNat_natCast, IntKind.bits, shr_bits]; rfl
theorem Yl.shlv8 {a : BitVec 8} (hx : e.ev x = u8 a := by rfl) (hy : e.ev y = .int j n := by rfl) (h0 : 0 ≤ n := by omega) : Yl P S e ⟨d, .binOp .shl t x y yt, ty, pos, aft, g⟩ (u8 (a <<< n.toNat)) :=
  Yl.shl8 n.toNat hx (by rw [hy]; congr 1; omega)
theorem Yl.shrv8 {a : BitVec 8} (hx : e.ev x = u8 a := by rfl) (hy : e.ev y = .int j n := by rfl) (h0 : 0 ≤ n := by omega) : Yl P S e ⟨d, .binOp .shr t x y yt, ty, pos, aft, g⟩ (u8 (a >>> n.toNat)) :=
  Yl.shr8 n.toNat hx (by rw [hy]; congr 1; omega)
theorem Yl.eq8 {a b : BitVec 8} (hx : e.ev x = u8 a := by rfl) (hy : e.ev y = u8 b := by rfl) : Yl P S e ⟨d, .binOp .eql t x y yt, ty, pos, aft, g⟩ (.bool (decide (a = b))) := by
  have h := Yl.eql (P := P) (S := S) (d := d) (t := t) (yt := yt) (ty := ty) (pos := pos) (aft := aft) (g := g) hx hy
  have e1 : decide ((a.toNat : Int) = (b.toNat : Int)) = decide (a = b) := by congr 1; rw [BitVec.toNat_inj.symm]; exact propext Int.ofNat_inj
  rw [e1] at h; exact h
theorem Yl.ne8 {a b : BitVec 8} (hx : e.ev x = u8 a := by rfl) (hy : e.ev y = u8 b := by rfl) : Yl P S e ⟨d, .binOp .neq t x y yt, ty, pos, aft, g⟩ (.bool (decide (a ≠ b))) := by
  have h := Yl.neq (P := P) (S := S) (d := d) (t := t) (yt := yt) (ty := ty) (pos := pos) (aft := aft) (g := g) hx hy
  have e1 : decide ((a.toNat : Int) ≠ (b.toNat : Int)) = decide (a ≠ b) := by congr 1; rw [ne_eq, ne_eq, BitVec.toNat_inj.symm, Int.ofNat_inj]
  rw [e1] at h; exact h
theorem run_conv_to8 (hs : P.underlying sT = some (.int j)) (hd : P.underlying dT = some (.int .u8)) (m : Int) (w : World) : (convert sT dT (.int j m)).run P w = .ok (u8 (BitVec.ofInt 8 m)) w := by
  simp only [convert, Sem.run_bind, run_underlying hs, run_underlying hd, Result.andThen_ok, Conv.intToInt, wrap_u8]; rfl
theorem Yl.to8 (hs : P.underlying sT = some (.int j) := by exact Und.out) (hd : P.underlying dT = some (.int .u8) := by exact Und.out) (hx : e.ev x = .int j m := by rfl) : Yl P S e ⟨d, .convert sT dT x, ty, pos, aft, g⟩ (u8 (BitVec.ofInt 8 m)) := fun w _ => by
  simp only [execOp, hx, Sem.run_bind, run_conv_to8 hs hd, Result.andThen_ok, Sem.run_pure]
theorem Yl.w8to8 {a : BitVec 8} (hs : P.underlying sT = some (.int .u8) := by exact Und.out) (hd : P.underlying dT = some (.int .u8) := by exact Und.out) (hx : e.ev x = u8 a := by rfl) : Yl P S e ⟨d, .convert sT dT x, ty, pos, aft, g⟩ (u8 (a.setWidth 8)) := by
  have h := Yl.to8 (P := P) (S := S) (d := d) (ty := ty) (pos := pos) (aft := aft) (g := g) hs hd hx
  have e1 : BitVec.ofInt 8 (a.toNat : Int) = a.setWidth 8 := by apply BitVec.eq_of_toNat_eq; simp
  rw [e1] at h; exact h
theorem Yl.w32to8 {a : BitVec 32} (hs : P.underlying sT = some (.int .u32) := by exact Und.out) (hd : P.underlying dT = some (.int .u8) := by exact Und.out) (hx : e.ev x = u32 a := by rfl) : Yl P S e ⟨d, .convert sT dT x, ty, pos, aft, g⟩ (u8 (a.setWidth 8)) := by
  have h := Yl.to8 (P := P) (S := S) (d := d) (ty := ty) (pos := pos) (aft := aft) (g := g) hs hd hx
  have e1 : BitVec.ofInt 8 (a.toNat : Int) = a.setWidth 8 := by apply BitVec.eq_of_toNat_eq; simp
  rw [e1] at h; exact h
theorem Yl.w64to8 {a : BitVec 64} (hs : P.underlying sT = some (.int .u64) := by exact Und.out) (hd : P.underlying dT = some (.int .u8) := by exact Und.out) (hx : e.ev x = u64 a := by rfl) : Yl P S e ⟨d, .convert sT dT x, ty, pos, aft, g⟩ (u8 (a.setWidth 8)) := by
  have h := Yl.to8 (P := P) (S := S) (d := d) (ty := ty) (pos := pos) (aft := aft) (g := g) hs hd hx
  have e1 : BitVec.ofInt 8 (a.toNat : Int) = a.setWidth 8 := by apply BitVec.eq_of_toNat_eq; simp
  rw [e1] at h; exact h
theorem Yl.toI8 {a : BitVec 8} (hs : P.underlying sT = some (.int .u8) := by exact Und.out) (hd : P.underlying dT = some (.int .i64) := by exact Und.out) (hx : e.ev x = u8 a := by rfl) : Yl P S e ⟨d, .convert sT dT x, ty, pos, aft, g⟩ (iv (a.toNat : Int)) := fun w _ => by
  have hl := a.isLt
  simp only [execOp, hx, convert, Sem.run_bind, run_underlying hs, run_underlying hd, Result.andThen_ok, Conv.intToInt, wrap_i64 _ (by omega : -9223372036854775808 ≤ (a.toNat : Int)) (by omega), Sem.run_pure]
theorem Yl.xor32 {a b : BitVec 32} (hx : e.ev x = u32 a := by rfl) (hy : e.ev y = u32 b := by rfl) : Yl P S e ⟨d, .binOp .xor t x y yt, ty, pos, aft, g⟩ (u32 (a ^^^ b)) :=
  Yl.bin_int hx hy fun w => by simp only [binOp, Op.intBits, IntKind.bits, ofInt_toNat, wrap_u32]; rfl
theorem Yl.or32 {a b : BitVec 32} (hx : e.ev x = u32 a := by rfl) (hy : e.ev y = u32 b := by rfl) : Yl P S e ⟨d, .binOp .or t x y yt, ty, pos, aft, g⟩ (u32 (a ||| b)) :=
  Yl.bin_int hx hy fun w => by simp only [binOp, Op.intBits, IntKind.bits, ofInt_toNat, wrap_u32]; rfl
theorem Yl.and32 {a b : BitVec 32} (hx : e.ev x = u32 a := by rfl) (hy : e.ev y = u32 b := by rfl) : Yl P S e ⟨d, .binOp .and t x y yt, ty, pos, aft, g⟩ (u32 (a &&& b)) :=
  Yl.bin_int hx hy fun w => by simp only [binOp, Op.intBits, IntKind.bits, ofInt_toNat, wrap_u32]; rfl
theorem Yl.andNot32 {a b : BitVec 32} (hx : e.ev x = u32 a := by rfl) (hy : e.ev y = u32 b := by rfl) : Yl P S e ⟨d, .binOp .andNot t x y yt, ty, pos, aft, g⟩ (u32 (a &&& ~~~b)) :=
  Yl.bin_int hx hy fun w => by simp only [binOp, Op.intBits, IntKind.bits, ofInt_toNat, wrap_u32]; rfl
theorem Yl.add32 {a b : BitVec 32} (hx : e.ev x = u32 a := by rfl) (hy : e.ev y = u32 b := by rfl) : Yl P S e ⟨d, .binOp .add t x y yt, ty, pos, aft, g⟩ (u32 (a + b)) :=
  Yl.bin_int hx hy fun w => by simp only [binOp, Op.intArith, wrap_u32, BitVec.ofInt_add, ofInt_toNat]; rfl
theorem Yl.sub32 {a b : BitVec 32} (hx : e.ev x = u32 a := by rfl) (hy : e.ev y = u32 b := by rfl) : Yl P S e ⟨d, .binOp .sub t x y yt, ty, pos, aft, g⟩ (u32 (a - b)) :=
  Yl.bin_int hx hy fun w => by simp only [binOp, Op.intArith, wrap_u32, ofInt_sub', ofInt_toNat]; rfl
theorem Yl.mul32 {a b : BitVec 32} (hx : e.ev x = u32 a := by rfl) (hy : e.ev y = u32 b := by rfl) : Yl P S e ⟨d, .binOp .mul t x y yt, ty, pos, aft, g⟩ (u32 (a * b)) :=
  Yl.bin_int hx hy fun w => by simp only [binOp, Op.intArith, wrap_u32, BitVec.ofInt_mul, ofInt_toNat]; rfl
theorem Yl.shl32 {a : BitVec 32} (c : Nat) (hx : e.ev x = u32 a := by rfl) (hy : e.ev y = .int j (c : Int) := by rfl) : Yl P S e ⟨d, .binOp .shl t x y yt, ty, pos, aft, g⟩ (u32 (a <<< c)) :=
  Yl.bin_int hx hy fun w => by
    have : ¬ ((c : Int) < 0) := by omega
    simp only [binOp, Op.shift, this, if_false, Int.toNat_natCast, IntKind.bits, wrap_u32, shl_bits]; rfl
theorem Yl.shr32 {a : BitVec 32} (c : Nat) (hx : e.ev x = u32 a := by rfl) (hy : e.ev y = .int j (c : Int) := by rfl) : Yl P S e ⟨d, .binOp .shr t x y yt, ty, pos, aft, g⟩ (u32 (a >>> c)) :=
  Yl.bin_int hx hy fun w => by
    have : ¬ ((c : Int) < 0) := by omega
    simp only [binOp, Op.shift, this, if_false, Int.toNat_natCast, IntKind.bits, shr_bits]; rfl
theorem Yl.shlv32 {a : BitVec 32} (hx : e.ev x = u32 a := by rfl) (hy : e.ev y = .int j n := by rfl) (h0 : 0 ≤ n := by omega) : Yl P S e ⟨d, .binOp .shl t x y yt, ty, pos, aft, g⟩ (u32 (a <<< n.toNat)) :=
  Yl.shl32 n.toNat hx (by rw [hy]; congr 1; omega)
theorem Yl.shrv32 {a : BitVec 32} (hx : e.ev x = u32 a := by rfl) (hy : e.ev y = .int j n := by rfl) (h0 : 0 ≤ n := by omega) : Yl P S e ⟨d, .binOp .shr t x y yt, ty, pos, aft, g⟩ (u32 (a >>> n.toNat)) :=
  Yl.shr32 n.toNat hx (by rw [hy]; congr 1; omega)
theorem Yl.eq32 {a b : BitVec 32} (hx : e.ev x = u32 a := by rfl) (hy : e.ev y = u32 b := by rfl) : Yl P S e ⟨d, .binOp .eql t x y yt, ty, pos, aft, g⟩ (.bool (decide (a = b))) := by
  have h := Yl.eql (P := P) (S := S) (d := d) (t := t) (yt := yt) (ty := ty) (pos := pos) (aft := aft) (g := g) hx hy
  have e1 : decide ((a.toNat : Int) = (b.toNat : Int)) = decide (a = b) := by congr 1; rw [BitVec.toNat_inj.symm]; exact propext Int.ofNat_inj
  rw [e1] at h; exact h
theorem Yl.ne32 {a b : BitVec 32} (hx : e.ev x = u32 a := by rfl) (hy : e.ev y = u32 b := by rfl) : Yl P S e ⟨d, .binOp .neq t x y yt, ty, pos, aft, g⟩ (.bool (decide (a ≠ b))) := by
  have h := Yl.neq (P := P) (S := S) (d := d) (t := t) (yt := yt) (ty := ty) (pos := pos) (aft := aft) (g := g) hx hy
  have e1 : decide ((a.toNat : Int) ≠ (b.toNat : Int)) = decide (a ≠ b) := by congr 1; rw [ne_eq, ne_eq, BitVec.toNat_inj.symm, Int.ofNat_inj]
  rw [e1] at h; exact h
theorem run_conv_to32 (hs : P.underlying sT = some (.int j)) (hd : P.underlying dT = some (.int .u32)) (m : Int) (w : World) : (convert sT dT (.int j m)).run P w = .ok (u32 (BitVec.ofInt 32 m)) w := by
  simp only [convert, Sem.run_bind, run_underlying hs, run_underlying hd, Result.andThen_ok, Conv.intToInt, wrap_u32]; rfl
theorem Yl.to32 (hs : P.underlying sT = some (.int j) := by exact Und.out) (hd : P.underlying dT = some (.int .u32) := by exact Und.out) (hx : e.ev x = .int j m := by rfl) : Yl P S e ⟨d, .convert sT dT x, ty, pos, aft, g⟩ (u32 (BitVec.ofInt 32 m)) := fun w _ => by
  simp only [execOp, hx, Sem.run_bind, run_conv_to32 hs hd, Result.andThen_ok, Sem.run_pure]
theorem Yl.w8to32 {a : BitVec 8} (hs : P.underlying sT = some (.int .u8) := by exact Und.out) (hd : P.underlying dT = some (.int .u32) := by exact Und.out) (hx : e.ev x = u8 a := by rfl) : Yl P S e ⟨d, .convert sT dT x, ty, pos, aft, g⟩ (u32 (a.setWidth 32)) := by
  have h := Yl.to32 (P := P) (S := S) (d := d) (ty := ty) (pos := pos) (aft := aft) (g := g) hs hd hx
  have e1 : BitVec.ofInt 32 (a.toNat : Int) = a.setWidth 32 := by apply BitVec.eq_of_toNat_eq; simp
  rw [e1] at h; exact h
theorem Yl.w32to32 {a : BitVec 32} (hs : P.underlying sT = some (.int .u32) := by exact Und.out) (hd : P.underlying dT = some (.int .u32) := by exact Und.out) (hx : e.ev x = u32 a := by rfl) : Yl P S e ⟨d, .convert sT dT x, ty, pos, aft, g⟩ (u32 (a.setWidth 32)) := by
  have h := Yl.to32 (P := P) (S := S) (d := d) (ty := ty) (pos := pos) (aft := aft) (g := g) hs hd hx
  have e1 : BitVec.ofInt 32 (a.toNat : Int) = a.setWidth 32 := by apply BitVec.eq_of_toNat_eq; simp
  rw [e1] at h; exact h
theorem Yl.w64to32 {a : BitVec 64} (hs : P.underlying sT = some (.int .u64) := by exact Und.out) (hd : P.underlying dT = some (.int .u32) := by exact Und.out) (hx : e.ev x = u64 a := by rfl) : Yl P S e ⟨d, .convert sT dT x, ty, pos, aft, g⟩ (u32 (a.setWidth 32)) := by
  have h := Yl.to32 (P := P) (S := S) (d := d) (ty := ty) (pos := pos) (aft := aft) (g := g) hs hd hx
  have e1 : BitVec.ofInt 32 (a.toNat : Int) = a.setWidth 32 := by apply BitVec.eq_of_toNat_eq; simp
  rw [e1] at h; exact h
theorem Yl.toI32 {a : BitVec 32} (hs : P.underlying sT = some (.int .u32) := by exact Und.out) (hd : P.underlying dT = some (.int .i64) := by exact Und.out) (hx : e.ev x = u32 a := by rfl) : Yl P S e ⟨d, .convert sT dT x, ty, pos, aft, g⟩ (iv (a.toNat : Int)) := fun w _ => by
  have hl := a.isLt
  simp only [execOp, hx, convert, Sem.run_bind, run_underlying hs, run_underlying hd, Result.andThen_ok, Conv.intToInt, wrap_i64 _ (by omega : -9223372036854775808 ≤ (a.toNat : Int)) (by omega), Sem.run_pure]
theorem Yl.xor64 {a b : BitVec 64} (hx : e.ev x = u64 a := by rfl) (hy : e.ev y = u64 b := by rfl) : Yl P S e ⟨d, .binOp .xor t x y yt, ty, pos, aft, g⟩ (u64 (a ^^^ b)) :=
  Yl.bin_int hx hy fun w => by simp only [binOp, Op.intBits, IntKind.bits, ofInt_toNat, wrap_u64]; rfl
theorem Yl.or64 {a b : BitVec 64} (hx : e.ev x = u64 a := by rfl) (hy : e.ev y = u64 b := by rfl) : Yl P S e ⟨d, .binOp .or t x y yt, ty, pos, aft, g⟩ (u64 (a ||| b)) :=
  Yl.bin_int hx hy fun w => by simp only [binOp, Op.intBits, IntKind.bits, ofInt_toNat, wrap_u64]; rfl
theorem Yl.and64 {a b : BitVec 64} (hx : e.ev x = u64 a := by rfl) (hy : e.ev y = u64 b := by rfl) : Yl P S e ⟨d, .binOp .and t x y yt, ty, pos, aft, g⟩ (u64 (a &&& b)) :=
  Yl.bin_int hx hy fun w => by simp only [binOp, Op.intBits, IntKind.bits, ofInt_toNat, wrap_u64]; rfl
theorem Yl.andNot64 {a b : BitVec 64} (hx : e.ev x = u64 a := by rfl) (hy : e.ev y = u64 b := by rfl) : Yl P S e ⟨d, .binOp .andNot t x y yt, ty, pos, aft, g⟩ (u64 (a &&& ~~~b)) :=
  Yl.bin_int hx hy fun w => by simp only [binOp, Op.intBits, IntKind.bits, ofInt_toNat, wrap_u64]; rfl
theorem Yl.add64 {a b : BitVec 64} (hx : e.ev x = u64 a := by rfl) (hy : e.ev y = u64 b := by rfl) : Yl P S e ⟨d, .binOp .add t x y yt, ty, pos, aft, g⟩ (u64 (a + b)) :=
  Yl.bin_int hx hy fun w => by simp only [binOp, Op.intArith, wrap_u64, BitVec.ofInt_add, ofInt_toNat]; rfl
theorem Yl.sub64 {a b : BitVec 64} (hx : e.ev x = u64 a := by rfl) (hy : e.ev y = u64 b := by rfl) : Yl P S e ⟨d, .binOp .sub t x y yt, ty, pos, aft, g⟩ (u64 (a - b)) :=
  Yl.bin_int hx hy fun w => by simp only [binOp, Op.intArith, wrap_u64, ofInt_sub', ofInt_toNat]; rfl
theorem Yl.mul64 {a b : BitVec 64} (hx : e.ev x = u64 a := by rfl) (hy : e.ev y = u64 b := by rfl) : Yl P S e ⟨d, .binOp .mul t x y yt, ty, pos, aft, g⟩ (u64 (a * b)) :=
  Yl.bin_int hx hy fun w => by simp only [binOp, Op.intArith, wrap_u64, BitVec.ofInt_mul, ofInt_toNat]; rfl
theorem Yl.shl64 {a : BitVec 64} (c : Nat) (hx : e.ev x = u64 a := by rfl) (hy : e.ev y = .int j (c : Int) := by rfl) : Yl P S e ⟨d, .binOp .shl t x y yt, ty, pos, aft, g⟩ (u64 (a <<< c)) :=
  Yl.bin_int hx hy fun w => by
    have : ¬ ((c : Int) < 0) := by omega
    simp only [binOp, Op.shift, this, if_false, Int.toNat_natCast, IntKind.bits, wrap_u64, shl_bits]; rfl
theorem Yl.shr64 {a : BitVec 64} (c : Nat) (hx : e.ev x = u64 a := by rfl) (hy : e.ev y = .int j (c : Int) := by rfl) : Yl P S e ⟨d, .binOp .shr t x y yt, ty, pos, aft, g⟩ (u64 (a >>> c)) :=
  Yl.bin_int hx hy fun w => by
    have : ¬ ((c : Int) < 0) := by omega
    simp only [binOp, Op.shift, this, if_false, Int.toNat_natCast, IntKind.bits, shr_bits]; rfl
theorem Yl.shlv64 {a : BitVec 64} (hx : e.ev x = u64 a := by rfl) (hy : e.ev y = .int j n := by rfl) (h0 : 0 ≤ n := by omega) : Yl P S e ⟨d, .binOp .shl t x y yt, ty, pos, aft, g⟩ (u64 (a <<< n.toNat)) :=
  Yl.shl64 n.toNat hx (by rw [hy]; congr 1; omega)
theorem Yl.shrv64 {a : BitVec 64} (hx : e.ev x = u64 a := by rfl) (hy : e.ev y = .int j n := by rfl) (h0 : 0 ≤ n := by omega) : Yl P S e ⟨d, .binOp .shr t x y yt, ty, pos, aft, g⟩ (u64 (a >>> n.toNat)) :=
  Yl.shr64 n.toNat hx (by rw [hy]; congr 1; omega)
theorem Yl.eq64 {a b : BitVec 64} (hx : e.ev x = u64 a := by rfl) (hy : e.ev y = u64 b := by rfl) : Yl P S e ⟨d, .binOp .eql t x y yt, ty, pos, aft, g⟩ (.bool (decide (a = b))) := by
  have h := Yl.eql (P := P) (S := S) (d := d) (t := t) (yt := yt) (ty := ty) (pos := pos) (aft := aft) (g := g) hx hy
  have e1 : decide ((a.toNat : Int) = (b.toNat : Int)) = decide (a = b) := by congr 1; rw [BitVec.toNat_inj.symm]; exact propext Int.ofNat_inj
  rw [e1] at h; exact h
theorem Yl.ne64 {a b : BitVec 64} (hx : e.ev x = u64 a := by rfl) (hy : e.ev y = u64 b := by rfl) : Yl P S e ⟨d, .binOp .neq t x y yt, ty, pos, aft, g⟩ (.bool (decide (a ≠ b))) := by
  have h := Yl.neq (P := P) (S := S) (d := d) (t := t) (yt := yt) (ty := ty) (pos := pos) (aft := aft) (g := g) hx hy
  have e1 : decide ((a.toNat : Int) ≠ (b.toNat : Int)) = decide (a ≠ b) := by congr 1; rw [ne_eq, ne_eq, BitVec.toNat_inj.symm, Int.ofNat_inj]
  rw [e1] at h; exact h
theorem run_conv_to64 (hs : P.underlying sT = some (.int j)) (hd : P.underlying dT = some (.int .u64)) (m : Int) (w : World) : (convert sT dT (.int j m)).run P w = .ok (u64 (BitVec.ofInt 64 m)) w := by
  simp only [convert, Sem.run_bind, run_underlying hs, run_underlying hd, Result.andThen_ok, Conv.intToInt, wrap_u64]; rfl
theorem Yl.to64 (hs : P.underlying sT = some (.int j) := by exact Und.out) (hd : P.underlying dT = some (.int .u64) := by exact Und.out) (hx : e.ev x = .int j m := by rfl) : Yl P S e ⟨d, .convert sT dT x, ty, pos, aft, g⟩ (u64 (BitVec.ofInt 64 m)) := fun w _ => by
  simp only [execOp, hx, Sem.run_bind, run_conv_to64 hs hd, Result.andThen_ok, Sem.run_pure]
theorem Yl.w8to64 {a : BitVec 8} (hs : P.underlying sT = some (.int .u8) := by exact Und.out) (hd : P.underlying dT = some (.int .u64) := by exact Und.out) (hx : e.ev x = u8 a := by rfl) : Yl P S e ⟨d, .convert sT dT x, ty, pos, aft, g⟩ (u64 (a.setWidth 64)) := by
  have h := Yl.to64 (P := P) (S := S) (d := d) (ty := ty) (pos := pos) (aft := aft) (g := g) hs hd hx
  have e1 : BitVec.ofInt 64 (a.toNat : Int) = a.setWidth 64 := by apply BitVec.eq_of_toNat_eq; simp
  rw [e1] at h; exact h
theorem Yl.w32to64 {a : BitVec 32} (hs : P.underlying sT = some (.int .u32) := by exact Und.out) (hd : P.underlying dT = some (.int .u64) := by exact Und.out) (hx : e.ev x = u32 a := by rfl) : Yl P S e ⟨d, .convert sT dT x, ty, pos, aft, g⟩ (u64 (a.setWidth 64)) := by
  have h := Yl.to64 (P := P) (S := S) (d := d) (ty := ty) (pos := pos) (aft := aft) (g := g) hs hd hx
  have e1 : BitVec.ofInt 64 (a.toNat : Int) = a.setWidth 64 := by apply BitVec.eq_of_toNat_eq; simp
  rw [e1] at h; exact h
theorem Yl.w64to64 {a : BitVec 64} (hs : P.underlying sT = some (.int .u64) := by exact Und.out) (hd : P.underlying dT = some (.int .u64) := by exact Und.out) (hx : e.ev x = u64 a := by rfl) : Yl P S e ⟨d, .convert sT dT x, ty, pos, aft, g⟩ (u64 (a.setWidth 64)) := by
  have h := Yl.to64 (P := P) (S := S) (d := d) (ty := ty) (pos := pos) (aft := aft) (g := g) hs hd hx
  have e1 : BitVec.ofInt 64 (a.toNat : Int) = a.setWidth 64 := by apply BitVec.eq_of_toNat_eq; simp
  rw [e1] at h; exact h
theorem Yl.toI64 {a : BitVec 64} (hs : P.underlying sT = some (.int .u64) := by exact Und.out) (hd : P.underlying dT = some (.int .i64) := by exact Und.out) (hx : e.ev x = u64 a := by rfl) (hlt : a.toNat ≤ 9223372036854775807 := by omega) : Yl P S e ⟨d, .convert sT dT x, ty, pos, aft, g⟩ (iv (a.toNat : Int)) := fun w _ => by
  have hl := a.isLt
  simp only [execOp, hx, convert, Sem.run_bind, run_underlying hs, run_underlying hd, Result.andThen_ok, Conv.intToInt, wrap_i64 _ (by omega : -9223372036854775808 ≤ (a.toNat : Int)) (by omega), Sem.run_pure]
theorem Yl.toII (hs : P.underlying sT = some (.int .i64) := by exact Und.out) (hd : P.underlying dT = some (.int .i64) := by exact Und.out) (hx : e.ev x = iv m := by rfl) (h1 : -9223372036854775808 ≤ m := by omega) (h2 : m ≤ 9223372036854775807 := by omega) : Yl P S e ⟨d, .convert sT dT x, ty, pos, aft, g⟩ (iv m) := fun w _ => by
  simp only [execOp, hx, convert, Sem.run_bind, run_underlying hs, run_underlying hd, Result.andThen_ok, Conv.intToInt, wrap_i64 _ h1 h2, Sem.run_pure]
end
end Go.Eng

/- What is known of memory. -/
namespace Go.Eng

abbrev ad (g o : Nat) : Addr := ⟨g, o, none⟩
abbrev pt (g o : Nat) : Value := .pointer (some ⟨g, o, none⟩)
/-- A slice at the head of a block, or none. -/
abbrev sl (ao : Option Nat) (n c : Nat) : Value := .slice (ao.map fun g => ⟨g, 0, none⟩) n c

inductive Hl where
  | blk (b : Nat) (T : TypeId) (cs : List Value)
  | row (ao : Option Nat) (T : TypeId) (sz n c : Nat) (xs : List Value)
  | obj (b : Nat) (o : Obj)
def Hl.id : Hl → Option Nat
  | .blk b _ _ => some b
  | .row ao _ _ _ _ _ => ao
  | .obj b _ => some b
def Hl.holds (w : World) : Hl → Prop
  | .blk b T cs => w.heap[b]? = some (.cells cs.toArray T (0, 0))
  | .row ao T sz n c xs => w.ownsRow 0 T sz (sl ao n c) n xs
  | .obj b o => w.heap[b]? = some o ∧ ∀ cs T f, o ≠ .cells cs T f
def Hl.apart (x y : Hl) : Prop := ∀ k, x.id = some k → y.id ≠ some k
theorem Hl.apart_symm {x y : Hl} (h : x.apart y) : y.apart x := fun k hy hx => h k hx hy
theorem Hl.row_cases {w : World} {ao : Option Nat} {T : TypeId} {sz n c : Nat} {xs : List Value} (h : (Hl.row ao T sz n c xs).holds w) :
    (ao = none ∧ n = 0 ∧ c = 0 ∧ xs = []) ∨ ∃ g spare, ao = some g ∧ w.heap[g]? = some (.cells (xs ++ spare).toArray T (0, 0)) ∧ n ≤ c ∧ c ≤ maxLen ∧ xs.length = n * sz ∧ (xs ++ spare).length = c * sz := by
  obtain ⟨h1, h2⟩ := h
  rcases h2 with ⟨h2, rfl⟩ | ⟨g, cap, cur, hv, _, hg, hn, hc, hs, ht⟩
  · cases ao with
    | none => simp [sl] at h2; exact .inl ⟨rfl, rfl, h2, by simpa using h1⟩
    | some g => simp [sl] at h2
  · cases ao with
    | none => simp [sl] at hv
    | some g' =>
      simp [sl] at hv
      obtain ⟨rfl, rfl⟩ := hv
      refine .inr ⟨g', cur.toList.drop (n * sz), rfl, ?_, hn, hc, h1, ?_⟩
      · rw [hg, ← ht, List.take_append_drop]
      · rw [← ht, List.take_append_drop]; simpa using hs
theorem Hl.row_some {w : World} {g : Nat} {T : TypeId} {sz n c : Nat} {xs spare : List Value} (h : w.heap[g]? = some (.cells (xs ++ spare).toArray T (0, 0))) (hn : n ≤ c) (hc : c ≤ maxLen)
    (hx : xs.length = n * sz) (hs : (xs ++ spare).length = c * sz) : (Hl.row (some g) T sz n c xs).holds w :=
  ⟨hx, .inr ⟨g, c, (xs ++ spare).toArray, rfl, Nat.zero_le _, h, hn, hc, by simpa using hs, by rw [← hx]; simp⟩⟩
theorem Hl.row_none (w : World) (T : TypeId) (sz : Nat) : (Hl.row none T sz 0 0 []).holds w := ⟨by simp, .inl ⟨rfl, rfl⟩⟩
theorem Hl.lt {w : World} {h : Hl} (hh : h.holds w) {k : Nat} (hk : h.id = some k) : k < w.heap.size := by
  cases h with
  | blk b T cs => simp only [Hl.id, Option.some.injEq] at hk; subst hk; exact (Array.getElem?_eq_some_iff.1 hh).1
  | row ao T sz n c xs =>
    simp only [Hl.id] at hk; subst hk
    rcases Hl.row_cases hh with ⟨h, _⟩ | ⟨g, spare, h, hg, _⟩
    · cases h
    · cases h; exact (Array.getElem?_eq_some_iff.1 hg).1
  | obj b o => simp only [Hl.id, Option.some.injEq] at hk; subst hk; exact (Array.getElem?_eq_some_iff.1 hh.1).1
theorem Hl.keep {w w' : World} {h : Hl} (hh : h.holds w) (hk : ∀ k, h.id = some k → w'.heap[k]? = w.heap[k]?) : h.holds w' := by
  cases h with
  | blk b T cs => exact (hk b rfl).trans hh
  | row ao T sz n c xs =>
    rcases Hl.row_cases hh with ⟨rfl, rfl, rfl, rfl⟩ | ⟨g, spare, rfl, hg, h1, h2, h3, h4⟩
    · exact Hl.row_none _ _ _
    · exact Hl.row_some ((hk g rfl).trans hg) h1 h2 h3 h4
  | obj b o => exact ⟨(hk b rfl).trans hh.1, hh.2⟩

/-- w has come out of w0: outside the blocks F what was there is as it was; and what L says holds. -/
structure Tr (w0 : World) (F : List Nat) (L : List Hl) (w : World) : Prop where
  os : w.os = w0.os
  tape : w.tape = w0.tape
  output : w.output = w0.output
  size : w0.heap.size ≤ w.heap.size
  keep : ∀ k, k < w0.heap.size → k ∉ F → w.heap[k]? = w0.heap[k]?
  sat : ∀ h ∈ L, h.holds w
  apart : L.Pairwise Hl.apart

theorem Tr.refl (w : World) (F : List Nat) : Tr w F [] w := ⟨rfl, rfl, rfl, Nat.le_refl _, fun _ _ _ => rfl, by simp, .nil⟩
theorem Tr.start {w : World} (F : List Nat) {L : List Hl} (h : ∀ h ∈ L, h.holds w) (ha : L.Pairwise Hl.apart) : Tr w F L w := ⟨rfl, rfl, rfl, Nat.le_refl _, fun _ _ _ => rfl, h, ha⟩
theorem Tr.start1 {w : World} (F : List Nat) {x : Hl} (h : x.holds w) : Tr w F [x] w := Tr.start F (by simpa using h) (by simp)
theorem Tr.start2 {w : World} (F : List Nat) {x y : Hl} (h : x.holds w) (h' : y.holds w) (ha : x.apart y) : Tr w F [x, y] w := Tr.start F (by simp [h, h']) (by simp [ha])
theorem Tr.sub {w0 w : World} {F : List Nat} {L L' : List Hl} (h : Tr w0 F L w) (hl : L'.Sublist L) : Tr w0 F L' w :=
  ⟨h.os, h.tape, h.output, h.size, h.keep, fun x hx => h.sat x (hl.subset hx), h.apart.sublist hl⟩
theorem Tr.clear {w0 w : World} {F : List Nat} {L : List Hl} (h : Tr w0 F L w) : Tr w0 F [] w := h.sub (List.nil_sublist _)
theorem Tr.widen {w0 w : World} {F F' : List Nat} {L : List Hl} (h : Tr w0 F L w) (hF : ∀ k ∈ F, k ∈ F' ∨ w0.heap.size ≤ k) : Tr w0 F' L w :=
  ⟨h.os, h.tape, h.output, h.size, fun k hk hn => h.keep k hk fun hf => by rcases hF k hf with h | h; exact hn h; omega, h.sat, h.apart⟩
theorem Tr.drawn {w0 w : World} {F : List Nat} {L : List Hl} (h : Tr w0 F L w) (n : Nat) : Tr w0 F L { w with drawn := n } :=
  ⟨h.os, h.tape, h.output, h.size, h.keep, fun x hx => Hl.keep (h.sat x hx) fun _ _ => rfl, h.apart⟩
/-- The step to another world. D: what was written. -/
theorem Tr.step {w0 w w' : World} {F : List Nat} {L : List Hl} (h : Tr w0 F L w) {D : List Nat} {N R : List Hl} (hc : Tr w D N w') (hD : ∀ k ∈ D, k ∈ F ∨ w0.heap.size ≤ k)
    (hR : R.Sublist L) (hRD : ∀ x ∈ R, ∀ k, x.id = some k → k ∉ D) (hN : ∀ x ∈ N, ∀ k, x.id = some k → k ∈ D ∨ w.heap.size ≤ k) : Tr w0 F (N ++ R) w' := by
  refine ⟨hc.os.trans h.os, hc.tape.trans h.tape, hc.output.trans h.output, Nat.le_trans h.size hc.size, fun k hk hn => ?_, fun x hx => ?_, ?_⟩
  · have : k ∉ D := fun hd => by rcases hD k hd with h | h; exact hn h; omega
    exact (hc.keep k (Nat.lt_of_lt_of_le hk h.size) this).trans (h.keep k hk hn)
  · rcases List.mem_append.1 hx with hx | hx
    · exact hc.sat x hx
    · have hs := h.sat x (hR.subset hx)
      exact Hl.keep hs fun k hk => hc.keep k (Hl.lt hs hk) (hRD x hx k hk)
  · rw [List.pairwise_append]
    refine ⟨hc.apart, h.apart.sublist hR, fun x hx y hy k hk hy' => ?_⟩
    have hlt := Hl.lt (h.sat y (hR.subset hy)) hy'
    rcases hN x hx k hk with h1 | h1
    · exact hRD y hy k hy' h1
    · omega
theorem Tr.call0 {w0 w w' : World} {F : List Nat} {L : List Hl} (h : Tr w0 F L w) (hc : Tr w [] [] w') : Tr w0 F L w' := by
  simpa using h.step hc (by simp) (List.Sublist.refl _) (by simp) (by simp)
theorem Tr.callN {w0 w w' : World} {F : List Nat} {L N : List Hl} (h : Tr w0 F L w) (hc : Tr w [] N w') (hN : ∀ x ∈ N, ∀ k, x.id = some k → w.heap.size ≤ k) : Tr w0 F (N ++ L) w' :=
  h.step hc (by simp) (List.Sublist.refl _) (by simp) (fun x hx k hk => .inr (hN x hx k hk))

/-- h stands in L; u: L with another one at its place. -/
inductive At (h : Hl) : List Hl → (Hl → List Hl) → Prop where
  | head {l : List Hl} : At h (h :: l) (fun x => x :: l)
  | tail {a : Hl} {l : List Hl} {u : Hl → List Hl} (t : At h l u) : At h (a :: l) (fun x => a :: u x)
theorem At.split {h : Hl} {L : List Hl} {u : Hl → List Hl} (t : At h L u) : ∃ A B, L = A ++ h :: B ∧ ∀ x, u x = A ++ x :: B := by
  induction t with
  | head => exact ⟨[], _, rfl, fun _ => rfl⟩
  | @tail a l u t ih =>
    obtain ⟨A, B, h1, h2⟩ := ih
    exact ⟨a :: A, B, by rw [h1]; rfl, fun x => by show a :: u x = _; rw [h2]; rfl⟩
theorem At.mem {h : Hl} {L : List Hl} {u : Hl → List Hl} (t : At h L u) : h ∈ L := by
  obtain ⟨A, B, rfl, _⟩ := t.split
  simp
theorem perm_middle_pairwise {A B : List Hl} {x : Hl} : (A ++ x :: B).Pairwise Hl.apart ↔ (x :: (A ++ B)).Pairwise Hl.apart :=
  List.Perm.pairwise_iff (fun h => Hl.apart_symm h) List.perm_middle
theorem Tr.perm {w0 w : World} {F : List Nat} {L L' : List Hl} (h : Tr w0 F L w) (hp : L.Perm L') : Tr w0 F L' w :=
  ⟨h.os, h.tape, h.output, h.size, h.keep, fun x hx => h.sat x (hp.mem_iff.2 hx), (List.Perm.pairwise_iff (fun h => Hl.apart_symm h) hp).1 h.apart⟩
/-- One that is known turns into others (which may be new, or lie where it lay). -/
theorem Tr.at_step {w0 w w' : World} {F : List Nat} {L N : List Hl} {h h' : Hl} {u : Hl → List Hl} (hT : Tr w0 F L w) (t : At h L u) {D : List Nat} (hc : Tr w D (h' :: N) w')
    (hD : ∀ k ∈ D, h.id = some k ∧ (k ∈ F ∨ w0.heap.size ≤ k)) (hN : ∀ x ∈ h' :: N, ∀ k, x.id = some k → h.id = some k ∨ w.heap.size ≤ k) : Tr w0 F (N ++ u h') w' := by
  obtain ⟨A, B, rfl, hu⟩ := t.split
  have hp := perm_middle_pairwise.1 hT.apart
  have hs := (List.pairwise_cons.1 hp).1
  have hR : (A ++ B).Sublist (A ++ h :: B) := List.Sublist.append (List.Sublist.refl A) (List.sublist_cons_self h B)
  have hstep : Tr w0 F ((h' :: N) ++ (A ++ B)) w' := by
    refine ⟨hc.os.trans hT.os, hc.tape.trans hT.tape, hc.output.trans hT.output, Nat.le_trans hT.size hc.size, fun k hk hn => ?_, fun x hx => ?_, ?_⟩
    · have : k ∉ D := fun hd => by rcases (hD k hd).2 with h | h; exact hn h; omega
      exact (hc.keep k (Nat.lt_of_lt_of_le hk hT.size) this).trans (hT.keep k hk hn)
    · rcases List.mem_append.1 hx with hx | hx
      · exact hc.sat x hx
      · have h1 := hT.sat x (hR.subset hx)
        exact Hl.keep h1 fun k hk => hc.keep k (Hl.lt h1 hk) (fun hd => hs x hx k (hD k hd).1 hk)
    · rw [List.pairwise_append]
      refine ⟨hc.apart, hT.apart.sublist hR, fun x hx y hy k hk hy' => ?_⟩
      have hlt := Hl.lt (hT.sat y (hR.subset hy)) hy'
      rcases hN x hx k hk with h1 | h1
      · exact hs y hy k h1 hy'
      · omega
  refine hstep.perm ?_
  rw [hu]
  rw [← List.append_assoc N A]
  refine List.Perm.trans ?_ List.perm_middle.symm
  rw [List.cons_append, ← List.append_assoc]
class AtB (b : Nat) (L : List Hl) (T : outParam TypeId) (cs : outParam (List Value)) (u : outParam (Hl → List Hl)) : Prop where
  ha : At (.blk b T cs) L u
instance AtB.hd {b : Nat} {T : TypeId} {cs : List Value} {l : List Hl} : AtB b (.blk b T cs :: l) T cs (fun x => x :: l) := ⟨.head⟩
instance AtB.tl {b : Nat} {T : TypeId} {cs : List Value} {a : Hl} {l : List Hl} {u : Hl → List Hl} [h : AtB b l T cs u] : AtB b (a :: l) T cs (fun x => a :: u x) := ⟨.tail h.ha⟩
class AtR (ao : Option Nat) (L : List Hl) (T : outParam TypeId) (sz n c : outParam Nat) (xs : outParam (List Value)) (u : outParam (Hl → List Hl)) : Prop where
  ha : At (.row ao T sz n c xs) L u
instance AtR.hd {ao : Option Nat} {T : TypeId} {sz n c : Nat} {xs : List Value} {l : List Hl} : AtR ao (.row ao T sz n c xs :: l) T sz n c xs (fun x => x :: l) := ⟨.head⟩
instance AtR.tl {ao : Option Nat} {T : TypeId} {sz n c : Nat} {xs : List Value} {a : Hl} {l : List Hl} {u : Hl → List Hl} [h : AtR ao l T sz n c xs u] : AtR ao (a :: l) T sz n c xs (fun x => a :: u x) := ⟨.tail h.ha⟩
class AtO (b : Nat) (L : List Hl) (o : outParam Obj) (u : outParam (Hl → List Hl)) : Prop where
  ha : At (.obj b o) L u
instance AtO.hd {b : Nat} {o : Obj} {l : List Hl} : AtO b (.obj b o :: l) o (fun x => x :: l) := ⟨.head⟩
instance AtO.tl {b : Nat} {o : Obj} {a : Hl} {l : List Hl} {u : Hl → List Hl} [h : AtO b l o u] : AtO b (a :: l) o (fun x => a :: u x) := ⟨.tail h.ha⟩
end Go.Eng

/- Operations on memory. -/
open Go.RowKit
namespace Go.Eng
section
variable {P : Program} {ops : Array Oper} {Q : Exit → Act → World → Prop} {e : En} {ds : List Deferred} {o : Oper} {rest : List Oper}
variable {w0 : World} {F : List Nat} {L : List Hl} {d : Option Tmp} {ty t yt : TypeId} {pos : String} {aft : Array Edge} {g : Option (Nat × Bool)} {x y : Operand} {k j : IntKind} {m n : Int}
variable {b ofs base : Nat} {cs xs vs : List Value} {v : Value} {T : TypeId} {u : Hl → List Hl}

/-! #### types -/
class NoAgg (P : Program) (t : TypeId) : Prop where
  ex : ∃ dd, P.underlying t = some dd ∧ (∀ f, dd ≠ .struct f) ∧ ∀ n e, dd ≠ .array n e
class AggOf (P : Program) (t : TypeId) (sz : outParam Nat) : Prop where
  ex : (∃ dd, P.underlying t = some dd ∧ ((∃ f, dd = .struct f) ∨ ∃ n e, dd = .array n e)) ∧ ∃ i, P.info? t = some i ∧ i.size = sz
class SizeOf (P : Program) (t : TypeId) (sz : outParam Nat) : Prop where
  ex : ∃ i, P.info? t = some i ∧ i.size = sz
class ZeroOf (P : Program) (t : TypeId) (zs : outParam (List Value)) : Prop where
  ex : ∃ i z, P.info? t = some i ∧ i.zero = some z ∧ z.cells.toList = zs
/-- size in cells, zero value's cells, bytes -/
class ElemOf (P : Program) (t : TypeId) (sz bytes : outParam Nat) (zs : outParam (List Value)) : Prop where
  ex : ∃ i z, P.info? t = some i ∧ i.zero = some z ∧ z.cells.toList = zs ∧ i.size = sz ∧ i.bytes = bytes ∧ zs.length = sz

theorem run_isAgg_no (h : NoAgg P t) (w : World) : (isAgg t).run P w = .ok false w := by
  obtain ⟨dd, h1, h2, h3⟩ := h
  unfold isAgg
  simp only [Sem.run_bind, run_underlying h1, Result.andThen_ok]
  cases dd <;> first | rfl | exact absurd rfl (h2 _) | exact absurd rfl (h3 _ _)
theorem run_isAgg_yes {sz : Nat} (h : AggOf P t sz) (w : World) : (isAgg t).run P w = .ok true w := by
  obtain ⟨⟨dd, h1, h2⟩, _⟩ := h
  unfold isAgg
  simp only [Sem.run_bind, run_underlying h1, Result.andThen_ok]
  rcases h2 with ⟨f, rfl⟩ | ⟨n, e, rfl⟩ <;> rfl
theorem run_sizeOf {sz : Nat} (h : SizeOf P t sz) (w : World) : (sizeOf t).run P w = .ok sz w := by
  obtain ⟨i, h1, h2⟩ := h
  simp [sizeOf, typeInfo, h1, h2]
theorem AggOf.size {sz : Nat} (h : AggOf P t sz) : SizeOf P t sz := ⟨h.ex.2⟩

/-! #### what reads -/
/-- In every world of the state the cells of block b from 'base' on read xs. -/
def Rd (w0 : World) (F : List Nat) (L : List Hl) (b base : Nat) (xs : List Value) : Prop := ∀ w, Tr w0 F L w → ∀ i v, xs[i]? = some v → w.cell? ⟨b, base + i, none⟩ = some v
theorem Rd.blk (h : Hl.blk b T cs ∈ L) : Rd w0 F L b 0 cs := fun w hw i v hv => by
  have := hw.sat _ h
  rw [cell_of_row w b (0 + i) _ _ _ this]
  simpa using hv
theorem Rd.row {sz n c : Nat} (h : Hl.row (some b) T sz n c cs ∈ L) : Rd w0 F L b 0 cs := fun w hw i v hv => by
  rcases Hl.row_cases (hw.sat _ h) with ⟨h, _⟩ | ⟨g, spare, h, hg, _⟩
  · cases h
  · cases h
    rw [cell_of_row w b (0 + i) _ _ _ hg]
    simp only [Nat.zero_add, List.getElem?_toArray]
    rw [List.getElem?_append_left (by have := (List.getElem?_eq_some_iff.1 hv).1; exact this)]
    exact hv
theorem Rd.old (h : ∀ i v, xs[i]? = some v → w0.cell? ⟨b, base + i, none⟩ = some v) (hF : b ∉ F) : Rd w0 F L b base xs := fun w hw i v hv => by
  have hc := h i v hv
  have hlt : b < w0.heap.size := World.block_lt_of_cell? w0 _ hc
  exact (World.cell?_of_block (w := w0) (hw.keep b hlt hF)).trans hc
theorem Rd.oldb {fr : Nat × Nat} (h : w0.heap[b]? = some (.cells cs.toArray T fr)) (hF : b ∉ F) : Rd w0 F L b 0 cs :=
  Rd.old (fun i v hv => by rw [cell_of_row w0 b (0 + i) _ _ _ h]; simpa using hv) hF
theorem Rd.shift (h : Rd w0 F L b base xs) (i : Nat) : Rd w0 F L b (base + i) (xs.drop i) := fun w hw j v hv => by
  rw [List.getElem?_drop] at hv
  have := h w hw (i + j) v hv
  rw [Nat.add_assoc]; exact this
theorem Rd.take (h : Rd w0 F L b base xs) (i : Nat) : Rd w0 F L b base (xs.take i) := fun w hw j v hv => by
  rw [List.getElem?_take] at hv
  split at hv
  · exact h w hw j v hv
  · cases hv

theorem Yl.load1 (hT : NoAgg P t := by infer_instance) (hx : e.ev x = pt b ofs := by rfl) (i : Nat) (hr : Rd w0 F L b base xs := by assumption) (ho : ofs = base + i) (hv : xs[i]? = some v := by first | rfl | exact getmap (by omega) | assumption) : Yl P (Tr w0 F L) e ⟨d, .load t x, ty, pos, aft, g⟩ v := fun w hw => by
  have hc := hr w hw i v hv
  rw [← ho] at hc
  simp only [execOp, hx, Instr.loadAt, Instr.sureAddr, loadVar, Sem.run_bind, Sem.run_pure, Result.andThen_ok, run_isAgg_no hT]
  simp only [Bool.false_eq_true, if_false, run_load, hc, Result.andThen_ok]
theorem Yl.loadA {sz : Nat} (hT : AggOf P t sz := by infer_instance) (hx : e.ev x = pt b ofs := by rfl) (i : Nat) (hr : Rd w0 F L b base xs := by assumption) (ho : ofs = base + i) (ys : List Value) (hys : (xs.drop i).take sz = ys) (hl : ys.length = sz := by first | rfl | assumption | (simp; done) | (simp; omega) | omega) :
    Yl P (Tr w0 F L) e ⟨d, .load t x, ty, pos, aft, g⟩ (.agg ys.toArray) := fun w hw => by
  have hc : ∀ q u, ys[q]? = some u → w.cell? ((⟨b, ofs, none⟩ : Addr).add q) = some u := fun q u hu => by
    rw [Addr.add_lit]
    subst hys
    rw [List.getElem?_take] at hu
    split at hu
    · rw [List.getElem?_drop] at hu
      have := hr w hw (i + q) u hu
      rw [ho, Nat.add_assoc]; exact this
    · cases hu
  have h1 := run_loadCells_list (P := P) w ⟨b, ofs, none⟩ ys hc
  rw [hl] at h1
  simp only [execOp, hx, Instr.loadAt, Instr.sureAddr, loadVar, Sem.run_bind, Sem.run_pure, Result.andThen_ok, run_isAgg_yes hT, if_true, run_sizeOf hT.size, h1]

/-! #### writes -/
/-- May block b be written? -/
abbrev Own (w0 : World) (F : List Nat) (b : Nat) : Prop := b ∈ F ∨ w0.heap.size ≤ b
/-- The cells of a heaplet, and it with others. -/
inductive Cells : Hl → List Value → (List Value → Hl) → Prop where
  | blk {b : Nat} {T : TypeId} {cs : List Value} : Cells (.blk b T cs) cs (fun ys => .blk b T ys)
  | row {b : Nat} {T : TypeId} {sz n c : Nat} {xs : List Value} : Cells (.row (some b) T sz n c xs) xs (fun ys => .row (some b) T sz n c ys)
theorem setRow_tr {w : World} {new : List Value} (N : List Hl) (hN : ∀ h ∈ N, h.holds (w.setRow b new.toArray)) (ha : N.Pairwise Hl.apart) : Tr w [b] N (w.setRow b new.toArray) :=
  ⟨rfl, rfl, rfl, by simp, fun k _ hk => setRow_other w b k _ (fun e => hk (by simp [e])), hN, ha⟩
theorem holds_setRow {w : World} {h : Hl} {cs ys : List Value} {f : List Value → Hl} (hc : Cells h cs f) (hid : h.id = some b) (hh : h.holds w) (hl : ys.length = cs.length) :
    ∃ (cur : List Value) (T : TypeId), w.heap[b]? = some (.cells cur.toArray T (0, 0)) ∧ cur.take cs.length = cs ∧
      (f ys).holds (w.setRow b (ys ++ cur.drop cs.length).toArray) ∧ (f ys).id = some b := by
  cases hc with
  | blk =>
    simp only [Hl.id, Option.some.injEq] at hid; subst hid
    refine ⟨cs, _, hh, by simp, ?_, rfl⟩
    have := setRow_heap w _ _ (ys ++ cs.drop cs.length).toArray _ _ hh
    simpa [Hl.holds] using this
  | row =>
    simp only [Hl.id, Option.some.injEq] at hid; subst hid
    rcases Hl.row_cases hh with ⟨h, _⟩ | ⟨g, spare, h, hg, h1, h2, h3, h4⟩
    · cases h
    · cases h
      refine ⟨cs ++ spare, _, hg, by simp, ?_, rfl⟩
      have := setRow_heap w _ _ (ys ++ (cs ++ spare).drop cs.length).toArray _ _ hg
      refine Hl.row_some (spare := spare) ?_ h1 h2 (by rw [hl]; exact h3) (by simpa [hl] using h4)
      simpa using this
/-- A store of cells, anywhere in what is known of a block. -/
theorem run_storeCells_known {w : World} {h : Hl} {f : List Value → Hl} (hT : Tr w0 F L w) (hat : At h L u) (hc : Cells h cs f) (hid : h.id = some b) (hw : Own w0 F b)
    (hle : ofs + vs.length ≤ cs.length) (h1 : ∀ v ∈ vs, v.oneCell' = true) :
    ∃ w', (storeCells ⟨b, ofs, none⟩ vs).run P w = .ok () w' ∧ Tr w0 F (u (f (cs.take ofs ++ vs ++ cs.drop (ofs + vs.length)))) w' := by
  have hh := hT.sat _ hat.mem
  have hl : (cs.take ofs ++ vs ++ cs.drop (ofs + vs.length)).length = cs.length := by simp; omega
  obtain ⟨cur, T, hg, ht, hN, hid'⟩ := holds_setRow hc hid hh hl
  have hcl : cs.length ≤ cur.length := by rw [← ht]; simp; omega
  have hst := run_storeCells_at P b ofs T vs 0 cur.toArray w hg (by simp; omega) h1
  simp only [Nat.add_zero] at hst
  refine ⟨_, hst, ?_⟩
  have hcur : cur.take ofs ++ vs ++ cur.drop (ofs + vs.length) = (cs.take ofs ++ vs ++ cs.drop (ofs + vs.length)) ++ cur.drop cs.length := by
    have e1 : cur = cs ++ cur.drop cs.length := by rw [← ht]; simp [List.length_take, Nat.min_eq_left hcl]
    generalize cur.drop cs.length = z at e1
    subst e1
    rw [List.take_append_of_le_length (by omega), List.drop_append_of_le_length (by omega)]
    simp
  have hrow : (cur.toArray.toList.take ofs ++ vs ++ cur.toArray.toList.drop (ofs + vs.length)) = (cs.take ofs ++ vs ++ cs.drop (ofs + vs.length)) ++ cur.drop cs.length := hcur
  rw [hrow]
  have := hT.at_step hat (N := []) (setRow_tr [f (cs.take ofs ++ vs ++ cs.drop (ofs + vs.length))] (by intro h hm; simp only [List.mem_singleton] at hm; subst hm; exact hN) (by simp)) (D := [b]) (by intro k hk; simp at hk; subst hk; exact ⟨hid, hw⟩) (by intro x hx k hk; simp only [List.mem_singleton] at hx; subst hx; rw [hid'] at hk; exact .inl (hid.trans hk))
  simpa using this
theorem Ef.storeCells {h : Hl} {f : List Value → Hl} (hsz : SizeOf P t vs.length := by infer_instance) (hx : e.ev x = pt b ofs := by rfl) (hy : e.ev y = v := by rfl) (hv : v.cells.toList = vs) (hat : At h L u) (hc : Cells h cs f) (hid : h.id = some b)
    (hle : ofs + vs.length ≤ cs.length := by omega) (h1 : ∀ v ∈ vs, v.oneCell' = true := by first | exact one_u8 _ | exact List.all_eq_true.1 rfl | (simp; done)) (hw : Own w0 F b := by first | exact .inr ‹_› | exact .inl ‹_› | exact .inl (by simp)) :
    Ef P Q e ds (Tr w0 F L) ⟨d, .store t x y, ty, pos, aft, g⟩ Top (fun _ => undef) (fun _ => Tr w0 F (u (f (cs.take ofs ++ vs ++ cs.drop (ofs + vs.length))))) := by
  refine ⟨fun hok w hT => ?_⟩
  obtain ⟨w', hr, hT'⟩ := run_storeCells_known (P := P) hT hat hc hid hw hle h1
  unfold Oper.wp
  rw [En.eval_eq hok]
  have hsize : v.cells.size = vs.length := by rw [← hv]; simp
  have : (execOp e.ev (⟨d, .store t x y, ty, pos, aft, g⟩ : Oper)).run P w = .ok .skip w' := by
    simp only [execOp, hx, hy, Instr.storeAt, Instr.sureAddr, storeVar, Sem.run_bind, Sem.run_pure, Result.andThen_ok, run_sizeOf hsz, hsize, ne_eq, not_true_eq_false, if_false, hv, hr]
  rw [this, Oper.upon_skip, En.put_arr]
  exact ⟨(), trivial, rfl, hT'⟩
/-- A store of one cell. -/
theorem Ef.store1 {h : Hl} {f : List Value → Hl} (hsz : SizeOf P t 1 := by infer_instance) (hx : e.ev x = pt b ofs := by rfl) (hy : e.ev y = v := by rfl) (hat : At h L u) (hc : Cells h cs f) (hid : h.id = some b)
    (hle : ofs < cs.length := by omega) (h1 : v.oneCell' = true := by rfl) (hw : Own w0 F b := by first | exact .inr ‹_› | exact .inl ‹_› | exact .inl (by simp)) :
    Ef P Q e ds (Tr w0 F L) ⟨d, .store t x y, ty, pos, aft, g⟩ Top (fun _ => undef) (fun _ => Tr w0 F (u (f (cs.set ofs v)))) := by
  have hv : v.cells.toList = [v] := by cases v <;> first | rfl | simp [Value.oneCell'] at h1
  refine ⟨fun hok w hT => ?_⟩
  obtain ⟨w', hr, hT'⟩ := run_storeCells_known (P := P) (vs := [v]) (ofs := ofs) hT hat hc hid hw (by simp; omega) (by simpa using h1)
  unfold Oper.wp
  rw [En.eval_eq hok]
  have hsize : v.cells.size = 1 := by rw [← Array.length_toList, hv]; rfl
  have : (execOp e.ev (⟨d, .store t x y, ty, pos, aft, g⟩ : Oper)).run P w = .ok .skip w' := by
    simp only [execOp, hx, hy, Instr.storeAt, Instr.sureAddr, storeVar, Sem.run_bind, Sem.run_pure, Result.andThen_ok, run_sizeOf hsz, hsize, ne_eq, not_true_eq_false, if_false, hv, hr]
  rw [this, Oper.upon_skip, En.put_arr]
  have e1 : cs.take ofs ++ [v] ++ cs.drop (ofs + [v].length) = cs.set ofs v := by
    rw [List.set_eq_take_append_cons_drop, if_pos hle]; simp
  rw [e1] at hT'
  exact ⟨(), trivial, rfl, hT'⟩
/-- A store of all of a block. -/
theorem Ef.storeA (hsz : SizeOf P t vs.length := by infer_instance) (hx : e.ev x = pt b 0 := by rfl) (hy : e.ev y = .agg vs.toArray := by rfl) (hat : At (.blk b T cs) L u := by exact AtB.ha) (hl : vs.length = cs.length := by first | rfl | assumption | (simp; done) | (simp; omega) | omega) (h1 : ∀ v ∈ vs, v.oneCell' = true := by first | exact one_u8 _ | exact List.all_eq_true.1 rfl | (simp; done)) (hw : Own w0 F b := by first | exact .inr ‹_› | exact .inl ‹_› | exact .inl (by simp)) :
    Ef P Q e ds (Tr w0 F L) ⟨d, .store t x y, ty, pos, aft, g⟩ Top (fun _ => undef) (fun _ => Tr w0 F (u (.blk b T vs))) := by
  refine ⟨fun hok w hT => ?_⟩
  obtain ⟨w', hr, hT'⟩ := run_storeCells_known (P := P) (vs := vs) (ofs := 0) hT hat .blk rfl hw (by omega) h1
  unfold Oper.wp
  rw [En.eval_eq hok]
  have : (execOp e.ev (⟨d, .store t x y, ty, pos, aft, g⟩ : Oper)).run P w = .ok .skip w' := by
    simp only [execOp, hx, hy, Instr.storeAt, Instr.sureAddr, storeVar, Sem.run_bind, Sem.run_pure, Result.andThen_ok, run_sizeOf hsz, Value.cells, List.size_toArray, ne_eq, not_true_eq_false, if_false, hr]
  rw [this, Oper.upon_skip, En.put_arr]
  have e1 : cs.take 0 ++ vs ++ cs.drop (0 + vs.length) = vs := by rw [hl]; simp
  rw [e1] at hT'
  exact ⟨(), trivial, rfl, hT'⟩

/-! #### new memory -/
theorem alloc_tr {w : World} (ob : Obj) (N : List Hl) (hN : ∀ h ∈ N, h.holds (w.alloc ob)) (ha : N.Pairwise Hl.apart) : Tr w [] N (w.alloc ob) :=
  ⟨rfl, rfl, rfl, by simp, fun k hk _ => Below.heap_alloc w ob k hk, hN, ha⟩
theorem alloc_blk {w : World} (hT : Tr w0 F L w) (T : TypeId) (cs : List Value) : Tr w0 F (.blk w.heap.size T cs :: L) (w.alloc (.cells cs.toArray T)) := by
  refine hT.callN (N := [.blk w.heap.size T cs]) (alloc_tr _ _ ?_ (by simp)) ?_
  · intro h hh; simp at hh; subst hh; exact heap_alloc_new w _
  · intro h hh k hk; simp at hh; subst hh; simp only [Hl.id, Option.some.injEq] at hk; omega
/-- New blocks come behind. -/
abbrev New (w0 : World) (b : Nat) : Prop := w0.heap.size ≤ b
theorem New.ex (w0 : World) : ∃ b, New w0 b := ⟨_, Nat.le_refl _⟩
theorem Ef.alloc (hz : ZeroOf P t cs := by infer_instance) : Ef P Q e ds (Tr w0 F L) ⟨d, .alloc t, ty, pos, aft, g⟩ (New w0) (fun b => pt b 0) (fun b => Tr w0 F (.blk b t cs :: L)) := by
  refine ⟨fun hok w hT => ?_⟩
  obtain ⟨i, z, h1, h2, h3⟩ := hz
  unfold Oper.wp
  rw [En.eval_eq hok]
  have : (execOp e.ev (⟨d, .alloc t, ty, pos, aft, g⟩ : Oper)).run P w = .ok (.value (pt w.heap.size 0)) (w.alloc (.cells cs.toArray t)) := by
    have : z.cells = cs.toArray := by rw [← h3]
    simp only [execOp, Instr.alloc, zeroValue, typeInfo, Sem.run_bind, run_program, Result.andThen_ok, h1, h2, Sem.run_pure, newVar, newRow, run_newObj, World.alloc_eq, this]
  rw [this, Oper.upon_value, En.put_arr]
  exact ⟨w.heap.size, hT.size, rfl, alloc_blk hT t cs⟩
theorem Ef.box (hx : e.ev x = v := by rfl) (hv : v.cells.toList = cs) : Ef P Q e ds (Tr w0 F L) ⟨d, .box t x, ty, pos, aft, g⟩ (New w0) (fun b => pt b 0) (fun b => Tr w0 F (.blk b t cs :: L)) := by
  refine ⟨fun hok w hT => ?_⟩
  unfold Oper.wp
  rw [En.eval_eq hok]
  have : (execOp e.ev (⟨d, .box t x, ty, pos, aft, g⟩ : Oper)).run P w = .ok (.value (pt w.heap.size 0)) (w.alloc (.cells cs.toArray t)) := by
    have : v.cells = cs.toArray := by rw [← hv]
    simp only [execOp, hx, Instr.box, Sem.run_bind, Result.andThen_ok, Sem.run_pure, newVar, newRow, run_newObj, World.alloc_eq, this]
  rw [this, Oper.upon_value, En.put_arr]
  exact ⟨w.heap.size, hT.size, rfl, alloc_blk hT t cs⟩
end
class Sees (w0 : World) (F : List Nat) (L : List Hl) (b : Nat) (xs : outParam (List Value)) : Prop where
  rd : Rd w0 F L b 0 xs
instance Sees.hd {w0 : World} {F : List Nat} {b : Nat} {T : TypeId} {cs : List Value} {l : List Hl} : Sees w0 F (.blk b T cs :: l) b cs := ⟨Rd.blk List.mem_cons_self⟩
instance Sees.hr {w0 : World} {F : List Nat} {b : Nat} {T : TypeId} {sz n c : Nat} {cs : List Value} {l : List Hl} : Sees w0 F (.row (some b) T sz n c cs :: l) b cs := ⟨Rd.row List.mem_cons_self⟩
instance Sees.tl {w0 : World} {F : List Nat} {b : Nat} {a : Hl} {cs : List Value} {l : List Hl} [h : Sees w0 F l b cs] : Sees w0 F (a :: l) b cs := ⟨fun w hw => h.rd w (hw.sub (List.sublist_cons_self _ _))⟩
end Go.Eng

/- Addresses, slices, calls. -/
open Go.RowKit
namespace Go.Eng
section
variable {P : Program} {ops : Array Oper} {Q : Exit → Act → World → Prop} {e : En} {ds : List Deferred} {o : Oper} {rest : List Oper} {S : WS}
variable {w0 : World} {F : List Nat} {L : List Hl} {d : Option Tmp} {ty t yt elem : TypeId} {pos : String} {aft : Array Edge} {g : Option (Nat × Bool)} {x y : Operand} {k j : IntKind} {m n : Int}
variable {b ofs base sz ln cap : Nat} {cs xs vs : List Value} {v : Value} {T : TypeId} {u : Hl → List Hl} {A : Option Addr}

theorem Yl.nilCheck {q : Addr} (hx : e.ev x = .pointer (some q) := by rfl) : Yl P S e ⟨d, .nilCheck x, ty, pos, aft, g⟩ (.pointer (some q)) := fun w _ => by simp [execOp, hx]
theorem Yl.indexSlice (hu : P.underlying t = some (.slice elem) := by exact Und.out) (hs : SizeOf P elem sz := by infer_instance) (hx : e.ev x = .slice (some ⟨b, ofs, none⟩) ln cap := by rfl) (hi : e.ev y = .int k n := by rfl) (i : Nat) (hn : n = i := by omega) (hlt : i < ln := by omega) :
    Yl P S e ⟨d, .indexAddr t x y, ty, pos, aft, g⟩ (pt b (ofs + i * sz)) := fun w _ => by
  subst hn
  have h0 : 0 ≤ (i : Int) ∧ (i : Int) < ln := by omega
  simp only [execOp, hx, hi, Instr.indexAt, asIntOf, Sem.run_bind, Sem.run_pure, Result.andThen_ok, run_underlying hu, h0, and_self, if_true, run_sizeOf hs, Addr.add_lit, Int.toNat_natCast]
theorem Yl.indexSlice1 (hu : P.underlying t = some (.slice elem) := by exact Und.out) (hs : SizeOf P elem 1 := by infer_instance) (hx : e.ev x = .slice (some ⟨b, ofs, none⟩) ln cap := by rfl) (hi : e.ev y = .int k n := by rfl) (i : Nat) (hn : n = i := by omega) (hlt : i < ln := by omega) :
    Yl P S e ⟨d, .indexAddr t x y, ty, pos, aft, g⟩ (pt b (ofs + i)) := by
  have := Yl.indexSlice (P := P) (S := S) (d := d) (ty := ty) (pos := pos) (aft := aft) (g := g) hu hs hx hi i hn hlt
  rwa [Nat.mul_one] at this
theorem Yl.indexArr {N : Nat} (hu : P.underlying t = some (.array N elem) := by exact Und.out) (hs : SizeOf P elem sz := by infer_instance) (hx : e.ev x = pt b ofs := by rfl) (hi : e.ev y = .int k n := by rfl) (i : Nat) (hn : n = i := by omega) (hlt : i < N := by omega) :
    Yl P S e ⟨d, .indexAddr t x y, ty, pos, aft, g⟩ (pt b (ofs + i * sz)) := fun w _ => by
  subst hn
  have h0 : 0 ≤ (i : Int) ∧ (i : Int) < N := by omega
  simp only [execOp, hx, hi, Instr.indexAt, Instr.sureAddr, asIntOf, Sem.run_bind, Sem.run_pure, Result.andThen_ok, run_underlying hu, h0, and_self, if_true, run_sizeOf hs, Addr.add_lit, Int.toNat_natCast]
theorem Yl.indexArr1 {N : Nat} (hu : P.underlying t = some (.array N elem) := by exact Und.out) (hs : SizeOf P elem 1 := by infer_instance) (hx : e.ev x = pt b ofs := by rfl) (hi : e.ev y = .int k n := by rfl) (i : Nat) (hn : n = i := by omega) (hlt : i < N := by omega) :
    Yl P S e ⟨d, .indexAddr t x y, ty, pos, aft, g⟩ (pt b (ofs + i)) := by
  have := Yl.indexArr (P := P) (S := S) (d := d) (ty := ty) (pos := pos) (aft := aft) (g := g) hu hs hx hi i hn hlt
  rwa [Nat.mul_one] at this
/-- A field: its offset. -/
class FieldOf (P : Program) (t : TypeId) (i : Nat) (off : outParam Nat) : Prop where
  ex : ∃ fs f, P.underlying t = some (.struct fs) ∧ fs[i]? = some f ∧ f.offset = off ∧ ∃ sz, SizeOf P f.type sz ∧ sz ≠ 0
theorem Yl.fieldAddr {i off : Nat} (hf : FieldOf P t i off := by infer_instance) (hx : e.ev x = pt b ofs := by rfl) : Yl P S e ⟨d, .fieldAddr t x i, ty, pos, aft, g⟩ (pt b (ofs + off)) := fun w _ => by
  obtain ⟨fs, f, h1, h2, h3, sz, h4, h5⟩ := hf
  simp only [execOp, hx, Instr.fieldAt, Instr.sureAddr, Sem.run_bind, Sem.run_pure, Result.andThen_ok, run_underlying h1, h2, fieldPlace, run_sizeOf h4, h5, if_false, Addr.add_lit, h3]
/-- A field of a value, one cell. -/
theorem Yl.field1 {i off : Nat} {fs : Array Field} {f : Field} (h1 : P.underlying t = some (.struct fs) := by exact Und.out) (h2 : fs[i]? = some f := by first | rfl | exact getmap (by omega) | assumption) (h3 : f.offset = off) (hT : NoAgg P f.type := by infer_instance) (hx : e.ev x = .agg cs.toArray := by rfl) (hv : cs[off]? = some v := by first | rfl | exact getmap (by omega) | assumption) :
    Yl P S e ⟨d, .field t x i, ty, pos, aft, g⟩ v := fun w _ => by
  simp only [execOp, hx, Instr.field, asAgg, part, Sem.run_bind, Sem.run_pure, Result.andThen_ok, run_underlying h1, h2, run_isAgg_no hT, Bool.false_eq_true, if_false, h3, List.getElem?_toArray, hv]
theorem Yl.fieldA {i off : Nat} {fs : Array Field} {f : Field} (h1 : P.underlying t = some (.struct fs) := by exact Und.out) (h2 : fs[i]? = some f := by first | rfl | exact getmap (by omega) | assumption) (h3 : f.offset = off) (hT : AggOf P f.type sz := by infer_instance) (hx : e.ev x = .agg cs.toArray := by rfl) (hys : (cs.drop off).take sz = vs) :
    Yl P S e ⟨d, .field t x i, ty, pos, aft, g⟩ (.agg vs.toArray) := fun w _ => by
  have e1 : cs.toArray.extract off (off + sz) = vs.toArray := by
    rw [← hys]; simp [List.extract_toArray, List.take_drop]
  simp only [execOp, hx, Instr.field, asAgg, part, Sem.run_bind, Sem.run_pure, Result.andThen_ok, run_underlying h1, h2, run_isAgg_yes hT, if_true, run_sizeOf hT.size, h3, e1]
/-- An index of an array value, one cell an element. -/
theorem Yl.indexV1 {N : Nat} (hu : P.underlying t = some (.array N elem) := by exact Und.out) (hT : NoAgg P elem := by infer_instance) (hs : SizeOf P elem 1 := by infer_instance) (hx : e.ev x = .agg cs.toArray := by rfl) (hi : e.ev y = .int k n := by rfl) (i : Nat) (hn : n = i := by omega) (hlt : i < N := by omega) (hv : cs[i]? = some v := by first | rfl | exact getmap (by omega) | assumption) :
    Yl P S e ⟨d, .index t x y, ty, pos, aft, g⟩ v := fun w _ => by
  subst hn
  have h0 : 0 ≤ (i : Int) ∧ (i : Int) < N := by omega
  simp only [execOp, hx, hi, Instr.index, asIntOf, part, Sem.run_bind, Sem.run_pure, Result.andThen_ok, run_underlying hu, h0, and_self, if_true, run_sizeOf hs, run_isAgg_no hT, Bool.false_eq_true, if_false, Int.toNat_natCast, Nat.mul_one, List.getElem?_toArray, hv]
theorem Yl.indexVA {N : Nat} (hu : P.underlying t = some (.array N elem) := by exact Und.out) (hT : AggOf P elem sz := by infer_instance) (hx : e.ev x = .agg cs.toArray := by rfl) (hi : e.ev y = .int k n := by rfl) (i : Nat) (hn : n = i := by omega) (hlt : i < N := by omega) (hv : (cs.drop (i * sz)).take sz = vs) :
    Yl P S e ⟨d, .index t x y, ty, pos, aft, g⟩ (.agg vs.toArray) := fun w _ => by
  subst hn
  have h0 : 0 ≤ (i : Int) ∧ (i : Int) < N := by omega
  have e1 : cs.toArray.extract (i * sz) (i * sz + sz) = vs.toArray := by
    rw [← hv]; simp [List.extract_toArray, List.take_drop]
  simp only [execOp, hx, hi, Instr.index, asIntOf, part, Sem.run_bind, Sem.run_pure, Result.andThen_ok, run_underlying hu, h0, and_self, if_true, run_sizeOf hT.size, run_isAgg_yes hT, Int.toNat_natCast, e1]
theorem Yl.indexStr {s : ByteArray} (hu : P.underlying t = some .string := by exact Und.out) (hx : e.ev x = .string s := by rfl) (hi : e.ev y = .int k n := by rfl) (i : Nat) (hn : n = i := by omega) (hlt : i < s.size := by omega) :
    Yl P S e ⟨d, .index t x y, ty, pos, aft, g⟩ (.int .u8 (s[i].toNat : Int)) := fun w _ => by
  subst hn
  have h0 : 0 ≤ (i : Int) := by omega
  have h1 : s[i]? = some s[i] := by simp [hlt]
  simp only [execOp, hx, hi, Instr.index, asIntOf, Sem.run_bind, Sem.run_pure, Result.andThen_ok, run_underlying hu, h0, if_true, Int.toNat_natCast, h1]

/-! #### builtins -/
theorem run_builtin {w : World} {bi : Builtin} {l : List Operand} {ts : Array TypeId} {r : Result Next} (h : ∀ cst, (builtin bi ts ty cst (l.map e.ev).toArray).run P w = r) :
    (execOp e.ev (⟨d, .call { callee := .builtin bi, args := l.toArray, argTypes := ts }, ty, pos, aft, g⟩ : Oper)).run P w = r := by
  simp only [execOp, resolve, invoke, Sem.run_bind, Sem.run_pure, Result.andThen_ok, List.map_toArray]
  exact h _
theorem Yl.len {ts : Array TypeId} (hts : ts[0]? = some t := by rfl) (hu : P.underlying t = some (.slice elem) := by exact Und.out) (hx : e.ev x = .slice A ln cap := by rfl) :
    Yl P S e ⟨d, .call { callee := .builtin .len, args := [x].toArray, argTypes := ts }, ty, pos, aft, g⟩ (iv ln) := fun w _ => by
  refine run_builtin fun cst => ?_
  simp [builtin, Builtin.len_, hts, hx, run_underlying hu, goInt]
theorem Yl.lenArr {N : Nat} {ts : Array TypeId} (hts : ts[0]? = some t := by rfl) (hu : P.underlying t = some (.array N elem) := by exact Und.out) :
    Yl P S e ⟨d, .call { callee := .builtin .len, args := [x].toArray, argTypes := ts }, ty, pos, aft, g⟩ (iv N) := fun w _ => by
  refine run_builtin fun cst => ?_
  simp [builtin, Builtin.len_, hts, run_underlying hu, goInt]
theorem Yl.lenStr {s : ByteArray} {ts : Array TypeId} (hts : ts[0]? = some t := by rfl) (hu : P.underlying t = some .string := by exact Und.out) (hx : e.ev x = .string s := by rfl) :
    Yl P S e ⟨d, .call { callee := .builtin .len, args := [x].toArray, argTypes := ts }, ty, pos, aft, g⟩ (iv s.size) := fun w _ => by
  refine run_builtin fun cst => ?_
  simp [builtin, Builtin.len_, hts, hx, run_underlying hu, goInt]
theorem Yl.max {ts : Array TypeId} (hx : e.ev x = .int k m := by rfl) (hy : e.ev y = .int j n := by rfl) :
    Yl P S e ⟨d, .call { callee := .builtin .max, args := [x, y].toArray, argTypes := ts }, ty, pos, aft, g⟩ (.int k (max m n)) := fun w _ => by
  refine run_builtin fun cst => ?_
  have : (if n > m then n else m) = Max.max m n := by rw [Int.max_def]; split <;> split <;> omega
  simp [builtin, Builtin.max_, hx, hy, Builtin.max2, this]
theorem Yl.min {ts : Array TypeId} (hx : e.ev x = .int k m := by rfl) (hy : e.ev y = .int j n := by rfl) :
    Yl P S e ⟨d, .call { callee := .builtin .min, args := [x, y].toArray, argTypes := ts }, ty, pos, aft, g⟩ (.int k (min m n)) := fun w _ => by
  refine run_builtin fun cst => ?_
  have : (if n < m then n else m) = Min.min m n := by rw [Int.min_def]; split <;> split <;> omega
  simp [builtin, Builtin.min_, hx, hy, Builtin.min2, this]

/-! #### slice expressions -/
theorem run_sliceBound {w : World} {i : Nat} {c : BoundsCode} {N : Nat} (hn : n = i) (hlt : i ≤ N) : (Instr.sliceBound (.int k n) N c).run P w = .ok i w := by
  subst hn
  have h0 : 0 ≤ (i : Int) ∧ (i : Int) ≤ N := by omega
  simp [Instr.sliceBound, asIntOf, h0]
/-- bounds: what low, high, max come to -/
inductive Bd (e : En) : Option Operand → Nat → Prop where
  | none : Bd e none 0
  | some {x : Operand} {k : IntKind} {n : Int} {i : Nat} (hx : e.ev x = .int k n) (hn : n = i) : Bd e (some x) i
inductive Bh (e : En) (dflt : Nat) : Option Operand → Nat → Prop where
  | none : Bh e dflt none dflt
  | some {x : Operand} {k : IntKind} {n : Int} {i : Nat} (hx : e.ev x = .int k n) (hn : n = i) : Bh e dflt (some x) i
theorem run_sliceBounds {w : World} {lo hi mx : Option Operand} {l h q N C : Nat} {is : Bool} (hl : Bd e lo l) (hh : Bh e N hi h) (hm : Bh e C mx q) (hmx : mx = none ∨ hi ≠ none) (h1 : l ≤ h) (h2 : h ≤ q) (h3 : q ≤ C) :
    (Instr.sliceBounds is N C (lo.map e.ev) (hi.map e.ev) (mx.map e.ev)).run P w = .ok (l, h, q) w := by
  cases hm with
  | none =>
    cases hh with
    | none =>
      cases hl with
      | none => simp [Instr.sliceBounds]
      | some hx hn => simp [Instr.sliceBounds, hx, run_sliceBound hn h1]
    | some hx' hn' =>
      cases hl with
      | none => simp [Instr.sliceBounds, hx', run_sliceBound hn' h2]
      | some hx hn => simp [Instr.sliceBounds, hx, hx', run_sliceBound hn' h2, run_sliceBound hn h1]
  | some hx'' hn'' =>
    cases hh with
    | none => rcases hmx with h | h <;> simp at h
    | some hx' hn' =>
      cases hl with
      | none => simp [Instr.sliceBounds, hx', hx'', run_sliceBound hn'' h3, run_sliceBound hn' h2]
      | some hx hn => simp [Instr.sliceBounds, hx, hx', hx'', run_sliceBound hn'' h3, run_sliceBound hn' h2, run_sliceBound hn h1]
theorem Yl.slice {lo hi mx : Option Operand} {l h q : Nat} (hu : P.underlying t = some (.slice elem) := by exact Und.out) (hs : SizeOf P elem sz := by infer_instance) (hx : e.ev x = .slice A ln cap := by rfl) (hl : Bd e lo l) (hh : Bh e ln hi h) (hm : Bh e cap mx q) (hmx : mx = none ∨ hi ≠ none := by omega)
    (h1 : l ≤ h := by omega) (h2 : h ≤ q := by omega) (h3 : q ≤ cap := by omega) :
    Yl P S e ⟨d, .slice t x lo hi mx, ty, pos, aft, g⟩ (.slice (if q = l then A else A.map (·.add (l * sz))) (h - l) (q - l)) := fun w _ => by
  simp only [execOp, hx, Instr.sliceAt, Instr.slice, Sem.run_bind, run_underlying hu, Result.andThen_ok, run_sliceBounds hl hh hm hmx h1 h2 h3, run_sizeOf hs, Sem.run_pure]
theorem Yl.sliceArr {N : Nat} {lo hi mx : Option Operand} {l h q : Nat} (hu : P.underlying t = some (.array N elem) := by exact Und.out) (hs : SizeOf P elem sz := by infer_instance) (hx : e.ev x = pt b ofs := by rfl) (hl : Bd e lo l) (hh : Bh e N hi h) (hm : Bh e N mx q) (hmx : mx = none ∨ hi ≠ none := by omega)
    (h1 : l ≤ h := by omega) (h2 : h ≤ q := by omega) (h3 : q ≤ N := by omega) (h4 : l < q := by omega) :
    Yl P S e ⟨d, .slice t x lo hi mx, ty, pos, aft, g⟩ (.slice (some ⟨b, ofs + l * sz, none⟩) (h - l) (q - l)) := fun w _ => by
  have h5 : ¬ q = l := by omega
  simp only [execOp, hx, Instr.sliceAt, Instr.sureAddr, Sem.run_bind, run_underlying hu, Result.andThen_ok, run_sliceBounds hl hh hm hmx h1 h2 h3, run_sizeOf hs, Sem.run_pure, h5, if_false, Addr.add_lit]
theorem Yl.s2ap {N : Nat} (hu : P.underlying t = some (.array N elem) := by exact Und.out) (hx : e.ev x = .slice A ln cap := by rfl) (hle : N ≤ ln := by omega) : Yl P S e ⟨d, .sliceToArrayPointer t x, ty, pos, aft, g⟩ (.pointer A) := fun w _ => by
  have h5 : ¬ ln < N := by omega
  simp only [execOp, hx, Instr.arrayAt, Sem.run_bind, run_underlying hu, Result.andThen_ok, Sem.run_pure, h5, if_false]
theorem Yl.makeFunc {fn : Fn} {fst cp : List Operand} : Yl P S e ⟨d, .makeFunc fn fst.toArray cp.toArray, ty, pos, aft, g⟩ (.func fn (fst.map e.ev).toArray (cp.map e.ev).toArray) := fun w _ => by
  simp [execOp, Instr.makeFunc]
theorem Yl.extract {vs : List Value} {i : Nat} (hx : e.ev x = .tuple vs.toArray := by rfl) (hv : vs[i]? = some v := by first | rfl | exact getmap (by omega) | assumption) : Yl P S e ⟨d, .extract x i, ty, pos, aft, g⟩ v := fun w _ => by
  simp [execOp, hx, Instr.extract, hv]
/-- A struct or an array out of its parts. -/
theorem Yl.buildS {fs : Array Field} {parts : List (Nat × Operand)} {zs : List Value} {places : List (Nat × Nat)} {r : Array Value} (hu : P.underlying t = some (.struct fs) := by exact Und.out) (hz : ZeroOf P t zs := by infer_instance)
    (hp : ∀ w, (fs.mapM (m := Sem) fun f => do pure (f.offset, ← sizeOf f.type)).run P w = .ok places.toArray w)
    (hf : Instr.fill (places.toArray[·]?) zs.toArray (parts.map fun p => (p.1, e.ev p.2)) = some r) : Yl P S e ⟨d, .build t parts.toArray, ty, pos, aft, g⟩ (.agg r) := fun w _ => by
  obtain ⟨i, z, h1, h2, h3⟩ := hz
  have : z.cells = zs.toArray := by rw [← h3]
  have hp' := hp w
  simp only [execOp, Instr.build, zeroValue, typeInfo, Sem.run_bind, run_program, Result.andThen_ok, h1, h2, Sem.run_pure, run_underlying hu, this, hp', List.map_toArray, hf]
theorem Yl.buildArr {N : Nat} {parts : List (Nat × Operand)} {zs : List Value} {r : Array Value} (hu : P.underlying t = some (.array N elem) := by exact Und.out) (hz : ZeroOf P t zs := by infer_instance) (hs : SizeOf P elem sz := by infer_instance)
    (hf : Instr.fill (fun i => some (i * sz, sz)) zs.toArray (parts.map fun p => (p.1, e.ev p.2)) = some r) : Yl P S e ⟨d, .build t parts.toArray, ty, pos, aft, g⟩ (.agg r) := fun w _ => by
  obtain ⟨i, z, h1, h2, h3⟩ := hz
  have : z.cells = zs.toArray := by rw [← h3]
  simp only [execOp, Instr.build, zeroValue, typeInfo, Sem.run_bind, run_program, Result.andThen_ok, h1, h2, Sem.run_pure, run_underlying hu, this, run_sizeOf hs, List.map_toArray, hf]
end
end Go.Eng

/- Regions that draw their order; calls; the way in and out. -/
open Go.RowKit
namespace Go.Eng
section
variable {P : Program} {ops : Array Oper} {Q : Exit → Act → World → Prop} {e : En} {ds : List Deferred} {o : Oper} {rest : List Oper} {S : WS}

/-- A way out that is the plain one. -/
def Qn (N : Act → World → Prop) : Exit → Act → World → Prop
  | .normal, a, w => N a w
  | _, _, _ => False
/-- What is asked of the world behind an operation: of the plain ones S, of those that look at no memory that it stays, of the last ones nothing. -/
def Held (S : WS) (k : Nat) (w w' : World) : Prop := match k with
  | 0 => S w'
  | 1 => w' = w
  | _ => True
/-- Whatever order is picked from here on. kd: of which kind an operation is. -/
def wpG (P : Program) (ops : Array Oper) (kd : Nat → Nat) (N : Act → World → Prop) (S : WS) : Nat → Array Bool → Act → World → Prop
  | 0, listed, a, w => Region.ready .any ops listed = [] ∧ N a w
  | fuel + 1, listed, a, w =>
    (Region.ready .any ops listed = [] → N a w) ∧
    ∀ i ∈ Region.ready .any ops listed, wpOp P ops (Qn N) i (fun a' w' => Held S (kd i) w w' ∧ wpG P ops kd N S fuel (listed.setIfInBounds i true) a' w') a w
variable {N : Act → World → Prop} {kd : Nat → Nat}
theorem wpAny_of_G : ∀ (fuel : Nat) (listed : Array Bool) (a : Act) (w : World), wpG P ops kd N S fuel listed a w → wpAny P .any ops (Qn N) fuel listed a w
  | 0, _, _, _, h => h
  | fuel + 1, _, _, _, h => ⟨h.1, fun i hi => wpOp_mono (fun a' w' h' => wpAny_of_G fuel _ a' w' h'.2) (h.2 i hi)⟩
theorem Held.mono {S' : WS} (hS : ∀ w, S' w → S w) {k : Nat} {w w' : World} (h : Held S' k w w') : Held S k w w' := by
  unfold Held at *
  split <;> simp_all
theorem wpG_mono {S' : WS} (hS : ∀ w, S' w → S w) : ∀ (fuel : Nat) (listed : Array Bool) (a : Act) (w : World), wpG P ops kd N S' fuel listed a w → wpG P ops kd N S fuel listed a w
  | 0, _, _, _, h => h
  | fuel + 1, _, _, _, h => ⟨h.1, fun i hi => wpOp_mono (fun a' w' h' => ⟨h'.1.mono hS, wpG_mono hS fuel _ a' w' h'.2⟩) (h.2 i hi)⟩
/-- All that is left are last ones. -/
def allFin (ops : Array Oper) (kd : Nat → Nat) (listed : Array Bool) : Bool := (List.range ops.size).all fun j => listed.getD j true || Nat.beq (kd j) 2
theorem wpG_of_any : ∀ (fuel : Nat) (listed : Array Bool) (a : Act) (w : World), (∀ j, j < ops.size → listed.getD j true = true ∨ kd j = 2) → wpAny P .any ops (Qn N) fuel listed a w → wpG P ops kd N S fuel listed a w
  | 0, _, _, _, _, h => h
  | fuel + 1, listed, _, _, hl, h => ⟨h.1, fun i hi => by
    have hm := mem_ready.1 hi
    obtain ⟨hun, oi, hoi, _⟩ := hm
    have hlt : i < ops.size := (Array.getElem?_eq_some_iff.1 hoi).1
    have hfi : kd i = 2 := by
      rcases hl i hlt with h | h
      · rw [h] at hun; cases hun
      · exact h
    refine wpOp_mono (fun a' w' h' => ⟨by simp only [Held, hfi], wpG_of_any fuel _ a' w' ?_ h'⟩) (h.2 i hi)
    intro j hj
    by_cases hij : i = j
    · subst hij; exact .inr hfi
    · rw [getD_set_ne true hij]; exact hl j hj⟩
theorem not_after {i j : Nat} {oj : Oper} {listed : Array Bool} (hr : i ∈ Region.ready .any ops listed) (hall : ∀ e ∈ oj.after, Region.binds .any e = true → listed.getD e.on false = true) (_h : j ≠ i) :
    ∀ e ∈ oj.after, Region.binds .any e = true → e.on ≠ i := fun e he hb heq => by
  have h1 := hall e he hb
  have h0 := (mem_ready.1 hr).1
  rw [heq] at h1
  rcases Nat.lt_or_ge i listed.size with h' | h'
  · simp [h'] at h0 h1; rw [h0] at h1; cases h1
  · simp [Array.getElem?_eq_none h'] at h1
theorem wpG_first {i : Nat} {oi : Oper} {v : Value} {C : WS} (hi : ops[i]? = some oi) (hsel : ∀ (j : Nat) (o : Oper) cs b, ops[j]? = some o → o.op ≠ .select cs b)
    (hC : ((∀ w, C w) ∧ kd i = 1) ∨ (C = S ∧ kd i = 0 ∧ ∀ (j : Nat) (oj : Oper), ops[j]? = some oj → kd j ≠ 0 → kd j ≠ 1 → ∃ e ∈ oj.after, Region.binds .any e = true ∧ e.on = i)) :
    ∀ (fuel : Nat) (listed : Array Bool) (a : Act) (w : World),
      (∀ j oj, ops[j]? = some oj → j ≠ i → listed.getD j true = false → (∀ e ∈ oj.after, Region.binds .any e = true → e.on ≠ i) → oi.apart ops oj = true) →
      i ∈ Region.ready .any ops listed → YieldsIf P ops C oi v a → C w →
      wpG P ops kd N S fuel (listed.setIfInBounds i true) (a.put oi.dst v) w → wpG P ops kd N S (fuel + 1) listed a w := by
  have hQ : ∀ c (a : Act) w, Qn N (.panic c) (a.put oi.dst v) w → Qn N (.panic c) a w := fun _ _ _ h => h
  have hown : ∀ w, C w → Held S (kd i) w w := fun w hw => by
    rcases hC with ⟨_, h1⟩ | ⟨h1, h2, _⟩
    · simp only [Held, h1]
    · subst h1; simp only [Held, h2]; exact hw
  intro fuel
  induction fuel with
  | zero =>
    intro listed a w _ hr hy hS H
    refine ⟨fun h => (by rw [h] at hr; cases hr), fun j hj => ?_⟩
    by_cases hji : j = i
    · subst hji; exact hy.wpOp hi hS ⟨hown w hS, H⟩
    · have := ready_mono hj hji
      rw [H.1] at this
      cases this
  | succ fuel ih =>
    intro listed a w hfree hr hy hS H
    refine ⟨fun h => (by rw [h] at hr; cases hr), fun j hj => ?_⟩
    by_cases hji : j = i
    · subst hji; exact hy.wpOp hi hS ⟨hown w hS, H⟩
    · have h1 := H.2 j (ready_mono hj hji)
      obtain ⟨hjun, oj, hoj, hall⟩ := mem_ready.1 hj
      have hnot := not_after (j := j) hr hall hji
      have hCw : ∀ w', Held S (kd j) w w' → C w' := fun w' hh => by
        rcases hC with ⟨h, _⟩ | ⟨h1, _, h3⟩
        · exact h w'
        · subst h1
          unfold Held at hh
          split at hh
          · exact hh
          · rw [hh]; exact hS
          · rename_i h0 h1
            obtain ⟨e, he, hb, heq⟩ := h3 j oj hoj h0 h1
            exact absurd heq (hnot e he hb)
      have h2 := wpOp_putIf hoj (hfree j oj hoj hji hjun hnot) (fun cs b => hsel i oi cs b hi) (fun cs b => hsel j oj cs b hoj) hQ hy h1
      have hfree' : ∀ k ok, ops[k]? = some ok → k ≠ i → (listed.setIfInBounds j true).getD k true = false →
          (∀ e ∈ ok.after, Region.binds .any e = true → e.on ≠ i) → oi.apart ops ok = true := fun k ok hk hki hun hno => by
        refine hfree k ok hk hki ?_ hno
        by_cases hjk : j = k
        · subst hjk; exact hjun
        · rw [getD_set_ne true hjk] at hun; exact hun
      refine wpOp_mono (fun a' w' h3 => ⟨h3.2.1, ih (listed.setIfInBounds j true) a' w' hfree' (ready_mono hr (Ne.symm hji)) h3.1 (hCw _ h3.2.1) ?_⟩) h2
      rw [Array.setIfInBounds_comm _ _ hji]
      exact h3.2.2
/-- The judgement inside such a region: S0 is held, S is known. -/
def G (P : Program) (ops : Array Oper) (kd : Nat → Nat) (N : Act → World → Prop) (S0 : WS) (fuel : Nat) (listed : Array Bool) (e : En) (ds : List Deferred) (S : WS) : Prop :=
  e.Ok ∧ (∀ w, S w → S0 w) ∧ ∀ w, S w → wpG P ops kd N S0 fuel listed ⟨e.arr, ds⟩ w
/-- .. among the last ones -/
def G0 (P : Program) (ops : Array Oper) (N : Act → World → Prop) (fuel : Nat) (listed : Array Bool) (e : En) (ds : List Deferred) (S : WS) : Prop :=
  e.Ok ∧ ∀ w, S w → wpAny P .any ops (Qn N) fuel listed ⟨e.arr, ds⟩ w
def takeOkP (ops : Array Oper) (kd : Nat → Nat) (listed : Array Bool) (i : Nat) : Bool :=
  (Region.ready .any ops listed).contains i && Region.free .any ops listed i && Nat.beq (kd i) 1 && Region.noSelect ops
def takeOk (ops : Array Oper) (kd : Nat → Nat) (listed : Array Bool) (i : Nat) : Bool :=
  (Region.ready .any ops listed).contains i && Region.free .any ops listed i && Nat.beq (kd i) 0 && Region.noSelect ops &&
  (List.range ops.size).all fun j => Nat.ble (kd j) 1 || (ops[j]?).any fun oj => oj.after.any fun e => Region.binds .any e && e.on == i
variable {S0 : WS}
theorem G.take_ofP {fuel i : Nat} {listed : Array Bool} {v : Value} (hok : takeOkP ops kd listed i = true) (ho : ops[i]? = some o) (hy : e.Ok → YieldsIf P ops (fun _ => True) o v ⟨e.arr, ds⟩)
    (h : G P ops kd N S0 fuel (listed.setIfInBounds i true) (e.put o.dst v) ds S) : G P ops kd N S0 (fuel + 1) listed e ds S := by
  simp only [takeOkP, Bool.and_eq_true] at hok
  obtain ⟨⟨⟨h1, h2⟩, h3⟩, h4⟩ := hok
  have hok := h.1.of_put
  refine ⟨hok, h.2.1, fun w hw => wpG_first (C := fun _ => True) ho (Region.noSelect_spec h4) (.inl ⟨fun _ => trivial, Nat.eq_of_beq_eq_true h3⟩) fuel listed _ w (Region.free_spec ho h2) (by simpa using h1) (hy hok) trivial ?_⟩
  rw [En.put_arr]; exact h.2.2 w hw
theorem G.take_of {fuel i : Nat} {listed : Array Bool} {v : Value} (hok : takeOk ops kd listed i = true) (ho : ops[i]? = some o) (hy : e.Ok → YieldsIf P ops S0 o v ⟨e.arr, ds⟩)
    (h : G P ops kd N S0 fuel (listed.setIfInBounds i true) (e.put o.dst v) ds S) : G P ops kd N S0 (fuel + 1) listed e ds S := by
  simp only [takeOk, Bool.and_eq_true] at hok
  obtain ⟨⟨⟨⟨h1, h2⟩, h3⟩, h4⟩, h5⟩ := hok
  have hok := h.1.of_put
  refine ⟨hok, h.2.1, fun w hw => wpG_first (C := S0) ho (Region.noSelect_spec h4) (.inr ⟨rfl, Nat.eq_of_beq_eq_true h3, ?_⟩) fuel listed _ w (Region.free_spec ho h2) (by simpa using h1) (hy hok) (h.2.1 w hw) ?_⟩
  · intro j oj hj h0 h1
    have := List.all_eq_true.1 h5 j (List.mem_range.2 (Array.getElem?_eq_some_iff.1 hj).1)
    have hb : Nat.ble (kd j) 1 = false := by
      cases hb : Nat.ble (kd j) 1 with
      | false => rfl
      | true => have := Nat.le_of_ble_eq_true hb; omega
    rw [hb, Bool.false_or, hj, Option.any_some, ← Array.any_toList, List.any_eq_true] at this
    obtain ⟨e, he, hb⟩ := this
    simp only [Bool.and_eq_true, beq_iff_eq] at hb
    exact ⟨e, by simpa using he, hb.1, hb.2⟩
  · rw [En.put_arr]; exact h.2.2 w hw
theorem Yl.yieldsIf {v : Value} (hy : Yl P S e o v) (hok : e.Ok) (hw : Region.wanted o (yielded ops e.arr) = true) : YieldsIf P ops S o v ⟨e.arr, ds⟩ :=
  .inl ⟨hw, fun w hS => by rw [En.eval_eq hok]; exact hy w hS⟩
theorem wanted_no {j d : Nat} {b c : Bool} {oj : Oper} (hok : e.Ok) (hg : o.guard = some (j, b)) (hj : ops[j]? = some oj) (hd : oj.dst = some d) (hv : e.get d = .bool c) (hc : c = !b) :
    Region.wanted o (yielded ops e.arr) = false := by
  obtain ⟨n, hn⟩ := hok
  have hget := En.getD_of_ok hn d
  rw [hv] at hget
  simp only [Region.wanted, hg, yielded, hj, hd, Option.bind_some]
  cases hx : e.arr[d]? with
  | none => simp [Array.getD_eq_getD_getElem?, hx, undef] at hget
  | some u =>
    simp only [Array.getD_eq_getD_getElem?, hx, Option.getD_some] at hget
    subst hget; subst hc
    cases b <;> rfl
section
variable {op : Op} {d : Nat} {ty : TypeId} {pos : String} {aft : Array Edge}
/-- Number i looks at no memory: it is taken first. -/
theorem G.p {fuel : Nat} (i : Nat) {listed : Array Bool} {v : Value} (hok : takeOkP ops kd listed i = true) (ho : ops[i]? = some ⟨some d, op, ty, pos, aft, none⟩) (hy : Yl P (fun _ => True) e ⟨some d, op, ty, pos, aft, none⟩ v)
    (h : G P ops kd N S0 fuel (listed.setIfInBounds i true) (.upd d v e) ds S) : G P ops kd N S0 (fuel + 1) listed e ds S :=
  G.take_ofP hok ho (fun hk => hy.yieldsIf hk rfl) h
/-- Number i reads memory: it is taken first. -/
theorem G.t {fuel : Nat} (i : Nat) {listed : Array Bool} {v : Value} (hok : takeOk ops kd listed i = true) (ho : ops[i]? = some ⟨some d, op, ty, pos, aft, none⟩) (hy : Yl P S0 e ⟨some d, op, ty, pos, aft, none⟩ v)
    (h : G P ops kd N S0 fuel (listed.setIfInBounds i true) (.upd d v e) ds S) : G P ops kd N S0 (fuel + 1) listed e ds S :=
  G.take_of hok ho (fun hk => hy.yieldsIf hk rfl) h
theorem G.pyes {fuel : Nat} (i : Nat) {j d' : Nat} {b c : Bool} {oj : Oper} {listed : Array Bool} {v : Value} (hok : takeOkP ops kd listed i = true) (ho : ops[i]? = some ⟨some d, op, ty, pos, aft, some (j, b)⟩) (hj : ops[j]? = some oj) (hd : oj.dst = some d')
    (hv : e.get d' = .bool c) (hc : c = b) (hy : Yl P (fun _ => True) e ⟨some d, op, ty, pos, aft, some (j, b)⟩ v) (h : G P ops kd N S0 fuel (listed.setIfInBounds i true) (.upd d v e) ds S) : G P ops kd N S0 (fuel + 1) listed e ds S :=
  G.take_ofP hok ho (fun hk => hy.yieldsIf hk (wanted_yes hk rfl hj hd hv hc)) h
theorem G.tyes {fuel : Nat} (i : Nat) {j d' : Nat} {b c : Bool} {oj : Oper} {listed : Array Bool} {v : Value} (hok : takeOk ops kd listed i = true) (ho : ops[i]? = some ⟨some d, op, ty, pos, aft, some (j, b)⟩) (hj : ops[j]? = some oj) (hd : oj.dst = some d')
    (hv : e.get d' = .bool c) (hc : c = b) (hy : Yl P S0 e ⟨some d, op, ty, pos, aft, some (j, b)⟩ v) (h : G P ops kd N S0 fuel (listed.setIfInBounds i true) (.upd d v e) ds S) : G P ops kd N S0 (fuel + 1) listed e ds S :=
  G.take_of hok ho (fun hk => hy.yieldsIf hk (wanted_yes hk rfl hj hd hv hc)) h
/-- A guard that says no. -/
theorem G.pno {fuel : Nat} (i : Nat) {j d' : Nat} {b c : Bool} {oj : Oper} {listed : Array Bool} (hok : takeOkP ops kd listed i = true) (ho : ops[i]? = some ⟨some d, op, ty, pos, aft, some (j, b)⟩) (hj : ops[j]? = some oj) (hd : oj.dst = some d')
    (hv : e.get d' = .bool c) (hc : c = !b) (h : G P ops kd N S0 fuel (listed.setIfInBounds i true) (.upd d undef e) ds S) : G P ops kd N S0 (fuel + 1) listed e ds S :=
  G.take_ofP hok ho (fun hk => .inr ⟨wanted_no hk rfl hj hd hv hc, rfl⟩) h
end
/-- Number i alone may come up. -/
theorem G.run {fuel : Nat} (i : Nat) {listed : Array Bool} {X : Type} {p : X → Prop} {val : X → Value} {T : X → WS} (hr : Region.ready .any ops listed = [i]) (hk : kd i = 0) (ho : ops[i]? = some o) (hg : o.guard = none)
    (he : Ef P (Qn N) e ds S o p val T) (hne : ∃ x, p x) (hs : ∀ w, S w → S0 w) (hsub : ∀ x, p x → ∀ w, T x w → S0 w) (S1 : X → WS) (h1 : ∀ x, p x → ∀ w, S1 x w → S0 w) (h : ∀ x, p x → G P ops kd N (S1 x) fuel (listed.setIfInBounds i true) (e.put o.dst (val x)) ds (T x)) :
    G P ops kd N S0 (fuel + 1) listed e ds S := by
  obtain ⟨x0, hx0⟩ := hne
  have hok : e.Ok := (h x0 hx0).1.of_put
  refine ⟨hok, hs, fun w hw => ⟨fun h0 => (by rw [h0] at hr; cases hr), fun j hj => ?_⟩⟩
  rw [hr] at hj
  simp only [List.mem_singleton] at hj
  subst hj
  unfold wpOp
  simp only [ho]
  rw [if_pos (by simp [Region.wanted, hg])]
  refine .inl (Oper.wp_mono ?_ (he.out hok w hw))
  rintro a w' ⟨x, hx, rfl, hT⟩
  exact ⟨by simp only [Held, hk]; exact hsub x hx _ hT, wpG_mono (h1 x hx) _ _ _ _ ((h x hx).2.2 _ hT)⟩
theorem G.last {fuel : Nat} {listed : Array Bool} (hf : allFin ops kd listed = true) (hs : ∀ w, S w → S0 w) (h : G0 P ops N fuel listed e ds S) : G P ops kd N S0 fuel listed e ds S :=
  ⟨h.1, hs, fun w hw => wpG_of_any _ _ _ _ (fun j hj => by
    have := List.all_eq_true.1 hf j (List.mem_range.2 hj)
    simp only [Bool.or_eq_true] at this
    exact this.imp id Nat.eq_of_beq_eq_true) (h.2 w hw)⟩
theorem G.done {listed : Array Bool} (hr : Region.ready .any ops listed = []) (hs : ∀ w, S w → S0 w) (h : e.Ok ∧ ∀ w, S w → N ⟨e.arr, ds⟩ w) : G P ops kd N S0 0 listed e ds S :=
  ⟨h.1, hs, fun w hw => ⟨hr, h.2 w hw⟩⟩
theorem G0.run {fuel : Nat} (i : Nat) {listed : Array Bool} {X : Type} {p : X → Prop} {val : X → Value} {T : X → WS} (hr : Region.ready .any ops listed = [i]) (ho : ops[i]? = some o) (hg : o.guard = none)
    (he : Ef P (Qn N) e ds S o p val T) (hne : ∃ x, p x) (h : ∀ x, p x → G0 P ops N fuel (listed.setIfInBounds i true) (e.put o.dst (val x)) ds (T x)) :
    G0 P ops N (fuel + 1) listed e ds S := by
  obtain ⟨x0, hx0⟩ := hne
  have hok : e.Ok := (h x0 hx0).1.of_put
  refine ⟨hok, fun w hw => ⟨fun h0 => (by rw [h0] at hr; cases hr), fun j hj => ?_⟩⟩
  rw [hr] at hj
  simp only [List.mem_singleton] at hj
  subst hj
  unfold wpOp
  simp only [ho]
  rw [if_pos (by simp [Region.wanted, hg])]
  refine .inl (Oper.wp_mono ?_ (he.out hok w hw))
  rintro a w' ⟨x, hx, rfl, hT⟩
  exact (h x hx).2 _ hT
theorem G0.val {fuel : Nat} (i : Nat) {listed : Array Bool} {v : Value} (hr : Region.ready .any ops listed = [i]) (ho : ops[i]? = some o) (hg : o.guard = none) (hy : Yl P S e o v)
    (h : G0 P ops N fuel (listed.setIfInBounds i true) (e.put o.dst v) ds S) : G0 P ops N (fuel + 1) listed e ds S :=
  G0.run i hr ho hg hy.ef ⟨(), trivial⟩ fun _ _ => h
theorem G0.done {listed : Array Bool} (hr : Region.ready .any ops listed = []) (h : e.Ok ∧ ∀ w, S w → N ⟨e.arr, ds⟩ w) : G0 P ops N 0 listed e ds S :=
  ⟨h.1, fun w hw => ⟨hr, h.2 w hw⟩⟩
theorem Qn_to {z : Exit} {a : Act} {w : World} (h : Qn (fun a w => Q .normal a w) z a w) : Q z a w := by
  cases z <;> first | exact h | exact h.elim
theorem Wp.draw {id : Nat} {l : List Oper} (hm : P.follows .mixedOrders = true) (kd : Nat → Nat) (S0 : WS) (hS : ∀ w, S w → S w.drew)
    (h : ∀ N : Act → World → Prop, (∀ e ds S, Fin Q .normal e ds S → e.Ok ∧ ∀ w, S w → N ⟨e.arr, ds⟩ w) → G P l.toArray kd N S0 l.length (Array.replicate l.length false) e ds S) : Wp P (.region id l.toArray true) Q e ds S := by
  have h := h (fun a w => Q .normal a w) (fun e ds S h => h)
  refine ⟨h.1, fun w hw => Code.wp_mono (fun z a w => Qn_to) (wp_region_any hm ?_)⟩
  have := wpAny_of_G _ _ _ _ (h.2.2 _ (hS w hw))
  simpa using this

theorem Wp.drawS {id : Nat} {l : List Oper} (hm : P.follows .mixedOrders = true) (kd : Nat → Nat) (hS : ∀ w, S w → S w.drew)
    (h : ∀ N : Act → World → Prop, (∀ e ds S, Fin Q .normal e ds S → e.Ok ∧ ∀ w, S w → N ⟨e.arr, ds⟩ w) → G P l.toArray kd N S l.length (Array.replicate l.length false) e ds S) : Wp P (.region id l.toArray true) Q e ds S := Wp.draw hm kd S hS h

/-! #### calls -/
class Body (P : Program) (f : FuncId) : Prop where
  ex : ∃ fn, P.funcs[f]? = some fn ∧ fn.body.isNone = false ∧ (fn.name == "runtime.NumGoroutine") = false
theorem run_callFunc {f : FuncId} (hb : Body P f) (args : Array Value) (w : World) : (callFunc f args).run P w = .ok (.enter f args) w := by
  obtain ⟨fn, h1, h2, h3⟩ := hb
  simp only [callFunc, Sem.run_bind, run_program, Result.andThen_ok, h1, h2, h3, Bool.false_eq_true, if_false, Sem.run_pure]
variable {d : Option Tmp} {ty : TypeId} {pos : String} {aft : Array Edge} {g : Option (Nat × Bool)}
theorem Ef.callV {X : Type} {p : X → Prop} {val : X → Value} {T : X → WS} {f : FuncId} {fo : Operand} {args : List Operand} {fst cp vs : List Value} {ts : Array TypeId} (hb : Body P f := by infer_instance)
    (hf : e.ev fo = .func (.func f) fst.toArray cp.toArray := by rfl) (hv : fst ++ args.map e.ev ++ cp = vs) (hc : ∀ w, S w → Calls P f vs.toArray w (fun en w' => ∃ x, p x ∧ en = .returned (val x) ∧ T x w')) :
    Ef P Q e ds S ⟨d, .call { callee := .value fo, args := args.toArray, argTypes := ts }, ty, pos, aft, g⟩ p val T := by
  refine ⟨fun hok w hw => ?_⟩
  unfold Oper.wp
  rw [En.eval_eq hok]
  have : (execOp e.ev (⟨d, .call { callee := .value fo, args := args.toArray, argTypes := ts }, ty, pos, aft, g⟩ : Oper)).run P w = .ok (.enter f vs.toArray) w := by
    simp only [execOp, resolve, hf, Deferred.ofValue, Sem.run_bind, Sem.run_pure, Result.andThen_ok, invoke, List.map_toArray]
    rw [run_callFunc hb, ← hv]
    simp
  rw [this, Oper.upon_enter]
  refine (hc w hw).mono ?_
  rintro en w' ⟨x, hx, rfl, hT⟩
  exact ⟨x, hx, En.put_arr _ _ _, hT⟩
theorem Ef.call {X : Type} {p : X → Prop} {val : X → Value} {T : X → WS} {f : FuncId} {args : List Operand} {vs : List Value} {ts : Array TypeId} (hb : Body P f := by infer_instance)
    (hv : args.map e.ev = vs) (hc : ∀ w, S w → Calls P f vs.toArray w (fun en w' => ∃ x, p x ∧ en = .returned (val x) ∧ T x w')) :
    Ef P Q e ds S ⟨d, .call { callee := .value (.func f), args := args.toArray, argTypes := ts }, ty, pos, aft, g⟩ p val T :=
  Ef.callV (fst := []) (cp := []) hb rfl (by simpa using hv) hc

/-! #### in and out -/
def Res (P : Program) (fn : Func) (e : En) (S : WS) (v : Value) : Prop := ∀ w, S w → (results fn e.arr).run P w = .ok v w
theorem Calls.enter {f : FuncId} {fn : Func} {c : Code} {args : List Value} {w : World} {R : Ending → World → Prop} (hf : P.funcs[f]? = some fn) (hb : fn.body = some c) (hS : S w)
    (h : ∀ K : Exit → Act → World → Prop, (∀ e S v, e.Ok → Res P fn e S v → (∀ w, S w → R (.returned v) w) → Fin K .ret e [] S ∧ Fin K .normal e [] S) → Wp P c K (.base fn.ntmps args) [] S) : Calls P f args.toArray w R := by
  refine calls_of_wp hf hb ?_
  have h := (h (bodyPost P fn R) (fun e S v hk hr hR => ⟨⟨hk, fun w hw => ⟨rfl, v, hr w hw, hR w hw⟩⟩, ⟨hk, fun w hw => ⟨rfl, v, hr w hw, hR w hw⟩⟩⟩)).2 w hS
  have e1 : (En.base fn.ntmps args).arr = args.toArray ++ Array.replicate (fn.ntmps - args.toArray.size) undef := by
    simp [En.arr]
  rw [e1] at h
  exact h
theorem Res.one {fn : Func} {t : Tmp} {v : Value} (hok : e.Ok) (hr : fn.results = #[.tmp t]) (hv : e.get t = v) : Res P fn e S v := fun w _ => by
  obtain ⟨n, hn⟩ := hok
  rw [results_tmp hr, En.getD_of_ok hn, hv]
theorem Res.two {fn : Func} {t u : Tmp} {v x : Value} (hok : e.Ok) (hr : fn.results = #[.tmp t, .tmp u]) (hv : e.get t = v) (hx : e.get u = x) : Res P fn e S (.tuple #[v, x]) := fun w _ => by
  obtain ⟨n, hn⟩ := hok
  rw [results_tmp2 hr, En.getD_of_ok hn, En.getD_of_ok hn, hv, hx]
theorem Res.none {fn : Func} (hr : fn.results = #[]) : Res P fn e S (.tuple #[]) := fun _ _ => results_none hr _ _ _
theorem Res.three {fn : Func} {t u z : Tmp} {v x y : Value} (hok : e.Ok) (hr : fn.results = #[.tmp t, .tmp u, .tmp z]) (hv : e.get t = v) (hx : e.get u = x) (hy : e.get z = y) : Res P fn e S (.tuple #[v, x, y]) := fun w _ => by
  obtain ⟨n, hn⟩ := hok
  have h1 := En.getD_of_ok hn t
  have h2 := En.getD_of_ok hn u
  have h3 := En.getD_of_ok hn z
  rw [hv] at h1; rw [hx] at h2; rw [hy] at h3
  simp only [Array.getD_eq_getD_getElem?] at h1 h2 h3
  simp [results, hr, h1, h2, h3]
/-- A result that lies in memory: a struct or an array. -/
theorem Res.cell {fn : Func} {t : Tmp} {ty : TypeId} {w0 : World} {F : List Nat} {L : List Hl} {b : Nat} {cs : List Value} {T : TypeId} (hok : e.Ok) (hr : fn.results = #[.cell t ty]) (hv : e.get t = pt b 0) (hT : AggOf P ty cs.length) (hm : Hl.blk b T cs ∈ L) :
    Res P fn e (Tr w0 F L) (.agg cs.toArray) := fun w hw => by
  obtain ⟨n, hn⟩ := hok
  have h1 := En.getD_of_ok hn t
  rw [hv] at h1
  simp only [Array.getD_eq_getD_getElem?] at h1
  have hh := hw.sat _ hm
  have hl := run_loadCells_list (P := P) w (ad b 0) cs (fun i v hv => by rw [Addr.add_lit, cell_of_row w b (0 + i) _ _ _ hh]; simpa using hv)
  simp [results, hr, h1, asAddr, loadVar, run_isAgg_yes hT, run_sizeOf hT.size, hl]
end
end Go.Eng

/- Slices that grow. -/
open Go.RowKit
namespace Go.Eng
section
variable {P : Program} {Q : Exit → Act → World → Prop} {e : En} {ds : List Deferred} {S : WS}
variable {w0 : World} {F : List Nat} {L : List Hl} {d : Option Tmp} {ty t yt elem : TypeId} {pos : String} {aft : Array Edge} {g : Option (Nat × Bool)} {x y : Operand} {k j : IntKind} {m n : Nat}
variable {b ofs base sz bytes ln cap c c' : Nat} {cs xs ys zs vs : List Value} {v : Value} {T : TypeId} {u : Hl → List Hl} {A : Option Addr} {ao : Option Nat}

/-- What a slice's address leads to reads ys (nothing is asked of an empty one). -/
def RdS (w0 : World) (F : List Nat) (L : List Hl) (A : Option Addr) (ys : List Value) : Prop :=
  ∀ w, Tr w0 F L w → ∀ i v, ys[i]? = some v → ∃ b ofs, A = some ⟨b, ofs, none⟩ ∧ w.cell? ⟨b, ofs + i, none⟩ = some v
theorem RdS.nil : RdS w0 F L A [] := fun _ _ i v h => by simp at h
theorem RdS.mk' (h : Rd w0 F L b ofs ys) : RdS w0 F L (some ⟨b, ofs, none⟩) ys := fun w hw i v hv => ⟨b, ofs, rfl, h w hw i v hv⟩
theorem RdS.row (h : Hl.row ao T sz n c ys ∈ L) : RdS w0 F L (ao.map fun g => ⟨g, 0, none⟩) ys := fun w hw i v hv => by
  rcases Hl.row_cases (hw.sat _ h) with ⟨rfl, rfl, rfl, rfl⟩ | ⟨g, spare, rfl, hg, _⟩
  · simp at hv
  · exact ⟨g, 0, rfl, Rd.row h w hw i v hv⟩
theorem RdS.rd (h : RdS w0 F L A ys) (hA : A = some ⟨b, ofs, none⟩) : Rd w0 F L b ofs ys := fun w hw i v hv => by
  obtain ⟨b', o', h1, h2⟩ := h w hw i v hv
  rw [hA] at h1
  simp only [Option.some.injEq, Addr.mk.injEq, and_true] at h1
  obtain ⟨rfl, rfl⟩ := h1
  exact h2
theorem RdS.cells (h : RdS w0 F L A ys) {w : World} (hT : Tr w0 F L w) (hn : ys.length = n * sz) (ln cap : Nat) : (Builtin.firstCells sz n (.slice A ln cap)).run P w = .ok ys.toArray w := by
  cases hy : ys with
  | nil =>
    have hz : n * sz = 0 := by rw [← hn, hy]; rfl
    cases A with
    | none => simp [Builtin.firstCells]
    | some a => simp [Builtin.firstCells, hz, loadCells, loadCellsFrom]
  | cons y0 yr =>
    obtain ⟨b, ofs, hA, _⟩ := h w hT 0 y0 (by rw [hy]; rfl)
    subst hA
    rw [← hy]
    exact run_firstCells_some w sz n _ ln cap ys hn (fun i v hv => by rw [Addr.add_lit]; exact (h.rd rfl) w hT i v hv)
theorem room_of {w : World} (h : (Hl.row ao T sz n c xs).holds w) : n ≤ c ∧ c ≤ maxLen := by
  rcases Hl.row_cases h with ⟨_, rfl, rfl, _⟩ | ⟨_, _, _, _, h, h', _⟩
  · exact ⟨Nat.le_refl _, Nat.zero_le _⟩
  · exact ⟨h, h'⟩
theorem grown_tr {w : World} (cells : List Value) (e : TypeId) (N : List Hl) (hN : ∀ h ∈ N, h.holds (w.drew.alloc (.cells cells.toArray e))) (ha : N.Pairwise Hl.apart) : Tr w [] N (w.drew.alloc (.cells cells.toArray e)) :=
  ⟨rfl, rfl, rfl, by simp, fun k hk _ => (Below.heap_alloc w.drew _ k hk), hN, ha⟩
theorem grown_row {w : World} (cells spare : List Value) (e : TypeId) (hn : n ≤ c) (hc : c ≤ maxLen) (hx : cells.length = n * sz) (hs : (cells ++ spare).length = c * sz) :
    Tr w [] [.row (some w.heap.size) e sz n c cells] (w.drew.alloc (.cells (cells ++ spare).toArray e)) := by
  refine grown_tr _ _ _ ?_ (by simp)
  intro h hh
  simp only [List.mem_singleton] at hh
  subst hh
  exact Hl.row_some (spare := spare) (heap_alloc_new w.drew _) hn hc hx hs
theorem arr_app (a : List Value) (b : Array Value) : a.toArray ++ b = (a ++ b.toList).toArray := by
  apply Array.ext'
  simp
theorem madeCells_eq (z : Array Value) (zs : List Value) (hz : z.toList = zs) (hs : 0 < zs.length) (q : Nat) : madeCells z (q * zs.length) = (List.replicate q zs).flatten.toArray := by
  apply Array.ext'
  have hzz : z = zs.toArray := by rw [← hz]
  subst hzz
  simp only [madeCells, List.size_toArray, Array.toList_map, Array.toList_range]
  induction q with
  | zero => simp
  | succ q ih =>
    rw [Nat.succ_mul, Nat.add_comm, List.range_add, List.map_append, List.map_map, List.replicate_succ, List.flatten_cons]
    congr 1
    · apply List.ext_getElem?
      intro i
      simp only [List.getElem?_map]
      rcases Nat.lt_or_ge i zs.length with h | h
      · rw [List.getElem?_range h]
        simp [Nat.mod_eq_of_lt h, h]
      · rw [List.getElem?_eq_none (by simpa using h), List.getElem?_eq_none h]; rfl
    · rw [← ih]
      apply List.map_congr_left
      intro i _
      simp
/-- What an append comes to: a slice that lies where it lay, or in a new block. -/
theorem run_append_src {w : World} {i : TypeInfo} {z : Value} (ht : P.underlying t = some (.slice elem)) (hi : P.info? elem = some i) (hz : i.zero = some z) (hzs : z.cells.size = i.size)
    (hT : Tr w0 F L w) (hm : Hl.row ao elem i.size n c xs ∈ L) (hy : RdS w0 F L A ys) (hl : ys.length = m * i.size) (hsz : 0 < i.size) (h1 : ∀ u ∈ ys, u.oneCell' = true) (hb : (n + m) * i.bytes ≤ 140737488355328) (h63 : n + m ≤ maxLen) (cap : Nat) :
    ∃ ao' c' w', (Builtin.append_ #[t, t] ty #[sl ao n c, .slice A m cap]).run P w = .ok (sl ao' (n + m) c') w' ∧ Tr w ao.toList [.row ao' elem i.size (n + m) c' (xs ++ ys)] w' ∧ (∀ k, ao' = some k → ao = some k ∨ w.heap.size ≤ k) := by
  have hh := hT.sat _ hm
  have h63' : n + m ≤ 9223372036854775807 := by simp only [maxLen] at h63; omega
  cases hyc : ys with
  | nil =>
    have hz0 : m * i.size = 0 := by rw [← hl, hyc]; rfl
    have hm0 : m = 0 := by rcases Nat.mul_eq_zero.1 hz0 with h | h; exact h; omega
    subst hm0
    have hnc := (room_of hh).1
    refine ⟨ao, c, w, ?_, ?_, fun k hk => .inl hk⟩
    · have hf := (RdS.nil (w0 := w0) (F := F) (L := L) (A := A)).cells (P := P) (sz := i.size) (n := 0) hT (by simp) 0 cap
      cases ao <;> simp [Builtin.append_, run_underlying ht, sizeOf, typeInfo, hi, Builtin.lenOf, hnc, hf, storeCells]
    · exact Tr.start1 _ (by simpa using hh)
  | cons y0 yr =>
    obtain ⟨b, ofs, hA, _⟩ := hy w hT 0 y0 (by rw [hyc]; rfl)
    subst hA
    rw [← hyc]
    have hnews : ∀ q v, ys[q]? = some v → w.cell? ((⟨b, ofs, none⟩ : Addr).add q) = some v := fun q v hv => by rw [Addr.add_lit]; exact (hy.rd rfl) w hT q v hv
    have hm1 : 0 < m := by
      rcases Nat.eq_zero_or_pos m with h | h
      · subst h; rw [hyc] at hl; simp at hl
      · exact h
    rcases Hl.row_cases hh with ⟨rfl, rfl, rfl, rfl⟩ | ⟨g, spare, rfl, hg, hnc, hcm, hx, hs⟩
    · have hr := run_append_nil (P := P) w t ty elem i z ht hi hz ⟨b, ofs, none⟩ m cap ys hl hnews hm1 (by omega) (by simp only [Nat.zero_add] at hb; omega)
      simp only [Nat.zero_add, List.nil_append]
      refine ⟨some w.heap.size, _, _, hr, ?_, fun k hk => .inr (by simp only [Option.some.injEq] at hk; omega)⟩
      have hge := grownCap_ge w m 0 elem
      have := grown_row (w := w) (sz := i.size) (n := m) ys (Builtin.zeroCells z.cells (grownCap w m 0 elem - m)).toList elem hge (grownCap_le_maxLen w m 0 elem (by omega)) hl
        (by simp only [List.length_append, hl, Array.length_toList, size_zeroCells, hzs, ← Nat.add_mul]; congr 1; omega)
      rw [arr_app]; simpa using this
    · by_cases hroom : n + m ≤ c
      · have hfit : n * i.size + ys.length ≤ (xs ++ spare).toArray.size := by rw [hl, ← Nat.add_mul]; simp only [List.size_toArray, hs]; exact Nat.mul_le_mul_right _ hroom
        have hr := run_append_room (P := P) w t ty elem i ht hi g n c (xs ++ spare).toArray hg ⟨b, ofs, none⟩ m cap ys hl hnews h1 hroom hfit
        refine ⟨some g, c, _, hr, ?_, fun k hk => .inl hk⟩
        have e1 : ((xs ++ spare).toArray.toList.take (n * i.size) ++ ys ++ (xs ++ spare).toArray.toList.drop (n * i.size + ys.length)) = (xs ++ ys) ++ spare.drop ys.length := by
          simp only [← hx]
          rw [List.take_left, ← List.drop_drop, List.drop_left]
        rw [e1]
        refine setRow_tr _ ?_ (by simp)
        intro h hm
        simp only [List.mem_singleton] at hm
        subst hm
        refine Hl.row_some (spare := spare.drop ys.length) (setRow_heap w g _ _ _ _ hg) hroom hcm (by rw [List.length_append, hx, hl, Nat.add_mul]) ?_
        simp only [List.size_toArray] at hfit
        simp only [List.length_append, List.length_drop] at hs hfit ⊢
        omega
      · have holds : ∀ q v, xs[q]? = some v → w.cell? ((⟨g, 0, none⟩ : Addr).add q) = some v := fun q v hv => by rw [Addr.add_lit]; exact Rd.row hm w hT q v hv
        have hr := run_append_grow (P := P) w t ty elem i z ht hi hz ⟨g, 0, none⟩ n c xs hx holds ⟨b, ofs, none⟩ m cap ys hl hnews (by omega) (by omega) (growslice_fits (by omega) hb)
        refine ⟨some w.heap.size, _, _, hr, ?_, fun k hk => .inr (by simp only [Option.some.injEq] at hk; omega)⟩
        have hge := grownCap_ge w (n + m) c elem
        have hlen : (xs ++ ys).length = (n + m) * i.size := by rw [List.length_append, hx, hl, Nat.add_mul]
        have := grown_row (w := w) (sz := i.size) (n := n + m) (xs ++ ys) (Builtin.zeroCells z.cells (grownCap w (n + m) c elem - (n + m))).toList elem hge (grownCap_le_maxLen w (n + m) c elem h63) hlen
          (by rw [List.length_append, hlen]; simp only [Array.length_toList, size_zeroCells, hzs, ← Nat.add_mul]; congr 1; omega)
        have this := this.widen (F' := (some g).toList) (by simp)
        have ea : xs.toArray ++ ys.toArray = (xs ++ ys).toArray := by simp
        rw [ea, arr_app]; simpa using this
/-- 'append' on a slice of one's own. -/
theorem Ef.append {ts : Array TypeId} (hu : P.underlying t = some (.slice elem) := by exact Und.out) (hts : ts = #[t, t] := by rfl) (hel : ElemOf P elem sz bytes zs := by infer_instance) (hx : e.ev x = sl ao n c := by rfl) (hat : At (.row ao elem sz n c xs) L u := by exact AtR.ha) (hy : e.ev y = .slice A m cap := by rfl) (hr : RdS w0 F L A ys := by first | exact SeesS.rd | assumption) (hl : ys.length = m * sz := by first | rfl | assumption | (simp; done) | (simp; omega) | omega)
    (h1 : ∀ u ∈ ys, u.oneCell' = true := by first | exact one_u8 _ | exact List.all_eq_true.1 rfl | (simp; done)) (hsz : 0 < sz := by omega) (hb : (n + m) * bytes ≤ 140737488355328 := by omega) (h63 : n + m ≤ 9223372036854775807 := by omega) (hw : ∀ k, ao = some k → Own w0 F k) :
    Ef P Q e ds (Tr w0 F L) ⟨d, .call { callee := .builtin .append, args := [x, y].toArray, argTypes := ts }, ty, pos, aft, g⟩ (fun p : Option Nat × Nat => ∀ k, p.1 = some k → Own w0 F k) (fun p => sl p.1 (n + m) p.2)
      (fun p => Tr w0 F (u (.row p.1 elem sz (n + m) p.2 (xs ++ ys)))) := by
  refine ⟨fun hok w hT => ?_⟩
  obtain ⟨i, z, h2, h3, h4, h5, h6, h7⟩ := hel
  subst h5; subst h6; subst hts
  have hzs : z.cells.size = i.size := by rw [← h7, ← h4]; simp
  obtain ⟨ao', c', w', hrun, hT', hk⟩ := run_append_src (P := P) (ty := ty) hu h2 h3 hzs hT hat.mem hr hl hsz h1 hb (by simp only [maxLen]; omega) cap
  unfold Oper.wp
  rw [En.eval_eq hok]
  have : (execOp e.ev (⟨d, .call { callee := .builtin .append, args := [x, y].toArray, argTypes := #[t, t] }, ty, pos, aft, g⟩ : Oper)).run P w = .ok (.value (sl ao' (n + m) c')) w' := by
    refine run_builtin fun cst => ?_
    simp only [builtin, List.map_cons, List.map_nil, hx, hy, Sem.run_bind]
    rw [hrun]
    simp
  rw [this, Oper.upon_value, En.put_arr]
  refine ⟨(ao', c'), fun k hk' => ?_, rfl, ?_⟩
  · rcases hk k hk' with h | h
    · exact hw k h
    · exact .inr (Nat.le_trans hT.size h)
  · have := hT.at_step hat (N := []) hT' (by intro k hkk; simp only [Option.mem_toList] at hkk; exact ⟨hkk, hw k hkk⟩) (by intro x hx k hkk; simp only [List.mem_singleton] at hx; subst hx; exact hk k hkk)
    simpa using this
theorem maxLen_of {q : Nat} (h : q ≤ 9223372036854775807) : q ≤ maxLen := h
/-- 'make([]T, n)' -/
theorem Ef.make {xl xc : Operand} {k1 k2 : IntKind} {l : Int} (q : Nat) (hu : P.underlying t = some (.slice elem) := by exact Und.out) (hel : ElemOf P elem sz bytes zs := by infer_instance) (hx : e.ev xl = .int k1 l := by rfl) (hy : e.ev xc = .int k2 l := by rfl) (hl : l = q := by omega) (hsz : 0 < sz := by omega) (hb : bytes * q ≤ 281474976710656 := by omega) (h63 : q ≤ 9223372036854775807 := by omega) :
    Ef P Q e ds (Tr w0 F L) ⟨d, .makeSlice t xl xc, ty, pos, aft, g⟩ (New w0) (fun b => sl (some b) q q) (fun b => Tr w0 F (.row (some b) elem sz q q (List.replicate q zs).flatten :: L)) := by
  refine ⟨fun hok w hT => ?_⟩
  obtain ⟨i, z, h2, h3, h4, h5, h6, h7⟩ := hel
  subst h5; subst h6; subst hl
  have hzs : z.cells.size = i.size := by rw [← h7, ← h4]; simp
  have hr := run_make (P := P) w t elem i z hu h2 h3 k1 k2 q q (by omega) (Int.le_refl _) (by rw [← Int.natCast_mul]; exact Int.ofNat_le.2 hb) (by omega)
  unfold Oper.wp
  rw [En.eval_eq hok]
  have : (execOp e.ev (⟨d, .makeSlice t xl xc, ty, pos, aft, g⟩ : Oper)).run P w = .ok (.value (sl (some w.heap.size) q q)) (w.alloc (.cells (madeCells z.cells (q * i.size)) elem)) := by
    simp only [execOp, hx, hy, Sem.run_bind, hr, Result.andThen_ok, Sem.run_pure, Int.toNat_natCast]
    rfl
  rw [this, Oper.upon_value, En.put_arr]
  refine ⟨w.heap.size, hT.size, rfl, ?_⟩
  have hm : madeCells z.cells (q * i.size) = ((List.replicate q zs).flatten ++ []).toArray := by
    rw [← h7, madeCells_eq z.cells zs h4 (by omega), List.append_nil]
  rw [hm]
  refine hT.callN (N := [_]) (alloc_tr _ _ ?_ (by simp)) ?_
  · intro h hh; simp only [List.mem_singleton] at hh; subst hh
    exact Hl.row_some (spare := []) (heap_alloc_new w _) (Nat.le_refl _) h63 (by rw [List.length_flatten, List.map_replicate, h7, List.sum_replicate_nat]) (by rw [List.append_nil, List.length_flatten, List.map_replicate, h7, List.sum_replicate_nat])
  · intro h hh k hk; simp only [List.mem_singleton] at hh; subst hh; simp only [Hl.id, Option.some.injEq] at hk; omega

theorem run_loadCells_rds {w : World} (h : RdS w0 F L A ys) (hT : Tr w0 F L w) (ln cap : Nat) (hn : ys.length = n * sz) : (Builtin.firstCells sz n (.slice A ln cap)).run P w = .ok ys.toArray w := h.cells hT hn ln cap
/-- 'copy(dst, src)' into what is known of a block. -/
theorem Ef.copy {h : Hl} {f : List Value → Hl} {ts : Array TypeId} {dl dc sln scap : Nat} (hu : P.underlying t = some (.slice elem) := by exact Und.out) (hts : ts[0]? = some t := by rfl) (hs : SizeOf P elem 1 := by infer_instance) (hx : e.ev x = .slice (some ⟨b, ofs, none⟩) dl dc := by rfl) (hy : e.ev y = .slice A sln scap := by rfl)
    (hr : RdS w0 F L A ys := by first | exact SeesS.rd | assumption) (hl : ys.length = min sln dl := by first | rfl | assumption | (simp; done) | (simp; omega) | omega) (h1 : ∀ u ∈ ys, u.oneCell' = true := by first | exact one_u8 _ | exact List.all_eq_true.1 rfl | (simp; done)) (hat : At h L u) (hc : Cells h cs f) (hid : h.id = some b) (hle : ofs + ys.length ≤ cs.length := by omega) (hw : Own w0 F b := by first | exact .inr ‹_› | exact .inl ‹_› | exact .inl (by simp)) :
    Ef P Q e ds (Tr w0 F L) ⟨d, .call { callee := .builtin .copy, args := [x, y].toArray, argTypes := ts }, ty, pos, aft, g⟩ Top (fun _ => iv (min sln dl : Nat)) (fun _ => Tr w0 F (u (f (cs.take ofs ++ ys ++ cs.drop (ofs + ys.length))))) := by
  refine ⟨fun hok w hT => ?_⟩
  obtain ⟨w', hst, hT'⟩ := run_storeCells_known (P := P) (ofs := ofs) hT hat hc hid hw hle h1
  unfold Oper.wp
  rw [En.eval_eq hok]
  have hf := hr.cells (P := P) (sz := 1) (n := min sln dl) hT (by rw [hl, Nat.mul_one]) sln scap
  have : (execOp e.ev (⟨d, .call { callee := .builtin .copy, args := [x, y].toArray, argTypes := ts }, ty, pos, aft, g⟩ : Oper)).run P w = .ok (.value (iv (min sln dl : Nat))) w' := by
    refine run_builtin fun cst => ?_
    simp only [builtin, List.map_cons, List.map_nil, hx, hy, Sem.run_bind, Builtin.copy_, hts]
    have e0 : ([Value.slice (some ⟨b, ofs, none⟩) dl dc, Value.slice A sln scap].toArray)[0]? = some (Value.slice (some ⟨b, ofs, none⟩) dl dc) := rfl
    have e1 : ([Value.slice (some ⟨b, ofs, none⟩) dl dc, Value.slice A sln scap].toArray)[1]? = some (Value.slice A sln scap) := rfl
    have e2 : Nat.min sln dl = min sln dl := rfl
    simp only [e0, e1, e2, Sem.run_bind, run_underlying hu, Result.andThen_ok, Builtin.lenOf, Sem.run_pure, run_sizeOf hs, hf, hst, goInt]
  rw [this, Oper.upon_value, En.put_arr]
  exact ⟨(), trivial, rfl, hT'⟩
/-- A literal slice: a new block. -/
theorem Ef.buildSlice {parts : List (Nat × Operand)} {N : Nat} {r : Array Value} (hu : P.underlying t = some (.slice elem) := by exact Und.out) (hel : ElemOf P elem sz bytes zs := by infer_instance) (hN : N * sz ≤ 16777216 := by omega) (hN0 : N * sz ≠ 0 := by omega)
    (hf : Instr.fill (fun i => some (i * sz, sz)) (List.replicate N zs).flatten.toArray (parts.map fun p => (p.1, e.ev p.2)) = some r) (hr : r.toList = vs) :
    Ef P Q e ds (Tr w0 F L) ⟨d, .buildSlice t N parts.toArray, ty, pos, aft, g⟩ (New w0) (fun b => .slice (some ⟨b, 0, none⟩) N N) (fun b => Tr w0 F (.blk b elem vs :: L)) := by
  refine ⟨fun hok w hT => ?_⟩
  obtain ⟨i, z, h2, h3, h4, h5, h6, h7⟩ := hel
  subst h5; subst h6
  have hz : z.cells = zs.toArray := by rw [← h4]
  have hrr : r = vs.toArray := by rw [← hr]
  have hzs : 0 < zs.length := by rw [h7]; rcases Nat.eq_zero_or_pos i.size with h | h; · rw [h] at hN0; simp at hN0
                                 · exact h
  have hm : (Array.range (N * i.size)).map (fun x => zs.toArray[x % zs.toArray.size]!) = (List.replicate N zs).flatten.toArray := by
    have := madeCells_eq zs.toArray zs rfl hzs N
    rw [h7] at this
    exact this
  unfold Oper.wp
  rw [En.eval_eq hok]
  have hnle : ¬ (N * i.size > 2 ^ 24) := by omega
  have : (execOp e.ev (⟨d, .buildSlice t N parts.toArray, ty, pos, aft, g⟩ : Oper)).run P w = .ok (.value (.slice (some ⟨w.heap.size, 0, none⟩) N N)) (w.alloc (.cells vs.toArray elem)) := by
    simp only [execOp, Instr.buildSlice, Sem.run_bind, run_underlying hu, Result.andThen_ok, sizeOf, typeInfo, run_program, h2, Sem.run_pure, hnle, if_false, hN0, List.map_toArray, zeroValue, h3, hz, hm, hf, newRow, run_newObj, World.alloc_eq, hrr]
  rw [this, Oper.upon_value, En.put_arr]
  exact ⟨w.heap.size, hT.size, rfl, alloc_blk hT elem vs⟩
theorem Ef.buildSlice0 (hu : P.underlying t = some (.slice elem) := by exact Und.out) (hel : ElemOf P elem sz bytes zs := by infer_instance) :
    Ef P Q e ds (Tr w0 F L) ⟨d, .buildSlice t 0 [].toArray, ty, pos, aft, g⟩ (New w0) (fun b => sl (some b) 0 0) (fun b => Tr w0 F (.row (some b) elem sz 0 0 [] :: L)) := by
  refine ⟨fun hok w hT => ?_⟩
  obtain ⟨i, z, h2, h3, h4, h5, h6, h7⟩ := hel
  unfold Oper.wp
  rw [En.eval_eq hok]
  have : (execOp e.ev (⟨d, .buildSlice t 0 [].toArray, ty, pos, aft, g⟩ : Oper)).run P w = .ok (.value (.slice (some ⟨w.heap.size, 0, none⟩) 0 0)) (w.alloc (.cells #[] elem)) := by
    simp [execOp, Instr.buildSlice, run_underlying hu, sizeOf, typeInfo, h2, Instr.fill, newRow, Array.range_zero']
  rw [this, Oper.upon_value, En.put_arr]
  refine ⟨w.heap.size, hT.size, rfl, hT.callN (N := [_]) (alloc_tr _ _ ?_ (by simp)) ?_⟩
  · intro h hh; simp only [List.mem_singleton] at hh; subst hh
    exact Hl.row_some (spare := []) (heap_alloc_new w _) (Nat.le_refl _) (Nat.zero_le _) (by simp) (by simp)
  · intro h hh k hk; simp only [List.mem_singleton] at hh; subst hh; simp only [Hl.id, Option.some.injEq] at hk; omega
end
class SeesS (w0 : World) (F : List Nat) (L : List Hl) (A : Option Addr) (xs : outParam (List Value)) : Prop where
  rd : RdS w0 F L A xs
instance SeesS.of {w0 : World} {F : List Nat} {b : Nat} {L : List Hl} {cs : List Value} [h : Sees w0 F L b cs] : SeesS w0 F L (some ⟨b, 0, none⟩) cs := ⟨RdS.mk' h.rd⟩
instance SeesS.hr {w0 : World} {F : List Nat} {ao : Option Nat} {T : TypeId} {sz n c : Nat} {cs : List Value} {l : List Hl} : SeesS w0 F (.row ao T sz n c cs :: l) (ao.map fun g => ⟨g, 0, none⟩) cs := ⟨RdS.row List.mem_cons_self⟩
instance SeesS.tl {w0 : World} {F : List Nat} {A : Option Addr} {a : Hl} {cs : List Value} {l : List Hl} [h : SeesS w0 F l A cs] : SeesS w0 F (a :: l) A cs := ⟨fun w hw => h.rd w (hw.sub (List.sublist_cons_self _ _))⟩
end Go.Eng

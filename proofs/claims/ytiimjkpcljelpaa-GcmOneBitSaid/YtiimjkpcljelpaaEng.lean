/- A small calculus over the kit's rules: frames as updates, memory as blocks that are known; no statement of the program is proved here. -/
import Derived.WalkKit
import Derived.OrdersHeld
import Derived.KernelRfl
set_option maxRecDepth 10000
set_option linter.unusedSimpArgs false
set_option linter.unusedVariables false
/- A small calculus over the walk's own rules: frames as updates, states as blocks that are known. -/
namespace Go.Eng

/-- A frame: a list of slots, and updates on it. -/
inductive En where
  | base (n : Nat) (l : List Value)
  | upd (d : Nat) (v : Value) (e : En)
  | mark (n : Nat) (e : En)
def En.arr : En → Array Value
  | .mark _ e => e.arr
  | .base n l => (l ++ List.replicate (n - l.length) undef).toArray
  | .upd d v e => e.arr.setIfInBounds d v
def En.get : En → Nat → Value
  | .mark _ e, t => e.get t
  | .base _ l, t => l.getD t undef
  | .upd d v e, t => bif Nat.beq t d then v else e.get t
def En.ok (n : Nat) : En → Bool
  | .mark _ e => e.ok n
  | .base m l => Nat.beq m n && Nat.ble l.length m
  | .upd d _ e => Nat.blt d n && e.ok n
def En.Ok (e : En) : Prop := ∃ n, e.ok n = true
theorem En.Ok.tail {d : Nat} {v : Value} {e : En} (h : (En.upd d v e).Ok) : e.Ok := by
  obtain ⟨n, h⟩ := h
  simp only [En.ok, Bool.and_eq_true] at h
  exact ⟨n, h.2⟩
theorem En.size_of_ok {n : Nat} : ∀ {e : En}, e.ok n = true → e.arr.size = n
  | .mark _ e, h => En.size_of_ok (e := e) h
  | .base m l, h => by
    simp only [En.ok, Bool.and_eq_true] at h
    have h1 := Nat.eq_of_beq_eq_true h.1
    have h2 := Nat.le_of_ble_eq_true h.2
    simp [En.arr]; omega
  | .upd d v e, h => by
    simp only [En.ok, Bool.and_eq_true] at h
    simpa [En.arr] using En.size_of_ok h.2
theorem En.getD_of_ok {n : Nat} : ∀ {e : En}, e.ok n = true → ∀ t, e.arr.getD t undef = e.get t
  | .mark _ e, h, t => En.getD_of_ok (e := e) h t
  | .base m l, _, t => by
    simp only [En.arr, En.get, Array.getD_eq_getD_getElem?, List.getElem?_toArray, List.getD_eq_getElem?_getD, List.getElem?_append, List.getElem?_replicate]
    split
    · rfl
    · rename_i h
      rw [List.getElem?_eq_none (by omega)]
      split <;> rfl
  | .upd d v e, h, t => by
    have h' := h
    simp only [En.ok, Bool.and_eq_true] at h
    have hs := En.size_of_ok h.2
    have hd : d < n := by simpa using h.1
    have ih := En.getD_of_ok h.2 t
    simp only [Array.getD_eq_getD_getElem?] at ih
    simp only [En.arr, En.get, Array.getD_eq_getD_getElem?]
    cases hb : Nat.beq t d with
    | true =>
      have e1 : t = d := Nat.eq_of_beq_eq_true hb
      subst e1
      rw [Array.getElem?_setIfInBounds_self_of_lt (by omega)]
      rfl
    | false =>
      have e1 : d ≠ t := fun h => by subst h; simp at hb
      rw [Array.getElem?_setIfInBounds_ne e1]
      simpa using ih
def En.ev (e : En) : Operand → Value
  | .tmp t => e.get t
  | .const v => v
  | .global g => .pointer (some ⟨g, 0, none⟩)
  | .func f => .func (.func f) #[] #[]
theorem En.eval_eq {e : En} (h : e.Ok) (ds : List Deferred) : (Act.mk e.arr ds).eval = e.ev := by
  obtain ⟨n, h⟩ := h
  funext x
  cases x <;> simp only [Act.eval, En.ev]
  exact En.getD_of_ok h _

abbrev WS := World → Prop
section
variable {P : Program} {ops : Array Oper} {Q : Exit → Act → World → Prop} {e : En} {ds : List Deferred} {S : WS}

/-- From every world of S the code c comes to Q. -/
def Wp (P : Program) (c : Code) (Q : Exit → Act → World → Prop) (e : En) (ds : List Deferred) (S : WS) : Prop :=
  e.Ok ∧ ∀ w, S w → c.wp P Q ⟨e.arr, ds⟩ w
def Fin (Q : Exit → Act → World → Prop) (x : Exit) (e : En) (ds : List Deferred) (S : WS) : Prop :=
  e.Ok ∧ ∀ w, S w → Q x ⟨e.arr, ds⟩ w
def Ops (P : Program) (ops : Array Oper) (Q : Exit → Act → World → Prop) (l : List Oper) (e : En) (ds : List Deferred) (S : WS) : Prop :=
  e.Ok ∧ ∀ w, S w → wpList P ops Q l ⟨e.arr, ds⟩ w

theorem Wp.seq {x y : Code} (h : ∀ K : Exit → Act → World → Prop, (∀ e ds S, Wp P y Q e ds S → Fin K .normal e ds S) → (∀ z e ds S, z ≠ .normal → Fin Q z e ds S → Fin K z e ds S) → Wp P x K e ds S) :
    Wp P (.seq x y) Q e ds S := by
  have := h (Exit.then (y.wp P Q) Q) (fun e ds S h => h) (fun z e ds S hz h => ⟨h.1, fun w hw => by
    have := h.2 w hw
    cases z <;> first | exact absurd rfl hz | exact this⟩)
  exact ⟨this.1, fun w hw => wp_seq (this.2 w hw)⟩
theorem Wp.skip (h : Fin Q .normal e ds S) : Wp P .skip Q e ds S := ⟨h.1, fun w hw => wp_skip (h.2 w hw)⟩
theorem Wp.ret (h : Fin Q .ret e ds S) : Wp P .ret Q e ds S := ⟨h.1, fun w hw => wp_ret (h.2 w hw)⟩
theorem Wp.exit {id : Nat} (h : Fin Q (.exit id) e ds S) : Wp P (.exit id) Q e ds S := ⟨h.1, fun w hw => wp_exit (h.2 w hw)⟩
theorem Wp.block {id : Nat} {c : Code} (h : ∀ K : Exit → Act → World → Prop, (∀ e ds S, Fin Q .normal e ds S → Fin K .normal e ds S) → (∀ e ds S, Fin Q .normal e ds S → Fin K (.exit id) e ds S) →
    (∀ z e ds S, z ≠ .normal → z ≠ .exit id → Fin Q z e ds S → Fin K z e ds S) → Wp P c K e ds S) : Wp P (.block id c) Q e ds S := by
  have := h (Exit.inBlock id Q) (fun e ds S h => h) (fun e ds S h => ⟨h.1, fun w hw => by simpa [Exit.inBlock] using h.2 w hw⟩)
    (fun z e ds S h1 h2 h => ⟨h.1, fun w hw => by
      have := h.2 w hw
      cases z <;> first | exact absurd rfl h1 | exact this | (rename_i i; have hi : i ≠ id := fun e => h2 (by rw [e]); simpa [Exit.inBlock, hi] using this)⟩)
  exact ⟨this.1, fun w hw => wp_block (this.2 w hw)⟩
theorem Wp.cond {c : Operand} {x y : Code} (b : Bool) (hc : e.ev c = .bool b) (ht : b = true → Wp P x Q e ds S) (hf : b = false → Wp P y Q e ds S) :
    Wp P (.cond c x y) Q e ds S := by
  have key : ∀ hok : e.Ok, ∀ w, S w → (Code.cond c x y).wp P Q ⟨e.arr, ds⟩ w := fun hok w hw => by
    refine wp_cond_split (t := b) ?_ (fun h => (ht h).2 w hw) (fun h => (hf h).2 w hw)
    rw [En.eval_eq hok]; exact hc
  cases b with
  | true => exact ⟨(ht rfl).1, key (ht rfl).1⟩
  | false => exact ⟨(hf rfl).1, key (hf rfl).1⟩
theorem Wp.cond_t {c : Operand} {x y : Code} (hc : e.ev c = .bool true) (h : Wp P x Q e ds S) : Wp P (.cond c x y) Q e ds S :=
  Wp.cond true hc (fun _ => h) (fun h => by cases h)
theorem Wp.cond_f {c : Operand} {x y : Code} (hc : e.ev c = .bool false) (h : Wp P y Q e ds S) : Wp P (.cond c x y) Q e ds S :=
  Wp.cond false hc (fun h => by cases h) (fun _ => h)
theorem Wp.mono {c : Code} {S' : WS} (h : Wp P c Q e ds S') (hs : ∀ w, S w → S' w) : Wp P c Q e ds S := ⟨h.1, fun w hw => h.2 w (hs w hw)⟩
theorem Fin.mono {x : Exit} {S' : WS} (h : Fin Q x e ds S') (hs : ∀ w, S w → S' w) : Fin Q x e ds S := ⟨h.1, fun w hw => h.2 w (hs w hw)⟩
theorem Ops.mono {l : List Oper} {S' : WS} (h : Ops P ops Q l e ds S') (hs : ∀ w, S w → S' w) : Ops P ops Q l e ds S := ⟨h.1, fun w hw => h.2 w (hs w hw)⟩
theorem Wp.region {id : Nat} {l : List Oper} (h : Ops P l.toArray Q l e ds S) : Wp P (.region id l.toArray false) Q e ds S :=
  ⟨h.1, fun w hw => wp_region_lit (h.2 w hw)⟩
theorem Ops.nil (h : Fin Q .normal e ds S) : Ops P ops Q [] e ds S := ⟨h.1, fun w hw => wpList_nil (h.2 w hw)⟩
/-- An existential in the state is opened. -/
theorem Wp.ex {X : Type} {c : Code} {T : X → WS} (hok : e.Ok) (h : ∀ x, Wp P c Q e ds (T x)) : Wp P c Q e ds (fun w => ∃ x, T x w) := ⟨hok, fun w ⟨x, hx⟩ => (h x).2 w hx⟩

/-! loops: a frame of its own for each state x of the loop -/
theorem wp_loop_ex {c : Code} {a : Act} {w : World} (I : Act → World → Nat → Prop) (h0 : ∃ n, I a w n)
    (round : ∀ a w n, I a w n → c.wp P (Exit.then (fun a' w' => ∃ m, I a' w' m ∧ m < n) Q) a w) : (Code.loop c).wp P Q a w := by
  intro b k cs
  have key : ∀ n a w, I a w n →
      ∃ e a' w', Q e a' w' ∧ Arrives P (lone (b.at a (.code c :: .inLoop c :: k)) cs w) b k cs e a' w' := by
    intro n
    induction n using Nat.strongRecOn with
    | _ n ih =>
      intro a w hI
      obtain ⟨e, a₁, w₁, hq, harr⟩ := round a w n hI b (.inLoop c :: k) cs
      cases e with
      | normal =>
        obtain ⟨m, hI₁, hlt⟩ := hq
        obtain ⟨e₂, a₂, w₂, hq₂, harr₂⟩ := ih m hlt a₁ w₁ hI₁
        exact ⟨e₂, a₂, w₂, hq₂, .of_steps (Steps.trans harr (.one step_inLoop)) harr₂⟩
      | exit id => exact ⟨_, a₁, w₁, hq, .pass (x := .inLoop c) rfl (fun _ _ => .inl (by simp)) harr⟩
      | goto l => exact ⟨_, a₁, w₁, hq, .pass (x := .inLoop c) rfl (fun _ _ => .inl (by simp)) harr⟩
      | ret => exact ⟨_, a₁, w₁, hq, .pass (x := .inLoop c) rfl (fun _ _ => .inl (by simp)) harr⟩
      | panic ch => exact ⟨_, a₁, w₁, hq, .pass (x := .inLoop c) rfl (fun _ _ => .inl (by simp)) harr⟩
      | outgrown => exact ⟨_, a₁, w₁, hq, .pass (x := .inLoop c) rfl (fun _ _ => .inl (by simp)) harr⟩
  obtain ⟨n, h0⟩ := h0
  obtain ⟨e, a', w', hq, harr⟩ := key n _ _ h0
  exact ⟨e, a', w', hq, .of_steps (.one step_loop) harr⟩
theorem Wp.loop {X : Type} {c : Code} (fr : X → En) (T : X → WS) (μ : X → Nat) (x0 : X) (h0 : e.Ok ∧ e.arr = (fr x0).arr) (hs : ∀ w, S w → T x0 w)
    (h : ∀ x, ∀ K : Exit → Act → World → Prop, (∀ y e', μ y < μ x → e'.Ok ∧ e'.arr = (fr y).arr → ∀ S', (∀ w, S' w → T y w) → Fin K .normal e' ds S') →
      (∀ z e ds S, z ≠ .normal → Fin Q z e ds S → Fin K z e ds S) → Wp P c K (fr x) ds (T x)) : Wp P (.loop c) Q e ds S := by
  refine ⟨h0.1, fun w hw => ?_⟩
  refine wp_loop_ex (fun a w n => ∃ x, a = ⟨(fr x).arr, ds⟩ ∧ T x w ∧ n = μ x) ⟨_, x0, by rw [h0.2], hs w hw, rfl⟩ ?_
  rintro a w n ⟨x, rfl, hx, rfl⟩
  refine (h x (Exit.then (fun a' w' => ∃ m, (∃ x, a' = ⟨(fr x).arr, ds⟩ ∧ T x w' ∧ m = μ x) ∧ m < μ x) Q) ?_ ?_).2 w hx
  · intro y e' hy he' S' hS'
    exact ⟨he'.1, fun w hw => ⟨μ y, ⟨y, by rw [he'.2], hS' w hw, rfl⟩, hy⟩⟩
  · intro z e ds S hz hf
    refine ⟨hf.1, fun w hw => ?_⟩
    have := hf.2 w hw
    cases z <;> first | exact absurd rfl hz | exact this
end
end Go.Eng

/- Operations without memory. -/
namespace Go.Eng
section
variable {P : Program} {ops : Array Oper} {Q : Exit → Act → World → Prop} {e : En} {ds : List Deferred} {S : WS} {o : Oper} {rest : List Oper}

/-- In every world of S the operation o yields v, and the world stays. -/
def Yl (P : Program) (S : WS) (e : En) (o : Oper) (v : Value) : Prop := ∀ w, S w → (execOp e.ev o).run P w = .ok (.value v) w
/-- .. yields nothing. -/
def En.put (e : En) : Option Tmp → Value → En
  | some d, v => .upd d v e
  | none, _ => e
theorem En.put_arr (e : En) (d : Option Tmp) (v : Value) : (Act.mk e.arr ds).put d v = ⟨(e.put d v).arr, ds⟩ := by cases d <;> rfl
theorem En.Ok.of_put {d : Option Tmp} {v : Value} (h : (e.put d v).Ok) : e.Ok := by cases d with | none => exact h | some d => exact h.tail
/-- From every world of S the operation o comes to some x with p x: its value, and the worlds of T x. -/
structure Ef (P : Program) (Q : Exit → Act → World → Prop) (e : En) (ds : List Deferred) (S : WS) (o : Oper) {X : Type} (p : X → Prop) (val : X → Value) (T : X → WS) : Prop where
  out : e.Ok → ∀ w, S w → o.wp P ⟨e.arr, ds⟩ w (fun a' w' => ∃ x, p x ∧ a' = ⟨(e.put o.dst (val x)).arr, ds⟩ ∧ T x w') Q
def Top : Unit → Prop := fun _ => True
theorem Yl.ef {v : Value} (h : Yl P S e o v) : Ef P Q e ds S o Top (fun _ => v) (fun _ => S) := by
  refine ⟨fun hok w hw => ?_⟩
  unfold Oper.wp
  rw [En.eval_eq hok, h w hw, Oper.upon_value, En.put_arr]
  exact ⟨(), trivial, rfl, hw⟩
theorem Ops.eff {X : Type} {p : X → Prop} {val : X → Value} {T : X → WS} (hg : o.guard = none) (he : Ef P Q e ds S o p val T) (hne : ∃ x, p x)
    (h : ∀ x, p x → Ops P ops Q rest (e.put o.dst (val x)) ds (T x)) : Ops P ops Q (o :: rest) e ds S := by
  obtain ⟨x0, hx0⟩ := hne
  have hok : e.Ok := (h x0 hx0).1.of_put
  refine ⟨hok, fun w hw => wpList_plain hg fun K hK => ?_⟩
  refine Oper.wp_mono ?_ (he.out hok w hw)
  rintro a w ⟨x, hx, rfl, hT⟩
  exact hK _ _ ((h x hx).2 w hT)
theorem Ops.val {v : Value} (hg : o.guard = none) (hy : Yl P S e o v) (h : Ops P ops Q rest (e.put o.dst v) ds S) : Ops P ops Q (o :: rest) e ds S :=
  Ops.eff hg hy.ef ⟨(), trivial⟩ fun _ _ => h
/-- A guard that says no. -/
theorem Ops.guard_no {j d : Nat} {b c : Bool} {oj : Oper} (hg : o.guard = some (j, b)) (hj : ops[j]? = some oj) (hd : oj.dst = some d) (hv : e.get d = .bool c) (hc : c = !b)
    (h : Ops P ops Q rest (e.put o.dst undef) ds S) : Ops P ops Q (o :: rest) e ds S := by
  have hok := h.1.of_put
  refine ⟨hok, fun w hw => ?_⟩
  have hw' : Region.wanted o (yielded ops e.arr) = false := by
    obtain ⟨n, hn⟩ := hok
    have hget := En.getD_of_ok hn d
    rw [hv] at hget
    simp only [Region.wanted, hg, yielded, hj, hd, Option.bind_some]
    cases hx : e.arr[d]? with
    | none => simp [Array.getD_eq_getD_getElem?, hx, undef] at hget
    | some u =>
      simp only [Array.getD_eq_getD_getElem?, hx, Option.getD_some] at hget
      subst hget; subst hc
      cases b <;> rfl
  refine wpList_skip hw' ?_
  rw [En.put_arr]
  exact h.2 w hw
theorem wanted_yes {j d : Nat} {b c : Bool} {oj : Oper} (hok : e.Ok) (hg : o.guard = some (j, b)) (hj : ops[j]? = some oj) (hd : oj.dst = some d) (hv : e.get d = .bool c) (hc : c = b) :
    Region.wanted o (yielded ops e.arr) = true := by
  obtain ⟨n, hn⟩ := hok
  have hget := En.getD_of_ok hn d
  rw [hv] at hget
  simp only [Region.wanted, hg, yielded, hj, hd, Option.bind_some]
  cases hx : e.arr[d]? with
  | none => simp [Array.getD_eq_getD_getElem?, hx, undef] at hget
  | some u =>
    simp only [Array.getD_eq_getD_getElem?, hx, Option.getD_some] at hget
    subst hget; subst hc
    cases c <;> rfl
/-- A guard that says yes. -/
theorem Ops.guard_yes {X : Type} {p : X → Prop} {val : X → Value} {T : X → WS} {j d : Nat} {b c : Bool} {oj : Oper} (hg : o.guard = some (j, b)) (hj : ops[j]? = some oj) (hd : oj.dst = some d) (hv : e.get d = .bool c) (hc : c = b)
    (he : Ef P Q e ds S o p val T) (hne : ∃ x, p x) (h : ∀ x, p x → Ops P ops Q rest (e.put o.dst (val x)) ds (T x)) : Ops P ops Q (o :: rest) e ds S := by
  obtain ⟨x0, hx0⟩ := hne
  have hok : e.Ok := (h x0 hx0).1.of_put
  refine ⟨hok, fun w hw => wpList_step fun K hK => ?_⟩
  rw [if_pos (wanted_yes hok hg hj hd hv hc)]
  refine Oper.wp_mono ?_ (he.out hok w hw)
  rintro a w ⟨x, hx, rfl, hT⟩
  exact hK _ _ ((h x hx).2 w hT)
theorem Ops.guard_val {v : Value} {j d : Nat} {b c : Bool} {oj : Oper} (hg : o.guard = some (j, b)) (hj : ops[j]? = some oj) (hd : oj.dst = some d) (hv : e.get d = .bool c) (hc : c = b)
    (hy : Yl P S e o v) (h : Ops P ops Q rest (e.put o.dst v) ds S) : Ops P ops Q (o :: rest) e ds S :=
  Ops.guard_yes hg hj hd hv hc hy.ef ⟨(), trivial⟩ fun _ _ => h

/-! ### values -/
abbrev u8 (x : BitVec 8) : Value := .int .u8 (x.toNat : Int)
abbrev u16 (x : BitVec 16) : Value := .int .u16 (x.toNat : Int)
abbrev u32 (x : BitVec 32) : Value := .int .u32 (x.toNat : Int)
abbrev u64 (x : BitVec 64) : Value := .int .u64 (x.toNat : Int)
abbrev iv (n : Int) : Value := .int .i64 n
abbrev bv (b : Bool) : Value := .bool b

section pure
variable {d : Option Tmp} {ty t yt : TypeId} {pos : String} {aft : Array Edge} {g : Option (Nat × Bool)} {x y : Operand}
theorem Yl.move : Yl P S e ⟨d, .move x, ty, pos, aft, g⟩ (e.ev x) := fun _ _ => rfl
theorem Yl.assign : Yl P S e ⟨d, .assign x, ty, pos, aft, g⟩ (e.ev x) := fun _ _ => rfl
theorem Yl.move' {v : Value} (h : e.ev x = v) : Yl P S e ⟨d, .move x, ty, pos, aft, g⟩ v := fun _ _ => by rw [← h]; rfl
theorem Yl.assign' {v : Value} (h : e.ev x = v) : Yl P S e ⟨d, .assign x, ty, pos, aft, g⟩ v := fun _ _ => by rw [← h]; rfl
theorem Yl.pick_t {c : Operand} {v : Value} (hc : e.ev c = .bool true) (h : e.ev x = v) : Yl P S e ⟨d, .pick c x y, ty, pos, aft, g⟩ v := fun _ _ => by simp [execOp, hc, asBool, h]
theorem Yl.pick_f {c : Operand} {v : Value} (hc : e.ev c = .bool false) (h : e.ev y = v) : Yl P S e ⟨d, .pick c x y, ty, pos, aft, g⟩ v := fun _ _ => by simp [execOp, hc, asBool, h]

theorem run_eqGuard_int (op : BinOp) (k j : IntKind) (m n : Int) (w : World) : (eqGuard op t x y (.int k m) (.int j n)).run P w = .ok () w := by
  unfold eqGuard
  cases op <;> rfl
theorem Yl.bin_int {op : BinOp} {k j : IntKind} {m n : Int} {v : Value} (hx : e.ev x = .int k m) (hy : e.ev y = .int j n) (h : ∀ w, (binOp op t (.int k m) (.int j n)).run P w = .ok v w) :
    Yl P S e ⟨d, .binOp op t x y yt, ty, pos, aft, g⟩ v := fun w _ => by
  simp only [execOp, hx, hy, Sem.run_bind, run_eqGuard_int, Result.andThen_ok, h, Sem.run_pure]
theorem wrap_i64 (n : Int) (h1 : -9223372036854775808 ≤ n) (h2 : n ≤ 9223372036854775807) : IntKind.i64.wrap n = n := IntWalk.i64_in n ⟨h1, h2⟩
end pure
end
end Go.Eng

/- Operations on numbers. -/
namespace Go.Eng
section
variable {P : Program} {e : En} {S : WS} {d : Option Tmp} {ty t yt : TypeId} {pos : String} {aft : Array Edge} {g : Option (Nat × Bool)} {x y : Operand} {k j : IntKind} {m n : Int}

/-! #### int -/
theorem Yl.add (hx : e.ev x = iv m) (hy : e.ev y = iv n) (h1 : -9223372036854775808 ≤ m + n) (h2 : m + n ≤ 9223372036854775807) :
    Yl P S e ⟨d, .binOp .add t x y yt, ty, pos, aft, g⟩ (iv (m + n)) :=
  Yl.bin_int hx hy fun w => by simp [binOp, Op.intArith, wrap_i64 _ h1 h2]
theorem Yl.sub (hx : e.ev x = iv m) (hy : e.ev y = iv n) (h1 : -9223372036854775808 ≤ m - n) (h2 : m - n ≤ 9223372036854775807) :
    Yl P S e ⟨d, .binOp .sub t x y yt, ty, pos, aft, g⟩ (iv (m - n)) :=
  Yl.bin_int hx hy fun w => by simp [binOp, Op.intArith, wrap_i64 _ h1 h2]
theorem Yl.mul (hx : e.ev x = iv m) (hy : e.ev y = iv n) (h1 : -9223372036854775808 ≤ m * n) (h2 : m * n ≤ 9223372036854775807) :
    Yl P S e ⟨d, .binOp .mul t x y yt, ty, pos, aft, g⟩ (iv (m * n)) :=
  Yl.bin_int hx hy fun w => by simp [binOp, Op.intArith, wrap_i64 _ h1 h2]
theorem Yl.addw (hx : e.ev x = .int k m) (hy : e.ev y = .int k n) : Yl P S e ⟨d, .binOp .add t x y yt, ty, pos, aft, g⟩ (.int k (k.wrap (m + n))) :=
  Yl.bin_int hx hy fun w => by cases k <;> simp [binOp, Op.intArith]
theorem Yl.subw (hx : e.ev x = .int k m) (hy : e.ev y = .int k n) : Yl P S e ⟨d, .binOp .sub t x y yt, ty, pos, aft, g⟩ (.int k (k.wrap (m - n))) :=
  Yl.bin_int hx hy fun w => by cases k <;> simp [binOp, Op.intArith]
theorem Yl.mulw (hx : e.ev x = .int k m) (hy : e.ev y = .int k n) : Yl P S e ⟨d, .binOp .mul t x y yt, ty, pos, aft, g⟩ (.int k (k.wrap (m * n))) :=
  Yl.bin_int hx hy fun w => by cases k <;> simp [binOp, Op.intArith]
theorem Yl.rem (hx : e.ev x = .int k m) (hy : e.ev y = .int k n) (h0 : 0 ≤ m) (h1 : n ≠ 0) : Yl P S e ⟨d, .binOp .rem t x y yt, ty, pos, aft, g⟩ (.int k (m % n)) :=
  Yl.bin_int hx hy fun w => by
    have : m.tmod n = m % n := by rw [Int.tmod_eq_emod_of_nonneg h0]
    cases k <;> simp [binOp, Op.intDiv, h1, this]
theorem Yl.quo (hx : e.ev x = iv m) (hy : e.ev y = iv n) (h0 : 0 ≤ m) (h2 : m ≤ 9223372036854775807) (h1 : 0 < n) : Yl P S e ⟨d, .binOp .quo t x y yt, ty, pos, aft, g⟩ (iv (m / n)) :=
  Yl.bin_int hx hy fun w => by
    have e1 : m.tdiv n = m / n := by rw [Int.tdiv_eq_ediv_of_nonneg h0]
    have e2 : 0 ≤ m / n := Int.ediv_nonneg h0 (by omega)
    have e3 : m / n ≤ m := Int.ediv_le_self n h0
    have : n ≠ 0 := by omega
    simp [binOp, Op.intDiv, this, e1, wrap_i64 _ (by omega : -9223372036854775808 ≤ m / n) (by omega)]
theorem Yl.neg (hx : e.ev x = iv m) (h1 : -9223372036854775808 ≤ 0 - m) (h2 : 0 - m ≤ 9223372036854775807) : Yl P S e ⟨d, .unOp .neg t x, ty, pos, aft, g⟩ (iv (0 - m)) :=
  fun w _ => by simp only [execOp, hx, Op.unary, Op.intArith, wrap_i64 _ h1 h2, Sem.run_bind, Sem.run_pure, Result.andThen_ok]
theorem Yl.not {b : Bool} (hx : e.ev x = .bool b) : Yl P S e ⟨d, .unOp .not t x, ty, pos, aft, g⟩ (.bool !b) := fun w _ => by simp [execOp, hx, Op.unary]

/-! #### comparisons -/
theorem Yl.eql (hx : e.ev x = .int k m) (hy : e.ev y = .int k n) : Yl P S e ⟨d, .binOp .eql t x y yt, ty, pos, aft, g⟩ (.bool (decide (m = n))) :=
  Yl.bin_int hx hy fun w => by cases k <;> simp [binOp, Op.intCmp] <;> rfl
theorem Yl.neq (hx : e.ev x = .int k m) (hy : e.ev y = .int k n) : Yl P S e ⟨d, .binOp .neq t x y yt, ty, pos, aft, g⟩ (.bool (decide (m ≠ n))) :=
  Yl.bin_int hx hy fun w => by cases k <;> simp [binOp, Op.intCmp, bne] <;> rfl
theorem Yl.lss (hx : e.ev x = .int k m) (hy : e.ev y = .int k n) : Yl P S e ⟨d, .binOp .lss t x y yt, ty, pos, aft, g⟩ (.bool (decide (m < n))) :=
  Yl.bin_int hx hy fun w => by cases k <;> simp [binOp, Op.intCmp]
theorem Yl.leq (hx : e.ev x = .int k m) (hy : e.ev y = .int k n) : Yl P S e ⟨d, .binOp .leq t x y yt, ty, pos, aft, g⟩ (.bool (decide (m ≤ n))) :=
  Yl.bin_int hx hy fun w => by cases k <;> simp [binOp, Op.intCmp]
theorem Yl.gtr (hx : e.ev x = .int k m) (hy : e.ev y = .int k n) : Yl P S e ⟨d, .binOp .gtr t x y yt, ty, pos, aft, g⟩ (.bool (decide (n < m))) :=
  Yl.bin_int hx hy fun w => by cases k <;> simp [binOp, Op.intCmp]
theorem Yl.geq (hx : e.ev x = .int k m) (hy : e.ev y = .int k n) : Yl P S e ⟨d, .binOp .geq t x y yt, ty, pos, aft, g⟩ (.bool (decide (n ≤ m))) :=
  Yl.bin_int hx hy fun w => by cases k <;> simp [binOp, Op.intCmp]

/-! #### words of bits -/
theorem wrap_u8 (n : Int) : IntKind.u8.wrap n = ((BitVec.ofInt 8 n).toNat : Int) := by
  rw [IntKind.wrap_u8]; simp [BitVec.toNat_ofInt]; omega
theorem wrap_u32 (n : Int) : IntKind.u32.wrap n = ((BitVec.ofInt 32 n).toNat : Int) := by
  simp [IntKind.wrap, IntKind.bits, IntKind.signed, BitVec.toNat_ofInt]; omega
theorem wrap_u64 (n : Int) : IntKind.u64.wrap n = ((BitVec.ofInt 64 n).toNat : Int) := by
  simp [IntKind.wrap, IntKind.bits, IntKind.signed, BitVec.toNat_ofInt]; omega
theorem wrap_u16 (n : Int) : IntKind.u16.wrap n = ((BitVec.ofInt 16 n).toNat : Int) := by
  simp [IntKind.wrap, IntKind.bits, IntKind.signed, BitVec.toNat_ofInt]; omega
theorem ofInt_toNat {w : Nat} (a : BitVec w) : BitVec.ofInt w (a.toNat : Int) = a := by simp
theorem ofInt_sub' {w : Nat} (x y : Int) : BitVec.ofInt w (x - y) = BitVec.ofInt w x - BitVec.ofInt w y := by
  rw [Int.sub_eq_add_neg, BitVec.ofInt_add, BitVec.ofInt_neg, BitVec.sub_eq_add_neg]
theorem shl_bits {w : Nat} (a : BitVec w) (n : Nat) : BitVec.ofInt w ((a.toNat : Int) * 2 ^ (min n w)) = a <<< n := by
  apply BitVec.eq_of_toNat_eq
  have e1 : ((a.toNat : Int) * 2 ^ (min n w)) = ((a.toNat * 2 ^ (min n w) : Nat) : Int) := by simp
  rw [e1, BitVec.toNat_shiftLeft, BitVec.ofInt_natCast, BitVec.toNat_ofNat, Nat.shiftLeft_eq]
  rcases Nat.le_total n w with h | h
  · rw [Nat.min_eq_left h]
  · rw [Nat.min_eq_right h]
    have : 2 ^ n = 2 ^ w * 2 ^ (n - w) := by rw [← Nat.pow_add]; congr 1; omega
    rw [this, Nat.mul_comm (2 ^ w), ← Nat.mul_assoc]
    simp
theorem shr_bits {w : Nat} (a : BitVec w) (n : Nat) : ((a.toNat : Int)).fdiv (2 ^ (min n w)) = ((a >>> n).toNat : Int) := by
  have e1 : (2 : Int) ^ (min n w) = ((2 ^ (min n w) : Nat) : Int) := by simp
  rw [e1, Int.fdiv_eq_ediv_of_nonneg _ (Int.natCast_nonneg _), BitVec.toNat_ushiftRight, Nat.shiftRight_eq_div_pow]
  rcases Nat.le_total n w with h | h
  · rw [Nat.min_eq_left h]; simp
  · rw [Nat.min_eq_right h]
    have h1 : a.toNat / 2 ^ w = 0 := Nat.div_eq_of_lt a.isLt
    have h2 : a.toNat / 2 ^ n = 0 := Nat.div_eq_of_lt (Nat.lt_of_lt_of_le a.isLt (Nat.pow_le_pow_right (by omega) h))
    rw [h2]; exact_mod_cast h1
end
end Go.Eng
namespace Go.Eng
section
variable {P : Program} {e : En} {S : WS} {d : Option Tmp} {ty t yt sT dT : TypeId} {pos : String} {aft : Array Edge} {g : Option (Nat × Bool)} {x y : Operand} {k j : IntKind} {m n : Int}
theorem Yl.xor8 {a b : BitVec 8} (hx : e.ev x = u8 a) (hy : e.ev y = u8 b) : Yl P S e ⟨d, .binOp .xor t x y yt, ty, pos, aft, g⟩ (u8 (a ^^^ b)) :=
  Yl.bin_int hx hy fun w => by simp only [binOp, Op.intBits, IntKind.bits, ofInt_toNat, wrap_u8]; rfl
theorem Yl.or8 {a b : BitVec 8} (hx : e.ev x = u8 a) (hy : e.ev y = u8 b) : Yl P S e ⟨d, .binOp .or t x y yt, ty, pos, aft, g⟩ (u8 (a ||| b)) :=
  Yl.bin_int hx hy fun w => by simp only [binOp, Op.intBits, IntKind.bits, ofInt_toNat, wrap_u8]; rfl
theorem Yl.and8 {a b : BitVec 8} (hx : e.ev x = u8 a) (hy : e.ev y = u8 b) : Yl P S e ⟨d, .binOp .and t x y yt, ty, pos, aft, g⟩ (u8 (a &&& b)) :=
  Yl.bin_int hx hy fun w => by simp only [binOp, Op.intBits, IntKind.bits, ofInt_toNat, wrap_u8]; rfl
theorem Yl.andNot8 {a b : BitVec 8} (hx : e.ev x = u8 a) (hy : e.ev y = u8 b) : Yl P S e ⟨d, .binOp .andNot t x y yt, ty, pos, aft, g⟩ (u8 (a &&& ~~~b)) :=
  Yl.bin_int hx hy fun w => by simp only [binOp, Op.intBits, IntKind.bits, ofInt_toNat, wrap_u8]; rfl
theorem Yl.add8 {a b : BitVec 8} (hx : e.ev x = u8 a) (hy : e.ev y = u8 b) : Yl P S e ⟨d, .binOp .add t x y yt, ty, pos, aft, g⟩ (u8 (a + b)) :=
  Yl.bin_int hx hy fun w => by simp only [binOp, Op.intArith, wrap_u8, BitVec.ofInt_add, ofInt_toNat]; rfl
theorem Yl.sub8 {a b : BitVec 8} (hx : e.ev x = u8 a) (hy : e.ev y = u8 b) : Yl P S e ⟨d, .binOp .sub t x y yt, ty, pos, aft, g⟩ (u8 (a - b)) :=
  Yl.bin_int hx hy fun w => by simp only [binOp, Op.intArith, wrap_u8, ofInt_sub', ofInt_toNat]; rfl
theorem Yl.mul8 {a b : BitVec 8} (hx : e.ev x = u8 a) (hy : e.ev y = u8 b) : Yl P S e ⟨d, .binOp .mul t x y yt, ty, pos, aft, g⟩ (u8 (a * b)) :=
  Yl.bin_int hx hy fun w => by simp only [binOp, Op.intArith, wrap_u8, BitVec.ofInt_mul, ofInt_toNat]; rfl
theorem Yl.shl8 {a : BitVec 8} (c : Nat) (hx : e.ev x = u8 a) (hy : e.ev y = .int j (c : Int)) : Yl P S e ⟨d, .binOp .shl t x y yt, ty, pos, aft, g⟩ (u8 (a <<< c)) :=
  Yl.bin_int hx hy fun w => by
    have : ¬ ((c : Int) < 0) := by omega
    simp only [binOp, Op.shift, this, if_false, Int.toNat_natCast, IntKind.bits, wrap_u8, shl_bits]; rfl
theorem Yl.shr8 {a : BitVec 8} (c : Nat) (hx : e.ev x = u8 a) (hy : e.ev y = .int j (c : Int)) : Yl P S e ⟨d, .binOp .shr t x y yt, ty, pos, aft, g⟩ (u8 (a >>> c)) :=
  Yl.bin_int hx hy fun w => by
    have : ¬ ((c : Int) < 0) := by omega
    simp only [binOp, Op.shift, this, if_false, Int.toNat_natCast, IntKind.bits, shr_bits]; rfl
theorem Yl.shlv8 {a : BitVec 8} (hx : e.ev x = u8 a) (hy : e.ev y = .int j n) (h0 : 0 ≤ n) : Yl P S e ⟨d, .binOp .shl t x y yt, ty, pos, aft, g⟩ (u8 (a <<< n.toNat)) :=
  Yl.shl8 n.toNat hx (by rw [hy]; congr 1; omega)
theorem Yl.shrv8 {a : BitVec 8} (hx : e.ev x = u8 a) (hy : e.ev y = .int j n) (h0 : 0 ≤ n) : Yl P S e ⟨d, .binOp .shr t x y yt, ty, pos, aft, g⟩ (u8 (a >>> n.toNat)) :=
  Yl.shr8 n.toNat hx (by rw [hy]; congr 1; omega)
theorem Yl.eq8 {a b : BitVec 8} (hx : e.ev x = u8 a) (hy : e.ev y = u8 b) : Yl P S e ⟨d, .binOp .eql t x y yt, ty, pos, aft, g⟩ (.bool (decide (a = b))) := by
  have h := Yl.eql (P := P) (S := S) (d := d) (t := t) (yt := yt) (ty := ty) (pos := pos) (aft := aft) (g := g) hx hy
  have e1 : decide ((a.toNat : Int) = (b.toNat : Int)) = decide (a = b) := by congr 1; rw [BitVec.toNat_inj.symm]; exact propext Int.ofNat_inj
  rw [e1] at h; exact h
theorem Yl.ne8 {a b : BitVec 8} (hx : e.ev x = u8 a) (hy : e.ev y = u8 b) : Yl P S e ⟨d, .binOp .neq t x y yt, ty, pos, aft, g⟩ (.bool (decide (a ≠ b))) := by
  have h := Yl.neq (P := P) (S := S) (d := d) (t := t) (yt := yt) (ty := ty) (pos := pos) (aft := aft) (g := g) hx hy
  have e1 : decide ((a.toNat : Int) ≠ (b.toNat : Int)) = decide (a ≠ b) := by congr 1; rw [ne_eq, ne_eq, BitVec.toNat_inj.symm, Int.ofNat_inj]
  rw [e1] at h; exact h
theorem run_conv_to8 (hs : P.underlying sT = some (.int j)) (hd : P.underlying dT = some (.int .u8)) (m : Int) (w : World) : (convert sT dT (.int j m)).run P w = .ok (u8 (BitVec.ofInt 8 m)) w := by
  simp only [convert, Sem.run_bind, run_underlying hs, run_underlying hd, Result.andThen_ok, Conv.intToInt, wrap_u8]; rfl
theorem Yl.to8 (hs : P.underlying sT = some (.int j)) (hd : P.underlying dT = some (.int .u8)) (hx : e.ev x = .int j m) : Yl P S e ⟨d, .convert sT dT x, ty, pos, aft, g⟩ (u8 (BitVec.ofInt 8 m)) := fun w _ => by
  simp only [execOp, hx, Sem.run_bind, run_conv_to8 hs hd, Result.andThen_ok, Sem.run_pure]
theorem Yl.w8to8 {a : BitVec 8} (hs : P.underlying sT = some (.int .u8)) (hd : P.underlying dT = some (.int .u8)) (hx : e.ev x = u8 a) : Yl P S e ⟨d, .convert sT dT x, ty, pos, aft, g⟩ (u8 (a.setWidth 8)) := by
  have h := Yl.to8 (P := P) (S := S) (d := d) (ty := ty) (pos := pos) (aft := aft) (g := g) hs hd hx
  have e1 : BitVec.ofInt 8 (a.toNat : Int) = a.setWidth 8 := by apply BitVec.eq_of_toNat_eq; simp
  rw [e1] at h; exact h
theorem Yl.w32to8 {a : BitVec 32} (hs : P.underlying sT = some (.int .u32)) (hd : P.underlying dT = some (.int .u8)) (hx : e.ev x = u32 a) : Yl P S e ⟨d, .convert sT dT x, ty, pos, aft, g⟩ (u8 (a.setWidth 8)) := by
  have h := Yl.to8 (P := P) (S := S) (d := d) (ty := ty) (pos := pos) (aft := aft) (g := g) hs hd hx
  have e1 : BitVec.ofInt 8 (a.toNat : Int) = a.setWidth 8 := by apply BitVec.eq_of_toNat_eq; simp
  rw [e1] at h; exact h
theorem Yl.w64to8 {a : BitVec 64} (hs : P.underlying sT = some (.int .u64)) (hd : P.underlying dT = some (.int .u8)) (hx : e.ev x = u64 a) : Yl P S e ⟨d, .convert sT dT x, ty, pos, aft, g⟩ (u8 (a.setWidth 8)) := by
  have h := Yl.to8 (P := P) (S := S) (d := d) (ty := ty) (pos := pos) (aft := aft) (g := g) hs hd hx
  have e1 : BitVec.ofInt 8 (a.toNat : Int) = a.setWidth 8 := by apply BitVec.eq_of_toNat_eq; simp
  rw [e1] at h; exact h
theorem Yl.toI8 {a : BitVec 8} (hs : P.underlying sT = some (.int .u8)) (hd : P.underlying dT = some (.int .i64)) (hx : e.ev x = u8 a) : Yl P S e ⟨d, .convert sT dT x, ty, pos, aft, g⟩ (iv (a.toNat : Int)) := fun w _ => by
  have hl := a.isLt
  simp only [execOp, hx, convert, Sem.run_bind, run_underlying hs, run_underlying hd, Result.andThen_ok, Conv.intToInt, wrap_i64 _ (by omega : -9223372036854775808 ≤ (a.toNat : Int)) (by omega), Sem.run_pure]
theorem Yl.xor32 {a b : BitVec 32} (hx : e.ev x = u32 a) (hy : e.ev y = u32 b) : Yl P S e ⟨d, .binOp .xor t x y yt, ty, pos, aft, g⟩ (u32 (a ^^^ b)) :=
  Yl.bin_int hx hy fun w => by simp only [binOp, Op.intBits, IntKind.bits, ofInt_toNat, wrap_u32]; rfl
theorem Yl.or32 {a b : BitVec 32} (hx : e.ev x = u32 a) (hy : e.ev y = u32 b) : Yl P S e ⟨d, .binOp .or t x y yt, ty, pos, aft, g⟩ (u32 (a ||| b)) :=
  Yl.bin_int hx hy fun w => by simp only [binOp, Op.intBits, IntKind.bits, ofInt_toNat, wrap_u32]; rfl
theorem Yl.and32 {a b : BitVec 32} (hx : e.ev x = u32 a) (hy : e.ev y = u32 b) : Yl P S e ⟨d, .binOp .and t x y yt, ty, pos, aft, g⟩ (u32 (a &&& b)) :=
  Yl.bin_int hx hy fun w => by simp only [binOp, Op.intBits, IntKind.bits, ofInt_toNat, wrap_u32]; rfl
theorem Yl.andNot32 {a b : BitVec 32} (hx : e.ev x = u32 a) (hy : e.ev y = u32 b) : Yl P S e ⟨d, .binOp .andNot t x y yt, ty, pos, aft, g⟩ (u32 (a &&& ~~~b)) :=
  Yl.bin_int hx hy fun w => by simp only [binOp, Op.intBits, IntKind.bits, ofInt_toNat, wrap_u32]; rfl
theorem Yl.add32 {a b : BitVec 32} (hx : e.ev x = u32 a) (hy : e.ev y = u32 b) : Yl P S e ⟨d, .binOp .add t x y yt, ty, pos, aft, g⟩ (u32 (a + b)) :=
  Yl.bin_int hx hy fun w => by simp only [binOp, Op.intArith, wrap_u32, BitVec.ofInt_add, ofInt_toNat]; rfl
theorem Yl.sub32 {a b : BitVec 32} (hx : e.ev x = u32 a) (hy : e.ev y = u32 b) : Yl P S e ⟨d, .binOp .sub t x y yt, ty, pos, aft, g⟩ (u32 (a - b)) :=
  Yl.bin_int hx hy fun w => by simp only [binOp, Op.intArith, wrap_u32, ofInt_sub', ofInt_toNat]; rfl
theorem Yl.mul32 {a b : BitVec 32} (hx : e.ev x = u32 a) (hy : e.ev y = u32 b) : Yl P S e ⟨d, .binOp .mul t x y yt, ty, pos, aft, g⟩ (u32 (a * b)) :=
  Yl.bin_int hx hy fun w => by simp only [binOp, Op.intArith, wrap_u32, BitVec.ofInt_mul, ofInt_toNat]; rfl
theorem Yl.shl32 {a : BitVec 32} (c : Nat) (hx : e.ev x = u32 a) (hy : e.ev y = .int j (c : Int)) : Yl P S e ⟨d, .binOp .shl t x y yt, ty, pos, aft, g⟩ (u32 (a <<< c)) :=
  Yl.bin_int hx hy fun w => by
    have : ¬ ((c : Int) < 0) := by omega
    simp only [binOp, Op.shift, this, if_false, Int.toNat_natCast, IntKind.bits, wrap_u32, shl_bits]; rfl
theorem Yl.shr32 {a : BitVec 32} (c : Nat) (hx : e.ev x = u32 a) (hy : e.ev y = .int j (c : Int)) : Yl P S e ⟨d, .binOp .shr t x y yt, ty, pos, aft, g⟩ (u32 (a >>> c)) :=
  Yl.bin_int hx hy fun w => by
    have : ¬ ((c : Int) < 0) := by omega
    simp only [binOp, Op.shift, this, if_false, Int.toNat_natCast, IntKind.bits, shr_bits]; rfl
theorem Yl.shlv32 {a : BitVec 32} (hx : e.ev x = u32 a) (hy : e.ev y = .int j n) (h0 : 0 ≤ n) : Yl P S e ⟨d, .binOp .shl t x y yt, ty, pos, aft, g⟩ (u32 (a <<< n.toNat)) :=
  Yl.shl32 n.toNat hx (by rw [hy]; congr 1; omega)
theorem Yl.shrv32 {a : BitVec 32} (hx : e.ev x = u32 a) (hy : e.ev y = .int j n) (h0 : 0 ≤ n) : Yl P S e ⟨d, .binOp .shr t x y yt, ty, pos, aft, g⟩ (u32 (a >>> n.toNat)) :=
  Yl.shr32 n.toNat hx (by rw [hy]; congr 1; omega)
theorem Yl.eq32 {a b : BitVec 32} (hx : e.ev x = u32 a) (hy : e.ev y = u32 b) : Yl P S e ⟨d, .binOp .eql t x y yt, ty, pos, aft, g⟩ (.bool (decide (a = b))) := by
  have h := Yl.eql (P := P) (S := S) (d := d) (t := t) (yt := yt) (ty := ty) (pos := pos) (aft := aft) (g := g) hx hy
  have e1 : decide ((a.toNat : Int) = (b.toNat : Int)) = decide (a = b) := by congr 1; rw [BitVec.toNat_inj.symm]; exact propext Int.ofNat_inj
  rw [e1] at h; exact h
theorem Yl.ne32 {a b : BitVec 32} (hx : e.ev x = u32 a) (hy : e.ev y = u32 b) : Yl P S e ⟨d, .binOp .neq t x y yt, ty, pos, aft, g⟩ (.bool (decide (a ≠ b))) := by
  have h := Yl.neq (P := P) (S := S) (d := d) (t := t) (yt := yt) (ty := ty) (pos := pos) (aft := aft) (g := g) hx hy
  have e1 : decide ((a.toNat : Int) ≠ (b.toNat : Int)) = decide (a ≠ b) := by congr 1; rw [ne_eq, ne_eq, BitVec.toNat_inj.symm, Int.ofNat_inj]
  rw [e1] at h; exact h
theorem run_conv_to32 (hs : P.underlying sT = some (.int j)) (hd : P.underlying dT = some (.int .u32)) (m : Int) (w : World) : (convert sT dT (.int j m)).run P w = .ok (u32 (BitVec.ofInt 32 m)) w := by
  simp only [convert, Sem.run_bind, run_underlying hs, run_underlying hd, Result.andThen_ok, Conv.intToInt, wrap_u32]; rfl
theorem Yl.to32 (hs : P.underlying sT = some (.int j)) (hd : P.underlying dT = some (.int .u32)) (hx : e.ev x = .int j m) : Yl P S e ⟨d, .convert sT dT x, ty, pos, aft, g⟩ (u32 (BitVec.ofInt 32 m)) := fun w _ => by
  simp only [execOp, hx, Sem.run_bind, run_conv_to32 hs hd, Result.andThen_ok, Sem.run_pure]
theorem Yl.w8to32 {a : BitVec 8} (hs : P.underlying sT = some (.int .u8)) (hd : P.underlying dT = some (.int .u32)) (hx : e.ev x = u8 a) : Yl P S e ⟨d, .convert sT dT x, ty, pos, aft, g⟩ (u32 (a.setWidth 32)) := by
  have h := Yl.to32 (P := P) (S := S) (d := d) (ty := ty) (pos := pos) (aft := aft) (g := g) hs hd hx
  have e1 : BitVec.ofInt 32 (a.toNat : Int) = a.setWidth 32 := by apply BitVec.eq_of_toNat_eq; simp
  rw [e1] at h; exact h
theorem Yl.w32to32 {a : BitVec 32} (hs : P.underlying sT = some (.int .u32)) (hd : P.underlying dT = some (.int .u32)) (hx : e.ev x = u32 a) : Yl P S e ⟨d, .convert sT dT x, ty, pos, aft, g⟩ (u32 (a.setWidth 32)) := by
  have h := Yl.to32 (P := P) (S := S) (d := d) (ty := ty) (pos := pos) (aft := aft) (g := g) hs hd hx
  have e1 : BitVec.ofInt 32 (a.toNat : Int) = a.setWidth 32 := by apply BitVec.eq_of_toNat_eq; simp
  rw [e1] at h; exact h
theorem Yl.w64to32 {a : BitVec 64} (hs : P.underlying sT = some (.int .u64)) (hd : P.underlying dT = some (.int .u32)) (hx : e.ev x = u64 a) : Yl P S e ⟨d, .convert sT dT x, ty, pos, aft, g⟩ (u32 (a.setWidth 32)) := by
  have h := Yl.to32 (P := P) (S := S) (d := d) (ty := ty) (pos := pos) (aft := aft) (g := g) hs hd hx
  have e1 : BitVec.ofInt 32 (a.toNat : Int) = a.setWidth 32 := by apply BitVec.eq_of_toNat_eq; simp
  rw [e1] at h; exact h
theorem Yl.toI32 {a : BitVec 32} (hs : P.underlying sT = some (.int .u32)) (hd : P.underlying dT = some (.int .i64)) (hx : e.ev x = u32 a) : Yl P S e ⟨d, .convert sT dT x, ty, pos, aft, g⟩ (iv (a.toNat : Int)) := fun w _ => by
  have hl := a.isLt
  simp only [execOp, hx, convert, Sem.run_bind, run_underlying hs, run_underlying hd, Result.andThen_ok, Conv.intToInt, wrap_i64 _ (by omega : -9223372036854775808 ≤ (a.toNat : Int)) (by omega), Sem.run_pure]
theorem Yl.xor64 {a b : BitVec 64} (hx : e.ev x = u64 a) (hy : e.ev y = u64 b) : Yl P S e ⟨d, .binOp .xor t x y yt, ty, pos, aft, g⟩ (u64 (a ^^^ b)) :=
  Yl.bin_int hx hy fun w => by simp only [binOp, Op.intBits, IntKind.bits, ofInt_toNat, wrap_u64]; rfl
theorem Yl.or64 {a b : BitVec 64} (hx : e.ev x = u64 a) (hy : e.ev y = u64 b) : Yl P S e ⟨d, .binOp .or t x y yt, ty, pos, aft, g⟩ (u64 (a ||| b)) :=
  Yl.bin_int hx hy fun w => by simp only [binOp, Op.intBits, IntKind.bits, ofInt_toNat, wrap_u64]; rfl
theorem Yl.and64 {a b : BitVec 64} (hx : e.ev x = u64 a) (hy : e.ev y = u64 b) : Yl P S e ⟨d, .binOp .and t x y yt, ty, pos, aft, g⟩ (u64 (a &&& b)) :=
  Yl.bin_int hx hy fun w => by simp only [binOp, Op.intBits, IntKind.bits, ofInt_toNat, wrap_u64]; rfl
theorem Yl.andNot64 {a b : BitVec 64} (hx : e.ev x = u64 a) (hy : e.ev y = u64 b) : Yl P S e ⟨d, .binOp .andNot t x y yt, ty, pos, aft, g⟩ (u64 (a &&& ~~~b)) :=
  Yl.bin_int hx hy fun w => by simp only [binOp, Op.intBits, IntKind.bits, ofInt_toNat, wrap_u64]; rfl
theorem Yl.add64 {a b : BitVec 64} (hx : e.ev x = u64 a) (hy : e.ev y = u64 b) : Yl P S e ⟨d, .binOp .add t x y yt, ty, pos, aft, g⟩ (u64 (a + b)) :=
  Yl.bin_int hx hy fun w => by simp only [binOp, Op.intArith, wrap_u64, BitVec.ofInt_add, ofInt_toNat]; rfl
theorem Yl.sub64 {a b : BitVec 64} (hx : e.ev x = u64 a) (hy : e.ev y = u64 b) : Yl P S e ⟨d, .binOp .sub t x y yt, ty, pos, aft, g⟩ (u64 (a - b)) :=
  Yl.bin_int hx hy fun w => by simp only [binOp, Op.intArith, wrap_u64, ofInt_sub', ofInt_toNat]; rfl
theorem Yl.mul64 {a b : BitVec 64} (hx : e.ev x = u64 a) (hy : e.ev y = u64 b) : Yl P S e ⟨d, .binOp .mul t x y yt, ty, pos, aft, g⟩ (u64 (a * b)) :=
  Yl.bin_int hx hy fun w => by simp only [binOp, Op.intArith, wrap_u64, BitVec.ofInt_mul, ofInt_toNat]; rfl
theorem Yl.shl64 {a : BitVec 64} (c : Nat) (hx : e.ev x = u64 a) (hy : e.ev y = .int j (c : Int)) : Yl P S e ⟨d, .binOp .shl t x y yt, ty, pos, aft, g⟩ (u64 (a <<< c)) :=
  Yl.bin_int hx hy fun w => by
    have : ¬ ((c : Int) < 0) := by omega
    simp only [binOp, Op.shift, this, if_false, Int.toNat_natCast, IntKind.bits, wrap_u64, shl_bits]; rfl
theorem Yl.shr64 {a : BitVec 64} (c : Nat) (hx : e.ev x = u64 a) (hy : e.ev y = .int j (c : Int)) : Yl P S e ⟨d, .binOp .shr t x y yt, ty, pos, aft, g⟩ (u64 (a >>> c)) :=
  Yl.bin_int hx hy fun w => by
    have : ¬ ((c : Int) < 0) := by omega
    simp only [binOp, Op.shift, this, if_false, Int.toNat_natCast, IntKind.bits, shr_bits]; rfl
theorem Yl.shlv64 {a : BitVec 64} (hx : e.ev x = u64 a) (hy : e.ev y = .int j n) (h0 : 0 ≤ n) : Yl P S e ⟨d, .binOp .shl t x y yt, ty, pos, aft, g⟩ (u64 (a <<< n.toNat)) :=
  Yl.shl64 n.toNat hx (by rw [hy]; congr 1; omega)
theorem Yl.shrv64 {a : BitVec 64} (hx : e.ev x = u64 a) (hy : e.ev y = .int j n) (h0 : 0 ≤ n) : Yl P S e ⟨d, .binOp .shr t x y yt, ty, pos, aft, g⟩ (u64 (a >>> n.toNat)) :=
  Yl.shr64 n.toNat hx (by rw [hy]; congr 1; omega)
theorem Yl.eq64 {a b : BitVec 64} (hx : e.ev x = u64 a) (hy : e.ev y = u64 b) : Yl P S e ⟨d, .binOp .eql t x y yt, ty, pos, aft, g⟩ (.bool (decide (a = b))) := by
  have h := Yl.eql (P := P) (S := S) (d := d) (t := t) (yt := yt) (ty := ty) (pos := pos) (aft := aft) (g := g) hx hy
  have e1 : decide ((a.toNat : Int) = (b.toNat : Int)) = decide (a = b) := by congr 1; rw [BitVec.toNat_inj.symm]; exact propext Int.ofNat_inj
  rw [e1] at h; exact h
theorem Yl.ne64 {a b : BitVec 64} (hx : e.ev x = u64 a) (hy : e.ev y = u64 b) : Yl P S e ⟨d, .binOp .neq t x y yt, ty, pos, aft, g⟩ (.bool (decide (a ≠ b))) := by
  have h := Yl.neq (P := P) (S := S) (d := d) (t := t) (yt := yt) (ty := ty) (pos := pos) (aft := aft) (g := g) hx hy
  have e1 : decide ((a.toNat : Int) ≠ (b.toNat : Int)) = decide (a ≠ b) := by congr 1; rw [ne_eq, ne_eq, BitVec.toNat_inj.symm, Int.ofNat_inj]
  rw [e1] at h; exact h
theorem run_conv_to64 (hs : P.underlying sT = some (.int j)) (hd : P.underlying dT = some (.int .u64)) (m : Int) (w : World) : (convert sT dT (.int j m)).run P w = .ok (u64 (BitVec.ofInt 64 m)) w := by
  simp only [convert, Sem.run_bind, run_underlying hs, run_underlying hd, Result.andThen_ok, Conv.intToInt, wrap_u64]; rfl
theorem Yl.to64 (hs : P.underlying sT = some (.int j)) (hd : P.underlying dT = some (.int .u64)) (hx : e.ev x = .int j m) : Yl P S e ⟨d, .convert sT dT x, ty, pos, aft, g⟩ (u64 (BitVec.ofInt 64 m)) := fun w _ => by
  simp only [execOp, hx, Sem.run_bind, run_conv_to64 hs hd, Result.andThen_ok, Sem.run_pure]
theorem Yl.w8to64 {a : BitVec 8} (hs : P.underlying sT = some (.int .u8)) (hd : P.underlying dT = some (.int .u64)) (hx : e.ev x = u8 a) : Yl P S e ⟨d, .convert sT dT x, ty, pos, aft, g⟩ (u64 (a.setWidth 64)) := by
  have h := Yl.to64 (P := P) (S := S) (d := d) (ty := ty) (pos := pos) (aft := aft) (g := g) hs hd hx
  have e1 : BitVec.ofInt 64 (a.toNat : Int) = a.setWidth 64 := by apply BitVec.eq_of_toNat_eq; simp
  rw [e1] at h; exact h
theorem Yl.w32to64 {a : BitVec 32} (hs : P.underlying sT = some (.int .u32)) (hd : P.underlying dT = some (.int .u64)) (hx : e.ev x = u32 a) : Yl P S e ⟨d, .convert sT dT x, ty, pos, aft, g⟩ (u64 (a.setWidth 64)) := by
  have h := Yl.to64 (P := P) (S := S) (d := d) (ty := ty) (pos := pos) (aft := aft) (g := g) hs hd hx
  have e1 : BitVec.ofInt 64 (a.toNat : Int) = a.setWidth 64 := by apply BitVec.eq_of_toNat_eq; simp
  rw [e1] at h; exact h
theorem Yl.w64to64 {a : BitVec 64} (hs : P.underlying sT = some (.int .u64)) (hd : P.underlying dT = some (.int .u64)) (hx : e.ev x = u64 a) : Yl P S e ⟨d, .convert sT dT x, ty, pos, aft, g⟩ (u64 (a.setWidth 64)) := by
  have h := Yl.to64 (P := P) (S := S) (d := d) (ty := ty) (pos := pos) (aft := aft) (g := g) hs hd hx
  have e1 : BitVec.ofInt 64 (a.toNat : Int) = a.setWidth 64 := by apply BitVec.eq_of_toNat_eq; simp
  rw [e1] at h; exact h
theorem Yl.toI64 {a : BitVec 64} (hs : P.underlying sT = some (.int .u64)) (hd : P.underlying dT = some (.int .i64)) (hx : e.ev x = u64 a) (hlt : a.toNat ≤ 9223372036854775807) : Yl P S e ⟨d, .convert sT dT x, ty, pos, aft, g⟩ (iv (a.toNat : Int)) := fun w _ => by
  have hl := a.isLt
  simp only [execOp, hx, convert, Sem.run_bind, run_underlying hs, run_underlying hd, Result.andThen_ok, Conv.intToInt, wrap_i64 _ (by omega : -9223372036854775808 ≤ (a.toNat : Int)) (by omega), Sem.run_pure]
theorem Yl.toII (hs : P.underlying sT = some (.int .i64)) (hd : P.underlying dT = some (.int .i64)) (hx : e.ev x = iv m) (h1 : -9223372036854775808 ≤ m) (h2 : m ≤ 9223372036854775807) : Yl P S e ⟨d, .convert sT dT x, ty, pos, aft, g⟩ (iv m) := fun w _ => by
  simp only [execOp, hx, convert, Sem.run_bind, run_underlying hs, run_underlying hd, Result.andThen_ok, Conv.intToInt, wrap_i64 _ h1 h2, Sem.run_pure]
end
end Go.Eng

/- What is known of memory. -/
namespace Go.Eng

abbrev ad (g o : Nat) : Addr := ⟨g, o, none⟩
abbrev pt (g o : Nat) : Value := .pointer (some ⟨g, o, none⟩)
/-- A slice at the head of a block, or none. -/
abbrev sl (ao : Option Nat) (n c : Nat) : Value := .slice (ao.map fun g => ⟨g, 0, none⟩) n c

inductive Hl where
  | blk (b : Nat) (T : TypeId) (cs : List Value)
  | row (ao : Option Nat) (T : TypeId) (sz n c : Nat) (xs : List Value)
  | obj (b : Nat) (o : Obj)
def Hl.id : Hl → Option Nat
  | .blk b _ _ => some b
  | .row ao _ _ _ _ _ => ao
  | .obj b _ => some b
def Hl.holds (w : World) : Hl → Prop
  | .blk b T cs => w.heap[b]? = some (.cells cs.toArray T (0, 0))
  | .row ao T sz n c xs => w.ownsRow 0 T sz (sl ao n c) n xs
  | .obj b o => w.heap[b]? = some o ∧ ∀ cs T f, o ≠ .cells cs T f
def Hl.apart (x y : Hl) : Prop := ∀ k, x.id = some k → y.id ≠ some k
theorem Hl.apart_symm {x y : Hl} (h : x.apart y) : y.apart x := fun k hy hx => h k hx hy
theorem Hl.row_cases {w : World} {ao : Option Nat} {T : TypeId} {sz n c : Nat} {xs : List Value} (h : (Hl.row ao T sz n c xs).holds w) :
    (ao = none ∧ n = 0 ∧ c = 0 ∧ xs = []) ∨ ∃ g spare, ao = some g ∧ w.heap[g]? = some (.cells (xs ++ spare).toArray T (0, 0)) ∧ n ≤ c ∧ c ≤ maxLen ∧ xs.length = n * sz ∧ (xs ++ spare).length = c * sz := by
  obtain ⟨h1, h2⟩ := h
  rcases h2 with ⟨h2, rfl⟩ | ⟨g, cap, cur, hv, _, hg, hn, hc, hs, ht⟩
  · cases ao with
    | none => simp [sl] at h2; exact .inl ⟨rfl, rfl, h2, by simpa using h1⟩
    | some g => simp [sl] at h2
  · cases ao with
    | none => simp [sl] at hv
    | some g' =>
      simp [sl] at hv
      obtain ⟨rfl, rfl⟩ := hv
      refine .inr ⟨g', cur.toList.drop (n * sz), rfl, ?_, hn, hc, h1, ?_⟩
      · rw [hg, ← ht, List.take_append_drop]
      · rw [← ht, List.take_append_drop]; simpa using hs
theorem Hl.row_some {w : World} {g : Nat} {T : TypeId} {sz n c : Nat} {xs spare : List Value} (h : w.heap[g]? = some (.cells (xs ++ spare).toArray T (0, 0))) (hn : n ≤ c) (hc : c ≤ maxLen)
    (hx : xs.length = n * sz) (hs : (xs ++ spare).length = c * sz) : (Hl.row (some g) T sz n c xs).holds w :=
  ⟨hx, .inr ⟨g, c, (xs ++ spare).toArray, rfl, Nat.zero_le _, h, hn, hc, by simpa using hs, by rw [← hx]; simp⟩⟩
theorem Hl.row_none (w : World) (T : TypeId) (sz : Nat) : (Hl.row none T sz 0 0 []).holds w := ⟨by simp, .inl ⟨rfl, rfl⟩⟩
theorem Hl.lt {w : World} {h : Hl} (hh : h.holds w) {k : Nat} (hk : h.id = some k) : k < w.heap.size := by
  cases h with
  | blk b T cs => simp only [Hl.id, Option.some.injEq] at hk; subst hk; exact (Array.getElem?_eq_some_iff.1 hh).1
  | row ao T sz n c xs =>
    simp only [Hl.id] at hk; subst hk
    rcases Hl.row_cases hh with ⟨h, _⟩ | ⟨g, spare, h, hg, _⟩
    · cases h
    · cases h; exact (Array.getElem?_eq_some_iff.1 hg).1
  | obj b o => simp only [Hl.id, Option.some.injEq] at hk; subst hk; exact (Array.getElem?_eq_some_iff.1 hh.1).1
theorem Hl.keep {w w' : World} {h : Hl} (hh : h.holds w) (hk : ∀ k, h.id = some k → w'.heap[k]? = w.heap[k]?) : h.holds w' := by
  cases h with
  | blk b T cs => exact (hk b rfl).trans hh
  | row ao T sz n c xs =>
    rcases Hl.row_cases hh with ⟨rfl, rfl, rfl, rfl⟩ | ⟨g, spare, rfl, hg, h1, h2, h3, h4⟩
    · exact Hl.row_none _ _ _
    · exact Hl.row_some ((hk g rfl).trans hg) h1 h2 h3 h4
  | obj b o => exact ⟨(hk b rfl).trans hh.1, hh.2⟩

/-- w has come out of w0: outside the blocks F what was there is as it was; and what L says holds. -/
structure Tr (w0 : World) (F : List Nat) (L : List Hl) (w : World) : Prop where
  os : w.os = w0.os
  tape : w.tape = w0.tape
  output : w.output = w0.output
  size : w0.heap.size ≤ w.heap.size
  keep : ∀ k, k < w0.heap.size → k ∉ F → w.heap[k]? = w0.heap[k]?
  sat : ∀ h ∈ L, h.holds w
  apart : L.Pairwise Hl.apart

theorem Tr.refl (w : World) (F : List Nat) : Tr w F [] w := ⟨rfl, rfl, rfl, Nat.le_refl _, fun _ _ _ => rfl, by simp, .nil⟩
theorem Tr.start {w : World} (F : List Nat) {L : List Hl} (h : ∀ h ∈ L, h.holds w) (ha : L.Pairwise Hl.apart) : Tr w F L w := ⟨rfl, rfl, rfl, Nat.le_refl _, fun _ _ _ => rfl, h, ha⟩
theorem Tr.start1 {w : World} (F : List Nat) {x : Hl} (h : x.holds w) : Tr w F [x] w := Tr.start F (by simpa using h) (by simp)
theorem Tr.start2 {w : World} (F : List Nat) {x y : Hl} (h : x.holds w) (h' : y.holds w) (ha : x.apart y) : Tr w F [x, y] w := Tr.start F (by simp [h, h']) (by simp [ha])
theorem Tr.sub {w0 w : World} {F : List Nat} {L L' : List Hl} (h : Tr w0 F L w) (hl : L'.Sublist L) : Tr w0 F L' w :=
  ⟨h.os, h.tape, h.output, h.size, h.keep, fun x hx => h.sat x (hl.subset hx), h.apart.sublist hl⟩
theorem Tr.clear {w0 w : World} {F : List Nat} {L : List Hl} (h : Tr w0 F L w) : Tr w0 F [] w := h.sub (List.nil_sublist _)
theorem Tr.widen {w0 w : World} {F F' : List Nat} {L : List Hl} (h : Tr w0 F L w) (hF : ∀ k ∈ F, k ∈ F' ∨ w0.heap.size ≤ k) : Tr w0 F' L w :=
  ⟨h.os, h.tape, h.output, h.size, fun k hk hn => h.keep k hk fun hf => by rcases hF k hf with h | h; exact hn h; omega, h.sat, h.apart⟩
theorem Tr.drawn {w0 w : World} {F : List Nat} {L : List Hl} (h : Tr w0 F L w) (n : Nat) : Tr w0 F L { w with drawn := n } :=
  ⟨h.os, h.tape, h.output, h.size, h.keep, fun x hx => Hl.keep (h.sat x hx) fun _ _ => rfl, h.apart⟩
/-- The step to another world. D: what was written. -/
theorem Tr.step {w0 w w' : World} {F : List Nat} {L : List Hl} (h : Tr w0 F L w) {D : List Nat} {N R : List Hl} (hc : Tr w D N w') (hD : ∀ k ∈ D, k ∈ F ∨ w0.heap.size ≤ k)
    (hR : R.Sublist L) (hRD : ∀ x ∈ R, ∀ k, x.id = some k → k ∉ D) (hN : ∀ x ∈ N, ∀ k, x.id = some k → k ∈ D ∨ w.heap.size ≤ k) : Tr w0 F (N ++ R) w' := by
  refine ⟨hc.os.trans h.os, hc.tape.trans h.tape, hc.output.trans h.output, Nat.le_trans h.size hc.size, fun k hk hn => ?_, fun x hx => ?_, ?_⟩
  · have : k ∉ D := fun hd => by rcases hD k hd with h | h; exact hn h; omega
    exact (hc.keep k (Nat.lt_of_lt_of_le hk h.size) this).trans (h.keep k hk hn)
  · rcases List.mem_append.1 hx with hx | hx
    · exact hc.sat x hx
    · have hs := h.sat x (hR.subset hx)
      exact Hl.keep hs fun k hk => hc.keep k (Hl.lt hs hk) (hRD x hx k hk)
  · rw [List.pairwise_append]
    refine ⟨hc.apart, h.apart.sublist hR, fun x hx y hy k hk hy' => ?_⟩
    have hlt := Hl.lt (h.sat y (hR.subset hy)) hy'
    rcases hN x hx k hk with h1 | h1
    · exact hRD y hy k hy' h1
    · omega
theorem Tr.call0 {w0 w w' : World} {F : List Nat} {L : List Hl} (h : Tr w0 F L w) (hc : Tr w [] [] w') : Tr w0 F L w' := by
  simpa using h.step hc (by simp) (List.Sublist.refl _) (by simp) (by simp)
theorem Tr.callN {w0 w w' : World} {F : List Nat} {L N : List Hl} (h : Tr w0 F L w) (hc : Tr w [] N w') (hN : ∀ x ∈ N, ∀ k, x.id = some k → w.heap.size ≤ k) : Tr w0 F (N ++ L) w' :=
  h.step hc (by simp) (List.Sublist.refl _) (by simp) (fun x hx k hk => .inr (hN x hx k hk))

/-- h stands in L; u: L with another one at its place. -/
inductive At (h : Hl) : List Hl → (Hl → List Hl) → Prop where
  | head {l : List Hl} : At h (h :: l) (fun x => x :: l)
  | tail {a : Hl} {l : List Hl} {u : Hl → List Hl} (t : At h l u) : At h (a :: l) (fun x => a :: u x)
theorem At.split {h : Hl} {L : List Hl} {u : Hl → List Hl} (t : At h L u) : ∃ A B, L = A ++ h :: B ∧ ∀ x, u x = A ++ x :: B := by
  induction t with
  | head => exact ⟨[], _, rfl, fun _ => rfl⟩
  | @tail a l u t ih =>
    obtain ⟨A, B, h1, h2⟩ := ih
    exact ⟨a :: A, B, by rw [h1]; rfl, fun x => by show a :: u x = _; rw [h2]; rfl⟩
theorem At.mem {h : Hl} {L : List Hl} {u : Hl → List Hl} (t : At h L u) : h ∈ L := by
  obtain ⟨A, B, rfl, _⟩ := t.split
  simp
theorem perm_middle_pairwise {A B : List Hl} {x : Hl} : (A ++ x :: B).Pairwise Hl.apart ↔ (x :: (A ++ B)).Pairwise Hl.apart :=
  List.Perm.pairwise_iff (fun h => Hl.apart_symm h) List.perm_middle
theorem Tr.perm {w0 w : World} {F : List Nat} {L L' : List Hl} (h : Tr w0 F L w) (hp : L.Perm L') : Tr w0 F L' w :=
  ⟨h.os, h.tape, h.output, h.size, h.keep, fun x hx => h.sat x (hp.mem_iff.2 hx), (List.Perm.pairwise_iff (fun h => Hl.apart_symm h) hp).1 h.apart⟩
/-- One that is known turns into others (which may be new, or lie where it lay). -/
theorem Tr.at_step {w0 w w' : World} {F : List Nat} {L N : List Hl} {h h' : Hl} {u : Hl → List Hl} (hT : Tr w0 F L w) (t : At h L u) {D : List Nat} (hc : Tr w D (h' :: N) w')
    (hD : ∀ k ∈ D, h.id = some k ∧ (k ∈ F ∨ w0.heap.size ≤ k)) (hN : ∀ x ∈ h' :: N, ∀ k, x.id = some k → h.id = some k ∨ w.heap.size ≤ k) : Tr w0 F (N ++ u h') w' := by
  obtain ⟨A, B, rfl, hu⟩ := t.split
  have hp := perm_middle_pairwise.1 hT.apart
  have hs := (List.pairwise_cons.1 hp).1
  have hR : (A ++ B).Sublist (A ++ h :: B) := List.Sublist.append (List.Sublist.refl A) (List.sublist_cons_self h B)
  have hstep : Tr w0 F ((h' :: N) ++ (A ++ B)) w' := by
    refine ⟨hc.os.trans hT.os, hc.tape.trans hT.tape, hc.output.trans hT.output, Nat.le_trans hT.size hc.size, fun k hk hn => ?_, fun x hx => ?_, ?_⟩
    · have : k ∉ D := fun hd => by rcases (hD k hd).2 with h | h; exact hn h; omega
      exact (hc.keep k (Nat.lt_of_lt_of_le hk hT.size) this).trans (hT.keep k hk hn)
    · rcases List.mem_append.1 hx with hx | hx
      · exact hc.sat x hx
      · have h1 := hT.sat x (hR.subset hx)
        exact Hl.keep h1 fun k hk => hc.keep k (Hl.lt h1 hk) (fun hd => hs x hx k (hD k hd).1 hk)
    · rw [List.pairwise_append]
      refine ⟨hc.apart, hT.apart.sublist hR, fun x hx y hy k hk hy' => ?_⟩
      have hlt := Hl.lt (hT.sat y (hR.subset hy)) hy'
      rcases hN x hx k hk with h1 | h1
      · exact hs y hy k h1 hy'
      · omega
  refine hstep.perm ?_
  rw [hu]
  rw [← List.append_assoc N A]
  refine List.Perm.trans ?_ List.perm_middle.symm
  rw [List.cons_append, ← List.append_assoc]
end Go.Eng

/- Operations on memory. -/
open Go.RowKit
namespace Go.Eng
section
variable {P : Program} {ops : Array Oper} {Q : Exit → Act → World → Prop} {e : En} {ds : List Deferred} {o : Oper} {rest : List Oper}
variable {w0 : World} {F : List Nat} {L : List Hl} {d : Option Tmp} {ty t yt : TypeId} {pos : String} {aft : Array Edge} {g : Option (Nat × Bool)} {x y : Operand} {k j : IntKind} {m n : Int}
variable {b ofs base : Nat} {cs xs vs : List Value} {v : Value} {T : TypeId} {u : Hl → List Hl}

/-! #### types -/
def NoAgg (P : Program) (t : TypeId) : Prop := ∃ dd, P.underlying t = some dd ∧ (∀ f, dd ≠ .struct f) ∧ ∀ n e, dd ≠ .array n e
def AggOf (P : Program) (t : TypeId) (sz : Nat) : Prop := (∃ dd, P.underlying t = some dd ∧ ((∃ f, dd = .struct f) ∨ ∃ n e, dd = .array n e)) ∧ ∃ i, P.info? t = some i ∧ i.size = sz
def SizeOf (P : Program) (t : TypeId) (sz : Nat) : Prop := ∃ i, P.info? t = some i ∧ i.size = sz
def ZeroOf (P : Program) (t : TypeId) (zs : List Value) : Prop := ∃ i z, P.info? t = some i ∧ i.zero = some z ∧ z.cells.toList = zs
/-- size in cells, zero value's cells, bytes -/
def ElemOf (P : Program) (t : TypeId) (sz bytes : Nat) (zs : List Value) : Prop := ∃ i z, P.info? t = some i ∧ i.zero = some z ∧ z.cells.toList = zs ∧ i.size = sz ∧ i.bytes = bytes ∧ zs.length = sz

theorem run_isAgg_no (h : NoAgg P t) (w : World) : (isAgg t).run P w = .ok false w := by
  obtain ⟨dd, h1, h2, h3⟩ := h
  unfold isAgg
  simp only [Sem.run_bind, run_underlying h1, Result.andThen_ok]
  cases dd <;> first | rfl | exact absurd rfl (h2 _) | exact absurd rfl (h3 _ _)
theorem run_isAgg_yes {sz : Nat} (h : AggOf P t sz) (w : World) : (isAgg t).run P w = .ok true w := by
  obtain ⟨⟨dd, h1, h2⟩, _⟩ := h
  unfold isAgg
  simp only [Sem.run_bind, run_underlying h1, Result.andThen_ok]
  rcases h2 with ⟨f, rfl⟩ | ⟨n, e, rfl⟩ <;> rfl
theorem run_sizeOf {sz : Nat} (h : SizeOf P t sz) (w : World) : (sizeOf t).run P w = .ok sz w := by
  obtain ⟨i, h1, h2⟩ := h
  simp [sizeOf, typeInfo, h1, h2]
theorem AggOf.size {sz : Nat} (h : AggOf P t sz) : SizeOf P t sz := h.2

/-! #### what reads -/
/-- In every world of the state the cells of block b from 'base' on read xs. -/
def Rd (w0 : World) (F : List Nat) (L : List Hl) (b base : Nat) (xs : List Value) : Prop := ∀ w, Tr w0 F L w → ∀ i v, xs[i]? = some v → w.cell? ⟨b, base + i, none⟩ = some v
theorem Rd.blk (h : Hl.blk b T cs ∈ L) : Rd w0 F L b 0 cs := fun w hw i v hv => by
  have := hw.sat _ h
  rw [cell_of_row w b (0 + i) _ _ _ this]
  simpa using hv
theorem Rd.row {sz n c : Nat} (h : Hl.row (some b) T sz n c cs ∈ L) : Rd w0 F L b 0 cs := fun w hw i v hv => by
  rcases Hl.row_cases (hw.sat _ h) with ⟨h, _⟩ | ⟨g, spare, h, hg, _⟩
  · cases h
  · cases h
    rw [cell_of_row w b (0 + i) _ _ _ hg]
    simp only [Nat.zero_add, List.getElem?_toArray]
    rw [List.getElem?_append_left (by have := (List.getElem?_eq_some_iff.1 hv).1; exact this)]
    exact hv
theorem Rd.old (h : ∀ i v, xs[i]? = some v → w0.cell? ⟨b, base + i, none⟩ = some v) (hF : b ∉ F) : Rd w0 F L b base xs := fun w hw i v hv => by
  have hc := h i v hv
  have hlt : b < w0.heap.size := World.block_lt_of_cell? w0 _ hc
  exact (World.cell?_of_block (w := w0) (hw.keep b hlt hF)).trans hc
theorem Rd.oldb {fr : Nat × Nat} (h : w0.heap[b]? = some (.cells cs.toArray T fr)) (hF : b ∉ F) : Rd w0 F L b 0 cs :=
  Rd.old (fun i v hv => by rw [cell_of_row w0 b (0 + i) _ _ _ h]; simpa using hv) hF
theorem Rd.shift (h : Rd w0 F L b base xs) (i : Nat) : Rd w0 F L b (base + i) (xs.drop i) := fun w hw j v hv => by
  rw [List.getElem?_drop] at hv
  have := h w hw (i + j) v hv
  rw [Nat.add_assoc]; exact this
theorem Rd.take (h : Rd w0 F L b base xs) (i : Nat) : Rd w0 F L b base (xs.take i) := fun w hw j v hv => by
  rw [List.getElem?_take] at hv
  split at hv
  · exact h w hw j v hv
  · cases hv

theorem Yl.load1 (hT : NoAgg P t) (hx : e.ev x = pt b ofs) (i : Nat) (hr : Rd w0 F L b base xs) (ho : ofs = base + i) (hv : xs[i]? = some v) : Yl P (Tr w0 F L) e ⟨d, .load t x, ty, pos, aft, g⟩ v := fun w hw => by
  have hc := hr w hw i v hv
  rw [← ho] at hc
  simp only [execOp, hx, Instr.loadAt, Instr.sureAddr, loadVar, Sem.run_bind, Sem.run_pure, Result.andThen_ok, run_isAgg_no hT]
  simp only [Bool.false_eq_true, if_false, run_load, hc, Result.andThen_ok]
theorem Yl.loadA {sz : Nat} (hT : AggOf P t sz) (hx : e.ev x = pt b ofs) (i : Nat) (hr : Rd w0 F L b base xs) (ho : ofs = base + i) (ys : List Value) (hys : (xs.drop i).take sz = ys) (hl : ys.length = sz) :
    Yl P (Tr w0 F L) e ⟨d, .load t x, ty, pos, aft, g⟩ (.agg ys.toArray) := fun w hw => by
  have hc : ∀ q u, ys[q]? = some u → w.cell? ((⟨b, ofs, none⟩ : Addr).add q) = some u := fun q u hu => by
    rw [Addr.add_lit]
    subst hys
    rw [List.getElem?_take] at hu
    split at hu
    · rw [List.getElem?_drop] at hu
      have := hr w hw (i + q) u hu
      rw [ho, Nat.add_assoc]; exact this
    · cases hu
  have h1 := run_loadCells_list (P := P) w ⟨b, ofs, none⟩ ys hc
  rw [hl] at h1
  simp only [execOp, hx, Instr.loadAt, Instr.sureAddr, loadVar, Sem.run_bind, Sem.run_pure, Result.andThen_ok, run_isAgg_yes hT, if_true, run_sizeOf hT.size, h1]

/-! #### writes -/
/-- May block b be written? -/
abbrev Own (w0 : World) (F : List Nat) (b : Nat) : Prop := b ∈ F ∨ w0.heap.size ≤ b
/-- The cells of a heaplet, and it with others. -/
inductive Cells : Hl → List Value → (List Value → Hl) → Prop where
  | blk {b : Nat} {T : TypeId} {cs : List Value} : Cells (.blk b T cs) cs (fun ys => .blk b T ys)
  | row {b : Nat} {T : TypeId} {sz n c : Nat} {xs : List Value} : Cells (.row (some b) T sz n c xs) xs (fun ys => .row (some b) T sz n c ys)
theorem setRow_tr {w : World} {new : List Value} (N : List Hl) (hN : ∀ h ∈ N, h.holds (w.setRow b new.toArray)) (ha : N.Pairwise Hl.apart) : Tr w [b] N (w.setRow b new.toArray) :=
  ⟨rfl, rfl, rfl, by simp, fun k _ hk => setRow_other w b k _ (fun e => hk (by simp [e])), hN, ha⟩
theorem holds_setRow {w : World} {h : Hl} {cs ys : List Value} {f : List Value → Hl} (hc : Cells h cs f) (hid : h.id = some b) (hh : h.holds w) (hl : ys.length = cs.length) :
    ∃ (cur : List Value) (T : TypeId), w.heap[b]? = some (.cells cur.toArray T (0, 0)) ∧ cur.take cs.length = cs ∧
      (f ys).holds (w.setRow b (ys ++ cur.drop cs.length).toArray) ∧ (f ys).id = some b := by
  cases hc with
  | blk =>
    simp only [Hl.id, Option.some.injEq] at hid; subst hid
    refine ⟨cs, _, hh, by simp, ?_, rfl⟩
    have := setRow_heap w _ _ (ys ++ cs.drop cs.length).toArray _ _ hh
    simpa [Hl.holds] using this
  | row =>
    simp only [Hl.id, Option.some.injEq] at hid; subst hid
    rcases Hl.row_cases hh with ⟨h, _⟩ | ⟨g, spare, h, hg, h1, h2, h3, h4⟩
    · cases h
    · cases h
      refine ⟨cs ++ spare, _, hg, by simp, ?_, rfl⟩
      have := setRow_heap w _ _ (ys ++ (cs ++ spare).drop cs.length).toArray _ _ hg
      refine Hl.row_some (spare := spare) ?_ h1 h2 (by rw [hl]; exact h3) (by simpa [hl] using h4)
      simpa using this
/-- A store of cells, anywhere in what is known of a block. -/
theorem run_storeCells_known {w : World} {h : Hl} {f : List Value → Hl} (hT : Tr w0 F L w) (hat : At h L u) (hc : Cells h cs f) (hid : h.id = some b) (hw : Own w0 F b)
    (hle : ofs + vs.length ≤ cs.length) (h1 : ∀ v ∈ vs, v.oneCell' = true) :
    ∃ w', (storeCells ⟨b, ofs, none⟩ vs).run P w = .ok () w' ∧ Tr w0 F (u (f (cs.take ofs ++ vs ++ cs.drop (ofs + vs.length)))) w' := by
  have hh := hT.sat _ hat.mem
  have hl : (cs.take ofs ++ vs ++ cs.drop (ofs + vs.length)).length = cs.length := by simp; omega
  obtain ⟨cur, T, hg, ht, hN, hid'⟩ := holds_setRow hc hid hh hl
  have hcl : cs.length ≤ cur.length := by rw [← ht]; simp; omega
  have hst := run_storeCells_at P b ofs T vs 0 cur.toArray w hg (by simp; omega) h1
  simp only [Nat.add_zero] at hst
  refine ⟨_, hst, ?_⟩
  have hcur : cur.take ofs ++ vs ++ cur.drop (ofs + vs.length) = (cs.take ofs ++ vs ++ cs.drop (ofs + vs.length)) ++ cur.drop cs.length := by
    have e1 : cur = cs ++ cur.drop cs.length := by rw [← ht]; simp [List.length_take, Nat.min_eq_left hcl]
    generalize cur.drop cs.length = z at e1
    subst e1
    rw [List.take_append_of_le_length (by omega), List.drop_append_of_le_length (by omega)]
    simp
  have hrow : (cur.toArray.toList.take ofs ++ vs ++ cur.toArray.toList.drop (ofs + vs.length)) = (cs.take ofs ++ vs ++ cs.drop (ofs + vs.length)) ++ cur.drop cs.length := hcur
  rw [hrow]
  have := hT.at_step hat (N := []) (setRow_tr [f (cs.take ofs ++ vs ++ cs.drop (ofs + vs.length))] (by intro h hm; simp only [List.mem_singleton] at hm; subst hm; exact hN) (by simp)) (D := [b]) (by intro k hk; simp at hk; subst hk; exact ⟨hid, hw⟩) (by intro x hx k hk; simp only [List.mem_singleton] at hx; subst hx; rw [hid'] at hk; exact .inl (hid.trans hk))
  simpa using this
theorem Ef.storeCells {h : Hl} {f : List Value → Hl} (hsz : SizeOf P t vs.length) (hx : e.ev x = pt b ofs) (hy : e.ev y = v) (hv : v.cells.toList = vs) (hat : At h L u) (hc : Cells h cs f) (hid : h.id = some b)
    (hle : ofs + vs.length ≤ cs.length) (h1 : ∀ v ∈ vs, v.oneCell' = true) (hw : Own w0 F b) :
    Ef P Q e ds (Tr w0 F L) ⟨d, .store t x y, ty, pos, aft, g⟩ Top (fun _ => undef) (fun _ => Tr w0 F (u (f (cs.take ofs ++ vs ++ cs.drop (ofs + vs.length))))) := by
  refine ⟨fun hok w hT => ?_⟩
  obtain ⟨w', hr, hT'⟩ := run_storeCells_known (P := P) hT hat hc hid hw hle h1
  unfold Oper.wp
  rw [En.eval_eq hok]
  have hsize : v.cells.size = vs.length := by rw [← hv]; simp
  have : (execOp e.ev (⟨d, .store t x y, ty, pos, aft, g⟩ : Oper)).run P w = .ok .skip w' := by
    simp only [execOp, hx, hy, Instr.storeAt, Instr.sureAddr, storeVar, Sem.run_bind, Sem.run_pure, Result.andThen_ok, run_sizeOf hsz, hsize, ne_eq, not_true_eq_false, if_false, hv, hr]
  rw [this, Oper.upon_skip, En.put_arr]
  exact ⟨(), trivial, rfl, hT'⟩
/-- A store of one cell. -/
theorem Ef.store1 {h : Hl} {f : List Value → Hl} (hsz : SizeOf P t 1) (hx : e.ev x = pt b ofs) (hy : e.ev y = v) (hat : At h L u) (hc : Cells h cs f) (hid : h.id = some b)
    (hle : ofs < cs.length) (h1 : v.oneCell' = true) (hw : Own w0 F b) :
    Ef P Q e ds (Tr w0 F L) ⟨d, .store t x y, ty, pos, aft, g⟩ Top (fun _ => undef) (fun _ => Tr w0 F (u (f (cs.set ofs v)))) := by
  have hv : v.cells.toList = [v] := by cases v <;> first | rfl | simp [Value.oneCell'] at h1
  refine ⟨fun hok w hT => ?_⟩
  obtain ⟨w', hr, hT'⟩ := run_storeCells_known (P := P) (vs := [v]) (ofs := ofs) hT hat hc hid hw (by simp; omega) (by simpa using h1)
  unfold Oper.wp
  rw [En.eval_eq hok]
  have hsize : v.cells.size = 1 := by rw [← Array.length_toList, hv]; rfl
  have : (execOp e.ev (⟨d, .store t x y, ty, pos, aft, g⟩ : Oper)).run P w = .ok .skip w' := by
    simp only [execOp, hx, hy, Instr.storeAt, Instr.sureAddr, storeVar, Sem.run_bind, Sem.run_pure, Result.andThen_ok, run_sizeOf hsz, hsize, ne_eq, not_true_eq_false, if_false, hv, hr]
  rw [this, Oper.upon_skip, En.put_arr]
  have e1 : cs.take ofs ++ [v] ++ cs.drop (ofs + [v].length) = cs.set ofs v := by
    rw [List.set_eq_take_append_cons_drop, if_pos hle]; simp
  rw [e1] at hT'
  exact ⟨(), trivial, rfl, hT'⟩
/-- A store of all of a block. -/
theorem Ef.storeA (hsz : SizeOf P t vs.length) (hx : e.ev x = pt b 0) (hy : e.ev y = .agg vs.toArray) (hat : At (.blk b T cs) L u) (hl : vs.length = cs.length) (h1 : ∀ v ∈ vs, v.oneCell' = true) (hw : Own w0 F b) :
    Ef P Q e ds (Tr w0 F L) ⟨d, .store t x y, ty, pos, aft, g⟩ Top (fun _ => undef) (fun _ => Tr w0 F (u (.blk b T vs))) := by
  refine ⟨fun hok w hT => ?_⟩
  obtain ⟨w', hr, hT'⟩ := run_storeCells_known (P := P) (vs := vs) (ofs := 0) hT hat .blk rfl hw (by omega) h1
  unfold Oper.wp
  rw [En.eval_eq hok]
  have : (execOp e.ev (⟨d, .store t x y, ty, pos, aft, g⟩ : Oper)).run P w = .ok .skip w' := by
    simp only [execOp, hx, hy, Instr.storeAt, Instr.sureAddr, storeVar, Sem.run_bind, Sem.run_pure, Result.andThen_ok, run_sizeOf hsz, Value.cells, List.size_toArray, ne_eq, not_true_eq_false, if_false, hr]
  rw [this, Oper.upon_skip, En.put_arr]
  have e1 : cs.take 0 ++ vs ++ cs.drop (0 + vs.length) = vs := by rw [hl]; simp
  rw [e1] at hT'
  exact ⟨(), trivial, rfl, hT'⟩

/-! #### new memory -/
theorem alloc_tr {w : World} (ob : Obj) (N : List Hl) (hN : ∀ h ∈ N, h.holds (w.alloc ob)) (ha : N.Pairwise Hl.apart) : Tr w [] N (w.alloc ob) :=
  ⟨rfl, rfl, rfl, by simp, fun k hk _ => Below.heap_alloc w ob k hk, hN, ha⟩
theorem alloc_blk {w : World} (hT : Tr w0 F L w) (T : TypeId) (cs : List Value) : Tr w0 F (.blk w.heap.size T cs :: L) (w.alloc (.cells cs.toArray T)) := by
  refine hT.callN (N := [.blk w.heap.size T cs]) (alloc_tr _ _ ?_ (by simp)) ?_
  · intro h hh; simp at hh; subst hh; exact heap_alloc_new w _
  · intro h hh k hk; simp at hh; subst hh; simp only [Hl.id, Option.some.injEq] at hk; omega
/-- New blocks come behind. -/
abbrev New (w0 : World) (b : Nat) : Prop := w0.heap.size ≤ b
theorem New.ex (w0 : World) : ∃ b, New w0 b := ⟨_, Nat.le_refl _⟩
theorem Ef.alloc (hz : ZeroOf P t cs) : Ef P Q e ds (Tr w0 F L) ⟨d, .alloc t, ty, pos, aft, g⟩ (New w0) (fun b => pt b 0) (fun b => Tr w0 F (.blk b t cs :: L)) := by
  refine ⟨fun hok w hT => ?_⟩
  obtain ⟨i, z, h1, h2, h3⟩ := hz
  unfold Oper.wp
  rw [En.eval_eq hok]
  have : (execOp e.ev (⟨d, .alloc t, ty, pos, aft, g⟩ : Oper)).run P w = .ok (.value (pt w.heap.size 0)) (w.alloc (.cells cs.toArray t)) := by
    have : z.cells = cs.toArray := by rw [← h3]
    simp only [execOp, Instr.alloc, zeroValue, typeInfo, Sem.run_bind, run_program, Result.andThen_ok, h1, h2, Sem.run_pure, newVar, newRow, run_newObj, World.alloc_eq, this]
  rw [this, Oper.upon_value, En.put_arr]
  exact ⟨w.heap.size, hT.size, rfl, alloc_blk hT t cs⟩
theorem Ef.box (hx : e.ev x = v) (hv : v.cells.toList = cs) : Ef P Q e ds (Tr w0 F L) ⟨d, .box t x, ty, pos, aft, g⟩ (New w0) (fun b => pt b 0) (fun b => Tr w0 F (.blk b t cs :: L)) := by
  refine ⟨fun hok w hT => ?_⟩
  unfold Oper.wp
  rw [En.eval_eq hok]
  have : (execOp e.ev (⟨d, .box t x, ty, pos, aft, g⟩ : Oper)).run P w = .ok (.value (pt w.heap.size 0)) (w.alloc (.cells cs.toArray t)) := by
    have : v.cells = cs.toArray := by rw [← hv]
    simp only [execOp, hx, Instr.box, Sem.run_bind, Result.andThen_ok, Sem.run_pure, newVar, newRow, run_newObj, World.alloc_eq, this]
  rw [this, Oper.upon_value, En.put_arr]
  exact ⟨w.heap.size, hT.size, rfl, alloc_blk hT t cs⟩
end
end Go.Eng

/- Addresses, slices, calls. -/
open Go.RowKit
namespace Go.Eng
section
variable {P : Program} {ops : Array Oper} {Q : Exit → Act → World → Prop} {e : En} {ds : List Deferred} {o : Oper} {rest : List Oper} {S : WS}
variable {w0 : World} {F : List Nat} {L : List Hl} {d : Option Tmp} {ty t yt elem : TypeId} {pos : String} {aft : Array Edge} {g : Option (Nat × Bool)} {x y : Operand} {k j : IntKind} {m n : Int}
variable {b ofs base sz ln cap : Nat} {cs xs vs : List Value} {v : Value} {T : TypeId} {u : Hl → List Hl} {A : Option Addr}

theorem Yl.nilCheck {q : Addr} (hx : e.ev x = .pointer (some q)) : Yl P S e ⟨d, .nilCheck x, ty, pos, aft, g⟩ (.pointer (some q)) := fun w _ => by simp [execOp, hx]
theorem Yl.indexSlice (hu : P.underlying t = some (.slice elem)) (hs : SizeOf P elem sz) (hx : e.ev x = .slice (some ⟨b, ofs, none⟩) ln cap) (hi : e.ev y = .int k n) (i : Nat) (hn : n = i) (hlt : i < ln) :
    Yl P S e ⟨d, .indexAddr t x y, ty, pos, aft, g⟩ (pt b (ofs + i * sz)) := fun w _ => by
  subst hn
  have h0 : 0 ≤ (i : Int) ∧ (i : Int) < ln := by omega
  simp only [execOp, hx, hi, Instr.indexAt, asIntOf, Sem.run_bind, Sem.run_pure, Result.andThen_ok, run_underlying hu, h0, and_self, if_true, run_sizeOf hs, Addr.add_lit, Int.toNat_natCast]
theorem Yl.indexSlice1 (hu : P.underlying t = some (.slice elem)) (hs : SizeOf P elem 1) (hx : e.ev x = .slice (some ⟨b, ofs, none⟩) ln cap) (hi : e.ev y = .int k n) (i : Nat) (hn : n = i) (hlt : i < ln) :
    Yl P S e ⟨d, .indexAddr t x y, ty, pos, aft, g⟩ (pt b (ofs + i)) := by
  have := Yl.indexSlice (P := P) (S := S) (d := d) (ty := ty) (pos := pos) (aft := aft) (g := g) hu hs hx hi i hn hlt
  rwa [Nat.mul_one] at this
theorem Yl.indexArr {N : Nat} (hu : P.underlying t = some (.array N elem)) (hs : SizeOf P elem sz) (hx : e.ev x = pt b ofs) (hi : e.ev y = .int k n) (i : Nat) (hn : n = i) (hlt : i < N) :
    Yl P S e ⟨d, .indexAddr t x y, ty, pos, aft, g⟩ (pt b (ofs + i * sz)) := fun w _ => by
  subst hn
  have h0 : 0 ≤ (i : Int) ∧ (i : Int) < N := by omega
  simp only [execOp, hx, hi, Instr.indexAt, Instr.sureAddr, asIntOf, Sem.run_bind, Sem.run_pure, Result.andThen_ok, run_underlying hu, h0, and_self, if_true, run_sizeOf hs, Addr.add_lit, Int.toNat_natCast]
theorem Yl.indexArr1 {N : Nat} (hu : P.underlying t = some (.array N elem)) (hs : SizeOf P elem 1) (hx : e.ev x = pt b ofs) (hi : e.ev y = .int k n) (i : Nat) (hn : n = i) (hlt : i < N) :
    Yl P S e ⟨d, .indexAddr t x y, ty, pos, aft, g⟩ (pt b (ofs + i)) := by
  have := Yl.indexArr (P := P) (S := S) (d := d) (ty := ty) (pos := pos) (aft := aft) (g := g) hu hs hx hi i hn hlt
  rwa [Nat.mul_one] at this
/-- A field: its offset. -/
def FieldOf (P : Program) (t : TypeId) (i off : Nat) : Prop := ∃ fs f, P.underlying t = some (.struct fs) ∧ fs[i]? = some f ∧ f.offset = off ∧ ∃ sz, SizeOf P f.type sz ∧ sz ≠ 0
theorem Yl.fieldAddr {i off : Nat} (hf : FieldOf P t i off) (hx : e.ev x = pt b ofs) : Yl P S e ⟨d, .fieldAddr t x i, ty, pos, aft, g⟩ (pt b (ofs + off)) := fun w _ => by
  obtain ⟨fs, f, h1, h2, h3, sz, h4, h5⟩ := hf
  simp only [execOp, hx, Instr.fieldAt, Instr.sureAddr, Sem.run_bind, Sem.run_pure, Result.andThen_ok, run_underlying h1, h2, fieldPlace, run_sizeOf h4, h5, if_false, Addr.add_lit, h3]
/-- A field of a value, one cell. -/
theorem Yl.field1 {i off : Nat} {fs : Array Field} {f : Field} (h1 : P.underlying t = some (.struct fs)) (h2 : fs[i]? = some f) (h3 : f.offset = off) (hT : NoAgg P f.type) (hx : e.ev x = .agg cs.toArray) (hv : cs[off]? = some v) :
    Yl P S e ⟨d, .field t x i, ty, pos, aft, g⟩ v := fun w _ => by
  simp only [execOp, hx, Instr.field, asAgg, part, Sem.run_bind, Sem.run_pure, Result.andThen_ok, run_underlying h1, h2, run_isAgg_no hT, Bool.false_eq_true, if_false, h3, List.getElem?_toArray, hv]
theorem Yl.fieldA {i off : Nat} {fs : Array Field} {f : Field} (h1 : P.underlying t = some (.struct fs)) (h2 : fs[i]? = some f) (h3 : f.offset = off) (hT : AggOf P f.type sz) (hx : e.ev x = .agg cs.toArray) (hys : (cs.drop off).take sz = vs) :
    Yl P S e ⟨d, .field t x i, ty, pos, aft, g⟩ (.agg vs.toArray) := fun w _ => by
  have e1 : cs.toArray.extract off (off + sz) = vs.toArray := by
    rw [← hys]; simp [List.extract_toArray, List.take_drop]
  simp only [execOp, hx, Instr.field, asAgg, part, Sem.run_bind, Sem.run_pure, Result.andThen_ok, run_underlying h1, h2, run_isAgg_yes hT, if_true, run_sizeOf hT.size, h3, e1]
/-- An index of an array value, one cell an element. -/
theorem Yl.indexV1 {N : Nat} (hu : P.underlying t = some (.array N elem)) (hT : NoAgg P elem) (hs : SizeOf P elem 1) (hx : e.ev x = .agg cs.toArray) (hi : e.ev y = .int k n) (i : Nat) (hn : n = i) (hlt : i < N) (hv : cs[i]? = some v) :
    Yl P S e ⟨d, .index t x y, ty, pos, aft, g⟩ v := fun w _ => by
  subst hn
  have h0 : 0 ≤ (i : Int) ∧ (i : Int) < N := by omega
  simp only [execOp, hx, hi, Instr.index, asIntOf, part, Sem.run_bind, Sem.run_pure, Result.andThen_ok, run_underlying hu, h0, and_self, if_true, run_sizeOf hs, run_isAgg_no hT, Bool.false_eq_true, if_false, Int.toNat_natCast, Nat.mul_one, List.getElem?_toArray, hv]
theorem Yl.indexVA {N : Nat} (hu : P.underlying t = some (.array N elem)) (hT : AggOf P elem sz) (hx : e.ev x = .agg cs.toArray) (hi : e.ev y = .int k n) (i : Nat) (hn : n = i) (hlt : i < N) (hv : (cs.drop (i * sz)).take sz = vs) :
    Yl P S e ⟨d, .index t x y, ty, pos, aft, g⟩ (.agg vs.toArray) := fun w _ => by
  subst hn
  have h0 : 0 ≤ (i : Int) ∧ (i : Int) < N := by omega
  have e1 : cs.toArray.extract (i * sz) (i * sz + sz) = vs.toArray := by
    rw [← hv]; simp [List.extract_toArray, List.take_drop]
  simp only [execOp, hx, hi, Instr.index, asIntOf, part, Sem.run_bind, Sem.run_pure, Result.andThen_ok, run_underlying hu, h0, and_self, if_true, run_sizeOf hT.size, run_isAgg_yes hT, Int.toNat_natCast, e1]
theorem Yl.indexStr {s : ByteArray} (hu : P.underlying t = some .string) (hx : e.ev x = .string s) (hi : e.ev y = .int k n) (i : Nat) (hn : n = i) (hlt : i < s.size) :
    Yl P S e ⟨d, .index t x y, ty, pos, aft, g⟩ (.int .u8 (s[i].toNat : Int)) := fun w _ => by
  subst hn
  have h0 : 0 ≤ (i : Int) := by omega
  have h1 : s[i]? = some s[i] := by simp [hlt]
  simp only [execOp, hx, hi, Instr.index, asIntOf, Sem.run_bind, Sem.run_pure, Result.andThen_ok, run_underlying hu, h0, if_true, Int.toNat_natCast, h1]

/-! #### builtins -/
theorem run_builtin {w : World} {bi : Builtin} {l : List Operand} {ts : Array TypeId} {r : Result Next} (h : ∀ cst, (builtin bi ts ty cst (l.map e.ev).toArray).run P w = r) :
    (execOp e.ev (⟨d, .call { callee := .builtin bi, args := l.toArray, argTypes := ts }, ty, pos, aft, g⟩ : Oper)).run P w = r := by
  simp only [execOp, resolve, invoke, Sem.run_bind, Sem.run_pure, Result.andThen_ok, List.map_toArray]
  exact h _
theorem Yl.len {ts : Array TypeId} (hu : P.underlying t = some (.slice elem)) (hts : ts[0]? = some t) (hx : e.ev x = .slice A ln cap) :
    Yl P S e ⟨d, .call { callee := .builtin .len, args := [x].toArray, argTypes := ts }, ty, pos, aft, g⟩ (iv ln) := fun w _ => by
  refine run_builtin fun cst => ?_
  simp [builtin, Builtin.len_, hts, hx, run_underlying hu, goInt]
theorem Yl.lenArr {N : Nat} {ts : Array TypeId} (hu : P.underlying t = some (.array N elem)) (hts : ts[0]? = some t) :
    Yl P S e ⟨d, .call { callee := .builtin .len, args := [x].toArray, argTypes := ts }, ty, pos, aft, g⟩ (iv N) := fun w _ => by
  refine run_builtin fun cst => ?_
  simp [builtin, Builtin.len_, hts, run_underlying hu, goInt]
theorem Yl.lenStr {s : ByteArray} {ts : Array TypeId} (hu : P.underlying t = some .string) (hts : ts[0]? = some t) (hx : e.ev x = .string s) :
    Yl P S e ⟨d, .call { callee := .builtin .len, args := [x].toArray, argTypes := ts }, ty, pos, aft, g⟩ (iv s.size) := fun w _ => by
  refine run_builtin fun cst => ?_
  simp [builtin, Builtin.len_, hts, hx, run_underlying hu, goInt]
theorem Yl.max {ts : Array TypeId} (hx : e.ev x = .int k m) (hy : e.ev y = .int j n) :
    Yl P S e ⟨d, .call { callee := .builtin .max, args := [x, y].toArray, argTypes := ts }, ty, pos, aft, g⟩ (.int k (max m n)) := fun w _ => by
  refine run_builtin fun cst => ?_
  have : (if n > m then n else m) = Max.max m n := by rw [Int.max_def]; split <;> split <;> omega
  simp [builtin, Builtin.max_, hx, hy, Builtin.max2, this]
theorem Yl.min {ts : Array TypeId} (hx : e.ev x = .int k m) (hy : e.ev y = .int j n) :
    Yl P S e ⟨d, .call { callee := .builtin .min, args := [x, y].toArray, argTypes := ts }, ty, pos, aft, g⟩ (.int k (min m n)) := fun w _ => by
  refine run_builtin fun cst => ?_
  have : (if n < m then n else m) = Min.min m n := by rw [Int.min_def]; split <;> split <;> omega
  simp [builtin, Builtin.min_, hx, hy, Builtin.min2, this]

/-! #### slice expressions -/
theorem run_sliceBound {w : World} {i : Nat} {c : BoundsCode} {N : Nat} (hn : n = i) (hlt : i ≤ N) : (Instr.sliceBound (.int k n) N c).run P w = .ok i w := by
  subst hn
  have h0 : 0 ≤ (i : Int) ∧ (i : Int) ≤ N := by omega
  simp [Instr.sliceBound, asIntOf, h0]
/-- bounds: what low, high, max come to -/
inductive Bd (e : En) : Option Operand → Nat → Prop where
  | none : Bd e none 0
  | some {x : Operand} {k : IntKind} {n : Int} {i : Nat} (hx : e.ev x = .int k n) (hn : n = i) : Bd e (some x) i
inductive Bh (e : En) (dflt : Nat) : Option Operand → Nat → Prop where
  | none : Bh e dflt none dflt
  | some {x : Operand} {k : IntKind} {n : Int} {i : Nat} (hx : e.ev x = .int k n) (hn : n = i) : Bh e dflt (some x) i
theorem run_sliceBounds {w : World} {lo hi mx : Option Operand} {l h q N C : Nat} {is : Bool} (hl : Bd e lo l) (hh : Bh e N hi h) (hm : Bh e C mx q) (hmx : mx = none ∨ hi ≠ none) (h1 : l ≤ h) (h2 : h ≤ q) (h3 : q ≤ C) :
    (Instr.sliceBounds is N C (lo.map e.ev) (hi.map e.ev) (mx.map e.ev)).run P w = .ok (l, h, q) w := by
  cases hm with
  | none =>
    cases hh with
    | none =>
      cases hl with
      | none => simp [Instr.sliceBounds]
      | some hx hn => simp [Instr.sliceBounds, hx, run_sliceBound hn h1]
    | some hx' hn' =>
      cases hl with
      | none => simp [Instr.sliceBounds, hx', run_sliceBound hn' h2]
      | some hx hn => simp [Instr.sliceBounds, hx, hx', run_sliceBound hn' h2, run_sliceBound hn h1]
  | some hx'' hn'' =>
    cases hh with
    | none => rcases hmx with h | h <;> simp at h
    | some hx' hn' =>
      cases hl with
      | none => simp [Instr.sliceBounds, hx', hx'', run_sliceBound hn'' h3, run_sliceBound hn' h2]
      | some hx hn => simp [Instr.sliceBounds, hx, hx', hx'', run_sliceBound hn'' h3, run_sliceBound hn' h2, run_sliceBound hn h1]
theorem Yl.slice {lo hi mx : Option Operand} {l h q : Nat} (hu : P.underlying t = some (.slice elem)) (hs : SizeOf P elem sz) (hx : e.ev x = .slice A ln cap) (hl : Bd e lo l) (hh : Bh e ln hi h) (hm : Bh e cap mx q) (hmx : mx = none ∨ hi ≠ none)
    (h1 : l ≤ h) (h2 : h ≤ q) (h3 : q ≤ cap) :
    Yl P S e ⟨d, .slice t x lo hi mx, ty, pos, aft, g⟩ (.slice (if q = l then A else A.map (·.add (l * sz))) (h - l) (q - l)) := fun w _ => by
  simp only [execOp, hx, Instr.sliceAt, Instr.slice, Sem.run_bind, run_underlying hu, Result.andThen_ok, run_sliceBounds hl hh hm hmx h1 h2 h3, run_sizeOf hs, Sem.run_pure]
theorem Yl.sliceArr {N : Nat} {lo hi mx : Option Operand} {l h q : Nat} (hu : P.underlying t = some (.array N elem)) (hs : SizeOf P elem sz) (hx : e.ev x = pt b ofs) (hl : Bd e lo l) (hh : Bh e N hi h) (hm : Bh e N mx q) (hmx : mx = none ∨ hi ≠ none)
    (h1 : l ≤ h) (h2 : h ≤ q) (h3 : q ≤ N) (h4 : l < q) :
    Yl P S e ⟨d, .slice t x lo hi mx, ty, pos, aft, g⟩ (.slice (some ⟨b, ofs + l * sz, none⟩) (h - l) (q - l)) := fun w _ => by
  have h5 : ¬ q = l := by omega
  simp only [execOp, hx, Instr.sliceAt, Instr.sureAddr, Sem.run_bind, run_underlying hu, Result.andThen_ok, run_sliceBounds hl hh hm hmx h1 h2 h3, run_sizeOf hs, Sem.run_pure, h5, if_false, Addr.add_lit]
theorem Yl.s2ap {N : Nat} (hu : P.underlying t = some (.array N elem)) (hx : e.ev x = .slice A ln cap) (hle : N ≤ ln) : Yl P S e ⟨d, .sliceToArrayPointer t x, ty, pos, aft, g⟩ (.pointer A) := fun w _ => by
  have h5 : ¬ ln < N := by omega
  simp only [execOp, hx, Instr.arrayAt, Sem.run_bind, run_underlying hu, Result.andThen_ok, Sem.run_pure, h5, if_false]
theorem Yl.makeFunc {fn : Fn} {fst cp : List Operand} : Yl P S e ⟨d, .makeFunc fn fst.toArray cp.toArray, ty, pos, aft, g⟩ (.func fn (fst.map e.ev).toArray (cp.map e.ev).toArray) := fun w _ => by
  simp [execOp, Instr.makeFunc]
theorem Yl.extract {vs : List Value} {i : Nat} (hx : e.ev x = .tuple vs.toArray) (hv : vs[i]? = some v) : Yl P S e ⟨d, .extract x i, ty, pos, aft, g⟩ v := fun w _ => by
  simp [execOp, hx, Instr.extract, hv]
/-- A struct or an array out of its parts. -/
theorem Yl.buildS {fs : Array Field} {parts : List (Nat × Operand)} {zs : List Value} {places : List (Nat × Nat)} {r : Array Value} (hu : P.underlying t = some (.struct fs)) (hz : ZeroOf P t zs)
    (hp : ∀ w, (fs.mapM (m := Sem) fun f => do pure (f.offset, ← sizeOf f.type)).run P w = .ok places.toArray w)
    (hf : Instr.fill (places.toArray[·]?) zs.toArray (parts.map fun p => (p.1, e.ev p.2)) = some r) : Yl P S e ⟨d, .build t parts.toArray, ty, pos, aft, g⟩ (.agg r) := fun w _ => by
  obtain ⟨i, z, h1, h2, h3⟩ := hz
  have : z.cells = zs.toArray := by rw [← h3]
  have hp' := hp w
  simp only [execOp, Instr.build, zeroValue, typeInfo, Sem.run_bind, run_program, Result.andThen_ok, h1, h2, Sem.run_pure, run_underlying hu, this, hp', List.map_toArray, hf]
theorem Yl.buildArr {N : Nat} {parts : List (Nat × Operand)} {zs : List Value} {r : Array Value} (hu : P.underlying t = some (.array N elem)) (hz : ZeroOf P t zs) (hs : SizeOf P elem sz)
    (hf : Instr.fill (fun i => some (i * sz, sz)) zs.toArray (parts.map fun p => (p.1, e.ev p.2)) = some r) : Yl P S e ⟨d, .build t parts.toArray, ty, pos, aft, g⟩ (.agg r) := fun w _ => by
  obtain ⟨i, z, h1, h2, h3⟩ := hz
  have : z.cells = zs.toArray := by rw [← h3]
  simp only [execOp, Instr.build, zeroValue, typeInfo, Sem.run_bind, run_program, Result.andThen_ok, h1, h2, Sem.run_pure, run_underlying hu, this, run_sizeOf hs, List.map_toArray, hf]
end
end Go.Eng

/- Regions that draw their order; calls; the way in and out. -/
open Go.RowKit
namespace Go.Eng
section
variable {P : Program} {ops : Array Oper} {Q : Exit → Act → World → Prop} {e : En} {ds : List Deferred} {o : Oper} {rest : List Oper} {S : WS}

/-- A way out that is the plain one. -/
def Qn (N : Act → World → Prop) : Exit → Act → World → Prop
  | .normal, a, w => N a w
  | _, _, _ => False
/-- What is asked of the world behind an operation: of the plain ones S, of those that look at no memory that it stays, of the last ones nothing. -/
def Held (S : WS) (k : Nat) (w w' : World) : Prop := match k with
  | 0 => S w'
  | 1 => w' = w
  | _ => True
/-- Whatever order is picked from here on. kd: of which kind an operation is. -/
def wpG (P : Program) (ops : Array Oper) (kd : Nat → Nat) (N : Act → World → Prop) (S : WS) : Nat → Array Bool → Act → World → Prop
  | 0, listed, a, w => Region.ready .any ops listed = [] ∧ N a w
  | fuel + 1, listed, a, w =>
    (Region.ready .any ops listed = [] → N a w) ∧
    ∀ i ∈ Region.ready .any ops listed, wpOp P ops (Qn N) i (fun a' w' => Held S (kd i) w w' ∧ wpG P ops kd N S fuel (listed.setIfInBounds i true) a' w') a w
variable {N : Act → World → Prop} {kd : Nat → Nat}
theorem wpAny_of_G : ∀ (fuel : Nat) (listed : Array Bool) (a : Act) (w : World), wpG P ops kd N S fuel listed a w → wpAny P .any ops (Qn N) fuel listed a w
  | 0, _, _, _, h => h
  | fuel + 1, _, _, _, h => ⟨h.1, fun i hi => wpOp_mono (fun a' w' h' => wpAny_of_G fuel _ a' w' h'.2) (h.2 i hi)⟩
theorem Held.mono {S' : WS} (hS : ∀ w, S' w → S w) {k : Nat} {w w' : World} (h : Held S' k w w') : Held S k w w' := by
  unfold Held at *
  split <;> simp_all
theorem wpG_mono {S' : WS} (hS : ∀ w, S' w → S w) : ∀ (fuel : Nat) (listed : Array Bool) (a : Act) (w : World), wpG P ops kd N S' fuel listed a w → wpG P ops kd N S fuel listed a w
  | 0, _, _, _, h => h
  | fuel + 1, _, _, _, h => ⟨h.1, fun i hi => wpOp_mono (fun a' w' h' => ⟨h'.1.mono hS, wpG_mono hS fuel _ a' w' h'.2⟩) (h.2 i hi)⟩
/-- All that is left are last ones. -/
def allFin (ops : Array Oper) (kd : Nat → Nat) (listed : Array Bool) : Bool := (List.range ops.size).all fun j => listed.getD j true || Nat.beq (kd j) 2
theorem wpG_of_any : ∀ (fuel : Nat) (listed : Array Bool) (a : Act) (w : World), (∀ j, j < ops.size → listed.getD j true = true ∨ kd j = 2) → wpAny P .any ops (Qn N) fuel listed a w → wpG P ops kd N S fuel listed a w
  | 0, _, _, _, _, h => h
  | fuel + 1, listed, _, _, hl, h => ⟨h.1, fun i hi => by
    have hm := mem_ready.1 hi
    obtain ⟨hun, oi, hoi, _⟩ := hm
    have hlt : i < ops.size := (Array.getElem?_eq_some_iff.1 hoi).1
    have hfi : kd i = 2 := by
      rcases hl i hlt with h | h
      · rw [h] at hun; cases hun
      · exact h
    refine wpOp_mono (fun a' w' h' => ⟨by simp only [Held, hfi], wpG_of_any fuel _ a' w' ?_ h'⟩) (h.2 i hi)
    intro j hj
    by_cases hij : i = j
    · subst hij; exact .inr hfi
    · rw [getD_set_ne true hij]; exact hl j hj⟩
theorem not_after {i j : Nat} {oj : Oper} {listed : Array Bool} (hr : i ∈ Region.ready .any ops listed) (hall : ∀ e ∈ oj.after, Region.binds .any e = true → listed.getD e.on false = true) (_h : j ≠ i) :
    ∀ e ∈ oj.after, Region.binds .any e = true → e.on ≠ i := fun e he hb heq => by
  have h1 := hall e he hb
  have h0 := (mem_ready.1 hr).1
  rw [heq] at h1
  rcases Nat.lt_or_ge i listed.size with h' | h'
  · simp [h'] at h0 h1; rw [h0] at h1; cases h1
  · simp [Array.getElem?_eq_none h'] at h1
theorem wpG_first {i : Nat} {oi : Oper} {v : Value} {C : WS} (hi : ops[i]? = some oi) (hsel : ∀ (j : Nat) (o : Oper) cs b, ops[j]? = some o → o.op ≠ .select cs b)
    (hC : ((∀ w, C w) ∧ kd i = 1) ∨ (C = S ∧ kd i = 0 ∧ ∀ (j : Nat) (oj : Oper), ops[j]? = some oj → kd j ≠ 0 → kd j ≠ 1 → ∃ e ∈ oj.after, Region.binds .any e = true ∧ e.on = i)) :
    ∀ (fuel : Nat) (listed : Array Bool) (a : Act) (w : World),
      (∀ j oj, ops[j]? = some oj → j ≠ i → listed.getD j true = false → (∀ e ∈ oj.after, Region.binds .any e = true → e.on ≠ i) → oi.apart ops oj = true) →
      i ∈ Region.ready .any ops listed → YieldsIf P ops C oi v a → C w →
      wpG P ops kd N S fuel (listed.setIfInBounds i true) (a.put oi.dst v) w → wpG P ops kd N S (fuel + 1) listed a w := by
  have hQ : ∀ c (a : Act) w, Qn N (.panic c) (a.put oi.dst v) w → Qn N (.panic c) a w := fun _ _ _ h => h
  have hown : ∀ w, C w → Held S (kd i) w w := fun w hw => by
    rcases hC with ⟨_, h1⟩ | ⟨h1, h2, _⟩
    · simp only [Held, h1]
    · subst h1; simp only [Held, h2]; exact hw
  intro fuel
  induction fuel with
  | zero =>
    intro listed a w _ hr hy hS H
    refine ⟨fun h => (by rw [h] at hr; cases hr), fun j hj => ?_⟩
    by_cases hji : j = i
    · subst hji; exact hy.wpOp hi hS ⟨hown w hS, H⟩
    · have := ready_mono hj hji
      rw [H.1] at this
      cases this
  | succ fuel ih =>
    intro listed a w hfree hr hy hS H
    refine ⟨fun h => (by rw [h] at hr; cases hr), fun j hj => ?_⟩
    by_cases hji : j = i
    · subst hji; exact hy.wpOp hi hS ⟨hown w hS, H⟩
    · have h1 := H.2 j (ready_mono hj hji)
      obtain ⟨hjun, oj, hoj, hall⟩ := mem_ready.1 hj
      have hnot := not_after (j := j) hr hall hji
      have hCw : ∀ w', Held S (kd j) w w' → C w' := fun w' hh => by
        rcases hC with ⟨h, _⟩ | ⟨h1, _, h3⟩
        · exact h w'
        · subst h1
          unfold Held at hh
          split at hh
          · exact hh
          · rw [hh]; exact hS
          · rename_i h0 h1
            obtain ⟨e, he, hb, heq⟩ := h3 j oj hoj h0 h1
            exact absurd heq (hnot e he hb)
      have h2 := wpOp_putIf hoj (hfree j oj hoj hji hjun hnot) (fun cs b => hsel i oi cs b hi) (fun cs b => hsel j oj cs b hoj) hQ hy h1
      have hfree' : ∀ k ok, ops[k]? = some ok → k ≠ i → (listed.setIfInBounds j true).getD k true = false →
          (∀ e ∈ ok.after, Region.binds .any e = true → e.on ≠ i) → oi.apart ops ok = true := fun k ok hk hki hun hno => by
        refine hfree k ok hk hki ?_ hno
        by_cases hjk : j = k
        · subst hjk; exact hjun
        · rw [getD_set_ne true hjk] at hun; exact hun
      refine wpOp_mono (fun a' w' h3 => ⟨h3.2.1, ih (listed.setIfInBounds j true) a' w' hfree' (ready_mono hr (Ne.symm hji)) h3.1 (hCw _ h3.2.1) ?_⟩) h2
      rw [Array.setIfInBounds_comm _ _ hji]
      exact h3.2.2
/-- The judgement inside such a region: S0 is held, S is known. -/
def G (P : Program) (ops : Array Oper) (kd : Nat → Nat) (N : Act → World → Prop) (S0 : WS) (fuel : Nat) (listed : Array Bool) (e : En) (ds : List Deferred) (S : WS) : Prop :=
  e.Ok ∧ (∀ w, S w → S0 w) ∧ ∀ w, S w → wpG P ops kd N S0 fuel listed ⟨e.arr, ds⟩ w
/-- .. among the last ones -/
def G0 (P : Program) (ops : Array Oper) (N : Act → World → Prop) (fuel : Nat) (listed : Array Bool) (e : En) (ds : List Deferred) (S : WS) : Prop :=
  e.Ok ∧ ∀ w, S w → wpAny P .any ops (Qn N) fuel listed ⟨e.arr, ds⟩ w
def takeOkP (ops : Array Oper) (kd : Nat → Nat) (listed : Array Bool) (i : Nat) : Bool :=
  (Region.ready .any ops listed).contains i && Region.free .any ops listed i && Nat.beq (kd i) 1 && Region.noSelect ops
def takeOk (ops : Array Oper) (kd : Nat → Nat) (listed : Array Bool) (i : Nat) : Bool :=
  (Region.ready .any ops listed).contains i && Region.free .any ops listed i && Nat.beq (kd i) 0 && Region.noSelect ops &&
  (List.range ops.size).all fun j => Nat.ble (kd j) 1 || (ops[j]?).any fun oj => oj.after.any fun e => Region.binds .any e && e.on == i
variable {S0 : WS}
theorem G.take_ofP {fuel i : Nat} {listed : Array Bool} {v : Value} (hok : takeOkP ops kd listed i = true) (ho : ops[i]? = some o) (hy : e.Ok → YieldsIf P ops (fun _ => True) o v ⟨e.arr, ds⟩)
    (h : G P ops kd N S0 fuel (listed.setIfInBounds i true) (e.put o.dst v) ds S) : G P ops kd N S0 (fuel + 1) listed e ds S := by
  simp only [takeOkP, Bool.and_eq_true] at hok
  obtain ⟨⟨⟨h1, h2⟩, h3⟩, h4⟩ := hok
  have hok := h.1.of_put
  refine ⟨hok, h.2.1, fun w hw => wpG_first (C := fun _ => True) ho (Region.noSelect_spec h4) (.inl ⟨fun _ => trivial, Nat.eq_of_beq_eq_true h3⟩) fuel listed _ w (Region.free_spec ho h2) (by simpa using h1) (hy hok) trivial ?_⟩
  rw [En.put_arr]; exact h.2.2 w hw
theorem G.take_of {fuel i : Nat} {listed : Array Bool} {v : Value} (hok : takeOk ops kd listed i = true) (ho : ops[i]? = some o) (hy : e.Ok → YieldsIf P ops S0 o v ⟨e.arr, ds⟩)
    (h : G P ops kd N S0 fuel (listed.setIfInBounds i true) (e.put o.dst v) ds S) : G P ops kd N S0 (fuel + 1) listed e ds S := by
  simp only [takeOk, Bool.and_eq_true] at hok
  obtain ⟨⟨⟨⟨h1, h2⟩, h3⟩, h4⟩, h5⟩ := hok
  have hok := h.1.of_put
  refine ⟨hok, h.2.1, fun w hw => wpG_first (C := S0) ho (Region.noSelect_spec h4) (.inr ⟨rfl, Nat.eq_of_beq_eq_true h3, ?_⟩) fuel listed _ w (Region.free_spec ho h2) (by simpa using h1) (hy hok) (h.2.1 w hw) ?_⟩
  · intro j oj hj h0 h1
    have := List.all_eq_true.1 h5 j (List.mem_range.2 (Array.getElem?_eq_some_iff.1 hj).1)
    have hb : Nat.ble (kd j) 1 = false := by
      cases hb : Nat.ble (kd j) 1 with
      | false => rfl
      | true => have := Nat.le_of_ble_eq_true hb; omega
    rw [hb, Bool.false_or, hj, Option.any_some, ← Array.any_toList, List.any_eq_true] at this
    obtain ⟨e, he, hb⟩ := this
    simp only [Bool.and_eq_true, beq_iff_eq] at hb
    exact ⟨e, by simpa using he, hb.1, hb.2⟩
  · rw [En.put_arr]; exact h.2.2 w hw
theorem Yl.yieldsIf {v : Value} (hy : Yl P S e o v) (hok : e.Ok) (hw : Region.wanted o (yielded ops e.arr) = true) : YieldsIf P ops S o v ⟨e.arr, ds⟩ :=
  .inl ⟨hw, fun w hS => by rw [En.eval_eq hok]; exact hy w hS⟩
theorem wanted_no {j d : Nat} {b c : Bool} {oj : Oper} (hok : e.Ok) (hg : o.guard = some (j, b)) (hj : ops[j]? = some oj) (hd : oj.dst = some d) (hv : e.get d = .bool c) (hc : c = !b) :
    Region.wanted o (yielded ops e.arr) = false := by
  obtain ⟨n, hn⟩ := hok
  have hget := En.getD_of_ok hn d
  rw [hv] at hget
  simp only [Region.wanted, hg, yielded, hj, hd, Option.bind_some]
  cases hx : e.arr[d]? with
  | none => simp [Array.getD_eq_getD_getElem?, hx, undef] at hget
  | some u =>
    simp only [Array.getD_eq_getD_getElem?, hx, Option.getD_some] at hget
    subst hget; subst hc
    cases b <;> rfl
section
variable {op : Op} {d : Nat} {ty : TypeId} {pos : String} {aft : Array Edge}
/-- Number i looks at no memory: it is taken first. -/
theorem G.p {fuel : Nat} (i : Nat) {listed : Array Bool} {v : Value} (hok : takeOkP ops kd listed i = true) (ho : ops[i]? = some ⟨some d, op, ty, pos, aft, none⟩) (hy : Yl P (fun _ => True) e ⟨some d, op, ty, pos, aft, none⟩ v)
    (h : G P ops kd N S0 fuel (listed.setIfInBounds i true) (.upd d v e) ds S) : G P ops kd N S0 (fuel + 1) listed e ds S :=
  G.take_ofP hok ho (fun hk => hy.yieldsIf hk rfl) h
/-- Number i reads memory: it is taken first. -/
theorem G.t {fuel : Nat} (i : Nat) {listed : Array Bool} {v : Value} (hok : takeOk ops kd listed i = true) (ho : ops[i]? = some ⟨some d, op, ty, pos, aft, none⟩) (hy : Yl P S0 e ⟨some d, op, ty, pos, aft, none⟩ v)
    (h : G P ops kd N S0 fuel (listed.setIfInBounds i true) (.upd d v e) ds S) : G P ops kd N S0 (fuel + 1) listed e ds S :=
  G.take_of hok ho (fun hk => hy.yieldsIf hk rfl) h
theorem G.pyes {fuel : Nat} (i : Nat) {j d' : Nat} {b c : Bool} {oj : Oper} {listed : Array Bool} {v : Value} (hok : takeOkP ops kd listed i = true) (ho : ops[i]? = some ⟨some d, op, ty, pos, aft, some (j, b)⟩) (hj : ops[j]? = some oj) (hd : oj.dst = some d')
    (hv : e.get d' = .bool c) (hc : c = b) (hy : Yl P (fun _ => True) e ⟨some d, op, ty, pos, aft, some (j, b)⟩ v) (h : G P ops kd N S0 fuel (listed.setIfInBounds i true) (.upd d v e) ds S) : G P ops kd N S0 (fuel + 1) listed e ds S :=
  G.take_ofP hok ho (fun hk => hy.yieldsIf hk (wanted_yes hk rfl hj hd hv hc)) h
theorem G.tyes {fuel : Nat} (i : Nat) {j d' : Nat} {b c : Bool} {oj : Oper} {listed : Array Bool} {v : Value} (hok : takeOk ops kd listed i = true) (ho : ops[i]? = some ⟨some d, op, ty, pos, aft, some (j, b)⟩) (hj : ops[j]? = some oj) (hd : oj.dst = some d')
    (hv : e.get d' = .bool c) (hc : c = b) (hy : Yl P S0 e ⟨some d, op, ty, pos, aft, some (j, b)⟩ v) (h : G P ops kd N S0 fuel (listed.setIfInBounds i true) (.upd d v e) ds S) : G P ops kd N S0 (fuel + 1) listed e ds S :=
  G.take_of hok ho (fun hk => hy.yieldsIf hk (wanted_yes hk rfl hj hd hv hc)) h
/-- A guard that says no. -/
theorem G.pno {fuel : Nat} (i : Nat) {j d' : Nat} {b c : Bool} {oj : Oper} {listed : Array Bool} (hok : takeOkP ops kd listed i = true) (ho : ops[i]? = some ⟨some d, op, ty, pos, aft, some (j, b)⟩) (hj : ops[j]? = some oj) (hd : oj.dst = some d')
    (hv : e.get d' = .bool c) (hc : c = !b) (h : G P ops kd N S0 fuel (listed.setIfInBounds i true) (.upd d undef e) ds S) : G P ops kd N S0 (fuel + 1) listed e ds S :=
  G.take_ofP hok ho (fun hk => .inr ⟨wanted_no hk rfl hj hd hv hc, rfl⟩) h
end
/-- Number i alone may come up. -/
theorem G.run {fuel : Nat} (i : Nat) {listed : Array Bool} {X : Type} {p : X → Prop} {val : X → Value} {T : X → WS} (hr : Region.ready .any ops listed = [i]) (hk : kd i = 0) (ho : ops[i]? = some o) (hg : o.guard = none)
    (he : Ef P (Qn N) e ds S o p val T) (hne : ∃ x, p x) (hs : ∀ w, S w → S0 w) (hsub : ∀ x, p x → ∀ w, T x w → S0 w) (S1 : X → WS) (h1 : ∀ x, p x → ∀ w, S1 x w → S0 w) (h : ∀ x, p x → G P ops kd N (S1 x) fuel (listed.setIfInBounds i true) (e.put o.dst (val x)) ds (T x)) :
    G P ops kd N S0 (fuel + 1) listed e ds S := by
  obtain ⟨x0, hx0⟩ := hne
  have hok : e.Ok := (h x0 hx0).1.of_put
  refine ⟨hok, hs, fun w hw => ⟨fun h0 => (by rw [h0] at hr; cases hr), fun j hj => ?_⟩⟩
  rw [hr] at hj
  simp only [List.mem_singleton] at hj
  subst hj
  unfold wpOp
  simp only [ho]
  rw [if_pos (by simp [Region.wanted, hg])]
  refine .inl (Oper.wp_mono ?_ (he.out hok w hw))
  rintro a w' ⟨x, hx, rfl, hT⟩
  exact ⟨by simp only [Held, hk]; exact hsub x hx _ hT, wpG_mono (h1 x hx) _ _ _ _ ((h x hx).2.2 _ hT)⟩
theorem G.last {fuel : Nat} {listed : Array Bool} (hf : allFin ops kd listed = true) (hs : ∀ w, S w → S0 w) (h : G0 P ops N fuel listed e ds S) : G P ops kd N S0 fuel listed e ds S :=
  ⟨h.1, hs, fun w hw => wpG_of_any _ _ _ _ (fun j hj => by
    have := List.all_eq_true.1 hf j (List.mem_range.2 hj)
    simp only [Bool.or_eq_true] at this
    exact this.imp id Nat.eq_of_beq_eq_true) (h.2 w hw)⟩
theorem G.done {listed : Array Bool} (hr : Region.ready .any ops listed = []) (hs : ∀ w, S w → S0 w) (h : e.Ok ∧ ∀ w, S w → N ⟨e.arr, ds⟩ w) : G P ops kd N S0 0 listed e ds S :=
  ⟨h.1, hs, fun w hw => ⟨hr, h.2 w hw⟩⟩
theorem G0.run {fuel : Nat} (i : Nat) {listed : Array Bool} {X : Type} {p : X → Prop} {val : X → Value} {T : X → WS} (hr : Region.ready .any ops listed = [i]) (ho : ops[i]? = some o) (hg : o.guard = none)
    (he : Ef P (Qn N) e ds S o p val T) (hne : ∃ x, p x) (h : ∀ x, p x → G0 P ops N fuel (listed.setIfInBounds i true) (e.put o.dst (val x)) ds (T x)) :
    G0 P ops N (fuel + 1) listed e ds S := by
  obtain ⟨x0, hx0⟩ := hne
  have hok : e.Ok := (h x0 hx0).1.of_put
  refine ⟨hok, fun w hw => ⟨fun h0 => (by rw [h0] at hr; cases hr), fun j hj => ?_⟩⟩
  rw [hr] at hj
  simp only [List.mem_singleton] at hj
  subst hj
  unfold wpOp
  simp only [ho]
  rw [if_pos (by simp [Region.wanted, hg])]
  refine .inl (Oper.wp_mono ?_ (he.out hok w hw))
  rintro a w' ⟨x, hx, rfl, hT⟩
  exact (h x hx).2 _ hT
theorem G0.val {fuel : Nat} (i : Nat) {listed : Array Bool} {v : Value} (hr : Region.ready .any ops listed = [i]) (ho : ops[i]? = some o) (hg : o.guard = none) (hy : Yl P S e o v)
    (h : G0 P ops N fuel (listed.setIfInBounds i true) (e.put o.dst v) ds S) : G0 P ops N (fuel + 1) listed e ds S :=
  G0.run i hr ho hg hy.ef ⟨(), trivial⟩ fun _ _ => h
theorem G0.done {listed : Array Bool} (hr : Region.ready .any ops listed = []) (h : e.Ok ∧ ∀ w, S w → N ⟨e.arr, ds⟩ w) : G0 P ops N 0 listed e ds S :=
  ⟨h.1, fun w hw => ⟨hr, h.2 w hw⟩⟩
theorem Qn_to {z : Exit} {a : Act} {w : World} (h : Qn (fun a w => Q .normal a w) z a w) : Q z a w := by
  cases z <;> first | exact h | exact h.elim
theorem Wp.draw {id : Nat} {l : List Oper} (hm : P.follows .mixedOrders = true) (kd : Nat → Nat) (S0 : WS) (hS : ∀ w, S w → S w.drew)
    (h : ∀ N : Act → World → Prop, (∀ e ds S, Fin Q .normal e ds S → e.Ok ∧ ∀ w, S w → N ⟨e.arr, ds⟩ w) → G P l.toArray kd N S0 l.length (Array.replicate l.length false) e ds S) : Wp P (.region id l.toArray true) Q e ds S := by
  have h := h (fun a w => Q .normal a w) (fun e ds S h => h)
  refine ⟨h.1, fun w hw => Code.wp_mono (fun z a w => Qn_to) (wp_region_any hm ?_)⟩
  have := wpAny_of_G _ _ _ _ (h.2.2 _ (hS w hw))
  simpa using this

theorem Wp.drawS {id : Nat} {l : List Oper} (hm : P.follows .mixedOrders = true) (kd : Nat → Nat) (hS : ∀ w, S w → S w.drew)
    (h : ∀ N : Act → World → Prop, (∀ e ds S, Fin Q .normal e ds S → e.Ok ∧ ∀ w, S w → N ⟨e.arr, ds⟩ w) → G P l.toArray kd N S l.length (Array.replicate l.length false) e ds S) : Wp P (.region id l.toArray true) Q e ds S := Wp.draw hm kd S hS h

/-! #### calls -/
def Body (P : Program) (f : FuncId) : Prop := ∃ fn, P.funcs[f]? = some fn ∧ fn.body.isNone = false ∧ (fn.name == "runtime.NumGoroutine") = false
theorem run_callFunc {f : FuncId} (hb : Body P f) (args : Array Value) (w : World) : (callFunc f args).run P w = .ok (.enter f args) w := by
  obtain ⟨fn, h1, h2, h3⟩ := hb
  simp only [callFunc, Sem.run_bind, run_program, Result.andThen_ok, h1, h2, h3, Bool.false_eq_true, if_false, Sem.run_pure]
variable {d : Option Tmp} {ty : TypeId} {pos : String} {aft : Array Edge} {g : Option (Nat × Bool)}
theorem Ef.callV {X : Type} {p : X → Prop} {val : X → Value} {T : X → WS} {f : FuncId} {fo : Operand} {args : List Operand} {fst cp vs : List Value} {ts : Array TypeId} (hb : Body P f)
    (hf : e.ev fo = .func (.func f) fst.toArray cp.toArray) (hv : fst ++ args.map e.ev ++ cp = vs) (hc : ∀ w, S w → Calls P f vs.toArray w (fun en w' => ∃ x, p x ∧ en = .returned (val x) ∧ T x w')) :
    Ef P Q e ds S ⟨d, .call { callee := .value fo, args := args.toArray, argTypes := ts }, ty, pos, aft, g⟩ p val T := by
  refine ⟨fun hok w hw => ?_⟩
  unfold Oper.wp
  rw [En.eval_eq hok]
  have : (execOp e.ev (⟨d, .call { callee := .value fo, args := args.toArray, argTypes := ts }, ty, pos, aft, g⟩ : Oper)).run P w = .ok (.enter f vs.toArray) w := by
    simp only [execOp, resolve, hf, Deferred.ofValue, Sem.run_bind, Sem.run_pure, Result.andThen_ok, invoke, List.map_toArray]
    rw [run_callFunc hb, ← hv]
    simp
  rw [this, Oper.upon_enter]
  refine (hc w hw).mono ?_
  rintro en w' ⟨x, hx, rfl, hT⟩
  exact ⟨x, hx, En.put_arr _ _ _, hT⟩
theorem Ef.call {X : Type} {p : X → Prop} {val : X → Value} {T : X → WS} {f : FuncId} {args : List Operand} {vs : List Value} {ts : Array TypeId} (hb : Body P f)
    (hv : args.map e.ev = vs) (hc : ∀ w, S w → Calls P f vs.toArray w (fun en w' => ∃ x, p x ∧ en = .returned (val x) ∧ T x w')) :
    Ef P Q e ds S ⟨d, .call { callee := .value (.func f), args := args.toArray, argTypes := ts }, ty, pos, aft, g⟩ p val T :=
  Ef.callV (fst := []) (cp := []) hb rfl (by simpa using hv) hc

/-! #### in and out -/
def Res (P : Program) (fn : Func) (e : En) (S : WS) (v : Value) : Prop := ∀ w, S w → (results fn e.arr).run P w = .ok v w
theorem Calls.enter {f : FuncId} {fn : Func} {c : Code} {args : List Value} {w : World} {R : Ending → World → Prop} (hf : P.funcs[f]? = some fn) (hb : fn.body = some c) (hS : S w)
    (h : ∀ K : Exit → Act → World → Prop, (∀ e S v, e.Ok → Res P fn e S v → (∀ w, S w → R (.returned v) w) → Fin K .ret e [] S ∧ Fin K .normal e [] S) → Wp P c K (.base fn.ntmps args) [] S) : Calls P f args.toArray w R := by
  refine calls_of_wp hf hb ?_
  have h := (h (bodyPost P fn R) (fun e S v hk hr hR => ⟨⟨hk, fun w hw => ⟨rfl, v, hr w hw, hR w hw⟩⟩, ⟨hk, fun w hw => ⟨rfl, v, hr w hw, hR w hw⟩⟩⟩)).2 w hS
  have e1 : (En.base fn.ntmps args).arr = args.toArray ++ Array.replicate (fn.ntmps - args.toArray.size) undef := by
    simp [En.arr]
  rw [e1] at h
  exact h
theorem Res.one {fn : Func} {t : Tmp} {v : Value} (hok : e.Ok) (hr : fn.results = #[.tmp t]) (hv : e.get t = v) : Res P fn e S v := fun w _ => by
  obtain ⟨n, hn⟩ := hok
  rw [results_tmp hr, En.getD_of_ok hn, hv]
theorem Res.two {fn : Func} {t u : Tmp} {v x : Value} (hok : e.Ok) (hr : fn.results = #[.tmp t, .tmp u]) (hv : e.get t = v) (hx : e.get u = x) : Res P fn e S (.tuple #[v, x]) := fun w _ => by
  obtain ⟨n, hn⟩ := hok
  rw [results_tmp2 hr, En.getD_of_ok hn, En.getD_of_ok hn, hv, hx]
theorem Res.none {fn : Func} (hr : fn.results = #[]) : Res P fn e S (.tuple #[]) := fun _ _ => results_none hr _ _ _
theorem Res.three {fn : Func} {t u z : Tmp} {v x y : Value} (hok : e.Ok) (hr : fn.results = #[.tmp t, .tmp u, .tmp z]) (hv : e.get t = v) (hx : e.get u = x) (hy : e.get z = y) : Res P fn e S (.tuple #[v, x, y]) := fun w _ => by
  obtain ⟨n, hn⟩ := hok
  have h1 := En.getD_of_ok hn t
  have h2 := En.getD_of_ok hn u
  have h3 := En.getD_of_ok hn z
  rw [hv] at h1; rw [hx] at h2; rw [hy] at h3
  simp only [Array.getD_eq_getD_getElem?] at h1 h2 h3
  simp [results, hr, h1, h2, h3]
/-- A result that lies in memory: a struct or an array. -/
theorem Res.cell {fn : Func} {t : Tmp} {ty : TypeId} {w0 : World} {F : List Nat} {L : List Hl} {b : Nat} {cs : List Value} {T : TypeId} (hok : e.Ok) (hr : fn.results = #[.cell t ty]) (hv : e.get t = pt b 0) (hT : AggOf P ty cs.length) (hm : Hl.blk b T cs ∈ L) :
    Res P fn e (Tr w0 F L) (.agg cs.toArray) := fun w hw => by
  obtain ⟨n, hn⟩ := hok
  have h1 := En.getD_of_ok hn t
  rw [hv] at h1
  simp only [Array.getD_eq_getD_getElem?] at h1
  have hh := hw.sat _ hm
  have hl := run_loadCells_list (P := P) w (ad b 0) cs (fun i v hv => by rw [Addr.add_lit, cell_of_row w b (0 + i) _ _ _ hh]; simpa using hv)
  simp [results, hr, h1, asAddr, loadVar, run_isAgg_yes hT, run_sizeOf hT.size, hl]
end
end Go.Eng

/- Slices that grow. -/
open Go.RowKit
namespace Go.Eng
section
variable {P : Program} {Q : Exit → Act → World → Prop} {e : En} {ds : List Deferred} {S : WS}
variable {w0 : World} {F : List Nat} {L : List Hl} {d : Option Tmp} {ty t yt elem : TypeId} {pos : String} {aft : Array Edge} {g : Option (Nat × Bool)} {x y : Operand} {k j : IntKind} {m n : Nat}
variable {b ofs base sz bytes ln cap c c' : Nat} {cs xs ys zs vs : List Value} {v : Value} {T : TypeId} {u : Hl → List Hl} {A : Option Addr} {ao : Option Nat}

/-- What a slice's address leads to reads ys (nothing is asked of an empty one). -/
def RdS (w0 : World) (F : List Nat) (L : List Hl) (A : Option Addr) (ys : List Value) : Prop :=
  ∀ w, Tr w0 F L w → ∀ i v, ys[i]? = some v → ∃ b ofs, A = some ⟨b, ofs, none⟩ ∧ w.cell? ⟨b, ofs + i, none⟩ = some v
theorem RdS.nil : RdS w0 F L A [] := fun _ _ i v h => by simp at h
theorem RdS.mk' (h : Rd w0 F L b ofs ys) : RdS w0 F L (some ⟨b, ofs, none⟩) ys := fun w hw i v hv => ⟨b, ofs, rfl, h w hw i v hv⟩
theorem RdS.row (h : Hl.row ao T sz n c ys ∈ L) : RdS w0 F L (ao.map fun g => ⟨g, 0, none⟩) ys := fun w hw i v hv => by
  rcases Hl.row_cases (hw.sat _ h) with ⟨rfl, rfl, rfl, rfl⟩ | ⟨g, spare, rfl, hg, _⟩
  · simp at hv
  · exact ⟨g, 0, rfl, Rd.row h w hw i v hv⟩
theorem RdS.rd (h : RdS w0 F L A ys) (hA : A = some ⟨b, ofs, none⟩) : Rd w0 F L b ofs ys := fun w hw i v hv => by
  obtain ⟨b', o', h1, h2⟩ := h w hw i v hv
  rw [hA] at h1
  simp only [Option.some.injEq, Addr.mk.injEq, and_true] at h1
  obtain ⟨rfl, rfl⟩ := h1
  exact h2
theorem RdS.cells (h : RdS w0 F L A ys) {w : World} (hT : Tr w0 F L w) (hn : ys.length = n * sz) (ln cap : Nat) : (Builtin.firstCells sz n (.slice A ln cap)).run P w = .ok ys.toArray w := by
  cases hy : ys with
  | nil =>
    have hz : n * sz = 0 := by rw [← hn, hy]; rfl
    cases A with
    | none => simp [Builtin.firstCells]
    | some a => simp [Builtin.firstCells, hz, loadCells, loadCellsFrom]
  | cons y0 yr =>
    obtain ⟨b, ofs, hA, _⟩ := h w hT 0 y0 (by rw [hy]; rfl)
    subst hA
    rw [← hy]
    exact run_firstCells_some w sz n _ ln cap ys hn (fun i v hv => by rw [Addr.add_lit]; exact (h.rd rfl) w hT i v hv)
theorem room_of {w : World} (h : (Hl.row ao T sz n c xs).holds w) : n ≤ c ∧ c ≤ maxLen := by
  rcases Hl.row_cases h with ⟨_, rfl, rfl, _⟩ | ⟨_, _, _, _, h, h', _⟩
  · exact ⟨Nat.le_refl _, Nat.zero_le _⟩
  · exact ⟨h, h'⟩
theorem grown_tr {w : World} (cells : List Value) (e : TypeId) (N : List Hl) (hN : ∀ h ∈ N, h.holds (w.drew.alloc (.cells cells.toArray e))) (ha : N.Pairwise Hl.apart) : Tr w [] N (w.drew.alloc (.cells cells.toArray e)) :=
  ⟨rfl, rfl, rfl, by simp, fun k hk _ => (Below.heap_alloc w.drew _ k hk), hN, ha⟩
theorem grown_row {w : World} (cells spare : List Value) (e : TypeId) (hn : n ≤ c) (hc : c ≤ maxLen) (hx : cells.length = n * sz) (hs : (cells ++ spare).length = c * sz) :
    Tr w [] [.row (some w.heap.size) e sz n c cells] (w.drew.alloc (.cells (cells ++ spare).toArray e)) := by
  refine grown_tr _ _ _ ?_ (by simp)
  intro h hh
  simp only [List.mem_singleton] at hh
  subst hh
  exact Hl.row_some (spare := spare) (heap_alloc_new w.drew _) hn hc hx hs
theorem arr_app (a : List Value) (b : Array Value) : a.toArray ++ b = (a ++ b.toList).toArray := by
  apply Array.ext'
  simp
theorem madeCells_eq (z : Array Value) (zs : List Value) (hz : z.toList = zs) (hs : 0 < zs.length) (q : Nat) : madeCells z (q * zs.length) = (List.replicate q zs).flatten.toArray := by
  apply Array.ext'
  have hzz : z = zs.toArray := by rw [← hz]
  subst hzz
  simp only [madeCells, List.size_toArray, Array.toList_map, Array.toList_range]
  induction q with
  | zero => simp
  | succ q ih =>
    rw [Nat.succ_mul, Nat.add_comm, List.range_add, List.map_append, List.map_map, List.replicate_succ, List.flatten_cons]
    congr 1
    · apply List.ext_getElem?
      intro i
      simp only [List.getElem?_map]
      rcases Nat.lt_or_ge i zs.length with h | h
      · rw [List.getElem?_range h]
        simp [Nat.mod_eq_of_lt h, h]
      · rw [List.getElem?_eq_none (by simpa using h), List.getElem?_eq_none h]; rfl
    · rw [← ih]
      apply List.map_congr_left
      intro i _
      simp
/-- What an append comes to: a slice that lies where it lay, or in a new block. -/
theorem run_append_src {w : World} {i : TypeInfo} {z : Value} (ht : P.underlying t = some (.slice elem)) (hi : P.info? elem = some i) (hz : i.zero = some z) (hzs : z.cells.size = i.size)
    (hT : Tr w0 F L w) (hm : Hl.row ao elem i.size n c xs ∈ L) (hy : RdS w0 F L A ys) (hl : ys.length = m * i.size) (hsz : 0 < i.size) (h1 : ∀ u ∈ ys, u.oneCell' = true) (hb : (n + m) * i.bytes ≤ 140737488355328) (h63 : n + m ≤ maxLen) (cap : Nat) :
    ∃ ao' c' w', (Builtin.append_ #[t, t] ty #[sl ao n c, .slice A m cap]).run P w = .ok (sl ao' (n + m) c') w' ∧ Tr w ao.toList [.row ao' elem i.size (n + m) c' (xs ++ ys)] w' ∧ (∀ k, ao' = some k → ao = some k ∨ w.heap.size ≤ k) := by
  have hh := hT.sat _ hm
  have h63' : n + m ≤ 9223372036854775807 := by simp only [maxLen] at h63; omega
  cases hyc : ys with
  | nil =>
    have hz0 : m * i.size = 0 := by rw [← hl, hyc]; rfl
    have hm0 : m = 0 := by rcases Nat.mul_eq_zero.1 hz0 with h | h; exact h; omega
    subst hm0
    have hnc := (room_of hh).1
    refine ⟨ao, c, w, ?_, ?_, fun k hk => .inl hk⟩
    · have hf := (RdS.nil (w0 := w0) (F := F) (L := L) (A := A)).cells (P := P) (sz := i.size) (n := 0) hT (by simp) 0 cap
      cases ao <;> simp [Builtin.append_, run_underlying ht, sizeOf, typeInfo, hi, Builtin.lenOf, hnc, hf, storeCells]
    · exact Tr.start1 _ (by simpa using hh)
  | cons y0 yr =>
    obtain ⟨b, ofs, hA, _⟩ := hy w hT 0 y0 (by rw [hyc]; rfl)
    subst hA
    rw [← hyc]
    have hnews : ∀ q v, ys[q]? = some v → w.cell? ((⟨b, ofs, none⟩ : Addr).add q) = some v := fun q v hv => by rw [Addr.add_lit]; exact (hy.rd rfl) w hT q v hv
    have hm1 : 0 < m := by
      rcases Nat.eq_zero_or_pos m with h | h
      · subst h; rw [hyc] at hl; simp at hl
      · exact h
    rcases Hl.row_cases hh with ⟨rfl, rfl, rfl, rfl⟩ | ⟨g, spare, rfl, hg, hnc, hcm, hx, hs⟩
    · have hr := run_append_nil (P := P) w t ty elem i z ht hi hz ⟨b, ofs, none⟩ m cap ys hl hnews hm1 (by omega) (by simp only [Nat.zero_add] at hb; omega)
      simp only [Nat.zero_add, List.nil_append]
      refine ⟨some w.heap.size, _, _, hr, ?_, fun k hk => .inr (by simp only [Option.some.injEq] at hk; omega)⟩
      have hge := grownCap_ge w m 0 elem
      have := grown_row (w := w) (sz := i.size) (n := m) ys (Builtin.zeroCells z.cells (grownCap w m 0 elem - m)).toList elem hge (grownCap_le_maxLen w m 0 elem (by omega)) hl
        (by simp only [List.length_append, hl, Array.length_toList, size_zeroCells, hzs, ← Nat.add_mul]; congr 1; omega)
      rw [arr_app]; simpa using this
    · by_cases hroom : n + m ≤ c
      · have hfit : n * i.size + ys.length ≤ (xs ++ spare).toArray.size := by rw [hl, ← Nat.add_mul]; simp only [List.size_toArray, hs]; exact Nat.mul_le_mul_right _ hroom
        have hr := run_append_room (P := P) w t ty elem i ht hi g n c (xs ++ spare).toArray hg ⟨b, ofs, none⟩ m cap ys hl hnews h1 hroom hfit
        refine ⟨some g, c, _, hr, ?_, fun k hk => .inl hk⟩
        have e1 : ((xs ++ spare).toArray.toList.take (n * i.size) ++ ys ++ (xs ++ spare).toArray.toList.drop (n * i.size + ys.length)) = (xs ++ ys) ++ spare.drop ys.length := by
          simp only [← hx]
          rw [List.take_left, ← List.drop_drop, List.drop_left]
        rw [e1]
        refine setRow_tr _ ?_ (by simp)
        intro h hm
        simp only [List.mem_singleton] at hm
        subst hm
        refine Hl.row_some (spare := spare.drop ys.length) (setRow_heap w g _ _ _ _ hg) hroom hcm (by rw [List.length_append, hx, hl, Nat.add_mul]) ?_
        simp only [List.size_toArray] at hfit
        simp only [List.length_append, List.length_drop] at hs hfit ⊢
        omega
      · have holds : ∀ q v, xs[q]? = some v → w.cell? ((⟨g, 0, none⟩ : Addr).add q) = some v := fun q v hv => by rw [Addr.add_lit]; exact Rd.row hm w hT q v hv
        have hr := run_append_grow (P := P) w t ty elem i z ht hi hz ⟨g, 0, none⟩ n c xs hx holds ⟨b, ofs, none⟩ m cap ys hl hnews (by omega) (by omega) (growslice_fits (by omega) hb)
        refine ⟨some w.heap.size, _, _, hr, ?_, fun k hk => .inr (by simp only [Option.some.injEq] at hk; omega)⟩
        have hge := grownCap_ge w (n + m) c elem
        have hlen : (xs ++ ys).length = (n + m) * i.size := by rw [List.length_append, hx, hl, Nat.add_mul]
        have := grown_row (w := w) (sz := i.size) (n := n + m) (xs ++ ys) (Builtin.zeroCells z.cells (grownCap w (n + m) c elem - (n + m))).toList elem hge (grownCap_le_maxLen w (n + m) c elem h63) hlen
          (by rw [List.length_append, hlen]; simp only [Array.length_toList, size_zeroCells, hzs, ← Nat.add_mul]; congr 1; omega)
        have this := this.widen (F' := (some g).toList) (by simp)
        have ea : xs.toArray ++ ys.toArray = (xs ++ ys).toArray := by simp
        rw [ea, arr_app]; simpa using this
/-- 'append' on a slice of one's own. -/
theorem Ef.append {ts : Array TypeId} (hu : P.underlying t = some (.slice elem)) (hts : ts = #[t, t]) (hel : ElemOf P elem sz bytes zs) (hx : e.ev x = sl ao n c) (hat : At (.row ao elem sz n c xs) L u) (hy : e.ev y = .slice A m cap) (hr : RdS w0 F L A ys) (hl : ys.length = m * sz)
    (h1 : ∀ u ∈ ys, u.oneCell' = true) (hsz : 0 < sz) (hb : (n + m) * bytes ≤ 140737488355328) (h63 : n + m ≤ 9223372036854775807) (hw : ∀ k, ao = some k → Own w0 F k) :
    Ef P Q e ds (Tr w0 F L) ⟨d, .call { callee := .builtin .append, args := [x, y].toArray, argTypes := ts }, ty, pos, aft, g⟩ (fun p : Option Nat × Nat => ∀ k, p.1 = some k → Own w0 F k) (fun p => sl p.1 (n + m) p.2)
      (fun p => Tr w0 F (u (.row p.1 elem sz (n + m) p.2 (xs ++ ys)))) := by
  refine ⟨fun hok w hT => ?_⟩
  obtain ⟨i, z, h2, h3, h4, h5, h6, h7⟩ := hel
  subst h5; subst h6; subst hts
  have hzs : z.cells.size = i.size := by rw [← h7, ← h4]; simp
  obtain ⟨ao', c', w', hrun, hT', hk⟩ := run_append_src (P := P) (ty := ty) hu h2 h3 hzs hT hat.mem hr hl hsz h1 hb (by simp only [maxLen]; omega) cap
  unfold Oper.wp
  rw [En.eval_eq hok]
  have : (execOp e.ev (⟨d, .call { callee := .builtin .append, args := [x, y].toArray, argTypes := #[t, t] }, ty, pos, aft, g⟩ : Oper)).run P w = .ok (.value (sl ao' (n + m) c')) w' := by
    refine run_builtin fun cst => ?_
    simp only [builtin, List.map_cons, List.map_nil, hx, hy, Sem.run_bind]
    rw [hrun]
    simp
  rw [this, Oper.upon_value, En.put_arr]
  refine ⟨(ao', c'), fun k hk' => ?_, rfl, ?_⟩
  · rcases hk k hk' with h | h
    · exact hw k h
    · exact .inr (Nat.le_trans hT.size h)
  · have := hT.at_step hat (N := []) hT' (by intro k hkk; simp only [Option.mem_toList] at hkk; exact ⟨hkk, hw k hkk⟩) (by intro x hx k hkk; simp only [List.mem_singleton] at hx; subst hx; exact hk k hkk)
    simpa using this
theorem maxLen_of {q : Nat} (h : q ≤ 9223372036854775807) : q ≤ maxLen := h
/-- 'make([]T, n)' -/
theorem Ef.make {xl xc : Operand} {k1 k2 : IntKind} {l : Int} (q : Nat) (hu : P.underlying t = some (.slice elem)) (hel : ElemOf P elem sz bytes zs) (hx : e.ev xl = .int k1 l) (hy : e.ev xc = .int k2 l) (hl : l = q) (hsz : 0 < sz) (hb : bytes * q ≤ 281474976710656) (h63 : q ≤ 9223372036854775807) :
    Ef P Q e ds (Tr w0 F L) ⟨d, .makeSlice t xl xc, ty, pos, aft, g⟩ (New w0) (fun b => sl (some b) q q) (fun b => Tr w0 F (.row (some b) elem sz q q (List.replicate q zs).flatten :: L)) := by
  refine ⟨fun hok w hT => ?_⟩
  obtain ⟨i, z, h2, h3, h4, h5, h6, h7⟩ := hel
  subst h5; subst h6; subst hl
  have hzs : z.cells.size = i.size := by rw [← h7, ← h4]; simp
  have hr := run_make (P := P) w t elem i z hu h2 h3 k1 k2 q q (by omega) (Int.le_refl _) (by rw [← Int.natCast_mul]; exact Int.ofNat_le.2 hb) (by omega)
  unfold Oper.wp
  rw [En.eval_eq hok]
  have : (execOp e.ev (⟨d, .makeSlice t xl xc, ty, pos, aft, g⟩ : Oper)).run P w = .ok (.value (sl (some w.heap.size) q q)) (w.alloc (.cells (madeCells z.cells (q * i.size)) elem)) := by
    simp only [execOp, hx, hy, Sem.run_bind, hr, Result.andThen_ok, Sem.run_pure, Int.toNat_natCast]
    rfl
  rw [this, Oper.upon_value, En.put_arr]
  refine ⟨w.heap.size, hT.size, rfl, ?_⟩
  have hm : madeCells z.cells (q * i.size) = ((List.replicate q zs).flatten ++ []).toArray := by
    rw [← h7, madeCells_eq z.cells zs h4 (by omega), List.append_nil]
  rw [hm]
  refine hT.callN (N := [_]) (alloc_tr _ _ ?_ (by simp)) ?_
  · intro h hh; simp only [List.mem_singleton] at hh; subst hh
    exact Hl.row_some (spare := []) (heap_alloc_new w _) (Nat.le_refl _) h63 (by rw [List.length_flatten, List.map_replicate, h7, List.sum_replicate_nat]) (by rw [List.append_nil, List.length_flatten, List.map_replicate, h7, List.sum_replicate_nat])
  · intro h hh k hk; simp only [List.mem_singleton] at hh; subst hh; simp only [Hl.id, Option.some.injEq] at hk; omega

theorem run_loadCells_rds {w : World} (h : RdS w0 F L A ys) (hT : Tr w0 F L w) (ln cap : Nat) (hn : ys.length = n * sz) : (Builtin.firstCells sz n (.slice A ln cap)).run P w = .ok ys.toArray w := h.cells hT hn ln cap
/-- 'copy(dst, src)' into what is known of a block. -/
theorem Ef.copy {h : Hl} {f : List Value → Hl} {ts : Array TypeId} {dl dc sln scap : Nat} (hu : P.underlying t = some (.slice elem)) (hts : ts[0]? = some t) (hs : SizeOf P elem 1) (hx : e.ev x = .slice (some ⟨b, ofs, none⟩) dl dc) (hy : e.ev y = .slice A sln scap)
    (hr : RdS w0 F L A ys) (hl : ys.length = min sln dl) (h1 : ∀ u ∈ ys, u.oneCell' = true) (hat : At h L u) (hc : Cells h cs f) (hid : h.id = some b) (hle : ofs + ys.length ≤ cs.length) (hw : Own w0 F b) :
    Ef P Q e ds (Tr w0 F L) ⟨d, .call { callee := .builtin .copy, args := [x, y].toArray, argTypes := ts }, ty, pos, aft, g⟩ Top (fun _ => iv (min sln dl : Nat)) (fun _ => Tr w0 F (u (f (cs.take ofs ++ ys ++ cs.drop (ofs + ys.length))))) := by
  refine ⟨fun hok w hT => ?_⟩
  obtain ⟨w', hst, hT'⟩ := run_storeCells_known (P := P) (ofs := ofs) hT hat hc hid hw hle h1
  unfold Oper.wp
  rw [En.eval_eq hok]
  have hf := hr.cells (P := P) (sz := 1) (n := min sln dl) hT (by rw [hl, Nat.mul_one]) sln scap
  have : (execOp e.ev (⟨d, .call { callee := .builtin .copy, args := [x, y].toArray, argTypes := ts }, ty, pos, aft, g⟩ : Oper)).run P w = .ok (.value (iv (min sln dl : Nat))) w' := by
    refine run_builtin fun cst => ?_
    simp only [builtin, List.map_cons, List.map_nil, hx, hy, Sem.run_bind, Builtin.copy_, hts]
    have e0 : ([Value.slice (some ⟨b, ofs, none⟩) dl dc, Value.slice A sln scap].toArray)[0]? = some (Value.slice (some ⟨b, ofs, none⟩) dl dc) := rfl
    have e1 : ([Value.slice (some ⟨b, ofs, none⟩) dl dc, Value.slice A sln scap].toArray)[1]? = some (Value.slice A sln scap) := rfl
    have e2 : Nat.min sln dl = min sln dl := rfl
    simp only [e0, e1, e2, Sem.run_bind, run_underlying hu, Result.andThen_ok, Builtin.lenOf, Sem.run_pure, run_sizeOf hs, hf, hst, goInt]
  rw [this, Oper.upon_value, En.put_arr]
  exact ⟨(), trivial, rfl, hT'⟩
/-- A literal slice: a new block. -/
theorem Ef.buildSlice {parts : List (Nat × Operand)} {N : Nat} {r : Array Value} (hu : P.underlying t = some (.slice elem)) (hel : ElemOf P elem sz bytes zs) (hN : N * sz ≤ 16777216) (hN0 : N * sz ≠ 0)
    (hf : Instr.fill (fun i => some (i * sz, sz)) (List.replicate N zs).flatten.toArray (parts.map fun p => (p.1, e.ev p.2)) = some r) (hr : r.toList = vs) :
    Ef P Q e ds (Tr w0 F L) ⟨d, .buildSlice t N parts.toArray, ty, pos, aft, g⟩ (New w0) (fun b => .slice (some ⟨b, 0, none⟩) N N) (fun b => Tr w0 F (.blk b elem vs :: L)) := by
  refine ⟨fun hok w hT => ?_⟩
  obtain ⟨i, z, h2, h3, h4, h5, h6, h7⟩ := hel
  subst h5; subst h6
  have hz : z.cells = zs.toArray := by rw [← h4]
  have hrr : r = vs.toArray := by rw [← hr]
  have hzs : 0 < zs.length := by rw [h7]; rcases Nat.eq_zero_or_pos i.size with h | h; · rw [h] at hN0; simp at hN0
                                 · exact h
  have hm : (Array.range (N * i.size)).map (fun x => zs.toArray[x % zs.toArray.size]!) = (List.replicate N zs).flatten.toArray := by
    have := madeCells_eq zs.toArray zs rfl hzs N
    rw [h7] at this
    exact this
  unfold Oper.wp
  rw [En.eval_eq hok]
  have hnle : ¬ (N * i.size > 2 ^ 24) := by omega
  have : (execOp e.ev (⟨d, .buildSlice t N parts.toArray, ty, pos, aft, g⟩ : Oper)).run P w = .ok (.value (.slice (some ⟨w.heap.size, 0, none⟩) N N)) (w.alloc (.cells vs.toArray elem)) := by
    simp only [execOp, Instr.buildSlice, Sem.run_bind, run_underlying hu, Result.andThen_ok, sizeOf, typeInfo, run_program, h2, Sem.run_pure, hnle, if_false, hN0, List.map_toArray, zeroValue, h3, hz, hm, hf, newRow, run_newObj, World.alloc_eq, hrr]
  rw [this, Oper.upon_value, En.put_arr]
  exact ⟨w.heap.size, hT.size, rfl, alloc_blk hT elem vs⟩
theorem Ef.buildSlice0 (hu : P.underlying t = some (.slice elem)) (hel : ElemOf P elem sz bytes zs) :
    Ef P Q e ds (Tr w0 F L) ⟨d, .buildSlice t 0 [].toArray, ty, pos, aft, g⟩ (New w0) (fun b => sl (some b) 0 0) (fun b => Tr w0 F (.row (some b) elem sz 0 0 [] :: L)) := by
  refine ⟨fun hok w hT => ?_⟩
  obtain ⟨i, z, h2, h3, h4, h5, h6, h7⟩ := hel
  unfold Oper.wp
  rw [En.eval_eq hok]
  have : (execOp e.ev (⟨d, .buildSlice t 0 [].toArray, ty, pos, aft, g⟩ : Oper)).run P w = .ok (.value (.slice (some ⟨w.heap.size, 0, none⟩) 0 0)) (w.alloc (.cells #[] elem)) := by
    simp [execOp, Instr.buildSlice, run_underlying hu, sizeOf, typeInfo, h2, Instr.fill, newRow, Array.range_zero']
  rw [this, Oper.upon_value, En.put_arr]
  refine ⟨w.heap.size, hT.size, rfl, hT.callN (N := [_]) (alloc_tr _ _ ?_ (by simp)) ?_⟩
  · intro h hh; simp only [List.mem_singleton] at hh; subst hh
    exact Hl.row_some (spare := []) (heap_alloc_new w _) (Nat.le_refl _) (Nat.zero_le _) (by simp) (by simp)
  · intro h hh k hk; simp only [List.mem_singleton] at hh; subst hh; simp only [Hl.id, Option.some.injEq] at hk; omega
end
end Go.Eng

/- Loops, by what they write. -/
open Go.RowKit
namespace Go.Eng
section
variable {P : Program} {ops : Array Oper} {Q : Exit → Act → World → Prop} {e : En} {ds : List Deferred} {S : WS}

def En.junk : List Nat → List Value → En → En
  | [], _, e => e
  | d :: ws, J, e => .upd d (J.headD undef) (En.junk ws J.tail e)
def En.upds : List (Nat × Value) → En → En
  | [], e => e
  | p :: l, e => .upd p.1 p.2 (En.upds l e)
/-- Down to the mark all that is written is in ws. -/
def En.upTo (m : Nat) (ws : List Nat) : En → Bool
  | .base _ _ => false
  | .upd d _ e => ws.any (Nat.beq d) && e.upTo m ws
  | .mark n e => Nat.beq n m || e.upTo m ws
def En.under (m : Nat) : En → En
  | .base n l => .base n l
  | .upd _ _ e => e.under m
  | .mark n e => bif Nat.beq n m then e else e.under m

theorem En.arr_eq {n : Nat} {a b : En} (ha : a.ok n = true) (hb : b.ok n = true) (h : ∀ t, a.get t = b.get t) : a.arr = b.arr := by
  apply Array.ext
  · rw [En.size_of_ok ha, En.size_of_ok hb]
  · intro i h1 h2
    have e1 := En.getD_of_ok ha i
    have e2 := En.getD_of_ok hb i
    rw [h i, ← e2] at e1
    simpa [Array.getD_eq_getD_getElem?, h1, h2] using e1
theorem En.get_junk (f : Nat → Value) (e : En) : ∀ (ws : List Nat) (t : Nat), (En.junk ws (ws.map f) e).get t = if t ∈ ws then f t else e.get t
  | [], t => by simp [En.junk]
  | d :: ws, t => by
    simp only [En.junk, List.map_cons, List.headD_cons, List.tail_cons, En.get]
    cases hb : Nat.beq t d with
    | true => have := Nat.eq_of_beq_eq_true hb; subst this; simp
    | false =>
      have hne : t ≠ d := fun h => by subst h; simp at hb
      rw [cond_false, En.get_junk f e ws t]
      simp [hne]
theorem En.get_upds {f : Nat → Value} {e : En} : ∀ {l : List (Nat × Value)}, l.map (fun p => f p.1) = l.map (·.2) → (∀ t, e.get t = f t) → ∀ t, (En.upds l e).get t = f t
  | [], _, he, t => he t
  | p :: l, hl, he, t => by
    simp only [List.map_cons, List.cons.injEq] at hl
    simp only [En.upds, En.get]
    cases hb : Nat.beq t p.1 with
    | true => have := Nat.eq_of_beq_eq_true hb; subst this; rw [cond_true]; exact hl.1.symm
    | false => rw [cond_false]; exact En.get_upds hl.2 he t
theorem En.get_under {m : Nat} {ws : List Nat} : ∀ {e : En}, e.upTo m ws = true → ∀ t, t ∉ ws → e.get t = (e.under m).get t
  | .base _ _, h, _, _ => by simp [En.upTo] at h
  | .upd d v e, h, t, ht => by
    simp only [En.upTo, Bool.and_eq_true, List.any_eq_true] at h
    obtain ⟨⟨x, hx, hd⟩, h⟩ := h
    have := Nat.eq_of_beq_eq_true hd; subst this
    have hne : Nat.beq t d = false := by
      cases hb : Nat.beq t d with
      | false => rfl
      | true => have := Nat.eq_of_beq_eq_true hb; subst this; exact absurd hx ht
    simp only [En.get, hne, cond_false, En.under]
    exact En.get_under h t ht
  | .mark n e, h, t, ht => by
    simp only [En.get, En.under]
    cases hb : Nat.beq n m with
    | true => rfl
    | false =>
      simp only [En.upTo, hb, Bool.false_or] at h
      rw [cond_false]; exact En.get_under h t ht
theorem En.ok_upds {n : Nat} : ∀ {l : List (Nat × Value)} {e : En}, (En.upds l e).ok n = true → e.ok n = true
  | [], _, h => h
  | _ :: l, _, h => by simp only [En.upds, En.ok, Bool.and_eq_true] at h; exact En.ok_upds h.2
theorem En.ok_junk {n : Nat} : ∀ {ws : List Nat} {J : List Value} {e : En}, (En.junk ws J e).ok n = true → e.ok n = true
  | [], _, _, h => h
  | _ :: ws, _, _, h => by simp only [En.junk, En.ok, Bool.and_eq_true] at h; exact En.ok_junk h.2
theorem En.ok_same {n : Nat} {l l' : List (Nat × Value)} (hl : l.map (·.1) = l'.map (·.1)) : ∀ {ws : List Nat} {J J' : List Value} {e : En}, (En.upds l (En.junk ws J e)).ok n = (En.upds l' (En.junk ws J' e)).ok n := by
  have hj : ∀ (ws : List Nat) (J J' : List Value) (e : En), (En.junk ws J e).ok n = (En.junk ws J' e).ok n := by
    intro ws
    induction ws with
    | nil => intros; rfl
    | cons d ws ih => intro J J' e; simp only [En.junk, En.ok]; rw [ih]
  induction l generalizing l' with
  | nil => cases l' with
    | nil => intros; exact hj _ _ _ _
    | cons p l' => simp at hl
  | cons p l ih => cases l' with
    | nil => simp at hl
    | cons p' l' =>
      simp only [List.map_cons, List.cons.injEq] at hl
      intro ws J J' e
      simp only [En.upds, En.ok, hl.1]
      rw [ih hl.2]

/-- The frame at the loop's head. -/
def En.head (m : Nat) (ws : List Nat) (l : List (Nat × Value)) (J : List Value) (e : En) : En := En.upds l (En.junk ws J (.mark m e))
theorem En.head_arr {m : Nat} {ws : List Nat} {l : List (Nat × Value)} {e e' : En} {n : Nat} (hok : (En.head m ws l (ws.map e'.get) e).ok n = true) (hok' : e'.ok n = true) (hg : ∀ t, t ∉ ws → e'.get t = e.get t)
    (hl : l.map (fun p => e'.get p.1) = l.map (·.2)) : e'.arr = (En.head m ws l (ws.map e'.get) e).arr := by
  refine En.arr_eq hok' hok fun t => ?_
  unfold En.head
  refine (En.get_upds hl (fun t => ?_) t).symm
  rw [En.get_junk]
  split
  · rfl
  · rename_i h; exact (hg t h).symm
theorem Wp.loopJ {X : Type} {c : Code} (m : Nat) (ws : List Nat) (keys : List Nat) (live : X → List Value) (T : X → WS) (μ : X → Nat) (x0 : X) (hk : ∀ x, (live x).length = keys.length) (hl : keys.map e.get = live x0) (hs : ∀ w, S w → T x0 w)
    (h : ∀ x J, ∀ K : Exit → Act → World → Prop, (∀ y e' S', e'.Ok → e'.upTo m ws = true → e'.under m = e → keys.map e'.get = live y → μ y < μ x → (∀ w, S' w → T y w) → Fin K .normal e' ds S') →
      (∀ z e ds S, z ≠ .normal → Fin Q z e ds S → Fin K z e ds S) → Wp P c K (En.head m ws (keys.zip (live x)) J e) ds (T x)) : Wp P (.loop c) Q e ds S := by
  have hkeys : ∀ x, (keys.zip (live x)).map (·.1) = keys := fun x => List.map_fst_zip (by rw [hk x]; exact Nat.le_refl _)
  have hzip : ∀ x (f : Nat → Value), keys.map f = live x → (keys.zip (live x)).map (fun p => f p.1) = (keys.zip (live x)).map (·.2) := fun x f hf => by
    have h1 : (keys.zip (live x)).map (fun p => f p.1) = ((keys.zip (live x)).map (·.1)).map f := by rw [List.map_map]; rfl
    rw [h1, hkeys, hf, List.map_snd_zip (by rw [hk x]; exact Nat.le_refl _)]
  have hwp : ∀ x J, ∃ n, (En.head m ws (keys.zip (live x)) J e).ok n = true := fun x J => by
    have := (h x J (fun _ _ _ => True) (fun _ e' S' ho _ _ _ _ _ => ⟨ho, fun _ _ => trivial⟩) (fun z e ds S _ hf => ⟨hf.1, fun _ _ => trivial⟩)).1
    exact this
  obtain ⟨n, hn⟩ := hwp x0 (ws.map e.get)
  have hne : e.ok n = true := by have := En.ok_junk (En.ok_upds hn); exact this
  refine Wp.loop (X := X × List Value) (fun p => En.head m ws (keys.zip (live p.1)) p.2 e) (fun p => T p.1) (fun p => μ p.1) (x0, ws.map e.get)
    ⟨⟨n, hne⟩, En.head_arr hn hne (fun _ _ => rfl) (hzip x0 _ hl)⟩ hs ?_
  rintro ⟨x, J⟩ K hK hr
  refine h x J K ?_ hr
  intro y e' S' hok' hup hun hly hμ hS'
  refine hK (y, ws.map e'.get) e' hμ ⟨hok', ?_⟩ S' hS'
  obtain ⟨n', hn'⟩ := hok'
  have hsz : n' = n := by
    have h1 : (e'.under m).ok n' = true := by
      have : ∀ {e' : En}, e'.ok n' = true → (e'.under m).ok n' = true := by
        intro e'
        induction e' with
        | base k l => exact fun h => h
        | upd d v e ih => intro h; simp only [En.ok, Bool.and_eq_true] at h; exact ih h.2
        | mark k e ih => intro h; simp only [En.under]; cases Nat.beq k m <;> first | exact h | exact ih h
      exact this hn'
    rw [hun] at h1
    rw [← En.size_of_ok h1, En.size_of_ok hne]
  subst hsz
  refine En.head_arr ?_ hn' (fun t ht => by rw [En.get_under hup t ht, hun]) (hzip y _ hly)
  unfold En.head
  rw [En.ok_same (l' := keys.zip (live x0)) (by rw [hkeys, hkeys]) (J' := ws.map e.get)]
  exact hn

/-- The same, with what holds of the loop's state besides. -/
theorem Wp.loopI {X : Type} {c : Code} (m : Nat) (ws : List Nat) (keys : List Nat) (I : X → Prop) (live : X → List Value) (T : X → WS) (μ : X → Nat) (x0 : X) (hI : I x0) (hk : ∀ x, (live x).length = keys.length) (hl : keys.map e.get = live x0) (hs : ∀ w, S w → T x0 w)
    (h : ∀ x, I x → ∀ J, ∀ K : Exit → Act → World → Prop, (∀ y e' S', I y → e'.Ok → e'.upTo m ws = true → e'.under m = e → keys.map e'.get = live y → μ y < μ x → (∀ w, S' w → T y w) → Fin K .normal e' ds S') →
      (∀ z e ds S, z ≠ .normal → Fin Q z e ds S → Fin K z e ds S) → Wp P c K (En.head m ws (keys.zip (live x)) J e) ds (T x)) : Wp P (.loop c) Q e ds S :=
  Wp.loopJ (X := {x : X // I x}) m ws keys (fun x => live x.1) (fun x => T x.1) (fun x => μ x.1) ⟨x0, hI⟩ (fun x => hk x.1) hl hs
    (fun x J K hK hr => h x.1 x.2 J K (fun y e' S' hy => hK ⟨y, hy⟩ e' S') hr)
theorem l1 {a a' : Value} (h : a = a') : [a] = [a'] := by rw [h]
theorem l2 {a a' b b' : Value} (h1 : a = a') (h2 : b = b') : [a, b] = [a', b'] := by rw [h1, h2]
theorem l3 {a a' b b' c c' : Value} (h1 : a = a') (h2 : b = b') (h3 : c = c') : [a, b, c] = [a', b', c'] := by rw [h1, h2, h3]
theorem l4 {a a' b b' c c' d d' : Value} (h1 : a = a') (h2 : b = b') (h3 : c = c') (h4 : d = d') : [a, b, c, d] = [a', b', c', d'] := by rw [h1, h2, h3, h4]
theorem l5 {a a' b b' c c' d d' f f' : Value} (h1 : a = a') (h2 : b = b') (h3 : c = c') (h4 : d = d') (h5 : f = f') : [a, b, c, d, f] = [a', b', c', d', f'] := by rw [h1, h2, h3, h4, h5]

/-! #### the steps as the printer uses them -/
variable {o : Op} {rest : List Oper} {d : Nat} {ty : TypeId} {pos : String} {aft : Array Edge} {g : Option (Nat × Bool)}
theorem Ops.v {v : Value} (hy : Yl P S e ⟨some d, o, ty, pos, aft, none⟩ v) (h : Ops P ops Q rest (.upd d v e) ds S) : Ops P ops Q (⟨some d, o, ty, pos, aft, none⟩ :: rest) e ds S := Ops.val rfl hy h
theorem Ops.f {X : Type} {p : X → Prop} {val : X → Value} {T : X → WS} (he : Ef P Q e ds S ⟨some d, o, ty, pos, aft, none⟩ p val T) (hne : ∃ x, p x) (h : ∀ x, p x → Ops P ops Q rest (.upd d (val x) e) ds (T x)) :
    Ops P ops Q (⟨some d, o, ty, pos, aft, none⟩ :: rest) e ds S := Ops.eff rfl he hne h
theorem Ops.s {T : Unit → WS} (he : Ef P Q e ds S ⟨none, o, ty, pos, aft, none⟩ Top (fun _ => undef) T) (h : Ops P ops Q rest e ds (T ())) :
    Ops P ops Q (⟨none, o, ty, pos, aft, none⟩ :: rest) e ds S := Ops.eff rfl he ⟨(), trivial⟩ fun _ _ => h
end
end Go.Eng

/- Handy forms. -/
open Go.RowKit
namespace Go.Eng
section
variable {P : Program} {ops : Array Oper} {Q : Exit → Act → World → Prop} {e : En} {ds : List Deferred} {S : WS} {rest : List Oper}
variable {w0 : World} {F : List Nat} {L : List Hl} {d : Option Tmp} {ty t yt elem sT dT : TypeId} {pos : String} {aft : Array Edge} {g : Option (Nat × Bool)} {x y : Operand} {k j : IntKind} {m n : Int}
variable {b ofs base sz bytes ln cap : Nat} {cs xs ys zs vs : List Value} {v : Value} {T : TypeId} {u : Hl → List Hl} {A : Option Addr} {ao : Option Nat}

theorem getmap {α : Type} [Inhabited α] {f : α → Value} {xs : List α} {i : Nat} (h : i < xs.length) : (xs.map f)[i]? = some (f (xs.getD i default)) := by
  simp [h]
/-! moves, by kind -/
theorem Yl.mvI (h : e.ev x = .int k n) : Yl P S e ⟨d, .move x, ty, pos, aft, g⟩ (.int k n) := Yl.move' h
theorem Yl.asI (h : e.ev x = .int k n) : Yl P S e ⟨d, .assign x, ty, pos, aft, g⟩ (.int k n) := Yl.assign' h
theorem Yl.mvB {c : Bool} (h : e.ev x = .bool c) : Yl P S e ⟨d, .move x, ty, pos, aft, g⟩ (.bool c) := Yl.move' h
theorem Yl.asB {c : Bool} (h : e.ev x = .bool c) : Yl P S e ⟨d, .assign x, ty, pos, aft, g⟩ (.bool c) := Yl.assign' h
theorem Yl.mvS {n c : Nat} (h : e.ev x = .slice A n c) : Yl P S e ⟨d, .move x, ty, pos, aft, g⟩ (.slice A n c) := Yl.move' h
theorem Yl.asS {n c : Nat} (h : e.ev x = .slice A n c) : Yl P S e ⟨d, .assign x, ty, pos, aft, g⟩ (.slice A n c) := Yl.assign' h
theorem Yl.mvP (h : e.ev x = .pointer A) : Yl P S e ⟨d, .move x, ty, pos, aft, g⟩ (.pointer A) := Yl.move' h
theorem Yl.asP (h : e.ev x = .pointer A) : Yl P S e ⟨d, .assign x, ty, pos, aft, g⟩ (.pointer A) := Yl.assign' h
theorem Yl.mvA {c : Array Value} (h : e.ev x = .agg c) : Yl P S e ⟨d, .move x, ty, pos, aft, g⟩ (.agg c) := Yl.move' h
theorem Yl.asA {c : Array Value} (h : e.ev x = .agg c) : Yl P S e ⟨d, .assign x, ty, pos, aft, g⟩ (.agg c) := Yl.assign' h
theorem Yl.mvStr {s : ByteArray} (h : e.ev x = .string s) : Yl P S e ⟨d, .move x, ty, pos, aft, g⟩ (.string s) := Yl.move' h
theorem Yl.asStr {s : ByteArray} (h : e.ev x = .string s) : Yl P S e ⟨d, .assign x, ty, pos, aft, g⟩ (.string s) := Yl.assign' h
theorem Yl.mvF {fn : Fn} {a c : Array Value} (h : e.ev x = .func fn a c) : Yl P S e ⟨d, .move x, ty, pos, aft, g⟩ (.func fn a c) := Yl.move' h
theorem Yl.asF {fn : Fn} {a c : Array Value} (h : e.ev x = .func fn a c) : Yl P S e ⟨d, .assign x, ty, pos, aft, g⟩ (.func fn a c) := Yl.assign' h
theorem Yl.mvM {r : Option Nat} (h : e.ev x = .map r) : Yl P S e ⟨d, .move x, ty, pos, aft, g⟩ (.map r) := Yl.move' h
theorem Yl.asM {r : Option Nat} (h : e.ev x = .map r) : Yl P S e ⟨d, .assign x, ty, pos, aft, g⟩ (.map r) := Yl.assign' h
/-! memory at the head of a block -/
theorem Yl.load1z (hT : NoAgg P t) (hx : e.ev x = pt b ofs) (hr : Rd w0 F L b 0 xs) (hv : xs[ofs]? = some v) : Yl P (Tr w0 F L) e ⟨d, .load t x, ty, pos, aft, g⟩ v :=
  Yl.load1 hT hx ofs hr (by omega) hv
theorem Yl.loadAz (hT : AggOf P t sz) (hx : e.ev x = pt b 0) (hr : Rd w0 F L b 0 xs) (hl : xs.length = sz) : Yl P (Tr w0 F L) e ⟨d, .load t x, ty, pos, aft, g⟩ (.agg xs.toArray) :=
  Yl.loadA hT hx 0 hr rfl xs (by rw [List.drop_zero, ← hl, List.take_length]) hl
theorem Yl.loadAp (hT : AggOf P t sz) (hx : e.ev x = pt b ofs) (hr : Rd w0 F L b 0 xs) (ys : List Value) (hys : (xs.drop ofs).take sz = ys) (hl : ys.length = sz) : Yl P (Tr w0 F L) e ⟨d, .load t x, ty, pos, aft, g⟩ (.agg ys.toArray) :=
  Yl.loadA hT hx ofs hr (by omega) ys hys hl
theorem Yl.indexArrZ {N : Nat} (hu : P.underlying t = some (.array N elem)) (hs : SizeOf P elem 1) (hx : e.ev x = pt b 0) (hi : e.ev y = .int k n) (i : Nat) (hn : n = i) (hlt : i < N) :
    Yl P S e ⟨d, .indexAddr t x y, ty, pos, aft, g⟩ (pt b i) := by
  have := Yl.indexArr1 (P := P) (S := S) (d := d) (ty := ty) (pos := pos) (aft := aft) (g := g) hu hs hx hi i hn hlt
  rwa [Nat.zero_add] at this
theorem Yl.indexSliceZ {ln cap : Nat} (hu : P.underlying t = some (.slice elem)) (hs : SizeOf P elem 1) (hx : e.ev x = .slice (some ⟨b, 0, none⟩) ln cap) (hi : e.ev y = .int k n) (i : Nat) (hn : n = i) (hlt : i < ln) :
    Yl P S e ⟨d, .indexAddr t x y, ty, pos, aft, g⟩ (pt b i) := by
  have := Yl.indexSlice1 (P := P) (S := S) (d := d) (ty := ty) (pos := pos) (aft := aft) (g := g) hu hs hx hi i hn hlt
  rwa [Nat.zero_add] at this
theorem Yl.fieldAddrZ {i off : Nat} (hf : FieldOf P t i off) (hx : e.ev x = pt b 0) : Yl P S e ⟨d, .fieldAddr t x i, ty, pos, aft, g⟩ (pt b off) := by
  have := Yl.fieldAddr (P := P) (S := S) (d := d) (ty := ty) (pos := pos) (aft := aft) (g := g) hf hx
  rwa [Nat.zero_add] at this
theorem Ef.box1 (hx : e.ev x = v) (hv : v.cells = #[v]) : Ef P Q e ds (Tr w0 F L) ⟨d, .box t x, ty, pos, aft, g⟩ (New w0) (fun b => pt b 0) (fun b => Tr w0 F (.blk b t [v] :: L)) := Ef.box hx (by rw [hv])
theorem Ef.boxA (hx : e.ev x = .agg cs.toArray) : Ef P Q e ds (Tr w0 F L) ⟨d, .box t x, ty, pos, aft, g⟩ (New w0) (fun b => pt b 0) (fun b => Tr w0 F (.blk b t cs :: L)) := Ef.box hx rfl
theorem Yl.makeFunc' {fn : Fn} {fst cp : List Operand} {fv cv : List Value} (h1 : fst.map e.ev = fv) (h2 : cp.map e.ev = cv) : Yl P S e ⟨d, .makeFunc fn fst.toArray cp.toArray, ty, pos, aft, g⟩ (.func fn fv.toArray cv.toArray) := by
  subst h1; subst h2; exact Yl.makeFunc

/-! parts put together, in lists -/
def fillL (place : Nat → Option (Nat × Nat)) (cells : List Value) : List (Nat × Value) → Option (List Value)
  | [] => some cells
  | (i, v) :: rest => match place i with
    | none => none
    | some (off, size) => bif Nat.beq v.cells.toList.length size && Nat.ble (off + v.cells.toList.length) cells.length then fillL place (cells.take off ++ v.cells.toList ++ cells.drop (off + v.cells.toList.length)) rest else none
theorem foldl_set (vs : List Value) : ∀ (off k : Nat) (cells : List Value), off + k + vs.length ≤ cells.length →
    (vs.zipIdx k).foldl (fun (cs : Array Value) (p : Value × Nat) => cs.setIfInBounds (off + p.2) p.1) cells.toArray = (cells.take (off + k) ++ vs ++ cells.drop (off + k + vs.length)).toArray := by
  induction vs with
  | nil => intro off k cells _; simp
  | cons v vs ih =>
    intro off k cells h
    simp only [List.zipIdx_cons, List.foldl_cons, List.length_cons] at h ⊢
    rw [List.setIfInBounds_toArray, ih off (k + 1) _ (by simp; omega)]
    congr 1
    rw [List.set_eq_take_append_cons_drop, if_pos (by omega)]
    have e1 : (cells.take (off + k) ++ v :: cells.drop (off + k + 1)).take (off + (k + 1)) = cells.take (off + k) ++ [v] := by
      rw [List.take_append, List.length_take, Nat.min_eq_left (by omega)]
      rw [show off + (k + 1) - (off + k) = 1 from by omega]
      simp [List.take_take, Nat.min_eq_right (show off + k ≤ off + (k + 1) by omega)]
    have e2 : (cells.take (off + k) ++ v :: cells.drop (off + k + 1)).drop (off + (k + 1) + vs.length) = cells.drop (off + k + (vs.length + 1)) := by
      rw [List.drop_append, List.length_take, Nat.min_eq_left (by omega)]
      rw [show off + (k + 1) + vs.length - (off + k) = vs.length + 1 from by omega]
      rw [List.drop_eq_nil_of_le (by simp; omega)]
      simp [List.drop_drop]
      congr 1; omega
    rw [e1, e2]
    simp
theorem fill_eq (place : Nat → Option (Nat × Nat)) : ∀ (parts : List (Nat × Value)) (cells r : List Value), fillL place cells parts = some r → Instr.fill place cells.toArray parts = some r.toArray := by
  intro parts
  induction parts with
  | nil => intro cells r h; simp only [fillL, Option.some.injEq] at h; subst h; rfl
  | cons p rest ih =>
    obtain ⟨i, v⟩ := p
    intro cells r h
    simp only [fillL] at h
    unfold Instr.fill
    cases hp : place i with
    | none => rw [hp] at h; cases h
    | some q =>
      obtain ⟨off, size⟩ := q
      rw [hp] at h
      simp only at h ⊢
      cases hc : Nat.beq v.cells.toList.length size && Nat.ble (off + v.cells.toList.length) cells.length with
      | false => rw [hc] at h; cases h
      | true =>
        rw [hc] at h
        simp only [cond_true] at h
        simp only [Bool.and_eq_true] at hc
        have h1 := Nat.eq_of_beq_eq_true hc.1
        have h2 := Nat.le_of_ble_eq_true hc.2
        rw [Array.length_toList] at h1 h2
        have h3 : ¬ (off + v.cells.size > cells.length) := by omega
        simp only [h1, bne_self_eq_false, List.size_toArray, Bool.false_or, decide_eq_true_eq]
        rw [if_neg (by rw [← h1]; simpa using h3)]
        rw [← ih _ _ h]
        congr 1
        have := foldl_set v.cells.toList off 0 cells (by simpa using h2)
        simp only [Nat.add_zero] at this
        rw [← this, ← Array.foldl_toList, Array.toList_zipIdx]
def Places (P : Program) (t : TypeId) (places : List (Nat × Nat)) : Prop := ∃ fs, P.underlying t = some (.struct fs) ∧ ∀ w, (fs.mapM (m := Sem) fun f => do pure (f.offset, ← sizeOf f.type)).run P w = .ok places.toArray w
theorem Yl.buildS' {parts : List (Nat × Operand)} {zs : List Value} {places : List (Nat × Nat)} {r : List Value} (hp : Places P t places) (hz : ZeroOf P t zs)
    (hf : fillL (places[·]?) zs (parts.map fun p => (p.1, e.ev p.2)) = some r) : Yl P S e ⟨d, .build t parts.toArray, ty, pos, aft, g⟩ (.agg r.toArray) := by
  obtain ⟨fs, hu, hp⟩ := hp
  exact Yl.buildS hu hz hp (by have := fill_eq _ _ _ _ hf; simpa using this)
theorem Yl.buildArr' {N : Nat} {parts : List (Nat × Operand)} {zs : List Value} {r : List Value} (hu : P.underlying t = some (.array N elem)) (hz : ZeroOf P t zs) (hs : SizeOf P elem sz)
    (hf : fillL (fun i => some (i * sz, sz)) zs (parts.map fun p => (p.1, e.ev p.2)) = some r) : Yl P S e ⟨d, .build t parts.toArray, ty, pos, aft, g⟩ (.agg r.toArray) :=
  Yl.buildArr hu hz hs (fill_eq _ _ _ _ hf)
theorem Ef.buildSlice' {parts : List (Nat × Operand)} {N : Nat} {r : List Value} (hu : P.underlying t = some (.slice elem)) (hel : ElemOf P elem sz bytes zs) (hN : N * sz ≤ 16777216) (hN0 : N * sz ≠ 0)
    (hf : fillL (fun i => some (i * sz, sz)) (List.replicate N zs).flatten (parts.map fun p => (p.1, e.ev p.2)) = some r) :
    Ef P Q e ds (Tr w0 F L) ⟨d, .buildSlice t N parts.toArray, ty, pos, aft, g⟩ (New w0) (fun b => .slice (some ⟨b, 0, none⟩) N N) (fun b => Tr w0 F (.blk b elem r :: L)) :=
  Ef.buildSlice hu hel hN hN0 (fill_eq _ _ _ _ hf) rfl

/-! #### contracts -/
/-- The call hands back v, and leaves all that was there. -/
def Pure (P : Program) (f : FuncId) (args : Array Value) (w : World) (v : Value) : Prop := Calls P f args w fun en w' => en = .returned v ∧ Tr w [] [] w'
def NewH (w0 : World) (N : List Hl) : Prop := ∀ h ∈ N, ∀ k, h.id = some k → w0.heap.size ≤ k
/-- The call hands back something new: for some x with q x its value, and what lies in new memory. -/
def Makes (P : Program) (f : FuncId) (args : Array Value) (w : World) {X : Type} (q : X → Prop) (val : X → Value) (N : X → List Hl) : Prop :=
  Calls P f args w fun en w' => ∃ x, q x ∧ NewH w (N x) ∧ en = .returned (val x) ∧ Tr w [] (N x) w'
/-- The call turns block b. -/
def Turns (P : Program) (f : FuncId) (args : Array Value) (w : World) (b : Nat) {X : Type} (q : X → Prop) (val : X → Value) (h' : X → Hl) (N : X → List Hl) : Prop :=
  Calls P f args w fun en w' => ∃ x, q x ∧ NewH w (N x) ∧ (h' x).id = some b ∧ en = .returned (val x) ∧ Tr w [b] (h' x :: N x) w'
variable {f : FuncId} {fo : Operand} {args : List Operand} {fst cp : List Value} {ts : Array TypeId}
theorem Ef.pure (hb : Body P f) (hv : args.map e.ev = vs) (hc : ∀ w, Tr w0 F L w → Pure P f vs.toArray w v) :
    Ef P Q e ds (Tr w0 F L) ⟨d, .call { callee := .value (.func f), args := args.toArray, argTypes := ts }, ty, pos, aft, g⟩ Top (fun _ => v) (fun _ => Tr w0 F L) :=
  Ef.call hb hv fun w hw => (hc w hw).mono fun _ _ ⟨h1, h2⟩ => ⟨(), trivial, h1, hw.call0 h2⟩
theorem Ef.pureV (hb : Body P f) (hf : e.ev fo = .func (.func f) fst.toArray cp.toArray) (hv : fst ++ args.map e.ev ++ cp = vs) (hc : ∀ w, Tr w0 F L w → Pure P f vs.toArray w v) :
    Ef P Q e ds (Tr w0 F L) ⟨d, .call { callee := .value fo, args := args.toArray, argTypes := ts }, ty, pos, aft, g⟩ Top (fun _ => v) (fun _ => Tr w0 F L) :=
  Ef.callV hb hf hv fun w hw => (hc w hw).mono fun _ _ ⟨h1, h2⟩ => ⟨(), trivial, h1, hw.call0 h2⟩
theorem makes_mono {X : Type} {q : X → Prop} {val : X → Value} {N : X → List Hl} {w : World} (hw : Tr w0 F L w) {as : Array Value} (hc : Makes P f as w q val N) :
    Calls P f as w (fun en w' => ∃ x, (q x ∧ NewH w0 (N x)) ∧ en = .returned (val x) ∧ Tr w0 F (N x ++ L) w') :=
  hc.mono fun _ _ ⟨x, h1, h2, h3, h4⟩ => ⟨x, ⟨h1, fun h hh k hk => Nat.le_trans hw.size (h2 h hh k hk)⟩, h3, hw.callN h4 h2⟩
theorem Ef.makes {X : Type} {q : X → Prop} {val : X → Value} {N : X → List Hl} (hb : Body P f) (hv : args.map e.ev = vs) (hc : ∀ w, Tr w0 F L w → Makes P f vs.toArray w q val N) :
    Ef P Q e ds (Tr w0 F L) ⟨d, .call { callee := .value (.func f), args := args.toArray, argTypes := ts }, ty, pos, aft, g⟩ (fun x => q x ∧ NewH w0 (N x)) val (fun x => Tr w0 F (N x ++ L)) :=
  Ef.call hb hv fun w hw => makes_mono hw (hc w hw)
theorem Ef.makesV {X : Type} {q : X → Prop} {val : X → Value} {N : X → List Hl} (hb : Body P f) (hf : e.ev fo = .func (.func f) fst.toArray cp.toArray) (hv : fst ++ args.map e.ev ++ cp = vs) (hc : ∀ w, Tr w0 F L w → Makes P f vs.toArray w q val N) :
    Ef P Q e ds (Tr w0 F L) ⟨d, .call { callee := .value fo, args := args.toArray, argTypes := ts }, ty, pos, aft, g⟩ (fun x => q x ∧ NewH w0 (N x)) val (fun x => Tr w0 F (N x ++ L)) :=
  Ef.callV hb hf hv fun w hw => makes_mono hw (hc w hw)
theorem turns_mono {X : Type} {q : X → Prop} {val : X → Value} {h : Hl} {h' : X → Hl} {N : X → List Hl} {w : World} (hw : Tr w0 F L w) (hat : At h L u) (hid : h.id = some b) (how : Own w0 F b) {as : Array Value} (hc : Turns P f as w b q val h' N) :
    Calls P f as w (fun en w' => ∃ x, (q x ∧ NewH w0 (N x)) ∧ en = .returned (val x) ∧ Tr w0 F (N x ++ u (h' x)) w') :=
  hc.mono fun _ _ ⟨x, h1, h2, h3, h4, h5⟩ => ⟨x, ⟨h1, fun h hh k hk => Nat.le_trans hw.size (h2 h hh k hk)⟩, h4,
    hw.at_step hat h5 (by intro k hk; simp only [List.mem_singleton] at hk; subst hk; exact ⟨hid, how⟩)
      (by
        intro y hy k hk
        rcases List.mem_cons.1 hy with rfl | hy
        · rw [h3] at hk; exact .inl (hid.trans hk)
        · exact .inr (h2 y hy k hk))⟩
theorem Ef.turns {X : Type} {q : X → Prop} {val : X → Value} {h : Hl} {h' : X → Hl} {N : X → List Hl} (hb : Body P f) (hv : args.map e.ev = vs) (hat : At h L u) (hid : h.id = some b) (how : Own w0 F b) (hc : ∀ w, Tr w0 F L w → Turns P f vs.toArray w b q val h' N) :
    Ef P Q e ds (Tr w0 F L) ⟨d, .call { callee := .value (.func f), args := args.toArray, argTypes := ts }, ty, pos, aft, g⟩ (fun x => q x ∧ NewH w0 (N x)) val (fun x => Tr w0 F (N x ++ u (h' x))) :=
  Ef.call hb hv fun w hw => turns_mono hw hat hid how (hc w hw)
theorem Ef.turnsV {X : Type} {q : X → Prop} {val : X → Value} {h : Hl} {h' : X → Hl} {N : X → List Hl} (hb : Body P f) (hf : e.ev fo = .func (.func f) fst.toArray cp.toArray) (hv : fst ++ args.map e.ev ++ cp = vs) (hat : At h L u) (hid : h.id = some b) (how : Own w0 F b) (hc : ∀ w, Tr w0 F L w → Turns P f vs.toArray w b q val h' N) :
    Ef P Q e ds (Tr w0 F L) ⟨d, .call { callee := .value fo, args := args.toArray, argTypes := ts }, ty, pos, aft, g⟩ (fun x => q x ∧ NewH w0 (N x)) val (fun x => Tr w0 F (N x ++ u (h' x))) :=
  Ef.callV hb hf hv fun w hw => turns_mono hw hat hid how (hc w hw)

/-! #### a test that guards what follows -/
theorem Ops.vB {op : Op} {dd : Nat} {c : Bool} (hy : Yl P S e ⟨some dd, op, ty, pos, aft, none⟩ (.bool c)) (ht : c = true → Ops P ops Q rest (.upd dd (.bool true) e) ds S) (hf : c = false → Ops P ops Q rest (.upd dd (.bool false) e) ds S) :
    Ops P ops Q (⟨some dd, op, ty, pos, aft, none⟩ :: rest) e ds S := by
  cases c with
  | true => exact Ops.v hy (ht rfl)
  | false => exact Ops.v hy (hf rfl)
theorem Yl.mvB' {c : Bool} (h : e.ev x = .bool c) : Yl P S e ⟨d, .move x, ty, pos, aft, g⟩ (.bool c) := Yl.move' h
theorem G.vB {kd : Nat → Nat} {N : Act → World → Prop} {S0 : WS} {op : Op} {dd : Nat} {c : Bool} {fuel : Nat} (i : Nat) {listed : Array Bool} (hok : takeOkP ops kd listed i = true) (ho : ops[i]? = some ⟨some dd, op, ty, pos, aft, none⟩) (hy : Yl P (fun _ => True) e ⟨some dd, op, ty, pos, aft, none⟩ (.bool c))
    (ht : c = true → G P ops kd N S0 fuel (listed.setIfInBounds i true) (.upd dd (.bool true) e) ds S) (hf : c = false → G P ops kd N S0 fuel (listed.setIfInBounds i true) (.upd dd (.bool false) e) ds S) : G P ops kd N S0 (fuel + 1) listed e ds S := by
  cases c with
  | true => exact G.p i hok ho hy (ht rfl)
  | false => exact G.p i hok ho hy (hf rfl)

/-! #### pointers against nil -/
theorem run_eqNil {el : TypeId} (hu : P.underlying t = some (.pointer el)) (A : Option Addr) (w : World) : (Op.equal t (.pointer A) (.pointer none)).run P w = .ok A.isNone w := by
  unfold Op.equal
  rw [show Op.maxDepth = 9999 + 1 from rfl]
  unfold Op.equalIn
  simp only [Sem.run_bind, run_underlying hu, Result.andThen_ok]
  cases A <;> rfl
theorem run_eqGuard_ptr (op : BinOp) (A B : Option Addr) (w : World) : (eqGuard op t x y (.pointer A) (.pointer B)).run P w = .ok () w := by
  unfold eqGuard
  cases op <;> rfl
theorem Yl.eqNil {el : TypeId} (hu : P.underlying t = some (.pointer el)) (hx : e.ev x = .pointer A) (hy : e.ev y = .pointer none) : Yl P S e ⟨d, .binOp .eql t x y yt, ty, pos, aft, g⟩ (.bool A.isNone) := fun w _ => by
  simp only [execOp, hx, hy, Sem.run_bind, run_eqGuard_ptr, Result.andThen_ok]
  cases A <;> simp [binOp, run_eqNil hu]
theorem Yl.neNil {el : TypeId} (hu : P.underlying t = some (.pointer el)) (hx : e.ev x = .pointer A) (hy : e.ev y = .pointer none) : Yl P S e ⟨d, .binOp .neq t x y yt, ty, pos, aft, g⟩ (.bool (!A.isNone)) := fun w _ => by
  simp only [execOp, hx, hy, Sem.run_bind, run_eqGuard_ptr, Result.andThen_ok]
  cases A <;> simp [binOp, run_eqNil hu]

/-! #### what a call may read -/
/-- In world w the cells from address A on read ys. -/
def Rw (w : World) (A : Option Addr) (ys : List Value) : Prop := ∀ i v, ys[i]? = some v → ∃ b ofs, A = some ⟨b, ofs, none⟩ ∧ w.cell? ⟨b, ofs + i, none⟩ = some v
theorem RdS.of (h : Rw w0 A ys) : RdS w0 [] L A ys := fun w hw i v hv => by
  obtain ⟨b, ofs, h1, h2⟩ := h i v hv
  exact ⟨b, ofs, h1, (World.cell?_of_block (w := w0) (hw.keep b (World.block_lt_of_cell? w0 _ h2) (by simp))).trans h2⟩
theorem RdS.rw {w : World} (h : RdS w0 F L A ys) (hw : Tr w0 F L w) : Rw w A ys := fun i v hv => h w hw i v hv
theorem Rw.nil {w : World} : Rw w A [] := fun i v h => by simp at h
theorem Rw.blk {w : World} {fr : Nat × Nat} (h : w.heap[b]? = some (.cells cs.toArray T fr)) : Rw w (some ⟨b, 0, none⟩) cs := fun i v hv => ⟨b, 0, rfl, by rw [cell_of_row w b (0 + i) _ _ _ h]; simpa using hv⟩
theorem RdS.take (h : RdS w0 F L A ys) (k : Nat) : RdS w0 F L A (ys.take k) := fun w hw i v hv => by
  rw [List.getElem?_take] at hv
  split at hv
  · exact h w hw i v hv
  · cases hv
theorem RdS.blk (h : Hl.blk b T cs ∈ L) : RdS w0 F L (some ⟨b, 0, none⟩) cs := RdS.mk' (Rd.blk h)
theorem RdS.blkD (h : Hl.blk b T cs ∈ L) (k : Nat) : RdS w0 F L (some ⟨b, k, none⟩) (cs.drop k) := by
  have := (Rd.blk (w0 := w0) (F := F) h).shift k
  rw [Nat.zero_add] at this
  exact RdS.mk' this
/-- Index and load at once, of a slice that is read: the address is there. -/
theorem RdS.at {i : Nat} (h : RdS w0 F L A ys) (hv : ys[i]? = some v) (hS : ∃ w, Tr w0 F L w) : ∃ b ofs, A = some ⟨b, ofs, none⟩ := by
  obtain ⟨w, hw⟩ := hS
  obtain ⟨b, ofs, h1, _⟩ := h w hw i v hv
  exact ⟨b, ofs, h1⟩
theorem Rw.addr {w : World} {i : Nat} (h : Rw w A ys) (hi : i < ys.length) : ∃ b ofs, A = some ⟨b, ofs, none⟩ := by
  obtain ⟨b, ofs, h1, _⟩ := h i ys[i] (by simp [hi])
  exact ⟨b, ofs, h1⟩
theorem Rw.rd {w : World} (h : Rw w (some ⟨b, ofs, none⟩) ys) : Rd w [] L b ofs ys := (RdS.of h).rd rfl

theorem Ef.store1b (hsz : SizeOf P t 1) (hx : e.ev x = pt b ofs) (hy : e.ev y = v) (hat : At (.blk b T cs) L u) (hle : ofs < cs.length) (h1 : v.oneCell' = true) (hw : Own w0 F b) :
    Ef P Q e ds (Tr w0 F L) ⟨d, .store t x y, ty, pos, aft, g⟩ Top (fun _ => undef) (fun _ => Tr w0 F (u (.blk b T (cs.set ofs v)))) := Ef.store1 hsz hx hy hat .blk rfl hle h1 hw
theorem Ef.store1r {sz n c : Nat} (hsz : SizeOf P t 1) (hx : e.ev x = pt b ofs) (hy : e.ev y = v) (hat : At (.row (some b) T sz n c cs) L u) (hle : ofs < cs.length) (h1 : v.oneCell' = true) (hw : Own w0 F b) :
    Ef P Q e ds (Tr w0 F L) ⟨d, .store t x y, ty, pos, aft, g⟩ Top (fun _ => undef) (fun _ => Tr w0 F (u (.row (some b) T sz n c (cs.set ofs v)))) := Ef.store1 hsz hx hy hat .row rfl hle h1 hw
theorem NewH.nil : NewH w0 [] := fun h hh => by simp at hh
theorem NewH.cons {h : Hl} {N : List Hl} (h1 : ∀ k, h.id = some k → w0.heap.size ≤ k) (h2 : NewH w0 N) : NewH w0 (h :: N) := fun x hx k hk => by
  rcases List.mem_cons.1 hx with rfl | hx
  · exact h1 k hk
  · exact h2 x hx k hk
theorem NewH.blk {N : List Hl} (hb : New w0 b) (h : NewH w0 N) : NewH w0 (.blk b T cs :: N) := h.cons fun k hk => by simp only [Hl.id, Option.some.injEq] at hk; subst hk; exact hb
theorem NewH.row {sz n c : Nat} {N : List Hl} (hb : ∀ k, ao = some k → New w0 k) (h : NewH w0 N) : NewH w0 (.row ao T sz n c cs :: N) := h.cons fun k hk => hb k hk
theorem NewH.row1 {sz n c : Nat} {N : List Hl} (hb : New w0 b) (h : NewH w0 N) : NewH w0 (.row (some b) T sz n c cs :: N) := h.cons fun k hk => by simp only [Hl.id, Option.some.injEq] at hk; subst hk; exact hb
theorem NewH.hd {h : Hl} {N : List Hl} (hn : NewH w0 (h :: N)) : ∀ k, h.id = some k → New w0 k := fun k hk => hn h (List.mem_cons_self) k hk

theorem Tr.old {w w' : World} {D : List Nat} (h : Tr w D L w') {ob : Obj} (hb : w.heap[b]? = some ob) (hD : b ∉ D) : w'.heap[b]? = some ob := (h.keep b (Array.getElem?_eq_some_iff.1 hb).1 hD).trans hb
theorem Tr.old0 {w w' : World} (h : Tr w [] L w') {ob : Obj} (hb : w.heap[b]? = some ob) : w'.heap[b]? = some ob := h.old hb (by simp)
theorem Rw.keep {w w' : World} (h : Rw w A ys) (hw : Tr w [] L w') : Rw w' A ys := (RdS.of h).rw hw
theorem Tr.blk {w : World} (h : Tr w0 F L w) (hm : Hl.blk b T cs ∈ L) : w.heap[b]? = some (.cells cs.toArray T (0, 0)) := h.sat _ hm
theorem Tr.rwBlk {w : World} (h : Tr w0 F L w) (hm : Hl.blk b T cs ∈ L) : Rw w (some ⟨b, 0, none⟩) cs := Rw.blk (h.blk hm)
theorem Tr.rwRow {w : World} {sz n c : Nat} (h : Tr w0 F L w) (hm : Hl.row ao T sz n c cs ∈ L) : Rw w (ao.map fun g => ⟨g, 0, none⟩) cs := (RdS.row hm).rw h
theorem Rw.drop {w : World} (h : Rw w (some ⟨b, ofs, none⟩) ys) (k : Nat) : Rw w (some ⟨b, ofs + k, none⟩) (ys.drop k) := fun i v hv => by
  rw [List.getElem?_drop] at hv
  obtain ⟨b', o', h1, h2⟩ := h (k + i) v hv
  simp only [Option.some.injEq, Addr.mk.injEq, and_true] at h1
  obtain ⟨rfl, rfl⟩ := h1
  exact ⟨b, ofs + k, rfl, by rw [Nat.add_assoc]; exact h2⟩
theorem Rw.take {w : World} (h : Rw w A ys) (k : Nat) : Rw w A (ys.take k) := fun i v hv => by
  rw [List.getElem?_take] at hv
  split at hv
  · exact h i v hv
  · cases hv
end
end Go.Eng

/- Bytes in aggregates; slices from a place on. -/
open Go.RowKit
namespace Go.Eng
section
variable {P : Program} {ops : Array Oper} {Q : Exit → Act → World → Prop} {e : En} {ds : List Deferred} {S : WS} {rest : List Oper}
variable {w0 : World} {F : List Nat} {L : List Hl} {d : Option Tmp} {ty t yt elem sT dT : TypeId} {pos : String} {aft : Array Edge} {g : Option (Nat × Bool)} {x y : Operand} {k j : IntKind} {m n : Int}
variable {b ofs base sz bytes ln cap : Nat} {cs ys zs vs : List Value} {v : Value} {T : TypeId} {u : Hl → List Hl} {A : Option Addr} {ao : Option Nat}
theorem G.runT {kd : Nat → Nat} {N : Act → World → Prop} {S0 : WS} {o : Oper} {fuel : Nat} (i : Nat) {listed : Array Bool} {X : Type} {p : X → Prop} {val : X → Value} {T : X → WS} (hr : Region.ready .any ops listed = [i]) (hk : kd i = 0) (ho : ops[i]? = some o) (hg : o.guard = none)
    (he : Ef P (Qn N) e ds S o p val T) (hne : ∃ x, p x) (hs : ∀ w, S w → S0 w) (hsub : ∀ x, p x → ∀ w, T x w → S0 w) (h : ∀ x, p x → G P ops kd N (T x) fuel (listed.setIfInBounds i true) (e.put o.dst (val x)) ds (T x)) :
    G P ops kd N S0 (fuel + 1) listed e ds S := G.run i hr hk ho hg he hne hs hsub T hsub h
theorem one_u8 (xs : List (BitVec 8)) : ∀ v ∈ xs.map u8, v.oneCell' = true := fun v h => by
  obtain ⟨a, _, rfl⟩ := List.mem_map.1 h
  rfl
/-- An aggregate of bytes is put at the place of a block. -/
theorem Ef.storeU {N : Nat} (xs : List (BitVec 8)) (hsz : SizeOf P t N) (hx : e.ev x = pt b 0) (hy : e.ev y = .agg (xs.map u8).toArray) (hat : At (.blk b T cs) L u) (hl : xs.length = N) (hc : cs.length = N) (hw : Own w0 F b) :
    Ef P Q e ds (Tr w0 F L) ⟨d, .store t x y, ty, pos, aft, g⟩ Top (fun _ => undef) (fun _ => Tr w0 F (u (.blk b T (xs.map u8)))) :=
  Ef.storeA (by rw [List.length_map, hl]; exact hsz) hx hy hat (by rw [List.length_map, hl, hc]) (one_u8 xs) hw
theorem Ef.storeN {N : Nat} (hsz : SizeOf P t N) (hx : e.ev x = pt b 0) (hy : e.ev y = .agg vs.toArray) (hat : At (.blk b T cs) L u) (hl : vs.length = N) (hc : cs.length = N) (h1 : ∀ v ∈ vs, v.oneCell' = true) (hw : Own w0 F b) :
    Ef P Q e ds (Tr w0 F L) ⟨d, .store t x y, ty, pos, aft, g⟩ Top (fun _ => undef) (fun _ => Tr w0 F (u (.blk b T vs))) :=
  Ef.storeA (by rw [hl]; exact hsz) hx hy hat (by rw [hl, hc]) h1 hw
theorem Res.cellM {N : Nat} {fn : Func} {t : Tmp} {ty : TypeId} (hok : e.Ok) (hr : fn.results = #[.cell t ty]) (hv : e.get t = pt b 0) (hm : Hl.blk b T cs ∈ L) (hT : AggOf P ty N) (hl : cs.length = N) :
    Res P fn e (Tr w0 F L) (.agg cs.toArray) := Res.cell hok hr hv (by rw [hl]; exact hT) hm
theorem Tr.addRow {w : World} (h : Tr w0 F L w) (T : TypeId) (sz : Nat) : Tr w0 F (.row none T sz 0 0 [] :: L) w :=
  ⟨h.os, h.tape, h.output, h.size, h.keep, fun x hx => by
    rcases List.mem_cons.1 hx with rfl | hx
    · exact Hl.row_none _ _ _
    · exact h.sat x hx, List.pairwise_cons.2 ⟨fun y _ k hk => by simp [Hl.id] at hk, h.apart⟩⟩
theorem Yl.sliceArrD {N l : Nat} {lo : Option Operand} (hu : P.underlying t = some (.array N elem)) (hs : SizeOf P elem 1) (hx : e.ev x = pt b 0) (hl : Bd e lo l) (h : l < N) :
    Yl P S e ⟨d, .slice t x lo none none, ty, pos, aft, g⟩ (.slice (some ⟨b, l, none⟩) (N - l) (N - l)) := by
  have := Yl.sliceArr (P := P) (S := S) (d := d) (ty := ty) (pos := pos) (aft := aft) (g := g) (hi := none) (mx := none) hu hs hx hl .none .none (.inl rfl) (by omega) (Nat.le_refl _) (Nat.le_refl _) h
  rwa [Nat.zero_add, Nat.mul_one] at this
theorem Yl.sliceArrT {N h : Nat} {hi : Option Operand} (hu : P.underlying t = some (.array N elem)) (hs : SizeOf P elem 1) (hx : e.ev x = pt b 0) (hh : Bh e N hi h) (h2 : h ≤ N) (h0 : 0 < N) :
    Yl P S e ⟨d, .slice t x none hi none, ty, pos, aft, g⟩ (.slice (some ⟨b, 0, none⟩) h N) :=
  Yl.sliceArr (P := P) (S := S) (d := d) (ty := ty) (pos := pos) (aft := aft) (g := g) (lo := none) (mx := none) (l := 0) (q := N) hu hs hx .none hh .none (.inl rfl) (by omega) (by omega) (Nat.le_refl _) h0
theorem Yl.sliceFrom {l : Nat} {lo : Option Operand} (hu : P.underlying t = some (.slice elem)) (hs : SizeOf P elem 1) (hx : e.ev x = .slice (some ⟨b, ofs, none⟩) ln cap) (hl : Bd e lo l) (h : l < ln) (hc : ln ≤ cap) :
    Yl P S e ⟨d, .slice t x lo none none, ty, pos, aft, g⟩ (.slice (some ⟨b, ofs + l, none⟩) (ln - l) (cap - l)) := by
  have := Yl.slice (P := P) (S := S) (d := d) (ty := ty) (pos := pos) (aft := aft) (g := g) (hi := none) (mx := none) hu hs hx hl .none .none (.inl rfl) (by omega) hc (Nat.le_refl _)
  rw [if_neg (by omega)] at this
  rw [Option.map_some, Addr.add_lit, Nat.mul_one] at this
  exact this
/-- From the beginning to a place. -/
theorem Yl.sliceTo {h : Nat} {hi : Option Operand} (hu : P.underlying t = some (.slice elem)) (hs : SizeOf P elem sz) (hx : e.ev x = .slice A ln cap) (hh : Bh e ln hi h) (hc : h ≤ cap) :
    Yl P S e ⟨d, .slice t x none hi none, ty, pos, aft, g⟩ (.slice A h cap) := by
  have := Yl.slice (P := P) (S := S) (d := d) (ty := ty) (pos := pos) (aft := aft) (g := g) (lo := none) (mx := none) (l := 0) hu hs hx .none hh .none (.inl rfl) (by omega) hc (Nat.le_refl _)
  have e1 : (if cap = 0 then A else A.map (·.add (0 * sz))) = A := by
    split
    · rfl
    · cases A <;> simp [Addr.add]
  rw [e1, Nat.sub_zero, Nat.sub_zero] at this
  exact this
theorem fillL_one (sz : Nat) (zs vs : List Value) (hz : zs.length = sz) (hv : vs.length = sz) : fillL (fun i => some (i * sz, sz)) (List.replicate 1 zs).flatten [(0, .agg vs.toArray)] = some vs := by
  have e0 : (Value.agg vs.toArray).cells.toList = vs := rfl
  have e1 : Nat.ble (0 + sz) sz = true := by simp
  simp only [fillL, e0, Nat.zero_mul, hv, hz, List.replicate_one, List.flatten_cons, List.flatten_nil, List.append_nil, Nat.beq_refl, e1, Bool.and_self, cond_true, List.take_zero, List.nil_append, Nat.zero_add]
  subst hz
  rw [show zs.length.ble zs.length = true from Nat.ble_eq_true_of_le (Nat.le_refl _)]
  simp
/-- A slice of one aggregate. -/
theorem Ef.buildSlice1 {p : Operand} (hu : P.underlying t = some (.slice elem)) (hel : ElemOf P elem sz bytes zs) (h0 : 0 < sz) (hN : sz ≤ 16777216) (hp : e.ev p = .agg vs.toArray) (hv : vs.length = sz) :
    Ef P Q e ds (Tr w0 F L) ⟨d, .buildSlice t 1 [(0, p)].toArray, ty, pos, aft, g⟩ (New w0) (fun b => .slice (some ⟨b, 0, none⟩) 1 1) (fun b => Tr w0 F (.blk b elem vs :: L)) := by
  have hz : zs.length = sz := by obtain ⟨_, _, _, _, _, _, _, h⟩ := hel; exact h
  exact Ef.buildSlice' hu hel (by omega) (by omega) (by rw [List.map_cons, List.map_nil, hp]; exact fillL_one sz zs vs hz hv)
theorem Yl.sliceArrO {N : Nat} (hu : P.underlying t = some (.array N elem)) (hs : SizeOf P elem 1) (hx : e.ev x = pt b ofs) (h : 0 < N) :
    Yl P S e ⟨d, .slice t x none none none, ty, pos, aft, g⟩ (.slice (some ⟨b, ofs, none⟩) N N) :=
  Yl.sliceArr (P := P) (S := S) (d := d) (ty := ty) (pos := pos) (aft := aft) (g := g) (lo := none) (hi := none) (mx := none) (l := 0) (h := N) (q := N) hu hs hx .none .none .none (.inl rfl) (by omega) (Nat.le_refl _) (Nat.le_refl _) h
/-- 'append' of something: what comes of it lies in memory. -/
theorem Ef.appendS {ts : Array TypeId} {n m c : Nat} {xs : List Value} (hu : P.underlying t = some (.slice elem)) (hts : ts = #[t, t]) (hel : ElemOf P elem sz bytes zs) (hx : e.ev x = sl ao n c) (hat : At (.row ao elem sz n c xs) L u) (hy : e.ev y = .slice A m cap) (hr : RdS w0 F L A ys) (hl : ys.length = m * sz)
    (h1 : ∀ u ∈ ys, u.oneCell' = true) (hsz : 0 < sz) (hb : (n + m) * bytes ≤ 140737488355328) (h63 : n + m ≤ 9223372036854775807) (h0 : 0 < n + m) (hw : ∀ k, ao = some k → Own w0 F k) :
    Ef P Q e ds (Tr w0 F L) ⟨d, .call { callee := .builtin .append, args := [x, y].toArray, argTypes := ts }, ty, pos, aft, g⟩ (fun p : Nat × Nat => Own w0 F p.1) (fun p => sl (some p.1) (n + m) p.2)
      (fun p => Tr w0 F (u (.row (some p.1) elem sz (n + m) p.2 (xs ++ ys)))) := by
  refine ⟨fun hok w hT => ?_⟩
  obtain ⟨i, z, h2, h3, h4, h5, h6, h7⟩ := hel
  subst h5; subst h6; subst hts
  have hzs : z.cells.size = i.size := by rw [← h7, ← h4]; simp
  obtain ⟨ao', c', w', hrun, hT', hk⟩ := run_append_src (P := P) (ty := ty) hu h2 h3 hzs hT hat.mem hr hl hsz h1 hb (by simp only [maxLen]; omega) cap
  obtain ⟨g', rfl⟩ : ∃ g', ao' = some g' := by
    rcases Hl.row_cases (hT'.sat _ (List.mem_singleton.2 rfl)) with ⟨_, h, _⟩ | ⟨g', _, h, _⟩
    · omega
    · exact ⟨g', h⟩
  unfold Oper.wp
  rw [En.eval_eq hok]
  have : (execOp e.ev (⟨d, .call { callee := .builtin .append, args := [x, y].toArray, argTypes := #[t, t] }, ty, pos, aft, g⟩ : Oper)).run P w = .ok (.value (sl (some g') (n + m) c')) w' := by
    refine run_builtin fun cst => ?_
    simp only [builtin, List.map_cons, List.map_nil, hx, hy, Sem.run_bind]
    rw [hrun]
    simp
  rw [this, Oper.upon_value, En.put_arr]
  refine ⟨(g', c'), ?_, rfl, ?_⟩
  · rcases hk g' rfl with h | h
    · exact hw g' h
    · exact .inr (Nat.le_trans hT.size h)
  · have := hT.at_step hat (N := []) hT' (by intro k hkk; simp only [Option.mem_toList] at hkk; exact ⟨hkk, hw k hkk⟩) (by intro x hx k hkk; simp only [List.mem_singleton] at hx; subst hx; exact hk k hkk)
    simpa using this
theorem Rd.ofRw (h : Rw w0 (some ⟨b, ofs, none⟩) ys) (hF : b ∉ F) : Rd w0 F L b ofs ys := Rd.old (fun i v hv => by
  obtain ⟨b', o', e1, e2⟩ := h i v hv
  simp only [Option.some.injEq, Addr.mk.injEq, and_true] at e1
  obtain ⟨rfl, rfl⟩ := e1
  exact e2) hF
theorem RdS.ofRwF (h : Rw w0 (some ⟨b, ofs, none⟩) ys) (hF : b ∉ F) : RdS w0 F L (some ⟨b, ofs, none⟩) ys := RdS.mk' (Rd.ofRw h hF)
end
end Go.Eng

/- Scopes with a label; more builtins; strings. -/
open Go.RowKit
namespace Go.Eng
section
variable {P : Program} {ops : Array Oper} {Q : Exit → Act → World → Prop} {e : En} {ds : List Deferred} {S : WS}
def jumpTo (l : Nat) (J : Act → World → Prop) (Q : Exit → Act → World → Prop) : Exit → Act → World → Prop
  | .goto l', a, w => l' = l ∧ J a w
  | e, a, w => Q e a w
theorem wp_scope_ex {c rest : Code} {a : Act} {w : World} (l : Nat) (I : Act → World → Nat → Prop) (hf : findLabel c l = some rest)
    (first : c.wp P (jumpTo l (fun a w => ∃ n, I a w n) Q) a w)
    (pass : ∀ a w n, I a w n → rest.wp P (jumpTo l (fun a' w' => ∃ m, I a' w' m ∧ m < n) Q) a w) : (Code.scope c).wp P Q a w := by
  intro b k cs
  have hg : gotoIn l (.inScope c :: k) = some (.code rest :: .inScope c :: k) := by simp [gotoIn, hf]
  have key : ∀ n a w, I a w n → ∃ e a' w', Q e a' w' ∧ Arrives P (lone (b.at a (.code rest :: .inScope c :: k)) cs w) b k cs e a' w' := by
    intro n
    induction n using Nat.strongRecOn with
    | _ n ih =>
      intro a w hJ
      obtain ⟨e, a₁, w₁, hq, harr⟩ := pass a w n hJ b (.inScope c :: k) cs
      cases e with
      | normal => exact ⟨.normal, a₁, w₁, hq, Steps.trans harr (.one step_inScope)⟩
      | exit id => exact ⟨.exit id, a₁, w₁, hq, fun k' hk => harr k' (by simp [exitTo, hk])⟩
      | goto l' =>
        obtain ⟨rfl, m, hJ', hlt⟩ := hq
        obtain ⟨e₂, a₂, w₂, hq₂, harr₂⟩ := ih m hlt a₁ w₁ hJ'
        exact ⟨e₂, a₂, w₂, hq₂, .of_steps (harr _ hg) harr₂⟩
      | ret => exact ⟨_, a₁, w₁, hq, harr⟩
      | panic ch => exact ⟨_, a₁, w₁, hq, harr⟩
      | outgrown => exact ⟨_, a₁, w₁, hq, harr⟩
  obtain ⟨e, a₁, w₁, hq, harr⟩ := first b (.inScope c :: k) cs
  cases e with
  | normal => exact ⟨.normal, a₁, w₁, hq, .head step_scope (Steps.trans harr (.one step_inScope))⟩
  | exit id => exact ⟨.exit id, a₁, w₁, hq, fun k' hk => .head step_scope (harr k' (by simp [exitTo, hk]))⟩
  | goto l' =>
    obtain ⟨rfl, n, hJ'⟩ := hq
    obtain ⟨e₂, a₂, w₂, hq₂, harr₂⟩ := key n a₁ w₁ hJ'
    exact ⟨e₂, a₂, w₂, hq₂, .of_steps (.head step_scope (harr _ hg)) harr₂⟩
  | ret => exact ⟨_, a₁, w₁, hq, .of_steps (.one step_scope) harr⟩
  | panic ch => exact ⟨_, a₁, w₁, hq, .of_steps (.one step_scope) harr⟩
  | outgrown => exact ⟨_, a₁, w₁, hq, .of_steps (.one step_scope) harr⟩
theorem En.ok_under {m n : Nat} : ∀ {e' : En}, e'.ok n = true → (e'.under m).ok n = true
  | .base _ _, h => h
  | .upd d v e, h => by simp only [En.ok, Bool.and_eq_true] at h; exact En.ok_under (e' := e) h.2
  | .mark k e, h => by simp only [En.under]; cases Nat.beq k m <;> first | exact h | exact En.ok_under (e' := e) h
theorem En.to_head {m n : Nat} {ws keys : List Nat} {live live0 : List Value} {J0 : List Value} {e e' : En} (hn : (En.head m ws (keys.zip live0) J0 e).ok n = true) (hk0 : live0.length = keys.length) (hk : live.length = keys.length)
    (hok : e'.Ok) (hup : e'.upTo m ws = true) (hun : e'.under m = e) (hly : keys.map e'.get = live) : e'.arr = (En.head m ws (keys.zip live) (ws.map e'.get) e).arr := by
  have hkeys : ∀ live : List Value, live.length = keys.length → (keys.zip live).map (·.1) = keys := fun live h => List.map_fst_zip (by omega)
  have hzip : (keys.zip live).map (fun p => e'.get p.1) = (keys.zip live).map (·.2) := by
    have h1 : (keys.zip live).map (fun p => e'.get p.1) = ((keys.zip live).map (·.1)).map e'.get := by rw [List.map_map]; rfl
    rw [h1, hkeys _ hk, hly, List.map_snd_zip (by omega)]
  have hne : e.ok n = true := by have := En.ok_junk (En.ok_upds hn); exact this
  obtain ⟨n', hn'⟩ := hok
  have hsz : n' = n := by
    have h1 := En.ok_under (m := m) hn'
    rw [hun] at h1
    rw [← En.size_of_ok h1, En.size_of_ok hne]
  subst hsz
  refine En.head_arr ?_ hn' (fun t ht => by rw [En.get_under hup t ht, hun]) hzip
  unfold En.head
  rw [En.ok_same (l' := keys.zip live0) (by rw [hkeys _ hk, hkeys _ hk0]) (J' := J0)]
  exact hn
theorem Wp.label {l : Nat} (h : Fin Q .normal e ds S) : Wp P (.label l) Q e ds S := ⟨h.1, fun w hw => wp_label (h.2 w hw)⟩
theorem Wp.goto {l : Nat} (h : Fin Q (.goto l) e ds S) : Wp P (.goto l) Q e ds S := ⟨h.1, fun w hw => wp_goto (h.2 w hw)⟩
/-- A scope in which the run jumps back to one label. -/
theorem Wp.scopeI {X : Type} {c R : Code} (l m : Nat) (ws : List Nat) (keys : List Nat) (I : X → Prop) (live : X → List Value) (T : X → WS) (μ : X → Nat) (hk : ∀ x, (live x).length = keys.length) (hf : findLabel c l = some (.seq .skip R))
    (first : ∀ K : Exit → Act → World → Prop, (∀ y e' S', I y → e'.Ok → e'.upTo m ws = true → e'.under m = e → keys.map e'.get = live y → (∀ w, S' w → T y w) → Wp P (.seq (.label l) R) K e' ds S') →
      (∀ z e ds S, (∀ j, z ≠ .goto j) → Fin Q z e ds S → Fin K z e ds S) → Wp P c K (.mark m e) ds S)
    (pass : ∀ x, I x → ∀ J, ∀ K : Exit → Act → World → Prop, (∀ y e' S', I y → e'.Ok → e'.upTo m ws = true → e'.under m = e → keys.map e'.get = live y → μ y < μ x → (∀ w, S' w → T y w) → Fin K (.goto l) e' ds S') →
      (∀ z e ds S, (∀ j, z ≠ .goto j) → Fin Q z e ds S → Fin K z e ds S) → Wp P R K (En.head m ws (keys.zip (live x)) J e) ds (T x)) : Wp P (.scope c) Q e ds S := by
  have hq : ∀ (J : Act → World → Prop) z e ds S, (∀ j, z ≠ .goto j) → Fin Q z e ds S → Fin (jumpTo l J Q) z e ds S := by
    intro J z e ds S hz hfin
    refine ⟨hfin.1, fun w hw => ?_⟩
    have := hfin.2 w hw
    cases z <;> first | exact absurd rfl (hz _) | exact this
  have hwf : ∀ x, I x → ∀ J, ∃ n, (En.head m ws (keys.zip (live x)) J e).ok n = true := fun x hx J =>
    (pass x hx J (fun _ _ _ => True) (fun _ e' S' _ ho _ _ _ _ _ => ⟨ho, fun _ _ => trivial⟩) (fun z e ds S _ hf => ⟨hf.1, fun _ _ => trivial⟩)).1
  let II : Act → World → Nat → Prop := fun a w n => ∃ x J, I x ∧ a = ⟨(En.head m ws (keys.zip (live x)) J e).arr, ds⟩ ∧ T x w ∧ n = μ x
  have harr : ∀ y (e' : En), I y → e'.Ok → e'.upTo m ws = true → e'.under m = e → keys.map e'.get = live y → e'.arr = (En.head m ws (keys.zip (live y)) (ws.map e'.get) e).arr := fun y e' hy ho hup hun hly => by
    obtain ⟨n, hn⟩ := hwf y hy []
    exact En.to_head hn (hk y) (hk y) ho hup hun hly
  have hfirst := first (jumpTo l (fun a w => ∃ n, II a w n) Q) ?_ (hq _)
  · refine ⟨hfirst.1, fun w hw => ?_⟩
    refine wp_scope_ex l II hf (hfirst.2 w hw) ?_
    rintro a w n ⟨x, J, hx, rfl, hT, rfl⟩
    refine wp_seq (wp_skip ?_)
    refine (pass x hx J (jumpTo l (fun a' w' => ∃ k, II a' w' k ∧ k < μ x) Q) ?_ (hq _)).2 w hT
    intro y e' S' hy ho hup hun hly hμ hS
    exact ⟨ho, fun w hw => ⟨rfl, μ y, ⟨y, _, hy, by rw [harr y e' hy ho hup hun hly], hS w hw, rfl⟩, hμ⟩⟩
  · intro y e' S' hy ho hup hun hly hS
    have hp := pass y hy (ws.map e'.get) (jumpTo l (fun a w => ∃ n, II a w n) Q) (fun y e' S' hy ho hup hun hly _ hS => ⟨ho, fun w hw => ⟨rfl, μ y, y, _, hy, by rw [harr y e' hy ho hup hun hly], hS w hw, rfl⟩⟩) (hq _)
    refine Wp.seq fun K hn _ => Wp.label (hn _ _ _ ⟨ho, fun w hw => ?_⟩)
    have := hp.2 w (hS w hw)
    rw [← harr y e' hy ho hup hun hly] at this
    exact this
end
section
variable {P : Program} {ops : Array Oper} {Q : Exit → Act → World → Prop} {e : En} {ds : List Deferred} {S : WS} {rest : List Oper}
variable {w0 : World} {F : List Nat} {L : List Hl} {d : Option Tmp} {ty t yt elem sT dT tn : TypeId} {pos : String} {aft : Array Edge} {g : Option (Nat × Bool)} {x y : Operand} {k j : IntKind} {n : Int}
variable {b ofs base sz bytes ln cap : Nat} {cs ys zs vs : List Value} {v : Value} {T : TypeId} {u : Hl → List Hl} {A : Option Addr} {ao : Option Nat}
theorem Yl.capS {ts : Array TypeId} (hu : P.underlying t = some (.slice elem)) (hts : ts[0]? = some t) (hx : e.ev x = .slice A ln cap) :
    Yl P S e ⟨d, .call { callee := .builtin .cap, args := [x].toArray, argTypes := ts }, ty, pos, aft, g⟩ (iv cap) := fun w _ => by
  refine run_builtin fun cst => ?_
  simp [builtin, Builtin.cap_, hts, hx, run_underlying hu, goInt]
theorem Yl.eqB {a c : Bool} (hu : P.underlying t = some .bool) (hx : e.ev x = .bool a) (hy : e.ev y = .bool c) : Yl P S e ⟨d, .binOp .eql t x y yt, ty, pos, aft, g⟩ (.bool (a == c)) := fun w _ => by
  have h1 : (eqGuard .eql t x y (.bool a) (.bool c)).run P w = .ok () w := by unfold eqGuard; rfl
  have h2 : (Op.equal t (.bool a) (.bool c)).run P w = .ok (a == c) w := by
    unfold Op.equal
    rw [show Op.maxDepth = 9999 + 1 from rfl]
    unfold Op.equalIn
    simp only [Sem.run_bind, run_underlying hu, Result.andThen_ok]
    rfl
  simp only [execOp, hx, hy, Sem.run_bind, h1, Result.andThen_ok]
  simp [binOp, h2]
/-- 'append' of so many noughts to the nil slice. -/
theorem Ef.appendZ {ts : Array TypeId} {m : Nat} (hu : P.underlying t = some (.slice elem)) (hn : P.underlying tn = some (.int j)) (hts : ts = #[t, tn]) (hel : ElemOf P elem sz bytes zs) (hx : e.ev x = .slice none 0 0) (hy : e.ev y = .int k n) (hm : n = (m : Int)) (hsz : 0 < sz) (h0 : 0 < m) (hb : m * bytes ≤ 140737488355328) (h63 : m ≤ 9223372036854775807) :
    Ef P Q e ds (Tr w0 F L) ⟨d, .call { callee := .builtin .append, args := [x, y].toArray, argTypes := ts }, ty, pos, aft, g⟩ (fun p : Nat × Nat => New w0 p.1 ∧ m ≤ p.2) (fun p => sl (some p.1) m p.2)
      (fun p => Tr w0 F (.row (some p.1) elem sz 0 p.2 [] :: L)) := by
  subst hm
  refine ⟨fun hok w hT => ?_⟩
  obtain ⟨i, z, h2, h3, h4, h5, h6, h7⟩ := hel
  subst h5; subst h6; subst hts
  have hzs : z.cells.size = i.size := by rw [← h7, ← h4]; simp
  have hr : (Builtin.append_ #[t, tn] ty #[.slice none 0 0, .int k m]).run P w = .ok (.slice (some ⟨w.heap.size, 0, none⟩) m (grownCap w m 0 elem)) (w.drew.alloc (.cells (Builtin.zeroCells z.cells m ++ Builtin.zeroCells z.cells (grownCap w m 0 elem - m)) elem)) := by
    have hn' : m ≠ 0 := by omega
    have h63' : ¬ (9223372036854775807 < (m : Int)) := by omega
    have h48' : ¬ (281474976710656 < Builtin.nextslicecap m 0 * i.bytes) := by rw [nextslicecap_zero h0]; omega
    have hw : IntKind.i64.wrap (m : Int) = m := wrap_i64 _ (by omega) (by omega)
    have h0' : ¬ ((m : Int) < 0) := by omega
    have h48'' : ¬ (281474976710656 < (m : Int) * (i.bytes : Int)) := by rw [← Int.natCast_mul]; omega
    have hsz' : i.size ≠ 0 := by omega
    have hms : ¬ (m * i.size = 0) := fun h => by rcases Nat.mul_eq_zero.1 h with h | h <;> omega
    simp [Builtin.append_, run_underlying hu, run_underlying hn, sizeOf, typeInfo, zeroValue, h2, h3, asInt, asIntOf, hw, h0', h48'', hn', hsz', hms, h63', h48', Question.forced, run_firstCells_none, newRow, grownCap]
  unfold Oper.wp
  rw [En.eval_eq hok]
  have : (execOp e.ev (⟨d, .call { callee := .builtin .append, args := [x, y].toArray, argTypes := #[t, tn] }, ty, pos, aft, g⟩ : Oper)).run P w = .ok (.value (sl (some w.heap.size) m (grownCap w m 0 elem))) (w.drew.alloc (.cells (Builtin.zeroCells z.cells m ++ Builtin.zeroCells z.cells (grownCap w m 0 elem - m)) elem)) := by
    refine run_builtin fun cst => ?_
    simp only [builtin, List.map_cons, List.map_nil, hx, hy, Sem.run_bind]
    rw [hr]
    simp
  rw [this, Oper.upon_value, En.put_arr]
  have hge := grownCap_ge w m 0 elem
  refine ⟨(w.heap.size, grownCap w m 0 elem), ⟨hT.size, hge⟩, rfl, ?_⟩
  have hc : (Builtin.zeroCells z.cells m ++ Builtin.zeroCells z.cells (grownCap w m 0 elem - m)) = ([] ++ (Builtin.zeroCells z.cells m ++ Builtin.zeroCells z.cells (grownCap w m 0 elem - m)).toList).toArray := by simp
  rw [hc]
  refine hT.callN (N := [_]) (grown_row (sz := i.size) (n := 0) [] _ elem (Nat.zero_le _) (grownCap_le_maxLen w m 0 elem (by simpa [maxLen] using h63)) (by simp) ?_) ?_
  · simp only [List.nil_append, Array.toList_append, List.length_append, Array.length_toList, size_zeroCells, hzs, ← Nat.add_mul]; congr 1; omega
  · intro h hh q hq; simp only [List.mem_singleton] at hh; subst hh; simp only [Hl.id, Option.some.injEq] at hq; omega

/-- 'append', and there is room. -/
theorem Ef.appendC {ts : Array TypeId} {n m c : Nat} {xs : List Value} (hu : P.underlying t = some (.slice elem)) (hts : ts = #[t, t]) (hel : ElemOf P elem sz bytes zs) (hx : e.ev x = sl ao n c) (hat : At (.row ao elem sz n c xs) L u) (hy : e.ev y = .slice A m cap) (hr : RdS w0 F L A ys) (hl : ys.length = m * sz)
    (h1 : ∀ u ∈ ys, u.oneCell' = true) (hsz : 0 < sz) (hb : (n + m) * bytes ≤ 140737488355328) (h63 : n + m ≤ 9223372036854775807) (hw : ∀ k, ao = some k → Own w0 F k) :
    Ef P Q e ds (Tr w0 F L) ⟨d, .call { callee := .builtin .append, args := [x, y].toArray, argTypes := ts }, ty, pos, aft, g⟩ (fun p : Option Nat × Nat => (∀ k, p.1 = some k → Own w0 F k) ∧ n + m ≤ p.2) (fun p => sl p.1 (n + m) p.2)
      (fun p => Tr w0 F (u (.row p.1 elem sz (n + m) p.2 (xs ++ ys)))) := by
  have h := Ef.append (P := P) (Q := Q) (e := e) (ds := ds) (d := d) (ty := ty) (pos := pos) (aft := aft) (g := g) hu hts hel hx hat hy hr hl h1 hsz hb h63 hw
  refine ⟨fun hok w hT => ?_⟩
  have := h.out hok w hT
  refine Oper.wp_mono ?_ this
  rintro a w' ⟨p, hp, hv, hT'⟩
  have hat' : Hl.row p.1 elem sz (n + m) p.2 (xs ++ ys) ∈ u (.row p.1 elem sz (n + m) p.2 (xs ++ ys)) := by
    obtain ⟨A', B', _, hu'⟩ := hat.split
    rw [hu']; simp
  exact ⟨p, ⟨hp, (room_of (hT'.sat _ hat')).1⟩, hv, hT'⟩
theorem row_pos' {w : World} {ao : Option Nat} {T : TypeId} {sz n c : Nat} {xs : List Value} (h : (Hl.row ao T sz n c xs).holds w) (h0 : 0 < n) : ∃ g, ao = some g := by
  rcases Hl.row_cases h with ⟨_, h, _⟩ | ⟨g, _, h, _⟩
  · omega
  · exact ⟨g, h⟩
/-- Of a row that is not empty the block is there. -/
theorem Wp.rowSome {c : Code} {n q : Nat} {xs : List Value} (h0 : 0 < n) (hm : Hl.row ao T sz n q xs ∈ L) (hok : e.Ok) (h : ∀ g, ao = some g → Wp P c Q e ds (Tr w0 F L)) : Wp P c Q e ds (Tr w0 F L) :=
  ⟨hok, fun w hw => by obtain ⟨g, hg⟩ := row_pos' (hw.sat _ hm) h0; exact (h g hg).2 w hw⟩
theorem Yl.remN {a c : Int} {m n : Nat} (hx : e.ev x = iv a) (hy : e.ev y = iv c) (ha : a = (m : Int)) (hb : c = (n : Int)) (hn : 0 < n) : Yl P S e ⟨d, .binOp .rem t x y yt, ty, pos, aft, g⟩ (iv ((m % n : Nat) : Int)) := by
  subst ha; subst hb
  exact Yl.rem hx hy (by omega) (by omega)
theorem Yl.toIk {a : Int} (hs : P.underlying sT = some (.int j)) (hd : P.underlying dT = some (.int .i64)) (hx : e.ev x = .int j a) (h1 : -9223372036854775808 ≤ a) (h2 : a ≤ 9223372036854775807) : Yl P S e ⟨d, .convert sT dT x, ty, pos, aft, g⟩ (iv a) := fun w _ => by
  simp only [execOp, hx, convert, Sem.run_bind, run_underlying hs, run_underlying hd, Result.andThen_ok, Conv.intToInt, wrap_i64 _ h1 h2, Sem.run_pure]
/-! #### strings -/
def str (xs : List (BitVec 8)) : ByteArray := ⟨(xs.map UInt8.ofBitVec).toArray⟩
theorem str_inj {xs ys : List (BitVec 8)} : ((str xs).toList == (str ys).toList) = decide (xs = ys) := by
  rw [ByteArray.toList_eq, ByteArray.toList_eq]
  simp only [str]
  have : (List.map UInt8.ofBitVec xs == List.map UInt8.ofBitVec ys) = decide (xs = ys) := by
    rw [Bool.eq_iff_iff, beq_iff_eq, decide_eq_true_iff]
    constructor
    · intro h
      have := congrArg (List.map UInt8.toBitVec) h
      simpa [List.map_map, Function.comp_def] using this
    · rintro rfl; rfl
  simpa using this
theorem str_fold (xs : List (BitVec 8)) (acc : ByteArray) : (xs.map fun b => (b.toNat : Int)).foldl (fun r n => r.push (UInt8.ofNat n.toNat)) acc = ⟨acc.data ++ (xs.map UInt8.ofBitVec).toArray⟩ := by
  induction xs generalizing acc with
  | nil => simp
  | cons x xs ih =>
    rw [List.map_cons, List.foldl_cons, ih]
    have : UInt8.ofNat ((x.toNat : Int)).toNat = UInt8.ofBitVec x := by
      apply UInt8.toBitVec_inj.1
      apply BitVec.eq_of_toNat_eq
      simp
    rw [this]
    congr 1
    simp only [ByteArray.push, List.map_cons]
    apply Array.ext'
    simp
theorem Yl.toStr {xs : List (BitVec 8)} (hs : P.underlying sT = some (.slice elem)) (he : P.underlying elem = some (.int .u8)) (hd : P.underlying dT = some .string) (hx : e.ev x = .slice A ln cap) (hr : RdS w0 F L A (xs.map u8)) (hl : ln = xs.length) :
    Yl P (Tr w0 F L) e ⟨d, .convert sT dT x, ty, pos, aft, g⟩ (.string (str xs)) := fun w hw => by
  subst hl
  have hmain : (Conv.bytesToString (.slice A xs.length cap)).run P w = .ok (.string (str xs)) w := by
    cases hA : A with
    | none =>
      have h0 : xs = [] := by
        cases xs with
        | nil => rfl
        | cons a l =>
          obtain ⟨b, o, h1, _⟩ := hr w hw 0 (u8 a) rfl
          rw [hA] at h1; cases h1
      subst h0
      rfl
    | some a =>
      have hc := hr.cells (P := P) (sz := 1) (n := xs.length) hw (by simp) 0 0
      rw [hA] at hc
      simp only [Builtin.firstCells, Nat.mul_one] at hc
      have hm : (xs.map u8) = (xs.map fun b => (b.toNat : Int)).map (Value.int .u8) := by rw [List.map_map]; rfl
      rw [hm] at hc
      rw [run_bytesToString w a xs.length cap _ hc, str_fold]
      congr 2
      simp only [str]
      congr 1
      simp
  simp only [execOp, hx, Sem.run_bind, run_convert_bytes_string w sT dT elem A xs.length cap hs he hd, hmain, Result.andThen_ok, Sem.run_pure]
theorem run_eqStr (hu : P.underlying t = some .string) (a c : ByteArray) (w : World) : (Op.equal t (.string a) (.string c)).run P w = .ok (a == c) w := by
  unfold Op.equal
  rw [show Op.maxDepth = 9999 + 1 from rfl]
  unfold Op.equalIn
  simp only [Sem.run_bind, run_underlying hu, Result.andThen_ok]
  rfl
theorem run_eqGuard_str (op : BinOp) (a c : ByteArray) (w : World) : (eqGuard op t x y (.string a) (.string c)).run P w = .ok () w := by
  unfold eqGuard
  cases op <;> rfl
theorem Yl.eqStr {as bs : List (BitVec 8)} (hu : P.underlying t = some .string) (hx : e.ev x = .string (str as)) (hy : e.ev y = .string (str bs)) : Yl P S e ⟨d, .binOp .eql t x y yt, ty, pos, aft, g⟩ (.bool (decide (as = bs))) := fun w _ => by
  simp only [execOp, hx, hy, Sem.run_bind, run_eqGuard_str, Result.andThen_ok]
  simp [binOp, Op.stringOp, run_eqStr hu, str_inj]
theorem Yl.neStr {as bs : List (BitVec 8)} (hu : P.underlying t = some .string) (hx : e.ev x = .string (str as)) (hy : e.ev y = .string (str bs)) : Yl P S e ⟨d, .binOp .neq t x y yt, ty, pos, aft, g⟩ (.bool (decide (as ≠ bs))) := fun w _ => by
  simp only [execOp, hx, hy, Sem.run_bind, run_eqGuard_str, Result.andThen_ok]
  simp [binOp, Op.stringOp, run_eqStr hu, str_inj]
/-! #### arrays of bytes against each other -/
theorem all_eq {xs ys : List (BitVec 8)} {N : Nat} (hx : xs.length = N) (hy : ys.length = N) : ((List.range' 0 N 1).all fun i => xs.getD i default == ys.getD i default) = decide (xs = ys) := by
  rw [Bool.eq_iff_iff, decide_eq_true_iff, List.all_eq_true]
  constructor
  · intro h
    apply List.ext_getElem (by omega)
    intro i h1 h2
    have := h i (by rw [List.mem_range'_1]; omega)
    simpa [h1, h2] using this
  · rintro rfl i _; simp
theorem run_eqArr8 {N : Nat} (hu : P.underlying t = some (.array N elem)) (he : P.underlying elem = some (.int .u8)) (hs : SizeOf P elem 1) (hT : NoAgg P elem) {xs ys : List (BitVec 8)} (hx : xs.length = N) (hy : ys.length = N) (w : World) :
    (Op.equalIn 10000 t (.agg (xs.map u8).toArray) (.agg (ys.map u8).toArray)).run P w = .ok (decide (xs = ys)) w := by
  rw [show 10000 = 9998 + 1 + 1 from rfl]
  unfold Op.equalIn
  simp only [Sem.run_bind, run_underlying hu, Result.andThen_ok, run_sizeOf hs, Nat.mul_one, Std.Legacy.Range.forIn_eq_forIn_range', Std.Legacy.Range.size, Nat.sub_zero, Nat.add_sub_cancel, Nat.div_one]
  rw [← all_eq hx hy]
  have key : ∀ l : List Nat, (∀ i ∈ l, i < N) → (forIn l ((none : Option Bool), ()) fun i __s => do
            let __do_lift ← part elem (xs.map u8).toArray i
            let __do_lift_1 ← part elem (ys.map u8).toArray i
            let __do_lift ← Op.equalIn (9998 + 1) elem __do_lift __do_lift_1
            if (!__do_lift) = true then pure (ForInStep.done (some false, ())) else pure (ForInStep.yield (none, ()))).run P w = .ok (if (l.all fun i => xs.getD i default == ys.getD i default) then (none, ()) else (some false, ())) w := by
    intro l
    induction l with
    | nil => intro _; simp
    | cons i l ih =>
      intro hl
      have hi := hl i List.mem_cons_self
      have e1 : (part elem (xs.map u8).toArray i).run P w = .ok (u8 (xs.getD i default)) w := by
        simp only [part, Sem.run_bind, run_isAgg_no hT, Result.andThen_ok, Bool.false_eq_true, if_false, List.getElem?_toArray, getmap (f := u8) (xs := xs) (i := i) (by omega), Sem.run_pure]
      have e2 : (part elem (ys.map u8).toArray i).run P w = .ok (u8 (ys.getD i default)) w := by
        simp only [part, Sem.run_bind, run_isAgg_no hT, Result.andThen_ok, Bool.false_eq_true, if_false, List.getElem?_toArray, getmap (f := u8) (xs := ys) (i := i) (by omega), Sem.run_pure]
      have e4 : (((xs.getD i default).toNat : Int) == ((ys.getD i default).toNat : Int)) = (xs.getD i default == ys.getD i default) := by
        rw [Bool.eq_iff_iff, beq_iff_eq, beq_iff_eq, Int.ofNat_inj, BitVec.toNat_inj]
      have e3 : (Op.equalIn (9998 + 1) elem (u8 (xs.getD i default)) (u8 (ys.getD i default))).run P w = .ok (xs.getD i default == ys.getD i default) w := by
        rw [run_equalIn_int w 9998 elem .u8 .u8 _ _ he, e4]
      rw [List.forIn_cons]
      simp only [Sem.run_bind, e1, e2, e3, Result.andThen_ok, List.all_cons]
      have hbb : ∀ c : Bool, c = false ∨ c = true := by decide
      rcases hbb (xs.getD i default == ys.getD i default) with hb | hb
      · simp only [hb]; simp
      · simp only [hb, Bool.not_true, Bool.false_eq_true, if_false, Sem.run_pure, Result.andThen_ok, Bool.true_and]
        exact ih (fun j hj => hl j (List.mem_cons_of_mem _ hj))
  rw [key _ (fun i hi => by rw [List.mem_range'_1] at hi; omega)]
  simp only [Result.andThen_ok]
  cases (List.range' 0 N 1).all fun i => xs.getD i default == ys.getD i default <;> simp
theorem Yl.eqArr8 {N : Nat} {xs ys : List (BitVec 8)} (hu : P.underlying t = some (.array N elem)) (he : P.underlying elem = some (.int .u8)) (hs : SizeOf P elem 1) (hT : NoAgg P elem) (hg : P.eqGuardType P.depth t = false) (hx : e.ev x = .agg (xs.map u8).toArray) (hy : e.ev y = .agg (ys.map u8).toArray) (hxl : xs.length = N) (hyl : ys.length = N) :
    Yl P S e ⟨d, .binOp .eql t x y yt, ty, pos, aft, g⟩ (.bool (decide (xs = ys))) := fun w _ => by
  have h1 : (eqGuard .eql t x y (.agg (xs.map u8).toArray) (.agg (ys.map u8).toArray)).run P w = .ok () w := by
    unfold eqGuard
    simp [hg]
  simp only [execOp, hx, hy, Sem.run_bind, h1, Result.andThen_ok, run_eql_struct, run_eqArr8 hu he hs hT hxl hyl, Sem.run_pure]
end
end Go.Eng

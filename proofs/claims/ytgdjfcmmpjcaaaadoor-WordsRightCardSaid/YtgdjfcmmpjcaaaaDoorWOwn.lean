/-
  This session's own words for the walks: a scope with one label that is jumped back to, walked like a loop; what holds of the world all along (the cell of one package variable); and small bridges.
-/
import Derived.ScopeJumps
import Derived.WalkMore
import Derived.Deep.LoopGhost
import Derived.Test.YtgdjfcmmpjcaaaaDoorWMore
namespace Go.Proofs.YtgdjfcmmpjcaaaaDoorW.Own
open Go Go.RowKit Go.Proofs.YtgdjfcmmpjcaaaaDoorW.PrintWords Go.Proofs.YtgdjfcmmpjcaaaaDoorW.PrintLast

section
variable {P : Program} {Q : Exit → Act → World → Prop} {a : Act} {w : World}
@[go_sem] theorem jump_normal (l : Nat) (J : Act → World → Prop) : Exit.jump l J Q .normal a w = Q .normal a w := rfl
@[go_sem] theorem jump_exit (l : Nat) (J : Act → World → Prop) (id : Nat) : Exit.jump l J Q (.exit id) a w = Q (.exit id) a w := rfl
@[go_sem] theorem jump_ret (l : Nat) (J : Act → World → Prop) : Exit.jump l J Q .ret a w = Q .ret a w := rfl
@[go_sem] theorem jump_panic (l : Nat) (J : Act → World → Prop) (ch : List PanicEntry) : Exit.jump l J Q (.panic ch) a w = Q (.panic ch) a w := rfl

/-- At a label: a relation that bears a number holds here, and each way back to the label hands it on at a smaller number. -/
def LoopAt (P : Program) (l : Nat) (rest : Code) (Q : Exit → Act → World → Prop) (a : Act) (w : World) : Prop :=
  ∃ (I : Nat → Act → World → Prop) (n₀ : Nat), I n₀ a w ∧ ∀ n a w, I n a w → rest.wp P (Exit.jump l (fun a' w' => ∃ n', n' < n ∧ I n' a' w') Q) a w

theorem LoopAt.round {l : Nat} {rest : Code} (h : LoopAt P l rest Q a w) : rest.wp P (Exit.jump l (LoopAt P l rest Q) Q) a w := by
  obtain ⟨I, n₀, h0, hr⟩ := h
  refine wp_mono (hr n₀ a w h0) ?_
  intro e a' w' hq
  cases e with
  | goto l' =>
    obtain ⟨hl, n', _, hI⟩ := hq
    exact ⟨hl, I, n', hI, hr⟩
  | normal => exact hq
  | exit id => exact hq
  | ret => exact hq
  | panic ch => exact hq
  | outgrown => exact hq

theorem wp_at_label {l : Nat} {rest : Code} (h : LoopAt P l rest Q a w) : rest.wp P (Exit.jump l (LoopAt P l rest Q) Q) a w := h.round

theorem wp_scope_loop {c rest : Code} (l : Nat) (hf : findLabel c l = some (.seq .skip rest)) (first : c.wp P (Exit.jump l (LoopAt P l rest Q) Q) a w) : (Code.scope c).wp P Q a w := by
  intro b k cs
  have hg : gotoIn l (.inScope c :: k) = some (.code (.seq .skip rest) :: .inScope c :: k) := by simp [gotoIn, hf]
  have key : ∀ (I : Nat → Act → World → Prop), (∀ n a w, I n a w → rest.wp P (Exit.jump l (fun a' w' => ∃ n', n' < n ∧ I n' a' w') Q) a w) → ∀ n a w, I n a w → ∃ e a' w', Q e a' w' ∧ Arrives P (lone (b.at a (.code (.seq .skip rest) :: .inScope c :: k)) cs w) b k cs e a' w' := by
    intro I pass n
    induction n using Nat.strongRecOn with
    | _ n ih =>
      intro a w hI
      obtain ⟨e, a₁, w₁, hq, harr⟩ := (wp_seq (wp_skip (pass n a w hI)) : (Code.seq .skip rest).wp P _ a w) b (.inScope c :: k) cs
      cases e with
      | normal => exact ⟨.normal, a₁, w₁, hq, Steps.trans harr (.one step_inScope)⟩
      | exit id => exact ⟨.exit id, a₁, w₁, hq, fun k' hk => harr k' (by simp [exitTo, hk])⟩
      | goto l' =>
        obtain ⟨rfl, n', hlt, hI'⟩ := hq
        obtain ⟨e₂, a₂, w₂, hq₂, harr₂⟩ := ih n' hlt a₁ w₁ hI'
        exact ⟨e₂, a₂, w₂, hq₂, .of_steps (harr _ hg) harr₂⟩
      | ret => exact ⟨_, a₁, w₁, hq, harr⟩
      | panic ch => exact ⟨_, a₁, w₁, hq, harr⟩
      | outgrown => exact ⟨_, a₁, w₁, hq, harr⟩
  obtain ⟨e, a₁, w₁, hq, harr⟩ := first b (.inScope c :: k) cs
  cases e with
  | normal => exact ⟨.normal, a₁, w₁, hq, .head step_scope (Steps.trans harr (.one step_inScope))⟩
  | exit id => exact ⟨.exit id, a₁, w₁, hq, fun k' hk => .head step_scope (harr k' (by simp [exitTo, hk]))⟩
  | goto l' =>
    obtain ⟨rfl, I, n₀, h0, hr⟩ := hq
    obtain ⟨e₂, a₂, w₂, hq₂, harr₂⟩ := key I hr n₀ a₁ w₁ h0
    exact ⟨e₂, a₂, w₂, hq₂, .of_steps (.head step_scope (harr _ hg)) harr₂⟩
  | ret => exact ⟨_, a₁, w₁, hq, .of_steps (.one step_scope) harr⟩
  | panic ch => exact ⟨_, a₁, w₁, hq, .of_steps (.one step_scope) harr⟩
  | outgrown => exact ⟨_, a₁, w₁, hq, .of_steps (.one step_scope) harr⟩

/-- As the walk wants it: what a round hands on, and the relation, stand behind variables. -/
theorem LoopAt.intro {l : Nat} {rest : Code} (I : Act → Nat → Act → World → Prop) (n₀ : Nat) (h₀ : I a n₀ a w)
    (round : ∀ n a' w', I a n a' w' → ∀ (J : Nat → Act → World → Prop) (K : Act → World → Prop), (∀ k a' w', I a k a' w' → J k a' w') → (∀ a' w', Handed J n a' w' → K a' w') → rest.wp P (Exit.jump l K Q) a' w') : LoopAt P l rest Q a w :=
  ⟨I a, n₀, h₀, fun n a' w' hI => round n a' w' hI (I a) _ (fun _ _ _ q => q) (fun _ _ q => q)⟩
theorem wp_jump {l : Nat} {K : Act → World → Prop} (h : K a w) : (Code.goto l).wp P (Exit.jump l K Q) a w := wp_goto ⟨rfl, h⟩
end

theorem toList_loop (b : ByteArray) (n : Nat) : ∀ (i : Nat) (r : List UInt8), n = b.size - i → ByteArray.toList.loop b i r = r.reverse ++ b.data.toList.drop i := by
  have hsz : b.data.toList.length = b.size := by rw [Array.length_toList]; rfl
  induction n with
  | zero =>
    intro i r hn
    rw [ByteArray.toList.loop]
    rw [if_neg (by omega), List.drop_eq_nil_of_le (by omega), List.append_nil]
  | succ n ih =>
    intro i r hn
    have hlt : i < b.data.toList.length := by omega
    have hlt' : i < b.data.size := by rw [Array.length_toList] at hlt; exact hlt
    rw [ByteArray.toList.loop]
    rw [if_pos (by omega), ih (i + 1) _ (by omega), List.drop_eq_getElem_cons hlt, List.reverse_cons, List.append_assoc, List.singleton_append]
    have e : b.get! i = b.data.toList[i] := by
      show b.data[i]! = _
      rw [getElem!_pos b.data i hlt', Array.getElem_toList]
    rw [e]
theorem toList_data (b : ByteArray) : b.toList = b.data.toList := by
  rw [ByteArray.toList, toList_loop b _ 0 [] rfl]
  rfl
theorem toList_lit (l : List UInt8) : (⟨l.toArray⟩ : ByteArray).toList = l := by rw [toList_data]

section
variable {P : Program} {ops : Array Oper} {Q : Exit → Act → World → Prop}
/-- As 'goes_', the callee a slot that holds a function. -/
theorem goesV_ {oi : Oper} {N : Option Tmp} {a : Act} {w : World} {K : Act → World → Prop} {f : FuncId} {fn : Func} {as : Array Operand} {ts : Array TypeId} {v : Operand} (hf : P.funcs[f]? = some fn) (hname : (fn.name == "runtime.NumGoroutine") = false) (hb : fn.body.isSome = true) (args : Array Value)
    (hw : Region.wanted oi (yielded ops a.tmps) = true) (hN : oi.dst = N) (hop : oi.op = .call { callee := .value v, args := as, argTypes := ts }) (hv : a.eval v = .func (.func f) #[] #[]) (hargs : as.map a.eval = args)
    (h : Calls P f args w fun e w' => ∃ v, e = .returned v ∧ K (a.put N v) w') : if Region.wanted oi (yielded ops a.tmps) = true then Oper.wp P oi a w K Q else K (a.put N undef) w := by
  refine call_ f args hw hN ?_ h
  have he := enters_ hf hname hb args w
  unfold execOp
  simp [hop, resolve, Deferred.ofValue, invoke, hv, hargs, he]
end

/-- What the walks use of the world all along: block 0 begins with a whole number (a package variable of Go's library that may hold any). -/
def Glob (w : World) : Prop := ∃ m : Int, w.cell? ⟨0, 0, none⟩ = some (.int .i64 m)
theorem Glob.lt {w : World} (h : Glob w) : 0 < w.heap.size := by
  obtain ⟨m, hm⟩ := h
  rcases Nat.eq_zero_or_pos w.heap.size with h0 | h0
  · simp [World.cell?, Array.getElem?_eq_none (show w.heap.size ≤ 0 by omega)] at hm
  · exact h0
theorem Glob.below {w w' : World} (h : Glob w) {B : Nat} (hb : Below B w w') (hB : 0 < B) : Glob w' := by
  obtain ⟨m, hm⟩ := h
  exact ⟨m, by rw [hb.cell hB]; exact hm⟩
theorem Glob.step {w w' : World} (h : Glob w) (hb : Below w.heap.size w w') : Glob w' := h.below hb h.lt
theorem Glob.drawn {w w' : World} (h : Glob w) (hd : Drawn0 w w') : Glob w' := h.step hd.below
theorem isEmpty_bne (l : List UInt8) : l.isEmpty = !(l != []) := by cases l <;> rfl
end Go.Proofs.YtgdjfcmmpjcaaaaDoorW.Own

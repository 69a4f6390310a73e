/-
  A region that draws its order of evaluation, walked in the order of its text: if every two operations that the edges leave unordered commute for a reason that can be read off the text, then what holds of the text's order holds of every order. Generic: no program in sight.
-/
import Derived.WalkKit
import Derived.Orders
set_option linter.unusedVariables false
set_option linter.unusedSimpArgs false
namespace Go.Gx

/-! ### Runs that do not hang on the world -/
def WL (P : Program) {α : Type} (s : Sem α) : Prop := (∃ v, ∀ w, s.run P w = .ok v w) ∨ (∀ w, ∃ h w', s.run P w = .halt h w')
/-- a run that ends in a halt, whatever the world -/
def AH (P : Program) {α : Type} (s : Sem α) : Prop := ∀ w, ∃ h w', s.run P w = .halt h w'
section
variable {P : Program} {α β : Type}
theorem WL.pure (a : α) : WL P (Pure.pure a : Sem α) := .inl ⟨a, fun _ => rfl⟩
theorem WL.pure' (a : α) : WL P (Sem.pure a) := .inl ⟨a, fun _ => rfl⟩
theorem AH.halt (h : Halt) : AH P (Sem.halt h : Sem α) := fun w => ⟨h, w, rfl⟩
theorem WL.halt (h : Halt) : WL P (Sem.halt h : Sem α) := .inr (AH.halt h)
theorem WL.ah {s : Sem α} (h : AH P s) : WL P s := .inr h
theorem WL.bind {s : Sem α} {f : α → Sem β} (h : WL P s) (k : ∀ v, WL P (f v)) : WL P (s >>= f) := by
  rcases h with ⟨v, hv⟩ | hh
  · rcases k v with ⟨u, hu⟩ | hu
    · exact .inl ⟨u, fun w => by simp [hv, hu]⟩
    · exact .inr fun w => by obtain ⟨x, w', e⟩ := hu w; exact ⟨x, w', by simp [hv, e]⟩
  · exact .inr fun w => by obtain ⟨x, w', e⟩ := hh w; exact ⟨x, w', by simp [e]⟩
theorem AH.bindL {s : Sem α} {f : α → Sem β} (h : AH P s) : AH P (s >>= f) := fun w => by obtain ⟨x, w', e⟩ := h w; exact ⟨x, w', by simp [e]⟩
theorem AH.bindR {s : Sem α} {f : α → Sem β} (k : ∀ v, AH P (f v)) : AH P (s >>= f) := fun w => by
  rw [Sem.run_bind]
  cases h : s.run P w with
  | ok v w' => obtain ⟨x, w'', e⟩ := k v w'; exact ⟨x, w'', by simp [e]⟩
  | halt x w' => exact ⟨x, w', rfl⟩
theorem WL.program (f : Program → Sem β) (k : ∀ p, WL P (f p)) : WL P (Go.program >>= f) := WL.bind (.inl ⟨P, fun _ => rfl⟩) k
theorem WL.ite {c : Prop} [Decidable c] {a b : Sem α} (h : WL P a) (h' : WL P b) : WL P (if c then a else b) := by split <;> assumption
theorem WL.stuck (why : String) : WL P (Go.stuck why : Sem α) := WL.halt _
theorem WL.unsupported (u : Unsupported) : WL P (Go.unsupported u : Sem α) := WL.halt _
theorem WL.underlying (t : TypeId) : WL P (Go.underlying t) := by
  unfold Go.underlying; exact WL.program _ fun p => by split <;> first | exact WL.pure _ | exact WL.stuck _
theorem WL.typeInfo (t : TypeId) : WL P (Go.typeInfo t) := by
  unfold Go.typeInfo; exact WL.program _ fun p => by split <;> first | exact WL.pure _ | exact WL.stuck _
theorem WL.sizeOf (t : TypeId) : WL P (Go.sizeOf t) := by unfold Go.sizeOf; exact WL.bind (WL.typeInfo t) fun _ => WL.pure _
theorem WL.zeroValue (t : TypeId) : WL P (Go.zeroValue t) := by
  unfold Go.zeroValue; exact WL.bind (WL.typeInfo t) fun _ => by split <;> first | exact WL.pure _ | exact WL.unsupported _
theorem WL.isAgg (t : TypeId) : WL P (Go.isAgg t) := by
  unfold Go.isAgg; exact WL.bind (WL.underlying t) fun _ => by split <;> exact WL.pure _
theorem WL.part (t : TypeId) (cs : Array Value) (off : Nat) : WL P (Go.part t cs off) := by
  unfold Go.part
  refine WL.bind (WL.isAgg t) fun b => ?_
  split
  · exact WL.bind (WL.sizeOf t) fun _ => WL.pure _
  · split <;> first | exact WL.pure _ | exact WL.stuck _
theorem WL.asIntOf (v : Value) : WL P (Go.asIntOf v) := by unfold Go.asIntOf; split <;> first | exact WL.pure _ | exact WL.unsupported _ | exact WL.stuck _
theorem WL.asBool (v : Value) : WL P (Go.asBool v) := by unfold Go.asBool; split <;> first | exact WL.pure _ | exact WL.stuck _
theorem WL.asAgg (v : Value) : WL P (Go.asAgg v) := by unfold Go.asAgg; split <;> first | exact WL.pure _ | exact WL.stuck _
theorem AH.goPanic (v : Value) : AH P (Go.goPanic v : Sem α) := AH.halt _
theorem AH.runtimePanic (e : RuntimeError) : AH P (Go.runtimePanic e : Sem α) := by
  unfold Go.runtimePanic
  refine AH.bindR fun p => ?_
  cases e <;> first
    | exact AH.goPanic _
    | exact AH.bindR fun _ => AH.bindR fun _ => AH.goPanic _
theorem AH.boundsPanic (k : IntKind) (x y : Int) (c : BoundsCode) : AH P (Go.boundsPanic k x y c : Sem α) := by
  unfold Go.boundsPanic
  dsimp only
  split
  · exact AH.bindR fun _ => AH.runtimePanic _
  · exact AH.bindR fun _ => AH.runtimePanic _
theorem WL.asAddr (v : Value) : WL P (Go.asAddr v) := by unfold Go.asAddr; split <;> first | exact WL.pure _ | exact WL.ah (AH.runtimePanic _) | exact WL.stuck _
theorem WL.sureAddr (v : Value) : WL P (Go.Instr.sureAddr v) := by unfold Go.Instr.sureAddr; split <;> first | exact WL.pure _ | exact WL.stuck _
theorem WL.sliceBound (x : Value) (y : Nat) (c : BoundsCode) : WL P (Go.Instr.sliceBound x y c) := by
  unfold Go.Instr.sliceBound
  refine WL.bind (WL.asIntOf x) fun r => ?_
  split
  split
  · exact WL.pure _
  · exact WL.ah (AH.boundsPanic _ _ _ _)
theorem WL.sliceBounds (b : Bool) (n c : Nat) (lo hi mx : Option Value) : WL P (Go.Instr.sliceBounds b n c lo hi mx) := by
  unfold Go.Instr.sliceBounds
  cases lo <;> cases hi <;> cases mx <;> simp only [Option.isSome]
  all_goals repeat' (first | exact WL.pure _ | exact WL.stuck _ | exact WL.sliceBound _ _ _ | refine WL.bind ?_ fun _ => ?_ | exact WL.ah (AH.bindL (AH.halt _)))
end

/-! ### Which operations -/
/-- a value whose comparison hangs on no world -/
def flatC : Value → Bool
  | .int .. | .bool _ | .string _ => true
  | _ => false
def plainV : Value → Bool
  | .int .. | .bool _ | .string _ | .tuple _ => true
  | .agg xs => xs.all flatC
  | _ => false
def plainOp : Operand → Bool
  | .tmp _ => true
  | .const v => plainV v
  | _ => false
/-- a constant nil -/
def nilOp : Operand → Bool
  | .const (.pointer none) | .const (.slice none _ _) | .const (.map none) => true
  | _ => false
def fieldSized (P : Program) (s : TypeId) (f : Nat) : Bool :=
  match P.underlying s with
  | some (.struct fs) => match fs[f]? with
    | some fd => match P.info? fd.type with
      | some i => i.size != 0
      | none => true
    | none => true
  | _ => true
def lenPlain (P : Program) (t : TypeId) : Bool :=
  match P.underlying t with
  | some .string | some (.slice _) | some (.array ..) => true
  | _ => false
def intTy (P : Program) (t : TypeId) : Bool := match P.underlying t with | some (.int _) => true | _ => false
theorem intTy_some {P : Program} {t : TypeId} (h : intTy P t = true) : ∃ k, P.underlying t = some (.int k) := by
  unfold intTy at h
  split at h
  · exact ⟨_, by assumption⟩
  · cases h
/-- operations whose run does not hang on the world (a binary operation: where its operands are plain) -/
def pureB (P : Program) : Op → Bool
  | .move _ | .assign _ | .pick .. | .nilCheck _ | .indexAddr .. | .index .. | .field .. | .extract .. | .slice .. | .unOp .. | .build .. => true
  | .fieldAddr s _ f => fieldSized P s f
  | .convert t u x => plainOp x && intTy P t && intTy P u
  | .binOp op _ x y _ => (plainOp x && plainOp y) || ((match op with | .eql | .neq => true | _ => false) && nilOp y)
  | .call { callee := .builtin .len, argTypes, .. } => match argTypes[0]? with | some t => lenPlain P t | none => false
  | _ => false
def loadB : Op → Bool
  | .load .. => true
  | _ => false
/-- the slots that must hold something plain -/
def plainSlots (o : Oper) : List Nat :=
  match o.op with
  | .binOp _ _ x y _ => if nilOp y then [] else (match x with | .tmp t => [t] | _ => []) ++ (match y with | .tmp t => [t] | _ => [])
  | .convert _ _ x => (match x with | .tmp t => [t] | _ => [])
  | _ => []
def selB : Op → Bool
  | .select .. => true
  | _ => false

def WLx (P : Program) (s : Sem Next) : Prop := (∃ v, ∀ w, s.run P w = .ok (.value v) w) ∨ (∀ w, ∃ h w', s.run P w = .halt h w')
theorem WLx.of {P : Program} {s : Sem Value} (h : WL P s) : WLx P (s >>= fun v => Pure.pure (Next.value v)) := by
  rcases h with ⟨v, hv⟩ | hh
  · exact .inl ⟨v, fun w => by simp [hv]⟩
  · exact .inr fun w => by obtain ⟨x, w', e⟩ := hh w; exact ⟨x, w', by simp [e]⟩
theorem WLx.pure {P : Program} (v : Value) : WLx P (Pure.pure (Next.value v)) := .inl ⟨v, fun _ => rfl⟩

theorem WL.followBlind {P : Program} : ∀ (l : List FieldStep) (t : TypeId) (x : Option Value), WL P (Go.followBlind l t x)
  | [], t, x => WL.pure _
  | s :: rest, t, x => by
    unfold Go.followBlind
    refine WL.bind (WL.underlying _) fun d => ?_
    repeat' (first | exact WL.pure _ | exact WL.stuck _ | exact WL.followBlind _ _ _ | refine WL.bind (WL.part _ _ _) fun _ => ?_ | split)
theorem WL.nilAhead {P : Program} : ∀ (n : Nat) (t : TypeId) (v : Value) (s : String), WL P (Go.nilAhead n t v s)
  | 0, t, v, s => WL.pure _
  | n + 1, t, v, s => by
    unfold Go.nilAhead
    refine WL.bind (WL.typeInfo _) fun d => ?_
    split
    · refine WL.bind (WL.followBlind _ _ _) fun r => ?_
      repeat' (first | exact WL.pure _ | exact WL.stuck _ | exact WL.nilAhead _ _ _ _ | refine WL.bind (WL.underlying _) fun _ => ?_ | split)
    · exact WL.stuck _

theorem WL.intBits {P : Program} (op : BinOp) (k : IntKind) (x y : Int) : WL P (Op.intBits op k x y) := by unfold Op.intBits; split <;> first | exact WL.pure _ | exact WL.stuck _
theorem WL.intCmp {P : Program} (op : BinOp) (x y : Int) : WL P (Op.intCmp op x y) := by unfold Op.intCmp; split <;> first | exact WL.pure _ | exact WL.stuck _
theorem WL.intArith {P : Program} (op : BinOp) (k : IntKind) (x y : Int) : WL P (Op.intArith op k x y) := by unfold Op.intArith; split <;> first | exact WL.pure _ | exact WL.stuck _
theorem WL.intDiv {P : Program} (op : BinOp) (k : IntKind) (x y : Int) : WL P (Op.intDiv op k x y) := by
  unfold Op.intDiv; repeat' (first | exact WL.pure _ | exact WL.stuck _ | exact WL.ah (AH.runtimePanic _) | split)
theorem WL.shift {P : Program} (op : BinOp) (k : IntKind) (x : Int) (l : IntKind) (y : Int) : WL P (Op.shift op k x l y) := by
  unfold Op.shift; repeat' (first | exact WL.pure _ | exact WL.stuck _ | exact WL.ah (AH.runtimePanic _) | exact WL.ah (AH.bindL (AH.runtimePanic _)) | refine WL.bind ?_ fun _ => ?_ | split)
theorem WL.stringOp {P : Program} (op : BinOp) (x y : ByteArray) : WL P (Op.stringOp op x y) := by
  unfold Op.stringOp; repeat' (first | exact WL.pure _ | exact WL.stuck _ | exact WL.unsupported _ | split)
theorem WL.unary {P : Program} (op : UnOp) (x : Value) : WL P (Op.unary op x) := by
  unfold Op.unary; split <;> first | exact WL.intArith _ _ _ _ | exact WL.intBits _ _ _ _ | exact WL.pure _ | exact WL.unsupported _ | exact WL.stuck _

theorem flatC_plain {v : Value} (h : flatC v = true) : plainV v = true := by cases v <;> simp_all [flatC, plainV]
def WLp (P : Program) {α : Type} (p : α → Prop) (s : Sem α) : Prop := (∃ v, p v ∧ ∀ w, s.run P w = .ok v w) ∨ (∀ w, ∃ h w', s.run P w = .halt h w')
theorem WLp.pure {P : Program} {α : Type} {p : α → Prop} {a : α} (h : p a) : WLp P p (Pure.pure a : Sem α) := .inl ⟨a, h, fun _ => rfl⟩
theorem WLp.bind {P : Program} {α β : Type} {p : α → Prop} {s : Sem α} {f : α → Sem β} (h : WLp P p s) (k : ∀ v, p v → WL P (f v)) : WL P (s >>= f) := by
  rcases h with ⟨v, hp, hv⟩ | hh
  · rcases k v hp with ⟨u, hu⟩ | hu
    · exact .inl ⟨u, fun w => by simp [hv, hu]⟩
    · exact .inr fun w => by obtain ⟨x, w', e⟩ := hu w; exact ⟨x, w', by simp [hv, e]⟩
  · exact .inr (AH.bindL hh)
theorem WLp.bind' {P : Program} {α β : Type} {p : β → Prop} {s : Sem α} {f : α → Sem β} (h : WL P s) (k : ∀ v, WLp P p (f v)) : WLp P p (s >>= f) := by
  rcases h with ⟨v, hv⟩ | hh
  · rcases k v with ⟨u, hp, hu⟩ | hu
    · exact .inl ⟨u, hp, fun w => by simp [hv, hu]⟩
    · exact .inr fun w => by obtain ⟨x, w', e⟩ := hu w; exact ⟨x, w', by simp [hv, e]⟩
  · exact .inr (AH.bindL hh)
theorem WLp.part {P : Program} (t : TypeId) (cs : Array Value) (off : Nat) (h : cs.all flatC = true) : WLp P (fun v => plainV v = true) (Go.part t cs off) := by
  unfold Go.part
  refine WLp.bind' (WL.isAgg t) fun b => ?_
  split
  · refine WLp.bind' (WL.sizeOf t) fun n => WLp.pure ?_
    simp only [plainV, Array.all_eq_true] at h ⊢
    intro i hi
    simp only [Array.getElem_extract]
    exact h _ _
  · split
    · rename_i v hv
      refine WLp.pure (flatC_plain ?_)
      obtain ⟨hi, rfl⟩ := Array.getElem?_eq_some_iff.1 hv
      simp only [Array.all_eq_true] at h
      exact h _ _
    · exact .inr (AH.halt _)
theorem WL.forList {P : Program} {α β : Type} (l : List α) (f : α → β → Sem (ForInStep β)) (hf : ∀ a b, WL P (f a b)) : ∀ b, WL P (forIn l b f) := by
  induction l with
  | nil => intro b; exact WL.pure _
  | cons a l ih =>
    intro b
    rw [List.forIn_cons]
    refine WL.bind (hf a b) fun r => ?_
    cases r
    · exact WL.pure _
    · exact ih _
theorem WL.forArray {P : Program} {α β : Type} (l : Array α) (f : α → β → Sem (ForInStep β)) (hf : ∀ a b, WL P (f a b)) (b : β) : WL P (forIn l b f) := by
  rw [← Array.forIn_toList]; exact WL.forList _ f hf b
theorem WL.forRange {P : Program} {β : Type} (n : Nat) (f : Nat → β → Sem (ForInStep β)) (hf : ∀ a b, WL P (f a b)) (b : β) : WL P (forIn [0:n] b f) := by
  rw [Std.Legacy.Range.forIn_eq_forIn_range']; exact WL.forList _ f hf b
theorem WL.equalIn_plain {P : Program} : ∀ (d : Nat) (t : TypeId) (x y : Value), plainV x = true → plainV y = true → WL P (Op.equalIn d t x y)
  | 0, t, x, y, _, _ => WL.unsupported _
  | d + 1, t, x, y, hx, hy => by
    have arm : ∀ (t : TypeId) (o : Nat) (xs ys : Array Value) (r : Option Bool × Unit), xs.all flatC = true → ys.all flatC = true → WL P (do
        let a ← Go.part t xs o
        let b ← Go.part t ys o
        let e ← Op.equalIn d t a b
        if (!e) = true then Pure.pure (ForInStep.done (some false, ())) else Pure.pure (ForInStep.yield (none, ())) : Sem (ForInStep (Option Bool × Unit))) := fun t o xs ys r hx hy =>
      WLp.bind (WLp.part _ _ _ hx) fun v hv => WLp.bind (WLp.part _ _ _ hy) fun v' hv' => WL.bind (WL.equalIn_plain d _ _ _ hv hv') fun b => by split <;> exact WL.pure _
    unfold Op.equalIn
    refine WL.bind (WL.underlying _) fun u => ?_
    cases x <;> simp only [plainV, Bool.false_eq_true] at hx <;> cases y <;> simp only [plainV, Bool.false_eq_true] at hy <;> cases u <;> simp only [] <;>
      (first
        | exact WL.pure _
        | exact WL.stuck _
        | (split <;> first | exact WL.pure _ | exact WL.stuck _)
        | skip)
    · refine WL.bind (WL.sizeOf _) fun n => WL.bind (WL.forRange _ _ (fun i r => arm _ _ _ _ r hx hy) _) fun r => ?_
      split <;> exact WL.pure _
    · refine WL.program _ fun p => ?_
      split
      · exact WL.ah (AH.bindL (AH.halt _))
      · refine WL.bind (WL.forArray _ _ (fun f r => ?_) _) fun r => ?_
        · split
          · exact arm _ _ _ _ r hx hy
          · exact WL.pure _
        · split <;> exact WL.pure _
theorem WL.eqGuardIn_plain {P : Program} : ∀ (d : Nat) (t : TypeId) (x y : Value), plainV x = true → plainV y = true → WL P (Op.eqGuardIn d t x y)
  | 0, t, x, y, _, _ => WL.unsupported _
  | d + 1, t, x, y, hx, hy => by
    unfold Op.eqGuardIn
    refine WL.bind (WL.underlying _) fun u => ?_
    cases x <;> simp only [plainV, Bool.false_eq_true] at hx <;> cases y <;> simp only [plainV, Bool.false_eq_true] at hy <;> cases u <;> simp only [] <;>
      (first
        | exact WL.pure _
        | (refine WL.bind (WL.forArray _ _ (fun f r => ?_) _) fun r => ?_
           · split
             · exact WLp.bind (WLp.part _ _ _ hx) fun v hv => WLp.bind (WLp.part _ _ _ hy) fun v' hv' => WL.bind (WL.eqGuardIn_plain d _ _ _ hv hv') fun b => by split <;> exact WL.pure _
             · exact WL.pure _
           · split <;> exact WL.pure _)
        | (refine WL.bind (WL.sizeOf _) fun n => ?_
           refine WL.bind (WL.forRange _ _ (fun f r => ?_) _) fun r => ?_
           · exact WLp.bind (WLp.part _ _ _ hx) fun v hv => WLp.bind (WLp.part _ _ _ hy) fun v' hv' => WL.bind (WL.eqGuardIn_plain d _ _ _ hv hv') fun b => by split <;> exact WL.pure _
           · split <;> exact WL.pure _)
        | skip)
theorem WL.equal_plain {P : Program} (t : TypeId) (x y : Value) (hx : plainV x = true) (hy : plainV y = true) : WL P (Op.equal t x y) := by
  unfold Op.equal
  exact WL.equalIn_plain _ _ _ _ hx hy
theorem WL.eqGuard_plain {P : Program} (op : BinOp) (t : TypeId) (x y : Operand) (a b : Value) (ha : (plainV a = true ∧ plainV b = true) ∨ (∃ k, b = .pointer k) ∨ (∃ p n c, b = .slice p n c) ∨ (∃ k, b = .map k)) : WL P (Go.eqGuard op t x y a b) := by
  rcases ha with ⟨ha, hb⟩ | ha
  · have hg := WL.eqGuardIn_plain (P := P) Op.maxDepth t a b ha hb
    have h0 : ∀ s : Sem Unit, s = Pure.pure () → WL P s := fun s e => e ▸ WL.pure _
    have ag : ∀ u (z : Bool), WL P (do if z = true then Pure.pure () else do
        let v ← Op.eqGuardIn Op.maxDepth t a b
        if v = true then Go.unsupported u else Pure.pure () : Sem Unit) := fun u z => by
      split
      · exact WL.pure _
      · refine WL.bind hg fun v => ?_
        split
        · exact WL.unsupported _
        · exact WL.pure _
    cases a <;> simp only [plainV, Bool.false_eq_true] at ha <;> cases b <;> simp only [plainV, Bool.false_eq_true] at hb <;>
      first
        | (refine h0 _ ?_; cases op <;> rfl; done)
        | (cases op <;> first
            | exact h0 _ rfl
            | exact WL.program _ fun p => WL.program _ fun q => ag _ _)
  · have h0 : ∀ s : Sem Unit, s = Pure.pure () → WL P s := fun s e => e ▸ WL.pure _
    apply h0
    rcases ha with ⟨k, rfl⟩ | ⟨p, n, c, rfl⟩ | ⟨k, rfl⟩
    all_goals cases op <;> cases a <;> rfl
theorem WL.binOp_plain {P : Program} (op : BinOp) (t : TypeId) (x y : Value) (hx : plainV x = true) (hy : plainV y = true) : WL P (Go.binOp op t x y) := by
  have he := WL.equal_plain (P := P) t x y hx hy
  cases x <;> simp only [plainV, Bool.false_eq_true] at hx <;> cases y <;> simp only [plainV, Bool.false_eq_true] at hy <;> cases op <;> simp only [Go.binOp] <;>
    repeat' (first | exact WL.pure _ | exact WL.stuck _ | exact WL.shift _ _ _ _ _ | exact WL.intArith _ _ _ _ | exact WL.intDiv _ _ _ _ | exact WL.intBits _ _ _ _ | exact WL.intCmp _ _ _ | exact WL.stringOp _ _ _ | exact he | refine WL.bind he fun _ => ?_ | split)

theorem nilOp_spec {y : Operand} (h : nilOp y = true) : ∃ v, y = .const v ∧ (v = .pointer none ∨ (∃ n c, v = .slice none n c) ∨ v = .map none) := by
  unfold nilOp at h
  split at h <;> first | exact ⟨_, rfl, .inl rfl⟩ | exact ⟨_, rfl, .inr (.inl ⟨_, _, rfl⟩)⟩ | exact ⟨_, rfl, .inr (.inr rfl)⟩ | contradiction
theorem WL.samePointer_none {P : Program} (a : Option Addr) : WL P (Go.samePointer a none) := by
  cases a <;> exact WL.pure _
theorem WL.binOp_nil {P : Program} (op : BinOp) (t : TypeId) (x y : Value) (h : (match op with | .eql | .neq => true | _ => false) = true)
    (hy : y = .pointer none ∨ (∃ n c, y = .slice none n c) ∨ y = .map none) : WL P (Go.binOp op t x y) := by
  have he : WL P (Op.equal t x y) := by
    unfold Op.equal Op.maxDepth
    unfold Op.equalIn
    refine WL.bind (WL.underlying _) fun d => ?_
    rcases hy with rfl | ⟨n, c, rfl⟩ | rfl <;> cases d <;> cases x <;> simp only [] <;>
      repeat' (first | exact WL.pure _ | exact WL.stuck _ | exact WL.unsupported _ | exact WL.samePointer_none _ | contradiction | (injections; done) | (rename_i h1 h2; cases h1; cases h2; exact WL.samePointer_none _) | split)
  rcases hy with rfl | ⟨n, c, rfl⟩ | rfl <;> cases op <;> simp at h <;> cases x <;> simp only [Go.binOp] <;>
    first | exact WL.bind he fun _ => WL.pure _ | skip

theorem WL.listMapM {P : Program} {α β : Type} (f : α → Sem β) (h : ∀ x, WL P (f x)) : ∀ l : List α, WL P (l.mapM f)
  | [] => by rw [List.mapM_nil]; exact WL.pure _
  | x :: l => by rw [List.mapM_cons]; exact WL.bind (h x) fun _ => WL.bind (WL.listMapM f h l) fun _ => WL.pure _
theorem WL.map {P : Program} {α β : Type} {s : Sem α} (f : α → β) (h : WL P s) : WL P (Functor.map f s) := by
  rcases h with ⟨v, hv⟩ | hh
  · exact .inl ⟨f v, fun w => by rw [Sem.run_map, hv]; rfl⟩
  · exact .inr fun w => by obtain ⟨x, w', e⟩ := hh w; exact ⟨x, w', by rw [Sem.run_map, e]; rfl⟩
theorem WL.arrayMapM {P : Program} {α β : Type} (f : α → Sem β) (h : ∀ x, WL P (f x)) (l : Array α) : WL P (l.mapM f) := by
  rw [Array.mapM_eq_mapM_toList]
  exact WL.map _ (WL.listMapM f h _)
theorem WL.build {P : Program} (t : TypeId) (ps : Array (Nat × Value)) : WL P (Instr.build t ps) := by
  unfold Instr.build
  refine WL.bind (WL.zeroValue _) fun z => ?_
  dsimp only
  refine WL.bind (WL.underlying _) fun d => ?_
  split
  · refine WL.bind (WL.arrayMapM _ (fun f => WL.bind (WL.sizeOf _) fun _ => WL.pure _) _) fun pl => ?_
    split
    · exact WL.pure _
    · exact WL.stuck _
  · refine WL.bind (WL.sizeOf _) fun n => ?_
    split
    · exact WL.pure _
    · exact WL.stuck _
  · exact WL.stuck _
set_option maxHeartbeats 1000000 in
theorem WL.indexAt {P : Program} (t : TypeId) (x i : Value) : WL P (Instr.indexAt t x i) := by
  unfold Instr.indexAt
  refine WL.bind (WL.asIntOf _) fun ⟨k, i⟩ => WL.bind (WL.underlying _) fun d => ?_
  have tail : ∀ u (r : Option Addr × Nat × TypeId), WL P (match r with
      | (base, len, elem) => do
        let d' ← Go.underlying t
        match base with
          | some a =>
            if 0 ≤ i ∧ i < ↑len then do
              let n ← Go.sizeOf elem
              Pure.pure (Value.pointer (some (a.add (i.toNat * n))))
            else
              if (decide (len ≤ 1) && match d' with | .array .. => true | _ => false) = true then
                Go.unsupported u
              else Go.boundsPanic k i (↑len) BoundsCode.index
          | none => Go.boundsPanic k i 0 BoundsCode.index) := by
    intro u ⟨base, len, elem⟩
    refine WL.bind (WL.underlying _) fun d' => ?_
    split
    · split
      · exact WL.bind (WL.sizeOf _) fun _ => WL.pure _
      · repeat' (first | exact WL.unsupported _ | exact WL.ah (AH.boundsPanic _ _ _ _) | split)
    · exact WL.ah (AH.boundsPanic _ _ _ _)
  dsimp only
  split
  · exact WL.bind (WL.sureAddr _) fun a => WL.bind (WL.pure (some a, _, _)) fun r => tail _ r
  · exact WL.bind (WL.pure _) fun r => tail _ r
  · exact WL.ah (AH.bindL (AH.halt _))

/-- a pure operation's run does not hang on the world -/
theorem WLx.pureOp {P : Program} {o : Oper} {ρ : Operand → Value} (h : pureB P o.op = true) (hp : ∀ t ∈ plainSlots o, plainV (ρ (.tmp t)) = true)
    (hc : ∀ v, ρ (.const v) = v) : WLx P (execOp ρ o) := by
  obtain ⟨dst, op, type, pos, after, guard⟩ := o
  cases op <;> simp only [pureB, Bool.false_eq_true] at h <;> simp only [execOp]
  case move x => exact WLx.pure _
  case assign x => exact WLx.pure _
  case pick c a b =>
    rcases WL.asBool (P := P) (ρ c) with ⟨v, hv⟩ | hh
    · exact .inl ⟨if v then ρ a else ρ b, fun w => by simp [hv]⟩
    · exact .inr fun w => by obtain ⟨x, w', e⟩ := hh w; exact ⟨x, w', by simp [e]⟩
  case nilCheck x =>
    split
    · exact .inr (AH.runtimePanic _)
    · exact .inr (AH.runtimePanic _)
    · exact .inr (AH.runtimePanic _)
    · split
      · exact .inr (AH.runtimePanic _)
      · rename_i name first captured hx _ t w0 _
        rcases WL.nilAhead (P := P) (P.types.size + Made.depth) t w0 name with ⟨v, hv⟩ | hh
        · by_cases hq : v = some false
          · exact .inl ⟨_, fun w => by simp [Go.program, Sem.run, hv]; rw [if_pos hq]⟩
          · exact .inr fun w => ⟨_, w, by simp [Go.program, Sem.run, hv, Go.unsupported]; rw [if_neg hq]⟩
        · exact .inr fun w => by obtain ⟨x, w', e⟩ := hh w; exact ⟨x, w', by simp [Go.program, Sem.run, e]⟩
      · exact WLx.pure _
    · exact WLx.pure _
  case binOp op t x y u =>
    refine WLx.of ?_
    simp only [Bool.or_eq_true, Bool.and_eq_true] at h
    by_cases hn : nilOp y = true
    · have hy : ρ y = .pointer none ∨ (∃ n c, ρ y = .slice none n c) ∨ ρ y = .map none := by
        obtain ⟨v, rfl, hv⟩ := nilOp_spec hn
        rw [hc]; exact hv
      refine WL.bind (WL.eqGuard_plain op t x y _ _ (.inr (by rcases hy with h | ⟨n, c, h⟩ | h <;> simp [h]))) fun _ => ?_
      rcases h with h | h
      · exfalso
        have := h.2
        obtain ⟨v, rfl, rfl | ⟨n, c, rfl⟩ | rfl⟩ := nilOp_spec hn <;> simp [plainOp, plainV] at this
      · exact WL.binOp_nil op t _ _ h.1 hy
    · have hpp : plainOp x = true ∧ plainOp y = true := by
        rcases h with h | h
        · exact h
        · exact absurd h.2 hn
      have key : ∀ z, plainOp z = true → (∀ t, z = .tmp t → plainV (ρ (.tmp t)) = true) → plainV (ρ z) = true := by
        intro z hz ht
        cases z <;> simp [plainOp] at hz
        · exact ht _ rfl
        · rw [hc]; exact hz
      have hx : plainV (ρ x) = true := key x hpp.1 fun t e => hp t (by simp [plainSlots, hn, e])
      have hy : plainV (ρ y) = true := key y hpp.2 fun t e => hp t (by subst e; cases x <;> simp [plainSlots, nilOp])
      exact WL.bind (WL.eqGuard_plain op t x y _ _ (.inl ⟨hx, hy⟩)) fun _ => WL.binOp_plain _ _ _ _ hx hy
  case unOp op t x => exact WLx.of (WL.unary _ _)
  case slice t x lo hi mx =>
    refine WLx.of ?_
    unfold Instr.sliceAt
    refine WL.bind (WL.underlying _) fun d => ?_
    split
    · exact WL.bind (WL.sureAddr _) fun _ => WL.bind (WL.sliceBounds _ _ _ _ _ _) fun ⟨_, _, _⟩ => WL.bind (WL.sizeOf _) fun _ => WL.pure _
    · unfold Instr.slice
      refine WL.bind (WL.underlying _) fun d => ?_
      split
      · dsimp only
        split
        · exact WL.bind (WL.stuck _) fun _ => WL.bind (WL.sliceBounds _ _ _ _ _ _) fun ⟨_, _, _⟩ => WL.pure _
        · exact WL.bind (WL.sliceBounds _ _ _ _ _ _) fun ⟨_, _, _⟩ => WL.pure _
      · exact WL.bind (WL.sliceBounds _ _ _ _ _ _) fun ⟨_, _, _⟩ => WL.bind (WL.sizeOf _) fun _ => WL.pure _
      · refine WL.bind (WL.asAddr _) fun _ => WL.bind (WL.underlying _) fun d => ?_
        split
        · exact WL.bind (WL.sliceBounds _ _ _ _ _ _) fun ⟨_, _, _⟩ => WL.bind (WL.sizeOf _) fun _ => WL.pure _
        · exact WL.stuck _
      · exact WL.stuck _
  case fieldAddr s x f =>
    refine WLx.of ?_
    rcases hs : P.underlying s with _ | d
    · exact .inr fun w => ⟨_, w, by simp [Instr.fieldAt, Go.underlying, Go.program, Sem.run, hs, Go.stuck]; rfl⟩
    · cases d with
      | struct fs =>
        rcases hf : fs[f]? with _ | fd
        · exact .inr fun w => ⟨_, w, by simp [Instr.fieldAt, Go.underlying, Go.program, Sem.run, hs, hf, Go.stuck]; rfl⟩
        · rcases WL.sureAddr (P := P) (ρ x) with ⟨ad, ha⟩ | hh
          · rcases hi : P.info? fd.type with _ | i
            · exact .inr fun w => ⟨_, w, by simp [Instr.fieldAt, Go.underlying, Go.program, Sem.run, hs, hf, ha, Go.fieldPlace, Go.sizeOf, Go.typeInfo, hi, Go.stuck]; rfl⟩
            · have hz : ¬ i.size = 0 := by simpa [fieldSized, hs, hf, hi] using h
              exact .inl ⟨_, fun w => by simp [Instr.fieldAt, Go.underlying, Go.program, Sem.run, hs, hf, ha, Go.fieldPlace, Go.sizeOf, Go.typeInfo, hi, hz]; rfl⟩
          · exact .inr fun w => by
              obtain ⟨x, w', e⟩ := hh w
              exact ⟨x, w', by simp [Instr.fieldAt, Go.underlying, Go.program, Sem.run, hs, hf, e]⟩
      | _ => exact .inr fun w => ⟨_, w, by simp [Instr.fieldAt, Go.underlying, Go.program, Sem.run, hs, Go.stuck]; rfl⟩
  case field t x f =>
    refine WLx.of ?_
    unfold Instr.field
    refine WL.bind (WL.underlying _) fun d => ?_
    repeat' (first | exact WL.stuck _ | refine WL.bind (WL.asAgg _) fun _ => WL.part _ _ _ | split)
  case indexAddr t x i =>
    refine WLx.of ?_
    exact WL.indexAt _ _ _
  case index t x i =>
    refine WLx.of ?_
    unfold Instr.index
    refine WL.bind (WL.asIntOf _) fun r => ?_
    split
    refine WL.bind (WL.underlying _) fun d => ?_
    repeat' (first | exact WL.stuck _ | exact WL.pure _ | exact WL.ah (AH.boundsPanic _ _ _ _) | refine WL.bind (WL.sizeOf _) fun _ => WL.part _ _ _ | split)
  case extract t i =>
    refine WLx.of ?_
    unfold Instr.extract
    repeat' (first | exact WL.stuck _ | exact WL.pure _ | split)
  case build t ps => exact WLx.of (WL.build _ _)
  case convert t u x =>
    simp only [Bool.and_eq_true] at h
    have hx : plainV (ρ x) = true := by
      cases x with
      | tmp t' => exact hp t' (by simp [plainSlots])
      | const v => rw [hc]; simpa [plainOp] using h.1.1
      | _ => simp [plainOp] at h
    obtain ⟨k1, h1⟩ := intTy_some h.1.2
    obtain ⟨k2, h2⟩ := intTy_some h.2
    refine WLx.of ?_
    cases hv : ρ x with
    | int k n => exact .inl ⟨.int k2 (k2.wrap n), fun w => by simp [convert, run_underlying h1, run_underlying h2, Conv.intToInt]⟩
    | bool _ | string _ | tuple _ | agg _ => exact .inr fun w => ⟨_, w, by simp only [convert, Sem.run_bind, run_underlying h1, run_underlying h2, Result.andThen_ok, unsupported]; rfl⟩
    | _ => rw [hv] at hx; simp [plainV] at hx
  case call c =>
    obtain ⟨callee, args, argTypes⟩ := c
    cases callee with
    | builtin b =>
      cases b <;> simp only [pureB, Bool.false_eq_true] at h
      have he : (do let d ← resolve ρ { callee := .builtin .len, args, argTypes } type; invoke d.target d.args : Sem Next) = (Builtin.len_ argTypes type (args.map ρ) >>= fun v => Pure.pure (Next.value v)) := rfl
      rw [he]
      refine WLx.of ?_
      cases ha : argTypes[0]? with
      | none => exact .inr fun w => ⟨_, w, by simp [Builtin.len_, ha, Go.stuck]; rfl⟩
      | some t =>
        simp only [ha] at h
        cases hx : (args.map ρ)[0]? with
        | none => exact .inr fun w => ⟨_, w, by simp only [Builtin.len_, ha, hx]; rfl⟩
        | some x =>
          unfold lenPlain at h
          cases hu : P.underlying t with
          | none => exact .inr fun w => ⟨_, w, by simp only [Builtin.len_, ha, hx, Go.underlying, Go.program, Sem.run_bind, Sem.run, hu, Result.andThen, Go.stuck]; rfl⟩
          | some d =>
            rw [hu] at h
            cases d <;> simp at h <;> cases x <;> first
              | exact .inl ⟨_, fun w => by simp only [Builtin.len_, ha, hx, Go.underlying, Go.program, Sem.run_bind, Sem.run, hu, Result.andThen]; rfl⟩
              | exact .inr fun w => ⟨_, w, by simp only [Builtin.len_, ha, hx, Go.underlying, Go.program, Sem.run_bind, Sem.run, hu, Result.andThen]; rfl⟩
    | _ => simp [pureB] at h

/-! ### Loads leave the world alone -/
def RO (P : Program) {α : Type} (s : Sem α) : Prop := ∀ w, (∃ v, s.run P w = .ok v w) ∨ (∃ h w', s.run P w = .halt h w')
section
variable {P : Program} {α β : Type}
theorem RO.of_wl {s : Sem α} (h : WL P s) : RO P s := fun w => by
  rcases h with ⟨v, hv⟩ | hh
  · exact .inl ⟨v, hv w⟩
  · exact .inr (hh w)
theorem RO.bind {s : Sem α} {f : α → Sem β} (h : RO P s) (k : ∀ v, RO P (f v)) : RO P (s >>= f) := fun w => by
  rcases h w with ⟨v, hv⟩ | ⟨x, w', e⟩
  · rcases k v w with ⟨u, hu⟩ | ⟨x, w', e⟩
    · exact .inl ⟨u, by simp [hv, hu]⟩
    · exact .inr ⟨x, w', by simp [hv, e]⟩
  · exact .inr ⟨x, w', by simp [e]⟩
theorem RO.load (a : Addr) (m : Go.Mode) : RO P (Go.load a m) := fun w => by
  unfold Go.load
  simp only [Sem.run]
  cases h : w.cell? a with
  | some v => exact .inl ⟨v, rfl⟩
  | none =>
    simp only []
    cases h' : w.farLoad P a (m == .atomic) with
    | ok r => exact .inl ⟨r.1, rfl⟩
    | error x => exact .inr ⟨x, w, rfl⟩
theorem RO.loadCellsFrom (a : Addr) : ∀ (n i : Nat) (acc : Array Value), RO P (Go.loadCellsFrom a i n acc)
  | 0, i, acc => RO.of_wl (WL.pure _)
  | n + 1, i, acc => by unfold Go.loadCellsFrom; exact RO.bind (RO.load _ _) fun v => RO.loadCellsFrom a n (i + 1) _
theorem RO.loadVar (t : TypeId) (a : Addr) : RO P (Go.loadVar t a) := by
  unfold Go.loadVar
  refine RO.bind (RO.of_wl (WL.isAgg t)) fun b => ?_
  split
  · exact RO.bind (RO.of_wl (WL.sizeOf t)) fun n => RO.bind (RO.loadCellsFrom _ _ _ _) fun _ => RO.of_wl (WL.pure _)
  · exact RO.load _ _
end
def ROx (P : Program) (s : Sem Next) : Prop := ∀ w, (∃ v, s.run P w = .ok (.value v) w) ∨ (∃ h w', s.run P w = .halt h w')
theorem ROx.loadOp {P : Program} {o : Oper} {ρ : Operand → Value} (h : loadB o.op = true) : ROx P (execOp ρ o) := by
  obtain ⟨dst, op, type, pos, after, guard⟩ := o
  cases op <;> simp only [loadB, Bool.false_eq_true] at h <;> simp only [execOp]
  rename_i t x
  intro w
  have := RO.bind (P := P) (RO.of_wl (WL.sureAddr (ρ x))) (fun a => RO.loadVar t a) w
  rcases this with ⟨v, hv⟩ | ⟨x, w', e⟩
  · exact .inl ⟨v, by unfold Instr.loadAt; rw [Sem.run_bind, hv]; rfl⟩
  · exact .inr ⟨x, w', by unfold Instr.loadAt; rw [Sem.run_bind, e]; rfl⟩

/-! ### What stands in memory stays where new blocks are laid behind it -/
def Ext (w w' : World) : Prop := ∀ (b : Nat) (o : Obj), w.heap[b]? = some o → w'.heap[b]? = some o
theorem Ext.alloc (w : World) (o : Obj) : Ext w (w.alloc o) := fun b x h => by
  show (w.heap.push o)[b]? = _
  have : b < w.heap.size := (Array.getElem?_eq_some_iff.1 h).1
  rw [Array.getElem?_push, if_neg (by omega)]; exact h
theorem seen_none {P : Program} {w : World} {at_ : Addr} {u : TypeId} {k : Addr} {at1 : Bool} (h : w.heap[at_.block]? = none) : ∃ e, w.seen P at_ u k at1 = .error e := by
  unfold World.seen
  rw [h]
  simp only [bind, Except.bind, pure, Except.pure, throw, throwThe, MonadExceptOf.throw]
  repeat' (first | exact ⟨_, rfl⟩ | split)
theorem viewLoad_ext {P : Program} {w w' : World} (hx : Ext w w') {at_ : Addr} {u : TypeId} {k : Addr} {at1 : Bool} {r : Value × List Addr} (h : w.viewLoad P at_ u k at1 = .ok r) : w'.viewLoad P at_ u k at1 = .ok r := by
  cases ho : w.heap[at_.block]? with
  | none =>
    obtain ⟨e, he⟩ := seen_none (P := P) (u := u) (k := k) (at1 := at1) ho
    unfold World.viewLoad at h
    rw [he] at h
    cases h
  | some o =>
    have ho' := hx _ _ ho
    have : w'.seen P at_ u k at1 = w.seen P at_ u k at1 := by unfold World.seen; rw [ho, ho']
    unfold World.viewLoad at *
    rw [this]; exact h
theorem farLoad_ext {P : Program} {w w' : World} (hx : Ext w w') {a : Addr} {at1 : Bool} {r : Value × List Addr} (h : w.farLoad P a at1 = .ok r) : w'.farLoad P a at1 = .ok r := by
  unfold World.farLoad at *
  cases ho : w.heap[a.block]? with
  | none => rw [ho] at h; cases h
  | some o =>
    rw [ho] at h
    rw [hx _ _ ho]
    cases o <;> simp only [] at h ⊢ <;> try (cases h; done)
    rename_i at_ u
    cases hv : w.viewLoad P at_ u a at1 with
    | ok r' => rw [hv] at h; rw [viewLoad_ext hx hv]; exact h
    | error e => rw [hv] at h; cases h
theorem cell_ext {w w' : World} (hx : Ext w w') {a : Addr} {v : Value} (h : w.cell? a = some v) : w'.cell? a = some v := by
  unfold World.cell? at *
  cases ho : w.heap[a.block]? with
  | none => rw [ho] at h; cases h
  | some o => rw [hx _ _ ho]; rw [ho] at h; exact h
/-- where it goes well, it goes as well with more blocks -/
def ST (P : Program) {α : Type} (s : Sem α) : Prop := ∀ w w' v, Ext w w' → s.run P w = .ok v w → s.run P w' = .ok v w'
section
variable {P : Program} {α β : Type}
theorem ST.of_wl {s : Sem α} (h : WL P s) : ST P s := fun w w' v _ hr => by
  rcases h with ⟨u, hu⟩ | hh
  · rw [hu] at hr; cases hr; exact hu w'
  · obtain ⟨x, w'', e⟩ := hh w; rw [e] at hr; cases hr
theorem ST.bind {s : Sem α} {f : α → Sem β} (hro : RO P s) (h : ST P s) (k : ∀ v, ST P (f v)) : ST P (s >>= f) := fun w w' v hx hr => by
  rw [Sem.run_bind] at hr ⊢
  rcases hro w with ⟨u, hu⟩ | ⟨x, w'', e⟩
  · rw [hu] at hr
    rw [h w w' u hx hu]
    exact k u w w' v hx hr
  · rw [e] at hr; cases hr
theorem ST.load (a : Addr) (m : Go.Mode) : ST P (Go.load a m) := fun w w' v hx hr => by
  unfold Go.load at *
  simp only [Sem.run] at hr ⊢
  cases h : w.cell? a with
  | some u => rw [h] at hr; rw [cell_ext hx h]; cases hr; rfl
  | none =>
    rw [h] at hr
    simp only [] at hr
    cases h' : w.farLoad P a (m == .atomic) with
    | ok r =>
      rw [h'] at hr
      cases hc : w'.cell? a with
      | some u =>
        -- the block is a view in both
        exfalso
        unfold World.farLoad at h'
        cases ho : w.heap[a.block]? with
        | none => rw [ho] at h'; cases h'
        | some o =>
          rw [ho] at h'
          unfold World.cell? at hc
          rw [hx _ _ ho] at hc
          cases o <;> simp only [] at h' hc <;> first | (cases h'; done) | (cases hc; done)
      | none =>
        simp only []
        rw [farLoad_ext hx h']
        cases hr; rfl
    | error x => rw [h'] at hr; cases hr
theorem ST.loadCellsFrom (a : Addr) : ∀ (n i : Nat) (acc : Array Value), ST P (Go.loadCellsFrom a i n acc)
  | 0, i, acc => ST.of_wl (WL.pure _)
  | n + 1, i, acc => by unfold Go.loadCellsFrom; exact ST.bind (RO.load _ _) (ST.load _ _) fun v => ST.loadCellsFrom a n (i + 1) _
theorem ST.loadVar (t : TypeId) (a : Addr) : ST P (Go.loadVar t a) := by
  unfold Go.loadVar
  refine ST.bind (RO.of_wl (WL.isAgg t)) (ST.of_wl (WL.isAgg t)) fun b => ?_
  split
  · exact ST.bind (RO.of_wl (WL.sizeOf t)) (ST.of_wl (WL.sizeOf t)) fun n => ST.bind (RO.loadCellsFrom _ _ _ _) (ST.loadCellsFrom _ _ _ _) fun _ => ST.of_wl (WL.pure _)
  · exact ST.load _ _
/-- a run that lays one new block -/
def NA (P : Program) {α : Type} (s : Sem α) : Prop := ∀ w, (∃ v o, s.run P w = .ok v (w.alloc o)) ∨ (∃ h w', s.run P w = .halt h w')
theorem NA.bindL {s : Sem α} {f : α → Sem β} (h : WL P s) (k : ∀ v, NA P (f v)) : NA P (s >>= f) := fun w => by
  rcases h with ⟨u, hu⟩ | hh
  · rcases k u w with ⟨v, o, e⟩ | ⟨x, w', e⟩
    · exact .inl ⟨v, o, by rw [Sem.run_bind, hu]; exact e⟩
    · exact .inr ⟨x, w', by rw [Sem.run_bind, hu]; exact e⟩
  · obtain ⟨x, w', e⟩ := hh w; exact .inr ⟨x, w', by rw [Sem.run_bind, e]; rfl⟩
theorem NA.bindR {s : Sem α} {f : α → Sem β} (h : NA P s) (k : ∀ v, WL P (f v)) : NA P (s >>= f) := fun w => by
  rcases h w with ⟨v, o, e⟩ | ⟨x, w', e⟩
  · rcases k v with ⟨u, hu⟩ | hh
    · exact .inl ⟨u, o, by rw [Sem.run_bind, e]; exact hu _⟩
    · obtain ⟨x, w', e'⟩ := hh (w.alloc o); exact .inr ⟨x, w', by rw [Sem.run_bind, e]; exact e'⟩
  · exact .inr ⟨x, w', by rw [Sem.run_bind, e]; rfl⟩
theorem NA.halt {s : Sem α} (h : AH P s) : NA P s := fun w => .inr (h w)
theorem NA.newRow (e : TypeId) (cs : Array Value) : NA P (Go.newRow e cs) := by
  unfold Go.newRow
  exact NA.bindR (fun w => .inl ⟨w.heap.size, .cells cs e, rfl⟩) fun _ => WL.pure _
end
def allocB : Op → Bool
  | .alloc _ | .box .. | .buildSlice .. => true
  | _ => false
def NAx (P : Program) (s : Sem Next) : Prop := ∀ w, (∃ v o, s.run P w = .ok (.value v) (w.alloc o)) ∨ (∃ h w', s.run P w = .halt h w')
theorem NAx.of {P : Program} {s : Sem Value} (h : NA P s) : NAx P (s >>= fun v => Pure.pure (Next.value v)) := fun w => by
  rcases h w with ⟨v, o, e⟩ | ⟨x, w', e⟩
  · exact .inl ⟨v, o, by rw [Sem.run_bind, e]; rfl⟩
  · exact .inr ⟨x, w', by rw [Sem.run_bind, e]; rfl⟩
theorem NAx.allocOp {P : Program} {o : Oper} {ρ : Operand → Value} (h : allocB o.op = true) : NAx P (execOp ρ o) := by
  obtain ⟨dst, op, type, pos, after, guard⟩ := o
  cases op <;> simp only [allocB, Bool.false_eq_true] at h <;> simp only [execOp]
  case alloc e =>
    refine NAx.of ?_
    unfold Instr.alloc
    refine NA.bindL (WL.zeroValue _) fun z => ?_
    exact NA.bindR (NA.newRow _ _) fun _ => WL.pure _
  case box e x =>
    refine NAx.of ?_
    unfold Instr.box
    exact NA.bindR (NA.newRow _ _) fun _ => WL.pure _
  case buildSlice t n ps =>
    refine NAx.of ?_
    unfold Instr.buildSlice
    refine NA.bindL (WL.underlying _) fun d => ?_
    split
    · refine NA.bindL (WL.sizeOf _) fun sz => ?_
      dsimp only
      split
      · exact NA.halt (AH.bindL (AH.halt _))
      · split
        · refine NA.bindL (WL.pure _) fun z => ?_
          split
          · exact NA.bindR (NA.newRow _ _) fun _ => WL.pure _
          · exact NA.halt (AH.halt _)
        · refine NA.bindL (WL.zeroValue _) fun z0 => NA.bindL (WL.pure _) fun z => ?_
          split
          · exact NA.bindR (NA.newRow _ _) fun _ => WL.pure _
          · exact NA.halt (AH.halt _)
    · exact NA.halt (AH.halt _)

/-! ### The check -/
/-- what must stand ahead of each operation, as far as the edges say -/
def ancs (ops : List Oper) : List (List Nat) :=
  ops.foldl (init := []) fun acc o => acc ++ [o.after.toList.flatMap fun e => if Region.binds .any e then e.on :: acc.getD e.on [] else []]
def swapB (P : Program) (ops : Array Oper) (y x : Oper) : Bool :=
  y.apart ops x && x.apart ops y && (pureB P y.op || pureB P x.op || (loadB y.op && loadB x.op) || (loadB y.op && allocB x.op))
/-- anc: a list of what stands ahead of each operation; each of its members is called for by the edges -/
def ancOk (ops : Array Oper) (anc : List (List Nat)) : Bool :=
  (List.range ops.size).all fun j => (anc.getD j []).all fun a => match ops[j]? with
    | some o => o.after.any fun e => Region.binds .any e && decide (e.on < j) && (a == e.on || (anc.getD e.on []).contains a)
    | none => false
def chkWith (P : Program) (ops : Array Oper) (anc : List (List Nat)) : Bool :=
  ancOk ops anc &&
  ((List.range ops.size).all fun j => match ops[j]? with
    | some o => !selB o.op && (o.after.all fun e => !Region.binds .any e || decide (e.on < j)) &&
      ((List.range j).all fun i => (anc.getD j []).contains i || (match ops[i]? with | some oi => swapB P ops oi o | none => false)) &&
      (!pureB P o.op || (List.range ops.size).all fun i => (anc.getD j []).contains i || (match ops[i]? with | some oi => (match oi.dst with | some d => !(plainSlots o).contains d | none => true) | none => false))
    | none => false)
def chk (P : Program) (ops : Array Oper) : Bool := chkWith P ops (ancs ops.toList)
def goodEnd (P : Program) (ops : Array Oper) (a : Act) : Bool := ops.toList.all fun o => !pureB P o.op || (plainSlots o).all fun t => plainV (a.tmps.getD t undef)

/-- the post of the walk in the text's order: it ends normally, and what had to be plain is plain -/
def EndQ (P : Program) (ops : Array Oper) (Q : Exit → Act → World → Prop) : Exit → Act → World → Prop
  | .normal, a, w => goodEnd P ops a = true ∧ Q .normal a w
  | _, _, _ => False
theorem EndQ.intro {P : Program} {ops : Array Oper} {Q : Exit → Act → World → Prop} {a : Act} {w : World} (h : goodEnd P ops a = true) (hq : Q .normal a w) : EndQ P ops Q .normal a w := ⟨h, hq⟩

section
variable {P : Program} {ops : Array Oper} {Q : Exit → Act → World → Prop}
theorem out_false (hQ : ∀ e a w, Q e a w → e = .normal) : ¬ LetsOut Q := fun ⟨a, w, h⟩ => by cases hQ _ _ _ h

/-- where a step leads -/
theorem wpOp_exists (hQ : ∀ e a w, Q e a w → e = .normal) {i : Nat} {o : Oper} (hi : ops[i]? = some o) {K : Act → World → Prop} {a : Act} {w : World} (h : wpOp P ops Q i K a w) :
    ∃ v a' w', a'.tmps = (a.put o.dst v).tmps ∧ K a' w' := by
  unfold wpOp at h
  simp only [hi] at h
  split at h
  · rcases h with h | ⟨_, h⟩
    · unfold Oper.wp at h
      generalize (execOp a.eval o).run P w = r at *
      cases r with
      | ok n w' =>
        cases n <;> simp only [Oper.upon] at h
        case value u => exact ⟨u, _, _, rfl, h⟩
        case skip => exact ⟨undef, _, _, rfl, h⟩
        case defer d => exact ⟨undef, _, _, by cases o.dst <;> rfl, h⟩
        case enter f args =>
          obtain ⟨e, w'', fr, hR, _⟩ := h []
          cases e with
          | returned u => exact ⟨u, _, _, rfl, hR⟩
          | panicked c => cases hQ _ _ _ hR
          | outgrown => exact absurd hR (out_false hQ)
        case row row args =>
          obtain ⟨v, w'', hR, _⟩ := h default []
          exact ⟨v, _, _, rfl, hR⟩
      | halt x w' =>
        cases x <;> simp only [Oper.upon] at h
        case panic u => cases hQ _ _ _ h
    · exact absurd h (out_false hQ)
  · exact ⟨undef, _, _, rfl, h⟩

/-- of the operation that stands first: it yields in whatever world -/
theorem wpOp_pure (hQ : ∀ e a w, Q e a w → e = .normal) {i : Nat} {o : Oper} (hi : ops[i]? = some o) {K : Act → World → Prop} {a : Act} {w : World} (hx : WLx P (execOp a.eval o))
    (h : wpOp P ops Q i K a w) : ∃ v, Yields P ops o v a ∧ K (a.put o.dst v) w := by
  unfold wpOp at h
  simp only [hi] at h
  split at h
  · rename_i hw
    rcases h with h | ⟨_, h⟩
    · unfold Oper.wp at h
      rcases hx with ⟨v, hv⟩ | hh
      · rw [hv w] at h; exact ⟨v, .inl ⟨hw, hv⟩, h⟩
      · obtain ⟨x, w', e⟩ := hh w
        rw [e] at h
        cases x <;> simp only [Oper.upon] at h
        case panic u => cases hQ _ _ _ h
    · exact absurd h (out_false hQ)
  · rename_i hw
    exact ⟨undef, .inr ⟨by simpa using hw, rfl⟩, h⟩

theorem Yields.take (hQ : ∀ e a w, Q e a w → e = .normal) {i : Nat} {o : Oper} {v : Value} {a : Act} (hi : ops[i]? = some o) (hy : Yields P ops o v a)
    {K : Act → World → Prop} {w : World} (h : wpOp P ops Q i K a w) : K (a.put o.dst v) w := by
  unfold Go.wpOp at h
  simp only [hi] at h
  rcases hy with ⟨hw, hv⟩ | ⟨hw, rfl⟩
  · simp only [hw, if_true, Oper.wp, hv w, Oper.upon] at h
    rcases h with h | ⟨_, h⟩
    · exact h
    · exact absurd h (out_false hQ)
  · simp only [hw, Bool.false_eq_true, if_false] at h; exact h

theorem eval_of_tmps {a a' : Act} (h : a'.tmps = a.tmps) : a'.eval = a.eval := by funext x; cases x <;> simp [Act.eval, h]

/-- Yields hangs on the slots that the operation looks at. -/
theorem Yields.move {x y : Oper} (hs : selB x.op = false) (hap : x.apart ops y = true) {v u : Value} {a a' : Act} (ht : a'.tmps = (a.put y.dst u).tmps) :
    Yields P ops x v a' ↔ Yields P ops x v a := by
  have hsel : ∀ cs b, x.op ≠ .select cs b := fun cs b e => by simp [e, selB] at hs
  obtain ⟨_, _, h3⟩ := Oper.apart_spec hap
  have e1 : execOp a'.eval x = execOp a.eval x := by rw [eval_of_tmps ht]; exact execOp_put x hsel a y.dst u h3
  have e2 : Region.wanted x (yielded ops a'.tmps) = Region.wanted x (yielded ops a.tmps) := by rw [ht]; exact wanted_put x a y.dst u h3
  unfold Yields
  rw [e1, e2]

/-- an operation y, from the frame in which x's slot is filled already -/
theorem wpOp_frame (hQ : ∀ e a w, Q e a w → e = .normal) {j : Nat} {x y : Oper} (hj : ops[j]? = some y) (hap : x.apart ops y = true) (hsy : selB y.op = false) {N K : Act → World → Prop} {v : Value} {a : Act} {w : World}
    (hNK : ∀ a1 w1 u, a1.tmps = (a.put y.dst u).tmps → N a1 w1 → K (a1.put x.dst v) w1) (h : wpOp P ops Q j N a w) : wpOp P ops Q j K (a.put x.dst v) w := by
  have hsel : ∀ cs b, y.op ≠ .select cs b := fun cs b e => by simp [e, selB] at hsy
  obtain ⟨h1, h2, h3⟩ := Oper.apart_spec hap
  unfold wpOp at *
  simp only [hj] at *
  rw [wanted_put y a x.dst v h1]
  split
  · rename_i hw
    simp only [hw, if_true] at h
    rcases h with h | ⟨_, h⟩
    · refine .inl ?_
      unfold Oper.wp at *
      rw [execOp_put y hsel a x.dst v h1]
      generalize (execOp a.eval y).run P w = r at *
      cases r with
      | ok n w' =>
        cases n <;> simp only [Oper.upon] at h ⊢
        case value u => rw [Act.put_comm a v u h2]; exact hNK _ _ u rfl h
        case skip => rw [Act.put_comm a v undef h2]; exact hNK _ _ undef rfl h
        case defer d =>
          have e : ({ a.put x.dst v with defers := d :: (a.put x.dst v).defers } : Act).put y.dst undef = (({ a with defers := d :: a.defers } : Act).put y.dst undef).put x.dst v := by
            rw [Act.put_defers, Act.put_comm _ v undef h2]
          rw [e]
          exact hNK _ _ undef (by cases y.dst <;> rfl) h
        case enter f args =>
          refine Calls.mono h fun e w'' he => ?_
          cases e with
          | returned u => simp only [] at he ⊢; rw [Act.put_comm a v u h2]; exact hNK _ _ u rfl he
          | panicked c => cases hQ _ _ _ he
          | outgrown => exact he
        case row row args => exact Rows.mono h fun u w'' he => by rw [Act.put_comm a v u h2]; exact hNK _ _ u rfl he
      | halt x w' =>
        cases x <;> simp only [Oper.upon] at h ⊢
        case panic u => cases hQ _ _ _ h
    · exact absurd h (out_false hQ)
  · rename_i hw
    simp only [hw] at h
    rw [Act.put_comm a v undef h2]; exact hNK _ _ undef rfl h

/-- y, then x that is pure: x, then y -/
theorem swap_pureR (hQ : ∀ e a w, Q e a w → e = .normal) {i j : Nat} {x y : Oper} (hi : ops[i]? = some x) (hj : ops[j]? = some y) (hxy : x.apart ops y = true) (hsx : selB x.op = false) (hsy : selB y.op = false)
    {K : Act → World → Prop} {a : Act} {w : World} (hw : ∀ (a1 : Act) u, a1.tmps = (a.put y.dst u).tmps → WLx P (execOp a1.eval x)) (h : wpOp P ops Q j (wpOp P ops Q i K) a w) : wpOp P ops Q i (wpOp P ops Q j K) a w := by
  obtain ⟨u, a1, w1, ht, h1⟩ := wpOp_exists hQ hj h
  obtain ⟨v, hy1, _⟩ := wpOp_pure hQ hi (hw a1 u ht) h1
  have hy : Yields P ops x v a := (Yields.move hsx hxy ht).1 hy1
  refine hy.wpOp hi ?_
  refine wpOp_frame hQ hj hxy hsy (fun a2 w2 u2 ht2 h2 => ?_) h
  exact Yields.take hQ hi ((Yields.move hsx hxy ht2).2 hy) h2

/-- y that is pure, then x: x, then y -/
theorem swap_pureL (hQ : ∀ e a w, Q e a w → e = .normal) {i j : Nat} {x y : Oper} (hi : ops[i]? = some x) (hj : ops[j]? = some y) (hyx : y.apart ops x = true) (hsx : selB x.op = false) (hsy : selB y.op = false)
    {K : Act → World → Prop} {a : Act} {w : World} (hw : WLx P (execOp a.eval y)) (h : wpOp P ops Q j (wpOp P ops Q i K) a w) : wpOp P ops Q i (wpOp P ops Q j K) a w := by
  obtain ⟨v, hy, h1⟩ := wpOp_pure hQ hj hw h
  have h2 := wpOp_put (P := P) (Q := Q) hi hyx (fun cs b e => by simp [e, selB] at hsy) (fun cs b e => by simp [e, selB] at hsx) (fun c a w hq => by cases hQ _ _ _ hq) hy h1
  exact wpOp_mono (fun a1 w1 ⟨hy1, hk⟩ => hy1.wpOp hj hk) h2

/-- a load yields in this world -/
def YieldsAt (P : Program) (ops : Array Oper) (o : Oper) (v : Value) (a : Act) (w : World) : Prop :=
  (Region.wanted o (yielded ops a.tmps) = true ∧ (execOp a.eval o).run P w = .ok (.value v) w) ∨ (Region.wanted o (yielded ops a.tmps) = false ∧ v = undef)
theorem wpOp_load (hQ : ∀ e a w, Q e a w → e = .normal) {i : Nat} {o : Oper} (hi : ops[i]? = some o) {K : Act → World → Prop} {a : Act} {w : World} (hx : loadB o.op = true)
    (h : wpOp P ops Q i K a w) : ∃ v, YieldsAt P ops o v a w ∧ K (a.put o.dst v) w := by
  unfold wpOp at h
  simp only [hi] at h
  split at h
  · rename_i hw
    rcases h with h | ⟨_, h⟩
    · unfold Oper.wp at h
      rcases ROx.loadOp (P := P) (ρ := a.eval) hx w with ⟨v, hv⟩ | ⟨x, w', e⟩
      · rw [hv] at h; exact ⟨v, .inl ⟨hw, hv⟩, h⟩
      · rw [e] at h
        cases x <;> simp only [Oper.upon] at h
        case panic u => cases hQ _ _ _ h
    · exact absurd h (out_false hQ)
  · rename_i hw
    exact ⟨undef, .inr ⟨by simpa using hw, rfl⟩, h⟩
theorem YieldsAt.wpOp {i : Nat} {o : Oper} {v : Value} {a : Act} {w : World} (hi : ops[i]? = some o) (hy : YieldsAt P ops o v a w)
    {K : Act → World → Prop} (h : K (a.put o.dst v) w) : wpOp P ops Q i K a w := by
  unfold Go.wpOp
  simp only [hi]
  rcases hy with ⟨hw, hv⟩ | ⟨hw, rfl⟩
  · simp only [hw, if_true, Oper.wp, hv, Oper.upon]; exact .inl h
  · simp only [hw, Bool.false_eq_true, if_false]; exact h
theorem YieldsAt.move {x y : Oper} (hs : selB x.op = false) (hap : x.apart ops y = true) {v u : Value} {a : Act} {w : World} :
    YieldsAt P ops x v (a.put y.dst u) w ↔ YieldsAt P ops x v a w := by
  have hsel : ∀ cs b, x.op ≠ .select cs b := fun cs b e => by simp [e, selB] at hs
  obtain ⟨_, _, h3⟩ := Oper.apart_spec hap
  unfold YieldsAt
  rw [execOp_put x hsel a y.dst u h3, wanted_put x a y.dst u h3]
theorem swap_loads (hQ : ∀ e a w, Q e a w → e = .normal) {i j : Nat} {x y : Oper} (hi : ops[i]? = some x) (hj : ops[j]? = some y) (hxy : x.apart ops y = true) (hyx : y.apart ops x = true) (hlx : loadB x.op = true) (hly : loadB y.op = true)
    {K : Act → World → Prop} {a : Act} {w : World} (h : wpOp P ops Q j (wpOp P ops Q i K) a w) : wpOp P ops Q i (wpOp P ops Q j K) a w := by
  have sel : ∀ o : Oper, loadB o.op = true → selB o.op = false := fun o ho => by cases e : o.op <;> simp [e, loadB] at ho <;> rfl
  obtain ⟨v, hy, h1⟩ := wpOp_load hQ hj hly h
  obtain ⟨u, hx, h2⟩ := wpOp_load hQ hi hlx h1
  refine YieldsAt.wpOp hi ((YieldsAt.move (sel x hlx) hxy).1 hx) ?_
  refine YieldsAt.wpOp hj ((YieldsAt.move (sel y hly) hyx).2 hy) ?_
  obtain ⟨_, h2', _⟩ := Oper.apart_spec hxy
  rw [Act.put_comm a u v h2']; exact h2

theorem STx.loadOp {o : Oper} {ρ : Operand → Value} (h : loadB o.op = true) {w w' : World} {v : Value} (hx : Ext w w') (hr : (execOp ρ o).run P w = .ok (.value v) w) : (execOp ρ o).run P w' = .ok (.value v) w' := by
  obtain ⟨dst, op, type, pos, after, guard⟩ := o
  cases op <;> simp only [loadB, Bool.false_eq_true] at h <;> simp only [execOp] at hr ⊢
  rename_i t x
  have hST := ST.bind (P := P) (RO.of_wl (WL.sureAddr (ρ x))) (ST.of_wl (WL.sureAddr (ρ x))) (fun a => ST.loadVar t a)
  have hRO := RO.bind (P := P) (RO.of_wl (WL.sureAddr (ρ x))) (fun a => RO.loadVar t a) w
  unfold Instr.loadAt at *
  rcases hRO with ⟨u, hu⟩ | ⟨y, w'', e⟩
  · rw [Sem.run_bind, hu] at hr
    cases hr
    rw [Sem.run_bind, hST w w' _ hx hu]; rfl
  · rw [Sem.run_bind, e] at hr; cases hr
/-- y a load, then x that lays a new block: x, then y -/
theorem swap_alloc (hQ : ∀ e a w, Q e a w → e = .normal) {i j : Nat} {x y : Oper} (hi : ops[i]? = some x) (hj : ops[j]? = some y) (hxy : x.apart ops y = true) (hyx : y.apart ops x = true) (hlx : allocB x.op = true) (hly : loadB y.op = true)
    {K : Act → World → Prop} {a : Act} {w : World} (h : wpOp P ops Q j (wpOp P ops Q i K) a w) : wpOp P ops Q i (wpOp P ops Q j K) a w := by
  have sely : selB y.op = false := by cases e : y.op <;> simp [e, loadB] at hly <;> rfl
  have selx : ∀ cs b, x.op ≠ .select cs b := fun cs b e => by simp [e, allocB] at hlx
  obtain ⟨v, hy, h1⟩ := wpOp_load hQ hj hly h
  obtain ⟨g1, g2, g3⟩ := Oper.apart_spec hyx
  unfold Go.wpOp at h1
  simp only [hi] at h1
  rw [wanted_put x a y.dst v g1] at h1
  unfold Go.wpOp
  simp only [hi]
  split
  · rename_i hw
    simp only [hw, if_true] at h1
    rcases h1 with h1 | ⟨_, h1⟩
    · left
      unfold Oper.wp at *
      rw [execOp_put x selx a y.dst v g1] at h1
      rcases NAx.allocOp (P := P) (ρ := a.eval) hlx w with ⟨u, o, e⟩ | ⟨z, w', e⟩
      · rw [e] at h1 ⊢
        simp only [Oper.upon] at h1 ⊢
        have hy' : YieldsAt P ops y v (a.put x.dst u) (w.alloc o) := by
          refine (YieldsAt.move sely hyx).2 ?_
          rcases hy with ⟨hw', hr⟩ | ⟨hw', hv⟩
          · exact .inl ⟨hw', STx.loadOp hly (Ext.alloc w o) hr⟩
          · exact .inr ⟨hw', hv⟩
        refine YieldsAt.wpOp hj hy' ?_
        rw [← Act.put_comm a v u g2]; exact h1
      · rw [e] at h1
        cases z <;> simp only [Oper.upon] at h1
        case panic u => cases hQ _ _ _ h1
    · exact absurd h1 (out_false hQ)
  · rename_i hw
    simp only [hw] at h1
    refine YieldsAt.wpOp hj ((YieldsAt.move sely hyx).2 hy) ?_
    rw [← Act.put_comm a v undef g2]; exact h1

/-- what the end says of a slot that nobody writes any more -/
theorem wpOps_end (hQ : ∀ e a w, Q e a w → e = .normal) {t : Nat} : ∀ (l : List Nat) (a : Act) (w : World), (∀ k ∈ l, ∃ o, ops[k]? = some o ∧ o.dst ≠ some t) →
    wpOps P ops Q l a w → ∃ a' w', Q .normal a' w' ∧ a'.tmps.getD t undef = a.tmps.getD t undef
  | [], a, w, _, h => ⟨a, w, h, rfl⟩
  | k :: l, a, w, hk, h => by
    obtain ⟨o, ho, hd⟩ := hk k (.head _)
    rw [wpOps_cons] at h
    obtain ⟨v, a1, w1, ht, h1⟩ := wpOp_exists hQ ho h
    obtain ⟨a', w', hq, e⟩ := wpOps_end hQ l a1 w1 (fun k' hk' => hk k' (.tail _ hk')) h1
    refine ⟨a', w', hq, e.trans ?_⟩
    rw [ht]
    cases hd' : o.dst with
    | none => rfl
    | some d =>
      have hne : d ≠ t := fun e => hd (by rw [hd', e])
      simp [Act.put, Array.getElem?_setIfInBounds_ne hne]

/-- nothing of the list writes a slot that must hold something plain for o -/
def Clear (ops : Array Oper) (o : Oper) (l : List Nat) : Prop := ∀ k ∈ l, ∃ o', ops[k]? = some o' ∧ ∀ d, o'.dst = some d → d ∉ plainSlots o

theorem wlx_of (hQ : ∀ e a w, Q e a w → e = .normal) (hg : ∀ a w, Q .normal a w → goodEnd P ops a = true) {i : Nat} {o : Oper} (hi : ops[i]? = some o) (hp : pureB P o.op = true) {l : List Nat} {a : Act} {w : World}
    (hc : Clear ops o l) (h : wpOps P ops Q l a w) : ∀ a1 : Act, (∀ t ∈ plainSlots o, a1.tmps.getD t undef = a.tmps.getD t undef) → WLx P (execOp a1.eval o) := by
  intro a1 ha
  refine WLx.pureOp hp (fun t ht => ?_) (fun v => rfl)
  obtain ⟨a', w', hq, e⟩ := wpOps_end hQ (t := t) l a w (fun k hk => by obtain ⟨o', ho', hd⟩ := hc k hk; exact ⟨o', ho', fun e => hd t e ht⟩) h
  have hgood := hg _ _ hq
  unfold goodEnd at hgood
  have hm : o ∈ ops.toList := by rw [Array.mem_toList_iff]; exact Array.mem_of_getElem? hi
  have := List.all_eq_true.1 hgood o hm
  simp only [hp, Bool.not_true, Bool.false_or, List.all_eq_true] at this
  have h2 := this t ht
  show plainV (a1.tmps.getD t undef) = true
  rw [ha t ht, ← e]; exact h2

theorem sel_of {j : Nat} {o : Oper} (hs : ∀ (j : Nat) (o : Oper), ops[j]? = some o → selB o.op = false) (h : ops[j]? = some o) : selB o.op = false := hs j o h

/-- two neighbours change places -/
theorem swap (hQ : ∀ e a w, Q e a w → e = .normal) (hg : ∀ a w, Q .normal a w → goodEnd P ops a = true) (hs : ∀ (j : Nat) (o : Oper), ops[j]? = some o → selB o.op = false)
    {i j : Nat} {x y : Oper} (hi : ops[i]? = some x) (hj : ops[j]? = some y) (hsw : swapB P ops y x = true) {l : List Nat}
    (hcx : pureB P x.op = true → Clear ops x (j :: i :: l)) (hcy : pureB P y.op = true → Clear ops y (j :: i :: l)) {a : Act} {w : World}
    (h : wpOps P ops Q (j :: i :: l) a w) : wpOps P ops Q (i :: j :: l) a w := by
  unfold swapB at hsw
  simp only [Bool.and_eq_true, Bool.or_eq_true] at hsw
  obtain ⟨⟨hyx, hxy⟩, hk⟩ := hsw
  have e0 : ∀ (k : Nat) (l : List Nat), wpOps P ops Q (k :: l) = wpOp P ops Q k (wpOps P ops Q l) := fun k l => by funext a w; exact wpOps_cons _ _ _ _
  have e1 : wpOps P ops Q (j :: i :: l) a w = wpOp P ops Q j (wpOp P ops Q i (wpOps P ops Q l)) a w := by rw [e0, e0]
  have e2 : wpOps P ops Q (i :: j :: l) a w = wpOp P ops Q i (wpOp P ops Q j (wpOps P ops Q l)) a w := by rw [e0, e0]
  have h' := h
  rw [e1] at h'
  rw [e2]
  rcases hk with ((hk | hk) | ⟨hky, hkx⟩) | ⟨hky, hkx⟩
  · exact swap_pureL hQ hi hj hyx (sel_of hs hi) (sel_of hs hj) (wlx_of hQ hg hj hk (hcy hk) h a fun _ _ => rfl) h'
  · refine swap_pureR hQ hi hj hxy (sel_of hs hi) (sel_of hs hj) (fun a1 u ht => ?_) h'
    refine wlx_of hQ hg hi hk (hcx hk) h a1 fun t htp => ?_
    rw [ht]
    cases hd : y.dst with
    | none => rfl
    | some d =>
      have hne : d ≠ t := fun e => by
        obtain ⟨o', ho', hd'⟩ := hcx hk j (.head _)
        rw [hj] at ho'
        cases ho'
        exact hd' d hd (e ▸ htp)
      simp [Act.put, Array.getElem?_setIfInBounds_ne hne]
  · exact swap_loads hQ hi hj hxy hyx hkx hky h'
  · exact swap_alloc hQ hi hj hxy hyx hkx hky h'

/-- an operation is taken to the front -/
theorem bubble (hQ : ∀ e a w, Q e a w → e = .normal) (hg : ∀ a w, Q .normal a w → goodEnd P ops a = true) (hs : ∀ (j : Nat) (o : Oper), ops[j]? = some o → selB o.op = false)
    {i : Nat} {x : Oper} (hi : ops[i]? = some x) (q : List Nat) : ∀ (p : List Nat),
    (∀ j ∈ p, ∃ y, ops[j]? = some y ∧ swapB P ops y x = true) →
    (pureB P x.op = true → Clear ops x (p ++ i :: q)) →
    (∀ p1 j p2, p = p1 ++ j :: p2 → ∀ y, ops[j]? = some y → pureB P y.op = true → Clear ops y (j :: i :: (p2 ++ q))) →
    ∀ a w, wpOps P ops Q (p ++ i :: q) a w → wpOps P ops Q (i :: (p ++ q)) a w
  | [], _, _, _, a, w, h => h
  | j :: p, hp, hcx, hcy, a, w, h => by
    obtain ⟨y, hj, hsw⟩ := hp j (.head _)
    have h1 : wpOps P ops Q (j :: i :: (p ++ q)) a w := by
      rw [List.cons_append, wpOps_cons] at h
      rw [wpOps_cons]
      refine wpOp_mono (fun a w hh => ?_) h
      exact bubble hQ hg hs hi q p (fun k hk => hp k (.tail _ hk)) (fun hx k hk => hcx hx k (.tail _ hk)) (fun p1 k p2 e => hcy (j :: p1) k p2 (by rw [e]; rfl)) a w hh
    refine swap hQ hg hs hi hj hsw (fun hx k hk => ?_) (fun hy => hcy [] j p rfl y hj hy) h1
    have : k ∈ (j :: p) ++ i :: q := by simp at hk ⊢; rcases hk with h | h | h | h <;> simp [h]
    exact hcx hx k this

theorem getD_both {listed : Array Bool} {i : Nat} (h : listed.getD i true = false) : listed.getD i false = false := by
  rcases Nat.lt_or_ge i listed.size with h' | h'
  · simp [h'] at h ⊢; exact h
  · simp [Array.getElem?_eq_none h'] at h
theorem getD_in {listed : Array Bool} {i : Nat} (hi : i < listed.size) (h : listed.getD i false = false) : listed.getD i true = false := by
  simp [hi] at h ⊢; exact h
theorem getD_replicate_false (m j : Nat) : (Array.replicate m false).getD j false = false := by
  rcases Nat.lt_or_ge j m with h | h <;> simp [h]

/-- Nothing is lacking: what is listed is closed. -/
structure Inv (ops : Array Oper) (listed : Array Bool) : Prop where
  size : listed.size = ops.size
  closed : ∀ j oj, ops[j]? = some oj → listed.getD j false = true → ∀ e ∈ oj.after, Region.binds .any e = true → listed.getD e.on false = true

theorem anc_listed {anc : List (List Nat)} (hanc : ancOk ops anc = true) {listed : Array Bool} (inv : Inv ops listed) : ∀ (n j : Nat), j ≤ n → j < ops.size →
    (∀ oj, ops[j]? = some oj → ∀ e ∈ oj.after, Region.binds .any e = true → listed.getD e.on false = true) → ∀ k ∈ anc.getD j [], listed.getD k false = true := by
  intro n
  induction n with
  | zero =>
    intro j hj hlt hall k hk
    have h1 := List.all_eq_true.1 (List.all_eq_true.1 hanc j (List.mem_range.2 hlt)) k hk
    cases ho : ops[j]? with
    | none => simp [ho] at h1
    | some o =>
      simp only [ho] at h1
      obtain ⟨e, he, h2⟩ := Array.any_eq_true'.1 h1
      simp only [Bool.and_eq_true, decide_eq_true_eq] at h2
      omega
  | succ n ih =>
    intro j hj hlt hall k hk
    have h1 := List.all_eq_true.1 (List.all_eq_true.1 hanc j (List.mem_range.2 hlt)) k hk
    cases ho : ops[j]? with
    | none => simp [ho] at h1
    | some o =>
      simp only [ho] at h1
      obtain ⟨e, he, h2⟩ := Array.any_eq_true'.1 h1
      simp only [Bool.and_eq_true, Bool.or_eq_true, beq_iff_eq, decide_eq_true_eq, List.contains_iff_mem] at h2
      obtain ⟨⟨hb, hlt'⟩, h3⟩ := h2
      have hon := hall o ho e he hb
      rcases h3 with h3 | h3
      · rw [h3]; exact hon
      · exact ih e.on (by omega) (by omega) (fun oj hoj e' he' hb' => inv.closed _ _ hoj hon e' he' hb') k h3

/-- what is not listed yet, in the text's order -/
def rest (ops : Array Oper) (listed : Array Bool) : List Nat := (List.range ops.size).filter fun i => !listed.getD i true
theorem mem_rest {listed : Array Bool} {i : Nat} : i ∈ rest ops listed ↔ i < ops.size ∧ listed.getD i true = false := by
  simp [rest, List.mem_filter, List.mem_range]

theorem main {anc : List (List Nat)} (hchk : chkWith P ops anc = true) (hQ : ∀ e a w, Q e a w → e = .normal) (hg : ∀ a w, Q .normal a w → goodEnd P ops a = true) :
    ∀ (fuel : Nat) (listed : Array Bool) (a : Act) (w : World), (rest ops listed).length = fuel → Inv ops listed → wpOps P ops Q (rest ops listed) a w → wpAny P .any ops Q fuel listed a w := by
  unfold chkWith at hchk
  rw [Bool.and_eq_true] at hchk
  obtain ⟨hanc, hall⟩ := hchk
  have hall : ∀ j, j < ops.size → ∃ o, ops[j]? = some o ∧ selB o.op = false ∧ (∀ e ∈ o.after, Region.binds .any e = true → e.on < j) ∧
      (∀ i, i < j → (i ∈ anc.getD j []) ∨ ∃ oi, ops[i]? = some oi ∧ swapB P ops oi o = true) ∧
      (pureB P o.op = true → ∀ i, i < ops.size → i ∈ anc.getD j [] ∨ ∃ oi, ops[i]? = some oi ∧ ∀ d, oi.dst = some d → d ∉ plainSlots o) := by
    intro j hj
    have := List.all_eq_true.1 hall j (List.mem_range.2 hj)
    cases ho : ops[j]? with
    | none => simp [ho] at this
    | some o =>
      simp only [ho, Bool.and_eq_true, Bool.not_eq_true'] at this
      obtain ⟨⟨⟨h1, h2⟩, h3⟩, h4⟩ := this
      refine ⟨o, rfl, h1, fun e he hb => ?_, fun i hi => ?_, fun hp i hi => ?_⟩
      · have := Array.all_eq_true_iff_forall_mem.1 h2 e he
        simpa [hb] using this
      · have := List.all_eq_true.1 h3 i (List.mem_range.2 hi)
        rw [Bool.or_eq_true] at this
        rcases this with h | h
        · exact .inl (List.contains_iff_mem.1 h)
        · cases hoi : ops[i]? with
          | none => simp [hoi] at h
          | some oi => simp only [hoi] at h; exact .inr ⟨oi, rfl, h⟩
      · rw [hp] at h4
        simp only [Bool.not_true, Bool.false_or] at h4
        have := List.all_eq_true.1 h4 i (List.mem_range.2 hi)
        rw [Bool.or_eq_true] at this
        rcases this with h | h
        · exact .inl (List.contains_iff_mem.1 h)
        · cases hoi : ops[i]? with
          | none => simp [hoi] at h
          | some oi =>
            simp only [hoi] at h
            refine .inr ⟨oi, rfl, fun d hd => ?_⟩
            simp only [hd, Bool.not_eq_true'] at h
            intro hm
            rw [List.contains_iff_mem.2 hm] at h
            cases h
  have hs : ∀ (j : Nat) (o : Oper), ops[j]? = some o → selB o.op = false := fun j o ho => by
    obtain ⟨o', ho', h1, _⟩ := hall j (Array.getElem?_eq_some_iff.1 ho).1
    rw [ho] at ho'; cases ho'; exact h1
  intro fuel
  induction fuel with
  | zero =>
    intro listed a w hl inv h
    have hnil : rest ops listed = [] := List.eq_nil_of_length_eq_zero hl
    rw [hnil] at h
    refine ⟨?_, h⟩
    refine List.eq_nil_iff_forall_not_mem.2 fun i hi => ?_
    obtain ⟨h0, o, ho, _⟩ := mem_ready.1 hi
    have : i ∈ rest ops listed := mem_rest.2 ⟨(Array.getElem?_eq_some_iff.1 ho).1, h0⟩
    rw [hnil] at this; cases this
  | succ fuel ih =>
    intro listed a w hl inv h
    have hfirst : Region.ready .any ops listed ≠ [] := by
      cases hr : rest ops listed with
      | nil => rw [hr] at hl; cases hl
      | cons i s =>
        have hi : i ∈ rest ops listed := by rw [hr]; exact .head _
        obtain ⟨hlt, h0⟩ := mem_rest.1 hi
        obtain ⟨o, ho, _, he, _⟩ := hall i hlt
        have hmin : ∀ k ∈ rest ops listed, i ≤ k := by
          have hsorted : (rest ops listed).Pairwise (· < ·) := List.Pairwise.filter _ List.pairwise_lt_range
          rw [hr] at hsorted ⊢
          intro k hk
          rcases List.mem_cons.1 hk with rfl | hk
          · exact Nat.le_refl _
          · exact Nat.le_of_lt (List.rel_of_pairwise_cons hsorted hk)
        have : i ∈ Region.ready .any ops listed := mem_ready.2 ⟨h0, o, ho, fun e hm hb => by
          have hlt' := he e hm hb
          cases hd : listed.getD e.on false with
          | true => rfl
          | false =>
            have hin : e.on ∈ rest ops listed := mem_rest.2 ⟨by omega, getD_in (by rw [inv.size]; omega) hd⟩
            have := hmin _ hin
            omega⟩
        exact List.ne_nil_of_mem this
    refine ⟨fun e => absurd e hfirst, fun i hi => ?_⟩
    obtain ⟨h0, x, hx, hpre⟩ := mem_ready.1 hi
    have hlt : i < ops.size := (Array.getElem?_eq_some_iff.1 hx).1
    have hmem : i ∈ rest ops listed := mem_rest.2 ⟨hlt, h0⟩
    obtain ⟨p, q, hpq⟩ := List.append_of_mem hmem
    have hsorted : (rest ops listed).Pairwise (· < ·) := List.Pairwise.filter _ List.pairwise_lt_range
    rw [hpq] at hsorted h
    have hplt : ∀ j ∈ p, j < i := fun j hj => (List.pairwise_append.1 hsorted).2.2 j hj i (.head _)
    have hancl : ∀ k ∈ anc.getD i [], listed.getD k false = true := anc_listed hanc inv i i (Nat.le_refl _) hlt (fun oj hoj e he hb => by rw [hx] at hoj; cases hoj; exact hpre e he hb)
    have hin : ∀ k, k ∈ p ++ i :: q → k < ops.size ∧ listed.getD k true = false := fun k hk => mem_rest.1 (hpq ▸ hk)
    have hno : ∀ k, k ∈ p ++ i :: q → k ∉ anc.getD i [] := fun k hk hk' => by
      have h1 := hancl k hk'
      have h2 := (hin k hk).2
      rw [getD_both h2] at h1; cases h1
    obtain ⟨x', hx', _, _, hpair, hplain⟩ := hall i hlt
    rw [hx] at hx'; cases hx'
    have ancLt : ∀ j, j < ops.size → ∀ k ∈ anc.getD j [], k < j := by
      intro j
      induction j using Nat.strongRecOn with
      | _ j ihj =>
        intro hj k hk
        have h1 := List.all_eq_true.1 (List.all_eq_true.1 hanc j (List.mem_range.2 hj)) k hk
        cases ho : ops[j]? with
        | none => simp [ho] at h1
        | some o =>
          simp only [ho] at h1
          obtain ⟨e, he, h2⟩ := Array.any_eq_true'.1 h1
          simp only [Bool.and_eq_true, Bool.or_eq_true, beq_iff_eq, decide_eq_true_eq, List.contains_iff_mem] at h2
          obtain ⟨⟨_, hlt'⟩, h3⟩ := h2
          rcases h3 with h3 | h3
          · omega
          · have := ihj e.on hlt' (by omega) k h3; omega
    have hbub := bubble hQ hg hs hx q p
      (fun j hj => by
        rcases hpair j (hplt j hj) with hh | ⟨oi, hoi, hsw⟩
        · exact absurd hh (hno j (List.mem_append_left _ hj))
        · exact ⟨oi, hoi, hsw⟩)
      (fun hp k hk => by
        rcases hplain hp k (hin k hk).1 with hh | hh
        · exact absurd hh (hno k hk)
        · exact hh)
      (fun p1 j p2 e y hy hp k hk => by
        have hjm : j ∈ p ++ i :: q := by rw [e]; simp
        obtain ⟨y', hy', _, _, _, hplain'⟩ := hall j (hin j hjm).1
        rw [hy] at hy'; cases hy'
        have hkm : k ∈ p ++ i :: q := by rw [e]; simp at hk ⊢; rcases hk with h | h | h | h <;> simp [h]
        rcases hplain' hp k (hin k hkm).1 with hh | hh
        · have h1 := ancLt j (hin j hjm).1 k hh
          have h2 : j ≤ k := by
            rcases List.mem_cons.1 hk with rfl | hk
            · exact Nat.le_refl _
            · rcases List.mem_cons.1 hk with rfl | hk
              · exact Nat.le_of_lt (hplt j (by rw [e]; simp))
              · rw [e, List.append_assoc] at hsorted
                have h3 := (List.pairwise_append.1 hsorted).2.1
                rw [List.cons_append] at h3
                refine Nat.le_of_lt (List.rel_of_pairwise_cons h3 ?_)
                rcases List.mem_append.1 hk with hk | hk
                · exact List.mem_append_left _ hk
                · exact List.mem_append_right _ (.tail _ hk)
          omega
        · exact hh) a w h
    rw [wpOps_cons] at hbub
    refine wpOp_mono (fun a1 w1 h1 => ?_) hbub
    have hrest : rest ops (listed.setIfInBounds i true) = p ++ q := by
      have hnd : i ∉ p ∧ i ∉ q := by
        refine ⟨fun hh => ?_, fun hh => ?_⟩
        · exact absurd (hplt i hh) (Nat.lt_irrefl _)
        · have := List.rel_of_pairwise_cons (List.pairwise_append.1 hsorted).2.1 hh
          exact absurd this (Nat.lt_irrefl _)
      have e : rest ops (listed.setIfInBounds i true) = (rest ops listed).filter fun k => k != i := by
        unfold rest
        rw [List.filter_filter]
        refine List.filter_congr fun k hk => ?_
        by_cases hki : k = i
        · subst hki
          have : (listed.setIfInBounds k true).getD k true = true := by
            have : k < listed.size := by rw [inv.size]; exact hlt
            simp [this]
          rw [this]; simp
        · rw [getD_set_ne true (Ne.symm hki)]
          simp [hki]
      rw [e, hpq, List.filter_append, List.filter_cons]
      simp only [bne_self_eq_false, Bool.false_eq_true, if_false]
      rw [List.filter_eq_self.2 fun k hk => by simp; rintro rfl; exact hnd.1 hk, List.filter_eq_self.2 fun k hk => by simp; rintro rfl; exact hnd.2 hk]
    refine ih _ _ _ ?_ ⟨by simp [inv.size], fun j oj hoj hj e he hbe => ?_⟩ (hrest ▸ h1)
    · rw [hrest]
      rw [hpq] at hl
      simp at hl ⊢
      omega
    · by_cases hji : j = i
      · subst hji; rw [hx] at hoj; cases hoj; exact getD_set_true (hpre e he hbe)
      · rw [getD_set_ne false (Ne.symm hji)] at hj
        exact getD_set_true (inv.closed j oj hoj hj e he hbe)

theorem rest_all : rest ops (Array.replicate ops.size false) = List.range ops.size := by
  unfold rest
  refine List.filter_eq_self.2 fun i hi => ?_
  have := List.mem_range.1 hi
  simp [this]

/-- A REGION THAT DRAWS ITS ORDER, WALKED IN THE ORDER OF ITS TEXT. -/
theorem wp_region_text {id : Nat} {l : List Oper} {a : Act} {w : World} (hm : P.follows .mixedOrders = true) (hchk : chk P l.toArray = true)
    (h : wpList P l.toArray (EndQ P l.toArray Q) l a w.drew) : (Code.region id l.toArray true).wp P Q a w := by
  have key : (Code.region id l.toArray true).wp P (EndQ P l.toArray Q) a w := by
    refine wp_region_any hm ?_
    have hh : wpOps P l.toArray (EndQ P l.toArray Q) (List.range l.toArray.size) a w.drew := by
      rw [List.range_eq_range', ← Array.length_toList, wpOps_eq_wpList l.toArray.toList 0 (by simp)]; exact h
    have hr := rest_all (ops := l.toArray)
    refine main hchk (fun e a w hq => by cases e <;> first | rfl | exact hq.elim) (fun a w hq => hq.1) _ _ _ _ (by rw [hr]; simp) ⟨by simp, fun j oj _ hj => ?_⟩ (by rw [hr]; exact hh)
    rw [getD_replicate_false] at hj; cases hj
  exact Code.wp_mono (fun e a w hq => by cases e <;> first | exact hq.2 | exact hq.elim) key
end
end Go.Gx

/- The abstract machine on data, part 5: its operations are sound over the model. -/
import Derived.Test.YtgakndkfbhhcnaaGreatAv4
set_option linter.unusedVariables false
set_option linter.unusedSimpArgs false
/- The abstract machine on data: one operation with its guard, and a region in the order of its text. -/
namespace Go.Avm
open Go

theorem lk_cons {α : Type} (i : Nat) (x : α) (l : List (Nat × α)) (j : Nat) : lk ((i, x) :: l) j = if j = i then some x else lk l j := by
  rw [lk]
  by_cases h : i = j
  · subst h; simp
  · have h1 : Nat.beq i j = false := by
      cases hb : Nat.beq i j
      · rfl
      · exact absurd (beq_nat.1 hb) h
    simp [h1, Ne.symm h]
theorem lk_put (env : List (Nat × V)) (dst : Option Nat) (v : V) : lk (put dst v env) = putρ (lk env) dst v := by
  funext t
  cases dst with
  | none => rfl
  | some d => simp [put, putρ, updρ, lk_cons]

/-- one operation with its guard, on environments as functions -/
def stepD (C : Calls) (o : AOper) (ρ : Nat → Option V) (h : H) : Option Did :=
  match o.guard with
  | none => opSem C ρ h o.op
  | some (t, want) => match ρ t with
    | some (.d (.bool b)) => if b == want then opSem C ρ h o.op else some ⟨.d .undef, h, none, .p⟩
    | some (.d .undef) => some ⟨.d .undef, h, none, .p⟩
    | _ => none
def outρ (o : AOper) (ρ : Nat → Option V) (y : Did) : Nat → Option V := putρ (slotρ ρ y.slot) o.dst y.val

theorem step_stepD {C : Calls} {o : AOper} {s s' : St} {c : Cls} (hs : step C o s = some (s', c)) :
    ∃ y, stepD C o (lk s.env) s.heap = some y ∧ lk s'.env = outρ o (lk s.env) y ∧ s'.heap = y.heap ∧ c = y.cls ∧ s'.log = addLog c s.log := by
  have go : ∀ (r : Option (St × Cls)), r = (match opSem C (lk s.env) s.heap o.op with
      | some ⟨v, h, none, c⟩ => some (⟨put o.dst v s.env, h, addLog c s.log⟩, c)
      | some ⟨v, h, some (a, u), c⟩ => some (⟨put o.dst v ((a, u) :: s.env), h, addLog c s.log⟩, c)
      | none => none) → r = some (s', c) → ∃ y, opSem C (lk s.env) s.heap o.op = some y ∧ lk s'.env = outρ o (lk s.env) y ∧ s'.heap = y.heap ∧ c = y.cls ∧ s'.log = addLog c s.log := by
    intro r hr hr'
    rw [hr'] at hr
    split at hr
    · rename_i v h c' he
      injection hr with hr; injection hr with h1 h2; subst h1 h2
      exact ⟨_, he, by simp [outρ, slotρ, lk_put], rfl, rfl, rfl⟩
    · rename_i v h a u c' he
      injection hr with hr; injection hr with h1 h2; subst h1 h2
      refine ⟨_, he, ?_, rfl, rfl, rfl⟩
      simp only [outρ, slotρ, lk_put]
      congr 1
      funext t
      simp [lk_cons, updρ]
    · cases hr
  unfold step at hs
  unfold stepD
  cases hg : o.guard with
  | none => simp only [hg] at hs ⊢; exact go _ rfl hs
  | some g =>
    obtain ⟨t, want⟩ := g
    simp only [hg] at hs ⊢
    have skip : some ((⟨put o.dst (.d .undef) s.env, s.heap, s.log⟩ : St), Cls.p) = some (s', c) →
        ∃ y, some (⟨.d .undef, s.heap, none, .p⟩ : Did) = some y ∧ lk s'.env = outρ o (lk s.env) y ∧ s'.heap = y.heap ∧ c = y.cls ∧ s'.log = addLog c s.log := by
      intro e
      injection e with e; injection e with e1 e2; subst e1 e2
      exact ⟨_, rfl, by simp [outρ, slotρ, lk_put], rfl, rfl, (by show s.log = addLog .p s.log; cases s.log <;> rfl)⟩
    split at hs
    · rename_i b he
      simp only [he]
      split at hs
      · rename_i hb; simp only [hb, if_true]; exact go _ rfl hs
      · rename_i hb; simp only [hb]; exact skip hs
    · rename_i he
      simp only [he]; exact skip hs
    · cases hs

section
variable {P : Program} {G : Start} {N : Nat} {w w' : World} {k k' : K} {μ μ' : Nat → Loc} {hb : Nat → Nat} {ρ : Nat → Option V} {h h' : H} {a : Act} {Q : Exit → Act → World → Prop} {C : Calls} {y : Did}

def chkOper (P : Program) (N : Nat) (ops : Array Oper) (o : Oper) (ao : AOper) : Bool :=
  (match o.dst, ao.dst with
   | none, none => true
   | some d, some d' => Nat.beq d d' && Nat.blt d N
   | _, _ => false) &&
  (match o.guard, ao.guard with
   | none, none => true
   | some (j, want), some (t, want') => want == want' && (match ops[j]? with
     | some oj => (match oj.dst with
       | some d => Nat.beq d t
       | none => false)
     | none => false)
   | _, _ => false) && chkOp P o ao.op

theorem yielded_bool (r : Rel G N w k μ hb ρ h a) {ops : Array Oper} {j t : Nat} {oj : Oper} (hj : ops[j]? = some oj) (hd : oj.dst = some t) {b : Bool} (hv : ρ t = some (.d (.bool b))) : yielded ops a.tmps j = some b := by
  have h1 := r.env t _ hv (by intro m e; cases e)
  generalize hu : a.tmps.getD t undef = u at h1
  cases h1 with
  | d _ _ h1 =>
    cases h1
    unfold yielded
    simp only [hj, Option.bind_some, hd]
    have h2 : t < a.tmps.size := by
      rcases Nat.lt_or_ge t a.tmps.size with h | h
      · exact h
      · simp [Array.getD_eq_getD_getElem?, Array.getElem?_eq_none h, undef] at hu
    have h3 : a.tmps[t]? = some (.bool b) := by
      rw [Array.getD_eq_getD_getElem?, Array.getElem?_eq_getElem h2] at hu
      rw [Array.getElem?_eq_getElem h2]; simpa using hu
    rw [h3]
theorem yielded_undef (r : Rel G N w k μ hb ρ h a) {ops : Array Oper} {j t : Nat} {oj : Oper} (hj : ops[j]? = some oj) (hd : oj.dst = some t) (hv : ρ t = some (.d .undef)) : yielded ops a.tmps j = none := by
  have h1 := r.env t _ hv (by intro m e; cases e)
  generalize hu : a.tmps.getD t undef = u at h1
  cases h1 with
  | d _ _ h1 =>
    cases h1
    unfold yielded
    simp only [hj, Option.bind_some, hd]
    cases h2 : a.tmps[t]? with
    | none => rfl
    | some x =>
      rw [Array.getD_eq_getD_getElem?, h2] at hu
      simp only [Option.getD_some] at hu
      subst hu; rfl

theorem stepD_sound (hC : CallsOk P C) (r : Rel G N w k μ hb ρ h a) {ops : Array Oper} {i : Nat} {o : Oper} (hi : ops[i]? = some o) {ao : AOper} (hk : chkOper P N ops o ao = true) (hs : stepD C ao ρ h = some y)
    {K : Act → World → Prop} (hK : ∀ k' μ' hb' a' w', Rel G N w' k' μ' hb' (outρ ao ρ y) y.heap a' → K a' w') : wpOp P ops Q i K a w := by
  unfold wpOp
  simp only [hi]
  simp only [chkOper, Bool.and_eq_true] at hk
  obtain ⟨⟨k1, k2⟩, k3⟩ := hk
  have hd : o.dst = ao.dst ∧ ∀ d, o.dst = some d → d < N := by
    split at k1
    · rename_i e1 e2; exact ⟨by rw [e1, e2], by intro d hd; rw [e1] at hd; cases hd⟩
    · rename_i d d' e1 e2
      simp only [Bool.and_eq_true] at k1
      have := beq_nat.1 k1.1
      subst this
      refine ⟨by rw [e1, e2], ?_⟩
      intro d2 hd2
      rw [e1] at hd2; injection hd2 with hd2; subst hd2
      simpa using k1.2
    · cases k1
  have did : opSem C ρ h ao.op = some y → o.wp P a w K Q := fun hy => Oper.wp_mono (fun a' w' hx => by
    obtain ⟨k', μ', hb', hr⟩ := hx
    rw [hd.1] at hr
    exact hK k' μ' hb' a' w' hr) (op_sound hC r hd.2 k3 hy)
  have skip : some (⟨.d .undef, h, none, .p⟩ : Did) = some y → K (a.put o.dst undef) w := fun hy => by
    injection hy with hy; subst hy
    refine hK k μ hb _ _ ?_
    have := r.put hd.2 (u := undef) (v := .d .undef) (.d _ _ .undef)
    rw [hd.1] at this ⊢
    exact this
  unfold stepD at hs
  split at k2
  · rename_i e1 e2
    simp only [e2] at hs
    simp only [Region.wanted, e1, if_true]
    exact .inl (did hs)
  · rename_i j want t want' e1 e2
    simp only [e2] at hs
    simp only [Bool.and_eq_true, beq_iff_eq] at k2
    obtain ⟨rfl, k2⟩ := k2
    split at k2
    · rename_i oj hj
      split at k2
      · rename_i d hdj
        have := beq_nat.1 k2
        subst this
        split at hs
        · rename_i b hb'
          simp only [Region.wanted, e1, yielded_bool r hj hdj hb']
          by_cases hbw : b = want
          · subst hbw
            simp only [BEq.rfl, if_true] at hs ⊢
            exact .inl (did hs)
          · have e3 : (b == want) = false := by simp [hbw]
            have e4 : (some b == some want) = false := by simp [hbw]
            simp only [e3] at hs
            simp only [e4]
            exact skip hs
        · rename_i hb'
          simp only [Region.wanted, e1, yielded_undef r hj hdj hb']
          exact skip hs
        · cases hs
      · cases k2
    · cases k2
  · cases k2

/-! a region in its text's order -/
def chkOps (P : Program) (N : Nat) (ops : Array Oper) : Nat → List AOper → Bool
  | i, [] => Nat.beq i ops.size
  | i, ao :: l => (match ops[i]? with
    | some o => chkOper P N ops o ao
    | none => false) && chkOps P N ops (i + 1) l

theorem runOps_sound (hC : CallsOk P C) {ops : Array Oper} : ∀ (l : List AOper) (i : Nat) (s s' : St) (w : World) (k : K) (μ : Nat → Loc) (hb : Nat → Nat) (a : Act),
    chkOps P N ops i l = true → Rel G N w k μ hb (lk s.env) s.heap a → runOps C l s = some s' →
    (∀ k' μ' hb' a' w', Rel G N w' k' μ' hb' (lk s'.env) s'.heap a' → Q .normal a' w') → wpOps P ops Q (List.range' i (ops.size - i)) a w
  | [], i, s, s', w, k, μ, hb, a, hk, r, hs, hq => by
    simp only [chkOps] at hk
    have := beq_nat.1 hk
    subst this
    simp only [runOps] at hs
    injection hs with hs; subst hs
    simpa [wpOps] using hq _ _ _ _ _ r
  | ao :: l, i, s, s', w, k, μ, hb, a, hk, r, hs, hq => by
    simp only [chkOps, Bool.and_eq_true] at hk
    obtain ⟨h1, h2⟩ := hk
    split at h1
    · rename_i o hi
      have hlt : i < ops.size := (Array.getElem?_eq_some_iff.1 hi).1
      rw [show ops.size - i = (ops.size - (i + 1)) + 1 by omega, List.range'_succ, wpOps_cons]
      simp only [runOps] at hs
      split at hs
      · rename_i s1 c hst
        obtain ⟨y, e1, e2, e3, e4, _⟩ := step_stepD hst
        refine stepD_sound hC r hi h1 e1 fun k' μ' hb' a' w' r' => ?_
        rw [← e2, ← e3] at r'
        exact runOps_sound hC l (i + 1) s1 s' w' k' μ' hb' a' h2 r' hs hq
      · cases hs
    · cases h1

theorem region_sound (hC : CallsOk P C) {ops : Array Oper} {id : Nat} {l : List AOper} {s s' : St} (hk : chkOps P N ops 0 l = true) (r : Rel G N w k μ hb (lk s.env) s.heap a) (hs : runOps C l s = some s')
    (hq : ∀ k' μ' hb' a' w', Rel G N w' k' μ' hb' (lk s'.env) s'.heap a' → Q .normal a' w') : (Code.region id ops false).wp P Q a w := by
  refine wp_region ?_
  rw [List.range_eq_range']
  exact runOps_sound hC l 0 s s' w k μ hb a hk r hs hq
end
end Go.Avm

/- The abstract machine on data: what an operation looks at; what it does by its class. -/
namespace Go.Avm
open Go

def opT : Opnd → List Nat
  | .t n => [n]
  | .c _ => []
def opTs : List Opnd → List Nat
  | [] => []
  | x :: l => opT x ++ opTs l
def optT : Option Opnd → List Nat
  | some x => opT x
  | none => []
def parT : List (Nat × Nat × Opnd) → List Nat
  | [] => []
  | (_, _, x) :: l => opT x ++ parT l
def parS : List (Nat × Opnd) → List Nat
  | [] => []
  | (_, x) :: l => opT x ++ parS l
/-- the slots that an operation looks at -/
def looksO : AOp → List Nat
  | .mv x | .box x | .boxF x | .load _ _ x | .nilck x | .eqNil _ _ x | .un _ x | .conv _ x | .convStr x | .mkI _ x | .fld _ _ _ x | .fAddr _ x | .tassert x _ _ _ | .ext x _ | .len _ x | .clear _ _ x | .cap x | .range x | .next x | .entry x => opT x
  | .pick c a b => opT c ++ (opT a ++ opT b)
  | .alloc _ | .hole _ | .mkMap | .unk => []
  | .build _ ps => parT ps
  | .store _ a x => opT a ++ opT x
  | .storeF _ a x => [a] ++ opT x
  | .bin _ x y | .eqB _ x y | .eqPtrs _ _ x y | .iAddr _ x y | .iAddrA _ _ x y | .idxS x y | .lookup _ _ x y _ | .mapEnt _ _ x y | .append _ _ x y | .appendZ _ _ _ x y | .copy _ x y | .mkSl _ _ _ x y => opT x ++ opT y
  | .mkF _ xs ys => opTs xs ++ opTs ys
  | .buildS _ _ _ ps _ => parS ps
  | .slice _ x lo hi mx => opT x ++ (optT lo ++ (optT hi ++ optT mx))
  | .sliceStr x lo hi => opT x ++ (optT lo ++ optT hi)
  | .mapUp _ m k x => opT m ++ (opT k ++ opT x)
  | .entSt m s x => opT m ++ (opT s ++ opT x)
  | .call _ xs | .callX _ xs | .callS _ xs | .max xs | .min xs => opTs xs
  | .callV g xs => opT g ++ opTs xs

section
variable {C : Calls} {ρ ρ' : Nat → Option V} {h : H}

def Same (ρ ρ' : Nat → Option V) (l : List Nat) : Prop := ∀ t ∈ l, ρ t = ρ' t
theorem same_append {l m : List Nat} : Same ρ ρ' (l ++ m) ↔ Same ρ ρ' l ∧ Same ρ ρ' m := by
  constructor
  · intro h; exact ⟨fun t ht => h t (List.mem_append_left _ ht), fun t ht => h t (List.mem_append_right _ ht)⟩
  · rintro ⟨h1, h2⟩ t ht
    rcases List.mem_append.1 ht with h | h
    · exact h1 t h
    · exact h2 t h
theorem same_cons {i : Nat} : Same ρ ρ' [i] ↔ ρ i = ρ' i := by simp [Same]
theorem opv_same {x : Opnd} (h : Same ρ ρ' (opT x)) : opv ρ x = opv ρ' x := by
  cases x with
  | c d => rfl
  | t n => simp only [opT, same_cons] at h; simp only [opv, h]
theorem opvs_same : ∀ {l : List Opnd}, Same ρ ρ' (opTs l) → opvs ρ l = opvs ρ' l
  | [], _ => rfl
  | x :: l, h => by
    simp only [opTs, same_append] at h
    simp only [opvs, opv_same h.1, opvs_same h.2]
theorem asNs_same {x : Option Opnd} (h : Same ρ ρ' (optT x)) : asNs ρ x = asNs ρ' x := by
  cases x with
  | none => rfl
  | some x => simp only [optT] at h; simp only [asNs, opv_same h]
theorem partsV_same : ∀ {l : List (Nat × Nat × Opnd)}, Same ρ ρ' (parT l) → partsV ρ l = partsV ρ' l
  | [], _ => rfl
  | (_, _, x) :: l, h => by
    simp only [parT, same_append] at h
    simp only [partsV, opv_same h.1, partsV_same h.2]
theorem partsS_same {z : Nat} : ∀ {l : List (Nat × Opnd)}, Same ρ ρ' (parS l) → partsS ρ z l = partsS ρ' z l
  | [], _ => rfl
  | (_, x) :: l, h => by
    simp only [parS, same_append] at h
    simp only [partsS, opv_same h.1, partsS_same h.2]

theorem opSem_same {ao : AOp} (hl : Same ρ ρ' (looksO ao)) : opSem C ρ h ao = opSem C ρ' h ao := by
  cases ao <;> simp only [looksO, same_append, same_cons] at hl
  case alloc => rfl
  case hole => rfl
  case mkMap => rfl
  case unk => rfl
  all_goals (try simp only [opSem])
  case build => simp only [partsV_same hl]
  case buildS => simp only [partsS_same hl]
  case slice => simp only [opv_same hl.1, asNs_same hl.2.1, asNs_same hl.2.2.1, asNs_same hl.2.2.2]
  case sliceStr => simp only [opv_same hl.1, asNs_same hl.2.1, asNs_same hl.2.2]
  case mkF => simp only [opvs_same hl.1, opvs_same hl.2]
  case callV => simp only [opv_same hl.1, opvs_same hl.2]
  case storeF => simp only [hl.1, opv_same hl.2]
  case un => simp only [opv_same hl]
  all_goals first
    | simp only [opv_same hl]
    | simp only [opvs_same hl]
    | simp only [opv_same hl.1, opv_same hl.2]
    | simp only [opv_same hl.1, opv_same hl.2.1, opv_same hl.2.2]

def looks (o : AOper) : List Nat := (match o.guard with
  | some (t, _) => [t]
  | none => []) ++ looksO o.op
def writes (o : AOper) : List Nat := (match o.dst with
  | some d => [d]
  | none => []) ++ (match o.op with
  | .storeF _ a _ => [a]
  | _ => [])
theorem stepD_same {o : AOper} (hl : Same ρ ρ' (looks o)) : stepD C o ρ h = stepD C o ρ' h := by
  unfold stepD
  unfold looks at hl
  rw [same_append] at hl
  rw [opSem_same hl.2]
  cases hg : o.guard with
  | none => rfl
  | some g => obtain ⟨t, want⟩ := g; have := hl.1; rw [hg] at this; simp only [same_cons] at this; simp only [this]
end
end Go.Avm

/- The abstract machine on data: what an operation does to the objects, by its class. -/
namespace Go.Avm
open Go

def app (s : Option (Nat × Obj)) (n : List Obj) (h : H) : H := n.foldl H.new (match s with
  | some (o, x) => h.set o x
  | none => h)
def LocalAt (F : H → Option Did) (h : H) (y : Did) : Prop := match y.cls with
  | .g _ => True
  | .r rd wr al => ∃ s n, y.heap = app s n h ∧ (∀ o x, s = some (o, x) → o ∈ wr ∧ h.get o ≠ .dead) ∧ (al = false → n = []) ∧ (∀ o, o ∈ wr → o ∈ rd) ∧
      ∀ h2 : H, (∀ o, o ∈ rd → h2.get o = h.get o) → (al = true → h2.next = h.next ∧ h2.top = h.top) → F h2 = some ⟨y.val, app s n h2, y.slot, .r rd wr al⟩

section
variable {C : Calls} {ρ ρ' : Nat → Option V} {h : H} {F : H → Option Did} {y : Did} {v : V} {sl : Option (Nat × V)}

theorem localP (hF : ∀ h2, F h2 = some ⟨v, h2, sl, .p⟩) : LocalAt F h ⟨v, h, sl, .p⟩ :=
  ⟨none, [], rfl, by simp, by simp, by simp, fun h2 _ _ => hF h2⟩
theorem localL {o : Nat} (hF : ∀ h2, h2.get o = h.get o → F h2 = some ⟨v, h2, sl, .l o⟩) : LocalAt F h ⟨v, h, sl, .l o⟩ :=
  ⟨none, [], rfl, by simp, by simp, by simp, fun h2 hr _ => hF h2 (hr o (by simp))⟩
theorem localS {o : Nat} {x : Obj} (hd : h.get o ≠ .dead) (hF : ∀ h2, h2.get o = h.get o → F h2 = some ⟨v, h2.set o x, sl, .s o⟩) : LocalAt F h ⟨v, h.set o x, sl, .s o⟩ :=
  ⟨some (o, x), [], rfl, by rintro o' x' e; injection e with e; injection e with e1 e2; subst e1; exact ⟨by simp, hd⟩, by simp, by simp, fun h2 hr _ => hF h2 (hr o (by simp))⟩
theorem localA {x : Obj} (hF : ∀ h2 : H, h2.next = h.next → F h2 = some ⟨v, h2.new x, sl, .a⟩) : LocalAt F h ⟨v, h.new x, sl, .a⟩ :=
  ⟨none, [x], rfl, by simp, by simp, by simp, fun h2 _ hn => hF h2 (hn rfl).1⟩
theorem localG {h' : H} {ws : Option (List Nat)} : LocalAt F h ⟨v, h', sl, .g ws⟩ := trivial

/-! what a callee hands over makes new objects only -/
theorem imp_app : ∀ n : Nat,
    (∀ seen hc h v v' h' seen', imp n seen hc h v = some (v', h', seen') → ∃ ns, h' = app none ns h ∧ ∀ h2 : H, h2.next = h.next → h2.top = h.top → imp n seen hc h2 v = some (v', app none ns h2, seen')) ∧
    (∀ seen hc h vs v' h' seen', impL n seen hc h vs = some (v', h', seen') → ∃ ns, h' = app none ns h ∧ ∀ h2 : H, h2.next = h.next → h2.top = h.top → impL n seen hc h2 vs = some (v', app none ns h2, seen')) := by
  have next : ∀ (ns : List Obj) (h h2 : H), h2.next = h.next → h2.top = h.top → (app none ns h2).next = (app none ns h).next ∧ (app none ns h2).top = (app none ns h).top := by
    intro ns
    induction ns with
    | nil => intro h h2 e e'; exact ⟨e, e'⟩
    | cons x ns ih =>
      intro h h2 e e'
      have hu : h2.up = h.up := by simp [H.up, e, e']
      exact ih (h.new x) (h2.new x) (by simp [H.next_new, hu]) (by simp [H.top_new, hu])
  have cat : ∀ (ns ms : List Obj) (h : H), app none ms (app none ns h) = app none (ns ++ ms) h := by
    intro ns ms h; simp [app]
  intro n
  induction n with
  | zero =>
    refine ⟨fun seen hc h v v' h' seen' he => by simp [imp] at he, fun seen hc h vs v' h' seen' he => ?_⟩
    cases vs with
    | nil => simp only [impL] at he; injection he with he; injection he with e1 he; injection he with e2 e3; subst e1 e2 e3; exact ⟨[], rfl, fun h2 _ _ => rfl⟩
    | cons v vs => simp [impL] at he
  | succ n ih =>
    obtain ⟨ih1, ih2⟩ := ih
    refine ⟨?_, ?_⟩
    · intro seen hc h v v' h' seen' he
      cases v with
      | d x => simp only [imp] at he; injection he with he; injection he with e1 he; injection he with e2 e3; subst e1 e2 e3; exact ⟨[], rfl, fun h2 _ _ => rfl⟩
      | arr o off k z cap =>
        simp only [imp] at he
        split at he
        · cases he
        · rename_i hs
          split at he
          · rename_i cs hg
            split at he
            · rename_i ds hd
              injection he with he; injection he with e1 he; injection he with e2 e3; subst e1 e2 e3
              refine ⟨[.cells cs], rfl, fun h2 hn ht => ?_⟩
              simp only [imp, hs, hg, hd, hn]; rfl
            · cases he
          · cases he
      | agg vs =>
        simp only [imp] at he
        split at he
        · rename_i vs' h1 seen1 he1
          injection he with he; injection he with e1 he; injection he with e2 e3; subst e1 e2 e3
          obtain ⟨ns, h3, h4⟩ := ih2 _ _ _ _ _ _ _ he1
          exact ⟨ns, h3, fun h2 hn ht => by simp only [imp, h4 h2 hn ht]⟩
        · cases he
      | tuple vs =>
        simp only [imp] at he
        split at he
        · rename_i vs' h1 seen1 he1
          injection he with he; injection he with e1 he; injection he with e2 e3; subst e1 e2 e3
          obtain ⟨ns, h3, h4⟩ := ih2 _ _ _ _ _ _ _ he1
          exact ⟨ns, h3, fun h2 hn ht => by simp only [imp, h4 h2 hn ht]⟩
        · cases he
      | ptr => simp [imp] at he
      | mapr => simp [imp] at he
      | func => simp [imp] at he
      | iface => simp [imp] at he
      | hole => simp [imp] at he
    · intro seen hc h vs v' h' seen' he
      cases vs with
      | nil => simp only [impL] at he; injection he with he; injection he with e1 he; injection he with e2 e3; subst e1 e2 e3; exact ⟨[], rfl, fun h2 _ _ => by simp [impL, app]⟩
      | cons v vs =>
        simp only [impL] at he
        split at he
        · rename_i u h1 seen1 he1
          split at he
          · rename_i us h2' seen2 he2
            injection he with he; injection he with e1 he; injection he with e2 e3; subst e1 e2 e3
            obtain ⟨ns, h3, h4⟩ := ih1 _ _ _ _ _ _ _ he1
            obtain ⟨ms, h5, h6⟩ := ih2 _ _ _ _ _ _ _ he2
            refine ⟨ns ++ ms, by rw [h5, h3, cat], fun h2 hn ht => ?_⟩
            have := h6 (app none ns h2) (by rw [h3]; exact (next ns h h2 hn ht).1) (by rw [h3]; exact (next ns h h2 hn ht).2)
            simp only [impL, h4 h2 hn ht, this, cat]
          · cases he
        · cases he

/-- operations that touch no object -/
def pOnly : AOp → Bool
  | .mv _ | .pick .. | .build .. | .hole _ | .nilck _ | .bin .. | .eqB .. | .eqNil .. | .eqPtrs .. | .un .. | .conv .. | .convStr _ | .mkI .. | .mkF .. | .slice .. | .sliceStr .. | .fld .. | .fAddr .. | .iAddr .. | .iAddrA .. | .idxS .. |
    .tassert .. | .ext .. | .cap _ | .max _ | .min _ => true
  | _ => false
theorem did_map {h h2 : H} {x : Option V} : did h2 .p x = (did h .p x).map fun y => ⟨y.val, h2, y.slot, y.cls⟩ := by cases x <;> rfl
theorem did_p {h : H} {x : Option V} : did h .p x = some y → y.cls = .p ∧ y.heap = h := by
  intro e; obtain ⟨v, _, rfl⟩ := did_eq e; exact ⟨rfl, rfl⟩
set_option maxHeartbeats 2000000 in
theorem p_map {ao : AOp} (hp : pOnly ao = true) (h h2 : H) : opSem C ρ h2 ao = (opSem C ρ h ao).map fun y => ⟨y.val, h2, y.slot, y.cls⟩ := by
  cases ao <;> simp only [pOnly] at hp <;> first | (cases hp; done) | skip
  all_goals (simp only [opSem, did_map (h := h) (h2 := h2)]; try rfl)
  all_goals (repeat' split)
  all_goals first
    | rfl
    | simp_all
set_option maxHeartbeats 2000000 in
theorem p_cls {ao : AOp} (hp : pOnly ao = true) (hs : opSem C ρ h ao = some y) : y.cls = .p ∧ y.heap = h := by
  cases ao <;> simp only [pOnly] at hp <;> first | (cases hp; done) | skip
  all_goals (simp only [opSem] at hs)
  all_goals (repeat' (split at hs))
  all_goals first
    | exact did_p hs
    | (cases hs; done)
    | (injection hs with hs; subst hs; exact ⟨rfl, rfl⟩)
end
end Go.Avm

/- The abstract machine on data: every operation does to the objects what its class says. -/
namespace Go.Avm
open Go

section
variable {C : Calls} {ρ ρ' : Nat → Option V} {h : H} {F : H → Option Did} {y : Did} {v : V} {sl : Option (Nat × V)}

theorem elems_same {z : Nat} {x : V} {h h2 : H} (hg : ∀ o, o ∈ ids x → h2.get o = h.get o) : elems h2 z x = elems h z x := by
  cases x with
  | d x => cases x <;> rfl
  | arr o off n z' cap => simp only [elems, hg o (by simp [ids])]
  | _ => rfl
theorem nd_cells {o : Nat} {cs : List V} (hg : h.get o = .cells cs) : h.get o ≠ .dead := by rw [hg]; simp
theorem nd_map {o : Nat} {ks : List D} {vs : List V} (hg : h.get o = .map ks vs) : h.get o ≠ .dead := by rw [hg]; simp

/-- appending, with the objects that it reads known -/
theorem appendE_local {z bytes : Nat} {s : V} {m : Nat} {xs : List V} {v : V} {h' : H} (he : appendE z bytes h s m xs = some (v, h')) :
    ∃ st ns, h' = app st ns h ∧ (∀ o x, st = some (o, x) → o ∈ ids s ∧ h.get o ≠ .dead) ∧ ∀ h2 : H, (∀ o, o ∈ ids s → h2.get o = h.get o) → h2.next = h.next → appendE z bytes h2 s m xs = some (v, app st ns h2) := by
  have nothing : ∀ {v' : V}, (v', h) = (v, h') → v = v' ∧ h' = app none [] h := by
    intro v' e; injection e with e1 e2; subst e1 e2; exact ⟨rfl, rfl⟩
  unfold appendE at he
  split at he
  · split at he
    · rename_i hm
      injection he with he; obtain ⟨rfl, rfl⟩ := nothing he
      exact ⟨none, [], rfl, by simp, fun h2 _ _ => by simp only [appendE, hm, if_true]; rfl⟩
    · rename_i hm
      split at he
      · rename_i hb
        injection he with he; injection he with e1 e2; subst e1 e2
        exact ⟨none, [.cells xs], rfl, by simp, fun h2 _ hn => by simp only [appendE]; rw [if_neg hm, if_pos hb, hn]; rfl⟩
      · cases he
  · split at he
    · rename_i hm
      injection he with he; obtain ⟨rfl, rfl⟩ := nothing he
      exact ⟨none, [], rfl, by simp, fun h2 _ _ => by simp only [appendE, hm, if_true]; rfl⟩
    · rename_i hm
      split at he
      · rename_i hb
        injection he with he; injection he with e1 e2; subst e1 e2
        exact ⟨none, [_], rfl, by simp, fun h2 _ hn => by simp only [appendE]; rw [if_neg hm, if_pos hb, hn]; rfl⟩
      · cases he
  · rename_i o off n z' cap
    split at he
    · rename_i hz
      subst hz
      split at he
      · rename_i cs hg
        have hg2 : ∀ h2 : H, (∀ i, i ∈ ids (.arr o off n z cap) → h2.get i = h.get i) → h2.get o = .cells cs := fun h2 hx => by rw [hx o (by simp [ids]), hg]
        split at he
        · rename_i hm
          injection he with he; obtain ⟨rfl, rfl⟩ := nothing he
          exact ⟨none, [], rfl, by simp, fun h2 hx _ => by simp only [appendE, hg2 h2 hx, hm, if_true]; rfl⟩
        · rename_i hm
          split at he
          · rename_i hb
            split at he
            · rename_i c
              split at he
              · rename_i h1
                split at he
                · rename_i h3
                  injection he with he; injection he with e1 e2; subst e1 e2
                  refine ⟨some (o, _), [], rfl, by rintro o' x' e; injection e with e; injection e with e1 e2; subst e1; exact ⟨by simp [ids], nd_cells hg⟩, fun h2 hx _ => ?_⟩
                  simp only [appendE, if_true, hg2 h2 hx]; rw [if_neg hm, if_pos hb, if_pos h1, if_pos h3]; rfl
                · cases he
              · rename_i h1
                injection he with he; injection he with e1 e2; subst e1 e2
                refine ⟨none, [_], rfl, by simp, fun h2 hx hn => ?_⟩
                simp only [appendE, if_true, hg2 h2 hx]; rw [if_neg hm, if_pos hb, if_neg h1, hn]; rfl
            · split at he
              · rename_i h1
                injection he with he; injection he with e1 e2; subst e1 e2
                refine ⟨some (o, _), [], rfl, by rintro o' x' e; injection e with e; injection e with e1 e2; subst e1; exact ⟨by simp [ids], nd_cells hg⟩, fun h2 hx _ => ?_⟩
                simp only [appendE, if_true, hg2 h2 hx]; rw [if_neg hm, if_pos hb, if_pos h1]; rfl
              · rename_i h1
                split at he
                · rename_i h3
                  injection he with he; injection he with e1 e2; subst e1 e2
                  refine ⟨some (o, .dead), [_], rfl, by rintro o' x' e; injection e with e; injection e with e1 e2; subst e1; exact ⟨by simp [ids], nd_cells hg⟩, fun h2 hx hn => ?_⟩
                  simp only [appendE, if_true, hg2 h2 hx]; rw [if_neg hm, if_pos hb, if_neg h1, if_pos h3, hn]; rfl
                · cases he
          · cases he
      · rename_i cs hg
        have hg2 : ∀ h2 : H, (∀ i, i ∈ ids (.arr o off n z cap) → h2.get i = h.get i) → h2.get o = .frozen cs := fun h2 hx => by rw [hx o (by simp [ids]), hg]
        split at he
        · rename_i hm
          injection he with he; obtain ⟨rfl, rfl⟩ := nothing he
          exact ⟨none, [], rfl, by simp, fun h2 hx _ => by simp only [appendE, hg2 h2 hx, hm, if_true]; rfl⟩
        · rename_i hm
          split at he
          · split at he
            · rename_i h1
              injection he with he; injection he with e1 e2; subst e1 e2
              refine ⟨none, [_], rfl, by simp, fun h2 hx hn => ?_⟩
              simp only [appendE, if_true, hg2 h2 hx]; rw [if_neg hm, if_pos h1, hn]; rfl
            · cases he
          · cases he
      · cases he
    · cases he
  · cases he

theorem local_callX {f : Nat} {vs : List V} (hs : callX C h f vs = some y) (hF : ∀ h2, F h2 = callX C h2 f vs) : LocalAt F h y := by
  unfold callX at hs
  split at hs
  · rename_i ds hd
    split at hs
    · rename_i d hp
      injection hs with hs; subst hs
      exact localP fun h2 => by rw [hF]; simp only [callX, hd, hp]
    · cases hs
  · obtain ⟨v, h', ws, _, rfl⟩ := callF_eq hs
    exact localG

set_option maxHeartbeats 4000000 in
theorem op_local {ao : AOp} (hs : opSem C ρ h ao = some y) : LocalAt (fun h => opSem C ρ h ao) h y := by
  by_cases hp : pOnly ao = true
  · obtain ⟨h1, h2⟩ := p_cls hp hs
    obtain ⟨v, h', sl, c⟩ := y
    simp only at h1 h2
    subst h1 h2
    exact localP fun h2 => by
      show opSem C ρ h2 ao = _
      rw [p_map hp h' h2, hs]; rfl
  cases ao <;> simp only [pOnly, not_true] at hp
  case alloc zs => simp only [opSem] at hs; injection hs with hs; subst hs; exact localA fun h2 hn => by simp only [opSem, hn]
  case box x =>
    simp only [opSem] at hs
    split at hs
    · rename_i v hv; injection hs with hs; subst hs; exact localA fun h2 hn => by simp only [opSem, hv, hn]
    · cases hs
  case boxF x =>
    simp only [opSem] at hs
    split at hs
    · rename_i d hv; injection hs with hs; subst hs; exact localP fun h2 => by simp only [opSem, hv]
    · rename_i v hnd hv; injection hs with hs; subst hs; exact localA fun h2 hn => by
        simp only [opSem, hv, hn]
    · cases hs
  case load n agg x =>
    simp only [opSem] at hs
    split at hs
    · rename_i o off hv
      obtain ⟨v, h1, rfl⟩ := did_eq hs
      exact localL fun h2 hg => by
        have : loadV n agg h2 (.ptr o off) = some v := by rw [← h1]; simp only [loadV, hg]
        simp only [opSem, hv, this, did]
    · rename_i v hnp hv
      obtain ⟨u, h1, rfl⟩ := did_eq hs
      have hi : ∀ h2 : H, loadV n agg h2 v = loadV n agg h v := by
        intro h2
        cases v with
        | ptr o off => exact absurd rfl (hnp o off)
        | d x => cases x <;> rfl
        | _ => rfl
      exact localP fun h2 => by
        simp only [opSem, hv]
        rw [hi h2, h1]; rfl
    · cases hs
  case store n x z =>
    simp only [opSem] at hs
    split at hs
    · rename_i o off v hv1 hv2
      split at hs
      · rename_i h' he
        injection hs with hs; subst hs
        unfold storeV at he
        simp only at he
        split at he
        · rename_i cs hg
          split at he
          · rename_i hc
            injection he with he; subst he
            exact localS (nd_cells hg) fun h2 hgg => by
              simp only [opSem, hv1, hv2, storeV, hgg, hg]; rw [if_pos hc]
          · cases he
        · cases he
      · cases hs
    · cases hs
  case storeF n s x =>
    simp only [opSem] at hs
    split at hs
    · rename_i m d hv1 hv2
      split at hs
      · rename_i hc; injection hs with hs; subst hs
        exact localP fun h2 => by simp only [opSem, hv1, hv2]; rw [if_pos hc]
      · cases hs
    · rename_i m v hnd hv1 hv2
      split at hs
      · rename_i hc; injection hs with hs; subst hs
        exact localA fun h2 hn => by
          simp only [opSem, hv1, hv2]
          rw [if_pos hc, hn]
      · cases hs
    · cases hs
  case mkMap => simp only [opSem] at hs; injection hs with hs; subst hs; exact localA fun h2 hn => by simp only [opSem, hn]
  case mkSl z bytes zs l c =>
    simp only [opSem] at hs
    split at hs
    · rename_i a b hv1 hv2
      split at hs
      · rename_i hc; injection hs with hs; subst hs; exact localA fun h2 hn => by simp only [opSem, hv1, hv2]; rw [if_pos hc, hn]
      · cases hs
    · cases hs
  case buildS z zs n ps own =>
    simp only [opSem] at hs
    split at hs
    · rename_i qs hq
      split at hs
      · rename_i cs hc
        split at hs
        · rename_i ds hd
          injection hs with hs; subst hs
          exact localP fun h2 => by simp only [opSem, hq, hc, hd]
        · rename_i hnd
          injection hs with hs; subst hs
          exact localA fun h2 hn => by
            simp only [opSem, hq, hc, hn]
      · cases hs
    · cases hs
  case lookup kk z m k ok =>
    simp only [opSem] at hs
    split at hs
    · rename_i o d hv1 hv2
      obtain ⟨v, h1, rfl⟩ := did_eq hs
      exact localL fun h2 hg => by
        have : lookupV kk h2 z (.mapr o) d ok = some v := by rw [← h1]; unfold lookupV; split <;> simp_all
        simp only [opSem, hv1, hv2, this, did]
    · rename_i v d hnp hv1 hv2
      obtain ⟨u, h1, rfl⟩ := did_eq hs
      have hi : ∀ h2 : H, lookupV kk h2 z v d ok = lookupV kk h z v d ok := by
        intro h2
        unfold lookupV
        split <;> first | rfl | exact absurd rfl (hnp _)
      exact localP fun h2 => by
        simp only [opSem, hv1, hv2]
        rw [hi h2, h1]; rfl
    · cases hs
  case mapUp kk m k x =>
    simp only [opSem] at hs
    split at hs
    · rename_i o d v hv1 hv2 hv3
      split at hs
      · rename_i ks vs hg
        split at hs
        · rename_i hk
          split at hs
          · rename_i i hi; injection hs with hs; subst hs
            exact localS (nd_map hg) fun h2 hgg => by simp only [opSem, hv1, hv2, hv3, hgg, hg]; rw [if_pos hk]; simp only [hi]
          · rename_i hi; injection hs with hs; subst hs
            exact localS (nd_map hg) fun h2 hgg => by simp only [opSem, hv1, hv2, hv3, hgg, hg]; rw [if_pos hk]; simp only [hi]
          · cases hs
        · cases hs
      · cases hs
    · cases hs
  case mapEnt kk z m k =>
    simp only [opSem] at hs
    split at hs
    · rename_i o d hv1 hv2
      split at hs
      · rename_i ks vs hg
        split at hs
        · rename_i hk
          split at hs
          · rename_i i hi
            split at hs
            · rename_i v hv; injection hs with hs; subst hs
              exact localS (nd_map hg) fun h2 hgg => by simp only [opSem, hv1, hv2, hgg, hg]; rw [if_pos hk]; simp only [hi, hv]
            · cases hs
          · rename_i hi; injection hs with hs; subst hs
            exact localS (nd_map hg) fun h2 hgg => by simp only [opSem, hv1, hv2, hgg, hg]; rw [if_pos hk]; simp only [hi]
          · cases hs
        · cases hs
      · cases hs
    · cases hs
  case entSt m s x =>
    simp only [opSem] at hs
    split at hs
    · rename_i o kk i v hv1 hv2 hv3
      split at hs
      · rename_i ks vs hg
        split at hs
        · rename_i hc; injection hs with hs; subst hs
          exact localS (nd_map hg) fun h2 hgg => by simp only [opSem, hv1, hv2, hv3, hgg, hg]; rw [if_pos hc]
        · cases hs
      · cases hs
    · cases hs
  case call f xs =>
    simp only [opSem] at hs
    split at hs
    · rename_i vs hv
      unfold callD at hs
      split at hs
      · rename_i ds hd
        split at hs
        · rename_i d hpu; injection hs with hs; subst hs
          exact localP fun h2 => by simp only [opSem, hv, callD, hd, hpu]
        · cases hs
      · split at hs
        · split at hs
          · injection hs with hs; subst hs; exact localG
          · cases hs
        · cases hs
    · cases hs
  case callX f xs =>
    simp only [opSem] at hs
    split at hs
    · rename_i vs hv
      exact local_callX hs fun h2 => by simp only [opSem, hv]
    · cases hs
  case callV g xs =>
    simp only [opSem] at hs
    split at hs
    · rename_i g' vs hv1 hv2
      split at hs
      · rename_i f vs' hf
        exact local_callX hs fun h2 => by simp only [opSem, hv1, hv2, hf]
      · cases hs
    · cases hs
  case callS f xs =>
    simp only [opSem] at hs
    split at hs
    · rename_i vs hv
      unfold callO at hs
      split at hs
      · rename_i ds hd
        split at hs
        · rename_i v hc wc hfu
          split at hs
          · rename_i v' h' seen' hi
            injection hs with hs; subst hs
            obtain ⟨ns, h1, h2⟩ := (imp_app 1000).1 _ _ _ _ _ _ _ hi
            refine ⟨none, ns, h1, by simp, by simp, by simp, fun h3 _ hn => ?_⟩
            simp only [opSem, hv, callO, hd, hfu, h2 h3 (hn rfl).1 (hn rfl).2]
          · cases hs
        · cases hs
      · obtain ⟨v, h', ws, _, rfl⟩ := callF_eq hs
        exact localG
    · cases hs
  case len kk x =>
    simp only [opSem] at hs
    split at hs
    · rename_i o hv
      obtain ⟨v, h1, rfl⟩ := did_eq hs
      exact localL fun h2 hg => by
        have : lenV kk h2 (.mapr o) = lenV kk h (.mapr o) := by
          unfold lenV
          split <;> simp_all
        simp only [opSem, hv, this, h1, did]
    · rename_i v hnp hv
      obtain ⟨u, h1, rfl⟩ := did_eq hs
      have hi : ∀ h2 : H, lenV kk h2 v = lenV kk h v := by
        intro h2
        unfold lenV
        split <;> first | rfl | exact absurd rfl (hnp _)
      exact localP fun h2 => by
        simp only [opSem, hv]
        rw [hi h2, h1]; rfl
    · cases hs
  case append z bytes s x =>
    simp only [opSem] at hs
    split at hs
    · rename_i s' x' hv1 hv2
      split at hs
      · rename_i v h' he
        injection hs with hs; subst hs
        unfold appendV at he
        split at he
        · cases he
        · rename_i m xs hel
          obtain ⟨st, ns, h1, h2, h3⟩ := appendE_local he
          refine ⟨st, ns, h1, h2, by simp, fun o ho => List.mem_append_left _ ho, fun h4 hr hn => ?_⟩
          have h5 : elems h4 z x' = some (m, xs) := by rw [elems_same fun o ho => hr o (List.mem_append_right _ ho), hel]
          simp only [opSem, hv1, hv2, appendV, h5, h3 h4 (fun o ho => hr o (List.mem_append_left _ ho)) (hn rfl).1]
      · cases hs
    · cases hs
  case appendZ z bytes zs s x =>
    simp only [opSem] at hs
    split at hs
    · rename_i s' m hv1 hv2
      split at hs
      · rename_i hc
        split at hs
        · rename_i v h' he
          injection hs with hs; subst hs
          obtain ⟨st, ns, h1, h2, h3⟩ := appendE_local he
          refine ⟨st, ns, h1, h2, by simp, fun o ho => ho, fun h4 hr hn => ?_⟩
          simp only [opSem, hv1, hv2]; rw [if_pos hc]; simp only [h3 h4 hr (hn rfl).1]
        · cases hs
      · cases hs
    · cases hs
  case range x =>
    simp only [opSem] at hs
    split at hs
    · rename_i ks vs hv; injection hs with hs; subst hs; exact localA fun h2 hn => by simp only [opSem, hv, hn]
    · cases hs
  case next x =>
    simp only [opSem] at hs
    split at hs
    · rename_i o hv
      split at hs
      · rename_i ks vs seen hg
        have hnd : h.get o ≠ .dead := by rw [hg]; simp
        split at hs
        · rename_i hl; injection hs with hs; subst hs; exact localL fun h2 hgg => by simp only [opSem, hv, hgg, hg, hl]
        · rename_i j hl
          split at hs
          · rename_i h1 h2; injection hs with hs; subst hs; exact localS hnd fun h2 hgg => by simp only [opSem, hv, hgg, hg, hl, *]
          · cases hs
        · cases hs
      · cases hs
    · cases hs
  case entry x =>
    simp only [opSem] at hs
    split at hs
    · rename_i o hv
      split at hs
      · rename_i ks vs seen hg
        split at hs
        · rename_i j hl
          split at hs
          · rename_i h1 h2; injection hs with hs; subst hs; exact localL fun h2 hgg => by simp only [opSem, hv, hgg, hg, hl, *]
          · cases hs
        · cases hs
      · cases hs
    · cases hs
  case clear z zs x =>
    simp only [opSem] at hs
    split at hs
    · rename_i hv; injection hs with hs; subst hs; exact localP fun h2 => by simp only [opSem, hv]
    · rename_i o off n z' cap hv
      split at hs
      · rename_i hc
        split at hs
        · rename_i cs hg
          split at hs
          · rename_i hd; injection hs with hs; subst hs
            exact localS (nd_cells hg) fun h2 hgg => by simp only [opSem, hv, hgg, hg]; rw [if_pos hc, if_pos hd]
          · cases hs
        · cases hs
      · cases hs
    · cases hs
  case copy z d s =>
    simp only [opSem] at hs
    split at hs
    · rename_i d' s' hv1 hv2
      split at hs
      · rename_i n h' he
        injection hs with hs; subst hs
        unfold copyV at he
        split at he
        · cases he
        · rename_i m xs hel
          split at he
          · injection he with he; injection he with e1 e2; subst e1 e2
            refine ⟨none, [], rfl, by simp, by simp, fun o ho => List.mem_append_left _ ho, fun h4 hr hn => ?_⟩
            have h5 : elems h4 z s' = some (m, xs) := by rw [elems_same fun o ho => hr o (List.mem_append_right _ ho), hel]
            simp only [opSem, hv1, hv2, copyV, h5]; rfl
          · rename_i o off k z' cap
            split at he
            · rename_i hz
              split at he
              · rename_i cs hg
                split at he
                · rename_i hc
                  injection he with he; injection he with e1 e2; subst e1 e2
                  refine ⟨some (o, _), [], rfl, by rintro o' x' e; injection e with e; injection e with e1 e2; subst e1; exact ⟨by simp [ids], nd_cells hg⟩, by simp, fun o ho => List.mem_append_left _ ho, fun h4 hr hn => ?_⟩
                  have h5 : elems h4 z s' = some (m, xs) := by rw [elems_same fun o ho => hr o (List.mem_append_right _ ho), hel]
                  have h6 : h4.get o = .cells cs := by rw [hr o (List.mem_append_left _ (by simp [ids])), hg]
                  simp only [opSem, hv1, hv2, copyV, h5, h6]; rw [if_pos hz, if_pos hc]; rfl
                · cases he
              · cases he
            · cases he
          · cases he
      · cases hs
    · cases hs
  case unk => simp [opSem] at hs
end
end Go.Avm

/- The abstract machine on data: operations whose order is not given commute. -/
namespace Go.Avm
open Go

/-! the objects -/
theorem H.set_comm {h : H} {i j : Nat} (x y : Obj) (hij : i ≠ j) : (h.set j y).set i x = (h.set i x).set j y := by
  simp only [H.set, OT.put_comm (i + 1) (j + 1) h.objs i j (by omega) (by omega) hij]
theorem H.get_at (h : H) (b o : Nat) : (h.at b).get o = h.get o := rfl
theorem H.get_rs (h : H) (o : Nat) : h.rs.get o = h.get o := rfl
def set1 (s : Option (Nat × Obj)) (h : H) : H := match s with
  | some (o, x) => h.set o x
  | none => h
theorem app_eq (s : Option (Nat × Obj)) (n : List Obj) (h : H) : app s n h = n.foldl H.new (set1 s h) := rfl
def sets (ps : List (Nat × Obj)) (h : H) : H := ps.foldl (fun h p => h.set p.1 p.2) h
theorem sets_top (ps : List (Nat × Obj)) : ∀ h : H, (sets ps h).top = h.top ∧ (sets ps h).next = h.next := by
  induction ps with
  | nil => intro h; exact ⟨rfl, rfl⟩
  | cons p ps ih => intro h; exact ih (h.set p.1 p.2)
theorem sets_get {ps : List (Nat × Obj)} {o : Nat} (ho : ∀ p ∈ ps, p.1 ≠ o) : ∀ h : H, (sets ps h).get o = h.get o := by
  induction ps with
  | nil => intro h; rfl
  | cons p ps ih =>
    intro h
    have h1 := ih (fun q hq => ho q (List.mem_cons_of_mem _ hq)) (h.set p.1 p.2)
    rw [H.get_set_ne h _ (ho p (List.mem_cons_self))] at h1
    exact h1
theorem sets_set {ps : List (Nat × Obj)} {o : Nat} {x : Obj} (ho : ∀ p ∈ ps, p.1 ≠ o) : ∀ h : H, sets ps (h.set o x) = (sets ps h).set o x := by
  induction ps with
  | nil => intro h; rfl
  | cons p ps ih =>
    intro h
    show sets ps ((h.set o x).set p.1 p.2) = (sets ps (h.set p.1 p.2)).set o x
    rw [H.set_comm _ _ (ho p (List.mem_cons_self)), ih (fun q hq => ho q (List.mem_cons_of_mem _ hq))]
theorem sets_comm {ps qs : List (Nat × Obj)} (hd : ∀ p ∈ ps, ∀ q ∈ qs, p.1 ≠ q.1) : ∀ h : H, sets ps (sets qs h) = sets qs (sets ps h) := by
  induction qs with
  | nil => intro h; rfl
  | cons q qs ih =>
    intro h
    show sets ps (sets qs (h.set q.1 q.2)) = sets qs ((sets ps h).set q.1 q.2)
    rw [ih (fun p hp r hr => hd p hp r (List.mem_cons_of_mem _ hr)), sets_set (fun p hp => hd p hp q (List.mem_cons_self))]

/-! one step -/
section
variable {C : Calls} {ρ ρ' : Nat → Option V} {h : H} {y : Did}

theorem local_step {o : AOper} (hs : stepD C o ρ h = some y) : LocalAt (fun h => stepD C o ρ h) h y := by
  cases hg : o.guard with
  | none =>
    have e : (fun h => stepD C o ρ h) = fun h => opSem C ρ h o.op := by funext h2; simp only [stepD, hg]
    rw [e]
    simp only [stepD, hg] at hs
    exact op_local hs
  | some g =>
    obtain ⟨t, want⟩ := g
    simp only [stepD, hg] at hs
    split at hs
    · rename_i b hb
      split at hs
      · rename_i hw
        have e : (fun h => stepD C o ρ h) = fun h => opSem C ρ h o.op := by funext h2; simp only [stepD, hg, hb]; rw [if_pos hw]
        rw [e]
        exact op_local hs
      · rename_i hw
        injection hs with hs; subst hs
        exact localP fun h2 => by simp only [stepD, hg, hb]; rw [if_neg hw]
    · rename_i hb
      injection hs with hs; subst hs
      exact localP fun h2 => by simp only [stepD, hg, hb]
    · cases hs

theorem callX_slot {f : Nat} {vs : List V} (hs : callX C h f vs = some y) : y.slot = none := by
  unfold callX at hs
  split at hs
  · split at hs
    · injection hs with hs; subst hs; rfl
    · cases hs
  · obtain ⟨v, h', ws, _, rfl⟩ := callF_eq hs; rfl
theorem did_slot {c : Cls} {x : Option V} (hs : did h c x = some y) : y.slot = none := by obtain ⟨v, _, rfl⟩ := did_eq hs; rfl
set_option maxHeartbeats 2000000 in
theorem op_slot {ao : AOp} (hs : opSem C ρ h ao = some y) : y.slot = none ∨ ∃ n a x u, ao = .storeF n a x ∧ y.slot = some (a, u) := by
  cases ao
  case storeF n a x =>
    right
    simp only [opSem] at hs
    split at hs
    · split at hs
      · injection hs with hs; subst hs; exact ⟨n, a, x, _, rfl, rfl⟩
      · cases hs
    · split at hs
      · injection hs with hs; subst hs; exact ⟨n, a, x, _, rfl, rfl⟩
      · cases hs
    · cases hs
  case callX f xs =>
    left; simp only [opSem] at hs
    split at hs
    · exact callX_slot hs
    · cases hs
  case callV f xs =>
    left; simp only [opSem] at hs
    split at hs
    · split at hs
      · exact callX_slot hs
      · cases hs
    · cases hs
  all_goals left
  all_goals (simp only [opSem, callD, callO, callF] at hs)
  all_goals (repeat' (split at hs))
  all_goals first
    | exact did_slot hs
    | (cases hs; done)
    | (injection hs with hs; subst hs; rfl)
theorem step_slot {o : AOper} (hs : stepD C o ρ h = some y) {a : Nat} {u : V} (hy : y.slot = some (a, u)) : a ∈ writes o := by
  have key : opSem C ρ h o.op = some y → a ∈ writes o := by
    intro e
    rcases op_slot e with h1 | ⟨n, a', x, u', h1, h2⟩
    · rw [h1] at hy; cases hy
    · rw [h2] at hy; injection hy with hy; injection hy with e1 e2; subst e1
      simp [writes, h1]
  unfold stepD at hs
  split at hs
  · exact key hs
  · split at hs
    · split at hs
      · exact key hs
      · injection hs with hs; subst hs; cases hy
    · injection hs with hs; subst hs; cases hy
    · cases hs

theorem outρ_ne {o : AOper} {t : Nat} (hw : ∀ a u, y.slot = some (a, u) → a ∈ writes o) (ht : t ∉ writes o) : outρ o ρ y t = ρ t := by
  have h1 : slotρ ρ y.slot t = ρ t := by
    cases hy : y.slot with
    | none => rfl
    | some p =>
      obtain ⟨a, u⟩ := p
      have := hw a u hy
      simp only [slotρ, updρ]
      rw [if_neg]; intro e; subst e; exact ht this
  unfold outρ
  cases hd : o.dst with
  | none => exact h1
  | some d =>
    simp only [putρ, updρ]
    rw [if_neg]
    · exact h1
    · intro e; subst e; exact ht (by simp [writes, hd])
theorem outρ_congr {o : AOper} {y' : Did} {t : Nat} (h1 : y'.val = y.val) (h2 : y'.slot = y.slot) (ht : ρ' t = ρ t) : outρ o ρ' y' t = outρ o ρ y t := by
  unfold outρ
  rw [h1, h2]
  have h3 : slotρ ρ' y.slot t = slotρ ρ y.slot t := by
    cases hy : y.slot with
    | none => exact ht
    | some p => simp only [slotρ, updρ, ht]
  cases hd : o.dst with
  | none => exact h3
  | some d => simp only [putρ, updρ, h3]

end
end Go.Avm

/- The abstract machine on data: freezing makes no objects. -/
namespace Go.Avm
open Go

def Still (h h' : H) : Prop := h'.top = h.top ∧ h'.next = h.next ∧ ∀ i, h'.has i → h.has i
theorem Still.refl (h : H) : Still h h := ⟨rfl, rfl, fun _ h => h⟩
theorem Still.trans {a b c : H} (x : Still a b) (y : Still b c) : Still a c := ⟨y.1.trans x.1, y.2.1.trans x.2.1, fun i hi => x.2.2 i (y.2.2 i hi)⟩
theorem Still.set {h : H} {o : Nat} (ho : h.get o ≠ .dead) (x : Obj) : Still h (h.set o x) := ⟨rfl, rfl, fun i hi => by
  rcases (H.has_set h o i x).1 hi with rfl | hi
  · exact H.has_get ho
  · exact hi⟩
/-- an object set twice, with something between that makes no objects -/
theorem Still.set2 {h h1 : H} {o : Nat} (ho : h.get o ≠ .dead) {x y : Obj} (hs : Still (h.set o x) h1) : Still h (h1.set o y) := by
  have h0 := (Still.set ho x).trans hs
  refine ⟨h0.1, h0.2.1, fun i hi => ?_⟩
  rcases (H.has_set h1 o i y).1 hi with rfl | hi
  · exact H.has_get ho
  · exact h0.2.2 i hi

theorem frz_still : ∀ n : Nat,
    (∀ h v d h', frz n h v = some (d, h') → Still h h') ∧ (∀ h vs ds h', frzL n h vs = some (ds, h') → Still h h') ∧ (∀ h o ds h', frzO n h o = some (ds, h') → Still h h') := by
  intro n
  induction n with
  | zero =>
    refine ⟨fun h v d h' e => by simp [frz] at e, fun h vs ds h' e => ?_, fun h o ds h' e => by simp [frzO] at e⟩
    cases vs with
    | nil => simp only [frzL] at e; injection e with e; injection e with e1 e2; subst e2; exact .refl _
    | cons v vs => simp [frzL] at e
  | succ n ih =>
    obtain ⟨i1, i2, i3⟩ := ih
    refine ⟨?_, ?_, ?_⟩
    · intro h v d h' e
      cases v <;> simp only [frz] at e
      case d x => injection e with e; injection e with e1 e2; subst e2; exact .refl _
      case hole => cases e
      case ptr o off =>
        split at e
        · rename_i he; injection e with e; injection e with e1 e2; subst e2; exact i3 _ _ _ _ he
        · cases e
      case arr o off k z cap =>
        split at e
        · rename_i he
          split at e
          · injection e with e; injection e with e1 e2; subst e2; exact i3 _ _ _ _ he
          · cases e
        · cases e
      case mapr o =>
        split at e
        · injection e with e; injection e with e1 e2; subst e2; exact .refl _
        · rename_i ks vs hg
          split at e
          · rename_i he; injection e with e; injection e with e1 e2; subst e2
            exact Still.set2 (by rw [hg]; simp) (i2 _ _ _ _ he)
          · cases e
        · cases e
      case func f xs ys =>
        split at e
        · rename_i he
          split at e
          · rename_i he2; injection e with e; injection e with e1 e2; subst e2; exact (i2 _ _ _ _ he).trans (i2 _ _ _ _ he2)
          · cases e
        · cases e
      case iface t x =>
        split at e
        · rename_i he; injection e with e; injection e with e1 e2; subst e2; exact i1 _ _ _ _ he
        · cases e
      case agg vs =>
        split at e
        · rename_i he; injection e with e; injection e with e1 e2; subst e2; exact i2 _ _ _ _ he
        · cases e
      case tuple vs =>
        split at e
        · rename_i he; injection e with e; injection e with e1 e2; subst e2; exact i2 _ _ _ _ he
        · cases e
    · intro h vs ds h' e
      cases vs with
      | nil => simp only [frzL] at e; injection e with e; injection e with e1 e2; subst e2; exact .refl _
      | cons v vs =>
        simp only [frzL] at e
        split at e
        · rename_i he
          split at e
          · rename_i he2; injection e with e; injection e with e1 e2; subst e2; exact (i1 _ _ _ _ he).trans (i2 _ _ _ _ he2)
          · cases e
        · cases e
    · intro h o ds h' e
      simp only [frzO] at e
      split at e
      · injection e with e; injection e with e1 e2; subst e2; exact .refl _
      · rename_i cs hg
        split at e
        · rename_i he; injection e with e; injection e with e1 e2; subst e2
          exact Still.set2 (by rw [hg]; simp) (i2 _ _ _ _ he)
        · cases e
      · cases e
end Go.Avm

/- The abstract machine on data: operations in a draw commute. -/
namespace Go.Avm
open Go

section
variable {C : Calls} {ρ ρ' : Nat → Option V} {h : H} {y : Did}

/-- an operation in a draw: its new object gets the number b -/
def stepA (C : Calls) (b : Nat) (o : AOper) (ρ : Nat → Option V) (h : H) : Option Did := match stepD C o ρ (h.at b) with
  | some y => some ⟨y.val, y.heap.rs, y.slot, dcls b h.top y.heap.top y.cls⟩
  | none => none

theorem news_top : ∀ (n : List Obj) (g : H), g.top ≤ (n.foldl H.new g).top
  | [], g => Nat.le_refl _
  | x :: n, g => Nat.le_trans (H.up_ge g) (by have := news_top n (g.new x); rw [H.top_new] at this; exact this)
/-- where the top has not moved, at most one object is new -/
theorem news_one {n : List Obj} {g : H} (ht : (n.foldl H.new g).top = g.top) : n = [] ∨ ∃ x, n = [x] := by
  match n with
  | [] => exact .inl rfl
  | [x] => exact .inr ⟨x, rfl⟩
  | x :: y :: n =>
    exfalso
    have h1 := news_top n ((g.new x).new y)
    have h2 : ((g.new x).new y).top = (g.new x).top + 1 := by
      rw [H.top_new]
      unfold H.up
      have : (g.new x).next = (g.new x).top := rfl
      rw [this]
      simp
    have h3 : g.top ≤ (g.new x).top := H.up_ge g
    have h4 : (((x :: y :: n).foldl H.new g)).top = (n.foldl H.new ((g.new x).new y)).top := rfl
    omega

def LocA (F : H → Option Did) (h : H) (y : Did) : Prop := match y.cls with
  | .g _ => True
  | .r rd wr _ => ∃ ps, y.heap = sets ps h ∧ (∀ p, p ∈ ps → p.1 ∈ wr) ∧
      ∀ h2 : H, h2.next = h2.top → (∀ o, o ∈ rd → h2.get o = h.get o) → (wr ≠ [] → h2.top = h.top) → F h2 = some ⟨y.val, sets ps h2, y.slot, y.cls⟩

theorem loc_stepA {b : Nat} {o : AOper} (hn : h.next = h.top) (hb : b < h.top) (hs : stepA C b o ρ h = some y) : LocA (stepA C b o ρ) h y := by
  unfold stepA at hs
  split at hs
  · rename_i y0 hs0
    injection hs with hs; subst hs
    have hl := local_step hs0
    unfold LocalAt at hl
    unfold LocA
    cases hc : y0.cls with
    | g ws => cases ws <;> simp [dcls]
    | r rd wr al =>
      rw [hc] at hl
      simp only at hl
      obtain ⟨s, n, g1, g2, g3, g4, g5⟩ := hl
      by_cases ht : h.top = y0.heap.top
      · have htb : Nat.beq h.top y0.heap.top = true := beq_nat.2 ht
        simp only [dcls, htb, if_true]
        have tops : ∀ g : H, (set1 s g).top = g.top := fun g => by cases s <;> rfl
        have nexts : ∀ g : H, (set1 s g).next = g.next := fun g => by cases s <;> rfl
        have hn1 : n = [] ∨ ∃ x, n = [x] := by
          apply news_one (g := set1 s (h.at b))
          rw [tops]
          have : y0.heap = n.foldl H.new (set1 s (h.at b)) := g1
          rw [← this]; exact ht.symm
        have s1 : ∀ g : H, g.next = g.top → (set1 s (g.at b)).rs = set1 s g := fun g hg => by
          cases s with
          | none => show H.mk _ _ _ = _; rw [show (set1 none (g.at b)).top = g.top from rfl]; cases g; simp only at hg; subst hg; rfl
          | some p => cases g; simp only at hg; subst hg; rfl
        rcases hn1 with rfl | ⟨x, rfl⟩
        · refine ⟨s.toList, ?_, ?_, ?_⟩
          · show y0.heap.rs = _
            rw [g1]; rw [show app s [] (h.at b) = set1 s (h.at b) from rfl, s1 h hn]
            cases s <;> rfl
          · intro p hp
            have := g2 p.1 p.2 (by simpa using hp)
            split
            · exact List.mem_cons_of_mem _ this.1
            · exact this.1
          · intro h2 h2n hr ht2
            have h5 := g5 (h2.at b) hr (fun ha => ⟨rfl, by
              have : h2.top = h.top := ht2 (by rw [ha]; simp)
              exact this⟩)
            unfold stepA
            rw [h5]
            have e1 : (app s [] (h2.at b)).top = h2.top := tops (h2.at b)
            have e2 : (app s [] (h2.at b)).rs = sets s.toList h2 := by
              rw [show app s [] (h2.at b) = set1 s (h2.at b) from rfl, s1 h2 h2n]; cases s <;> rfl
            simp only [e1, e2, dcls, beq_nat.2 (rfl : h2.top = h2.top), if_true]
        · have ha : al = true := by
            cases al with
            | true => rfl
            | false => have := g3 rfl; cases this
          subst ha
          have new1 : ∀ g : H, g.next = g.top → b < g.top → ((set1 s (g.at b)).new x).rs = (set1 s g).set b x ∧ ((set1 s (g.at b)).new x).top = g.top := fun g hg hlt => by
            have hup : (set1 s (g.at b)).up = g.top := by
              unfold H.up
              rw [tops, nexts]
              have : Nat.blt b g.top = true := by simpa using hlt
              simp [H.at, this]
            refine ⟨?_, by rw [H.top_new]; exact hup⟩
            have ho : (set1 s (g.at b)).objs = (set1 s g).objs := by cases s <;> rfl
            have hnx : (set1 s (g.at b)).next = b := nexts _
            simp only [H.new, H.rs, H.set, hup, ho, hnx, tops, nexts, hg]
          refine ⟨s.toList ++ [(b, x)], ?_, ?_, ?_⟩
          · show y0.heap.rs = _
            rw [g1, show app s [x] (h.at b) = (set1 s (h.at b)).new x from rfl, (new1 h hn hb).1]
            cases s <;> rfl
          · intro p hp
            simp only [if_true]
            rcases List.mem_append.1 hp with hp | hp
            · exact List.mem_cons_of_mem _ (g2 p.1 p.2 (by simpa using hp)).1
            · simp only [List.mem_singleton] at hp; subst hp; exact List.mem_cons_self
          · intro h2 h2n hr ht2
            have ht3 : h2.top = h.top := ht2 (by simp)
            have h5 := g5 (h2.at b) hr (fun _ => ⟨rfl, ht3⟩)
            have e0 := new1 h2 h2n (by rw [ht3]; exact hb)
            unfold stepA
            rw [h5]
            have e1 : (app s [x] (h2.at b)).top = h2.top := e0.2
            have e2 : (app s [x] (h2.at b)).rs = sets (s.toList ++ [(b, x)]) h2 := by
              rw [show app s [x] (h2.at b) = (set1 s (h2.at b)).new x from rfl, e0.1]; cases s <;> rfl
            simp only [e1, e2, dcls, beq_nat.2 (rfl : h2.top = h2.top), if_true]
      · have htb : Nat.beq h.top y0.heap.top = false := beq_ne ht
        simp [dcls, htb]
  · cases hs
end
end Go.Avm

/- The abstract machine on data: operations in a draw commute (2). -/
namespace Go.Avm
open Go

section
variable {C : Calls} {ρ ρ' : Nat → Option V} {h : H} {y : Did}

def LogC (C : Calls) : Prop := ∀ f vs v h h' ws, C.full f vs h = some (v, h', ws) → LogR h h' ws

theorem callX_log (hL : LogC C) {f : Nat} {vs : List V} (hs : callX C h f vs = some y) {ws : Option (List Nat)} (hc : y.cls = .g ws) : LogR h y.heap ws := by
  unfold callX at hs
  split at hs
  · split at hs
    · injection hs with hs; subst hs; cases hc
    · cases hs
  · obtain ⟨v, h', ws', he, rfl⟩ := callF_eq hs
    injection hc with hc; subst hc
    exact hL _ _ _ _ _ _ he
theorem did_g {c : Cls} {x : Option V} (hs : did h c x = some y) : y.cls = c := by obtain ⟨v, _, rfl⟩ := did_eq hs; rfl
set_option maxHeartbeats 2000000 in
theorem op_log (hL : LogC C) {ao : AOp} (hs : opSem C ρ h ao = some y) {ws : Option (List Nat)} (hc : y.cls = .g ws) : LogR h y.heap ws := by
  cases ao
  case callX f xs =>
    simp only [opSem] at hs
    split at hs
    · exact callX_log hL hs hc
    · cases hs
  case callV f xs =>
    simp only [opSem] at hs
    split at hs
    · split at hs
      · exact callX_log hL hs hc
      · cases hs
    · cases hs
  case callS f xs =>
    simp only [opSem] at hs
    split at hs
    · unfold callO at hs
      split at hs
      · split at hs
        · split at hs
          · injection hs with hs; subst hs; cases hc
          · cases hs
        · cases hs
      · obtain ⟨v, h', ws', he, rfl⟩ := callF_eq hs
        injection hc with hc; subst hc
        exact hL _ _ _ _ _ _ he
    · cases hs
  case call f xs =>
    simp only [opSem] at hs
    split at hs
    · unfold callD at hs
      split at hs
      · split at hs
        · injection hs with hs; subst hs; cases hc
        · cases hs
      · split at hs
        · rename_i hz
          split at hs
          · injection hs with hs; subst hs
            injection hc with hc; subst hc
            obtain ⟨t1, t2, t3⟩ := (frz_still _).2.1 _ _ _ _ hz
            exact ⟨Nat.le_of_eq t1.symm, .inl t2, fun o _ _ hh => t3 o hh, fun l e => by cases e⟩
          · cases hs
        · cases hs
    · cases hs
  all_goals exfalso
  all_goals (simp only [opSem] at hs)
  all_goals (repeat' (split at hs))
  all_goals first
    | (have := did_g hs; rw [this] at hc; cases hc; done)
    | (cases hs; done)
    | (injection hs with hs; subst hs; cases hc; done)
theorem step_log (hL : LogC C) {o : AOper} (hs : stepD C o ρ h = some y) {ws : Option (List Nat)} (hc : y.cls = .g ws) : LogR h y.heap ws := by
  unfold stepD at hs
  split at hs
  · exact op_log hL hs hc
  · split at hs
    · split at hs
      · exact op_log hL hs hc
      · injection hs with hs; subst hs; cases hc
    · injection hs with hs; subst hs; cases hc
    · cases hs
/-- what a call in a draw leaves as it was -/
theorem stepA_log (hL : LogC C) {b : Nat} {o : AOper} (hs : stepA C b o ρ h = some y) {ws : List Nat} (hc : y.cls = .g (some ws)) : h.top ≤ y.heap.top ∧ ∀ o, o < h.top → o ∉ ws → y.heap.get o = h.get o := by
  unfold stepA at hs
  split at hs
  · rename_i y0 hs0
    injection hs with hs; subst hs
    simp only at hc
    unfold dcls at hc
    split at hc
    · split at hc <;> cases hc
    · rename_i ws0 e
      injection hc with hc; injection hc with hc; subst hc
      have := step_log hL hs0 e
      refine ⟨this.top, fun o ho hw => ?_⟩
      simp only [List.mem_cons, not_or] at hw
      exact this.get ws0 rfl o ho hw.1 hw.2
    · cases hc
  · cases hs
theorem stepA_same {b : Nat} {o : AOper} (hl : Same ρ ρ' (looks o)) : stepA C b o ρ h = stepA C b o ρ' h := by
  unfold stepA; rw [stepD_same hl]
theorem stepA_slot {b : Nat} {o : AOper} (hs : stepA C b o ρ h = some y) {a : Nat} {u : V} (hy : y.slot = some (a, u)) : a ∈ writes o := by
  unfold stepA at hs
  split at hs
  · rename_i y0 hs0; injection hs with hs; subst hs; exact step_slot hs0 hy
  · cases hs
theorem stepA_rs {b : Nat} {o : AOper} (hs : stepA C b o ρ h = some y) : y.heap.next = y.heap.top := by
  unfold stepA at hs
  split at hs
  · injection hs with hs; subst hs; rfl
  · cases hs

def Apart (ox oi : AOper) : Prop := (∀ t ∈ writes ox, t ∉ looks oi ∧ t ∉ writes oi) ∧ ∀ t ∈ writes oi, t ∉ looks ox
def isP : Cls → Bool
  | .r [] [] _ => true
  | _ => false
def Cmp (c : Cls) (n : Nat) (c' : Cls) : Prop := isP c = true ∨ isP c' = true ∨ compat c n c' = true
theorem cmp_n {c c' : Cls} {n n' : Nat} (h : Cmp c n c') (hn : n ≤ n') : Cmp c n' c' := by
  rcases h with h | h | h
  · exact .inl h
  · exact .inr (.inl h)
  · refine .inr (.inr ?_)
    unfold compat at h ⊢
    split at h
    · exact h
    · exact h
    · simp only [List.all_eq_true, Bool.and_eq_true] at h ⊢
      intro o ho
      have := h o ho
      refine ⟨?_, this.2⟩
      have h1 : o < n := by simpa using this.1
      have : o < n' := by omega
      simpa using this
    · cases h
theorem meet_not {l m : List Nat} (h : meet l m = false) {i : Nat} (hl : i ∈ l) : i ∉ m := by
  intro hm
  have : meet l m = true := by simp only [meet, List.any_eq_true]; exact ⟨i, hl, by simpa using hm⟩
  rw [this] at h; cases h
end
end Go.Avm

/- The abstract machine on data: operations in a draw commute (3). -/
namespace Go.Avm
open Go

section
variable {C : Calls} {ρ ρ' : Nat → Option V} {h : H} {y : Did}

theorem news_has : ∀ (n : List Obj) (g : H) (o : Nat), (n.foldl H.new g).has o → g.has o ∨ o = g.next ∨ g.top ≤ o
  | [], g, o, hh => .inl hh
  | x :: n, g, o, hh => by
    rcases news_has n (g.new x) o hh with h1 | h1 | h1
    · rcases (H.has_new g o x).1 h1 with h2 | h2
      · exact .inr (.inl h2)
      · exact .inl h2
    · rw [H.next_new] at h1; exact .inr (.inr (by rw [h1]; exact H.up_ge g))
    · rw [H.top_new] at h1; exact .inr (.inr (Nat.le_trans (H.up_ge g) h1))
/-- every operation in a draw: numbers only grow, and new objects have its number or one from the top on -/
theorem stepA_keeps (hL : LogC C) {b : Nat} {o : AOper} (hs : stepA C b o ρ h = some y) : h.top ≤ y.heap.top ∧ ∀ i, i < h.top → i ≠ b → y.heap.has i → h.has i := by
  unfold stepA at hs
  split at hs
  · rename_i y0 hs0
    injection hs with hs; subst hs
    show h.top ≤ y0.heap.top ∧ ∀ i, i < h.top → i ≠ b → y0.heap.has i → h.has i
    cases hc : y0.cls with
    | g ws =>
      have := step_log hL hs0 hc
      exact ⟨this.top, fun i h1 h2 h3 => this.has i h1 h2 h3⟩
    | r rd wr al =>
      have hl := local_step hs0
      unfold LocalAt at hl
      rw [hc] at hl
      simp only at hl
      obtain ⟨s, n, g1, g2, _⟩ := hl
      have ht : (set1 s (h.at b)).top = h.top := by cases s <;> rfl
      have hn : (set1 s (h.at b)).next = b := by cases s <;> rfl
      rw [g1]
      refine ⟨by rw [app_eq]; have := news_top n (set1 s (h.at b)); rw [ht] at this; exact this, fun i h1 h2 h3 => ?_⟩
      rw [app_eq] at h3
      rcases news_has n _ i h3 with h4 | h4 | h4
      · cases s with
        | none => exact h4
        | some p =>
          rcases (H.has_set (h.at b) p.1 i p.2).1 h4 with rfl | h5
          · exact H.has_get (g2 p.1 p.2 rfl).2
          · exact h5
      · rw [hn] at h4; exact absurd h4 h2
      · rw [ht] at h4; omega
  · cases hs

/-- three ways for two operations to stand in no order -/
theorem cmp_cases {c c' : Cls} {n : Nat} (hc : Cmp c n c') :
    (∃ rd wr al rd' wr' al', c = .r rd wr al ∧ c' = .r rd' wr' al' ∧ (∀ o ∈ wr, o ∉ rd') ∧ (∀ o ∈ wr, o ∉ wr') ∧ ∀ o ∈ wr', o ∉ rd) ∨
    (∃ rd al ws, c = .r rd [] al ∧ c' = .g ws ∧ (rd = [] ∨ ∃ l, ws = some l ∧ ∀ o ∈ rd, o ∉ l)) ∨
    (∃ rd al ws, c = .g ws ∧ c' = .r rd [] al ∧ (rd = [] ∨ ∃ l, ws = some l ∧ ∀ o ∈ rd, o < n ∧ o ∉ l)) := by
  cases c with
  | r rd wr al =>
    cases c' with
    | r rd' wr' al' =>
      refine .inl ⟨rd, wr, al, rd', wr', al', rfl, rfl, ?_⟩
      rcases hc with hc | hc | hc
      · cases rd <;> cases wr <;> simp [isP] at hc
        exact ⟨by simp, by simp, by simp⟩
      · cases rd' <;> cases wr' <;> simp [isP] at hc
        exact ⟨by simp, by simp, by simp⟩
      · simp only [compat, Bool.not_eq_true', Bool.or_eq_false_iff] at hc
        exact ⟨fun o ho => meet_not hc.1.1 ho, fun o ho => meet_not hc.1.2 ho, fun o ho => meet_not hc.2 ho⟩
    | g ws =>
      refine .inr (.inl ?_)
      rcases hc with hc | hc | hc
      · cases rd <;> cases wr <;> simp [isP] at hc
        exact ⟨[], al, ws, rfl, rfl, .inl rfl⟩
      · simp [isP] at hc
      · cases wr with
        | cons a l => cases ws <;> simp [compat] at hc
        | nil =>
          cases ws with
          | none => simp [compat] at hc
          | some l =>
            simp only [compat, Bool.not_eq_true'] at hc
            exact ⟨rd, al, some l, rfl, rfl, .inr ⟨l, rfl, fun o ho => meet_not hc ho⟩⟩
  | g ws =>
    cases c' with
    | g ws' =>
      exfalso
      rcases hc with hc | hc | hc
      · simp [isP] at hc
      · simp [isP] at hc
      · cases ws <;> simp [compat] at hc
    | r rd wr al =>
      refine .inr (.inr ?_)
      rcases hc with hc | hc | hc
      · simp [isP] at hc
      · cases rd <;> cases wr <;> simp [isP] at hc
        exact ⟨[], al, ws, rfl, rfl, .inl rfl⟩
      · cases ws with
        | none => simp [compat] at hc
        | some l =>
          cases wr with
          | cons a m => simp [compat] at hc
          | nil =>
            simp only [compat, List.all_eq_true, Bool.and_eq_true] at hc
            exact ⟨rd, al, some l, rfl, rfl, .inr ⟨l, rfl, fun o ho => by have := hc o ho; simpa using this⟩⟩

theorem sets_nil {ps : List (Nat × Obj)} (hp : ∀ p, p ∈ ps → p.1 ∈ ([] : List Nat)) : ps = [] := by
  cases ps with
  | nil => rfl
  | cons p ps => exact absurd (hp p (List.mem_cons_self)) (by simp)

/-- an operation that was done after another, to which it owes nothing, may be done before it -/
theorem commute (hL : LogC C) {ox oi : AOper} {bx bi : Nat} {yx yi : Did} (hN : h.next = h.top) (hbx : bx < h.top) (hbi : bi < h.top) (hx : stepA C bx ox ρ h = some yx) (hi : stepA C bi oi (outρ ox ρ yx) yx.heap = some yi) (hap : Apart ox oi)
    (hc : Cmp yx.cls h.top yi.cls) (lx : low h.top yx.cls = true) (li : low yx.heap.top yi.cls = true) :
    ∃ yi', stepA C bi oi ρ h = some yi' ∧ yi'.cls = yi.cls ∧ low h.top yi.cls = true ∧ h.top ≤ yi'.heap.top ∧ ∃ yx', stepA C bx ox (outρ oi ρ yi') yi'.heap = some yx' ∧ yx'.cls = yx.cls ∧
      outρ ox (outρ oi ρ yi') yx' = outρ oi (outρ ox ρ yx) yi ∧ yx'.heap = yi.heap := by
  have hi0 : ∀ h2, stepA C bi oi (outρ ox ρ yx) h2 = stepA C bi oi ρ h2 := fun h2 => stepA_same fun t ht => outρ_ne (fun a u e => stepA_slot hx e) fun hw => (hap.1 t hw).1 ht
  have wx : ∀ a u, yx.slot = some (a, u) → a ∈ writes ox := fun a u e => stepA_slot hx e
  have wi : ∀ a u, yi.slot = some (a, u) → a ∈ writes oi := fun a u e => stepA_slot hi e
  have env : ∀ yi' yx' : Did, yi'.val = yi.val → yi'.slot = yi.slot → yx'.val = yx.val → yx'.slot = yx.slot → outρ ox (outρ oi ρ yi') yx' = outρ oi (outρ ox ρ yx) yi := by
    intro yi' yx' e1 e2 e3 e4
    funext t
    have wi' : ∀ a u, yi'.slot = some (a, u) → a ∈ writes oi := by rw [e2]; exact wi
    have wx' : ∀ a u, yx'.slot = some (a, u) → a ∈ writes ox := by rw [e4]; exact wx
    by_cases ht : t ∈ writes oi
    · have htx : t ∉ writes ox := fun hw => (hap.1 t hw).2 ht
      rw [outρ_ne wx' htx]
      exact outρ_congr e1 e2 (outρ_ne wx htx).symm
    · rw [outρ_ne wi ht]
      exact outρ_congr e3 e4 (outρ_ne wi' ht)
  have same2 : ∀ yi' : Did, yi'.slot = yi.slot → ∀ h2, stepA C bx ox (outρ oi ρ yi') h2 = stepA C bx ox ρ h2 := by
    intro yi' e h2
    exact stepA_same fun t ht => outρ_ne (by rw [e]; exact wi) fun hw => hap.2 t hw ht
  have hN1 : yx.heap.next = yx.heap.top := stepA_rs hx
  have lxs := loc_stepA hN hbx hx
  rcases cmp_cases hc with ⟨rd, wr, al, rd', wr', al', ec, ec', d1, d2, d3⟩ | ⟨rd, al, ws, ec, ec', hd⟩ | ⟨rd, al, ws, ec, ec', hd⟩
  · unfold LocA at lxs
    rw [ec] at lxs
    simp only at lxs
    obtain ⟨ps, x1, x2, x3⟩ := lxs
    have ht1 : yx.heap.top = h.top := by rw [x1]; exact (sets_top ps h).1
    have lis := loc_stepA hN1 (by rw [ht1]; exact hbi) hi
    unfold LocA at lis
    rw [ec'] at lis
    simp only at lis
    obtain ⟨qs, i1, i2, i3⟩ := lis
    have hi' := i3 h hN (fun o ho => by rw [x1, sets_get fun p hp e => d1 p.1 (x2 p hp) (by rw [e]; exact ho)]) (fun _ => ht1.symm)
    rw [hi0] at hi'
    have ht2 : (sets qs h).top = h.top := (sets_top qs h).1
    have hx' := x3 (sets qs h) (by rw [(sets_top qs h).1, (sets_top qs h).2]; exact hN) (fun o ho => sets_get (fun p hp e => d3 p.1 (i2 p hp) (by rw [e]; exact ho)) h) (fun _ => ht2)
    refine ⟨_, hi', ec'.symm, by rw [ht1] at li; exact li, by rw [show (Did.mk yi.val (sets qs h) yi.slot (Cls.r rd' wr' al')).heap = sets qs h from rfl, ht2]; exact Nat.le_refl _, ⟨yx.val, sets ps (sets qs h), yx.slot, yx.cls⟩, ?_, rfl, env _ _ rfl rfl rfl rfl, ?_⟩
    · show stepA C bx ox (outρ oi ρ ⟨yi.val, sets qs h, yi.slot, .r rd' wr' al'⟩) (sets qs h) = _
      rw [same2 ⟨yi.val, sets qs h, yi.slot, .r rd' wr' al'⟩ rfl]; rw [ec]; exact hx'
    · show sets ps (sets qs h) = yi.heap
      rw [i1, x1]
      exact sets_comm (fun p hp q hq e => d2 p.1 (x2 p hp) (by rw [e]; exact i2 q hq)) h
  · unfold LocA at lxs
    rw [ec] at lxs
    simp only at lxs
    obtain ⟨ps, x1, x2, x3⟩ := lxs
    have := sets_nil x2
    subst this
    have hh : yx.heap = h := x1
    rw [hi0, hh] at hi
    have htop := (stepA_keeps hL hi).1
    have hx' := x3 yi.heap (stepA_rs hi) (fun o ho => by
      rcases hd with hd | ⟨l, e, hd⟩
      · subst hd; cases ho
      · subst e
        rw [ec] at lx
        simp only [low, List.all_eq_true] at lx
        exact (stepA_log hL hi ec').2 o (by simpa using lx o ho) (hd o ho)) (fun e => absurd rfl e)
    refine ⟨yi, hi, rfl, by rw [ec']; rfl, htop, ⟨yx.val, yi.heap, yx.slot, yx.cls⟩, ?_, rfl, env _ _ rfl rfl rfl rfl, rfl⟩
    rw [same2 yi rfl, ec]; exact hx'
  · have lis := loc_stepA hN1 (Nat.lt_of_lt_of_le hbi (stepA_keeps hL hx).1) hi
    unfold LocA at lis
    rw [ec'] at lis
    simp only at lis
    obtain ⟨qs, i1, i2, i3⟩ := lis
    have := sets_nil i2
    subst this
    have hh : yi.heap = yx.heap := i1
    have hi' := i3 h hN (fun o ho => by
      rcases hd with hd | ⟨l, e, hd⟩
      · subst hd; cases ho
      · subst e
        exact ((stepA_log hL hx ec).2 o (hd o ho).1 (hd o ho).2).symm) (fun e => absurd rfl e)
    rw [hi0] at hi'
    refine ⟨_, hi', ec'.symm, ?_, Nat.le_refl _, yx, ?_, rfl, env _ _ rfl rfl rfl rfl, hh.symm⟩
    · rw [ec']
      simp only [low, List.all_eq_true]
      intro o ho
      rcases hd with hd | ⟨l, e, hd⟩
      · subst hd; cases ho
      · simpa using (hd o ho).1
    · show stepA C bx ox (outρ oi ρ ⟨yi.val, h, yi.slot, .r rd [] al⟩) h = _
      rw [same2 ⟨yi.val, h, yi.slot, .r rd [] al⟩ rfl]; exact hx
end
end Go.Avm


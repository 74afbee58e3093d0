/- The abstract machine on data, part 6: its operations are sound over the model. -/
import Derived.Test.YtgakndkfbhhcnaaGreatAv5
import Derived.LoopN
set_option linter.unusedVariables false
set_option linter.unusedSimpArgs false
/- The abstract machine on data: a region in any order that its edges allow. -/
namespace Go.Avm
open Go

structure Item where
  i : Nat
  o : AOper
  bef : List Nat

inductive Good (C : Calls) (b : Nat) (ρe : Nat → Option V) (he : H) : List Item → (Nat → Option V) → H → List Cls → Prop
  | nil : Good C b ρe he [] ρe he []
  | cons {it : Item} {rem : List Item} {ρ : Nat → Option V} {h : H} {y : Did} {cs : List Cls} (hs : stepA C (b + it.i) it.o ρ h = some y) (hl : low h.top y.cls = true)
      (hc : ∀ p ∈ rem.zip cs, it.i ∈ p.1.bef ∨ Cmp y.cls h.top p.2) (ht : Good C b ρe he rem (outρ it.o ρ y) y.heap cs) : Good C b ρe he (it :: rem) ρ h (y.cls :: cs)

section
variable {C : Calls} {b : Nat} {ρe : Nat → Option V} {he : H}

theorem Good.len {rem : List Item} {ρ : Nat → Option V} {h : H} {cs : List Cls} (g : Good C b ρe he rem ρ h cs) : rem.length = cs.length := by
  induction g with
  | nil => rfl
  | cons _ _ _ _ ih => simp [ih]

theorem low_mono {c : Cls} {n n' : Nat} (h : low n c = true) (hn : n ≤ n') : low n' c = true := by
  cases c with
  | g ws => rfl
  | r rd wr al =>
    simp only [low, List.all_eq_true] at h ⊢
    intro o ho
    have h1 : o < n := by simpa using h o ho
    have : o < n' := by omega
    simpa using this
theorem bubble (hL : LogC C) {it : Item} {post : List Item} : ∀ (pre : List Item) (ρ : Nat → Option V) (h : H) (cs : List Cls), Good C b ρe he (pre ++ it :: post) ρ h cs → h.next = h.top → (∀ x ∈ pre ++ it :: post, b + x.i < h.top) → (∀ x ∈ pre, x.i ∉ it.bef ∧ Apart x.o it.o) →
    ∃ y cp cq, cs = cp ++ y.cls :: cq ∧ cp.length = pre.length ∧ stepA C (b + it.i) it.o ρ h = some y ∧ low h.top y.cls = true ∧ Good C b ρe he (pre ++ post) (outρ it.o ρ y) y.heap (cp ++ cq)
  | [], ρ, h, cs, g, _, _, _ => by
    cases g with
    | cons hs hl hc ht => exact ⟨_, [], _, rfl, rfl, hs, hl, ht⟩
  | x :: pre, ρ, h, cs, g, hN, hlt, hp => by
    cases g with
    | @cons _ _ _ _ yx cs' hs hl hc ht =>
      obtain ⟨yi, cp, cq, e1, e2, e3, e4, e5⟩ := bubble hL pre _ _ _ ht (stepA_rs hs) (fun z hz => Nat.lt_of_lt_of_le (hlt z (List.mem_cons_of_mem _ hz)) (stepA_keeps hL hs).1) fun z hz => hp z (List.mem_cons_of_mem _ hz)
      obtain ⟨p1, p2⟩ := hp x (List.mem_cons_self)
      subst e1
      have hmem : (it, yi.cls) ∈ (pre ++ it :: post).zip (cp ++ yi.cls :: cq) := by
        rw [List.zip_append e2.symm]
        exact List.mem_append_right _ (by simp)
      have hcmp : Cmp yx.cls h.top yi.cls := (hc _ hmem).resolve_left p1
      obtain ⟨yi', c1, c2, c3, c4, yx', c5, c6, c8, c9⟩ := commute hL hN (hlt x (List.mem_cons_self)) (hlt it (by simp)) hs e3 p2 hcmp hl e4
      refine ⟨yi', yx.cls :: cp, cq, by rw [c2]; rfl, by simp [e2], c1, by rw [c2]; exact c3, ?_⟩
      rw [← c6]
      refine Good.cons c5 (by rw [c6]; exact low_mono hl c4) ?_ (by rw [c8, c9]; exact e5)
      intro p hpz
      have : p ∈ (pre ++ it :: post).zip (cp ++ yi.cls :: cq) := by
        have h1 : p ∈ pre.zip cp ++ post.zip cq := by rw [← List.zip_append e2.symm]; exact hpz
        rw [List.zip_append e2.symm]
        rcases List.mem_append.1 h1 with h2 | h2
        · exact List.mem_append_left _ h2
        · exact List.mem_append_right _ (by simp [h2])
      rcases hc p this with h1 | h1
      · exact .inl h1
      · refine .inr ?_
        rw [c6]
        exact cmp_n h1 c4

def items : Nat → List (AOper × List Nat) → List Item
  | _, [] => []
  | i, (o, bef) :: l => ⟨i, o, bef⟩ :: items (i + 1) l

theorem fits_spec {c : Cls} {bef : List Nat} : ∀ {seen : List (Nat × Cls × Nat)}, fits c bef seen = true → ∀ p ∈ seen, p.1 ∈ bef ∨ Cmp p.2.1 p.2.2 c
  | [], _, p, hp => by cases hp
  | (i, c', n) :: l, h, p, hp => by
    simp only [fits, Bool.and_eq_true, Bool.or_eq_true] at h
    rcases List.mem_cons.1 hp with h1 | h1
    · subst h1
      rcases h.1 with h2 | h2
      · exact .inr (.inr (.inr h2))
      · exact .inl (by simpa using h2)
    · exact fits_spec h.2 p h1

theorem runDraw_good {base : Nat} : ∀ (l : List (AOper × List Nat)) (i : Nat) (seen : List (Nat × Cls × Nat)) (s s' : St), runDraw C base l i seen s = some s' →
    ∃ cs, Good C base (lk s'.env) s'.heap (items i l) (lk s.env) s.heap cs ∧ ∀ p ∈ (items i l).zip cs, ∀ q ∈ seen, q.1 ∈ p.1.bef ∨ Cmp q.2.1 q.2.2 p.2
  | [], i, seen, s, s', h => by
    simp only [runDraw] at h
    injection h with h; subst h
    exact ⟨[], .nil, by simp [items]⟩
  | (o, bef) :: l, i, seen, s, s', h => by
    simp only [runDraw] at h
    split at h
    · rename_i s1 c0 hst
      obtain ⟨y0, e1, e2, e3, e4, _⟩ := step_stepD hst
      simp only at e1 e2
      have hA : stepA C (base + i) o (lk s.env) s.heap = some ⟨y0.val, y0.heap.rs, y0.slot, dcls (base + i) s.heap.top s1.heap.top c0⟩ := by
        unfold stepA; rw [e1, e3, e4]
      have hρ : lk s1.env = outρ o (lk s.env) ⟨y0.val, y0.heap.rs, y0.slot, dcls (base + i) s.heap.top s1.heap.top c0⟩ := e2
      have hh : s1.heap.rs = y0.heap.rs := by rw [e3]
      generalize dcls (base + i) s.heap.top s1.heap.top c0 = c at h hA hρ
      split at h
      · obtain ⟨cs, g1, g2⟩ := runDraw_good l (i + 1) seen _ s' h
        simp only at g1
        rw [hρ, hh] at g1
        refine ⟨.r [] [] false :: cs, Good.cons (it := ⟨i, o, bef⟩) hA rfl (fun p _ => .inr (.inl rfl)) g1, ?_⟩
        intro p hp q hq
        rcases List.mem_cons.1 hp with h1 | h1
        · subst h1; exact .inr (.inr (.inl rfl))
        · exact g2 p h1 q hq
      · split at h
        · rename_i hf
          simp only [Bool.and_eq_true] at hf
          obtain ⟨cs, g1, g2⟩ := runDraw_good l (i + 1) _ _ s' h
          simp only at g1
          rw [hρ, hh] at g1
          refine ⟨c :: cs, Good.cons (it := ⟨i, o, bef⟩) hA hf.2 (fun p hp => g2 p hp _ (List.mem_cons_self)) g1, ?_⟩
          intro p hp q hq
          rcases List.mem_cons.1 hp with h1 | h1
          · subst h1
            exact fits_spec hf.1 q hq
          · exact g2 p h1 q (List.mem_cons_of_mem _ hq)
        · cases h
    · cases h

/-! the check -/
def disj (l m : List Nat) : Bool := l.all fun i => m.all fun j => !Nat.beq i j
def apartB (ox oi : AOper) : Bool := disj (writes ox) (looks oi) && disj (writes ox) (writes oi) && disj (writes oi) (looks ox)
theorem disj_spec {l m : List Nat} (h : disj l m = true) : ∀ t ∈ l, t ∉ m := by
  intro t ht hm
  simp only [disj, List.all_eq_true] at h
  have := h t ht t hm
  simp at this
theorem apartB_spec {ox oi : AOper} (h : apartB ox oi = true) : Apart ox oi := by
  simp only [apartB, Bool.and_eq_true] at h
  exact ⟨fun t ht => ⟨disj_spec h.1.1 t ht, disj_spec h.1.2 t ht⟩, disj_spec h.2⟩

/-- the operations before the one at hand (`prev`, nearest first, with their indices): each stands before it for certain or apart from it -/
def chkApart (o : AOper) (bef : List Nat) : List Item → Bool
  | [] => true
  | x :: l => (bef.elem x.i || apartB x.o o) && chkApart o bef l
def befOf (i : Nat) : List Item → List Nat
  | [] => []
  | x :: l => if Nat.beq x.i i then x.bef else befOf i l
def bound (o : Oper) : List Nat := (o.after.toList.filter fun e => Region.binds .any e).map (·.on)
def chkBef (es : List Nat) (prev : List Item) (bef : List Nat) : Bool := bef.all fun m => es.elem m || es.any fun e => (befOf e prev).elem m
def chkDraw (P : Program) (N : Nat) (ops : Array Oper) : Nat → List Item → List (AOper × List Nat) → Bool
  | i, _, [] => Nat.beq i ops.size
  | i, prev, (ao, bef) :: l => (match ops[i]? with
    | some o => chkOper P N ops o ao && (bound o).all (fun e => Nat.blt e i) && chkBef (bound o) prev bef
    | none => false) && chkApart ao bef prev && chkDraw P N ops (i + 1) (⟨i, ao, bef⟩ :: prev) l
end
end Go.Avm

/- The abstract machine on data: a drawn region is sound. -/
namespace Go.Avm
open Go

section
variable {P : Program} {G : Start} {N : Nat} {Q : Exit → Act → World → Prop} {C : Calls}

theorem items_ge : ∀ (l : List (AOper × List Nat)) (i : Nat) (x : Item), x ∈ items i l → i ≤ x.i ∧ x.i < i + l.length
  | [], _, _, h => by cases h
  | (o, bef) :: l, i, x, h => by
    rcases List.mem_cons.1 h with h | h
    · subst h; simp
    · have := items_ge l (i + 1) x h
      simp only [List.length_cons]; omega
theorem items_sorted : ∀ (l : List (AOper × List Nat)) (i : Nat), (items i l).Pairwise (fun x y => x.i < y.i)
  | [], _ => .nil
  | (o, bef) :: l, i => List.Pairwise.cons (fun y hy => by have := (items_ge l (i + 1) y hy).1; show i < y.i; omega) (items_sorted l (i + 1))
theorem items_all : ∀ (l : List (AOper × List Nat)) (i j : Nat), i ≤ j → j < i + l.length → ∃ x ∈ items i l, x.i = j
  | [], i, j, h1, h2 => by simp at h2; omega
  | (o, bef) :: l, i, j, h1, h2 => by
    by_cases h : j = i
    · subst h; exact ⟨_, List.mem_cons_self, rfl⟩
    · obtain ⟨x, hx, e⟩ := items_all l (i + 1) j (by omega) (by simp only [List.length_cons] at h2; omega)
      exact ⟨x, List.mem_cons_of_mem _ hx, e⟩
theorem items_len : ∀ (l : List (AOper × List Nat)) (i : Nat), (items i l).length = l.length
  | [], _ => rfl
  | (o, bef) :: l, i => by simp [items, items_len l (i + 1)]

theorem chkApart_spec {o : AOper} {bef : List Nat} : ∀ {l : List Item}, chkApart o bef l = true → ∀ x ∈ l, x.i ∈ bef ∨ Apart x.o o
  | [], _, _, h => by cases h
  | x :: l, h, z, hz => by
    simp only [chkApart, Bool.and_eq_true, Bool.or_eq_true] at h
    rcases List.mem_cons.1 hz with h1 | h1
    · subst h1
      rcases h.1 with h2 | h2
      · exact .inl (by simpa using h2)
      · exact .inr (apartB_spec h2)
    · exact chkApart_spec h.2 z h1
theorem befOf_spec {e m : Nat} : ∀ {l : List Item}, m ∈ befOf e l → ∃ x ∈ l, x.i = e ∧ m ∈ x.bef
  | [], h => by simp [befOf] at h
  | x :: l, h => by
    unfold befOf at h
    split at h
    · rename_i hb; exact ⟨x, List.mem_cons_self, beq_nat.1 hb, h⟩
    · obtain ⟨z, h1, h2⟩ := befOf_spec h; exact ⟨z, List.mem_cons_of_mem _ h1, h2⟩
theorem mem_bound {o : Oper} {m : Nat} : m ∈ bound o ↔ ∃ e ∈ o.after, Region.binds .any e = true ∧ e.on = m := by
  simp [bound, and_assoc]

def Fine (P : Program) (N : Nat) (ops : Array Oper) (all : Item → Prop) (it : Item) : Prop :=
  ∃ o, ops[it.i]? = some o ∧ chkOper P N ops o it.o = true ∧ (∀ e ∈ bound o, e < it.i) ∧ (∀ m ∈ it.bef, m ∈ bound o ∨ ∃ e ∈ bound o, ∃ x, all x ∧ x.i = e ∧ m ∈ x.bef) ∧ ∀ x, all x → x.i < it.i → x.i ∈ it.bef ∨ Apart x.o it.o
theorem chkDraw_spec {ops : Array Oper} : ∀ (l : List (AOper × List Nat)) (i : Nat) (prev : List Item), chkDraw P N ops i prev l = true → i + l.length = ops.size ∧ ∀ it ∈ items i l, Fine P N ops (fun x => x ∈ prev ∨ x ∈ items i l) it
  | [], i, prev, h => by
    simp only [chkDraw] at h
    exact ⟨by have := beq_nat.1 h; simpa using this, by intro it hit; cases hit⟩
  | (ao, bef) :: l, i, prev, h => by
    simp only [chkDraw, Bool.and_eq_true] at h
    obtain ⟨⟨h1, h2⟩, h3⟩ := h
    obtain ⟨g1, g2⟩ := chkDraw_spec l (i + 1) _ h3
    refine ⟨by simp only [List.length_cons]; omega, ?_⟩
    intro it hit
    rcases List.mem_cons.1 hit with e | e
    · subst e
      split at h1
      · rename_i o ho
        simp only [Bool.and_eq_true] at h1
        obtain ⟨⟨h4, h5⟩, h6⟩ := h1
        refine ⟨o, ho, h4, ?_, ?_, ?_⟩
        · intro e he
          simp only [List.all_eq_true] at h5
          simpa using h5 e he
        · intro m hm
          simp only [chkBef, List.all_eq_true, Bool.or_eq_true] at h6
          rcases h6 m hm with h7 | h7
          · exact .inl (by simpa using h7)
          · obtain ⟨e, he, h8⟩ := List.any_eq_true.1 h7
            obtain ⟨x, hx, h9, h10⟩ := befOf_spec (by simpa using h8 : m ∈ befOf e prev)
            exact .inr ⟨e, he, x, .inl hx, h9, h10⟩
        · intro x hx hlt
          rcases hx with hx | hx
          · exact chkApart_spec h2 x hx
          · have := (items_ge _ _ _ hx).1
            have hlt2 : x.i < i := hlt; omega
      · cases h1
    · obtain ⟨o, q1, q2, q3, q4, q5⟩ := g2 it e
      have mv : ∀ x, (x ∈ (⟨i, ao, bef⟩ : Item) :: prev ∨ x ∈ items (i + 1) l) ↔ (x ∈ prev ∨ x ∈ items i ((ao, bef) :: l)) := by
        intro x
        simp only [items, List.mem_cons]
        constructor
        · rintro ((h | h) | h)
          · exact .inr (.inl h)
          · exact .inl h
          · exact .inr (.inr h)
        · rintro (h | h | h)
          · exact .inl (.inr h)
          · exact .inl (.inl h)
          · exact .inr h
      refine ⟨o, q1, q2, q3, ?_, ?_⟩
      · intro m hm
        rcases q4 m hm with h | ⟨e, he, x, hx, h⟩
        · exact .inl h
        · exact .inr ⟨e, he, x, (mv x).1 hx, h⟩
      · intro x hx
        exact q5 x ((mv x).2 hx)

structure Left (ops : Array Oper) (all : List Item) (listed : Array Bool) (rem : List Item) : Prop where
  sub : ∀ x ∈ rem, x ∈ all
  sorted : rem.Pairwise (fun x y => x.i < y.i)
  un : ∀ x ∈ rem, listed.getD x.i true = false
  cov : ∀ j, listed.getD j true = false → ∃ x ∈ rem, x.i = j
  closed : ∀ x ∈ all, listed.getD x.i false = true → ∀ m ∈ x.bef, listed.getD m false = true
  size : listed.size = ops.size

theorem listed_iff {listed : Array Bool} {j : Nat} (h : listed.getD j true = false) : listed.getD j false = false := by
  rcases Nat.lt_or_ge j listed.size with h' | h'
  · simp [h'] at h ⊢; exact h
  · simp [Array.getElem?_eq_none h'] at h
theorem listed_not {listed : Array Bool} {j : Nat} (h : listed.getD j false = true) : listed.getD j true = true := by
  rcases Nat.lt_or_ge j listed.size with h' | h'
  · simp [h'] at h ⊢; exact h
  · simp [Array.getElem?_eq_none h'] at h

theorem Rel.at {w : World} {k : K} {μ : Nat → Loc} {hb : Nat → Nat} {ρ : Nat → Option V} {h : H} {a : Act} (r : Rel G N w k μ hb ρ h a) {b : Nat} (hb1 : ¬ h.has b) (hb2 : b ≤ h.top) : Rel G N w k μ hb ρ (h.at b) a :=
  ⟨⟨r.inv.agree, r.inv.lt, r.inv.top, hb1, hb2, r.inv.obj, r.inv.sep, r.inv.low, r.inv.bot⟩, r.env, r.size, r.defers, r.hole, r.hsep, ⟨r.ext.kle, r.ext.fnew, r.ext.mnew, r.ext.mu, r.ext.nle, r.ext.os, r.ext.tape, r.ext.output, r.ext.size, r.ext.frame, r.ext.own⟩⟩
theorem Rel.rs {w : World} {k : K} {μ : Nat → Loc} {hb : Nat → Nat} {ρ : Nat → Option V} {h : H} {a : Act} (r : Rel G N w k μ hb ρ h a) : Rel G N w k μ hb ρ h.rs a :=
  ⟨⟨r.inv.agree, r.inv.lt, r.inv.top, fun hh => by have := r.inv.top _ hh; exact absurd this (Nat.lt_irrefl _), Nat.le_refl _, r.inv.obj, r.inv.sep, r.inv.low, r.inv.bot⟩, r.env, r.size, r.defers, r.hole, r.hsep, ⟨r.ext.kle, r.ext.fnew, r.ext.mnew, r.ext.mu, r.ext.nle, r.ext.os, r.ext.tape, r.ext.output, r.ext.size, r.ext.frame, r.ext.own⟩⟩
theorem Rel.aside {w : World} {k : K} {μ : Nat → Loc} {hb : Nat → Nat} {ρ : Nat → Option V} {h : H} {a : Act} (r : Rel G N w k μ hb ρ h a) (n : Nat) : Rel G N w k μ hb ρ (h.aside n) a :=
  ⟨⟨r.inv.agree, r.inv.lt, fun i hh => Nat.lt_of_lt_of_le (r.inv.top i hh) (Nat.le_add_right _ _), fun hh => by have := r.inv.top _ hh; exact absurd this (by show ¬ h.top + n < h.top; omega), Nat.le_refl _, r.inv.obj, r.inv.sep, r.inv.low, r.inv.bot⟩, r.env, r.size, r.defers, r.hole, r.hsep, ⟨r.ext.kle, r.ext.fnew, r.ext.mnew, r.ext.mu, r.ext.nle, r.ext.os, r.ext.tape, r.ext.output, r.ext.size, r.ext.frame, r.ext.own⟩⟩
theorem any_sound (hC : CallsOk P C) {ops : Array Oper} {all : List Item} (hf : ∀ it ∈ all, Fine P N ops (· ∈ all) it) (hu : ∀ x ∈ all, ∀ z ∈ all, x.i = z.i → x = z) {b : Nat} {ρe : Nat → Option V} {he : H}
    (hq : ∀ k' μ' hb' a' w', Rel G N w' k' μ' hb' ρe he a' → Q .normal a' w') :
    ∀ (fuel : Nat) (rem : List Item) (listed : Array Bool) (ρ : Nat → Option V) (h : H) (cs : List Cls) (w : World) (k : K) (μ : Nat → Loc) (hb : Nat → Nat) (a : Act),
      rem.length = fuel → Left ops all listed rem → Good C b ρe he rem ρ h cs → h.next = h.top → (∀ x ∈ rem, b + x.i < h.top ∧ ¬ h.has (b + x.i)) → Rel G N w k μ hb ρ h a → wpAny P .any ops Q fuel listed a w := by
  intro fuel
  induction fuel with
  | zero =>
    intro rem listed ρ h cs w k μ hb a hlen hL g hN hfr r
    have : rem = [] := List.eq_nil_of_length_eq_zero hlen
    subst this
    cases g
    refine ⟨?_, hq _ _ _ _ _ r⟩
    cases hr : Region.ready .any ops listed with
    | nil => rfl
    | cons i l =>
      have : i ∈ Region.ready .any ops listed := by rw [hr]; exact List.mem_cons_self
      obtain ⟨x, hx, _⟩ := hL.cov i (mem_ready.1 this).1
      cases hx
  | succ fuel ih =>
    intro rem listed ρ h cs w k μ hb a hlen hL g hN hfr r
    refine ⟨?_, ?_⟩
    · intro hr
      exfalso
      cases hrem : rem with
      | nil => rw [hrem] at hlen; cases hlen
      | cons x rest =>
        have hx : x ∈ rem := by rw [hrem]; exact List.mem_cons_self
        obtain ⟨o, q1, q2, q3, q4, q5⟩ := hf x (hL.sub x hx)
        have : x.i ∈ Region.ready .any ops listed := by
          rw [mem_ready]
          refine ⟨hL.un x hx, o, q1, fun e he hbn => ?_⟩
          have hlt := q3 e.on (mem_bound.2 ⟨e, he, hbn, rfl⟩)
          cases hle : listed.getD e.on true with
          | false =>
            obtain ⟨z, hz, hze⟩ := hL.cov _ hle
            rw [hrem] at hz
            have hs := hL.sorted
            rw [hrem] at hs
            rcases List.mem_cons.1 hz with h1 | h1
            · subst h1; omega
            · have := List.rel_of_pairwise_cons hs h1
              omega
          | true =>
            have hsz : x.i < listed.size := by rw [hL.size]; exact (Array.getElem?_eq_some_iff.1 q1).1
            have : e.on < listed.size := by omega
            simp [this] at hle ⊢; exact hle
        rw [hr] at this; cases this
    · intro i hi
      obtain ⟨hun, o, ho, hall⟩ := mem_ready.1 hi
      obtain ⟨it, hit, rfl⟩ := hL.cov i hun
      obtain ⟨pre, post, rfl⟩ := List.append_of_mem hit
      have hita := hL.sub it hit
      obtain ⟨o', q1, q2, q3, q4, q5⟩ := hf it hita
      rw [ho] at q1; injection q1 with q1; subst q1
      have hbl : ∀ e ∈ bound o, listed.getD e false = true := by
        intro e he
        obtain ⟨ed, h1, h2, rfl⟩ := mem_bound.1 he
        exact hall ed h1 h2
      have hbef : ∀ m ∈ it.bef, listed.getD m false = true := by
        intro m hm
        rcases q4 m hm with h1 | ⟨e, he, x, hx, hxe, hmx⟩
        · exact hbl m h1
        · exact hL.closed x hx (by rw [hxe]; exact hbl e he) m hmx
      have hpre : ∀ x ∈ pre, x.i ∉ it.bef ∧ Apart x.o it.o := by
        intro x hx
        have hxr : x ∈ pre ++ it :: post := List.mem_append_left _ hx
        have hlt : x.i < it.i := by
          have := (List.pairwise_append.1 hL.sorted).2.2 x hx it (List.mem_cons_self)
          exact this
        have hnb : x.i ∉ it.bef := fun hm => by
          have h1 := hbef _ hm
          have h2 := listed_iff (hL.un x hxr)
          rw [h1] at h2; cases h2
        exact ⟨hnb, (q5 x (hL.sub x hxr) hlt).resolve_left hnb⟩
      obtain ⟨y, cp, cq, e1, e2, e3, e4, e5⟩ := bubble hC.log pre ρ h cs g hN (fun x hx => (hfr x hx).1) hpre
      have keeps := stepA_keeps hC.log e3
      have hnext := stepA_rs e3
      obtain ⟨y0, e0, hyy⟩ : ∃ y0, stepD C it.o ρ (h.at (b + it.i)) = some y0 ∧ y = ⟨y0.val, y0.heap.rs, y0.slot, dcls (b + it.i) h.top y0.heap.top y0.cls⟩ := by
        unfold stepA at e3
        split at e3
        · rename_i y0 h0; injection e3 with e3; exact ⟨y0, h0, e3.symm⟩
        · cases e3
      have hfi := hfr it (by simp)
      refine stepD_sound hC (r.at hfi.2 (Nat.le_of_lt hfi.1)) ho q2 e0 fun k' μ' hb' a' w' r0 => ?_
      have r' : Rel G N w' k' μ' hb' (outρ it.o ρ y) y.heap a' := by rw [hyy]; exact r0.rs
      have hs := hL.sorted
      have hne : ∀ x ∈ pre ++ post, x.i ≠ it.i := by
        intro x hx
        rcases List.mem_append.1 hx with h1 | h1
        · have := (List.pairwise_append.1 hs).2.2 x h1 it (List.mem_cons_self); omega
        · have := List.rel_of_pairwise_cons (List.pairwise_append.1 hs).2.1 h1; omega
      have hmem : ∀ x ∈ pre ++ post, x ∈ pre ++ it :: post := by
        intro x hx
        rcases List.mem_append.1 hx with h1 | h1
        · exact List.mem_append_left _ h1
        · exact List.mem_append_right _ (List.mem_cons_of_mem _ h1)
      refine ih (pre ++ post) _ _ _ _ _ _ _ _ _ (by simp at hlen ⊢; omega) ?_ e5 hnext (fun x hx => ⟨Nat.lt_of_lt_of_le (hfr x (hmem x hx)).1 keeps.1, fun hh => (hfr x (hmem x hx)).2 (keeps.2 _ (hfr x (hmem x hx)).1 (fun e => hne x hx (by omega)) hh)⟩) r'
      refine ⟨fun x hx => hL.sub x (hmem x hx), ?_, ?_, ?_, ?_, by simp [hL.size]⟩
      · exact hs.sublist (List.Sublist.append (List.Sublist.refl pre) (List.sublist_cons_self it post))
      · intro x hx
        rw [getD_set_ne true (Ne.symm (hne x hx))]
        exact hL.un x (hmem x hx)
      · intro j hj
        have hji : it.i ≠ j := by
          intro e; subst e
          have hlt : it.i < listed.size := by rw [hL.size]; exact (Array.getElem?_eq_some_iff.1 ho).1
          simp [hlt] at hj
        rw [getD_set_ne true hji] at hj
        obtain ⟨x, hx, rfl⟩ := hL.cov j hj
        refine ⟨x, ?_, rfl⟩
        rcases List.mem_append.1 hx with h1 | h1
        · exact List.mem_append_left _ h1
        · rcases List.mem_cons.1 h1 with h2 | h2
          · subst h2; exact absurd rfl hji
          · exact List.mem_append_right _ h2
      · intro x hx hl m hm
        by_cases hxi : it.i = x.i
        · have hxx : m ∈ it.bef := by
            rw [← hu x hx it hita hxi.symm]; exact hm
          exact getD_set_true (hbef m hxx)
        · rw [getD_set_ne false hxi] at hl
          exact getD_set_true (hL.closed x hx hl m hm)

theorem sorted_inj : ∀ {l : List Item}, l.Pairwise (fun x y => x.i < y.i) → ∀ x ∈ l, ∀ z ∈ l, x.i = z.i → x = z
  | [], _, x, hx, _, _, _ => by cases hx
  | y :: l, hp, x, hx, z, hz, e => by
    rcases List.mem_cons.1 hx with h1 | h1 <;> rcases List.mem_cons.1 hz with h2 | h2
    · rw [h1, h2]
    · subst h1; have := List.rel_of_pairwise_cons hp h2; omega
    · subst h2; have := List.rel_of_pairwise_cons hp h1; omega
    · exact sorted_inj (List.Pairwise.of_cons hp) x h1 z h2 e

theorem draw_sound (hC : CallsOk P C) (hm : P.follows .mixedOrders = true) {ops : Array Oper} {id : Nat} {l : List (AOper × List Nat)} {s s' : St} {w : World} {k : K} {μ : Nat → Loc} {hb : Nat → Nat} {a : Act}
    (hk : chkDraw P N ops 0 [] l = true) (r : Rel G N w k μ hb (lk s.env) s.heap a) (hs : runDraw C s.heap.top l 0 [] ⟨s.env, s.heap.aside l.length, s.log⟩ = some s')
    (hq : ∀ k' μ' hb' a' w', Rel G N w' k' μ' hb' (lk s'.env) s'.heap a' → Q .normal a' w') : (Code.region id ops true).wp P Q a w := by
  refine wp_region_any hm ?_
  obtain ⟨h1, h2⟩ := chkDraw_spec l 0 [] hk
  obtain ⟨cs, g, _⟩ := runDraw_good l 0 [] _ s' hs
  have hr : Rel G N w.drew k μ hb (lk s.env) (s.heap.aside l.length) a := (r.step r.inv.drew (Ext.drew ..)).aside _
  refine any_sound hC (all := items 0 l) (fun it hit => ?_) (sorted_inj (items_sorted l 0)) hq ops.size (items 0 l) _ _ _ _ _ _ _ _ _ (by rw [items_len]; omega) ?_ g rfl (fun x hx => ⟨by have := (items_ge l 0 x hx).2; show s.heap.top + x.i < s.heap.top + l.length; omega, fun hh => by have : s.heap.top + x.i < s.heap.top := r.inv.top _ hh; omega⟩) hr
  · obtain ⟨o, q1, q2, q3, q4, q5⟩ := h2 it hit
    refine ⟨o, q1, q2, q3, ?_, fun x hx => q5 x (.inr hx)⟩
    intro m hm
    rcases q4 m hm with h | ⟨e, he, x, hx, h⟩
    · exact .inl h
    · exact .inr ⟨e, he, x, hx.resolve_left (by simp), h⟩
  · refine ⟨fun x hx => hx, items_sorted l 0, ?_, ?_, ?_, by simp⟩
    · intro x hx
      have := (items_ge l 0 x hx).2
      have : x.i < ops.size := by omega
      simp [this]
    · intro j hj
      have : j < ops.size := by
        rcases Nat.lt_or_ge j ops.size with h | h
        · exact h
        · simp [h] at hj
      exact items_all l 0 j (Nat.zero_le _) (by omega)
    · intro x _ hl
      exfalso
      rcases Nat.lt_or_ge x.i ops.size with h | h
      · simp [h] at hl
      · simp [h] at hl
end
end Go.Avm

/- The abstract machine on data: code is sound, and so are functions and whole programs. -/
namespace Go.Avm
open Go

section
variable {P : Program} {G : Start} {N : Nat} {Q : Exit → Act → World → Prop} {C : Calls}

def toExit : Ex → Exit
  | .norm => .normal
  | .exit i => .exit i
  | .ret => .ret

def chkCode (P : Program) (N : Nat) : Code → AC → Bool
  | .skip, .skip => true
  | .region _ ops false, .region l => chkOps P N ops 0 l
  | .region _ ops true, .draw l => chkDraw P N ops 0 [] l
  | .seq a b, .seq x y => chkCode P N a x && chkCode P N b y
  | .cond c a b, .cond d x y => chkOpnd c d && chkCode P N a x && chkCode P N b y
  | .block i c, .block j x => Nat.beq i j && chkCode P N c x
  | .loop c, .loop _ x => chkCode P N c x
  | .exit i, .exit j => Nat.beq i j
  | .ret, .ret => true
  | _, .unk => true
  | _, _ => false

theorem lk_keep {env : List (Nat × V)} : ∀ {live : List Nat} {t : Nat} {v : V}, lk (keep live env) t = some v → lk env t = some v
  | [], t, v, h => by simp [keep, lk] at h
  | i :: live, t, v, h => by
    simp only [keep, List.filterMap_cons] at h
    cases hi : lk env i with
    | none => simp only [hi, Option.map_none] at h; exact lk_keep (live := live) h
    | some u =>
      simp only [hi, Option.map_some] at h
      rw [lk_cons] at h
      split at h
      · rename_i e; subst e; rw [hi]; exact h
      · exact lk_keep (live := live) h

theorem code_sound (hC : CallsOk P C) (hm : P.follows .mixedOrders = true) (lf : Nat) : ∀ (c : Code) (ac : AC) (Q : Exit → Act → World → Prop) (s s' : St) (e : Ex) (w : World) (k : K) (μ : Nat → Loc) (hb : Nat → Nat) (a : Act),
    chkCode P N c ac = true → Rel G N w k μ hb (lk s.env) s.heap a → run C lf ac s = some (e, s') →
    (∀ k' μ' hb' a' w', Rel G N w' k' μ' hb' (lk s'.env) s'.heap a' → Q (toExit e) a' w') → c.wp P Q a w := by
  intro c
  induction c with
  | skip =>
    intro ac Q s s' e w k μ hb a hk r hs hq
    cases ac <;> simp [chkCode] at hk <;> first | (simp [run] at hs; done) | skip
    simp only [run] at hs; injection hs with hs; injection hs with e1 e2; subst e1 e2
    exact Go.wp_skip (hq _ _ _ _ _ r)
  | ret =>
    intro ac Q s s' e w k μ hb a hk r hs hq
    cases ac <;> simp [chkCode] at hk <;> first | (simp [run] at hs; done) | skip
    simp only [run] at hs; injection hs with hs; injection hs with e1 e2; subst e1 e2
    exact Go.wp_ret (hq _ _ _ _ _ r)
  | exit i =>
    intro ac Q s s' e w k μ hb a hk r hs hq
    cases ac <;> simp only [chkCode] at hk <;> first | (cases hk; done) | (simp [run] at hs; done) | skip
    have := beq_nat.1 hk
    subst this
    simp only [run] at hs; injection hs with hs; injection hs with e1 e2; subst e1 e2
    exact Go.wp_exit (hq _ _ _ _ _ r)
  | region i ops dr =>
    intro ac Q s s' e w k μ hb a hk r hs hq
    cases dr with
    | false =>
      cases ac <;> simp only [chkCode] at hk <;> first | (cases hk; done) | (simp [run] at hs; done) | skip
      simp only [run] at hs
      split at hs
      · rename_i s1 h1; injection hs with hs; injection hs with e1 e2; subst e1 e2
        exact region_sound hC hk r h1 hq
      · cases hs
    | true =>
      cases ac <;> simp only [chkCode] at hk <;> first | (cases hk; done) | (simp [run] at hs; done) | skip
      simp only [run] at hs
      split at hs
      · rename_i s1 h1; injection hs with hs; injection hs with e1 e2; subst e1 e2
        exact draw_sound hC hm hk r h1 hq
      · cases hs
  | seq c1 c2 ih1 ih2 =>
    intro ac Q s s' e w k μ hb a hk r hs hq
    cases ac <;> simp only [chkCode] at hk <;> first | (cases hk; done) | (simp [run] at hs; done) | skip
    rename_i x y
    simp only [Bool.and_eq_true] at hk
    refine wp_seq ?_
    simp only [run] at hs
    split at hs
    · rename_i s1 h1
      refine ih1 x _ s s1 .norm w k μ hb a hk.1 r h1 fun k' μ' hb' a' w' r' => ?_
      exact ih2 y Q s1 s' e w' k' μ' hb' a' hk.2 r' hs hq
    · rename_i hne
      refine ih1 x _ s s' e w k μ hb a hk.1 r hs fun k' μ' hb' a' w' r' => ?_
      have := hq k' μ' hb' a' w' r'
      cases e with
      | norm => exact absurd hs (hne s')
      | exit i => exact this
      | ret => exact this
  | cond c c1 c2 ih1 ih2 =>
    intro ac Q s s' e w k μ hb a hk r hs hq
    cases ac <;> simp only [chkCode] at hk <;> first | (cases hk; done) | (simp [run] at hs; done) | skip
    rename_i d x y
    simp only [Bool.and_eq_true] at hk
    simp only [run] at hs
    split at hs
    · rename_i t ht
      have hv := opv_rep r hk.1.1 ht
      have hev : a.eval c = .bool t := by
        generalize a.eval c = u at hv
        cases hv with
        | d _ _ hv => cases hv; rfl
      refine wp_cond (t := t) hev ?_
      cases t with
      | true => exact ih1 x Q s s' e w k μ hb a hk.1.2 r (by simpa using hs) hq
      | false => exact ih2 y Q s s' e w k μ hb a hk.2 r (by simpa using hs) hq
    · cases hs
  | block i c ih =>
    intro ac Q s s' e w k μ hb a hk r hs hq
    cases ac <;> simp only [chkCode] at hk <;> first | (cases hk; done) | (simp [run] at hs; done) | skip
    rename_i j x
    simp only [Bool.and_eq_true] at hk
    have := beq_nat.1 hk.1
    subst this
    refine wp_block ?_
    simp only [run] at hs
    split at hs
    · rename_i l s1 h1
      split at hs
      · rename_i hb1
        have := beq_nat.1 hb1
        subst this
        injection hs with hs; injection hs with e1 e2; subst e1 e2
        refine ih x _ s s1 (.exit l) w k μ hb a hk.2 r h1 fun k' μ' hb' a' w' r' => ?_
        show Exit.inBlock l Q (.exit l) a' w'
        simp only [Exit.inBlock, if_true]
        exact hq _ _ _ _ _ r'
      · rename_i hb1
        injection hs with hs; injection hs with e1 e2; subst e1 e2
        refine ih x _ s s1 (.exit l) w k μ hb a hk.2 r h1 fun k' μ' hb' a' w' r' => ?_
        show Exit.inBlock i Q (.exit l) a' w'
        have hne : ¬ l = i := fun he => hb1 (beq_nat.2 he)
        simp only [Exit.inBlock]
        rw [if_neg hne]
        exact hq _ _ _ _ _ r'
    · rename_i hne
      refine ih x _ s s' e w k μ hb a hk.2 r hs fun k' μ' hb' a' w' r' => ?_
      have := hq k' μ' hb' a' w' r'
      cases e with
      | norm => exact this
      | exit i => exact absurd hs (hne i s')
      | ret => exact this
  | loop c ih =>
    intro ac Q s s' e w k μ hb a hk r hs hq
    cases ac <;> simp only [chkCode] at hk <;> first | (cases hk; done) | (simp [run] at hs; done) | skip
    rename_i lv x
    simp only [run] at hs
    have key : ∀ (n : Nat) (s : St) (w : World) (k : K) (μ : Nat → Loc) (hb : Nat → Nat) (a : Act), Rel G N w k μ hb (lk s.env) s.heap a → iter n (run C lf x) lv s = some (e, s') → Code.rounds P c Q n a w := by
      intro n
      induction n with
      | zero => intro s w k μ hb a _ h; simp [iter] at h
      | succ n ihn =>
        intro s w k μ hb a r h
        rw [rounds_succ]
        simp only [iter] at h
        have r' : Rel G N w k μ hb (lk (keep lv s.env)) s.heap a := r.less fun t v hv => lk_keep hv
        split at h
        · rename_i s1 h1
          exact ih x _ ⟨keep lv s.env, s.heap, s.log⟩ s1 .norm w k μ hb a hk r' h1 fun k' μ' hb' a' w' r'' => ihn s1 w' k' μ' hb' a' r'' h
        · rename_i hne
          refine ih x _ ⟨keep lv s.env, s.heap, s.log⟩ s' e w k μ hb a hk r' h fun k' μ' hb' a' w' r'' => ?_
          have := hq k' μ' hb' a' w' r''
          cases e with
          | norm => exact absurd h (hne s')
          | exit i => exact this
          | ret => exact this
    exact wp_loop_rounds lf (key lf s w k μ hb a r hs)
  | _ =>
    intro ac Q s s' e w k μ hb a hk r hs hq
    cases ac <;> simp [chkCode] at hk <;> simp [run] at hs

/-! functions -/
def chkRes (P : Program) : ResultVar → ARes → Bool
  | .tmp t, .t n => Nat.beq t n
  | .cell a t, .cell b n ag => Nat.beq a b && szOk P t n && agOk P t ag
  | _, _ => false
def chkAll {α β : Type} (p : α → β → Bool) : List α → List β → Bool
  | [], [] => true
  | x :: l, y :: m => p x y && chkAll p l m
  | _, _ => false
def chkFn (P : Program) (fn : Func) (f : AFn) : Bool := match fn.body with
  | some c => Nat.ble f.nparams fn.ntmps && chkCode P fn.ntmps c f.body && chkAll (chkRes P) fn.results.toList f.results && !decide (fn.name = "runtime.NumGoroutine")
  | none => false

def resOne (a : Act) : ResultVar → Sem Value
  | .tmp t => pure (a.tmps.getD t undef)
  | .cell b t => do loadVar t (← asAddr (a.tmps.getD b undef))
theorem resV_ok {w : World} {k : K} {μ : Nat → Loc} {hb : Nat → Nat} {s : St} {a : Act} (r : Rel G N w k μ hb (lk s.env) s.heap a) : ∀ (rs : List ResultVar) (as : List ARes) (vs : List V), chkAll (chkRes P) rs as = true → resV s as = some vs →
    ∃ us : List Value, RepVs k μ s.heap.has us vs ∧ (rs.mapM (resOne a)).run P w = .ok us w
  | [], [], vs, _, h => by
    simp only [resV] at h; injection h with h; subst h
    exact ⟨[], .nil, by simp⟩
  | .tmp t :: rs, .t n :: as, vs, hk, h => by
    simp only [chkAll, chkRes, Bool.and_eq_true] at hk
    have := beq_nat.1 hk.1
    subst this
    simp only [resV] at h
    split at h
    · rename_i v vs' h1 h2
      injection h with h; subst h
      obtain ⟨us, g1, g2⟩ := resV_ok r rs as vs' hk.2 h2
      have hv : RepV k μ s.heap.has (a.eval (.tmp t)) v := opv_rep r (x := .tmp t) (y := .t t) (by simp [chkOpnd]) h1
      refine ⟨_ :: us, .cons hv g1, ?_⟩
      simp [resOne, g2, Act.eval]
    · cases h
  | .cell b t :: rs, .cell c n ag :: as, vs, hk, h => by
    simp only [chkAll, chkRes, Bool.and_eq_true] at hk
    have := beq_nat.1 hk.1.1.1
    subst this
    simp only [resV] at h
    split at h
    · rename_i p vs' h1 h2
      split at h
      · rename_i v h3
        injection h with h; subst h
        obtain ⟨us, g1, g2⟩ := resV_ok r rs as vs' hk.2 h2
        have hnh : ∀ m, p ≠ .hole m := by rintro m rfl; simp [loadV] at h3
        obtain ⟨ad, u, e1, e2, e3⟩ := run_loadV (P := P) r.inv hk.1.1.2 hk.1.2 (r.env b p h1 hnh) h3
        refine ⟨u :: us, .cons e3 g1, ?_⟩
        simp [resOne, g2, e1, e2, asAddr]
      · cases h
    · cases h
  | [], _ :: _, _, hk, _ => by simp [chkAll] at hk
  | _ :: _, [], _, hk, _ => by simp [chkAll] at hk
  | .tmp _ :: _, .cell .. :: _, _, hk, _ => by simp [chkAll, chkRes] at hk
  | .cell .. :: _, .t _ :: _, _, hk, _ => by simp [chkAll, chkRes] at hk

theorem result_ok {fn : Func} {w : World} {k : K} {μ : Nat → Loc} {hb : Nat → Nat} {s : St} {a : Act} (r : Rel G N w k μ hb (lk s.env) s.heap a) {as : List ARes} {v : V} (hk : chkAll (chkRes P) fn.results.toList as = true) (hs : result s as = some v) :
    ∃ u, (results fn a.tmps).run P w = .ok u w ∧ RepV k μ s.heap.has u v := by
  have key : ∀ vs, resV s as = some vs → ∃ us : List Value, RepVs k μ s.heap.has us vs ∧ (fn.results.mapM (resOne a)).run P w = .ok us.toArray w := by
    intro vs hv
    obtain ⟨us, g1, g2⟩ := resV_ok r _ _ _ hk hv
    refine ⟨us, g1, ?_⟩
    rw [Array.mapM_eq_mapM_toList]
    simp [g2]
  have hres : results fn a.tmps = (do let vs ← fn.results.mapM (resOne a); pure (if h : vs.size = 1 then vs[0] else .tuple vs)) := rfl
  unfold result at hs
  split at hs
  · rename_i v' he
    injection hs with hs; subst hs
    obtain ⟨us, g1, g2⟩ := key _ he
    obtain ⟨u, l, rfl, g3, g4⟩ := g1.cons_inv
    have := g4.nil_inv; subst this
    refine ⟨u, ?_, g3⟩
    rw [hres]; simp [g2]
  · rename_i vs hne he
    injection hs with hs; subst hs
    obtain ⟨us, g1, g2⟩ := key _ he
    refine ⟨.tuple us.toArray, ?_, repV_mkTuple (by simpa using g1)⟩
    have : us.toArray.size ≠ 1 := by
      intro e
      have e1 : vs.length = 1 := by rw [← g1.1]; simpa using e
      match vs, e1 with
      | [x], _ => exact hne x rfl
    rw [hres]
    simp only [List.size_toArray] at this
    simp [g2, this]
  · cases hs
end
end Go.Avm

/- The abstract machine on data: what a run leaves as it was. -/
namespace Go.Avm
open Go

section
variable {C : Calls} {ρ ρ' : Nat → Option V} {h : H} {y : Did}

theorem news_get : ∀ (n : List Obj) (g : H) (o : Nat), o < g.top → o ≠ g.next → (n.foldl H.new g).get o = g.get o
  | [], g, o, _, _ => rfl
  | x :: n, g, o, h1, h2 => by
    have ht : g.top ≤ g.up := H.up_ge g
    show (n.foldl H.new (g.new x)).get o = _
    rw [news_get n (g.new x) o (by rw [H.top_new]; omega) (by rw [H.next_new]; omega), H.get_new_ne g x h2]
theorem news_next : ∀ (n : List Obj) (g : H), (n.foldl H.new g).next = g.next ∨ g.top ≤ (n.foldl H.new g).next
  | [], g => .inl rfl
  | x :: n, g => by
    have ht : g.top ≤ g.up := H.up_ge g
    refine .inr ?_
    show g.top ≤ (n.foldl H.new (g.new x)).next
    rcases news_next n (g.new x) with h | h
    · rw [h, H.next_new]; exact ht
    · rw [H.top_new] at h; omega

/-- every step: what it may have changed -/
theorem stepD_log (hL : LogC C) {o : AOper} (hs : stepD C o ρ h = some y) : LogR h y.heap (match y.cls with | .r _ wr _ => some wr | .g ws => ws) := by
  cases hc : y.cls with
  | g ws => exact step_log hL hs hc
  | r rd wr al =>
    have hl := local_step hs
    unfold LocalAt at hl
    rw [hc] at hl
    simp only at hl
    obtain ⟨s, n, g1, g2, _⟩ := hl
    have ht : (set1 s h).top = h.top := by cases s <;> rfl
    have hn : (set1 s h).next = h.next := by cases s <;> rfl
    rw [g1, app_eq]
    refine ⟨by have := news_top n (set1 s h); rw [ht] at this; exact this, by have := news_next n (set1 s h); rw [ht, hn] at this; exact this, fun i h1 h2 h3 => ?_, fun l e i h1 h2 h3 => ?_⟩
    · rcases news_has n _ i h3 with h4 | h4 | h4
      · cases s with
        | none => exact h4
        | some p =>
          rcases (H.has_set h p.1 i p.2).1 h4 with rfl | h5
          · exact H.has_get (g2 p.1 p.2 rfl).2
          · exact h5
      · rw [hn] at h4; exact absurd h4 h2
      · rw [ht] at h4; omega
    · injection e with e; subst e
      rw [news_get n _ i (by rw [ht]; exact h1) (by rw [hn]; exact h2)]
      cases s with
      | none => rfl
      | some p => exact H.get_set_ne h p.2 (fun e => h3 (e ▸ (g2 p.1 p.2 rfl).1))

/-- what a run from s0 may have changed below T, but for N -/
structure LogX (T N : Nat) (s0 s : St) : Prop where
  top : T ≤ s.heap.top
  next : s.heap.next = N ∨ T ≤ s.heap.next
  has : ∀ o, o < T → o ≠ N → s.heap.has o → s0.heap.has o
  log : ∀ l', s.log = some l' → ∃ l, s0.log = some l ∧ (∀ x, x ∈ l → x ∈ l') ∧ ∀ o, o < T → o ≠ N → o ∉ l' → s.heap.get o = s0.heap.get o

theorem addLog_some {c : Cls} {l : Option (List Nat)} {l' : List Nat} (h : addLog c l = some l') : ∃ m ws, l = some m ∧ (match c with | .r _ wr _ => some wr | .g ws => ws) = some ws ∧ l' = ws ++ m := by
  unfold addLog at h
  split at h
  · cases h
  · split at h
    · injection h with h; exact ⟨_, [], rfl, rfl, by simp [h]⟩
    · injection h with h; exact ⟨_, _, rfl, rfl, h.symm⟩
    · injection h with h; exact ⟨_, _, rfl, rfl, h.symm⟩
    · cases h

theorem LogX.step (hL : LogC C) {T N : Nat} {s0 s s' : St} {o : AOper} {c : Cls} (x : LogX T N s0 s) (hs : step C o s = some (s', c)) : LogX T N s0 s' := by
  obtain ⟨y, h1, _, h3, h4, h5⟩ := step_stepD hs
  have r := stepD_log hL h1
  have ne : ∀ o, o < T → o ≠ N → o ≠ s.heap.next := fun o a b => by rcases x.next with e | e <;> omega
  have lt : ∀ o, o < T → o < s.heap.top := fun o a => by have := x.top; omega
  rw [← h4] at r
  refine ⟨by rw [h3]; exact Nat.le_trans x.top r.top, ?_, ?_, ?_⟩
  · rw [h3]
    rcases r.next with e | e
    · rw [e]; exact x.next
    · exact .inr (Nat.le_trans x.top e)
  · intro o a b hh
    rw [h3] at hh
    exact x.has o a b (r.has o (lt o a) (ne o a b) hh)
  · intro l' e
    rw [h5] at e
    obtain ⟨m, ws, e1, e2, rfl⟩ := addLog_some e
    obtain ⟨l, q1, q2, q3⟩ := x.log m e1
    refine ⟨l, q1, fun z hz => List.mem_append_right _ (q2 z hz), fun o a b hn => ?_⟩
    simp only [List.mem_append, not_or] at hn
    rw [h3, r.get ws e2 o (lt o a) (ne o a b) hn.1, q3 o a b hn.2]

theorem LogX.ops (hL : LogC C) {T N : Nat} {s0 : St} : ∀ (l : List AOper) (s s' : St), LogX T N s0 s → runOps C l s = some s' → LogX T N s0 s'
  | [], s, s', x, hs => by simp only [runOps] at hs; injection hs with hs; subst hs; exact x
  | o :: l, s, s', x, hs => by
    simp only [runOps] at hs
    split at hs
    · rename_i s1 c h1
      exact LogX.ops hL l s1 s' (x.step hL h1) hs
    · cases hs
theorem LogX.at {T N b : Nat} {s0 s : St} (x : LogX T N s0 s) (hb : T ≤ b) : LogX T N s0 ⟨s.env, s.heap.at b, s.log⟩ := ⟨x.top, .inr hb, x.has, x.log⟩
theorem LogX.rs {T N : Nat} {s0 s : St} (x : LogX T N s0 s) : LogX T N s0 ⟨s.env, s.heap.rs, s.log⟩ := ⟨x.top, .inr x.top, x.has, x.log⟩
theorem LogX.aside {T N n : Nat} {s0 s : St} (x : LogX T N s0 s) : LogX T N s0 ⟨s.env, s.heap.aside n, s.log⟩ :=
  ⟨Nat.le_trans x.top (Nat.le_add_right _ _), .inr (Nat.le_trans x.top (Nat.le_add_right _ _)), x.has, x.log⟩
theorem LogX.env {T N : Nat} {s0 s : St} (x : LogX T N s0 s) (e : List (Nat × V)) : LogX T N s0 ⟨e, s.heap, s.log⟩ := ⟨x.top, x.next, x.has, x.log⟩
theorem LogX.draw (hL : LogC C) {T N b : Nat} {s0 : St} (hb : T ≤ b) : ∀ (l : List (AOper × List Nat)) (i : Nat) (seen : List (Nat × Cls × Nat)) (s s' : St), LogX T N s0 s → runDraw C b l i seen s = some s' → LogX T N s0 s'
  | [], i, seen, s, s', x, hs => by simp only [runDraw] at hs; injection hs with hs; subst hs; exact x
  | (o, bef) :: l, i, seen, s, s', x, hs => by
    simp only [runDraw] at hs
    split at hs
    · rename_i s1 c h1
      have x1 := ((x.at (b := b + i) (by omega)).step hL h1).rs
      split at hs
      · exact LogX.draw hL hb l _ _ _ _ x1 hs
      · split at hs
        · exact LogX.draw hL hb l _ _ _ _ x1 hs
        · cases hs
    · cases hs
theorem LogX.iter {T N : Nat} {s0 : St} {body : St → Option (Ex × St)} (hb : ∀ s e s', LogX T N s0 s → body s = some (e, s') → LogX T N s0 s') (live : List Nat) :
    ∀ (n : Nat) (s : St) (e : Ex) (s' : St), LogX T N s0 s → iter n body live s = some (e, s') → LogX T N s0 s'
  | 0, s, e, s', x, hs => by simp [Avm.iter] at hs
  | n + 1, s, e, s', x, hs => by
    simp only [Avm.iter] at hs
    split at hs
    · rename_i s1 h1
      exact LogX.iter hb live n s1 e s' (hb _ _ _ (x.env _) h1) hs
    · exact hb _ _ _ (x.env _) hs
theorem LogX.run (hL : LogC C) {T N lf : Nat} {s0 : St} : ∀ (c : AC) (s : St) (e : Ex) (s' : St), LogX T N s0 s → run C lf c s = some (e, s') → LogX T N s0 s' := by
  intro c
  induction c with
  | skip => intro s e s' x hs; simp only [Avm.run] at hs; injection hs with hs; injection hs with _ hs; subst hs; exact x
  | region ops =>
    intro s e s' x hs
    simp only [Avm.run] at hs
    split at hs
    · rename_i s1 h1
      injection hs with hs; injection hs with _ hs; subst hs
      exact LogX.ops hL _ _ _ x h1
    · cases hs
  | draw ops =>
    intro s e s' x hs
    simp only [Avm.run] at hs
    split at hs
    · rename_i s1 h1
      injection hs with hs; injection hs with _ hs; subst hs
      exact LogX.draw hL x.top _ _ _ _ _ x.aside h1
    · cases hs
  | seq a b iha ihb =>
    intro s e s' x hs
    simp only [Avm.run] at hs
    split at hs
    · rename_i s1 h1
      exact ihb _ _ _ (iha _ _ _ x h1) hs
    · exact iha _ _ _ x hs
  | cond c a b iha ihb =>
    intro s e s' x hs
    simp only [Avm.run] at hs
    split at hs
    · split at hs
      · exact iha _ _ _ x hs
      · exact ihb _ _ _ x hs
    · cases hs
  | block id c ih =>
    intro s e s' x hs
    simp only [Avm.run] at hs
    split at hs
    · rename_i i s1 h1
      have := ih _ _ _ x h1
      split at hs <;> (injection hs with hs; injection hs with _ hs; subst hs; exact this)
    · exact ih _ _ _ x hs
  | loop live c ih =>
    intro s e s' x hs
    simp only [Avm.run] at hs
    exact LogX.iter (fun s e s' => ih s e s') live _ _ _ _ x hs
  | exit id => intro s e s' x hs; simp only [Avm.run] at hs; injection hs with hs; injection hs with _ hs; subst hs; exact x
  | ret => intro s e s' x hs; simp only [Avm.run] at hs; injection hs with hs; injection hs with _ hs; subst hs; exact x
  | unk => intro s e s' x hs; simp [Avm.run] at hs

theorem run_log (hL : LogC C) {lf : Nat} {c : AC} {env : List (Nat × V)} {h : H} {e : Ex} {s' : St} (hs : run C lf c ⟨env, h, some []⟩ = some (e, s')) : LogR h s'.heap (lowLog h.top s'.log) := by
  have x := LogX.run hL (T := h.top) (N := h.next) (s0 := ⟨env, h, some []⟩) c _ _ _ ⟨Nat.le_refl _, .inl rfl, fun o _ _ hh => hh, fun l' e => ⟨[], rfl, by simp, fun o _ _ _ => rfl⟩⟩ hs
  refine ⟨x.top, x.next, x.has, ?_⟩
  intro l e o h1 h2 h3
  unfold lowLog at e
  split at e
  · rename_i l' e'
    injection e with e; subst e
    obtain ⟨m, _, _, q⟩ := x.log l' e'
    exact q o h1 h2 fun hm => h3 (List.mem_filter.2 ⟨hm, by simpa using h1⟩)
  · cases e
end
end Go.Avm

/- The abstract machine on data: a program's functions keep what `callP` says. -/
namespace Go.Avm
open Go

section
variable {P : Program}

def PureOk (P : Program) (f : Nat) (ds : List D) (d : D) : Prop := ∀ (w : World) (k : K) (args : Array Value), Agree k w → RepDs k args.toList ds →
    Go.Calls P f args w fun e w' => ∃ u k', e = .returned u ∧ w.heap.size ≤ w'.heap.size ∧ (∀ b, b < w.heap.size → w'.heap[b]? = w.heap[b]?) ∧ w'.os = w.os ∧ w'.tape = w.tape ∧ w'.output = w.output ∧ Agree k' w' ∧ k.le k' ∧
      (∀ b o u, k'.F b o = some u → k.F b o = some u ∨ w.heap.size ≤ b) ∧ (∀ b es, k'.M b = some es → k.M b = some es ∨ w.heap.size ≤ b) ∧ Rep k' u d
def FullOk (P : Program) (f : Nat) (vs : List V) (v : V) (h h' : H) : Prop := ∀ (B : Nat) (w : World) (k : K) (μ : Nat → Loc) (args : Array Value), Inv B w k μ h → RepVs k μ h.has args.toList vs →
    Go.Calls P f args w fun e w' => ∃ u k' μ', e = .returned u ∧ Inv B w' k' μ' h' ∧ Ext w k μ h w' k' μ' h' ∧ RepV k' μ' h'.has u v
def BodyOk (P : Program) (f : Nat) : Prop := ∃ fn, P.funcs[f]? = some fn ∧ fn.body.isSome = true ∧ fn.name ≠ "runtime.NumGoroutine"

/-- what a program of the abstract machine owes to the program that it stands for -/
structure ProgOk (P : Program) (pg : Prog) : Prop where
  mixed : P.follows .mixedOrders = true
  fn : ∀ f a, pg.find f = some (.fn a) → ∃ fn, P.funcs[f]? = some fn ∧ chkFn P fn a = true
  prim : ∀ f p, pg.find f = some (.prim p) → BodyOk P f ∧ ∀ ds d, p ds = some d → PureOk P f ds d
  primF : ∀ f p, pg.find f = some (.primF p) → BodyOk P f ∧ ∀ vs v h h' ws, p vs h = some (v, h', ws) → FullOk P f vs v h h' ∧ LogR h h' ws

theorem pure_of_full {full : Nat → List V → H → Option (V × H × Option (List Nat))} (hf : ∀ f vs v h h' ws, full f vs h = some (v, h', ws) → FullOk P f vs v h h') {f : Nat} {ds : List D} {d : D} (h : pureOf full f ds = some d) : PureOk P f ds d := by
  intro w k args ha hr
  unfold pureOf at h
  split at h
  · rename_i v h' ws he
    split at h
    · rename_i d' h'' hz
      injection h with h; subst h
      refine (hf f _ v H.empty h' ws he w.heap.size w k (fun _ => ⟨0, 0, 0⟩) args (Inv.empty ha (Nat.le_refl _)) (repVs_d.2 hr)).mono ?_
      rintro e w' ⟨u, k', μ', rfl, hi, hx, hv⟩
      obtain ⟨k2, fz, hd⟩ := (frz_ok (B := w.heap.size) (w := w') (μ := μ') 100000).1 hi hv hz
      refine ⟨u, k2, rfl, hx.size, fun b hb => hx.frame b hb (fun i hl => by rw [H.get_empty] at hl; simp [live] at hl), hx.os, hx.tape, hx.output, fz.inv.agree, K.le_trans hx.kle fz.kle, ?_, ?_, hd⟩
      · intro b o u' hu
        rcases fz.fnew _ _ _ hu with h1 | ⟨i, hi', hb⟩
        · rcases hx.fnew _ _ _ h1 with h2 | ⟨i, hl, _⟩ | h2
          · exact .inl h2
          · rw [H.get_empty] at hl; simp [live] at hl
          · exact .inr h2
        · exact .inr (by rw [← hb]; exact hi.low i hi')
      · intro b es hu
        rcases fz.mnew _ _ hu with h1 | ⟨i, hi', hb⟩
        · rcases hx.mnew _ _ h1 with h2 | ⟨i, hl, _⟩ | h2
          · exact .inl h2
          · rw [H.get_empty] at hl; simp [live] at hl
          · exact .inr h2
        · exact .inr (by rw [← hb]; exact hi.low i hi')
    · cases h
  · cases h

theorem lk_args0 : ∀ (vs : List V) (i t : Nat) (v : V), lk (args0 i vs) t = some v → ∃ j, t = i + j ∧ vs[j]? = some v
  | [], i, t, v, h => by simp [args0, lk] at h
  | u :: vs, i, t, v, h => by
    simp only [args0] at h
    rw [lk_cons] at h
    split at h
    · rename_i e; exact ⟨0, by omega, by simpa using h⟩
    · obtain ⟨j, h1, h2⟩ := lk_args0 vs (i + 1) t v h
      exact ⟨j + 1, by omega, by simpa using h2⟩

theorem fn_sound {C : Calls} (hC : CallsOk P C) (hm : P.follows .mixedOrders = true) {f : Nat} {fn : Func} {a : AFn} (hf : P.funcs[f]? = some fn) (hk : chkFn P fn a = true) {vs : List V} {h : H} {lf : Nat} {s : St} {e : Ex}
    (hl : vs.length = a.nparams) (hr : run C lf a.body ⟨args0 0 vs, h, some []⟩ = some (e, s)) (he : e = .norm ∨ e = .ret) {v : V} (hv : result s a.results = some v) : FullOk P f vs v h s.heap := by
  intro B w k μ args hi hargs
  unfold chkFn at hk
  split at hk
  · rename_i c hb
    simp only [Bool.and_eq_true] at hk
    obtain ⟨⟨⟨k1, k2⟩, k3⟩, k4⟩ := hk
    have hlen : args.size ≤ fn.ntmps := by
      have h1 := hargs.1
      have h2 : a.nparams ≤ fn.ntmps := by simpa using k1
      rw [hl] at h1; simp only [Array.length_toList] at h1; omega
    refine calls_of_wp hf hb ?_
    have hnh : ∀ t m, lk (args0 0 vs) t ≠ some (.hole m) := by
      intro t m e
      obtain ⟨j, _, h2⟩ := lk_args0 vs 0 t _ e
      obtain ⟨u, _, h4⟩ := hargs.get h2
      cases h4
    have rel : Rel ⟨B, w, k, μ, h⟩ fn.ntmps w k μ (fun _ => 0) (lk (args0 0 vs)) h { tmps := args ++ Array.replicate (fn.ntmps - args.size) undef, defers := [] } := by
      refine ⟨hi, ?_, by simp; omega, rfl, fun t m e => absurd e (hnh t m), fun t t' m m' _ e => absurd e (hnh t m), Ext.refl ..⟩
      intro t x hx _
      obtain ⟨j, h1, h2⟩ := lk_args0 vs 0 t x hx
      obtain ⟨u, h3, h4⟩ := hargs.get h2
      have : t = j := by omega
      subst this
      have hlt : t < args.size := by
        rcases Nat.lt_or_ge t args.size with h | h
        · exact h
        · rw [List.getElem?_eq_none (by simpa using h)] at h3; cases h3
      have : ((args ++ Array.replicate (fn.ntmps - args.size) undef).getD t undef) = u := by
        rw [Array.getD_eq_getD_getElem?, Array.getElem?_append_left hlt]
        have : args[t]? = some u := by simpa using h3
        rw [this]; rfl
      rw [this]; exact h4
    refine code_sound hC hm lf c a.body _ ⟨args0 0 vs, h, some []⟩ s e w k μ _ _ k2 rel hr ?_
    intro k' μ' hb' a' w' r'
    obtain ⟨u, g1, g2⟩ := result_ok r' k3 hv
    rcases he with rfl | rfl
    · exact ⟨r'.defers, u, g1, u, k', μ', rfl, r'.inv, r'.ext, g2⟩
    · exact ⟨r'.defers, u, g1, u, k', μ', rfl, r'.inv, r'.ext, g2⟩
  · cases hk

theorem calls_ok {pg : Prog} (hp : ProgOk P pg) : ∀ n, CallsOk P ⟨pureOf (callN pg n), callN pg n⟩ := by
  have build : ∀ n, (∀ f vs v h h' ws, callN pg n f vs h = some (v, h', ws) → FullOk P f vs v h h') → (∀ f vs v h h' ws, callN pg n f vs h = some (v, h', ws) → LogR h h' ws) → (∀ f vs h r, callN pg n f vs h = some r → BodyOk P f) → CallsOk P ⟨pureOf (callN pg n), callN pg n⟩ := by
    intro n h1 hl h2
    refine ⟨fun f ds d he => pure_of_full h1 he, h1, hl, ?_⟩
    rintro f (⟨ds, d, he⟩ | ⟨vs, h, r, he⟩)
    · simp only [pureOf] at he
      split at he
      · rename_i v h' ws hv; exact h2 f _ _ _ hv
      · cases he
    · exact h2 f vs h r he
  intro n
  induction n with
  | zero => exact build 0 (fun f vs v h h' ws he => by simp [callN] at he) (fun f vs v h h' ws he => by simp [callN] at he) (fun f vs h r he => by simp [callN] at he)
  | succ n ih =>
    refine build (n + 1) ?_ ?_ ?_
    · intro f vs v h h' ws he
      simp only [callN] at he
      split at he
      · rename_i a hfind
        obtain ⟨fn, q1, q2⟩ := hp.fn f a hfind
        split at he
        · rename_i hl
          split at he
          · rename_i s hr
            split at he
            · rename_i v' hv; injection he with he; injection he with e1 e2; injection e2 with e2 e3; subst e1 e2
              exact fn_sound ih hp.mixed q1 q2 hl hr (.inl rfl) hv
            · cases he
          · rename_i s hr
            split at he
            · rename_i v' hv; injection he with he; injection he with e1 e2; injection e2 with e2 e3; subst e1 e2
              exact fn_sound ih hp.mixed q1 q2 hl hr (.inr rfl) hv
            · cases he
          · cases he
        · cases he
      · rename_i p hfind
        exact ((hp.primF f p hfind).2 _ _ _ _ _ he).1
      · rename_i p hfind
        obtain ⟨_, q2⟩ := hp.prim f p hfind
        have key : ∀ (ds : List D) (d : D) (h1 : H), p ds = some d → (∀ (B : Nat) (w : World) (k : K) (μ : Nat → Loc) (args : Array Value), Inv B w k μ h → RepVs k μ h.has args.toList vs → ∃ k2, Frozen B w k μ h k2 h1 ∧ RepDs k2 args.toList ds) → FullOk P f vs (.d d) h h1 := by
          intro ds d h1 hd hz B w k μ args hi hargs
          obtain ⟨k2, fz, hds⟩ := hz B w k μ args hi hargs
          refine (q2 ds d hd w k2 args fz.inv.agree hds).mono ?_
          rintro e w' ⟨u, k', rfl, h1, h2, h3, h4, h5, h6, h7, h8, h9, h10⟩
          exact ⟨u, k', μ, rfl, fz.inv.grow h1 h2 h6 h7 h8 h9, fz.ext.trans (Ext.grow h1 h2 h7 h3 h4 h5 h8 h9), .d _ _ h10⟩
        split at he
        · rename_i ds hz
          split at he
          · rename_i d hd
            injection he with he; injection he with e1 e2; injection e2 with e2 e3; subst e1 e2
            refine key ds d h hd fun B w k μ args hi hargs => ?_
            rw [allD_eq hz] at hargs
            exact ⟨k, Frozen.refl hi, repVs_d.1 hargs⟩
          · cases he
        · split at he
          · rename_i ds h'' hz
            split at he
            · rename_i d hd
              injection he with he; injection he with e1 e2; injection e2 with e2 e3; subst e1 e2
              exact key ds d h'' hd fun B w k μ args hi hargs => (frz_ok 100000).2.1 hi hargs hz
            · cases he
          · cases he
      · cases he
    · intro f vs v h h' ws he
      simp only [callN] at he
      split at he
      · split at he
        · split at he
          · rename_i s hr
            split at he
            · injection he with he; injection he with e1 e2; injection e2 with e2 e3; subst e1 e2 e3
              exact run_log ih.log hr
            · cases he
          · rename_i s hr
            split at he
            · injection he with he; injection he with e1 e2; injection e2 with e2 e3; subst e1 e2 e3
              exact run_log ih.log hr
            · cases he
          · cases he
        · cases he
      · rename_i p hfind
        exact ((hp.primF f p hfind).2 _ _ _ _ _ he).2
      · split at he
        · split at he
          · injection he with he; injection he with e1 e2; injection e2 with e2 e3; subst e1 e2 e3
            exact ⟨Nat.le_refl _, .inl rfl, fun o _ _ hh => hh, fun l _ o _ _ _ => rfl⟩
          · cases he
        · split at he
          · rename_i hz
            split at he
            · injection he with he; injection he with e1 e2; injection e2 with e2 e3; subst e1 e2 e3
              obtain ⟨t1, t2, t3⟩ := (frz_still _).2.1 _ _ _ _ hz
              exact ⟨Nat.le_of_eq t1.symm, .inl t2, fun o _ _ hh => t3 o hh, fun l e => by cases e⟩
            · cases he
          · cases he
      · cases he
    · intro f vs h r he
      simp only [callN] at he
      split at he
      · rename_i a hfind
        obtain ⟨fn, q1, q2⟩ := hp.fn f a hfind
        refine ⟨fn, q1, ?_⟩
        unfold chkFn at q2
        split at q2
        · rename_i c hb
          simp only [Bool.and_eq_true, Bool.not_eq_true', decide_eq_false_iff_not] at q2
          exact ⟨by rw [hb]; rfl, q2.2⟩
        · cases q2
      · rename_i p hfind
        exact (hp.primF f p hfind).1
      · rename_i p hfind
        exact (hp.prim f p hfind).1
      · cases he

/-- the contract of a function whose call, on data, gives data -/
theorem callP_sound {pg : Prog} (hp : ProgOk P pg) {n f : Nat} {ds : List D} {d : D} (h : callP pg n f ds = some d) : PureOk P f ds d := (calls_ok hp n).pure f ds d h
end
end Go.Avm

/- The abstract machine on data: a call has one outcome. -/
namespace Go.Avm
open Go

/-- a frame that cannot go on -/
def wall : Frame := { (default : Frame) with fn := 0, kind := .normal, todo := [.code (.refuse "")] }
theorem wall_finish (v : Value) : wall.finish v = wall := rfl
theorem wall_step (P : Program) (w : World) : ∀ m, Go.step P (lone wall [] w) ≠ .next m := by
  intro m h
  have : ∃ r w', Go.step P (lone wall [] w) = .ended r w' := ⟨_, _, step_lone_ended (by simp only [stepG, wall, stepG.exec]; rfl)⟩
  obtain ⟨r, w', e⟩ := this
  rw [e] at h; cases h

theorem lone_inj {f g : Frame} {cs ds : List Frame} {w u : World} (h : lone f cs w = lone g ds u) : f = g ∧ cs = ds ∧ w = u := by
  simp only [lone] at h
  injection h with h1 h2 h3
  have := congrArg (fun a => a.toList) h2
  simp only [List.cons.injEq, and_true] at this
  injection this with a b c d
  exact ⟨a, b, h1⟩

theorem leaving_det {P : Program} {fr : Frame} {w : World} {v u : Value} (h : fr.leaving P w (.returned v)) (g : fr.leaving P w (.returned u)) : v = u := by
  obtain ⟨_, _, _, fn, h1, h2⟩ := h
  obtain ⟨_, _, _, fn', g1, g2⟩ := g
  rw [h1] at g1; injection g1 with g1; subst g1
  rw [h2] at g2; injection g2

theorem two_leave {P : Program} {m : Machine} {n d : Nat} {f g : Frame} {w u : World} {v x : Value} (h1 : runN P n m = .next (lone f [wall] w)) (h2 : runN P (n + d) m = .next (lone g [wall] u)) (l1 : f.leaving P w (.returned v)) (l2 : g.leaving P u (.returned x)) :
    v = x ∧ w = u := by
  rw [runN_add, h1] at h2
  match d, h2 with
  | 0, h2 =>
    simp only [runN] at h2
    injection h2 with h2
    obtain ⟨rfl, _, rfl⟩ := lone_inj h2
    exact ⟨leaving_det l1 l2, rfl⟩
  | d + 1, h2 =>
    exfalso
    simp only [runN, step_leave_returned l1, wall_finish] at h2
    match d, h2 with
    | 0, h2 =>
      simp only [runN] at h2
      injection h2 with h2
      have := (lone_inj h2).2.1
      cases this
    | d + 1, h2 =>
      simp only [runN] at h2
      cases hs : Go.step P (lone wall [] w) with
      | next m' => exact wall_step P w m' hs
      | ended r w' => rw [hs] at h2; cases h2

/-- two things that are known of a call's outcome are known together -/
theorem calls_both {P : Program} {f : FuncId} {args : Array Value} {w : World} {R S : Value → World → Prop} (h : Go.Calls P f args w fun e w' => ∃ v, e = .returned v ∧ R v w') (g : Go.Calls P f args w fun e w' => ∃ v, e = .returned v ∧ S v w') : ∃ v w', R v w' ∧ S v w' := by
  obtain ⟨e, w1, fr, ⟨v, rfl, hR⟩, ⟨n, hn⟩, _, l1⟩ := h [wall]
  obtain ⟨e, w2, fr2, ⟨x, rfl, hS⟩, ⟨m, hm⟩, _, l2⟩ := g [wall]
  rcases Nat.le_total n m with hle | hle
  · obtain ⟨d, rfl⟩ := Nat.exists_eq_add_of_le hle
    obtain ⟨rfl, rfl⟩ := two_leave hn hm l1 l2
    exact ⟨_, _, hR, hS⟩
  · obtain ⟨d, rfl⟩ := Nat.exists_eq_add_of_le hle
    obtain ⟨rfl, rfl⟩ := two_leave hm hn l2 l1
    exact ⟨_, _, hR, hS⟩
/-- the data that a pure call gives is one -/
theorem pure_bool {P : Program} {f : Nat} {ds es : List D} {b c : Bool} (h : PureOk P f ds (.bool b)) (g : PureOk P f es (.bool c)) {w : World} {k : K} {args : Array Value} (ha : Agree k w) (h1 : RepDs k args.toList ds) (h2 : RepDs k args.toList es) : b = c := by
  obtain ⟨v, w', ⟨k1, hv1⟩, ⟨k2, hv2⟩⟩ := calls_both (R := fun v w' => ∃ k, Rep k v (.bool b)) (S := fun v w' => ∃ k, Rep k v (.bool c))
    ((h w k args ha h1).mono fun e w' ⟨u, k', e1, _, _, _, _, _, _, _, _, _, hr⟩ => ⟨u, e1, k', hr⟩)
    ((g w k args ha h2).mono fun e w' ⟨u, k', e1, _, _, _, _, _, _, _, _, _, hr⟩ => ⟨u, e1, k', hr⟩)
  cases hv1; cases hv2; rfl
end Go.Avm

/- The abstract machine on data: equations by which code is run on states that are known in part. -/
namespace Go.Avm
open Go
section
variable {C : Calls} {lf : Nat} {e : List (Nat × V)} {h : H} {lg : Option (List Nat)}

/-- what is behind an operation of a region -/
def opsN (C : Calls) (l : List AOper) : Option (St × Cls) → Option St
  | some (s, _) => runOps C l s
  | none => none
theorem sx_nil {s : St} : runOps C [] s = some s := of_eq_true (eq_self _)
theorem sx_cons {o : AOper} {l : List AOper} : runOps C (o :: l) ⟨e, h, lg⟩ = opsN C l (step C o ⟨e, h, lg⟩) := by
  simp only [runOps, opsN]; split <;> rename_i hs <;> simp [hs]
theorem sx_ops {l : List AOper} {c : Cls} : opsN C l (some (⟨e, h, lg⟩, c)) = runOps C l ⟨e, h, lg⟩ := of_eq_true (eq_self _)

def rN : Option St → Option (Ex × St)
  | some s => some (.norm, s)
  | none => none
theorem sx_rN {s : St} : rN (some s) = some (.norm, s) := of_eq_true (eq_self _)
theorem sx_region {ops : List AOper} : run C lf (.region ops) ⟨e, h, lg⟩ = rN (runOps C ops ⟨e, h, lg⟩) := of_eq_true (eq_self _)
def seqN (C : Calls) (lf : Nat) (b : AC) : Option (Ex × St) → Option (Ex × St)
  | some (.norm, s) => run C lf b s
  | r => r
theorem sx_seq {a b : AC} {s : St} : run C lf (.seq a b) s = seqN C lf b (run C lf a s) := of_eq_true (eq_self _)
theorem sx_seq_norm {b : AC} {s : St} : seqN C lf b (some (.norm, s)) = run C lf b s := of_eq_true (eq_self _)
theorem sx_seq_exit {b : AC} {s : St} {i : Nat} : seqN C lf b (some (.exit i, s)) = some (.exit i, s) := of_eq_true (eq_self _)
theorem sx_seq_ret {b : AC} {s : St} : seqN C lf b (some (.ret, s)) = some (.ret, s) := of_eq_true (eq_self _)
def condN (C : Calls) (lf : Nat) (a b : AC) (s : St) : Option V → Option (Ex × St)
  | some (.d (.bool true)) => run C lf a s
  | some (.d (.bool false)) => run C lf b s
  | _ => none
theorem sx_cond {c : Opnd} {a b : AC} : run C lf (.cond c a b) ⟨e, h, lg⟩ = condN C lf a b ⟨e, h, lg⟩ (opv (lk e) c) := by
  simp only [run, condN]
  split
  · rename_i t ht; cases t <;> simp [ht]
  · rename_i hne
    split
    · rename_i h1; exact absurd h1 (hne true)
    · rename_i h1; exact absurd h1 (hne false)
    · rfl
theorem sx_cond_t {a b : AC} {s : St} : condN C lf a b s (some (.d (.bool true))) = run C lf a s := of_eq_true (eq_self _)
theorem sx_cond_f {a b : AC} {s : St} : condN C lf a b s (some (.d (.bool false))) = run C lf b s := of_eq_true (eq_self _)
def blockN (id : Nat) : Option (Ex × St) → Option (Ex × St)
  | some (.exit i, s) => if Nat.beq i id then some (.norm, s) else some (.exit i, s)
  | r => r
theorem sx_block {id : Nat} {c : AC} {s : St} : run C lf (.block id c) s = blockN id (run C lf c s) := by
  simp only [run, blockN]; split <;> rename_i hs <;> simp [hs]
theorem sx_block_norm {id : Nat} {s : St} : blockN id (some (.norm, s)) = some (.norm, s) := of_eq_true (eq_self _)
theorem sx_block_ret {id : Nat} {s : St} : blockN id (some (.ret, s)) = some (.ret, s) := of_eq_true (eq_self _)
theorem sx_block_exit {id i : Nat} {s : St} : blockN id (some (.exit i, s)) = if i = id then some (.norm, s) else some (.exit i, s) := by
  simp only [blockN]; by_cases h : i = id <;> simp [h]
theorem sx_exit {s : St} {i : Nat} : run C lf (.exit i) s = some (.exit i, s) := of_eq_true (eq_self _)
theorem sx_ret {s : St} : run C lf .ret s = some (.ret, s) := of_eq_true (eq_self _)
theorem sx_skip {s : St} : run C lf .skip s = some (.norm, s) := of_eq_true (eq_self _)
theorem sx_loop {live : List Nat} {c : AC} {s : St} : run C lf (.loop live c) s = iter lf (run C lf c) live s := of_eq_true (eq_self _)

/-! an operation -/
def stepP (dst : Option Nat) (e : List (Nat × V)) (lg : Option (List Nat)) : Option Did → Option (St × Cls)
  | some ⟨v, h, none, c⟩ => some (⟨put dst v e, h, addLog c lg⟩, c)
  | some ⟨v, h, some (a, u), c⟩ => some (⟨put dst v ((a, u) :: e), h, addLog c lg⟩, c)
  | none => none
def stepG (C : Calls) (dst : Option Nat) (op : AOp) (want : Bool) (e : List (Nat × V)) (h : H) (lg : Option (List Nat)) : Option V → Option (St × Cls)
  | some (.d (.bool b)) => if b == want then stepP dst e lg (opSem C (lk e) h op) else some (⟨put dst (.d .undef) e, h, lg⟩, .p)
  | some (.d .undef) => some (⟨put dst (.d .undef) e, h, lg⟩, .p)
  | _ => none
theorem sx_step {dst : Option Nat} {op : AOp} : step C ⟨dst, op, none⟩ ⟨e, h, lg⟩ = stepP dst e lg (opSem C (lk e) h op) := by
  simp only [step, stepP]; split <;> rename_i hs <;> simp [hs]
theorem sx_stepG {dst : Option Nat} {op : AOp} {t : Nat} {want : Bool} : step C ⟨dst, op, some (t, want)⟩ ⟨e, h, lg⟩ = stepG C dst op want e h lg (lk e t) := by
  simp only [step, stepG]
  split
  · rename_i b hb
    simp only [hb]
    split
    · simp only [stepP]; split <;> rename_i hs <;> simp [hs]
    · rfl
  · rename_i hb; simp only [hb]
  · rename_i h1 h2
    split
    · rename_i hb; exact absurd hb (h1 _)
    · rename_i hb; exact absurd hb h2
    · rfl
theorem sx_g_tt {dst : Option Nat} {op : AOp} : stepG C dst op true e h lg (some (.d (.bool true))) = stepP dst e lg (opSem C (lk e) h op) := of_eq_true (eq_self _)
theorem sx_g_ff {dst : Option Nat} {op : AOp} : stepG C dst op false e h lg (some (.d (.bool false))) = stepP dst e lg (opSem C (lk e) h op) := of_eq_true (eq_self _)
theorem sx_g_tf {dst : Option Nat} {op : AOp} : stepG C dst op true e h lg (some (.d (.bool false))) = some (⟨put dst (.d .undef) e, h, lg⟩, .p) := of_eq_true (eq_self _)
theorem sx_g_ft {dst : Option Nat} {op : AOp} : stepG C dst op false e h lg (some (.d (.bool true))) = some (⟨put dst (.d .undef) e, h, lg⟩, .p) := of_eq_true (eq_self _)
theorem sx_g_u {dst : Option Nat} {op : AOp} {w : Bool} : stepG C dst op w e h lg (some (.d .undef)) = some (⟨put dst (.d .undef) e, h, lg⟩, .p) := of_eq_true (eq_self _)
theorem sx_put {dst : Option Nat} {v : V} {c : Cls} : stepP dst e lg (some ⟨v, h, none, c⟩) = some (⟨put dst v e, h, addLog c lg⟩, c) := of_eq_true (eq_self _)
theorem sx_put2 {dst : Option Nat} {v u : V} {a : Nat} {c : Cls} : stepP dst e lg (some ⟨v, h, some (a, u), c⟩) = some (⟨put dst v ((a, u) :: e), h, addLog c lg⟩, c) := of_eq_true (eq_self _)
theorem sx_put_some {d : Nat} {v : V} : put (some d) v e = (d, v) :: e := of_eq_true (eq_self _)
theorem sx_put_none {v : V} : put none v e = e := of_eq_true (eq_self _)
theorem sx_lk_hit {i : Nat} {v : V} : lk ((i, v) :: e) i = some v := by rw [lk_cons]; simp
theorem sx_lk {i j : Nat} {v : V} : lk ((i, v) :: e) j = if j = i then some v else lk e j := lk_cons i v e j
theorem sx_log_p {l : Option (List Nat)} : addLog .p l = l := by cases l <;> rfl
theorem sx_log_rd {rd : List Nat} {al : Bool} {l : Option (List Nat)} : addLog (.r rd [] al) l = l := by cases l <;> rfl
theorem sx_log_wr {rd wr : List Nat} {i : Nat} {al : Bool} {l : List Nat} : addLog (.r rd (i :: wr) al) (some l) = some ((i :: wr) ++ l) := of_eq_true (eq_self _)
theorem sx_log_no {c : Cls} : addLog c none = none := of_eq_true (eq_self _)
theorem sx_log_g {ws l : List Nat} : addLog (.g (some ws)) (some l) = some (ws ++ l) := of_eq_true (eq_self _)
theorem sx_log_gn {l : Option (List Nat)} : addLog (.g none) l = none := by cases l <;> rfl

/-! a draw -/
def drawC (C : Calls) (b : Nat) (bef : List Nat) (l : List (AOper × List Nat)) (i : Nat) (seen : List (Nat × Cls × Nat)) (t : Nat) (s : St) : Cls → Option St
  | .r [] [] false => runDraw C b l (i + 1) seen s
  | c => if fits c bef seen && low t c then runDraw C b l (i + 1) ((i, c, t) :: seen) s else none
def drawN (C : Calls) (b : Nat) (bef : List Nat) (l : List (AOper × List Nat)) (i : Nat) (seen : List (Nat × Cls × Nat)) (t : Nat) : Option (St × Cls) → Option St
  | some (s, c) => drawC C b bef l i seen t ⟨s.env, s.heap.rs, s.log⟩ (dcls (b + i) t s.heap.top c)
  | none => none
theorem sx_draw {ops : List (AOper × List Nat)} : run C lf (.draw ops) ⟨e, h, lg⟩ = rN (runDraw C h.top ops 0 [] ⟨e, h.aside ops.length, lg⟩) := of_eq_true (eq_self _)
theorem sx_dnil {b i : Nat} {seen : List (Nat × Cls × Nat)} {s : St} : runDraw C b [] i seen s = some s := of_eq_true (eq_self _)
theorem sx_dcons {b i : Nat} {seen : List (Nat × Cls × Nat)} {o : AOper} {bef : List Nat} {l : List (AOper × List Nat)} : runDraw C b ((o, bef) :: l) i seen ⟨e, h, lg⟩ = drawN C b bef l i seen h.top (step C o ⟨e, h.at (b + i), lg⟩) := by
  simp only [runDraw, drawN, drawC]
  cases step C o ⟨e, h.at (b + i), lg⟩ with
  | none => rfl
  | some r => rfl
theorem sx_dn {b i t : Nat} {seen : List (Nat × Cls × Nat)} {bef : List Nat} {l : List (AOper × List Nat)} {c : Cls} : drawN C b bef l i seen t (some (⟨e, h, lg⟩, c)) = drawC C b bef l i seen t ⟨e, h.rs, lg⟩ (dcls (b + i) t h.top c) := of_eq_true (eq_self _)
theorem sx_dp {b i t : Nat} {seen : List (Nat × Cls × Nat)} {bef : List Nat} {l : List (AOper × List Nat)} {s : St} : drawC C b bef l i seen t s (.r [] [] false) = runDraw C b l (i + 1) seen s := of_eq_true (eq_self _)
theorem sx_drd {b i t o : Nat} {rd wr : List Nat} {al : Bool} {seen : List (Nat × Cls × Nat)} {bef : List Nat} {l : List (AOper × List Nat)} {s : St} : drawC C b bef l i seen t s (.r (o :: rd) wr al) = if fits (.r (o :: rd) wr al) bef seen && low t (.r (o :: rd) wr al) then runDraw C b l (i + 1) ((i, .r (o :: rd) wr al, t) :: seen) s else none := of_eq_true (eq_self _)
theorem sx_dwr {b i t o : Nat} {rd wr : List Nat} {al : Bool} {seen : List (Nat × Cls × Nat)} {bef : List Nat} {l : List (AOper × List Nat)} {s : St} : drawC C b bef l i seen t s (.r rd (o :: wr) al) = if fits (.r rd (o :: wr) al) bef seen && low t (.r rd (o :: wr) al) then runDraw C b l (i + 1) ((i, .r rd (o :: wr) al, t) :: seen) s else none := by cases rd <;> rfl
theorem sx_dg {b i t : Nat} {ws : Option (List Nat)} {seen : List (Nat × Cls × Nat)} {bef : List Nat} {l : List (AOper × List Nat)} {s : St} : drawC C b bef l i seen t s (.g ws) = if fits (.g ws) bef seen && low t (.g ws) then runDraw C b l (i + 1) ((i, .g ws, t) :: seen) s else none := of_eq_true (eq_self _)
theorem sx_dcls {b t : Nat} {rd wr : List Nat} {al : Bool} : dcls b t t (.r rd wr al) = .r rd (if al then b :: wr else wr) false := by simp [dcls]
theorem sx_dcls_g {b t t' : Nat} {ws : List Nat} : dcls b t t' (.g (some ws)) = .g (some (b :: ws)) := of_eq_true (eq_self _)
theorem sx_dcls_gn {b t t' : Nat} : dcls b t t' (.g none) = .g none := of_eq_true (eq_self _)
theorem sx_top_at {b : Nat} : (h.at b).top = h.top := of_eq_true (eq_self _)
theorem sx_top_rs : h.rs.top = h.top := of_eq_true (eq_self _)
theorem sx_next_at {b : Nat} : (h.at b).next = b := of_eq_true (eq_self _)
theorem sx_next_rs : h.rs.next = h.top := of_eq_true (eq_self _)
theorem sx_rs_at {b : Nat} : (h.at b).rs = h.rs := of_eq_true (eq_self _)
theorem sx_rs_rs : h.rs.rs = h.rs := of_eq_true (eq_self _)
theorem sx_rs_aside {n : Nat} : (h.aside n).rs = h.aside n := of_eq_true (eq_self _)
theorem sx_top_aside {n : Nat} : (h.aside n).top = h.top + n := of_eq_true (eq_self _)
theorem sx_get_at {b o : Nat} : (h.at b).get o = h.get o := of_eq_true (eq_self _)
theorem sx_get_rs {o : Nat} : h.rs.get o = h.get o := of_eq_true (eq_self _)
theorem sx_get_aside {n o : Nat} : (h.aside n).get o = h.get o := of_eq_true (eq_self _)

theorem sx_get_new_at {b : Nat} {x : Obj} : ((h.at b).new x).get b = x := H.get_new_same (h.at b) x
theorem sx_get_new_at_ne {b o : Nat} {x : Obj} (hb : o ≠ b) : ((h.at b).new x).get o = h.get o := H.get_new_ne (h.at b) x hb
theorem sx_top_new_at {b : Nat} {x : Obj} (hb : b < h.top) : ((h.at b).new x).top = h.top := by
  rw [H.top_new]; unfold H.up; simp [H.at, hb]
theorem sx_rs_new_at {b : Nat} {x : Obj} (hb : b < h.top) : ((h.at b).new x).rs = ((h.at b).set b x).rs := by
  have : ((h.at b).new x).top = h.top := sx_top_new_at hb
  unfold H.rs
  rw [this]; rfl
theorem sx_top_set {o : Nat} {x : Obj} : (h.set o x).top = h.top := of_eq_true (eq_self _)
theorem sx_next_set {o : Nat} {x : Obj} : (h.set o x).next = h.next := of_eq_true (eq_self _)
theorem sx_set_at {b o : Nat} {x : Obj} : (h.at b).set o x = (h.set o x).at b := of_eq_true (eq_self _)
theorem sx_rs_set {o : Nat} {x : Obj} : (h.set o x).rs = h.rs.set o x := of_eq_true (eq_self _)
theorem sx_get_set {o i : Nat} {x : Obj} : (h.set o x).get i = if i = o then x else h.get i := by
  by_cases e : i = o
  · subst e; rw [H.get_set_same]; simp
  · rw [H.get_set_ne h x (Ne.symm e)]; simp [e]

theorem sx_get_new {i : Nat} {x : Obj} : (h.new x).get i = if i = h.next then x else h.get i := by
  by_cases e : i = h.next
  · subst e; rw [H.get_new_same]; simp
  · rw [H.get_new_ne h x e]; simp [e]
theorem sx_top_new {x : Obj} : (h.new x).top = h.up := of_eq_true (eq_self _)
theorem sx_next_new {x : Obj} : (h.new x).next = h.up := of_eq_true (eq_self _)
theorem sx_up_new {x : Obj} : (h.new x).up = h.up + 1 := by
  show (if Nat.blt h.up h.up then h.up else h.up + 1) = _
  simp
theorem sx_up_set {o : Nat} {x : Obj} : (h.set o x).up = h.up := of_eq_true (eq_self _)
theorem sx_rs_new {x : Obj} : (h.new x).rs = h.new x := of_eq_true (eq_self _)
theorem sx_up_aside {n : Nat} : (h.aside n).up = h.top + n + 1 := by
  show (if Nat.blt (h.top + n) (h.top + n) then h.top + n else h.top + n + 1) = _
  simp
theorem sx_next_aside {n : Nat} : (h.aside n).next = h.top + n := of_eq_true (eq_self _)
theorem sx_empty_top : H.empty.top = 0 := of_eq_true (eq_self _)
theorem sx_empty_next : H.empty.next = 0 := of_eq_true (eq_self _)
theorem sx_empty_up : H.empty.up = 1 := of_eq_true (eq_self _)
theorem sx_empty_get {i : Nat} : H.empty.get i = .dead := H.get_empty i

/-! calls -/
def callR (h : H) : Option D → Option Did
  | some d => some ⟨.d d, h, none, .p⟩
  | none => none
theorem sx_callX {f : Nat} {ds : List D} {vs : List V} (hd : allD vs = some ds) : callX C h f vs = callR h (C.pure f ds) := by
  simp only [callX, hd, callR]; cases C.pure f ds <;> rfl
theorem sx_callR {d : D} : callR h (some d) = some ⟨.d d, h, none, .p⟩ := of_eq_true (eq_self _)
end
end Go.Avm

/- The abstract machine on data: more fuel gives the same answer. -/
namespace Go.Avm
open Go

structure CallsLe (C C' : Calls) : Prop where
  pure : ∀ f ds d, C.pure f ds = some d → C'.pure f ds = some d
  full : ∀ f vs h r, C.full f vs h = some r → C'.full f vs h = some r

section
variable {C C' : Calls} {ρ : Nat → Option V} {h : H}

theorem callF_le (hc : CallsLe C C') {f : Nat} {vs : List V} {y : Did} (hs : callF C h f vs = some y) : callF C' h f vs = some y := by
  unfold callF at hs ⊢
  split at hs
  · rename_i he; rw [hc.full _ _ _ _ he]; exact hs
  · cases hs
theorem callX_le (hc : CallsLe C C') {f : Nat} {vs : List V} {y : Did} (hs : callX C h f vs = some y) : callX C' h f vs = some y := by
  unfold callX at hs ⊢
  split at hs
  · rename_i ds hd
    split at hs
    · rename_i he; simp only [hd, hc.pure _ _ _ he]; exact hs
    · cases hs
  · rename_i hd
    cases h0 : allD vs with
    | none => exact callF_le hc hs
    | some ds => exact absurd h0 (by rw [hd]; simp)
theorem callD_le (hc : CallsLe C C') {f : Nat} {vs : List V} {y : Did} (hs : callD C h f vs = some y) : callD C' h f vs = some y := by
  unfold callD at hs ⊢
  split at hs
  · rename_i ds hd
    split at hs
    · rename_i he; simp only [hd, hc.pure _ _ _ he]; exact hs
    · cases hs
  · split at hs
    · rename_i ds h' hz
      split at hs
      · rename_i he; simp only [hz, hc.pure _ _ _ he]; exact hs
      · cases hs
    · cases hs
theorem callO_le (hc : CallsLe C C') {f : Nat} {vs : List V} {y : Did} (hs : callO C h f vs = some y) : callO C' h f vs = some y := by
  unfold callO at hs ⊢
  split at hs
  · rename_i ds hd
    split at hs
    · rename_i he; simp only [hd, hc.full _ _ _ _ he]; exact hs
    · cases hs
  · rename_i hd
    cases h0 : allD vs with
    | none => exact callF_le hc hs
    | some ds => exact absurd h0 (by rw [hd]; simp)
theorem opSem_le (hc : CallsLe C C') {ao : AOp} {y : Did} (hs : opSem C ρ h ao = some y) : opSem C' ρ h ao = some y := by
  cases ao
  case call f xs =>
    simp only [opSem] at hs ⊢
    split at hs
    · exact callD_le hc hs
    · cases hs
  case callX f xs =>
    simp only [opSem] at hs ⊢
    split at hs
    · exact callX_le hc hs
    · cases hs
  case callS f xs =>
    simp only [opSem] at hs ⊢
    split at hs
    · exact callO_le hc hs
    · cases hs
  case callV g xs =>
    simp only [opSem] at hs ⊢
    split at hs
    · split at hs
      · rename_i he; exact callX_le hc hs
      · cases hs
    · cases hs
  all_goals exact hs
theorem step_le (hc : CallsLe C C') {o : AOper} {s : St} {r : St × Cls} (hs : step C o s = some r) : step C' o s = some r := by
  have key : ∀ (y : Option Did), y = opSem C (lk s.env) s.heap o.op → (match y with
      | some ⟨v, h, none, c⟩ => some ((⟨put o.dst v s.env, h, addLog c s.log⟩ : St), c)
      | some ⟨v, h, some (a, u), c⟩ => some (⟨put o.dst v ((a, u) :: s.env), h, addLog c s.log⟩, c)
      | none => none) = some r → (match opSem C' (lk s.env) s.heap o.op with
      | some ⟨v, h, none, c⟩ => some ((⟨put o.dst v s.env, h, addLog c s.log⟩ : St), c)
      | some ⟨v, h, some (a, u), c⟩ => some (⟨put o.dst v ((a, u) :: s.env), h, addLog c s.log⟩, c)
      | none => none) = some r := by
    intro y hy hr
    cases y with
    | none => cases hr
    | some y => rw [opSem_le hc hy.symm]; exact hr
  unfold step at hs ⊢
  cases hg : o.guard with
  | none => simp only [hg] at hs ⊢; exact key _ rfl hs
  | some g =>
    obtain ⟨t, want⟩ := g
    simp only [hg] at hs ⊢
    split at hs
    · split at hs
      · rename_i hb; rw [if_pos hb]; exact key _ rfl hs
      · rename_i hb; rw [if_neg hb]; exact hs
    · exact hs
    · cases hs
theorem runOps_le (hc : CallsLe C C') : ∀ (l : List AOper) (s s' : St), runOps C l s = some s' → runOps C' l s = some s'
  | [], _, _, h => h
  | o :: l, s, s', h => by
    simp only [runOps] at h ⊢
    split at h
    · rename_i s1 c h1; rw [step_le hc h1]; exact runOps_le hc l s1 s' h
    · cases h
theorem runDraw_le (hc : CallsLe C C') {b : Nat} : ∀ (l : List (AOper × List Nat)) (i : Nat) (seen : List (Nat × Cls × Nat)) (s s' : St), runDraw C b l i seen s = some s' → runDraw C' b l i seen s = some s'
  | [], _, _, _, _, h => h
  | (o, bef) :: l, i, seen, s, s', h => by
    simp only [runDraw] at h ⊢
    split at h
    · rename_i s1 c h1
      rw [step_le hc h1]
      simp only
      split at h
      · exact runDraw_le hc l _ _ _ _ h
      · split at h
        · rename_i hf; rw [if_pos hf]; exact runDraw_le hc l _ _ _ _ h
        · cases h
    · cases h
theorem iter_le {b b' : St → Option (Ex × St)} (hb : ∀ s r, b s = some r → b' s = some r) {live : List Nat} : ∀ (n m : Nat) (s : St) (r : Ex × St), n ≤ m → iter n b live s = some r → iter m b' live s = some r
  | 0, _, _, _, _, h => by simp [iter] at h
  | n + 1, 0, _, _, hm, _ => by omega
  | n + 1, m + 1, s, r, hm, h => by
    simp only [iter] at h ⊢
    split at h
    · rename_i s1 h1; rw [hb _ _ h1]; exact iter_le hb n m s1 r (by omega) h
    · rename_i hne
      rw [hb _ _ h]
      split
      · rename_i s1 h1; injection h1 with h1; subst h1; exact absurd h (hne s1)
      · rfl
theorem run_le (hc : CallsLe C C') {n m : Nat} (hm : n ≤ m) : ∀ (c : AC) (s : St) (r : Ex × St), run C n c s = some r → run C' m c s = some r := by
  intro c
  induction c with
  | region ops =>
    intro s r h
    simp only [run] at h ⊢
    split at h
    · rename_i h1; rw [runOps_le hc _ _ _ h1]; exact h
    · cases h
  | draw ops =>
    intro s r h
    simp only [run] at h ⊢
    split at h
    · rename_i h1; rw [runDraw_le hc _ _ _ _ _ h1]; exact h
    · cases h
  | seq a b iha ihb =>
    intro s r h
    simp only [run] at h ⊢
    split at h
    · rename_i h1; rw [iha _ _ h1]; exact ihb _ _ h
    · rename_i hne
      rw [iha _ _ h]
      split
      · rename_i s1 h1; injection h1 with h1; subst h1; exact absurd h (hne s1)
      · rfl
  | cond c a b iha ihb =>
    intro s r h
    simp only [run] at h ⊢
    split at h
    · rename_i t ht
      cases t
      · exact ihb _ _ h
      · exact iha _ _ h
    · cases h
  | block i c ih =>
    intro s r h
    simp only [run] at h ⊢
    split at h
    · rename_i h1; rw [ih _ _ h1]; exact h
    · rename_i hne
      rw [ih _ _ h]
      split
      · rename_i j s1 h1; injection h1 with h1; subst h1; exact absurd h (hne j s1)
      · rfl
  | loop live c ih =>
    intro s r h
    simp only [run] at h ⊢
    exact iter_le (fun s r => ih s r) n m s r hm h
  | _ => intro s r h; exact h
end

theorem pureOf_le {F F' : Nat → List V → H → Option (V × H × Option (List Nat))} (hf : ∀ f vs h r, F f vs h = some r → F' f vs h = some r) {f : Nat} {ds : List D} {d : D} (h : pureOf F f ds = some d) : pureOf F' f ds = some d := by
  unfold pureOf at h ⊢
  split at h
  · rename_i he; rw [hf _ _ _ _ he]; exact h
  · cases h
theorem callN_le {P : Prog} : ∀ (n m : Nat), n ≤ m → ∀ f vs h r, callN P n f vs h = some r → callN P m f vs h = some r
  | 0, _, _, _, _, _, _, e => by simp [callN] at e
  | n + 1, 0, hm, _, _, _, _, _ => by omega
  | n + 1, m + 1, hm, f, vs, h, r, e => by
    have ih := callN_le (P := P) n m (by omega)
    have hc : CallsLe ⟨pureOf (callN P n), callN P n⟩ ⟨pureOf (callN P m), callN P m⟩ := ⟨fun f ds d h => pureOf_le ih h, ih⟩
    simp only [callN] at e ⊢
    split at e
    · rename_i fn hf
      split at e
      · rename_i hl
        rw [if_pos hl]
        split at e
        · rename_i s hr; rw [run_le hc (by omega) _ _ _ hr]; exact e
        · rename_i s hr; rw [run_le hc (by omega) _ _ _ hr]; exact e
        · cases e
      · cases e
    · exact e
    · exact e
    · cases e
theorem callP_le {P : Prog} {n m f : Nat} {ds : List D} {d : D} (hm : n ≤ m) (h : callP P n f ds = some d) : callP P m f ds = some d := pureOf_le (callN_le n m hm) h
theorem calls_le {P : Prog} {n m : Nat} (hm : n ≤ m) : CallsLe ⟨pureOf (callN P n), callN P n⟩ ⟨pureOf (callN P m), callN P m⟩ := ⟨fun f ds d h => pureOf_le (callN_le n m hm) h, callN_le n m hm⟩
end Go.Avm


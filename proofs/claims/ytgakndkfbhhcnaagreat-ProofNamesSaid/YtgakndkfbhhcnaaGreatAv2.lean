/- The abstract machine on data, part 2: its operations are sound over the model. -/
import Derived.Test.YtgakndkfbhhcnaaGreatAv1
import Derived.Laws.Cells
import Derived.Laws.IdiomCopy
import Derived.Laws.Append
import Derived.Laws.AppendOwn
import Derived.Laws.MakeOwn
import Derived.Laws.Build
import Derived.Laws.Small
import Derived.Laws.StructEq
set_option linter.unusedVariables false
set_option linter.unusedSimpArgs false
/- The abstract machine on data: the model's operations, run; values, loads, stores, new blocks. -/
namespace Go.Avm
open Go

section
variable {P : Program} {w : World}
theorem run_underlying' {t : TypeId} {d : TypeDesc} (h : P.underlying t = some d) : (underlying t).run P w = .ok d w := by
  simp [underlying, h]
theorem run_typeInfo' {t : TypeId} {i : TypeInfo} (h : P.info? t = some i) : (typeInfo t).run P w = .ok i w := by
  simp [typeInfo, h]
theorem run_sizeOf' {t : TypeId} {i : TypeInfo} (h : P.info? t = some i) : (sizeOf t).run P w = .ok i.size w := by
  simp [sizeOf, run_typeInfo' h]
theorem run_zeroValue' {t : TypeId} {i : TypeInfo} {z : Value} (h : P.info? t = some i) (hz : i.zero = some z) : (zeroValue t).run P w = .ok z w := by
  simp [zeroValue, run_typeInfo' h, hz]
def aggD : TypeDesc → Bool
  | .struct _ | .array _ _ => true
  | _ => false
theorem run_isAgg' {t : TypeId} {d : TypeDesc} (h : P.underlying t = some d) : (isAgg t).run P w = .ok (aggD d) w := by
  cases d <;> simp [isAgg, run_underlying' h, aggD]

theorem addr_add (b o j : Nat) : (⟨b, o, none⟩ : Addr).add j = ⟨b, o + j, none⟩ := by
  unfold Addr.add; split
  · rename_i h; subst h; rfl
  · rfl

/-- cells of a block, in a row -/
def Cells (w : World) (b o : Nat) (us : List Value) : Prop := ∀ j u, us[j]? = some u → w.cell? ⟨b, o + j, none⟩ = some u

theorem run_loadVar_agg {t : TypeId} {i : TypeInfo} {d : TypeDesc} (hi : P.info? t = some i) (hd : P.underlying t = some d) (ha : aggD d = true) {b o : Nat} {us : List Value} (hl : us.length = i.size)
    (hc : Cells w b o us) : (loadVar t ⟨b, o, none⟩).run P w = .ok (.agg us.toArray) w := by
  have := run_loadCells_list (P := P) w ⟨b, o, none⟩ us (fun j v hv => by rw [addr_add]; exact hc j v hv)
  simp [loadVar, run_isAgg' hd, ha, run_sizeOf' hi, ← hl, this]
theorem run_loadVar_one {t : TypeId} {d : TypeDesc} (hd : P.underlying t = some d) (ha : aggD d = false) {b o : Nat} {u : Value}
    (hc : w.cell? ⟨b, o, none⟩ = some u) : (loadVar t ⟨b, o, none⟩).run P w = .ok u w := by
  simp [loadVar, run_isAgg' hd, ha, hc]

theorem heap_setCells {b : Nat} {e : TypeId} : ∀ (us : List Value) (o : Nat) (w : World) (vs : Array Value), w.heap[b]? = some (.cells vs e) → o + us.length ≤ vs.size →
    ∃ vs' : Array Value, (w.setCells b o us).heap[b]? = some (.cells vs' e) ∧ vs'.toList = vs.toList.take o ++ us ++ vs.toList.drop (o + us.length)
  | [], o, w, vs, h, _ => ⟨vs, h, by simp⟩
  | u :: us, o, w, vs, h, hl => by
    simp only [List.length_cons] at hl
    have h1 : (w.setCell ⟨b, o, none⟩ u).heap[b]? = some (.cells (vs.setIfInBounds o u) e) := heap_setCell_same w b o vs e u h
    obtain ⟨vs', h2, h3⟩ := heap_setCells us (o + 1) (w.setCell ⟨b, o, none⟩ u) _ h1 (by simp; omega)
    refine ⟨vs', h2, ?_⟩
    rw [h3]
    apply List.ext_getElem?
    intro j
    simp only [Array.toList_setIfInBounds, List.length_cons]
    by_cases hj : j < o
    · rw [List.getElem?_append_left (by simp; omega), List.getElem?_append_left (by simp; omega), List.getElem?_append_left (by simp; omega), List.getElem?_append_left (by simp; omega)]
      simp [hj, Nat.lt_succ_of_lt hj, Nat.ne_of_gt hj]
    · by_cases he : j = o
      · subst he
        rw [List.getElem?_append_left (by simp; omega), List.getElem?_append_left (by simp; omega), List.getElem?_append_left (by simp; omega), List.getElem?_append_right (by simp; omega)]
        rw [List.getElem?_take, if_pos (by omega), List.getElem?_set_self (by simp; omega)]
        simp [Nat.min_eq_left (show j ≤ vs.size by omega)]
      · by_cases hm : j < o + 1 + us.length
        · rw [List.getElem?_append_left (by simp; omega), List.getElem?_append_right (by simp; omega), List.getElem?_append_left (by simp; omega), List.getElem?_append_right (by simp; omega)]
          simp only [List.length_take, List.length_set, Array.length_toList]
          rw [Nat.min_eq_left (by omega), Nat.min_eq_left (by omega)]
          obtain ⟨q, rfl⟩ : ∃ q, j = o + 1 + q := ⟨j - (o + 1), by omega⟩
          rw [show o + 1 + q - (o + 1) = q by omega, show o + 1 + q - o = q + 1 by omega]
          simp
        · rw [List.getElem?_append_right (by simp; omega), List.getElem?_append_right (by simp; omega)]
          simp only [List.length_append, List.length_take, List.length_set, Array.length_toList, List.length_cons, List.getElem?_drop]
          rw [Nat.min_eq_left (by omega), Nat.min_eq_left (by omega), List.getElem?_set_ne (by omega)]
          congr 1
          omega
theorem heap_setCells_ne {b c : Nat} (hc : c ≠ b) : ∀ (us : List Value) (o : Nat) (w : World), (w.setCells b o us).heap[c]? = w.heap[c]?
  | [], _, _ => rfl
  | u :: us, o, w => by
    simp only [World.setCells]
    rw [heap_setCells_ne hc us (o + 1) _, heap_setCell_other _ _ _ _ hc]
theorem size_setCells {b : Nat} : ∀ (us : List Value) (o : Nat) (w : World), (w.setCells b o us).heap.size = w.heap.size
  | [], _, _ => rfl
  | u :: us, o, w => by
    simp only [World.setCells]
    rw [size_setCells us (o + 1) _]
    simp [World.setCell]
theorem streams_setCells {b : Nat} : ∀ (us : List Value) (o : Nat) (w : World), (w.setCells b o us).os = w.os ∧ (w.setCells b o us).tape = w.tape ∧ (w.setCells b o us).output = w.output
  | [], _, _ => ⟨rfl, rfl, rfl⟩
  | u :: us, o, w => by
    simp only [World.setCells]
    obtain ⟨h1, h2, h3⟩ := streams_setCells us (o + 1) (w.setCell ⟨b, o, none⟩ u)
    exact ⟨h1, h2, h3⟩

/-- storing into a row that is not frozen -/
theorem run_storeRow {b o : Nat} {e : TypeId} {vs : Array Value} {us : List Value} (h : w.heap[b]? = some (.cells vs e)) (hl : o + us.length ≤ vs.size) (h1 : ∀ v ∈ us, v.oneCell' = true) :
    (storeCells ⟨b, o, none⟩ us).run P w = .ok () (w.setCells b o us) := by
  have := run_storeCells_cells (P := P) b o us 0 w (fun j hj => by rw [cell_heap h]; simp; omega) (fun j _ => frozen_of_row w b _ vs e h) h1
  simpa using this
theorem run_storeVar' {t : TypeId} {i : TypeInfo} {b o : Nat} {e : TypeId} {vs : Array Value} {u : Value} (hi : P.info? t = some i) (hs : u.cells.size = i.size) (h : w.heap[b]? = some (.cells vs e))
    (hl : o + u.cells.size ≤ vs.size) (h1 : ∀ v ∈ u.cells.toList, v.oneCell' = true) : (storeVar t ⟨b, o, none⟩ u).run P w = .ok () (w.setCells b o u.cells.toList) := by
  have := run_storeRow (P := P) (us := u.cells.toList) h (by simpa using hl) h1
  simp [storeVar, run_sizeOf' hi, hs, this]

theorem run_newRow (e : TypeId) (cs : Array Value) : (newRow e cs).run P w = .ok ⟨w.heap.size, 0, none⟩ (w.alloc (.cells cs e)) := rfl
theorem run_newVar (e : TypeId) (v : Value) : (newVar e v).run P w = .ok ⟨w.heap.size, 0, none⟩ (w.alloc (.cells v.cells e)) := rfl
end

/-! ### operands -/
def constOk : Nat → Value → D → Bool
  | 0, _, _ => false
  | _ + 1, .bool a, .bool b => a == b
  | _ + 1, .int k a, .int k' b => decide (k = k') && a == b
  | _ + 1, .string a, .str b => decide (a = b)
  | _ + 1, .pointer none, .nilptr => true
  | _ + 1, .slice none 0 0, .nilslice => true
  | _ + 1, .map none, .nilmap => true
  | _ + 1, .nilFunc, .nilfunc => true
  | _ + 1, .nilIface, .niliface => true
  | _ + 1, .tuple vs, .undef => vs.size == 0
  | _ + 1, .func (.func f) ps qs, .func g [] [] => f == g && ps.size == 0 && qs.size == 0
  | n + 1, .agg vs, .agg ds => vs.size == ds.length && (List.range ds.length).all fun j => match vs[j]?, ds[j]? with
    | some v, some d => constOk n v d
    | _, _ => false
  | n + 1, .iface t v, .iface t' d => t == t' && constOk n v d
  | _, _, _ => false
theorem constOk_rep {k : K} : ∀ {n : Nat} {v : Value} {d : D}, constOk n v d = true → Rep k v d := by
  intro n
  induction n with
  | zero => intro v d h; simp [constOk] at h
  | succ n ih =>
    intro v d h
    unfold constOk at h
    split at h
    next => rename_i he; cases he
    · rename_i he; cases he; simp at h; subst h; exact .bool _
    · rename_i he; cases he; simp at h; obtain ⟨rfl, rfl⟩ := h; exact .int _ _
    · rename_i he; cases he; simp at h; subst h; exact .str _
    · rename_i he; cases he; exact .nilptr
    · rename_i he; cases he; exact .nilslice
    · rename_i he; cases he; exact .nilmap
    · rename_i he; cases he; exact .nilfunc
    · rename_i he; cases he; exact .niliface
    · rename_i vs he
      cases he
      simp at h; subst h; exact .undef
    · rename_i f ps qs g he
      cases he
      simp at h
      obtain ⟨⟨rfl, rfl⟩, rfl⟩ := h
      exact .func' ⟨rfl, fun j v x hv => by simp at hv⟩ ⟨rfl, fun j v x hv => by simp at hv⟩
    · rename_i vs ds he
      cases he
      simp only [Bool.and_eq_true, beq_iff_eq, List.all_eq_true, List.mem_range] at h
      obtain ⟨h1, h2⟩ := h
      refine .agg' ⟨by simpa using h1, fun j v x hv hx => ?_⟩
      have hj := (List.getElem?_eq_some_iff.1 hx).1
      have := h2 j hj
      rw [Array.getElem?_toList] at hv
      rw [hv, hx] at this
      exact ih this
    · rename_i t v t' d he
      cases he
      simp only [Bool.and_eq_true, beq_iff_eq] at h
      obtain ⟨rfl, h⟩ := h
      exact .iface _ _ _ (ih h)
    · cases h

def chkOpnd : Operand → Opnd → Bool
  | .tmp t, .t n => t == n
  | .const v, .c d => constOk 50 v d
  | .func f, .c (.func g [] []) => f == g
  | _, _ => false
def chkOpnds : List Operand → List Opnd → Bool
  | [], [] => true
  | x :: xs, y :: ys => chkOpnd x y && chkOpnds xs ys
  | _, _ => false
def chkOpt : Option Operand → Option Opnd → Bool
  | none, none => true
  | some x, some y => chkOpnd x y
  | _, _ => false

section
variable {G : Start} {N : Nat} {w : World} {k : K} {μ : Nat → Loc} {hb : Nat → Nat} {ρ : Nat → Option V} {h : H} {a : Act}
theorem opv_rep (r : Rel G N w k μ hb ρ h a) {x : Operand} {y : Opnd} (hc : chkOpnd x y = true) {v : V} (hv : opv ρ y = some v) : RepV k μ h.has (a.eval x) v := by
  unfold chkOpnd at hc
  split at hc
  · rename_i t n
    simp at hc; subst hc
    simp only [opv] at hv
    split at hv
    · cases hv
    · rename_i hno
      exact r.env t v hv fun m e => hno m (e ▸ hv)
  · simp only [opv] at hv; injection hv with hv; subst hv; exact .d _ _ (constOk_rep hc)
  · rename_i f g
    simp at hc; subst hc
    simp only [opv] at hv; injection hv with hv; subst hv
    exact .d _ _ (.func' ⟨rfl, fun j v x hv => by simp at hv⟩ ⟨rfl, fun j v x hv => by simp at hv⟩)
  · cases hc
theorem opvs_rep (r : Rel G N w k μ hb ρ h a) : ∀ {xs : List Operand} {ys : List Opnd}, chkOpnds xs ys = true → ∀ {vs : List V}, opvs ρ ys = some vs → RepVs k μ h.has (xs.map a.eval) vs
  | [], [], _, vs, hv => by simp [opvs] at hv; subst hv; exact .nil
  | x :: xs, y :: ys, hc, vs, hv => by
    simp only [chkOpnds, Bool.and_eq_true] at hc
    simp only [opvs] at hv
    split at hv
    · rename_i v vs' h1 h2
      injection hv with hv; subst hv
      exact .cons (opv_rep r hc.1 h1) (opvs_rep r hc.2 h2)
    · cases hv
  | [], _ :: _, hc, _, _ => by simp [chkOpnds] at hc
  | _ :: _, [], hc, _, _ => by simp [chkOpnds] at hc
end
theorem flat_one {k : K} {μ : Nat → Loc} {n : Nat → Prop} {u : Value} {x : V} (h : RepV k μ n u x) (hf : flatV x = true) : u.oneCell' = true := by
  cases h with
  | d v x h => cases h <;> first | rfl | (simp [flatV] at hf)
  | _ => first | rfl | (simp [flatV] at hf)
theorem flats_one {k : K} {μ : Nat → Loc} {n : Nat → Prop} {us : List Value} {xs : List V} (h : RepVs k μ n us xs) (hf : flats xs = true) : ∀ v ∈ us, v.oneCell' = true := by
  intro v hv
  obtain ⟨j, hj⟩ := List.getElem?_of_mem hv
  have hjl : j < xs.length := by rw [← h.1]; exact (List.getElem?_eq_some_iff.1 hj).1
  have hx : xs[j]? = some xs[j] := by simp [hjl]
  exact flat_one (h.2 j v _ hj hx) (List.all_eq_true.1 hf _ (List.mem_of_getElem? hx))
end Go.Avm

/- The abstract machine on data: its operations are the model's (first part: values, loads, stores, new rows). -/
namespace Go.Avm
open Go

def slotρ (ρ : Nat → Option V) : Option (Nat × V) → (Nat → Option V)
  | some (a, v) => updρ ρ a v
  | none => ρ
/-- what stands behind an operation -/
def Nx (G : Start) (N : Nat) (ρ : Nat → Option V) (h : H) : Act → World → Prop := fun a w => ∃ k μ hb, Rel G N w k μ hb ρ h a

section
variable {P : Program} {G : Start} {N : Nat} {w w' : World} {k k' : K} {μ μ' : Nat → Loc} {hb : Nat → Nat} {ρ : Nat → Option V} {h h' : H} {a : Act} {o : Oper} {Q : Exit → Act → World → Prop} {u : Value} {v : V}

theorem wp_step (r : Rel G N w k μ hb ρ h a) (hd : ∀ d, o.dst = some d → d < N) (hrun : (execOp a.eval o).run P w = .ok (.value u) w') (hi : Inv G.B w' k' μ' h') (hx : Ext w k μ h w' k' μ' h') (hv : RepV k' μ' h'.has u v) :
    o.wp P a w (Nx G N (putρ ρ o.dst v) h') Q := by
  unfold Oper.wp
  rw [hrun]
  exact ⟨k', μ', hb, (r.step hi hx).put hd hv⟩
theorem wp_same (r : Rel G N w k μ hb ρ h a) (hd : ∀ d, o.dst = some d → d < N) (hrun : (execOp a.eval o).run P w = .ok (.value u) w) (hv : RepV k μ h.has u v) :
    o.wp P a w (Nx G N (putρ ρ o.dst v) h) Q := wp_step r hd hrun r.inv (Ext.refl ..) hv
theorem wp_skip (r : Rel G N w k μ hb ρ h a) (hd : ∀ d, o.dst = some d → d < N) (hrun : (execOp a.eval o).run P w = .ok .skip w') (hi : Inv G.B w' k' μ' h') (hx : Ext w k μ h w' k' μ' h') :
    o.wp P a w (Nx G N (putρ ρ o.dst (.d .undef)) h') Q := by
  unfold Oper.wp
  rw [hrun]
  exact ⟨k', μ', hb, (r.step hi hx).put hd (.d _ _ .undef)⟩

theorem did_eq {h : H} {c : Cls} {x : Option V} {y : Did} (he : did h c x = some y) : ∃ v, x = some v ∧ y = ⟨v, h, none, c⟩ := by
  unfold did at he
  split at he
  · rename_i v; injection he with he; exact ⟨v, rfl, he.symm⟩
  · cases he

variable {C : Calls} {y : Did}

theorem s_mv (r : Rel G N w k μ hb ρ h a) (hd : ∀ d, o.dst = some d → d < N) {x : Operand} {x' : Opnd} (ho : o.op = .move x ∨ o.op = .assign x) (hc : chkOpnd x x' = true) (hs : opSem C ρ h (.mv x') = some y) :
    o.wp P a w (Nx G N (putρ (slotρ ρ y.slot) o.dst y.val) y.heap) Q := by
  obtain ⟨v, hv, rfl⟩ := did_eq hs
  exact wp_same r hd (by rcases ho with ho | ho <;> simp [execOp, ho] <;> rfl) (opv_rep r hc hv)

theorem bool_inv {k : K} {μ : Nat → Loc} {n : Nat → Prop} {u : Value} {b : Bool} (h : RepV k μ n u (.d (.bool b))) : u = .bool b := by
  have := h.d_inv; cases this; rfl
theorem int_inv {k : K} {μ : Nat → Loc} {n : Nat → Prop} {u : Value} {i : IntKind} {m : Int} (h : RepV k μ n u (.d (.int i m))) : u = .int i m := by
  have := h.d_inv; cases this; rfl
theorem str_inv {k : K} {μ : Nat → Loc} {n : Nat → Prop} {u : Value} {s : ByteArray} (h : RepV k μ n u (.d (.str s))) : u = .string s := by
  have := h.d_inv; cases this; rfl

theorem s_pick (r : Rel G N w k μ hb ρ h a) (hd : ∀ d, o.dst = some d → d < N) {c x z : Operand} {c' x' z' : Opnd} (ho : o.op = .pick c x z) (h1 : chkOpnd c c' = true) (h2 : chkOpnd x x' = true) (h3 : chkOpnd z z' = true)
    (hs : opSem C ρ h (.pick c' x' z') = some y) : o.wp P a w (Nx G N (putρ (slotρ ρ y.slot) o.dst y.val) y.heap) Q := by
  simp only [opSem] at hs
  split at hs
  · rename_i t ht
    obtain ⟨v, hv, rfl⟩ := did_eq hs
    have hb' := bool_inv (opv_rep r h1 ht)
    cases t with
    | true => exact wp_same r hd (u := a.eval x) (by simp [execOp, ho, hb', asBool]) (opv_rep r h2 (by simpa using hv))
    | false => exact wp_same r hd (u := a.eval z) (by simp [execOp, ho, hb', asBool]) (opv_rep r h3 (by simpa using hv))
  · cases hs

/-- the zero value of a type, as data -/
def zOk (P : Program) (t : TypeId) (zs : List D) : Bool := match P.info? t with
  | some i => match i.zero with
    | some z => z.cells.size == zs.length && (List.range zs.length).all fun j => match z.cells[j]?, zs[j]? with
      | some v, some d => constOk 50 v d
      | _, _ => false
    | none => false
  | none => false
theorem zOk_spec {t : TypeId} {zs : List D} (hz : zOk P t zs = true) : ∃ i z, P.info? t = some i ∧ i.zero = some z ∧ z.cells.size = zs.length ∧ ∀ k : K, RepDs k z.cells.toList zs := by
  unfold zOk at hz
  split at hz
  · rename_i i hi
    split at hz
    · rename_i z hzz
      simp only [Bool.and_eq_true, beq_iff_eq, List.all_eq_true, List.mem_range] at hz
      refine ⟨i, z, hi, hzz, hz.1, fun k => ⟨by simpa using hz.1, fun j v x hv hx => ?_⟩⟩
      have := hz.2 j (List.getElem?_eq_some_iff.1 hx).1
      rw [Array.getElem?_toList] at hv
      rw [hv, hx] at this
      exact constOk_rep this
    · cases hz
  · cases hz

theorem ptr_new {x : Obj} {l : Loc} {off : Nat} : RepV k (updμ μ h.next l) (h.new x).has (.pointer (some ⟨l.blk, l.base + off, none⟩)) (.ptr h.next off) := by
  have := RepV.ptr (k := k) (μ := updμ μ h.next l) (n := (h.new x).has) h.next off ((H.has_new _ _ _).2 (.inl rfl))
  rw [updμ_same] at this
  exact this
theorem ptr_new0 {x : Obj} {b m : Nat} : RepV k (updμ μ h.next ⟨b, 0, m⟩) (h.new x).has (.pointer (some ⟨b, 0, none⟩)) (.ptr h.next 0) := ptr_new (l := ⟨b, 0, m⟩) (off := 0)
theorem s_alloc (r : Rel G N w k μ hb ρ h a) (hd : ∀ d, o.dst = some d → d < N) {t : TypeId} {zs : List D} (ho : o.op = .alloc t) (hz : zOk P t zs = true) (hs : opSem C ρ h (.alloc zs) = some y) :
    o.wp P a w (Nx G N (putρ (slotρ ρ y.slot) o.dst y.val) y.heap) Q := by
  simp only [opSem] at hs
  injection hs with hs; subst hs
  obtain ⟨i, z, h1, h2, h3, h4⟩ := zOk_spec hz
  have hrun : (execOp a.eval o).run P w = .ok (.value (.pointer (some ⟨w.heap.size, 0, none⟩))) (w.alloc (.cells z.cells t)) := by
    simp [execOp, ho, Instr.alloc, run_zeroValue' h1 h2, run_newVar]
  have hr : RepVs k (updμ μ h.next ⟨w.heap.size, 0, z.cells.size⟩) (h.new (.cells (zs.map .d))).has (z.cells.toList.take (zs.map V.d).length) (zs.map .d) := by
    rw [List.take_of_length_le (by simp [h3])]
    exact repVs_d.2 (h4 k)
  refine wp_step r hd hrun (r.inv.newCells (e := t) (by simp [h3]) hr) (Ext.newObj r.inv _ _ _ rfl) ?_
  exact ptr_new0

theorem s_box (r : Rel G N w k μ hb ρ h a) (hd : ∀ d, o.dst = some d → d < N) {t : TypeId} {x : Operand} {x' : Opnd} (ho : o.op = .box t x) (hc : chkOpnd x x' = true) (hs : opSem C ρ h (.box x') = some y) :
    o.wp P a w (Nx G N (putρ (slotρ ρ y.slot) o.dst y.val) y.heap) Q := by
  simp only [opSem] at hs
  split at hs
  · rename_i v hv
    injection hs with hs; subst hs
    have hcs := repV_cells (opv_rep r hc hv)
    have hrun : (execOp a.eval o).run P w = .ok (.value (.pointer (some ⟨w.heap.size, 0, none⟩))) (w.alloc (.cells (a.eval x).cells t)) := by
      simp [execOp, ho, Instr.box, run_newVar]
    have hr : RepVs k (updμ μ h.next ⟨w.heap.size, 0, (a.eval x).cells.size⟩) (h.new (.cells (cellsOf v))).has ((a.eval x).cells.toList.take (cellsOf v).length) (cellsOf v) := by
      rw [← hcs.1, List.take_length]
      exact hcs.mono (K.le_refl k) (fun i hi => updμ_ne _ _ (by rintro rfl; exact r.inv.fresh hi)) (fun _ hi => (H.has_new _ _ _).2 (.inr hi))
    refine wp_step r hd hrun (r.inv.newCells (e := t) (by rw [← hcs.1]; simp) hr) (Ext.newObj r.inv _ _ _ rfl) ?_
    exact ptr_new0
  · cases hs

/-! known for good: a new row -/
def K.row (k : K) (b : Nat) (us : List Value) : K := ⟨fun c j => if c = b then us[j]? else k.F c j, k.M⟩
theorem K.row_same (k : K) (b : Nat) (us : List Value) (j : Nat) : (k.row b us).F b j = us[j]? := by simp [K.row]
theorem K.row_le {k : K} {b : Nat} {us : List Value} (h : ∀ j, k.F b j = none) : k.le (k.row b us) := by
  refine ⟨fun c j u hu => ?_, fun _ _ h => h⟩
  by_cases e : c = b
  · subst e; rw [h j] at hu; cases hu
  · simp [K.row, e, hu]
theorem Inv.noF {B : Nat} (hi : Inv B w k μ h) (j : Nat) : k.F w.heap.size j = none := by
  cases hq : k.F w.heap.size j with
  | none => rfl
  | some u => have := hi.agree.F_lt hq; omega
theorem Inv.newRow {B : Nat} (hi : Inv B w k μ h) (cs : Array Value) (e : TypeId) : Inv B (w.alloc (.cells cs e)) (k.row w.heap.size cs.toList) μ h ∧ Ext w k μ h (w.alloc (.cells cs e)) (k.row w.heap.size cs.toList) μ h := by
  have hle := K.row_le (k := k) (b := w.heap.size) (us := cs.toList) hi.noF
  have hf : ∀ b o u, (k.row w.heap.size cs.toList).F b o = some u → k.F b o = some u ∨ w.heap.size ≤ b := fun b o u hu => by
    by_cases e : b = w.heap.size
    · exact .inr (by omega)
    · simp [K.row, e] at hu; exact .inl hu
  have ha : Agree (k.row w.heap.size cs.toList) (w.alloc (.cells cs e)) := by
    refine ⟨fun b o u hu => ?_, fun b es hm => ?_, fun b o u hu => ?_⟩
    · by_cases eb : b = w.heap.size
      · subst eb
        rw [K.row_same] at hu
        rw [cell_heap (heap_alloc_same w _)]
        simpa using hu
      · simp [K.row, eb] at hu
        rw [cell_of_heap (heap_alloc_lt w _ (hi.agree.F_lt hu))]
        exact hi.agree.1 _ _ _ hu
    · rw [heap_alloc_lt w _ (hi.agree.M_lt hm)]
      exact hi.agree.2.1 _ _ hm
    · by_cases eb : b = w.heap.size
      · subst eb; exact ⟨_, _, heap_alloc_same w _⟩
      · simp [K.row, eb] at hu
        rw [heap_alloc_lt w _ (hi.agree.F_lt hu)]; exact hi.agree.2.2 _ _ _ hu
  exact ⟨hi.grow (by rw [size_alloc]; omega) (fun b hb => heap_alloc_lt w _ hb) ha hle hf (fun b es hm => .inl hm),
    Ext.grow (by rw [size_alloc]; omega) (fun b hb => heap_alloc_lt w _ hb) hle rfl rfl rfl hf (fun b es hm => .inl hm)⟩
theorem rep_newRef {k : K} {b : Nat} {us : List Value} {ds : List D} (hr : RepDs (k.row b us) us ds) (off : Nat) : Rep (k.row b us) (.pointer (some ⟨b, off, none⟩)) (.ref ds off) := by
  have := Rep.ref (k := k.row b us) b 0 off ds (fam us) (fun j d hj => ?_) (fun j d hj => ?_)
  · simpa using this
  · have hl : j < us.length := by rw [hr.1]; exact (List.getElem?_eq_some_iff.1 hj).1
    rw [Nat.zero_add, K.row_same, fam_get hl]
  · have hl : j < us.length := by rw [hr.1]; exact (List.getElem?_eq_some_iff.1 hj).1
    exact hr.2 j _ d (fam_get hl) hj
theorem RepDs.mono {k k' : K} (hk : k.le k') {us : List Value} {ds : List D} (h : RepDs k us ds) : RepDs k' us ds := ⟨h.1, fun j v x hv hx => (h.2 j v x hv hx).mono hk⟩

theorem dcells_eq (d : D) : (dcells d).map V.d = cellsOf (.d d) := by cases d <;> rfl

theorem s_boxF (r : Rel G N w k μ hb ρ h a) (hd : ∀ d, o.dst = some d → d < N) {t : TypeId} {x : Operand} {x' : Opnd} (ho : o.op = .box t x) (hc : chkOpnd x x' = true) (hs : opSem C ρ h (.boxF x') = some y) :
    o.wp P a w (Nx G N (putρ (slotρ ρ y.slot) o.dst y.val) y.heap) Q := by
  simp only [opSem] at hs
  split at hs
  · rename_i d hv
    injection hs with hs; subst hs
    have hcs := repV_cells (opv_rep r hc hv)
    rw [← dcells_eq] at hcs
    have hds := repVs_d.1 hcs
    have hrun : (execOp a.eval o).run P w = .ok (.value (.pointer (some ⟨w.heap.size, 0, none⟩))) (w.alloc (.cells (a.eval x).cells t)) := by
      simp [execOp, ho, Instr.box, run_newVar]
    obtain ⟨hi, hx⟩ := r.inv.newRow (a.eval x).cells t
    exact wp_step r hd hrun hi hx (.d _ _ (rep_newRef (hds.mono hx.kle) 0))
  · rename_i v hno hv
    injection hs with hs; subst hs
    exact s_box r hd ho hc (C := C) (y := ⟨.ptr h.next 0, h.new (.cells (cellsOf v)), none, .a⟩) (by simp [opSem, hv])
  · cases hs

/-! loads -/
def szOk (P : Program) (t : TypeId) (n : Nat) : Bool := match P.info? t with
  | some i => i.size == n
  | none => false
theorem szOk_spec {t : TypeId} {n : Nat} (hz : szOk P t n = true) : ∃ i, P.info? t = some i ∧ i.size = n := by
  unfold szOk at hz; split at hz
  · rename_i i hi; exact ⟨i, hi, by simpa using hz⟩
  · cases hz
def agOk (P : Program) (t : TypeId) (b : Bool) : Bool := match P.underlying t with
  | some d => aggD d == b
  | none => false
theorem agOk_spec {t : TypeId} {b : Bool} (hz : agOk P t b = true) : ∃ d, P.underlying t = some d ∧ aggD d = b := by
  unfold agOk at hz; split at hz
  · rename_i d hi; exact ⟨d, hi, by simpa using hz⟩
  · cases hz

/-- what a load finds at a place that reads as a list of values -/
theorem run_load_at {t : TypeId} {n : Nat} {ag : Bool} (hz : szOk P t n = true) (ha : agOk P t ag = true) {b base off : Nat} {us : List Value} {cs : List V} {kk : K} {m : Nat → Loc} {q : Nat → Prop} (hc : Cells w b base us)
    (hr : RepVs kk m q us cs) (hl : off + n ≤ cs.length) {v : V} (hv : (if ag = true then some (mkAgg ((cs.drop off).take n)) else cs[off]?) = some v) :
    ∃ u, (loadVar t ⟨b, base + off, none⟩).run P w = .ok u w ∧ RepV kk m q u v := by
  obtain ⟨i, hi, hn⟩ := szOk_spec hz
  obtain ⟨d, hd, hag⟩ := agOk_spec ha
  cases ag with
  | true =>
    simp only [if_true] at hv
    injection hv with hv; subst hv
    have hcs := (hr.drop off).take n
    have hlen : ((us.drop off).take n).length = n := by rw [hcs.1]; simp; omega
    refine ⟨.agg ((us.drop off).take n).toArray, run_loadVar_agg hi hd hag (by rw [hlen, hn]) (fun j u hu => ?_), repV_mkAgg (by simpa using hcs)⟩
    rw [List.getElem?_take] at hu
    split at hu
    · rw [List.getElem?_drop] at hu
      have := hc (off + j) u hu
      rwa [← Nat.add_assoc] at this
    · cases hu
  | false =>
    simp only [Bool.false_eq_true, if_false] at hv
    obtain ⟨u, hu, hru⟩ := hr.get hv
    exact ⟨u, run_loadVar_one hd hag (hc off u hu), hru⟩

theorem cells_of_obj {B : Nat} (hi : Inv B w k μ h) {i : Nat} {cs : List V} (hg : h.get i = .cells cs) : ∃ us, Cells w (μ i).blk (μ i).base us ∧ RepVs k μ h.has us cs := by
  have := hi.obj i
  rw [hg] at this
  obtain ⟨vs, e, h1, h2, h3, h4, h5⟩ := this
  refine ⟨_, fun j u hu => ?_, h4⟩
  rw [List.getElem?_take] at hu
  split at hu
  · rw [List.getElem?_drop] at hu
    rw [cell_heap h1]; simpa using hu
  · cases hu
theorem cells_of_frozen {B : Nat} (hi : Inv B w k μ h) {i : Nat} {ds : List D} (hg : h.get i = .frozen ds) : ∃ us, Cells w (μ i).blk (μ i).base us ∧ RepDs k us ds := by
  have := hi.obj i
  rw [hg] at this
  obtain ⟨us, h1, h2, h3⟩ := this
  exact ⟨us, fun j u hu => hi.agree.1 _ _ _ (h2 j u hu), h3⟩
/-- a reference's cells -/
theorem cells_of_ref {B : Nat} (hi : Inv B w k μ h) {u : Value} {cs : List D} {off : Nat} (hr : Rep k u (.ref cs off)) : ∃ b base us, u = .pointer (some ⟨b, base + off, none⟩) ∧ Cells w b base us ∧ RepDs k us cs ∧ ∀ j v, us[j]? = some v → k.F b (base + j) = some v := by
  cases hr with
  | ref b base off cells us h1 h2 =>
    have hget : ∀ j d, cs[j]? = some d → ((List.range cs.length).map us)[j]? = some (us j) := fun j d hj => by
      simp [(List.getElem?_eq_some_iff.1 hj).1]
    have hF : ∀ j v, ((List.range cs.length).map us)[j]? = some v → k.F b (base + j) = some v := fun j v hv => by
      have hj : j < cs.length := by have := (List.getElem?_eq_some_iff.1 hv).1; simpa using this
      have := h1 j cs[j] (by simp [hj])
      rw [hget j cs[j] (by simp [hj])] at hv
      injection hv with hv; rw [← hv]; exact this
    refine ⟨b, base, (List.range cs.length).map us, rfl, fun j v hv => hi.agree.1 _ _ _ (hF j v hv), ⟨by simp, fun j v x hv hx => ?_⟩, hF⟩
    rw [hget j x hx] at hv
    injection hv with hv; subst hv
    exact h2 j x hx
theorem cells_of_vec {B : Nat} (hi : Inv B w k μ h) {u : Value} {cs : List D} {n : Nat} {ex : Bool} (hr : Rep k u (.vec cs n ex)) : ∃ b base c us, u = .slice (some ⟨b, base, none⟩) n c ∧ n ≤ c ∧ (ex = true → c = n) ∧ Cells w b base us ∧ RepDs k us cs ∧ ∀ j v, us[j]? = some v → k.F b (base + j) = some v := by
  cases hr with
  | vec b base cells n ex c us hn hx h1 h2 =>
    have hget : ∀ j d, cs[j]? = some d → ((List.range cs.length).map us)[j]? = some (us j) := fun j d hj => by
      simp [(List.getElem?_eq_some_iff.1 hj).1]
    have hF : ∀ j v, ((List.range cs.length).map us)[j]? = some v → k.F b (base + j) = some v := fun j v hv => by
      have hj : j < cs.length := by have := (List.getElem?_eq_some_iff.1 hv).1; simpa using this
      have := h1 j cs[j] (by simp [hj])
      rw [hget j cs[j] (by simp [hj])] at hv
      injection hv with hv; rw [← hv]; exact this
    refine ⟨b, base, c, (List.range cs.length).map us, rfl, hn, hx, fun j v hv => hi.agree.1 _ _ _ (hF j v hv), ⟨by simp, fun j v x hv hx => ?_⟩, hF⟩
    rw [hget j x hx] at hv
    injection hv with hv; subst hv
    exact h2 j x hx

theorem repd_load {kk : K} {us : List Value} {cs : List D} (m : Nat → Loc) (q : Nat → Prop) (h : RepDs kk us cs) : RepVs kk m q us (cs.map .d) := repVs_d.2 h
theorem d_take {cs : List D} {off n : Nat} : mkAgg (((cs.map V.d).drop off).take n) = .d (.agg ((cs.drop off).take n)) := by
  rw [← List.map_drop, ← List.map_take]; unfold mkAgg; rw [allD_map]

/-- a load through any pointer -/
theorem run_loadV {B : Nat} (hi : Inv B w k μ h) {t : TypeId} {n : Nat} {ag : Bool} (hz : szOk P t n = true) (ha : agOk P t ag = true) {p : Value} {pv v : V} (hp : RepV k μ h.has p pv) (hl : loadV n ag h pv = some v) :
    ∃ ad u, p = .pointer (some ad) ∧ (loadVar t ad).run P w = .ok u w ∧ RepV k μ h.has u v := by
  unfold loadV at hl
  split at hl
  · rename_i cs off
    split at hl
    · rename_i hle
      obtain ⟨b, base, us, rfl, h1, h2, _⟩ := cells_of_ref hi hp.d_inv
      have hle' := Nat.le_of_ble_eq_true hle
      obtain ⟨u, hu, hru⟩ := run_load_at (P := P) (off := off) (v := v) hz ha h1 (repd_load μ h.has h2) (by simpa using hle') (by
        cases ag with
        | true => simp only [if_true] at hl ⊢; rw [d_take]; exact hl
        | false => simpa using hl)
      exact ⟨_, u, rfl, hu, hru⟩
    · cases hl
  · rename_i i off
    cases hp with
    | ptr i off hin =>
    split at hl
    · rename_i cs hg
      split at hl
      · rename_i hle
        obtain ⟨us, h1, h2⟩ := cells_of_obj hi hg
        obtain ⟨u, hu, hru⟩ := run_load_at (P := P) (off := off) (v := v) hz ha h1 h2 (Nat.le_of_ble_eq_true hle) hl
        exact ⟨_, u, rfl, hu, hru⟩
      · cases hl
    · rename_i cs hg
      split at hl
      · rename_i hle
        obtain ⟨us, h1, h2⟩ := cells_of_frozen hi hg
        have hle' := Nat.le_of_ble_eq_true hle
        obtain ⟨u, hu, hru⟩ := run_load_at (P := P) (off := off) (v := v) hz ha h1 (repd_load μ h.has h2) (by simpa using hle') (by
          cases ag with
          | true => simp only [if_true] at hl ⊢; rw [d_take]; exact hl
          | false => simpa using hl)
        exact ⟨_, u, rfl, hu, hru⟩
      · cases hl
    · cases hl
  · cases hl

theorem s_load (r : Rel G N w k μ hb ρ h a) (hd : ∀ d, o.dst = some d → d < N) {t : TypeId} {n : Nat} {ag : Bool} {x : Operand} {x' : Opnd} (ho : o.op = .load t x) (hc : chkOpnd x x' = true) (hz : szOk P t n = true) (ha : agOk P t ag = true)
    (hs : opSem C ρ h (.load n ag x') = some y) : o.wp P a w (Nx G N (putρ (slotρ ρ y.slot) o.dst y.val) y.heap) Q := by
  obtain ⟨p, v, hp, hl, hy⟩ : ∃ p v, opv ρ x' = some p ∧ loadV n ag h p = some v ∧ y.val = v ∧ y.heap = h ∧ y.slot = none := by
    simp only [opSem] at hs
    split at hs
    · rename_i i off hp; obtain ⟨v, hv, rfl⟩ := did_eq hs; exact ⟨_, v, hp, hv, rfl, rfl, rfl⟩
    · rename_i v _ hp; obtain ⟨u, hu, rfl⟩ := did_eq hs; exact ⟨_, u, hp, hu, rfl, rfl, rfl⟩
    · cases hs
  obtain ⟨ad, u, h1, h2, h3⟩ := run_loadV (P := P) r.inv hz ha (opv_rep r hc hp) hl
  obtain ⟨e1, e2, e3⟩ := hy
  rw [e1, e2, e3]
  exact wp_same r hd (by simp [execOp, ho, Instr.loadAt, h1, Instr.sureAddr, h2]) h3

/-! stores -/
theorem repVs_putAt {kk : K} {m : Nat → Loc} {q : Nat → Prop} {us xs : List Value} {cs ys : List V} (h : RepVs kk m q us cs) (g : RepVs kk m q xs ys) (off : Nat) :
    RepVs kk m q (us.take off ++ xs ++ us.drop (off + ys.length)) (putAt cs ys off) := by
  unfold putAt
  exact ((h.take off).append g).append (h.drop _)

/-- writing a list of cells into an object -/
theorem write_obj {B : Nat} (hi : Inv B w k μ h) {i off : Nat} {cs xs : List V} (hg : h.get i = .cells cs) {us : List Value} (hx : RepVs k μ h.has us xs) (hl : off + xs.length ≤ cs.length) (hf : flats xs = true) :
    (storeCells ⟨(μ i).blk, (μ i).base + off, none⟩ us).run P w = .ok () (w.setCells (μ i).blk ((μ i).base + off) us) ∧
      Inv B (w.setCells (μ i).blk ((μ i).base + off) us) k μ (h.set i (.cells (putAt cs xs off))) ∧ Ext w k μ h (w.setCells (μ i).blk ((μ i).base + off) us) k μ (h.set i (.cells (putAt cs xs off))) := by
  have ho := hi.obj i
  rw [hg] at ho
  obtain ⟨vs, e, h1, h2, h3, h4, h5⟩ := ho
  have hlv : live (h.get i) = true := by rw [hg]; rfl
  have hus : us.length = xs.length := hx.1
  obtain ⟨vs', g1, g2⟩ := heap_setCells us ((μ i).base + off) w vs h1 (by omega)
  obtain ⟨t1, t2, t3⟩ := streams_setCells (b := (μ i).blk) us ((μ i).base + off) w
  have hne : ∀ b, b ≠ (μ i).blk → (w.setCells (μ i).blk ((μ i).base + off) us).heap[b]? = w.heap[b]? := fun b hb => heap_setCells_ne hb us _ w
  have hsz := size_setCells (b := (μ i).blk) us ((μ i).base + off) w
  have hvs' : vs'.size = vs.size := by
    have := congrArg List.length g2
    simp only [Array.length_toList, List.length_append, List.length_take, List.length_drop] at this
    omega
  have ha : Agree k (w.setCells (μ i).blk ((μ i).base + off) us) := by
    refine ⟨fun b j u hu => ?_, fun b es hm => ?_, fun b j u hu => ?_⟩
    · by_cases eb : b = (μ i).blk
      · subst eb
        have hj : j < (μ i).base := by
          rcases Nat.lt_or_ge j (μ i).base with h | h
          · exact h
          · rw [h5 j h] at hu; cases hu
        have hold := hi.agree.1 _ _ _ hu
        rw [cell_heap h1] at hold
        rw [cell_heap g1, ← Array.getElem?_toList, g2]
        rw [List.getElem?_append_left (by simp; have := Array.getElem?_eq_some_iff.1 hold; obtain ⟨q, _⟩ := this; omega), List.getElem?_append_left (by simp; have := Array.getElem?_eq_some_iff.1 hold; obtain ⟨q, _⟩ := this; omega)]
        rw [List.getElem?_take, if_pos (by omega), Array.getElem?_toList]
        exact hold
      · rw [cell_of_heap (hne b eb)]; exact hi.agree.1 _ _ _ hu
    · by_cases eb : b = (μ i).blk
      · subst eb
        obtain ⟨c, hc, _⟩ := hi.agree.2.1 _ _ hm
        rw [h1] at hc; cases hc
      · rw [hne b eb]; exact hi.agree.2.1 _ _ hm
    · by_cases eb : b = (μ i).blk
      · subst eb; exact ⟨_, _, g1⟩
      · rw [hne b eb]; exact hi.agree.2.2 _ _ _ hu
  refine ⟨run_storeRow h1 (by omega) (flats_one hx hf), hi.write hlv hne hsz ha ?_, Ext.write hlv hne hsz t1 t2 t3⟩
  refine ⟨vs', e, g1, by omega, by unfold putAt; simp; omega, ?_, h5⟩
  have hlen : (putAt cs xs off).length = cs.length := by unfold putAt; simp; omega
  have := repVs_putAt h4 hx off
  have heq : (vs'.toList.drop (μ i).base).take (putAt cs xs off).length = ((vs.toList.drop (μ i).base).take cs.length).take off ++ us ++ ((vs.toList.drop (μ i).base).take cs.length).drop (off + xs.length) := by
    rw [hlen, g2]
    apply List.ext_getElem?
    intro j
    by_cases hj : j < cs.length
    · rw [List.getElem?_take, if_pos hj, List.getElem?_drop]
      by_cases c1 : j < off
      · rw [List.getElem?_append_left (by simp; omega), List.getElem?_append_left (by simp; omega), List.getElem?_append_left (by simp; omega), List.getElem?_append_left (by simp; omega)]
        simp [c1, hj, Nat.add_lt_add_left c1]
      · by_cases c2 : j < off + us.length
        · rw [List.getElem?_append_left (by simp; omega), List.getElem?_append_right (by simp; omega), List.getElem?_append_left (by simp; omega), List.getElem?_append_right (by simp; omega)]
          congr 1
          simp; omega
        · rw [List.getElem?_append_right (by simp; omega), List.getElem?_append_right (by simp; omega)]
          simp only [List.getElem?_drop, List.getElem?_take, List.length_append, List.length_take, List.length_drop, Array.length_toList]
          rw [if_pos (by omega)]
          congr 1
          omega
    · rw [List.getElem?_eq_none (by simp; omega), List.getElem?_eq_none (by simp; omega)]
  rw [heq]
  exact this

theorem s_store (r : Rel G N w k μ hb ρ h a) (hd : ∀ d, o.dst = some d → d < N) {t : TypeId} {n : Nat} {x z : Operand} {x' z' : Opnd} (ho : o.op = .store t x z) (hc : chkOpnd x x' = true) (hc' : chkOpnd z z' = true) (hz : szOk P t n = true)
    (hs : opSem C ρ h (.store n x' z') = some y) : o.wp P a w (Nx G N (putρ (slotρ ρ y.slot) o.dst y.val) y.heap) Q := by
  simp only [opSem] at hs
  split at hs
  · rename_i i off v hp hv
    split at hs
    · rename_i h' hst
      injection hs with hs; subst hs
      simp only [storeV] at hst
      split at hst
      · rename_i cs hg
        split at hst
        · rename_i hif
          injection hst with hst; subst hst
          have hpr := opv_rep r hc hp
          have hvr := repV_cells (opv_rep r hc' hv)
          obtain ⟨g1, g2, g3⟩ := write_obj (P := P) r.inv hg (off := off) hvr (by omega) hif.2.2
          obtain ⟨ti, hti, htn⟩ := szOk_spec hz
          generalize hev : a.eval x = pv at hpr
          cases hpr with
          | ptr i off hin =>
          refine wp_skip r hd ?_ g2 g3
          have hsz : (a.eval z).cells.size = ti.size := by rw [htn]; have := hvr.1; simp at this; omega
          simp [execOp, ho, Instr.storeAt, hev, Instr.sureAddr, storeVar, run_sizeOf' hti, hsz, g1]
        · cases hst
      · cases hst
    · cases hs
  · cases hs
end
end Go.Avm

/- The abstract machine on data: its operations are the model's (second part: what computes). -/
namespace Go.Avm
open Go

section
variable {P : Program} {G : Start} {N : Nat} {w w' : World} {k k' : K} {μ μ' : Nat → Loc} {hb : Nat → Nat} {ρ : Nat → Option V} {h h' : H} {a : Act} {o : Oper} {Q : Exit → Act → World → Prop} {u : Value} {v : V} {C : Calls} {y : Did}

theorem s_nilck (r : Rel G N w k μ hb ρ h a) (hd : ∀ d, o.dst = some d → d < N) {x : Operand} {x' : Opnd} (ho : o.op = .nilCheck x) (hc : chkOpnd x x' = true) (hs : opSem C ρ h (.nilck x') = some y) :
    o.wp P a w (Nx G N (putρ (slotρ ρ y.slot) o.dst y.val) y.heap) Q := by
  simp only [opSem] at hs
  split at hs
  · rename_i v hv
    split at hs
    · rename_i hn
      injection hs with hs; subst hs
      have hr := opv_rep r hc hv
      generalize hev : a.eval x = u at hr
      refine wp_same r hd (u := u) ?_ hr
      cases hr with
      | d u d hr => cases hr <;> first | (simp [isNil] at hn; done) | simp [execOp, ho, hev]
      | _ => first | (simp [isNil] at hn; done) | simp [execOp, ho, hev]
    · cases hs
  · cases hs

theorem run_fieldPlace {f : Field} {b o : Nat} {n : Nat} (hz : szOk P f.type n = true) (hn : n ≠ 0) : (fieldPlace ⟨b, o, none⟩ f).run P w = .ok ⟨b, o + f.offset, none⟩ w := by
  obtain ⟨i, hi, hsz⟩ := szOk_spec hz
  have : ¬ i.size = 0 := by omega
  simp [fieldPlace, run_sizeOf' hi, this, addr_add]

def structOf (P : Program) (t : TypeId) : Option (Array Field) := match P.underlying t with
  | some (.struct fs) => some fs
  | _ => none
theorem structOf_spec {t : TypeId} {fs : Array Field} (h : structOf P t = some fs) : P.underlying t = some (.struct fs) := by
  unfold structOf at h; split at h
  · injection h with h; subst h; assumption
  · cases h
def sliceOf (P : Program) (t : TypeId) : Option TypeId := match P.underlying t with
  | some (.slice e) => some e
  | _ => none
theorem sliceOf_spec {t e : TypeId} (h : sliceOf P t = some e) : P.underlying t = some (.slice e) := by
  unfold sliceOf at h; split at h
  · injection h with h; subst h; assumption
  · cases h
/-- the field's place and size -/
def fieldOk (P : Program) (t : TypeId) (i off n : Nat) : Bool := match structOf P t with
  | some fs => match fs[i]? with
    | some f => f.offset == off && szOk P f.type n
    | none => false
  | none => false
theorem fieldOk_spec {t : TypeId} {i off n : Nat} (h : fieldOk P t i off n = true) : ∃ fs f, P.underlying t = some (.struct fs) ∧ fs[i]? = some f ∧ f.offset = off ∧ szOk P f.type n = true := by
  unfold fieldOk at h
  split at h
  · rename_i fs hfs
    split at h
    · rename_i f hf
      simp only [Bool.and_eq_true, beq_iff_eq] at h
      exact ⟨fs, f, structOf_spec hfs, hf, h.1, h.2⟩
    · cases h
  · cases h

theorem s_fAddr (r : Rel G N w k μ hb ρ h a) (hd : ∀ d, o.dst = some d → d < N) {t : TypeId} {i off n : Nat} {x : Operand} {x' : Opnd} (ho : o.op = .fieldAddr t x i) (hc : chkOpnd x x' = true) (hf : fieldOk P t i off n = true) (hn : n ≠ 0)
    (hs : opSem C ρ h (.fAddr off x') = some y) : o.wp P a w (Nx G N (putρ (slotρ ρ y.slot) o.dst y.val) y.heap) Q := by
  obtain ⟨fs, f, h1, h2, h3, h4⟩ := fieldOk_spec hf
  simp only [opSem] at hs
  split at hs
  · rename_i i p hv
    injection hs with hs; subst hs
    have hr := opv_rep r hc hv
    generalize hev : a.eval x = u at hr
    cases hr with
    | ptr i p hi =>
    refine wp_same r hd (u := .pointer (some ⟨(μ i).blk, (μ i).base + p + off, none⟩)) ?_ ?_
    · simp [execOp, ho, Instr.fieldAt, run_underlying' h1, h2, hev, Instr.sureAddr, run_fieldPlace h4 hn, h3]
    · rw [Nat.add_assoc]; exact .ptr i (p + off) hi
  · rename_i cs p hv
    injection hs with hs; subst hs
    have hr := opv_rep r hc hv
    generalize hev : a.eval x = u at hr
    cases hr with
    | d u d hr =>
    cases hr with
    | ref b base off' cells us g1 g2 =>
    refine wp_same r hd (u := .pointer (some ⟨b, base + p + off, none⟩)) ?_ ?_
    · simp [execOp, ho, Instr.fieldAt, run_underlying' h1, h2, hev, Instr.sureAddr, run_fieldPlace h4 hn, h3]
    · rw [Nat.add_assoc]; exact .d _ _ (.ref b base (p + off) cs us g1 g2)
  · cases hs

theorem s_iAddr (r : Rel G N w k μ hb ρ h a) (hd : ∀ d, o.dst = some d → d < N) {t e : TypeId} {z : Nat} {x i : Operand} {x' i' : Opnd} (ho : o.op = .indexAddr t x i) (hc : chkOpnd x x' = true) (hc' : chkOpnd i i' = true) (ht : sliceOf P t = some e) (hz : szOk P e z = true)
    (hs : opSem C ρ h (.iAddr z x' i') = some y) : o.wp P a w (Nx G N (putρ (slotρ ρ y.slot) o.dst y.val) y.heap) Q := by
  have ht' := sliceOf_spec ht
  obtain ⟨ti, hti, hsz⟩ := szOk_spec hz
  simp only [opSem] at hs
  split at hs
  · rename_i cs n ex kk m hv hi
    split at hs
    · rename_i hlt
      injection hs with hs; subst hs
      have hr := opv_rep r hc hv
      have hm := int_inv (opv_rep r hc' hi)
      generalize hev : a.eval x = u at hr
      cases hr with
      | d u d hr =>
      cases hr with
      | vec b base cells n' ex' c us hn hx g1 g2 =>
      refine wp_same r hd (u := .pointer (some ⟨b, base + m.toNat * z, none⟩)) ?_ (.d _ _ (.ref b base (m.toNat * z) cs us g1 g2))
      simp [execOp, ho, Instr.indexAt, hm, asIntOf, run_underlying' ht', hev, hlt, run_sizeOf' hti, hsz, addr_add]
    · cases hs
  · rename_i j off n z' cap kk m hv hi
    split at hs
    · rename_i hlt
      obtain ⟨q1, q2, rfl⟩ := hlt
      injection hs with hs; subst hs
      have hr := opv_rep r hc hv
      have hm := int_inv (opv_rep r hc' hi)
      generalize hev : a.eval x = u at hr
      cases hr with
      | arr j off n z' cap c hi' hn hcc hrr hq p hp =>
      obtain rfl := hp (by omega)
      refine wp_same r hd (u := .pointer (some ⟨(μ j).blk, (μ j).base + off + m.toNat * z, none⟩)) ?_ ?_
      · simp [execOp, ho, Instr.indexAt, hm, asIntOf, run_underlying' ht', hev, q1, q2, run_sizeOf' hti, hsz, addr_add]
      · rw [Nat.add_assoc]; exact .ptr j _ hi'
    · cases hs
  · cases hs

def arrayOf (P : Program) (t : TypeId) : Option (Nat × TypeId) := match P.underlying t with
  | some (.array n e) => some (n, e)
  | _ => none
theorem arrayOf_spec {t e : TypeId} {n : Nat} (h : arrayOf P t = some (n, e)) : P.underlying t = some (.array n e) := by
  unfold arrayOf at h; split at h
  · injection h with h; injection h with h1 h2; subst h1; subst h2; assumption
  · cases h

theorem s_iAddrA (r : Rel G N w k μ hb ρ h a) (hd : ∀ d, o.dst = some d → d < N) {t e : TypeId} {z len : Nat} {x i : Operand} {x' i' : Opnd} (ho : o.op = .indexAddr t x i) (hc : chkOpnd x x' = true) (hc' : chkOpnd i i' = true) (ht : arrayOf P t = some (len, e)) (hz : szOk P e z = true)
    (hs : opSem C ρ h (.iAddrA z len x' i') = some y) : o.wp P a w (Nx G N (putρ (slotρ ρ y.slot) o.dst y.val) y.heap) Q := by
  have ht' := arrayOf_spec ht
  obtain ⟨ti, hti, hsz⟩ := szOk_spec hz
  simp only [opSem] at hs
  split at hs
  · rename_i cs p kk m hv hi
    split at hs
    · rename_i hlt
      injection hs with hs; subst hs
      have hr := opv_rep r hc hv
      have hm := int_inv (opv_rep r hc' hi)
      generalize hev : a.eval x = u at hr
      cases hr with
      | d u d hr =>
      cases hr with
      | ref b base off' cells us g1 g2 =>
      refine wp_same r hd (u := .pointer (some ⟨b, base + p + m.toNat * z, none⟩)) ?_ ?_
      · simp [execOp, ho, Instr.indexAt, hm, asIntOf, run_underlying' ht', hev, hlt, run_sizeOf' hti, hsz, addr_add, Instr.sureAddr]
      · rw [Nat.add_assoc]; exact .d _ _ (.ref b base _ cs us g1 g2)
    · cases hs
  · rename_i j p kk m hv hi
    split at hs
    · rename_i hlt
      injection hs with hs; subst hs
      have hr := opv_rep r hc hv
      have hm := int_inv (opv_rep r hc' hi)
      generalize hev : a.eval x = u at hr
      cases hr with
      | ptr j p hi' =>
      refine wp_same r hd (u := .pointer (some ⟨(μ j).blk, (μ j).base + p + m.toNat * z, none⟩)) ?_ ?_
      · simp [execOp, ho, Instr.indexAt, hm, asIntOf, run_underlying' ht', hev, hlt, run_sizeOf' hti, hsz, addr_add, Instr.sureAddr]
      · rw [Nat.add_assoc]; exact .ptr j _ hi'
    · cases hs
  · cases hs

theorem s_idxS (r : Rel G N w k μ hb ρ h a) (hd : ∀ d, o.dst = some d → d < N) {t : TypeId} {x i : Operand} {x' i' : Opnd} (ho : o.op = .index t x i) (hc : chkOpnd x x' = true) (hc' : chkOpnd i i' = true) (ht : P.underlying t = some .string)
    (hs : opSem C ρ h (.idxS x' i') = some y) : o.wp P a w (Nx G N (putρ (slotρ ρ y.slot) o.dst y.val) y.heap) Q := by
  simp only [opSem] at hs
  split at hs
  · rename_i s kk m hv hi
    split at hs
    · rename_i hlt
      split at hs
      · rename_i b hbb
        injection hs with hs; subst hs
        have hr := str_inv (opv_rep r hc hv)
        have hm := int_inv (opv_rep r hc' hi)
        refine wp_same r hd (u := .int .u8 b.toNat) ?_ (.d _ _ (.int _ _))
        simp [execOp, ho, Instr.index, hm, asIntOf, run_underlying' ht, hr, hlt, hbb]
      · cases hs
    · cases hs
  · cases hs

theorem s_ext (r : Rel G N w k μ hb ρ h a) (hd : ∀ d, o.dst = some d → d < N) {x : Operand} {x' : Opnd} {i : Nat} (ho : o.op = .extract x i) (hc : chkOpnd x x' = true)
    (hs : opSem C ρ h (.ext x' i) = some y) : o.wp P a w (Nx G N (putρ (slotρ ρ y.slot) o.dst y.val) y.heap) Q := by
  simp only [opSem] at hs
  split at hs
  · rename_i ds hv
    obtain ⟨v, hv', rfl⟩ := did_eq hs
    have hr := opv_rep r hc hv
    generalize hev : a.eval x = u at hr
    cases hr with
    | d u d hr =>
    cases hr with
    | tuple vs ds us s g hh =>
    simp only [Option.map_eq_some_iff] at hv'
    obtain ⟨d, hd', rfl⟩ := hv'
    have := g i d hd'
    exact wp_same r hd (u := us i) (by simp [execOp, ho, Instr.extract, hev, this]) (.d _ _ (hh i d hd'))
  · rename_i vs hv
    obtain ⟨v, hv', rfl⟩ := did_eq hs
    have hr := opv_rep r hc hv
    generalize hev : a.eval x = u at hr
    cases hr with
    | tuple vs ds us s g hh =>
    have := g i v hv'
    exact wp_same r hd (u := us i) (by simp [execOp, ho, Instr.extract, hev, this]) (hh i v hv')
  · cases hs

theorem s_un (r : Rel G N w k μ hb ρ h a) (hd : ∀ d, o.dst = some d → d < N) {t : TypeId} {op : UnOp} {x : Operand} {x' : Opnd} (ho : o.op = .unOp op t x) (hc : chkOpnd x x' = true)
    (hs : opSem C ρ h (.un op x') = some y) : o.wp P a w (Nx G N (putρ (slotρ ρ y.slot) o.dst y.val) y.heap) Q := by
  simp only [opSem] at hs
  split at hs
  · rename_i b hv
    injection hs with hs; subst hs
    have hr := bool_inv (opv_rep r hc hv)
    exact wp_same r hd (u := .bool (!b)) (by simp [execOp, ho, hr, Op.unary]) (.d _ _ (.bool _))
  · rename_i i n hv
    injection hs with hs; subst hs
    have hr := int_inv (opv_rep r hc hv)
    exact wp_same r hd (u := .int i (i.wrap (0 - n))) (by simp [execOp, ho, hr, Op.unary, Op.intArith]) (.d _ _ (.int _ _))
  · cases hs

theorem s_conv (r : Rel G N w k μ hb ρ h a) (hd : ∀ d, o.dst = some d → d < N) {s t : TypeId} {i : IntKind} {ds : TypeDesc} {x : Operand} {x' : Opnd} (ho : o.op = .convert s t x) (hc : chkOpnd x x' = true) (h1 : P.underlying s = some ds) (h2 : P.underlying t = some (.int i))
    (hs : opSem C ρ h (.conv i x') = some y) : o.wp P a w (Nx G N (putρ (slotρ ρ y.slot) o.dst y.val) y.heap) Q := by
  simp only [opSem] at hs
  split at hs
  · rename_i q n hv
    injection hs with hs; subst hs
    have hr := int_inv (opv_rep r hc hv)
    exact wp_same r hd (u := .int i (i.wrap n)) (by cases ds <;> simp [execOp, ho, hr, convert, run_underlying' h1, run_underlying' h2, Conv.intToInt]) (.d _ _ (.int _ _))
  · cases hs
theorem s_convStr (r : Rel G N w k μ hb ρ h a) (hd : ∀ d, o.dst = some d → d < N) {s t : TypeId} {x : Operand} {x' : Opnd} (ho : o.op = .convert s t x) (hc : chkOpnd x x' = true) (h1 : P.underlying s = some .string) (h2 : P.underlying t = some .string)
    (hs : opSem C ρ h (.convStr x') = some y) : o.wp P a w (Nx G N (putρ (slotρ ρ y.slot) o.dst y.val) y.heap) Q := by
  simp only [opSem] at hs
  split at hs
  · rename_i q hv
    injection hs with hs; subst hs
    have hr := str_inv (opv_rep r hc hv)
    exact wp_same r hd (u := .string q) (by simp [execOp, ho, hr, convert, run_underlying' h1, run_underlying' h2]) (.d _ _ (.str _))
  · cases hs

theorem s_mkI (r : Rel G N w k μ hb ρ h a) (hd : ∀ d, o.dst = some d → d < N) {t : TypeId} {x : Operand} {x' : Opnd} (ho : o.op = .makeInterface t x) (hc : chkOpnd x x' = true) (ht : P.concrete t = true)
    (hs : opSem C ρ h (.mkI t x') = some y) : o.wp P a w (Nx G N (putρ (slotρ ρ y.slot) o.dst y.val) y.heap) Q := by
  obtain ⟨v, hv, rfl⟩ := did_eq hs
  simp only [Option.map_eq_some_iff] at hv
  obtain ⟨v', hv', rfl⟩ := hv
  exact wp_same r hd (u := .iface t (a.eval x)) (by simp [execOp, ho, run_makeInterface w t (a.eval x) ht]) (repV_mkIface (opv_rep r hc hv'))

theorem s_mkF (r : Rel G N w k μ hb ρ h a) (hd : ∀ d, o.dst = some d → d < N) {f : Nat} {xs ys : Array Operand} {xs' ys' : List Opnd} (ho : o.op = .makeFunc (.func f) xs ys) (hc : chkOpnds xs.toList xs' = true) (hc' : chkOpnds ys.toList ys' = true)
    (hs : opSem C ρ h (.mkF f xs' ys') = some y) : o.wp P a w (Nx G N (putρ (slotρ ρ y.slot) o.dst y.val) y.heap) Q := by
  simp only [opSem] at hs
  split at hs
  · rename_i as bs h1 h2
    injection hs with hs; subst hs
    have r1 := opvs_rep r hc h1
    have r2 := opvs_rep r hc' h2
    refine wp_same r hd (u := .func (.func f) (xs.map a.eval) (ys.map a.eval)) (by simp [execOp, ho, Instr.makeFunc]) (repV_mkFunc ?_ ?_)
    · simpa using r1
    · simpa using r2
  · cases hs

theorem s_mkMap (r : Rel G N w k μ hb ρ h a) (hd : ∀ d, o.dst = some d → d < N) {t : TypeId} {res : Option Operand} (ho : o.op = .makeMap t res) (hres : res = none ∨ ∃ e q n, P.underlying t = some (.map e q) ∧ res = some (.const (.int .i64 n)))
    (hs : opSem C ρ h .mkMap = some y) : o.wp P a w (Nx G N (putρ (slotρ ρ y.slot) o.dst y.val) y.heap) Q := by
  simp only [opSem] at hs
  injection hs with hs; subst hs
  have hrun : (execOp a.eval o).run P w = .ok (.value (.map (some w.heap.size))) (w.alloc (.map #[] 0)) := by
    rcases hres with rfl | ⟨e, q, n, h1, rfl⟩
    · simp [execOp, ho, Instr.makeMap]
    · simp [execOp, ho, Instr.makeMap, run_underlying' h1, Act.eval, asInt, asIntOf]
  refine wp_step r hd hrun r.inv.newMap (Ext.newObj r.inv _ _ _ rfl) ?_
  have := RepV.mapr (k := k) (μ := updμ μ h.next ⟨w.heap.size, 0, 0⟩) (n := (h.new (.map [] [])).has) h.next ((H.has_new _ _ _).2 (.inl rfl))
  rw [updμ_same] at this
  exact this

/-! comparisons and arithmetic -/
def plainTy (P : Program) (t : TypeId) : Bool := match P.underlying t with
  | some (.int _) | some .string | some .bool => true
  | _ => false

theorem run_binI {op : BinOp} {i : IntKind} {m n : Int} {d : D} (h : binI op i m n = some d) (hop : op ≠ .shl ∧ op ≠ .shr) : ∃ u, Rep k u d ∧ ∀ t, (binOp op t (.int i m) (.int i n)).run P w = .ok u w := by
  cases op <;> simp only [binI] at h
  case add => injection h with h; subst h; exact ⟨_, .int _ _, fun t => by simp [binOp, Op.intArith]⟩
  case sub => injection h with h; subst h; exact ⟨_, .int _ _, fun t => by simp [binOp, Op.intArith]⟩
  case mul => injection h with h; subst h; exact ⟨_, .int _ _, fun t => by simp [binOp, Op.intArith]⟩
  case quo =>
    split at h
    · cases h
    · rename_i hz
      injection h with h; subst h
      have hz' : ¬ n = 0 := by simpa using hz
      exact ⟨_, .int _ _, fun t => by simp [binOp, Op.intDiv, hz']⟩
  case rem =>
    split at h
    · cases h
    · rename_i hz
      injection h with h; subst h
      have hz' : ¬ n = 0 := by simpa using hz
      exact ⟨_, .int _ _, fun t => by simp [binOp, Op.intDiv, hz']⟩
  case and => injection h with h; subst h; exact ⟨_, .int _ _, fun t => by simp [binOp, Op.intBits]⟩
  case or => injection h with h; subst h; exact ⟨_, .int _ _, fun t => by simp [binOp, Op.intBits]⟩
  case xor => injection h with h; subst h; exact ⟨_, .int _ _, fun t => by simp [binOp, Op.intBits]⟩
  case eql => injection h with h; subst h; exact ⟨_, .bool _, fun t => by simp [binOp, Op.intCmp]⟩
  case neq => injection h with h; subst h; exact ⟨_, .bool _, fun t => by simp [binOp, Op.intCmp]⟩
  case lss => injection h with h; subst h; exact ⟨_, .bool _, fun t => by simp [binOp, Op.intCmp]⟩
  case leq => injection h with h; subst h; exact ⟨_, .bool _, fun t => by simp [binOp, Op.intCmp]⟩
  case gtr => injection h with h; subst h; exact ⟨_, .bool _, fun t => by simp [binOp, Op.intCmp]⟩
  case geq => injection h with h; subst h; exact ⟨_, .bool _, fun t => by simp [binOp, Op.intCmp]⟩
  all_goals cases h
theorem run_binS {op : BinOp} {m n : ByteArray} {d : D} (h : binS op m n = some d) : ∃ u, Rep k u d ∧ ∀ t, (binOp op t (.string m) (.string n)).run P w = .ok u w := by
  cases op <;> simp only [binS] at h
  case add =>
    split at h
    · rename_i hle
      have hle := Nat.le_of_ble_eq_true hle
      injection h with h; subst h
      refine ⟨_, .str _, fun t => ?_⟩
      have hmax : IntKind.max .i64 = 9223372036854775807 := by decide
      have : ¬ (((m.size + n.size : Nat) : Int) > IntKind.i64.max) := by rw [hmax]; omega
      simp only [binOp, Op.stringOp, if_neg this, Sem.run_pure]
    · cases h
  case eql => injection h with h; subst h; exact ⟨_, .bool _, fun t => by simp [binOp, Op.stringOp]⟩
  case neq => injection h with h; subst h; exact ⟨_, .bool _, fun t => by simp [binOp, Op.stringOp]⟩
  case lss => injection h with h; subst h; exact ⟨_, .bool _, fun t => by simp [binOp, Op.stringOp]⟩
  case leq => injection h with h; subst h; exact ⟨_, .bool _, fun t => by simp [binOp, Op.stringOp]⟩
  case gtr => injection h with h; subst h; exact ⟨_, .bool _, fun t => by simp [binOp, Op.stringOp]⟩
  case geq => injection h with h; subst h; exact ⟨_, .bool _, fun t => by simp [binOp, Op.stringOp]⟩
  all_goals cases h

theorem run_eqGuard_int {op : BinOp} {t : TypeId} {x z : Operand} {i j : IntKind} {m n : Int} : (eqGuard op t x z (.int i m) (.int j n)).run P w = .ok () w := by
  unfold eqGuard; cases op <;> simp
theorem run_eqGuard_str {op : BinOp} {t : TypeId} {x z : Operand} {m n : ByteArray} : (eqGuard op t x z (.string m) (.string n)).run P w = .ok () w := by
  unfold eqGuard; cases op <;> simp
theorem run_eqGuard_bool {op : BinOp} {t : TypeId} {x z : Operand} {m n : Bool} : (eqGuard op t x z (.bool m) (.bool n)).run P w = .ok () w := by
  unfold eqGuard; cases op <;> simp

theorem s_bin (r : Rel G N w k μ hb ρ h a) (hd : ∀ d, o.dst = some d → d < N) {op : BinOp} {t t' : TypeId} {x z : Operand} {x' z' : Opnd} (ho : o.op = .binOp op t x z t') (hc : chkOpnd x x' = true) (hc' : chkOpnd z z' = true)
    (hs : opSem C ρ h (.bin op x' z') = some y) : o.wp P a w (Nx G N (putρ (slotρ ρ y.slot) o.dst y.val) y.heap) Q := by
  simp only [opSem] at hs
  split at hs
  · rename_i v1 v2 e1 e2
    obtain ⟨v, hv, rfl⟩ := did_eq hs
    simp only [Option.map_eq_some_iff] at hv
    obtain ⟨d, hbin, rfl⟩ := hv
    have r1 := opv_rep r hc e1
    have r2 := opv_rep r hc' e2
    unfold binD at hbin
    split at hbin
    · rename_i i m j n
      have e1' := int_inv r1
      have e2' := int_inv r2
      split at hbin
      · split at hbin
        · cases hbin
        · rename_i hneg
          injection hbin with hbin; subst hbin
          have hneg' : ¬ n < 0 := hneg
          exact wp_same r hd (u := .int i (i.wrap (m * 2 ^ (min n.toNat i.bits)))) (by simp [execOp, ho, e1', e2', run_eqGuard_int, binOp, Op.shift, hneg']) (.d _ _ (.int _ _))
      · split at hbin
        · cases hbin
        · rename_i hneg
          injection hbin with hbin; subst hbin
          have hneg' : ¬ n < 0 := hneg
          exact wp_same r hd (u := .int i (m.fdiv (2 ^ (min n.toNat i.bits)))) (by simp [execOp, ho, e1', e2', run_eqGuard_int, binOp, Op.shift, hneg']) (.d _ _ (.int _ _))
      · rename_i h1 h2
        split at hbin
        · rename_i hij
          subst hij
          obtain ⟨u, hru, hrun⟩ := run_binI (P := P) (w := w) (k := k) hbin ⟨fun e => h1 e, fun e => h2 e⟩
          exact wp_same r hd (u := u) (by simp [execOp, ho, e1', e2', run_eqGuard_int, hrun t]) (.d _ _ hru)
        · cases hbin
    · rename_i s1 s2
      have e1' := str_inv r1
      have e2' := str_inv r2
      obtain ⟨u, hru, hrun⟩ := run_binS (P := P) (w := w) (k := k) hbin
      exact wp_same r hd (u := u) (by simp [execOp, ho, e1', e2', run_eqGuard_str, hrun t]) (.d _ _ hru)
    · cases hbin
  · cases hs
theorem s_eqB (r : Rel G N w k μ hb ρ h a) (hd : ∀ d, o.dst = some d → d < N) {neq : Bool} {t t' : TypeId} {x z : Operand} {x' z' : Opnd} (ho : o.op = .binOp (if neq then .neq else .eql) t x z t') (hc : chkOpnd x x' = true) (hc' : chkOpnd z z' = true)
    (hbt : P.underlying t = some .bool) (hs : opSem C ρ h (.eqB neq x' z') = some y) : o.wp P a w (Nx G N (putρ (slotρ ρ y.slot) o.dst y.val) y.heap) Q := by
  simp only [opSem] at hs
  split at hs
  · rename_i b1 b2 e1 e2
    injection hs with hs; subst hs
    have r1 := bool_inv (opv_rep r hc e1)
    have r2 := bool_inv (opv_rep r hc' e2)
    cases neq with
    | true =>
      refine wp_same r hd (u := .bool (!(b1 == b2))) ?_ (.d _ _ (.bool _))
      simp only [if_true] at ho
      simp [execOp, ho, r1, r2, run_eqGuard_bool, run_neq_bool w t b1 b2 hbt]
    | false =>
      refine wp_same r hd (u := .bool (b1 == b2)) ?_ (.d _ _ (.bool _))
      simp only [Bool.false_eq_true, if_false] at ho
      simp [execOp, ho, r1, r2, run_eqGuard_bool, run_eql_bool w t b1 b2 hbt]
  · cases hs
end
end Go.Avm

/- The abstract machine on data: its operations are the model's (third part: maps, interfaces, structs). -/
namespace Go.Avm
open Go

section
variable {P : Program} {G : Start} {N : Nat} {w w' : World} {k k' : K} {μ μ' : Nat → Loc} {hb : Nat → Nat} {ρ : Nat → Option V} {h h' : H} {a : Act} {o : Oper} {Q : Exit → Act → World → Prop} {u : Value} {v : V} {C : Calls} {y : Did}

/-- the kind of a map's keys -/
def kkDesc : Nat → TypeDesc → Bool
  | 0, .int _ | 1, .string | 2, .bool => true
  | _, _ => false
def mapTy (P : Program) (t : TypeId) (kk : Nat) : Option (TypeId × TypeId) := match P.underlying t with
  | some (.map key e) => match P.underlying key with
    | some d => if kkDesc kk d then some (key, e) else none
    | none => none
  | _ => none
theorem mapTy_spec {t : TypeId} {kk : Nat} {key e : TypeId} (h : mapTy P t kk = some (key, e)) : P.underlying t = some (.map key e) ∧ ∃ d, P.underlying key = some d ∧ kkDesc kk d = true := by
  unfold mapTy at h
  split at h
  · rename_i key' e' ht
    split at h
    · rename_i d hd
      split at h
      · rename_i hk; injection h with h; injection h with h1 h2; subst h1; subst h2; exact ⟨ht, d, hd, hk⟩
      · cases h
    · cases h
  · cases h

theorem run_checkKey_succ {key : TypeId} {d : TypeDesc} {kk : Nat} (hd : P.underlying key = some d) (hk : kkDesc kk d = true) (em : Bool) (v : Value) (n : Nat) : (Instr.checkKey em (n + 1) key v).run P w = .ok () w := by
  unfold kkDesc at hk
  split at hk <;> first | (cases hk; done) | simp [Instr.checkKey, run_underlying' hd]
theorem run_checkKey' {key : TypeId} {d : TypeDesc} {kk : Nat} (hd : P.underlying key = some d) (hk : kkDesc kk d = true) (em : Bool) (v : Value) : (Instr.checkKey em 10000 key v).run P w = .ok () w := run_checkKey_succ hd hk em v 9999

theorem sameNow_keyEq {d : TypeDesc} {kk : Nat} (hk : kkDesc kk d = true) {x z : D} (hx : keyOk kk x = true) {v v' : Value} (r : Rep k v x) (r' : Rep k v' z) {b : Bool} (he : keyEq x z = some b) : Instr.sameNow d v v' = some b := by
  unfold keyOk at hx
  split at hx
  · cases r
    unfold keyEq at he
    split at he <;> try (cases he; done)
    · rename_i i m j n hh
      cases hh
      cases r'
      unfold kkDesc at hk
      cases d <;> simp at hk
      simpa [Instr.sameNow] using he
    · rename_i hh; cases hh
    · rename_i hh; cases hh
  · cases r
    unfold keyEq at he
    split at he <;> try (cases he; done)
    · rename_i hh; cases hh
    · rename_i s s' hh
      cases hh
      cases r'
      unfold kkDesc at hk
      cases d <;> simp at hk
      simpa [Instr.sameNow] using he
    · rename_i hh; cases hh
  · cases r
    unfold keyEq at he
    split at he <;> try (cases he; done)
    · rename_i hh; cases hh
    · rename_i hh; cases hh
    · rename_i s s' hh
      cases hh
      cases r'
      unfold kkDesc at hk
      cases d <;> simp at hk
      simpa [Instr.sameNow] using he
  · cases hx

theorem findNow_idx {d : TypeDesc} {kk : Nat} (hk : kkDesc kk d = true) {x : D} (hx : keyOk kk x = true) {v : Value} (r : Rep k v x) :
    ∀ (es : List MapEntry) (ks : List D) (i : Nat) (res : Option Nat), RepDs k (es.map (·.key)) ks → idx x ks i = some res →
      ∃ res', Instr.findNow d v es i = some res' ∧ (res = none → res' = none) ∧ (∀ j, res = some j → i ≤ j ∧ ∃ e, es[j - i]? = some e ∧ res' = some (j, e.val) ∧ ∃ z, ks[j - i]? = some z ∧ keyEq x z = some true) := by
  intro es
  induction es with
  | nil =>
    intro ks i res hr hi
    have : ks = [] := by have := hr.1; simp at this; exact List.eq_nil_of_length_eq_zero this.symm
    subst this
    simp [idx] at hi; subst hi
    exact ⟨none, rfl, fun _ => rfl, (fun j hj => by cases hj)⟩
  | cons e es ih =>
    intro ks i res hr hi
    cases ks with
    | nil => have := hr.1; simp at this
    | cons z ks =>
      have hz : Rep k e.key z := hr.2 0 _ _ rfl rfl
      have hr' : RepDs k (es.map (·.key)) ks := ⟨by have := hr.1; simpa using this, fun j v x hv hx => hr.2 (j + 1) v x (by simpa using hv) (by simpa using hx)⟩
      simp only [idx] at hi
      split at hi
      · rename_i hke
        injection hi with hi; subst hi
        have hs := sameNow_keyEq hk hx r hz hke
        refine ⟨some (i, e.val), by simp [Instr.findNow, hs], (fun h => by cases h), fun j hj => ?_⟩
        injection hj with hj; subst hj
        exact ⟨Nat.le_refl _, e, by simp, rfl, z, by simp, hke⟩
      · rename_i hke
        have hs := sameNow_keyEq hk hx r hz hke
        obtain ⟨res', h1, h2, h3⟩ := ih ks (i + 1) res hr' hi
        refine ⟨res', by simp [Instr.findNow, hs, h1], h2, fun j hj => ?_⟩
        obtain ⟨q1, e', q2, q3, z', q4, q5⟩ := h3 j hj
        refine ⟨by omega, e', ?_, q3, z', ?_, q5⟩
        · rw [show j - i = (j - (i + 1)) + 1 by omega]; simpa using q2
        · rw [show j - i = (j - (i + 1)) + 1 by omega]; simpa using q4
      · cases hi

theorem run_findKey' {key : TypeId} {d : TypeDesc} {v : Value} {es : List MapEntry} {r : Option (Nat × Value)} (hd : P.underlying key = some d) (h : Instr.findNow d v es 0 = some r) : (Instr.findKey key v es).run P w = .ok r w := by
  simp [Instr.findKey, run_underlying' hd, h]

theorem run_lookup_core {t key e : TypeId} {d : TypeDesc} {kk : Nat} {zv : Value} {ti : TypeInfo} (ht : P.underlying t = some (.map key e)) (hd : P.underlying key = some d) (hkd : kkDesc kk d = true) (hti : P.info? e = some ti) (hz : ti.zero = some zv)
    {es : Array MapEntry} {mv : Value} (hget : mv = .map none ∧ es = #[] ∨ ∃ b c, mv = .map (some b) ∧ w.heap[b]? = some (.map es c)) {xv : Value} {res : Option (Nat × Value)} (hf : Instr.findNow d xv es.toList 0 = some res) (ok : Bool) :
    (Instr.lookup t mv xv ok).run P w = .ok (match res with
      | some (_, u) => if ok then .tuple #[u, .bool true] else u
      | none => if ok then .tuple #[zv, .bool false] else zv) w := by
  rcases hget with ⟨rfl, rfl⟩ | ⟨b, c, rfl, hh⟩
  · have hf' := run_findKey' (w := w) hd hf
    cases res with
    | none => cases ok <;> simp [Instr.lookup, run_underlying' ht, run_checkKey' hd hkd, hf', run_zeroValue' hti hz]
    | some q => cases ok <;> simp [Instr.lookup, run_underlying' ht, run_checkKey' hd hkd, hf']
  · have hg : (getObj b).run P w = .ok (.map es c) w := by simp [getObj, Sem.run, hh]
    have hf' := run_findKey' (w := w) hd hf
    cases res with
    | none => cases ok <;> simp [Instr.lookup, run_underlying' ht, run_checkKey' hd hkd, hf', run_zeroValue' hti hz, hg]
    | some q => cases ok <;> simp [Instr.lookup, run_underlying' ht, run_checkKey' hd hkd, hf', hg]
/-- a lookup in what reads as a map -/
theorem run_lookup' {t key e : TypeId} {kk : Nat} {zero : D} {zv : Value} {ti : TypeInfo} (hm : mapTy P t kk = some (key, e)) (hti : P.info? e = some ti) (hz : ti.zero = some zv) (hzr : Rep k zv zero)
    {es : Array MapEntry} {mv : Value} (hget : mv = .map none ∧ es = #[] ∨ ∃ b c, mv = .map (some b) ∧ w.heap[b]? = some (.map es c)) {x : D} {xv : Value} (hx : keyOk kk x = true) (hxr : Rep k xv x) {n : Nat → Prop} {ks : List D} {vs : List V}
    (hks : RepDs k (es.toList.map (·.key)) ks) (hvs : RepVs k μ n (es.toList.map (·.val)) vs) (ok : Bool)
    (hv : giveV zero ok x ks vs = some v) : ∃ u, (Instr.lookup t mv xv ok).run P w = .ok u w ∧ RepV k μ n u v := by
  obtain ⟨ht, d, hd, hkd⟩ := mapTy_spec hm
  have tup2 : ∀ (u : Value) (v : V) (b : Bool), RepV k μ n u v → RepV k μ n (.tuple #[u, .bool b]) (mkTuple [v, .d (.bool b)]) := fun u v b hr =>
    repV_mkTuple (by simpa using RepVs.cons hr (RepVs.cons (.d _ _ (.bool b)) RepVs.nil))
  unfold giveV at hv
  split at hv
  · rename_i i hi
    obtain ⟨res', h1, h2, h3⟩ := findNow_idx hkd hx hxr es.toList ks 0 _ hks hi
    obtain ⟨q1, en, q2, q3, _⟩ := h3 i rfl
    subst q3
    split at hv
    · rename_i vv hvv
      injection hv with hv; subst hv
      obtain ⟨uu, hu1, hu2⟩ := hvs.get hvv
      have huu : uu = en.val := by
        simp only [List.getElem?_map, Option.map_eq_some_iff] at hu1
        obtain ⟨en', he, rfl⟩ := hu1
        simp at q2
        simp at he
        rw [he] at q2; injection q2 with q2; rw [q2]
      subst huu
      cases ok with
      | true =>
        refine ⟨.tuple #[en.val, .bool true], ?_, tup2 _ _ _ hu2⟩
        rw [run_lookup_core ht hd hkd hti hz hget h1]; rfl
      | false =>
        refine ⟨en.val, ?_, hu2⟩
        rw [run_lookup_core ht hd hkd hti hz hget h1]; rfl
    · cases hv
  · rename_i hi
    injection hv with hv; subst hv
    obtain ⟨res', h1, h2, h3⟩ := findNow_idx hkd hx hxr es.toList ks 0 _ hks hi
    have h2' := h2 rfl
    subst h2'
    cases ok with
    | true =>
      refine ⟨.tuple #[zv, .bool false], ?_, ?_⟩
      · rw [run_lookup_core ht hd hkd hti hz hget h1]; rfl
      · exact tup2 _ (.d zero) false (.d _ _ hzr)
    | false =>
      refine ⟨zv, ?_, .d _ _ hzr⟩
      rw [run_lookup_core ht hd hkd hti hz hget h1]; rfl
  · cases hv

def z1Ok (P : Program) (t : TypeId) (z : D) : Bool := match P.info? t with
  | some i => match i.zero with
    | some v => constOk 50 v z
    | none => false
  | none => false
theorem z1Ok_spec {t : TypeId} {z : D} (hz : z1Ok P t z = true) : ∃ i v, P.info? t = some i ∧ i.zero = some v ∧ ∀ k : K, Rep k v z := by
  unfold z1Ok at hz
  split at hz
  · rename_i i hi
    split at hz
    · rename_i v hv; exact ⟨i, v, hi, hv, fun k => constOk_rep hz⟩
    · cases hz
  · cases hz

theorem repDs_of_map {es : Array MapEntry} {ks : List D} {us : Nat → Value} {f : MapEntry → Value} (s : es.size = ks.length) (g : ∀ j d, ks[j]? = some d → (es[j]?).map f = some (us j)) (hh : ∀ j d, ks[j]? = some d → Rep k (us j) d) : RepDs k (es.toList.map f) ks := by
  refine ⟨by simpa using s, fun j v x hv hx => ?_⟩
  have h1 := g j x hx
  rw [List.getElem?_map, Array.getElem?_toList, h1] at hv
  injection hv with hv; subst hv
  exact hh j x hx

theorem s_lookup (r : Rel G N w k μ hb ρ h a) (hd : ∀ d, o.dst = some d → d < N) {t key e : TypeId} {kk : Nat} {zero : D} {m x : Operand} {m' x' : Opnd} {ok : Bool} (ho : o.op = .lookup t m x ok) (hc : chkOpnd m m' = true) (hc' : chkOpnd x x' = true) (hm : mapTy P t kk = some (key, e)) (hz : z1Ok P e zero = true)
    (hs : opSem C ρ h (.lookup kk zero m' x' ok) = some y) : o.wp P a w (Nx G N (putρ (slotρ ρ y.slot) o.dst y.val) y.heap) Q := by
  obtain ⟨mv, xd, v, e1, e2, hl, hy⟩ : ∃ mv xd v, opv ρ m' = some mv ∧ opv ρ x' = some (.d xd) ∧ lookupV kk h zero mv xd ok = some v ∧ y.val = v ∧ y.heap = h ∧ y.slot = none := by
    simp only [opSem] at hs
    split at hs
    · rename_i i xd e1 e2; obtain ⟨v, hv, rfl⟩ := did_eq hs; exact ⟨_, xd, v, e1, e2, hv, rfl, rfl, rfl⟩
    · rename_i mv xd _ e1 e2; obtain ⟨v, hv, rfl⟩ := did_eq hs; exact ⟨_, xd, v, e1, e2, hv, rfl, rfl, rfl⟩
    · cases hs
  obtain ⟨y1, y2, y3⟩ := hy
  rw [y1, y2, y3]
  obtain ⟨ti, zv, hti, hzv, hzr⟩ := z1Ok_spec hz
  have r1 := opv_rep r hc e1
  have r2 := (opv_rep r hc' e2).d_inv
  have fin : ∀ {es : Array MapEntry} {ks : List D} {vs : List V}, (a.eval m = .map none ∧ es = #[] ∨ ∃ b c, a.eval m = .map (some b) ∧ w.heap[b]? = some (.map es c)) → keyOk kk xd = true → RepDs k (es.toList.map (·.key)) ks → RepVs k μ h.has (es.toList.map (·.val)) vs →
      giveV zero ok xd ks vs = some v → o.wp P a w (Nx G N (putρ (slotρ ρ none) o.dst v) h) Q := fun hget hko hks hvs hv => by
    obtain ⟨u, hu1, hu2⟩ := run_lookup' (P := P) hm hti hzv (hzr k) hget hko r2 hks hvs ok hv
    exact wp_same r hd (u := u) (by simp [execOp, ho, hu1]) hu2
  unfold lookupV at hl
  split at hl
  · rename_i hko
    generalize hev : a.eval m = u at r1
    cases r1 with
    | d u d hr =>
    cases hr
    exact fin (es := #[]) (.inl ⟨hev, rfl⟩) hko ⟨rfl, fun j v x hv => by simp at hv⟩ RepVs.nil hl
  · rename_i ks vs hko
    generalize hev : a.eval m = u at r1
    cases r1 with
    | d u d hr =>
    cases hr with
    | mapd mm es ks vs us us' hmm s1 s2 g1 h1 g2 h2 =>
    obtain ⟨c, hcc, _⟩ := r.inv.agree.2.1 _ _ hmm
    exact fin (.inr ⟨mm, c, hev, hcc⟩) hko (repDs_of_map s1 g1 h1) (repVs_d.2 (repDs_of_map (s1.trans s2.symm) g2 h2)) hl
  · rename_i i hko
    generalize hev : a.eval m = u at r1
    cases r1 with
    | mapr i hi =>
    have hobj := r.inv.obj i
    split at hl
    · rename_i ks vs hg
      rw [hg] at hobj
      obtain ⟨es, h1, h2, h3, h4, h5⟩ := hobj
      exact fin (.inr ⟨_, _, hev, h1⟩) hko h4 h5 hl
    · rename_i ks vs hg
      rw [hg] at hobj
      obtain ⟨es, h1, h4, h5⟩ := hobj
      obtain ⟨c, hcc, _⟩ := r.inv.agree.2.1 _ _ h1
      exact fin (.inr ⟨_, _, hev, hcc⟩) hko h4 (repVs_d.2 h5) hl
    · cases hl
  · cases hl

/-! maps written -/
def World.setMap (w : World) (b : Nat) (es : Array MapEntry) : World := { w with heap := w.heap.setIfInBounds b (.map es es.size) }
theorem write_map {B : Nat} (hi : Inv B w k μ h) {i : Nat} {ks ks' : List D} {vs vs' : List V} (hg : h.get i = .map ks vs) {es' : Array MapEntry} (hm : MapOk k μ h.has es' ks' vs') :
    Inv B (World.setMap w (μ i).blk es') k μ (h.set i (.map ks' vs')) ∧ Ext w k μ h (World.setMap w (μ i).blk es') k μ (h.set i (.map ks' vs')) := by
  have ho := hi.obj i
  rw [hg] at ho
  obtain ⟨es, h1, h2, h3⟩ := ho
  have hlv : live (h.get i) = true := by rw [hg]; rfl
  have hlt : (μ i).blk < w.heap.size := hi.live_lt hlv
  have hne : ∀ b, b ≠ (μ i).blk → (World.setMap w (μ i).blk es').heap[b]? = w.heap[b]? := fun b hb => by
    simp [World.setMap, Array.getElem?_setIfInBounds_ne (Ne.symm hb)]
  have hsame : (World.setMap w (μ i).blk es').heap[(μ i).blk]? = some (.map es' es'.size) := by
    simp [World.setMap, hlt]
  have hsz : (World.setMap w (μ i).blk es').heap.size = w.heap.size := by simp [World.setMap]
  have ha : Agree k (World.setMap w (μ i).blk es') := by
    refine ⟨fun b j u hu => ?_, fun b es hmm => ?_, fun b j u hu => ?_⟩
    · by_cases eb : b = (μ i).blk
      · subst eb
        have hold := hi.agree.1 _ _ _ hu
        simp [World.cell?, h1] at hold
      · rw [cell_of_heap (hne b eb)]; exact hi.agree.1 _ _ _ hu
    · by_cases eb : b = (μ i).blk
      · subst eb; rw [h2] at hmm; cases hmm
      · rw [hne b eb]; exact hi.agree.2.1 _ _ hmm
    · by_cases eb : b = (μ i).blk
      · subst eb
        have hold := hi.agree.1 _ _ _ hu
        simp [World.cell?, h1] at hold
      · rw [hne b eb]; exact hi.agree.2.2 _ _ _ hu
  exact ⟨hi.write hlv hne hsz ha ⟨es', hsame, h2, hm⟩, Ext.write hlv hne hsz rfl rfl rfl⟩

theorem run_getObj' {b c : Nat} {es : Array MapEntry} (h : w.heap[b]? = some (.map es c)) : (getObj b).run P w = .ok (.map es c) w := by simp [getObj, Sem.run, h]
theorem run_setObj' {b c c' : Nat} {es es' : Array MapEntry} (h : w.heap[b]? = some (.map es c)) (hc : c' = es'.size) : (setObj b (.map es' c')).run P w = .ok () (World.setMap w b es') := by
  subst hc; simp [setObj, Sem.run, h, World.setMap]

theorem sameBits_key {x z : D} {v v' : Value} (r : Rep k v x) (r' : Rep k v' z) (he : keyEq x z = some true) (n : Nat) : Instr.sameBits n v' v = true := by
  unfold keyEq at he
  split at he
  · split at he
    · rename_i i a j b hij
      injection he with he
      cases r; cases r'
      simp at he; subst he; subst hij
      cases n <;> simp [Instr.sameBits]
    · cases he
  · injection he with he
    cases r; cases r'
    rename_i s s'
    have : (s' == s) = true := by
      rw [beq_toListBytes] at he ⊢
      rw [beq_iff_eq] at he ⊢
      exact he.symm
    cases n <;> simp [Instr.sameBits, this]
  · injection he with he
    cases r; cases r'
    simp at he; subst he
    cases n <;> simp [Instr.sameBits]
  · cases he
theorem run_keyThatStays' {x z : D} {v v' : Value} (r : Rep k v x) (r' : Rep k v' z) (he : keyEq x z = some true) : (Instr.keyThatStays v' v).run P w = .ok v w := by
  simp [Instr.keyThatStays, sameBits_key r r' he]

theorem mapOk_modify {n : Nat → Prop} {es : Array MapEntry} {ks : List D} {vs : List V} (hm : MapOk k μ n es ks vs) (j : Nat) (f : MapEntry → MapEntry) (hf : ∀ e, (f e).born = e.born) {x : D} {v : V}
    (hk : ∀ e, es[j]? = some e → Rep k (f e).key x) (hv : ∀ e, es[j]? = some e → RepV k μ n (f e).val v) : MapOk k μ n (es.modify j f) (ks.set j x) (vs.set j v) := by
  obtain ⟨h1, h2, h3⟩ := hm
  have hget : ∀ i e', (es.modify j f)[i]? = some e' → ∃ e, es[i]? = some e ∧ e' = if j = i then f e else e := fun i e' he => by
    rw [Array.getElem?_modify] at he
    split at he
    · rename_i hij
      simp only [Option.map_eq_some_iff] at he
      obtain ⟨e, he1, rfl⟩ := he
      exact ⟨e, he1, by simp [hij]⟩
    · rename_i hij; exact ⟨e', he, by simp [hij]⟩
  refine ⟨fun i e' he => ?_, ⟨?_, fun i v' x' hv' hx' => ?_⟩, ⟨?_, fun i v' x' hv' hx' => ?_⟩⟩
  · obtain ⟨e, he1, rfl⟩ := hget i e' he
    split
    · rw [hf]; exact h1 i e he1
    · exact h1 i e he1
  · have := h2.1; simp at this; simp [this]
  · simp only [List.getElem?_map, Array.getElem?_toList, Option.map_eq_some_iff] at hv'
    obtain ⟨e', he', rfl⟩ := hv'
    obtain ⟨e, he1, rfl⟩ := hget i e' he'
    rw [List.getElem?_set] at hx'
    split
    · rename_i hij
      subst hij
      rw [if_pos rfl] at hx'
      split at hx'
      · injection hx' with hx'; subst hx'; exact hk e he1
      · cases hx'
    · rename_i hij
      rw [if_neg hij] at hx'
      exact h2.2 i e.key x' (by simp [he1]) hx'
  · have := h3.1; simp at this; simp [this]
  · simp only [List.getElem?_map, Array.getElem?_toList, Option.map_eq_some_iff] at hv'
    obtain ⟨e', he', rfl⟩ := hv'
    obtain ⟨e, he1, rfl⟩ := hget i e' he'
    rw [List.getElem?_set] at hx'
    split
    · rename_i hij
      subst hij
      rw [if_pos rfl] at hx'
      split at hx'
      · injection hx' with hx'; subst hx'; exact hv e he1
      · cases hx'
    · rename_i hij
      rw [if_neg hij] at hx'
      exact h3.2 i e.val x' (by simp [he1]) hx'
theorem mapOk_push {n : Nat → Prop} {es : Array MapEntry} {ks : List D} {vs : List V} (hm : MapOk k μ n es ks vs) {xv vv : Value} {x : D} {v : V} (hx : Rep k xv x) (hv : RepV k μ n vv v) :
    MapOk k μ n (es.push { key := xv, val := vv, born := es.size }) (ks ++ [x]) (vs ++ [v]) := by
  obtain ⟨h1, h2, h3⟩ := hm
  refine ⟨fun i e' he => ?_, ?_, ?_⟩
  · rw [Array.getElem?_push] at he
    split at he
    · rename_i hi; injection he with he; subst he; exact hi.symm
    · exact h1 i e' he
  · rw [Array.toList_push, List.map_append]
    have := (repVs_d (k := k) (μ := μ) (n := n)).2 h2
    have h5 := this.append (RepVs.cons (RepV.d (k := k) (μ := μ) (n := n) _ _ hx) RepVs.nil)
    have h6 : RepVs k μ n (es.toList.map (·.key) ++ [xv]) ((ks ++ [x]).map V.d) := by simpa using h5
    simpa using repVs_d.1 h6
  · rw [Array.toList_push, List.map_append]
    simpa using h3.append (RepVs.cons hv RepVs.nil)
theorem mapOk_len {n : Nat → Prop} {es : Array MapEntry} {ks : List D} {vs : List V} (hm : MapOk k μ n es ks vs) : es.size = ks.length ∧ es.size = vs.length := by
  have h1 := hm.2.1.1; have h2 := hm.2.2.1; simp at h1 h2; exact ⟨h1, h2⟩

theorem s_mapUp (r : Rel G N w k μ hb ρ h a) (hd : ∀ d, o.dst = some d → d < N) {t key e : TypeId} {kk : Nat} {m x z : Operand} {m' x' z' : Opnd} (ho : o.op = .mapUpdate t m x z ∨ o.op = .insert t m x z) (hc : chkOpnd m m' = true) (hc' : chkOpnd x x' = true) (hc2 : chkOpnd z z' = true) (hm : mapTy P t kk = some (key, e))
    (hs : opSem C ρ h (.mapUp kk m' x' z') = some y) : o.wp P a w (Nx G N (putρ (slotρ ρ y.slot) o.dst y.val) y.heap) Q := by
  obtain ⟨ht, d, hdd, hkd⟩ := mapTy_spec hm
  simp only [opSem] at hs
  split at hs
  · rename_i i xd v e1 e2 e3
    split at hs
    · rename_i ks vs hg
      split at hs
      · rename_i hko
        have r1 := opv_rep r hc e1
        have r2 := (opv_rep r hc' e2).d_inv
        have r3 := opv_rep r hc2 e3
        generalize hev : a.eval m = u at r1
        cases r1 with
        | mapr i hi =>
        have hobj := r.inv.obj i
        rw [hg] at hobj
        obtain ⟨es, h1, h2, hmo⟩ := hobj
        have hx : execOp a.eval o = (do Instr.mapUpdate t (a.eval m) (a.eval x) (a.eval z); pure .skip : Sem Next) := by rcases ho with ho | ho <;> simp [execOp, ho]
        split at hs
        · rename_i j hj
          injection hs with hs; subst hs
          obtain ⟨res', f1, f2, f3⟩ := findNow_idx hkd hko r2 es.toList ks 0 _ hmo.2.1 hj
          obtain ⟨q1, en, q2, q3, zz, q4, q5⟩ := f3 j rfl
          subst q3
          simp only [Nat.sub_zero] at q2 q4
          rw [Array.getElem?_toList] at q2
          have rz : Rep k en.key zz := hmo.2.1.2 j _ _ (by simp [q2]) q4
          have hmo' := mapOk_modify hmo j (fun e => { e with key := a.eval x, val := a.eval z }) (fun _ => rfl) (x := xd) (v := v) (fun _ _ => r2) (fun _ _ => r3)
          obtain ⟨g1, g2⟩ := write_map r.inv hg hmo'
          refine wp_skip r hd ?_ g1 g2
          have hfk := run_findKey' (P := P) (w := w) hdd f1
          have hst := run_setObj' (P := P) (c' := es.size) (es' := es.modify j fun e => { e with key := a.eval x, val := a.eval z }) h1 (by simp)
          simp only [hx, hev, Instr.mapUpdate, Sem.run_bind, run_underlying' ht, Result.andThen_ok, run_getObj' h1, run_checkKey' hdd hkd, hfk, q2, Option.map_some, Option.getD_some, run_keyThatStays' r2 rz q5, hst, Sem.run_pure]
        · rename_i hj
          injection hs with hs; subst hs
          obtain ⟨res', f1, f2, f3⟩ := findNow_idx hkd hko r2 es.toList ks 0 _ hmo.2.1 hj
          have f2' := f2 rfl
          subst f2'
          have hmo' := mapOk_push hmo r2 r3
          obtain ⟨g1, g2⟩ := write_map r.inv hg hmo'
          refine wp_skip r hd ?_ g1 g2
          have hfk := run_findKey' (P := P) (w := w) hdd f1
          have hst := run_setObj' (P := P) (c' := es.size + 1) (es' := es.push { key := a.eval x, val := a.eval z, born := es.size }) h1 (by simp)
          simp only [hx, hev, Instr.mapUpdate, Sem.run_bind, run_underlying' ht, Result.andThen_ok, run_getObj' h1, run_checkKey' hdd hkd, hfk, hst, Sem.run_pure]
        · cases hs
      · cases hs
    · cases hs
  · cases hs

theorem s_mapEnt (r : Rel G N w k μ hb ρ h a) (hd : ∀ d, o.dst = some d → d < N) {t key e : TypeId} {kk : Nat} {zero : D} {m x : Operand} {m' x' : Opnd} (ho : o.op = .mapEntry t m x) (hc : chkOpnd m m' = true) (hc' : chkOpnd x x' = true) (hm : mapTy P t kk = some (key, e)) (hz : z1Ok P e zero = true)
    (hs : opSem C ρ h (.mapEnt kk zero m' x') = some y) : o.wp P a w (Nx G N (putρ (slotρ ρ y.slot) o.dst y.val) y.heap) Q := by
  obtain ⟨ht, d, hdd, hkd⟩ := mapTy_spec hm
  obtain ⟨ti, zv, hti, hzv, hzr⟩ := z1Ok_spec hz
  simp only [opSem] at hs
  split at hs
  · rename_i i xd e1 e2
    split at hs
    · rename_i ks vs hg
      split at hs
      · rename_i hko
        have r1 := opv_rep r hc e1
        have r2 := (opv_rep r hc' e2).d_inv
        generalize hev : a.eval m = u at r1
        cases r1 with
        | mapr i hi =>
        have hobj := r.inv.obj i
        rw [hg] at hobj
        obtain ⟨es, h1, h2, hmo⟩ := hobj
        have hx : execOp a.eval o = (do pure (.value (← Instr.mapEntry t (a.eval m) (a.eval x))) : Sem Next) := by simp [execOp, ho]
        split at hs
        · rename_i j hj
          split at hs
          · rename_i v hvv
            injection hs with hs; subst hs
            obtain ⟨res', f1, f2, f3⟩ := findNow_idx hkd hko r2 es.toList ks 0 _ hmo.2.1 hj
            obtain ⟨q1, en, q2, q3, zz, q4, q5⟩ := f3 j rfl
            subst q3
            simp only [Nat.sub_zero] at q2 q4
            rw [Array.getElem?_toList] at q2
            have rz : Rep k en.key zz := hmo.2.1.2 j _ _ (by simp [q2]) q4
            have rv : RepV k μ h.has en.val v := hmo.2.2.2 j _ _ (by simp [q2]) hvv
            have hmo' := mapOk_modify hmo j (fun e => { e with key := a.eval x }) (fun _ => rfl) (x := xd) (v := v) (fun _ _ => r2) (fun e he => by rw [q2] at he; injection he with he; subst he; exact rv)
            have hset : vs.set j v = vs := by
              apply List.ext_getElem?
              intro q
              rw [List.getElem?_set]
              split
              · rename_i hq; subst hq
                split
                · exact hvv.symm
                · rename_i hlt; rw [List.getElem?_eq_none (by omega)]
              · rfl
            rw [hset] at hmo'
            obtain ⟨g1, g2⟩ := write_map r.inv hg hmo'
            have hfk := run_findKey' (P := P) (w := w) hdd f1
            have hst := run_setObj' (P := P) (c' := es.size) (es' := es.modify j fun e => { e with key := a.eval x }) h1 (by simp)
            have hborn := hmo.1 j en q2
            have htup : RepVs k μ h.has [en.val, .int .i64 (j : Int)] [v, .d (.int .i64 j)] := RepVs.cons rv (RepVs.cons (.d _ _ (.int _ _)) RepVs.nil)
            refine wp_step r hd (u := .tuple #[en.val, .int .i64 j]) ?_ g1 g2 (repV_mkTuple (vs := #[en.val, .int .i64 j]) htup.hset)
            simp only [hx, hev, Instr.mapEntry, Sem.run_bind, run_underlying' ht, Result.andThen_ok, run_getObj' h1, run_checkKey' hdd hkd, hfk, q2, Option.map_some, Option.getD_some, run_keyThatStays' r2 rz q5, hst, Sem.run_pure, hborn, goInt]
          · cases hs
        · rename_i hj
          injection hs with hs; subst hs
          obtain ⟨res', f1, f2, f3⟩ := findNow_idx hkd hko r2 es.toList ks 0 _ hmo.2.1 hj
          have f2' := f2 rfl
          subst f2'
          have hmo' := mapOk_push hmo r2 (RepV.d (k := k) (μ := μ) (n := h.has) _ _ (hzr k))
          obtain ⟨g1, g2⟩ := write_map r.inv hg hmo'
          have hfk := run_findKey' (P := P) (w := w) hdd f1
          have hst := run_setObj' (P := P) (c' := es.size + 1) (es' := es.push { key := a.eval x, val := zv, born := es.size }) h1 (by simp)
          refine wp_step r hd (u := .tuple #[zv, .int .i64 es.size]) ?_ g1 g2 ?_
          · simp only [hx, hev, Instr.mapEntry, Sem.run_bind, run_underlying' ht, Result.andThen_ok, run_getObj' h1, run_checkKey' hdd hkd, hfk, hst, Sem.run_pure, run_zeroValue' hti hzv, goInt]
          · rw [(mapOk_len hmo).1]
            refine .d _ _ (.tuple' ⟨rfl, fun j v x hv hx => ?_⟩)
            match j with
            | 0 => simp at hv hx; subst hv; subst hx; exact hzr k
            | 1 => simp at hv hx; subst hv; subst hx; exact .int _ _
            | j + 2 => simp at hx
        · cases hs
      · cases hs
    · cases hs
  · cases hs

theorem s_entSt (r : Rel G N w k μ hb ρ h a) (hd : ∀ d, o.dst = some d → d < N) {t : TypeId} {m x z : Operand} {m' x' z' : Opnd} (ho : o.op = .entryStore t m x z) (hc : chkOpnd m m' = true) (hc' : chkOpnd x x' = true) (hc2 : chkOpnd z z' = true)
    (hs : opSem C ρ h (.entSt m' x' z') = some y) : o.wp P a w (Nx G N (putρ (slotρ ρ y.slot) o.dst y.val) y.heap) Q := by
  simp only [opSem] at hs
  split at hs
  · rename_i i q jj v e1 e2 e3
    split at hs
    · rename_i ks vs hg
      split at hs
      · rename_i hlt
        injection hs with hs; subst hs
        have r1 := opv_rep r hc e1
        have r2 := int_inv (opv_rep r hc' e2)
        have r3 := opv_rep r hc2 e3
        generalize hev : a.eval m = u at r1
        cases r1 with
        | mapr i hi =>
        have hobj := r.inv.obj i
        rw [hg] at hobj
        obtain ⟨es, h1, h2, hmo⟩ := hobj
        obtain ⟨l1, l2⟩ := mapOk_len hmo
        obtain ⟨j, rfl⟩ : ∃ j : Nat, jj = j := ⟨jj.toNat, by omega⟩
        have hj : j < es.size := by omega
        have hidx : es.findIdx? (fun e => (e.born : Int) == (j : Int)) = some j := by
          rw [Array.findIdx?_eq_some_iff_getElem]
          refine ⟨hj, ?_, fun q hq => ?_⟩
          · have := hmo.1 j es[j] (by simp [hj]); simp [this]
          · have := hmo.1 q es[q] (by simp [Nat.lt_trans hq hj]); simp [this]; omega
        have hmo' := mapOk_modify hmo j (fun e => { e with val := a.eval z }) (fun _ => rfl) (x := ks[j]) (v := v) (fun e he => hmo.2.1.2 j _ _ (by simp [he]) (by simp [show j < ks.length by omega])) (fun _ _ => r3)
        have hset : ks.set j ks[j] = ks := by simp
        rw [hset] at hmo'
        obtain ⟨g1, g2⟩ := write_map r.inv hg hmo'
        refine wp_skip r hd ?_ g1 g2
        have hst := run_setObj' (P := P) (c' := es.size) (es' := es.modify j fun e => { e with val := a.eval z }) h1 (by simp)
        simp [execOp, ho, hev, Instr.entryStore, run_getObj' h1, r2, asInt, asIntOf, hidx, hst]
      · cases hs
    · cases hs
  · cases hs
end
end Go.Avm


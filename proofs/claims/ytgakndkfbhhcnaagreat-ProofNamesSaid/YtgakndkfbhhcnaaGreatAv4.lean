/- The abstract machine on data, part 4: its operations are sound over the model. -/
import Derived.Test.YtgakndkfbhhcnaaGreatAv3
set_option linter.unusedVariables false
set_option linter.unusedSimpArgs false
/- The abstract machine on data: its operations are the model's (eighth part: append and its like, variables that nobody else knows of, pairs of pointers). -/
namespace Go.Avm
open Go

section
variable {P : Program} {G : Start} {N : Nat} {w w' : World} {k k' : K} {μ μ' : Nat → Loc} {hb : Nat → Nat} {ρ : Nat → Option V} {h h' : H} {a : Act} {o : Oper} {Q : Exit → Act → World → Prop} {u : Value} {v : V} {C : Calls} {y : Did}

/-- the types of an append -/
def chkApp (P : Program) (ats : Array TypeId) (z bytes : Nat) (zr : Bool) : Bool := match ats[0]?, ats[1]? with
  | some t, some t1 => match sliceOf P t with
    | some e => (match P.underlying t1 with
        | some (.slice _) => !zr
        | some (.int .i64) => zr
        | _ => false) && (match P.info? e with
        | some i => i.size == z && i.bytes == bytes && decide (0 < z) && (match i.zero with | some zv => zv.cells.size == z | none => false)
        | none => false)
    | none => false
  | _, _ => false
theorem chkApp_spec {ats : Array TypeId} {z bytes : Nat} {zr : Bool} (hc : chkApp P ats z bytes zr = true) : ∃ t t1 e e1 i zv, AppTy P ats t t1 e e1 i zv z zr ∧ i.bytes = bytes ∧ sliceOf P t = some e := by
  unfold chkApp at hc
  split at hc
  · rename_i t t1 h0 h1
    split at hc
    · rename_i e he
      simp only [Bool.and_eq_true] at hc
      obtain ⟨hc1, hc2⟩ := hc
      split at hc2
      · rename_i i hi
        simp only [Bool.and_eq_true, beq_iff_eq, decide_eq_true_eq] at hc2
        obtain ⟨⟨⟨q1, q2⟩, q3⟩, q4⟩ := hc2
        split at q4
        · rename_i zv hz
          have q4' : zv.cells.size = z := by simpa using q4
          split at hc1
          · rename_i e1 hu
            have : zr = false := by simpa using hc1
            subst this
            exact ⟨t, t1, e, e1, i, zv, ⟨h0, h1, sliceOf_spec he, by simpa using hu, hi, hz, q1, q4', q3⟩, q2, he⟩
          · rename_i hu
            subst hc1
            exact ⟨t, t1, e, e, i, zv, ⟨h0, h1, sliceOf_spec he, by simpa using hu, hi, hz, q1, q4', q3⟩, q2, he⟩
          · cases hc1
        · cases q4
      · cases hc2
    · cases hc
  · cases hc

theorem exec_append {c : Call} {x z : Operand} {ou : Value} (ho : o.op = .call c) (h1 : c.callee = .builtin .append) (h2 : c.args = #[x, z]) (hr : (Builtin.append_ c.argTypes o.type #[a.eval x, a.eval z]).run P w = .ok ou w') : (execOp a.eval o).run P w = .ok (.value ou) w' := by
  simp [execOp, ho, resolve, h1, h2, invoke, builtin, hr]

theorem s_append (r : Rel G N w k μ hb ρ h a) (hd : ∀ d, o.dst = some d → d < N) {c : Call} {z bytes : Nat} {s x : Operand} {s' x' : Opnd} (ho : o.op = .call c) (h1 : c.callee = .builtin .append) (h2 : c.args = #[s, x]) (hc : chkOpnd s s' = true) (hc' : chkOpnd x x' = true) (ht : chkApp P c.argTypes z bytes false = true)
    (hs : opSem C ρ h (.append z bytes s' x') = some y) : o.wp P a w (Nx G N (putρ (slotρ ρ y.slot) o.dst y.val) y.heap) Q := by
  obtain ⟨t, t1, e, e1, i, zv, T, rfl, _⟩ := chkApp_spec ht
  simp only [opSem] at hs
  split at hs
  · rename_i sv xv q1 q2
    split at hs
    · rename_i v h' hap
      injection hs with hs; subst hs
      unfold appendV at hap
      split at hap
      · cases hap
      · rename_i m xs hel
        obtain ⟨news, g1, g2⟩ := elems_brings (P := P) r.inv (opv_rep r hc' q2) hel
        obtain ⟨u, w', μ', f1, f2, f3, f4⟩ := appendE_ok (ty := o.type) T r.inv (opv_rep r hc q1) (zr := false) g1 g2 hap
        exact wp_step r hd (exec_append ho h1 h2 f1) f2 f3 f4
    · cases hs
  · cases hs

theorem s_appendZ (r : Rel G N w k μ hb ρ h a) (hd : ∀ d, o.dst = some d → d < N) {c : Call} {z bytes : Nat} {zs : List D} {s x : Operand} {s' x' : Opnd} (ho : o.op = .call c) (h1 : c.callee = .builtin .append) (h2 : c.args = #[s, x]) (hc : chkOpnd s s' = true) (hc' : chkOpnd x x' = true) (ht : chkApp P c.argTypes z bytes true = true)
    (hz : ∀ t e, c.argTypes[0]? = some t → sliceOf P t = some e → zOk P e zs = true) (hs : opSem C ρ h (.appendZ z bytes zs s' x') = some y) : o.wp P a w (Nx G N (putρ (slotρ ρ y.slot) o.dst y.val) y.heap) Q := by
  obtain ⟨t, t1, e, e1, i, zv, T, rfl, he⟩ := chkApp_spec ht
  obtain ⟨i', zv', hi', hz', hzl, hzr⟩ := zOk_spec (hz t e T.a0 he)
  have e1' := T.hi; rw [hi'] at e1'; injection e1' with e1'; subst e1'
  have e2' := T.hz; rw [hz'] at e2'; injection e2' with e2'; subst e2'
  simp only [opSem] at hs
  split at hs
  · rename_i sv m q1 q2
    split at hs
    · rename_i hif
      obtain ⟨c1, c2, c3, c4⟩ := hif
      split at hs
      · rename_i v h' hap
        injection hs with hs; subst hs
        obtain ⟨m, rfl⟩ : ∃ m' : Nat, m = m' := ⟨m.toNat, by omega⟩
        have r2 := int_inv (opv_rep r hc' q2)
        simp only [Int.toNat_natCast] at hap
        have hlen : (Builtin.zeroCells zv'.cells m).toList.length = m * z := by simp [size_zeroCells, T.zc]
        have hnews : RepVs k μ h.has (Builtin.zeroCells zv'.cells m).toList (rep zs m) := by
          have := rep_zero (μ := μ) (hzr k) h.has m
          have e0 : ((Array.range (m * zv'.cells.toList.length)).map (zv'.cells.toList.toArray[· % zv'.cells.toList.toArray.size]!)).toList = (Builtin.zeroCells zv'.cells m).toList := by simp [Builtin.zeroCells]
          rwa [e0] at this
        have hb' : m * i'.bytes ≤ 140737488355328 := by
          have : ((m * i'.bytes : Nat) : Int) ≤ 140737488355328 := by rw [Int.natCast_mul]; exact c2
          omega
        obtain ⟨u, w', μ', f1, f2, f3, f4⟩ := appendE_ok (ty := o.type) T r.inv (opv_rep r hc q1) (zr := true) (x := a.eval x) ⟨hlen, r2, hb', by omega, rfl⟩ hnews hap
        exact wp_step r hd (exec_append ho h1 h2 f1) f2 f3 f4
      · cases hs
    · cases hs
  · cases hs

/-! variables that nobody else knows of -/
theorem s_hole (r : Rel G N w k μ hb ρ h a) {dd : Nat} (hdd : o.dst = some dd) (hd : dd < N) {t : TypeId} {zs : List D} (ho : o.op = .alloc t) (hz : zOk P t zs = true) (hs : opSem C ρ h (.hole zs) = some y) :
    o.wp P a w (Nx G N (putρ (slotρ ρ y.slot) o.dst y.val) y.heap) Q := by
  simp only [opSem] at hs
  injection hs with hs; subst hs
  obtain ⟨i, z, h1, h2, h3, h4⟩ := zOk_spec hz
  have hrun : (execOp a.eval o).run P w = .ok (.value (.pointer (some ⟨w.heap.size, 0, none⟩))) (w.alloc (.cells z.cells t)) := by
    simp [execOp, ho, Instr.alloc, run_zeroValue' h1 h2, run_newVar]
  have hi' := r.inv.grow (w' := w.alloc (.cells z.cells t)) (by rw [size_alloc]; omega) (fun b hb => heap_alloc_lt w _ hb) (r.inv.agree.same fun b hb => heap_alloc_lt w _ hb) (K.le_refl k) (fun _ _ _ h => .inl h) (fun _ _ h => .inl h)
  have hx' : Ext w k μ h (w.alloc (.cells z.cells t)) k μ h := Ext.grow (by rw [size_alloc]; omega) (fun b hb => heap_alloc_lt w _ hb) (K.le_refl k) rfl rfl rfl (fun _ _ _ h => .inl h) (fun _ _ h => .inl h)
  have r' := r.step hi' hx'
  unfold Oper.wp
  rw [hrun]
  show Nx G N (putρ ρ o.dst (.hole zs.length)) h (a.put o.dst (.pointer (some ⟨w.heap.size, 0, none⟩))) (w.alloc (.cells z.cells t))
  rw [hdd]
  have hlt : ∀ t' m, ρ t' = some (.hole m) → hb t' < w.heap.size := fun t' m hm => by
    obtain ⟨_, ⟨vs, e, g2, _⟩, _⟩ := r.hole t' m hm
    exact (Array.getElem?_eq_some_iff.1 g2).1
  refine ⟨k, μ, fun t' => if t' = dd then w.heap.size else hb t', r'.inv, ?_, by simp [Act.put, r.size], r.defers, ?_, ?_, r'.ext⟩
  · intro t' v hv hh
    simp only [putρ, updρ] at hv
    split at hv
    · injection hv with hv; exact absurd hv.symm (hh _)
    · rename_i e; rw [getD_put_ne (Ne.symm e)]; exact r'.env t' v hv hh
  · intro t' m hm
    simp only [putρ, updρ] at hm
    split at hm
    · rename_i e
      injection hm with hm; injection hm with hm; subst hm; subst e
      rw [getD_put_same (by rw [r.size]; exact hd)]
      simp only [if_true]
      refine ⟨trivial, ⟨z.cells, t, heap_alloc_same w _, h3⟩, r.inv.noF, fun i hl => ?_, r.inv.bot, r.ext.size⟩
      have := r.inv.live_lt hl; omega
    · rename_i e
      rw [getD_put_ne (Ne.symm e)]
      simp only [e, if_false]
      exact r'.hole t' m hm
  · intro t1 t2 m m' hne h1 h2
    simp only [putρ, updρ] at h1 h2
    by_cases c1 : t1 = dd
    · by_cases c2 : t2 = dd
      · exact absurd (c1.trans c2.symm) hne
      · rw [if_neg c2] at h2
        have := hlt t2 m' h2
        simp only [c1, c2, if_true, if_false]; omega
    · rw [if_neg c1] at h1
      by_cases c2 : t2 = dd
      · have := hlt t1 m h1
        simp only [c1, c2, if_true, if_false]; omega
      · rw [if_neg c2] at h2
        simp only [c1, c2, if_false]
        exact r.hsep t1 t2 m m' hne h1 h2

/-- the hole is forgotten, its block is taken over -/
theorem Rel.noHole (r : Rel G N w k μ hb ρ h a) (s : Nat) : Rel G N w k μ hb (fun t => if t = s then none else ρ t) h a :=
  r.less fun t v hv => by
    split at hv
    · cases hv
    · exact hv

theorem s_storeF (r : Rel G N w k μ hb ρ h a) {t : TypeId} {n s : Nat} {z : Operand} {z' : Opnd} (hne : o.dst = none) (ho : o.op = .store t (.tmp s) z) (hc : chkOpnd z z' = true) (hz : szOk P t n = true)
    (hs : opSem C ρ h (.storeF n s z') = some y) : o.wp P a w (Nx G N (putρ (slotρ ρ y.slot) o.dst y.val) y.heap) Q := by
  obtain ⟨ti, hti, htn⟩ := szOk_spec hz
  -- what both ways share: the store itself
  have core : ∀ m v, ρ s = some (.hole m) → m = n → opv ρ z' = some v → (cellsOf v).length = n → flats (cellsOf v) = true →
      ∃ e vs', (execOp a.eval o).run P w = .ok .skip (w.setCells (hb s) 0 (a.eval z).cells.toList) ∧ (w.setCells (hb s) 0 (a.eval z).cells.toList).heap[hb s]? = some (.cells vs' e) ∧ vs'.toList = (a.eval z).cells.toList ∧ RepVs k μ h.has (a.eval z).cells.toList (cellsOf v) := fun m v hm hmn hv hlen hfl => by
    obtain ⟨g1, ⟨vs, e, g2, g3⟩, g4, g5, g6, g7⟩ := r.hole s m hm
    have hvr := repV_cells (opv_rep r hc hv)
    have hsz : (a.eval z).cells.size = n := by have := hvr.1; simp at this; omega
    obtain ⟨vs', q1, q2⟩ := heap_setCells (a.eval z).cells.toList 0 w vs g2 (by simp; omega)
    have hst := run_storeRow (P := P) (us := (a.eval z).cells.toList) g2 (o := 0) (by simp; omega) (flats_one hvr hfl)
    refine ⟨e, vs', ?_, q1, ?_, hvr⟩
    · have hev : a.eval (.tmp s) = .pointer (some ⟨hb s, 0, none⟩) := g1
      simp [execOp, ho, Instr.storeAt, hev, Instr.sureAddr, storeVar, run_sizeOf' hti, hsz, htn, hst]
    · rw [q2]; simp; omega
  have pieces : ∀ m us, ρ s = some (.hole m) → (∀ b, b ≠ hb s → (w.setCells (hb s) 0 us).heap[b]? = w.heap[b]?) := fun m us _ b hb' => heap_setCells_ne hb' us 0 w
  simp only [opSem] at hs
  split at hs
  · rename_i m d hm hv
    split at hs
    · rename_i hif
      obtain ⟨c1, c2, c3⟩ := hif
      injection hs with hs; subst hs
      rw [dcells_eq] at c3
      obtain ⟨e, vs', f1, f2, f3, f4⟩ := core m (.d d) hm c1 hv (by rw [← dcells_eq]; simpa using c2) c3
      rw [← dcells_eq] at f4
      have hds := repVs_d.1 f4
      obtain ⟨g1, ⟨vs, e0, g2, g3⟩, g4, g5, g6, g7⟩ := r.hole s m hm
      obtain ⟨t1, t2, t3⟩ := streams_setCells (b := hb s) (a.eval z).cells.toList 0 w
      have hsz := size_setCells (b := hb s) (a.eval z).cells.toList 0 w
      have hne' := pieces m (a.eval z).cells.toList hm
      have hle : k.le (k.row (hb s) (a.eval z).cells.toList) := K.row_le g4
      have hF : ∀ b o u, (k.row (hb s) (a.eval z).cells.toList).F b o = some u → k.F b o = some u ∨ b = hb s := fun b o u hu => by
        by_cases eb : b = hb s
        · exact .inr eb
        · simp [K.row, eb] at hu; exact .inl hu
      have hM : ∀ es, k.M (hb s) ≠ some es := fun es he => by
        obtain ⟨c, hc, _⟩ := r.inv.agree.2.1 _ _ he
        rw [g2] at hc; cases hc
      have ha : Agree (k.row (hb s) (a.eval z).cells.toList) (w.setCells (hb s) 0 (a.eval z).cells.toList) := by
        refine ⟨fun b o u hu => ?_, fun b es hm' => ?_, fun b o u hu => ?_⟩
        · by_cases eb : b = hb s
          · subst eb
            rw [K.row_same] at hu
            rw [cell_heap f2, ← Array.getElem?_toList, f3]
            exact hu
          · simp [K.row, eb] at hu
            rw [cell_of_heap (hne' b eb)]; exact r.inv.agree.1 _ _ _ hu
        · have eb : b ≠ hb s := fun e => hM es (e ▸ hm')
          rw [hne' b eb]; exact r.inv.agree.2.1 _ _ hm'
        · by_cases eb : b = hb s
          · subst eb; exact ⟨_, _, f2⟩
          · simp [K.row, eb] at hu
            rw [hne' b eb]; exact r.inv.agree.2.2 _ _ _ hu
      have hinv : Inv G.B (w.setCells (hb s) 0 (a.eval z).cells.toList) (k.row (hb s) (a.eval z).cells.toList) μ h := by
        refine ⟨ha, r.inv.lt, r.inv.top, r.inv.fresh, r.inv.nt, fun i => ?_, r.inv.sep, r.inv.low, by rw [hsz]; exact r.inv.bot⟩
        refine (r.inv.obj i).mono hle (fun _ _ => rfl) (fun _ h => h) (r.inv.lt i) (fun hl => hne' _ (g5 i hl)) (fun hl o hn => ?_) (fun _ h => h)
        simp [K.row, g5 i hl, hn]
      unfold Oper.wp
      rw [f1]
      show Nx G N (putρ (updρ ρ s (.d (.ref (dcells d) 0))) o.dst (.d .undef)) h (a.put o.dst undef) _
      rw [hne]
      refine ⟨k.row (hb s) (a.eval z).cells.toList, μ, hb, hinv, ?_, r.size, r.defers, ?_, ?_, ?_⟩
      · intro t' v hv' hh
        simp only [putρ, updρ] at hv'
        split at hv'
        · rename_i e'; subst e'
          injection hv' with hv'; subst hv'
          show RepV _ _ _ (a.tmps.getD t' undef) _
          rw [g1]
          exact .d _ _ (rep_newRef (hds.mono hle) 0)
        · exact (r.env t' v hv' hh).mono hle (fun _ _ => rfl) (fun _ h => h)
      · intro t' m' hm'
        simp only [putρ, updρ] at hm'
        split at hm'
        · cases hm'
        · rename_i e'
          obtain ⟨q1, ⟨vs2, e2, q2, q3⟩, q4, q5, q6, q7⟩ := r.hole t' m' hm'
          have hbb : hb t' ≠ hb s := r.hsep t' s m' m e' hm' hm
          exact ⟨q1, ⟨vs2, e2, by rw [hne' _ hbb]; exact q2, q3⟩, fun o => by simp [K.row, hbb, q4 o], q5, q6, q7⟩
      · intro t1 t2 m1 m2 hne2 h1 h2
        simp only [putρ, updρ] at h1 h2
        split at h1
        · cases h1
        · split at h2
          · cases h2
          · exact r.hsep t1 t2 m1 m2 hne2 h1 h2
      · have x := r.ext
        refine ⟨K.le_trans x.kle hle, fun b o u hu => ?_, x.mnew, x.mu, x.nle, t1.trans x.os, t2.trans x.tape, t3.trans x.output, by rw [hsz]; exact x.size, fun b hlt hno => ?_, x.own⟩
        · rcases hF b o u hu with h1 | h1
          · exact x.fnew _ _ _ h1
          · subst h1; exact .inr (.inr g7)
        · rw [hne' b (by omega)]; exact x.frame b hlt hno
    · cases hs
  · rename_i m v hno hm hv
    split at hs
    · rename_i hif
      obtain ⟨c1, c2, c3⟩ := hif
      injection hs with hs; subst hs
      obtain ⟨e, vs', f1, f2, f3, f4⟩ := core m v hm c1 hv c2 c3
      obtain ⟨g1, ⟨vs, e0, g2, g3⟩, g4, g5, g6, g7⟩ := r.hole s m hm
      obtain ⟨t1, t2, t3⟩ := streams_setCells (b := hb s) (a.eval z).cells.toList 0 w
      have hsz := size_setCells (b := hb s) (a.eval z).cells.toList 0 w
      have hne' := pieces m (a.eval z).cells.toList hm
      have hM : k.M (hb s) = none := by
        cases hq : k.M (hb s) with
        | none => rfl
        | some es =>
          obtain ⟨c, hc, _⟩ := r.inv.agree.2.1 _ _ hq
          rw [g2] at hc; cases hc
      have ha : Agree k (w.setCells (hb s) 0 (a.eval z).cells.toList) := by
        refine ⟨fun b o u hu => ?_, fun b es hm' => ?_, fun b o u hu => ?_⟩
        · have eb : b ≠ hb s := fun e => by rw [e, g4 o] at hu; cases hu
          rw [cell_of_heap (hne' b eb)]; exact r.inv.agree.1 _ _ _ hu
        · have eb : b ≠ hb s := fun e => by rw [e, hM] at hm'; cases hm'
          rw [hne' b eb]; exact r.inv.agree.2.1 _ _ hm'
        · have eb : b ≠ hb s := fun e => by rw [e, g4 o] at hu; cases hu
          rw [hne' b eb]; exact r.inv.agree.2.2 _ _ _ hu
      have hvsz : vs'.size = (a.eval z).cells.size := by have := congrArg List.length f3; simpa using this
      have hcl : (cellsOf v).length = vs'.size := by rw [hvsz]; have := f4.1; simp at this; omega
      have hμ : ∀ i, h.has i → updμ μ h.next ⟨hb s, 0, vs'.size⟩ i = μ i := fun i hlt => updμ_ne _ _ (by rintro rfl; exact r.inv.fresh hlt)
      have hinv : Inv G.B (w.setCells (hb s) 0 (a.eval z).cells.toList) k (updμ μ h.next ⟨hb s, 0, vs'.size⟩) (h.new (.cells (cellsOf v))) := by
        refine ⟨ha, fun i hd' => H.has_get hd', r.inv.new_top _, r.inv.new_fresh _, Nat.le_refl _, ?_, ?_, ?_, by rw [hsz]; exact r.inv.bot⟩
        · intro i
          by_cases e' : i = h.next
          · subst e'
            rw [H.get_new_same]
            refine ⟨vs', e, by rw [updμ_same]; exact f2, by rw [updμ_same]; simp, by rw [updμ_same]; simp; omega, ?_, by rw [updμ_same]; exact fun o _ => g4 o⟩
            rw [updμ_same, f3]
            simp only [List.drop_zero]
            rw [List.take_of_length_le (by simp; omega)]
            exact f4.mono (K.le_refl k) hμ (fun _ h' => (H.has_new _ _ _).2 (.inr h'))
          · rw [H.get_new_ne h _ e']
            exact (r.inv.obj i).mono (K.le_refl k) hμ (fun _ h' => (H.has_new _ _ _).2 (.inr h')) (r.inv.lt i) (fun hl => hne' _ (g5 i hl)) (fun _ o h => h) (fun _ h => h)
        · intro i j hij h1 h2
          by_cases ei : i = h.next
          · subst ei
            have ej : j ≠ h.next := fun q => hij q.symm
            rw [H.get_new_ne h _ ej] at h2
            rw [updμ_same, updμ_ne _ _ ej]
            exact fun q => g5 j h2 q.symm
          · by_cases ej : j = h.next
            · subst ej
              rw [H.get_new_ne h _ ei] at h1
              rw [updμ_same, updμ_ne _ _ ei]
              exact g5 i h1
            · rw [H.get_new_ne h _ ei] at h1; rw [H.get_new_ne h _ ej] at h2
              rw [updμ_ne _ _ ei, updμ_ne _ _ ej]
              exact r.inv.sep i j hij h1 h2
        · intro i h1
          by_cases ei : i = h.next
          · subst ei; rw [updμ_same]; exact g6
          · rw [H.get_new_ne h _ ei] at h1; rw [updμ_ne _ _ ei]; exact r.inv.low i h1
      unfold Oper.wp
      rw [f1]
      show Nx G N (putρ (updρ ρ s (.ptr h.next 0)) o.dst (.d .undef)) (h.new (.cells (cellsOf v))) (a.put o.dst undef) _
      rw [hne]
      refine ⟨k, updμ μ h.next ⟨hb s, 0, vs'.size⟩, hb, hinv, ?_, r.size, r.defers, ?_, ?_, ?_⟩
      · intro t' v' hv' hh
        simp only [putρ, updρ] at hv'
        split at hv'
        · rename_i e'; subst e'
          injection hv' with hv'; subst hv'
          show RepV _ _ _ (a.tmps.getD t' undef) _
          rw [g1]
          exact ptr_new0
        · exact (r.env t' v' hv' hh).mono (K.le_refl k) hμ (fun _ h' => (H.has_new _ _ _).2 (.inr h'))
      · intro t' m' hm'
        simp only [putρ, updρ] at hm'
        split at hm'
        · cases hm'
        · rename_i e'
          obtain ⟨q1, ⟨vs2, e2, q2, q3⟩, q4, q5, q6, q7⟩ := r.hole t' m' hm'
          have hbb : hb t' ≠ hb s := r.hsep t' s m' m e' hm' hm
          refine ⟨q1, ⟨vs2, e2, by rw [hne' _ hbb]; exact q2, q3⟩, q4, fun i hl => ?_, q6, q7⟩
          by_cases ei : i = h.next
          · subst ei; rw [updμ_same]; exact hbb.symm
          · rw [H.get_new_ne h _ ei] at hl; rw [updμ_ne _ _ ei]; exact q5 i hl
      · intro t1 t2 m1 m2 hne2 h1 h2
        simp only [putρ, updρ] at h1 h2
        split at h1
        · cases h1
        · split at h2
          · cases h2
          · exact r.hsep t1 t2 m1 m2 hne2 h1 h2
      · have x := r.ext
        refine ⟨x.kle, x.fnew, x.mnew, fun i hi => by rw [hμ i (x.nle i hi)]; exact x.mu i hi, fun i hi => (H.has_new _ _ _).2 (.inr (x.nle i hi)), t1.trans x.os, t2.trans x.tape, t3.trans x.output, by rw [hsz]; exact x.size, fun b hlt hno => ?_, fun i hl => ?_⟩
        · rw [hne' b (by omega)]; exact x.frame b hlt hno
        · by_cases ei : i = h.next
          · subst ei; rw [updμ_same]; exact .inr g7
          · rw [H.get_new_ne h _ ei] at hl; rw [updμ_ne _ _ ei]; exact x.own i hl
    · cases hs
  · cases hs

/-! clear, cap -/
theorem s_clear (r : Rel G N w k μ hb ρ h a) (hd : ∀ d, o.dst = some d → d < N) {c : Call} {z : Nat} {zs : List D} {t e : TypeId} {x : Operand} {x' : Opnd} (ho : o.op = .call c) (h1 : c.callee = .builtin .clear) (h2 : c.args = #[x]) (h3 : c.argTypes[0]? = some t) (hc : chkOpnd x x' = true) (ht : sliceOf P t = some e) (hz : zOk P e zs = true)
    (hs : opSem C ρ h (.clear z zs x') = some y) : o.wp P a w (Nx G N (putρ (slotρ ρ y.slot) o.dst y.val) y.heap) Q := by
  have ht' := sliceOf_spec ht
  obtain ⟨i, zv, hi, hzz, hzl, hzr⟩ := zOk_spec hz
  have hx : ∀ u w', a.eval x = u → (Builtin.clear_ c.argTypes o.type #[u]).run P w = .ok (.tuple #[]) w' → (execOp a.eval o).run P w = .ok (.value (.tuple #[])) w' := fun u w' hu hh => by
    simp [execOp, ho, resolve, h1, h2, hu, invoke, builtin, hh]
  simp only [opSem] at hs
  split at hs
  · rename_i hv
    injection hs with hs; subst hs
    have r1 := opv_rep r hc hv
    generalize hev : a.eval x = u at r1
    cases r1 with
    | d _ _ hr =>
    cases hr
    exact wp_same r hd (hx _ w hev (by simp [Builtin.clear_, h3, run_underlying' ht'])) (.d _ _ .undef)
  · rename_i j off n z' cap hv
    split at hs
    · rename_i hif
      obtain ⟨rfl, hzz'⟩ := hif
      split at hs
      · rename_i cs hg
        split at hs
        · rename_i hif2
          injection hs with hs; subst hs
          have r1 := opv_rep r hc hv
          generalize hev : a.eval x = u at r1
          cases r1 with
          | arr j off n z' cap cc hin hn hcc hr hq p hp =>
          by_cases hn0 : n = 0
          · subst hn0
            have hg' := write_obj (P := P) r.inv hg (off := off) (us := []) (xs := []) RepVs.nil (by have := hif2.1; simp at this ⊢; omega) rfl
            have e0 : putAt cs (rep zs 0) off = putAt cs [] off := rfl
            rw [e0]
            have e1 : w.setCells (μ j).blk ((μ j).base + off) [] = w := rfl
            rw [e1] at hg'
            exact wp_step r hd (hx _ w hev (by simp [Builtin.clear_, h3, run_underlying' ht'])) hg'.2.1 hg'.2.2 (.d _ _ .undef)
          · obtain rfl := hp (by omega)
            have hrz := rep_zero (μ := μ) (hzr k) h.has n
            have e0 : ((Array.range (n * zv.cells.toList.length)).map (zv.cells.toList.toArray[· % zv.cells.toList.toArray.size]!)).toList = (Builtin.zeroCells zv.cells n).toList := by simp [Builtin.zeroCells]
            rw [e0] at hrz
            obtain ⟨g1, g2, g3⟩ := write_obj (P := P) r.inv hg (off := off) hrz (by rw [rep_length]; rw [hzz']; exact hif2.1) hif2.2
            refine wp_step r hd (hx _ _ hev ?_) g2 g3 (.d _ _ .undef)
            have hn1 : n ≠ 0 := hn0
            obtain ⟨n', rfl⟩ : ∃ n', n = n' + 1 := ⟨n - 1, by omega⟩
            simp only [Builtin.clear_]
            simp [h3, run_underlying' ht', run_zeroValue' hi hzz, g1]
        · cases hs
      · cases hs
    · cases hs
  · cases hs

theorem s_cap (r : Rel G N w k μ hb ρ h a) (hd : ∀ d, o.dst = some d → d < N) {c : Call} {t e : TypeId} {x : Operand} {x' : Opnd} (ho : o.op = .call c) (h1 : c.callee = .builtin .cap) (h2 : c.args = #[x]) (h3 : c.argTypes[0]? = some t) (hc : chkOpnd x x' = true) (ht : sliceOf P t = some e)
    (hs : opSem C ρ h (.cap x') = some y) : o.wp P a w (Nx G N (putρ (slotρ ρ y.slot) o.dst y.val) y.heap) Q := by
  have ht' := sliceOf_spec ht
  have hx : ∀ p n cc, a.eval x = .slice p n cc → (execOp a.eval o).run P w = .ok (.value (.int .i64 cc)) w := fun p n cc hu => by
    simp [execOp, ho, resolve, h1, h2, hu, invoke, builtin, Builtin.cap_, h3, run_underlying' ht', goInt]
  simp only [opSem] at hs
  split at hs
  · rename_i hv
    injection hs with hs; subst hs
    have r1 := opv_rep r hc hv
    generalize hev : a.eval x = u at r1
    cases r1 with
    | d _ _ hr => cases hr; exact wp_same r hd (hx _ _ _ hev) (.d _ _ (.int _ _))
  · rename_i cs n hv
    injection hs with hs; subst hs
    have r1 := opv_rep r hc hv
    generalize hev : a.eval x = u at r1
    cases r1 with
    | d _ _ hr =>
    cases hr with
    | vec b base cells n ex cc us hn hxx g1 g2 =>
    have := hxx rfl; subst this
    exact wp_same r hd (hx _ _ _ hev) (.d _ _ (.int _ _))
  · rename_i j off n z kk hv
    injection hs with hs; subst hs
    have r1 := opv_rep r hc hv
    generalize hev : a.eval x = u at r1
    cases r1 with
    | arr j off n z' cap cc hin hn hcc hr hq p hp =>
    have := hcc _ rfl; subst this
    exact wp_same r hd (hx _ _ _ hev) (.d _ _ (.int _ _))
  · cases hs
end
end Go.Avm

/- The abstract machine on data: its operations are the model's (ninth part: structs of pointers compared; calls). -/
namespace Go.Avm
open Go

section
variable {P : Program} {G : Start} {N : Nat} {w w' : World} {k k' : K} {μ μ' : Nat → Loc} {hb : Nat → Nat} {ρ : Nat → Option V} {h h' : H} {a : Act} {o : Oper} {Q : Exit → Act → World → Prop} {u : Value} {v : V} {C : Calls} {y : Did}

def ptrFields (P : Program) : List Field → Nat → Bool
  | [], _ => true
  | f :: l, q => (f.name != "_") && f.offset == q && (match P.underlying f.type with | some (.pointer _) => true | _ => false) && ptrFields P l (q + 1)
theorem NilIs.is_nil {t : TypeId} {x : Value} (h : NilIs P t x true (.pointer none)) : x = .pointer none := by
  generalize hb' : true = b at h
  cases h with
  | ptr e p hu => cases p with
    | none => rfl
    | some q => simp at hb'
theorem run_eqFields {xs ys : Array Value} {vs us : List V} {n : Nat → Prop} (hx : RepVs k μ n xs.toList vs) (hy : RepVs k μ n ys.toList us) (d : Nat) : ∀ (fs : List Field) (q : Nat), ptrFields P fs q = true → fs.length + q = vs.length → fs.length + q = us.length → ∀ {b : Bool}, eqPs (vs.drop q) (us.drop q) = some b →
    (Op.eqFields (d + 1) xs ys fs).run P w = .ok b w
  | [], q, _, h1, h2, b, hb' => by
    have e1 : vs.drop q = [] := List.drop_eq_nil_of_le (by simp at h1; omega)
    have e2 : us.drop q = [] := List.drop_eq_nil_of_le (by simp at h2; omega)
    rw [e1, e2] at hb'
    simp [eqPs] at hb'
    subst hb'
    simp [Op.eqFields]
  | f :: fs, q, hf, h1, h2, b, hb' => by
    simp only [ptrFields, Bool.and_eq_true, beq_iff_eq] at hf
    obtain ⟨⟨⟨f1, f2⟩, f3⟩, f4⟩ := hf
    simp only [List.length_cons] at h1 h2
    have l1 : q < vs.length := by omega
    have l2 : q < us.length := by omega
    have d1 : vs.drop q = vs[q] :: vs.drop (q + 1) := List.drop_eq_getElem_cons l1
    have d2 : us.drop q = us[q] :: us.drop (q + 1) := List.drop_eq_getElem_cons l2
    rw [d1, d2] at hb'
    obtain ⟨x, hx1, hx2⟩ := hx.get (j := q) (x := vs[q]) (by simp [l1])
    obtain ⟨z, hz1, hz2⟩ := hy.get (j := q) (x := us[q]) (by simp [l2])
    rw [Array.getElem?_toList] at hx1 hz1
    obtain ⟨e, hu⟩ : ∃ e, P.underlying f.type = some (.pointer e) := by
      cases hu : P.underlying f.type with
      | none => simp [hu] at f3
      | some dd => cases dd <;> simp [hu] at f3; exact ⟨_, rfl⟩
    have hname : f.name ≠ "_" := by simpa using f1
    have hag : ∀ (ar : Array Value) (vv : Value), ar[q]? = some vv → (part f.type ar f.offset).run P w = .ok vv w := fun ar vv hh => by
      simp [part, run_isAgg' hu, aggD, f2, hh]
    have nt : nilTy P 0 f.type = true := by simp [nilTy, hu]
    have ih := run_eqFields hx hy d fs (q + 1) f4 (by omega) (by omega) (b := b)
    simp only [eqPs] at hb'
    have run1 : ∀ b', (Op.equalIn (d + 1) f.type x z).run P w = .ok b' w → (Op.eqFields (d + 1) xs ys (f :: fs)).run P w = if b' then (Op.eqFields (d + 1) xs ys fs).run P w else .ok false w := fun b' hr => by
      cases b' <;> simp [Op.eqFields, hname, hag xs x hx1, hag ys z hz1, hr]
    split at hb'
    · rename_i c1 c2
      have n2 := isNilK_rep (P := P) hz2 c2 nt (z := .pointer none) rfl
      have hz : z = .pointer none := n2.is_nil
      subst hz
      have n1 := isNilK_rep (P := P) hx2 c1 nt (z := .pointer none) rfl
      rw [run1 true (n1.run (w := w) d).1]
      exact ih hb'
    · rename_i c1 c2
      injection hb' with hb'; subst hb'
      have n1 := isNilK_rep (P := P) hx2 c1 nt (z := .pointer none) rfl
      have hx : x = .pointer none := n1.is_nil
      subst hx
      have n2 := isNilK_rep (P := P) hz2 c2 nt (z := .pointer none) rfl
      rw [run1 false (n2.run (w := w) d).2]; rfl
    · rename_i c1 c2
      injection hb' with hb'; subst hb'
      have n2 := isNilK_rep (P := P) hz2 c2 nt (z := .pointer none) rfl
      have hz : z = .pointer none := n2.is_nil
      subst hz
      have n1 := isNilK_rep (P := P) hx2 c1 nt (z := .pointer none) rfl
      rw [run1 false (n1.run (w := w) d).1]; rfl
    · cases hb'

def chkPtrs (P : Program) (t : TypeId) (n : Nat) : Bool := match P.underlying t with
  | some (.struct fs) => !decide (n = 0) && ptrFields P fs.toList 0 && fs.size == n && !P.stoodInHeld t && !P.eqGuardType P.depth t
  | some (.pointer _) => decide (n = 0)
  | _ => false
theorem eqPs_one {v u : V} {b : Bool} (h : eqPs [v] [u] = some b) : isNilK 0 v = some true ∧ isNilK 0 u = some b ∨ isNilK 0 u = some true ∧ isNilK 0 v = some b := by
  simp only [eqPs] at h
  split at h
  · rename_i h1 h2; injection h with h; subst h; exact .inl ⟨h1, h2⟩
  · rename_i h1 h2; injection h with h; subst h; exact .inl ⟨h1, h2⟩
  · rename_i h1 h2; injection h with h; subst h; exact .inr ⟨h2, h1⟩
  · cases h
theorem NilIs.guard {t : TypeId} {u : Value} {b : Bool} (h : NilIs P t u b (.pointer none)) (neq : Bool) (X Z : Operand) : (eqGuard (if neq then .neq else .eql) t X Z (.pointer none) u).run P w = .ok () w ∧ (eqGuard (if neq then .neq else .eql) t X Z u (.pointer none)).run P w = .ok () w := by
  constructor <;> (unfold eqGuard; cases h <;> cases neq <;> simp)
theorem s_eqPtrs (r : Rel G N w k μ hb ρ h a) (hd : ∀ d, o.dst = some d → d < N) {neq : Bool} {t t' : TypeId} {n : Nat} {x z : Operand} {x' z' : Opnd} (ho : o.op = .binOp (if neq then .neq else .eql) t x z t') (hc : chkOpnd x x' = true) (hc' : chkOpnd z z' = true) (ht : chkPtrs P t n = true)
    (hs : opSem C ρ h (.eqPtrs n neq x' z') = some y) : o.wp P a w (Nx G N (putρ (slotρ ρ y.slot) o.dst y.val) y.heap) Q := by
  simp only [opSem] at hs
  split at hs
  · rename_i v1 v2 e1 e2
    split at hs
    · rename_i vs us g1 g2
      obtain ⟨v', hv', rfl⟩ := did_eq hs
      simp only [Option.map_eq_some_iff] at hv'
      obtain ⟨b, hb', rfl⟩ := hv'
      unfold chkPtrs at ht
      split at ht
      · rename_i fs hu
        simp only [Bool.and_eq_true, beq_iff_eq, Bool.not_eq_true', decide_eq_false_iff_not] at ht
        obtain ⟨⟨⟨⟨t0, t1⟩, t2⟩, t3⟩, t4⟩ := ht
        have pt : ∀ {v : V} {l : List V}, ptrsOf n v = some l → aggOf v = some l ∧ l.length = n := by
          intro v l hp
          unfold ptrsOf at hp
          rw [if_neg t0] at hp
          split at hp
          · rename_i ha
            split at hp
            · rename_i hl; injection hp with hp; subst hp; exact ⟨ha, hl⟩
            · cases hp
          · cases hp
        obtain ⟨g1, hl1⟩ := pt g1
        obtain ⟨g2, hl2⟩ := pt g2
        obtain ⟨xs, hx1, hx2⟩ := aggOf_rep (opv_rep r hc e1) g1
        obtain ⟨ys, hy1, hy2⟩ := aggOf_rep (opv_rep r hc' e2) g2
        have hfo : P.fieldsOf t = fs := by simp [Program.fieldsOf, hu]
        have hrun : (Op.equalIn 10000 t (.agg xs) (.agg ys)).run P w = .ok b w := by
          rw [run_equalIn_struct w 9999 t xs ys (by rw [hfo]; exact hu) t3, hfo]
          exact run_eqFields hx2 hy2 9998 fs.toList 0 t1 (by simp; omega) (by simp; omega) (by simpa using hb')
        refine wp_same r hd (u := .bool (if neq then !b else b)) ?_ (.d _ _ (.bool _))
        cases neq with
        | true =>
          simp only [if_true] at ho
          have := run_neq_struct (P := P) w t xs ys
          simp only [execOp, ho, hx1, hy1, Sem.run_bind, run_eqGuard_agg w .neq t x z xs ys t4, Result.andThen_ok, this, hrun, Sem.run_pure, if_true]
        | false =>
          simp only [Bool.false_eq_true, if_false] at ho
          have := run_eql_struct (P := P) w t xs ys
          simp only [execOp, ho, hx1, hy1, Sem.run_bind, run_eqGuard_agg w .eql t x z xs ys t4, Result.andThen_ok, this, hrun, Sem.run_pure, Bool.false_eq_true, if_false]
      · rename_i e hu
        have t0 : n = 0 := by simpa using ht
        subst t0
        simp only [ptrsOf, if_true] at g1 g2
        injection g1 with g1; injection g2 with g2; subst g1 g2
        have nt : nilTy P 0 t = true := by simp [nilTy, hu]
        have r1 := opv_rep r hc e1
        have r2 := opv_rep r hc' e2
        refine wp_same r hd (u := .bool (if neq then !b else b)) ?_ (.d _ _ (.bool _))
        have hex : execOp a.eval o = (do pure (.value (← (do eqGuard (if neq then .neq else .eql) t x z (a.eval x) (a.eval z); binOp (if neq then .neq else .eql) t (a.eval x) (a.eval z)))) : Sem Next) := by simp [execOp, ho]
        rcases eqPs_one hb' with ⟨h1, h2⟩ | ⟨h1, h2⟩
        · have n1 : a.eval x = .pointer none := (isNilK_rep (P := P) r1 h1 nt (z := .pointer none) rfl).is_nil
          have n2 := isNilK_rep (P := P) r2 h2 nt (z := .pointer none) rfl
          have := (run_eql_nil (w := w) n2 neq z (.pointer none)).2
          rw [hex, n1, Sem.run_bind]
          have g : ∀ X : Operand, ((do eqGuard (if neq then .neq else .eql) t X z (.pointer none) (a.eval z); binOp (if neq then .neq else .eql) t (.pointer none) (a.eval z)) : Sem Value).run P w = .ok (.bool (if neq then !b else b)) w := by
            intro X
            rw [Sem.run_bind] at this ⊢
            have e1 := (n2.guard (w := w) neq X z).1
            have e2 := (n2.guard (w := w) neq (.const (.pointer none)) z).1
            rw [e1]; rw [e2] at this; exact this
          rw [g x]; rfl
        · have n1 : a.eval z = .pointer none := (isNilK_rep (P := P) r2 h1 nt (z := .pointer none) rfl).is_nil
          have n2 := isNilK_rep (P := P) r1 h2 nt (z := .pointer none) rfl
          have := (run_eql_nil (w := w) n2 neq x (.pointer none)).1
          rw [hex, n1, Sem.run_bind]
          have g : ∀ X : Operand, ((do eqGuard (if neq then .neq else .eql) t x X (a.eval x) (.pointer none); binOp (if neq then .neq else .eql) t (a.eval x) (.pointer none)) : Sem Value).run P w = .ok (.bool (if neq then !b else b)) w := by
            intro X
            rw [Sem.run_bind] at this ⊢
            have e1 := (n2.guard (w := w) neq x X).2
            have e2 := (n2.guard (w := w) neq x (.const (.pointer none))).2
            rw [e1]; rw [e2] at this; exact this
          rw [g z]; rfl
      · cases ht
    · cases hs
  · cases hs

/-! calls -/
/-- what a run may have changed: the objects of its log, and new ones -/
structure LogR (h h' : H) (ws : Option (List Nat)) : Prop where
  top : h.top ≤ h'.top
  next : h'.next = h.next ∨ h.top ≤ h'.next
  has : ∀ o, o < h.top → o ≠ h.next → h'.has o → h.has o
  get : ∀ l, ws = some l → ∀ o, o < h.top → o ≠ h.next → o ∉ l → h'.get o = h.get o
/-- What a call that is handed data does, and one that shares the objects. -/
structure CallsOk (P : Program) (C : Calls) : Prop where
  pure : ∀ f ds d, C.pure f ds = some d → ∀ (w : World) (k : K) (args : Array Value), Agree k w → RepDs k args.toList ds →
    Go.Calls P f args w fun e w' => ∃ u k', e = .returned u ∧ w.heap.size ≤ w'.heap.size ∧ (∀ b, b < w.heap.size → w'.heap[b]? = w.heap[b]?) ∧ w'.os = w.os ∧ w'.tape = w.tape ∧ w'.output = w.output ∧ Agree k' w' ∧ k.le k' ∧
      (∀ b o u, k'.F b o = some u → k.F b o = some u ∨ w.heap.size ≤ b) ∧ (∀ b es, k'.M b = some es → k.M b = some es ∨ w.heap.size ≤ b) ∧ Rep k' u d
  full : ∀ f vs v h h' ws, C.full f vs h = some (v, h', ws) → ∀ (B : Nat) (w : World) (k : K) (μ : Nat → Loc) (args : Array Value), Inv B w k μ h → RepVs k μ h.has args.toList vs →
    Go.Calls P f args w fun e w' => ∃ u k' μ', e = .returned u ∧ Inv B w' k' μ' h' ∧ Ext w k μ h w' k' μ' h' ∧ RepV k' μ' h'.has u v
  log : ∀ f vs v h h' ws, C.full f vs h = some (v, h', ws) → LogR h h' ws
  body : ∀ f, (∃ ds d, C.pure f ds = some d) ∨ (∃ vs h r, C.full f vs h = some r) → ∃ fn, P.funcs[f]? = some fn ∧ fn.body.isSome = true ∧ fn.name ≠ "runtime.NumGoroutine"

theorem run_callFunc {f : Nat} {fn : Func} {args : Array Value} (h1 : P.funcs[f]? = some fn) (h2 : fn.body.isSome = true) (h3 : fn.name ≠ "runtime.NumGoroutine") : (callFunc f args).run P w = .ok (.enter f args) w := by
  have h2' : ¬ fn.body = none := by intro e; simp [e] at h2
  simp [callFunc, h1, h3, h2']

/-- an operation that enters a function -/
theorem wp_enter {f : Nat} {args : Array Value} {R : Ending → World → Prop} {Kt : Act → World → Prop} (hrun : (execOp a.eval o).run P w = .ok (.enter f args) w) (hcall : Go.Calls P f args w R) (hk : ∀ e w', R e w' → ∃ u, e = .returned u ∧ Kt (a.put o.dst u) w') : o.wp P a w Kt Q := by
  unfold Oper.wp
  rw [hrun]
  show Go.Calls P f args w _
  refine hcall.mono fun e w' hr => ?_
  obtain ⟨u, rfl, hu⟩ := hk e w' hr
  exact hu

theorem callD_pure (r : Rel G N w k μ hb ρ h a) (hd : ∀ d, o.dst = some d → d < N) (hC : CallsOk P C) {f : Nat} {ds : List D} {d : D} (he : C.pure f ds = some d) {args : Array Value} (hr : RepDs k args.toList ds)
    (hrun : (execOp a.eval o).run P w = .ok (.enter f args) w) : o.wp P a w (Nx G N (putρ ρ o.dst (.d d)) h) Q := by
  refine wp_enter hrun (hC.pure f ds d he w k args r.inv.agree hr) ?_
  rintro e w' ⟨u, k', rfl, h1, h2, h3, h4, h5, h6, h7, h8, h9, h10⟩
  exact ⟨u, rfl, k', μ, hb, (r.step (r.inv.grow h1 h2 h6 h7 h8 h9) (Ext.grow h1 h2 h7 h3 h4 h5 h8 h9)).put hd (.d _ _ h10)⟩
theorem callF_full (r : Rel G N w k μ hb ρ h a) (hd : ∀ d, o.dst = some d → d < N) (hC : CallsOk P C) {f : Nat} {vs : List V} {v : V} {h' : H} {ws : Option (List Nat)} (he : C.full f vs h = some (v, h', ws)) {args : Array Value} (hr : RepVs k μ h.has args.toList vs)
    (hrun : (execOp a.eval o).run P w = .ok (.enter f args) w) : o.wp P a w (Nx G N (putρ ρ o.dst v) h') Q := by
  refine wp_enter hrun (hC.full f vs v h h' ws he G.B w k μ args r.inv hr) ?_
  rintro e w' ⟨u, k', μ', rfl, h1, h2, h3⟩
  exact ⟨u, rfl, k', μ', hb, (r.step h1 h2).put hd h3⟩
theorem callF_eq {f : Nat} {vs : List V} (hs : callF C h f vs = some y) : ∃ v h' ws, C.full f vs h = some (v, h', ws) ∧ y = ⟨v, h', none, .g ws⟩ := by
  unfold callF at hs
  split at hs
  · rename_i v h' ws he; injection hs with hs; exact ⟨v, h', ws, he, hs.symm⟩
  · cases hs

/-- a call by way of data, or of shared objects -/
theorem s_callX' (r : Rel G N w k μ hb ρ h a) (hd : ∀ d, o.dst = some d → d < N) (hC : CallsOk P C) {f : Nat} {vs : List V} (hs : callX C h f vs = some y) {args : Array Value} (hr : RepVs k μ h.has args.toList vs)
    (hrun : ∀ fn, P.funcs[f]? = some fn → fn.body.isSome = true → fn.name ≠ "runtime.NumGoroutine" → (execOp a.eval o).run P w = .ok (.enter f args) w) : o.wp P a w (Nx G N (putρ (slotρ ρ y.slot) o.dst y.val) y.heap) Q := by
  unfold callX at hs
  split at hs
  · rename_i ds hds
    split at hs
    · rename_i d he
      injection hs with hs; subst hs
      obtain ⟨fn, b1, b2, b3⟩ := hC.body f (.inl ⟨ds, d, he⟩)
      rw [allD_eq hds] at hr
      exact callD_pure r hd hC he (repVs_d.1 hr) (hrun fn b1 b2 b3)
    · cases hs
  · obtain ⟨v, h', ws, he, rfl⟩ := callF_eq hs
    obtain ⟨fn, b1, b2, b3⟩ := hC.body f (.inr ⟨vs, h, _, he⟩)
    exact callF_full r hd hC he hr (hrun fn b1 b2 b3)
end
end Go.Avm

/- The abstract machine on data: what is frozen reads as data for good. -/
namespace Go.Avm
open Go

section
variable {P : Program} {B : Nat} {w : World} {k : K} {μ : Nat → Loc} {h h' : H}

/-- cells of a block become known for good -/
def K.rowAt (k : K) (b base : Nat) (us : List Value) : K := ⟨fun c j => if c = b ∧ base ≤ j ∧ j < base + us.length then us[j - base]? else k.F c j, k.M⟩
theorem K.rowAt_in (k : K) (b base : Nat) (us : List Value) {j : Nat} (hj : j < us.length) : (k.rowAt b base us).F b (base + j) = us[j]? := by
  simp [K.rowAt, hj]
theorem K.rowAt_le {k : K} {b base : Nat} {us : List Value} (h : ∀ j u, j < us.length → k.F b (base + j) = some u → us[j]? = some u) : k.le (k.rowAt b base us) := by
  refine ⟨fun c j u hu => ?_, fun _ _ h => h⟩
  simp only [K.rowAt]
  split
  · rename_i hif
    obtain ⟨rfl, h1, h2⟩ := hif
    obtain ⟨q, rfl⟩ : ∃ q, j = base + q := ⟨j - base, by omega⟩
    rw [show base + q - base = q by omega]
    exact h q u (by omega) hu
  · exact hu

theorem Agree.unique {b o : Nat} {u v : Value} (ha : Agree k w) (h1 : k.F b o = some u) (h2 : w.cell? ⟨b, o, none⟩ = some v) : u = v := by
  have := ha.1 _ _ _ h1
  rw [h2] at this; injection this with this; exact this.symm

/-- an object that is dead already has its cells made known -/
theorem Inv.freeze (hi : Inv B w k μ h) {o : Nat} {us : List Value} {ds : List D} (hin : h.has o) (hcb : ∃ vs e, w.heap[(μ o).blk]? = some (.cells vs e)) (hc : Cells w (μ o).blk (μ o).base us) (hr : RepDs k us ds) (hno : ∀ i, live (h.get i) = true → (μ i).blk ≠ (μ o).blk) :
    Inv B w (k.rowAt (μ o).blk (μ o).base us) μ (h.set o (.frozen ds)) ∧ k.le (k.rowAt (μ o).blk (μ o).base us) ∧
      (∀ b p u, (k.rowAt (μ o).blk (μ o).base us).F b p = some u → k.F b p = some u ∨ b = (μ o).blk) ∧ ObjOk w (k.rowAt (μ o).blk (μ o).base us) μ h.has o (.frozen ds) := by
  have hle : k.le (k.rowAt (μ o).blk (μ o).base us) := K.rowAt_le fun j u hj hu => by
    have h1 : us[j]? = some us[j] := by simp [hj]
    rw [h1, hi.agree.unique hu (hc j us[j] h1)]
  have hF : ∀ b p u, (k.rowAt (μ o).blk (μ o).base us).F b p = some u → k.F b p = some u ∨ b = (μ o).blk := fun b p u hu => by
    simp only [K.rowAt] at hu
    split at hu
    · rename_i hif; exact .inr hif.1
    · exact .inl hu
  have hob : ObjOk w (k.rowAt (μ o).blk (μ o).base us) μ h.has o (.frozen ds) := by
    refine ⟨us, hr.1, fun j u hu => ?_, hr.mono hle⟩
    rw [K.rowAt_in _ _ _ _ (List.getElem?_eq_some_iff.1 hu).1]; exact hu
  have ha : Agree (k.rowAt (μ o).blk (μ o).base us) w := by
    refine ⟨fun b p u hu => ?_, hi.agree.2.1, fun b p u hu => by
      simp only [K.rowAt] at hu
      split at hu
      · rename_i hif; obtain ⟨rfl, _⟩ := hif; exact hcb
      · exact hi.agree.2.2 _ _ _ hu⟩
    simp only [K.rowAt] at hu
    split at hu
    · rename_i hif
      obtain ⟨rfl, h1, h2⟩ := hif
      obtain ⟨q, rfl⟩ : ∃ q, p = (μ o).base + q := ⟨p - (μ o).base, by omega⟩
      rw [show (μ o).base + q - (μ o).base = q by omega] at hu
      exact hc q u hu
    · exact hi.agree.1 _ _ _ hu
  have f : ∀ q, live ((h.set o (.frozen ds)).get q) = true → live (h.get q) = true ∧ q ≠ o := fun q hq => by
    by_cases e : o = q
    · subst e; rw [H.get_set_same] at hq; simp [live] at hq
    · rw [H.get_set_ne h _ e] at hq; exact ⟨hq, Ne.symm e⟩
  refine ⟨⟨ha, fun i hd => H.has_get hd, hi.set_top hin _, hi.set_fresh hin _, hi.nt, ?_, fun i j hij h1 h2 => hi.sep i j hij (f _ h1).1 (f _ h2).1, fun i h1 => hi.low i (f _ h1).1, hi.bot⟩, hle, hF, hob⟩
  · intro i
    by_cases e : o = i
    · subst e; rw [H.get_set_same]; exact hob
    · rw [H.get_set_ne h _ e]
      refine (hi.obj i).mono hle (fun _ _ => rfl) (fun _ h' => (H.has_set h _ _ _).2 (.inr h')) (hi.lt i) (fun _ => rfl) (fun hl q hn => ?_) (fun _ h => h)
      simp [K.rowAt, hno i hl, hn]

/-- a map likewise -/
def K.mapAt (k : K) (b : Nat) (es : Array MapEntry) : K := ⟨k.F, fun c => if c = b then some es else k.M c⟩
theorem Inv.freezeMap (hi : Inv B w k μ h) {o : Nat} {es : Array MapEntry} {ks ds : List D} (hin : h.has o) (hc : w.heap[(μ o).blk]? = some (.map es es.size)) (hbo : ∀ (j : Nat) (e : MapEntry), es[j]? = some e → e.born = j) (hr : RepDs k (es.toList.map (·.key)) ks) (hr' : RepDs k (es.toList.map (·.val)) ds) (hno : ∀ i, live (h.get i) = true → (μ i).blk ≠ (μ o).blk) :
    Inv B w (k.mapAt (μ o).blk es) μ (h.set o (.fmap ks ds)) ∧ k.le (k.mapAt (μ o).blk es) ∧ (∀ b e, (k.mapAt (μ o).blk es).M b = some e → k.M b = some e ∨ b = (μ o).blk) := by
  have hle : k.le (k.mapAt (μ o).blk es) := ⟨fun _ _ _ h => h, fun b e he => by
    simp only [K.mapAt]
    split
    · rename_i hb; subst hb
      obtain ⟨c, hcc, _⟩ := hi.agree.2.1 _ _ he
      rw [hc] at hcc; injection hcc with hcc; injection hcc with h1 h2; rw [h1]
    · exact he⟩
  have hM : ∀ b e, (k.mapAt (μ o).blk es).M b = some e → k.M b = some e ∨ b = (μ o).blk := fun b e he => by
    simp only [K.mapAt] at he
    split at he
    · rename_i hb; exact .inr hb
    · exact .inl he
  have ha : Agree (k.mapAt (μ o).blk es) w := ⟨hi.agree.1, fun b e he => by
    simp only [K.mapAt] at he
    split at he
    · rename_i hb; injection he with he; subst he; rw [hb]; exact ⟨_, hc, rfl, hbo⟩
    · exact hi.agree.2.1 _ _ he, hi.agree.2.2⟩
  have f : ∀ q, live ((h.set o (.fmap ks ds)).get q) = true → live (h.get q) = true ∧ q ≠ o := fun q hq => by
    by_cases e : o = q
    · subst e; rw [H.get_set_same] at hq; simp [live] at hq
    · rw [H.get_set_ne h _ e] at hq; exact ⟨hq, Ne.symm e⟩
  refine ⟨⟨ha, fun i hd => H.has_get hd, hi.set_top hin _, hi.set_fresh hin _, hi.nt, ?_, fun i j hij h1 h2 => hi.sep i j hij (f _ h1).1 (f _ h2).1, fun i h1 => hi.low i (f _ h1).1, hi.bot⟩, hle, hM⟩
  · intro i
    by_cases e : o = i
    · subst e; rw [H.get_set_same]
      exact ⟨es, by simp [K.mapAt], hr.mono hle, hr'.mono hle⟩
    · rw [H.get_set_ne h _ e]
      refine (hi.obj i).mono hle (fun _ _ => rfl) (fun _ h' => (H.has_set h _ _ _).2 (.inr h')) (hi.lt i) (fun _ => rfl) (fun _ q hn => hn) (fun hl hn => ?_)
      simp [K.mapAt, hno i hl, hn]

/-- what freezing leaves -/
structure Frozen (B : Nat) (w : World) (k : K) (μ : Nat → Loc) (h : H) (k' : K) (h' : H) : Prop where
  inv : Inv B w k' μ h'
  kle : k.le k'
  fnew : ∀ b o u, k'.F b o = some u → k.F b o = some u ∨ ∃ i, live (h.get i) = true ∧ (μ i).blk = b
  mnew : ∀ b es, k'.M b = some es → k.M b = some es ∨ ∃ i, live (h.get i) = true ∧ (μ i).blk = b
  next : ∀ i, h'.has i ↔ h.has i
  sub : ∀ i, live (h'.get i) = true → live (h.get i) = true
theorem Frozen.refl (hi : Inv B w k μ h) : Frozen B w k μ h k h := ⟨hi, K.le_refl k, fun _ _ _ h => .inl h, fun _ _ h => .inl h, fun _ => Iff.rfl, fun _ h => h⟩
theorem Frozen.trans {k1 k2 : K} {h1 h2 : H} (a : Frozen B w k μ h k1 h1) (b : Frozen B w k1 μ h1 k2 h2) : Frozen B w k μ h k2 h2 := by
  refine ⟨b.inv, K.le_trans a.kle b.kle, fun bl o u hu => ?_, fun bl es he => ?_, fun i => (b.next i).trans (a.next i), fun i hl => a.sub i (b.sub i hl)⟩
  · rcases b.fnew _ _ _ hu with h | ⟨i, hi, hb⟩
    · exact a.fnew _ _ _ h
    · exact .inr ⟨i, a.sub i hi, hb⟩
  · rcases b.mnew _ _ he with h | ⟨i, hi, hb⟩
    · exact a.mnew _ _ h
    · exact .inr ⟨i, a.sub i hi, hb⟩
theorem Frozen.ext {k' : K} (f : Frozen B w k μ h k' h') : Ext w k μ h w k' μ h' :=
  ⟨f.kle, fun b o u hu => (f.fnew b o u hu).imp id .inl, fun b es he => (f.mnew b es he).imp id .inl, fun _ _ => rfl, fun i hh => (f.next i).2 hh, rfl, rfl, rfl, Nat.le_refl _, fun _ _ _ => rfl, fun i hl => .inl ⟨i, f.sub i hl, rfl⟩⟩
theorem kill_sub {i j : Nat} (hl : live ((h.set i .dead).get j) = true) : live (h.get j) = true ∧ j ≠ i := by
  by_cases e : i = j
  · subst e; rw [H.get_set_same] at hl; simp [live] at hl
  · rw [H.get_set_ne h _ e] at hl; exact ⟨hl, Ne.symm e⟩
theorem set_has {i : Nat} (hin : h.has i) (x : Obj) : ∀ j, (h.set i x).has j ↔ h.has j := fun j => ⟨fun hh => by
  rcases (H.has_set h i j x).1 hh with rfl | hh
  · exact hin
  · exact hh, fun hh => (H.has_set h i j x).2 (.inr hh)⟩
theorem Frozen.kill (hi : Inv B w k μ h) {i : Nat} (hin : h.has i) : Frozen B w k μ h k (h.set i .dead) :=
  ⟨hi.kill hin, K.le_refl k, fun _ _ _ h => .inl h, fun _ _ h => .inl h, set_has hin _, fun _ hl => (kill_sub hl).1⟩

theorem RepDs.nil' : RepDs k [] [] := ⟨rfl, fun j v x hv => by simp at hv⟩
theorem RepDs.cons' {v : Value} {d : D} {vs : List Value} {ds : List D} (h : Rep k v d) (hs : RepDs k vs ds) : RepDs k (v :: vs) (d :: ds) := by
  refine ⟨by simp [hs.1], fun j u y hu hy => ?_⟩
  cases j with
  | zero => simp at hu hy; subst hu; subst hy; exact h
  | succ j => exact hs.2 j u y (by simpa using hu) (by simpa using hy)

theorem cells_take (hi : Inv B w k μ h) {o : Nat} {cs : List V} (hg : h.get o = .cells cs) : ∃ us, us.length = cs.length ∧ Cells w (μ o).blk (μ o).base us ∧ RepVs k μ h.has us cs := by
  obtain ⟨us, g1, g2⟩ := cells_of_obj hi hg
  exact ⟨us, g2.1, g1, g2⟩

theorem frz_ok : ∀ n : Nat,
    (∀ {k : K} {h h' : H} {u : Value} {v : V} {d : D}, Inv B w k μ h → RepV k μ h.has u v → frz n h v = some (d, h') → ∃ k', Frozen B w k μ h k' h' ∧ Rep k' u d) ∧
    (∀ {k : K} {h h' : H} {us : List Value} {vs : List V} {ds : List D}, Inv B w k μ h → RepVs k μ h.has us vs → frzL n h vs = some (ds, h') → ∃ k', Frozen B w k μ h k' h' ∧ RepDs k' us ds) ∧
    (∀ {k : K} {h h' : H} {o : Nat} {ds : List D}, Inv B w k μ h → h.has o → frzO n h o = some (ds, h') → ∃ k', Frozen B w k μ h k' h' ∧ ∃ us : List Value, (∀ j u, us[j]? = some u → k'.F (μ o).blk ((μ o).base + j) = some u) ∧ RepDs k' us ds) := by
  intro n
  induction n with
  | zero =>
    refine ⟨fun _ _ hf => by simp [frz] at hf, ?_, fun _ _ hf => by simp [frzO] at hf⟩
    intro k h h' us vs ds hi hr hf
    cases vs with
    | nil => simp [frzL] at hf; obtain ⟨rfl, rfl⟩ := hf; rw [hr.nil_inv]; exact ⟨k, Frozen.refl hi, rfl, fun j v x hv => by simp at hv⟩
    | cons v vs => simp [frzL] at hf
  | succ n ih =>
    obtain ⟨ih1, ih2, ih3⟩ := ih
    refine ⟨?_, ?_, ?_⟩
    · intro k h h' u v d hi hr hf
      cases hr with
      | d u x hr => simp [frz] at hf; obtain ⟨rfl, rfl⟩ := hf; exact ⟨k, Frozen.refl hi, hr⟩
      | ptr i off hin =>
        simp only [frz] at hf
        split at hf
        · rename_i cs h1 he
          injection hf with hf; injection hf with e1 e2; subst e1; subst e2
          obtain ⟨k', f, us, g1, g2⟩ := ih3 hi hin he
          refine ⟨k', f, .ref _ _ off cs (fam us) (fun j d hj => ?_) (fun j d hj => ?_)⟩
          · have hl : j < us.length := by rw [g2.1]; exact (List.getElem?_eq_some_iff.1 hj).1
            exact g1 j _ (fam_get hl)
          · have hl : j < us.length := by rw [g2.1]; exact (List.getElem?_eq_some_iff.1 hj).1
            exact g2.2 j _ d (fam_get hl) hj
        · cases hf
      | arr i off len z cap c hin hn hc hrr hq p hp =>
        simp only [frz] at hf
        split at hf
        · rename_i cs h1 he
          split at hf
          · rename_i hble
            have hble := Nat.le_of_ble_eq_true hble
            injection hf with hf; injection hf with e1 e2; subst e1; subst e2
            obtain ⟨k', f, us, g1, g2⟩ := ih3 hi hin he
            refine ⟨k', f, .vec _ p _ len _ c (fun j => fam us (off + j)) hn (fun hex => ?_) (fun j d hj => ?_) (fun j d hj => ?_)⟩
            · have hcap : cap = some len := by simpa using hex
              exact hc len hcap
            · rw [List.getElem?_take] at hj
              split at hj
              · rename_i hlt
                rw [List.getElem?_drop] at hj
                have hl : off + j < us.length := by rw [g2.1]; exact (List.getElem?_eq_some_iff.1 hj).1
                have hne : len ≠ 0 := fun e => by rw [e] at hlt; omega
                rw [hp (by omega), Nat.add_assoc]
                exact g1 _ _ (fam_get hl)
              · cases hj
            · rw [List.getElem?_take] at hj
              split at hj
              · rw [List.getElem?_drop] at hj
                have hl : off + j < us.length := by rw [g2.1]; exact (List.getElem?_eq_some_iff.1 hj).1
                exact g2.2 _ _ d (fam_get hl) hj
              · cases hj
          · cases hf
        · cases hf
      | mapr i hin =>
        have hob := hi.obj i
        simp only [frz] at hf
        split at hf
        · rename_i ks vs hg
          injection hf with hf; injection hf with e1 e2; subst e1; subst e2
          rw [hg] at hob
          obtain ⟨es, q1, q2, q3⟩ := hob
          have l1 : es.size = ks.length := by have := q2.1; simpa using this
          have l2 : vs.length = ks.length := by have := q3.1; simp at this; omega
          refine ⟨k, Frozen.refl hi, .mapd _ es ks vs (fam (es.toList.map (·.key))) (fam (es.toList.map (·.val))) q1 l1 l2 (fun j d hj => ?_) (fun j d hj => ?_) (fun j d hj => ?_) (fun j d hj => ?_)⟩
          · have hl : j < (es.toList.map (·.key)).length := by rw [q2.1]; exact (List.getElem?_eq_some_iff.1 hj).1
            have := fam_get hl; simpa using this
          · have hl : j < (es.toList.map (·.key)).length := by rw [q2.1]; exact (List.getElem?_eq_some_iff.1 hj).1
            exact q2.2 j _ d (fam_get hl) hj
          · have hl : j < (es.toList.map (·.val)).length := by rw [q3.1]; exact (List.getElem?_eq_some_iff.1 hj).1
            have := fam_get hl; simpa using this
          · have hl : j < (es.toList.map (·.val)).length := by rw [q3.1]; exact (List.getElem?_eq_some_iff.1 hj).1
            exact q3.2 j _ d (fam_get hl) hj
        · rename_i ks vs hg
          split at hf
          · rename_i ds h1 he
            injection hf with hf; injection hf with e1 e2; subst e1; subst e2
            rw [hg] at hob
            obtain ⟨es, q1, q2, q3⟩ := hob
            have hlv : live (h.get i) = true := by rw [hg]; rfl
            obtain ⟨k1, f, g2⟩ := ih2 (hi.kill hin) (RepVs.hset q3.2.2) he
            have hks : RepDs k1 (es.toList.map (·.key)) ks := q3.2.1.mono f.ext.kle
            have hno : ∀ j, live (h1.get j) = true → (μ j).blk ≠ (μ i).blk := fun j hl => by
              have h2 := f.sub j hl
              have hji : j ≠ i := fun e => by subst e; rw [H.get_set_same] at h2; simp [live] at h2
              rw [H.get_set_ne h _ (Ne.symm hji)] at h2
              exact hi.sep j i hji h2 hlv
            obtain ⟨a1, a2, a3⟩ := f.inv.freezeMap (o := i) ((f.next _).2 ((set_has hin _ _).2 hin)) q1 q3.1 hks g2 hno
            have hsub : ∀ j, live ((h1.set i (.fmap ks ds)).get j) = true → live (h1.get j) = true := fun j hl => by
              by_cases e : i = j
              · subst e; rw [H.get_set_same] at hl; simp [live] at hl
              · rw [H.get_set_ne h1 _ e] at hl; exact hl
            have f0 := (Frozen.kill hi hin).trans f
            refine ⟨_, ⟨a1, K.le_trans f0.kle a2, f0.fnew, fun b e he => ?_, fun j => (set_has ((f0.next _).2 hin) _ j).trans (f0.next j), fun j hl => f0.sub j (hsub j hl)⟩, ?_⟩
            · rcases a3 b e he with hh | hh
              · exact f0.mnew b e hh
              · exact .inr ⟨i, hlv, hh.symm⟩
            · have q2' := hks.mono a2
              have q3' := g2.mono a2
              have l1 : es.size = ks.length := by have := q2'.1; simpa using this
              have l2 : ds.length = ks.length := by have := q3'.1; simp at this; omega
              refine .mapd _ es ks ds (fam (es.toList.map (·.key))) (fam (es.toList.map (·.val))) (by simp [K.mapAt]) l1 l2 (fun j d hj => ?_) (fun j d hj => ?_) (fun j d hj => ?_) (fun j d hj => ?_)
              · have hl : j < (es.toList.map (·.key)).length := by rw [q2'.1]; exact (List.getElem?_eq_some_iff.1 hj).1
                have := fam_get hl; simpa using this
              · have hl : j < (es.toList.map (·.key)).length := by rw [q2'.1]; exact (List.getElem?_eq_some_iff.1 hj).1
                exact q2'.2 j _ d (fam_get hl) hj
              · have hl : j < (es.toList.map (·.val)).length := by rw [q3'.1]; exact (List.getElem?_eq_some_iff.1 hj).1
                have := fam_get hl; simpa using this
              · have hl : j < (es.toList.map (·.val)).length := by rw [q3'.1]; exact (List.getElem?_eq_some_iff.1 hj).1
                exact q3'.2 j _ d (fam_get hl) hj
          · cases hf
        · cases hf
      | func f ps qs xs ys us us' s1 s2 g1 hh1 g2 hh2 =>
        simp only [frz] at hf
        split at hf
        · rename_i as h1 he
          split at hf
          · rename_i bs h2 he2
            injection hf with hf; injection hf with e1 e2; subst e1; subst e2
            obtain ⟨k1, f1, q1⟩ := ih2 hi (repVs_of s1 g1 hh1) he
            obtain ⟨k2, f2, q2⟩ := ih2 f1.inv ((repVs_of s2 g2 hh2).mono f1.kle (fun _ _ => rfl) (fun i hh => (f1.next i).2 hh)) he2
            exact ⟨k2, f1.trans f2, .func' (q1.mono f2.kle) q2⟩
          · cases hf
        · cases hf
      | iface t v d hr =>
        simp only [frz] at hf
        split at hf
        · rename_i dd h1 he
          injection hf with hf; injection hf with e1 e2; subst e1; subst e2
          obtain ⟨k1, f1, q1⟩ := ih1 hi hr he
          exact ⟨k1, f1, .iface _ _ _ q1⟩
        · cases hf
      | agg vs ds us s g hh =>
        simp only [frz] at hf
        split at hf
        · rename_i dd h1 he
          injection hf with hf; injection hf with e1 e2; subst e1; subst e2
          obtain ⟨k1, f1, q1⟩ := ih2 hi (repVs_of s g hh) he
          exact ⟨k1, f1, .agg' q1⟩
        · cases hf
      | tuple vs ds us s g hh =>
        simp only [frz] at hf
        split at hf
        · rename_i dd h1 he
          injection hf with hf; injection hf with e1 e2; subst e1; subst e2
          obtain ⟨k1, f1, q1⟩ := ih2 hi (repVs_of s g hh) he
          exact ⟨k1, f1, .tuple' q1⟩
        · cases hf
    · intro k h h' us vs ds hi hr hf
      cases vs with
      | nil => simp [frzL] at hf; obtain ⟨rfl, rfl⟩ := hf; rw [hr.nil_inv]; exact ⟨k, Frozen.refl hi, RepDs.nil'⟩
      | cons v vs =>
        obtain ⟨u, us, rfl, r1, r2⟩ := hr.cons_inv
        simp only [frzL] at hf
        split at hf
        · rename_i d h1 he
          split at hf
          · rename_i ds h2 he2
            injection hf with hf; injection hf with e1 e2; subst e1; subst e2
            obtain ⟨k1, f1, q1⟩ := ih1 hi r1 he
            obtain ⟨k2, f2, q2⟩ := ih2 f1.inv (r2.mono f1.kle (fun _ _ => rfl) (fun i hh => (f1.next i).2 hh)) he2
            exact ⟨k2, f1.trans f2, RepDs.cons' (q1.mono f2.kle) q2⟩
          · cases hf
        · cases hf
    · intro k h h' o ds hi hin hf
      simp only [frzO] at hf
      split at hf
      · rename_i cs hg
        injection hf with hf; injection hf with e1 e2; subst e1; subst e2
        have hob := hi.obj o
        rw [hg] at hob
        obtain ⟨us, q1, q2, q3⟩ := hob
        exact ⟨k, Frozen.refl hi, us, q2, q3⟩
      · rename_i cs hg
        split at hf
        · rename_i ds h1 he
          injection hf with hf; injection hf with e1 e2; subst e1; subst e2
          have hlv : live (h.get o) = true := by rw [hg]; rfl
          have hcb : ∃ vs e, w.heap[(μ o).blk]? = some (.cells vs e) := by
            have := hi.obj o
            rw [hg] at this
            obtain ⟨vs, e, q, _⟩ := this
            exact ⟨vs, e, q⟩
          obtain ⟨us, c1, c2, c3⟩ := cells_take hi hg
          obtain ⟨k1, f, g2⟩ := ih2 (hi.kill hin) (RepVs.hset c3) he
          have hno : ∀ j, live (h1.get j) = true → (μ j).blk ≠ (μ o).blk := fun j hl => by
            obtain ⟨h2, h3⟩ := kill_sub (f.sub j hl)
            exact hi.sep j o h3 h2 hlv
          obtain ⟨a1, a2, a3, a4⟩ := f.inv.freeze (o := o) ((f.next _).2 ((set_has hin _ _).2 hin)) hcb c2 g2 hno
          have hsub : ∀ j, live ((h1.set o (.frozen ds)).get j) = true → live (h1.get j) = true := fun j hl => by
            by_cases e : o = j
            · subst e; rw [H.get_set_same] at hl; simp [live] at hl
            · rw [H.get_set_ne h1 _ e] at hl; exact hl
          have f0 := (Frozen.kill hi hin).trans f
          refine ⟨_, ⟨a1, K.le_trans f0.kle a2, fun b p u hu => ?_, f0.mnew, fun j => (set_has ((f0.next _).2 hin) _ j).trans (f0.next j), fun j hl => f0.sub j (hsub j hl)⟩, us, fun j u hu => ?_, g2.mono a2⟩
          · rcases a3 b p u hu with hh | hh
            · exact f0.fnew b p u hh
            · exact .inr ⟨o, hlv, hh.symm⟩
          · rw [K.rowAt_in _ _ _ _ (List.getElem?_eq_some_iff.1 hu).1]; exact hu
        · cases hf
      · cases hf
end
end Go.Avm

/- The abstract machine on data: calls as operations; what a callee that ran apart hands back. -/
namespace Go.Avm
open Go

section
variable {P : Program} {G : Start} {N : Nat} {w w' : World} {k k' : K} {μ μ' : Nat → Loc} {hb : Nat → Nat} {ρ : Nat → Option V} {h h' : H} {a : Act} {o : Oper} {Q : Exit → Act → World → Prop} {u : Value} {v : V} {C : Calls} {y : Did}

/-- a block that nobody owns yet becomes an object -/
theorem Inv.adopt {B : Nat} (hi : Inv B w k μ h) {l : Loc} {cs : List V} (hB : B ≤ l.blk) (hno : ∀ i, live (h.get i) = true → (μ i).blk ≠ l.blk)
    (hx : ∃ vs e, w.heap[l.blk]? = some (.cells vs e) ∧ l.base + l.room ≤ vs.size ∧ cs.length ≤ l.room ∧ RepVs k (updμ μ h.next l) (h.new (.cells cs)).has ((vs.toList.drop l.base).take cs.length) cs ∧ ∀ o, l.base ≤ o → k.F l.blk o = none) :
    Inv B w k (updμ μ h.next l) (h.new (.cells cs)) := by
  have hμ : ∀ j, h.has j → updμ μ h.next l j = μ j := fun j hlt => updμ_ne _ _ (by rintro rfl; exact hi.fresh hlt)
  refine ⟨hi.agree, fun j hd => H.has_get hd, hi.new_top _, hi.new_fresh _, Nat.le_refl _, ?_, ?_, ?_, hi.bot⟩
  · intro j
    by_cases e' : j = h.next
    · subst e'
      rw [H.get_new_same]
      obtain ⟨vs, e, h1, h2, h3, h4, h5⟩ := hx
      exact ⟨vs, e, by rw [updμ_same]; exact h1, by rw [updμ_same]; exact h2, by rw [updμ_same]; exact h3, by rw [updμ_same]; exact h4, by rw [updμ_same]; exact h5⟩
    · rw [H.get_new_ne _ _ e']
      exact (hi.obj j).mono (K.le_refl k) hμ (fun _ h' => (H.has_new _ _ _).2 (.inr h')) (hi.lt j) (fun _ => rfl) (fun _ o h => h) (fun _ h => h)
  · intro j m hjm h1 h2
    by_cases ej : j = h.next
    · subst ej
      have em : m ≠ h.next := fun q => hjm q.symm
      rw [H.get_new_ne _ _ em] at h2
      rw [updμ_same, updμ_ne _ _ em]
      exact fun q => hno m h2 q.symm
    · by_cases em : m = h.next
      · subst em
        rw [H.get_new_ne _ _ ej] at h1
        rw [updμ_same, updμ_ne _ _ ej]
        exact hno j h1
      · rw [H.get_new_ne _ _ ej] at h1; rw [H.get_new_ne _ _ em] at h2
        rw [updμ_ne _ _ ej, updμ_ne _ _ em]
        exact hi.sep j m hjm h1 h2
  · intro j h1
    by_cases ej : j = h.next
    · subst ej; rw [updμ_same]; exact hB
    · rw [H.get_new_ne _ _ ej] at h1; rw [updμ_ne _ _ ej]; exact hi.low j h1

theorem RepV_of_D {k : K} {μ μ' : Nat → Loc} {n n' : Nat → Prop} {us : List Value} {cs : List V} {ds : List D} (hd : allD cs = some ds) (h : RepVs k μ n us cs) : RepVs k μ' n' us cs := by
  rw [allD_eq hd] at h ⊢
  exact repVs_d.2 (repVs_d.1 h)

/-- where the caller stands while it takes over what a callee made: the callee's objects 'hc' lie at 'μc', all from block W on -/
structure Imp (B W : Nat) (w : World) (k : K) (μ0 : Nat → Loc) (h0 : H) (μ : Nat → Loc) (h : H) (hc : H) (μc : Nat → Loc) (seen : List Nat) : Prop where
  inv : Inv B w k μ h
  nle : ∀ i, h0.has i → h.has i
  mu : ∀ i, h0.has i → μ i = μ0 i
  old : ∀ i, live (h.get i) = true → (μ i).blk < W ∨ ∃ q ∈ seen, live (hc.get q) = true ∧ (μ i).blk = (μc q).blk
  own : ∀ i, live (h.get i) = true → (∃ j, live (h0.get j) = true ∧ (μ0 j).blk = (μ i).blk) ∨ W ≤ (μ i).blk

theorem imp_ok {B W : Nat} {μ0 : Nat → Loc} {h0 hc : H} {μc : Nat → Loc} (hcinv : Inv W w k μc hc) (hBW : B ≤ W) : ∀ n : Nat,
    (∀ {seen seen' : List Nat} {μ : Nat → Loc} {h h' : H} {u : Value} {v v' : V}, Imp B W w k μ0 h0 μ h hc μc seen → RepV k μc hc.has u v → imp n seen hc h v = some (v', h', seen') →
      ∃ μ', Imp B W w k μ0 h0 μ' h' hc μc seen' ∧ RepV k μ' h'.has u v' ∧ (∀ i, h.has i → h'.has i) ∧ ∀ i, h.has i → μ' i = μ i) ∧
    (∀ {seen seen' : List Nat} {μ : Nat → Loc} {h h' : H} {us : List Value} {vs vs' : List V}, Imp B W w k μ0 h0 μ h hc μc seen → RepVs k μc hc.has us vs → impL n seen hc h vs = some (vs', h', seen') →
      ∃ μ', Imp B W w k μ0 h0 μ' h' hc μc seen' ∧ RepVs k μ' h'.has us vs' ∧ (∀ i, h.has i → h'.has i) ∧ ∀ i, h.has i → μ' i = μ i) := by
  intro n
  induction n with
  | zero =>
    refine ⟨fun _ _ hf => by simp [imp] at hf, ?_⟩
    intro seen seen' μ h h' us vs vs' hI hr hf
    cases vs with
    | nil => simp [impL] at hf; obtain ⟨rfl, rfl, rfl⟩ := hf; rw [hr.nil_inv]; exact ⟨μ, hI, RepVs.nil, fun _ h => h, fun _ _ => rfl⟩
    | cons v vs => simp [impL] at hf
  | succ n ih =>
    obtain ⟨ih1, ih2⟩ := ih
    refine ⟨?_, ?_⟩
    · intro seen seen' μ h h' u v v' hI hr hf
      cases hr with
      | d u x hr => simp [imp] at hf; obtain ⟨rfl, rfl, rfl⟩ := hf; exact ⟨μ, hI, .d _ _ hr, fun _ h => h, fun _ _ => rfl⟩
      | arr i off len z cap c hin hn hcc hrr hq p hp =>
        simp only [imp] at hf
        split at hf
        · cases hf
        · rename_i hns
          split at hf
          · rename_i cs hg
            split at hf
            · rename_i ds hds
              injection hf with hf; injection hf with e1 e2; injection e2 with e2 e3; subst e1; subst e2; subst e3
              have hlv : live (hc.get i) = true := by rw [hg]; rfl
              have hob := hcinv.obj i
              rw [hg] at hob
              obtain ⟨vs, e, q1, q2, q3, q4, q5⟩ := hob
              have hlow := hcinv.low i hlv
              have hno : ∀ j, live (h.get j) = true → (μ j).blk ≠ (μc i).blk := fun j hl e => by
                rcases hI.old j hl with h1 | ⟨q, hq1, hq2, hq3⟩
                · omega
                · have hqi : q ≠ i := fun e' => by subst e'; exact hns (by simpa using hq1)
                  exact hcinv.sep q i hqi hq2 hlv (hq3.symm.trans e)
              have hinv := hI.inv.adopt (l := μc i) (cs := cs) (by omega) hno ⟨vs, e, q1, q2, q3, RepV_of_D hds q4, q5⟩
              refine ⟨updμ μ h.next (μc i), ⟨hinv, fun j hj => (H.has_new _ _ _).2 (.inr (hI.nle j hj)), fun j hj => by rw [updμ_ne _ _ (by rintro rfl; exact hI.inv.fresh (hI.nle _ hj))]; exact hI.mu j hj, fun j hl => ?_, fun j hl => ?_⟩, ?_, fun j hj => (H.has_new _ _ _).2 (.inr hj), fun j hj => updμ_ne _ _ (by rintro rfl; exact hI.inv.fresh hj)⟩
              · by_cases ej : j = h.next
                · subst ej; rw [updμ_same]; exact .inr ⟨i, by simp, hlv, rfl⟩
                · rw [H.get_new_ne _ _ ej] at hl; rw [updμ_ne _ _ ej]
                  exact (hI.old j hl).imp id fun ⟨q, a1, a2, a3⟩ => ⟨q, by simp [a1], a2, a3⟩
              · by_cases ej : j = h.next
                · subst ej; rw [updμ_same]; exact .inr hlow
                · rw [H.get_new_ne _ _ ej] at hl; rw [updμ_ne _ _ ej]; exact hI.own j hl
              · have := RepV.arr (k := k) (μ := updμ μ h.next (μc i)) (n := (h.new (.cells cs)).has) h.next off len z cap c ((H.has_new _ _ _).2 (.inl rfl)) hn hcc (by rw [updμ_same]; exact hrr) (by rw [updμ_same]; exact hq) p (by rw [updμ_same]; exact hp)
                rw [updμ_same] at this
                exact this
            · cases hf
          · cases hf
      | agg vs ds us s g hh =>
        simp only [imp] at hf
        split at hf
        · rename_i vs' h1 s1 he
          injection hf with hf; injection hf with e1 e2; injection e2 with e2 e3; subst e1; subst e2; subst e3
          obtain ⟨μ', f1, f2, f3, f4⟩ := ih2 hI (repVs_of s g hh) he
          exact ⟨μ', f1, repV_mkAgg f2, f3, f4⟩
        · cases hf
      | tuple vs ds us s g hh =>
        simp only [imp] at hf
        split at hf
        · rename_i vs' h1 s1 he
          injection hf with hf; injection hf with e1 e2; injection e2 with e2 e3; subst e1; subst e2; subst e3
          obtain ⟨μ', f1, f2, f3, f4⟩ := ih2 hI (repVs_of s g hh) he
          exact ⟨μ', f1, repV_mkTuple f2, f3, f4⟩
        · cases hf
      | ptr => simp [imp] at hf
      | mapr => simp [imp] at hf
      | func => simp [imp] at hf
      | iface => simp [imp] at hf
    · intro seen seen' μ h h' us vs vs' hI hr hf
      cases vs with
      | nil => simp [impL] at hf; obtain ⟨rfl, rfl, rfl⟩ := hf; rw [hr.nil_inv]; exact ⟨μ, hI, RepVs.nil, fun _ h => h, fun _ _ => rfl⟩
      | cons v vs =>
        obtain ⟨u, us, rfl, r1, r2⟩ := hr.cons_inv
        simp only [impL] at hf
        split at hf
        · rename_i v1 h1 s1 he
          split at hf
          · rename_i vs2 h2 s2 he2
            injection hf with hf; injection hf with e1 e2; injection e2 with e2 e3; subst e1; subst e2; subst e3
            obtain ⟨μ1, f1, f2, f3, f4⟩ := ih1 hI r1 he
            obtain ⟨μ2, g1, g2, g3, g4⟩ := ih2 f1 r2 he2
            exact ⟨μ2, g1, RepVs.cons (f2.mono (K.le_refl k) g4 g3) g2, fun i hi => g3 i (f3 i hi), fun i hi => by rw [g4 i (f3 i hi), f4 i hi]⟩
          · cases hf
        · cases hf

theorem Inv.empty {B : Nat} (ha : Agree k w) (hB : B ≤ w.heap.size) : Inv B w k μ H.empty := by
  have hno : ∀ i, ¬ H.empty.has i := fun i hh => by simp [H.has, H.empty, OT.get] at hh
  refine ⟨ha, fun i hd => absurd (H.get_empty i) hd, fun i hh => absurd hh (hno i), hno _, Nat.le_refl _, fun i => ?_, fun i j _ h1 => ?_, fun i h1 => ?_, hB⟩
  · rw [H.get_empty]; trivial
  · rw [H.get_empty] at h1; simp [live] at h1
  · rw [H.get_empty] at h1; simp [live] at h1

theorem s_callO' (r : Rel G N w k μ hb ρ h a) (hd : ∀ d, o.dst = some d → d < N) (hC : CallsOk P C) {f : Nat} {vs : List V} (hs : callO C h f vs = some y) {args : Array Value} (hr : RepVs k μ h.has args.toList vs)
    (hrun : ∀ fn, P.funcs[f]? = some fn → fn.body.isSome = true → fn.name ≠ "runtime.NumGoroutine" → (execOp a.eval o).run P w = .ok (.enter f args) w) : o.wp P a w (Nx G N (putρ (slotρ ρ y.slot) o.dst y.val) y.heap) Q := by
  unfold callO at hs
  split at hs
  · rename_i ds hds
    split at hs
    · rename_i v hc wc he
      split at hs
      · rename_i v' h' s' him
        injection hs with hs; subst hs
        obtain ⟨fn, b1, b2, b3⟩ := hC.body f (.inr ⟨vs, H.empty, _, he⟩)
        have hr0 : RepVs k (fun _ => default) H.empty.has args.toList vs := RepV_of_D hds hr
        refine wp_enter (hrun fn b1 b2 b3) (hC.full f vs v H.empty hc wc he w.heap.size w k (fun _ => default) args (Inv.empty r.inv.agree (Nat.le_refl _)) hr0) ?_
        rintro e w' ⟨u, k', μc, rfl, h1, h2, h3⟩
        have hem : ∀ i, ¬ live (H.empty.get i) = true := fun i hl => by rw [H.get_empty] at hl; simp [live] at hl
        have hf : ∀ b o u, k'.F b o = some u → k.F b o = some u ∨ w.heap.size ≤ b := fun b o u hu => by
          rcases h2.fnew _ _ _ hu with h | ⟨i, hl, _⟩ | h
          · exact .inl h
          · exact absurd hl (hem i)
          · exact .inr h
        have hm : ∀ b es, k'.M b = some es → k.M b = some es ∨ w.heap.size ≤ b := fun b es he' => by
          rcases h2.mnew _ _ he' with h | ⟨i, hl, _⟩ | h
          · exact .inl h
          · exact absurd hl (hem i)
          · exact .inr h
        have hfr : ∀ b, b < w.heap.size → w'.heap[b]? = w.heap[b]? := fun b hb' => h2.frame b hb' fun i hl => absurd hl (hem i)
        have hg := r.inv.grow h2.size hfr h1.agree h2.kle hf hm
        have hI : Imp G.B w.heap.size w' k' μ h μ h hc μc [] := ⟨hg, fun _ h => h, fun _ _ => rfl, fun i hl => .inl (r.inv.live_lt hl), fun i hl => .inl ⟨i, hl, rfl⟩⟩
        obtain ⟨μ', f1, f2, f3, f4⟩ := (imp_ok h1 r.inv.bot 1000).1 hI h3 him
        have hx : Ext w k μ h w' k' μ' h' := ⟨h2.kle, fun b o u hu => (hf b o u hu).imp id .inr, fun b es he' => (hm b es he').imp id .inr, f1.mu, f1.nle, h2.os, h2.tape, h2.output, h2.size, fun b hb' _ => hfr b hb', f1.own⟩
        exact ⟨u, rfl, k', μ', hb, (r.step f1.inv hx).put hd f2⟩
      · cases hs
    · cases hs
  · obtain ⟨v, h', ws, he, rfl⟩ := callF_eq hs
    obtain ⟨fn, b1, b2, b3⟩ := hC.body f (.inr ⟨vs, h, _, he⟩)
    exact callF_full r hd hC he hr (hrun fn b1 b2 b3)

theorem s_callD' (r : Rel G N w k μ hb ρ h a) (hd : ∀ d, o.dst = some d → d < N) (hC : CallsOk P C) {f : Nat} {vs : List V} (hs : callD C h f vs = some y) {args : Array Value} (hr : RepVs k μ h.has args.toList vs)
    (hrun : ∀ fn, P.funcs[f]? = some fn → fn.body.isSome = true → fn.name ≠ "runtime.NumGoroutine" → (execOp a.eval o).run P w = .ok (.enter f args) w) : o.wp P a w (Nx G N (putρ (slotρ ρ y.slot) o.dst y.val) y.heap) Q := by
  unfold callD at hs
  split at hs
  · rename_i ds hds
    split at hs
    · rename_i d he
      injection hs with hs; subst hs
      obtain ⟨fn, b1, b2, b3⟩ := hC.body f (.inl ⟨ds, d, he⟩)
      rw [allD_eq hds] at hr
      exact callD_pure r hd hC he (repVs_d.1 hr) (hrun fn b1 b2 b3)
    · cases hs
  · split at hs
    · rename_i ds h' hfr
      split at hs
      · rename_i d he
        injection hs with hs; subst hs
        obtain ⟨fn, b1, b2, b3⟩ := hC.body f (.inl ⟨ds, d, he⟩)
        obtain ⟨k', fz, hds⟩ := (frz_ok (B := G.B) (w := w) (μ := μ) 100000).2.1 r.inv hr hfr
        exact callD_pure (r.step fz.inv fz.ext) hd hC he hds (hrun fn b1 b2 b3)
      · cases hs
    · cases hs

/-- the operation of a call of a known function -/
theorem exec_static {c : Call} {f : Nat} (ho : o.op = .call c) (h1 : c.callee = .value (.func f)) (fn : Func) (b1 : P.funcs[f]? = some fn) (b2 : fn.body.isSome = true) (b3 : fn.name ≠ "runtime.NumGoroutine") : (execOp a.eval o).run P w = .ok (.enter f (c.args.map a.eval)) w := by
  have e1 : a.eval (.func f) = .func (.func f) #[] #[] := rfl
  simp [execOp, ho, resolve, h1, e1, Deferred.ofValue, invoke, run_callFunc b1 b2 b3]

theorem s_call (r : Rel G N w k μ hb ρ h a) (hd : ∀ d, o.dst = some d → d < N) (hC : CallsOk P C) {c : Call} {f : Nat} {xs : List Opnd} (ho : o.op = .call c) (h1 : c.callee = .value (.func f)) (hc : chkOpnds c.args.toList xs = true)
    (hs : opSem C ρ h (.call f xs) = some y) : o.wp P a w (Nx G N (putρ (slotρ ρ y.slot) o.dst y.val) y.heap) Q := by
  simp only [opSem] at hs
  split at hs
  · rename_i vs e1
    exact s_callD' r hd hC hs (args := c.args.map a.eval) (by simpa using opvs_rep r hc e1) (exec_static ho h1)
  · cases hs
theorem s_callX (r : Rel G N w k μ hb ρ h a) (hd : ∀ d, o.dst = some d → d < N) (hC : CallsOk P C) {c : Call} {f : Nat} {xs : List Opnd} (ho : o.op = .call c) (h1 : c.callee = .value (.func f)) (hc : chkOpnds c.args.toList xs = true)
    (hs : opSem C ρ h (.callX f xs) = some y) : o.wp P a w (Nx G N (putρ (slotρ ρ y.slot) o.dst y.val) y.heap) Q := by
  simp only [opSem] at hs
  split at hs
  · rename_i vs e1
    exact s_callX' r hd hC hs (args := c.args.map a.eval) (by simpa using opvs_rep r hc e1) (exec_static ho h1)
  · cases hs
theorem s_callS (r : Rel G N w k μ hb ρ h a) (hd : ∀ d, o.dst = some d → d < N) (hC : CallsOk P C) {c : Call} {f : Nat} {xs : List Opnd} (ho : o.op = .call c) (h1 : c.callee = .value (.func f)) (hc : chkOpnds c.args.toList xs = true)
    (hs : opSem C ρ h (.callS f xs) = some y) : o.wp P a w (Nx G N (putρ (slotρ ρ y.slot) o.dst y.val) y.heap) Q := by
  simp only [opSem] at hs
  split at hs
  · rename_i vs e1
    exact s_callO' r hd hC hs (args := c.args.map a.eval) (by simpa using opvs_rep r hc e1) (exec_static ho h1)
  · cases hs

theorem funcOf_rep {n : Nat → Prop} {g : V} {vs : List V} {f : Nat} {xs : List V} (hg : funcOf g vs = some (f, xs)) (r : RepV k μ n u g) {us : List Value} (hr : RepVs k μ n us vs) : ∃ ps qs, u = .func (.func f) ps qs ∧ RepVs k μ n (ps.toList ++ us ++ qs.toList) xs := by
  unfold funcOf at hg
  split at hg
  · injection hg with hg; injection hg with e1 e2; subst e1; subst e2
    cases r with
    | d _ _ hr' => cases hr' with
      | func f ps qs xs ys us1 us2 s1 s2 g1 hh1 g2 hh2 =>
        exact ⟨ps, qs, rfl, ((repVs_d.2 (repDs_of s1 g1 hh1)).append hr).append (repVs_d.2 (repDs_of s2 g2 hh2))⟩
  · injection hg with hg; injection hg with e1 e2; subst e1; subst e2
    cases r with
    | func f ps qs xs ys us1 us2 s1 s2 g1 hh1 g2 hh2 =>
      exact ⟨ps, qs, rfl, ((repVs_of s1 g1 hh1).append hr).append (repVs_of s2 g2 hh2)⟩
  · cases hg

theorem s_callV (r : Rel G N w k μ hb ρ h a) (hd : ∀ d, o.dst = some d → d < N) (hC : CallsOk P C) {c : Call} {g : Operand} {g' : Opnd} {xs : List Opnd} (ho : o.op = .call c) (h1 : c.callee = .value g) (hg : chkOpnd g g' = true) (hc : chkOpnds c.args.toList xs = true)
    (hs : opSem C ρ h (.callV g' xs) = some y) : o.wp P a w (Nx G N (putρ (slotρ ρ y.slot) o.dst y.val) y.heap) Q := by
  simp only [opSem] at hs
  split at hs
  · rename_i gv vs e1 e2
    split at hs
    · rename_i f xs' e3
      have hrs : RepVs k μ h.has (c.args.map a.eval).toList vs := by simpa using opvs_rep r hc e2
      obtain ⟨ps, qs, hu, hr⟩ := funcOf_rep e3 (opv_rep r hg e1) hrs
      refine s_callX' r hd hC hs (args := ps ++ c.args.map a.eval ++ qs) (by simpa using hr) (fun fn b1 b2 b3 => ?_)
      simp [execOp, ho, resolve, h1, hu, Deferred.ofValue, invoke, run_callFunc b1 b2 b3]
    · cases hs
  · cases hs
end
end Go.Avm

/- The abstract machine on data: a translation of an operation is checked, and then what it does is what the model does. -/
namespace Go.Avm
open Go

def chkCall (o : Oper) (p : Call → Bool) : Bool := match o.op with
  | .call c => p c
  | _ => false
def isBuiltin (c : Call) : Option Builtin := match c.callee with
  | .builtin b => some b
  | _ => none
def isStatic (c : Call) : Option Nat := match c.callee with
  | .value (.func f) => some f
  | _ => none

def resOk (P : Program) (t : TypeId) : Option Operand → Bool
  | none => true
  | some (.const (.int .i64 _)) => match P.underlying t with
    | some (.map _ _) => true
    | _ => false
  | _ => false

def chkOp (P : Program) (o : Oper) : AOp → Bool
  | .unk => true
  | .mv y => match o.op with
    | .move x | .assign x => chkOpnd x y
    | _ => false
  | .pick c y z => match o.op with
    | .pick c' x x' => chkOpnd c' c && chkOpnd x y && chkOpnd x' z
    | _ => false
  | .alloc zs => match o.op with
    | .alloc t => zOk P t zs
    | _ => false
  | .hole zs => match o.op with
    | .alloc t => zOk P t zs && o.dst.isSome
    | _ => false
  | .box y => match o.op with
    | .box _ x => chkOpnd x y
    | _ => false
  | .boxF y => match o.op with
    | .box _ x => chkOpnd x y
    | _ => false
  | .build zs ps => match o.op with
    | .build t qs => chkBuild P t qs zs ps
    | _ => false
  | .load n ag y => match o.op with
    | .load t x => chkOpnd x y && szOk P t n && agOk P t ag
    | _ => false
  | .store n y z => match o.op with
    | .store t x x' => chkOpnd x y && chkOpnd x' z && szOk P t n
    | _ => false
  | .storeF n s z => match o.op with
    | .store t (.tmp s') x' => (s == s') && chkOpnd x' z && szOk P t n && o.dst.isNone
    | _ => false
  | .nilck y => match o.op with
    | .nilCheck x => chkOpnd x y
    | _ => false
  | .bin op y z => match o.op with
    | .binOp op' _ x x' _ => decide (op = op') && chkOpnd x y && chkOpnd x' z
    | _ => false
  | .eqB neq y z => match o.op with
    | .binOp op' t x x' _ => decide (op' = if neq then .neq else .eql) && chkOpnd x y && chkOpnd x' z && (match P.underlying t with | some .bool => true | _ => false)
    | _ => false
  | .eqNil kk neq y => match o.op with
    | .binOp op' t x x' _ => decide (op' = if neq then .neq else .eql) && (chkOpnd x y && nilConst kk x' || chkOpnd x' y && nilConst kk x) && nilTy P kk t
    | _ => false
  | .eqPtrs n neq y z => match o.op with
    | .binOp op' t x x' _ => decide (op' = if neq then .neq else .eql) && chkOpnd x y && chkOpnd x' z && chkPtrs P t n
    | _ => false
  | .un op y => match o.op with
    | .unOp op' _ x => decide (op = op') && chkOpnd x y
    | _ => false
  | .conv i y => match o.op with
    | .convert s t x => chkOpnd x y && (P.underlying s).isSome && (match P.underlying t with | some (.int j) => decide (i = j) | _ => false)
    | _ => false
  | .convStr y => match o.op with
    | .convert s t x => chkOpnd x y && (match P.underlying s, P.underlying t with | some .string, some .string => true | _, _ => false)
    | _ => false
  | .mkI t y => match o.op with
    | .makeInterface t' x => (t == t') && chkOpnd x y && P.concrete t
    | _ => false
  | .mkF f ys zs => match o.op with
    | .makeFunc (.func g) xs xs' => (f == g) && chkOpnds xs.toList ys && chkOpnds xs'.toList zs
    | _ => false
  | .mkMap => match o.op with
    | .makeMap t res => resOk P t res
    | _ => false
  | .mkSl z bytes zs y y' => match o.op with
    | .makeSlice t x x' => chkOpnd x y && chkOpnd x' y' && (match sliceOf P t with
      | some e => zOk P e zs && (match P.info? e with | some i => i.size == z && i.bytes == bytes | none => false)
      | none => false)
    | _ => false
  | .buildS z zs n ps _ => match o.op with
    | .buildSlice t n' qs => (n == n') && (match sliceOf P t with
      | some e => zOk P e zs && szOk P e z && zs.length == z && decide (0 < z) && decide (n * z ≤ 16777216) && chkPartsS z qs.toList ps
      | none => false)
    | _ => false
  | .slice z y lo hi mx => match o.op with
    | .slice t x lo' hi' mx' => chkOpnd x y && chkOpt lo' lo && chkOpt hi' hi && chkOpt mx' mx && (match sliceOf P t with
      | some e => szOk P e z
      | none => false)
    | _ => false
  | .sliceStr y lo hi => match o.op with
    | .slice t x lo' hi' none => chkOpnd x y && chkOpt lo' lo && chkOpt hi' hi && (match P.underlying t with | some .string => true | _ => false)
    | _ => false
  | .fld n ag off y => match o.op with
    | .field t x i => chkOpnd x y && (match P.underlying t with
      | some (.struct fs) => match fs[i]? with
        | some f => f.offset == off && szOk P f.type n && agOk P f.type ag
        | none => false
      | _ => false)
    | _ => false
  | .fAddr off y => match o.op with
    | .fieldAddr t x i => chkOpnd x y && (match structOf P t with
      | some fs => match fs[i]? with
        | some f => f.offset == off && (match P.info? f.type with | some j => decide (j.size ≠ 0) | none => false)
        | none => false
      | none => false)
    | _ => false
  | .iAddr z y i => match o.op with
    | .indexAddr t x i' => chkOpnd x y && chkOpnd i' i && (match sliceOf P t with
      | some e => szOk P e z
      | none => false)
    | _ => false
  | .iAddrA z len y i => match o.op with
    | .indexAddr t x i' => chkOpnd x y && chkOpnd i' i && (match arrayOf P t with
      | some (n, e) => n == len && szOk P e z
      | none => false)
    | _ => false
  | .idxS y i => match o.op with
    | .index t x i' => chkOpnd x y && chkOpnd i' i && (match P.underlying t with | some .string => true | _ => false)
    | _ => false
  | .lookup kk zero m y ok => match o.op with
    | .lookup t m' x ok' => (ok == ok') && chkOpnd m' m && chkOpnd x y && (match mapTy P t kk with
      | some (_, e) => z1Ok P e zero
      | none => false)
    | _ => false
  | .mapUp kk m y z => match o.op with
    | .mapUpdate t m' x x' | .insert t m' x x' => chkOpnd m' m && chkOpnd x y && chkOpnd x' z && (mapTy P t kk).isSome
    | _ => false
  | .mapEnt kk zero m y => match o.op with
    | .mapEntry t m' x => chkOpnd m' m && chkOpnd x y && (match mapTy P t kk with
      | some (_, e) => z1Ok P e zero
      | none => false)
    | _ => false
  | .entSt m y z => match o.op with
    | .entryStore _ m' x x' => chkOpnd m' m && chkOpnd x y && chkOpnd x' z
    | _ => false
  | .tassert y t ok zero => match o.op with
    | .typeAssert x _ t' ok' => (t == t') && (ok == ok') && chkOpnd x y && concTy P t && z1Ok P t zero
    | _ => false
  | .ext y i => match o.op with
    | .extract x i' => (i == i') && chkOpnd x y
    | _ => false
  | .call f ys => chkCall o fun c => isStatic c == some f && chkOpnds c.args.toList ys
  | .callX f ys => chkCall o fun c => isStatic c == some f && chkOpnds c.args.toList ys
  | .callS f ys => chkCall o fun c => isStatic c == some f && chkOpnds c.args.toList ys
  | .callV g ys => chkCall o fun c => match c.callee with
    | .value g' => chkOpnd g' g && chkOpnds c.args.toList ys
    | _ => false
  | .len kk y => chkCall o fun c => isBuiltin c == some .len && (match c.args.toList, c.argTypes[0]? with
    | [x], some t => chkOpnd x y && lenTy P kk t
    | _, _ => false)
  | .append z bytes s x => chkCall o fun c => isBuiltin c == some .append && (match c.args.toList with
    | [s', x'] => chkOpnd s' s && chkOpnd x' x && chkApp P c.argTypes z bytes false
    | _ => false)
  | .appendZ z bytes zs s x => chkCall o fun c => isBuiltin c == some .append && (match c.args.toList with
    | [s', x'] => chkOpnd s' s && chkOpnd x' x && chkApp P c.argTypes z bytes true && (match c.argTypes[0]? with
      | some t => match sliceOf P t with
        | some e => zOk P e zs
        | none => false
      | none => false)
    | _ => false)
  | .clear _ zs y => chkCall o fun c => isBuiltin c == some .clear && (match c.args.toList, c.argTypes[0]? with
    | [x], some t => chkOpnd x y && (match sliceOf P t with
      | some e => zOk P e zs
      | none => false)
    | _, _ => false)
  | .cap y => chkCall o fun c => isBuiltin c == some .cap && (match c.args.toList, c.argTypes[0]? with
    | [x], some t => chkOpnd x y && (sliceOf P t).isSome
    | _, _ => false)
  | .copy .. => false
  | .max ys => chkCall o fun c => isBuiltin c == some .max && chkOpnds c.args.toList ys
  | .min ys => chkCall o fun c => isBuiltin c == some .min && chkOpnds c.args.toList ys
  | .range y => match o.op with
    | .range t x => chkOpnd x y && (match P.underlying t with
      | some (.map _ _) => true
      | _ => false)
    | _ => false
  | .next y => match o.op with
    | .next x false => chkOpnd x y
    | _ => false
  | .entry y => match o.op with
    | .entry x => chkOpnd x y
    | _ => false

theorem chkCall_spec {o : Oper} {p : Call → Bool} (h : chkCall o p = true) : ∃ c, o.op = .call c ∧ p c = true := by
  unfold chkCall at h
  split at h
  · rename_i c hc; exact ⟨c, hc, h⟩
  · cases h
theorem isBuiltin_spec {c : Call} {b : Builtin} (h : isBuiltin c = some b) : c.callee = .builtin b := by
  unfold isBuiltin at h
  split at h
  · rename_i b' hb; injection h with h; rw [hb, h]
  · cases h
theorem isStatic_spec {c : Call} {f : Nat} (h : isStatic c = some f) : c.callee = .value (.func f) := by
  unfold isStatic at h
  split at h
  · rename_i b' hb; injection h with h; rw [hb, h]
  · cases h
theorem args_one {c : Call} {x : Operand} (h : c.args.toList = [x]) : c.args = #[x] := by
  apply Array.ext'; simpa using h
theorem args_two {c : Call} {x z : Operand} (h : c.args.toList = [x, z]) : c.args = #[x, z] := by
  apply Array.ext'; simpa using h

section
variable {P : Program} {G : Start} {N : Nat} {w w' : World} {k k' : K} {μ μ' : Nat → Loc} {hb : Nat → Nat} {ρ : Nat → Option V} {h h' : H} {a : Act} {o : Oper} {Q : Exit → Act → World → Prop} {u : Value} {v : V} {C : Calls} {y : Did}

set_option maxHeartbeats 1000000 in
theorem op_sound (hC : CallsOk P C) (r : Rel G N w k μ hb ρ h a) (hd : ∀ d, o.dst = some d → d < N) {ao : AOp} (hk : chkOp P o ao = true) (hs : opSem C ρ h ao = some y) : o.wp P a w (Nx G N (putρ (slotρ ρ y.slot) o.dst y.val) y.heap) Q := by
  cases ao with
  | unk => simp [opSem] at hs
  | mv x => simp only [chkOp] at hk; split at hk
            · rename_i e; exact s_mv r hd (.inl e) hk hs
            · rename_i e; exact s_mv r hd (.inr e) hk hs
            · cases hk
  | pick c x z => simp only [chkOp] at hk; split at hk
                  · rename_i e; simp only [Bool.and_eq_true] at hk; exact s_pick r hd e hk.1.1 hk.1.2 hk.2 hs
                  · cases hk
  | alloc zs => simp only [chkOp] at hk; split at hk
                · rename_i e; exact s_alloc r hd e hk hs
                · cases hk
  | hole zs => simp only [chkOp] at hk; split at hk
               · rename_i e; simp only [Bool.and_eq_true] at hk
                 obtain ⟨dd, hdd⟩ := Option.isSome_iff_exists.1 hk.2
                 exact s_hole r hdd (hd dd hdd) e hk.1 hs
               · cases hk
  | box x => simp only [chkOp] at hk; split at hk
             · rename_i e; exact s_box r hd e hk hs
             · cases hk
  | boxF x => simp only [chkOp] at hk; split at hk
              · rename_i e; exact s_boxF r hd e hk hs
              · cases hk
  | build zs ps => simp only [chkOp] at hk; split at hk
                   · rename_i e; exact s_build r hd e hk hs
                   · cases hk
  | load n ag x => simp only [chkOp] at hk; split at hk
                   · rename_i e; simp only [Bool.and_eq_true] at hk; exact s_load r hd e hk.1.1 hk.1.2 hk.2 hs
                   · cases hk
  | store n x z => simp only [chkOp] at hk; split at hk
                   · rename_i e; simp only [Bool.and_eq_true] at hk; exact s_store r hd e hk.1.1 hk.1.2 hk.2 hs
                   · cases hk
  | storeF n s z => simp only [chkOp] at hk; split at hk
                    · rename_i e; simp only [Bool.and_eq_true, beq_iff_eq] at hk
                      obtain ⟨⟨⟨rfl, h1⟩, h2⟩, h3⟩ := hk
                      exact s_storeF r (by cases hq : o.dst <;> simp [hq] at h3 ⊢) e h1 h2 hs
                    · cases hk
  | nilck x => simp only [chkOp] at hk; split at hk
               · rename_i e; exact s_nilck r hd e hk hs
               · cases hk
  | bin op x z => simp only [chkOp] at hk; split at hk
                  · rename_i e; simp only [Bool.and_eq_true, decide_eq_true_eq] at hk
                    obtain ⟨⟨rfl, h1⟩, h2⟩ := hk
                    exact s_bin r hd e h1 h2 hs
                  · cases hk
  | eqB neq x z => simp only [chkOp] at hk; split at hk
                   · rename_i e; simp only [Bool.and_eq_true, decide_eq_true_eq] at hk
                     obtain ⟨⟨⟨rfl, h1⟩, h2⟩, h3⟩ := hk
                     split at h3
                     · rename_i hu; exact s_eqB r hd e h1 h2 hu hs
                     · cases h3
                   · cases hk
  | eqNil kk neq x => simp only [chkOp] at hk; split at hk
                      · rename_i e; simp only [Bool.and_eq_true, decide_eq_true_eq, Bool.or_eq_true] at hk
                        obtain ⟨⟨rfl, h1⟩, h2⟩ := hk
                        rcases h1 with h1 | h1
                        · exact s_eqNil r hd (.inl ⟨e, h1.1, h1.2⟩) h2 hs
                        · exact s_eqNil r hd (.inr ⟨e, h1.1, h1.2⟩) h2 hs
                      · cases hk
  | eqPtrs n neq x z => simp only [chkOp] at hk; split at hk
                        · rename_i e; simp only [Bool.and_eq_true, decide_eq_true_eq] at hk
                          obtain ⟨⟨⟨rfl, h1⟩, h2⟩, h3⟩ := hk
                          exact s_eqPtrs r hd e h1 h2 h3 hs
                        · cases hk
  | un op x => simp only [chkOp] at hk; split at hk
               · rename_i e; simp only [Bool.and_eq_true, decide_eq_true_eq] at hk
                 obtain ⟨rfl, h1⟩ := hk
                 exact s_un r hd e h1 hs
               · cases hk
  | conv i x => simp only [chkOp] at hk; split at hk
                · rename_i e; simp only [Bool.and_eq_true] at hk
                  obtain ⟨⟨h1, h2⟩, h3⟩ := hk
                  obtain ⟨ds, hds⟩ := Option.isSome_iff_exists.1 h2
                  split at h3
                  · rename_i hu; simp only [decide_eq_true_eq] at h3; subst h3; exact s_conv r hd e h1 hds hu hs
                  · cases h3
                · cases hk
  | convStr x => simp only [chkOp] at hk; split at hk
                 · rename_i e; simp only [Bool.and_eq_true] at hk
                   obtain ⟨h1, h2⟩ := hk
                   split at h2
                   · rename_i u1 u2; exact s_convStr r hd e h1 u1 u2 hs
                   · cases h2
                 · cases hk
  | mkI t x => simp only [chkOp] at hk; split at hk
               · rename_i e; simp only [Bool.and_eq_true, beq_iff_eq] at hk
                 obtain ⟨⟨rfl, h1⟩, h2⟩ := hk
                 exact s_mkI r hd e h1 h2 hs
               · cases hk
  | mkF f xs zs => simp only [chkOp] at hk; split at hk
                   · rename_i e; simp only [Bool.and_eq_true, beq_iff_eq] at hk
                     obtain ⟨⟨rfl, h1⟩, h2⟩ := hk
                     exact s_mkF r hd e h1 h2 hs
                   · cases hk
  | mkMap => simp only [chkOp] at hk; split at hk
             · rename_i t res e
               refine s_mkMap r hd e ?_ hs
               unfold resOk at hk
               split at hk
               · exact .inl rfl
               · split at hk
                 · rename_i hu; exact .inr ⟨_, _, _, hu, rfl⟩
                 · cases hk
               · cases hk
             · cases hk
  | mkSl z bytes zs x x' => simp only [chkOp] at hk; split at hk
                            · rename_i e; simp only [Bool.and_eq_true] at hk
                              obtain ⟨⟨h1, h2⟩, h3⟩ := hk
                              split at h3
                              · rename_i e' he; simp only [Bool.and_eq_true] at h3
                                obtain ⟨h4, h5⟩ := h3
                                split at h5
                                · rename_i i hi; simp only [Bool.and_eq_true, beq_iff_eq] at h5
                                  exact s_mkSl r hd e h1 h2 he h4 hi h5.1 h5.2 hs
                                · cases h5
                              · cases h3
                            · cases hk
  | buildS z zs n ps own => simp only [chkOp] at hk; split at hk
                            · rename_i e; simp only [Bool.and_eq_true, beq_iff_eq] at hk
                              obtain ⟨rfl, h3⟩ := hk
                              split at h3
                              · rename_i e' he; simp only [Bool.and_eq_true, beq_iff_eq, decide_eq_true_eq] at h3
                                obtain ⟨⟨⟨⟨⟨q1, q2⟩, q3⟩, q4⟩, q5⟩, q6⟩ := h3
                                exact s_buildS r hd e he q1 q2 q3 q4 q5 q6 hs
                              · cases h3
                            · cases hk
  | slice z x lo hi mx => simp only [chkOp] at hk; split at hk
                          · rename_i e; simp only [Bool.and_eq_true] at hk
                            obtain ⟨⟨⟨⟨h1, h2⟩, h3⟩, h4⟩, h5⟩ := hk
                            split at h5
                            · rename_i e' he; exact s_slice r hd e h1 h2 h3 h4 he h5 hs
                            · cases h5
                          · cases hk
  | sliceStr x lo hi => simp only [chkOp] at hk; split at hk
                        · rename_i e; simp only [Bool.and_eq_true] at hk
                          obtain ⟨⟨⟨h1, h2⟩, h3⟩, h4⟩ := hk
                          split at h4
                          · rename_i hu; exact s_sliceStr r hd e h1 h2 h3 hu hs
                          · cases h4
                        · cases hk
  | fld n ag off x => simp only [chkOp] at hk; split at hk
                      · rename_i e; simp only [Bool.and_eq_true] at hk
                        obtain ⟨h1, h2⟩ := hk
                        split at h2
                        · rename_i fs hu
                          split at h2
                          · rename_i f hf; simp only [Bool.and_eq_true, beq_iff_eq] at h2
                            exact s_fld r hd e h1 hu hf h2.1.1 h2.1.2 h2.2 hs
                          · cases h2
                        · cases h2
                      · cases hk
  | fAddr off x => simp only [chkOp] at hk; split at hk
                   · rename_i t x0 i e; simp only [Bool.and_eq_true] at hk
                     obtain ⟨h1, h2⟩ := hk
                     split at h2
                     · rename_i fs hu
                       split at h2
                       · rename_i f hf; simp only [Bool.and_eq_true, beq_iff_eq] at h2
                         obtain ⟨h3, h4⟩ := h2
                         split at h4
                         · rename_i j hj; simp only [decide_eq_true_eq] at h4
                           exact s_fAddr r hd e h1 (n := j.size) (by simp [fieldOk, hu, hf, h3, szOk, hj]) h4 hs
                         · cases h4
                       · cases h2
                     · cases h2
                   · cases hk
  | iAddr z x i => simp only [chkOp] at hk; split at hk
                   · rename_i e; simp only [Bool.and_eq_true] at hk
                     obtain ⟨⟨h1, h2⟩, h3⟩ := hk
                     split at h3
                     · rename_i e' he; exact s_iAddr r hd e h1 h2 he h3 hs
                     · cases h3
                   · cases hk
  | iAddrA z len x i => simp only [chkOp] at hk; split at hk
                        · rename_i e; simp only [Bool.and_eq_true] at hk
                          obtain ⟨⟨h1, h2⟩, h3⟩ := hk
                          split at h3
                          · rename_i n e' he; simp only [Bool.and_eq_true, beq_iff_eq] at h3
                            obtain ⟨rfl, h4⟩ := h3
                            exact s_iAddrA r hd e h1 h2 he h4 hs
                          · cases h3
                        · cases hk
  | idxS x i => simp only [chkOp] at hk; split at hk
                · rename_i e; simp only [Bool.and_eq_true] at hk
                  obtain ⟨⟨h1, h2⟩, h3⟩ := hk
                  split at h3
                  · rename_i hu; exact s_idxS r hd e h1 h2 hu hs
                  · cases h3
                · cases hk
  | lookup kk zero m x ok => simp only [chkOp] at hk; split at hk
                             · rename_i e; simp only [Bool.and_eq_true, beq_iff_eq] at hk
                               obtain ⟨⟨⟨rfl, h1⟩, h2⟩, h3⟩ := hk
                               split at h3
                               · rename_i key e' he; exact s_lookup r hd e h1 h2 he h3 hs
                               · cases h3
                             · cases hk
  | mapUp kk m x z => simp only [chkOp] at hk; split at hk
                      · rename_i e; simp only [Bool.and_eq_true] at hk
                        obtain ⟨⟨⟨h1, h2⟩, h3⟩, h4⟩ := hk
                        obtain ⟨⟨key, e'⟩, he⟩ := Option.isSome_iff_exists.1 h4
                        exact s_mapUp r hd (.inl e) h1 h2 h3 he hs
                      · rename_i e; simp only [Bool.and_eq_true] at hk
                        obtain ⟨⟨⟨h1, h2⟩, h3⟩, h4⟩ := hk
                        obtain ⟨⟨key, e'⟩, he⟩ := Option.isSome_iff_exists.1 h4
                        exact s_mapUp r hd (.inr e) h1 h2 h3 he hs
                      · cases hk
  | mapEnt kk zero m x => simp only [chkOp] at hk; split at hk
                          · rename_i e; simp only [Bool.and_eq_true] at hk
                            obtain ⟨⟨h1, h2⟩, h3⟩ := hk
                            split at h3
                            · rename_i key e' he; exact s_mapEnt r hd e h1 h2 he h3 hs
                            · cases h3
                          · cases hk
  | entSt m x z => simp only [chkOp] at hk; split at hk
                   · rename_i e; simp only [Bool.and_eq_true] at hk; exact s_entSt r hd e hk.1.1 hk.1.2 hk.2 hs
                   · cases hk
  | range x => simp only [chkOp] at hk; split at hk
               · rename_i e; simp only [Bool.and_eq_true] at hk
                 obtain ⟨h1, h2⟩ := hk
                 split at h2
                 · rename_i he; exact s_range r hd e h1 he hs
                 · cases h2
               · cases hk
  | next x => simp only [chkOp] at hk; split at hk
              · rename_i e; exact s_next r hd e hk hs
              · cases hk
  | entry x => simp only [chkOp] at hk; split at hk
               · rename_i e; exact s_entry r hd e hk hs
               · cases hk
  | tassert x t ok zero => simp only [chkOp] at hk; split at hk
                           · rename_i e; simp only [Bool.and_eq_true, beq_iff_eq] at hk
                             obtain ⟨⟨⟨⟨rfl, rfl⟩, h1⟩, h2⟩, h3⟩ := hk
                             exact s_tassert r hd e h1 h2 h3 hs
                           · cases hk
  | ext x i => simp only [chkOp] at hk; split at hk
               · rename_i e; simp only [Bool.and_eq_true, beq_iff_eq] at hk
                 obtain ⟨rfl, h1⟩ := hk
                 exact s_ext r hd e h1 hs
               · cases hk
  | call f xs => obtain ⟨c, e, h1⟩ := chkCall_spec hk
                 simp only [Bool.and_eq_true, beq_iff_eq] at h1
                 exact s_call r hd hC e (isStatic_spec h1.1) h1.2 hs
  | callX f xs => obtain ⟨c, e, h1⟩ := chkCall_spec hk
                  simp only [Bool.and_eq_true, beq_iff_eq] at h1
                  exact s_callX r hd hC e (isStatic_spec h1.1) h1.2 hs
  | callS f xs => obtain ⟨c, e, h1⟩ := chkCall_spec hk
                  simp only [Bool.and_eq_true, beq_iff_eq] at h1
                  exact s_callS r hd hC e (isStatic_spec h1.1) h1.2 hs
  | callV g xs => obtain ⟨c, e, h1⟩ := chkCall_spec hk
                  split at h1
                  · rename_i g' hg; simp only [Bool.and_eq_true] at h1
                    exact s_callV r hd hC e hg h1.1 h1.2 hs
                  · cases h1
  | len kk x => obtain ⟨c, e, h1⟩ := chkCall_spec hk
                simp only [Bool.and_eq_true, beq_iff_eq] at h1
                obtain ⟨h1, h2⟩ := h1
                split at h2
                · rename_i x0 t ha ht; simp only [Bool.and_eq_true] at h2
                  exact s_len r hd e (isBuiltin_spec h1) (args_one ha) ht h2.1 h2.2 hs
                · cases h2
  | append z bytes s x => obtain ⟨c, e, h1⟩ := chkCall_spec hk
                          simp only [Bool.and_eq_true, beq_iff_eq] at h1
                          obtain ⟨h1, h2⟩ := h1
                          split at h2
                          · rename_i s0 x0 ha; simp only [Bool.and_eq_true] at h2
                            exact s_append r hd e (isBuiltin_spec h1) (args_two ha) h2.1.1 h2.1.2 h2.2 hs
                          · cases h2
  | appendZ z bytes zs s x => obtain ⟨c, e, h1⟩ := chkCall_spec hk
                              simp only [Bool.and_eq_true, beq_iff_eq] at h1
                              obtain ⟨h1, h2⟩ := h1
                              split at h2
                              · rename_i s0 x0 ha; simp only [Bool.and_eq_true] at h2
                                obtain ⟨⟨⟨q1, q2⟩, q3⟩, q4⟩ := h2
                                refine s_appendZ r hd e (isBuiltin_spec h1) (args_two ha) q1 q2 q3 (fun t e' ht he => ?_) hs
                                rw [ht] at q4; simp only [he] at q4; exact q4
                              · cases h2
  | clear z zs x => obtain ⟨c, e, h1⟩ := chkCall_spec hk
                    simp only [Bool.and_eq_true, beq_iff_eq] at h1
                    obtain ⟨h1, h2⟩ := h1
                    split at h2
                    · rename_i x0 t ha ht; simp only [Bool.and_eq_true] at h2
                      obtain ⟨q1, q2⟩ := h2
                      split at q2
                      · rename_i e' he; exact s_clear r hd e (isBuiltin_spec h1) (args_one ha) ht q1 he q2 hs
                      · cases q2
                    · cases h2
  | cap x => obtain ⟨c, e, h1⟩ := chkCall_spec hk
             simp only [Bool.and_eq_true, beq_iff_eq] at h1
             obtain ⟨h1, h2⟩ := h1
             split at h2
             · rename_i x0 t ha ht; simp only [Bool.and_eq_true] at h2
               obtain ⟨e', he⟩ := Option.isSome_iff_exists.1 h2.2
               exact s_cap r hd e (isBuiltin_spec h1) (args_one ha) ht h2.1 he hs
             · cases h2
  | copy z d s => simp [chkOp] at hk
  | max xs => obtain ⟨c, e, h1⟩ := chkCall_spec hk
              simp only [Bool.and_eq_true, beq_iff_eq] at h1
              exact s_maxmin (mx := true) r hd e (isBuiltin_spec h1.1) h1.2 hs
  | min xs => obtain ⟨c, e, h1⟩ := chkCall_spec hk
              simp only [Bool.and_eq_true, beq_iff_eq] at h1
              exact s_maxmin (mx := false) r hd e (isBuiltin_spec h1.1) h1.2 hs
end
end Go.Avm


/- The abstract machine on data, part 3: its operations are sound over the model. -/
import Derived.Test.YtgakndkfbhhcnaaGreatAv2
import Derived.Maps.RangeRun
import Derived.Laws.Tables
import Derived.Great.BuildSlice
import Derived.Laws.Slices
set_option linter.unusedVariables false
set_option linter.unusedSimpArgs false
/- The abstract machine on data: iterators over maps. -/
namespace Go.Avm
open Go

section
variable {P : Program} {G : Start} {N : Nat} {w w' : World} {k k' : K} {μ μ' : Nat → Loc} {hb : Nat → Nat} {ρ : Nat → Option V} {h h' : H} {a : Act} {o : Oper} {Q : Exit → Act → World → Prop} {u : Value} {v : V} {C : Calls} {y : Did}

theorem repDs_get {vs : List Value} {ds : List D} (h : RepDs k vs ds) {j : Nat} {d : D} (hd : ds[j]? = some d) : ∃ v, vs[j]? = some v ∧ Rep k v d := by
  have hj : j < vs.length := by rw [h.1]; exact (List.getElem?_eq_some_iff.1 hd).1
  exact ⟨vs[j], by simp [hj], h.2 j vs[j] d (by simp [hj]) hd⟩
theorem born_range {es : Array MapEntry} (hbo : ∀ (j : Nat) (e : MapEntry), es[j]? = some e → e.born = j) : es.toList.map (·.born) = List.range es.size := by
  apply List.ext_getElem?
  intro j
  rw [List.getElem?_map, Array.getElem?_toList]
  by_cases hj : j < es.size
  · rw [Array.getElem?_eq_getElem hj, List.getElem?_range hj]
    simp [hbo j es[j] (by simp [hj])]
  · rw [Array.getElem?_eq_none (by omega), List.getElem?_eq_none (by simp; omega)]; rfl
theorem born_nodup {es : Array MapEntry} (hbo : ∀ (j : Nat) (e : MapEntry), es[j]? = some e → e.born = j) : (es.toList.map (·.born)).Nodup := by
  rw [born_range hbo]; exact List.nodup_range
theorem s_range (r : Rel G N w k μ hb ρ h a) (hd : ∀ d, o.dst = some d → d < N) {t key e : TypeId} {x : Operand} {x' : Opnd} (ho : o.op = .range t x) (hc : chkOpnd x x' = true) (ht : P.underlying t = some (.map key e))
    (hs : opSem C ρ h (.range x') = some y) : o.wp P a w (Nx G N (putρ (slotρ ρ y.slot) o.dst y.val) y.heap) Q := by
  simp only [opSem] at hs
  split at hs
  · rename_i ks vs hv
    injection hs with hs; subst hs
    have r1 := opv_rep r hc hv
    have hx : execOp a.eval o = (do pure (.value (← Instr.range t (a.eval x))) : Sem Next) := by simp [execOp, ho]
    generalize hev : a.eval x = u at r1
    cases r1 with
    | d _ _ hr =>
    cases hr with
    | mapd m es _ _ us us' hm s1 s2 g1 h1 g2 h2 =>
    obtain ⟨c, hcc, rfl, hbo⟩ := r.inv.agree.2.1 _ _ hm
    have hrun := run_range_map (P := P) w t key e m es es.size ht hcc
    have e1 : RepDs k (es.toList.map (·.key)) ks := repDs_of_map s1 g1 h1
    have e2 : RepDs k (es.toList.map (·.val)) vs := repDs_of_map (s1.trans s2.symm) g2 h2
    refine wp_step r hd (u := .pointer (some ⟨w.heap.size, 0, none⟩)) (by rw [hx, hev, Sem.run_bind, hrun]; rfl) (r.inv.newIter hm e1 e2) (Ext.newObj r.inv _ _ _ rfl) ?_
    have := RepV.ptr (k := k) (μ := updμ μ h.next ⟨w.heap.size, 0, 0⟩) (n := (h.new (.iter ks vs [])).has) h.next 0 ((H.has_new h _ _).2 (.inl rfl))
    rw [updμ_same] at this
    exact this
  · cases hs

theorem s_entry (r : Rel G N w k μ hb ρ h a) (hd : ∀ d, o.dst = some d → d < N) {x : Operand} {x' : Opnd} (ho : o.op = .entry x) (hc : chkOpnd x x' = true)
    (hs : opSem C ρ h (.entry x') = some y) : o.wp P a w (Nx G N (putρ (slotρ ρ y.slot) o.dst y.val) y.heap) Q := by
  simp only [opSem] at hs
  split at hs
  · rename_i i hv
    split at hs
    · rename_i ks vs seen hg
      split at hs
      · rename_i j hj
        split at hs
        · rename_i ka va hka hva
          injection hs with hs; subst hs
          have r1 := opv_rep r hc hv
          have hob := r.inv.obj i
          rw [hg] at hob
          obtain ⟨m, es, sn, h1, h2, h3, h4, h5, h6⟩ := hob
          have hx : execOp a.eval o = (do pure (.value (← Instr.entry (a.eval x))) : Sem Next) := by simp [execOp, ho]
          generalize hev : a.eval x = u at r1
          cases r1 with
          | ptr _ _ hin =>
          obtain ⟨c, hcc, rfl, hbo⟩ := r.inv.agree.2.1 _ _ h3
          obtain ⟨kv, hk1, hk2⟩ := repDs_get h5 hka
          obtain ⟨vv, hv1, hv2⟩ := repDs_get h6 hva
          simp only [List.getElem?_map, Array.getElem?_toList, Option.map_eq_some_iff] at hk1 hv1
          obtain ⟨en, he1, rfl⟩ := hk1
          obtain ⟨en', he2, rfl⟩ := hv1
          rw [he1] at he2; injection he2 with he2; subst he2
          have hbj := hbo j en he1
          obtain ⟨l, hl⟩ : ∃ l, sn.toList = l ++ [j] := by
            rw [← h4] at hj
            exact List.getLast?_eq_some_iff.1 hj
          have hsn : sn = l.toArray.push en.born := by
            apply Array.ext'
            rw [hl, hbj]; simp
          rw [hsn] at h1
          have hrun := run_entry_at (P := P) w (μ i).blk m es.size l.toArray es es.size en h1 hcc (by rw [← Array.getElem?_toList] at he1; exact List.mem_of_getElem? he1) (born_nodup hbo)
          refine wp_same r hd (u := .tuple #[en.key, en.val]) (by rw [hx, hev, h2, Sem.run_bind, hrun]; rfl) ?_
          exact repV_mkTuple (xs := [.d ka, .d va]) (.cons (.d _ _ hk2) (.cons (.d _ _ hv2) .nil))
        · cases hs
      · cases hs
    · cases hs
  · cases hs

theorem mem_leftI {seen : List Nat} {n j : Nat} : j ∈ leftI seen n ↔ j < n ∧ j ∉ seen := by
  simp [leftI]
/-- the next entry, whichever it is -/
theorem next_any (r : Rel G N w k μ hb ρ h a) {x : Operand} {x' : Opnd} (ho : o.op = .next x false) (hc : chkOpnd x x' = true) {i : Nat} {ks vs : List D} {seen : List Nat} (hv : opv ρ x' = some (.ptr i 0)) (hg : h.get i = .iter ks vs seen) :
    (leftI seen ks.length = [] ∧ (execOp a.eval o).run P w = .ok (.value (.tuple #[.bool false])) w) ∨
    ∃ j ∈ leftI seen ks.length, ∃ ka va, ks[j]? = some ka ∧ vs[j]? = some va ∧ ∃ (kv vv : Value) (w' : World), Rep k kv ka ∧ Rep k vv va ∧ (execOp a.eval o).run P w = .ok (.value (.tuple #[.bool true, kv, vv])) w' ∧
      Inv G.B w' k μ (h.set i (.iter ks vs (seen ++ [j]))) ∧ Ext w k μ h w' k μ (h.set i (.iter ks vs (seen ++ [j]))) := by
  have r1 := opv_rep r hc hv
  have hob := r.inv.obj i
  rw [hg] at hob
  obtain ⟨m, es, sn, h1, h2, h3, h4, h5, h6⟩ := hob
  have hx : execOp a.eval o = (do pure (.value (← Instr.next (a.eval x) false o.type)) : Sem Next) := by simp [execOp, ho]
  generalize hev : a.eval x = u at r1
  cases r1 with
  | ptr _ _ hin =>
  obtain ⟨c, hcc, rfl, hbo⟩ := r.inv.agree.2.1 _ _ h3
  have hold : ∀ x ∈ es.toList, x.born < es.size := by
    intro e he
    obtain ⟨j, hj, rfl⟩ := List.getElem_of_mem he
    rw [hbo j _ (by simp at hj; simp [hj])]
    simpa using hj
  have hkl : ks.length = es.size := by have := h5.1; simp at this; omega
  have hleft : ∀ j, j ∈ leftI seen ks.length ↔ ∃ e, es[j]? = some e ∧ e ∈ (leftOf es sn).toList := by
    intro j
    rw [mem_leftI, hkl]
    constructor
    · rintro ⟨hj, hn⟩
      refine ⟨es[j], by simp [hj], ?_⟩
      simp only [leftOf, Array.mem_toList_iff, Array.mem_filter]
      refine ⟨by simp, ?_⟩
      rw [hbo j es[j] (by simp [hj])]
      rw [← h4] at hn
      simpa using hn
    · rintro ⟨e, he, hm⟩
      have hj := (Array.getElem?_eq_some_iff.1 he).1
      simp only [leftOf, Array.mem_toList_iff, Array.mem_filter] at hm
      refine ⟨hj, ?_⟩
      rw [← h4, ← hbo j e he]
      simpa using hm.2
  rcases run_next_at (P := P) w o.type (μ i).blk m es.size es.size sn es es.size h1 hcc hold (Nat.le_refl _) with ⟨g1, g2⟩ | ⟨e, g1, w1, g2, g3⟩
  · refine .inl ⟨?_, by rw [hx, hev, h2, Sem.run_bind, g2]; rfl⟩
    apply List.eq_nil_iff_forall_not_mem.2
    intro j hj
    obtain ⟨e, _, hm⟩ := (hleft j).1 hj
    have : (leftOf es sn) = #[] := Array.eq_empty_of_size_eq_zero g1
    rw [this] at hm; simp at hm
  · have hem : e ∈ es.toList := by
      simp only [leftOf, Array.mem_toList_iff, Array.mem_filter] at g1
      simpa using g1.1
    obtain ⟨j, hj, hej⟩ := List.getElem_of_mem hem
    have he : es[j]? = some e := by rw [← Array.getElem?_toList, List.getElem?_eq_getElem hj, hej]
    have hb' := hbo j e he
    have hjl : j ∈ leftI seen ks.length := (hleft j).2 ⟨e, he, g1⟩
    have hjk : j < ks.length := (mem_leftI.1 hjl).1
    have hvl : vs.length = ks.length := by have := h6.1; simp at this; omega
    obtain ⟨kv, hk1, hk2⟩ := repDs_get h5 (List.getElem?_eq_getElem hjk)
    obtain ⟨vv, hv1, hv2⟩ := repDs_get h6 (List.getElem?_eq_getElem (show j < vs.length by omega))
    simp only [List.getElem?_map, Array.getElem?_toList, he, Option.map_some, Option.some.injEq] at hk1 hv1
    subst hk1 hv1
    refine .inr ⟨j, hjl, ks[j], vs[j]'(by omega), List.getElem?_eq_getElem hjk, List.getElem?_eq_getElem (show j < vs.length by omega), e.key, e.val, _, hk2, hv2, by rw [hx, hev, h2, Sem.run_bind, g3]; rfl, ?_⟩
    have hlv : live (h.get i) = true := by rw [hg]; rfl
    have hlt : (μ i).blk < w.heap.size := r.inv.live_lt hlv
    have w1h : w1.heap = w.heap := by rcases g2 with rfl | rfl <;> rfl
    have hne : ∀ b, b ≠ (μ i).blk → (Go.ChangeMaps.setBlock w1 (μ i).blk (.mapIter (some m) es.size (sn.push e.born) es.size)).heap[b]? = w.heap[b]? := by
      intro b hb
      simp [Go.ChangeMaps.setBlock, w1h, Array.getElem?_setIfInBounds_ne (Ne.symm hb)]
    have hsame : (Go.ChangeMaps.setBlock w1 (μ i).blk (.mapIter (some m) es.size (sn.push e.born) es.size)).heap[(μ i).blk]? = some (.mapIter (some m) es.size (sn.push e.born) es.size) := by
      simp [Go.ChangeMaps.setBlock, w1h, hlt]
    have hsz : (Go.ChangeMaps.setBlock w1 (μ i).blk (.mapIter (some m) es.size (sn.push e.born) es.size)).heap.size = w.heap.size := by simp [Go.ChangeMaps.setBlock, w1h]
    have ha : Agree k (Go.ChangeMaps.setBlock w1 (μ i).blk (.mapIter (some m) es.size (sn.push e.born) es.size)) := by
      refine ⟨fun b q u hu => ?_, fun b es' hm => ?_, fun b q u hu => ?_⟩
      · by_cases eb : b = (μ i).blk
        · subst eb
          obtain ⟨vs, t, hcl⟩ := r.inv.agree.2.2 _ _ _ hu
          rw [h1] at hcl; cases hcl
        · rw [cell_of_heap (hne b eb)]; exact r.inv.agree.1 _ _ _ hu
      · by_cases eb : b = (μ i).blk
        · subst eb
          obtain ⟨c, hc, _⟩ := r.inv.agree.2.1 _ _ hm
          rw [h1] at hc; cases hc
        · rw [hne b eb]; exact r.inv.agree.2.1 _ _ hm
      · by_cases eb : b = (μ i).blk
        · subst eb
          obtain ⟨vs, t, hcl⟩ := r.inv.agree.2.2 _ _ _ hu
          rw [h1] at hcl; cases hcl
        · rw [hne b eb]; exact r.inv.agree.2.2 _ _ _ hu
    have hos : (Go.ChangeMaps.setBlock w1 (μ i).blk (.mapIter (some m) es.size (sn.push e.born) es.size)).os = w.os ∧ (Go.ChangeMaps.setBlock w1 (μ i).blk (.mapIter (some m) es.size (sn.push e.born) es.size)).tape = w.tape ∧ (Go.ChangeMaps.setBlock w1 (μ i).blk (.mapIter (some m) es.size (sn.push e.born) es.size)).output = w.output := by
      rcases g2 with rfl | rfl <;> exact ⟨rfl, rfl, rfl⟩
    exact ⟨r.inv.write hlv hne hsz ha ⟨m, es, sn.push e.born, hsame, h2, h3, by rw [hb']; simp [h4], h5, h6⟩, Ext.write hlv hne hsz hos.1 hos.2.1 hos.2.2⟩

theorem s_next (r : Rel G N w k μ hb ρ h a) (hd : ∀ d, o.dst = some d → d < N) {x : Operand} {x' : Opnd} (ho : o.op = .next x false) (hc : chkOpnd x x' = true)
    (hs : opSem C ρ h (.next x') = some y) : o.wp P a w (Nx G N (putρ (slotρ ρ y.slot) o.dst y.val) y.heap) Q := by
  simp only [opSem] at hs
  split at hs
  · rename_i i hv
    split at hs
    · rename_i ks vs seen hg
      split at hs
      · rename_i hl
        injection hs with hs; subst hs
        rcases next_any (P := P) r ho hc hv hg with ⟨_, g⟩ | ⟨j, g, _⟩
        · exact wp_same r hd g (.d _ _ (.tuple _ _ (fun _ => .bool false) rfl (fun j d hj => by match j, hj with | 0, _ => rfl | j + 1, hj => simp at hj) (fun j d hj => by match j, hj with | 0, hj => simp at hj; subst hj; exact .bool false | j + 1, hj => simp at hj)))
        · rw [hl] at g; cases g
      · rename_i j hl
        split at hs
        · rename_i ka va hka hva
          injection hs with hs; subst hs
          rcases next_any (P := P) r ho hc hv hg with ⟨g, _⟩ | ⟨j', g, ka', va', g1, g2, kv, vv, w', g3, g4, g5, g6, g7⟩
          · rw [hl] at g; cases g
          · rw [hl] at g
            simp only [List.mem_singleton] at g
            subst g
            rw [hka] at g1; injection g1 with g1; subst g1
            rw [hva] at g2; injection g2 with g2; subst g2
            refine wp_step r hd g5 g6 g7 ?_
            exact repV_mkTuple (xs := [.d (.bool true), .d ka, .d va]) (.cons (.d _ _ (.bool true)) (.cons (.d _ _ g3) (.cons (.d _ _ g4) .nil)))
        · cases hs
      · cases hs
    · cases hs
  · cases hs
end
end Go.Avm

/- The abstract machine on data: its operations are the model's (fourth part: structs, slices, interfaces). -/
namespace Go.Avm
open Go

section
variable {P : Program} {G : Start} {N : Nat} {w w' : World} {k k' : K} {μ μ' : Nat → Loc} {hb : Nat → Nat} {ρ : Nat → Option V} {h h' : H} {a : Act} {o : Oper} {Q : Exit → Act → World → Prop} {u : Value} {v : V} {C : Calls} {y : Did}

def concTy (P : Program) (t : TypeId) : Bool := match P.underlying t with
  | some (.interface _) | none => false
  | some _ => true

theorem s_tassert (r : Rel G N w k μ hb ρ h a) (hd : ∀ d, o.dst = some d → d < N) {xt t : TypeId} {x : Operand} {x' : Opnd} {ok : Bool} {zero : D} (ho : o.op = .typeAssert x xt t ok) (hc : chkOpnd x x' = true) (ht : concTy P t = true) (hz : z1Ok P t zero = true)
    (hs : opSem C ρ h (.tassert x' t ok zero) = some y) : o.wp P a w (Nx G N (putρ (slotρ ρ y.slot) o.dst y.val) y.heap) Q := by
  obtain ⟨ti, zv, hti, hzv, hzr⟩ := z1Ok_spec hz
  obtain ⟨d, hdd, hni⟩ : ∃ d, P.underlying t = some d ∧ ∀ ms, d ≠ .interface ms := by
    unfold concTy at ht
    cases hu : P.underlying t with
    | none => simp [hu] at ht
    | some d => refine ⟨d, rfl, fun ms e => ?_⟩; subst e; simp [hu] at ht
  have tup2 : ∀ (u : Value) (v : V) (b : Bool), RepV k μ h.has u v → RepV k μ h.has (.tuple #[u, .bool b]) (mkTuple [v, .d (.bool b)]) := fun u v b hr =>
    repV_mkTuple (vs := #[u, .bool b]) (RepVs.cons hr (RepVs.cons (.d _ _ (.bool b)) RepVs.nil))
  have runHold : ∀ u', a.eval x = .iface t u' → (execOp a.eval o).run P w = .ok (.value (if ok then .tuple #[u', .bool true] else u')) w := fun u' hu => by
    cases d <;> first | (exact absurd rfl (hni _)) | (cases ok <;> simp [execOp, ho, hu, Instr.typeAssert, run_underlying' hdd])
  have runOther : ∀ t' u', t' ≠ t → a.eval x = .iface t' u' → ok = true → (execOp a.eval o).run P w = .ok (.value (.tuple #[zv, .bool false])) w := fun t' u' hne hu hok => by
    subst hok
    cases d <;> first | (exact absurd rfl (hni _)) | (simp [execOp, ho, hu, Instr.typeAssert, run_underlying' hdd, hne, run_zeroValue' hti hzv])
  have runNil : a.eval x = .nilIface → ok = true → (execOp a.eval o).run P w = .ok (.value (.tuple #[zv, .bool false])) w := fun hu hok => by
    subst hok
    cases d <;> first | (exact absurd rfl (hni _)) | (simp [execOp, ho, hu, Instr.typeAssert, run_underlying' hdd, run_zeroValue' hti hzv])
  have rz : RepV k μ h.has (.tuple #[zv, .bool false]) (.d (.tuple [zero, .bool false])) := tup2 zv (.d zero) false (.d _ _ (hzr k))
  simp only [opSem] at hs
  split at hs
  · rename_i v hv
    obtain ⟨v', hv', rfl⟩ := did_eq hs
    have r1 := opv_rep r hc hv
    generalize hev : a.eval x = u at r1
    unfold tassertV at hv'
    split at hv'
    · rename_i t' dd
      cases r1 with
      | d u d' hr =>
      cases hr with
      | iface t' u' dd hr =>
      split at hv'
      · rename_i he; subst he
        injection hv' with hv'; subst hv'
        cases ok with
        | true => exact wp_same r hd (runHold u' hev) (tup2 u' (.d dd) true (.d _ _ hr))
        | false => exact wp_same r hd (runHold u' hev) (.d _ _ hr)
      · rename_i he
        split at hv'
        · rename_i hok; injection hv' with hv'; subst hv'; exact wp_same r hd (runOther t' u' he hev hok) rz
        · cases hv'
    · rename_i t' dd
      cases r1 with
      | iface t' u' dd hr =>
      split at hv'
      · rename_i he; subst he
        injection hv' with hv'; subst hv'
        cases ok with
        | true => exact wp_same r hd (runHold u' hev) (tup2 u' dd true hr)
        | false => exact wp_same r hd (runHold u' hev) hr
      · rename_i he
        split at hv'
        · rename_i hok; injection hv' with hv'; subst hv'; exact wp_same r hd (runOther t' u' he hev hok) rz
        · cases hv'
    · cases r1 with
      | d u d' hr =>
      cases hr
      split at hv'
      · rename_i hok; injection hv' with hv'; subst hv'; exact wp_same r hd (runNil hev hok) rz
      · cases hv'
    · cases hv'
  · cases hs

/-! nil -/
def nilTy (P : Program) (kk : Nat) (t : TypeId) : Bool := match kk, P.underlying t with
  | 0, some (.pointer _) | 1, some (.slice _) | 2, some (.map _ _) | 3, some (.func _ _ _) | 4, some (.interface _) => true
  | _, _ => false
def nilVal : Nat → Value → Bool
  | 0, .pointer none | 1, .slice none 0 0 | 2, .map none | 3, .nilFunc | 4, .nilIface => true
  | _, _ => false
def nilConst (kk : Nat) : Operand → Bool
  | .const v => nilVal kk v
  | _ => false

theorem eqIn_ptr {t e : TypeId} (hu : P.underlying t = some (.pointer e)) (d : Nat) (p : Option Addr) : (Op.equalIn (d + 1) t (.pointer p) (.pointer none)).run P w = .ok p.isNone w ∧ (Op.equalIn (d + 1) t (.pointer none) (.pointer p)).run P w = .ok p.isNone w := by
  cases p <;> simp [Op.equalIn, run_underlying' hu]
theorem eqIn_slice {t e : TypeId} (hu : P.underlying t = some (.slice e)) (d : Nat) (p : Option Addr) (n c : Nat) : (Op.equalIn (d + 1) t (.slice p n c) (.slice none 0 0)).run P w = .ok p.isNone w ∧ (Op.equalIn (d + 1) t (.slice none 0 0) (.slice p n c)).run P w = .ok p.isNone w := by
  cases p <;> simp [Op.equalIn, run_underlying' hu]
theorem eqIn_map {t e f : TypeId} (hu : P.underlying t = some (.map e f)) (d : Nat) (p : Option Nat) : (Op.equalIn (d + 1) t (.map p) (.map none)).run P w = .ok p.isNone w ∧ (Op.equalIn (d + 1) t (.map none) (.map p)).run P w = .ok p.isNone w := by
  cases p <;> simp [Op.equalIn, run_underlying' hu]
theorem eqIn_func {t : TypeId} {ps qs : Array TypeId} {vr : Bool} (hu : P.underlying t = some (.func ps qs vr)) (d : Nat) (f : Fn) (xs ys : Array Value) : (Op.equalIn (d + 1) t (.func f xs ys) .nilFunc).run P w = .ok false w ∧ (Op.equalIn (d + 1) t .nilFunc (.func f xs ys)).run P w = .ok false w := by
  simp [Op.equalIn, run_underlying' hu]
theorem eqIn_func0 {t : TypeId} {ps qs : Array TypeId} {vr : Bool} (hu : P.underlying t = some (.func ps qs vr)) (d : Nat) : (Op.equalIn (d + 1) t .nilFunc .nilFunc).run P w = .ok true w := by
  simp [Op.equalIn, run_underlying' hu]
theorem eqIn_iface {t : TypeId} {ms : Array (String × TypeId)} (hu : P.underlying t = some (.interface ms)) (d : Nat) (f : TypeId) (x : Value) : (Op.equalIn (d + 1) t (.iface f x) .nilIface).run P w = .ok false w ∧ (Op.equalIn (d + 1) t .nilIface (.iface f x)).run P w = .ok false w := by
  simp [Op.equalIn, run_underlying' hu]
theorem eqIn_iface0 {t : TypeId} {ms : Array (String × TypeId)} (hu : P.underlying t = some (.interface ms)) (d : Nat) : (Op.equalIn (d + 1) t .nilIface .nilIface).run P w = .ok true w := by
  simp [Op.equalIn, run_underlying' hu]

/-- what a value that may be nil is, as a value -/
inductive NilIs (P : Program) (t : TypeId) : Value → Bool → Value → Prop
  | ptr (e : TypeId) (p : Option Addr) (hu : P.underlying t = some (.pointer e)) : NilIs P t (.pointer p) p.isNone (.pointer none)
  | slice (e : TypeId) (p : Option Addr) (n c : Nat) (hu : P.underlying t = some (.slice e)) : NilIs P t (.slice p n c) p.isNone (.slice none 0 0)
  | map (e f : TypeId) (p : Option Nat) (hu : P.underlying t = some (.map e f)) : NilIs P t (.map p) p.isNone (.map none)
  | func (ps qs : Array TypeId) (vr : Bool) (f : Fn) (xs ys : Array Value) (hu : P.underlying t = some (.func ps qs vr)) : NilIs P t (.func f xs ys) false .nilFunc
  | func0 (ps qs : Array TypeId) (vr : Bool) (hu : P.underlying t = some (.func ps qs vr)) : NilIs P t .nilFunc true .nilFunc
  | iface (ms : Array (String × TypeId)) (f : TypeId) (x : Value) (hu : P.underlying t = some (.interface ms)) : NilIs P t (.iface f x) false .nilIface
  | iface0 (ms : Array (String × TypeId)) (hu : P.underlying t = some (.interface ms)) : NilIs P t .nilIface true .nilIface
theorem NilIs.run {t : TypeId} {x z : Value} {b : Bool} (h : NilIs P t x b z) (d : Nat) : (Op.equalIn (d + 1) t x z).run P w = .ok b w ∧ (Op.equalIn (d + 1) t z x).run P w = .ok b w := by
  cases h with
  | ptr e p hu => exact eqIn_ptr hu d p
  | slice e p n c hu => exact eqIn_slice hu d p n c
  | map e f p hu => exact eqIn_map hu d p
  | func ps qs vr f xs ys hu => exact eqIn_func hu d f xs ys
  | func0 ps qs vr hu => exact ⟨eqIn_func0 hu d, eqIn_func0 hu d⟩
  | iface ms f x hu => exact eqIn_iface hu d f x
  | iface0 ms hu => exact ⟨eqIn_iface0 hu d, eqIn_iface0 hu d⟩

theorem isNilK_rep {kk : Nat} {n : Nat → Prop} {u : Value} {v : V} {b : Bool} (r : RepV k μ n u v) (hn : isNilK kk v = some b) {t : TypeId} (ht : nilTy P kk t = true) {z : Value} (hz : nilVal kk z = true) : NilIs P t u b z := by
  unfold nilTy at ht
  split at ht
  · rename_i e hu
    unfold nilVal at hz; split at hz <;> rename_i hk <;> first | (cases hk; done) | (cases hz; done) | skip
    unfold isNilK at hn
    split at hn <;> rename_i hk2 <;> first | (cases hk2; done) | (cases hn; done) | (injection hn with hn; subst hn)
    · cases r with | d _ _ hr => cases hr; exact .ptr e none hu
    · cases r with | d _ _ hr => cases hr; exact .ptr e (some _) hu
    · cases r; exact .ptr e (some _) hu
  · rename_i e hu
    unfold nilVal at hz; split at hz <;> rename_i hk <;> first | (cases hk; done) | (cases hz; done) | skip
    unfold isNilK at hn
    split at hn <;> rename_i hk2 <;> first | (cases hk2; done) | (cases hn; done) | (injection hn with hn; subst hn)
    · cases r with | d _ _ hr => cases hr; exact .slice e none 0 0 hu
    · cases r with | d _ _ hr => cases hr; exact .slice e (some _) _ _ hu
    · cases r; exact .slice e (some _) _ _ hu
  · rename_i e f hu
    unfold nilVal at hz; split at hz <;> rename_i hk <;> first | (cases hk; done) | (cases hz; done) | skip
    unfold isNilK at hn
    split at hn <;> rename_i hk2 <;> first | (cases hk2; done) | (cases hn; done) | (injection hn with hn; subst hn)
    · cases r with | d _ _ hr => cases hr; exact .map e f none hu
    · cases r with | d _ _ hr => cases hr; exact .map e f (some _) hu
    · cases r; exact .map e f (some _) hu
  · rename_i ps qs vr hu
    unfold nilVal at hz; split at hz <;> rename_i hk <;> first | (cases hk; done) | (cases hz; done) | skip
    unfold isNilK at hn
    split at hn <;> rename_i hk2 <;> first | (cases hk2; done) | (cases hn; done) | (injection hn with hn; subst hn)
    · cases r with | d _ _ hr => cases hr; exact .func0 ps qs vr hu
    · cases r with | d _ _ hr => cases hr; exact .func ps qs vr _ _ _ hu
    · cases r; exact .func ps qs vr _ _ _ hu
  · rename_i ms hu
    unfold nilVal at hz; split at hz <;> rename_i hk <;> first | (cases hk; done) | (cases hz; done) | skip
    unfold isNilK at hn
    split at hn <;> rename_i hk2 <;> first | (cases hk2; done) | (cases hn; done) | (injection hn with hn; subst hn)
    · cases r with | d _ _ hr => cases hr; exact .iface0 ms hu
    · cases r with | d _ _ hr => cases hr; exact .iface ms _ _ hu
    · cases r; exact .iface ms _ _ hu
  · cases ht

theorem run_eql_nil {t : TypeId} {x z : Value} {b : Bool} (h : NilIs P t x b z) (neq : Bool) (X : Operand) (zz : Value) :
    ((do eqGuard (if neq then .neq else .eql) t X (.const zz) x z; binOp (if neq then .neq else .eql) t x z) : Sem Value).run P w = .ok (.bool (if neq then !b else b)) w ∧
    ((do eqGuard (if neq then .neq else .eql) t (.const zz) X z x; binOp (if neq then .neq else .eql) t z x) : Sem Value).run P w = .ok (.bool (if neq then !b else b)) w := by
  obtain ⟨h1, h2⟩ := h.run (w := w) 9999
  have h1' : (Op.equal t x z).run P w = .ok b w := h1
  have h2' : (Op.equal t z x).run P w = .ok b w := h2
  have g1 : ∀ op, (eqGuard op t X (.const zz) x z).run P w = .ok () w := fun op => by
    unfold eqGuard
    cases h <;> cases op <;> simp
  have g2 : ∀ op, (eqGuard op t (.const zz) X z x).run P w = .ok () w := fun op => by
    unfold eqGuard
    cases h <;> cases op <;> simp
  have b1 : binOp .eql t x z = (do pure (.bool (← Op.equal t x z))) ∧ binOp .neq t x z = (do pure (.bool (!(← Op.equal t x z)))) := by
    cases h <;> exact ⟨rfl, rfl⟩
  have b2 : binOp .eql t z x = (do pure (.bool (← Op.equal t z x))) ∧ binOp .neq t z x = (do pure (.bool (!(← Op.equal t z x)))) := by
    cases h <;> exact ⟨rfl, rfl⟩
  cases neq <;> simp [g1, g2, b1, b2, h1', h2']

theorem s_eqNil (r : Rel G N w k μ hb ρ h a) (hd : ∀ d, o.dst = some d → d < N) {neq : Bool} {kk : Nat} {t t' : TypeId} {x z : Operand} {x' : Opnd} (ho : o.op = .binOp (if neq then .neq else .eql) t x z t' ∧ chkOpnd x x' = true ∧ nilConst kk z = true ∨ o.op = .binOp (if neq then .neq else .eql) t z x t' ∧ chkOpnd x x' = true ∧ nilConst kk z = true)
    (ht : nilTy P kk t = true) (hs : opSem C ρ h (.eqNil kk neq x') = some y) : o.wp P a w (Nx G N (putρ (slotρ ρ y.slot) o.dst y.val) y.heap) Q := by
  simp only [opSem] at hs
  split at hs
  · rename_i v hv
    obtain ⟨v', hv', rfl⟩ := did_eq hs
    simp only [Option.map_eq_some_iff] at hv'
    obtain ⟨b, hb', rfl⟩ := hv'
    have hc : chkOpnd x x' = true ∧ nilConst kk z = true := by rcases ho with ho | ho <;> exact ho.2
    obtain ⟨zv, rfl, hzv⟩ : ∃ zv, z = .const zv ∧ nilVal kk zv = true := by
      have := hc.2
      cases z with
      | const zv => exact ⟨zv, rfl, this⟩
      | _ => simp [nilConst] at this
    have hn := isNilK_rep (P := P) (opv_rep r hc.1 hv) hb' ht hzv
    obtain ⟨e1, e2⟩ := run_eql_nil (w := w) hn neq x zv
    refine wp_same r hd (u := .bool (if neq then !b else b)) ?_ (.d _ _ (.bool _))
    rcases ho with ho | ho
    · have : execOp a.eval o = (do pure (.value (← (do eqGuard (if neq then .neq else .eql) t x (.const zv) (a.eval x) zv; binOp (if neq then .neq else .eql) t (a.eval x) zv))) : Sem Next) := by simp [execOp, ho.1, Act.eval]
      rw [this, Sem.run_bind, e1]; rfl
    · have : execOp a.eval o = (do pure (.value (← (do eqGuard (if neq then .neq else .eql) t (.const zv) x zv (a.eval x); binOp (if neq then .neq else .eql) t zv (a.eval x)))) : Sem Next) := by simp [execOp, ho.1, Act.eval]
      rw [this, Sem.run_bind, e2]; rfl
  · cases hs
end
end Go.Avm

/- The abstract machine on data: its operations are the model's (fifth part: structs and slices built and cut). -/
namespace Go.Avm
open Go

section
variable {P : Program} {G : Start} {N : Nat} {w w' : World} {k k' : K} {μ μ' : Nat → Loc} {hb : Nat → Nat} {ρ : Nat → Option V} {h h' : H} {a : Act} {o : Oper} {Q : Exit → Act → World → Prop} {u : Value} {v : V} {C : Calls} {y : Did}

theorem aggOf_rep {n : Nat → Prop} {u : Value} {v : V} {cs : List V} (r : RepV k μ n u v) (hc : aggOf v = some cs) : ∃ vs, u = .agg vs ∧ RepVs k μ n vs.toList cs := by
  unfold aggOf at hc
  split at hc
  · injection hc with hc; subst hc
    cases r with
    | d _ _ hr => cases hr with
      | agg vs ds us s g hh => exact ⟨vs, rfl, repVs_d.2 (repDs_of s g hh)⟩
  · injection hc with hc; subst hc
    cases r with
    | agg vs ds us s g hh => exact ⟨vs, rfl, repVs_of s g hh⟩
  · cases hc

theorem run_part' {t : TypeId} {n : Nat} {ag : Bool} (hz : szOk P t n = true) (ha : agOk P t ag = true) {vs : Array Value} {cs : List V} {off : Nat} {q : Nat → Prop} (r : RepVs k μ q vs.toList cs) {v : V}
    (hv : (if ag = true then some (mkAgg ((cs.drop off).take n)) else cs[off]?) = some v) : ∃ u, (part t vs off).run P w = .ok u w ∧ RepV k μ q u v := by
  obtain ⟨i, hi, hn⟩ := szOk_spec hz
  obtain ⟨d, hd, hag⟩ := agOk_spec ha
  cases ag with
  | true =>
    simp only [if_true] at hv
    injection hv with hv; subst hv
    refine ⟨.agg (vs.extract off (off + n)), ?_, repV_mkAgg ?_⟩
    · simp [part, run_isAgg' hd, hag, run_sizeOf' hi, hn]
    · have := (r.drop off).take n
      have e : (vs.extract off (off + n)).toList = (vs.toList.drop off).take n := by
        rw [Array.toList_extract]
        simp
      rw [e]; exact this
  | false =>
    simp only [Bool.false_eq_true, if_false] at hv
    obtain ⟨u, hu, hru⟩ := r.get hv
    refine ⟨u, ?_, hru⟩
    rw [Array.getElem?_toList] at hu
    simp [part, run_isAgg' hd, hag, hu]

theorem s_fld (r : Rel G N w k μ hb ρ h a) (hd : ∀ d, o.dst = some d → d < N) {t : TypeId} {i off n : Nat} {ag : Bool} {x : Operand} {x' : Opnd} (ho : o.op = .field t x i) (hc : chkOpnd x x' = true) {fs : Array Field} {f : Field} (h1 : P.underlying t = some (.struct fs)) (h2 : fs[i]? = some f) (h3 : f.offset = off)
    (hz : szOk P f.type n = true) (ha : agOk P f.type ag = true) (hs : opSem C ρ h (.fld n ag off x') = some y) : o.wp P a w (Nx G N (putρ (slotρ ρ y.slot) o.dst y.val) y.heap) Q := by
  simp only [opSem] at hs
  split at hs
  · rename_i v hv
    split at hs
    · rename_i cs hcs
      split at hs
      · obtain ⟨v', hv', rfl⟩ := did_eq hs
        obtain ⟨vs, hu, hr⟩ := aggOf_rep (opv_rep r hc hv) hcs
        obtain ⟨u, hrun, hru⟩ := run_part' (P := P) (w := w) hz ha hr hv'
        exact wp_same r hd (u := u) (by simp [execOp, ho, Instr.field, run_underlying' h1, h2, hu, asAgg, h3, hrun]) hru
      · cases hs
    · cases hs
  · cases hs

/-! filling -/
theorem foldl_set : ∀ (l : List Value) (q : Nat) (cells : Array Value) (off : Nat), off + q + l.length ≤ cells.size →
    ((l.zipIdx q).foldl (fun (cs : Array Value) (x : Value × Nat) => cs.setIfInBounds (off + x.2) x.1) cells).toList = cells.toList.take (off + q) ++ l ++ cells.toList.drop (off + q + l.length)
  | [], q, cells, off, _ => by simp
  | v :: l, q, cells, off, hl => by
    simp only [List.length_cons] at hl
    rw [List.zipIdx_cons, List.foldl_cons, foldl_set l (q + 1) _ off (by simp; omega)]
    apply List.ext_getElem?
    intro j
    simp only [Array.toList_setIfInBounds, List.length_cons]
    by_cases c1 : j < off + q
    · rw [List.getElem?_append_left (by simp; omega), List.getElem?_append_left (by simp; omega), List.getElem?_append_left (by simp; omega), List.getElem?_append_left (by simp; omega)]
      rw [List.getElem?_take, List.getElem?_take, if_pos (by omega), if_pos c1, List.getElem?_set_ne (by omega)]
    · by_cases c2 : j = off + q
      · subst c2
        rw [List.getElem?_append_left (by simp; omega), List.getElem?_append_left (by simp; omega), List.getElem?_append_left (by simp; omega), List.getElem?_append_right (by simp; omega)]
        rw [List.getElem?_take, if_pos (by omega), List.getElem?_set_self (by simp; omega)]
        simp [Nat.min_eq_left (show off + q ≤ cells.size by omega)]
      · by_cases c3 : j < off + q + 1 + l.length
        · rw [List.getElem?_append_left (by simp; omega), List.getElem?_append_right (by simp; omega), List.getElem?_append_left (by simp; omega), List.getElem?_append_right (by simp; omega)]
          simp only [List.length_take, List.length_set, Array.length_toList]
          rw [Nat.min_eq_left (by omega), Nat.min_eq_left (by omega)]
          obtain ⟨p, rfl⟩ : ∃ p, j = off + (q + 1) + p := ⟨j - (off + (q + 1)), by omega⟩
          rw [show off + (q + 1) + p - (off + (q + 1)) = p by omega, show off + (q + 1) + p - (off + q) = p + 1 by omega]
          simp
        · rw [List.getElem?_append_right (by simp; omega), List.getElem?_append_right (by simp; omega)]
          simp only [List.length_append, List.length_take, List.length_set, Array.length_toList, List.length_cons, List.getElem?_drop]
          rw [Nat.min_eq_left (by omega), Nat.min_eq_left (by omega), List.getElem?_set_ne (by omega)]
          congr 1
          omega
theorem foldl_fill (v : Value) (cells : Array Value) (off : Nat) (hl : off + v.cells.size ≤ cells.size) :
    (v.cells.zipIdx.foldl (fun (cs : Array Value) (x : Value × Nat) => cs.setIfInBounds (off + x.2) x.1) cells).toList = cells.toList.take off ++ v.cells.toList ++ cells.toList.drop (off + v.cells.size) := by
  rw [← Array.foldl_toList, Array.toList_zipIdx, foldl_set v.cells.toList 0 cells off (by simpa using hl)]
  simp

/-- parts and their places -/
def chkParts (place : Nat → Option (Nat × Nat)) : List (Nat × Operand) → List (Nat × Nat × Opnd) → Bool
  | [], [] => true
  | (i, x) :: l, (off, n, x') :: l' => (match place i with | some (p, q) => p == off && q == n | none => false) && chkOpnd x x' && chkParts place l l'
  | _, _ => false
theorem fill_ok (r : Rel G N w k μ hb ρ h a) {place : Nat → Option (Nat × Nat)} (z : Nat) : ∀ {l : List (Nat × Operand)} {l' : List (Nat × Nat × Opnd)}, chkParts place l l' = true → ∀ {ps : List (Nat × V)}, partsV ρ l' = some ps →
    ∀ {cells : Array Value} {cs cs' : List V}, RepVs k μ h.has cells.toList cs → fillV cs ps z = some cs' →
    ∃ cells', Instr.fill place cells (l.map fun x => (x.1, a.eval x.2)) = some cells' ∧ RepVs k μ h.has cells'.toList cs'
  | [], [], _, ps, hp, cells, cs, cs', hr, hf => by
    simp [partsV] at hp; subst hp
    simp [fillV] at hf; subst hf
    exact ⟨cells, rfl, hr⟩
  | (i, x) :: l, (off, n, x') :: l', hc, ps, hp, cells, cs, cs', hr, hf => by
    simp only [chkParts, Bool.and_eq_true] at hc
    obtain ⟨⟨hpl, hx⟩, hrest⟩ := hc
    simp only [partsV] at hp
    split at hp
    · rename_i v vs e1 e2
      split at hp
      · rename_i hlen
        injection hp with hp; subst hp
        simp only [fillV] at hf
        split at hf
        · rename_i hle
          have hcs := repV_cells (opv_rep r hx e1)
          have hcl : (a.eval x).cells.size = n := by have := hcs.1; simp at this; omega
          have hsz : cells.size = cs.length := by have := hr.1; simpa using this
          have hpl' : place i = some (off, n) := by
            cases hq : place i with
            | none => simp [hq] at hpl
            | some q => obtain ⟨p1, p2⟩ := q; simp [hq] at hpl; rw [hpl.1, hpl.2]
          have hfit : off + (a.eval x).cells.size ≤ cells.size := by omega
          have hr' : RepVs k μ h.has ((a.eval x).cells.zipIdx.foldl (fun (cs : Array Value) (x : Value × Nat) => cs.setIfInBounds (off + x.2) x.1) cells).toList (putAt cs (cellsOf v) off) := by
            rw [foldl_fill _ _ _ hfit]
            have := repVs_putAt hr hcs off
            rwa [show (cellsOf v).length = (a.eval x).cells.size by omega] at this
          obtain ⟨cells', h1, h2⟩ := fill_ok r z hrest e2 hr' hf
          refine ⟨cells', ?_, h2⟩
          rw [List.map_cons]
          simp only [Instr.fill, hpl', hcl]
          rw [if_neg (by simp; omega)]
          exact h1
        · cases hf
      · cases hp
    · cases hp
  | [], _ :: _, hc, _, _, _, _, _, _, _ => by simp [chkParts] at hc
  | _ :: _, [], hc, _, _, _, _, _, _, _ => by simp [chkParts] at hc

/-- the places of a struct's fields -/
def placesOf (P : Program) (t : TypeId) : Option (List (Nat × Nat)) := match P.underlying t with
  | some (.struct fs) => fs.toList.mapM (fun f => (P.info? f.type).map fun i => (f.offset, i.size))
  | _ => none
def chkBuild (P : Program) (t : TypeId) (ps : Array (Nat × Operand)) (zs : List D) (ps' : List (Nat × Nat × Opnd)) : Bool :=
  zOk P t zs && match P.underlying t with
    | some (.struct _) => match placesOf P t with
      | some places => chkParts (fun i => places.toArray[i]?) ps.toList ps'
      | none => false
    | some (.array _ e) => match P.info? e with
      | some ie => chkParts (fun i => some (i * ie.size, ie.size)) ps.toList ps'
      | none => false
    | _ => false

theorem s_build (r : Rel G N w k μ hb ρ h a) (hd : ∀ d, o.dst = some d → d < N) {t : TypeId} {ps : Array (Nat × Operand)} {zs : List D} {ps' : List (Nat × Nat × Opnd)} (ho : o.op = .build t ps) (hc : chkBuild P t ps zs ps' = true)
    (hs : opSem C ρ h (.build zs ps') = some y) : o.wp P a w (Nx G N (putρ (slotρ ρ y.slot) o.dst y.val) y.heap) Q := by
  simp only [chkBuild, Bool.and_eq_true] at hc
  obtain ⟨hz, hc⟩ := hc
  obtain ⟨i, z, hi, hzz, hzl, hzr⟩ := zOk_spec hz
  simp only [opSem] at hs
  split at hs
  · rename_i qs hq
    obtain ⟨v, hv, rfl⟩ := did_eq hs
    simp only [Option.map_eq_some_iff] at hv
    obtain ⟨cs', hf, rfl⟩ := hv
    have hr0 : RepVs k μ h.has z.cells.toList (zs.map .d) := repVs_d.2 (hzr k)
    obtain ⟨cells', hfill, hr⟩ : ∃ cells', P.built t ((ps.map fun (i, x) => (i, a.eval x)).toList) = some cells' ∧ RepVs k μ h.has cells'.toList cs' := by
      rw [Array.toList_map]
      split at hc
      · rename_i fs hu
        split at hc
        · rename_i places hpl
          obtain ⟨cells', h1, h2⟩ := fill_ok r 0 hc hq hr0 hf
          refine ⟨cells', ?_, h2⟩
          simp only [placesOf, hu] at hpl
          simp only [Program.built, hi, hu, hzz, hpl]
          exact h1
        · cases hc
      · rename_i nn e hu
        split at hc
        · rename_i ie hie
          obtain ⟨cells', h1, h2⟩ := fill_ok r 0 hc hq hr0 hf
          refine ⟨cells', ?_, h2⟩
          simp only [Program.built, hi, hu, hzz, hie]
          exact h1
        · cases hc
      · cases hc
    exact wp_same r hd (u := .agg cells') (by simp [execOp, ho, run_build w t _ cells' hfill]) (repV_mkAgg hr)
  · cases hs

/-! slice literals, make -/
theorem rep_zero {zs : List D} {zc : List Value} (hr : RepDs k zc zs) (q : Nat → Prop) : ∀ n, RepVs k μ q (((Array.range (n * zc.length)).map (zc.toArray[· % zc.toArray.size]!)).toList) (rep zs n) := by
  intro n
  have key : ∀ m, RepVs k μ q ((List.range (m * zc.length)).map fun i => zc.toArray[i % zc.toArray.size]!) (rep zs m) := by
    intro m
    induction m with
    | zero => simp [rep]; exact RepVs.nil
    | succ m ih =>
      have hsplit : (List.range ((m + 1) * zc.length)).map (fun i => zc.toArray[i % zc.toArray.size]!) = zc ++ (List.range (m * zc.length)).map fun i => zc.toArray[i % zc.toArray.size]! := by
        apply List.ext_getElem?
        intro j
        rw [List.getElem?_map]
        by_cases hj : j < zc.length
        · have h2 : j < (m + 1) * zc.length := Nat.lt_of_lt_of_le hj (Nat.le_mul_of_pos_left _ (by omega))
          rw [List.getElem?_append_left hj, List.getElem?_range h2]
          simp [Nat.mod_eq_of_lt hj, hj]
        · rw [List.getElem?_append_right (by omega), List.getElem?_map]
          by_cases hj2 : j < (m + 1) * zc.length
          · have h3 : j - zc.length < m * zc.length := by rw [Nat.add_mul] at hj2; omega
            rw [List.getElem?_range hj2, List.getElem?_range h3]
            simp only [Option.map_some, List.size_toArray]
            rw [show j % zc.length = (j - zc.length) % zc.length from by
              conv => lhs; rw [show j = (j - zc.length) + zc.length by omega]
              rw [Nat.add_mod_right]]
          · rw [List.getElem?_eq_none (by simp; omega), List.getElem?_eq_none (by simp; rw [Nat.add_mul] at hj2; omega)]
      rw [hsplit]
      exact (repVs_d.2 hr).append ih
  have := key n
  simpa using this
theorem rep_length (zs : List D) : ∀ n, (rep zs n).length = n * zs.length
  | 0 => by simp [rep]
  | n + 1 => by simp [rep, rep_length zs n, Nat.add_mul, Nat.add_comm]

theorem s_mkSl (r : Rel G N w k μ hb ρ h a) (hd : ∀ d, o.dst = some d → d < N) {t e : TypeId} {z bytes : Nat} {zs : List D} {x q : Operand} {x' q' : Opnd} (ho : o.op = .makeSlice t x q) (hc : chkOpnd x x' = true) (hc' : chkOpnd q q' = true) (ht : sliceOf P t = some e) (hz : zOk P e zs = true)
    {ti : TypeInfo} (hti : P.info? e = some ti) (h1 : ti.size = z) (h2 : ti.bytes = bytes)
    (hs : opSem C ρ h (.mkSl z bytes zs x' q') = some y) : o.wp P a w (Nx G N (putρ (slotρ ρ y.slot) o.dst y.val) y.heap) Q := by
  have ht' := sliceOf_spec ht
  obtain ⟨i, zv, hi, hzz, hzl, hzr⟩ := zOk_spec hz
  rw [hti] at hi; injection hi with hi; subst hi
  simp only [opSem] at hs
  split at hs
  · rename_i l c e1 e2
    split at hs
    · rename_i hif
      obtain ⟨c1, c2, c3, c4, c5⟩ := hif
      injection hs with hs; subst hs
      have r1 := int_inv (opv_rep r hc e1)
      have r2 := int_inv (opv_rep r hc' e2)
      have hrun := run_make (P := P) w t e ti zv ht' hti hzz .i64 .i64 l c c1 c2 (by rw [h2]; omega) c4
      have hzc : zv.cells.size = z := by omega
      have hmade : (madeCells zv.cells (c.toNat * ti.size)).toList = ((Array.range (c.toNat * zv.cells.toList.length)).map (zv.cells.toList.toArray[· % zv.cells.toList.toArray.size]!)).toList := by
        simp [madeCells, h1, hzc]
      have hr := rep_zero (k := k) (μ := updμ μ h.next ⟨w.heap.size, 0, (madeCells zv.cells (c.toNat * ti.size)).size⟩) (hzr k) (h.new (.cells (rep zs c.toNat))).has
      have hlen : (rep zs c.toNat).length = (madeCells zv.cells (c.toNat * ti.size)).size := by rw [rep_length, size_madeCells, c5, h1]
      have hr1 : RepVs k (updμ μ h.next ⟨w.heap.size, 0, (madeCells zv.cells (c.toNat * ti.size)).size⟩) (h.new (.cells (rep zs c.toNat))).has ((madeCells zv.cells (c.toNat * ti.size)).toList.take (rep zs c.toNat).length) (rep zs c.toNat) := by
        rw [hlen, List.take_of_length_le (by simp), hmade]
        exact hr c.toNat
      refine wp_step r hd (u := .slice (some ⟨w.heap.size, 0, none⟩) l.toNat c.toNat) (by simp [execOp, ho, r1, r2, hrun]) (r.inv.newCells (e := e) (by rw [hlen]; exact Nat.le_refl _) hr1) (Ext.newObj r.inv _ _ _ rfl) ?_
      have := RepV.arr (k := k) (μ := updμ μ h.next ⟨w.heap.size, 0, (madeCells zv.cells (c.toNat * ti.size)).size⟩) (n := (h.new (.cells (rep zs c.toNat))).has) h.next 0 l.toNat z (some c.toNat) c.toNat ((H.has_new _ _ _).2 (.inl rfl)) (by omega) (fun q hq => by injection hq) (by rw [updμ_same]; simp [size_madeCells, h1]) (fun hq => by cases hq) 0 (fun _ => by rw [updμ_same])
      rw [updμ_same] at this
      exact this
    · cases hs
  · cases hs
end
end Go.Avm

/- The abstract machine on data: its operations are the model's (sixth part: slice literals, cuts, lengths, variables that nobody else knows of). -/
namespace Go.Avm
open Go

section
variable {P : Program} {G : Start} {N : Nat} {w w' : World} {k k' : K} {μ μ' : Nat → Loc} {hb : Nat → Nat} {ρ : Nat → Option V} {h h' : H} {a : Act} {o : Oper} {Q : Exit → Act → World → Prop} {u : Value} {v : V} {C : Calls} {y : Did}

theorem repVs_dist {q : Nat → Prop} {us : List Value} {cs : List V} {μ' : Nat → Loc} {q' : Nat → Prop} (h : RepVs k μ q us cs) (hμ : ∀ i, q i → μ' i = μ i) (hq : ∀ i, q i → q' i) : RepVs k μ' q' us cs := h.mono (K.le_refl k) hμ hq

theorem partsV_of_S {z : Nat} : ∀ {l : List (Nat × Opnd)} {ps : List (Nat × V)}, partsS ρ z l = some ps → partsV ρ (l.map fun x => (x.1 * z, z, x.2)) = some ps
  | [], ps, h => by simp [partsS] at h; subst h; rfl
  | (i, x) :: l, ps, h => by
    simp only [partsS] at h
    split at h
    · rename_i v vs e1 e2
      split at h
      · rename_i hl
        injection h with h; subst h
        simp [partsV, e1, partsV_of_S e2, hl]
      · cases h
    · cases h
def chkPartsS (z : Nat) : List (Nat × Operand) → List (Nat × Opnd) → Bool
  | [], [] => true
  | (i, x) :: l, (j, x') :: l' => i == j && chkOpnd x x' && chkPartsS z l l'
  | _, _ => false
theorem chkParts_of_S {z : Nat} : ∀ {l : List (Nat × Operand)} {l' : List (Nat × Opnd)}, chkPartsS z l l' = true → chkParts (fun i => some (i * z, z)) l (l'.map fun x => (x.1 * z, z, x.2)) = true
  | [], [], _ => rfl
  | (i, x) :: l, (j, x') :: l', h => by
    simp only [chkPartsS, Bool.and_eq_true, beq_iff_eq] at h
    obtain ⟨⟨rfl, h1⟩, h2⟩ := h
    simp [chkParts, h1, chkParts_of_S h2]
  | [], _ :: _, h => by simp [chkPartsS] at h
  | _ :: _, [], h => by simp [chkPartsS] at h

theorem s_buildS (r : Rel G N w k μ hb ρ h a) (hd : ∀ d, o.dst = some d → d < N) {t e : TypeId} {z n : Nat} {zs : List D} {ps : Array (Nat × Operand)} {ps' : List (Nat × Opnd)} {own : Bool} (ho : o.op = .buildSlice t n ps) (ht : sliceOf P t = some e) (hz : zOk P e zs = true) (hsz : szOk P e z = true) (hzl : zs.length = z) (hpos : 0 < z) (hn : n * z ≤ 16777216)
    (hc : chkPartsS z ps.toList ps' = true) (hs : opSem C ρ h (.buildS z zs n ps' own) = some y) : o.wp P a w (Nx G N (putρ (slotρ ρ y.slot) o.dst y.val) y.heap) Q := by
  have ht' := sliceOf_spec ht
  obtain ⟨i, zv, hi, hzz, hzl', hzr⟩ := zOk_spec hz
  obtain ⟨i', hi', hisz⟩ := szOk_spec hsz
  rw [hi] at hi'; injection hi' with hi'; subst hi'
  have hzc : zv.cells.size = z := by omega
  simp only [opSem] at hs
  split at hs
  · rename_i qs hq
    split at hs
    · rename_i cs hf
      have hr0 := rep_zero (μ := μ) (hzr k) h.has n
      have he0 : ((Array.range (n * zv.cells.toList.length)).map (zv.cells.toList.toArray[· % zv.cells.toList.toArray.size]!)).toList = ((Array.range (n * i.size)).map (zv.cells[· % zv.cells.size]!)).toList := by simp [hisz, hzc]
      rw [he0] at hr0
      obtain ⟨cells', h1, hr⟩ := fill_ok r 0 (chkParts_of_S hc) (partsV_of_S hq) hr0 hf
      have hclen : cells'.size = n * z := by
        have e1 := hr.1
        have e2 : ∀ (ps : List (Nat × V)) (c c' : List V) (q : Nat), fillV c ps q = some c' → c'.length = c.length := by
          intro ps
          induction ps with
          | nil => intro c c' q hh; simp [fillV] at hh; rw [hh]
          | cons p ps ih =>
            intro c c' q hh
            obtain ⟨off, x⟩ := p
            simp only [fillV] at hh
            split at hh
            · rename_i hle
              rw [ih _ _ _ hh]; unfold putAt; simp; omega
            · cases hh
        have e3 := e2 _ _ _ _ hf
        rw [rep_length] at e3
        simp at e1
        rw [e1, e3, hzl]
      have hrun : ∀ (hnz : ¬ n = 0), (Instr.buildSlice t n (ps.map fun (i, x) => (i, a.eval x))).run P w = .ok (.slice (some ⟨w.heap.size, 0, none⟩) n n) (w.alloc (.cells cells' e)) := fun hnz => by
        refine run_buildSlice w t e n _ cells' i zv ht' hi hzz (by rw [hisz]; omega) (by rw [hisz]; exact fun q => hnz ((Nat.mul_eq_zero.1 q).resolve_right (by omega))) ?_
        rw [Array.toList_map, hisz]
        rw [hisz] at h1
        exact h1
      have hrun' : (execOp a.eval o).run P w = .ok (.value (.slice (some ⟨w.heap.size, 0, none⟩) n n)) (w.alloc (.cells cells' e)) := by
        by_cases hnz : n = 0
        · subst hnz
          have hc0 : cells' = #[] := by simpa using hclen
          subst hc0
          have h1' : Instr.fill (fun i => some (i * z, z)) #[] (List.map (fun x => (x.fst, a.eval x.snd)) ps.toList) = some #[] := by simpa [hisz, Array.range_zero'] using h1
          have h2 : (ps.map fun (x : Nat × Operand) => (x.1, a.eval x.2)).toList = List.map (fun x => (x.fst, a.eval x.snd)) ps.toList := by rw [Array.toList_map]
          simp [execOp, ho, Instr.buildSlice, run_underlying' ht', run_sizeOf' hi, hisz, h1', newRow, Array.range_zero']
        · have := hrun hnz
          simp [execOp, ho, this]
      split at hs
      · rename_i ds hds
        injection hs with hs; subst hs
        rw [allD_eq hds] at hr
        have hrd := repVs_d.1 hr
        obtain ⟨g1, g2⟩ := r.inv.newRow cells' e
        refine wp_step r hd hrun' g1 g2 (.d _ _ ?_)
        have hrd' := hrd.mono g2.kle
        refine .vec w.heap.size 0 ds n true n (fam cells'.toList) (Nat.le_refl _) (fun _ => rfl) (fun j d hj => ?_) (fun j d hj => ?_)
        · have hl : j < cells'.toList.length := by rw [hrd.1]; exact (List.getElem?_eq_some_iff.1 hj).1
          rw [Nat.zero_add, K.row_same, fam_get hl]
        · have hl : j < cells'.toList.length := by rw [hrd.1]; exact (List.getElem?_eq_some_iff.1 hj).1
          exact hrd'.2 j _ d (fam_get hl) hj
      · injection hs with hs; subst hs
        have hcl : cs.length = cells'.size := by have := hr.1; simp at this; omega
        have hr1 : RepVs k (updμ μ h.next ⟨w.heap.size, 0, cells'.size⟩) (h.new (.cells cs)).has (cells'.toList.take cs.length) cs := by
          rw [hcl, List.take_of_length_le (by simp)]
          exact repVs_dist hr (fun i hi => updμ_ne _ _ (by rintro rfl; exact r.inv.fresh hi)) (fun _ hi => (H.has_new _ _ _).2 (.inr hi))
        refine wp_step r hd hrun' (r.inv.newCells (e := e) (by omega) hr1) (Ext.newObj r.inv _ _ _ rfl) ?_
        have := RepV.arr (k := k) (μ := updμ μ h.next ⟨w.heap.size, 0, cells'.size⟩) (n := (h.new (.cells cs)).has) h.next 0 n z (some n) n ((H.has_new _ _ _).2 (.inl rfl)) (Nat.le_refl _) (fun q hq => by injection hq) (by rw [updμ_same]; simp [hclen]) (fun hq => by cases hq) 0 (fun _ => by rw [updμ_same])
        rw [updμ_same] at this
        exact this
    · cases hs
  · cases hs

/-! cuts -/
theorem asNs_rep (r : Rel G N w k μ hb ρ h a) {x : Option Operand} {x' : Option Opnd} (hc : chkOpt x x' = true) {m : Option Nat} (hm : asNs ρ x' = some m) : (m = none ∧ x = none) ∨ ∃ i n z, m = some n ∧ x = some z ∧ a.eval z = .int i n := by
  cases x with
  | none => cases x' with
    | none => simp [asNs] at hm; exact .inl ⟨hm.symm, rfl⟩
    | some _ => simp [chkOpt] at hc
  | some z => cases x' with
    | none => simp [chkOpt] at hc
    | some z' =>
      simp only [chkOpt] at hc
      simp only [asNs] at hm
      split at hm
      · rename_i v hv
        simp only [Option.map_eq_some_iff] at hm
        obtain ⟨n, hn, rfl⟩ := hm
        unfold asN at hn
        split at hn
        · rename_i i q
          split at hn
          · cases hn
          · rename_i hq
            injection hn with hn; subst hn
            have := int_inv (opv_rep r hc hv)
            exact .inr ⟨i, q.toNat, z, rfl, rfl, by rw [this]; congr 1; omega⟩
        · cases hn
      · cases hm

theorem run_bound {i : IntKind} {n y : Nat} {code : BoundsCode} (hle : n ≤ y) : (Instr.sliceBound (.int i n) y code).run P w = .ok n w := by
  have := run_sliceBound (P := P) w i (n : Int) y code (by omega) (by omega)
  simpa using this

theorem run_bounds {sl : Bool} {len cap : Nat} {lo hi mx : Option Operand} {lo' hi' mx' : Option Nat} {ev : Operand → Value}
    (h1 : (lo' = none ∧ lo = none) ∨ ∃ i n z, lo' = some n ∧ lo = some z ∧ ev z = .int i n) (h2 : (hi' = none ∧ hi = none) ∨ ∃ i n z, hi' = some n ∧ hi = some z ∧ ev z = .int i n) (h3 : (mx' = none ∧ mx = none) ∨ ∃ i n z, mx' = some n ∧ mx = some z ∧ ev z = .int i n)
    (c1 : lo'.getD 0 ≤ hi'.getD len) (c2 : hi'.getD len ≤ mx'.getD cap) (c3 : mx'.getD cap ≤ cap) (c4 : mx'.isSome → hi'.isSome) :
    (Instr.sliceBounds sl len cap (lo.map ev) (hi.map ev) (mx.map ev)).run P w = .ok (lo'.getD 0, hi'.getD len, mx'.getD cap) w := by
  unfold Instr.sliceBounds
  rcases h3 with ⟨rfl, rfl⟩ | ⟨i3, n3, z3, rfl, rfl, e3⟩
  · rcases h2 with ⟨rfl, rfl⟩ | ⟨i2, n2, z2, rfl, rfl, e2⟩
    · rcases h1 with ⟨rfl, rfl⟩ | ⟨i1, n1, z1, rfl, rfl, e1⟩
      · simp
      · simp at c1; simp [e1, run_bound c1]
    · simp at c2
      rcases h1 with ⟨rfl, rfl⟩ | ⟨i1, n1, z1, rfl, rfl, e1⟩
      · cases sl <;> simp [e2, run_bound c2]
      · simp at c1; cases sl <;> simp [e1, e2, run_bound c1, run_bound c2]
  · simp at c3
    rcases h2 with ⟨rfl, rfl⟩ | ⟨i2, n2, z2, rfl, rfl, e2⟩
    · simp at c4
    · simp at c2
      rcases h1 with ⟨rfl, rfl⟩ | ⟨i1, n1, z1, rfl, rfl, e1⟩
      · cases sl <;> simp [e2, e3, run_bound c2, run_bound c3]
      · simp at c1; cases sl <;> simp [e1, e2, e3, run_bound c1, run_bound c2, run_bound c3]

theorem run_slice' {t e : TypeId} {z : Nat} (ht : P.underlying t = some (.slice e)) {i : TypeInfo} (hi : P.info? e = some i) (hz : i.size = z) {p : Option Addr} {len cap l m q : Nat} {lo hi' mx : Option Value}
    (hb' : (Instr.sliceBounds true len cap lo hi' mx).run P w = .ok (l, m, q) w) : (Instr.sliceAt t (.slice p len cap) lo hi' mx).run P w = .ok (.slice (if q = l then p else p.map (·.add (l * z))) (m - l) (q - l)) w := by
  simp [Instr.sliceAt, Instr.slice, run_underlying' ht, hb', run_sizeOf' hi, hz]

theorem s_slice (r : Rel G N w k μ hb ρ h a) (hd : ∀ d, o.dst = some d → d < N) {t e : TypeId} {z : Nat} {x : Operand} {lo hi mx : Option Operand} {x' : Opnd} {lo' hi' mx' : Option Opnd} (ho : o.op = .slice t x lo hi mx) (hc : chkOpnd x x' = true) (h1 : chkOpt lo lo' = true) (h2 : chkOpt hi hi' = true) (h3 : chkOpt mx mx' = true)
    (ht : sliceOf P t = some e) (hz : szOk P e z = true) (hs : opSem C ρ h (.slice z x' lo' hi' mx') = some y) : o.wp P a w (Nx G N (putρ (slotρ ρ y.slot) o.dst y.val) y.heap) Q := by
  have ht' := sliceOf_spec ht
  obtain ⟨ti, hti, hsz⟩ := szOk_spec hz
  simp only [opSem] at hs
  split at hs
  · rename_i v l m q e0 e1 e2 e3
    obtain ⟨v', hv', rfl⟩ := did_eq hs
    have r0 := opv_rep r hc e0
    have r1 := asNs_rep r h1 e1
    have r2 := asNs_rep r h2 e2
    have r3 := asNs_rep r h3 e3
    have hx : ∀ u', (Instr.sliceAt t (a.eval x) (lo.map a.eval) (hi.map a.eval) (mx.map a.eval)).run P w = .ok u' w → (execOp a.eval o).run P w = .ok (.value u') w := fun u' hh => by simp [execOp, ho, hh]
    generalize hev : a.eval x = u at r0
    rw [hev] at hx
    unfold sliceV at hv'
    simp only at hv'
    split at hv'
    · split at hv'
      · rename_i hif
        injection hv' with hv'; subst hv'
        cases r0 with
        | d _ _ hr =>
        cases hr
        obtain ⟨c1, c2, c3, c4⟩ := hif
        have hb' := run_bounds (P := P) (w := w) (sl := true) (len := 0) (cap := 0) r1 r2 r3 (by omega) (by omega) (by omega) c4
        refine wp_same r hd (hx _ (run_slice' ht' hti hsz hb')) ?_
        rw [c1, c2, c3]
        simp
        exact .d _ _ .nilslice
      · cases hv'
    · rename_i cs n ex
      split at hv'
      · rename_i hif
        injection hv' with hv'; subst hv'
        obtain ⟨c1, c2, c3, c4, c5⟩ := hif
        cases r0 with
        | d _ _ hr =>
        cases hr with
        | vec b base cells n' ex' c us hn hxx g1 g2 =>
        have hq : q.getD c ≤ c ∧ m.getD n ≤ q.getD c := by
          cases q with
          | none => simp at c2 ⊢; omega
          | some q => simp at c2 c3 ⊢; omega
        have hb' := run_bounds (P := P) (w := w) (sl := true) (len := n) (cap := c) r1 r2 r3 c1 hq.2 hq.1 c5
        refine wp_same r hd (hx _ (run_slice' ht' hti hsz hb')) (.d _ _ ?_)
        have hvec : ∀ base', (q.getD c ≠ l.getD 0 → base' = base + l.getD 0 * z) → Rep k (.slice (some ⟨b, base', none⟩) (m.getD n - l.getD 0) (q.getD c - l.getD 0))
            (.vec (List.take ((m.getD n - l.getD 0) * z) (List.drop (l.getD 0 * z) cs)) (m.getD n - l.getD 0) (if q.isSome = true then q.getD n == m.getD n else ex && m.getD n == n)) := fun base' hbase => by
          refine .vec b base' _ _ _ _ (fun j => us (l.getD 0 * z + j)) (by omega) (fun hex => ?_) (fun j d hj => ?_) (fun j d hj => ?_)
          · cases q with
            | none =>
              simp only [Option.isSome_none, Bool.false_eq_true, if_false, Bool.and_eq_true, beq_iff_eq] at hex
              simp only [Option.getD_none]
              have := hxx hex.1
              omega
            | some q =>
              simp only [Option.isSome_some, if_true, Option.getD_some, beq_iff_eq] at hex
              simp only [Option.getD_some]; omega
          · rw [List.getElem?_take] at hj
            split at hj
            · rename_i hlt
              rw [List.getElem?_drop] at hj
              have hne : q.getD c ≠ l.getD 0 := fun e => by
                have : m.getD n - l.getD 0 = 0 := by omega
                rw [this] at hlt; omega
              rw [hbase hne, Nat.add_assoc]
              exact g1 _ d hj
            · cases hj
          · rw [List.getElem?_take] at hj
            split at hj
            · rw [List.getElem?_drop] at hj; exact g2 _ d hj
            · cases hj
        split
        · rename_i he; exact hvec base (fun hne => absurd he hne)
        · simp only [Option.map_some, addr_add]
          exact hvec _ (fun _ => rfl)
      · cases hv'
    · rename_i j off n z' cap
      split at hv'
      · rename_i hif
        injection hv' with hv'; subst hv'
        obtain ⟨c1, c2, c3, rfl, c5⟩ := hif
        cases r0 with
        | arr j off n z' cap c hi' hn hcc hrr hqq p hp =>
        have htop : cap.getD n ≤ c := by
          cases cap with
          | none => exact hn
          | some k => have := hcc k rfl; simp; omega
        have hq : q.getD c ≤ c ∧ m.getD n ≤ q.getD c := by
          cases q with
          | none => simp at c2 ⊢; omega
          | some q => simp at c2 c3 ⊢; omega
        have hb' := run_bounds (P := P) (w := w) (sl := true) (len := n) (cap := c) r1 r2 r3 c1 hq.2 hq.1 c5
        refine wp_same r hd (hx _ (run_slice' ht' hti hsz hb')) ?_
        have harr : ∀ p', (q.getD c ≠ l.getD 0 → p' = p + l.getD 0 * z) → RepV k μ h.has (.slice (some ⟨(μ j).blk, p', none⟩) (m.getD n - l.getD 0) (q.getD c - l.getD 0))
            (.arr j (off + l.getD 0 * z) (m.getD n - l.getD 0) z (capCut (l.getD 0) q cap)) := fun p' hp' => by
          have hl : l.getD 0 ≤ q.getD c := by omega
          have hmul : l.getD 0 * z + (q.getD c - l.getD 0) * z = q.getD c * z := by rw [← Nat.add_mul]; congr 1; omega
          have hle : q.getD c * z ≤ c * z := Nat.mul_le_mul_right _ hq.1
          refine .arr j _ _ z _ _ hi' (by omega) (fun k hk => ?_) (by omega) (fun hk => ?_) p' (fun hne => ?_)
          · cases q with
            | none =>
              cases cap with
              | none => cases hk
              | some kk => have hk' : kk - l.getD 0 = k := by simpa [capCut] using hk
                           have := hcc kk rfl
                           subst this
                           exact hk'
            | some q => simpa [capCut] using hk
          · cases q with
            | none =>
              cases cap with
              | none => have := hqq rfl; simp only [Option.getD_none] at hmul ⊢; omega
              | some kk => cases hk
            | some q => cases hk
          · rw [hp' (by omega), hp (by omega)]; omega
        split
        · rename_i he; exact harr p (fun hne => absurd he hne)
        · simp only [Option.map_some, addr_add]
          exact harr _ (fun _ => rfl)
      · cases hv'
    · cases hv'
  · cases hs

theorem s_sliceStr (r : Rel G N w k μ hb ρ h a) (hd : ∀ d, o.dst = some d → d < N) {t : TypeId} {x : Operand} {lo hi : Option Operand} {x' : Opnd} {lo' hi' : Option Opnd} (ho : o.op = .slice t x lo hi none) (hc : chkOpnd x x' = true) (h1 : chkOpt lo lo' = true) (h2 : chkOpt hi hi' = true)
    (ht : P.underlying t = some .string) (hs : opSem C ρ h (.sliceStr x' lo' hi') = some y) : o.wp P a w (Nx G N (putρ (slotρ ρ y.slot) o.dst y.val) y.heap) Q := by
  simp only [opSem] at hs
  split at hs
  · rename_i s l m e0 e1 e2
    split at hs
    · rename_i hif
      injection hs with hs; subst hs
      have r0 := str_inv (opv_rep r hc e0)
      have r1 := asNs_rep r h1 e1
      have r2 := asNs_rep r h2 e2
      have hb' := run_bounds (P := P) (w := w) (sl := false) (len := s.size) (cap := s.size) (mx := none) (mx' := none) r1 r2 (.inl ⟨rfl, rfl⟩) hif.1 hif.2 (Nat.le_refl _) (by simp)
      refine wp_same r hd (u := .string (s.extract (l.getD 0) (m.getD s.size))) ?_ (.d _ _ (.str _))
      simp only [Option.map_none] at hb'
      simp [execOp, ho, Instr.sliceAt, Instr.slice, run_underlying' ht, r0, hb']
    · cases hs
  · cases hs

/-! lengths -/
def lenTy (P : Program) (kk : Nat) (t : TypeId) : Bool := match kk, P.underlying t with
  | 0, some .string | 1, some (.slice _) | 2, some (.map _ _) => true
  | _, _ => false
theorem s_len (r : Rel G N w k μ hb ρ h a) (hd : ∀ d, o.dst = some d → d < N) {kk : Nat} {t : TypeId} {x : Operand} {x' : Opnd} {c : Call} (ho : o.op = .call c) (h1 : c.callee = .builtin .len) (h2 : c.args = #[x]) (h3 : c.argTypes[0]? = some t) (hc : chkOpnd x x' = true) (ht : lenTy P kk t = true)
    (hs : opSem C ρ h (.len kk x') = some y) : o.wp P a w (Nx G N (putρ (slotρ ρ y.slot) o.dst y.val) y.heap) Q := by
  obtain ⟨v, m, e1, hl, y1, y2, y3⟩ : ∃ v m, opv ρ x' = some v ∧ lenV kk h v = some m ∧ y.val = .d (.int .i64 m) ∧ y.heap = h ∧ y.slot = none := by
    simp only [opSem] at hs
    split at hs
    · rename_i i e1
      obtain ⟨v, hv, rfl⟩ := did_eq hs
      simp only [Option.map_eq_some_iff] at hv
      obtain ⟨m, hm, rfl⟩ := hv
      exact ⟨_, m, e1, hm, rfl, rfl, rfl⟩
    · rename_i v0 _ e1
      obtain ⟨v, hv, rfl⟩ := did_eq hs
      simp only [Option.map_eq_some_iff] at hv
      obtain ⟨m, hm, rfl⟩ := hv
      exact ⟨_, m, e1, hm, rfl, rfl, rfl⟩
    · cases hs
  rw [y1, y2, y3]
  have r1 := opv_rep r hc e1
  have hrun : ∀ u, a.eval x = u → (Builtin.len_ c.argTypes o.type #[u]).run P w = .ok (.int .i64 m) w → (execOp a.eval o).run P w = .ok (.value (.int .i64 m)) w := fun u hu hh => by
    simp [execOp, ho, resolve, h1, h2, hu, invoke, builtin, hh]
  generalize hev : a.eval x = u at r1
  refine wp_same r hd (u := .int .i64 m) (hrun u hev ?_) (.d _ _ (.int _ _))
  have ht0 := h3
  unfold lenTy at ht
  split at ht
  · rename_i hu
    unfold lenV at hl
    split at hl <;> rename_i hk2 <;> first | (cases hk2; done) | (cases hl; done) | (injection hl with hl; subst hl)
    cases r1 with | d _ _ hr => cases hr; simp [Builtin.len_, ht0, run_underlying' hu, goInt]
  · rename_i e hu
    unfold lenV at hl
    split at hl <;> rename_i hk2 <;> first | (cases hk2; done) | (cases hl; done) | (injection hl with hl; subst hl)
    · cases r1 with | d _ _ hr => cases hr; simp [Builtin.len_, ht0, run_underlying' hu, goInt]
    · cases r1 with | d _ _ hr => cases hr; simp [Builtin.len_, ht0, run_underlying' hu, goInt]
    · cases r1; simp [Builtin.len_, ht0, run_underlying' hu, goInt]
  · rename_i e f hu
    unfold lenV at hl
    split at hl <;> rename_i hk2 <;> try (cases hk2; done)
    · injection hl with hl; subst hl
      cases r1 with | d _ _ hr => cases hr; simp [Builtin.len_, ht0, run_underlying' hu, goInt]
    · injection hl with hl; subst hl
      cases r1 with
      | d _ _ hr => cases hr with
        | mapd mm es ks vs us us' hmm s1 s2 g1 h1 g2 h2 =>
          obtain ⟨cc, hcc, _⟩ := r.inv.agree.2.1 _ _ hmm
          simp [Builtin.len_, ht0, run_underlying' hu, goInt, run_getObj' hcc, s1]
    · rename_i i
      cases r1 with
      | mapr i hi =>
      have hobj := r.inv.obj i
      split at hl
      · rename_i ks vs hg
        injection hl with hl; subst hl
        rw [hg] at hobj
        obtain ⟨es, q1, q2, q3⟩ := hobj
        simp [Builtin.len_, ht0, run_underlying' hu, goInt, run_getObj' q1, (mapOk_len q3).1]
      · rename_i ks vs hg
        injection hl with hl; subst hl
        rw [hg] at hobj
        obtain ⟨es, q1, q2, q3⟩ := hobj
        obtain ⟨cc, hcc, _⟩ := r.inv.agree.2.1 _ _ q1
        have : es.size = ks.length := by have := q2.1; simpa using this
        simp [Builtin.len_, ht0, run_underlying' hu, goInt, run_getObj' hcc, this]
      · cases hl
    · cases hl
  · cases ht

theorem maxI_rep {pick : Int → Int → Bool} {f : Value → Value → Sem Value} (hf : ∀ i x y, (f (.int i x) (.int i y)).run P w = .ok (.int i (if pick y x then y else x)) w) {q : Nat → Prop} :
    ∀ {vs : List Value} {xs : List V} {u : Value} {i : IntKind} {n : Int} {v : V}, u = .int i n → RepVs k μ q vs xs →
      xs.foldl (fun acc y => match acc, y with
        | some (.d (.int k a)), .d (.int k' b) => if k = k' then some (.d (.int k (if pick b a then b else a))) else none
        | _, _ => none) (some (V.d (.int i n))) = some v → ∃ u', (vs.foldlM f u).run P w = .ok u' w ∧ RepV k μ q u' v
  | vs, [], u, i, n, v, hu, hr, hv => by
    rw [hr.nil_inv]
    simp at hv
    subst hu; subst hv
    exact ⟨.int i n, by simp, .d _ _ (.int _ _)⟩
  | vs, x :: xs, u, i, n, v, hu, hr, hv => by
    obtain ⟨w1, l, rfl, h1, h2⟩ := hr.cons_inv
    simp only [List.foldl_cons] at hv
    have hnone : ∀ (l : List V), l.foldl (fun acc y => match acc, y with
        | some (.d (.int k a)), .d (.int k' b) => if k = k' then some (.d (.int k (if pick b a then b else a))) else none
        | _, _ => none) (none : Option V) = none := fun l => by induction l with
      | nil => rfl
      | cons _ _ ih => simpa using ih
    split at hv
    · rename_i i0 n0 i' n' he
      injection he with he; injection he with he; injection he with e1 e2
      subst e1; subst e2
      split at hv
      · rename_i hii; subst hii
        have := int_inv h1
        subst this; subst hu
        obtain ⟨u', g1, g2⟩ := maxI_rep hf (u := .int i (if pick n' n then n' else n)) rfl h2 hv
        exact ⟨u', by simp [List.foldlM_cons, hf, g1], g2⟩
      · rw [hnone] at hv; cases hv
    · rw [hnone] at hv; cases hv
theorem s_maxmin (r : Rel G N w k μ hb ρ h a) (hd : ∀ d, o.dst = some d → d < N) {xs' : List Opnd} {c : Call} {mx : Bool} (ho : o.op = .call c) (h1 : c.callee = .builtin (if mx then .max else .min)) (hc : chkOpnds c.args.toList xs' = true)
    (hs : opSem C ρ h (if mx then .max xs' else .min xs') = some y) : o.wp P a w (Nx G N (putρ (slotρ ρ y.slot) o.dst y.val) y.heap) Q := by
  obtain ⟨pick, f, hb1, hf, vs, v, e1, hv, rfl⟩ : ∃ (pick : Int → Int → Bool) (f : Value → Value → Sem Value), (∀ (z : Value) (l : List Value) (ts : Array TypeId), (builtin (if mx then .max else .min) ts o.type (c.args.map fun | .const _ => true | _ => false) (z :: l).toArray) = (do pure (.value (← l.foldlM f z)) : Sem Next)) ∧
      (∀ i x y, (f (.int i x) (.int i y)).run P w = .ok (.int i (if pick y x then y else x)) w) ∧ ∃ vs v, opvs ρ xs' = some vs ∧ maxI pick vs = some v ∧ y = ⟨v, h, none, .p⟩ := by
    cases mx with
    | true =>
      simp only [if_true, opSem] at hs
      split at hs
      · rename_i vs e1
        obtain ⟨v, hv, rfl⟩ := did_eq hs
        exact ⟨_, Builtin.max2, fun z l ts => by simp [builtin, Builtin.max_], fun i x y => by simp [Builtin.max2], vs, v, e1, hv, rfl⟩
      · cases hs
    | false =>
      simp only [Bool.false_eq_true, if_false, opSem] at hs
      split at hs
      · rename_i vs e1
        obtain ⟨v, hv, rfl⟩ := did_eq hs
        exact ⟨_, Builtin.min2, fun z l ts => by simp [builtin, Builtin.min_], fun i x y => by simp [Builtin.min2], vs, v, e1, hv, rfl⟩
      · cases hs
  have hr := opvs_rep r hc e1
  unfold maxI at hv
  split at hv
  · rename_i i n l
    obtain ⟨z, l', hzl, h2, h3⟩ := hr.cons_inv
    have hz := int_inv h2
    obtain ⟨u', g1, g2⟩ := maxI_rep hf hz h3 hv
    refine wp_same r hd (u := u') ?_ g2
    have hargs : c.args.map a.eval = (z :: l').toArray := by rw [← hzl]; apply Array.ext'; simp
    have : execOp a.eval o = (do pure (.value (← l'.foldlM f z)) : Sem Next) := by
      simp only [execOp, ho, resolve, h1, hargs, pure_bind, invoke]
      exact hb1 z l' c.argTypes
    rw [this, Sem.run_bind, g1]; rfl
  · cases hv
end
end Go.Avm

/- The abstract machine on data: its operations are the model's (seventh part: append). -/
namespace Go.Avm
open Go

theorem OT.put_put {x y : Obj} : ∀ (f : Nat) (t : OT) (i : Nat), i < f → OT.put f (OT.put f t i x) i y = OT.put f t i y := by
  intro f
  induction f with
  | zero => intro t i h; omega
  | succ f ih =>
    intro t i h
    by_cases h0 : i = 0
    · subst h0; simp [OT.put, OT.lf_node, OT.rt_node]
    · have b0 := beq_ne h0
      by_cases h1 : i % 2 = 1
      · have b1 : Nat.beq (i % 2) 1 = true := beq_nat.2 h1
        simp only [OT.put, b0, b1, OT.lf_node, OT.mid_node, OT.rt_node, if_true, Bool.false_eq_true, if_false]
        rw [ih t.lf (i / 2) (by omega)]
      · have b1 := beq_ne h1
        simp only [OT.put, b0, b1, OT.lf_node, OT.mid_node, OT.rt_node, Bool.false_eq_true, if_false]
        rw [ih t.rt (i / 2 - 1) (by omega)]
theorem H.set_set (h : H) (i : Nat) (x y : Obj) : (h.set i x).set i y = h.set i y := by simp [H.set, OT.put_put (i + 1) h.objs i (by omega)]

section
variable {P : Program} {G : Start} {N : Nat} {w w' : World} {k k' : K} {μ μ' : Nat → Loc} {hb : Nat → Nat} {ρ : Nat → Option V} {h h' : H} {a : Act} {o : Oper} {Q : Exit → Act → World → Prop} {u : Value} {v : V} {C : Calls} {y : Did}

theorem Inv.drew {B : Nat} (hi : Inv B w k μ h) : Inv B w.drew k μ h := ⟨hi.agree, hi.lt, hi.top, hi.fresh, hi.nt, hi.obj, hi.sep, hi.low, hi.bot⟩
theorem Ext.drew (w : World) (k : K) (μ : Nat → Loc) (h : H) : Ext w k μ h w.drew k μ h :=
  ⟨K.le_refl k, fun _ _ _ h => .inl h, fun _ _ h => .inl h, fun _ _ => rfl, fun _ h => h, rfl, rfl, rfl, Nat.le_refl _, fun _ _ _ => rfl, fun i hi => .inl ⟨i, hi, rfl⟩⟩

/-- what is appended: how many elements, and their cells, in every world with these cells -/
def Brings (P : Program) (w : World) (z : Nat) (x : Value) (m : Nat) (news : List Value) : Prop :=
  news.length = m * z ∧ ∀ w' : World, (∀ ad, w'.cell? ad = w.cell? ad) → (Builtin.lenOf x).run P w' = .ok m w' ∧ (Builtin.firstCells z m x).run P w' = .ok news.toArray w'
/-- what is appended by 'append(s, make([]T, m)...)' -/
def Zeros (bytes : Nat) (zv : Value) (x : Value) (m : Nat) (news : List Value) : Prop :=
  x = .int .i64 m ∧ m * bytes ≤ 140737488355328 ∧ m < 9223372036854775807 ∧ news = (Builtin.zeroCells zv.cells m).toList
/-- one or the other -/
def Adds (P : Program) (w : World) (z bytes : Nat) (zv x : Value) (m : Nat) (news : List Value) : Bool → Prop
  | false => Brings P w z x m news
  | true => news.length = m * z ∧ Zeros bytes zv x m news
theorem Adds.len {P : Program} {w : World} {z bytes : Nat} {zv x : Value} {m : Nat} {news : List Value} {zr : Bool} (h : Adds P w z bytes zv x m news zr) : news.length = m * z := by
  cases zr <;> exact h.1

theorem elems_brings {B : Nat} (hi : Inv B w k μ h) {z m : Nat} {xs : List V} {x : Value} {xv : V} (r : RepV k μ h.has x xv) (he : elems h z xv = some (m, xs)) : ∃ news, Brings P w z x m news ∧ RepVs k μ h.has news xs := by
  have fc : ∀ (b p n c : Nat) (us : List Value), us.length = n * z → Cells w b p us → Brings P w z (.slice (some ⟨b, p, none⟩) n c) n us := fun b p n c us hl hc => by
    refine ⟨hl, fun w' hw => ⟨rfl, ?_⟩⟩
    exact run_firstCells_some w' z n ⟨b, p, none⟩ n c us hl (fun j v hv => by rw [addr_add, hw]; exact hc j v hv)
  unfold elems at he
  split at he
  · injection he with he; injection he with h1 h2; subst h1; subst h2
    cases r with
    | d _ _ hr =>
      cases hr
      exact ⟨[], ⟨by simp, fun w' _ => ⟨rfl, by simp [Builtin.firstCells]⟩⟩, RepVs.nil⟩
  · rename_i cs n ex
    split at he
    · rename_i hl
      injection he with he; injection he with h1 h2; subst h1; subst h2
      obtain ⟨b, base, c, us, rfl, _, _, g1, g2, _⟩ := cells_of_vec hi r.d_inv
      exact ⟨us, fc b base n c us (by rw [g2.1, hl]) g1, repVs_d.2 g2⟩
    · cases he
  · rename_i i off n z' cap
    split at he
    · rename_i hz; subst hz
      cases r with
      | arr i off n z' cap c hin hn hc hr hq p hp =>
      have sub : ∀ (us : List Value) (cs : List V), Cells w (μ i).blk (μ i).base us → RepVs k μ h.has us cs → off + n * z ≤ cs.length → (n ≠ 0 → p = (μ i).base + off) →
          ∃ news, Brings P w z (.slice (some ⟨(μ i).blk, p, none⟩) n c) n news ∧ RepVs k μ h.has news ((cs.drop off).take (n * z)) := fun us cs g1 g2 hl hpp => by
        refine ⟨(us.drop off).take (n * z), fc _ _ _ _ _ (by have := g2.1; simp; omega) (fun j v hv => ?_), (g2.drop off).take _⟩
        rw [List.getElem?_take] at hv
        split at hv
        · rename_i hjl
          rw [List.getElem?_drop] at hv
          have hne : n ≠ 0 := fun e => by rw [e] at hjl; omega
          rw [hpp hne, Nat.add_assoc]
          exact g1 _ v hv
        · cases hv
      split at he
      · rename_i cs hg
        split at he
        · rename_i hl
          injection he with he; injection he with h1 h2; subst h1; subst h2
          obtain ⟨us, g1, g2⟩ := cells_of_obj hi hg
          exact sub us cs g1 g2 hl (fun hne => hp (by omega))
        · cases he
      · rename_i cs hg
        split at he
        · rename_i hl
          injection he with he; injection he with h1 h2; subst h1; subst h2
          obtain ⟨us, g1, g2⟩ := cells_of_frozen hi hg
          have := sub us (cs.map .d) g1 (repVs_d.2 g2) (by simpa using hl) (fun hne => hp (by omega))
          simpa [← List.map_drop, ← List.map_take] using this
        · cases he
      · cases he
    · cases he
  · cases he

variable {t t1 e e1 ty : TypeId} {i : TypeInfo} {zv : Value} {z : Nat}
structure AppTy (P : Program) (ats : Array TypeId) (t t1 e e1 : TypeId) (i : TypeInfo) (zv : Value) (z : Nat) (zr : Bool) : Prop where
  a0 : ats[0]? = some t
  a1 : ats[1]? = some t1
  u0 : P.underlying t = some (.slice e)
  u1 : P.underlying t1 = some (if zr then .int .i64 else .slice e1)
  hi : P.info? e = some i
  hz : i.zero = some zv
  sz : i.size = z
  zc : zv.cells.size = z
  pos : 0 < z

variable {zr : Bool}
theorem run_app_zero {ats : Array TypeId} (T : AppTy P ats t t1 e e1 i zv z zr) {p : Option Addr} {n c : Nat} {x : Value} (hb' : Adds P w z i.bytes zv x 0 [] zr) (hn : n ≤ c) : (Builtin.append_ ats ty #[.slice p n c, x]).run P w = .ok (.slice p n c) w := by
  cases zr with
  | false =>
    obtain ⟨h1, h2⟩ := hb'.2 w (fun _ => rfl)
    have u1 := T.u1
    simp only [Bool.false_eq_true, if_false] at u1
    cases p with
    | none => simp [Builtin.append_, T.a0, T.a1, run_underlying' T.u0, run_underlying' u1, run_sizeOf' T.hi, T.sz, h1, h2, hn]
    | some q => simp [Builtin.append_, T.a0, T.a1, run_underlying' T.u0, run_underlying' u1, run_sizeOf' T.hi, T.sz, h1, h2, hn, storeCells]
  | true =>
    obtain ⟨_, rfl, h1, h2, h3⟩ := hb'
    have u1 := T.u1
    simp only [if_true] at u1
    have hw : IntKind.i64.wrap ((0 : Nat) : Int) = 0 := by decide
    have hw' : IntKind.i64.wrap 0 = 0 := by decide
    cases p with
    | none => simp [Builtin.append_, T.a0, T.a1, run_underlying' T.u0, run_underlying' u1, run_sizeOf' T.hi, run_typeInfo' T.hi, asInt, asIntOf, hw', hn]
    | some q => simp [Builtin.append_, T.a0, T.a1, run_underlying' T.u0, run_underlying' u1, run_sizeOf' T.hi, run_typeInfo' T.hi, asInt, asIntOf, hw', hn, storeCells]
theorem wrap_small {m : Nat} (h : m < 9223372036854775807) : IntKind.i64.wrap (m : Int) = m := by rw [IntKind.wrap_i64]; omega
theorem zeros_nil {m : Nat} (hm : ¬ m = 0) (hz : 0 < z) : ¬ m * z = 0 := fun h => by
  rcases Nat.mul_eq_zero.1 h with h | h <;> omega
theorem run_app_room {ats : Array TypeId} (T : AppTy P ats t t1 e e1 i zv z zr) {b p n c m : Nat} {x : Value} {news : List Value} (hb' : Adds P w z i.bytes zv x m news zr) (hn : n + m ≤ c) {vs : Array Value} {e' : TypeId} (hh : w.heap[b]? = some (.cells vs e')) (hl : p + n * z + news.length ≤ vs.size) (h1 : ∀ v ∈ news, v.oneCell' = true) (hm0 : ¬ m = 0) :
    (Builtin.append_ ats ty #[.slice (some ⟨b, p, none⟩) n c, x]).run P w = .ok (.slice (some ⟨b, p, none⟩) (n + m) c) (w.setCells b (p + n * z) news) := by
  have hst := run_storeRow (P := P) hh hl h1
  cases zr with
  | false =>
    obtain ⟨g1, g2⟩ := hb'.2 w (fun _ => rfl)
    have u1 := T.u1
    simp only [Bool.false_eq_true, if_false] at u1
    simp [Builtin.append_, T.a0, T.a1, run_underlying' T.u0, run_underlying' u1, run_sizeOf' T.hi, T.sz, g1, g2, hn, addr_add, hst]
  | true =>
    obtain ⟨_, rfl, q1, q2, q3⟩ := hb'
    have u1 := T.u1
    simp only [if_true] at u1
    have hw := wrap_small q2
    have hnb : ¬ (281474976710656 < (m : Int) * (i.bytes : Int)) := by
      have : ((m * i.bytes : Nat) : Int) ≤ 140737488355328 := by omega
      rw [Int.natCast_mul] at this
      omega
    have hz' : ¬ m * z = 0 := zeros_nil hm0 T.pos
    have hneg : ¬ ((m : Int) < 0) := by omega
    subst q3
    simp [Builtin.append_, T.a0, T.a1, run_underlying' T.u0, run_underlying' u1, run_sizeOf' T.hi, run_typeInfo' T.hi, run_zeroValue' T.hi T.hz, T.sz, asInt, asIntOf, hw, hnb, hn, hneg, hz', addr_add, hst]
theorem run_app_grow {ats : Array TypeId} (T : AppTy P ats t t1 e e1 i zv z zr) {p : Option Addr} {n c m : Nat} {x : Value} {olds news : List Value} (hb' : Adds P w z i.bytes zv x m news zr) (hold : Brings P w z (.slice p n c) n olds) (hn : c < n + m) (h63 : n + m < 9223372036854775807) (hby : (n + m) * i.bytes ≤ 140737488355328) (hm0 : ¬ m = 0) :
    (Builtin.append_ ats ty #[.slice p n c, x]).run P w = .ok (.slice (some ⟨w.heap.size, 0, none⟩) (n + m) (grownCap w (n + m) c e)) (w.drew.alloc (.cells (olds ++ news ++ (Builtin.zeroCells zv.cells (grownCap w (n + m) c e - (n + m))).toList).toArray e)) := by
  obtain ⟨_, g3⟩ := hold.2 w.drew (fun _ => rfl)
  have hfit := growslice_fits hn hby
  have n1 : ¬ (n + m ≤ c) := by omega
  have n2 : ¬ (9223372036854775807 < ((n : Int) + (m : Int))) := by omega
  have n3 : ¬ (281474976710656 < Builtin.nextslicecap (n + m) c * i.bytes) := by omega
  cases zr with
  | false =>
    obtain ⟨g1, _⟩ := hb'.2 w (fun _ => rfl)
    obtain ⟨_, g2⟩ := hb'.2 w.drew (fun _ => rfl)
    have u1 := T.u1
    simp only [Bool.false_eq_true, if_false] at u1
    simp [Builtin.append_, T.a0, T.a1, run_underlying' T.u0, run_underlying' u1, run_sizeOf' T.hi, run_typeInfo' T.hi, run_zeroValue' T.hi T.hz, T.sz, g1, g2, g3, n1, n2, n3, Question.forced, newRow, grownCap]
    congr 2
    apply Array.ext'
    simp
  | true =>
    obtain ⟨_, rfl, q1, q2, q3⟩ := hb'
    have u1 := T.u1
    simp only [if_true] at u1
    have hw := wrap_small q2
    have hnb : ¬ (281474976710656 < (m : Int) * (i.bytes : Int)) := by
      have : ((m * i.bytes : Nat) : Int) ≤ 140737488355328 := by omega
      rw [Int.natCast_mul] at this
      omega
    have hz' : ¬ m * z = 0 := zeros_nil hm0 T.pos
    have hneg : ¬ ((m : Int) < 0) := by omega
    subst q3
    simp [Builtin.append_, T.a0, T.a1, run_underlying' T.u0, run_underlying' u1, run_sizeOf' T.hi, run_typeInfo' T.hi, run_zeroValue' T.hi T.hz, T.sz, asInt, asIntOf, hw, hnb, hneg, hz', g3, n1, n2, n3, Question.forced, newRow, grownCap]
    congr 2
    apply Array.ext'
    simp

/-- a new row for what has been appended -/
theorem app_new {B : Nat} (hi : Inv B w k μ h) {olds news : List Value} {cs xs : List V} (ro : RepVs k μ h.has olds cs) (rn : RepVs k μ h.has news xs) {n m c : Nat} (hl : olds.length = n * z) (hl' : news.length = m * z) (hzc : zv.cells.size = z) :
    Inv B (w.drew.alloc (.cells (olds ++ news ++ (Builtin.zeroCells zv.cells (grownCap w (n + m) c e - (n + m))).toList).toArray e)) k (updμ μ h.next ⟨w.heap.size, 0, grownCap w (n + m) c e * z⟩) (h.new (.cells (cs ++ xs))) ∧
    Ext w k μ h (w.drew.alloc (.cells (olds ++ news ++ (Builtin.zeroCells zv.cells (grownCap w (n + m) c e - (n + m))).toList).toArray e)) k (updμ μ h.next ⟨w.heap.size, 0, grownCap w (n + m) c e * z⟩) (h.new (.cells (cs ++ xs))) ∧
    RepV k (updμ μ h.next ⟨w.heap.size, 0, grownCap w (n + m) c e * z⟩) (h.new (.cells (cs ++ xs))).has (.slice (some ⟨w.heap.size, 0, none⟩) (n + m) (grownCap w (n + m) c e)) (.arr h.next 0 (n + m) z none) := by
  have hge := grownCap_ge w (n + m) c e
  generalize grownCap w (n + m) c e = gc at hge
  have hsz : (olds ++ news ++ (Builtin.zeroCells zv.cells (gc - (n + m))).toList).toArray.size = gc * z := by
    simp [hl, hl', size_zeroCells, hzc, ← Nat.add_mul]
    congr 1
    omega
  have hra := ro.append rn
  have hcl : (cs ++ xs).length = olds.length + news.length := by rw [List.length_append, ← ro.1, ← rn.1]
  have hr : RepVs k (updμ μ h.next ⟨w.heap.size, 0, gc * z⟩) (h.new (.cells (cs ++ xs))).has ((olds ++ news ++ (Builtin.zeroCells zv.cells (gc - (n + m))).toList).toArray.toList.take (cs ++ xs).length) (cs ++ xs) := by
    rw [hcl]
    rw [List.take_append_of_le_length (by simp), List.take_of_length_le (by simp)]
    exact hra.mono (K.le_refl k) (fun i hi' => updμ_ne _ _ (by rintro rfl; exact hi.fresh hi')) (fun _ hi => (H.has_new _ _ _).2 (.inr hi))
  have h1 := hi.drew.newCells (e := e) (vs := (olds ++ news ++ (Builtin.zeroCells zv.cells (gc - (n + m))).toList).toArray) (cs := cs ++ xs) (by rw [hcl]; simp)
  rw [hsz] at h1
  refine ⟨h1 hr, (Ext.drew w k μ h).trans ?_, ?_⟩
  · exact Ext.newObj hi.drew _ _ _ rfl
  · have := RepV.arr (k := k) (μ := updμ μ h.next ⟨w.heap.size, 0, gc * z⟩) (n := (h.new (.cells (cs ++ xs))).has) h.next 0 (n + m) z none gc ((H.has_new _ _ _).2 (.inl rfl)) hge (fun q hq => by cases hq) (by rw [updμ_same]; simp) (fun _ => by rw [updμ_same]; simp) 0 (fun _ => by rw [updμ_same])
    rw [updμ_same] at this
    exact this

/-- the object grows into its spare room -/
theorem write_ext {B : Nat} (hi : Inv B w k μ h) {j : Nat} {cs xs : List V} (hg : h.get j = .cells cs) {us : List Value} (hx : RepVs k μ h.has us xs) (hl : cs.length + xs.length ≤ (μ j).room) :
    (∃ vs e, w.heap[(μ j).blk]? = some (.cells vs e) ∧ (μ j).base + cs.length + us.length ≤ vs.size) ∧
      Inv B (w.setCells (μ j).blk ((μ j).base + cs.length) us) k μ (h.set j (.cells (cs ++ xs))) ∧ Ext w k μ h (w.setCells (μ j).blk ((μ j).base + cs.length) us) k μ (h.set j (.cells (cs ++ xs))) := by
  have ho := hi.obj j
  rw [hg] at ho
  obtain ⟨vs, e, h1, h2, h3, h4, h5⟩ := ho
  have hlv : live (h.get j) = true := by rw [hg]; rfl
  have hus : us.length = xs.length := hx.1
  obtain ⟨vs', g1, g2⟩ := heap_setCells us ((μ j).base + cs.length) w vs h1 (by omega)
  obtain ⟨t1, t2, t3⟩ := streams_setCells (b := (μ j).blk) us ((μ j).base + cs.length) w
  have hne : ∀ b, b ≠ (μ j).blk → (w.setCells (μ j).blk ((μ j).base + cs.length) us).heap[b]? = w.heap[b]? := fun b hb => heap_setCells_ne hb us _ w
  have hsz := size_setCells (b := (μ j).blk) us ((μ j).base + cs.length) w
  have hvs' : vs'.size = vs.size := by
    have := congrArg List.length g2
    simp only [Array.length_toList, List.length_append, List.length_take, List.length_drop] at this
    omega
  have ha : Agree k (w.setCells (μ j).blk ((μ j).base + cs.length) us) := by
    refine ⟨fun b q u hu => ?_, fun b es hm => ?_, fun b q u hu => ?_⟩
    · by_cases eb : b = (μ j).blk
      · subst eb
        have hj : q < (μ j).base := by
          rcases Nat.lt_or_ge q (μ j).base with h | h
          · exact h
          · rw [h5 q h] at hu; cases hu
        have hold := hi.agree.1 _ _ _ hu
        rw [cell_heap h1] at hold
        rw [cell_heap g1, ← Array.getElem?_toList, g2]
        rw [List.getElem?_append_left (by simp; have := Array.getElem?_eq_some_iff.1 hold; obtain ⟨q, _⟩ := this; omega), List.getElem?_append_left (by simp; have := Array.getElem?_eq_some_iff.1 hold; obtain ⟨q, _⟩ := this; omega)]
        rw [List.getElem?_take, if_pos (by omega), Array.getElem?_toList]
        exact hold
      · rw [cell_of_heap (hne b eb)]; exact hi.agree.1 _ _ _ hu
    · by_cases eb : b = (μ j).blk
      · subst eb
        obtain ⟨c, hc, _⟩ := hi.agree.2.1 _ _ hm
        rw [h1] at hc; cases hc
      · rw [hne b eb]; exact hi.agree.2.1 _ _ hm
    · by_cases eb : b = (μ j).blk
      · subst eb; exact ⟨_, _, g1⟩
      · rw [hne b eb]; exact hi.agree.2.2 _ _ _ hu
  refine ⟨⟨vs, e, h1, by omega⟩, hi.write hlv hne hsz ha ?_, Ext.write hlv hne hsz t1 t2 t3⟩
  refine ⟨vs', e, g1, by omega, by simp; omega, ?_, h5⟩
  have heq : (vs'.toList.drop (μ j).base).take (cs ++ xs).length = ((vs.toList.drop (μ j).base).take cs.length) ++ us := by
    rw [g2]
    apply List.ext_getElem?
    intro q
    by_cases hq : q < (cs ++ xs).length
    · rw [List.getElem?_take, if_pos hq, List.getElem?_drop]
      simp only [List.length_append] at hq
      by_cases c1 : q < cs.length
      · rw [List.getElem?_append_left (by simp; omega), List.getElem?_append_left (by simp; omega), List.getElem?_append_left (by simp; omega)]
        simp [c1]
      · rw [List.getElem?_append_left (by simp; omega), List.getElem?_append_right (by simp; omega), List.getElem?_append_right (by simp; omega)]
        congr 1
        simp; omega
    · simp only [List.length_append] at hq
      rw [List.getElem?_eq_none (by simp; omega), List.getElem?_eq_none (by simp; omega)]
  rw [heq]
  exact h4.append hx

theorem nat_mul_le {x y z : Nat} (h : x * z ≤ y * z) (hz : 0 < z) : x ≤ y := Nat.le_of_mul_le_mul_right h hz

/-- the append of what is brought to a slice -/
theorem appendE_ok {ats : Array TypeId} (T : AppTy P ats t t1 e e1 i zv z zr) {B : Nat} (hi : Inv B w k μ h) {sv : Value} {s : V} (rs : RepV k μ h.has sv s) {x : Value} {m : Nat} {xs : List V} {news : List Value} (hb' : Adds P w z i.bytes zv x m news zr) (rn : RepVs k μ h.has news xs)
    {v' : V} {h' : H} (ha : appendE z i.bytes h s m xs = some (v', h')) :
    ∃ u w' μ', (Builtin.append_ ats ty #[sv, x]).run P w = .ok u w' ∧ Inv B w' k μ' h' ∧ Ext w k μ h w' k μ' h' ∧ RepV k μ' h'.has u v' := by
  have zero : ∀ p n c, sv = .slice p n c → n ≤ c → m = 0 → v' = s → h' = h → ∃ u w' μ', (Builtin.append_ ats ty #[sv, x]).run P w = .ok u w' ∧ Inv B w' k μ' h' ∧ Ext w k μ h w' k μ' h' ∧ RepV k μ' h'.has u v' := fun p n c e1 e2 e3 e4 e5 => by
    subst e1; subst e4; subst e5; subst e3
    have hnil : news = [] := List.eq_nil_of_length_eq_zero (by have := hb'.len; simpa using this)
    subst hnil
    exact ⟨_, w, μ, run_app_zero T hb' e2, hi, Ext.refl .., rs⟩
  have oldOf : ∀ b p n c (us : List Value), us.length = n * z → Cells w b p us → Brings P w z (.slice (some ⟨b, p, none⟩) n c) n us := fun b p n c us hl hc => by
    refine ⟨hl, fun w' hw => ⟨rfl, ?_⟩⟩
    exact run_firstCells_some w' z n ⟨b, p, none⟩ n c us hl (fun j v hv => by rw [addr_add, hw]; exact hc j v hv)
  unfold appendE at ha
  split at ha
  · cases rs with
    | d _ _ hr =>
    cases hr
    split at ha
    · rename_i hm
      injection ha with ha; injection ha with e1 e2
      exact zero none 0 0 rfl (Nat.le_refl _) hm e1.symm e2.symm
    · split at ha
      · rename_i hm hif
        injection ha with ha; injection ha with e1 e2; subst e1; subst e2
        have hold : Brings P w z (.slice none 0 0) 0 [] := ⟨by simp, fun w' _ => ⟨rfl, by simp [Builtin.firstCells]⟩⟩
        have hrun := run_app_grow (ty := ty) T hb' hold (by omega) (by omega) (by rw [Nat.zero_add]; exact hif.1) hm
        obtain ⟨g1, g2, g3⟩ := app_new (e := e) (c := 0) (n := 0) (m := m) hi RepVs.nil rn (by simp) hb'.len T.zc
        simp only [Nat.zero_add, List.nil_append] at hrun g1 g2 g3
        exact ⟨_, _, _, hrun, g1, g2, g3⟩
      · cases ha
  · rename_i cs n ex
    obtain ⟨b, base, c, us, rfl, c1, c2, g1, g2, _⟩ := cells_of_vec hi rs.d_inv
    split at ha
    · rename_i hm
      injection ha with ha; injection ha with e1 e2
      exact zero _ n c rfl c1 hm e1.symm e2.symm
    · split at ha
      · rename_i hm hif
        injection ha with ha; injection ha with e1 e2; subst e1; subst e2
        obtain ⟨q1, q2, q3, q4⟩ := hif
        have hcn := c2 q1
        subst hcn
        have hrun := run_app_grow (ty := ty) T hb' (oldOf b base c c us (by rw [g2.1, q2]) g1) (by omega) q4 q3 hm
        obtain ⟨f1, f2, f3⟩ := app_new (e := e) (c := c) (n := c) (m := m) hi (repVs_d.2 g2) rn (by rw [g2.1, q2]) hb'.len T.zc
        exact ⟨_, _, _, hrun, f1, f2, f3⟩
      · cases ha
  · rename_i j off n z' cap
    split at ha
    · rename_i hz; subst hz
      cases rs with
      | arr j off n z' cap c hin hn hc hr hq p hp =>
      split at ha
      · rename_i cs hg
        have hlv : live (h.get j) = true := by rw [hg]; rfl
        obtain ⟨us, g1, g2⟩ := cells_of_obj hi hg
        split at ha
        · rename_i hm
          injection ha with ha; injection ha with e1 e2
          exact zero _ n c rfl hn hm e1.symm e2.symm
        · rename_i hm
          split at ha
          · rename_i hif
            obtain ⟨q1, q2, q3, q4⟩ := hif
            have grow : c < n + m → ∃ u w' μ', (Builtin.append_ ats ty #[.slice (some ⟨(μ j).blk, p, none⟩) n c, x]).run P w = .ok u w' ∧ Inv B w' k μ' (h.new (.cells ((cs.drop off).take (n * z) ++ xs))) ∧ Ext w k μ h w' k μ' (h.new (.cells ((cs.drop off).take (n * z) ++ xs))) ∧ RepV k μ' (h.new (.cells ((cs.drop off).take (n * z) ++ xs))).has u (.arr h.next 0 (n + m) z none) := fun hlt => by
              have hlen : ((us.drop off).take (n * z)).length = n * z := by have := g2.1; simp; omega
              have hcells : Cells w (μ j).blk p ((us.drop off).take (n * z)) := fun q v hv => by
                rw [List.getElem?_take] at hv
                split at hv
                · rename_i hql
                  rw [List.getElem?_drop] at hv
                  have hne : n ≠ 0 := fun e => by rw [e] at hql; omega
                  rw [hp (by omega), Nat.add_assoc]
                  exact g1 _ v hv
                · cases hv
              have hrun := run_app_grow (ty := ty) T hb' (oldOf _ p n c _ hlen hcells) hlt q2 q1 hm
              obtain ⟨f1, f2, f3⟩ := app_new (e := e) (c := c) (n := n) (m := m) hi ((g2.drop off).take (n * z)) rn hlen hb'.len T.zc
              exact ⟨_, _, _, hrun, f1, f2, f3⟩
            have room : n + m ≤ c → off + (n + m) * z ≤ cs.length → ∃ u w' μ', (Builtin.append_ ats ty #[.slice (some ⟨(μ j).blk, p, none⟩) n c, x]).run P w = .ok u w' ∧ Inv B w' k μ' (h.set j (.cells (putAt cs xs (off + n * z)))) ∧ Ext w k μ h w' k μ' (h.set j (.cells (putAt cs xs (off + n * z)))) ∧ RepV k μ' (h.set j (.cells (putAt cs xs (off + n * z)))).has u (.arr j off (n + m) z cap) := fun hle hfit => by
              obtain rfl := hp (by omega)
              have hxl : xs.length = m * z := by rw [← rn.1]; exact hb'.len
              obtain ⟨f1, f2, f3⟩ := write_obj (P := P) hi hg (off := off + n * z) rn (by rw [hxl]; rw [Nat.add_mul] at hfit; omega) q4
              have ho := hi.obj j
              rw [hg] at ho
              obtain ⟨vs, e', h1, h2, h3, h4, h5⟩ := ho
              have hrun := run_app_room (ty := ty) (p := (μ j).base + off) T hb' hle h1 (by rw [hb'.len]; rw [Nat.add_mul] at hfit; omega) (flats_one rn q4) hm
              rw [show (μ j).base + off + n * z = (μ j).base + (off + n * z) by omega] at hrun
              refine ⟨_, _, μ, hrun, f2, f3, ?_⟩
              exact (RepV.arr j off (n + m) z cap c hin hle hc hr hq _ (fun _ => rfl)).hset
            split at ha
            · rename_i kk
              have hck := hc kk rfl
              split at ha
              · rename_i hnm
                split at ha
                · rename_i hfit
                  injection ha with ha; injection ha with e1 e2; subst e1; subst e2
                  exact room (by omega) hfit
                · cases ha
              · rename_i hnm
                injection ha with ha; injection ha with e1 e2; subst e1; subst e2
                exact grow (by omega)
            · have hqq := hq rfl
              split at ha
              · rename_i hfit
                injection ha with ha; injection ha with e1 e2; subst e1; subst e2
                have ho := hi.obj j
                rw [hg] at ho
                obtain ⟨vs, e', h1, h2, h3, h4, h5⟩ := ho
                exact room (nat_mul_le (z := z) (by omega) T.pos) hfit
              · split at ha
                · rename_i hend
                  injection ha with ha; injection ha with e1 e2; subst e1; subst e2
                  by_cases hroom : n + m ≤ c
                  · obtain rfl := hp (by omega)
                    have hxl : xs.length = m * z := by rw [← rn.1]; exact hb'.len
                    have hcm : (n + m) * z ≤ c * z := Nat.mul_le_mul_right _ hroom
                    rw [Nat.add_mul] at hcm
                    obtain ⟨⟨vs, e', h1, h2⟩, f2, f3⟩ := write_ext hi hg (us := news) rn (by omega)
                    have hrun := run_app_room (ty := ty) (p := (μ j).base + off) T hb' hroom h1 (by omega) (flats_one rn q4) hm
                    rw [show (μ j).base + off + n * z = (μ j).base + cs.length by omega] at hrun
                    have hlv' : live ((h.set j (.cells (cs ++ xs))).get j) = true := by rw [H.get_set_same]; rfl
                    have ho := f2.obj j
                    rw [H.get_set_same] at ho
                    obtain ⟨vs2, e2, r1, r2, r3, r4, r5⟩ := ho
                    have hμn : updμ μ h.next ⟨(μ j).blk, (μ j).base + off, (μ j).room - off⟩ = updμ μ (h.set j (.cells (cs ++ xs))).next ⟨(μ j).blk, (μ j).base + off, (μ j).room - off⟩ := rfl
                    have hren := f2.renew hlv' (base := (μ j).base + off) (room := (μ j).room - off) (cs := cs.drop off ++ xs) ⟨vs2, e2, r1, by omega, by simp at r3 ⊢; omega, by
                      have hd := r4.drop off
                      have e1 : (cs ++ xs).drop off = cs.drop off ++ xs := by rw [List.drop_append_of_le_length (by omega)]
                      rw [e1] at hd
                      have e2 : List.drop off (List.take (cs ++ xs).length (List.drop (μ j).base vs2.toList)) = List.take (cs.drop off ++ xs).length (List.drop ((μ j).base + off) vs2.toList) := by
                        rw [List.drop_take, List.drop_drop]
                        congr 1
                        simp
                        omega
                      rw [e2] at hd
                      exact hd.mono (K.le_refl k) (fun i hi => updμ_ne _ _ (by rintro rfl; exact f2.fresh hi)) (fun _ hi => (H.has_new _ _ _).2 (.inr ((H.has_set _ _ _ _).2 (.inr hi)))), fun o ho => r5 o (by omega)⟩
                    have hext := f3.trans (Ext.renew f2 hlv' (w := w.setCells (μ j).blk ((μ j).base + cs.length) news) (k := k) (μ := μ) (base := (μ j).base + off) (room := (μ j).room - off) (x := .cells (cs.drop off ++ xs)))
                    rw [H.set_set] at hren hext
                    refine ⟨_, _, _, hrun, hren, hext, ?_⟩
                    have := RepV.arr (k := k) (μ := updμ μ h.next ⟨(μ j).blk, (μ j).base + off, (μ j).room - off⟩) (n := ((h.set j .dead).new (.cells (cs.drop off ++ xs))).has) h.next 0 (n + m) z none c ((H.has_new _ _ _).2 (.inl rfl)) hroom (fun q hq => by cases hq) (by rw [updμ_same]; simp; omega) (fun _ => by rw [updμ_same]; simp; omega) ((μ j).base + off) (fun _ => by rw [updμ_same]; rfl)
                    rw [updμ_same] at this
                    exact this
                  · have hk := hi.kill (H.has_get (i := j) (by rw [hg]; simp))
                    obtain ⟨u, w', μ', f1, f2, f3, f4⟩ := grow (by omega)
                    have hlen : ((us.drop off).take (n * z)).length = n * z := by have := g2.1; simp; omega
                    have hcells : Cells w (μ j).blk p ((us.drop off).take (n * z)) := fun q v hv => by
                      rw [List.getElem?_take] at hv
                      split at hv
                      · rename_i hql
                        rw [List.getElem?_drop] at hv
                        have hne : n ≠ 0 := fun e => by rw [e] at hql; omega
                        rw [hp (by omega), Nat.add_assoc]
                        exact g1 _ v hv
                      · cases hv
                    have hrun := run_app_grow (ty := ty) T hb' (oldOf _ p n c _ hlen hcells) (by omega) q2 q1 hm
                    have hgd : RepVs k μ (h.set j .dead).has ((us.drop off).take (n * z)) ((cs.drop off).take (n * z)) := ((g2.drop off).take (n * z)).hset
                    obtain ⟨f1, f2, f3⟩ := app_new (e := e) (c := c) (n := n) (m := m) hk hgd (rn.hset : RepVs k μ (h.set j .dead).has news xs) hlen hb'.len T.zc
                    have hdt : (cs.drop off).take (n * z) = cs.drop off := List.take_of_length_le (by simp; omega)
                    rw [hdt] at f1 f2 f3
                    exact ⟨_, _, _, hrun, f1, (Ext.kill j).trans f2, f3⟩
                · cases ha
          · cases ha
      · rename_i cs hg
        obtain ⟨us, g1, g2⟩ := cells_of_frozen hi hg
        split at ha
        · rename_i hm
          injection ha with ha; injection ha with e1 e2
          exact zero _ n c rfl hn hm e1.symm e2.symm
        · rename_i hm
          split at ha
          · rename_i kk
            have hck := hc kk rfl
            split at ha
            · rename_i hif
              obtain ⟨q0, q1, q2, q3⟩ := hif
              injection ha with ha; injection ha with e1 e2; subst e1; subst e2
              have g2' : RepVs k μ h.has us (cs.map .d) := repVs_d.2 g2
              have hlen : ((us.drop off).take (n * z)).length = n * z := by have := g2.1; simp; omega
              have hcells : Cells w (μ j).blk p ((us.drop off).take (n * z)) := fun q v hv => by
                rw [List.getElem?_take] at hv
                split at hv
                · rename_i hql
                  rw [List.getElem?_drop] at hv
                  have hne : n ≠ 0 := fun e => by rw [e] at hql; omega
                  rw [hp (by omega), Nat.add_assoc]
                  exact g1 _ v hv
                · cases hv
              have hrun := run_app_grow (ty := ty) T hb' (oldOf _ p n c _ hlen hcells) (by omega) q2 q1 hm
              have hgd := (g2'.drop off).take (n * z)
              rw [← List.map_drop, ← List.map_take] at hgd
              obtain ⟨f1, f2, f3⟩ := app_new (e := e) (c := c) (n := n) (m := m) hi hgd rn hlen hb'.len T.zc
              exact ⟨_, _, _, hrun, f1, f2, f3⟩
            · cases ha
          · cases ha
      · cases ha
    · cases ha
  · cases ha
end
end Go.Avm


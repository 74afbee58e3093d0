/- The abstract machine on data, part 8: its operations are sound over the model. -/
import Derived.Test.YtgakndkfbhhcnaaGreatAv7
import Derived.Sort.Grow
import Derived.Sort.EncStr
import Derived.Lib.Bytealg
set_option linter.unusedVariables false
set_option linter.unusedSimpArgs false
/- slices.Sort over a slice of ints or of strings: the library's contract (of the shelf) as an operation of the machine. -/
namespace Go.Avm
open Go

/-! a sort that the kernel can run -/
def insI {α : Type} (le : α → α → Bool) (x : α) : List α → List α
  | [] => [x]
  | y :: l => if le x y then x :: y :: l else y :: insI le x l
def isort {α : Type} (le : α → α → Bool) : List α → List α
  | [] => []
  | x :: l => insI le x (isort le l)
theorem insI_perm {α : Type} (le : α → α → Bool) (x : α) : ∀ l, (insI le x l).Perm (x :: l)
  | [] => List.Perm.refl _
  | y :: l => by
    unfold insI
    split
    · exact List.Perm.refl _
    · exact ((insI_perm le x l).cons y).trans (List.Perm.swap x y l)
theorem isort_perm {α : Type} (le : α → α → Bool) : ∀ l, (isort le l).Perm l
  | [] => List.Perm.refl _
  | x :: l => (insI_perm le x _).trans ((isort_perm le l).cons x)
section
variable {α : Type} {le : α → α → Bool} (ht : ∀ a b, (le a b || le b a) = true) (tr : ∀ a b c, le a b = true → le b c = true → le a c = true)
include ht tr
theorem insI_sorted (x : α) : ∀ l, l.Pairwise (fun a b => le a b = true) → (insI le x l).Pairwise (fun a b => le a b = true)
  | [], _ => by simp [insI]
  | y :: l, h => by
    unfold insI
    split
    · rename_i hxy
      refine List.Pairwise.cons (fun z hz => ?_) h
      rcases List.mem_cons.1 hz with rfl | hz
      · exact hxy
      · exact tr _ _ _ hxy (List.rel_of_pairwise_cons h hz)
    · rename_i hxy
      have hyx : le y x = true := by have := ht x y; simp [hxy] at this; exact this
      refine List.Pairwise.cons (fun z hz => ?_) (insI_sorted x l h.of_cons)
      rcases List.mem_cons.1 ((insI_perm le x l).mem_iff.1 hz) with rfl | hz
      · exact hyx
      · exact List.rel_of_pairwise_cons h hz
theorem isort_sorted : ∀ l : List α, (isort le l).Pairwise (fun a b => le a b = true)
  | [] => .nil
  | x :: l => insI_sorted ht tr x _ (isort_sorted l)
theorem isort_unique (an : ∀ a b, le a b = true → le b a = true → a = b) {l m : List α} (hp : l.Perm m) (hs : m.Pairwise (fun a b => le a b = true)) : isort le l = m :=
  List.Perm.eq_of_pairwise (fun a b _ _ h1 h2 => an a b h1 h2) (isort_sorted ht tr l) hs ((isort_perm le l).trans hp)
theorem isort_merge (an : ∀ a b, le a b = true → le b a = true → a = b) (l : List α) : isort le l = l.mergeSort le :=
  isort_unique ht tr an (List.mergeSort_perm l le).symm (List.pairwise_mergeSort tr ht l)
theorem isort_eq (an : ∀ a b, le a b = true → le b a = true → a = b) {l m : List α} (hp : l.Perm m) : isort le l = isort le m :=
  isort_unique ht tr an (hp.trans (isort_perm le m).symm) (isort_sorted ht tr m)
end

def decV {α : Type} (dec : V → Option α) : List V → Option (List α)
  | [] => some []
  | v :: l => match dec v, decV dec l with
    | some x, some xs => some (x :: xs)
    | _, _ => none
/-- slices.Sort -/
def sortP {α : Type} (dec : V → Option α) (enc : α → D) (le : α → α → Bool) : List V → H → Option (V × H × Option (List Nat))
  | [.d .nilslice], h => some (.d (.tuple []), h, some [])
  | [.arr o off n z _], h => match h.get o with
    | .cells cs => if z = 1 ∧ off + n ≤ cs.length ∧ n < 4611686018427387904 then match decV dec ((cs.drop off).take n) with
        | some zs => some (.d (.tuple []), h.set o (.cells (putAt cs ((isort le zs).map fun z => .d (enc z)) off)), some [o])
        | none => none
      else none
    | _ => none
  | _, _ => none

/-- what the library says of its sort -/
structure SortOk {α : Type} [Inhabited α] (P : Program) (f : Nat) (enc : α → Value) (le : α → α → Bool) : Prop where
  some : ∀ (blk off cap : Nat) (zs : List α) (w : World), Go.Sort.Holds enc w blk off zs.toArray → blk < w.heap.size → zs.length < 4611686018427387904 →
    Go.Calls P f #[.slice (some ⟨blk, off, none⟩) zs.length cap] w fun e w' => e = .returned (.tuple #[]) ∧ ∃ n os, w' = Go.Sort.grow (Go.Sort.putRow enc (Go.Sort.ahead w n) blk off (zs.mergeSort le).toArray) os
  none : ∀ (p : Option Addr) (cap : Nat) (w : World), Go.Calls P f #[.slice p 0 cap] w fun e w' => e = .returned (.tuple #[]) ∧ w' = w

theorem decV_spec {α : Type} {dec : V → Option α} {enc : α → D} (hd : ∀ v x, dec v = some x → v = .d (enc x)) : ∀ {vs : List V} {xs : List α}, decV dec vs = some xs → vs = xs.map fun x => .d (enc x)
  | [], xs, h => by simp only [decV] at h; injection h with h; subst h; rfl
  | v :: vs, xs, h => by
    simp only [decV] at h
    split at h
    · rename_i x xs' h1 h2
      injection h with h; subst h
      rw [hd _ _ h1, decV_spec hd h2]; rfl
    · cases h

theorem setCells_block {w : World} {b o : Nat} {us : List Value} {vs : Array Value} {e : TypeId} {α : Type} [Inhabited α] {enc : α → Value} {d : Array α} (h : w.heap[b]? = some (.cells vs e)) (hl : o + us.length ≤ vs.size) (hu : us = d.toList.map enc) (c : Nat) (m : Nat) (hc : c < w.heap.size) :
    (Go.Sort.putRow enc (Go.Sort.ahead w m) b o d).heap[c]? = (w.setCells b o us).heap[c]? := by
  by_cases hb : c = b
  · subst hb
    obtain ⟨vs', g1, g2⟩ := heap_setCells us o w vs h hl
    rw [g1]
    unfold Go.Sort.putRow Go.Sort.mapBlock
    simp only [Array.getElem?_modify, if_true]
    have : (Go.Sort.ahead w m).heap[c]? = some (.cells vs e) := h
    rw [this]
    simp only [Option.map_some, Go.Sort.onCells, Option.some.injEq]
    congr 1
    apply Array.ext'
    rw [g2]
    apply List.ext_getElem?
    intro i
    have hlen : us.length = d.size := by rw [hu]; simp
    simp only [Go.Sort.putCells, Array.getElem?_toList, Array.getElem?_mapIdx]
    by_cases h1 : i < o
    · rw [List.getElem?_append_left (by simp; omega), List.getElem?_append_left (by simp; omega), List.getElem?_take, if_pos h1]
      simp only [Array.getElem?_toList]
      have : ¬ (o ≤ i ∧ i < o + d.size) := by omega
      simp [this]
    · by_cases h2 : i < o + us.length
      · rw [List.getElem?_append_left (by simp; omega), List.getElem?_append_right (by simp; omega)]
        have e1 : (vs.toList.take o).length = o := by simp; omega
        rw [e1, hu, List.getElem?_map]
        have hi : i < vs.size := by omega
        have hj : i - o < d.size := by omega
        have : o ≤ i ∧ i < o + d.size := by omega
        simp [hi, hj, this]
      · rw [List.getElem?_append_right (by simp; omega)]
        have e1 : (vs.toList.take o ++ us).length = o + us.length := by simp; omega
        rw [e1, List.getElem?_drop]
        have : ¬ (o ≤ i ∧ i < o + d.size) := by omega
        simp only [this, if_false, Array.getElem?_toList]
        rw [show o + us.length + (i - (o + us.length)) = i by omega]
        cases vs[i]? <;> rfl
  · rw [heap_setCells_ne hb]
    unfold Go.Sort.putRow Go.Sort.mapBlock
    simp only [Array.getElem?_modify]
    rw [if_neg (Ne.symm hb)]
    rfl

theorem LogR.set (h : H) {o : Nat} (ho : h.get o ≠ .dead) (x : Obj) : LogR h (h.set o x) (some [o]) := by
  refine ⟨Nat.le_refl _, .inl rfl, fun i _ _ hh => ?_, fun l e i _ _ hn => ?_⟩
  · rcases (H.has_set h o i x).1 hh with rfl | hh
    · exact H.has_get ho
    · exact hh
  · injection e with e; subst e
    exact H.get_set_ne h x (fun e => hn (by simp [e]))

theorem sort_full {α : Type} [Inhabited α] {P : Program} {f : Nat} {encV : α → Value} {enc : α → D} {dec : V → Option α} {le : α → α → Bool} (hs : SortOk P f encV le)
    (hd : ∀ v x, dec v = some x → v = .d (enc x)) (he : ∀ k x, Rep k (encV x) (enc x)) (hu : ∀ k u x, Rep k u (enc x) → u = encV x) (hfl : ∀ x, flatV (.d (enc x)) = true)
    (ht : ∀ a b, (le a b || le b a) = true) (tr : ∀ a b c, le a b = true → le b c = true → le a c = true) (an : ∀ a b, le a b = true → le b a = true → a = b)
    {vs : List V} {h h' : H} {v : V} {ws : Option (List Nat)} (hp : sortP dec enc le vs h = some (v, h', ws)) : FullOk P f vs v h h' ∧ LogR h h' ws := by
  unfold sortP at hp
  split at hp
  · injection hp with hp; injection hp with e1 hp; injection hp with e2 e3; subst e1 e2 e3
    refine ⟨?_, Nat.le_refl _, .inl rfl, fun _ _ _ h => h, fun _ _ _ _ _ _ => rfl⟩
    intro B w k μ args hi hargs
    obtain ⟨u, l, e1, h1, h2⟩ := hargs.cons_inv
    have := h2.nil_inv; subst this
    have hu1 := repV_d h1
    have e2 : args = #[.slice none 0 0] := by
      apply Array.ext'
      rw [e1]; cases hu1; rfl
    subst e2
    refine (hs.none none 0 w).mono ?_
    rintro e w' ⟨rfl, rfl⟩
    exact ⟨_, k, μ, rfl, hi, Ext.refl .., .d _ _ (.tuple _ _ (fun _ => .nilFunc) rfl (fun j d hj => by simp at hj) (fun j d hj => by simp at hj))⟩
  · rename_i h0 o off n z _
    split at hp
    · rename_i cs hg
      split at hp
      · rename_i hlen
        obtain ⟨rfl, hlen, hbig⟩ := hlen
        split at hp
        · rename_i zs hz
          injection hp with hp; injection hp with e1 hp; injection hp with e2 e3; subst e1 e2 e3
          refine ⟨?_, LogR.set h (by rw [hg]; simp) _⟩
          intro B w k μ args hi hargs
          obtain ⟨u, l, e1, h1, h2⟩ := hargs.cons_inv
          have := h2.nil_inv; subst this
          have hzs := decV_spec hd hz
          have hzl : zs.length = n := by
            have := congrArg List.length hzs
            simp only [List.length_take, List.length_drop, List.length_map] at this
            omega
          have hob := hi.obj o
          rw [hg] at hob
          obtain ⟨vs, e, q1, q2, q3, q4, q5⟩ := hob
          cases h1 with
          | arr _ _ _ _ _ c hin hn hc hr hq p hp =>
          have e2 : args = #[.slice (some ⟨(μ o).blk, p, none⟩) n c] := by apply Array.ext'; rw [e1]
          subst e2
          have hblk : (μ o).blk < w.heap.size := (Array.getElem?_eq_some_iff.1 q1).1
          have hxs : RepVs k μ h.has ((isort le zs).map encV) ((isort le zs).map fun z => .d (enc z)) := by
            refine ⟨by simp, fun j v x hv hx => ?_⟩
            simp only [List.getElem?_map, Option.map_eq_some_iff] at hv hx
            obtain ⟨a, ha, rfl⟩ := hv
            obtain ⟨b, hb, rfl⟩ := hx
            rw [ha] at hb; injection hb with hb; subst hb
            exact .d _ _ (he k a)
          have hfs : flats ((isort le zs).map fun z => V.d (enc z)) = true := by
            simp only [flats, List.all_eq_true, List.mem_map]
            rintro x ⟨a, _, rfl⟩
            exact hfl a
          have hsl : (isort le zs).length = n := by rw [(isort_perm le zs).length_eq]; exact hzl
          obtain ⟨_, w1, w2⟩ := write_obj (P := P) hi hg hxs (off := off) (by simp; omega) hfs
          have hret : RepV k μ (h.set o (.cells (putAt cs ((isort le zs).map fun z => .d (enc z)) off))).has (.tuple #[]) (.d (.tuple [])) := .d _ _ (.tuple _ _ (fun _ => .nilFunc) rfl (fun j d hj => by simp at hj) (fun j d hj => by simp at hj))
          by_cases hn0 : n = 0
          · subst hn0
            refine (hs.none (some ⟨(μ o).blk, p, none⟩) c w).mono ?_
            rintro e w' ⟨rfl, rfl⟩
            have hz0 : isort le zs = [] := List.eq_nil_of_length_eq_zero hsl
            rw [hz0] at w1 w2 hret ⊢
            exact ⟨_, k, μ, rfl, w1, w2, hret⟩
          · have hpp : p = (μ o).base + off := hp (by omega)
            subst hpp
            have hroom : (μ o).base + off + n ≤ vs.size := by omega
            have hH : Go.Sort.Holds encV w (μ o).blk ((μ o).base + off) zs.toArray := by
              intro j hj
              have hj' : j < zs.length := by simpa using hj
              refine ⟨?_, ?_⟩
              · rw [cell_heap q1]
                have hx : cs[off + j]? = some (.d (enc zs[j])) := by
                  have : ((cs.drop off).take n)[j]? = some (.d (enc zs[j])) := by rw [hzs]; simp [hj']
                  rw [List.getElem?_take, if_pos (by omega), List.getElem?_drop] at this
                  exact this
                obtain ⟨v, hv1, hv2⟩ := q4.get hx
                have hv3 := hu _ _ _ (repV_d hv2)
                rw [List.getElem?_take, List.getElem?_drop, Array.getElem?_toList] at hv1
                split at hv1
                · rw [show (μ o).base + off + j = (μ o).base + (off + j) by omega, hv1, hv3]
                  rw [getElem!_pos _ j (by simpa using hj')]; simp
                · cases hv1
              · unfold World.frozen?
                simp [q1]
            have hcall := hs.some (μ o).blk ((μ o).base + off) c zs w hH hblk (by omega)
            rw [hzl] at hcall
            refine hcall.mono ?_
            rintro e w' ⟨rfl, m, os, rfl⟩
            rw [← isort_merge ht tr an zs]
            have hb : ∀ b, b < (w.setCells (μ o).blk ((μ o).base + off) ((isort le zs).map encV)).heap.size → (Go.Sort.grow (Go.Sort.putRow encV (Go.Sort.ahead w m) (μ o).blk ((μ o).base + off) (isort le zs).toArray) os).heap[b]? = (w.setCells (μ o).blk ((μ o).base + off) ((isort le zs).map encV)).heap[b]? := by
              intro b hb
              rw [size_setCells] at hb
              have hsz : (Go.Sort.putRow encV (Go.Sort.ahead w m) (μ o).blk ((μ o).base + off) (isort le zs).toArray).heap.size = w.heap.size := by
                simp [Go.Sort.putRow, Go.Sort.mapBlock, Go.Sort.ahead]
              rw [← setCells_block (enc := encV) (d := (isort le zs).toArray) q1 (by simp; omega) rfl b m hb]
              show (_ ++ os)[b]? = _
              rw [Array.getElem?_append_left (by rw [hsz]; exact hb)]
            have hsz : (w.setCells (μ o).blk ((μ o).base + off) ((isort le zs).map encV)).heap.size ≤ (Go.Sort.grow (Go.Sort.putRow encV (Go.Sort.ahead w m) (μ o).blk ((μ o).base + off) (isort le zs).toArray) os).heap.size := by
              rw [size_setCells]
              simp [Go.Sort.grow, Go.Sort.putRow, Go.Sort.mapBlock, Go.Sort.ahead]
            obtain ⟨t1, t2, t3⟩ := streams_setCells (b := (μ o).blk) ((isort le zs).map encV) ((μ o).base + off) w
            refine ⟨_, k, μ, rfl, w1.grow hsz hb (w1.agree.same hb) (K.le_refl k) (fun _ _ _ h => .inl h) (fun _ _ h => .inl h), w2.trans (Ext.grow hsz hb (K.le_refl k) ?_ ?_ ?_ (fun _ _ _ h => .inl h) (fun _ _ h => .inl h)), hret⟩
            · exact t1.symm
            · exact t2.symm
            · exact t3.symm
        · cases hp
      · cases hp
    · cases hp
  · cases hp

def decInt : V → Option Int
  | .d (.int .i64 z) => some z
  | _ => none
def decStr : V → Option (List UInt8)
  | .d (.str s) => some s.data.toList
  | _ => none
def leI (a b : Int) : Bool := decide (a ≤ b)
end Go.Avm

/- proof.Deps: the keys of a map, whichever comes first, are sorted. -/
namespace Go.Avm
open Go
def depB : AC := (.seq (.region [⟨some 30, .entry (.t 27), none⟩, ⟨some 31, .ext (.t 30) 0, none⟩, ⟨some 7, .mv (.t 31), none⟩]) (.region [⟨some 32, .mv (.t 4), none⟩, ⟨some 33, .mv (.t 7), none⟩, ⟨some 34, .buildS 1 [(.int .i64 (0))] 1 [(0, (.t 33))] false, none⟩, ⟨some 35, .append 1 8 (.t 32) (.t 34), none⟩, ⟨some 4, .mv (.t 35), none⟩]))
def depL : AC := (.seq (.region [⟨some 28, .next (.t 27), none⟩, ⟨some 29, .ext (.t 28) 0, none⟩]) (.seq (.cond (.t 29) (.skip) (.exit 0)) (.block 1 depB)))
def depM (mk : Nat) : List AOper := [⟨some 22, .mv (.t 6), none⟩, ⟨some 23, .mv (.t 0), none⟩, ⟨some 24, .mv (.t 1), none⟩, ⟨some 25, .buildS 1 [(.int .i64 (0))] 1 [(0, (.t 24))] false, none⟩, ⟨some 26, .callX mk [(.t 22), (.t 23), (.t 25)], none⟩, ⟨some 27, .range (.t 26), none⟩]
def depT (so : Nat) : AC := (.seq (.region [⟨some 36, .mv (.t 4), none⟩, ⟨some 37, .callX so [(.t 36)], none⟩]) (.seq (.region [⟨some 38, .mv (.t 4), none⟩, ⟨some 4, .mv (.t 38), none⟩, ⟨some 5, .mv (.c (.int .i64 (0))), none⟩]) (.ret)))
def depA (ini rep mk so : Nat) : AFn := ⟨2, [.t 4, .t 5], .seq (.region [⟨some 4, .mv (.c .nilslice), none⟩, ⟨some 5, .mv (.c (.int .i64 (0))), none⟩]) (.seq (.region [⟨some 8, .callX ini [], none⟩, ⟨some 9, .mv (.t 0), none⟩, ⟨some 10, .callX rep [(.t 8), (.c .nilslice), (.t 9)], none⟩, ⟨some 6, .mv (.t 10), none⟩]) (.seq (.seq (.region [⟨some 11, .mv (.t 1), none⟩, ⟨some 12, .bin .lss (.t 11) (.c (.int .i64 (0))), none⟩, ⟨some 13, .mv (.t 12), none⟩, ⟨some 14, .mv (.t 1), some (13, false)⟩, ⟨some 15, .mv (.t 6), some (13, false)⟩, ⟨some 16, .nilck (.t 15), some (13, false)⟩, ⟨some 17, .fAddr 3 (.t 16), some (13, false)⟩, ⟨some 18, .load 1 false (.t 17), some (13, false)⟩, ⟨some 19, .len 1 (.t 18), some (13, false)⟩, ⟨some 20, .bin .geq (.t 14) (.t 19), some (13, false)⟩, ⟨some 21, .pick (.t 13) (.c (.bool true)) (.t 20), none⟩]) (.cond (.t 21) (.seq (.region [⟨some 4, .mv (.c .nilslice), none⟩, ⟨some 5, .mv (.c (.int .i64 (2))), none⟩]) (.ret)) (.skip))) (.seq (.seq (.region (depM mk)) (.block 0 (.loop [4, 27] depL))) (depT so))))⟩

set_option maxHeartbeats 4000000
section
variable {C : Calls} {lf : Nat} {h : H} {lg : Option (List Nat)}
def depD2 : AC := .seq (.region [⟨some 11, .mv (.t 1), none⟩, ⟨some 12, .bin .lss (.t 11) (.c (.int .i64 (0))), none⟩, ⟨some 13, .mv (.t 12), none⟩, ⟨some 14, .mv (.t 1), some (13, false)⟩, ⟨some 15, .mv (.t 6), some (13, false)⟩, ⟨some 16, .nilck (.t 15), some (13, false)⟩, ⟨some 17, .fAddr 3 (.t 16), some (13, false)⟩, ⟨some 18, .load 1 false (.t 17), some (13, false)⟩, ⟨some 19, .len 1 (.t 18), some (13, false)⟩, ⟨some 20, .bin .geq (.t 14) (.t 19), some (13, false)⟩, ⟨some 21, .pick (.t 13) (.c (.bool true)) (.t 20), none⟩]) (.cond (.t 21) (.seq (.region [⟨some 4, .mv (.c .nilslice), none⟩, ⟨some 5, .mv (.c (.int .i64 (2))), none⟩]) (.ret)) (.skip))
theorem depD2_bad {cs : List D} {fr l : D} {i : Int} {n : Nat} (h3 : cs[3]? = some fr) (hl : lenV 1 h (.d fr) = some n) (hb : i < 0 ∨ (n : Int) ≤ i) : ∃ s', run C lf depD2 ⟨[(6, .d (.ref cs 0)), (0, .d l), (1, .d (.int .i64 i)), (4, .d .nilslice)], h, lg⟩ = some (.ret, s') ∧ lk s'.env 4 = some (.d .nilslice) ∧ lk s'.env 5 = some (.d (.int .i64 2)) := by
  have h4 : 3 < cs.length := (List.getElem?_eq_some_iff.1 h3).1
  have h5 : 4 ≤ cs.length := by omega
  clear h4
  by_cases hi : i < 0
  · simp [depD2, sx_nil, sx_cons, sx_ops, sx_rN, sx_region, sx_seq, sx_seq_norm, sx_seq_exit, sx_seq_ret, sx_cond, sx_cond_t, sx_cond_f, sx_block, sx_block_norm, sx_block_ret, sx_block_exit, sx_exit, sx_ret, sx_skip, sx_step, sx_stepG, sx_g_tt, sx_g_ff, sx_g_tf, sx_g_ft, sx_g_u, sx_put, sx_put2, sx_put_some, sx_put_none, sx_lk, sx_log_p, sx_log_rd, sx_log_wr, sx_log_no, sx_log_g, sx_log_gn, sx_draw, sx_dnil, sx_dcons, sx_dn, sx_dp, sx_drd, sx_dwr, sx_dg, sx_dcls, sx_dcls_g, sx_dcls_gn, sx_top_at, sx_top_rs, sx_next_at, sx_next_rs, sx_rs_at, sx_rs_rs, sx_rs_aside, sx_top_aside, sx_get_at, sx_get_rs, sx_get_aside, sx_callX, sx_callR, opSem, opv, did, isNil, loadV, binD, binI, hi]
  · have hn : (n : Int) ≤ i := by omega
    simp [depD2, sx_nil, sx_cons, sx_ops, sx_rN, sx_region, sx_seq, sx_seq_norm, sx_seq_exit, sx_seq_ret, sx_cond, sx_cond_t, sx_cond_f, sx_block, sx_block_norm, sx_block_ret, sx_block_exit, sx_exit, sx_ret, sx_skip, sx_step, sx_stepG, sx_g_tt, sx_g_ff, sx_g_tf, sx_g_ft, sx_g_u, sx_put, sx_put2, sx_put_some, sx_put_none, sx_lk, sx_log_p, sx_log_rd, sx_log_wr, sx_log_no, sx_log_g, sx_log_gn, sx_draw, sx_dnil, sx_dcons, sx_dn, sx_dp, sx_drd, sx_dwr, sx_dg, sx_dcls, sx_dcls_g, sx_dcls_gn, sx_top_at, sx_top_rs, sx_next_at, sx_next_rs, sx_rs_at, sx_rs_rs, sx_rs_aside, sx_top_aside, sx_get_at, sx_get_rs, sx_get_aside, sx_callX, sx_callR, opSem, opv, did, isNil, loadV, binD, binI, hi, h5, h3, hl, hn]
theorem depD2_ok {cs : List D} {fr l : D} {i : Int} {n : Nat} (h3 : cs[3]? = some fr) (hl : lenV 1 h (.d fr) = some n) (h0 : 0 ≤ i) (hn : i < n) : ∃ s', run C lf depD2 ⟨[(6, .d (.ref cs 0)), (0, .d l), (1, .d (.int .i64 i)), (4, .d .nilslice)], h, lg⟩ = some (.norm, s') ∧ lk s'.env 4 = some (.d .nilslice) ∧ lk s'.env 6 = some (.d (.ref cs 0)) ∧ lk s'.env 0 = some (.d l) ∧ lk s'.env 1 = some (.d (.int .i64 i)) ∧ s'.heap = h := by
  have h4 : 3 < cs.length := (List.getElem?_eq_some_iff.1 h3).1
  have h5 : 4 ≤ cs.length := by omega
  clear h4
  have hi : ¬ i < 0 := by omega
  have hn' : ¬ (n : Int) ≤ i := by omega
  simp [depD2, sx_nil, sx_cons, sx_ops, sx_rN, sx_region, sx_seq, sx_seq_norm, sx_seq_exit, sx_seq_ret, sx_cond, sx_cond_t, sx_cond_f, sx_block, sx_block_norm, sx_block_ret, sx_block_exit, sx_exit, sx_ret, sx_skip, sx_step, sx_stepG, sx_g_tt, sx_g_ff, sx_g_tf, sx_g_ft, sx_g_u, sx_put, sx_put2, sx_put_some, sx_put_none, sx_lk, sx_log_p, sx_log_rd, sx_log_wr, sx_log_no, sx_log_g, sx_log_gn, sx_draw, sx_dnil, sx_dcons, sx_dn, sx_dp, sx_drd, sx_dwr, sx_dg, sx_dcls, sx_dcls_g, sx_dcls_gn, sx_top_at, sx_top_rs, sx_next_at, sx_next_rs, sx_rs_at, sx_rs_rs, sx_rs_aside, sx_top_aside, sx_get_at, sx_get_rs, sx_get_aside, sx_callX, sx_callR, opSem, opv, did, isNil, loadV, binD, binI, hi, h5, h3, hl, hn']
theorem depB_first {ks vs : List D} {seen : List Nat} {it j : Nat} {z : Int} {vd : D} (hg : h.get it = .iter ks vs (seen ++ [j])) (hk : ks[j]? = some (.int .i64 z)) (hv : vs[j]? = some vd) :
    ∃ s', run C lf depB ⟨[(27, .ptr it 0), (4, .d .nilslice)], h, lg⟩ = some (.norm, s') ∧ lk s'.env 27 = some (.ptr it 0) ∧ lk s'.env 4 = some (.arr h.next 0 1 1 none) ∧ s'.heap = h.new (.cells [.d (.int .i64 z)]) := by
  simp [depB, sx_nil, sx_cons, sx_ops, sx_rN, sx_region, sx_seq, sx_seq_norm, sx_seq_exit, sx_seq_ret, sx_cond, sx_cond_t, sx_cond_f, sx_block, sx_block_norm, sx_block_ret, sx_block_exit, sx_exit, sx_ret, sx_skip, sx_step, sx_stepG, sx_g_tt, sx_g_ff, sx_g_tf, sx_g_ft, sx_g_u, sx_put, sx_put2, sx_put_some, sx_put_none, sx_lk, sx_log_p, sx_log_rd, sx_log_wr, sx_log_no, sx_log_g, sx_log_gn, sx_draw, sx_dnil, sx_dcons, sx_dn, sx_dp, sx_drd, sx_dwr, sx_dg, sx_dcls, sx_dcls_g, sx_dcls_gn, sx_top_at, sx_top_rs, sx_next_at, sx_next_rs, sx_rs_at, sx_rs_rs, sx_rs_aside, sx_top_aside, sx_get_at, sx_get_rs, sx_get_aside, sx_callX, sx_callR, opSem, opv, did, hg, hk, hv, partsS, cellsOf, fillV, rep, putAt, allD, appendV, appendE, elems]
theorem depB_more {ks vs : List D} {seen : List Nat} {it j o n : Nat} {z : Int} {vd : D} {cs : List V} (hg : h.get it = .iter ks vs (seen ++ [j])) (hk : ks[j]? = some (.int .i64 z)) (hv : vs[j]? = some vd) (ho : h.get o = .cells cs) (hl : cs.length = n) (hn : n < 1000000000000) :
    ∃ s', run C lf depB ⟨[(27, .ptr it 0), (4, .arr o 0 n 1 none)], h, lg⟩ = some (.norm, s') ∧ lk s'.env 27 = some (.ptr it 0) ∧ lk s'.env 4 = some (.arr (h.set o .dead).next 0 (n + 1) 1 none) ∧ s'.heap = (h.set o .dead).new (.cells (cs ++ [.d (.int .i64 z)])) := by
  have e1 : (n + 1) * 8 ≤ 140737488355328 := by omega
  have e2 : n + 1 < 9223372036854775807 := by omega
  have e3 : ¬ n + 1 ≤ n := by omega
  simp [depB, sx_nil, sx_cons, sx_ops, sx_rN, sx_region, sx_seq, sx_seq_norm, sx_seq_exit, sx_seq_ret, sx_cond, sx_cond_t, sx_cond_f, sx_block, sx_block_norm, sx_block_ret, sx_block_exit, sx_exit, sx_ret, sx_skip, sx_step, sx_stepG, sx_g_tt, sx_g_ff, sx_g_tf, sx_g_ft, sx_g_u, sx_put, sx_put2, sx_put_some, sx_put_none, sx_lk, sx_log_p, sx_log_rd, sx_log_wr, sx_log_no, sx_log_g, sx_log_gn, sx_draw, sx_dnil, sx_dcons, sx_dn, sx_dp, sx_drd, sx_dwr, sx_dg, sx_dcls, sx_dcls_g, sx_dcls_gn, sx_top_at, sx_top_rs, sx_next_at, sx_next_rs, sx_rs_at, sx_rs_rs, sx_rs_aside, sx_top_aside, sx_get_at, sx_get_rs, sx_get_aside, sx_callX, sx_callR, opSem, opv, did, hg, hk, hv, partsS, cellsOf, fillV, rep, putAt, allD, appendV, appendE, elems, ho, hl, e1, e2, e3, flats, flatV, H.next_set]
end
section
variable {P : Program} {C : Calls} {G : Start} {N : Nat}

/-- where a round begins: these entries have come, and their keys stand in the slice -/
def DepInv (it : Nat) (vs : List D) (zs : List Int) (seen : List Nat) (v4 : V) (h : H) : Prop :=
  h.get it = .iter (zs.map (.int .i64)) vs seen ∧ seen.Nodup ∧ (∀ j ∈ seen, j < zs.length) ∧
  ((seen = [] ∧ v4 = .d .nilslice) ∨ (seen ≠ [] ∧ ∃ o, o ≠ it ∧ v4 = .arr o 0 seen.length 1 none ∧ h.get o = .cells (seen.map fun j => V.d (.int .i64 (zs.getD j 0)))))

theorem two_env {s' : St} {a b : Nat} {u v : V} (h0 : lk s'.env a = some u) (h1 : lk s'.env b = some v) : ∀ t z, lk [(a, u), (b, v)] t = some z → lk s'.env t = some z := by
  intro t z hz
  simp only [lk_cons] at hz
  by_cases e0 : t = a
  · subst e0; rw [if_pos rfl] at hz; rw [h0]; exact hz
  · rw [if_neg e0] at hz
    by_cases e1 : t = b
    · subst e1; rw [if_pos rfl] at hz; rw [h1]; exact hz
    · rw [if_neg e1] at hz; simp [lk] at hz

theorem nodup_le : ∀ (n : Nat) {l : List Nat}, l.Nodup → (∀ j ∈ l, j < n) → l.length ≤ n
  | 0, l, _, hl => by
    cases l with
    | nil => exact Nat.le_refl _
    | cons x l => exact absurd (hl x (by simp)) (by omega)
  | n + 1, l, hn, hl => by
    have h1 := nodup_le n (l := l.erase n) (hn.erase n) (fun j hj => by
      have := (List.Nodup.mem_erase_iff hn).1 hj
      have h2 := hl j this.2
      omega)
    have h2 := List.length_erase (a := n) (l := l)
    split at h2 <;> omega

theorem dep_loop (hC : CallsOk P C) (hm : P.follows .mixedOrders = true) {c : Code} (hk : chkCode P N c depL = true) {it : Nat} {vs : List D} {zs : List Int} (hvl : vs.length = zs.length) (hzl : zs.length < 1000000000000) {Q : Exit → Act → World → Prop}
    (hq : ∀ seen v4 h' k' μ' hb' a' w', DepInv it vs zs seen v4 h' → leftI seen zs.length = [] → Rel G N w' k' μ' hb' (lk [(27, .ptr it 0), (4, v4)]) h' a' → Q (.exit 0) a' w') :
    ∀ (q : Nat) (seen : List Nat) (v4 : V) (h : H) (w : World) (k : K) (μ : Nat → Loc) (hb : Nat → Nat) (a : Act), zs.length - seen.length < q → DepInv it vs zs seen v4 h → Rel G N w k μ hb (lk [(27, .ptr it 0), (4, v4)]) h a → Code.rounds P c Q q a w := by
  intro q
  induction q with
  | zero => intro seen v4 h w k μ hb a hlt; omega
  | succ q ih =>
    intro seen v4 h w k μ hb a hlt hi r
    rw [rounds_succ]
    obtain ⟨i1, i2, i3, i4⟩ := hi
    obtain ⟨x1, x2, rfl, g1, g2⟩ := chk_seq hk
    obtain ⟨id, ops, rfl, g3⟩ := chk_region g1
    obtain ⟨x3, x4, rfl, g4, g5⟩ := chk_seq g2
    obtain ⟨qc, x5, x6, rfl, g6, g7, g8⟩ := chk_cond g4
    obtain ⟨x7, rfl, g9⟩ := chk_block g5
    refine wp_seq (wp_region ?_)
    rw [List.range_eq_range']
    simp only [chkOps, Bool.and_eq_true] at g3
    obtain ⟨k0, k1, k2⟩ := g3
    have hsz : ops.size = 2 := (beq_nat.1 k2).symm
    rw [hsz]
    simp only [List.range']
    split at k0
    · rename_i o0 ho0
      split at k1
      · rename_i o1 ho1
        rw [wpOps_cons]
        have hgi : h.get it = .iter (zs.map (.int .i64)) vs seen := i1
        -- what is done behind the first operation, where the flag is b
        have rest : ∀ (b : Bool) (l : List D) (h' : H), (∀ k' μ' hb' a' w', Rel G N w' k' μ' hb' (lk [(27, .ptr it 0), (4, v4)]) h' a' → if b then Code.wp P (Code.block 1 x7) (Exit.then (Code.rounds P (.seq (.region id ops false) (.seq (.cond qc x5 x6) (.block 1 x7))) Q q) Q) a' w' else Q (.exit 0) a' w') →
            ∀ k' μ' hb' a' w', Rel G N w' k' μ' hb' (putρ (lk [(27, .ptr it 0), (4, v4)]) (some 28) (.d (.tuple (.bool b :: l)))) h' a' →
            wpOps P ops (Exit.then (Code.wp P (Code.seq (Code.cond qc x5 x6) (Code.block 1 x7)) (Exit.then (Code.rounds P (.seq (.region id ops false) (.seq (.cond qc x5 x6) (.block 1 x7))) Q q) Q)) (Exit.then (Code.rounds P (.seq (.region id ops false) (.seq (.cond qc x5 x6) (.block 1 x7))) Q q) Q)) [1] a' w' := by
          intro b l h' hcont k' μ' hb' a' w' r'
          rw [wpOps_cons]
          refine stepD_sound hC r' ho1 k1 (y := ⟨.d (.bool b), h', none, .p⟩) (by simp [stepD, opSem, opv, putρ, updρ, did]) fun k1' μ1 hb1 a1 w1 r1 => ?_
          show Code.wp P _ _ a1 w1
          have hc := opv_rep r1 g6 (v := .d (.bool b)) (by simp [opv, outρ, putρ, updρ])
          have hev : a1.eval qc = .bool b := by
            have := repV_d hc
            generalize a1.eval qc = u at this
            cases this; rfl
          have r2 : Rel G N w1 k1' μ1 hb1 (lk [(27, .ptr it 0), (4, v4)]) h' a1 := r1.less fun t v hv => by
            simp only [outρ, putρ, updρ, slotρ]
            simp only [lk_cons] at hv ⊢
            by_cases e1 : t = 27
            · subst e1; simpa using hv
            · by_cases e2 : t = 4
              · subst e2; simpa using hv
              · rw [if_neg e1, if_neg e2] at hv; simp [lk] at hv
          refine wp_seq (wp_cond (t := b) hev ?_)
          cases b with
          | true =>
            simp only [if_true] at hcont ⊢
            refine code_sound hC hm 0 x5 .skip _ ⟨_, h', none⟩ _ .norm w1 k1' μ1 hb1 a1 g7 r2 rfl fun k2 μ2 hb2 a2 w2 r3 => ?_
            exact hcont _ _ _ _ _ r3
          | false =>
            simp only [Bool.false_eq_true, if_false] at hcont ⊢
            refine code_sound hC hm 0 x6 (.exit 0) _ ⟨_, h', none⟩ _ (.exit 0) w1 k1' μ1 hb1 a1 g8 r2 rfl fun k2 μ2 hb2 a2 w2 r3 => ?_
            exact hcont _ _ _ _ _ r3
        refine next_wp r ho0 k0 (by simp [lk]) hgi ?_ ?_
        · intro hl k' μ' hb' a' w' r'
          refine rest false [] h ?_ _ _ _ _ _ r'
          intro k2 μ2 hb2 a2 w2 r2
          simp only [Bool.false_eq_true, if_false]
          exact hq seen v4 h _ _ _ _ _ ⟨i1, i2, i3, i4⟩ (by simpa using hl) r2
        · intro j hj ka va hka hva k' μ' hb' a' w' r'
          refine rest true [ka, va] _ ?_ _ _ _ _ _ r'
          intro k2 μ2 hb2 a2 w2 r2
          simp only [if_true]
          have hj' : j < zs.length ∧ j ∉ seen := by simpa using mem_leftI.1 hj
          have hz : (zs.map (D.int .i64))[j]? = some (.int .i64 (zs.getD j 0)) := by simp [hj'.1]
          have hget : (h.set it (.iter (zs.map (.int .i64)) vs (seen ++ [j]))).get it = .iter (zs.map (.int .i64)) vs (seen ++ [j]) := H.get_set_same _ _ _
          have hnd : (seen ++ [j]).Nodup := by
            rw [List.nodup_append]
            exact ⟨i2, by simp, by intro x hx y hy; simp at hy; subst hy; intro e; subst e; exact hj'.2 hx⟩
          have hlt2 : ∀ x ∈ seen ++ [j], x < zs.length := by
            intro x hx
            rcases List.mem_append.1 hx with h1 | h1
            · exact i3 x h1
            · simp at h1; subst h1; exact hj'.1
          have hsl := nodup_le _ hnd hlt2
          simp only [List.length_append, List.length_cons, List.length_nil] at hsl
          rcases i4 with ⟨rfl, rfl⟩ | ⟨hne, o, hoi, rfl, hgo⟩
          · obtain ⟨s', hs', p1, p2, p3⟩ := depB_first (C := C) (lf := 0) (lg := none) hget hz hva
            refine code_sound hC hm 0 (.block 1 x7) (.block 1 depB) _ ⟨_, _, none⟩ s' .norm w2 k2 μ2 hb2 a2 g5 r2 (by rw [sx_block]; exact congrArg (blockN 1) hs') fun k5 μ5 hb5 a5 w5 r5 => ?_
            show Code.rounds P _ Q q a5 w5
            refine ih [j] (.arr (h.set it (.iter (zs.map (.int .i64)) vs ([] ++ [j]))).next 0 1 1 none) s'.heap _ _ _ _ _ (by simp at hlt hsl ⊢; omega) ?_ (r5.less (two_env p1 p2))
            have hfresh := r2.inv.fresh
            have hin := r2.inv.lt it (by rw [hget]; simp)
            have hne2 : it ≠ (h.set it (.iter (zs.map (.int .i64)) vs ([] ++ [j]))).next := by intro e; rw [← e] at hfresh; exact hfresh hin
            rw [p3]
            refine ⟨by rw [H.get_new_ne _ _ hne2]; exact hget, by simp, by simpa using hlt2, .inr ⟨by simp, _, Ne.symm hne2, rfl, ?_⟩⟩
            rw [H.get_new_same]; simp [hj'.1]
          · have hgo2 : (h.set it (.iter (zs.map (.int .i64)) vs (seen ++ [j]))).get o = .cells (seen.map fun j => V.d (.int .i64 (zs.getD j 0))) := by rw [H.get_set_ne _ _ (Ne.symm hoi)]; exact hgo
            obtain ⟨s', hs', p1, p2, p3⟩ := depB_more (C := C) (lf := 0) (lg := none) (n := seen.length) hget hz hva hgo2 (by simp) (by omega)
            refine code_sound hC hm 0 (.block 1 x7) (.block 1 depB) _ ⟨_, _, none⟩ s' .norm w2 k2 μ2 hb2 a2 g5 r2 (by rw [sx_block]; exact congrArg (blockN 1) hs') fun k5 μ5 hb5 a5 w5 r5 => ?_
            show Code.rounds P _ Q q a5 w5
            refine ih (seen ++ [j]) (.arr ((h.set it (.iter (zs.map (.int .i64)) vs (seen ++ [j]))).set o .dead).next 0 (seen.length + 1) 1 none) s'.heap _ _ _ _ _ (by simp; omega) ?_ (r5.less (two_env p1 p2))
            have hfresh := r2.inv.fresh
            have hin := r2.inv.lt it (by rw [hget]; simp)
            have hne2 : it ≠ ((h.set it (.iter (zs.map (.int .i64)) vs (seen ++ [j]))).set o .dead).next := by rw [H.next_set]; intro e; rw [← e] at hfresh; exact hfresh hin
            rw [p3]
            refine ⟨?_, hnd, hlt2, .inr ⟨by simp, _, Ne.symm hne2, by simp, ?_⟩⟩
            · rw [H.get_new_ne _ _ hne2, H.get_set_ne _ _ hoi]; exact hget
            · rw [H.get_new_same]; simp [hj'.1]
      · cases k1
    · cases k0

theorem frzL_d : ∀ (n : Nat) (h : H) (xs : List D), xs.length < n → frzL n h (xs.map .d) = some (xs, h)
  | 0, _, _, hl => by omega
  | n + 1, h, [], _ => rfl
  | n + 1, h, x :: xs, hl => by
    have hn : ∃ m, n = m + 1 := by cases n with
      | zero => simp at hl
      | succ m => exact ⟨m, rfl⟩
    obtain ⟨m, rfl⟩ := hn
    simp only [List.map_cons, frzL, frz]
    rw [frzL_d (m + 1) h xs (by simp at hl; omega)]

def depS : List Int → D
  | [] => .nilslice
  | z :: l => .vec ((z :: l).map (.int .i64)) (z :: l).length false
def depP (C : Calls) (ini rep mk : Nat) : List D → Option D
  | [l, .int .i64 i] => match C.pure ini [] with
    | some th => match C.pure rep [th, .nilslice, l] with
      | some (.ref cs 0) => match cs[3]? with
        | some fr => match lenV 1 H.empty (.d fr) with
          | some n => if i < 0 ∨ (n : Int) ≤ i then some (.tuple [.nilslice, .int .i64 2]) else
              match C.pure mk [.ref cs 0, l, .vec [.int .i64 i] 1 true] with
              | some (.mapd ks vs) => match decV decInt (ks.map .d) with
                | some zs => if vs.length = ks.length ∧ ks.length < 90000 then some (.tuple [depS (isort leI zs), .int .i64 0]) else none
                | none => none
              | _ => none
          | none => none
        | none => none
      | _ => none
    | none => none
  | _ => none

theorem lenV_d {h h' : H} {x : D} : lenV 1 h (.d x) = lenV 1 h' (.d x) := by cases x <;> rfl
theorem leI_total (a b : Int) : (leI a b || leI b a) = true := by simp [leI]; omega
theorem leI_trans (a b c : Int) (h1 : leI a b = true) (h2 : leI b c = true) : leI a c = true := by simp [leI] at *; omega
theorem leI_anti (a b : Int) (h1 : leI a b = true) (h2 : leI b a = true) : a = b := by simp [leI] at *; omega

theorem decInt_spec {v : V} {x : Int} (h : decInt v = some x) : v = .d (.int .i64 x) := by
  unfold decInt at h
  split at h
  · injection h with h; subst h; rfl
  · cases h
theorem decV_map (zs : List Int) : decV decInt (zs.map fun z => V.d (.int .i64 z)) = some zs := by
  induction zs with
  | nil => rfl
  | cons z zs ih => simp only [List.map_cons, decV, decInt, ih]
theorem seen_perm {zs : List Int} {seen : List Nat} (hn : seen.Nodup) (hl : ∀ j ∈ seen, j < zs.length) (he : leftI seen zs.length = []) : (seen.map fun j => zs.getD j 0).Perm zs := by
  have h1 : seen.Perm (List.range zs.length) := by
    refine (List.perm_ext_iff_of_nodup hn List.nodup_range).2 fun j => ?_
    rw [List.mem_range]
    refine ⟨hl j, fun hj => ?_⟩
    by_cases hs : j ∈ seen
    · exact hs
    · have : j ∈ leftI seen zs.length := mem_leftI.2 ⟨hj, hs⟩
      rw [he] at this; cases this
  have h2 := h1.map (fun j => zs.getD j 0)
  have h3 : (List.range zs.length).map (fun j => zs.getD j 0) = zs := by
    apply List.ext_getElem?
    intro j
    rw [List.getElem?_map]
    by_cases hj : j < zs.length
    · rw [List.getElem?_range hj]; simp [hj]
    · rw [List.getElem?_eq_none (by simp; omega), List.getElem?_eq_none (by omega)]; rfl
  rw [h3] at h2; exact h2

theorem depT_nil {so it : Nat} {h : H} {lg : Option (List Nat)} (hpu : C.pure so [.nilslice] = some (.tuple [])) : ∃ s', run C 0 (depT so) ⟨[(27, .ptr it 0), (4, .d .nilslice)], h, lg⟩ = some (.ret, s') ∧ lk s'.env 4 = some (.d .nilslice) ∧ lk s'.env 5 = some (.d (.int .i64 0)) := by
  simp [depT, sx_nil, sx_cons, sx_ops, sx_rN, sx_region, sx_seq, sx_seq_norm, sx_seq_exit, sx_seq_ret, sx_cond, sx_cond_t, sx_cond_f, sx_block, sx_block_norm, sx_block_ret, sx_block_exit, sx_exit, sx_ret, sx_skip, sx_step, sx_stepG, sx_g_tt, sx_g_ff, sx_g_tf, sx_g_ft, sx_g_u, sx_put, sx_put2, sx_put_some, sx_put_none, sx_lk, sx_log_p, sx_log_rd, sx_log_wr, sx_log_no, sx_log_g, sx_log_gn, sx_draw, sx_dnil, sx_dcons, sx_dn, sx_dp, sx_drd, sx_dwr, sx_dg, sx_dcls, sx_dcls_g, sx_dcls_gn, sx_top_at, sx_top_rs, sx_next_at, sx_next_rs, sx_rs_at, sx_rs_rs, sx_rs_aside, sx_top_aside, sx_get_at, sx_get_rs, sx_get_aside, sx_callX, sx_callR, opSem, opv, opvs, did, allD, hpu]
theorem depT_arr {so it o n : Nat} {h h' : H} {ws : Option (List Nat)} (hfu : C.full so [.arr o 0 n 1 none] h = some (.d (.tuple []), h', ws)) : ∃ s', run C 0 (depT so) ⟨[(27, .ptr it 0), (4, .arr o 0 n 1 none)], h, none⟩ = some (.ret, s') ∧ lk s'.env 4 = some (.arr o 0 n 1 none) ∧ lk s'.env 5 = some (.d (.int .i64 0)) ∧ s'.heap = h' := by
  simp [depT, sx_nil, sx_cons, sx_ops, sx_rN, sx_region, sx_seq, sx_seq_norm, sx_seq_exit, sx_seq_ret, sx_cond, sx_cond_t, sx_cond_f, sx_block, sx_block_norm, sx_block_ret, sx_block_exit, sx_exit, sx_ret, sx_skip, sx_step, sx_stepG, sx_g_tt, sx_g_ff, sx_g_tf, sx_g_ft, sx_g_u, sx_put, sx_put2, sx_put_some, sx_put_none, sx_lk, sx_log_p, sx_log_rd, sx_log_wr, sx_log_no, sx_log_g, sx_log_gn, sx_draw, sx_dnil, sx_dcons, sx_dn, sx_dp, sx_drd, sx_dwr, sx_dg, sx_dcls, sx_dcls_g, sx_dcls_gn, sx_top_at, sx_top_rs, sx_next_at, sx_next_rs, sx_rs_at, sx_rs_rs, sx_rs_aside, sx_top_aside, sx_get_at, sx_get_rs, sx_get_aside, sx_callX, sx_callR, opSem, opv, opvs, did, allD, callX, callF, hfu]

theorem deps_ok (hC : CallsOk P C) (hm : P.follows .mixedOrders = true) {f ini rep mk so : Nat} {fn : Func} (hf : P.funcs[f]? = some fn) (hk : chkFn P fn (depA ini rep mk so) = true)
    (hso : C.full so = sortP decInt (fun z => .int .i64 z) leI) (hpu : C.pure so [.nilslice] = some (.tuple [])) {ds : List D} {d : D} (hd : depP C ini rep mk ds = some d) : PureOk P f ds d := by
  unfold depP at hd
  split at hd
  · rename_i l i
    split at hd
    · rename_i th hini
      split at hd
      · rename_i cs hrep
        split at hd
        · rename_i fr h3
          split at hd
          · rename_i n hn
            unfold chkFn at hk
            split at hk
            · rename_i c hb
              simp only [Bool.and_eq_true] at hk
              obtain ⟨⟨⟨k1, k2⟩, k3⟩, k4⟩ := hk
              have hnt : [l, D.int .i64 i].length ≤ fn.ntmps := by
                have : 2 ≤ fn.ntmps := by simpa [depA] using k1
                exact this
              refine pure_of_wpV hf hb hnt k3 fun G w k μ a Q r0 hq => ?_
              obtain ⟨c1, c2, rfl, g1, g2⟩ := chk_seq k2
              obtain ⟨c3, c4, rfl, g3, g4⟩ := chk_seq g2
              obtain ⟨c5, c6, rfl, g5, g6⟩ := chk_seq g4
              obtain ⟨c7, c8, rfl, g7, g8⟩ := chk_seq g6
              obtain ⟨c9, c10, rfl, g9, g10⟩ := chk_seq g7
              obtain ⟨c11, rfl, g11⟩ := chk_block g10
              obtain ⟨c12, rfl, g12⟩ := chk_loop g11
              refine wp_seq (code_sound hC hm 0 c1 _ _ ⟨args0 0 ([l, .int .i64 i].map .d), H.empty, none⟩ ⟨(5, .d (.int .i64 0)) :: (4, .d .nilslice) :: args0 0 ([l, .int .i64 i].map .d), H.empty, none⟩ .norm w k μ _ a g1 r0 rfl fun k1 μ1 hb1 a1 w1 r1 => ?_)
              have hpre : ∃ s', run C 0 (.region [⟨some 8, .callX ini [], none⟩, ⟨some 9, .mv (.t 0), none⟩, ⟨some 10, .callX rep [(.t 8), (.c .nilslice), (.t 9)], none⟩, ⟨some 6, .mv (.t 10), none⟩]) ⟨(5, .d (.int .i64 0)) :: (4, .d .nilslice) :: args0 0 ([l, .int .i64 i].map .d), H.empty, none⟩ = some (.norm, s') ∧ lk s'.env 6 = some (.d (.ref cs 0)) ∧ lk s'.env 0 = some (.d l) ∧ lk s'.env 1 = some (.d (.int .i64 i)) ∧ s'.heap = H.empty ∧ lk s'.env 4 = some (.d .nilslice) := by
                simp [sx_nil, sx_cons, sx_ops, sx_rN, sx_region, sx_seq, sx_seq_norm, sx_seq_exit, sx_seq_ret, sx_cond, sx_cond_t, sx_cond_f, sx_block, sx_block_norm, sx_block_ret, sx_block_exit, sx_exit, sx_ret, sx_skip, sx_step, sx_stepG, sx_g_tt, sx_g_ff, sx_g_tf, sx_g_ft, sx_g_u, sx_put, sx_put2, sx_put_some, sx_put_none, sx_lk, sx_log_p, sx_log_rd, sx_log_wr, sx_log_no, sx_log_g, sx_log_gn, sx_draw, sx_dnil, sx_dcons, sx_dn, sx_dp, sx_drd, sx_dwr, sx_dg, sx_dcls, sx_dcls_g, sx_dcls_gn, sx_top_at, sx_top_rs, sx_next_at, sx_next_rs, sx_rs_at, sx_rs_rs, sx_rs_aside, sx_top_aside, sx_get_at, sx_get_rs, sx_get_aside, sx_callX, sx_callR, opSem, opv, opvs, did, allD, hini, hrep, args0]
              obtain ⟨s1, hs1, p1, p2, p3, p4, p5⟩ := hpre
              refine wp_seq (code_sound hC hm 0 c3 _ _ _ s1 .norm w1 k1 μ1 hb1 a1 g3 r1 hs1 fun k2 μ2 hb2 a2 w2 r2 => ?_)
              rw [p4] at r2
              have r3 : Rel G fn.ntmps w2 k2 μ2 hb2 (lk [(6, .d (.ref cs 0)), (0, .d l), (1, .d (.int .i64 i)), (4, .d .nilslice)]) H.empty a2 := r2.less fun t v hv => by
                simp only [lk_cons] at hv
                by_cases e1 : t = 6
                · subst e1; rw [p1]; simpa using hv
                · by_cases e2 : t = 0
                  · subst e2; rw [p2]; simpa using hv
                  · by_cases e3 : t = 1
                    · subst e3; rw [p3]; simpa using hv
                    · by_cases e4 : t = 4
                      · subst e4; rw [p5]; simpa using hv
                      · rw [if_neg e1, if_neg e2, if_neg e3, if_neg e4] at hv; simp [lk] at hv
              by_cases hbad : i < 0 ∨ (n : Int) ≤ i
              · rw [if_pos hbad] at hd
                injection hd with hd; subst hd
                obtain ⟨s2, hs2, q1, q2⟩ := depD2_bad (C := C) (lf := 0) (h := H.empty) (l := l) (lg := none) h3 hn hbad
                refine wp_seq (code_sound hC hm 0 c5 depD2 _ _ s2 .ret w2 k2 μ2 hb2 a2 g5 r3 hs2 fun k5 μ5 hb5 a5 w5 r5 => ?_)
                exact hq .ret w5 k5 μ5 hb5 a5 s2 (.d (.tuple [.nilslice, .int .i64 2])) s2.heap (.inr rfl) r5 (by simp [depA, result, resV, opv, q1, q2, mkTuple, allD]) rfl
              · rw [if_neg hbad] at hd
                split at hd
                · rename_i ks vs hmk
                  split at hd
                  · rename_i zs hzs
                    split at hd
                    · rename_i hlen
                      injection hd with hd; subst hd
                      have hks : ks = zs.map (.int .i64) := by
                        have := decV_spec (enc := fun z => D.int .i64 z) (fun v x h => decInt_spec h) hzs
                        have e2 : ks.map V.d = (zs.map (D.int .i64)).map V.d := by rw [this]; simp
                        exact (List.map_inj_right (fun a b h => by injection h)).1 e2
                      subst hks
                      simp only [List.length_map] at hlen
                      obtain ⟨s2, hs2, q0, q1, q2, q3, q4⟩ := depD2_ok (C := C) (lf := 0) (h := H.empty) (l := l) (i := i) (lg := none) h3 hn (by omega) (by omega)
                      refine wp_seq (code_sound hC hm 0 c5 depD2 _ _ s2 .norm w2 k2 μ2 hb2 a2 g5 r3 hs2 fun k5 μ5 hb5 a5 w5 r5 => ?_)
                      have hmid : ∃ s', run C 0 (.region (depM mk)) ⟨s2.env, H.empty, none⟩ = some (.norm, s') ∧ lk s'.env 27 = some (.ptr 0 0) ∧ lk s'.env 4 = some (.d .nilslice) ∧ s'.heap = H.empty.new (.iter (zs.map (.int .i64)) vs []) := by
                        have hcons : ∃ x e, s2.env = x :: e := by
                          cases he : s2.env with
                          | nil => rw [he] at q1; simp [lk] at q1
                          | cons x e => exact ⟨x, e, rfl⟩
                        obtain ⟨x, e, he⟩ := hcons
                        rw [he] at q0 q1 q2 q3 ⊢
                        obtain ⟨xi, xv⟩ := x
                        simp only [sx_lk] at q0 q1 q2 q3
                        simp [depM, sx_nil, sx_cons, sx_ops, sx_rN, sx_region, sx_seq, sx_seq_norm, sx_seq_exit, sx_seq_ret, sx_cond, sx_cond_t, sx_cond_f, sx_block, sx_block_norm, sx_block_ret, sx_block_exit, sx_exit, sx_ret, sx_skip, sx_step, sx_stepG, sx_g_tt, sx_g_ff, sx_g_tf, sx_g_ft, sx_g_u, sx_put, sx_put2, sx_put_some, sx_put_none, sx_lk, sx_log_p, sx_log_rd, sx_log_wr, sx_log_no, sx_log_g, sx_log_gn, sx_draw, sx_dnil, sx_dcons, sx_dn, sx_dp, sx_drd, sx_dwr, sx_dg, sx_dcls, sx_dcls_g, sx_dcls_gn, sx_top_at, sx_top_rs, sx_next_at, sx_next_rs, sx_rs_at, sx_rs_rs, sx_rs_aside, sx_top_aside, sx_get_at, sx_get_rs, sx_get_aside, sx_callX, sx_callR, opSem, opv, opvs, did, allD, hmk, partsS, cellsOf, fillV, Avm.rep, putAt, q0, q1, q2, q3]
                        rfl
                      obtain ⟨s3, hs3, v1, v2, v3⟩ := hmid
                      rw [q4] at r5
                      refine wp_seq (wp_seq (code_sound hC hm 0 c9 _ _ ⟨s2.env, H.empty, none⟩ s3 .norm w5 k5 μ5 hb5 a5 g9 r5 hs3 fun k6 μ6 hb6 a6 w6 r6 => ?_))
                      refine wp_block (wp_loop_rounds (zs.length + 1) ?_)
                      refine dep_loop hC hm g12 (it := 0) (vs := vs) (zs := zs) hlen.1 (by omega) ?_ (zs.length + 1) [] (.d .nilslice) s3.heap w6 k6 μ6 hb6 a6 (by simp) ⟨by rw [v3]; exact H.get_new_same H.empty _, .nil, by simp, .inl ⟨rfl, rfl⟩⟩ (r6.less (two_env v1 v2))
                      intro seen v4 h' k7 μ7 hb7 a7 w7 hi hle r7
                      obtain ⟨i1, i2, i3, i4⟩ := hi
                      have hperm := seen_perm i2 i3 hle
                      show Code.wp P c8 _ a7 w7
                      rcases i4 with ⟨rfl, rfl⟩ | ⟨hne, o, hoi, rfl, hgo⟩
                      · have hz0 : zs = [] := by
                          have := hperm.length_eq
                          simp at this; exact List.eq_nil_of_length_eq_zero this.symm
                        subst hz0
                        obtain ⟨s4, hs4, u1, u2⟩ := depT_nil (C := C) (it := 0) (h := h') (lg := none) hpu
                        refine code_sound hC hm 0 c8 (depT so) _ ⟨_, h', none⟩ s4 .ret w7 k7 μ7 hb7 a7 g8 r7 hs4 fun k8 μ8 hb8 a8 w8 r8 => ?_
                        exact hq .ret w8 k8 μ8 hb8 a8 s4 (.d (.tuple [.nilslice, .int .i64 0])) s4.heap (.inr rfl) r8 (by simp [depA, result, resV, opv, u1, u2, mkTuple, allD]) rfl
                      · have hlen2 : seen.length = zs.length := by have := hperm.length_eq; simpa using this
                        have hcs : ((seen.map fun j => V.d (.int .i64 (zs.getD j 0))).drop 0).take seen.length = (seen.map fun j => zs.getD j 0).map fun z => V.d (.int .i64 z) := by
                          rw [List.drop_zero, List.take_of_length_le (by simp), List.map_map]; rfl
                        have hfu : C.full so [.arr o 0 seen.length 1 none] h' = some (.d (.tuple []), h'.set o (.cells ((isort leI zs).map fun z => V.d (.int .i64 z))), some [o]) := by
                          rw [hso]
                          simp only [sortP, hgo]
                          rw [if_pos ⟨trivial, by simp, by omega⟩, hcs, decV_map]
                          have e1 : isort leI (seen.map fun j => zs.getD j 0) = isort leI zs := isort_eq leI_total leI_trans leI_anti hperm
                          simp only [e1]
                          have e2 : putAt (seen.map fun j => V.d (.int .i64 (zs.getD j 0))) ((isort leI zs).map fun z => V.d (.int .i64 z)) 0 = (isort leI zs).map fun z => V.d (.int .i64 z) := by
                            unfold putAt
                            rw [List.drop_of_length_le (by simp [(isort_perm leI zs).length_eq, hlen2])]
                            simp
                          rw [e2]
                        obtain ⟨s4, hs4, u1, u2, u3⟩ := depT_arr (C := C) (it := 0) hfu
                        refine code_sound hC hm 0 c8 (depT so) _ ⟨_, h', none⟩ s4 .ret w7 k7 μ7 hb7 a7 g8 r7 hs4 fun k8 μ8 hb8 a8 w8 r8 => ?_
                        have hsl : (isort leI zs).length = zs.length := (isort_perm leI zs).length_eq
                        have hgs : s4.heap.get o = .cells ((isort leI zs).map fun z => V.d (.int .i64 z)) := by rw [u3, H.get_set_same]
                        have hmap : ((isort leI zs).map fun z => V.d (.int .i64 z)) = ((isort leI zs).map (D.int .i64)).map V.d := by simp
                        have hz1 : zs ≠ [] := by intro e; subst e; simp at hlen2; exact hne hlen2
                        have hfz : frz 100000 s4.heap (.tuple [.arr o 0 seen.length 1 none, .d (.int .i64 0)]) = some (.tuple [depS (isort leI zs), .int .i64 0], (s4.heap.set o .dead).set o (.frozen ((isort leI zs).map (D.int .i64)))) := by
                          have hO : frzO 99997 s4.heap o = some ((isort leI zs).map (D.int .i64), (s4.heap.set o .dead).set o (.frozen ((isort leI zs).map (D.int .i64)))) := by
                            rw [show (99997 : Nat) = 99996 + 1 from rfl]
                            simp only [frzO, hgs, hmap]
                            rw [frzL_d 99996 _ _ (by simp [hsl]; omega)]
                          have hA : frz (99997 + 1) s4.heap (.arr o 0 seen.length 1 none) = some (depS (isort leI zs), (s4.heap.set o .dead).set o (.frozen ((isort leI zs).map (D.int .i64)))) := by
                            simp only [frz, hO]
                            have : Nat.ble (0 + seen.length * 1) ((isort leI zs).map (D.int .i64)).length = true := by simp [hsl, hlen2]
                            rw [if_pos this]
                            cases hi : isort leI zs with
                            | nil => rw [hi] at hsl; exact absurd (List.eq_nil_of_length_eq_zero hsl.symm) hz1
                            | cons z l =>
                              have hl2 : l.length + 1 = seen.length := by rw [hi] at hsl; simp at hsl; omega
                              simp [depS, ← hl2, List.take_of_length_le]
                          rw [show (100000 : Nat) = 99999 + 1 from rfl]
                          simp only [frz]
                          rw [show (99999 : Nat) = 99998 + 1 from rfl]
                          simp only [frzL]
                          rw [show (99998 : Nat) = 99997 + 1 from rfl]
                          rw [hA]
                          simp only
                          rw [show (99997 : Nat) = 99996 + 1 from rfl]
                          simp only [frz]
                        exact hq .ret w8 k8 μ8 hb8 a8 s4 (.tuple [.arr o 0 seen.length 1 none, .d (.int .i64 0)]) _ (.inr rfl) r8 (by simp [depA, result, resV, opv, u1, u2, mkTuple, allD]) hfz
                    · cases hd
                  · cases hd
                · cases hd
            · cases hk
          · cases hd
        · cases hd
      · cases hd
    · cases hd
  · cases hd
end
end Go.Avm

/- The abstract machine on data: programs, function by function; the library's functions. -/
namespace Go.Avm
open Go

def ProgAll (P : Program) : Prog → Prop
  | .nil => True
  | .node k f l r => (∃ fn, P.funcs[k]? = some fn ∧ chkFn P fn f = true) ∧ ProgAll P l ∧ ProgAll P r
  | .prim k p l r => (BodyOk P k ∧ ∀ ds d, p ds = some d → PureOk P k ds d) ∧ ProgAll P l ∧ ProgAll P r
  | .primF k p l r => (BodyOk P k ∧ ∀ vs v h h' ws, p vs h = some (v, h', ws) → FullOk P k vs v h h' ∧ LogR h h' ws) ∧ ProgAll P l ∧ ProgAll P r

def DefOk (P : Program) (k : Nat) : Def → Prop
  | .fn f => ∃ fn, P.funcs[k]? = some fn ∧ chkFn P fn f = true
  | .prim p => BodyOk P k ∧ ∀ ds d, p ds = some d → PureOk P k ds d
  | .primF p => BodyOk P k ∧ ∀ vs v h h' ws, p vs h = some (v, h', ws) → FullOk P k vs v h h' ∧ LogR h h' ws
theorem progAll_find {P : Program} : ∀ (pg : Prog), ProgAll P pg → ∀ i d, pg.find i = some d → DefOk P i d
  | .nil, _, i, d, h => by simp [Prog.find] at h
  | .node k f l r, ha, i, d, h => by
    obtain ⟨h1, h2, h3⟩ := ha
    simp only [Prog.find] at h
    split at h
    · rename_i hb; have := beq_nat.1 hb; subst this; injection h with h; subst h; exact h1
    · split at h
      · exact progAll_find l h2 i d h
      · exact progAll_find r h3 i d h
  | .prim k p l r, ha, i, d, h => by
    obtain ⟨h1, h2, h3⟩ := ha
    simp only [Prog.find] at h
    split at h
    · rename_i hb; have := beq_nat.1 hb; subst this; injection h with h; subst h; exact h1
    · split at h
      · exact progAll_find l h2 i d h
      · exact progAll_find r h3 i d h
  | .primF k p l r, ha, i, d, h => by
    obtain ⟨h1, h2, h3⟩ := ha
    simp only [Prog.find] at h
    split at h
    · rename_i hb; have := beq_nat.1 hb; subst this; injection h with h; subst h; exact h1
    · split at h
      · exact progAll_find l h2 i d h
      · exact progAll_find r h3 i d h
theorem progOk_of {P : Program} {pg : Prog} (hm : P.follows .mixedOrders = true) (ha : ProgAll P pg) : ProgOk P pg :=
  ⟨hm, fun f a h => progAll_find pg ha f _ h, fun f p h => progAll_find pg ha f _ h, fun f p h => progAll_find pg ha f _ h⟩

def chkBody (fn : Func) : Bool := fn.body.isSome && !decide (fn.name = "runtime.NumGoroutine")
theorem bodyOk_of {P : Program} {k : Nat} {fn : Func} (hf : P.funcs[k]? = some fn) (h : chkBody fn = true) : BodyOk P k := by
  unfold chkBody at h
  simp only [Bool.and_eq_true, Bool.not_eq_true', decide_eq_false_iff_not] at h
  exact ⟨fn, hf, h.1, h.2⟩

/-! two strings compared -/
def cmpP : List D → Option D
  | [.str a, .str b] => some (.int .i64 (Lib.compareBytes a.data.toList b.data.toList))
  | _ => none
theorem cmp_ok {P : Program} {f : Nat} (h : ∀ (a b : ByteArray) (w : World), Go.Calls P f #[.string a, .string b] w fun e w' => e = .returned (.int .i64 (Lib.compareBytes a.data.toList b.data.toList)) ∧ w' = w) {ds : List D} {d : D} (hd : cmpP ds = some d) : PureOk P f ds d := by
  unfold cmpP at hd
  split at hd
  · rename_i a b
    injection hd with hd; subst hd
    intro w k args ha hr
    have e1 : args = #[.string a, .string b] := by
      obtain ⟨h1, h2⟩ := hr
      apply Array.ext'
      match hl : args.toList, h1 with
      | [x, y], _ =>
        have g1 := h2 0 x (.str a) (by rw [hl]; rfl) rfl
        have g2 := h2 1 y (.str b) (by rw [hl]; rfl) rfl
        cases g1; cases g2; rfl
    subst e1
    refine (h a b w).mono ?_
    rintro e w' ⟨rfl, rfl⟩
    exact ⟨_, k, rfl, Nat.le_refl _, fun _ _ => rfl, rfl, rfl, rfl, ha, K.le_refl k, fun _ _ _ h => .inl h, fun _ _ h => .inl h, .int _ _⟩
  · cases hd

/-! sorts -/
def leS (a b : List UInt8) : Bool := decide (a ≤ b)
def encS (l : List UInt8) : D := .str ⟨l.toArray⟩
theorem sortInt_ok {P : Program} {f : Nat} (hs : SortOk P f (Value.int .i64) leI) {vs : List V} {v : V} {h h' : H} {ws : Option (List Nat)} (hp : sortP decInt (fun z => .int .i64 z) leI vs h = some (v, h', ws)) : FullOk P f vs v h h' ∧ LogR h h' ws :=
  sort_full hs (fun v x h => decInt_spec h) (fun k x => .int _ _) (fun k u x h => by cases h; rfl) (fun x => rfl) leI_total leI_trans leI_anti hp
theorem leS_total (a b : List UInt8) : (leS a b || leS b a) = true := by
  simp only [leS, Bool.or_eq_true, decide_eq_true_eq]; exact List.le_total a b
theorem leS_trans (a b c : List UInt8) (h1 : leS a b = true) (h2 : leS b c = true) : leS a c = true := by
  simp only [leS, decide_eq_true_eq] at *; exact List.le_trans h1 h2
theorem leS_anti (a b : List UInt8) (h1 : leS a b = true) (h2 : leS b a = true) : a = b := by
  simp only [leS, decide_eq_true_eq] at *; exact List.le_antisymm h1 h2
theorem decStr_spec {v : V} {x : List UInt8} (h : decStr v = some x) : v = .d (encS x) := by
  unfold decStr at h
  split at h
  · injection h with h; subst h; rfl
  · cases h
theorem sortStr_ok {P : Program} {f : Nat} (hs : SortOk P f Go.Proofs.encStr leS) {vs : List V} {v : V} {h h' : H} {ws : Option (List Nat)} (hp : sortP decStr encS leS vs h = some (v, h', ws)) : FullOk P f vs v h h' ∧ LogR h h' ws :=
  sort_full hs (fun v x h => decStr_spec h) (fun k x => .str _) (fun k u x h => by cases h; rfl) (fun x => rfl) leS_total leS_trans leS_anti hp

def callsOf (pg : Prog) (n : Nat) : Calls := ⟨pureOf (callN pg n), callN pg n⟩
theorem callsOf_ok {P : Program} {pg : Prog} (hp : ProgOk P pg) (n : Nat) : CallsOk P (callsOf pg n) := calls_ok hp n
theorem callsOf_primF {pg : Prog} {n f : Nat} {p : List V → H → Option (V × H × Option (List Nat))} (hf : pg.find f = some (.primF p)) : (callsOf pg (n + 1)).full f = p := by
  funext vs h
  simp [callsOf, callN, hf]
theorem callsOf_pure {pg : Prog} {n f : Nat} {p : List V → H → Option (V × H × Option (List Nat))} (hf : pg.find f = some (.primF p)) {x d : D} {h : H} {ws : Option (List Nat)} (hp : p [.d x] H.empty = some (.d d, h, ws)) : (callsOf pg (n + 1)).pure f [x] = some d := by
  have := callsOf_primF (n := n) hf
  simp only [callsOf] at this ⊢
  simp only [pureOf, List.map_cons, List.map_nil, this, hp, frz]
end Go.Avm


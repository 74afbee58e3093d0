/- proof.Run on empty steps, run by the machine for any number of steps. -/
import Derived.Test.YtgakndkfbhhcnaaGreatAv9
import Derived.Test.YtgakndkfbhhcnaaGreatF0
import Derived.Test.YtgakndkfbhhcnaaGreatF1
import Derived.Test.YtgakndkfbhhcnaaGreatF2
set_option linter.unusedVariables false
set_option linter.unusedSimpArgs false
namespace Go.Px
open Go Go.Avm
set_option maxHeartbeats 4000000
set_option maxRecDepth 100000
def ruleKeys : List D := [1, 2, 3, 4, 5, 10, 11, 12, 13, 14, 15, 16, 17, 18, 19].map fun n => D.int .u8 n
def ruleV (f : Nat) (a b c : Int) (p : Nat) : V := .agg [.d (.int .i64 a), .d (.int .i64 b), .d (.int .i64 c), .func f [.ptr p 0] []]
def ruleVals (p : Nat) : List V := [ruleV 117 1 0 0 p, ruleV 118 1 0 0 p, ruleV 119 0 1 0 p, ruleV 120 1 1 0 p, ruleV 121 3 0 1 p, ruleV 122 0 1 0 p, ruleV 123 0 0 2 p, ruleV 124 0 0 2 p, ruleV 125 0 1 1 p, ruleV 126 0 1 0 p, ruleV 127 0 1 0 p, ruleV 128 0 0 2 p, ruleV 129 0 0 2 p, ruleV 130 0 0 1 p, ruleV 131 0 0 1 p]
theorem rules_run {C : Avm.Calls} {lf p : Nat} {g : H} : ∃ env lg, run C lf a80.body ⟨[(0, .ptr p 0)], g, some []⟩ = some (.ret, ⟨env, g.new (.map ruleKeys (ruleVals p)), lg⟩) ∧ lk env 2 = some (.mapr g.next) := by
  simp [a80, sx_nil, sx_cons, sx_ops, sx_rN, sx_region, sx_seq, sx_seq_norm, sx_seq_exit, sx_seq_ret, sx_cond, sx_cond_t, sx_cond_f, sx_block, sx_block_norm, sx_block_ret, sx_block_exit, sx_exit, sx_ret, sx_skip, sx_step, sx_stepG, sx_g_tt, sx_g_ff, sx_g_tf, sx_g_ft, sx_g_u, sx_put, sx_put2, sx_put_some, sx_put_none, sx_lk, sx_log_p, sx_log_rd, sx_log_wr, sx_log_no, sx_log_g, sx_log_gn, sx_draw, sx_dnil, sx_dcons, sx_dn, sx_dp, sx_drd, sx_dwr, sx_dg, sx_dcls, sx_dcls_g, sx_dcls_gn, sx_top_at, sx_top_rs, sx_next_at, sx_next_rs, sx_rs_at, sx_rs_rs, sx_rs_aside, sx_top_aside, sx_get_at, sx_get_rs, sx_get_aside, sx_callX, sx_callR, opSem, opv, opvs, did, H.set_new, H.set_set, H.get_new_same, idx, keyEq, keyOk, mkFunc, allD, partsV, fillV, cellsOf, putAt, mkAgg, ruleKeys, ruleVals, ruleV]
theorem rules_full {pg : Prog} (hf : pg.find 80 = some (.fn a80)) {n p : Nat} {g : H} : ∃ ws, callN pg (n + 1) 80 [.ptr p 0] g = some (.mapr g.next, g.new (.map ruleKeys (ruleVals p)), ws) := by
  obtain ⟨env, lg, h1, h2⟩ := rules_run (C := ⟨pureOf (callN pg n), callN pg n⟩) (lf := n) (p := p) (g := g)
  exact ⟨_, callN_fn (s := ⟨env, g.new (.map ruleKeys (ruleVals p)), lg⟩) (v := .mapr g.next) hf rfl h1 (.inr rfl) (by simp [a80, result, resV, opv, h2])⟩
/-- a step whose rule is none is an invalid one -/
theorem perform_none {C : Avm.Calls} {lf p : Nat} {h : H} {ws : Option (List Nat)} {x1 x2 x3 x4 x5 x6 x7 x8 x9 : D}
    (hr : C.full 80 [.ptr p 0] ((h.aside 11).at (h.top + 1)) = some (.mapr (h.top + 1), ((h.aside 11).at (h.top + 1)).new (.map ruleKeys (ruleVals p)), ws)) :
    ∃ env lg, run C lf a73.body ⟨[(0, .ptr p 0), (1, .d (.agg [.int .u8 0, x1, x2, x3, x4, x5, x6, x7, x8, x9]))], h, some []⟩ = some (.ret, ⟨env, ((h.aside 11).set (h.top + 1) (.map ruleKeys (ruleVals p))), lg⟩) ∧ lk env 4 = some (.d (.int .i64 2)) := by
  rcases ws with _ | ws <;> simp [a73, sx_nil, sx_cons, sx_ops, sx_rN, sx_region, sx_seq, sx_seq_norm, sx_seq_exit, sx_seq_ret, sx_cond, sx_cond_t, sx_cond_f, sx_block, sx_block_norm, sx_block_ret, sx_block_exit, sx_exit, sx_ret, sx_skip, sx_step, sx_stepG, sx_g_tt, sx_g_ff, sx_g_tf, sx_g_ft, sx_g_u, sx_put, sx_put2, sx_put_some, sx_put_none, sx_lk, sx_log_p, sx_log_rd, sx_log_wr, sx_log_no, sx_log_g, sx_log_gn, sx_draw, sx_dnil, sx_dcons, sx_dn, sx_dp, sx_drd, sx_dwr, sx_dg, sx_dcls, sx_dcls_g, sx_dcls_gn, sx_top_at, sx_top_rs, sx_next_at, sx_next_rs, sx_rs_at, sx_rs_rs, sx_rs_aside, sx_top_aside, sx_get_at, sx_get_rs, sx_get_aside, sx_callX, sx_callR, sx_get_new_at, sx_get_new_at_ne, sx_top_new_at, sx_rs_new_at, sx_top_set, sx_next_set, sx_set_at, sx_rs_set, sx_get_set, opSem, opv, opvs, did, callX, callF, hr, allD, loadV, dcells, lookupV, giveV, keyOk, idx, keyEq, ruleKeys, fits, compat, low, flats, flatV]
end Go.Px

namespace Go.Px
open Go Go.Avm
set_option maxHeartbeats 8000000
set_option maxRecDepth 100000
def zstep : List D := [.int .u8 0, .nilslice, .nilslice, .nilslice, .nilslice, .nilslice, .int .i64 0, .bool false, .str ⟨#[]⟩, .nilslice]
def zsteps : Nat → List D
  | 0 => []
  | n + 1 => zstep ++ zsteps n
theorem zsteps_length : ∀ n, (zsteps n).length = n * 10
  | 0 => rfl
  | n + 1 => by simp [zsteps, zstep, zsteps_length n]; omega
theorem zsteps_at : ∀ n i, i < n → ((zsteps n).drop (i * 10)).take 10 = zstep
  | 0, i, h => by omega
  | n + 1, 0, h => by simp [zsteps, zstep]
  | n + 1, i + 1, h => by
    have : (i + 1) * 10 = zstep.length + i * 10 := by simp [zstep]; omega
    have e2 : (zstep ++ zsteps n).drop (zstep.length + i * 10) = (zsteps n).drop (i * 10) := by
      rw [List.drop_append, List.drop_of_length_le (by omega), List.nil_append, Nat.add_sub_cancel_left]
    rw [zsteps, this, e2, zsteps_at n i (by omega)]
def mcells (th v2 : V) : List V := [th, .d .nilslice, v2, .d .nilslice] ++ zstep.map .d ++ [.d .nilslice, .d .nilslice]
def replayB : AC := match a41.body with
  | .seq _ (.seq _ (.seq (.seq _ (.block _ (.loop _ c))) _)) => c
  | _ => .skip
/-- one round: the step is invalid, its error e is kept -/
theorem round_run {C : Avm.Calls} {lf p i m : Nat} {h h1 : H} {lg : Option (List Nat)} {th v2 : V} {o' q' : Nat} {h2 : H} {e : Int} {env : List (Nat × V)} {ws : Option (List Nat)}
    (h7 : lk env 7 = some (.ptr p 0)) (h18 : lk env 18 = some (.d (.vec (zsteps m) m true))) (h19 : lk env 19 = some (.d (.int .i64 m))) (h20 : lk env 20 = some (.d (.int .i64 i))) (hi : i < m) (hm : m ≤ 4098)
    (he : if i < 4096 then e = 2 ∧ C.full 73 [.ptr p 0, .d (.agg zstep)] h = some (.d (.int .i64 2), h1, ws) else e = 4 ∧ h1 = h)
    (hg : h1.get p = .cells (mcells th v2)) (ha : appendV 1 8 h1 v2 (.d (.vec [.int .i64 e] 1 true)) = some (.arr o' 0 q' 1 none, h2)) (hg2 : h2.get p = .cells (mcells th v2)) (hv2 : v2 = .d .nilslice ∨ ∃ o q, v2 = .arr o 0 q 1 none) :
    ∃ env' lg', run C lf replayB ⟨env, h, lg⟩ = some (.norm, ⟨env', h2.set p (.cells (mcells th (.arr o' 0 q' 1 none))), lg'⟩) ∧ lk env' 7 = some (.ptr p 0) ∧ lk env' 18 = some (.d (.vec (zsteps m) m true)) ∧ lk env' 19 = some (.d (.int .i64 m)) ∧ lk env' 20 = some (.d (.int .i64 (i + 1 : Nat))) := by
  have c1 : (i : Int) < m := by omega
  have c2 : (0 : Int) ≤ i := by omega
  have c3 : i * 10 + 10 ≤ (zsteps m).length := by rw [zsteps_length]; omega
  have c4 := zsteps_at m i hi
  have c5 : IntKind.wrap .i64 ((i : Int) + 1) = (i : Int) + 1 := by
    simp [IntKind.wrap, IntKind.bits, IntKind.signed]; omega
  simp only [mcells, zstep, List.map_cons, List.map_nil, List.cons_append, List.nil_append] at hg hg2 ⊢
  by_cases hlt : i < 4096
  · rw [if_pos hlt] at he
    obtain ⟨rfl, he⟩ := he
    have c6 : (i : Int) < 4096 := by omega
    simp only [zstep] at he c4
    rcases hv2 with rfl | ⟨o, q, rfl⟩ <;> cases ws <;> simp [replayB, a41, sx_nil, sx_cons, sx_ops, sx_rN, sx_region, sx_seq, sx_seq_norm, sx_seq_exit, sx_seq_ret, sx_cond, sx_cond_t, sx_cond_f, sx_block, sx_block_norm, sx_block_ret, sx_block_exit, sx_exit, sx_ret, sx_skip, sx_step, sx_stepG, sx_g_tt, sx_g_ff, sx_g_tf, sx_g_ft, sx_g_u, sx_put, sx_put2, sx_put_some, sx_put_none, sx_lk, sx_log_p, sx_log_rd, sx_log_wr, sx_log_no, sx_log_g, sx_log_gn, sx_draw, sx_dnil, sx_dcons, sx_dn, sx_dp, sx_drd, sx_dwr, sx_dg, sx_dcls, sx_dcls_g, sx_dcls_gn, sx_top_at, sx_top_rs, sx_next_at, sx_next_rs, sx_rs_at, sx_rs_rs, sx_rs_aside, sx_top_aside, sx_get_at, sx_get_rs, sx_get_aside, sx_callX, sx_callR, sx_get_new_at, sx_get_new_at_ne, sx_top_new_at, sx_rs_new_at, sx_top_set, sx_next_set, sx_set_at, sx_rs_set, sx_get_set, opSem, opv, opvs, did, isNil, binD, binI, loadV, dcells, flats, flatV, callX, callF, allD, partsS, fillV, cellsOf, Avm.rep, storeV, h7, h18, h19, h20, c1, c2, c3, c4, c5, c6, he, hg, ha, hg2, putAt, ids]
  · rw [if_neg hlt] at he
    obtain ⟨rfl, rfl⟩ := he
    have c6 : ¬ (i : Int) < 4096 := by omega
    simp only [zstep] at c4
    rcases hv2 with rfl | ⟨o, q, rfl⟩ <;> simp [replayB, a41, sx_nil, sx_cons, sx_ops, sx_rN, sx_region, sx_seq, sx_seq_norm, sx_seq_exit, sx_seq_ret, sx_cond, sx_cond_t, sx_cond_f, sx_block, sx_block_norm, sx_block_ret, sx_block_exit, sx_exit, sx_ret, sx_skip, sx_step, sx_stepG, sx_g_tt, sx_g_ff, sx_g_tf, sx_g_ft, sx_g_u, sx_put, sx_put2, sx_put_some, sx_put_none, sx_lk, sx_log_p, sx_log_rd, sx_log_wr, sx_log_no, sx_log_g, sx_log_gn, sx_draw, sx_dnil, sx_dcons, sx_dn, sx_dp, sx_drd, sx_dwr, sx_dg, sx_dcls, sx_dcls_g, sx_dcls_gn, sx_top_at, sx_top_rs, sx_next_at, sx_next_rs, sx_rs_at, sx_rs_rs, sx_rs_aside, sx_top_aside, sx_get_at, sx_get_rs, sx_get_aside, sx_callX, sx_callR, sx_get_new_at, sx_get_new_at_ne, sx_top_new_at, sx_rs_new_at, sx_top_set, sx_next_set, sx_set_at, sx_rs_set, sx_get_set, opSem, opv, opvs, did, isNil, binD, binI, loadV, dcells, flats, flatV, callX, callF, allD, partsS, fillV, cellsOf, Avm.rep, storeV, h7, h18, h19, h20, c1, c2, c3, c4, c5, c6, hg, ha, hg2, putAt, ids]
end Go.Px

namespace Go.Px
open Go Go.Avm
set_option maxHeartbeats 8000000
set_option maxRecDepth 100000
def tErr (j : Nat) : Int := if j < 4096 then 2 else 4
def tl (i : Nat) : List D := (List.range i).map fun j => D.int .i64 (tErr j)
theorem tl_succ (i : Nat) : tl (i + 1) = tl i ++ [.int .i64 (tErr i)] := by simp [tl, List.range_succ]
theorem tl_length (i : Nat) : (tl i).length = i := by simp [tl]
def Told (p i : Nat) (v2 : V) (h : H) : Prop := (i = 0 ∧ v2 = .d .nilslice) ∨ (0 < i ∧ ∃ o, o ≠ p ∧ o < h.top ∧ v2 = .arr o 0 i 1 none ∧ h.get o = .cells ((tl i).map .d))
def RJ (p m : Nat) (th : V) (i : Nat) (s : St) : Prop := lk s.env 7 = some (.ptr p 0) ∧ lk s.env 18 = some (.d (.vec (zsteps m) m true)) ∧ lk s.env 19 = some (.d (.int .i64 m)) ∧ lk s.env 20 = some (.d (.int .i64 i)) ∧
  s.heap.next = s.heap.top ∧ p < s.heap.top ∧ ∃ v2, s.heap.get p = .cells (mcells th v2) ∧ Told p i v2 s.heap
theorem perform_full {pg : Prog} (hf : pg.find 80 = some (.fn a80)) (hg : pg.find 73 = some (.fn a73)) {n p : Nat} {h : H} : ∃ ws, callN pg (n + 2) 73 [.ptr p 0, .d (.agg zstep)] h = some (.d (.int .i64 2), (h.aside 11).set (h.top + 1) (.map ruleKeys (ruleVals p)), ws) := by
  obtain ⟨ws, h1⟩ := rules_full hf (n := n) (p := p) (g := (h.aside 11).at (h.top + 1))
  obtain ⟨env, lg, h2, h3⟩ := perform_none (C := ⟨pureOf (callN pg (n + 1)), callN pg (n + 1)⟩) (lf := n + 1) (x1 := .nilslice) (x2 := .nilslice) (x3 := .nilslice) (x4 := .nilslice) (x5 := .nilslice) (x6 := .int .i64 0) (x7 := .bool false) (x8 := .str ⟨#[]⟩) (x9 := .nilslice) h1
  exact ⟨_, callN_fn (s := ⟨env, _, lg⟩) (v := .d (.int .i64 2)) hg rfl h2 (.inr rfl) (by simp [a73, result, resV, opv, h3])⟩
theorem round_ok {pg : Prog} (hf : pg.find 80 = some (.fn a80)) (hg : pg.find 73 = some (.fn a73)) {n lf p m i : Nat} {th : V} {s : St} (hm : m ≤ 4098) (hi : i < m) (hJ : RJ p m th i s) :
    ∃ s', run ⟨pureOf (callN pg (n + 2)), callN pg (n + 2)⟩ lf replayB s = some (.norm, s') ∧ RJ p m th (i + 1) ⟨keep [7, 18, 19, 20] s'.env, s'.heap, s'.log⟩ := by
  obtain ⟨env, h, lg⟩ := s
  obtain ⟨h7, h18, h19, h20, hn, hp, v2, hgp, ht⟩ := hJ
  simp only at h7 h18 h19 h20 hn hp hgp ht
  obtain ⟨ws, hc⟩ := perform_full hf hg (n := n) (p := p) (h := h)
  -- the heap behind the step
  obtain ⟨h1, e1⟩ : ∃ h1, h1 = if i < 4096 then (h.aside 11).set (h.top + 1) (.map ruleKeys (ruleVals p)) else h := ⟨_, rfl⟩
  have q1 : h1.next = h1.top ∧ h.top ≤ h1.top ∧ ∀ o, o < h.top → h1.get o = h.get o := by
    subst e1
    split
    · refine ⟨rfl, by show h.top ≤ h.top + 11; omega, fun o ho => ?_⟩
      rw [H.get_set_ne _ _ (by omega)]; rfl
    · exact ⟨hn, Nat.le_refl _, fun o _ => rfl⟩
  have he : if i < 4096 then tErr i = 2 ∧ callN pg (n + 2) 73 [.ptr p 0, .d (.agg zstep)] h = some (.d (.int .i64 2), h1, ws) else tErr i = 4 ∧ h1 = h := by
    subst e1
    split
    · rename_i hlt; exact ⟨by simp [tErr, hlt], by simpa [hlt] using hc⟩
    · rename_i hlt; exact ⟨by simp [tErr, hlt], by simp [hlt]⟩
  have hgp1 : h1.get p = .cells (mcells th v2) := by rw [q1.2.2 p hp]; exact hgp
  -- the list of errors grows
  obtain ⟨h2, a1, a2, a3, a4, a5⟩ : ∃ h2, appendV 1 8 h1 v2 (.d (.vec [.int .i64 (tErr i)] 1 true)) = some (.arr h1.next 0 (i + 1) 1 none, h2) ∧ h2.next = h2.top ∧ h1.top < h2.top ∧ h2.get p = .cells (mcells th v2) ∧ h2.get h1.next = .cells ((tl (i + 1)).map .d) := by
    have hp1 : p ≠ h1.next := by rw [q1.1]; have := q1.2.1; omega
    rcases ht with ⟨rfl, rfl⟩ | ⟨hi0, o, ho, hol, rfl, hgo⟩
    · refine ⟨h1.new (.cells [.d (.int .i64 (tErr 0))]), by simp [appendV, appendE, elems], rfl, ?_, ?_, ?_⟩
      · rw [H.top_new]; have := H.up_gt h1 (Nat.le_of_eq q1.1); rw [q1.1] at this; exact this
      · rw [H.get_new_ne _ _ hp1]; exact hgp1
      · rw [H.get_new_same]; rfl
    · have hgo1 : h1.get o = .cells ((tl i).map .d) := by rw [q1.2.2 o hol]; exact hgo
      have ho1 : o ≠ h1.next := by rw [q1.1]; have := q1.2.1; omega
      refine ⟨(h1.set o .dead).new (.cells ((tl (i + 1)).map .d)), ?_, rfl, ?_, ?_, ?_⟩
      · have b1 : (i + 1) * 8 ≤ 140737488355328 := by omega
        have b2 : i + 1 < 9223372036854775807 := by omega
        have b3 : ¬ i + 1 ≤ i := by omega
        simp [appendV, appendE, elems, hgo1, tl_length, b1, b2, b3, flats, flatV, tl_succ, H.next_set]
      · rw [H.top_new]; have := H.up_gt (h1.set o .dead) (Nat.le_of_eq q1.1); rw [H.next_set, q1.1] at this; exact this
      · rw [H.get_new_ne _ _ (by rw [H.next_set]; exact hp1), H.get_set_ne _ _ ho]; exact hgp1
      · exact H.get_new_same (h1.set o .dead) _
  have hv2 : v2 = .d .nilslice ∨ ∃ o q, v2 = .arr o 0 q 1 none := by
    rcases ht with ⟨_, rfl⟩ | ⟨_, o, _, _, rfl, _⟩
    · exact .inl rfl
    · exact .inr ⟨_, _, rfl⟩
  obtain ⟨env', lg', r1, r2, r3, r4, r5⟩ := round_run (C := ⟨pureOf (callN pg (n + 2)), callN pg (n + 2)⟩) (lf := lf) (lg := lg) h7 h18 h19 h20 hi hm he hgp1 a1 a4 hv2
  refine ⟨_, r1, ?_⟩
  have hpn : h1.next ≠ p := by rw [q1.1]; have := q1.2.1; omega
  refine ⟨by rw [lk_keep_mem (by simp)]; exact r2, by rw [lk_keep_mem (by simp)]; exact r3, by rw [lk_keep_mem (by simp)]; exact r4, by rw [lk_keep_mem (by simp)]; exact r5, a2, ?_, .arr h1.next 0 (i + 1) 1 none, H.get_set_same _ _ _, .inr ⟨by omega, h1.next, hpn, ?_, rfl, ?_⟩⟩
  · show p < h2.top; have := q1.2.1; omega
  · show h1.next < h2.top; rw [q1.1]; exact a3
  · show (h2.set p _).get h1.next = _; rw [H.get_set_ne _ _ (Ne.symm hpn)]; exact a5
theorem loop_ok {pg : Prog} (hf : pg.find 80 = some (.fn a80)) (hg : pg.find 73 = some (.fn a73)) {n p m : Nat} {th : V} {s : St} (hm : m ≤ 4098) (hn : m < n + 2) (hJ : RJ p m th 0 s) :
    ∃ s', iter (n + 2) (run ⟨pureOf (callN pg (n + 2)), callN pg (n + 2)⟩ (n + 2) replayB) [7, 18, 19, 20] s = some (.exit 0, s') ∧ RJ p m th m s' := by
  obtain ⟨ex, s', h1, h2⟩ := iter_rule (b := run ⟨pureOf (callN pg (n + 2)), callN pg (n + 2)⟩ (n + 2) replayB) (live := [7, 18, 19, 20]) (RJ p m th) (fun ex s' => ex = .exit 0 ∧ RJ p m th m s') m
    (fun i s hi hJ => .inl (round_ok hf hg hm hi hJ))
    (fun s hJ => by
      obtain ⟨env, h, lg⟩ := s
      obtain ⟨h7, h18, h19, h20, hn, hp, v2, hgp, ht⟩ := hJ
      simp only at h7 h18 h19 h20
      have c1 : ¬ (m : Int) < m := by omega
      refine ⟨.exit 0, ⟨(21, .d (.bool false)) :: env, h, lg⟩, by simp, ?_, rfl, ?_⟩
      · simp [replayB, a41, sx_nil, sx_cons, sx_ops, sx_rN, sx_region, sx_seq, sx_seq_norm, sx_seq_exit, sx_seq_ret, sx_cond, sx_cond_t, sx_cond_f, sx_block, sx_block_norm, sx_block_ret, sx_block_exit, sx_exit, sx_ret, sx_skip, sx_step, sx_stepG, sx_g_tt, sx_g_ff, sx_g_tf, sx_g_ft, sx_g_u, sx_put, sx_put2, sx_put_some, sx_put_none, sx_lk, sx_log_p, sx_log_rd, sx_log_wr, sx_log_no, sx_log_g, sx_log_gn, sx_draw, sx_dnil, sx_dcons, sx_dn, sx_dp, sx_drd, sx_dwr, sx_dg, sx_dcls, sx_dcls_g, sx_dcls_gn, sx_top_at, sx_top_rs, sx_next_at, sx_next_rs, sx_rs_at, sx_rs_rs, sx_rs_aside, sx_top_aside, sx_get_at, sx_get_rs, sx_get_aside, sx_callX, sx_callR, sx_get_new_at, sx_get_new_at_ne, sx_top_new_at, sx_rs_new_at, sx_top_set, sx_next_set, sx_set_at, sx_rs_set, sx_get_set, opSem, opv, did, binD, binI, h19, h20]
      · exact ⟨by simp [lk_cons, h7], by simp [lk_cons, h18], by simp [lk_cons, h19], by simp [lk_cons, h20], hn, hp, v2, hgp, ht⟩)
    m 0 (n + 2) s (by omega) hn (by
      obtain ⟨h7, h18, h19, h20, r⟩ := hJ
      exact ⟨by rw [lk_keep_mem (by simp)]; exact h7, by rw [lk_keep_mem (by simp)]; exact h18, by rw [lk_keep_mem (by simp)]; exact h19, by rw [lk_keep_mem (by simp)]; exact h20, r⟩)
  obtain ⟨rfl, h3⟩ := h2
  exact ⟨s', h1, h3⟩
end Go.Px

namespace Go.Px
open Go Go.Avm
set_option maxHeartbeats 8000000
set_option maxRecDepth 100000
theorem clone_nil {pg : Prog} (hf : pg.find 72 = some (.fn a72)) {n : Nat} : ∃ hc ws, callN pg (n + 1) 72 [.d .nilslice] H.empty = some (.d .nilslice, hc, ws) := by
  have : ∃ s, run ⟨pureOf (callN pg n), callN pg n⟩ n a72.body ⟨[(0, .d .nilslice)], H.empty, some []⟩ = some (.ret, s) ∧ result s a72.results = some (.d .nilslice) := by
    simp [a72, sx_nil, sx_cons, sx_ops, sx_rN, sx_region, sx_seq, sx_seq_norm, sx_seq_exit, sx_seq_ret, sx_cond, sx_cond_t, sx_cond_f, sx_block, sx_block_norm, sx_block_ret, sx_block_exit, sx_exit, sx_ret, sx_skip, sx_step, sx_stepG, sx_g_tt, sx_g_ff, sx_g_tf, sx_g_ft, sx_g_u, sx_put, sx_put2, sx_put_some, sx_put_none, sx_lk, sx_log_p, sx_log_rd, sx_log_wr, sx_log_no, sx_log_g, sx_log_gn, sx_draw, sx_dnil, sx_dcons, sx_dn, sx_dp, sx_drd, sx_dwr, sx_dg, sx_dcls, sx_dcls_g, sx_dcls_gn, sx_top_at, sx_top_rs, sx_next_at, sx_next_rs, sx_rs_at, sx_rs_rs, sx_rs_aside, sx_top_aside, sx_get_at, sx_get_rs, sx_get_aside, sx_callX, sx_callR, sx_get_new_at, sx_get_new_at_ne, sx_top_new_at, sx_rs_new_at, sx_top_set, sx_next_set, sx_set_at, sx_rs_set, sx_get_set, opSem, opv, did, isNilK, result, resV]
  obtain ⟨s, h1, h2⟩ := this
  exact ⟨_, _, callN_fn hf rfl h1 (.inr rfl) h2⟩
theorem frzL_d_cons {n : Nat} {h : H} {x : D} {vs : List V} : frzL (n + 2) h (.d x :: vs) = match frzL (n + 1) h vs with
    | some (ds, h') => some (x :: ds, h')
    | none => none := by
  rw [frzL, frz]; rfl
theorem frz_arr {n : Nat} {h : H} {o m : Nat} {xs : List D} (hg : h.get o = .cells (xs.map .d)) (hl : xs.length = m) (hn : m < n) : frz (n + 2) h (.arr o 0 m 1 none) = some (.vec xs m false, (h.set o .dead).set o (.frozen xs)) := by
  simp only [frz, frzO, hg, frzL_d n _ xs (by omega)]
  have : Nat.ble (0 + m * 1) xs.length = true := by simp [hl]
  rw [if_pos this]
  simp [← hl]
def mData (th : D) (m : Nat) : List D := [th, .nilslice, .vec (tl m) m false, .nilslice] ++ zstep ++ [.nilslice, .nilslice]
def replayA (B : AC) : AFn := ⟨3, [.t 6], .seq (.region [⟨some 3, .boxF (.t 0), none⟩, ⟨some 6, .mv (.c .nilptr), none⟩]) (.seq (.draw [(⟨some 13, .load 1 true (.t 3), none⟩, []), (⟨some 14, .mv (.t 1), none⟩, []), (⟨some 15, .callS 72 [(.t 14)], none⟩, [1]), (⟨some 16, .build [.nilptr, .nilslice, .nilslice, .nilslice, (.int .u8 (0)), .nilslice, .nilslice, .nilslice, .nilslice, .nilslice, (.int .i64 (0)), (.bool false), (.str ⟨#[]⟩), .nilslice, .nilslice, .nilslice] [(0, 1, (.t 13)), (1, 1, (.t 15))], none⟩, [0, 2, 1]), (⟨some 17, .box (.t 16), none⟩, [3, 0, 2, 1]), (⟨some 7, .mv (.t 17), none⟩, [4, 3, 0, 2, 1])]) (.seq (.seq (.region [⟨some 18, .mv (.t 2), none⟩, ⟨some 19, .len 1 (.t 18), none⟩, ⟨some 20, .mv (.c (.int .i64 (0))), none⟩]) (.block 0 (.loop [7, 18, 19, 20] B))) (.seq (.region [⟨some 73, .mv (.t 7), none⟩, ⟨some 6, .mv (.t 73), none⟩]) (.ret))))⟩
theorem replayA_eq : a41 = replayA replayB := rfl
def replayT : AC := (.seq (.region [⟨some 73, .mv (.t 7), none⟩, ⟨some 6, .mv (.t 73), none⟩]) (.ret))
theorem replay_zero {pg : Prog} (h80 : pg.find 80 = some (.fn a80)) (h73 : pg.find 73 = some (.fn a73)) (h72 : pg.find 72 = some (.fn a72)) (h41 : pg.find 41 = some (.fn a41)) {n m : Nat} (hm : m ≤ 4098) (hm0 : 0 < m) (hn : m < n + 2) (th : D) (hth : flatV (.d th) = true) :
    callP pg (n + 3) 41 [.agg [th], .nilslice, .vec (zsteps m) m true] = some (.ref (mData th m) 0) := by
  obtain ⟨hc, ws, hcl⟩ := clone_nil h72 (n := n + 1)
  have hJ : ∀ e lg, lk e 7 = some (.ptr 4 0) → lk e 18 = some (.d (.vec (zsteps m) m true)) → lk e 19 = some (.d (.int .i64 m)) → lk e 20 = some (.d (.int .i64 0)) → RJ 4 m (.d th) 0 ⟨e, (H.empty.aside 6).set 4 (.cells (mcells (.d th) (.d .nilslice))), lg⟩ := by
    intro e lg h7 h18 h19 h20
    exact ⟨h7, h18, h19, h20, rfl, by show 4 < 0 + 6; omega, .d .nilslice, H.get_set_same _ _ _, .inl ⟨rfl, rfl⟩⟩
  have key : ∃ s, run ⟨pureOf (callN pg (n + 2)), callN pg (n + 2)⟩ (n + 2) a41.body ⟨args0 0 ([D.agg [th], .nilslice, .vec (zsteps m) m true].map .d), H.empty, some []⟩ = some (.ret, s) ∧ lk s.env 6 = some (.ptr 4 0) ∧ ∃ v2, s.heap.get 4 = .cells (mcells (.d th) v2) ∧ Told 4 m v2 s.heap := by
    have post : ∀ e lg, lk e 7 = some (.ptr 4 0) → lk e 18 = some (.d (.vec (zsteps m) m true)) → lk e 19 = some (.d (.int .i64 m)) → lk e 20 = some (.d (.int .i64 0)) →
        ∃ s, seqN ⟨pureOf (callN pg (n + 2)), callN pg (n + 2)⟩ (n + 2) replayT (blockN 0 (iter (n + 2) (run ⟨pureOf (callN pg (n + 2)), callN pg (n + 2)⟩ (n + 2) replayB) [7, 18, 19, 20] ⟨e, (H.empty.aside 6).set 4 (.cells (mcells (.d th) (.d .nilslice))), lg⟩)) = some (.ret, s) ∧ lk s.env 6 = some (.ptr 4 0) ∧ ∃ v2, s.heap.get 4 = .cells (mcells (.d th) v2) ∧ Told 4 m v2 s.heap := by
      intro e lg h7 h18 h19 h20
      obtain ⟨⟨env, h, lg⟩, l1, l2, l3, l4, l5, l6, l7, v2, l8, l9⟩ := loop_ok h80 h73 hm hn (hJ e lg h7 h18 h19 h20)
      simp only at l2 l3 l4 l5 l6 l7 l8 l9
      rw [l1]
      refine ⟨⟨(6, .ptr 4 0) :: (73, .ptr 4 0) :: env, h, lg⟩, ?_, by simp [lk_cons], v2, l8, l9⟩
      simp [replayT, sx_nil, sx_cons, sx_ops, sx_rN, sx_region, sx_seq, sx_seq_norm, sx_seq_exit, sx_seq_ret, sx_cond, sx_cond_t, sx_cond_f, sx_block, sx_block_norm, sx_block_ret, sx_block_exit, sx_exit, sx_ret, sx_skip, sx_step, sx_stepG, sx_g_tt, sx_g_ff, sx_g_tf, sx_g_ft, sx_g_u, sx_put, sx_put2, sx_put_some, sx_put_none, sx_lk, sx_log_p, sx_log_rd, sx_log_wr, sx_log_no, sx_log_g, sx_log_gn, sx_draw, sx_dnil, sx_dcons, sx_dn, sx_dp, sx_drd, sx_dwr, sx_dg, sx_dcls, sx_dcls_g, sx_dcls_gn, sx_top_at, sx_top_rs, sx_next_at, sx_next_rs, sx_rs_at, sx_rs_rs, sx_rs_aside, sx_top_aside, sx_get_at, sx_get_rs, sx_get_aside, sx_callX, sx_callR, sx_get_new_at, sx_get_new_at_ne, sx_top_new_at, sx_rs_new_at, sx_top_set, sx_next_set, sx_set_at, sx_rs_set, sx_get_set, opSem, opv, did, l2]
    rw [replayA_eq]
    have c0 : (zsteps m).length = m * 10 := zsteps_length m
    simp [replayA, sx_nil, sx_cons, sx_ops, sx_rN, sx_region, sx_seq, sx_seq_norm, sx_seq_exit, sx_seq_ret, sx_cond, sx_cond_t, sx_cond_f, sx_block, sx_block_norm, sx_block_ret, sx_block_exit, sx_exit, sx_ret, sx_skip, sx_step, sx_stepG, sx_g_tt, sx_g_ff, sx_g_tf, sx_g_ft, sx_g_u, sx_put, sx_put2, sx_put_some, sx_put_none, sx_lk, sx_log_p, sx_log_rd, sx_log_wr, sx_log_no, sx_log_g, sx_log_gn, sx_draw, sx_dnil, sx_dcons, sx_dn, sx_dp, sx_drd, sx_dwr, sx_dg, sx_dcls, sx_dcls_g, sx_dcls_gn, sx_top_at, sx_top_rs, sx_next_at, sx_next_rs, sx_rs_at, sx_rs_rs, sx_rs_aside, sx_top_aside, sx_get_at, sx_get_rs, sx_get_aside, sx_callX, sx_callR, sx_get_new_at, sx_get_new_at_ne, sx_top_new_at, sx_rs_new_at, sx_top_set, sx_next_set, sx_set_at, sx_rs_set, sx_get_set, opSem, opv, opvs, did, callO, allD, hcl, imp, args0, loadV, dcells, partsV, fillV, cellsOf, putAt, mkAgg, lenV, fits, compat, low]
    have e0 : H.empty.top = 0 := rfl
    rw [e0, Nat.zero_add]
    exact post _ _ (by simp [lk_cons]) (by simp [lk_cons]) (by simp [lk_cons]) (by simp [lk_cons])
  obtain ⟨s, k1, k2, v2, k3, k4⟩ := key
  rcases k4 with ⟨h0, _⟩ | ⟨_, o, ho, hol, rfl, hgo⟩
  · omega
  · have hz : ∃ h', frz 100000 s.heap (.ptr 4 0) = some (.ref (mData th m) 0, h') := by
      have hA : frz 99995 (s.heap.set 4 .dead) (.arr o 0 m 1 none) = some (.vec (tl m) m false, ((s.heap.set 4 .dead).set o .dead).set o (.frozen (tl m))) :=
        frz_arr (n := 99993) (by rw [H.get_set_ne _ _ (Ne.symm ho)]; exact hgo) (tl_length m) (by omega)
      have hO : frzO 99999 s.heap 4 = some (mData th m, (((s.heap.set 4 .dead).set o .dead).set o (.frozen (tl m))).set 4 (.frozen (mData th m))) := by
        have hL : frzL 99998 (s.heap.set 4 .dead) (mcells (.d th) (.arr o 0 m 1 none)) = some (mData th m, ((s.heap.set 4 .dead).set o .dead).set o (.frozen (tl m))) := by
          have hr := frzL_d 99995 (((s.heap.set 4 .dead).set o .dead).set o (.frozen (tl m))) ([.nilslice] ++ zstep ++ [.nilslice, .nilslice]) (by simp [zstep])
          have h3 : frzL 99996 (s.heap.set 4 .dead) (.arr o 0 m 1 none :: ([D.nilslice] ++ zstep ++ [D.nilslice, D.nilslice]).map .d) = some (.vec (tl m) m false :: ([.nilslice] ++ zstep ++ [.nilslice, .nilslice]), ((s.heap.set 4 .dead).set o .dead).set o (.frozen (tl m))) := by
            rw [show (99996 : Nat) = 99995 + 1 from rfl, frzL, hA]
            simp only
            rw [hr]
          show frzL (99996 + 2) (s.heap.set 4 .dead) (.d th :: .d .nilslice :: (.arr o 0 m 1 none :: ([D.nilslice] ++ zstep ++ [D.nilslice, D.nilslice]).map .d)) = _
          rw [frzL_d_cons, show (99996 + 1 : Nat) = 99995 + 2 from rfl, frzL_d_cons, show (99995 + 1 : Nat) = 99996 from rfl, h3]
          rfl
        rw [show (99999 : Nat) = 99998 + 1 from rfl, frzO]
        simp only [k3, hL]
      exact ⟨_, by rw [show (100000 : Nat) = 99999 + 1 from rfl, frz, hO]⟩
    obtain ⟨h', hz⟩ := hz
    exact callP_fn h41 rfl k1 (.inr rfl) (v := .ptr 4 0) (by simp [a41, result, resV, opv, k2]) hz
end Go.Px

namespace Go.Px
open Go Go.Avm
set_option maxHeartbeats 8000000
set_option maxRecDepth 100000
theorem from_zero {pg : Prog} (h19 : pg.find 19 = some (.fn a19)) {n m : Nat} {th : D} (hr : callP pg (n + 3) 41 [.agg [th], .nilslice, .vec (zsteps m) m true] = some (.ref (mData th m) 0)) (hth : flatV (.d th) = true) :
    callP pg (n + 4) 19 [.agg [th], .nilslice, .vec (zsteps m) m true] = some (.tuple [.agg [th], .nilslice, .vec (tl m) m false]) := by
  have key : ∃ s, run ⟨pureOf (callN pg (n + 3)), callN pg (n + 3)⟩ (n + 3) a19.body ⟨args0 0 ([D.agg [th], .nilslice, .vec (zsteps m) m true].map .d), H.empty, some []⟩ = some (.ret, s) ∧ result s a19.results = some (.d (.tuple [.agg [th], .nilslice, .vec (tl m) m false])) := by
    have hr' : pureOf (callN pg (n + 3)) 41 [.agg [th], .nilslice, .vec (zsteps m) m true] = some (.ref (mData th m) 0) := hr
    simp [a19, sx_nil, sx_cons, sx_ops, sx_rN, sx_region, sx_seq, sx_seq_norm, sx_seq_exit, sx_seq_ret, sx_cond, sx_cond_t, sx_cond_f, sx_block, sx_block_norm, sx_block_ret, sx_block_exit, sx_exit, sx_ret, sx_skip, sx_step, sx_stepG, sx_g_tt, sx_g_ff, sx_g_tf, sx_g_ft, sx_g_u, sx_put, sx_put2, sx_put_some, sx_put_none, sx_lk, sx_log_p, sx_log_rd, sx_log_wr, sx_log_no, sx_log_g, sx_log_gn, sx_draw, sx_dnil, sx_dcons, sx_dn, sx_dp, sx_drd, sx_dwr, sx_dg, sx_dcls, sx_dcls_g, sx_dcls_gn, sx_top_at, sx_top_rs, sx_next_at, sx_next_rs, sx_rs_at, sx_rs_rs, sx_rs_aside, sx_top_aside, sx_get_at, sx_get_rs, sx_get_aside, sx_callX, sx_callR, sx_get_new_at, sx_get_new_at_ne, sx_top_new_at, sx_rs_new_at, sx_top_set, sx_next_set, sx_set_at, sx_rs_set, sx_get_set, sx_get_new, sx_top_new, sx_next_new, sx_up_new, sx_up_set, sx_rs_new, sx_up_aside, sx_next_aside, sx_empty_top, sx_empty_next, sx_empty_up, opSem, opv, opvs, did, allD, args0, loadV, dcells, isNil, mData, zstep, hr', fits, compat, low, storeV, cellsOf, flats, hth, putAt, result, resV, mkTuple, mkAgg]
  obtain ⟨s, k1, k2⟩ := key
  exact callP_fn h19 rfl k1 (.inr rfl) k2 rfl
end Go.Px

namespace Go.Px
open Go Go.Avm
set_option maxHeartbeats 8000000
set_option maxRecDepth 100000
theorem run_zero {pg : Prog} (h15 : pg.find 15 = some (.fn a15)) {n m : Nat} {th : D} (h42 : callP pg (n + 4) 42 [] = some (.agg [th])) (hr : callP pg (n + 4) 19 [.agg [th], .nilslice, .vec (zsteps m) m true] = some (.tuple [.agg [th], .nilslice, .vec (tl m) m false])) (hth : flatV (.d th) = true) :
    callP pg (n + 5) 15 [.vec (zsteps m) m true] = some (.tuple [.agg [th], .nilslice, .vec (tl m) m false]) := by
  have key : ∃ s, run ⟨pureOf (callN pg (n + 4)), callN pg (n + 4)⟩ (n + 4) a15.body ⟨args0 0 ([D.vec (zsteps m) m true].map .d), H.empty, some []⟩ = some (.ret, s) ∧ result s a15.results = some (.d (.tuple [.agg [th], .nilslice, .vec (tl m) m false])) := by
    have hr' : pureOf (callN pg (n + 4)) 19 [.agg [th], .nilslice, .vec (zsteps m) m true] = some (.tuple [.agg [th], .nilslice, .vec (tl m) m false]) := hr
    have h42' : pureOf (callN pg (n + 4)) 42 [] = some (.agg [th]) := h42
    simp [a15, sx_nil, sx_cons, sx_ops, sx_rN, sx_region, sx_seq, sx_seq_norm, sx_seq_exit, sx_seq_ret, sx_cond, sx_cond_t, sx_cond_f, sx_block, sx_block_norm, sx_block_ret, sx_block_exit, sx_exit, sx_ret, sx_skip, sx_step, sx_stepG, sx_g_tt, sx_g_ff, sx_g_tf, sx_g_ft, sx_g_u, sx_put, sx_put2, sx_put_some, sx_put_none, sx_lk, sx_log_p, sx_log_rd, sx_log_wr, sx_log_no, sx_log_g, sx_log_gn, sx_draw, sx_dnil, sx_dcons, sx_dn, sx_dp, sx_drd, sx_dwr, sx_dg, sx_dcls, sx_dcls_g, sx_dcls_gn, sx_top_at, sx_top_rs, sx_next_at, sx_next_rs, sx_rs_at, sx_rs_rs, sx_rs_aside, sx_top_aside, sx_get_at, sx_get_rs, sx_get_aside, sx_callX, sx_callR, sx_get_new_at, sx_get_new_at_ne, sx_top_new_at, sx_rs_new_at, sx_top_set, sx_next_set, sx_set_at, sx_rs_set, sx_get_set, sx_get_new, sx_top_new, sx_next_new, sx_up_new, sx_up_set, sx_rs_new, sx_up_aside, sx_next_aside, sx_empty_top, sx_empty_next, sx_empty_up, opSem, opv, opvs, did, allD, args0, loadV, dcells, isNil, hr', h42', fits, compat, low, storeV, cellsOf, flats, hth, putAt, result, resV, mkTuple, mkAgg]
  obtain ⟨s, k1, k2⟩ := key
  exact callP_fn h15 rfl k1 (.inr rfl) k2 rfl
def zHead : List D → Bool
  | .int .u8 a :: .nilslice :: .nilslice :: .nilslice :: .nilslice :: .nilslice :: .int .i64 b :: .bool c :: .str s :: .nilslice :: _ => (a == 0) && (b == 0) && !c && s.data.toList.isEmpty
  | _ => false
theorem zHead_ok : ∀ {l : List D}, zHead l = true → l = zstep ++ l.drop 10 := by
  intro l h
  unfold zHead at h
  split at h
  · rename_i a b c s r
    simp only [Bool.and_eq_true, beq_iff_eq, Bool.not_eq_true', List.isEmpty_iff] at h
    obtain ⟨⟨⟨rfl, rfl⟩, rfl⟩, h4⟩ := h
    obtain ⟨⟨d⟩⟩ := s
    cases h4
    rfl
  · cases h
def isZ : Nat → List D → Bool
  | 0, l => l.isEmpty
  | n + 1, l => zHead l && isZ n (l.drop 10)
theorem isZ_ok : ∀ {n : Nat} {l : List D}, isZ n l = true → l = zsteps n
  | 0, l, h => by cases l <;> simp_all [isZ, zsteps]
  | n + 1, l, h => by
    simp only [isZ, Bool.and_eq_true] at h
    have h1 := zHead_ok h.1
    have h2 := isZ_ok h.2
    rw [h1, h2]; rfl
/-- the answer of proof.Run on 4098 empty steps is known; any other question goes to `p` -/
def runP (th : D) (p : List D → Option D) (ds : List D) : Option D :=
  match ds with
  | [.vec w m true] => if m == 4098 && isZ 4098 w then some (.tuple [.agg [th], .nilslice, .vec (tl 4098) 4098 false]) else p ds
  | _ => p ds
theorem runP_ok {P : Program} {pg : Prog} {f : Nat} {th : D} {k n : Nat} (hok : ∀ n ds d, callP pg n f ds = some d → PureOk P f ds d)
    (hz : callP pg k f [.vec (zsteps 4098) 4098 true] = some (.tuple [.agg [th], .nilslice, .vec (tl 4098) 4098 false])) :
    ∀ ds x, runP th (callP pg n f) ds = some x → PureOk P f ds x := by
  intro ds x h
  unfold runP at h
  split at h
  · split at h
    · rename_i hc
      simp only [Bool.and_eq_true, beq_iff_eq] at hc
      obtain ⟨rfl, hw⟩ := hc
      rw [isZ_ok hw]
      cases h
      exact hok _ _ _ hz
    · exact hok _ _ _ h
  · exact hok _ _ _ h
end Go.Px

namespace Go.Px
open Go Go.Avm
set_option maxHeartbeats 8000000
set_option maxRecDepth 100000
theorem rep_zstep : ∀ n, rep zstep n = (zsteps n).map .d
  | 0 => rfl
  | n + 1 => by rw [rep, zsteps, List.map_append, rep_zstep n]
theorem frz_made {n : Nat} {h : H} {o m : Nat} {xs : List D} (hg : h.get o = .cells (xs.map .d)) (hl : xs.length = m * 10) (hn : m * 10 < n) : frz (n + 2) h (.arr o 0 m 10 (some m)) = some (.vec xs m true, (h.set o .dead).set o (.frozen xs)) := by
  simp only [frz, frzO, hg, frzL_d n _ xs (by omega)]
  have : Nat.ble (0 + m * 10) xs.length = true := by simp [hl]
  rw [if_pos this]
  simp [← hl]
def r68 : AC := .region [⟨some 68, .mkSl 10 184 [(.int .u8 (0)), .nilslice, .nilslice, .nilslice, .nilslice, .nilslice, (.int .i64 (0)), (.bool false), (.str ⟨#[]⟩), .nilslice] (.c (.int .i64 (4098))) (.c (.int .i64 (4098))), none⟩, ⟨some 69, .call 15 [(.t 68)], none⟩, ⟨some 67, .mv (.t 69), none⟩, ⟨some 70, .ext (.t 67) 0, none⟩, ⟨some 71, .ext (.t 67) 1, none⟩, ⟨some 72, .ext (.t 67) 2, none⟩, ⟨some 14, .hole [.nilptr], none⟩, ⟨none, .storeF 1 14 (.t 70), none⟩, ⟨some 15, .mv (.t 71), none⟩, ⟨some 16, .mv (.t 72), none⟩]
def mkH (h : H) : H := ((h.new (.cells (rep zstep 4098))).set h.next .dead).set h.next (.frozen (zsteps 4098))
theorem make_run {C : Avm.Calls} {lf : Nat} {e : List (Nat × V)} {h : H} {lg : Option (List Nat)} {th : D}
    (hth : flatV (.d th) = true) (hr : C.pure 15 [.vec (zsteps 4098) 4098 true] = some (.tuple [.agg [th], .nilslice, .vec (tl 4098) 4098 false])) :
    run C lf r68 ⟨e, h, lg⟩ = some (.norm, ⟨(16, .d (.vec (tl 4098) 4098 false)) :: (15, .d .nilslice) :: (14, .d (.ref [th] 0)) :: (14, .hole 1) :: (72, .d (.vec (tl 4098) 4098 false)) :: (71, .d .nilslice) :: (70, .d (.agg [th])) :: (67, .d (.tuple [.agg [th], .nilslice, .vec (tl 4098) 4098 false])) :: (69, .d (.tuple [.agg [th], .nilslice, .vec (tl 4098) 4098 false])) :: (68, .arr h.next 0 4098 10 (some 4098)) :: e, mkH h, none⟩) := by
  have hF : frzL 100000 (h.new (.cells (rep [D.int .u8 0, .nilslice, .nilslice, .nilslice, .nilslice, .nilslice, .int .i64 0, .bool false, .str ⟨#[]⟩, .nilslice] 4098))) [.arr h.next 0 4098 10 (some 4098)] = some ([.vec (zsteps 4098) 4098 true], mkH h) := by
    have := frz_made (n := 99997) (m := 4098) (xs := zsteps 4098) (h := h.new (.cells (rep zstep 4098))) (o := h.next) (by rw [H.get_new_same, rep_zstep]) (zsteps_length _) (by omega)
    show frzL (99999 + 1) (h.new (.cells (rep zstep 4098))) [.arr h.next 0 4098 10 (some 4098)] = _
    rw [frzL, this]
    simp only [frzL]; rfl
  generalize mkH h = h1 at *
  generalize zsteps 4098 = Z at *
  generalize tl 4098 = T at *
  simp [r68, sx_nil, sx_cons, sx_ops, sx_rN, sx_region, sx_seq, sx_seq_norm, sx_seq_exit, sx_seq_ret, sx_cond, sx_cond_t, sx_cond_f, sx_block, sx_block_norm, sx_block_ret, sx_block_exit, sx_exit, sx_ret, sx_skip, sx_step, sx_stepG, sx_g_tt, sx_g_ff, sx_g_tf, sx_g_ft, sx_g_u, sx_put, sx_put2, sx_put_some, sx_put_none, sx_lk, sx_log_p, sx_log_rd, sx_log_wr, sx_log_no, sx_log_g, sx_log_gn, sx_draw, sx_dnil, sx_dcons, sx_dn, sx_dp, sx_drd, sx_dwr, sx_dg, sx_dcls, sx_dcls_g, sx_dcls_gn, sx_top_at, sx_top_rs, sx_next_at, sx_next_rs, sx_rs_at, sx_rs_rs, sx_rs_aside, sx_top_aside, sx_get_at, sx_get_rs, sx_get_aside, sx_callX, sx_callR, sx_get_new_at, sx_get_new_at_ne, sx_top_new_at, sx_rs_new_at, sx_top_set, sx_next_set, sx_set_at, sx_rs_set, sx_get_set, sx_get_new, sx_top_new, sx_next_new, sx_up_new, sx_up_set, sx_rs_new, sx_up_aside, sx_next_aside, sx_empty_top, sx_empty_next, sx_empty_up, opSem, opv, opvs, did, allD, args0, loadV, dcells, isNil, hr, callD, hF, fits, compat, low, storeV, cellsOf, flats, hth, putAt, result, resV, mkTuple, mkAgg]
def runL (C : Avm.Calls) (lf : Nat) : List AC → St → Option St
  | [], s => some s
  | a :: l, s => match run C lf a s with
    | some (.norm, s') => runL C lf l s'
    | _ => none
def seqs : List AC → AC → AC
  | [], b => b
  | a :: l, b => .seq a (seqs l b)
theorem run_seqs {C : Avm.Calls} {lf : Nat} {b : AC} : ∀ {l : List AC} {s s' : St}, runL C lf l s = some s' → run C lf (seqs l b) s = run C lf b s'
  | [], s, s', h => by cases h; rfl
  | a :: l, s, s', h => by
    unfold runL at h
    split at h
    · rename_i s1 h1
      rw [seqs, run, h1]
      exact run_seqs h
    · cases h
def b6P : List AC := [.region [⟨some 0, .mv (.c (.bool false)), none⟩], .region [⟨some 18, .build [(.int .u8 (0)), .nilslice, .nilslice, .nilslice, .nilslice, .nilslice, (.int .i64 (0)), (.bool false), (.str ⟨#[]⟩), .nilslice] [], none⟩, ⟨some 19, .build [(.int .u8 (0)), .nilslice, .nilslice, .nilslice, .nilslice, .nilslice, (.int .i64 (0)), (.bool false), (.str ⟨#[]⟩), .nilslice] [(0, 1, (.c (.int .u8 (10))))], none⟩, ⟨some 20, .buildS 1 [(.int .i64 (0))] 1 [(0, (.c (.int .i64 (0))))] false, none⟩, ⟨some 21, .build [(.int .u8 (0)), .nilslice, .nilslice, .nilslice, .nilslice, .nilslice, (.int .i64 (0)), (.bool false), (.str ⟨#[]⟩), .nilslice] [(0, 1, (.c (.int .u8 (11)))), (1, 1, (.t 20))], none⟩, ⟨some 22, .buildS 1 [(.int .i64 (0))] 2 [(0, (.c (.int .i64 (0)))), (1, (.c (.int .i64 (-1))))] false, none⟩, ⟨some 23, .build [(.int .u8 (0)), .nilslice, .nilslice, .nilslice, .nilslice, .nilslice, (.int .i64 (0)), (.bool false), (.str ⟨#[]⟩), .nilslice] [(0, 1, (.c (.int .u8 (11)))), (1, 1, (.t 22))], none⟩, ⟨some 24, .build [(.int .u8 (0)), .nilslice, .nilslice, .nilslice, .nilslice, .nilslice, (.int .i64 (0)), (.bool false), (.str ⟨#[]⟩), .nilslice] [(0, 1, (.c (.int .u8 (1))))], none⟩, ⟨some 25, .buildS 1 [(.str ⟨#[]⟩)] 2 [(0, (.c (.str ⟨#[97]⟩))), (1, (.c (.str ⟨#[98]⟩)))] false, none⟩, ⟨some 26, .buildS 1 [(.int .i64 (0))] 1 [(0, (.c (.int .i64 (0))))] false, none⟩, ⟨some 27, .build [(.int .u8 (0)), .nilslice, .nilslice, .nilslice, .nilslice, .nilslice, (.int .i64 (0)), (.bool false), (.str ⟨#[]⟩), .nilslice] [(0, 1, (.c (.int .u8 (5)))), (5, 1, (.t 25)), (1, 1, (.t 26))], none⟩, ⟨some 28, .build [(.int .u8 (0)), .nilslice, .nilslice, .nilslice, .nilslice, .nilslice, (.int .i64 (0)), (.bool false), (.str ⟨#[]⟩), .nilslice] [(0, 1, (.c (.int .u8 (20))))], none⟩, ⟨some 29, .buildS 1 [(.str ⟨#[]⟩)] 2 [(0, (.c (.str ⟨#[105, 110, 100]⟩))), (1, (.c (.str ⟨#[120]⟩)))] false, none⟩, ⟨some 30, .buildS 1 [(.int .i64 (0))] 1 [(0, (.c (.int .i64 (99))))] false, none⟩, ⟨some 31, .build [(.int .u8 (0)), .nilslice, .nilslice, .nilslice, .nilslice, .nilslice, (.int .i64 (0)), (.bool false), (.str ⟨#[]⟩), .nilslice] [(0, 1, (.c (.int .u8 (1)))), (5, 1, (.t 29)), (1, 1, (.t 30))], none⟩, ⟨some 32, .buildS 10 [(.int .u8 (0)), .nilslice, .nilslice, .nilslice, .nilslice, .nilslice, (.int .i64 (0)), (.bool false), (.str ⟨#[]⟩), .nilslice] 8 [(0, (.t 18)), (1, (.t 19)), (2, (.t 21)), (3, (.t 23)), (4, (.t 24)), (5, (.t 27)), (6, (.t 28)), (7, (.t 31))] false, none⟩, ⟨some 33, .callX 15 [(.t 32)], none⟩, ⟨some 17, .mv (.t 33), none⟩, ⟨some 34, .ext (.t 17) 0, none⟩, ⟨some 35, .ext (.t 17) 1, none⟩, ⟨some 36, .ext (.t 17) 2, none⟩, ⟨some 1, .hole [.nilptr], none⟩, ⟨none, .storeF 1 1 (.t 34), none⟩, ⟨some 2, .mv (.t 35), none⟩, ⟨some 3, .mv (.t 36), none⟩], .region [⟨some 38, .callX 20 [], none⟩, ⟨some 39, .callX 12 [(.t 38), (.c (.int .i64 (4)))], none⟩, ⟨some 37, .mv (.t 39), none⟩, ⟨some 40, .ext (.t 37) 0, none⟩, ⟨some 41, .ext (.t 37) 1, none⟩, ⟨some 4, .mv (.t 40), none⟩, ⟨some 5, .mv (.t 41), none⟩], .region [⟨some 43, .callX 20 [], none⟩, ⟨some 44, .callX 21 [(.t 43), (.c (.int .i64 (-1)))], none⟩, ⟨some 42, .mv (.t 44), none⟩, ⟨some 45, .ext (.t 42) 0, none⟩, ⟨some 46, .ext (.t 42) 1, none⟩, ⟨some 6, .mv (.t 45), none⟩, ⟨some 7, .mv (.t 46), none⟩], .region [⟨some 48, .callX 20 [], none⟩, ⟨some 49, .callX 22 [], none⟩, ⟨some 50, .buildS 7 [(.int .u8 (0)), (.str ⟨#[]⟩), (.bool false), (.str ⟨#[]⟩), .nilslice, (.int .i64 (0)), .nilslice] 1 [(0, (.t 49))] false, none⟩, ⟨some 51, .build [(.int .u8 (0)), .nilslice, .nilslice, .nilslice, .nilslice, .nilslice, (.int .i64 (0)), (.bool false), (.str ⟨#[]⟩), .nilslice] [(0, 1, (.c (.int .u8 (15)))), (2, 1, (.t 50))], none⟩, ⟨some 52, .buildS 10 [(.int .u8 (0)), .nilslice, .nilslice, .nilslice, .nilslice, .nilslice, (.int .i64 (0)), (.bool false), (.str ⟨#[]⟩), .nilslice] 1 [(0, (.t 51))] false, none⟩, ⟨some 53, .append 10 184 (.t 48) (.t 52), none⟩, ⟨some 54, .callX 21 [(.t 53), (.c (.int .i64 (4)))], none⟩, ⟨some 47, .mv (.t 54), none⟩, ⟨some 55, .ext (.t 47) 0, none⟩, ⟨some 56, .ext (.t 47) 1, none⟩, ⟨some 8, .mv (.t 55), none⟩, ⟨some 9, .mv (.t 56), none⟩], .region [⟨some 58, .build [.nilptr, .nilptr] [], none⟩, ⟨some 59, .buildS 2 [.nilptr, .nilptr] 1 [(0, (.t 58))] false, none⟩, ⟨some 60, .callX 16 [(.t 59)], none⟩, ⟨some 57, .mv (.t 60), none⟩, ⟨some 61, .ext (.t 57) 0, none⟩, ⟨some 62, .ext (.t 57) 1, none⟩, ⟨some 10, .mv (.t 61), none⟩, ⟨some 11, .mv (.t 62), none⟩], .region [⟨some 64, .callX 16 [(.c .nilslice)], none⟩, ⟨some 63, .mv (.t 64), none⟩, ⟨some 65, .ext (.t 63) 0, none⟩, ⟨some 66, .ext (.t 63) 1, none⟩, ⟨some 12, .mv (.t 65), none⟩, ⟨some 13, .mv (.t 66), none⟩]]
def b6T : AC := .seq (.region [⟨some 73, .mv (.c (.bool true)), none⟩, ⟨some 74, .callX 9 [], some (73, true)⟩, ⟨some 75, .pick (.t 73) (.t 74) (.c (.bool false)), none⟩, ⟨some 76, .mv (.t 75), none⟩, ⟨some 77, .mv (.t 2), some (76, true)⟩, ⟨some 78, .len 1 (.t 77), some (76, true)⟩, ⟨some 79, .bin .eql (.t 78) (.c (.int .i64 (0))), some (76, true)⟩, ⟨some 80, .pick (.t 76) (.t 79) (.c (.bool false)), none⟩, ⟨some 81, .mv (.t 80), none⟩, ⟨some 82, .mv (.t 3), some (81, true)⟩, ⟨some 83, .buildS 1 [(.int .i64 (0))] 8 [(0, (.c (.int .i64 (2)))), (1, (.c (.int .i64 (2)))), (2, (.c (.int .i64 (2)))), (3, (.c (.int .i64 (2)))), (4, (.c (.int .i64 (2)))), (5, (.c (.int .i64 (2)))), (6, (.c (.int .i64 (2)))), (7, (.c (.int .i64 (0))))] false, some (81, true)⟩, ⟨some 84, .callX 23 [(.t 82), (.t 83)], some (81, true)⟩, ⟨some 85, .pick (.t 81) (.t 84) (.c (.bool false)), none⟩, ⟨some 86, .mv (.t 85), none⟩, ⟨some 87, .mv (.t 5), some (86, true)⟩, ⟨some 88, .bin .eql (.t 87) (.c (.int .i64 (2))), some (86, true)⟩, ⟨some 89, .pick (.t 86) (.t 88) (.c (.bool false)), none⟩, ⟨some 90, .mv (.t 89), none⟩, ⟨some 91, .mv (.t 7), some (90, true)⟩, ⟨some 92, .bin .eql (.t 91) (.c (.int .i64 (2))), some (90, true)⟩, ⟨some 93, .pick (.t 90) (.t 92) (.c (.bool false)), none⟩, ⟨some 94, .mv (.t 93), none⟩, ⟨some 95, .mv (.t 9), some (94, true)⟩, ⟨some 96, .bin .eql (.t 95) (.c (.int .i64 (0))), some (94, true)⟩, ⟨some 97, .pick (.t 94) (.t 96) (.c (.bool false)), none⟩, ⟨some 98, .mv (.t 97), none⟩, ⟨some 99, .mv (.t 8), some (98, true)⟩, ⟨some 100, .len 1 (.t 99), some (98, true)⟩, ⟨some 101, .bin .eql (.t 100) (.c (.int .i64 (1))), some (98, true)⟩, ⟨some 102, .pick (.t 98) (.t 101) (.c (.bool false)), none⟩, ⟨some 103, .mv (.t 102), none⟩, ⟨some 104, .mv (.t 8), some (103, true)⟩, ⟨some 105, .iAddr 10 (.t 104) (.c (.int .i64 (0))), some (103, true)⟩, ⟨some 106, .fAddr 0 (.t 105), some (103, true)⟩, ⟨some 107, .load 1 false (.t 106), some (103, true)⟩, ⟨some 108, .bin .eql (.t 107) (.c (.int .u8 (15))), some (103, true)⟩, ⟨some 109, .pick (.t 103) (.t 108) (.c (.bool false)), none⟩, ⟨some 110, .mv (.t 109), none⟩, ⟨some 111, .mv (.t 11), some (110, true)⟩, ⟨some 112, .bin .eql (.t 111) (.c (.int .i64 (52))), some (110, true)⟩, ⟨some 113, .pick (.t 110) (.t 112) (.c (.bool false)), none⟩, ⟨some 114, .mv (.t 113), none⟩, ⟨some 115, .mv (.t 13), some (114, true)⟩, ⟨some 116, .bin .eql (.t 115) (.c (.int .i64 (0))), some (114, true)⟩, ⟨some 117, .pick (.t 114) (.t 116) (.c (.bool false)), none⟩, ⟨some 118, .mv (.t 117), none⟩, ⟨some 119, .mv (.t 12), some (118, true)⟩, ⟨some 120, .len 1 (.t 119), some (118, true)⟩, ⟨some 121, .bin .eql (.t 120) (.c (.int .i64 (0))), some (118, true)⟩, ⟨some 122, .pick (.t 118) (.t 121) (.c (.bool false)), none⟩, ⟨some 123, .mv (.t 122), none⟩, ⟨some 124, .mv (.t 16), some (123, true)⟩, ⟨some 125, .len 1 (.t 124), some (123, true)⟩, ⟨some 126, .bin .eql (.t 125) (.c (.int .i64 (4098))), some (123, true)⟩, ⟨some 127, .pick (.t 123) (.t 126) (.c (.bool false)), none⟩, ⟨some 128, .mv (.t 127), none⟩, ⟨some 129, .mv (.t 16), some (128, true)⟩, ⟨some 130, .iAddr 1 (.t 129) (.c (.int .i64 (4095))), some (128, true)⟩, ⟨some 131, .load 1 false (.t 130), some (128, true)⟩, ⟨some 132, .bin .eql (.t 131) (.c (.int .i64 (2))), some (128, true)⟩, ⟨some 133, .pick (.t 128) (.t 132) (.c (.bool false)), none⟩, ⟨some 134, .mv (.t 133), none⟩, ⟨some 135, .mv (.t 16), some (134, true)⟩, ⟨some 136, .iAddr 1 (.t 135) (.c (.int .i64 (4096))), some (134, true)⟩, ⟨some 137, .load 1 false (.t 136), some (134, true)⟩, ⟨some 138, .bin .eql (.t 137) (.c (.int .i64 (4))), some (134, true)⟩, ⟨some 139, .pick (.t 134) (.t 138) (.c (.bool false)), none⟩, ⟨some 140, .mv (.t 139), none⟩, ⟨some 141, .mv (.t 16), some (140, true)⟩, ⟨some 142, .iAddr 1 (.t 141) (.c (.int .i64 (4097))), some (140, true)⟩, ⟨some 143, .load 1 false (.t 142), some (140, true)⟩, ⟨some 144, .bin .eql (.t 143) (.c (.int .i64 (4))), some (140, true)⟩, ⟨some 145, .pick (.t 140) (.t 144) (.c (.bool false)), none⟩, ⟨some 0, .mv (.t 145), none⟩]) (.ret)
def b6 : AFn := ⟨0, [.t 0], seqs b6P (.seq r68 b6T)⟩
/-- what the walk knows where the last part of the law begins -/
def mid (th : D) (s : St) : List (Nat × V) := (16, .d (.vec (tl 4098) 4098 false)) :: (15, .d .nilslice) :: (14, .d (.ref [th] 0)) :: (14, .hole 1) :: (72, .d (.vec (tl 4098) 4098 false)) :: (71, .d .nilslice) :: (70, .d (.agg [th])) :: (67, .d (.tuple [.agg [th], .nilslice, .vec (tl 4098) 4098 false])) :: (69, .d (.tuple [.agg [th], .nilslice, .vec (tl 4098) 4098 false])) :: (68, .arr s.heap.next 0 4098 10 (some 4098)) :: s.env
/-- the data that a run gives back -/
def endOf (rs : List ARes) : Option (Ex × St) → Option D
  | some (.ret, s) => match result s rs with
    | some (.d x) => some x
    | _ => none
  | _ => none
theorem names_run {pg : Prog} {n : Nat} {C : Avm.Calls} (hC : C = ⟨pureOf (callN pg n), callN pg n⟩) {th : D} (hth : flatV (.d th) = true) (h6 : pg.find 6 = some (.fn b6)) {s : St} (hp : runL C n b6P ⟨[], H.empty, some []⟩ = some s)
    (hr : callP pg n 15 [.vec (zsteps 4098) 4098 true] = some (.tuple [.agg [th], .nilslice, .vec (tl 4098) 4098 false])) {d : D}
    (ht : endOf b6.results (run C n b6T ⟨mid th s, mkH s.heap, none⟩) = some d) :
    callP pg (n + 1) 6 [] = some d := by
  subst hC
  have h1 := make_run (C := ⟨pureOf (callN pg n), callN pg n⟩) (lf := n) (e := s.env) (h := s.heap) (lg := s.log) hth hr
  have h2 : run ⟨pureOf (callN pg n), callN pg n⟩ n b6.body ⟨args0 0 (([] : List D).map .d), H.empty, some []⟩ = run ⟨pureOf (callN pg n), callN pg n⟩ n b6T ⟨mid th s, mkH s.heap, none⟩ := by
    show run _ n (seqs b6P (.seq r68 b6T)) ⟨[], H.empty, some []⟩ = _
    rw [run_seqs hp, run, h1]
    rfl
  unfold endOf at ht
  have h3 := ht
  split at h3
  · rename_i s' hs
    split at h3
    · rename_i x hx
      cases h3
      exact callP_fn h6 rfl (h2.trans hs) (.inr rfl) hx rfl
    · cases h3
  · cases h3
end Go.Px


/- The abstract machine on data, part 7: its operations are sound over the model. -/
import Derived.Test.YtgakndkfbhhcnaaGreatAv6
import Derived.LaidEqlPtr
set_option linter.unusedVariables false
set_option linter.unusedSimpArgs false
/- kernel.extends: the one function that compares two pointers. -/
namespace Go.Avm
open Go
def extL0 : AC := (.seq (.seq (.draw [(⟨some 5, .mv (.t 0), none⟩, []), (⟨some 6, .eqNil 0 true (.t 5), none⟩, [0]), (⟨some 7, .mv (.t 6), none⟩, [1, 0]), (⟨some 8, .mv (.t 0), some (7, true)⟩, [2, 1, 0]), (⟨some 9, .nilck (.t 8), some (7, true)⟩, [3, 2, 1, 0]), (⟨some 10, .fAddr 8 (.t 9), some (7, true)⟩, [4, 3, 2, 1, 0]), (⟨some 11, .load 1 false (.t 10), some (7, true)⟩, [5, 4, 3, 2, 1, 0]), (⟨some 12, .mv (.t 1), some (7, true)⟩, [2, 1, 0]), (⟨some 13, .nilck (.t 12), some (7, true)⟩, [7, 2, 1, 0]), (⟨some 14, .fAddr 8 (.t 13), some (7, true)⟩, [8, 7, 2, 1, 0]), (⟨some 15, .load 1 false (.t 14), some (7, true)⟩, [9, 8, 7, 2, 1, 0]), (⟨some 16, .bin .gtr (.t 11) (.t 15), some (7, true)⟩, [6, 5, 4, 3, 2, 1, 0, 10, 9, 8, 7]), (⟨some 17, .pick (.t 7) (.t 16) (.c (.bool false)), none⟩, [2, 1, 0, 11, 6, 5, 4, 3, 10, 9, 8, 7])]) (.cond (.t 17) (.skip) (.exit 0))) (.block 1 (.region [⟨some 18, .mv (.t 0), none⟩, ⟨some 19, .nilck (.t 18), none⟩, ⟨some 20, .fAddr 7 (.t 19), none⟩, ⟨some 21, .load 1 false (.t 20), none⟩, ⟨some 0, .mv (.t 21), none⟩])))
def extB3 (sd : Nat) : AC := (.seq (.seq (.draw [(⟨some 25, .mv (.t 0), none⟩, []), (⟨some 26, .nilck (.t 25), none⟩, [0]), (⟨some 27, .fAddr 8 (.t 26), none⟩, [1, 0]), (⟨some 28, .load 1 false (.t 27), none⟩, [2, 1, 0]), (⟨some 29, .mv (.t 1), none⟩, []), (⟨some 30, .nilck (.t 29), none⟩, [4]), (⟨some 31, .fAddr 8 (.t 30), none⟩, [5, 4]), (⟨some 32, .load 1 false (.t 31), none⟩, [6, 5, 4]), (⟨some 33, .bin .neq (.t 28) (.t 32), none⟩, [3, 2, 1, 0, 7, 6, 5, 4]), (⟨some 34, .mv (.t 33), none⟩, [8, 3, 2, 1, 0, 7, 6, 5, 4]), (⟨some 35, .mv (.t 0), some (34, false)⟩, [9, 8, 3, 2, 1, 0, 7, 6, 5, 4]), (⟨some 36, .nilck (.t 35), some (34, false)⟩, [10, 9, 8, 3, 2, 1, 0, 7, 6, 5, 4]), (⟨some 37, .fAddr 0 (.t 36), some (34, false)⟩, [11, 10, 9, 8, 3, 2, 1, 0, 7, 6, 5, 4]), (⟨some 38, .load 7 true (.t 37), some (34, false)⟩, [12, 11, 10, 9, 8, 3, 2, 1, 0, 7, 6, 5, 4]), (⟨some 39, .mv (.t 1), some (34, false)⟩, [9, 8, 3, 2, 1, 0, 7, 6, 5, 4]), (⟨some 40, .nilck (.t 39), some (34, false)⟩, [14, 9, 8, 3, 2, 1, 0, 7, 6, 5, 4]), (⟨some 41, .fAddr 0 (.t 40), some (34, false)⟩, [15, 14, 9, 8, 3, 2, 1, 0, 7, 6, 5, 4]), (⟨some 42, .load 7 true (.t 41), some (34, false)⟩, [16, 15, 14, 9, 8, 3, 2, 1, 0, 7, 6, 5, 4]), (⟨some 43, .callX sd [(.t 38), (.t 42)], some (34, false)⟩, [13, 12, 11, 10, 9, 8, 3, 2, 1, 0, 7, 6, 5, 4, 17, 16, 15, 14]), (⟨some 44, .un .not (.t 43), some (34, false)⟩, [18, 13, 12, 11, 10, 9, 8, 3, 2, 1, 0, 7, 6, 5, 4, 17, 16, 15, 14]), (⟨some 45, .pick (.t 34) (.c (.bool true)) (.t 44), none⟩, [9, 8, 3, 2, 1, 0, 7, 6, 5, 4, 19, 18, 13, 12, 11, 10, 17, 16, 15, 14])]) (.cond (.t 45) (.seq (.region [⟨some 4, .mv (.c (.bool false)), none⟩]) (.ret)) (.skip))) (.seq (.draw [(⟨some 46, .mv (.t 0), none⟩, []), (⟨some 47, .nilck (.t 46), none⟩, [0]), (⟨some 48, .fAddr 7 (.t 47), none⟩, [1, 0]), (⟨some 49, .load 1 false (.t 48), none⟩, [2, 1, 0]), (⟨some 50, .mv (.t 1), none⟩, []), (⟨some 51, .nilck (.t 50), none⟩, [4]), (⟨some 52, .fAddr 7 (.t 51), none⟩, [5, 4]), (⟨some 53, .load 1 false (.t 52), none⟩, [6, 5, 4]), (⟨some 0, .mv (.t 49), none⟩, [3, 2, 1, 0]), (⟨some 1, .mv (.t 53), none⟩, [7, 6, 5, 4, 8, 3, 2, 1, 0])]) (.seq (.region [⟨some 54, .mv (.t 0), none⟩, ⟨some 55, .eqNil 0 false (.t 54), none⟩, ⟨some 56, .mv (.t 55), none⟩, ⟨some 57, .mv (.t 1), some (56, false)⟩, ⟨some 58, .eqNil 0 false (.t 57), some (56, false)⟩, ⟨some 59, .pick (.t 56) (.c (.bool true)) (.t 58), none⟩]) (.cond (.t 59) (.seq (.region [⟨some 60, .mv (.t 0), none⟩, ⟨some 61, .mv (.t 1), none⟩, ⟨some 62, .eqPtrs 0 false (.t 60) (.t 61), none⟩, ⟨some 4, .mv (.t 62), none⟩]) (.ret)) (.skip)))))
def extA (sd : Nat) : AFn := ⟨2, [.t 4], .seq (.region [⟨some 4, .mv (.c (.bool false)), none⟩]) (.seq (.block 0 (.loop [0, 1, 8, 9, 10, 11, 12, 13, 14, 15, 16, 35, 36, 37, 38, 39, 40, 41, 42, 43, 44, 57, 58] extL0)) (.seq (.block 2 (.loop [0, 1, 35, 36, 37, 38, 39, 40, 41, 42, 43, 44, 57, 58] (.seq (.seq (.region [⟨some 22, .mv (.t 0), none⟩, ⟨some 23, .mv (.t 1), none⟩, ⟨some 24, .eqPtrs 0 true (.t 22) (.t 23), none⟩]) (.cond (.t 24) (.skip) (.exit 2))) (.block 3 (extB3 sd))))) (.seq (.region [⟨some 4, .mv (.c (.bool true)), none⟩]) (.ret))))⟩

def nd (c0 c1 c2 c3 c4 c5 c6 par : D) (n : Int) (s0 s1 : D) : D := .ref [c0, c1, c2, c3, c4, c5, c6, par, .int .i64 n, s0, s1] 0

set_option maxHeartbeats 4000000
section
variable {C : Calls} {lf : Nat} {sd : Nat} {c0 c1 c2 c3 c4 c5 c6 par s0 s1 d0 d1 d2 d3 d4 d5 d6 par' s0' s1' b : D} {n m : Int} {h : H} {lg : Option (List Nat)}
theorem extL0_nil : ∃ s', run C lf extL0 ⟨[(0, .d .nilptr), (1, .d b)], h, lg⟩ = some (.exit 0, s') ∧ lk s'.env 0 = some (.d .nilptr) ∧ lk s'.env 1 = some (.d b) := by
  simp [extL0, sx_nil, sx_cons, sx_ops, sx_rN, sx_region, sx_seq, sx_seq_norm, sx_seq_exit, sx_seq_ret, sx_cond, sx_cond_t, sx_cond_f, sx_block, sx_block_norm, sx_block_ret, sx_block_exit, sx_exit, sx_ret, sx_skip, sx_step, sx_stepG, sx_g_tt, sx_g_ff, sx_g_tf, sx_g_ft, sx_g_u, sx_put, sx_put2, sx_put_some, sx_put_none, sx_lk, sx_log_p, sx_log_rd, sx_log_wr, sx_log_no, sx_log_g, sx_log_gn, sx_draw, sx_dnil, sx_dcons, sx_dn, sx_dp, sx_drd, sx_dwr, sx_dg, sx_dcls, sx_dcls_g, sx_dcls_gn, sx_top_at, sx_top_rs, sx_next_at, sx_next_rs, sx_rs_at, sx_rs_rs, sx_rs_aside, sx_top_aside, sx_get_at, sx_get_rs, sx_get_aside, sx_callX, sx_callR, opSem, opv, did, isNilK, isNil, loadV, fits, compat, low, binD, binI, meet]
theorem extL0_go (hn : m < n) : ∃ s', run C lf extL0 ⟨[(0, .d (nd c0 c1 c2 c3 c4 c5 c6 par n s0 s1)), (1, .d (nd d0 d1 d2 d3 d4 d5 d6 par' m s0' s1'))], h, lg⟩ = some (.norm, s') ∧ lk s'.env 0 = some (.d par) ∧ lk s'.env 1 = some (.d (nd d0 d1 d2 d3 d4 d5 d6 par' m s0' s1')) := by
  simp [nd, extL0, sx_nil, sx_cons, sx_ops, sx_rN, sx_region, sx_seq, sx_seq_norm, sx_seq_exit, sx_seq_ret, sx_cond, sx_cond_t, sx_cond_f, sx_block, sx_block_norm, sx_block_ret, sx_block_exit, sx_exit, sx_ret, sx_skip, sx_step, sx_stepG, sx_g_tt, sx_g_ff, sx_g_tf, sx_g_ft, sx_g_u, sx_put, sx_put2, sx_put_some, sx_put_none, sx_lk, sx_log_p, sx_log_rd, sx_log_wr, sx_log_no, sx_log_g, sx_log_gn, sx_draw, sx_dnil, sx_dcons, sx_dn, sx_dp, sx_drd, sx_dwr, sx_dg, sx_dcls, sx_dcls_g, sx_dcls_gn, sx_top_at, sx_top_rs, sx_next_at, sx_next_rs, sx_rs_at, sx_rs_rs, sx_rs_aside, sx_top_aside, sx_get_at, sx_get_rs, sx_get_aside, sx_callX, sx_callR, opSem, opv, did, isNilK, isNil, loadV, fits, compat, low, binD, binI, hn, meet]
theorem extL0_stop (hn : ¬ m < n) : ∃ s', run C lf extL0 ⟨[(0, .d (nd c0 c1 c2 c3 c4 c5 c6 par n s0 s1)), (1, .d (nd d0 d1 d2 d3 d4 d5 d6 par' m s0' s1'))], h, lg⟩ = some (.exit 0, s') ∧ lk s'.env 0 = some (.d (nd c0 c1 c2 c3 c4 c5 c6 par n s0 s1)) ∧ lk s'.env 1 = some (.d (nd d0 d1 d2 d3 d4 d5 d6 par' m s0' s1')) := by
  simp [nd, extL0, sx_nil, sx_cons, sx_ops, sx_rN, sx_region, sx_seq, sx_seq_norm, sx_seq_exit, sx_seq_ret, sx_cond, sx_cond_t, sx_cond_f, sx_block, sx_block_norm, sx_block_ret, sx_block_exit, sx_exit, sx_ret, sx_skip, sx_step, sx_stepG, sx_g_tt, sx_g_ff, sx_g_tf, sx_g_ft, sx_g_u, sx_put, sx_put2, sx_put_some, sx_put_none, sx_lk, sx_log_p, sx_log_rd, sx_log_wr, sx_log_no, sx_log_g, sx_log_gn, sx_draw, sx_dnil, sx_dcons, sx_dn, sx_dp, sx_drd, sx_dwr, sx_dg, sx_dcls, sx_dcls_g, sx_dcls_gn, sx_top_at, sx_top_rs, sx_next_at, sx_next_rs, sx_rs_at, sx_rs_rs, sx_rs_aside, sx_top_aside, sx_get_at, sx_get_rs, sx_get_aside, sx_callX, sx_callR, opSem, opv, did, isNilK, isNil, loadV, fits, compat, low, binD, binI, hn, meet]
theorem extB3_ne (hn : n ≠ m) : ∃ s', run C lf (extB3 sd) ⟨[(0, .d (nd c0 c1 c2 c3 c4 c5 c6 par n s0 s1)), (1, .d (nd d0 d1 d2 d3 d4 d5 d6 par' m s0' s1'))], h, lg⟩ = some (.ret, s') ∧ lk s'.env 4 = some (.d (.bool false)) := by
  have hb : (n != m) = true := by simp [hn]
  simp [nd, extB3, sx_nil, sx_cons, sx_ops, sx_rN, sx_region, sx_seq, sx_seq_norm, sx_seq_exit, sx_seq_ret, sx_cond, sx_cond_t, sx_cond_f, sx_block, sx_block_norm, sx_block_ret, sx_block_exit, sx_exit, sx_ret, sx_skip, sx_step, sx_stepG, sx_g_tt, sx_g_ff, sx_g_tf, sx_g_ft, sx_g_u, sx_put, sx_put2, sx_put_some, sx_put_none, sx_lk, sx_log_p, sx_log_rd, sx_log_wr, sx_log_no, sx_log_g, sx_log_gn, sx_draw, sx_dnil, sx_dcons, sx_dn, sx_dp, sx_drd, sx_dwr, sx_dg, sx_dcls, sx_dcls_g, sx_dcls_gn, sx_top_at, sx_top_rs, sx_next_at, sx_next_rs, sx_rs_at, sx_rs_rs, sx_rs_aside, sx_top_aside, sx_get_at, sx_get_rs, sx_get_aside, sx_callX, sx_callR, opSem, opv, did, isNilK, isNil, loadV, fits, compat, low, binD, binI, hn, hb, meet]
theorem extB3_false (hp : C.pure sd [.agg [c0, c1, c2, c3, c4, c5, c6], .agg [d0, d1, d2, d3, d4, d5, d6]] = some (.bool false)) : ∃ s', run C lf (extB3 sd) ⟨[(0, .d (nd c0 c1 c2 c3 c4 c5 c6 par n s0 s1)), (1, .d (nd d0 d1 d2 d3 d4 d5 d6 par' n s0' s1'))], h, lg⟩ = some (.ret, s') ∧ lk s'.env 4 = some (.d (.bool false)) := by
  simp [nd, extB3, sx_nil, sx_cons, sx_ops, sx_rN, sx_region, sx_seq, sx_seq_norm, sx_seq_exit, sx_seq_ret, sx_cond, sx_cond_t, sx_cond_f, sx_block, sx_block_norm, sx_block_ret, sx_block_exit, sx_exit, sx_ret, sx_skip, sx_step, sx_stepG, sx_g_tt, sx_g_ff, sx_g_tf, sx_g_ft, sx_g_u, sx_put, sx_put2, sx_put_some, sx_put_none, sx_lk, sx_log_p, sx_log_rd, sx_log_wr, sx_log_no, sx_log_g, sx_log_gn, sx_draw, sx_dnil, sx_dcons, sx_dn, sx_dp, sx_drd, sx_dwr, sx_dg, sx_dcls, sx_dcls_g, sx_dcls_gn, sx_top_at, sx_top_rs, sx_next_at, sx_next_rs, sx_rs_at, sx_rs_rs, sx_rs_aside, sx_top_aside, sx_get_at, sx_get_rs, sx_get_aside, sx_callX, sx_callR, opSem, opv, opvs, did, isNilK, isNil, loadV, fits, compat, low, binD, binI, hp, meet, allD]
theorem extB3_end (hp : C.pure sd [.agg [c0, c1, c2, c3, c4, c5, c6], .agg [d0, d1, d2, d3, d4, d5, d6]] = some (.bool true)) {x y b : Bool} (h1 : isNilK 0 (.d par) = some x) (h2 : isNilK 0 (.d par') = some y) (ho : (x || y) = true) (hb : (x && y) = b) : ∃ s', run C lf (extB3 sd) ⟨[(0, .d (nd c0 c1 c2 c3 c4 c5 c6 par n s0 s1)), (1, .d (nd d0 d1 d2 d3 d4 d5 d6 par' n s0' s1'))], h, lg⟩ = some (.ret, s') ∧ lk s'.env 4 = some (.d (.bool b)) := by
  subst hb
  cases x <;> cases y <;> first | (cases ho; done) | skip
  all_goals simp [nd, extB3, sx_nil, sx_cons, sx_ops, sx_rN, sx_region, sx_seq, sx_seq_norm, sx_seq_exit, sx_seq_ret, sx_cond, sx_cond_t, sx_cond_f, sx_block, sx_block_norm, sx_block_ret, sx_block_exit, sx_exit, sx_ret, sx_skip, sx_step, sx_stepG, sx_g_tt, sx_g_ff, sx_g_tf, sx_g_ft, sx_g_u, sx_put, sx_put2, sx_put_some, sx_put_none, sx_lk, sx_log_p, sx_log_rd, sx_log_wr, sx_log_no, sx_log_g, sx_log_gn, sx_draw, sx_dnil, sx_dcons, sx_dn, sx_dp, sx_drd, sx_dwr, sx_dg, sx_dcls, sx_dcls_g, sx_dcls_gn, sx_top_at, sx_top_rs, sx_next_at, sx_next_rs, sx_rs_at, sx_rs_rs, sx_rs_aside, sx_top_aside, sx_get_at, sx_get_rs, sx_get_aside, sx_callX, sx_callR, opSem, opv, opvs, did, h1, h2, isNil, loadV, fits, compat, low, binD, binI, hp, meet, allD, ptrsOf, eqPs]
theorem extB3_on (hp : C.pure sd [.agg [c0, c1, c2, c3, c4, c5, c6], .agg [d0, d1, d2, d3, d4, d5, d6]] = some (.bool true)) (h1 : isNilK 0 (.d par) = some false) (h2 : isNilK 0 (.d par') = some false) : ∃ s', run C lf (extB3 sd) ⟨[(0, .d (nd c0 c1 c2 c3 c4 c5 c6 par n s0 s1)), (1, .d (nd d0 d1 d2 d3 d4 d5 d6 par' n s0' s1'))], h, lg⟩ = some (.norm, s') ∧ lk s'.env 0 = some (.d par) ∧ lk s'.env 1 = some (.d par') := by
  simp [nd, extB3, sx_nil, sx_cons, sx_ops, sx_rN, sx_region, sx_seq, sx_seq_norm, sx_seq_exit, sx_seq_ret, sx_cond, sx_cond_t, sx_cond_f, sx_block, sx_block_norm, sx_block_ret, sx_block_exit, sx_exit, sx_ret, sx_skip, sx_step, sx_stepG, sx_g_tt, sx_g_ff, sx_g_tf, sx_g_ft, sx_g_u, sx_put, sx_put2, sx_put_some, sx_put_none, sx_lk, sx_log_p, sx_log_rd, sx_log_wr, sx_log_no, sx_log_g, sx_log_gn, sx_draw, sx_dnil, sx_dcons, sx_dn, sx_dp, sx_drd, sx_dwr, sx_dg, sx_dcls, sx_dcls_g, sx_dcls_gn, sx_top_at, sx_top_rs, sx_next_at, sx_next_rs, sx_rs_at, sx_rs_rs, sx_rs_aside, sx_top_aside, sx_get_at, sx_get_rs, sx_get_aside, sx_callX, sx_callR, opSem, opv, opvs, did, h1, h2, isNil, loadV, fits, compat, low, binD, binI, hp, meet, allD]
end
end Go.Avm

/- kernel.extends: the walk. -/
namespace Go.Avm
open Go

def isNd : D → Option (List D × D × Int)
  | .ref [c0, c1, c2, c3, c4, c5, c6, par, .int .i64 n, _, _] 0 => some ([c0, c1, c2, c3, c4, c5, c6], par, n)
  | _ => none
theorem isNd_eq {a : D} {l : List D} {p : D} {n : Int} (h : isNd a = some (l, p, n)) : ∃ c0 c1 c2 c3 c4 c5 c6 s0 s1, a = nd c0 c1 c2 c3 c4 c5 c6 p n s0 s1 ∧ l = [c0, c1, c2, c3, c4, c5, c6] := by
  unfold isNd at h
  split at h
  · injection h with h; injection h with h1 h; injection h with h2 h3; subst h1 h2 h3
    exact ⟨_, _, _, _, _, _, _, _, _, rfl, rfl⟩
  · cases h

/-- the node from which on the number is not greater -/
def extSkip : Nat → D → Int → Option D
  | 0, _, _ => none
  | k + 1, a, m => match a with
    | .nilptr => some .nilptr
    | a => match isNd a with
      | some (_, p, n) => if m < n then extSkip k p m else some a
      | none => none
def extCmp (same : List D → Option D) : Nat → D → D → Option Bool
  | 0, _, _ => none
  | k + 1, a, b => match a, b with
    | .nilptr, .nilptr => some true
    | a, b => match isNd a, isNd b with
      | some (l, p, n), some (l', p', m) =>
        if n = m then match same [.agg l, .agg l'] with
          | some (.bool true) => match isNilK 0 (.d p), isNilK 0 (.d p') with
            | some false, some false => extCmp same k p p'
            | some x, some y => some (x && y)
            | _, _ => none
          | some (.bool false) => match same [.agg l, .agg l] with
            | some (.bool true) => some false
            | _ => none
          | _ => none
        else some false
      | _, _ => none
def extP (same : List D → Option D) (k : Nat) : List D → Option D
  | [a, b] => match isNd b with
    | some (_, _, m) => match extSkip k a m with
      | some a' => (extCmp same k a' b).map .bool
      | none => none
    | none => none
  | _ => none

section
variable {P : Program} {G : Start} {N : Nat} {C : Calls} {k : K} {w : World}

/-- the values in a node's cells -/
theorem nd_rep {v : Value} {c0 c1 c2 c3 c4 c5 c6 par s0 s1 : D} {n : Int} (h : Rep k v (nd c0 c1 c2 c3 c4 c5 c6 par n s0 s1)) : ∃ b o, v = .pointer (some ⟨b, o, none⟩) ∧ ∃ us : Nat → Value, ∀ (j : Nat) (d : D), [c0, c1, c2, c3, c4, c5, c6, par, .int .i64 n, s0, s1][j]? = some d → k.F b (o + j) = some (us j) ∧ Rep k (us j) d := by
  unfold nd at h
  generalize he : (D.ref [c0, c1, c2, c3, c4, c5, c6, par, .int .i64 n, s0, s1] 0) = x at h
  cases h <;> try (cases he; done)
  rename_i b base off cells us h1 h2
  injection he with e1 e2; subst e1 e2
  exact ⟨b, base, rfl, us, fun j d hj => ⟨h1 j d hj, h2 j d hj⟩⟩

theorem rep_int {v : Value} {i j : IntKind} {n m : Int} (h : Rep k v (.int i n)) (g : Rep k v (.int j m)) : n = m := by
  cases h; cases g; rfl

theorem rep_nil {v : Value} {p : D} {x : Bool} (h : Rep k v p) (hx : isNilK 0 (.d p) = some x) : x = true ↔ v = .pointer none := by
  cases h <;> simp [isNilK] at hx <;> subst hx <;> simp
theorem seven {us : Nat → Value} {c0 c1 c2 c3 c4 c5 c6 par s0 s1 : D} {n : Int} (h : ∀ (j : Nat) (d : D), [c0, c1, c2, c3, c4, c5, c6, par, .int .i64 n, s0, s1][j]? = some d → Rep k (us j) d) :
    Rep k (.agg #[us 0, us 1, us 2, us 3, us 4, us 5, us 6]) (.agg [c0, c1, c2, c3, c4, c5, c6]) := by
  refine .agg _ _ us rfl (fun j d hj => ?_) (fun j d hj => ?_)
  · match j, hj with
    | 0, _ | 1, _ | 2, _ | 3, _ | 4, _ | 5, _ | 6, _ => rfl
    | j + 7, hj => simp at hj
  · refine h j d ?_
    match j, hj with
    | 0, hj | 1, hj | 2, hj | 3, hj | 4, hj | 5, hj | 6, hj => exact hj
    | j + 7, hj => simp at hj

theorem extCmp_same (hC : CallsOk P C) {sd : Nat} (ha : Agree k w) : ∀ (q : Nat) (a b : D) (r : Bool) (v : Value), extCmp (C.pure sd) q a b = some r → Rep k v a → Rep k v b → r = true := by
  intro q
  induction q with
  | zero => intro a b r v h; simp [extCmp] at h
  | succ q ih =>
    intro a b r v h ra rb
    unfold extCmp at h
    split at h
    · injection h with h; exact h.symm
    · split at h
      · rename_i l p n l' p' m e1 e2
        obtain ⟨c0, c1, c2, c3, c4, c5, c6, s0, s1, rfl, rfl⟩ := isNd_eq e1
        obtain ⟨d0, d1, d2, d3, d4, d5, d6, t0, t1, rfl, rfl⟩ := isNd_eq e2
        obtain ⟨b, o, rfl, us, h1⟩ := nd_rep ra
        obtain ⟨b', o', e3, us', h2⟩ := nd_rep rb
        injection e3 with e3; injection e3 with e3; injection e3 with e3 e4; subst e3 e4
        have hu : ∀ j, j < 11 → us j = us' j := by
          intro j hj
          obtain ⟨d, hd⟩ : ∃ d, [c0, c1, c2, c3, c4, c5, c6, p, .int .i64 n, s0, s1][j]? = some d := ⟨_, List.getElem?_eq_getElem (by simpa using hj)⟩
          obtain ⟨d', hd'⟩ : ∃ d, [d0, d1, d2, d3, d4, d5, d6, p', .int .i64 m, t0, t1][j]? = some d := ⟨_, List.getElem?_eq_getElem (by simpa using hj)⟩
          have g1 := (h1 j d hd).1
          have g2 := (h2 j d' hd').1
          rw [g1] at g2; injection g2
        have r8 := (h1 8 _ rfl).2
        have r8' := (h2 8 _ rfl).2
        rw [← hu 8 (by omega)] at r8'
        have hnm := rep_int r8 r8'
        have r7 := (h1 7 _ rfl).2
        have r7' := (h2 7 _ rfl).2
        rw [← hu 7 (by omega)] at r7'
        have s7 := seven fun j d hj => (h1 j d hj).2
        have s7' := seven fun j d hj => (h2 j d hj).2
        rw [← hu 0 (by omega), ← hu 1 (by omega), ← hu 2 (by omega), ← hu 3 (by omega), ← hu 4 (by omega), ← hu 5 (by omega), ← hu 6 (by omega)] at s7'
        rw [if_pos hnm] at h
        split at h
        · split at h
          · exact ih _ _ _ _ h r7 r7'
          · rename_i x y hne hx hy
            injection h with h; subst h
            have i1 := rep_nil r7 hx
            have i2 := rep_nil r7' hy
            cases x with
            | true => rw [i2.2 (i1.1 rfl)]; rfl
            | false => cases y with
              | true => have := i1.2 (i2.1 rfl); cases this
              | false => exact (hne rfl rfl).elim
          · cases h
        · rename_i hf
          split at h
          · rename_i ht
            exfalso
            have pf : PureOk P sd _ (.bool false) := fun w k args => hC.pure sd _ _ hf w k args
            have pt : PureOk P sd _ (.bool true) := fun w k args => hC.pure sd _ _ ht w k args
            have := pure_bool pf pt (w := w) (k := k) (args := #[.agg #[us 0, us 1, us 2, us 3, us 4, us 5, us 6], .agg #[us 0, us 1, us 2, us 3, us 4, us 5, us 6]]) ha
              (RepDs.cons' s7 (RepDs.cons' s7' ⟨rfl, fun j v d hv => by simp at hv⟩)) (RepDs.cons' s7 (RepDs.cons' s7 ⟨rfl, fun j v d hv => by simp at hv⟩))
            cases this
          · cases h
        · cases h
      · cases h

/-! the walk -/
def ptrSz (P : Program) (t : TypeId) : Bool := match P.underlying t with
  | some (.pointer e) => match P.info? e with
    | some j => decide (j.size ≠ 0)
    | none => false
  | _ => false
/-- two pointers, neither of them nil -/
theorem run_ptr_neq {t : TypeId} {x z : Operand} {A B : Addr} (ht : ptrSz P t = true) (hA : ∃ vs e, w.heap[A.block]? = some (.cells vs e)) (hB : ∃ vs e, w.heap[B.block]? = some (.cells vs e)) :
    ((do eqGuard .neq t x z (.pointer (some A)) (.pointer (some B)); binOp .neq t (.pointer (some A)) (.pointer (some B))) : Sem Value).run P w = .ok (.bool (!decide (A = B))) w := by
  unfold ptrSz at ht
  split at ht
  · rename_i e hu
    split at ht
    · rename_i j hj
      have hsz : j.size ≠ 0 := by simpa using ht
      obtain ⟨va, ta, ha⟩ := hA
      obtain ⟨vb, tb, hb⟩ := hB
      have hg : (eqGuard .neq t x z (.pointer (some A)) (.pointer (some B))).run P w = .ok () w := by simp [eqGuard]
      have heq : (Op.equal t (.pointer (some A)) (.pointer (some B))).run P w = .ok (decide (A = B)) w := by
        by_cases h : A = B
        · subst h
          have h1 : ∀ d : Nat, (Op.equalIn (d + 1) t (.pointer (some A)) (.pointer (some A))).run P w = .ok true w := fun d => by
            simp [Op.equalIn, run_underlying hu, sizeOf, typeInfo, hj, run_sameAddr_same]
          simp [Op.equal, Op.maxDepth, h1 9999]
        · have h1 : ∀ d : Nat, (Op.equalIn (d + 1) t (.pointer (some A)) (.pointer (some B))).run P w = .ok false w := fun d => by
            simp [Op.equalIn, run_underlying hu, sizeOf, typeInfo, hj, hsz, run_sameAddr_other w h ha hb]
          simp [Op.equal, Op.maxDepth, h1 9999, h]
      rw [Sem.run_bind, hg]
      simp [binOp, heq]
    · cases ht
  · cases ht
end
end Go.Avm

/- kernel.extends: the walk through its loops. -/
namespace Go.Avm
open Go

section
variable {P : Program} {C : Calls}

/-- a function, on data, by a walk through its code -/
theorem pure_of_wp {f : Nat} {fn : Func} {c : Code} (hf : P.funcs[f]? = some fn) (hb : fn.body = some c) {ds : List D} {d : D} (hn : ds.length ≤ fn.ntmps) {as : List ARes} (has : chkAll (chkRes P) fn.results.toList as = true)
    (hw : ∀ (G : Start) (w : World) (k : K) (μ : Nat → Loc) (a : Act) (Q : Exit → Act → World → Prop), Rel G fn.ntmps w k μ (fun _ => 0) (lk (args0 0 (ds.map .d))) Avm.H.empty a →
      (∀ (e : Exit) (w' : World) (k' : K) (μ' : Nat → Loc) (hb' : Nat → Nat) (a' : Act) (s' : St), (e = .normal ∨ e = .ret) → Rel G fn.ntmps w' k' μ' hb' (lk s'.env) s'.heap a' → result s' as = some (.d d) → Q e a' w') → c.wp P Q a w) : PureOk P f ds d := by
  intro w k args ha hr
  have hi : Inv w.heap.size w k (fun _ => ⟨0, 0, 0⟩) H.empty := Inv.empty ha (Nat.le_refl _)
  have hargs : RepVs k (fun _ => ⟨0, 0, 0⟩) H.empty.has args.toList (ds.map .d) := repVs_d.2 hr
  have hlen : args.size ≤ fn.ntmps := by
    have h1 := hargs.1
    simp only [List.length_map, Array.length_toList] at h1; omega
  refine calls_of_wp hf hb ?_
  have hnh : ∀ t m, lk (args0 0 (ds.map V.d)) t ≠ some (.hole m) := by
    intro t m e
    obtain ⟨j, _, h2⟩ := lk_args0 (ds.map V.d) 0 t _ e
    obtain ⟨u, _, h4⟩ := hargs.get h2
    cases h4
  have rel : Rel ⟨w.heap.size, w, k, (fun _ => ⟨0, 0, 0⟩), H.empty⟩ fn.ntmps w k (fun _ => ⟨0, 0, 0⟩) (fun _ => 0) (lk (args0 0 (ds.map .d))) H.empty { tmps := args ++ Array.replicate (fn.ntmps - args.size) undef, defers := [] } := by
    refine ⟨hi, ?_, by simp; omega, rfl, fun t m e => absurd e (hnh t m), fun t t' m m' _ e => absurd e (hnh t m), Ext.refl ..⟩
    intro t x hx _
    obtain ⟨j, h1, h2⟩ := lk_args0 (ds.map V.d) 0 t x hx
    obtain ⟨u, h3, h4⟩ := hargs.get h2
    have : t = j := by omega
    subst this
    have hlt : t < args.size := by
      rcases Nat.lt_or_ge t args.size with h | h
      · exact h
      · rw [List.getElem?_eq_none (by simpa using h)] at h3; cases h3
    have : ((args ++ Array.replicate (fn.ntmps - args.size) undef).getD t undef) = u := by
      rw [Array.getD_eq_getD_getElem?, Array.getElem?_append_left hlt]
      have : args[t]? = some u := by simpa using h3
      rw [this]; rfl
    rw [this]; exact h4
  refine hw _ _ _ _ _ _ rel ?_
  intro e w' k' μ' hb' a' s' he r' hv
  obtain ⟨u, g1, g2⟩ := result_ok r' has hv
  have hd : Rep k' u d := by cases g2; assumption
  have fin : a'.defers = [] ∧ ∃ v, (results fn a'.tmps).run P w' = .ok v w' ∧ ∃ u k', Ending.returned v = .returned u ∧ w.heap.size ≤ w'.heap.size ∧ (∀ b, b < w.heap.size → w'.heap[b]? = w.heap[b]?) ∧ w'.os = w.os ∧ w'.tape = w.tape ∧ w'.output = w.output ∧ Agree k' w' ∧ k.le k' ∧
      (∀ b o u, k'.F b o = some u → k.F b o = some u ∨ w.heap.size ≤ b) ∧ (∀ b es, k'.M b = some es → k.M b = some es ∨ w.heap.size ≤ b) ∧ Rep k' u d := by
    have hx := r'.ext
    refine ⟨r'.defers, u, g1, u, k', rfl, hx.size, fun b hb => hx.frame b hb (fun i hl => by rw [H.get_empty] at hl; simp [live] at hl), hx.os, hx.tape, hx.output, r'.inv.agree, hx.kle, ?_, ?_, hd⟩
    · intro b o u' hu
      rcases hx.fnew _ _ _ hu with h2 | ⟨i, hl, _⟩ | h2
      · exact .inl h2
      · rw [H.get_empty] at hl; simp [live] at hl
      · exact .inr h2
    · intro b es hu
      rcases hx.mnew _ _ hu with h2 | ⟨i, hl, _⟩ | h2
      · exact .inl h2
      · rw [H.get_empty] at hl; simp [live] at hl
      · exact .inr h2
  rcases he with rfl | rfl <;> exact fin

/-! the shape of code that was checked -/
theorem chk_seq {N : Nat} {c : Code} {a b : AC} (h : chkCode P N c (.seq a b) = true) : ∃ x y, c = .seq x y ∧ chkCode P N x a = true ∧ chkCode P N y b = true := by
  cases c <;> simp [chkCode] at h
  exact ⟨_, _, rfl, h.1, h.2⟩
theorem chk_block {N : Nat} {c : Code} {a : AC} {i : Nat} (h : chkCode P N c (.block i a) = true) : ∃ x, c = .block i x ∧ chkCode P N x a = true := by
  cases c <;> simp [chkCode] at h
  obtain ⟨rfl, h⟩ := h
  exact ⟨_, rfl, h⟩
theorem chk_loop {N : Nat} {c : Code} {a : AC} {l : List Nat} (h : chkCode P N c (.loop l a) = true) : ∃ x, c = .loop x ∧ chkCode P N x a = true := by
  cases c <;> simp [chkCode] at h
  exact ⟨_, rfl, h⟩
theorem chk_region {N : Nat} {c : Code} {l : List AOper} (h : chkCode P N c (.region l) = true) : ∃ id ops, c = .region id ops false ∧ chkOps P N ops 0 l = true := by
  cases c
  case region id ops dr =>
    cases dr
    · exact ⟨_, _, rfl, by simpa only [chkCode] using h⟩
    · simp only [chkCode] at h; cases h
  all_goals (simp only [chkCode] at h; cases h)
theorem chk_cond {N : Nat} {c : Code} {o : Opnd} {a b : AC} (h : chkCode P N c (.cond o a b) = true) : ∃ q x y, c = .cond q x y ∧ chkOpnd q o = true ∧ chkCode P N x a = true ∧ chkCode P N y b = true := by
  cases c <;> simp [chkCode] at h
  exact ⟨_, _, _, rfl, h.1.1, h.1.2, h.2⟩

variable {G : Start} {N : Nat}

/-- a node is a pointer to plain cells -/
theorem repV_d {k : K} {μ : Nat → Loc} {n : Nat → Prop} {u : Value} {x : D} (h : RepV k μ n u (.d x)) : Rep k u x := by cases h; assumption
theorem nd_at {k : K} {w : World} (ha : Agree k w) {v : Value} {c0 c1 c2 c3 c4 c5 c6 par s0 s1 : D} {n : Int} (h : Rep k v (nd c0 c1 c2 c3 c4 c5 c6 par n s0 s1)) : ∃ A : Addr, v = .pointer (some A) ∧ ∃ vs e, w.heap[A.block]? = some (.cells vs e) := by
  obtain ⟨b, o, rfl, us, h1⟩ := nd_rep h
  exact ⟨_, rfl, ha.2.2 _ _ _ (h1 0 _ rfl).1⟩

def extRC : List AOper := [⟨some 22, .mv (.t 0), none⟩, ⟨some 23, .mv (.t 1), none⟩, ⟨some 24, .eqPtrs 0 true (.t 22) (.t 23), none⟩]

theorem extRC_ok (hC : CallsOk P C) {ops : Array Oper} {id : Nat} (hk : chkOps P N ops 0 extRC = true) (hz : ∀ o t x z t', ops[2]? = some o → o.op = .binOp .neq t x z t' → ptrSz P t = true) {w : World} {k : K} {μ : Nat → Loc} {hb : Nat → Nat} {h : H} {a : Act}
    {c0 c1 c2 c3 c4 c5 c6 par s0 s1 d0 d1 d2 d3 d4 d5 d6 par' t0 t1 : D} {n m : Int} {Q : Exit → Act → World → Prop}
    (r : Rel G N w k μ hb (lk [(0, .d (nd c0 c1 c2 c3 c4 c5 c6 par n s0 s1)), (1, .d (nd d0 d1 d2 d3 d4 d5 d6 par' m t0 t1))]) h a)
    (hq : ∀ (b : Bool) k' μ' hb' a' w', (b = true ∨ ∃ k0 w0 v, Agree k0 w0 ∧ Rep k0 v (nd c0 c1 c2 c3 c4 c5 c6 par n s0 s1) ∧ Rep k0 v (nd d0 d1 d2 d3 d4 d5 d6 par' m t0 t1)) → Rel G N w' k' μ' hb' (lk [(24, .d (.bool b)), (0, .d (nd c0 c1 c2 c3 c4 c5 c6 par n s0 s1)), (1, .d (nd d0 d1 d2 d3 d4 d5 d6 par' m t0 t1))]) h a' → Q .normal a' w') :
    (Code.region id ops false).wp P Q a w := by
  refine wp_region ?_
  rw [List.range_eq_range']
  simp only [extRC, chkOps, Bool.and_eq_true] at hk
  obtain ⟨k0, k1, k2, k3⟩ := hk
  have hsz : ops.size = 3 := (beq_nat.1 k3).symm
  rw [hsz]
  simp only [List.range', Nat.sub_zero]
  split at k0
  · rename_i o0 ho0
    split at k1
    · rename_i o1 ho1
      split at k2
      · rename_i o2 ho2
        rw [wpOps_cons]
        refine stepD_sound hC r ho0 k0 (y := ⟨.d (nd c0 c1 c2 c3 c4 c5 c6 par n s0 s1), h, none, .p⟩) rfl fun k1' μ1 hb1 a1 w1 r1 => ?_
        rw [wpOps_cons]
        refine stepD_sound hC r1 ho1 k1 (y := ⟨.d (nd d0 d1 d2 d3 d4 d5 d6 par' m t0 t1), h, none, .p⟩) rfl fun k2' μ2 hb2 a2 w2 r2 => ?_
        rw [wpOps_cons]
        simp only [chkOper, Bool.and_eq_true] at k2
        obtain ⟨⟨q1, q2⟩, q3⟩ := k2
        have hd : o2.dst = some 24 ∧ 24 < N := by
          split at q1
          · rename_i e1 e2; cases e2
          · rename_i d d' e1 e2
            injection e2 with e2; subst e2
            simp only [Bool.and_eq_true] at q1
            have := beq_nat.1 q1.1
            subst this
            exact ⟨e1, by simpa using q1.2⟩
          · cases q1
        have hg : o2.guard = none := by
          split at q2
          · rename_i e1 e2; exact e1
          · rename_i e1 e2; cases e2
          · cases q2
        simp only [chkOp] at q3
        split at q3
        · rename_i op' t x z t' hop
          simp only [Bool.and_eq_true, decide_eq_true_eq] at q3
          obtain ⟨⟨⟨rfl, p1⟩, p2⟩, p3⟩ := q3
          have hsz2 := hz _ _ _ _ _ ho2 hop
          have e22 := opv_rep r2 p1 (v := .d (nd c0 c1 c2 c3 c4 c5 c6 par n s0 s1)) rfl
          have e23 := opv_rep r2 p2 (v := .d (nd d0 d1 d2 d3 d4 d5 d6 par' m t0 t1)) rfl
          have g22 : Rep k2' (a2.eval x) (nd c0 c1 c2 c3 c4 c5 c6 par n s0 s1) := repV_d e22
          have g23 : Rep k2' (a2.eval z) (nd d0 d1 d2 d3 d4 d5 d6 par' m t0 t1) := repV_d e23
          obtain ⟨A, hA, hA2⟩ := nd_at r2.inv.agree g22
          obtain ⟨B, hB, hB2⟩ := nd_at r2.inv.agree g23
          have hrun := run_ptr_neq (x := x) (z := z) hsz2 hA2 hB2
          have hex : (execOp a2.eval o2).run P w2 = .ok (.value (.bool (!decide (A = B)))) w2 := by
            have : execOp a2.eval o2 = (do pure (.value (← (do eqGuard .neq t x z (a2.eval x) (a2.eval z); binOp .neq t (a2.eval x) (a2.eval z)))) : Sem Next) := by simp [execOp, hop]
            rw [this, hA, hB, Sem.run_bind, hrun]; rfl
          have hw : o2.wp P a2 w2 (wpOps P ops Q []) Q := by
            refine Oper.wp_mono (fun a' w' hx => ?_) (wp_same r2 (by rw [hd.1]; intro d h; injection h with h; subst h; exact hd.2) hex (.d _ _ (.bool _)))
            obtain ⟨k', μ', hb', hr⟩ := hx
            refine hq (!decide (A = B)) k' μ' hb' a' w' ?_ (hr.less fun t v hv => ?_)
            · by_cases hAB : A = B
              · subst hAB
                rw [hA] at g22; rw [hB] at g23
                exact .inr ⟨k2', w2, _, r2.inv.agree, g22, g23⟩
              · exact .inl (by simp [hAB])
            · simp only [hd.1, putρ, updρ, outρ, slotρ]
              simp only [lk_cons] at hv ⊢
              by_cases h24 : t = 24
              · subst h24; simpa using hv
              · rw [if_neg h24] at hv ⊢
                by_cases h0 : t = 0
                · subst h0; simpa using hv
                · by_cases h1 : t = 1
                  · subst h1; simpa using hv
                  · rw [if_neg h0, if_neg h1] at hv; simp [lk] at hv
          unfold wpOp
          simp only [ho2, Region.wanted, hg, if_true]
          exact .inl hw
        · cases q3
      · cases k2
    · cases k1
  · cases k0

def extL2 (sd : Nat) : AC := .seq (.seq (.region extRC) (.cond (.t 24) .skip (.exit 2))) (.block 3 (extB3 sd))
theorem extL2_nil {lf sd : Nat} {h : H} {lg : Option (List Nat)} : ∃ s', run C lf (extL2 sd) ⟨[(0, .d .nilptr), (1, .d .nilptr)], h, lg⟩ = some (.exit 2, s') := by
  simp [extL2, extRC, sx_nil, sx_cons, sx_ops, sx_rN, sx_region, sx_seq, sx_seq_norm, sx_seq_exit, sx_cond, sx_cond_t, sx_cond_f, sx_exit, sx_step, sx_put, sx_put_some, sx_lk, sx_log_p, opSem, opv, did, ptrsOf, eqPs, isNilK]

theorem ext_loop2 (hC : CallsOk P C) (hm : P.follows .mixedOrders = true) {sd : Nat} {c : Code} (hk : chkCode P N c (extL2 sd) = true) (hz : ∀ id ops x y, c = .seq (.seq (.region id ops false) x) y → ∀ o t x z t', ops[2]? = some o → o.op = .binOp .neq t x z t' → ptrSz P t = true) {Q : Exit → Act → World → Prop} {r : Bool}
    (hq2 : r = true → ∀ k' μ' hb' (s' : St) a' w', Rel G N w' k' μ' hb' (lk s'.env) s'.heap a' → Q (.exit 2) a' w')
    (hqr : ∀ k' μ' hb' (s' : St) a' w', lk s'.env 4 = some (.d (.bool r)) → Rel G N w' k' μ' hb' (lk s'.env) s'.heap a' → Q .ret a' w') :
    ∀ (q : Nat) (x y : D) (w : World) (k : K) (μ : Nat → Loc) (hb : Nat → Nat) (h : H) (a : Act), extCmp (C.pure sd) q x y = some r → Rel G N w k μ hb (lk [(0, .d x), (1, .d y)]) h a → Code.rounds P c Q q a w := by
  intro q
  induction q with
  | zero => intro x y w k μ hb h a hx; simp [extCmp] at hx
  | succ q ih =>
    intro x y w k μ hb h a hx rr
    rw [rounds_succ]
    have hx0 := hx
    unfold extCmp at hx
    split at hx
    · injection hx with hx
      obtain ⟨s', hs'⟩ := extL2_nil (C := C) (lf := 0) (sd := sd) (h := h) (lg := none)
      refine code_sound hC hm 0 c (extL2 sd) _ ⟨_, h, none⟩ s' (.exit 2) w k μ hb a hk rr hs' fun k' μ' hb' a' w' r' => ?_
      exact hq2 hx.symm _ _ _ _ _ _ r'
    · split at hx
      · rename_i l p n l' p' m e1 e2
        obtain ⟨c0, c1, c2, c3, c4, c5, c6, s0, s1, rfl, rfl⟩ := isNd_eq e1
        obtain ⟨d0, d1, d2, d3, d4, d5, d6, t0, t1, rfl, rfl⟩ := isNd_eq e2
        obtain ⟨x1, y1, rfl, g1, g2⟩ := chk_seq hk
        obtain ⟨x2, y2, rfl, g3, g4⟩ := chk_seq g1
        obtain ⟨id, ops, rfl, g5⟩ := chk_region g3
        obtain ⟨qc, x3, y3, rfl, g6, g7, g8⟩ := chk_cond g4
        refine wp_seq (wp_seq (extRC_ok hC g5 (hz _ _ _ _ rfl) rr fun b k' μ' hb' a' w' hb0 r' => ?_))
        show Code.wp P _ _ a' w'
        have hc := opv_rep r' g6 (v := .d (.bool b)) (by simp [opv, lk])
        have hev : a'.eval qc = .bool b := by
          have := repV_d hc
          generalize a'.eval qc = u at this
          cases this; rfl
        refine wp_cond (t := b) hev ?_
        cases b with
        | false =>
          simp only [Bool.false_eq_true, if_false]
          refine code_sound hC hm 0 y3 (.exit 2) _ ⟨_, h, none⟩ _ (.exit 2) w' k' μ' hb' a' g8 r' rfl fun k2 μ2 hb2 a2 w2 r2 => ?_
          have hr : r = true := by
            rcases hb0 with h1 | ⟨k0, w0, v, h1, h2, h3⟩
            · cases h1
            · exact extCmp_same hC h1 _ _ _ _ _ hx0 h2 h3
          exact hq2 hr _ _ _ _ _ _ r2
        | true =>
          simp only [if_true]
          refine code_sound hC hm 0 x3 .skip _ ⟨_, h, none⟩ _ .norm w' k' μ' hb' a' g7 r' rfl fun k2 μ2 hb2 a2 w2 r2 => ?_
          show Code.wp P _ _ a2 w2
          have r3 : Rel G N w2 k2 μ2 hb2 (lk [(0, .d (nd c0 c1 c2 c3 c4 c5 c6 p n s0 s1)), (1, .d (nd d0 d1 d2 d3 d4 d5 d6 p' m t0 t1))]) h a2 := r2.less fun t v hv => by
            simp only [lk_cons] at hv ⊢
            by_cases h24 : t = 24
            · subst h24; simp [lk] at hv
            · rw [if_neg h24]; exact hv
          have blk : ∀ e s', e ≠ .exit 3 → run C 0 (extB3 sd) ⟨[(0, .d (nd c0 c1 c2 c3 c4 c5 c6 p n s0 s1)), (1, .d (nd d0 d1 d2 d3 d4 d5 d6 p' m t0 t1))], h, none⟩ = some (e, s') → run C 0 (.block 3 (extB3 sd)) ⟨[(0, .d (nd c0 c1 c2 c3 c4 c5 c6 p n s0 s1)), (1, .d (nd d0 d1 d2 d3 d4 d5 d6 p' m t0 t1))], h, none⟩ = some (e, s') := by
            intro e s' he hs
            rw [sx_block, hs]
            cases e with
            | norm => rfl
            | ret => rfl
            | exit i =>
              have : i ≠ 3 := fun e => he (by rw [e])
              simp [blockN, this]
          have done : ∀ s', run C 0 (extB3 sd) ⟨[(0, .d (nd c0 c1 c2 c3 c4 c5 c6 p n s0 s1)), (1, .d (nd d0 d1 d2 d3 d4 d5 d6 p' m t0 t1))], h, none⟩ = some (.ret, s') → lk s'.env 4 = some (.d (.bool r)) → Code.wp P y1 (Exit.then (Code.rounds P (Code.seq (Code.seq (Code.region id ops false) (Code.cond qc x3 y3)) y1) Q q) Q) a2 w2 := by
            intro s' hs' h4
            refine code_sound hC hm 0 y1 (.block 3 (extB3 sd)) _ ⟨_, h, none⟩ s' .ret w2 k2 μ2 hb2 a2 g2 r3 (blk _ _ (by simp) hs') fun k5 μ5 hb5 a5 w5 r5 => ?_
            exact hqr _ _ _ _ _ _ h4 r5
          by_cases hnm : n = m
          · subst hnm
            rw [if_pos rfl] at hx
            split at hx
            · rename_i hp
              split at hx
              · rename_i h1 h2
                obtain ⟨s', hs', q0, q1⟩ := extB3_on (C := C) (lf := 0) (sd := sd) (n := n) (s0 := s0) (s1 := s1) (s0' := t0) (s1' := t1) (h := h) (lg := none) hp h1 h2
                refine code_sound hC hm 0 y1 (.block 3 (extB3 sd)) _ ⟨_, h, none⟩ s' .norm w2 k2 μ2 hb2 a2 g2 r3 (blk _ _ (by simp) hs') fun k5 μ5 hb5 a5 w5 r5 => ?_
                exact ih _ _ _ _ _ _ s'.heap _ hx (r5.less fun t v hv => by
                  simp only [lk_cons] at hv
                  by_cases h0 : t = 0
                  · subst h0; rw [if_pos rfl] at hv; rw [q0]; exact hv
                  · rw [if_neg h0] at hv
                    by_cases h1 : t = 1
                    · subst h1; rw [if_pos rfl] at hv; rw [q1]; exact hv
                    · rw [if_neg h1] at hv; simp [lk] at hv)
              · rename_i x0 y0 hne h1 h2
                injection hx with hx
                obtain ⟨s', hs', q0⟩ := extB3_end (C := C) (lf := 0) (sd := sd) (n := n) (s0 := s0) (s1 := s1) (s0' := t0) (s1' := t1) (h := h) (lg := none) hp h1 h2 (by cases x0 <;> cases y0 <;> simp at hne ⊢) hx
                exact done s' hs' q0
              · cases hx
            · rename_i hp
              split at hx
              · injection hx with hx; subst hx
                obtain ⟨s', hs', q0⟩ := extB3_false (C := C) (lf := 0) (sd := sd) (par := p) (par' := p') (n := n) (s0 := s0) (s1 := s1) (s0' := t0) (s1' := t1) (h := h) (lg := none) hp
                exact done s' hs' q0
              · cases hx
            · cases hx
          · rw [if_neg hnm] at hx
            injection hx with hx; subst hx
            obtain ⟨s', hs', q0⟩ := extB3_ne (C := C) (lf := 0) (sd := sd) (c0 := c0) (c1 := c1) (c2 := c2) (c3 := c3) (c4 := c4) (c5 := c5) (c6 := c6) (d0 := d0) (d1 := d1) (d2 := d2) (d3 := d3) (d4 := d4) (d5 := d5) (d6 := d6) (par := p) (par' := p') (s0 := s0) (s1 := s1) (s0' := t0) (s1' := t1) (h := h) (lg := none) hnm
            exact done s' hs' q0
      · cases hx

theorem ext_loop1 (hC : CallsOk P C) (hm : P.follows .mixedOrders = true) {c : Code} (hk : chkCode P N c extL0 = true) {Q : Exit → Act → World → Prop} {y x' : D} {l : List D} {p : D} {m : Int} (hy : isNd y = some (l, p, m))
    (hq : ∀ k' μ' hb' h' a' w', Rel G N w' k' μ' hb' (lk [(0, .d x'), (1, .d y)]) h' a' → Q (.exit 0) a' w') :
    ∀ (q : Nat) (x : D) (w : World) (k : K) (μ : Nat → Loc) (hb : Nat → Nat) (h : H) (a : Act), extSkip q x m = some x' → Rel G N w k μ hb (lk [(0, .d x), (1, .d y)]) h a → Code.rounds P c Q q a w := by
  intro q
  induction q with
  | zero => intro x w k μ hb h a hx; simp [extSkip] at hx
  | succ q ih =>
    intro x w k μ hb h a hx rr
    rw [rounds_succ]
    have two : ∀ (s' : St) (u v : D), lk s'.env 0 = some (.d u) → lk s'.env 1 = some (.d v) → ∀ t z, lk [(0, V.d u), (1, V.d v)] t = some z → lk s'.env t = some z := by
      intro s' u v h0 h1 t z hz
      simp only [lk_cons] at hz
      by_cases e0 : t = 0
      · subst e0; rw [if_pos rfl] at hz; rw [h0]; exact hz
      · rw [if_neg e0] at hz
        by_cases e1 : t = 1
        · subst e1; rw [if_pos rfl] at hz; rw [h1]; exact hz
        · rw [if_neg e1] at hz; simp [lk] at hz
    unfold extSkip at hx
    split at hx
    · injection hx with hx; subst hx
      obtain ⟨s', hs', q0, q1⟩ := extL0_nil (C := C) (lf := 0) (b := y) (h := h) (lg := none)
      refine code_sound hC hm 0 c extL0 _ ⟨_, h, none⟩ s' (.exit 0) w k μ hb a hk rr hs' fun k' μ' hb' a' w' r' => ?_
      exact hq _ _ _ _ _ _ (r'.less (two s' _ _ q0 q1))
    · split at hx
      · rename_i l' p' n e1
        obtain ⟨c0, c1, c2, c3, c4, c5, c6, s0, s1, rfl, rfl⟩ := isNd_eq e1
        obtain ⟨d0, d1, d2, d3, d4, d5, d6, t0, t1, rfl, rfl⟩ := isNd_eq hy
        by_cases hlt : m < n
        · rw [if_pos hlt] at hx
          obtain ⟨s', hs', q0, q1⟩ := extL0_go (C := C) (lf := 0) (c0 := c0) (c1 := c1) (c2 := c2) (c3 := c3) (c4 := c4) (c5 := c5) (c6 := c6) (d0 := d0) (d1 := d1) (d2 := d2) (d3 := d3) (d4 := d4) (d5 := d5) (d6 := d6) (par := p') (par' := p) (s0 := s0) (s1 := s1) (s0' := t0) (s1' := t1) (h := h) (lg := none) hlt
          refine code_sound hC hm 0 c extL0 _ ⟨_, h, none⟩ s' .norm w k μ hb a hk rr hs' fun k' μ' hb' a' w' r' => ?_
          exact ih _ _ _ _ _ s'.heap _ hx (r'.less (two s' _ _ q0 q1))
        · rw [if_neg hlt] at hx
          injection hx with hx; subst hx
          obtain ⟨s', hs', q0, q1⟩ := extL0_stop (C := C) (lf := 0) (c0 := c0) (c1 := c1) (c2 := c2) (c3 := c3) (c4 := c4) (c5 := c5) (c6 := c6) (d0 := d0) (d1 := d1) (d2 := d2) (d3 := d3) (d4 := d4) (d5 := d5) (d6 := d6) (par := p') (par' := p) (s0 := s0) (s1 := s1) (s0' := t0) (s1' := t1) (h := h) (lg := none) hlt
          refine code_sound hC hm 0 c extL0 _ ⟨_, h, none⟩ s' (.exit 0) w k μ hb a hk rr hs' fun k' μ' hb' a' w' r' => ?_
          exact hq _ _ _ _ _ _ (r'.less (two s' _ _ q0 q1))
      · cases hx

/-- the type of the pointers that are compared has a size -/
def extSz (P : Program) (fn : Func) : Bool := match fn.body with
  | some (.seq _ (.seq _ (.seq (.block _ (.loop (.seq (.seq (.region _ ops _) _) _))) _))) => match ops[2]? with
    | some o => match o.op with
      | .binOp _ t _ _ _ => ptrSz P t
      | _ => false
    | none => false
  | _ => false

theorem extends_ok (hC : CallsOk P C) (hm : P.follows .mixedOrders = true) {f sd : Nat} {fn : Func} (hf : P.funcs[f]? = some fn) (hk : chkFn P fn (extA sd) = true) (hz : extSz P fn = true) {q : Nat} {ds : List D} {d : D} (hd : extP (C.pure sd) q ds = some d) : PureOk P f ds d := by
  unfold extP at hd
  split at hd
  · rename_i x y
    split at hd
    · rename_i l p m hy
      split at hd
      · rename_i x' hx
        simp only [Option.map_eq_some_iff] at hd
        obtain ⟨r, hr, rfl⟩ := hd
        unfold chkFn at hk
        split at hk
        · rename_i c hb
          simp only [Bool.and_eq_true] at hk
          obtain ⟨⟨⟨k1, k2⟩, k3⟩, k4⟩ := hk
          have hn : [x, y].length ≤ fn.ntmps := by
            have : 2 ≤ fn.ntmps := by simpa [extA] using k1
            exact this
          refine pure_of_wp hf hb hn k3 fun G w k μ a Q r0 hq => ?_
          obtain ⟨c1, c2, rfl, g1, g2⟩ := chk_seq k2
          obtain ⟨c3, c4, rfl, g3, g4⟩ := chk_seq g2
          obtain ⟨c5, c6, rfl, g5, g6⟩ := chk_seq g4
          obtain ⟨c7, rfl, g7⟩ := chk_block g3
          obtain ⟨c8, rfl, g8⟩ := chk_loop g7
          obtain ⟨c9, rfl, g9⟩ := chk_block g5
          obtain ⟨c10, rfl, g10⟩ := chk_loop g9
          have hz' : ∀ id ops x y, c10 = .seq (.seq (.region id ops false) x) y → ∀ o t x z t', ops[2]? = some o → o.op = .binOp .neq t x z t' → ptrSz P t = true := by
            intro id ops x y e o t x z t' ho hop
            subst e
            unfold extSz at hz
            rw [hb] at hz
            simp only [ho, hop] at hz
            exact hz
          have env2 : ∀ (g : List (Nat × V)), (∀ t z, lk [(0, V.d x), (1, V.d y)] t = some z → lk ((4, V.d (.bool false)) :: g) t = some z) → True := fun _ _ => trivial
          refine wp_seq ?_
          refine code_sound hC hm 0 c1 (.region [⟨some 4, .mv (.c (.bool false)), none⟩]) _ ⟨args0 0 ([x, y].map .d), H.empty, none⟩ ⟨(4, .d (.bool false)) :: args0 0 ([x, y].map .d), H.empty, none⟩ .norm w k μ _ a g1 r0 rfl fun k1 μ1 hb1 a1 w1 r1 => ?_
          refine wp_seq (wp_block (wp_loop_rounds q ?_))
          refine ext_loop1 hC hm g8 hy ?_ q x w1 k1 μ1 hb1 _ a1 hx (r1.less fun t z hz => ?_)
          · intro k3 μ3 hb3 h3 a3 w3 r3
            show Code.wp P _ _ a3 w3
            refine wp_seq (wp_block (wp_loop_rounds q ?_))
            refine ext_loop2 hC hm g10 hz' (r := r) ?_ ?_ q x' y w3 k3 μ3 hb3 h3 a3 hr r3
            · intro hr1 k4 μ4 hb4 s4 a4 w4 r4
              subst hr1
              show Code.wp P _ _ a4 w4
              refine code_sound hC hm 0 c6 (.seq (.region [⟨some 4, .mv (.c (.bool true)), none⟩]) .ret) _ ⟨s4.env, s4.heap, none⟩ ⟨(4, .d (.bool true)) :: s4.env, s4.heap, none⟩ .ret w4 k4 μ4 hb4 a4 g6 r4 rfl fun k5 μ5 hb5 a5 w5 r5 => ?_
              exact hq .ret w5 k5 μ5 hb5 a5 ⟨(4, .d (.bool true)) :: s4.env, s4.heap, none⟩ (.inr rfl) r5 rfl
            · intro k4 μ4 hb4 s4 a4 w4 h4 r4
              exact hq .ret w4 k4 μ4 hb4 a4 s4 (.inr rfl) r4 (by simp [extA, result, resV, opv, h4])
          · simp only [lk_cons, args0, List.map] at hz ⊢
            by_cases e4 : t = 4
            · subst e4; simp [lk] at hz
            · rw [if_neg e4]; exact hz
        · cases hk
      · cases hd
    · cases hd
  · cases hd
end
end Go.Avm

/- The abstract machine on data: a step of an iterator, whichever entry comes; functions whose result is frozen. -/
namespace Go.Avm
open Go
section
variable {P : Program} {C : Calls} {G : Start} {N : Nat} {w : World} {k : K} {μ : Nat → Loc} {hb : Nat → Nat} {ρ : Nat → Option V} {h : H} {a : Act} {Q : Exit → Act → World → Prop}

theorem chkOper_plain {ops : Array Oper} {o : Oper} {d : Nat} {op : AOp} (hk : chkOper P N ops o ⟨some d, op, none⟩ = true) : o.dst = some d ∧ d < N ∧ o.guard = none ∧ chkOp P o op = true := by
  simp only [chkOper, Bool.and_eq_true] at hk
  obtain ⟨⟨q1, q2⟩, q3⟩ := hk
  have hd : o.dst = some d ∧ d < N := by
    split at q1
    · rename_i e1 e2; cases e2
    · rename_i d0 d' e1 e2
      injection e2 with e2; subst e2
      simp only [Bool.and_eq_true] at q1
      have := beq_nat.1 q1.1
      subst this
      exact ⟨e1, by simpa using q1.2⟩
    · cases q1
  have hg : o.guard = none := by
    split at q2
    · rename_i e1 e2; exact e1
    · rename_i e1 e2; cases e2
    · cases q2
  exact ⟨hd.1, hd.2, hg, q3⟩

theorem next_wp (r : Rel G N w k μ hb ρ h a) {ops : Array Oper} {i : Nat} {o : Oper} (hi : ops[i]? = some o) {d t it : Nat} (hk : chkOper P N ops o ⟨some d, .next (.t t), none⟩ = true) (hv : ρ t = some (.ptr it 0)) {ks vs : List D} {seen : List Nat} (hg : h.get it = .iter ks vs seen)
    {K : Act → World → Prop}
    (h0 : leftI seen ks.length = [] → ∀ k' μ' hb' a' w', Rel G N w' k' μ' hb' (putρ ρ (some d) (.d (.tuple [.bool false]))) h a' → K a' w')
    (h1 : ∀ j, j ∈ leftI seen ks.length → ∀ ka va, ks[j]? = some ka → vs[j]? = some va → ∀ k' μ' hb' a' w', Rel G N w' k' μ' hb' (putρ ρ (some d) (.d (.tuple [.bool true, ka, va]))) (h.set it (.iter ks vs (seen ++ [j]))) a' → K a' w') :
    wpOp P ops Q i K a w := by
  obtain ⟨q1, q2, q3, q4⟩ := chkOper_plain hk
  simp only [chkOp] at q4
  split at q4
  · rename_i x hop
    have hd : ∀ d', o.dst = some d' → d' < N := by rw [q1]; intro d' e; injection e with e; subst e; exact q2
    have hopv : opv ρ (.t t) = some (.ptr it 0) := by simp [opv, hv]
    unfold wpOp
    simp only [hi, Region.wanted, q3, if_true]
    refine .inl ?_
    rcases next_any (P := P) r hop q4 hopv hg with ⟨g1, g2⟩ | ⟨j, g, ka, va, g1, g2, kv, vv, w', g3, g4, g5, g6, g7⟩
    · refine Oper.wp_mono (fun a' w' hx => ?_) (wp_same r hd g2 (v := .d (.tuple [.bool false])) (.d _ _ (.tuple _ _ (fun _ => .bool false) rfl (fun j d hj => by match j, hj with | 0, _ => rfl | j + 1, hj => simp at hj) (fun j d hj => by match j, hj with | 0, hj => simp at hj; subst hj; exact .bool false | j + 1, hj => simp at hj))))
      obtain ⟨k', μ', hb', hr⟩ := hx
      rw [q1] at hr
      exact h0 g1 _ _ _ _ _ hr
    · refine Oper.wp_mono (fun a' w' hx => ?_) (wp_step r hd g5 g6 g7 (v := .d (.tuple [.bool true, ka, va])) (repV_mkTuple (xs := [.d (.bool true), .d ka, .d va]) (.cons (.d _ _ (.bool true)) (.cons (.d _ _ g3) (.cons (.d _ _ g4) .nil)))))
      obtain ⟨k', μ', hb', hr⟩ := hx
      rw [q1] at hr
      exact h1 j g ka va g1 g2 _ _ _ _ _ hr
  · cases q4

/-- a function, on data, by a walk through its code; what it hands back is frozen at the end -/
theorem pure_of_wpV {f : Nat} {fn : Func} {c : Code} (hf : P.funcs[f]? = some fn) (hb : fn.body = some c) {ds : List D} {d : D} (hn : ds.length ≤ fn.ntmps) {as : List ARes} (has : chkAll (chkRes P) fn.results.toList as = true)
    (hw : ∀ (G : Start) (w : World) (k : K) (μ : Nat → Loc) (a : Act) (Q : Exit → Act → World → Prop), Rel G fn.ntmps w k μ (fun _ => 0) (lk (args0 0 (ds.map .d))) Avm.H.empty a →
      (∀ (e : Exit) (w' : World) (k' : K) (μ' : Nat → Loc) (hb' : Nat → Nat) (a' : Act) (s' : St) (v : V) (h' : H), (e = .normal ∨ e = .ret) → Rel G fn.ntmps w' k' μ' hb' (lk s'.env) s'.heap a' → result s' as = some v → frz 100000 s'.heap v = some (d, h') → Q e a' w') → c.wp P Q a w) : PureOk P f ds d := by
  intro w k args ha hr
  have hi : Inv w.heap.size w k (fun _ => ⟨0, 0, 0⟩) H.empty := Inv.empty ha (Nat.le_refl _)
  have hargs : RepVs k (fun _ => ⟨0, 0, 0⟩) H.empty.has args.toList (ds.map .d) := repVs_d.2 hr
  have hlen : args.size ≤ fn.ntmps := by
    have h1 := hargs.1
    simp only [List.length_map, Array.length_toList] at h1; omega
  refine calls_of_wp hf hb ?_
  have hnh : ∀ t m, lk (args0 0 (ds.map V.d)) t ≠ some (.hole m) := by
    intro t m e
    obtain ⟨j, _, h2⟩ := lk_args0 (ds.map V.d) 0 t _ e
    obtain ⟨u, _, h4⟩ := hargs.get h2
    cases h4
  have rel : Rel ⟨w.heap.size, w, k, (fun _ => ⟨0, 0, 0⟩), H.empty⟩ fn.ntmps w k (fun _ => ⟨0, 0, 0⟩) (fun _ => 0) (lk (args0 0 (ds.map .d))) H.empty { tmps := args ++ Array.replicate (fn.ntmps - args.size) undef, defers := [] } := by
    refine ⟨hi, ?_, by simp; omega, rfl, fun t m e => absurd e (hnh t m), fun t t' m m' _ e => absurd e (hnh t m), Ext.refl ..⟩
    intro t x hx _
    obtain ⟨j, h1, h2⟩ := lk_args0 (ds.map V.d) 0 t x hx
    obtain ⟨u, h3, h4⟩ := hargs.get h2
    have : t = j := by omega
    subst this
    have hlt : t < args.size := by
      rcases Nat.lt_or_ge t args.size with h | h
      · exact h
      · rw [List.getElem?_eq_none (by simpa using h)] at h3; cases h3
    have : ((args ++ Array.replicate (fn.ntmps - args.size) undef).getD t undef) = u := by
      rw [Array.getD_eq_getD_getElem?, Array.getElem?_append_left hlt]
      have : args[t]? = some u := by simpa using h3
      rw [this]; rfl
    rw [this]; exact h4
  refine hw _ _ _ _ _ _ rel ?_
  intro e w' k' μ' hb' a' s' v h'' he r' hv hz
  obtain ⟨u, g1, g2⟩ := result_ok r' has hv
  obtain ⟨k2, fz, hd⟩ := (frz_ok (B := w.heap.size) (w := w') (μ := μ') 100000).1 r'.inv g2 hz
  have fin : a'.defers = [] ∧ ∃ v, (results fn a'.tmps).run P w' = .ok v w' ∧ ∃ u k', Ending.returned v = .returned u ∧ w.heap.size ≤ w'.heap.size ∧ (∀ b, b < w.heap.size → w'.heap[b]? = w.heap[b]?) ∧ w'.os = w.os ∧ w'.tape = w.tape ∧ w'.output = w.output ∧ Agree k' w' ∧ k.le k' ∧
      (∀ b o u, k'.F b o = some u → k.F b o = some u ∨ w.heap.size ≤ b) ∧ (∀ b es, k'.M b = some es → k.M b = some es ∨ w.heap.size ≤ b) ∧ Rep k' u d := by
    have hx := r'.ext
    refine ⟨r'.defers, u, g1, u, k2, rfl, hx.size, fun b hb => hx.frame b hb (fun i hl => by rw [H.get_empty] at hl; simp [live] at hl), hx.os, hx.tape, hx.output, fz.inv.agree, K.le_trans hx.kle fz.kle, ?_, ?_, hd⟩
    · intro b o u' hu
      rcases fz.fnew _ _ _ hu with h1 | ⟨i, hi', hb⟩
      · rcases hx.fnew _ _ _ h1 with h2 | ⟨i, hl, _⟩ | h2
        · exact .inl h2
        · rw [H.get_empty] at hl; simp [live] at hl
        · exact .inr h2
      · exact .inr (by rw [← hb]; exact r'.inv.low i hi')
    · intro b es hu
      rcases fz.mnew _ _ hu with h1 | ⟨i, hi', hb⟩
      · rcases hx.mnew _ _ h1 with h2 | ⟨i, hl, _⟩ | h2
        · exact .inl h2
        · rw [H.get_empty] at hl; simp [live] at hl
        · exact .inr h2
      · exact .inr (by rw [← hb]; exact r'.inv.low i hi')
  rcases he with rfl | rfl <;> exact fin
end
end Go.Avm


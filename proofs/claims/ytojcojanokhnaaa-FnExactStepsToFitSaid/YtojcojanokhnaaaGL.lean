/- Texts SxA, SxB, SxC, SxD in one. -/
import Derived.Test.YtojcojanokhnaaaGK
set_option linter.unusedVariables false
set_option linter.unusedSimpArgs false
set_option maxRecDepth 20000
set_option maxHeartbeats 8000000
/- SxA -/
namespace Go.Proofs.Ytojcojanokhnaaa.Ab
open Go.RowKit

theorem VwS.app {H : List Reg} : ∀ (cs : List V) {ds es : List V}, VwS H ds es → VwS H (cs ++ ds) (cs ++ es)
  | [], _, _, h => h
  | c :: cs, _, _, h => .cons (.same c) (VwS.app cs h)
abbrev rnR (rs : List Rn) : Reg := regOf rnT 84 rs
/-- A run of the walk's own, behind runs that are only read. -/
theorem ap_mix {o : Oper} {ρ : Operand → V} {H : List Reg} {h hz zi n : Nat} {s x : Operand} {outs : List Rn} (ho : o.op = .call { callee := .builtin .append, args := #[s, x], argTypes := #[25, 25] })
    (hs : ρ s = .sl h 0 outs.length) (hH0 : H[h]? = some (rnR outs)) (hx : ρ x = .sl hz 0 1) (hzz : H[hz]? = some ⟨84, 1, [.sl zi 0 n], 0⟩) (hl : outs.length ≤ 10000000) :
    Step Go.Proofs.Try.prog o ρ H (.sl H.length 0 (outs.length + 1)) (H.set h ⟨84, 1, rnT.flat outs, 2⟩ ++ [⟨84, 1, rnT.flat outs ++ [.sl zi 0 n], 0⟩]) := by
  have hsrc : Src H (ρ x) 1 [.sl zi 0 n] := by
    rw [hx]
    have := Src.sl (H := H) (off := 0) (m := 1) (r := ⟨84, 1, [.sl zi 0 n], 0⟩) hzz (Nat.zero_le _) (Nat.le_refl _)
    exact this
  have hH : H[h]? = some ⟨84, 1, rnT.flat outs, 0⟩ := hH0
  have fl : (rnT.flat outs).length = outs.length := by rw [flat_length]; show outs.length * 1 = _; omega
  have := step_append (P := Go.Proofs.Try.prog) (ρ := ρ) (ty := 25) (m := 1) ho hs hH rfl rfl rfl (by show outs.length * 1 ≤ (rnT.flat outs).length; omega) hsrc rfl (fun c hc => by simp at hc; subst hc; rfl) (by omega) (by simp only [maxLen]; omega)
  have e1 : (⟨84, 1, rnT.flat outs, 0⟩ : Reg).cells.take (outs.length * 1) = rnT.flat outs := by
    show (rnT.flat outs).take _ = _
    rw [List.take_of_length_le]; omega
  rw [e1] at this
  exact this
theorem les_app {ψ : List Nat} : ∀ {cs ds es fs : List V}, Les ψ cs ds → Les ψ es fs → Les ψ (cs ++ es) (ds ++ fs)
  | [], ds, es, fs, h, k => by
    have := les_length h
    rw [List.eq_nil_of_length_eq_zero (show ds.length = 0 from this)]
    exact k
  | c :: cs, ds, es, fs, h, k => by
    rw [Les] at h
    obtain ⟨d, ds', rfl, h1, h2⟩ := h
    exact les_cons h1 (les_app h2 k)
theorem flat_push (outs : List Rn) (run : Rn) : rnT.flat (outs ++ [run]) = rnT.flat outs ++ [rwL run] := by rw [flat_append]; rfl
theorem sub_run1 {l : List V} {outs : List Rn} {run : Rn} (hl : Les [0] l l) :
    Sub ⟨l, [rnR (outs ++ [run])], 0⟩ ⟨l, [⟨84, 1, rnT.flat outs ++ [.sl 1 0 run.length], 0⟩, rwR run], 0⟩ := by
  refine Sub.trans ?_ (sub_freezeM (h := 1) (r := rwR run) rfl rfl (Nat.zero_le _) (fun i hi => absurd hi (Nat.not_lt_zero _)))
  refine Sub.trans ?_ (sub_view (l' := l) (K := [rnR (outs ++ [run]), { rwR run with mode := 1 }]) (.rest _) (.cons ?_ (.rest _)))
  · exact sub0 [0] rfl rfl (by decide) (.cons rfl rfl rfl rfl (les_refl (flat_noH _ _)) .nil) hl
  · rw [flat_push]
    exact VwS.app _ (.cons (.pur (.sl (r := { rwR run with mode := 1 }) rfl (Or.inl rfl) (flat_noH _ _) (show 0 < 3 by omega) (by show (0 + run.length) * 3 ≤ (rwT.flat run).length; rw [flat_length]; show _ ≤ run.length * 3; omega) (by show rwT.flat run = ((rwT.flat run).drop (0 * 3)).take (run.length * 3); rw [Nat.zero_mul, List.drop_zero, List.take_of_length_le (by rw [flat_length]; exact Nat.le_refl _)]))) (.rest _))
theorem purs_app {live : Bool} {H : List Reg} : ∀ {cs ds es fs : List V}, Purs live H cs ds → Purs live H es fs → Purs live H (cs ++ es) (ds ++ fs)
  | _, _, _, _, .nil, k => k
  | _, _, _, _, .cons h hs, k => .cons h (purs_app hs k)
theorem purs_same {live : Bool} {H : List Reg} : ∀ {cs : List V}, NoH cs → Purs live H cs cs
  | [], _ => .nil
  | c :: cs, h => .cons (.same (h c (List.mem_cons_self ..))) (purs_same fun d hd => h d (List.mem_cons_of_mem _ hd))
theorem pur_mix {H : List Reg} {h zi ty : Nat} {outs : List Rn} {run : Rn} (hH : H[h]? = some ⟨ty, 1, rnT.flat outs ++ [.sl zi 0 run.length], 0⟩) (hz : H[zi]? = some (rwR run)) : Pur true H (.sl h 0 (outs.length + 1)) (rnL (outs ++ [run])) := by
  have fl : (rnT.flat outs).length = outs.length := by rw [flat_length]; show outs.length * 1 = _; omega
  have e : (outs ++ [run]).length = outs.length + 1 := by simp
  rw [← e]
  refine .slN hH (Or.inr ⟨rfl, rfl⟩) (Nat.lt_succ_self 0) (by simp only [List.length_append, fl, List.length_singleton]; omega) ?_
  have q : (List.take ((outs ++ [run]).length * 1) (List.drop (0 * 1) (rnT.flat outs ++ [.sl zi 0 run.length]))) = rnT.flat outs ++ [.sl zi 0 run.length] := by
    rw [Nat.zero_mul, List.drop_zero, List.take_of_length_le (by simp only [List.length_append, fl, List.length_singleton]; omega)]
  show Purs true H (List.take ((outs ++ [run]).length * 1) (List.drop (0 * 1) (rnT.flat outs ++ [.sl zi 0 run.length]))) (rnT.flat (outs ++ [run]))
  rw [q, flat_push]
  exact purs_app (purs_same (flat_noH _ _)) (.cons (pur_row hz) .nil)

theorem c_l13Runs (rs : List Rn) (hok : okRn rs) (hl : rs.length ≤ 10000000) : Meets Go.Proofs.Try.prog 118 [rnL rs] [] (.sl 0 0 rs.length) [rnR rs] true := by
  refine meets_of [2] Go.Proofs.Try.func118 rfl rfl ?_
  simp only [Go.Proofs.Try.ntmps118, List.length_cons, List.length_nil, Nat.reduceAdd, Nat.reduceSub, List.replicate_succ, List.replicate_zero, List.cons_append, List.nil_append]
  repeat' first | refine aw_seq ?_ | refine aw_region ?_ | refine aw_lex [] ?_ | (refine isA ?_; refine do_F rfl ?_) | (refine isL ?_; refine lex_F rfl (by kernel_rfl) rfl rfl ?_) | (refine isLg rfl ?_; refine lex_S rfl (by kernel_rfl) rfl rfl ?_) | refine aops_nil ?_ | refine lex_done _ rfl (by kernel_rfl) ?_ | refine aw_ct rfl ?_ | refine aw_cf rfl ?_ | refine aw_block ?_ | with_reducible refine then_n ?_ | refine aw_skip ?_ | refine aw_exit ?_ | (with_reducible first | refine then_x ?_ | refine then_r ?_ | refine block_x ?_ | refine block_n ?_ | refine block_r ?_) | refine aw_ret ?_
  refine aw_loop (α := { i : Nat // i ≤ rs.length }) (fun i => ⟨[rnL rs, .any, .any, .sl 0 0 (rs.take i.1).length, I i.1, .any, .any, .any, .any, .any, .any, .any, .any, .any, .any, .any, .any, .any, .any, .any, .any, .any, .any, .any], [rnR (rs.take i.1)], 0⟩) (fun i => rs.length - i.1) ⟨0, Nat.zero_le _⟩ ?_ ?_
  · exact sub0 [0] rfl rfl (by decide) (by repeat' first | exact HLes.nil | refine HLes.cons rfl rfl rfl rfl ?_ ?_ | exact les_nil | refine les_cons ?_ ?_ | exact le_any | exact le_refl rfl | exact le_sl rfl rfl | exact le_ptr rfl) (by repeat' first | exact les_nil | refine les_cons ?_ ?_ | exact le_any | exact le_refl rfl | exact le_sl rfl rfl | exact le_ptr rfl)
  · rintro ⟨i, hi⟩
    repeat' first | refine aw_seq ?_ | refine aw_region ?_ | refine aw_lex [] ?_ | (refine isA ?_; refine do_F rfl ?_) | (refine isL ?_; refine lex_F rfl (by kernel_rfl) rfl rfl ?_) | (refine isLg rfl ?_; refine lex_S rfl (by kernel_rfl) rfl rfl ?_) | refine aops_nil ?_ | refine lex_done _ rfl (by kernel_rfl) ?_ | refine aw_ct rfl ?_ | refine aw_cf rfl ?_ | refine aw_block ?_ | with_reducible refine then_n ?_ | refine aw_skip ?_ | refine aw_exit ?_ | (with_reducible first | refine then_x ?_ | refine then_r ?_ | refine block_x ?_ | refine block_n ?_ | refine block_r ?_) | refine aw_ret ?_
    refine aw_cond rfl (fun h => ?_) (fun h => ?_)
    · have hlt : i < rs.length := by simpa using h
      obtain ⟨x, hx⟩ : ∃ x, rs[i]? = some x := ⟨_, List.getElem?_eq_getElem hlt⟩
      have hxl := hok.at hx
      repeat' first | refine aw_seq ?_ | refine aw_region ?_ | refine aw_lex [] ?_ | (refine isA ?_; refine do_F rfl ?_) | (refine isL ?_; refine lex_F rfl (by kernel_rfl) rfl rfl ?_) | (refine isLg rfl ?_; refine lex_S rfl (by kernel_rfl) rfl rfl ?_) | (refine isAi (x := .tmp 14) ?_; refine do_R rfl (ia_l (t := rnT) (z := x) rfl rfl rfl rfl (Int.natCast_nonneg i) hx) rfl ?_) | (refine isLi (x := .tmp 14) rfl ?_; refine lex_R rfl (by kernel_rfl) rfl (ia_l (t := rnT) (z := x) rfl rfl rfl rfl (Int.natCast_nonneg i) hx) rfl ?_) | (refine isAp ?_; refine do_R rfl (ap_l (t := rwT) (xs := []) (ys := x) rfl rfl rfl rfl (.lst _ _) (by simp; omega) rfl) rfl ?_) | (refine isLp rfl ?_; refine lex_R rfl (by kernel_rfl) rfl (ap_l (t := rwT) (xs := []) (ys := x) rfl rfl rfl rfl (.lst _ _) (by simp; omega) rfl) rfl ?_) | (refine isAp ?_; refine do_R rfl (ap_mix (outs := rs.take i) (hz := 3) (zi := 2) (n := x.length) rfl rfl rfl rfl rfl (by simp; omega)) rfl ?_) | (refine isLp rfl ?_; refine lex_R rfl (by kernel_rfl) rfl (ap_mix (outs := rs.take i) (hz := 3) (zi := 2) (n := x.length) rfl rfl rfl rfl rfl (by simp; omega)) rfl ?_) | refine aops_nil ?_ | refine lex_done _ rfl (by kernel_rfl) ?_ | refine aw_ct rfl ?_ | refine aw_cf rfl ?_ | refine aw_block ?_ | with_reducible refine then_n ?_ | refine aw_skip ?_ | refine aw_exit ?_ | (with_reducible first | refine then_x ?_ | refine then_r ?_ | refine block_x ?_ | refine block_n ?_ | refine block_r ?_) | refine aw_ret ?_
      refine ⟨⟨i + 1, hlt⟩, by simp only; omega, ?_⟩
      simp only
      rw [take_snoc hx]
      refine Sub.trans (sub_run1 (outs := rs.take i) (run := x) (by repeat' first | exact les_nil | refine les_cons ?_ ?_ | exact le_any | exact le_refl rfl | exact le_sl rfl rfl | exact le_ptr rfl)) ?_
      exact sub0 [4, 2] rfl rfl (by decide) (.cons rfl rfl rfl rfl (les_app (les_refl (flat_noH _ _)) (les_cons (le_sl rfl rfl) les_nil)) (.cons rfl rfl rfl rfl (les_refl (flat_noH _ _)) .nil)) (by
        repeat' first | exact les_nil | refine les_cons ?_ ?_ | exact le_any | exact le_refl rfl | exact le_sl rfl rfl | exact le_sl rfl (by simp) | exact le_i (by assumption) (by omega))
    · have hge : i = rs.length := by
        have : ¬ ((i : Int) < rs.length) := by simpa using h
        omega
      subst hge
      have e : rs.take rs.length = rs := List.take_length
      repeat' first | refine aw_seq ?_ | refine aw_region ?_ | refine aw_lex [] ?_ | (refine isA ?_; refine do_F rfl ?_) | (refine isL ?_; refine lex_F rfl (by kernel_rfl) rfl rfl ?_) | (refine isLg rfl ?_; refine lex_S rfl (by kernel_rfl) rfl rfl ?_) | refine aops_nil ?_ | refine lex_done _ rfl (by kernel_rfl) ?_ | refine aw_ct rfl ?_ | refine aw_cf rfl ?_ | refine aw_block ?_ | with_reducible refine then_n ?_ | refine aw_skip ?_ | refine aw_exit ?_ | (with_reducible first | refine then_x ?_ | refine then_r ?_ | refine block_x ?_ | refine block_n ?_ | refine block_r ?_) | refine aw_ret ?_
      exact finM 0 [0] (fun i hi => absurd hi (Nat.not_lt_zero _)) (by decide) rfl (le_sl rfl (congrArg List.length e)) (.cons rfl rfl rfl rfl (by show Les _ (rnT.flat rs) (rnT.flat (rs.take rs.length)); rw [e]; exact les_refl (flat_noH _ _)) .nil)
/-- A sorter's cells, its lists rows of the walk's own, the runs only read. -/
abbrev soP (b : Nat) (s : So) : List V := [.sl b 0 s.input.length, I s.pos, .sl (b + 1) 0 s.heap.length, .sl (b + 2) 0 s.dfr.length, .sl (b + 3) 0 s.out.length, .sl (b + 4) 0 s.runs.length, I s.lp, I s.rp, I s.ph, I s.wr]
abbrev soW (s : So) : List Reg := [rwR s.input, rwR s.heap, rwR s.dfr, rwR s.out, rnR s.runs]
theorem c_l13Copy (s : So) (hok : okSo s) : Meets Go.Proofs.Try.prog 65 [.agg (soE s)] [] (.agg (soP 0 s)) (soW s) true := by
  have g1 := hok.input
  have g2 := hok.heap
  have g3 := hok.dfr
  have g4 := hok.out
  have g5 := hok.runs
  have a1 := c_l13Runs s.runs hok.rn (by omega)
  refine meets_ofC 2 27 Go.Proofs.Try.func65 rfl rfl ?_
  simp only [Go.Proofs.Try.ntmps65, List.length_cons, List.length_nil, Nat.reduceAdd, Nat.reduceSub, List.replicate_succ, List.replicate_zero, List.cons_append, List.nil_append]
  repeat' first | refine aw_seq ?_ | refine aw_region ?_ | refine aw_lex [] ?_ | (refine isA ?_; refine do_F rfl ?_) | (refine isL ?_; refine lex_F rfl (by kernel_rfl) rfl rfl ?_) | (refine isLg rfl ?_; refine lex_S rfl (by kernel_rfl) rfl rfl ?_) | (refine isAp ?_; refine do_R rfl (ap_l (t := rwT) (xs := []) (ys := s.input) rfl rfl rfl rfl (.lst _ _) (by simp; omega) rfl) rfl ?_) | (refine isLp rfl ?_; refine lex_R rfl (by kernel_rfl) rfl (ap_l (t := rwT) (xs := []) (ys := s.input) rfl rfl rfl rfl (.lst _ _) (by simp; omega) rfl) rfl ?_) | (refine isAp ?_; refine do_R rfl (ap_l (t := rwT) (xs := []) (ys := s.heap) rfl rfl rfl rfl (.lst _ _) (by simp; omega) rfl) rfl ?_) | (refine isLp rfl ?_; refine lex_R rfl (by kernel_rfl) rfl (ap_l (t := rwT) (xs := []) (ys := s.heap) rfl rfl rfl rfl (.lst _ _) (by simp; omega) rfl) rfl ?_) | (refine isAp ?_; refine do_R rfl (ap_l (t := rwT) (xs := []) (ys := s.dfr) rfl rfl rfl rfl (.lst _ _) (by simp; omega) rfl) rfl ?_) | (refine isLp rfl ?_; refine lex_R rfl (by kernel_rfl) rfl (ap_l (t := rwT) (xs := []) (ys := s.dfr) rfl rfl rfl rfl (.lst _ _) (by simp; omega) rfl) rfl ?_) | (refine isAp ?_; refine do_R rfl (ap_l (t := rwT) (xs := []) (ys := s.out) rfl rfl rfl rfl (.lst _ _) (by simp; omega) rfl) rfl ?_) | (refine isLp rfl ?_; refine lex_R rfl (by kernel_rfl) rfl (ap_l (t := rwT) (xs := []) (ys := s.out) rfl rfl rfl rfl (.lst _ _) (by simp; omega) rfl) rfl ?_) | (refine isAc 118 ?_; refine do_R rfl (st_callK rfl a1 (.cons (.same rfl) .nil) (fun q hq => by simp at hq; subst hq; exact flat_noH _ _) rfl rfl) rfl ?_) | (refine isLc 118 rfl ?_; refine lex_R rfl (by kernel_rfl) rfl (st_callK rfl a1 (.cons (.same rfl) .nil) (fun q hq => by simp at hq; subst hq; exact flat_noH _ _) rfl rfl) rfl ?_) | refine aops_nil ?_ | refine lex_done _ rfl (by kernel_rfl) ?_ | refine aw_ct rfl ?_ | refine aw_cf rfl ?_ | refine aw_block ?_ | with_reducible refine then_n ?_ | refine aw_skip ?_ | refine aw_exit ?_ | (with_reducible first | refine then_x ?_ | refine then_r ?_ | refine block_x ?_ | refine block_n ?_ | refine block_r ?_) | refine aw_ret ?_
  exact finMC [4, 6, 8, 10, 11] (by decide) (cell_is rfl rfl rfl rfl rfl) (le_agg (by repeat' first | exact les_nil | refine les_cons ?_ ?_ | exact le_any | exact le_refl rfl | exact le_sl rfl rfl | exact le_ptr rfl | exact le_ptr (congrArg some (by simp [nR_length] <;> omega)) | exact le_sl rfl (by simp) | exact le_sl (congrArg some (by simp [nR_length] <;> omega)) rfl | exact le_sl (congrArg some (by simp [nR_length] <;> omega)) (by simp [swapV, endV, nextV]) | exact le_k (congrArg _ (by assumption)) | exact le_k (congrArg _ (Eq.symm (by assumption))))) (.cons rfl rfl rfl rfl (les_refl (flat_noH _ _)) (.cons rfl rfl rfl rfl (les_refl (flat_noH _ _)) (.cons rfl rfl rfl rfl (les_refl (flat_noH _ _)) (.cons rfl rfl rfl rfl (les_refl (flat_noH _ _)) (.cons rfl rfl rfl rfl (les_refl (flat_noH _ _)) .nil)))))
end Go.Proofs.Ytojcojanokhnaaa.Ab

/- SxB -/
namespace Go.Proofs.Ytojcojanokhnaaa.Ab
open Go.RowKit

theorem pur_i {live : Bool} {H : List Reg} {a b : Int} (h : a = b) : Pur live H (I a) (I b) := by subst h; exact .same rfl
theorem s_put (s : So) (g : Int) (r : Rw) (hok : okSo s) (hv : vS s = true) (h1 : inV g 8 60 = true) (hb : VBa s) (hm : memV s ≤ 60) (hp : s.ph = 1) (hr : s.input[s.pos.toNat]? = some r) (hf : memV s + costV r ≤ g) : Meets Go.Proofs.Try.prog 14 [.agg (soE s), I g] [] (.tup [.agg (soE (putV s r)), rwL [], B true]) [] true := by
  obtain ⟨p, hpp, hple⟩ := hb.pos
  have e1 : s.pos.toNat = p := by omega
  rw [e1] at hr
  have hlt := (List.getElem?_eq_some_iff.1 hr).1
  have g1 := hok.heap
  have g2 := hok.dfr
  have g3 := hok.input
  have g4 := hok.out
  have ac := c_l13Copy s hok
  have am := c_smem s hok
  have a1 := c_svS s hok
  rw [hv] at a1
  have a2 := c_in g 8 60
  rw [h1] at a2
  have ew : IntKind.i64.wrap (s.pos + 1) = s.pos + 1 := by rw [IntKind.wrap_i64]; omega
  refine meets_ofCT 4 27 [5, 6] Go.Proofs.Try.func14 rfl rfl rfl ?_
  simp only [Go.Proofs.Try.ntmps14, List.length_cons, List.length_nil, Nat.reduceAdd, Nat.reduceSub, List.replicate_succ, List.replicate_zero, List.cons_append, List.nil_append]
  repeat' first | (refine aw_cond rfl (fun h => absurd (of_decide_eq_true h) (by omega)) (fun _ => ?_)) | (refine aw_cond rfl (fun _ => ?_) (fun h => absurd hp (of_decide_eq_false h))) | refine aw_seq ?_ | refine aw_region ?_ | refine aw_lex [] ?_ | (refine isA ?_; refine do_F rfl ?_) | (refine isL ?_; refine lex_F rfl (by kernel_rfl) rfl rfl ?_) | (refine isLg rfl ?_; refine lex_S rfl (by kernel_rfl) rfl rfl ?_) | (refine isAc 65 ?_; refine do_R rfl (st_callKN (r' := .agg (soP 2 s)) (H' := bxS (soE s) :: bxS zS :: soW s) rfl ac (.cons (.same rfl) .nil) rfl (by simp only [List.map_cons, List.map_nil, shR, shVs_noH _ (noHs_of (flat_noH _ _))]; rfl)) rfl ?_) | (refine isLc 65 rfl ?_; refine lex_R rfl (by kernel_rfl) rfl (st_callKN (r' := .agg (soP 2 s)) (H' := bxS (soE s) :: bxS zS :: soW s) rfl ac (.cons (.same rfl) .nil) rfl (by simp only [List.map_cons, List.map_nil, shR, shVs_noH _ (noHs_of (flat_noH _ _))]; rfl)) rfl ?_) | (refine isAc 18 ?_; refine do_R rfl (st_call rfl a1 (.cons (.same rfl) .nil) rfl) rfl ?_) | (refine isLc 18 rfl ?_; refine lex_R rfl (by kernel_rfl) rfl (st_call rfl a1 (.cons (.same rfl) .nil) rfl) rfl ?_) | (refine isAc 66 ?_; refine do_R rfl (st_call rfl a2 (.cons (.same rfl) (.cons (.same rfl) (.cons (.same rfl) .nil))) rfl) rfl ?_) | (refine isLc 66 rfl ?_; refine lex_R rfl (by kernel_rfl) rfl (st_call rfl a2 (.cons (.same rfl) (.cons (.same rfl) (.cons (.same rfl) .nil))) rfl) rfl ?_) | refine aops_nil ?_ | refine lex_done _ rfl (by kernel_rfl) ?_ | refine aw_ct rfl ?_ | refine aw_cf rfl ?_ | refine aw_block ?_ | with_reducible refine then_n ?_ | refine aw_skip ?_ | refine aw_exit ?_ | (with_reducible first | refine then_x ?_ | refine then_r ?_ | refine block_x ?_ | refine block_n ?_ | refine block_r ?_) | refine aw_ret ?_
  refine lex_br rfl rfl rfl rfl (fun _ => ?_) (fun h => absurd (of_decide_eq_false h) (by omega))
  repeat' first | refine aw_seq ?_ | refine aw_region ?_ | refine aw_lex [] ?_ | (refine isA ?_; refine do_F rfl ?_) | (refine isL ?_; refine lex_F rfl (by kernel_rfl) rfl rfl ?_) | (refine isLg rfl ?_; refine lex_S rfl (by kernel_rfl) rfl rfl ?_) | (refine isAc 20 ?_; refine do_R rfl (st_call rfl am (.cons (.same rfl) .nil) rfl) rfl ?_) | (refine isLc 20 rfl ?_; refine lex_R rfl (by kernel_rfl) rfl (st_call rfl am (.cons (.same rfl) .nil) rfl) rfl ?_) | (refine isAi (x := .tmp 42) ?_; refine do_R rfl (ia_l (t := rwT) (z := r) rfl rfl rfl rfl (by omega) (by rw [e1]; exact hr)) rfl ?_) | (refine isLi (x := .tmp 42) rfl ?_; refine lex_R rfl (by kernel_rfl) rfl (ia_l (t := rwT) (z := r) rfl rfl rfl rfl (by omega) (by rw [e1]; exact hr)) rfl ?_) | (refine isAc 67 ?_; refine do_R rfl (st_call rfl (c_src r) (.cons (.same rfl) .nil) rfl) rfl ?_) | (refine isLc 67 rfl ?_; refine lex_R rfl (by kernel_rfl) rfl (st_call rfl (c_src r) (.cons (.same rfl) .nil) rfl) rfl ?_) | refine aops_nil ?_ | refine lex_done _ rfl (by kernel_rfl) ?_ | refine aw_ct rfl ?_ | refine aw_cf rfl ?_ | refine aw_block ?_ | with_reducible refine then_n ?_ | refine aw_skip ?_ | refine aw_exit ?_ | (with_reducible first | refine then_x ?_ | refine then_r ?_ | refine block_x ?_ | refine block_n ?_ | refine block_r ?_) | refine aw_ret ?_
  refine aw_cond rfl (fun _ => ?_) (fun h => absurd (of_decide_eq_false h) (by rw [memsum hm]; omega))
  repeat' first | refine aw_seq ?_ | refine aw_region ?_ | refine aw_lex [] ?_ | (refine isA ?_; refine do_F rfl ?_) | (refine isL ?_; refine lex_F rfl (by kernel_rfl) rfl rfl ?_) | (refine isLg rfl ?_; refine lex_S rfl (by kernel_rfl) rfl rfl ?_) | (refine isAi (x := .tmp 53) ?_; refine do_R rfl (ia_l (t := rwT) (z := r) rfl rfl rfl rfl (by omega) (by rw [e1]; exact hr)) rfl ?_) | (refine isLi (x := .tmp 53) rfl ?_; refine lex_R rfl (by kernel_rfl) rfl (ia_l (t := rwT) (z := r) rfl rfl rfl rfl (by omega) (by rw [e1]; exact hr)) rfl ?_) | (refine isAs (x := .tmp 8) ?_; refine do_R rfl (st_box rfl rfl rfl rfl rfl (rwE_one r) rfl rfl) rfl ?_) | (refine isLs (x := .tmp 8) rfl ?_; refine lex_R rfl (by kernel_rfl) rfl (st_box rfl rfl rfl rfl rfl (rwE_one r) rfl rfl) rfl ?_) | refine aops_nil ?_ | refine lex_done _ rfl (by kernel_rfl) ?_ | refine aw_ct rfl ?_ | refine aw_cf rfl ?_ | refine aw_block ?_ | with_reducible refine then_n ?_ | refine aw_skip ?_ | refine aw_exit ?_ | (with_reducible first | refine then_x ?_ | refine then_r ?_ | refine block_x ?_ | refine block_n ?_ | refine block_r ?_) | refine aw_ret ?_
  refine lex_br rfl rfl rfl rfl (fun h => ?_) (fun h => ?_)
  · have h0 : 0 < s.out.length := by have := of_decide_eq_true h; omega
    obtain ⟨y, hy⟩ : ∃ z, s.out[s.out.length - 1]? = some z := ⟨_, List.getElem?_eq_getElem (by omega)⟩
    have ew2 : IntKind.i64.wrap ((s.out.length : Int) - 1) = ((s.out.length - 1 : Nat) : Int) := by rw [IntKind.wrap_i64]; omega
    have hbe : bel r s.out = decide (cmpV r y < 0) := by unfold bel; rw [hy]; rfl
    repeat' first | refine aw_seq ?_ | refine aw_region ?_ | refine aw_lex [] ?_ | (refine isA ?_; refine do_F rfl ?_) | (refine isL ?_; refine lex_F rfl (by kernel_rfl) rfl rfl ?_) | (refine isLg rfl ?_; refine lex_S rfl (by kernel_rfl) rfl rfl ?_) | (refine isAi (x := .tmp 69) ?_; refine do_R rfl (ia_l (t := rwT) (j := ((s.out.length - 1 : Nat) : Int)) (z := y) rfl rfl rfl (congrArg I ew2) (Int.natCast_nonneg _) hy) rfl ?_) | (refine isLi (x := .tmp 69) rfl ?_; refine lex_R rfl (by kernel_rfl) rfl (ia_l (t := rwT) (j := ((s.out.length - 1 : Nat) : Int)) (z := y) rfl rfl rfl (congrArg I ew2) (Int.natCast_nonneg _) hy) rfl ?_) | (refine isAc 68 ?_; refine do_R rfl (st_call rfl (c_scmp r y) (.cons (.same rfl) (.cons (.same rfl) .nil)) rfl) rfl ?_) | (refine isLc 68 rfl ?_; refine lex_R rfl (by kernel_rfl) rfl (st_call rfl (c_scmp r y) (.cons (.same rfl) (.cons (.same rfl) .nil)) rfl) rfl ?_) | refine aops_nil ?_ | refine lex_done _ rfl (by kernel_rfl) ?_ | refine aw_ct rfl ?_ | refine aw_cf rfl ?_ | refine aw_block ?_ | with_reducible refine then_n ?_ | refine aw_skip ?_ | refine aw_exit ?_ | (with_reducible first | refine then_x ?_ | refine then_r ?_ | refine block_x ?_ | refine block_n ?_ | refine block_r ?_) | refine aw_ret ?_
    refine aw_cond rfl (fun p2 => ?_) (fun p2 => ?_)
    · have e : putV s r = { s with dfr := s.dfr ++ [r], pos := s.pos + 1 } := by unfold putV; rw [hbe, p2]; rfl
      rw [e]
      repeat' first | (refine isA ?_; refine do_R rfl (lit_of rfl rfl rfl rfl rfl) rfl ?_) | refine aw_seq ?_ | refine aw_region ?_ | refine aw_lex [] ?_ | (refine isA ?_; refine do_F rfl ?_) | (refine isL ?_; refine lex_F rfl (by kernel_rfl) rfl rfl ?_) | (refine isLg rfl ?_; refine lex_S rfl (by kernel_rfl) rfl rfl ?_) | (refine isAp ?_; refine do_R rfl (ap_l (t := rwT) (xs := s.dfr) (ys := [r]) rfl rfl rfl rfl (.lst _ _) (by simp; omega) rfl) rfl ?_) | (refine isLp rfl ?_; refine lex_R rfl (by kernel_rfl) rfl (ap_l (t := rwT) (xs := s.dfr) (ys := [r]) rfl rfl rfl rfl (.lst _ _) (by simp; omega) rfl) rfl ?_) | refine aops_nil ?_ | refine lex_done _ rfl (by kernel_rfl) ?_ | refine aw_ct rfl ?_ | refine aw_cf rfl ?_ | refine aw_block ?_ | with_reducible refine then_n ?_ | refine aw_skip ?_ | refine aw_exit ?_ | (with_reducible first | refine then_x ?_ | refine then_r ?_ | refine block_x ?_ | refine block_n ?_ | refine block_r ?_) | refine aw_ret ?_
      exact finCT (cell_is rfl rfl rfl rfl rfl) (.tup (.cons (.agg (by repeat' first | exact Purs.nil | refine Purs.cons ?_ ?_ | exact pur_row rfl | exact pur_mix rfl rfl | exact Pur.nil | exact Pur.same rfl | exact pur_i (by assumption))) (.cons (.same rfl) (.cons (.same rfl) .nil))))
    · have e : putV s r = { s with heap := s.heap ++ [r], pos := s.pos + 1 } := by unfold putV; rw [hbe, p2]; rfl
      rw [e]
      repeat' first | (refine isA ?_; refine do_R rfl (lit_of rfl rfl rfl rfl rfl) rfl ?_) | refine aw_seq ?_ | refine aw_region ?_ | refine aw_lex [] ?_ | (refine isA ?_; refine do_F rfl ?_) | (refine isL ?_; refine lex_F rfl (by kernel_rfl) rfl rfl ?_) | (refine isLg rfl ?_; refine lex_S rfl (by kernel_rfl) rfl rfl ?_) | (refine isAp ?_; refine do_R rfl (ap_l (t := rwT) (xs := s.heap) (ys := [r]) rfl rfl rfl rfl (.lst _ _) (by simp; omega) rfl) rfl ?_) | (refine isLp rfl ?_; refine lex_R rfl (by kernel_rfl) rfl (ap_l (t := rwT) (xs := s.heap) (ys := [r]) rfl rfl rfl rfl (.lst _ _) (by simp; omega) rfl) rfl ?_) | refine aops_nil ?_ | refine lex_done _ rfl (by kernel_rfl) ?_ | refine aw_ct rfl ?_ | refine aw_cf rfl ?_ | refine aw_block ?_ | with_reducible refine then_n ?_ | refine aw_skip ?_ | refine aw_exit ?_ | (with_reducible first | refine then_x ?_ | refine then_r ?_ | refine block_x ?_ | refine block_n ?_ | refine block_r ?_) | refine aw_ret ?_
      exact finCT (cell_is rfl rfl rfl rfl rfl) (.tup (.cons (.agg (by repeat' first | exact Purs.nil | refine Purs.cons ?_ ?_ | exact pur_row rfl | exact pur_mix rfl rfl | exact Pur.nil | exact Pur.same rfl | exact pur_i (by assumption))) (.cons (.same rfl) (.cons (.same rfl) .nil))))
  · have hbe : bel r s.out = false := by
      rw [List.eq_nil_of_length_eq_zero (show s.out.length = 0 by have := of_decide_eq_false h; omega)]; rfl
    have e : putV s r = { s with heap := s.heap ++ [r], pos := s.pos + 1 } := by unfold putV; rw [hbe]; rfl
    rw [e]
    repeat' first | (refine isA ?_; refine do_R rfl (lit_of rfl rfl rfl rfl rfl) rfl ?_) | refine aw_seq ?_ | refine aw_region ?_ | refine aw_lex [] ?_ | (refine isA ?_; refine do_F rfl ?_) | (refine isL ?_; refine lex_F rfl (by kernel_rfl) rfl rfl ?_) | (refine isLg rfl ?_; refine lex_S rfl (by kernel_rfl) rfl rfl ?_) | (refine isAp ?_; refine do_R rfl (ap_l (t := rwT) (xs := s.heap) (ys := [r]) rfl rfl rfl rfl (.lst _ _) (by simp; omega) rfl) rfl ?_) | (refine isLp rfl ?_; refine lex_R rfl (by kernel_rfl) rfl (ap_l (t := rwT) (xs := s.heap) (ys := [r]) rfl rfl rfl rfl (.lst _ _) (by simp; omega) rfl) rfl ?_) | refine aops_nil ?_ | refine lex_done _ rfl (by kernel_rfl) ?_ | refine aw_ct rfl ?_ | refine aw_cf rfl ?_ | refine aw_block ?_ | with_reducible refine then_n ?_ | refine aw_skip ?_ | refine aw_exit ?_ | (with_reducible first | refine then_x ?_ | refine then_r ?_ | refine block_x ?_ | refine block_n ?_ | refine block_r ?_) | refine aw_ret ?_
    exact finCT (cell_is rfl rfl rfl rfl rfl) (.tup (.cons (.agg (by repeat' first | exact Purs.nil | refine Purs.cons ?_ ?_ | exact pur_row rfl | exact pur_mix rfl rfl | exact Pur.nil | exact Pur.same rfl | exact pur_i (by assumption))) (.cons (.same rfl) (.cons (.same rfl) .nil))))
end Go.Proofs.Ytojcojanokhnaaa.Ab

/- SxC -/
namespace Go.Proofs.Ytojcojanokhnaaa.Ab
open Go.RowKit

theorem fin_cA {l : List V} {H K : List Reg} {m : Nat} {t : Tmp} {n : Nat} {v r : V} (hv : CellIs l H t n v) (hr : v = r) (hK : H = K) : (Exit.ret = .ret ∨ Exit.ret = .normal) ∧ ∃ v, CellIs l H t n v ∧ Out true r K v ⟨l, H, m⟩ := by
  subst hr
  subst hK
  exact ⟨Or.inl rfl, _, hv, out_id (S := ⟨l, H, m⟩)⟩
theorem c_turn8 (a0 a1 a2 a3 a4 a5 a6 a7 : Reg) (x1 x6 x7 x8 x9 : Int) (h0 o0 n0 h2 o2 n2 h3 o3 n3 h4 o4 n4 h5 o5 n5 : Nat) :
    Meets Go.Proofs.Try.prog 70 [.agg [.sl h0 o0 n0, I x1, .sl h2 o2 n2, .sl h3 o3 n3, .sl h4 o4 n4, .sl h5 o5 n5, I x6, I x7, I x8, I x9]] [a0, a1, a2, a3, a4, a5, a6, a7] (.agg [.sl h0 o0 n0, I x1, .sl h2 o2 n2, .sl h3 o3 n3, .sl h4 o4 n4, .sl h5 o5 n5, I 0, I 0, I (cond (decide (n5 = 0)) 4 (cond (decide (n5 = 1)) 3 2)), I x9])
      [a0, a1, a2, a3, a4, a5, a6, a7, bxS [.sl h0 o0 n0, I x1, .sl h2 o2 n2, .sl h3 o3 n3, .sl h4 o4 n4, .sl h5 o5 n5, I 0, I 0, I (cond (decide (n5 = 0)) 4 (cond (decide (n5 = 1)) 3 2)), I x9], bxS [.sl h0 o0 n0, I x1, .sl h2 o2 n2, .sl h3 o3 n3, .sl h4 o4 n4, .sl h5 o5 n5, I 0, I 0, I (cond (decide (n5 = 0)) 4 (cond (decide (n5 = 1)) 3 2)), I x9]] true := by
  have e0 : decide (n5 = 0) = decide ((n5 : Int) = 0) := decide_eq_decide.2 (by omega)
  have e1 : decide (n5 = 1) = decide ((n5 : Int) = 1) := decide_eq_decide.2 (by omega)
  rw [e0, e1]
  refine meets_ofC 2 27 Go.Proofs.Try.func70 rfl rfl ?_
  simp only [Go.Proofs.Try.ntmps70, List.length_cons, List.length_nil, Nat.reduceAdd, Nat.reduceSub, List.replicate_succ, List.replicate_zero, List.cons_append, List.nil_append]
  repeat' first | refine aw_seq ?_ | refine aw_region ?_ | refine aw_lex [] ?_ | (refine isA ?_; refine do_F rfl ?_) | (refine isL ?_; refine lex_F rfl (by kernel_rfl) rfl rfl ?_) | (refine isLg rfl ?_; refine lex_S rfl (by kernel_rfl) rfl rfl ?_) | refine aops_nil ?_ | refine lex_done _ rfl (by kernel_rfl) ?_ | refine aw_ct rfl ?_ | refine aw_cf rfl ?_ | refine aw_block ?_ | with_reducible refine then_n ?_ | refine aw_skip ?_ | refine aw_exit ?_ | (with_reducible first | refine then_x ?_ | refine then_r ?_ | refine block_x ?_ | refine block_n ?_ | refine block_r ?_) | refine aw_ret ?_ | refine aw_cond rfl (fun hbr => ?_) (fun hbr => ?_)
  all_goals first
    | (exfalso; have p1 := of_decide_eq_true (by assumption : decide ((n5 : Int) = 1) = true); have p2 := of_decide_eq_true (by assumption : decide ((n5 : Int) = 0) = true); omega)
    | (refine fin_cA (cell_is rfl rfl rfl rfl rfl) ?_ ?_ <;> simp only [*, cond_true, cond_false] <;> rfl)
theorem c_turn11 (a0 a1 a2 a3 a4 a5 a6 a7 a8 a9 a10 : Reg) (x1 x6 x7 x8 x9 : Int) (h0 o0 n0 h2 o2 n2 h3 o3 n3 h4 o4 n4 h5 o5 n5 : Nat) :
    Meets Go.Proofs.Try.prog 70 [.agg [.sl h0 o0 n0, I x1, .sl h2 o2 n2, .sl h3 o3 n3, .sl h4 o4 n4, .sl h5 o5 n5, I x6, I x7, I x8, I x9]] [a0, a1, a2, a3, a4, a5, a6, a7, a8, a9, a10] (.agg [.sl h0 o0 n0, I x1, .sl h2 o2 n2, .sl h3 o3 n3, .sl h4 o4 n4, .sl h5 o5 n5, I 0, I 0, I (cond (decide (n5 = 0)) 4 (cond (decide (n5 = 1)) 3 2)), I x9])
      [a0, a1, a2, a3, a4, a5, a6, a7, a8, a9, a10, bxS [.sl h0 o0 n0, I x1, .sl h2 o2 n2, .sl h3 o3 n3, .sl h4 o4 n4, .sl h5 o5 n5, I 0, I 0, I (cond (decide (n5 = 0)) 4 (cond (decide (n5 = 1)) 3 2)), I x9], bxS [.sl h0 o0 n0, I x1, .sl h2 o2 n2, .sl h3 o3 n3, .sl h4 o4 n4, .sl h5 o5 n5, I 0, I 0, I (cond (decide (n5 = 0)) 4 (cond (decide (n5 = 1)) 3 2)), I x9]] true := by
  have e0 : decide (n5 = 0) = decide ((n5 : Int) = 0) := decide_eq_decide.2 (by omega)
  have e1 : decide (n5 = 1) = decide ((n5 : Int) = 1) := decide_eq_decide.2 (by omega)
  rw [e0, e1]
  refine meets_ofC 2 27 Go.Proofs.Try.func70 rfl rfl ?_
  simp only [Go.Proofs.Try.ntmps70, List.length_cons, List.length_nil, Nat.reduceAdd, Nat.reduceSub, List.replicate_succ, List.replicate_zero, List.cons_append, List.nil_append]
  repeat' first | refine aw_seq ?_ | refine aw_region ?_ | refine aw_lex [] ?_ | (refine isA ?_; refine do_F rfl ?_) | (refine isL ?_; refine lex_F rfl (by kernel_rfl) rfl rfl ?_) | (refine isLg rfl ?_; refine lex_S rfl (by kernel_rfl) rfl rfl ?_) | refine aops_nil ?_ | refine lex_done _ rfl (by kernel_rfl) ?_ | refine aw_ct rfl ?_ | refine aw_cf rfl ?_ | refine aw_block ?_ | with_reducible refine then_n ?_ | refine aw_skip ?_ | refine aw_exit ?_ | (with_reducible first | refine then_x ?_ | refine then_r ?_ | refine block_x ?_ | refine block_n ?_ | refine block_r ?_) | refine aw_ret ?_ | refine aw_cond rfl (fun hbr => ?_) (fun hbr => ?_)
  all_goals first
    | (exfalso; have p1 := of_decide_eq_true (by assumption : decide ((n5 : Int) = 1) = true); have p2 := of_decide_eq_true (by assumption : decide ((n5 : Int) = 0) = true); omega)
    | (refine fin_cA (cell_is rfl rfl rfl rfl rfl) ?_ ?_ <;> simp only [*, cond_true, cond_false] <;> rfl)
theorem c_outP (a0 a1 a7 : Reg) (s : So) (k : Nat) (r : Rw) (hok : okSo s) (hk : minV s.heap = (k : Nat)) (hr : s.heap[k]? = some r) :
    Meets Go.Proofs.Try.prog 69 [.agg (soP 2 s)] [a0, a1, rwR s.input, rwR s.heap, rwR s.dfr, rwR s.out, rnR s.runs, a7]
      (.agg [.sl 2 0 s.input.length, I s.pos, .sl 11 0 (s.heap.take k ++ s.heap.drop (k + 1)).length, .sl 4 0 s.dfr.length, .sl 10 0 (s.out ++ [r]).length, .sl 6 0 s.runs.length, I s.lp, I s.rp, I s.ph, I (IntKind.i64.wrap (s.wr + costV r))])
      [a0, a1, rwR s.input, rwR s.heap, rwR s.dfr, { rwR s.out with mode := 2 }, rnR s.runs, a7, bxS [.sl 2 0 s.input.length, I s.pos, .sl 11 0 (s.heap.take k ++ s.heap.drop (k + 1)).length, .sl 4 0 s.dfr.length, .sl 10 0 (s.out ++ [r]).length, .sl 6 0 s.runs.length, I s.lp, I s.rp, I s.ph, I (IntKind.i64.wrap (s.wr + costV r))], bxS [.sl 2 0 s.input.length, I s.pos, .sl 11 0 (s.heap.take k ++ s.heap.drop (k + 1)).length, .sl 4 0 s.dfr.length, .sl 10 0 (s.out ++ [r]).length, .sl 6 0 s.runs.length, I s.lp, I s.rp, I s.ph, I (IntKind.i64.wrap (s.wr + costV r))], rwR (s.out ++ [r]), rwR (s.heap.take k ++ s.heap.drop (k + 1))] true := by
  have g1 := hok.heap
  have g4 := hok.out
  have hlt := (List.getElem?_eq_some_iff.1 hr).1
  have ai := c_smin s.heap (by omega)
  rw [hk] at ai
  refine meets_ofC 2 27 Go.Proofs.Try.func69 rfl rfl ?_
  simp only [Go.Proofs.Try.ntmps69, List.length_cons, List.length_nil, Nat.reduceAdd, Nat.reduceSub, List.replicate_succ, List.replicate_zero, List.cons_append, List.nil_append]
  repeat' first | (refine aw_lex (id := 9) [8, 10] ?_) | (refine isLbs rfl ?_; refine lex_R rfl (by kernel_rfl) rfl (lit_of rfl rfl rfl rfl rfl) rfl ?_) | (refine isLp rfl ?_; refine lex_W rfl (by kernel_rfl) rfl (ap_l (t := rwT) (xs := s.out) (ys := [r]) rfl rfl rfl rfl (.lst _ _) (by simp; omega) rfl) rfl ?_) | (refine aw_cond rfl (fun h => absurd (of_decide_eq_true h) (by omega)) (fun _ => ?_)) | (refine isA ?_; refine do_R rfl (lit_of rfl rfl rfl rfl rfl) rfl ?_) | refine aw_seq ?_ | refine aw_region ?_ | refine aw_lex [10] ?_ | (refine isA ?_; refine do_F rfl ?_) | (refine isL ?_; refine lex_F rfl (by kernel_rfl) rfl rfl ?_) | (refine isLg rfl ?_; refine lex_S rfl (by kernel_rfl) rfl rfl ?_) | (refine isAc 119 ?_; refine do_R rfl (st_call rfl ai (.cons (pur_row rfl) .nil) rfl) rfl ?_) | (refine isLc 119 rfl ?_; refine lex_R rfl (by kernel_rfl) rfl (st_call rfl ai (.cons (pur_row rfl) .nil) rfl) rfl ?_) | (refine isAi (x := .tmp 30) ?_; refine do_R rfl (step_ia_sl (j := (k : Int)) rfl rfl rfl (Nat.zero_le _) rfl rfl (Int.natCast_nonneg _) (by omega)) rfl ?_) | (refine isLi (x := .tmp 30) rfl ?_; refine lex_R rfl (by kernel_rfl) rfl (step_ia_sl (j := (k : Int)) rfl rfl rfl (Nat.zero_le _) rfl rfl (Int.natCast_nonneg _) (by omega)) rfl ?_) | (refine isAl (x := .tmp 32) ?_; refine do_R rfl (ld_a (T := rwT) (i := 0 + k) (z := r) rfl rfl rfl (by rw [Nat.zero_add]; exact hr)) rfl ?_) | (refine isLl (x := .tmp 32) rfl ?_; refine lex_R rfl (by kernel_rfl) rfl (ld_a (T := rwT) (i := 0 + k) (z := r) rfl rfl rfl (by rw [Nat.zero_add]; exact hr)) rfl ?_) | (refine isAc 67 ?_; refine do_R rfl (st_call rfl (c_src r) (.cons (.same rfl) .nil) rfl) rfl ?_) | (refine isLc 67 rfl ?_; refine lex_R rfl (by kernel_rfl) rfl (st_call rfl (c_src r) (.cons (.same rfl) .nil) rfl) rfl ?_) | (refine isAi (x := .tmp 40) ?_; refine do_R rfl (step_ia_sl (j := (k : Int)) rfl rfl rfl (Nat.zero_le _) rfl rfl (Int.natCast_nonneg _) (by omega)) rfl ?_) | (refine isLi (x := .tmp 40) rfl ?_; refine lex_R rfl (by kernel_rfl) rfl (step_ia_sl (j := (k : Int)) rfl rfl rfl (Nat.zero_le _) rfl rfl (Int.natCast_nonneg _) (by omega)) rfl ?_) | (refine isAl (x := .tmp 42) ?_; refine do_R rfl (ld_a (T := rwT) (i := 0 + k) (z := r) rfl rfl rfl (by rw [Nat.zero_add]; exact hr)) rfl ?_) | (refine isLl (x := .tmp 42) rfl ?_; refine lex_R rfl (by kernel_rfl) rfl (ld_a (T := rwT) (i := 0 + k) (z := r) rfl rfl rfl (by rw [Nat.zero_add]; exact hr)) rfl ?_) | (refine isAc 120 ?_; refine do_R rfl (st_callK rfl (c_drop s.heap k hlt (by omega)) (.cons (pur_row rfl) (.cons (.same rfl) .nil)) (fun q hq => by simp at hq; subst hq; exact flat_noH _ _) rfl rfl) rfl ?_) | (refine isLc 120 rfl ?_; refine lex_R rfl (by kernel_rfl) rfl (st_callK rfl (c_drop s.heap k hlt (by omega)) (.cons (pur_row rfl) (.cons (.same rfl) .nil)) (fun q hq => by simp at hq; subst hq; exact flat_noH _ _) rfl rfl) rfl ?_) | (refine isL ?_; refine lex_WF rfl (by kernel_rfl) rfl rfl ?_) | refine aops_nil ?_ | refine lex_done _ rfl (by kernel_rfl) ?_ | refine aw_ct rfl ?_ | refine aw_cf rfl ?_ | refine aw_block ?_ | with_reducible refine then_n ?_ | refine aw_skip ?_ | refine aw_exit ?_ | (with_reducible first | refine then_x ?_ | refine then_r ?_ | refine block_x ?_ | refine block_n ?_ | refine block_r ?_) | refine aw_ret ?_
  exact fin_cA (cell_is rfl rfl rfl rfl rfl) rfl rfl
theorem c_outS (a0 a1 a7 : Reg) (s : So) (hok : okSo s) (hh : s.heap = []) :
    Meets Go.Proofs.Try.prog 69 [.agg (soP 2 s)] [a0, a1, rwR s.input, rwR s.heap, rwR s.dfr, rwR s.out, rnR s.runs, a7]
      (.agg [.sl 2 0 s.input.length, I s.pos, .sl 4 0 s.dfr.length, .lst 0 [], .lst 0 [], .sl 11 0 (s.runs.length + 1), I s.lp, I s.rp, I s.ph, I s.wr])
      [a0, a1, rwR s.input, rwR s.heap, rwR s.dfr, rwR s.out, { rnR s.runs with mode := 2 }, a7, bxS [.sl 2 0 s.input.length, I s.pos, .sl 4 0 s.dfr.length, .lst 0 [], .lst 0 [], .sl 11 0 (s.runs.length + 1), I s.lp, I s.rp, I s.ph, I s.wr], bxS [.sl 2 0 s.input.length, I s.pos, .sl 4 0 s.dfr.length, .lst 0 [], .lst 0 [], .sl 11 0 (s.runs.length + 1), I s.lp, I s.rp, I s.ph, I s.wr], ⟨84, 1, [.sl 5 0 s.out.length], 0⟩, ⟨84, 1, rnT.flat s.runs ++ [.sl 5 0 s.out.length], 0⟩] true := by
  have g5 := hok.runs
  have hh0 : s.heap.length = 0 := by rw [hh]; rfl
  refine meets_ofC 2 27 Go.Proofs.Try.func69 rfl rfl ?_
  simp only [Go.Proofs.Try.ntmps69, List.length_cons, List.length_nil, Nat.reduceAdd, Nat.reduceSub, List.replicate_succ, List.replicate_zero, List.cons_append, List.nil_append]
  repeat' first | (refine aw_cond rfl (fun _ => ?_) (fun h => absurd (of_decide_eq_false h) (by omega))) | (refine isA ?_; refine do_R rfl (lit_of (ps := []) rfl rfl rfl rfl rfl) rfl ?_) | refine aw_seq ?_ | refine aw_region ?_ | refine aw_lex [] ?_ | (refine isA ?_; refine do_F rfl ?_) | (refine isL ?_; refine lex_F rfl (by kernel_rfl) rfl rfl ?_) | (refine isLg rfl ?_; refine lex_S rfl (by kernel_rfl) rfl rfl ?_) | (refine isAp ?_; refine do_R rfl (ap_mix (outs := s.runs) (hz := 10) (zi := 5) (n := s.out.length) rfl rfl rfl rfl rfl (by omega)) rfl ?_) | (refine isLp rfl ?_; refine lex_R rfl (by kernel_rfl) rfl (ap_mix (outs := s.runs) (hz := 10) (zi := 5) (n := s.out.length) rfl rfl rfl rfl rfl (by omega)) rfl ?_) | refine aops_nil ?_ | refine lex_done _ rfl (by kernel_rfl) ?_ | refine aw_ct rfl ?_ | refine aw_cf rfl ?_ | refine aw_block ?_ | with_reducible refine then_n ?_ | refine aw_skip ?_ | refine aw_exit ?_ | (with_reducible first | refine then_x ?_ | refine then_r ?_ | refine block_x ?_ | refine block_n ?_ | refine block_r ?_) | refine aw_ret ?_
  exact fin_cA (cell_is rfl rfl rfl rfl rfl) rfl rfl
end Go.Proofs.Ytojcojanokhnaaa.Ab

/- SxD -/
namespace Go.Proofs.Ytojcojanokhnaaa.Ab
open Go.RowKit

abbrev R8 (s : So) : List Reg := [bxS (soE s), bxS zS, rwR s.input, rwR s.heap, rwR s.dfr, rwR s.out, rnR s.runs, bxS (soP 2 s)]
abbrev T6 (s : So) (g : Int) : St := ⟨(.any :: (I g) :: (.ptr 0 0) :: .any :: (.ptr 1 0) :: .any :: .any :: (.ptr 7 0) :: .any :: .any :: .any :: .any :: .any :: .any :: .any :: .any :: .any :: .any :: .any :: .any :: .any :: .any :: .any :: .any :: .any :: .any :: .any :: .any :: .any :: (I s.ph) :: .any :: .any :: .any :: .any :: .any :: .any :: .any :: .any :: .any :: .any :: .any :: .any :: .any :: .any :: .any :: .any :: .any :: .any :: .any :: .any :: .any :: .any :: .any :: .any :: .any :: .any :: .any :: .any :: .any :: .any :: .any :: .any :: .any :: .any :: .any :: .any :: .any :: .any :: .any :: .any :: .any :: .any :: .any :: .any :: .any :: .any :: .any :: .any :: .any :: .any :: .any :: .any :: .any :: .any :: .any :: .any :: .any :: .any :: .any :: .any :: .any :: .any :: .any :: .any :: .any :: .any :: .any :: .any :: .any :: .any :: .any :: .any :: .any :: .any :: .any :: .any :: .any :: .any :: .any :: .any :: .any :: .any :: .any :: .any :: .any :: .any :: .any :: .any :: .any :: .any :: .any :: .any :: .any :: .any :: .any :: .any :: .any :: .any :: .any :: .any :: .any :: .any :: .any :: .any :: .any :: .any :: .any :: .any :: .any :: .any :: .any :: .any :: .any :: .any :: .any :: .any :: .any :: .any :: .any :: .any :: .any :: .any :: .any :: .any :: .any :: .any :: .any :: .any :: .any :: .any :: .any :: .any :: .any :: .any :: .any :: .any :: .any :: .any :: .any :: .any :: .any :: .any :: .any :: .any :: .any :: .any :: .any :: .any :: .any :: .any :: .any :: .any :: .any :: .any :: .any :: .any :: .any :: .any :: .any :: .any :: .any :: .any :: .any :: .any :: .any :: .any :: .any :: .any :: .any :: .any :: .any :: .any :: .any :: .any :: .any :: .any :: .any :: .any :: .any :: .any :: .any :: .any :: .any :: .any :: .any :: .any :: .any :: .any :: .any :: .any :: .any :: .any :: .any :: .any :: .any :: .any :: .any :: .any :: .any :: .any :: .any :: .any :: .any :: .any :: .any :: []), R8 s, 0⟩
noncomputable def seq6 : Code := match (Go.Proofs.Try.f14).body with
  | some (.seq _ (.seq _ (.seq _ (.seq (.seq _ (.block _ (.seq _ (.cond _ (.seq m _) _)))) _)))) => m
  | _ => .skip
theorem hl8 {ψ : List Nat} {s : So} (h : ∀ i, i < 8 → ψ[i]? = some i) : HLes ψ (R8 s) [0, 1, 2, 3, 4, 5, 6, 7] (R8 s) :=
  .cons rfl rfl rfl rfl (les_refl' rfl) (.cons rfl rfl rfl rfl (les_refl' rfl) (.cons rfl rfl rfl rfl (les_refl (flat_noH _ _)) (.cons rfl rfl rfl rfl (les_refl (flat_noH _ _)) (.cons rfl rfl rfl rfl (les_refl (flat_noH _ _)) (.cons rfl rfl rfl rfl (les_refl (flat_noH _ _)) (.cons rfl rfl rfl rfl (les_refl (flat_noH _ _)) (.cons rfl rfl rfl rfl (les_cons (le_sl (h 2 (by decide)) rfl) (les_cons (le_refl rfl) (les_cons (le_sl (h 3 (by decide)) rfl) (les_cons (le_sl (h 4 (by decide)) rfl) (les_cons (le_sl (h 5 (by decide)) rfl) (les_cons (le_sl (h 6 (by decide)) rfl) (les_cons (le_refl rfl) (les_cons (le_refl rfl) (les_cons (le_refl rfl) (les_cons (le_refl rfl) les_nil)))))))))) .nil)))))))
theorem id8 : ∀ i, i < 8 → [0, 1, 2, 3, 4, 5, 6, 7][i]? = some i := by decide
theorem s_stuck (s : So) (g : Int) (hok : okSo s) (hb : VBa s) (hm : memV s ≤ 60) (hf : Stuck s g) : AW Go.Proofs.Try.prog seq6 (fun e S' => e = .normal ∧ Sub (T6 s g) S') (T6 s g) := by
  obtain ⟨p, hpp, hple⟩ := hb.pos
  have e1 : s.pos.toNat = p := by omega
  have g3 := hok.input
  have am := c_smem s hok
  repeat' first | refine aw_seq ?_ | refine aw_region ?_ | refine aw_lex [] ?_ | (refine isA ?_; refine do_F rfl ?_) | (refine isL ?_; refine lex_F rfl (by kernel_rfl) rfl rfl ?_) | (refine isLg rfl ?_; refine lex_S rfl (by kernel_rfl) rfl rfl ?_) | refine aops_nil ?_ | refine lex_done _ rfl (by kernel_rfl) ?_ | refine aw_ct rfl ?_ | refine aw_cf rfl ?_ | refine aw_block ?_ | with_reducible refine then_n ?_ | refine aw_skip ?_ | refine aw_exit ?_ | (with_reducible first | refine then_x ?_ | refine then_r ?_ | refine block_x ?_ | refine block_n ?_ | refine block_r ?_) | refine aw_ret ?_
  refine lex_br rfl rfl rfl rfl (fun h => ?_) (fun h => ?_)
  · have hlt : p < s.input.length := by have := of_decide_eq_true h; omega
    obtain ⟨z, hz⟩ : ∃ z, s.input[p]? = some z := ⟨_, List.getElem?_eq_getElem hlt⟩
    have hfz := hf z (by rw [e1]; exact hz)
    repeat' first | (refine aw_cond rfl (fun h => absurd (of_decide_eq_true h) (by rw [memsum hm]; omega)) (fun _ => ?_)) | refine aw_seq ?_ | refine aw_region ?_ | refine aw_lex [] ?_ | (refine isA ?_; refine do_F rfl ?_) | (refine isL ?_; refine lex_F rfl (by kernel_rfl) rfl rfl ?_) | (refine isLg rfl ?_; refine lex_S rfl (by kernel_rfl) rfl rfl ?_) | (refine isAc 20 ?_; refine do_R rfl (st_call rfl am (.cons (.same rfl) .nil) rfl) rfl ?_) | (refine isLc 20 rfl ?_; refine lex_R rfl (by kernel_rfl) rfl (st_call rfl am (.cons (.same rfl) .nil) rfl) rfl ?_) | (refine isAi (x := .tmp 42) ?_; refine do_R rfl (ia_l (t := rwT) (z := z) rfl rfl rfl rfl (by omega) (by rw [e1]; exact hz)) rfl ?_) | (refine isLi (x := .tmp 42) rfl ?_; refine lex_R rfl (by kernel_rfl) rfl (ia_l (t := rwT) (z := z) rfl rfl rfl rfl (by omega) (by rw [e1]; exact hz)) rfl ?_) | (refine isAc 67 ?_; refine do_R rfl (st_call rfl (c_src z) (.cons (.same rfl) .nil) rfl) rfl ?_) | (refine isLc 67 rfl ?_; refine lex_R rfl (by kernel_rfl) rfl (st_call rfl (c_src z) (.cons (.same rfl) .nil) rfl) rfl ?_) | refine aops_nil ?_ | refine lex_done _ rfl (by kernel_rfl) ?_ | refine aw_ct rfl ?_ | refine aw_cf rfl ?_ | refine aw_block ?_ | with_reducible refine then_n ?_ | refine aw_skip ?_ | refine aw_exit ?_ | (with_reducible first | refine then_x ?_ | refine then_r ?_ | refine block_x ?_ | refine block_n ?_ | refine block_r ?_) | refine aw_ret ?_
    exact ⟨rfl, sub0 [0, 1, 2, 3, 4, 5, 6, 7] rfl rfl (by decide) (hl8 id8) (by repeat' first | exact les_nil | refine les_cons ?_ ?_ | exact le_any | exact le_refl rfl | exact le_sl rfl rfl | exact le_ptr rfl)⟩
  · repeat' first | refine aw_seq ?_ | refine aw_region ?_ | refine aw_lex [] ?_ | (refine isA ?_; refine do_F rfl ?_) | (refine isL ?_; refine lex_F rfl (by kernel_rfl) rfl rfl ?_) | (refine isLg rfl ?_; refine lex_S rfl (by kernel_rfl) rfl rfl ?_) | refine aops_nil ?_ | refine lex_done _ rfl (by kernel_rfl) ?_ | refine aw_ct rfl ?_ | refine aw_cf rfl ?_ | refine aw_block ?_ | with_reducible refine then_n ?_ | refine aw_skip ?_ | refine aw_exit ?_ | (with_reducible first | refine then_x ?_ | refine then_r ?_ | refine block_x ?_ | refine block_n ?_ | refine block_r ?_) | refine aw_ret ?_
    exact ⟨rfl, sub0 [0, 1, 2, 3, 4, 5, 6, 7] rfl rfl (by decide) (hl8 id8) (by repeat' first | exact les_nil | refine les_cons ?_ ?_ | exact le_any | exact le_refl rfl | exact le_sl rfl rfl | exact le_ptr rfl)⟩
theorem s_pop (s : So) (g : Int) (k : Nat) (r : Rw) (hok : okSo s) (hv : vS s = true) (h1 : inV g 8 60 = true) (hb : VBa s) (hm : memV s ≤ 60) (hp : s.ph = 1) (hf : Stuck s g) (hh : 0 < s.heap.length) (hk : minV s.heap = (k : Nat)) (hr : s.heap[k]? = some r) : Meets Go.Proofs.Try.prog 14 [.agg (soE s), I g] [] (.tup [.agg (soE (popV s k r)), rwL [], B true]) [] true := by
  have g1 := hok.heap
  have g2 := hok.dfr
  have ac := c_l13Copy s hok
  have a1 := c_svS s hok
  rw [hv] at a1
  have a2 := c_in g 8 60
  rw [h1] at a2
  have ao := c_outP (bxS (soE s)) (bxS zS) (bxS (soP 2 s)) s k r hok hk hr
  refine meets_ofCT 4 27 [5, 6] Go.Proofs.Try.func14 rfl rfl rfl ?_
  simp only [Go.Proofs.Try.ntmps14, List.length_cons, List.length_nil, Nat.reduceAdd, Nat.reduceSub, List.replicate_succ, List.replicate_zero, List.cons_append, List.nil_append]
  repeat' first | (refine aw_joinAt 6 (T6 s g) (unhold ?_) ?_) | (refine aw_cond rfl (fun h => absurd (of_decide_eq_true h) (by omega)) (fun _ => ?_)) | (refine aw_cond rfl (fun _ => ?_) (fun h => absurd hp (of_decide_eq_false h))) | (refine aw_cond rfl (fun _ => ?_) (fun h => absurd (of_decide_eq_false h) (by rw [IntKind.wrap_i64]; omega))) | (refine isA ?_; refine do_R rfl (lit_of rfl rfl rfl rfl rfl) rfl ?_) | refine aw_seq ?_ | refine aw_region ?_ | refine aw_lex [] ?_ | (refine isA ?_; refine do_F rfl ?_) | (refine isL ?_; refine lex_F rfl (by kernel_rfl) rfl rfl ?_) | (refine isLg rfl ?_; refine lex_S rfl (by kernel_rfl) rfl rfl ?_) | (refine isAc 65 ?_; refine do_R rfl (st_callKN (r' := .agg (soP 2 s)) (H' := bxS (soE s) :: bxS zS :: soW s) rfl ac (.cons (.same rfl) .nil) rfl (by simp only [List.map_cons, List.map_nil, shR, shVs_noH _ (noHs_of (flat_noH _ _))]; rfl)) rfl ?_) | (refine isLc 65 rfl ?_; refine lex_R rfl (by kernel_rfl) rfl (st_callKN (r' := .agg (soP 2 s)) (H' := bxS (soE s) :: bxS zS :: soW s) rfl ac (.cons (.same rfl) .nil) rfl (by simp only [List.map_cons, List.map_nil, shR, shVs_noH _ (noHs_of (flat_noH _ _))]; rfl)) rfl ?_) | (refine isAc 18 ?_; refine do_R rfl (st_call rfl a1 (.cons (.same rfl) .nil) rfl) rfl ?_) | (refine isLc 18 rfl ?_; refine lex_R rfl (by kernel_rfl) rfl (st_call rfl a1 (.cons (.same rfl) .nil) rfl) rfl ?_) | (refine isAc 66 ?_; refine do_R rfl (st_call rfl a2 (.cons (.same rfl) (.cons (.same rfl) (.cons (.same rfl) .nil))) rfl) rfl ?_) | (refine isLc 66 rfl ?_; refine lex_R rfl (by kernel_rfl) rfl (st_call rfl a2 (.cons (.same rfl) (.cons (.same rfl) (.cons (.same rfl) .nil))) rfl) rfl ?_) | (refine isAc 69 ?_; refine do_R rfl (step_callA rfl ao rfl) rfl ?_) | (refine isLc 69 rfl ?_; refine lex_R rfl (by kernel_rfl) rfl (step_callA rfl ao rfl) rfl ?_) | refine aops_nil ?_ | refine lex_done _ rfl (by kernel_rfl) ?_ | refine aw_ct rfl ?_ | refine aw_cf rfl ?_ | refine aw_block ?_ | with_reducible refine then_n ?_ | refine aw_skip ?_ | refine aw_exit ?_ | (with_reducible first | refine then_x ?_ | refine then_r ?_ | refine block_x ?_ | refine block_n ?_ | refine block_r ?_) | refine aw_ret ?_
  · exact hold (aw_sub (sub0 [0, 1, 2, 3, 4, 5, 6, 7] rfl rfl (by decide) (hl8 id8) (by repeat' first | exact les_nil | refine les_cons ?_ ?_ | exact le_any | exact le_refl rfl | exact le_sl rfl rfl | exact le_ptr rfl)) (s_stuck s g hok hb hm hf))
  · exact finCT (cell_is rfl rfl rfl rfl rfl) (.tup (.cons (.agg (by repeat' first | exact Purs.nil | refine Purs.cons ?_ ?_ | exact pur_row rfl | exact pur_mix rfl rfl | exact pur_row (T := rwT) (x := []) rfl | exact Pur.nil | exact Pur.same rfl | exact pur_i (by assumption))) (.cons (.same rfl) (.cons (.same rfl) .nil))))
theorem s_swap (s : So) (g : Int) (hok : okSo s) (hv : vS s = true) (h1 : inV g 8 60 = true) (hb : VBa s) (hm : memV s ≤ 60) (hp : s.ph = 1) (hf : Stuck s g) (hh : s.heap = []) (hd : 0 < s.dfr.length) : Meets Go.Proofs.Try.prog 14 [.agg (soE s), I g] [] (.tup [.agg (soE (swapV s)), rwL [], B true]) [] true := by
  have g1 := hok.heap
  have g2 := hok.dfr
  have g4 := hok.out
  have g5 := hok.runs
  have hh0 : s.heap.length = 0 := by rw [hh]; rfl
  have ac := c_l13Copy s hok
  have a1 := c_svS s hok
  rw [hv] at a1
  have a2 := c_in g 8 60
  rw [h1] at a2
  have ao := c_outS (bxS (soE s)) (bxS zS) (bxS (soP 2 s)) s hok hh
  refine meets_ofCT 4 27 [5, 6] Go.Proofs.Try.func14 rfl rfl rfl ?_
  simp only [Go.Proofs.Try.ntmps14, List.length_cons, List.length_nil, Nat.reduceAdd, Nat.reduceSub, List.replicate_succ, List.replicate_zero, List.cons_append, List.nil_append]
  repeat' first | (refine aw_joinAt 6 (T6 s g) (unhold ?_) ?_) | (refine aw_cond rfl (fun h => absurd (of_decide_eq_true h) (by omega)) (fun _ => ?_)) | (refine aw_cond rfl (fun _ => ?_) (fun h => absurd hp (of_decide_eq_false h))) | (refine aw_cond rfl (fun _ => ?_) (fun h => absurd (of_decide_eq_false h) (by rw [IntKind.wrap_i64]; omega))) | (refine isA ?_; refine do_R rfl (lit_of rfl rfl rfl rfl rfl) rfl ?_) | refine aw_seq ?_ | refine aw_region ?_ | refine aw_lex [] ?_ | (refine isA ?_; refine do_F rfl ?_) | (refine isL ?_; refine lex_F rfl (by kernel_rfl) rfl rfl ?_) | (refine isLg rfl ?_; refine lex_S rfl (by kernel_rfl) rfl rfl ?_) | (refine isAc 65 ?_; refine do_R rfl (st_callKN (r' := .agg (soP 2 s)) (H' := bxS (soE s) :: bxS zS :: soW s) rfl ac (.cons (.same rfl) .nil) rfl (by simp only [List.map_cons, List.map_nil, shR, shVs_noH _ (noHs_of (flat_noH _ _))]; rfl)) rfl ?_) | (refine isLc 65 rfl ?_; refine lex_R rfl (by kernel_rfl) rfl (st_callKN (r' := .agg (soP 2 s)) (H' := bxS (soE s) :: bxS zS :: soW s) rfl ac (.cons (.same rfl) .nil) rfl (by simp only [List.map_cons, List.map_nil, shR, shVs_noH _ (noHs_of (flat_noH _ _))]; rfl)) rfl ?_) | (refine isAc 18 ?_; refine do_R rfl (st_call rfl a1 (.cons (.same rfl) .nil) rfl) rfl ?_) | (refine isLc 18 rfl ?_; refine lex_R rfl (by kernel_rfl) rfl (st_call rfl a1 (.cons (.same rfl) .nil) rfl) rfl ?_) | (refine isAc 66 ?_; refine do_R rfl (st_call rfl a2 (.cons (.same rfl) (.cons (.same rfl) (.cons (.same rfl) .nil))) rfl) rfl ?_) | (refine isLc 66 rfl ?_; refine lex_R rfl (by kernel_rfl) rfl (st_call rfl a2 (.cons (.same rfl) (.cons (.same rfl) (.cons (.same rfl) .nil))) rfl) rfl ?_) | (refine isAc 69 ?_; refine do_R rfl (step_callA rfl ao rfl) rfl ?_) | (refine isLc 69 rfl ?_; refine lex_R rfl (by kernel_rfl) rfl (step_callA rfl ao rfl) rfl ?_) | refine aops_nil ?_ | refine lex_done _ rfl (by kernel_rfl) ?_ | refine aw_ct rfl ?_ | refine aw_cf rfl ?_ | refine aw_block ?_ | with_reducible refine then_n ?_ | refine aw_skip ?_ | refine aw_exit ?_ | (with_reducible first | refine then_x ?_ | refine then_r ?_ | refine block_x ?_ | refine block_n ?_ | refine block_r ?_) | refine aw_ret ?_
  · exact hold (aw_sub (sub0 [0, 1, 2, 3, 4, 5, 6, 7] rfl rfl (by decide) (hl8 id8) (by repeat' first | exact les_nil | refine les_cons ?_ ?_ | exact le_any | exact le_refl rfl | exact le_sl rfl rfl | exact le_ptr rfl)) (s_stuck s g hok hb hm hf))
  · exact finCT (cell_is rfl rfl rfl rfl rfl) (.tup (.cons (.agg (by repeat' first | exact Purs.nil | refine Purs.cons ?_ ?_ | exact pur_row rfl | exact pur_mix rfl rfl | exact pur_row (T := rwT) (x := []) rfl | exact Pur.nil | exact Pur.same rfl | exact pur_i (by assumption))) (.cons (.same rfl) (.cons (.same rfl) .nil))))
theorem s_close (s : So) (g : Int) (hok : okSo s) (hv : vS s = true) (h1 : inV g 8 60 = true) (hb : VBa s) (hm : memV s ≤ 60) (hp : s.ph = 1) (hf : Stuck s g) (hh : s.heap = []) (hd : s.dfr = []) : Meets Go.Proofs.Try.prog 14 [.agg (soE s), I g] [] (.tup [.agg (soE (nextV (endIf s))), rwL [], B true]) [] true := by
  have g1 := hok.heap
  have g2 := hok.dfr
  have g4 := hok.out
  have g5 := hok.runs
  have hh0 : s.heap.length = 0 := by rw [hh]; rfl
  have ac := c_l13Copy s hok
  have a1 := c_svS s hok
  rw [hv] at a1
  have a2 := c_in g 8 60
  rw [h1] at a2
  have hd0 : s.dfr.length = 0 := by rw [hd]; rfl
  rcases Nat.eq_zero_or_pos s.out.length with h0 | h0
  · have e : nextV (endIf s) = { s with lp := 0, rp := 0, ph := cond (decide (s.runs.length = 0)) 4 (cond (decide (s.runs.length = 1)) 3 2) } := by
      rw [endIf, decide_eq_false (by omega), cond_false, nextV]
    rw [e]
    refine meets_ofCT 4 27 [5, 6] Go.Proofs.Try.func14 rfl rfl rfl ?_
    simp only [Go.Proofs.Try.ntmps14, List.length_cons, List.length_nil, Nat.reduceAdd, Nat.reduceSub, List.replicate_succ, List.replicate_zero, List.cons_append, List.nil_append]
    repeat' first | (refine aw_joinAt 6 (T6 s g) (unhold ?_) ?_) | (refine aw_cond rfl (fun h => absurd (of_decide_eq_true h) (by omega)) (fun _ => ?_)) | (refine aw_cond rfl (fun _ => ?_) (fun h => absurd hp (of_decide_eq_false h))) | (refine aw_cond rfl (fun h => absurd (of_decide_eq_true h) (by rw [IntKind.wrap_i64]; omega)) (fun _ => ?_)) | (refine isA ?_; refine do_R rfl (lit_of rfl rfl rfl rfl rfl) rfl ?_) | refine aw_seq ?_ | refine aw_region ?_ | refine aw_lex [] ?_ | (refine isA ?_; refine do_F rfl ?_) | (refine isL ?_; refine lex_F rfl (by kernel_rfl) rfl rfl ?_) | (refine isLg rfl ?_; refine lex_S rfl (by kernel_rfl) rfl rfl ?_) | (refine isAc 65 ?_; refine do_R rfl (st_callKN (r' := .agg (soP 2 s)) (H' := bxS (soE s) :: bxS zS :: soW s) rfl ac (.cons (.same rfl) .nil) rfl (by simp only [List.map_cons, List.map_nil, shR, shVs_noH _ (noHs_of (flat_noH _ _))]; rfl)) rfl ?_) | (refine isLc 65 rfl ?_; refine lex_R rfl (by kernel_rfl) rfl (st_callKN (r' := .agg (soP 2 s)) (H' := bxS (soE s) :: bxS zS :: soW s) rfl ac (.cons (.same rfl) .nil) rfl (by simp only [List.map_cons, List.map_nil, shR, shVs_noH _ (noHs_of (flat_noH _ _))]; rfl)) rfl ?_) | (refine isAc 18 ?_; refine do_R rfl (st_call rfl a1 (.cons (.same rfl) .nil) rfl) rfl ?_) | (refine isLc 18 rfl ?_; refine lex_R rfl (by kernel_rfl) rfl (st_call rfl a1 (.cons (.same rfl) .nil) rfl) rfl ?_) | (refine isAc 66 ?_; refine do_R rfl (st_call rfl a2 (.cons (.same rfl) (.cons (.same rfl) (.cons (.same rfl) .nil))) rfl) rfl ?_) | (refine isLc 66 rfl ?_; refine lex_R rfl (by kernel_rfl) rfl (st_call rfl a2 (.cons (.same rfl) (.cons (.same rfl) (.cons (.same rfl) .nil))) rfl) rfl ?_) | (refine isAc 70 ?_; refine do_R rfl (step_callA rfl (c_turn8 _ _ _ _ _ _ _ _ _ _ _ _ _ _ _ _ _ _ _ _ _ _ _ _ _ _ _ _) rfl) rfl ?_) | (refine isLc 70 rfl ?_; refine lex_R rfl (by kernel_rfl) rfl (step_callA rfl (c_turn8 _ _ _ _ _ _ _ _ _ _ _ _ _ _ _ _ _ _ _ _ _ _ _ _ _ _ _ _) rfl) rfl ?_) | refine aops_nil ?_ | refine lex_done _ rfl (by kernel_rfl) ?_ | refine aw_ct rfl ?_ | refine aw_cf rfl ?_ | refine aw_block ?_ | with_reducible refine then_n ?_ | refine aw_skip ?_ | refine aw_exit ?_ | (with_reducible first | refine then_x ?_ | refine then_r ?_ | refine block_x ?_ | refine block_n ?_ | refine block_r ?_) | refine aw_ret ?_
    · exact hold (aw_sub (sub0 [0, 1, 2, 3, 4, 5, 6, 7] rfl rfl (by decide) (hl8 id8) (by repeat' first | exact les_nil | refine les_cons ?_ ?_ | exact le_any | exact le_refl rfl | exact le_sl rfl rfl | exact le_ptr rfl)) (s_stuck s g hok hb hm hf))
    · exact finCT (cell_is rfl rfl rfl rfl rfl) (.tup (.cons (.agg (by repeat' first | exact Purs.nil | refine Purs.cons ?_ ?_ | exact pur_row rfl | exact pur_mix rfl rfl | exact pur_row (T := rwT) (x := []) rfl | exact Pur.nil | exact Pur.same rfl | exact pur_i (by assumption))) (.cons (.same rfl) (.cons (.same rfl) .nil))))
  · have e : nextV (endIf s) = { s with runs := s.runs ++ [s.out], out := [], lp := 0, rp := 0, ph := cond (decide (s.runs.length + 1 = 0)) 4 (cond (decide (s.runs.length + 1 = 1)) 3 2) } := by
      rw [endIf, decide_eq_true h0, cond_true, nextV, endV]
      simp
    rw [e]
    refine meets_ofCT 4 27 [5, 6] Go.Proofs.Try.func14 rfl rfl rfl ?_
    simp only [Go.Proofs.Try.ntmps14, List.length_cons, List.length_nil, Nat.reduceAdd, Nat.reduceSub, List.replicate_succ, List.replicate_zero, List.cons_append, List.nil_append]
    repeat' first | (refine aw_joinAt 6 (T6 s g) (unhold ?_) ?_) | (refine aw_cond rfl (fun h => absurd (of_decide_eq_true h) (by omega)) (fun _ => ?_)) | (refine aw_cond rfl (fun _ => ?_) (fun h => absurd hp (of_decide_eq_false h))) | (refine aw_cond rfl (fun h => absurd (of_decide_eq_true h) (by rw [IntKind.wrap_i64]; omega)) (fun _ => ?_)) | (refine aw_cond rfl (fun _ => ?_) (fun h => absurd (of_decide_eq_false h) (by omega))) | refine aw_seq ?_ | refine aw_region ?_ | refine aw_lex [] ?_ | (refine isA ?_; refine do_F rfl ?_) | (refine isL ?_; refine lex_F rfl (by kernel_rfl) rfl rfl ?_) | (refine isLg rfl ?_; refine lex_S rfl (by kernel_rfl) rfl rfl ?_) | (refine isAc 65 ?_; refine do_R rfl (st_callKN (r' := .agg (soP 2 s)) (H' := bxS (soE s) :: bxS zS :: soW s) rfl ac (.cons (.same rfl) .nil) rfl (by simp only [List.map_cons, List.map_nil, shR, shVs_noH _ (noHs_of (flat_noH _ _))]; rfl)) rfl ?_) | (refine isLc 65 rfl ?_; refine lex_R rfl (by kernel_rfl) rfl (st_callKN (r' := .agg (soP 2 s)) (H' := bxS (soE s) :: bxS zS :: soW s) rfl ac (.cons (.same rfl) .nil) rfl (by simp only [List.map_cons, List.map_nil, shR, shVs_noH _ (noHs_of (flat_noH _ _))]; rfl)) rfl ?_) | (refine isAc 18 ?_; refine do_R rfl (st_call rfl a1 (.cons (.same rfl) .nil) rfl) rfl ?_) | (refine isLc 18 rfl ?_; refine lex_R rfl (by kernel_rfl) rfl (st_call rfl a1 (.cons (.same rfl) .nil) rfl) rfl ?_) | (refine isAc 66 ?_; refine do_R rfl (st_call rfl a2 (.cons (.same rfl) (.cons (.same rfl) (.cons (.same rfl) .nil))) rfl) rfl ?_) | (refine isLc 66 rfl ?_; refine lex_R rfl (by kernel_rfl) rfl (st_call rfl a2 (.cons (.same rfl) (.cons (.same rfl) (.cons (.same rfl) .nil))) rfl) rfl ?_) | (refine isAp ?_; refine do_R rfl (ap_mix (outs := s.runs) (hz := 8) (zi := 5) (n := s.out.length) rfl rfl rfl rfl rfl (by omega)) rfl ?_) | (refine isLp rfl ?_; refine lex_R rfl (by kernel_rfl) rfl (ap_mix (outs := s.runs) (hz := 8) (zi := 5) (n := s.out.length) rfl rfl rfl rfl rfl (by omega)) rfl ?_) | (refine isAc 70 ?_; refine do_R rfl (step_callA rfl (c_turn11 _ _ _ _ _ _ _ _ _ _ _ _ _ _ _ _ _ _ _ _ _ _ _ _ _ _ _ _ _ _ _) rfl) rfl ?_) | (refine isLc 70 rfl ?_; refine lex_R rfl (by kernel_rfl) rfl (step_callA rfl (c_turn11 _ _ _ _ _ _ _ _ _ _ _ _ _ _ _ _ _ _ _ _ _ _ _ _ _ _ _ _ _ _ _) rfl) rfl ?_) | refine aops_nil ?_ | refine lex_done _ rfl (by kernel_rfl) ?_ | refine aw_ct rfl ?_ | refine aw_cf rfl ?_ | refine aw_block ?_ | with_reducible refine then_n ?_ | refine aw_skip ?_ | refine aw_exit ?_ | (with_reducible first | refine then_x ?_ | refine then_r ?_ | refine block_x ?_ | refine block_n ?_ | refine block_r ?_) | refine aw_ret ?_
    · exact hold (aw_sub (sub0 [0, 1, 2, 3, 4, 5, 6, 7] rfl rfl (by decide) (hl8 id8) (by repeat' first | exact les_nil | refine les_cons ?_ ?_ | exact le_any | exact le_refl rfl | exact le_sl rfl rfl | exact le_ptr rfl)) (s_stuck s g hok hb hm hf))
    · exact finCT (cell_is rfl rfl rfl rfl rfl) (.tup (.cons (.agg (by repeat' first | exact Purs.nil | refine Purs.cons ?_ ?_ | exact pur_row rfl | exact pur_mix rfl rfl | exact pur_row (T := rwT) (x := []) rfl | exact Pur.nil | exact Pur.same rfl | exact pur_i (by assumption))) (.cons (pur_row (T := rwT) (x := []) rfl) (.cons (.same rfl) .nil))))
/-- A step while the rows are read. -/
theorem c_sstep1 (s x : So) (g : Int) (r : List Rw) (hok : okSo s) (hv : vS s = true) (h1 : inV g 8 60 = true) (hp : s.ph = 1) (h : StepV s g x r) : Meets Go.Proofs.Try.prog 14 [.agg (soE s), I g] [] (.tup [.agg (soE x), rwL r, B true]) [] true := by
  have hV := vS_iff.1 hv
  cases hV with
  | read b q =>
    have hm : memV s ≤ 60 := by rw [mem_r q.ph]; exact q.mem
    cases h with
    | put _ hr hf => exact s_put s g _ hok hv h1 b hm hp hr hf
    | pop _ hf hh hk hr => exact s_pop s g _ _ hok hv h1 b hm hp hf hh hk hr
    | swap _ hf hh hd => exact s_swap s g hok hv h1 b hm hp hf hh hd
    | close _ hf hh hd => exact s_close s g hok hv h1 b hm hp hf hh hd
    | merged h2 => omega
    | left h2 => omega
    | right h2 => omega
    | emit h2 => omega
  | merge b t ph => omega
  | emit b t ph => omega
  | done b t ph => omega
end Go.Proofs.Ytojcojanokhnaaa.Ab

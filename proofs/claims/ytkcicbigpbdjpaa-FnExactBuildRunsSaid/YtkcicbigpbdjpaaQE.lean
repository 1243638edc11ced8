/- Texts BrA, BrB, BrC in one. -/
import Derived.Test.YtkcicbigpbdjpaaQC
import Derived.Test.YtkcicbigpbdjpaaQB
import Derived.Test.YtkcicbigpbdjpaaQD
set_option linter.unusedVariables false
set_option linter.unusedSimpArgs false
set_option maxRecDepth 20000
set_option maxHeartbeats 4000000
/- BrA -/
namespace Go.Proofs.Ytkcicbigpbdjpaa.Ab
open Go.RowKit

theorem avR_iff' {xs : List Rw} : avR xs = true ↔ (∀ x ∈ xs, vRw x = true) ∧ xs.length ≤ 24 := by
  simp only [avR, Bool.and_eq_true, List.all_eq_true, decide_eq_true_eq]
  constructor
  · rintro ⟨a, b⟩; exact ⟨a, by omega⟩
  · rintro ⟨a, b⟩; exact ⟨a, by omega⟩
/-- Where the building of runs stands. -/
structure Bs where
  pos : Nat
  cur : List Rw
  dfr : List Rw
  run : List Rw
  outs : List Rn
def bput (s : Bs) (r : Rw) : Bs := cond (bel r s.run) ⟨s.pos + 1, s.cur, s.dfr ++ [r], s.run, s.outs⟩ ⟨s.pos + 1, s.cur ++ [r], s.dfr, s.run, s.outs⟩
def bpop (s : Bs) (k : Nat) (r : Rw) : Bs := ⟨s.pos, s.cur.take k ++ s.cur.drop (k + 1), s.dfr, s.run ++ [r], s.outs⟩
def bswap (s : Bs) : Bs := ⟨s.pos, s.dfr, [], [], s.outs ++ [s.run]⟩
def bend (s : Bs) : List Rn := cond (decide (0 < s.run.length)) (s.outs ++ [s.run]) s.outs
def bfull (xs : List Rw) (g : Int) (s : Bs) : Prop := ∀ r, xs[s.pos]? = some r → g < totV s.cur + totV s.dfr + costV r
inductive BrR (xs : List Rw) (g : Int) : Bs → List Rn → Prop where
  | put {s : Bs} {r : Rw} {out : List Rn} (hr : xs[s.pos]? = some r) (hf : totV s.cur + totV s.dfr + costV r ≤ g) (t : BrR xs g (bput s r) out) : BrR xs g s out
  | pop {s : Bs} {k : Nat} {r : Rw} {out : List Rn} (hf : bfull xs g s) (hc : 0 < s.cur.length) (hk : minV s.cur = (k : Nat)) (hr : s.cur[k]? = some r) (t : BrR xs g (bpop s k r) out) : BrR xs g s out
  | swap {s : Bs} {out : List Rn} (hf : bfull xs g s) (hc : s.cur = []) (hd : 0 < s.dfr.length) (t : BrR xs g (bswap s) out) : BrR xs g s out
  | stop {s : Bs} (hp : s.pos = xs.length) (hc : s.cur = []) (hd : s.dfr = []) : BrR xs g s (bend s)
/-- What is true of all states. -/
structure BsOk (xs : List Rw) (s : Bs) : Prop where
  pos : s.pos ≤ xs.length
  tot : s.cur.length + s.dfr.length + s.run.length + tot s.outs = s.pos
  dfr : s.dfr ≠ [] → s.run ≠ []
  outs : s.outs.length ≤ Ab.tot s.outs
def bmu (xs : List Rw) (s : Bs) : Nat := 3 * (xs.length - s.pos) + 2 * s.dfr.length + s.cur.length
theorem put_ok {xs : List Rw} {s : Bs} {r : Rw} (h : BsOk xs s) (hr : xs[s.pos]? = some r) : BsOk xs (bput s r) ∧ bmu xs (bput s r) < bmu xs s := by
  have hlt := (List.getElem?_eq_some_iff.1 hr).1
  have ht := h.tot
  unfold bput bmu
  cases hb : bel r s.run with
  | true =>
    rw [cond_true]
    refine ⟨⟨hlt, by simp only [List.length_append, List.length_singleton]; omega, fun _ he => ?_, h.outs⟩, by simp only [List.length_append, List.length_singleton]; omega⟩
    simp only at he
    rw [he] at hb
    cases hb
  | false =>
    rw [cond_false]
    exact ⟨⟨hlt, by simp only [List.length_append, List.length_singleton]; omega, h.dfr, h.outs⟩, by simp only [List.length_append, List.length_singleton]; omega⟩
theorem pop_ok {xs : List Rw} {s : Bs} {r : Rw} {k : Nat} (h : BsOk xs s) (hr : s.cur[k]? = some r) : BsOk xs (bpop s k r) ∧ bmu xs (bpop s k r) < bmu xs s := by
  have hlt := (List.getElem?_eq_some_iff.1 hr).1
  have ht := h.tot
  unfold bpop bmu
  refine ⟨⟨h.pos, by simp only [List.length_append, List.length_singleton, List.length_take, List.length_drop]; omega, fun _ he => by simp at he, h.outs⟩, by simp only [List.length_append, List.length_take, List.length_drop]; omega⟩
theorem swap_ok {xs : List Rw} {s : Bs} (h : BsOk xs s) (hc : s.cur = []) (hd : 0 < s.dfr.length) : BsOk xs (bswap s) ∧ bmu xs (bswap s) < bmu xs s := by
  have ht := h.tot
  have hn := h.dfr (List.ne_nil_of_length_pos hd)
  have hl := List.length_pos_iff.2 hn
  have ho := h.outs
  have e : Ab.tot (s.outs ++ [s.run]) = Ab.tot s.outs + s.run.length := by simp [Ab.tot]
  rw [hc] at ht
  unfold bswap bmu
  rw [hc]
  simp only [List.length_nil] at ht
  refine ⟨⟨h.pos, by simp only [e, List.length_nil]; omega, fun he => absurd rfl he, by simp only [e, List.length_append, List.length_singleton]; omega⟩, by simp only [List.length_nil]; omega⟩
theorem br_ex {xs : List Rw} {g : Int} (hg : 8 ≤ g) : ∀ (N : Nat) {s : Bs}, bmu xs s ≤ N → BsOk xs s → ∃ out, BrR xs g s out
  | N, s, hN, hok => by
    rcases Classical.em (∃ r, xs[s.pos]? = some r ∧ totV s.cur + totV s.dfr + costV r ≤ g) with ⟨r, h1, h2⟩ | hn
    · have q := put_ok hok h1
      cases N with
      | zero => omega
      | succ N =>
        obtain ⟨out, h⟩ := br_ex hg N (s := bput s r) (by omega) q.1
        exact ⟨out, .put h1 h2 h⟩
    · have hf : bfull xs g s := fun r hr => Classical.byContradiction fun h => hn ⟨r, hr, by omega⟩
      rcases Nat.eq_zero_or_pos s.cur.length with h0 | h0
      · have hc := List.eq_nil_of_length_eq_zero h0
        rcases Nat.eq_zero_or_pos s.dfr.length with d0 | d0
        · have hd := List.eq_nil_of_length_eq_zero d0
          refine ⟨_, .stop ?_ hc hd⟩
          have := hok.pos
          rcases Nat.lt_or_ge s.pos xs.length with hlt | hge
          · exfalso
            have h1 := hf _ (List.getElem?_eq_getElem hlt)
            rw [hc, hd] at h1
            simp only [totV] at h1
            have := cost_b xs[s.pos]
            omega
          · omega
        · have q := swap_ok hok hc d0
          cases N with
          | zero => omega
          | succ N =>
            obtain ⟨out, h⟩ := br_ex hg N (s := bswap s) (by omega) q.1
            exact ⟨out, .swap hf hc d0 h⟩
      · obtain ⟨k, y, m1, m2, _⟩ := minV_ok h0
        have q := pop_ok hok m2
        cases N with
        | zero => omega
        | succ N =>
          obtain ⟨out, h⟩ := br_ex hg N (s := bpop s k y) (by omega) q.1
          exact ⟨out, .pop hf h0 m1 m2 h⟩
def bs0 : Bs := ⟨0, [], [], [], []⟩
theorem bs0_ok (xs : List Rw) : BsOk xs bs0 := ⟨Nat.zero_le _, rfl, fun h => absurd rfl h, Nat.le_refl _⟩
theorem br_tot {xs : List Rw} {g : Int} {s : Bs} {out : List Rn} (h : BrR xs g s out) : BsOk xs s → out.length ≤ tot out ∧ tot out = xs.length := by
  induction h with
  | put hr hf t ih => exact fun hok => ih (put_ok hok hr).1
  | pop hf hc hk hr t ih => exact fun hok => ih (pop_ok hok hr).1
  | swap hf hc hd t ih => exact fun hok => ih (swap_ok hok hc hd).1
  | @stop s hp hc hd =>
    intro hok
    have ht := hok.tot
    have ho := hok.outs
    rw [hc, hd] at ht
    simp only [List.length_nil] at ht
    have e : Ab.tot (s.outs ++ [s.run]) = Ab.tot s.outs + s.run.length := by simp [Ab.tot]
    unfold bend
    rcases Nat.eq_zero_or_pos s.run.length with h0 | h0
    · rw [decide_eq_false (by omega), cond_false]
      omega
    · rw [decide_eq_true h0, cond_true, e, List.length_append, List.length_singleton]
      omega
theorem VwS.app {H : List Reg} : ∀ (cs : List V) {ds es : List V}, VwS H ds es → VwS H (cs ++ ds) (cs ++ es)
  | [], _, _, h => h
  | c :: cs, _, _, h => .cons (.same c) (VwS.app cs h)
abbrev rnR (rs : List Rn) : Reg := regOf rnT 39 rs
theorem totsum {a b c : Int} (ha : 0 ≤ a ∧ a ≤ 1000) (hb : 0 ≤ b ∧ b ≤ 1000) (hc : 0 ≤ c ∧ c ≤ 4) : IntKind.i64.wrap (IntKind.i64.wrap (a + b) + c) = a + b + c := by
  rw [show IntKind.i64.wrap (a + b) = a + b by rw [IntKind.wrap_i64]; omega, IntKind.wrap_i64]; omega
/-- A run of the walk's own, behind runs that are only read. -/
theorem ap_mix {o : Oper} {ρ : Operand → V} {H : List Reg} {h hz zi n : Nat} {s x : Operand} {outs : List Rn} (ho : o.op = .call { callee := .builtin .append, args := #[s, x], argTypes := #[27, 27] })
    (hs : ρ s = .sl h 0 outs.length) (hH0 : H[h]? = some (rnR outs)) (hx : ρ x = .sl hz 0 1) (hzz : H[hz]? = some ⟨39, 1, [.sl zi 0 n], 0⟩) (hl : outs.length ≤ 1000000) :
    Step Go.Proofs.Try.prog o ρ H (.sl H.length 0 (outs.length + 1)) (H.set h ⟨39, 1, rnT.flat outs, 2⟩ ++ [⟨39, 1, rnT.flat outs ++ [.sl zi 0 n], 0⟩]) := by
  have hsrc : Src H (ρ x) 1 [.sl zi 0 n] := by
    rw [hx]
    have := Src.sl (H := H) (off := 0) (m := 1) (r := ⟨39, 1, [.sl zi 0 n], 0⟩) hzz (Nat.zero_le _) (Nat.le_refl _)
    exact this
  have hH : H[h]? = some ⟨39, 1, rnT.flat outs, 0⟩ := hH0
  have fl : (rnT.flat outs).length = outs.length := by rw [flat_length]; show outs.length * 1 = _; omega
  have := step_append (P := Go.Proofs.Try.prog) (ρ := ρ) (ty := 27) (m := 1) ho hs hH rfl rfl rfl (by show outs.length * 1 ≤ (rnT.flat outs).length; omega) hsrc rfl (fun c hc => by simp at hc; subst hc; rfl) (by omega) (by simp only [maxLen]; omega)
  have e1 : (⟨39, 1, rnT.flat outs, 0⟩ : Reg).cells.take (outs.length * 1) = rnT.flat outs := by
    show (rnT.flat outs).take _ = _
    rw [List.take_of_length_le]; omega
  rw [e1] at this
  exact this
theorem les_app {ψ : List Nat} : ∀ {cs ds es fs : List V}, Les ψ cs ds → Les ψ es fs → Les ψ (cs ++ es) (ds ++ fs)
  | [], ds, es, fs, h, k => by
    have := les_length h
    rw [List.eq_nil_of_length_eq_zero (show ds.length = 0 from this)]
    exact k
  | c :: cs, ds, es, fs, h, k => by
    rw [Les] at h
    obtain ⟨d, ds', rfl, h1, h2⟩ := h
    exact les_cons h1 (les_app h2 k)
theorem flat_push (outs : List Rn) (run : Rn) : rnT.flat (outs ++ [run]) = rnT.flat outs ++ [rwL run] := by rw [flat_append]; rfl
theorem sub_run {l : List V} {A B C : Reg} {outs : List Rn} {run : Rn} (hA : NoH A.cells) (hB : NoH B.cells) (hC : NoH C.cells) (hl : Les [0, 1, 2, 3] l l) :
    Sub ⟨l, [A, B, C, rnR (outs ++ [run])], 0⟩ ⟨l, [A, B, C, ⟨39, 1, rnT.flat outs ++ [.sl 4 0 run.length], 0⟩, rwR run], 0⟩ := by
  refine Sub.trans ?_ (sub_freeze (h := 4) (r := rwR run) rfl rfl)
  refine Sub.trans ?_ (sub_view (l' := l) (K := [A, B, C, rnR (outs ++ [run]), { rwR run with mode := 1 }]) (.rest _) (.cons (.rest _) (.cons (.rest _) (.cons (.rest _) (.cons ?_ (.rest _))))))
  · exact sub0 [0, 1, 2, 3] rfl rfl (by decide) (.cons rfl rfl rfl rfl (les_refl hA) (.cons rfl rfl rfl rfl (les_refl hB) (.cons rfl rfl rfl rfl (les_refl hC) (.cons rfl rfl rfl rfl (les_refl (flat_noH _ _)) .nil)))) hl
  · rw [flat_push]
    exact VwS.app _ (.cons (.pur (.sl (r := { rwR run with mode := 1 }) rfl (Or.inl rfl) (flat_noH _ _) (show 0 < 3 by omega) (by show (0 + run.length) * 3 ≤ (rwT.flat run).length; rw [flat_length]; show _ ≤ run.length * 3; omega) (by show rwT.flat run = ((rwT.flat run).drop (0 * 3)).take (run.length * 3); rw [Nat.zero_mul, List.drop_zero, List.take_of_length_le (by rw [flat_length]; exact Nat.le_refl _)]))) (.rest _))
theorem purs_app {live : Bool} {H : List Reg} : ∀ {cs ds es fs : List V}, Purs live H cs ds → Purs live H es fs → Purs live H (cs ++ es) (ds ++ fs)
  | _, _, _, _, .nil, k => k
  | _, _, _, _, .cons h hs, k => .cons h (purs_app hs k)
theorem purs_same {live : Bool} {H : List Reg} : ∀ {cs : List V}, NoH cs → Purs live H cs cs
  | [], _ => .nil
  | c :: cs, h => .cons (.same (h c (List.mem_cons_self ..))) (purs_same fun d hd => h d (List.mem_cons_of_mem _ hd))
theorem pur_mix {H : List Reg} {h zi ty : Nat} {outs : List Rn} {run : Rn} (hH : H[h]? = some ⟨ty, 1, rnT.flat outs ++ [.sl zi 0 run.length], 0⟩) (hz : H[zi]? = some (rwR run)) : Pur true H (.sl h 0 (outs.length + 1)) (rnL (outs ++ [run])) := by
  have fl : (rnT.flat outs).length = outs.length := by rw [flat_length]; show outs.length * 1 = _; omega
  have e : (outs ++ [run]).length = outs.length + 1 := by simp
  rw [← e]
  refine .slN hH (Or.inr ⟨rfl, rfl⟩) (Nat.lt_succ_self 0) (by simp only [List.length_append, fl, List.length_singleton]; omega) ?_
  have q : (List.take ((outs ++ [run]).length * 1) (List.drop (0 * 1) (rnT.flat outs ++ [.sl zi 0 run.length]))) = rnT.flat outs ++ [.sl zi 0 run.length] := by
    rw [Nat.zero_mul, List.drop_zero, List.take_of_length_le (by simp only [List.length_append, fl, List.length_singleton]; omega)]
  show Purs true H (List.take ((outs ++ [run]).length * 1) (List.drop (0 * 1) (rnT.flat outs ++ [.sl zi 0 run.length]))) (rnT.flat (outs ++ [run]))
  rw [q, flat_push]
  exact purs_app (purs_same (flat_noH _ _)) (.cons (pur_row hz) .nil)
end Go.Proofs.Ytkcicbigpbdjpaa.Ab

/- BrB -/
namespace Go.Proofs.Ytkcicbigpbdjpaa.Ab
open Go.RowKit

theorem aw_joinAt {P : Program} (id : Nat) {ops : Array Oper} {b : Bool} {c y : Code} {Q : Exit → St → Prop} {S : St} (T : St) (h : AW P (.seq (.region id ops b) c) (fun e S' => e = .normal ∧ Sub T S') S) (k : AW P y Q T) : AW P (.seq (.seq (.region id ops b) c) y) Q S :=
  aw_seq ⟨fun C φ a w hI => wp_mono (h.out C φ a w hI) fun e a' w' hq => by
    obtain ⟨S', φ1, hI', he, hs⟩ := hq
    subst he
    obtain ⟨φ2, h2⟩ := hs C φ1 a' w' hI'
    exact ⟨T, φ2, h2, k⟩⟩
theorem c_sbr (xs : List Rw) (g : Int) (out : List Rn) (hv : avR xs = true) (h1 : inV g 8 60 = true) (h : BrR xs g bs0 out) : Meets Go.Proofs.Try.prog 18 [rwL xs, I g] [] (.tup [rnL out, B true]) [] true := by
  have hl := (avR_iff'.1 hv).2
  have a1 := c_savR xs (by omega)
  rw [hv] at a1
  have a2 := c_in g 8 60
  rw [h1] at a2
  refine meets_of [4, 5] Go.Proofs.Try.func18 rfl rfl ?_
  simp only [Go.Proofs.Try.ntmps18, List.length_cons, List.length_nil, Nat.reduceAdd, Nat.reduceSub, List.replicate_succ, List.replicate_zero, List.cons_append, List.nil_append]
  repeat' first
    | refine aw_seq ?_
    | refine aw_region ?_
    | refine aw_lex [] ?_
    | (refine isA ?_; refine do_F rfl ?_)
    | (refine isL ?_; refine lex_F rfl (by kernel_rfl) rfl rfl ?_)
    | (refine isLg rfl ?_; refine lex_S rfl (by kernel_rfl) rfl rfl ?_)
    | (refine isAc 93 ?_; refine do_R rfl (st_call rfl a1 (.cons (.same rfl) .nil) rfl) rfl ?_)
    | (refine isLc 93 rfl ?_; refine lex_R rfl (by kernel_rfl) rfl (st_call rfl a1 (.cons (.same rfl) .nil) rfl) rfl ?_)
    | (refine isAc 114 ?_; refine do_R rfl (st_call rfl a2 (.cons (.same rfl) (.cons (.same rfl) (.cons (.same rfl) .nil))) rfl) rfl ?_)
    | (refine isLc 114 rfl ?_; refine lex_R rfl (by kernel_rfl) rfl (st_call rfl a2 (.cons (.same rfl) (.cons (.same rfl) (.cons (.same rfl) .nil))) rfl) rfl ?_)
    | refine aops_nil ?_
    | refine lex_done _ rfl (by kernel_rfl) ?_
    | refine aw_ct rfl ?_
    | refine aw_cf rfl ?_
    | refine aw_block ?_
    | with_reducible refine then_n ?_
    | refine aw_skip ?_
    | refine aw_exit ?_
    | with_reducible refine then_x ?_
    | with_reducible refine then_r ?_
    | with_reducible refine block_x ?_
    | with_reducible refine block_n ?_
    | with_reducible refine block_r ?_
    | refine aw_ret ?_
  refine aw_loop (α := { s : Bs // BsOk xs s ∧ BrR xs g s out }) (fun s => ⟨((rwL xs) :: (I g) :: .any :: .any :: .any :: .any :: (.sl 3 0 s.1.outs.length) :: (.sl 2 0 s.1.run.length) :: (.sl 0 0 s.1.cur.length) :: (.sl 1 0 s.1.dfr.length) :: (I s.1.pos) :: .any :: .any :: .any :: .any :: .any :: .any :: .any :: .any :: .any :: .any :: .any :: .any :: .any :: .any :: .any :: .any :: .any :: .any :: .any :: .any :: .any :: .any :: .any :: .any :: .any :: .any :: .any :: .any :: .any :: .any :: .any :: .any :: .any :: .any :: .any :: .any :: .any :: .any :: .any :: .any :: .any :: .any :: .any :: .any :: .any :: .any :: .any :: .any :: .any :: .any :: .any :: .any :: .any :: .any :: .any :: .any :: .any :: .any :: .any :: .any :: .any :: .any :: .any :: .any :: .any :: .any :: .any :: .any :: .any :: .any :: .any :: .any :: .any :: .any :: .any :: .any :: .any :: .any :: .any :: .any :: .any :: .any :: .any :: .any :: .any :: .any :: .any :: .any :: .any :: .any :: .any :: .any :: .any :: .any :: .any :: .any :: .any :: .any :: .any :: .any :: .any :: .any :: .any :: .any :: .any :: .any :: .any :: .any :: .any :: .any :: []), [rwR s.1.cur, rwR s.1.dfr, rwR s.1.run, rnR s.1.outs], 0⟩) (fun s => bmu xs s.1) ⟨bs0, bs0_ok xs, h⟩ ?_ ?_
  · exact sub0 [2, 3, 1, 0] rfl rfl (by decide) (by repeat' first | exact HLes.nil | refine HLes.cons rfl rfl rfl rfl ?_ ?_ | exact les_nil | refine les_cons ?_ ?_ | exact le_any | exact le_refl rfl | exact le_sl rfl rfl | exact le_ptr rfl) (by repeat' first | exact les_nil | refine les_cons ?_ ?_ | exact le_any | exact le_refl rfl | exact le_sl rfl rfl | exact le_ptr rfl)
  · rintro ⟨s, hok, hb⟩
    have t1 := hok.tot
    have t2 := hok.pos
    have t3 := hok.outs
    have b1 := tot_b s.cur
    have b2 := tot_b s.dfr
    simp only
    cases hb with
    | @put _ r _ hr hf t =>
      have hlt := (List.getElem?_eq_some_iff.1 hr).1
      have b3 := cost_b r
      repeat' first
        | refine aw_seq ?_
        | refine aw_region ?_
        | refine aw_lex [] ?_
        | (refine isA ?_; refine do_F rfl ?_)
        | (refine isL ?_; refine lex_F rfl (by kernel_rfl) rfl rfl ?_)
        | (refine isLg rfl ?_; refine lex_S rfl (by kernel_rfl) rfl rfl ?_)
        | refine aops_nil ?_
        | refine lex_done _ rfl (by kernel_rfl) ?_
        | refine aw_ct rfl ?_
        | refine aw_cf rfl ?_
        | refine aw_block ?_
        | with_reducible refine then_n ?_
        | refine aw_skip ?_
        | refine aw_exit ?_
        | with_reducible refine then_x ?_
        | with_reducible refine then_r ?_
        | with_reducible refine block_x ?_
        | with_reducible refine block_n ?_
        | with_reducible refine block_r ?_
        | refine aw_ret ?_
      refine do_br rfl rfl (fun p => ?_) (fun p => absurd (of_decide_eq_false p) (by omega))
      repeat' first
        | refine aw_seq ?_
        | refine aw_region ?_
        | refine aw_lex [] ?_
        | (refine isA ?_; refine do_F rfl ?_)
        | (refine isL ?_; refine lex_F rfl (by kernel_rfl) rfl rfl ?_)
        | (refine isLg rfl ?_; refine lex_S rfl (by kernel_rfl) rfl rfl ?_)
        | refine aops_nil ?_
        | refine lex_done _ rfl (by kernel_rfl) ?_
        | refine aw_ct rfl ?_
        | refine aw_cf rfl ?_
        | refine aw_block ?_
        | with_reducible refine then_n ?_
        | refine aw_skip ?_
        | refine aw_exit ?_
        | with_reducible refine then_x ?_
        | with_reducible refine then_r ?_
        | with_reducible refine block_x ?_
        | with_reducible refine block_n ?_
        | with_reducible refine block_r ?_
        | refine aw_ret ?_
      refine lex_br rfl rfl rfl rfl (fun p => ?_) (fun p => absurd (of_decide_eq_false p) (by omega))
      repeat' first
        | refine aw_seq ?_
        | refine aw_region ?_
        | refine aw_lex [] ?_
        | (refine isA ?_; refine do_F rfl ?_)
        | (refine isL ?_; refine lex_F rfl (by kernel_rfl) rfl rfl ?_)
        | (refine isLg rfl ?_; refine lex_S rfl (by kernel_rfl) rfl rfl ?_)
        | (refine isAc 31 (x := #[.tmp 42]) ?_; refine do_R rfl (st_call rfl (c_stot s.cur (by omega)) (.cons (pur_row rfl) .nil) rfl) rfl ?_)
        | (refine isLc 31 (x := #[.tmp 42]) rfl ?_; refine lex_R rfl (by kernel_rfl) rfl (st_call rfl (c_stot s.cur (by omega)) (.cons (pur_row rfl) .nil) rfl) rfl ?_)
        | (refine isAc 31 (x := #[.tmp 44]) ?_; refine do_R rfl (st_call rfl (c_stot s.dfr (by omega)) (.cons (pur_row rfl) .nil) rfl) rfl ?_)
        | (refine isLc 31 (x := #[.tmp 44]) rfl ?_; refine lex_R rfl (by kernel_rfl) rfl (st_call rfl (c_stot s.dfr (by omega)) (.cons (pur_row rfl) .nil) rfl) rfl ?_)
        | (refine isAi (x := .tmp 47) ?_; refine do_R rfl (ia_l (t := rwT) (z := r) rfl rfl rfl rfl (Int.natCast_nonneg _) hr) rfl ?_)
        | (refine isLi (x := .tmp 47) rfl ?_; refine lex_R rfl (by kernel_rfl) rfl (ia_l (t := rwT) (z := r) rfl rfl rfl rfl (Int.natCast_nonneg _) hr) rfl ?_)
        | (refine isAc 115 ?_; refine do_R rfl (st_call rfl (c_src r) (.cons (.same rfl) .nil) rfl) rfl ?_)
        | (refine isLc 115 rfl ?_; refine lex_R rfl (by kernel_rfl) rfl (st_call rfl (c_src r) (.cons (.same rfl) .nil) rfl) rfl ?_)
        | refine aops_nil ?_
        | refine lex_done _ rfl (by kernel_rfl) ?_
        | refine aw_ct rfl ?_
        | refine aw_cf rfl ?_
        | refine aw_block ?_
        | with_reducible refine then_n ?_
        | refine aw_skip ?_
        | refine aw_exit ?_
        | with_reducible refine then_x ?_
        | with_reducible refine then_r ?_
        | with_reducible refine block_x ?_
        | with_reducible refine block_n ?_
        | with_reducible refine block_r ?_
        | refine aw_ret ?_
      refine aw_cond rfl (fun _ => ?_) (fun p => absurd (of_decide_eq_false p) (by rw [totsum (by omega) (by omega) b3]; omega))
      have q := put_ok hok hr
      rcases Nat.eq_zero_or_pos s.run.length with h0 | h0
      · have hb : bel r s.run = false := by rw [List.eq_nil_of_length_eq_zero h0]; rfl
        rw [bput, hb, cond_false] at t q
        repeat' first
          | refine aw_seq ?_
          | refine aw_region ?_
          | refine aw_lex [] ?_
          | (refine isA ?_; refine do_F rfl ?_)
          | (refine isL ?_; refine lex_F rfl (by kernel_rfl) rfl rfl ?_)
          | (refine isLg rfl ?_; refine lex_S rfl (by kernel_rfl) rfl rfl ?_)
          | refine aops_nil ?_
          | refine lex_done _ rfl (by kernel_rfl) ?_
          | refine aw_ct rfl ?_
          | refine aw_cf rfl ?_
          | refine aw_block ?_
          | with_reducible refine then_n ?_
          | refine aw_skip ?_
          | refine aw_exit ?_
          | with_reducible refine then_x ?_
          | with_reducible refine then_r ?_
          | with_reducible refine block_x ?_
          | with_reducible refine block_n ?_
          | with_reducible refine block_r ?_
          | refine aw_ret ?_
        refine lex_br rfl rfl rfl rfl (fun p => absurd (of_decide_eq_true p) (by omega)) (fun p => ?_)
        repeat' first
          | (refine isA ?_; refine do_R rfl (lit_of rfl rfl rfl rfl rfl) rfl ?_)
          | refine aw_seq ?_
          | refine aw_region ?_
          | refine aw_lex [] ?_
          | (refine isA ?_; refine do_F rfl ?_)
          | (refine isL ?_; refine lex_F rfl (by kernel_rfl) rfl rfl ?_)
          | (refine isLg rfl ?_; refine lex_S rfl (by kernel_rfl) rfl rfl ?_)
          | (refine isAi (x := .tmp 81) ?_; refine do_R rfl (ia_l (t := rwT) (z := r) rfl rfl rfl rfl (Int.natCast_nonneg _) hr) rfl ?_)
          | (refine isLi (x := .tmp 81) rfl ?_; refine lex_R rfl (by kernel_rfl) rfl (ia_l (t := rwT) (z := r) rfl rfl rfl rfl (Int.natCast_nonneg _) hr) rfl ?_)
          | (refine isAp ?_; refine do_R rfl (ap_l (t := rwT) (xs := s.cur) (ys := [r]) rfl rfl rfl rfl (.lst _ _) (by simp; omega) rfl) rfl ?_)
          | (refine isLp rfl ?_; refine lex_R rfl (by kernel_rfl) rfl (ap_l (t := rwT) (xs := s.cur) (ys := [r]) rfl rfl rfl rfl (.lst _ _) (by simp; omega) rfl) rfl ?_)
          | refine aops_nil ?_
          | refine lex_done _ rfl (by kernel_rfl) ?_
          | refine aw_ct rfl ?_
          | refine aw_cf rfl ?_
          | refine aw_block ?_
          | with_reducible refine then_n ?_
          | refine aw_skip ?_
          | refine aw_exit ?_
          | with_reducible refine then_x ?_
          | with_reducible refine then_r ?_
          | with_reducible refine block_x ?_
          | with_reducible refine block_n ?_
          | with_reducible refine block_r ?_
          | refine aw_ret ?_
        refine ⟨⟨_, q.1, t⟩, q.2, ?_⟩
        exact sub0 [4, 1, 2, 3] rfl rfl (by decide) (by repeat' first | exact HLes.nil | refine HLes.cons rfl rfl rfl rfl (les_refl (flat_noH _ _)) ?_) (by
          repeat' first
            | exact les_nil
            | refine les_cons ?_ ?_
            | exact le_any
            | exact le_refl rfl
            | exact le_sl rfl rfl
            | exact le_sl rfl (by simp)
            | exact le_i (by assumption) (by omega))
      · obtain ⟨y, hy⟩ : ∃ z, s.run[s.run.length - 1]? = some z := ⟨_, List.getElem?_eq_getElem (by omega)⟩
        have ew : IntKind.i64.wrap ((s.run.length : Int) - 1) = ((s.run.length - 1 : Nat) : Int) := by rw [IntKind.wrap_i64]; omega
        have hbe : bel r s.run = decide (cmpV r y < 0) := by unfold bel; rw [hy]; rfl
        repeat' first
          | refine aw_seq ?_
          | refine aw_region ?_
          | refine aw_lex [] ?_
          | (refine isA ?_; refine do_F rfl ?_)
          | (refine isL ?_; refine lex_F rfl (by kernel_rfl) rfl rfl ?_)
          | (refine isLg rfl ?_; refine lex_S rfl (by kernel_rfl) rfl rfl ?_)
          | refine aops_nil ?_
          | refine lex_done _ rfl (by kernel_rfl) ?_
          | refine aw_ct rfl ?_
          | refine aw_cf rfl ?_
          | refine aw_block ?_
          | with_reducible refine then_n ?_
          | refine aw_skip ?_
          | refine aw_exit ?_
          | with_reducible refine then_x ?_
          | with_reducible refine then_r ?_
          | with_reducible refine block_x ?_
          | with_reducible refine block_n ?_
          | with_reducible refine block_r ?_
          | refine aw_ret ?_
        refine lex_br rfl rfl rfl rfl (fun p => ?_) (fun p => absurd (of_decide_eq_false p) (by omega))
        repeat' first
          | refine aw_seq ?_
          | refine aw_region ?_
          | refine aw_lex [] ?_
          | (refine isA ?_; refine do_F rfl ?_)
          | (refine isL ?_; refine lex_F rfl (by kernel_rfl) rfl rfl ?_)
          | (refine isLg rfl ?_; refine lex_S rfl (by kernel_rfl) rfl rfl ?_)
          | (refine isAi (x := .tmp 60) ?_; refine do_R rfl (ia_l (t := rwT) (z := r) rfl rfl rfl rfl (Int.natCast_nonneg _) hr) rfl ?_)
          | (refine isLi (x := .tmp 60) rfl ?_; refine lex_R rfl (by kernel_rfl) rfl (ia_l (t := rwT) (z := r) rfl rfl rfl rfl (Int.natCast_nonneg _) hr) rfl ?_)
          | (refine isAi (x := .tmp 64) ?_; refine do_R rfl (step_ia_sl (j := ((s.run.length - 1 : Nat) : Int)) rfl rfl rfl (Nat.zero_le _) rfl (congrArg I ew) (Int.natCast_nonneg _) (by omega)) rfl ?_)
          | (refine isLi (x := .tmp 64) rfl ?_; refine lex_R rfl (by kernel_rfl) rfl (step_ia_sl (j := ((s.run.length - 1 : Nat) : Int)) rfl rfl rfl (Nat.zero_le _) rfl (congrArg I ew) (Int.natCast_nonneg _) (by omega)) rfl ?_)
          | (refine isAl (x := .tmp 68) ?_; refine do_R rfl (ld_a (T := rwT) (i := 0 + (s.run.length - 1)) (z := y) rfl rfl rfl (by rw [Nat.zero_add]; exact hy)) rfl ?_)
          | (refine isLl (x := .tmp 68) rfl ?_; refine lex_R rfl (by kernel_rfl) rfl (ld_a (T := rwT) (i := 0 + (s.run.length - 1)) (z := y) rfl rfl rfl (by rw [Nat.zero_add]; exact hy)) rfl ?_)
          | (refine isAc 116 ?_; refine do_R rfl (st_call rfl (c_scmp r y) (.cons (.same rfl) (.cons (.same rfl) .nil)) rfl) rfl ?_)
          | (refine isLc 116 rfl ?_; refine lex_R rfl (by kernel_rfl) rfl (st_call rfl (c_scmp r y) (.cons (.same rfl) (.cons (.same rfl) .nil)) rfl) rfl ?_)
          | refine aops_nil ?_
          | refine lex_done _ rfl (by kernel_rfl) ?_
          | refine aw_ct rfl ?_
          | refine aw_cf rfl ?_
          | refine aw_block ?_
          | with_reducible refine then_n ?_
          | refine aw_skip ?_
          | refine aw_exit ?_
          | with_reducible refine then_x ?_
          | with_reducible refine then_r ?_
          | with_reducible refine block_x ?_
          | with_reducible refine block_n ?_
          | with_reducible refine block_r ?_
          | refine aw_ret ?_
        refine aw_cond rfl (fun p2 => ?_) (fun p2 => ?_)
        · rw [bput, hbe, p2, cond_true] at t q
          repeat' first
            | (refine isA ?_; refine do_R rfl (lit_of rfl rfl rfl rfl rfl) rfl ?_)
            | refine aw_seq ?_
            | refine aw_region ?_
            | refine aw_lex [] ?_
            | (refine isA ?_; refine do_F rfl ?_)
            | (refine isL ?_; refine lex_F rfl (by kernel_rfl) rfl rfl ?_)
            | (refine isLg rfl ?_; refine lex_S rfl (by kernel_rfl) rfl rfl ?_)
            | (refine isAi (x := .tmp 74) ?_; refine do_R rfl (ia_l (t := rwT) (z := r) rfl rfl rfl rfl (Int.natCast_nonneg _) hr) rfl ?_)
            | (refine isLi (x := .tmp 74) rfl ?_; refine lex_R rfl (by kernel_rfl) rfl (ia_l (t := rwT) (z := r) rfl rfl rfl rfl (Int.natCast_nonneg _) hr) rfl ?_)
            | (refine isAp ?_; refine do_R rfl (ap_l (t := rwT) (xs := s.dfr) (ys := [r]) rfl rfl rfl rfl (.lst _ _) (by simp; omega) rfl) rfl ?_)
            | (refine isLp rfl ?_; refine lex_R rfl (by kernel_rfl) rfl (ap_l (t := rwT) (xs := s.dfr) (ys := [r]) rfl rfl rfl rfl (.lst _ _) (by simp; omega) rfl) rfl ?_)
            | refine aops_nil ?_
            | refine lex_done _ rfl (by kernel_rfl) ?_
            | refine aw_ct rfl ?_
            | refine aw_cf rfl ?_
            | refine aw_block ?_
            | with_reducible refine then_n ?_
            | refine aw_skip ?_
            | refine aw_exit ?_
            | with_reducible refine then_x ?_
            | with_reducible refine then_r ?_
            | with_reducible refine block_x ?_
            | with_reducible refine block_n ?_
            | with_reducible refine block_r ?_
            | refine aw_ret ?_
          refine ⟨⟨_, q.1, t⟩, q.2, ?_⟩
          exact sub0 [0, 4, 2, 3] rfl rfl (by decide) (by repeat' first | exact HLes.nil | refine HLes.cons rfl rfl rfl rfl (les_refl (flat_noH _ _)) ?_) (by
            repeat' first
              | exact les_nil
              | refine les_cons ?_ ?_
              | exact le_any
              | exact le_refl rfl
              | exact le_sl rfl rfl
              | exact le_sl rfl (by simp)
              | exact le_i (by assumption) (by omega))
        · rw [bput, hbe, p2, cond_false] at t q
          repeat' first
            | (refine isA ?_; refine do_R rfl (lit_of rfl rfl rfl rfl rfl) rfl ?_)
            | refine aw_seq ?_
            | refine aw_region ?_
            | refine aw_lex [] ?_
            | (refine isA ?_; refine do_F rfl ?_)
            | (refine isL ?_; refine lex_F rfl (by kernel_rfl) rfl rfl ?_)
            | (refine isLg rfl ?_; refine lex_S rfl (by kernel_rfl) rfl rfl ?_)
            | (refine isAi (x := .tmp 81) ?_; refine do_R rfl (ia_l (t := rwT) (z := r) rfl rfl rfl rfl (Int.natCast_nonneg _) hr) rfl ?_)
            | (refine isLi (x := .tmp 81) rfl ?_; refine lex_R rfl (by kernel_rfl) rfl (ia_l (t := rwT) (z := r) rfl rfl rfl rfl (Int.natCast_nonneg _) hr) rfl ?_)
            | (refine isAp ?_; refine do_R rfl (ap_l (t := rwT) (xs := s.cur) (ys := [r]) rfl rfl rfl rfl (.lst _ _) (by simp; omega) rfl) rfl ?_)
            | (refine isLp rfl ?_; refine lex_R rfl (by kernel_rfl) rfl (ap_l (t := rwT) (xs := s.cur) (ys := [r]) rfl rfl rfl rfl (.lst _ _) (by simp; omega) rfl) rfl ?_)
            | refine aops_nil ?_
            | refine lex_done _ rfl (by kernel_rfl) ?_
            | refine aw_ct rfl ?_
            | refine aw_cf rfl ?_
            | refine aw_block ?_
            | with_reducible refine then_n ?_
            | refine aw_skip ?_
            | refine aw_exit ?_
            | with_reducible refine then_x ?_
            | with_reducible refine then_r ?_
            | with_reducible refine block_x ?_
            | with_reducible refine block_n ?_
            | with_reducible refine block_r ?_
            | refine aw_ret ?_
          refine ⟨⟨_, q.1, t⟩, q.2, ?_⟩
          exact sub0 [4, 1, 2, 3] rfl rfl (by decide) (by repeat' first | exact HLes.nil | refine HLes.cons rfl rfl rfl rfl (les_refl (flat_noH _ _)) ?_) (by
            repeat' first
              | exact les_nil
              | refine les_cons ?_ ?_
              | exact le_any
              | exact le_refl rfl
              | exact le_sl rfl rfl
              | exact le_sl rfl (by simp)
              | exact le_i (by assumption) (by omega))
    | @pop _ k r _ hf hc hk hr t =>
      have hlt := (List.getElem?_eq_some_iff.1 hr).1
      have q := pop_ok hok hr
      repeat' first
        | (refine aw_joinAt 8 ⟨((rwL xs) :: (I g) :: .any :: .any :: .any :: .any :: (.sl 3 0 s.outs.length) :: (.sl 2 0 s.run.length) :: (.sl 0 0 s.cur.length) :: (.sl 1 0 s.dfr.length) :: (I s.pos) :: .any :: .any :: .any :: .any :: .any :: .any :: .any :: .any :: .any :: .any :: .any :: .any :: .any :: .any :: .any :: .any :: .any :: .any :: .any :: .any :: .any :: .any :: .any :: .any :: .any :: .any :: .any :: .any :: .any :: .any :: .any :: .any :: .any :: .any :: .any :: .any :: .any :: .any :: .any :: .any :: .any :: .any :: .any :: .any :: .any :: .any :: .any :: .any :: .any :: .any :: .any :: .any :: .any :: .any :: .any :: .any :: .any :: .any :: .any :: .any :: .any :: .any :: .any :: .any :: .any :: .any :: .any :: .any :: .any :: .any :: .any :: .any :: .any :: .any :: .any :: .any :: .any :: .any :: .any :: .any :: .any :: .any :: .any :: .any :: .any :: .any :: .any :: .any :: .any :: .any :: .any :: .any :: .any :: .any :: .any :: .any :: .any :: .any :: .any :: .any :: .any :: .any :: .any :: .any :: .any :: .any :: .any :: .any :: .any :: .any :: []), [rwR s.cur, rwR s.dfr, rwR s.run, rnR s.outs], 0⟩ ?_ ?_)
        | (refine aw_joinAt 9 ⟨((rwL xs) :: (I g) :: .any :: .any :: .any :: .any :: (.sl 3 0 s.outs.length) :: (.sl 2 0 s.run.length) :: (.sl 0 0 s.cur.length) :: (.sl 1 0 s.dfr.length) :: (I s.pos) :: .any :: .any :: .any :: .any :: .any :: .any :: .any :: .any :: .any :: .any :: .any :: .any :: .any :: .any :: .any :: .any :: .any :: .any :: .any :: .any :: .any :: .any :: .any :: .any :: .any :: .any :: .any :: .any :: .any :: .any :: .any :: .any :: .any :: .any :: .any :: .any :: .any :: .any :: .any :: .any :: .any :: .any :: .any :: .any :: .any :: .any :: .any :: .any :: .any :: .any :: .any :: .any :: .any :: .any :: .any :: .any :: .any :: .any :: .any :: .any :: .any :: .any :: .any :: .any :: .any :: .any :: .any :: .any :: .any :: .any :: .any :: .any :: .any :: .any :: .any :: .any :: .any :: .any :: .any :: .any :: .any :: .any :: .any :: .any :: .any :: .any :: .any :: .any :: .any :: .any :: .any :: .any :: .any :: .any :: .any :: .any :: .any :: .any :: .any :: .any :: .any :: .any :: .any :: .any :: .any :: .any :: .any :: .any :: .any :: .any :: []), [rwR s.cur, rwR s.dfr, rwR s.run, rnR s.outs], 0⟩ ?_ ?_)
        | refine aw_seq ?_
        | refine aw_region ?_
        | refine aw_lex [] ?_
        | (refine isA ?_; refine do_F rfl ?_)
        | (refine isL ?_; refine lex_F rfl (by kernel_rfl) rfl rfl ?_)
        | (refine isLg rfl ?_; refine lex_S rfl (by kernel_rfl) rfl rfl ?_)
        | (refine isAc 31 (x := #[.tmp 42]) ?_; refine do_R rfl (st_call rfl (c_stot s.cur (by omega)) (.cons (pur_row rfl) .nil) rfl) rfl ?_)
        | (refine isLc 31 (x := #[.tmp 42]) rfl ?_; refine lex_R rfl (by kernel_rfl) rfl (st_call rfl (c_stot s.cur (by omega)) (.cons (pur_row rfl) .nil) rfl) rfl ?_)
        | (refine isAc 31 (x := #[.tmp 44]) ?_; refine do_R rfl (st_call rfl (c_stot s.dfr (by omega)) (.cons (pur_row rfl) .nil) rfl) rfl ?_)
        | (refine isLc 31 (x := #[.tmp 44]) rfl ?_; refine lex_R rfl (by kernel_rfl) rfl (st_call rfl (c_stot s.dfr (by omega)) (.cons (pur_row rfl) .nil) rfl) rfl ?_)
        | refine aops_nil ?_
        | refine lex_done _ rfl (by kernel_rfl) ?_
        | refine aw_ct rfl ?_
        | refine aw_cf rfl ?_
        | refine aw_block ?_
        | with_reducible refine then_n ?_
        | refine aw_skip ?_
        | refine aw_exit ?_
        | with_reducible refine then_x ?_
        | with_reducible refine then_r ?_
        | with_reducible refine block_x ?_
        | with_reducible refine block_n ?_
        | with_reducible refine block_r ?_
        | refine aw_ret ?_
        | refine aw_cond rfl (fun hbr => ?_) (fun hbr => ?_)
        | (refine isAg ?_; refine do_br rfl rfl (fun hbr => ?_) (fun hbr => ?_) <;> (fail_if_success (with_reducible (have hx : true = true := hbr))) <;> (fail_if_success (with_reducible (have hx : false = false := hbr))))
        | (refine isLg rfl ?_; refine lex_br rfl rfl rfl rfl (fun hbr => ?_) (fun hbr => ?_) <;> (fail_if_success (with_reducible (have hx : true = true := hbr))) <;> (fail_if_success (with_reducible (have hx : false = false := hbr))))
      · exact ⟨rfl, sub0 [0, 1, 2, 3] rfl rfl (by decide) (by repeat' first | exact HLes.nil | refine HLes.cons rfl rfl rfl rfl (les_refl (flat_noH _ _)) ?_) (by repeat' first | exact les_nil | refine les_cons ?_ ?_ | exact le_any | exact le_refl rfl | exact le_sl rfl rfl | exact le_ptr rfl)⟩
      · exact ⟨rfl, sub0 [0, 1, 2, 3] rfl rfl (by decide) (by repeat' first | exact HLes.nil | refine HLes.cons rfl rfl rfl rfl (les_refl (flat_noH _ _)) ?_) (by repeat' first | exact les_nil | refine les_cons ?_ ?_ | exact le_any | exact le_refl rfl | exact le_sl rfl rfl | exact le_ptr rfl)⟩
      · exact absurd (of_decide_eq_false hbr) (by rw [IntKind.wrap_i64]; omega)
      · have hlp : s.pos < xs.length := by have := of_decide_eq_true hbr; omega
        obtain ⟨z, hz⟩ : ∃ z, xs[s.pos]? = some z := ⟨_, List.getElem?_eq_getElem hlp⟩
        have hfz := hf z hz
        have b3 := cost_b z
        repeat' first
          | refine aw_seq ?_
          | refine aw_region ?_
          | refine aw_lex [] ?_
          | (refine isA ?_; refine do_F rfl ?_)
          | (refine isL ?_; refine lex_F rfl (by kernel_rfl) rfl rfl ?_)
          | (refine isLg rfl ?_; refine lex_S rfl (by kernel_rfl) rfl rfl ?_)
          | (refine isAi (x := .tmp 47) ?_; refine do_R rfl (ia_l (t := rwT) (z := z) rfl rfl rfl rfl (Int.natCast_nonneg _) hz) rfl ?_)
          | (refine isLi (x := .tmp 47) rfl ?_; refine lex_R rfl (by kernel_rfl) rfl (ia_l (t := rwT) (z := z) rfl rfl rfl rfl (Int.natCast_nonneg _) hz) rfl ?_)
          | (refine isAc 115 ?_; refine do_R rfl (st_call rfl (c_src z) (.cons (.same rfl) .nil) rfl) rfl ?_)
          | (refine isLc 115 rfl ?_; refine lex_R rfl (by kernel_rfl) rfl (st_call rfl (c_src z) (.cons (.same rfl) .nil) rfl) rfl ?_)
          | refine aops_nil ?_
          | refine lex_done _ rfl (by kernel_rfl) ?_
          | refine aw_ct rfl ?_
          | refine aw_cf rfl ?_
          | refine aw_block ?_
          | with_reducible refine then_n ?_
          | refine aw_skip ?_
          | refine aw_exit ?_
          | with_reducible refine then_x ?_
          | with_reducible refine then_r ?_
          | with_reducible refine block_x ?_
          | with_reducible refine block_n ?_
          | with_reducible refine block_r ?_
          | refine aw_ret ?_
        refine aw_cond rfl (fun p => absurd (of_decide_eq_true p) (by rw [totsum (by omega) (by omega) b3]; omega)) (fun p => ?_)
        repeat' first
          | refine aw_seq ?_
          | refine aw_region ?_
          | refine aw_lex [] ?_
          | (refine isA ?_; refine do_F rfl ?_)
          | (refine isL ?_; refine lex_F rfl (by kernel_rfl) rfl rfl ?_)
          | (refine isLg rfl ?_; refine lex_S rfl (by kernel_rfl) rfl rfl ?_)
          | exact ⟨rfl, sub0 [0, 1, 2, 3] rfl rfl (by decide) (by repeat' first | exact HLes.nil | refine HLes.cons rfl rfl rfl rfl (les_refl (flat_noH _ _)) ?_) (by repeat' first | exact les_nil | refine les_cons ?_ ?_ | exact le_any | exact le_refl rfl | exact le_sl rfl rfl | exact le_ptr rfl)⟩
          | refine aops_nil ?_
          | refine lex_done _ rfl (by kernel_rfl) ?_
          | refine aw_ct rfl ?_
          | refine aw_cf rfl ?_
          | refine aw_block ?_
          | with_reducible refine then_n ?_
          | refine aw_skip ?_
          | refine aw_exit ?_
          | with_reducible refine then_x ?_
          | with_reducible refine then_r ?_
          | with_reducible refine block_x ?_
          | with_reducible refine block_n ?_
          | with_reducible refine block_r ?_
          | refine aw_ret ?_
      · exact ⟨rfl, sub0 [0, 1, 2, 3] rfl rfl (by decide) (by repeat' first | exact HLes.nil | refine HLes.cons rfl rfl rfl rfl (les_refl (flat_noH _ _)) ?_) (by repeat' first | exact les_nil | refine les_cons ?_ ?_ | exact le_any | exact le_refl rfl | exact le_sl rfl rfl | exact le_ptr rfl)⟩
      · exact absurd (of_decide_eq_true hbr) (by omega)
      · have am := c_smin s.cur (by omega)
        rw [hk] at am
        have dl : (s.cur.take k ++ s.cur.drop (k + 1)).length = s.cur.length - 1 := by simp; omega
        repeat' first
          | (refine isA ?_; refine do_R rfl (lit_of rfl rfl rfl rfl rfl) rfl ?_)
          | refine aw_seq ?_
          | refine aw_region ?_
          | refine aw_lex [] ?_
          | (refine isA ?_; refine do_F rfl ?_)
          | (refine isL ?_; refine lex_F rfl (by kernel_rfl) rfl rfl ?_)
          | (refine isLg rfl ?_; refine lex_S rfl (by kernel_rfl) rfl rfl ?_)
          | (refine isAc 27 ?_; refine do_R rfl (st_call rfl am (.cons (pur_row rfl) .nil) rfl) rfl ?_)
          | (refine isLc 27 rfl ?_; refine lex_R rfl (by kernel_rfl) rfl (st_call rfl am (.cons (pur_row rfl) .nil) rfl) rfl ?_)
          | (refine isAi (x := .tmp 103) ?_; refine do_R rfl (step_ia_sl (j := (k : Int)) rfl rfl rfl (Nat.zero_le _) rfl rfl (Int.natCast_nonneg _) (by omega)) rfl ?_)
          | (refine isLi (x := .tmp 103) rfl ?_; refine lex_R rfl (by kernel_rfl) rfl (step_ia_sl (j := (k : Int)) rfl rfl rfl (Nat.zero_le _) rfl rfl (Int.natCast_nonneg _) (by omega)) rfl ?_)
          | (refine isAl (x := .tmp 105) ?_; refine do_R rfl (ld_a (T := rwT) (i := 0 + k) (z := r) rfl rfl rfl (by rw [Nat.zero_add]; exact hr)) rfl ?_)
          | (refine isLl (x := .tmp 105) rfl ?_; refine lex_R rfl (by kernel_rfl) rfl (ld_a (T := rwT) (i := 0 + k) (z := r) rfl rfl rfl (by rw [Nat.zero_add]; exact hr)) rfl ?_)
          | (refine isAp ?_; refine do_R rfl (ap_l (t := rwT) (xs := s.run) (ys := [r]) rfl rfl rfl rfl (.lst _ _) (by simp; omega) rfl) rfl ?_)
          | (refine isLp rfl ?_; refine lex_R rfl (by kernel_rfl) rfl (ap_l (t := rwT) (xs := s.run) (ys := [r]) rfl rfl rfl rfl (.lst _ _) (by simp; omega) rfl) rfl ?_)
          | (refine isAc 117 ?_; refine do_R rfl (st_callK rfl (c_drop s.cur k hlt (by omega)) (.cons (pur_row rfl) (.cons (.same rfl) .nil)) (fun q hq => by simp at hq; subst hq; exact flat_noH _ _) rfl rfl) rfl ?_)
          | (refine isLc 117 rfl ?_; refine lex_R rfl (by kernel_rfl) rfl (st_callK rfl (c_drop s.cur k hlt (by omega)) (.cons (pur_row rfl) (.cons (.same rfl) .nil)) (fun q hq => by simp at hq; subst hq; exact flat_noH _ _) rfl rfl) rfl ?_)
          | refine aops_nil ?_
          | refine lex_done _ rfl (by kernel_rfl) ?_
          | refine aw_ct rfl ?_
          | refine aw_cf rfl ?_
          | refine aw_block ?_
          | with_reducible refine then_n ?_
          | refine aw_skip ?_
          | refine aw_exit ?_
          | with_reducible refine then_x ?_
          | with_reducible refine then_r ?_
          | with_reducible refine block_x ?_
          | with_reducible refine block_n ?_
          | with_reducible refine block_r ?_
          | refine aw_ret ?_
        refine ⟨⟨bpop s k r, q.1, t⟩, q.2, ?_⟩
        exact sub0 [5, 1, 4, 3] rfl rfl (by decide) (by repeat' first | exact HLes.nil | refine HLes.cons rfl rfl rfl rfl (les_refl (flat_noH _ _)) ?_) (by
          repeat' first
            | exact les_nil
            | refine les_cons ?_ ?_
            | exact le_any
            | exact le_refl rfl
            | exact le_sl rfl rfl
            | exact le_sl rfl (by simp [bpop]))
    | swap hf hc hd t =>
      have q := swap_ok hok hc hd
      have h0 : s.cur.length = 0 := by rw [hc]; rfl
      repeat' first
        | (refine aw_joinAt 8 ⟨((rwL xs) :: (I g) :: .any :: .any :: .any :: .any :: (.sl 3 0 s.outs.length) :: (.sl 2 0 s.run.length) :: (.sl 0 0 s.cur.length) :: (.sl 1 0 s.dfr.length) :: (I s.pos) :: .any :: .any :: .any :: .any :: .any :: .any :: .any :: .any :: .any :: .any :: .any :: .any :: .any :: .any :: .any :: .any :: .any :: .any :: .any :: .any :: .any :: .any :: .any :: .any :: .any :: .any :: .any :: .any :: .any :: .any :: .any :: .any :: .any :: .any :: .any :: .any :: .any :: .any :: .any :: .any :: .any :: .any :: .any :: .any :: .any :: .any :: .any :: .any :: .any :: .any :: .any :: .any :: .any :: .any :: .any :: .any :: .any :: .any :: .any :: .any :: .any :: .any :: .any :: .any :: .any :: .any :: .any :: .any :: .any :: .any :: .any :: .any :: .any :: .any :: .any :: .any :: .any :: .any :: .any :: .any :: .any :: .any :: .any :: .any :: .any :: .any :: .any :: .any :: .any :: .any :: .any :: .any :: .any :: .any :: .any :: .any :: .any :: .any :: .any :: .any :: .any :: .any :: .any :: .any :: .any :: .any :: .any :: .any :: .any :: .any :: []), [rwR s.cur, rwR s.dfr, rwR s.run, rnR s.outs], 0⟩ ?_ ?_)
        | (refine aw_joinAt 9 ⟨((rwL xs) :: (I g) :: .any :: .any :: .any :: .any :: (.sl 3 0 s.outs.length) :: (.sl 2 0 s.run.length) :: (.sl 0 0 s.cur.length) :: (.sl 1 0 s.dfr.length) :: (I s.pos) :: .any :: .any :: .any :: .any :: .any :: .any :: .any :: .any :: .any :: .any :: .any :: .any :: .any :: .any :: .any :: .any :: .any :: .any :: .any :: .any :: .any :: .any :: .any :: .any :: .any :: .any :: .any :: .any :: .any :: .any :: .any :: .any :: .any :: .any :: .any :: .any :: .any :: .any :: .any :: .any :: .any :: .any :: .any :: .any :: .any :: .any :: .any :: .any :: .any :: .any :: .any :: .any :: .any :: .any :: .any :: .any :: .any :: .any :: .any :: .any :: .any :: .any :: .any :: .any :: .any :: .any :: .any :: .any :: .any :: .any :: .any :: .any :: .any :: .any :: .any :: .any :: .any :: .any :: .any :: .any :: .any :: .any :: .any :: .any :: .any :: .any :: .any :: .any :: .any :: .any :: .any :: .any :: .any :: .any :: .any :: .any :: .any :: .any :: .any :: .any :: .any :: .any :: .any :: .any :: .any :: .any :: .any :: .any :: .any :: .any :: []), [rwR s.cur, rwR s.dfr, rwR s.run, rnR s.outs], 0⟩ ?_ ?_)
        | refine aw_seq ?_
        | refine aw_region ?_
        | refine aw_lex [] ?_
        | (refine isA ?_; refine do_F rfl ?_)
        | (refine isL ?_; refine lex_F rfl (by kernel_rfl) rfl rfl ?_)
        | (refine isLg rfl ?_; refine lex_S rfl (by kernel_rfl) rfl rfl ?_)
        | (refine isAc 31 (x := #[.tmp 42]) ?_; refine do_R rfl (st_call rfl (c_stot s.cur (by omega)) (.cons (pur_row rfl) .nil) rfl) rfl ?_)
        | (refine isLc 31 (x := #[.tmp 42]) rfl ?_; refine lex_R rfl (by kernel_rfl) rfl (st_call rfl (c_stot s.cur (by omega)) (.cons (pur_row rfl) .nil) rfl) rfl ?_)
        | (refine isAc 31 (x := #[.tmp 44]) ?_; refine do_R rfl (st_call rfl (c_stot s.dfr (by omega)) (.cons (pur_row rfl) .nil) rfl) rfl ?_)
        | (refine isLc 31 (x := #[.tmp 44]) rfl ?_; refine lex_R rfl (by kernel_rfl) rfl (st_call rfl (c_stot s.dfr (by omega)) (.cons (pur_row rfl) .nil) rfl) rfl ?_)
        | refine aops_nil ?_
        | refine lex_done _ rfl (by kernel_rfl) ?_
        | refine aw_ct rfl ?_
        | refine aw_cf rfl ?_
        | refine aw_block ?_
        | with_reducible refine then_n ?_
        | refine aw_skip ?_
        | refine aw_exit ?_
        | with_reducible refine then_x ?_
        | with_reducible refine then_r ?_
        | with_reducible refine block_x ?_
        | with_reducible refine block_n ?_
        | with_reducible refine block_r ?_
        | refine aw_ret ?_
        | refine aw_cond rfl (fun hbr => ?_) (fun hbr => ?_)
        | (refine isAg ?_; refine do_br rfl rfl (fun hbr => ?_) (fun hbr => ?_) <;> (fail_if_success (with_reducible (have hx : true = true := hbr))) <;> (fail_if_success (with_reducible (have hx : false = false := hbr))))
        | (refine isLg rfl ?_; refine lex_br rfl rfl rfl rfl (fun hbr => ?_) (fun hbr => ?_) <;> (fail_if_success (with_reducible (have hx : true = true := hbr))) <;> (fail_if_success (with_reducible (have hx : false = false := hbr))))
      · exact ⟨rfl, sub0 [0, 1, 2, 3] rfl rfl (by decide) (by repeat' first | exact HLes.nil | refine HLes.cons rfl rfl rfl rfl (les_refl (flat_noH _ _)) ?_) (by repeat' first | exact les_nil | refine les_cons ?_ ?_ | exact le_any | exact le_refl rfl | exact le_sl rfl rfl | exact le_ptr rfl)⟩
      · exact ⟨rfl, sub0 [0, 1, 2, 3] rfl rfl (by decide) (by repeat' first | exact HLes.nil | refine HLes.cons rfl rfl rfl rfl (les_refl (flat_noH _ _)) ?_) (by repeat' first | exact les_nil | refine les_cons ?_ ?_ | exact le_any | exact le_refl rfl | exact le_sl rfl rfl | exact le_ptr rfl)⟩
      · exact absurd (of_decide_eq_false hbr) (by rw [IntKind.wrap_i64]; omega)
      · have hlp : s.pos < xs.length := by have := of_decide_eq_true hbr; omega
        obtain ⟨z, hz⟩ : ∃ z, xs[s.pos]? = some z := ⟨_, List.getElem?_eq_getElem hlp⟩
        have hfz := hf z hz
        have b3 := cost_b z
        repeat' first
          | refine aw_seq ?_
          | refine aw_region ?_
          | refine aw_lex [] ?_
          | (refine isA ?_; refine do_F rfl ?_)
          | (refine isL ?_; refine lex_F rfl (by kernel_rfl) rfl rfl ?_)
          | (refine isLg rfl ?_; refine lex_S rfl (by kernel_rfl) rfl rfl ?_)
          | (refine isAi (x := .tmp 47) ?_; refine do_R rfl (ia_l (t := rwT) (z := z) rfl rfl rfl rfl (Int.natCast_nonneg _) hz) rfl ?_)
          | (refine isLi (x := .tmp 47) rfl ?_; refine lex_R rfl (by kernel_rfl) rfl (ia_l (t := rwT) (z := z) rfl rfl rfl rfl (Int.natCast_nonneg _) hz) rfl ?_)
          | (refine isAc 115 ?_; refine do_R rfl (st_call rfl (c_src z) (.cons (.same rfl) .nil) rfl) rfl ?_)
          | (refine isLc 115 rfl ?_; refine lex_R rfl (by kernel_rfl) rfl (st_call rfl (c_src z) (.cons (.same rfl) .nil) rfl) rfl ?_)
          | refine aops_nil ?_
          | refine lex_done _ rfl (by kernel_rfl) ?_
          | refine aw_ct rfl ?_
          | refine aw_cf rfl ?_
          | refine aw_block ?_
          | with_reducible refine then_n ?_
          | refine aw_skip ?_
          | refine aw_exit ?_
          | with_reducible refine then_x ?_
          | with_reducible refine then_r ?_
          | with_reducible refine block_x ?_
          | with_reducible refine block_n ?_
          | with_reducible refine block_r ?_
          | refine aw_ret ?_
        refine aw_cond rfl (fun p => absurd (of_decide_eq_true p) (by rw [totsum (by omega) (by omega) b3]; omega)) (fun p => ?_)
        repeat' first
          | refine aw_seq ?_
          | refine aw_region ?_
          | refine aw_lex [] ?_
          | (refine isA ?_; refine do_F rfl ?_)
          | (refine isL ?_; refine lex_F rfl (by kernel_rfl) rfl rfl ?_)
          | (refine isLg rfl ?_; refine lex_S rfl (by kernel_rfl) rfl rfl ?_)
          | exact ⟨rfl, sub0 [0, 1, 2, 3] rfl rfl (by decide) (by repeat' first | exact HLes.nil | refine HLes.cons rfl rfl rfl rfl (les_refl (flat_noH _ _)) ?_) (by repeat' first | exact les_nil | refine les_cons ?_ ?_ | exact le_any | exact le_refl rfl | exact le_sl rfl rfl | exact le_ptr rfl)⟩
          | refine aops_nil ?_
          | refine lex_done _ rfl (by kernel_rfl) ?_
          | refine aw_ct rfl ?_
          | refine aw_cf rfl ?_
          | refine aw_block ?_
          | with_reducible refine then_n ?_
          | refine aw_skip ?_
          | refine aw_exit ?_
          | with_reducible refine then_x ?_
          | with_reducible refine then_r ?_
          | with_reducible refine block_x ?_
          | with_reducible refine block_n ?_
          | with_reducible refine block_r ?_
          | refine aw_ret ?_
      · exact ⟨rfl, sub0 [0, 1, 2, 3] rfl rfl (by decide) (by repeat' first | exact HLes.nil | refine HLes.cons rfl rfl rfl rfl (les_refl (flat_noH _ _)) ?_) (by repeat' first | exact les_nil | refine les_cons ?_ ?_ | exact le_any | exact le_refl rfl | exact le_sl rfl rfl | exact le_ptr rfl)⟩
      · repeat' first
          | refine aw_seq ?_
          | refine aw_region ?_
          | refine aw_lex [] ?_
          | (refine isA ?_; refine do_F rfl ?_)
          | (refine isL ?_; refine lex_F rfl (by kernel_rfl) rfl rfl ?_)
          | (refine isLg rfl ?_; refine lex_S rfl (by kernel_rfl) rfl rfl ?_)
          | (refine isAp ?_; refine do_R rfl (ap_mix (outs := s.outs) (hz := 4) (zi := 2) (n := s.run.length) rfl rfl rfl rfl rfl (by omega)) rfl ?_)
          | (refine isLp rfl ?_; refine lex_R rfl (by kernel_rfl) rfl (ap_mix (outs := s.outs) (hz := 4) (zi := 2) (n := s.run.length) rfl rfl rfl rfl rfl (by omega)) rfl ?_)
          | refine aops_nil ?_
          | refine lex_done _ rfl (by kernel_rfl) ?_
          | refine aw_ct rfl ?_
          | refine aw_cf rfl ?_
          | refine aw_block ?_
          | with_reducible refine then_n ?_
          | refine aw_skip ?_
          | refine aw_exit ?_
          | with_reducible refine then_x ?_
          | with_reducible refine then_r ?_
          | with_reducible refine block_x ?_
          | with_reducible refine block_n ?_
          | with_reducible refine block_r ?_
          | refine aw_ret ?_
        refine ⟨⟨bswap s, q.1, t⟩, q.2, ?_⟩
        refine Sub.trans (sub_run (A := rwR s.dfr) (B := rwR []) (C := rwR []) (outs := s.outs) (run := s.run) (flat_noH _ _) (flat_noH _ _) (flat_noH _ _) (by repeat' first | exact les_nil | refine les_cons ?_ ?_ | exact le_any | exact le_refl rfl | exact le_sl rfl rfl | exact le_ptr rfl)) ?_
        exact sub0 [1, 7, 6, 5, 2] rfl rfl (by decide) (.cons rfl rfl rfl rfl (les_refl (flat_noH _ _)) (.cons rfl rfl rfl rfl les_nil (.cons rfl rfl rfl rfl les_nil (.cons rfl rfl rfl rfl (les_app (les_refl (flat_noH _ _)) (les_cons (le_sl rfl rfl) les_nil)) (.cons rfl rfl rfl rfl (les_refl (flat_noH _ _)) .nil))))) (by
          repeat' first
            | exact les_nil
            | refine les_cons ?_ ?_
            | exact le_any
            | exact le_refl rfl
            | exact le_sl rfl rfl
            | exact le_sl rfl (by simp [bswap]))
      · exact absurd (of_decide_eq_false hbr) (by omega)
    | stop hp hc hd =>
      have h0 : s.cur.length = 0 := by rw [hc]; rfl
      have d0 : s.dfr.length = 0 := by rw [hd]; rfl
      repeat' first
        | refine aw_seq ?_
        | refine aw_region ?_
        | refine aw_lex [] ?_
        | (refine isA ?_; refine do_F rfl ?_)
        | (refine isL ?_; refine lex_F rfl (by kernel_rfl) rfl rfl ?_)
        | (refine isLg rfl ?_; refine lex_S rfl (by kernel_rfl) rfl rfl ?_)
        | refine aops_nil ?_
        | refine lex_done _ rfl (by kernel_rfl) ?_
        | refine aw_ct rfl ?_
        | refine aw_cf rfl ?_
        | refine aw_block ?_
        | with_reducible refine then_n ?_
        | refine aw_skip ?_
        | refine aw_exit ?_
        | with_reducible refine then_x ?_
        | with_reducible refine then_r ?_
        | with_reducible refine block_x ?_
        | with_reducible refine block_n ?_
        | with_reducible refine block_r ?_
        | refine aw_ret ?_
      refine do_br rfl rfl (fun p => absurd (of_decide_eq_true p) (by omega)) (fun p => ?_)
      repeat' first
        | refine aw_seq ?_
        | refine aw_region ?_
        | refine aw_lex [] ?_
        | (refine isA ?_; refine do_F rfl ?_)
        | (refine isL ?_; refine lex_F rfl (by kernel_rfl) rfl rfl ?_)
        | (refine isLg rfl ?_; refine lex_S rfl (by kernel_rfl) rfl rfl ?_)
        | refine aops_nil ?_
        | refine lex_done _ rfl (by kernel_rfl) ?_
        | refine aw_ct rfl ?_
        | refine aw_cf rfl ?_
        | refine aw_block ?_
        | with_reducible refine then_n ?_
        | refine aw_skip ?_
        | refine aw_exit ?_
        | with_reducible refine then_x ?_
        | with_reducible refine then_r ?_
        | with_reducible refine block_x ?_
        | with_reducible refine block_n ?_
        | with_reducible refine block_r ?_
        | refine aw_ret ?_
      refine aw_cond rfl (fun p => absurd (of_decide_eq_true p) (by rw [IntKind.wrap_i64]; omega)) (fun p => ?_)
      repeat' first
        | refine aw_seq ?_
        | refine aw_region ?_
        | refine aw_lex [] ?_
        | (refine isA ?_; refine do_F rfl ?_)
        | (refine isL ?_; refine lex_F rfl (by kernel_rfl) rfl rfl ?_)
        | (refine isLg rfl ?_; refine lex_S rfl (by kernel_rfl) rfl rfl ?_)
        | refine aops_nil ?_
        | refine lex_done _ rfl (by kernel_rfl) ?_
        | refine aw_ct rfl ?_
        | refine aw_cf rfl ?_
        | refine aw_block ?_
        | with_reducible refine then_n ?_
        | refine aw_skip ?_
        | refine aw_exit ?_
        | with_reducible refine then_x ?_
        | with_reducible refine then_r ?_
        | with_reducible refine block_x ?_
        | with_reducible refine block_n ?_
        | with_reducible refine block_r ?_
        | refine aw_ret ?_
      refine aw_cond rfl (fun p => ?_) (fun p => ?_)
      · have e : bend s = s.outs ++ [s.run] := by unfold bend; rw [decide_eq_true (show 0 < s.run.length by have := of_decide_eq_true p; omega), cond_true]
        repeat' first
          | refine aw_seq ?_
          | refine aw_region ?_
          | refine aw_lex [] ?_
          | (refine isA ?_; refine do_F rfl ?_)
          | (refine isL ?_; refine lex_F rfl (by kernel_rfl) rfl rfl ?_)
          | (refine isLg rfl ?_; refine lex_S rfl (by kernel_rfl) rfl rfl ?_)
          | (refine isAp ?_; refine do_R rfl (ap_mix (outs := s.outs) (hz := 4) (zi := 2) (n := s.run.length) rfl rfl rfl rfl rfl (by omega)) rfl ?_)
          | (refine isLp rfl ?_; refine lex_R rfl (by kernel_rfl) rfl (ap_mix (outs := s.outs) (hz := 4) (zi := 2) (n := s.run.length) rfl rfl rfl rfl rfl (by omega)) rfl ?_)
          | exact finPT rfl (.tup (.cons (by rw [e]; exact pur_mix rfl rfl) (.cons (.same rfl) .nil)))
          | refine aops_nil ?_
          | refine lex_done _ rfl (by kernel_rfl) ?_
          | refine aw_ct rfl ?_
          | refine aw_cf rfl ?_
          | refine aw_block ?_
          | with_reducible refine then_n ?_
          | refine aw_skip ?_
          | refine aw_exit ?_
          | with_reducible refine then_x ?_
          | with_reducible refine then_r ?_
          | with_reducible refine block_x ?_
          | with_reducible refine block_n ?_
          | with_reducible refine block_r ?_
          | refine aw_ret ?_
      · have e : bend s = s.outs := by unfold bend; rw [decide_eq_false (show ¬ 0 < s.run.length by have := of_decide_eq_false p; omega), cond_false]
        repeat' first
          | refine aw_seq ?_
          | refine aw_region ?_
          | refine aw_lex [] ?_
          | (refine isA ?_; refine do_F rfl ?_)
          | (refine isL ?_; refine lex_F rfl (by kernel_rfl) rfl rfl ?_)
          | (refine isLg rfl ?_; refine lex_S rfl (by kernel_rfl) rfl rfl ?_)
          | exact finPT rfl (.tup (.cons (by rw [e]; exact pur_row (T := rnT) rfl) (.cons (.same rfl) .nil)))
          | refine aops_nil ?_
          | refine lex_done _ rfl (by kernel_rfl) ?_
          | refine aw_ct rfl ?_
          | refine aw_cf rfl ?_
          | refine aw_block ?_
          | with_reducible refine then_n ?_
          | refine aw_skip ?_
          | refine aw_exit ?_
          | with_reducible refine then_x ?_
          | with_reducible refine then_r ?_
          | with_reducible refine block_x ?_
          | with_reducible refine block_n ?_
          | with_reducible refine block_r ?_
          | refine aw_ret ?_
end Go.Proofs.Ytkcicbigpbdjpaa.Ab

/- BrC -/
namespace Go.Proofs.Ytkcicbigpbdjpaa.Ab
open Go.RowKit

theorem c_isgrant (g : Int) : Meets Go.Proofs.Try.prog 108 [I g] [] (B (inV g 8 60)) [] false := by
  refine meets_of [2] Go.Proofs.Try.func108 rfl rfl ?_
  simp only [Go.Proofs.Try.ntmps108, List.length_cons, List.length_nil, Nat.reduceAdd, Nat.reduceSub, List.replicate_succ, List.replicate_zero, List.cons_append, List.nil_append]
  repeat' first
    | refine aw_seq ?_
    | refine aw_region ?_
    | refine aw_lex [] ?_
    | (refine isA ?_; refine do_F rfl ?_)
    | (refine isL ?_; refine lex_F rfl (by kernel_rfl) rfl rfl ?_)
    | (refine isLg rfl ?_; refine lex_S rfl (by kernel_rfl) rfl rfl ?_)
    | (refine isAc 141 ?_; refine do_R rfl (st_call rfl (c_within g 8 60) (.cons (.same rfl) (.cons (.same rfl) (.cons (.same rfl) .nil))) rfl) rfl ?_)
    | (refine isLc 141 rfl ?_; refine lex_R rfl (by kernel_rfl) rfl (st_call rfl (c_within g 8 60) (.cons (.same rfl) (.cons (.same rfl) (.cons (.same rfl) .nil))) rfl) rfl ?_)
    | exact fin1 rfl rfl rfl
    | refine aops_nil ?_
    | refine lex_done _ rfl (by kernel_rfl) ?_
    | refine aw_ct rfl ?_
    | refine aw_cf rfl ?_
    | refine aw_block ?_
    | with_reducible refine then_n ?_
    | refine aw_skip ?_
    | refine aw_exit ?_
    | with_reducible refine then_x ?_
    | with_reducible refine then_r ?_
    | with_reducible refine block_x ?_
    | with_reducible refine block_n ?_
    | with_reducible refine block_r ?_
    | refine aw_ret ?_
theorem hle_behind {D : List Reg} {g : List Rn} {n : Nat} (hD : D.length = n) : HLe (n :: List.range' (n + 1) g.length) (rnN g) (D ++ (⟨39, 1, nC (1 + n) g, 0⟩ :: nR rwT 71 g)) := by
  have h1 : (D ++ (⟨39, 1, nC (1 + n) g, 0⟩ :: nR rwT 71 g))[n]? = some ⟨39, 1, nC (n + 1) g, 0⟩ := by
    rw [List.getElem?_append_right (by omega), show n - D.length = 0 by omega, Nat.add_comm]; rfl
  have h2 : ∀ j x, g[j]? = some x → (D ++ (⟨39, 1, nC (1 + n) g, 0⟩ :: nR rwT 71 g))[n + 1 + j]? = some (rwR x) := fun j x hx => by
    rw [List.getElem?_append_right (by omega), show n + 1 + j - D.length = j + 1 by omega, List.getElem?_cons_succ]
    exact nR_at hx
  exact hle_nest (hs := [n]) (K1 := [⟨39, 1, nC 1 g, 0⟩]) (psi_nodup (by simp) (fun h hh => by simp at hh; omega)) (.cons h1 rfl rfl rfl (les_nC fun j hj => psi_at [n] (n + 1) g.length j hj) .nil) h2
theorem c_ibr0 (xs : List Rw) (g : Int) (hl : xs.length ≤ 1000000000) (h : (avR xs && inV g 8 60) = false) : Meets Go.Proofs.Try.prog 17 [rwL xs, I g] [] (.tup [nilV, B false]) [] false := by
  have a1 := c_iavR xs hl
  have a2 := c_isgrant g
  refine meets_of [4, 5] Go.Proofs.Try.func17 rfl rfl ?_
  simp only [Go.Proofs.Try.ntmps17, List.length_cons, List.length_nil, Nat.reduceAdd, Nat.reduceSub, List.replicate_succ, List.replicate_zero, List.cons_append, List.nil_append]
  rcases Bool.eq_false_or_eq_true (avR xs) with hv | hv
  · rw [hv] at a1 h
    rw [Bool.true_and] at h
    rw [h] at a2
    repeat' first
      | refine aw_seq ?_
      | refine aw_region ?_
      | refine aw_lex [] ?_
      | (refine isA ?_; refine do_F rfl ?_)
      | (refine isL ?_; refine lex_F rfl (by kernel_rfl) rfl rfl ?_)
      | (refine isLg rfl ?_; refine lex_S rfl (by kernel_rfl) rfl rfl ?_)
      | (refine isAc 107 ?_; refine do_R rfl (st_call rfl a1 (.cons (.same rfl) .nil) rfl) rfl ?_)
      | (refine isLc 107 rfl ?_; refine lex_R rfl (by kernel_rfl) rfl (st_call rfl a1 (.cons (.same rfl) .nil) rfl) rfl ?_)
      | (refine isAc 108 ?_; refine do_R rfl (st_call rfl a2 (.cons (.same rfl) .nil) rfl) rfl ?_)
      | (refine isLc 108 rfl ?_; refine lex_R rfl (by kernel_rfl) rfl (st_call rfl a2 (.cons (.same rfl) .nil) rfl) rfl ?_)
      | exact finNT [] rfl hle_nil (le_refl rfl) (Or.inr ⟨rfl, fun q hq => by cases hq⟩)
      | refine aops_nil ?_
      | refine lex_done _ rfl (by kernel_rfl) ?_
      | refine aw_ct rfl ?_
      | refine aw_cf rfl ?_
      | refine aw_block ?_
      | with_reducible refine then_n ?_
      | refine aw_skip ?_
      | refine aw_exit ?_
      | with_reducible refine then_x ?_
      | with_reducible refine then_r ?_
      | with_reducible refine block_x ?_
      | with_reducible refine block_n ?_
      | with_reducible refine block_r ?_
      | refine aw_ret ?_
  · rw [hv] at a1
    repeat' first
      | refine aw_seq ?_
      | refine aw_region ?_
      | refine aw_lex [] ?_
      | (refine isA ?_; refine do_F rfl ?_)
      | (refine isL ?_; refine lex_F rfl (by kernel_rfl) rfl rfl ?_)
      | (refine isLg rfl ?_; refine lex_S rfl (by kernel_rfl) rfl rfl ?_)
      | (refine isAc 107 ?_; refine do_R rfl (st_call rfl a1 (.cons (.same rfl) .nil) rfl) rfl ?_)
      | (refine isLc 107 rfl ?_; refine lex_R rfl (by kernel_rfl) rfl (st_call rfl a1 (.cons (.same rfl) .nil) rfl) rfl ?_)
      | exact finNT [] rfl hle_nil (le_refl rfl) (Or.inr ⟨rfl, fun q hq => by cases hq⟩)
      | refine aops_nil ?_
      | refine lex_done _ rfl (by kernel_rfl) ?_
      | refine aw_ct rfl ?_
      | refine aw_cf rfl ?_
      | refine aw_block ?_
      | with_reducible refine then_n ?_
      | refine aw_skip ?_
      | refine aw_exit ?_
      | with_reducible refine then_x ?_
      | with_reducible refine then_r ?_
      | with_reducible refine block_x ?_
      | with_reducible refine block_n ?_
      | with_reducible refine block_r ?_
      | refine aw_ret ?_
theorem c_sbr0 (xs : List Rw) (g : Int) (hl : xs.length ≤ 1000000000) (h : (avR xs && inV g 8 60) = false) : Meets Go.Proofs.Try.prog 18 [rwL xs, I g] [] (.tup [rnL [], B false]) [] true := by
  have a1 := c_savR xs hl
  have a2 := c_in g 8 60
  refine meets_of [4, 5] Go.Proofs.Try.func18 rfl rfl ?_
  simp only [Go.Proofs.Try.ntmps18, List.length_cons, List.length_nil, Nat.reduceAdd, Nat.reduceSub, List.replicate_succ, List.replicate_zero, List.cons_append, List.nil_append]
  rcases Bool.eq_false_or_eq_true (avR xs) with hv | hv
  · rw [hv] at a1 h
    rw [Bool.true_and] at h
    rw [h] at a2
    repeat' first
      | (refine isA ?_; refine do_R rfl (lit_of rfl rfl rfl rfl rfl) rfl ?_)
      | refine aw_seq ?_
      | refine aw_region ?_
      | refine aw_lex [] ?_
      | (refine isA ?_; refine do_F rfl ?_)
      | (refine isL ?_; refine lex_F rfl (by kernel_rfl) rfl rfl ?_)
      | (refine isLg rfl ?_; refine lex_S rfl (by kernel_rfl) rfl rfl ?_)
      | (refine isAc 93 ?_; refine do_R rfl (st_call rfl a1 (.cons (.same rfl) .nil) rfl) rfl ?_)
      | (refine isLc 93 rfl ?_; refine lex_R rfl (by kernel_rfl) rfl (st_call rfl a1 (.cons (.same rfl) .nil) rfl) rfl ?_)
      | (refine isAc 114 ?_; refine do_R rfl (st_call rfl a2 (.cons (.same rfl) (.cons (.same rfl) (.cons (.same rfl) .nil))) rfl) rfl ?_)
      | (refine isLc 114 rfl ?_; refine lex_R rfl (by kernel_rfl) rfl (st_call rfl a2 (.cons (.same rfl) (.cons (.same rfl) (.cons (.same rfl) .nil))) rfl) rfl ?_)
      | exact finPT rfl (.tup (.cons (.same rfl) (.cons (.same rfl) .nil)))
      | refine aops_nil ?_
      | refine lex_done _ rfl (by kernel_rfl) ?_
      | refine aw_ct rfl ?_
      | refine aw_cf rfl ?_
      | refine aw_block ?_
      | with_reducible refine then_n ?_
      | refine aw_skip ?_
      | refine aw_exit ?_
      | with_reducible refine then_x ?_
      | with_reducible refine then_r ?_
      | with_reducible refine block_x ?_
      | with_reducible refine block_n ?_
      | with_reducible refine block_r ?_
      | refine aw_ret ?_
  · rw [hv] at a1
    repeat' first
      | (refine isA ?_; refine do_R rfl (lit_of rfl rfl rfl rfl rfl) rfl ?_)
      | refine aw_seq ?_
      | refine aw_region ?_
      | refine aw_lex [] ?_
      | (refine isA ?_; refine do_F rfl ?_)
      | (refine isL ?_; refine lex_F rfl (by kernel_rfl) rfl rfl ?_)
      | (refine isLg rfl ?_; refine lex_S rfl (by kernel_rfl) rfl rfl ?_)
      | (refine isAc 93 ?_; refine do_R rfl (st_call rfl a1 (.cons (.same rfl) .nil) rfl) rfl ?_)
      | (refine isLc 93 rfl ?_; refine lex_R rfl (by kernel_rfl) rfl (st_call rfl a1 (.cons (.same rfl) .nil) rfl) rfl ?_)
      | exact finPT rfl (.tup (.cons (.same rfl) (.cons (.same rfl) .nil)))
      | refine aops_nil ?_
      | refine lex_done _ rfl (by kernel_rfl) ?_
      | refine aw_ct rfl ?_
      | refine aw_cf rfl ?_
      | refine aw_block ?_
      | with_reducible refine then_n ?_
      | refine aw_skip ?_
      | refine aw_exit ?_
      | with_reducible refine then_x ?_
      | with_reducible refine then_r ?_
      | with_reducible refine block_x ?_
      | with_reducible refine block_n ?_
      | with_reducible refine block_r ?_
      | refine aw_ret ?_

theorem c_ibr (xs : List Rw) (g : Int) (out : List Rn) (hv : avR xs = true) (h1 : inV g 8 60 = true) (h : BrR xs g bs0 out) : Meets Go.Proofs.Try.prog 17 [rwL xs, I g] [] (.tup [.sl 0 0 out.length, B true]) (rnN out) false := by
  have hl := (avR_iff'.1 hv).2
  have a1 := c_iavR xs (by omega)
  rw [hv] at a1
  have a2 := c_isgrant g
  rw [h1] at a2
  refine meets_of [4, 5] Go.Proofs.Try.func17 rfl rfl ?_
  simp only [Go.Proofs.Try.ntmps17, List.length_cons, List.length_nil, Nat.reduceAdd, Nat.reduceSub, List.replicate_succ, List.replicate_zero, List.cons_append, List.nil_append]
  repeat' first
    | refine aw_seq ?_
    | refine aw_region ?_
    | refine aw_lex [] ?_
    | (refine isA ?_; refine do_F rfl ?_)
    | (refine isL ?_; refine lex_F rfl (by kernel_rfl) rfl rfl ?_)
    | (refine isLg rfl ?_; refine lex_S rfl (by kernel_rfl) rfl rfl ?_)
    | (refine isAc 107 ?_; refine do_R rfl (st_call rfl a1 (.cons (.same rfl) .nil) rfl) rfl ?_)
    | (refine isLc 107 rfl ?_; refine lex_R rfl (by kernel_rfl) rfl (st_call rfl a1 (.cons (.same rfl) .nil) rfl) rfl ?_)
    | (refine isAc 108 ?_; refine do_R rfl (st_call rfl a2 (.cons (.same rfl) .nil) rfl) rfl ?_)
    | (refine isLc 108 rfl ?_; refine lex_R rfl (by kernel_rfl) rfl (st_call rfl a2 (.cons (.same rfl) .nil) rfl) rfl ?_)
    | refine aops_nil ?_
    | refine lex_done _ rfl (by kernel_rfl) ?_
    | refine aw_ct rfl ?_
    | refine aw_cf rfl ?_
    | refine aw_block ?_
    | with_reducible refine then_n ?_
    | refine aw_skip ?_
    | refine aw_exit ?_
    | with_reducible refine then_x ?_
    | with_reducible refine then_r ?_
    | with_reducible refine block_x ?_
    | with_reducible refine block_n ?_
    | with_reducible refine block_r ?_
    | refine aw_ret ?_
  refine aw_loop (α := { s : Bs // BsOk xs s ∧ BrR xs g s out }) (fun s => ⟨((rwL xs) :: (I g) :: .any :: .any :: .any :: .any :: (.sl 0 0 s.1.cur.length) :: (.sl 1 0 s.1.dfr.length) :: (.sl 2 0 s.1.run.length) :: (.sl 3 0 s.1.outs.length) :: (I s.1.pos) :: .any :: .any :: .any :: .any :: .any :: .any :: .any :: .any :: .any :: .any :: .any :: .any :: .any :: .any :: .any :: .any :: .any :: .any :: .any :: .any :: .any :: .any :: .any :: .any :: .any :: .any :: .any :: .any :: .any :: .any :: .any :: .any :: .any :: .any :: .any :: .any :: .any :: .any :: .any :: .any :: .any :: .any :: .any :: .any :: .any :: .any :: .any :: .any :: .any :: .any :: .any :: .any :: .any :: .any :: .any :: .any :: .any :: .any :: .any :: .any :: .any :: .any :: .any :: .any :: .any :: .any :: .any :: .any :: .any :: .any :: .any :: .any :: .any :: .any :: .any :: .any :: .any :: .any :: .any :: .any :: .any :: .any :: .any :: .any :: .any :: .any :: .any :: .any :: .any :: .any :: .any :: .any :: .any :: .any :: .any :: .any :: []), [rwR s.1.cur, rwR s.1.dfr, rwR s.1.run, rnR s.1.outs], 0⟩) (fun s => bmu xs s.1) ⟨bs0, bs0_ok xs, h⟩ ?_ ?_
  · exact sub0 [0, 1, 2, 3] rfl rfl (by decide) (by repeat' first | exact HLes.nil | refine HLes.cons rfl rfl rfl rfl ?_ ?_ | exact les_nil | refine les_cons ?_ ?_ | exact le_any | exact le_refl rfl | exact le_sl rfl rfl | exact le_ptr rfl) (by repeat' first | exact les_nil | refine les_cons ?_ ?_ | exact le_any | exact le_refl rfl | exact le_sl rfl rfl | exact le_ptr rfl)
  · rintro ⟨s, hok, hb⟩
    have t1 := hok.tot
    have t2 := hok.pos
    have t3 := hok.outs
    have b1 := tot_b s.cur
    have b2 := tot_b s.dfr
    simp only
    cases hb with
    | @put _ r _ hr hf t =>
      have hlt := (List.getElem?_eq_some_iff.1 hr).1
      have b3 := cost_b r
      have q := put_ok hok hr
      have cb := c_below r s.run (by omega)
      repeat' first
        | refine aw_seq ?_
        | refine aw_region ?_
        | refine aw_lex [] ?_
        | (refine isA ?_; refine do_F rfl ?_)
        | (refine isL ?_; refine lex_F rfl (by kernel_rfl) rfl rfl ?_)
        | (refine isLg rfl ?_; refine lex_S rfl (by kernel_rfl) rfl rfl ?_)
        | refine aops_nil ?_
        | refine lex_done _ rfl (by kernel_rfl) ?_
        | refine aw_ct rfl ?_
        | refine aw_cf rfl ?_
        | refine aw_block ?_
        | with_reducible refine then_n ?_
        | refine aw_skip ?_
        | refine aw_exit ?_
        | with_reducible refine then_x ?_
        | with_reducible refine then_r ?_
        | with_reducible refine block_x ?_
        | with_reducible refine block_n ?_
        | with_reducible refine block_r ?_
        | refine aw_ret ?_
      refine lex_br rfl rfl rfl rfl (fun p => ?_) (fun p => absurd (of_decide_eq_false p) (by omega))
      repeat' first
        | refine aw_seq ?_
        | refine aw_region ?_
        | refine aw_lex [] ?_
        | (refine isA ?_; refine do_F rfl ?_)
        | (refine isL ?_; refine lex_F rfl (by kernel_rfl) rfl rfl ?_)
        | (refine isLg rfl ?_; refine lex_S rfl (by kernel_rfl) rfl rfl ?_)
        | (refine isAc 109 (x := #[.tmp 40]) ?_; refine do_R rfl (st_call rfl (c_itot s.cur (by omega)) (.cons (pur_row rfl) .nil) rfl) rfl ?_)
        | (refine isLc 109 (x := #[.tmp 40]) rfl ?_; refine lex_R rfl (by kernel_rfl) rfl (st_call rfl (c_itot s.cur (by omega)) (.cons (pur_row rfl) .nil) rfl) rfl ?_)
        | (refine isAc 109 (x := #[.tmp 42]) ?_; refine do_R rfl (st_call rfl (c_itot s.dfr (by omega)) (.cons (pur_row rfl) .nil) rfl) rfl ?_)
        | (refine isLc 109 (x := #[.tmp 42]) rfl ?_; refine lex_R rfl (by kernel_rfl) rfl (st_call rfl (c_itot s.dfr (by omega)) (.cons (pur_row rfl) .nil) rfl) rfl ?_)
        | (refine isAi (x := .tmp 45) ?_; refine do_R rfl (ia_l (t := rwT) (z := r) rfl rfl rfl rfl (Int.natCast_nonneg _) hr) rfl ?_)
        | (refine isLi (x := .tmp 45) rfl ?_; refine lex_R rfl (by kernel_rfl) rfl (ia_l (t := rwT) (z := r) rfl rfl rfl rfl (Int.natCast_nonneg _) hr) rfl ?_)
        | (refine isAi (x := .tmp 54) ?_; refine do_R rfl (ia_l (t := rwT) (z := r) rfl rfl rfl rfl (Int.natCast_nonneg _) hr) rfl ?_)
        | (refine isLi (x := .tmp 54) rfl ?_; refine lex_R rfl (by kernel_rfl) rfl (ia_l (t := rwT) (z := r) rfl rfl rfl rfl (Int.natCast_nonneg _) hr) rfl ?_)
        | (refine isAc 110 ?_; refine do_R rfl (st_call rfl (c_irc r) (.cons (.same rfl) .nil) rfl) rfl ?_)
        | (refine isLc 110 rfl ?_; refine lex_R rfl (by kernel_rfl) rfl (st_call rfl (c_irc r) (.cons (.same rfl) .nil) rfl) rfl ?_)
        | refine aops_nil ?_
        | refine lex_done _ rfl (by kernel_rfl) ?_
        | refine aw_ct rfl ?_
        | refine aw_cf rfl ?_
        | refine aw_block ?_
        | with_reducible refine then_n ?_
        | refine aw_skip ?_
        | refine aw_exit ?_
        | with_reducible refine then_x ?_
        | with_reducible refine then_r ?_
        | with_reducible refine block_x ?_
        | with_reducible refine block_n ?_
        | with_reducible refine block_r ?_
        | refine aw_ret ?_
      refine aw_cond rfl (fun _ => ?_) (fun p => absurd (of_decide_eq_false p) (by rw [totsum (by omega) (by omega) b3]; omega))
      repeat' first
        | refine aw_seq ?_
        | refine aw_region ?_
        | refine aw_lex [] ?_
        | (refine isA ?_; refine do_F rfl ?_)
        | (refine isL ?_; refine lex_F rfl (by kernel_rfl) rfl rfl ?_)
        | (refine isLg rfl ?_; refine lex_S rfl (by kernel_rfl) rfl rfl ?_)
        | (refine isAi (x := .tmp 54) ?_; refine do_R rfl (ia_l (t := rwT) (z := r) rfl rfl rfl rfl (Int.natCast_nonneg _) hr) rfl ?_)
        | (refine isLi (x := .tmp 54) rfl ?_; refine lex_R rfl (by kernel_rfl) rfl (ia_l (t := rwT) (z := r) rfl rfl rfl rfl (Int.natCast_nonneg _) hr) rfl ?_)
        | (refine isAc 111 ?_; refine do_R rfl (st_call rfl cb (.cons (.same rfl) (.cons (pur_row rfl) .nil)) rfl) rfl ?_)
        | (refine isLc 111 rfl ?_; refine lex_R rfl (by kernel_rfl) rfl (st_call rfl cb (.cons (.same rfl) (.cons (pur_row rfl) .nil)) rfl) rfl ?_)
        | refine aops_nil ?_
        | refine lex_done _ rfl (by kernel_rfl) ?_
        | refine aw_ct rfl ?_
        | refine aw_cf rfl ?_
        | refine aw_block ?_
        | with_reducible refine then_n ?_
        | refine aw_skip ?_
        | refine aw_exit ?_
        | with_reducible refine then_x ?_
        | with_reducible refine then_r ?_
        | with_reducible refine block_x ?_
        | with_reducible refine block_n ?_
        | with_reducible refine block_r ?_
        | refine aw_ret ?_
      refine aw_cond rfl (fun p2 => ?_) (fun p2 => ?_)
      · rw [bput, p2, cond_true] at t q
        repeat' first
          | (refine isA ?_; refine do_R rfl (lit_of rfl rfl rfl rfl rfl) rfl ?_)
          | refine aw_seq ?_
          | refine aw_region ?_
          | refine aw_lex [] ?_
          | (refine isA ?_; refine do_F rfl ?_)
          | (refine isL ?_; refine lex_F rfl (by kernel_rfl) rfl rfl ?_)
          | (refine isLg rfl ?_; refine lex_S rfl (by kernel_rfl) rfl rfl ?_)
          | (refine isAi (x := .tmp 61) ?_; refine do_R rfl (ia_l (t := rwT) (z := r) rfl rfl rfl rfl (Int.natCast_nonneg _) hr) rfl ?_)
          | (refine isLi (x := .tmp 61) rfl ?_; refine lex_R rfl (by kernel_rfl) rfl (ia_l (t := rwT) (z := r) rfl rfl rfl rfl (Int.natCast_nonneg _) hr) rfl ?_)
          | (refine isAp ?_; refine do_R rfl (ap_l (t := rwT) (xs := s.dfr) (ys := [r]) rfl rfl rfl rfl (.lst _ _) (by simp; omega) rfl) rfl ?_)
          | (refine isLp rfl ?_; refine lex_R rfl (by kernel_rfl) rfl (ap_l (t := rwT) (xs := s.dfr) (ys := [r]) rfl rfl rfl rfl (.lst _ _) (by simp; omega) rfl) rfl ?_)
          | refine aops_nil ?_
          | refine lex_done _ rfl (by kernel_rfl) ?_
          | refine aw_ct rfl ?_
          | refine aw_cf rfl ?_
          | refine aw_block ?_
          | with_reducible refine then_n ?_
          | refine aw_skip ?_
          | refine aw_exit ?_
          | with_reducible refine then_x ?_
          | with_reducible refine then_r ?_
          | with_reducible refine block_x ?_
          | with_reducible refine block_n ?_
          | with_reducible refine block_r ?_
          | refine aw_ret ?_
        refine ⟨⟨_, q.1, t⟩, q.2, ?_⟩
        exact sub0 [0, 4, 2, 3] rfl rfl (by decide) (by repeat' first | exact HLes.nil | refine HLes.cons rfl rfl rfl rfl (les_refl (flat_noH _ _)) ?_) (by
          repeat' first
            | exact les_nil
            | refine les_cons ?_ ?_
            | exact le_any
            | exact le_refl rfl
            | exact le_sl rfl rfl
            | exact le_sl rfl (by simp)
            | exact le_i (by assumption) (by omega))
      · rw [bput, p2, cond_false] at t q
        repeat' first
          | (refine isA ?_; refine do_R rfl (lit_of rfl rfl rfl rfl rfl) rfl ?_)
          | refine aw_seq ?_
          | refine aw_region ?_
          | refine aw_lex [] ?_
          | (refine isA ?_; refine do_F rfl ?_)
          | (refine isL ?_; refine lex_F rfl (by kernel_rfl) rfl rfl ?_)
          | (refine isLg rfl ?_; refine lex_S rfl (by kernel_rfl) rfl rfl ?_)
          | (refine isAi (x := .tmp 68) ?_; refine do_R rfl (ia_l (t := rwT) (z := r) rfl rfl rfl rfl (Int.natCast_nonneg _) hr) rfl ?_)
          | (refine isLi (x := .tmp 68) rfl ?_; refine lex_R rfl (by kernel_rfl) rfl (ia_l (t := rwT) (z := r) rfl rfl rfl rfl (Int.natCast_nonneg _) hr) rfl ?_)
          | (refine isAp ?_; refine do_R rfl (ap_l (t := rwT) (xs := s.cur) (ys := [r]) rfl rfl rfl rfl (.lst _ _) (by simp; omega) rfl) rfl ?_)
          | (refine isLp rfl ?_; refine lex_R rfl (by kernel_rfl) rfl (ap_l (t := rwT) (xs := s.cur) (ys := [r]) rfl rfl rfl rfl (.lst _ _) (by simp; omega) rfl) rfl ?_)
          | refine aops_nil ?_
          | refine lex_done _ rfl (by kernel_rfl) ?_
          | refine aw_ct rfl ?_
          | refine aw_cf rfl ?_
          | refine aw_block ?_
          | with_reducible refine then_n ?_
          | refine aw_skip ?_
          | refine aw_exit ?_
          | with_reducible refine then_x ?_
          | with_reducible refine then_r ?_
          | with_reducible refine block_x ?_
          | with_reducible refine block_n ?_
          | with_reducible refine block_r ?_
          | refine aw_ret ?_
        refine ⟨⟨_, q.1, t⟩, q.2, ?_⟩
        exact sub0 [4, 1, 2, 3] rfl rfl (by decide) (by repeat' first | exact HLes.nil | refine HLes.cons rfl rfl rfl rfl (les_refl (flat_noH _ _)) ?_) (by
          repeat' first
            | exact les_nil
            | refine les_cons ?_ ?_
            | exact le_any
            | exact le_refl rfl
            | exact le_sl rfl rfl
            | exact le_sl rfl (by simp)
            | exact le_i (by assumption) (by omega))
    | @pop _ k r _ hf hc hk hr t =>
      have hlt := (List.getElem?_eq_some_iff.1 hr).1
      have q := pop_ok hok hr
      have am := c_imin s.cur (by omega)
      rw [hk] at am
      have dl : (s.cur.take k ++ s.cur.drop (k + 1)).length = s.cur.length - 1 := by simp; omega
      repeat' first
        | refine aw_seq ?_
        | refine aw_region ?_
        | refine aw_lex [] ?_
        | (refine isA ?_; refine do_F rfl ?_)
        | (refine isL ?_; refine lex_F rfl (by kernel_rfl) rfl rfl ?_)
        | (refine isLg rfl ?_; refine lex_S rfl (by kernel_rfl) rfl rfl ?_)
        | (refine isAc 109 (x := #[.tmp 40]) ?_; refine do_R rfl (st_call rfl (c_itot s.cur (by omega)) (.cons (pur_row rfl) .nil) rfl) rfl ?_)
        | (refine isLc 109 (x := #[.tmp 40]) rfl ?_; refine lex_R rfl (by kernel_rfl) rfl (st_call rfl (c_itot s.cur (by omega)) (.cons (pur_row rfl) .nil) rfl) rfl ?_)
        | (refine isAc 109 (x := #[.tmp 42]) ?_; refine do_R rfl (st_call rfl (c_itot s.dfr (by omega)) (.cons (pur_row rfl) .nil) rfl) rfl ?_)
        | (refine isLc 109 (x := #[.tmp 42]) rfl ?_; refine lex_R rfl (by kernel_rfl) rfl (st_call rfl (c_itot s.dfr (by omega)) (.cons (pur_row rfl) .nil) rfl) rfl ?_)
        | refine aops_nil ?_
        | refine lex_done _ rfl (by kernel_rfl) ?_
        | refine aw_ct rfl ?_
        | refine aw_cf rfl ?_
        | refine aw_block ?_
        | with_reducible refine then_n ?_
        | refine aw_skip ?_
        | refine aw_exit ?_
        | with_reducible refine then_x ?_
        | with_reducible refine then_r ?_
        | with_reducible refine block_x ?_
        | with_reducible refine block_n ?_
        | with_reducible refine block_r ?_
        | refine aw_ret ?_
        | (refine isAg ?_; refine do_br rfl rfl (fun hbr => ?_) (fun hbr => ?_) <;> (fail_if_success (with_reducible (have hx : true = true := hbr))) <;> (fail_if_success (with_reducible (have hx : false = false := hbr))))
        | (refine isLg rfl ?_; refine lex_br rfl rfl rfl rfl (fun hbr => ?_) (fun hbr => ?_) <;> (fail_if_success (with_reducible (have hx : true = true := hbr))) <;> (fail_if_success (with_reducible (have hx : false = false := hbr))))
      · have hlp : s.pos < xs.length := by have := of_decide_eq_true hbr; omega
        obtain ⟨z, hz⟩ : ∃ z, xs[s.pos]? = some z := ⟨_, List.getElem?_eq_getElem hlp⟩
        have hfz := hf z hz
        have b3 := cost_b z
        repeat' first
          | refine aw_seq ?_
          | refine aw_region ?_
          | refine aw_lex [] ?_
          | (refine isA ?_; refine do_F rfl ?_)
          | (refine isL ?_; refine lex_F rfl (by kernel_rfl) rfl rfl ?_)
          | (refine isLg rfl ?_; refine lex_S rfl (by kernel_rfl) rfl rfl ?_)
          | (refine isAi (x := .tmp 45) ?_; refine do_R rfl (ia_l (t := rwT) (z := z) rfl rfl rfl rfl (Int.natCast_nonneg _) hz) rfl ?_)
          | (refine isLi (x := .tmp 45) rfl ?_; refine lex_R rfl (by kernel_rfl) rfl (ia_l (t := rwT) (z := z) rfl rfl rfl rfl (Int.natCast_nonneg _) hz) rfl ?_)
          | (refine isAc 110 ?_; refine do_R rfl (st_call rfl (c_irc z) (.cons (.same rfl) .nil) rfl) rfl ?_)
          | (refine isLc 110 rfl ?_; refine lex_R rfl (by kernel_rfl) rfl (st_call rfl (c_irc z) (.cons (.same rfl) .nil) rfl) rfl ?_)
          | refine aops_nil ?_
          | refine lex_done _ rfl (by kernel_rfl) ?_
          | refine aw_ct rfl ?_
          | refine aw_cf rfl ?_
          | refine aw_block ?_
          | with_reducible refine then_n ?_
          | refine aw_skip ?_
          | refine aw_exit ?_
          | with_reducible refine then_x ?_
          | with_reducible refine then_r ?_
          | with_reducible refine block_x ?_
          | with_reducible refine block_n ?_
          | with_reducible refine block_r ?_
          | refine aw_ret ?_
        refine aw_cond rfl (fun p => absurd (of_decide_eq_true p) (by rw [totsum (by omega) (by omega) b3]; omega)) (fun p => ?_)
        repeat' first
          | refine aw_seq ?_
          | refine aw_region ?_
          | refine aw_lex [] ?_
          | (refine isA ?_; refine do_F rfl ?_)
          | (refine isL ?_; refine lex_F rfl (by kernel_rfl) rfl rfl ?_)
          | (refine isLg rfl ?_; refine lex_S rfl (by kernel_rfl) rfl rfl ?_)
          | refine aops_nil ?_
          | refine lex_done _ rfl (by kernel_rfl) ?_
          | refine aw_ct rfl ?_
          | refine aw_cf rfl ?_
          | refine aw_block ?_
          | with_reducible refine then_n ?_
          | refine aw_skip ?_
          | refine aw_exit ?_
          | with_reducible refine then_x ?_
          | with_reducible refine then_r ?_
          | with_reducible refine block_x ?_
          | with_reducible refine block_n ?_
          | with_reducible refine block_r ?_
          | refine aw_ret ?_
        refine do_br rfl rfl (fun p => absurd (of_decide_eq_true p) (by omega)) (fun p => ?_)
        repeat' first
          | refine aw_seq ?_
          | refine aw_region ?_
          | refine aw_lex [] ?_
          | (refine isA ?_; refine do_F rfl ?_)
          | (refine isL ?_; refine lex_F rfl (by kernel_rfl) rfl rfl ?_)
          | (refine isLg rfl ?_; refine lex_S rfl (by kernel_rfl) rfl rfl ?_)
          | refine aops_nil ?_
          | refine lex_done _ rfl (by kernel_rfl) ?_
          | refine aw_ct rfl ?_
          | refine aw_cf rfl ?_
          | refine aw_block ?_
          | with_reducible refine then_n ?_
          | refine aw_skip ?_
          | refine aw_exit ?_
          | with_reducible refine then_x ?_
          | with_reducible refine then_r ?_
          | with_reducible refine block_x ?_
          | with_reducible refine block_n ?_
          | with_reducible refine block_r ?_
          | refine aw_ret ?_
        refine aw_cond rfl (fun p => ?_) (fun p => absurd (of_decide_eq_false p) (by omega))
        repeat' first
          | (refine isA ?_; refine do_R rfl (lit_of rfl rfl rfl rfl rfl) rfl ?_)
          | refine aw_seq ?_
          | refine aw_region ?_
          | refine aw_lex [] ?_
          | (refine isA ?_; refine do_F rfl ?_)
          | (refine isL ?_; refine lex_F rfl (by kernel_rfl) rfl rfl ?_)
          | (refine isLg rfl ?_; refine lex_S rfl (by kernel_rfl) rfl rfl ?_)
          | (refine isAc 26 ?_; refine do_R rfl (st_call rfl am (.cons (pur_row rfl) .nil) rfl) rfl ?_)
          | (refine isLc 26 rfl ?_; refine lex_R rfl (by kernel_rfl) rfl (st_call rfl am (.cons (pur_row rfl) .nil) rfl) rfl ?_)
          | (refine isAi (x := .tmp 98) ?_; refine do_R rfl (step_ia_sl (j := (k : Int)) rfl rfl rfl (Nat.zero_le _) rfl rfl (Int.natCast_nonneg _) (by omega)) rfl ?_)
          | (refine isLi (x := .tmp 98) rfl ?_; refine lex_R rfl (by kernel_rfl) rfl (step_ia_sl (j := (k : Int)) rfl rfl rfl (Nat.zero_le _) rfl rfl (Int.natCast_nonneg _) (by omega)) rfl ?_)
          | (refine isAl (x := .tmp 100) ?_; refine do_R rfl (ld_a (T := rwT) (i := 0 + k) (z := r) rfl rfl rfl (by rw [Nat.zero_add]; exact hr)) rfl ?_)
          | (refine isLl (x := .tmp 100) rfl ?_; refine lex_R rfl (by kernel_rfl) rfl (ld_a (T := rwT) (i := 0 + k) (z := r) rfl rfl rfl (by rw [Nat.zero_add]; exact hr)) rfl ?_)
          | (refine isAp ?_; refine do_R rfl (ap_l (t := rwT) (xs := s.run) (ys := [r]) rfl rfl rfl rfl (.lst _ _) (by simp; omega) rfl) rfl ?_)
          | (refine isLp rfl ?_; refine lex_R rfl (by kernel_rfl) rfl (ap_l (t := rwT) (xs := s.run) (ys := [r]) rfl rfl rfl rfl (.lst _ _) (by simp; omega) rfl) rfl ?_)
          | (refine isAc 112 ?_; refine do_R rfl (st_callK rfl (c_taken s.cur k hlt (by omega)) (.cons (pur_row rfl) (.cons (.same rfl) .nil)) (fun q hq => by simp at hq; subst hq; exact flat_noH _ _) rfl rfl) rfl ?_)
          | (refine isLc 112 rfl ?_; refine lex_R rfl (by kernel_rfl) rfl (st_callK rfl (c_taken s.cur k hlt (by omega)) (.cons (pur_row rfl) (.cons (.same rfl) .nil)) (fun q hq => by simp at hq; subst hq; exact flat_noH _ _) rfl rfl) rfl ?_)
          | refine aops_nil ?_
          | refine lex_done _ rfl (by kernel_rfl) ?_
          | refine aw_ct rfl ?_
          | refine aw_cf rfl ?_
          | refine aw_block ?_
          | with_reducible refine then_n ?_
          | refine aw_skip ?_
          | refine aw_exit ?_
          | with_reducible refine then_x ?_
          | with_reducible refine then_r ?_
          | with_reducible refine block_x ?_
          | with_reducible refine block_n ?_
          | with_reducible refine block_r ?_
          | refine aw_ret ?_
        refine ⟨⟨bpop s k r, q.1, t⟩, q.2, ?_⟩
        exact sub0 [5, 1, 4, 3] rfl rfl (by decide) (by repeat' first | exact HLes.nil | refine HLes.cons rfl rfl rfl rfl (les_refl (flat_noH _ _)) ?_) (by
          repeat' first
            | exact les_nil
            | refine les_cons ?_ ?_
            | exact le_any
            | exact le_refl rfl
            | exact le_sl rfl rfl
            | exact le_sl rfl (by simp [bpop])
            | exact le_i (by assumption) (by omega))
      · exact absurd (of_decide_eq_true hbr) (by omega)
      · refine aw_cond rfl (fun p => ?_) (fun p => absurd (of_decide_eq_false p) (by omega))
        repeat' first
          | (refine isA ?_; refine do_R rfl (lit_of rfl rfl rfl rfl rfl) rfl ?_)
          | refine aw_seq ?_
          | refine aw_region ?_
          | refine aw_lex [] ?_
          | (refine isA ?_; refine do_F rfl ?_)
          | (refine isL ?_; refine lex_F rfl (by kernel_rfl) rfl rfl ?_)
          | (refine isLg rfl ?_; refine lex_S rfl (by kernel_rfl) rfl rfl ?_)
          | (refine isAc 26 ?_; refine do_R rfl (st_call rfl am (.cons (pur_row rfl) .nil) rfl) rfl ?_)
          | (refine isLc 26 rfl ?_; refine lex_R rfl (by kernel_rfl) rfl (st_call rfl am (.cons (pur_row rfl) .nil) rfl) rfl ?_)
          | (refine isAi (x := .tmp 98) ?_; refine do_R rfl (step_ia_sl (j := (k : Int)) rfl rfl rfl (Nat.zero_le _) rfl rfl (Int.natCast_nonneg _) (by omega)) rfl ?_)
          | (refine isLi (x := .tmp 98) rfl ?_; refine lex_R rfl (by kernel_rfl) rfl (step_ia_sl (j := (k : Int)) rfl rfl rfl (Nat.zero_le _) rfl rfl (Int.natCast_nonneg _) (by omega)) rfl ?_)
          | (refine isAl (x := .tmp 100) ?_; refine do_R rfl (ld_a (T := rwT) (i := 0 + k) (z := r) rfl rfl rfl (by rw [Nat.zero_add]; exact hr)) rfl ?_)
          | (refine isLl (x := .tmp 100) rfl ?_; refine lex_R rfl (by kernel_rfl) rfl (ld_a (T := rwT) (i := 0 + k) (z := r) rfl rfl rfl (by rw [Nat.zero_add]; exact hr)) rfl ?_)
          | (refine isAp ?_; refine do_R rfl (ap_l (t := rwT) (xs := s.run) (ys := [r]) rfl rfl rfl rfl (.lst _ _) (by simp; omega) rfl) rfl ?_)
          | (refine isLp rfl ?_; refine lex_R rfl (by kernel_rfl) rfl (ap_l (t := rwT) (xs := s.run) (ys := [r]) rfl rfl rfl rfl (.lst _ _) (by simp; omega) rfl) rfl ?_)
          | (refine isAc 112 ?_; refine do_R rfl (st_callK rfl (c_taken s.cur k hlt (by omega)) (.cons (pur_row rfl) (.cons (.same rfl) .nil)) (fun q hq => by simp at hq; subst hq; exact flat_noH _ _) rfl rfl) rfl ?_)
          | (refine isLc 112 rfl ?_; refine lex_R rfl (by kernel_rfl) rfl (st_callK rfl (c_taken s.cur k hlt (by omega)) (.cons (pur_row rfl) (.cons (.same rfl) .nil)) (fun q hq => by simp at hq; subst hq; exact flat_noH _ _) rfl rfl) rfl ?_)
          | refine aops_nil ?_
          | refine lex_done _ rfl (by kernel_rfl) ?_
          | refine aw_ct rfl ?_
          | refine aw_cf rfl ?_
          | refine aw_block ?_
          | with_reducible refine then_n ?_
          | refine aw_skip ?_
          | refine aw_exit ?_
          | with_reducible refine then_x ?_
          | with_reducible refine then_r ?_
          | with_reducible refine block_x ?_
          | with_reducible refine block_n ?_
          | with_reducible refine block_r ?_
          | refine aw_ret ?_
        refine ⟨⟨bpop s k r, q.1, t⟩, q.2, ?_⟩
        exact sub0 [5, 1, 4, 3] rfl rfl (by decide) (by repeat' first | exact HLes.nil | refine HLes.cons rfl rfl rfl rfl (les_refl (flat_noH _ _)) ?_) (by
          repeat' first
            | exact les_nil
            | refine les_cons ?_ ?_
            | exact le_any
            | exact le_refl rfl
            | exact le_sl rfl rfl
            | exact le_sl rfl (by simp [bpop])
            | exact le_i (by assumption) (by omega))
    | swap hf hc hd t =>
      have q := swap_ok hok hc hd
      have h0 : s.cur.length = 0 := by rw [hc]; rfl
      repeat' first
        | refine aw_seq ?_
        | refine aw_region ?_
        | refine aw_lex [] ?_
        | (refine isA ?_; refine do_F rfl ?_)
        | (refine isL ?_; refine lex_F rfl (by kernel_rfl) rfl rfl ?_)
        | (refine isLg rfl ?_; refine lex_S rfl (by kernel_rfl) rfl rfl ?_)
        | (refine isAc 109 (x := #[.tmp 40]) ?_; refine do_R rfl (st_call rfl (c_itot s.cur (by omega)) (.cons (pur_row rfl) .nil) rfl) rfl ?_)
        | (refine isLc 109 (x := #[.tmp 40]) rfl ?_; refine lex_R rfl (by kernel_rfl) rfl (st_call rfl (c_itot s.cur (by omega)) (.cons (pur_row rfl) .nil) rfl) rfl ?_)
        | (refine isAc 109 (x := #[.tmp 42]) ?_; refine do_R rfl (st_call rfl (c_itot s.dfr (by omega)) (.cons (pur_row rfl) .nil) rfl) rfl ?_)
        | (refine isLc 109 (x := #[.tmp 42]) rfl ?_; refine lex_R rfl (by kernel_rfl) rfl (st_call rfl (c_itot s.dfr (by omega)) (.cons (pur_row rfl) .nil) rfl) rfl ?_)
        | refine aops_nil ?_
        | refine lex_done _ rfl (by kernel_rfl) ?_
        | refine aw_ct rfl ?_
        | refine aw_cf rfl ?_
        | refine aw_block ?_
        | with_reducible refine then_n ?_
        | refine aw_skip ?_
        | refine aw_exit ?_
        | with_reducible refine then_x ?_
        | with_reducible refine then_r ?_
        | with_reducible refine block_x ?_
        | with_reducible refine block_n ?_
        | with_reducible refine block_r ?_
        | refine aw_ret ?_
        | (refine isAg ?_; refine do_br rfl rfl (fun hbr => ?_) (fun hbr => ?_) <;> (fail_if_success (with_reducible (have hx : true = true := hbr))) <;> (fail_if_success (with_reducible (have hx : false = false := hbr))))
        | (refine isLg rfl ?_; refine lex_br rfl rfl rfl rfl (fun hbr => ?_) (fun hbr => ?_) <;> (fail_if_success (with_reducible (have hx : true = true := hbr))) <;> (fail_if_success (with_reducible (have hx : false = false := hbr))))
      · have hlp : s.pos < xs.length := by have := of_decide_eq_true hbr; omega
        obtain ⟨z, hz⟩ : ∃ z, xs[s.pos]? = some z := ⟨_, List.getElem?_eq_getElem hlp⟩
        have hfz := hf z hz
        have b3 := cost_b z
        repeat' first
          | refine aw_seq ?_
          | refine aw_region ?_
          | refine aw_lex [] ?_
          | (refine isA ?_; refine do_F rfl ?_)
          | (refine isL ?_; refine lex_F rfl (by kernel_rfl) rfl rfl ?_)
          | (refine isLg rfl ?_; refine lex_S rfl (by kernel_rfl) rfl rfl ?_)
          | (refine isAi (x := .tmp 45) ?_; refine do_R rfl (ia_l (t := rwT) (z := z) rfl rfl rfl rfl (Int.natCast_nonneg _) hz) rfl ?_)
          | (refine isLi (x := .tmp 45) rfl ?_; refine lex_R rfl (by kernel_rfl) rfl (ia_l (t := rwT) (z := z) rfl rfl rfl rfl (Int.natCast_nonneg _) hz) rfl ?_)
          | (refine isAc 110 ?_; refine do_R rfl (st_call rfl (c_irc z) (.cons (.same rfl) .nil) rfl) rfl ?_)
          | (refine isLc 110 rfl ?_; refine lex_R rfl (by kernel_rfl) rfl (st_call rfl (c_irc z) (.cons (.same rfl) .nil) rfl) rfl ?_)
          | refine aops_nil ?_
          | refine lex_done _ rfl (by kernel_rfl) ?_
          | refine aw_ct rfl ?_
          | refine aw_cf rfl ?_
          | refine aw_block ?_
          | with_reducible refine then_n ?_
          | refine aw_skip ?_
          | refine aw_exit ?_
          | with_reducible refine then_x ?_
          | with_reducible refine then_r ?_
          | with_reducible refine block_x ?_
          | with_reducible refine block_n ?_
          | with_reducible refine block_r ?_
          | refine aw_ret ?_
        refine aw_cond rfl (fun p => absurd (of_decide_eq_true p) (by rw [totsum (by omega) (by omega) b3]; omega)) (fun p => ?_)
        repeat' first
          | refine aw_seq ?_
          | refine aw_region ?_
          | refine aw_lex [] ?_
          | (refine isA ?_; refine do_F rfl ?_)
          | (refine isL ?_; refine lex_F rfl (by kernel_rfl) rfl rfl ?_)
          | (refine isLg rfl ?_; refine lex_S rfl (by kernel_rfl) rfl rfl ?_)
          | refine aops_nil ?_
          | refine lex_done _ rfl (by kernel_rfl) ?_
          | refine aw_ct rfl ?_
          | refine aw_cf rfl ?_
          | refine aw_block ?_
          | with_reducible refine then_n ?_
          | refine aw_skip ?_
          | refine aw_exit ?_
          | with_reducible refine then_x ?_
          | with_reducible refine then_r ?_
          | with_reducible refine block_x ?_
          | with_reducible refine block_n ?_
          | with_reducible refine block_r ?_
          | refine aw_ret ?_
        refine do_br rfl rfl (fun p => ?_) (fun p => absurd (of_decide_eq_false p) (by omega))
        repeat' first
          | refine aw_seq ?_
          | refine aw_region ?_
          | refine aw_lex [] ?_
          | (refine isA ?_; refine do_F rfl ?_)
          | (refine isL ?_; refine lex_F rfl (by kernel_rfl) rfl rfl ?_)
          | (refine isLg rfl ?_; refine lex_S rfl (by kernel_rfl) rfl rfl ?_)
          | refine aops_nil ?_
          | refine lex_done _ rfl (by kernel_rfl) ?_
          | refine aw_ct rfl ?_
          | refine aw_cf rfl ?_
          | refine aw_block ?_
          | with_reducible refine then_n ?_
          | refine aw_skip ?_
          | refine aw_exit ?_
          | with_reducible refine then_x ?_
          | with_reducible refine then_r ?_
          | with_reducible refine block_x ?_
          | with_reducible refine block_n ?_
          | with_reducible refine block_r ?_
          | refine aw_ret ?_
        refine aw_cond rfl (fun p => ?_) (fun p => absurd (of_decide_eq_false p) (by omega))
        repeat' first
          | refine aw_seq ?_
          | refine aw_region ?_
          | refine aw_lex [] ?_
          | (refine isA ?_; refine do_F rfl ?_)
          | (refine isL ?_; refine lex_F rfl (by kernel_rfl) rfl rfl ?_)
          | (refine isLg rfl ?_; refine lex_S rfl (by kernel_rfl) rfl rfl ?_)
          | (refine isAp ?_; refine do_R rfl (ap_mix (outs := s.outs) (hz := 4) (zi := 2) (n := s.run.length) rfl rfl rfl rfl rfl (by omega)) rfl ?_)
          | (refine isLp rfl ?_; refine lex_R rfl (by kernel_rfl) rfl (ap_mix (outs := s.outs) (hz := 4) (zi := 2) (n := s.run.length) rfl rfl rfl rfl rfl (by omega)) rfl ?_)
          | refine aops_nil ?_
          | refine lex_done _ rfl (by kernel_rfl) ?_
          | refine aw_ct rfl ?_
          | refine aw_cf rfl ?_
          | refine aw_block ?_
          | with_reducible refine then_n ?_
          | refine aw_skip ?_
          | refine aw_exit ?_
          | with_reducible refine then_x ?_
          | with_reducible refine then_r ?_
          | with_reducible refine block_x ?_
          | with_reducible refine block_n ?_
          | with_reducible refine block_r ?_
          | refine aw_ret ?_
        refine ⟨⟨bswap s, q.1, t⟩, q.2, ?_⟩
        refine Sub.trans (sub_run (A := rwR s.dfr) (B := rwR []) (C := rwR []) (outs := s.outs) (run := s.run) (flat_noH _ _) (flat_noH _ _) (flat_noH _ _) (by repeat' first | exact les_nil | refine les_cons ?_ ?_ | exact le_any | exact le_refl rfl | exact le_sl rfl rfl | exact le_ptr rfl)) ?_
        refine Sub.trans (T := ⟨((rwL xs) :: (I g) :: .any :: .any :: .any :: .any :: (.sl 0 0 s.dfr.length) :: (.sl 3 0 0) :: (.sl 4 0 0) :: (.sl 1 0 (s.outs.length + 1)) :: (I s.pos) :: .any :: .any :: .any :: .any :: .any :: .any :: .any :: .any :: .any :: .any :: .any :: .any :: .any :: .any :: .any :: .any :: .any :: .any :: .any :: .any :: .any :: .any :: .any :: .any :: .any :: .any :: .any :: .any :: .any :: .any :: .any :: .any :: .any :: .any :: .any :: .any :: .any :: .any :: .any :: .any :: .any :: .any :: .any :: .any :: .any :: .any :: .any :: .any :: .any :: .any :: .any :: .any :: .any :: .any :: .any :: .any :: .any :: .any :: .any :: .any :: .any :: .any :: .any :: .any :: .any :: .any :: .any :: .any :: .any :: .any :: .any :: .any :: .any :: .any :: .any :: .any :: .any :: .any :: .any :: .any :: .any :: .any :: .any :: .any :: .any :: .any :: .any :: .any :: .any :: .any :: .any :: .any :: .any :: .any :: .any :: .any :: []), [rwR s.dfr, ⟨39, 1, rnT.flat s.outs ++ [.sl 2 0 s.run.length], 0⟩, rwR s.run, rwR [], rwR []], 0⟩) (sub0 [0, 3, 4, 1, 2] rfl rfl (by decide) (.cons rfl rfl rfl rfl (les_refl (flat_noH _ _)) (.cons rfl rfl rfl rfl les_nil (.cons rfl rfl rfl rfl les_nil (.cons rfl rfl rfl rfl (les_app (les_refl (flat_noH _ _)) (les_cons (le_sl rfl rfl) les_nil)) (.cons rfl rfl rfl rfl (les_refl (flat_noH _ _)) .nil))))) (by
          repeat' first
            | exact les_nil
            | refine les_cons ?_ ?_
            | exact le_any
            | exact le_refl rfl
            | exact le_sl rfl rfl
            | exact le_sl rfl (by simp [bswap]))) ?_
        refine Sub.trans (T := ⟨((rwL xs) :: (I g) :: .any :: .any :: .any :: .any :: (.sl 0 0 s.dfr.length) :: (.sl 3 0 0) :: nilV :: (.sl 1 0 (s.outs.length + 1)) :: (I s.pos) :: .any :: .any :: .any :: .any :: .any :: .any :: .any :: .any :: .any :: .any :: .any :: .any :: .any :: .any :: .any :: .any :: .any :: .any :: .any :: .any :: .any :: .any :: .any :: .any :: .any :: .any :: .any :: .any :: .any :: .any :: .any :: .any :: .any :: .any :: .any :: .any :: .any :: .any :: .any :: .any :: .any :: .any :: .any :: .any :: .any :: .any :: .any :: .any :: .any :: .any :: .any :: .any :: .any :: .any :: .any :: .any :: .any :: .any :: .any :: .any :: .any :: .any :: .any :: .any :: .any :: .any :: .any :: .any :: .any :: .any :: .any :: .any :: .any :: .any :: .any :: .any :: .any :: .any :: .any :: .any :: .any :: .any :: .any :: .any :: .any :: .any :: .any :: .any :: .any :: .any :: .any :: .any :: .any :: .any :: .any :: .any :: []), [rwR s.dfr, ⟨39, 1, rnT.flat s.outs ++ [.sl 2 0 s.run.length], 0⟩, rwR s.run, rwR []], 0⟩) (sub_nil 71 3 (.cons (.same _) (.cons (.same _) (.cons (.same _) (.cons (.same _) (.cons (.same _) (.cons (.same _) (.cons (.same _) (.cons (.same _) (.cons .nil (.rest _)))))))))) (.rest _)) ?_
        refine Sub.trans (T := ⟨((rwL xs) :: (I g) :: .any :: .any :: .any :: .any :: (.sl 0 0 s.dfr.length) :: nilV :: nilV :: (.sl 1 0 (s.outs.length + 1)) :: (I s.pos) :: .any :: .any :: .any :: .any :: .any :: .any :: .any :: .any :: .any :: .any :: .any :: .any :: .any :: .any :: .any :: .any :: .any :: .any :: .any :: .any :: .any :: .any :: .any :: .any :: .any :: .any :: .any :: .any :: .any :: .any :: .any :: .any :: .any :: .any :: .any :: .any :: .any :: .any :: .any :: .any :: .any :: .any :: .any :: .any :: .any :: .any :: .any :: .any :: .any :: .any :: .any :: .any :: .any :: .any :: .any :: .any :: .any :: .any :: .any :: .any :: .any :: .any :: .any :: .any :: .any :: .any :: .any :: .any :: .any :: .any :: .any :: .any :: .any :: .any :: .any :: .any :: .any :: .any :: .any :: .any :: .any :: .any :: .any :: .any :: .any :: .any :: .any :: .any :: .any :: .any :: .any :: .any :: .any :: .any :: .any :: .any :: []), [rwR s.dfr, ⟨39, 1, rnT.flat s.outs ++ [.sl 2 0 s.run.length], 0⟩, rwR s.run], 0⟩) (sub_nil 71 3 (.cons (.same _) (.cons (.same _) (.cons (.same _) (.cons (.same _) (.cons (.same _) (.cons (.same _) (.cons (.same _) (.cons .nil (.rest _))))))))) (.rest _)) ?_
        exact sub0 [1, 5, 2] rfl rfl (by decide) (.cons rfl rfl rfl rfl (les_refl (flat_noH _ _)) (.cons rfl rfl rfl rfl (les_app (les_refl (flat_noH _ _)) (les_cons (le_sl rfl rfl) les_nil)) (.cons rfl rfl rfl rfl (les_refl (flat_noH _ _)) .nil))) (by repeat' first | exact les_nil | refine les_cons ?_ ?_ | exact le_any | exact le_refl rfl | exact le_sl rfl rfl | exact le_ptr rfl)
      · refine aw_cond rfl (fun p => ?_) (fun p => absurd (of_decide_eq_false p) (by omega))
        repeat' first
          | refine aw_seq ?_
          | refine aw_region ?_
          | refine aw_lex [] ?_
          | (refine isA ?_; refine do_F rfl ?_)
          | (refine isL ?_; refine lex_F rfl (by kernel_rfl) rfl rfl ?_)
          | (refine isLg rfl ?_; refine lex_S rfl (by kernel_rfl) rfl rfl ?_)
          | (refine isAp ?_; refine do_R rfl (ap_mix (outs := s.outs) (hz := 4) (zi := 2) (n := s.run.length) rfl rfl rfl rfl rfl (by omega)) rfl ?_)
          | (refine isLp rfl ?_; refine lex_R rfl (by kernel_rfl) rfl (ap_mix (outs := s.outs) (hz := 4) (zi := 2) (n := s.run.length) rfl rfl rfl rfl rfl (by omega)) rfl ?_)
          | refine aops_nil ?_
          | refine lex_done _ rfl (by kernel_rfl) ?_
          | refine aw_ct rfl ?_
          | refine aw_cf rfl ?_
          | refine aw_block ?_
          | with_reducible refine then_n ?_
          | refine aw_skip ?_
          | refine aw_exit ?_
          | with_reducible refine then_x ?_
          | with_reducible refine then_r ?_
          | with_reducible refine block_x ?_
          | with_reducible refine block_n ?_
          | with_reducible refine block_r ?_
          | refine aw_ret ?_
        refine ⟨⟨bswap s, q.1, t⟩, q.2, ?_⟩
        refine Sub.trans (sub_run (A := rwR s.dfr) (B := rwR []) (C := rwR []) (outs := s.outs) (run := s.run) (flat_noH _ _) (flat_noH _ _) (flat_noH _ _) (by repeat' first | exact les_nil | refine les_cons ?_ ?_ | exact le_any | exact le_refl rfl | exact le_sl rfl rfl | exact le_ptr rfl)) ?_
        refine Sub.trans (T := ⟨((rwL xs) :: (I g) :: .any :: .any :: .any :: .any :: (.sl 0 0 s.dfr.length) :: (.sl 3 0 0) :: (.sl 4 0 0) :: (.sl 1 0 (s.outs.length + 1)) :: (I s.pos) :: .any :: .any :: .any :: .any :: .any :: .any :: .any :: .any :: .any :: .any :: .any :: .any :: .any :: .any :: .any :: .any :: .any :: .any :: .any :: .any :: .any :: .any :: .any :: .any :: .any :: .any :: .any :: .any :: .any :: .any :: .any :: .any :: .any :: .any :: .any :: .any :: .any :: .any :: .any :: .any :: .any :: .any :: .any :: .any :: .any :: .any :: .any :: .any :: .any :: .any :: .any :: .any :: .any :: .any :: .any :: .any :: .any :: .any :: .any :: .any :: .any :: .any :: .any :: .any :: .any :: .any :: .any :: .any :: .any :: .any :: .any :: .any :: .any :: .any :: .any :: .any :: .any :: .any :: .any :: .any :: .any :: .any :: .any :: .any :: .any :: .any :: .any :: .any :: .any :: .any :: .any :: .any :: .any :: .any :: .any :: .any :: []), [rwR s.dfr, ⟨39, 1, rnT.flat s.outs ++ [.sl 2 0 s.run.length], 0⟩, rwR s.run, rwR [], rwR []], 0⟩) (sub0 [0, 3, 4, 1, 2] rfl rfl (by decide) (.cons rfl rfl rfl rfl (les_refl (flat_noH _ _)) (.cons rfl rfl rfl rfl les_nil (.cons rfl rfl rfl rfl les_nil (.cons rfl rfl rfl rfl (les_app (les_refl (flat_noH _ _)) (les_cons (le_sl rfl rfl) les_nil)) (.cons rfl rfl rfl rfl (les_refl (flat_noH _ _)) .nil))))) (by
          repeat' first
            | exact les_nil
            | refine les_cons ?_ ?_
            | exact le_any
            | exact le_refl rfl
            | exact le_sl rfl rfl
            | exact le_sl rfl (by simp [bswap]))) ?_
        refine Sub.trans (T := ⟨((rwL xs) :: (I g) :: .any :: .any :: .any :: .any :: (.sl 0 0 s.dfr.length) :: (.sl 3 0 0) :: nilV :: (.sl 1 0 (s.outs.length + 1)) :: (I s.pos) :: .any :: .any :: .any :: .any :: .any :: .any :: .any :: .any :: .any :: .any :: .any :: .any :: .any :: .any :: .any :: .any :: .any :: .any :: .any :: .any :: .any :: .any :: .any :: .any :: .any :: .any :: .any :: .any :: .any :: .any :: .any :: .any :: .any :: .any :: .any :: .any :: .any :: .any :: .any :: .any :: .any :: .any :: .any :: .any :: .any :: .any :: .any :: .any :: .any :: .any :: .any :: .any :: .any :: .any :: .any :: .any :: .any :: .any :: .any :: .any :: .any :: .any :: .any :: .any :: .any :: .any :: .any :: .any :: .any :: .any :: .any :: .any :: .any :: .any :: .any :: .any :: .any :: .any :: .any :: .any :: .any :: .any :: .any :: .any :: .any :: .any :: .any :: .any :: .any :: .any :: .any :: .any :: .any :: .any :: .any :: .any :: []), [rwR s.dfr, ⟨39, 1, rnT.flat s.outs ++ [.sl 2 0 s.run.length], 0⟩, rwR s.run, rwR []], 0⟩) (sub_nil 71 3 (.cons (.same _) (.cons (.same _) (.cons (.same _) (.cons (.same _) (.cons (.same _) (.cons (.same _) (.cons (.same _) (.cons (.same _) (.cons .nil (.rest _)))))))))) (.rest _)) ?_
        refine Sub.trans (T := ⟨((rwL xs) :: (I g) :: .any :: .any :: .any :: .any :: (.sl 0 0 s.dfr.length) :: nilV :: nilV :: (.sl 1 0 (s.outs.length + 1)) :: (I s.pos) :: .any :: .any :: .any :: .any :: .any :: .any :: .any :: .any :: .any :: .any :: .any :: .any :: .any :: .any :: .any :: .any :: .any :: .any :: .any :: .any :: .any :: .any :: .any :: .any :: .any :: .any :: .any :: .any :: .any :: .any :: .any :: .any :: .any :: .any :: .any :: .any :: .any :: .any :: .any :: .any :: .any :: .any :: .any :: .any :: .any :: .any :: .any :: .any :: .any :: .any :: .any :: .any :: .any :: .any :: .any :: .any :: .any :: .any :: .any :: .any :: .any :: .any :: .any :: .any :: .any :: .any :: .any :: .any :: .any :: .any :: .any :: .any :: .any :: .any :: .any :: .any :: .any :: .any :: .any :: .any :: .any :: .any :: .any :: .any :: .any :: .any :: .any :: .any :: .any :: .any :: .any :: .any :: .any :: .any :: .any :: .any :: []), [rwR s.dfr, ⟨39, 1, rnT.flat s.outs ++ [.sl 2 0 s.run.length], 0⟩, rwR s.run], 0⟩) (sub_nil 71 3 (.cons (.same _) (.cons (.same _) (.cons (.same _) (.cons (.same _) (.cons (.same _) (.cons (.same _) (.cons (.same _) (.cons .nil (.rest _))))))))) (.rest _)) ?_
        exact sub0 [1, 5, 2] rfl rfl (by decide) (.cons rfl rfl rfl rfl (les_refl (flat_noH _ _)) (.cons rfl rfl rfl rfl (les_app (les_refl (flat_noH _ _)) (les_cons (le_sl rfl rfl) les_nil)) (.cons rfl rfl rfl rfl (les_refl (flat_noH _ _)) .nil))) (by repeat' first | exact les_nil | refine les_cons ?_ ?_ | exact le_any | exact le_refl rfl | exact le_sl rfl rfl | exact le_ptr rfl)
      · exact absurd (of_decide_eq_false hbr) (by omega)
    | stop hp hc hd =>
      have h0 : s.cur.length = 0 := by rw [hc]; rfl
      have d0 : s.dfr.length = 0 := by rw [hd]; rfl
      repeat' first
        | refine aw_seq ?_
        | refine aw_region ?_
        | refine aw_lex [] ?_
        | (refine isA ?_; refine do_F rfl ?_)
        | (refine isL ?_; refine lex_F rfl (by kernel_rfl) rfl rfl ?_)
        | (refine isLg rfl ?_; refine lex_S rfl (by kernel_rfl) rfl rfl ?_)
        | refine aops_nil ?_
        | refine lex_done _ rfl (by kernel_rfl) ?_
        | refine aw_ct rfl ?_
        | refine aw_cf rfl ?_
        | refine aw_block ?_
        | with_reducible refine then_n ?_
        | refine aw_skip ?_
        | refine aw_exit ?_
        | with_reducible refine then_x ?_
        | with_reducible refine then_r ?_
        | with_reducible refine block_x ?_
        | with_reducible refine block_n ?_
        | with_reducible refine block_r ?_
        | refine aw_ret ?_
      refine lex_br rfl rfl rfl rfl (fun p => absurd (of_decide_eq_true p) (by omega)) (fun p => ?_)
      repeat' first
        | refine aw_seq ?_
        | refine aw_region ?_
        | refine aw_lex [] ?_
        | (refine isA ?_; refine do_F rfl ?_)
        | (refine isL ?_; refine lex_F rfl (by kernel_rfl) rfl rfl ?_)
        | (refine isLg rfl ?_; refine lex_S rfl (by kernel_rfl) rfl rfl ?_)
        | refine aops_nil ?_
        | refine lex_done _ rfl (by kernel_rfl) ?_
        | refine aw_ct rfl ?_
        | refine aw_cf rfl ?_
        | refine aw_block ?_
        | with_reducible refine then_n ?_
        | refine aw_skip ?_
        | refine aw_exit ?_
        | with_reducible refine then_x ?_
        | with_reducible refine then_r ?_
        | with_reducible refine block_x ?_
        | with_reducible refine block_n ?_
        | with_reducible refine block_r ?_
        | refine aw_ret ?_
      refine do_br rfl rfl (fun p => ?_) (fun p => absurd (of_decide_eq_false p) (by omega))
      repeat' first
        | refine aw_seq ?_
        | refine aw_region ?_
        | refine aw_lex [] ?_
        | (refine isA ?_; refine do_F rfl ?_)
        | (refine isL ?_; refine lex_F rfl (by kernel_rfl) rfl rfl ?_)
        | (refine isLg rfl ?_; refine lex_S rfl (by kernel_rfl) rfl rfl ?_)
        | refine aops_nil ?_
        | refine lex_done _ rfl (by kernel_rfl) ?_
        | refine aw_ct rfl ?_
        | refine aw_cf rfl ?_
        | refine aw_block ?_
        | with_reducible refine then_n ?_
        | refine aw_skip ?_
        | refine aw_exit ?_
        | with_reducible refine then_x ?_
        | with_reducible refine then_r ?_
        | with_reducible refine block_x ?_
        | with_reducible refine block_n ?_
        | with_reducible refine block_r ?_
        | refine aw_ret ?_
      refine aw_cond rfl (fun p => absurd (of_decide_eq_true p) (by omega)) (fun p => ?_)
      repeat' first
        | refine aw_seq ?_
        | refine aw_region ?_
        | refine aw_lex [] ?_
        | (refine isA ?_; refine do_F rfl ?_)
        | (refine isL ?_; refine lex_F rfl (by kernel_rfl) rfl rfl ?_)
        | (refine isLg rfl ?_; refine lex_S rfl (by kernel_rfl) rfl rfl ?_)
        | refine aops_nil ?_
        | refine lex_done _ rfl (by kernel_rfl) ?_
        | refine aw_ct rfl ?_
        | refine aw_cf rfl ?_
        | refine aw_block ?_
        | with_reducible refine then_n ?_
        | refine aw_skip ?_
        | refine aw_exit ?_
        | with_reducible refine then_x ?_
        | with_reducible refine then_r ?_
        | with_reducible refine block_x ?_
        | with_reducible refine block_n ?_
        | with_reducible refine block_r ?_
        | refine aw_ret ?_
      refine aw_cond rfl (fun p => absurd (of_decide_eq_true p) (by omega)) (fun p => ?_)
      repeat' first
        | refine aw_seq ?_
        | refine aw_region ?_
        | refine aw_lex [] ?_
        | (refine isA ?_; refine do_F rfl ?_)
        | (refine isL ?_; refine lex_F rfl (by kernel_rfl) rfl rfl ?_)
        | (refine isLg rfl ?_; refine lex_S rfl (by kernel_rfl) rfl rfl ?_)
        | refine aops_nil ?_
        | refine lex_done _ rfl (by kernel_rfl) ?_
        | refine aw_ct rfl ?_
        | refine aw_cf rfl ?_
        | refine aw_block ?_
        | with_reducible refine then_n ?_
        | refine aw_skip ?_
        | refine aw_exit ?_
        | with_reducible refine then_x ?_
        | with_reducible refine then_r ?_
        | with_reducible refine block_x ?_
        | with_reducible refine block_n ?_
        | with_reducible refine block_r ?_
        | refine aw_ret ?_
      refine aw_cond rfl (fun p => ?_) (fun p => ?_)
      · have e : bend s = s.outs ++ [s.run] := by unfold bend; rw [decide_eq_true (show 0 < s.run.length by have := of_decide_eq_true p; omega), cond_true]
        have ok2 : okRn (s.outs ++ [s.run]) := ⟨by simp; omega, fun x hx => by
          rcases List.mem_append.1 hx with hx | hx
          · have : x.length ≤ tot s.outs := mem_sum (List.mem_map.2 ⟨x, hx, rfl⟩)
            omega
          · have : x = s.run := by simpa using hx
            rw [this]; omega⟩
        have ac := c_clones (s.outs ++ [s.run]) ok2
        rw [e]
        repeat' first
          | refine aw_seq ?_
          | refine aw_region ?_
          | refine aw_lex [] ?_
          | (refine isA ?_; refine do_F rfl ?_)
          | (refine isL ?_; refine lex_F rfl (by kernel_rfl) rfl rfl ?_)
          | (refine isLg rfl ?_; refine lex_S rfl (by kernel_rfl) rfl rfl ?_)
          | (refine isAp ?_; refine do_R rfl (ap_mix (outs := s.outs) (hz := 4) (zi := 2) (n := s.run.length) rfl rfl rfl rfl rfl (by omega)) rfl ?_)
          | (refine isLp rfl ?_; refine lex_R rfl (by kernel_rfl) rfl (ap_mix (outs := s.outs) (hz := 4) (zi := 2) (n := s.run.length) rfl rfl rfl rfl rfl (by omega)) rfl ?_)
          | (refine isAc 113 ?_; refine do_R rfl (st_callKN (r' := .sl 6 0 (s.outs ++ [s.run]).length) rfl ac (.cons (pur_mix rfl rfl) .nil) rfl (by rw [nest_sh])) rfl ?_)
          | (refine isLc 113 rfl ?_; refine lex_R rfl (by kernel_rfl) rfl (st_callKN (r' := .sl 6 0 (s.outs ++ [s.run]).length) rfl ac (.cons (pur_mix rfl rfl) .nil) rfl (by rw [nest_sh])) rfl ?_)
          | exact finNT _ rfl (hle_behind rfl) (le_tup (les_cons (le_sl rfl rfl) (les_cons (le_refl rfl) les_nil))) (Or.inr ⟨rfl, rnN_flatS _⟩)
          | refine aops_nil ?_
          | refine lex_done _ rfl (by kernel_rfl) ?_
          | refine aw_ct rfl ?_
          | refine aw_cf rfl ?_
          | refine aw_block ?_
          | with_reducible refine then_n ?_
          | refine aw_skip ?_
          | refine aw_exit ?_
          | with_reducible refine then_x ?_
          | with_reducible refine then_r ?_
          | with_reducible refine block_x ?_
          | with_reducible refine block_n ?_
          | with_reducible refine block_r ?_
          | refine aw_ret ?_
      · have e : bend s = s.outs := by unfold bend; rw [decide_eq_false (show ¬ 0 < s.run.length by have := of_decide_eq_false p; omega), cond_false]
        have ok2 : okRn s.outs := ⟨by omega, fun x hx => by
          have : x.length ≤ tot s.outs := mem_sum (List.mem_map.2 ⟨x, hx, rfl⟩)
          omega⟩
        have ac := c_clones s.outs ok2
        rw [e]
        repeat' first
          | refine aw_seq ?_
          | refine aw_region ?_
          | refine aw_lex [] ?_
          | (refine isA ?_; refine do_F rfl ?_)
          | (refine isL ?_; refine lex_F rfl (by kernel_rfl) rfl rfl ?_)
          | (refine isLg rfl ?_; refine lex_S rfl (by kernel_rfl) rfl rfl ?_)
          | (refine isAc 113 ?_; refine do_R rfl (st_callKN (r' := .sl 4 0 s.outs.length) rfl ac (.cons (pur_row (T := rnT) rfl) .nil) rfl (by rw [nest_sh])) rfl ?_)
          | (refine isLc 113 rfl ?_; refine lex_R rfl (by kernel_rfl) rfl (st_callKN (r' := .sl 4 0 s.outs.length) rfl ac (.cons (pur_row (T := rnT) rfl) .nil) rfl (by rw [nest_sh])) rfl ?_)
          | exact finNT _ rfl (hle_behind rfl) (le_tup (les_cons (le_sl rfl rfl) (les_cons (le_refl rfl) les_nil))) (Or.inr ⟨rfl, rnN_flatS _⟩)
          | refine aops_nil ?_
          | refine lex_done _ rfl (by kernel_rfl) ?_
          | refine aw_ct rfl ?_
          | refine aw_cf rfl ?_
          | refine aw_block ?_
          | with_reducible refine then_n ?_
          | refine aw_skip ?_
          | refine aw_exit ?_
          | with_reducible refine then_x ?_
          | with_reducible refine then_r ?_
          | with_reducible refine block_x ?_
          | with_reducible refine block_n ?_
          | with_reducible refine block_r ?_
          | refine aw_ret ?_
end Go.Proofs.Ytkcicbigpbdjpaa.Ab

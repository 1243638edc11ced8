/- What the row FnSorterInvariant leans on, part 5: a walk over abstract values, and contracts proved with it. -/
import Derived.WalkKit
import Derived.Laws.Rows
import Derived.RowKit
import Derived.OrdersHeld
import Derived.Deep.RegionHeld3
import Derived.Deep.Draws
import Derived.BigCall
import Derived.KernelRfl
import Derived.Deep.Slices
import Derived.ChangeArms
import Derived.ChangeShapes
import Derived.WideShapes
import Derived.Test.YtojcojanokhnaaaProg
import Derived.Laws.StructEq
import Derived.Lib.Overlaps
import Derived.Test.YtojcojanokhnaaaZv3
set_option linter.unusedVariables false
set_option linter.unusedSimpArgs false
set_option maxRecDepth 20000
set_option maxHeartbeats 8000000
namespace Go.Proofs.Ytojcojanokhnaaa.Ab
open Go.RowKit
theorem VwS.app {H : List Reg} : ∀ (cs : List V) {ds es : List V}, VwS H ds es → VwS H (cs ++ ds) (cs ++ es)
  | [], _, _, h => h
  | c :: cs, _, _, h => .cons (.same c) (VwS.app cs h)
abbrev rnR (rs : List Rn) : Reg := xR rnT 84 rs
theorem td {o : Oper} {ρ : Operand → V} {H : List Reg} {h hz zi n : Nat} {s x : Operand} {outs : List Rn} (ho : o.op = .call { callee := .builtin .append, args := #[s, x], argTypes := #[25, 25] })
    (hs : ρ s = .sl h 0 outs.length) (hH0 : H[h]? = some (rnR outs)) (hx : ρ x = .sl hz 0 1) (hzz : H[hz]? = some ⟨84, 1, [.sl zi 0 n], 0⟩) (hl : outs.length ≤ 10000000) :
    z9 Go.Proofs.Try.prog o ρ H (.sl H.length 0 (outs.length + 1)) (H.set h ⟨84, 1, rnT.flat outs, 2⟩ ++ [⟨84, 1, rnT.flat outs ++ [.sl zi 0 n], 0⟩]) := by
  have hsrc : Src H (ρ x) 1 [.sl zi 0 n] := by
    rw [hx]
    have := Src.sl (H := H) (off := 0) (m := 1) (r := ⟨84, 1, [.sl zi 0 n], 0⟩) hzz (Nat.zero_le _) (Nat.le_refl _)
    exact this
  have hH : H[h]? = some ⟨84, 1, rnT.flat outs, 0⟩ := hH0
  have fl : (rnT.flat outs).length = outs.length := by rw [yL]; show outs.length * 1 = _; omega
  have := vI (P := Go.Proofs.Try.prog) (ρ := ρ) (ty := 25) (m := 1) ho hs hH rfl rfl rfl (by show outs.length * 1 ≤ (rnT.flat outs).length; omega) hsrc rfl (fun c hc => by simp at hc; subst hc; rfl) (by omega) (by simp only [maxLen]; omega)
  have e1 : (⟨84, 1, rnT.flat outs, 0⟩ : Reg).cells.take (outs.length * 1) = rnT.flat outs := by
    show (rnT.flat outs).take _ = _
    rw [List.take_of_length_le]; omega
  rw [e1] at this
  exact this
theorem mR {ψ : List Nat} : ∀ {cs ds es fs : List V}, Les ψ cs ds → Les ψ es fs → Les ψ (cs ++ es) (ds ++ fs)
  | [], ds, es, fs, h, k => by
    have := xg h
    rw [List.eq_nil_of_length_eq_zero (show ds.length = 0 from this)]
    exact k
  | c :: cs, ds, es, fs, h, k => by
    rw [Les] at h
    obtain ⟨d, ds', rfl, h1, h2⟩ := h
    exact zZ h1 (mR h2 k)
theorem tW (outs : List Rn) (run : Rn) : rnT.flat (outs ++ [run]) = rnT.flat outs ++ [rwL run] := by rw [vL]; rfl
theorem l5 {l : List V} {outs : List Rn} {run : Rn} (hl : Les [0] l l) :
    Sub ⟨l, [rnR (outs ++ [run])], 0⟩ ⟨l, [⟨84, 1, rnT.flat outs ++ [.sl 1 0 run.length], 0⟩, rwR run], 0⟩ := by
  refine Sub.trans ?_ (tf (h := 1) (r := rwR run) rfl rfl (Nat.zero_le _) (fun i hi => absurd hi (Nat.not_lt_zero _)))
  refine Sub.trans ?_ (l4 (l' := l) (K := [rnR (outs ++ [run]), { rwR run with mode := 1 }]) (.rest _) (.cons ?_ (.rest _)))
  · exact yf [0] rfl rfl (by decide) (.cons rfl rfl rfl rfl (zT (zJ _ _)) .nil) hl
  · rw [tW]
    exact VwS.app _ (.cons (.pur (.sl (r := { rwR run with mode := 1 }) rfl (Or.inl rfl) (zJ _ _) (show 0 < 3 by omega) (by show (0 + run.length) * 3 ≤ (rwT.flat run).length; rw [yL]; show _ ≤ run.length * 3; omega) (by show rwT.flat run = ((rwT.flat run).drop (0 * 3)).take (run.length * 3); rw [Nat.zero_mul, List.drop_zero, List.take_of_length_le (by rw [yL]; exact Nat.le_refl _)]))) (.rest _))
theorem sT {live : Bool} {H : List Reg} : ∀ {cs ds es fs : List V}, Purs live H cs ds → Purs live H es fs → Purs live H (cs ++ es) (ds ++ fs)
  | _, _, _, _, .nil, k => k
  | _, _, _, _, .cons h hs, k => .cons h (sT hs k)
theorem tO {live : Bool} {H : List Reg} : ∀ {cs : List V}, NoH cs → Purs live H cs cs
  | [], _ => .nil
  | c :: cs, h => .cons (.same (h c (List.mem_cons_self ..))) (tO fun d hd => h d (List.mem_cons_of_mem _ hd))
theorem yP {H : List Reg} {h zi ty : Nat} {outs : List Rn} {run : Rn} (hH : H[h]? = some ⟨ty, 1, rnT.flat outs ++ [.sl zi 0 run.length], 0⟩) (hz : H[zi]? = some (rwR run)) : Pur true H (.sl h 0 (outs.length + 1)) (rnL (outs ++ [run])) := by
  have fl : (rnT.flat outs).length = outs.length := by rw [yL]; show outs.length * 1 = _; omega
  have e : (outs ++ [run]).length = outs.length + 1 := by simp
  rw [← e]
  refine .slN hH (Or.inr ⟨rfl, rfl⟩) (Nat.lt_succ_self 0) (by simp only [List.length_append, fl, List.length_singleton]; omega) ?_
  have q : (List.take ((outs ++ [run]).length * 1) (List.drop (0 * 1) (rnT.flat outs ++ [.sl zi 0 run.length]))) = rnT.flat outs ++ [.sl zi 0 run.length] := by
    rw [Nat.zero_mul, List.drop_zero, List.take_of_length_le (by simp only [List.length_append, fl, List.length_singleton]; omega)]
  show Purs true H (List.take ((outs ++ [run]).length * 1) (List.drop (0 * 1) (rnT.flat outs ++ [.sl zi 0 run.length]))) (rnT.flat (outs ++ [run]))
  rw [q, tW]
  exact sT (tO (zJ _ _)) (.cons (zt hz) .nil)
theorem ln (rs : List Rn) (hok : tP rs) (hl : rs.length ≤ 10000000) : zz Go.Proofs.Try.prog 118 [rnL rs] [] (.sl 0 0 rs.length) [rnR rs] true := by
  refine zx [2] Go.Proofs.Try.func118 rfl rfl ?_
  simp only [Go.Proofs.Try.ntmps118, List.length_cons, List.length_nil, Nat.reduceAdd, Nat.reduceSub, List.replicate_succ, List.replicate_zero, List.cons_append, List.nil_append]
  repeat' first | refine zK ?_ | refine zA ?_ | refine zP [] ?_ | (refine isA ?_; refine zg rfl ?_) | (refine isL ?_; refine zW rfl (by kernel_rfl) rfl rfl ?_) | (refine zd rfl ?_; refine zV rfl (by kernel_rfl) rfl rfl ?_) | refine zD ?_ | refine zB _ rfl (by kernel_rfl) ?_ | refine zX rfl ?_ | refine zY rfl ?_ | refine zC ?_ | with_reducible refine zN ?_ | refine zH ?_ | refine zI ?_ | (with_reducible first | refine zL ?_ | refine zM ?_ | refine zE ?_ | refine zG ?_ | refine zF ?_) | refine zO ?_
  refine yE (α := { i : Nat // i ≤ rs.length }) (fun i => ⟨[rnL rs, .any, .any, .sl 0 0 (rs.take i.1).length, I i.1, .any, .any, .any, .any, .any, .any, .any, .any, .any, .any, .any, .any, .any, .any, .any, .any, .any, .any, .any], [rnR (rs.take i.1)], 0⟩) (fun i => rs.length - i.1) ⟨0, Nat.zero_le _⟩ ?_ ?_
  · exact yf [0] rfl rfl (by decide) (by repeat' first | exact HLes.nil | refine HLes.cons rfl rfl rfl rfl ?_ ?_ | exact zm | refine zZ ?_ ?_ | exact zo | exact le_refl rfl | exact zj rfl rfl | exact zr rfl) (by repeat' first | exact zm | refine zZ ?_ ?_ | exact zo | exact le_refl rfl | exact zj rfl rfl | exact zr rfl)
  · rintro ⟨i, hi⟩
    repeat' first | refine zK ?_ | refine zA ?_ | refine zP [] ?_ | (refine isA ?_; refine zg rfl ?_) | (refine isL ?_; refine zW rfl (by kernel_rfl) rfl rfl ?_) | (refine zd rfl ?_; refine zV rfl (by kernel_rfl) rfl rfl ?_) | refine zD ?_ | refine zB _ rfl (by kernel_rfl) ?_ | refine zX rfl ?_ | refine zY rfl ?_ | refine zC ?_ | with_reducible refine zN ?_ | refine zH ?_ | refine zI ?_ | (with_reducible first | refine zL ?_ | refine zM ?_ | refine zE ?_ | refine zG ?_ | refine zF ?_) | refine zO ?_
    refine zk rfl (fun h => ?_) (fun h => ?_)
    · have hlt : i < rs.length := by simpa using h
      obtain ⟨x, hx⟩ : ∃ x, rs[i]? = some x := ⟨_, List.getElem?_eq_getElem hlt⟩
      have hxl := hok.at hx
      repeat' first | refine zK ?_ | refine zA ?_ | refine zP [] ?_ | (refine isA ?_; refine zg rfl ?_) | (refine isL ?_; refine zW rfl (by kernel_rfl) rfl rfl ?_) | (refine zd rfl ?_; refine zV rfl (by kernel_rfl) rfl rfl ?_) | (refine yB (x := .tmp 14) ?_; refine zb rfl (z5 (t := rnT) (z := x) rfl rfl rfl rfl (Int.natCast_nonneg i) hx) rfl ?_) | (refine yA (x := .tmp 14) rfl ?_; refine zU rfl (by kernel_rfl) rfl (z5 (t := rnT) (z := x) rfl rfl rfl rfl (Int.natCast_nonneg i) hx) rfl ?_) | (refine xb ?_; refine zb rfl (yV (t := rwT) (xs := []) (ys := x) rfl rfl rfl rfl (.lst _ _) (by simp; omega) rfl) rfl ?_) | (refine xH rfl ?_; refine zU rfl (by kernel_rfl) rfl (yV (t := rwT) (xs := []) (ys := x) rfl rfl rfl rfl (.lst _ _) (by simp; omega) rfl) rfl ?_) | (refine xb ?_; refine zb rfl (td (outs := rs.take i) (hz := 3) (zi := 2) (n := x.length) rfl rfl rfl rfl rfl (by simp; omega)) rfl ?_) | (refine xH rfl ?_; refine zU rfl (by kernel_rfl) rfl (td (outs := rs.take i) (hz := 3) (zi := 2) (n := x.length) rfl rfl rfl rfl rfl (by simp; omega)) rfl ?_) | refine zD ?_ | refine zB _ rfl (by kernel_rfl) ?_ | refine zX rfl ?_ | refine zY rfl ?_ | refine zC ?_ | with_reducible refine zN ?_ | refine zH ?_ | refine zI ?_ | (with_reducible first | refine zL ?_ | refine zM ?_ | refine zE ?_ | refine zG ?_ | refine zF ?_) | refine zO ?_
      refine ⟨⟨i + 1, hlt⟩, by simp only; omega, ?_⟩
      simp only
      rw [yr hx]
      refine Sub.trans (l5 (outs := rs.take i) (run := x) (by repeat' first | exact zm | refine zZ ?_ ?_ | exact zo | exact le_refl rfl | exact zj rfl rfl | exact zr rfl)) ?_
      exact yf [4, 2] rfl rfl (by decide) (.cons rfl rfl rfl rfl (mR (zT (zJ _ _)) (zZ (zj rfl rfl) zm)) (.cons rfl rfl rfl rfl (zT (zJ _ _)) .nil)) (by
        repeat' first | exact zm | refine zZ ?_ ?_ | exact zo | exact le_refl rfl | exact zj rfl rfl | exact zj rfl (by simp) | exact xZ (by assumption) (by omega))
    · have hge : i = rs.length := by
        have : ¬ ((i : Int) < rs.length) := by simpa using h
        omega
      subst hge
      have e : rs.take rs.length = rs := List.take_length
      repeat' first | refine zK ?_ | refine zA ?_ | refine zP [] ?_ | (refine isA ?_; refine zg rfl ?_) | (refine isL ?_; refine zW rfl (by kernel_rfl) rfl rfl ?_) | (refine zd rfl ?_; refine zV rfl (by kernel_rfl) rfl rfl ?_) | refine zD ?_ | refine zB _ rfl (by kernel_rfl) ?_ | refine zX rfl ?_ | refine zY rfl ?_ | refine zC ?_ | with_reducible refine zN ?_ | refine zH ?_ | refine zI ?_ | (with_reducible first | refine zL ?_ | refine zM ?_ | refine zE ?_ | refine zG ?_ | refine zF ?_) | refine zO ?_
      exact tY 0 [0] (fun i hi => absurd hi (Nat.not_lt_zero _)) (by decide) rfl (zj rfl (congrArg List.length e)) (.cons rfl rfl rfl rfl (by show Les _ (rnT.flat rs) (rnT.flat (rs.take rs.length)); rw [e]; exact zT (zJ _ _)) .nil)
abbrev soP (b : Nat) (s : So) : List V := [.sl b 0 s.input.length, I s.pos, .sl (b + 1) 0 s.heap.length, .sl (b + 2) 0 s.dfr.length, .sl (b + 3) 0 s.out.length, .sl (b + 4) 0 s.runs.length, I s.lp, I s.rp, I s.ph, I s.wr]
abbrev soW (s : So) : List Reg := [rwR s.input, rwR s.heap, rwR s.dfr, rwR s.out, rnR s.runs]
theorem xm (s : So) (hok : okSo s) : zz Go.Proofs.Try.prog 65 [.agg (soE s)] [] (.agg (soP 0 s)) (soW s) true := by
  have g1 := hok.input
  have g2 := hok.heap
  have g3 := hok.dfr
  have g4 := hok.out
  have g5 := hok.runs
  have a1 := ln s.runs hok.rn (by omega)
  refine wC 2 27 Go.Proofs.Try.func65 rfl rfl ?_
  simp only [Go.Proofs.Try.ntmps65, List.length_cons, List.length_nil, Nat.reduceAdd, Nat.reduceSub, List.replicate_succ, List.replicate_zero, List.cons_append, List.nil_append]
  repeat' first | refine zK ?_ | refine zA ?_ | refine zP [] ?_ | (refine isA ?_; refine zg rfl ?_) | (refine isL ?_; refine zW rfl (by kernel_rfl) rfl rfl ?_) | (refine zd rfl ?_; refine zV rfl (by kernel_rfl) rfl rfl ?_) | (refine xb ?_; refine zb rfl (yV (t := rwT) (xs := []) (ys := s.input) rfl rfl rfl rfl (.lst _ _) (by simp; omega) rfl) rfl ?_) | (refine xH rfl ?_; refine zU rfl (by kernel_rfl) rfl (yV (t := rwT) (xs := []) (ys := s.input) rfl rfl rfl rfl (.lst _ _) (by simp; omega) rfl) rfl ?_) | (refine xb ?_; refine zb rfl (yV (t := rwT) (xs := []) (ys := s.heap) rfl rfl rfl rfl (.lst _ _) (by simp; omega) rfl) rfl ?_) | (refine xH rfl ?_; refine zU rfl (by kernel_rfl) rfl (yV (t := rwT) (xs := []) (ys := s.heap) rfl rfl rfl rfl (.lst _ _) (by simp; omega) rfl) rfl ?_) | (refine xb ?_; refine zb rfl (yV (t := rwT) (xs := []) (ys := s.dfr) rfl rfl rfl rfl (.lst _ _) (by simp; omega) rfl) rfl ?_) | (refine xH rfl ?_; refine zU rfl (by kernel_rfl) rfl (yV (t := rwT) (xs := []) (ys := s.dfr) rfl rfl rfl rfl (.lst _ _) (by simp; omega) rfl) rfl ?_) | (refine xb ?_; refine zb rfl (yV (t := rwT) (xs := []) (ys := s.out) rfl rfl rfl rfl (.lst _ _) (by simp; omega) rfl) rfl ?_) | (refine xH rfl ?_; refine zU rfl (by kernel_rfl) rfl (yV (t := rwT) (xs := []) (ys := s.out) rfl rfl rfl rfl (.lst _ _) (by simp; omega) rfl) rfl ?_) | (refine zv 118 ?_; refine zb rfl (ye rfl a1 (.cons (.same rfl) .nil) (fun q hq => by simp at hq; subst hq; exact zJ _ _) rfl rfl) rfl ?_) | (refine zw 118 rfl ?_; refine zU rfl (by kernel_rfl) rfl (ye rfl a1 (.cons (.same rfl) .nil) (fun q hq => by simp at hq; subst hq; exact zJ _ _) rfl rfl) rfl ?_) | refine zD ?_ | refine zB _ rfl (by kernel_rfl) ?_ | refine zX rfl ?_ | refine zY rfl ?_ | refine zC ?_ | with_reducible refine zN ?_ | refine zH ?_ | refine zI ?_ | (with_reducible first | refine zL ?_ | refine zM ?_ | refine zE ?_ | refine zG ?_ | refine zF ?_) | refine zO ?_
  exact finMC [4, 6, 8, 10, 11] (by decide) (yW rfl rfl rfl rfl rfl) (sj (by repeat' first | exact zm | refine zZ ?_ ?_ | exact zo | exact le_refl rfl | exact zj rfl rfl | exact zr rfl | exact zr (congrArg some (by simp [zh] <;> omega)) | exact zj rfl (by simp) | exact zj (congrArg some (by simp [zh] <;> omega)) rfl | exact zj (congrArg some (by simp [zh] <;> omega)) (by simp [yS, endV, yF]) | exact z7 (congrArg _ (by assumption)) | exact z7 (congrArg _ (Eq.symm (by assumption))))) (.cons rfl rfl rfl rfl (zT (zJ _ _)) (.cons rfl rfl rfl rfl (zT (zJ _ _)) (.cons rfl rfl rfl rfl (zT (zJ _ _)) (.cons rfl rfl rfl rfl (zT (zJ _ _)) (.cons rfl rfl rfl rfl (zT (zJ _ _)) .nil)))))
end Go.Proofs.Ytojcojanokhnaaa.Ab
namespace Go.Proofs.Ytojcojanokhnaaa.Ab
open Go.RowKit
theorem kt {h m : Nat} {R : Reg} {c0 c1 d0 d1 : V} {cs ds es fs : List V} {S : St} (hm0 : S.m = 0) (hH : S.H[h]? = some R) (hR : R.mode = 0) (hN : NoH R.cells)
    (p0 : Pur true (S.H.set h (xp R)) c0 d0) (p1 : Pur true (S.H.set h (xp R)) c1 d1) (ps : Purs true (S.H.set h (xp R)) cs ds) (pe : Purs true (S.H.set h (xp R)) es fs) :
    Out true (.tup (.agg (d0 :: d1 :: .sl 0 0 m :: ds) :: fs)) [R] (.tup (.agg (c0 :: c1 :: .sl h 0 m :: cs) :: es)) S := by
  intro C A φ w x hm hA hv
  have h0 : C.φ0 = [] := List.length_eq_zero_iff.1 (hm.trans hm0)
  have hlt : h < S.H.length := (List.getElem?_eq_some_iff.1 hH).1
  obtain ⟨hd, hhd⟩ : ∃ hd, φ[h]? = some hd := ⟨_, List.getElem?_eq_getElem (by rw [hA.ok.len]; exact hlt)⟩
  have hget : ∀ (i : Nat) (q : Reg), (S.H.set h (xp R))[i]? = some q → q.mode ≤ 1 → i ≠ h ∧ S.H[i]? = some q := fun i q hq hm1 => by
    rw [List.getElem?_set] at hq
    split at hq
    · rename_i e
      subst e
      simp only [Option.some.injEq] at hq
      subst hq
      exact absurd (show (2 : Nat) ≤ 1 from hm1) (by decide)
    · rename_i e
      exact ⟨fun e1 => e e1.symm, hq⟩
  have hlive : ∀ i b, z4 φ (S.H.set h (xp R)) i b → i ≠ h ∧ z4 φ S.H i b := fun i b ⟨e, q, q1, q2, q3, q4⟩ =>
    have := hget i q q2 (by omega)
    ⟨this.1, e, q, q1, this.2, q3, q4⟩
  have kd : HeapOk A w φ (S.H.set h (xp R)) := ⟨by rw [hA.ok.len, List.length_set], fun i e q q1 q2 q3 => hA.ok.regs i e q q1 (hget i q q2 q3).2 q3, fun i j b q1 q2 => hA.ok.inj i j b (hlive i b q1).2 (hlive j b q2).2, fun i b q1 => hA.ok.apart i b (hlive i b q1).2, fun i e q b q1 q2 q3 q4 => hA.ok.frz i e q b q1 (hget i q q2 (by omega)).2 q3 q4, hA.ok.low⟩
  have hone : ∀ i b, z4 [hd] [R] i b → z4 φ S.H h b := fun i b ⟨e, q, q1, q2, q3, q4⟩ => by
    match i, q1, q2 with
    | 0, q1, q2 =>
      simp only [List.getElem?_cons_zero, Option.some.injEq] at q1 q2
      subst q1 q2
      exact ⟨_, _, hhd, hH, q3, q4⟩
  have hPm : ∀ {v v' : V} {y : Value}, Pur true (S.H.set h (xp R)) v v' → Rel A w φ v y → Rel (fun b => A b ∨ ∃ i, z4 φ (S.H.set h (xp R)) i b) w [hd] v' y := fun hp hy =>
    Rel.mono (fun b hb => ⟨hb, rfl⟩) (fun j e hj => by simp at hj) (Pur.rel kd (fun b hb => Or.inl hb) (fun _ j b hb => Or.inr ⟨j, hb⟩) hp hy)
  have hPs : ∀ {v v' : List V} {g : Nat → Option Value}, Purs true (S.H.set h (xp R)) v v' → zy A w φ v g → zy (fun b => A b ∨ ∃ i, z4 φ (S.H.set h (xp R)) i b) w [hd] v' g := fun hp hy =>
    zy.mono (fun b hb => ⟨hb, rfl⟩) (fun j e hj => by simp at hj) (Purs.rels kd (fun b hb => Or.inl hb) (fun _ j b hb => Or.inr ⟨j, hb⟩) hp hy)
  have hlen1 := ps.length
  have hlen2 := pe.length
  refine ⟨[hd], fun b => A b ∨ ∃ i, z4 φ (S.H.set h (xp R)) i b, ⟨rfl, fun i e q q1 q2 q3 => ?_, fun i j b q1 q2 => ?_, fun i b q1 hb => ?_, fun i e q b q1 q2 q3 q4 => ?_, fun b hb => ?_⟩, ?_, fun b hb => ?_, fun i b q1 => hA.own h b (hone i b q1), fun i e h1 => by rw [h0] at h1; simp at h1⟩
  · match i, q1, q2 with
    | 0, q1, q2 =>
      simp only [List.getElem?_cons_zero, Option.some.injEq] at q1 q2
      subst q1 q2
      obtain ⟨e1, e2⟩ := hA.ok.regs h _ _ hhd hH q3
      refine ⟨e1, ?_⟩
      cases hk : hd.blk with
      | none => rw [hk] at e2; exact e2
      | some b =>
        rw [hk] at e2
        obtain ⟨c, f1, f2, f3, f4⟩ := e2
        exact ⟨c, f1, f2, f3, zy.mono (fun b hb => ⟨Or.inl hb, rfl⟩) (fun _ _ h => h) (xw hN f4)⟩
  · have e1 := (List.getElem?_eq_some_iff.1 q1.choose_spec.choose_spec.1).1
    have e2 := (List.getElem?_eq_some_iff.1 q2.choose_spec.choose_spec.1).1
    simp only [List.length_singleton] at e1 e2
    omega
  · have hl := hone i b q1
    rcases hb with hb | ⟨j, hb⟩
    · exact hA.ok.apart h b hl hb
    · have := hlive j b hb
      exact this.1 (hA.ok.inj j h b this.2 hl)
  · match i, q1, q2 with
    | 0, q1, q2 =>
      simp only [List.getElem?_cons_zero, Option.some.injEq] at q2
      subst q2
      rw [hR] at q3
      cases q3
  · rcases hb with hb | ⟨j, hb⟩
    · exact hA.ok.low b hb
    · obtain ⟨g1, e, q, g2, g3, g4, g5⟩ := hlive j b hb
      exact wA hA.ok g2 g3 (by omega) g5
  · simp only [Rel, zy] at hv ⊢
    obtain ⟨xs, rfl, hs, ⟨y, hy, zs, rfl, hz, ⟨y0, z0, k0⟩, ⟨y1, z1, k1⟩, ⟨y2, z2, k2⟩, kr⟩, hr⟩ := hv
    refine ⟨xs, rfl, by rw [hs]; simp only [List.length_cons]; omega, ⟨_, hy, zs, rfl, by rw [hz]; simp only [List.length_cons]; omega, ⟨y0, z0, hPm p0 k0⟩, ⟨y1, z1, hPm p1 k1⟩, ⟨y2, z2, ?_⟩, hPs ps kr⟩, hPs pe hr⟩
    obtain ⟨hd', e1, e2⟩ := k2
    rw [hhd] at e1
    simp only [Option.some.injEq] at e1
    subst e1
    exact ⟨hd, rfl, e2⟩
  · rcases hb with hb | ⟨j, hb⟩
    · exact (hA.old b hb).imp (fun h => ⟨rfl, h⟩) id
    · obtain ⟨g1, g2⟩ := hlive j b hb
      rcases hA.own j b g2 with h1 | ⟨h9, e, q, q1, _⟩
      · exact Or.inr h1
      · rw [h0] at q1
        simp at q1
theorem xh {l : List V} {H : List Reg} {t : Tmp} {us : List Tmp} {n h m : Nat} {R : Reg} {c0 c1 d0 d1 : V} {cs ds fs : List V} (hv : CellIs l H t n (.agg (c0 :: c1 :: .sl h 0 m :: cs))) (hH : H[h]? = some R) (hR : R.mode = 0) (hN : NoH R.cells)
    (p01 : Purs true (H.set h (xp R)) [c0, c1] [d0, d1]) (ps : Purs true (H.set h (xp R)) cs ds) (pe : Purs true (H.set h (xp R)) (us.map fun u => (l[u]?).getD .any) fs) :
    (Exit.ret = .ret ∨ Exit.ret = .normal) ∧ ∃ v, CellIs l H t n v ∧ Out true (.tup (.agg (d0 :: d1 :: .sl 0 0 m :: ds) :: fs)) [R] (.tup (v :: us.map fun u => (l[u]?).getD .any)) ⟨l, H, 0⟩ :=
  match p01 with
  | .cons p0 (.cons p1 .nil) => ⟨Or.inl rfl, _, hv, kt (S := ⟨l, H, 0⟩) rfl hH hR hN p0 p1 ps pe⟩
end Go.Proofs.Ytojcojanokhnaaa.Ab
namespace Go.Proofs.Ytojcojanokhnaaa.Ab
open Go.RowKit
theorem yx {live : Bool} {H : List Reg} {a b : Int} (h : a = b) : Pur live H (I a) (I b) := by subst h; exact .same rfl
def soH (s : So) : List V := [rwL s.input, I s.pos, .sl 0 0 s.heap.length, rwL s.dfr, rwL s.out, rnL s.runs, I s.lp, I s.rp, I s.ph, I s.wr]
theorem fV (s : So) (r : List Rw) (b : Bool) : Pur true [rwR s.heap] (.tup [.agg (soH s), rwL r, B b]) (.tup [.agg (soE s), rwL r, B b]) := .tup (.cons (.agg (.cons (.same rfl) (.cons (.same rfl) (.cons (zt rfl) (.cons (.same rfl) (.cons (.same rfl) (.cons (.same rfl) (.cons (.same rfl) (.cons (.same rfl) (.cons (.same rfl) (.cons (.same rfl) .nil))))))))))) (.cons (.same rfl) (.cons (.same rfl) .nil)))
theorem s_put (s : So) (g : Int) (r : Rw) (hok : okSo s) (hv : vS s = true) (h1 : inV g 8 60 = true) (hb : VBa s) (hm : yj s ≤ 60) (hp : s.ph = 1) (hr : s.input[s.pos.toNat]? = some r) (hf : yj s + y3 r ≤ g) : zz Go.Proofs.Try.prog 14 [.agg (soE s), I g] [] (.tup [.agg (soH (wk s r)), rwL [], B true]) [rwR (wk s r).heap] true := by
  obtain ⟨p, hpp, hple⟩ := hb.pos
  have e1 : s.pos.toNat = p := by omega
  rw [e1] at hr
  have hlt := (List.getElem?_eq_some_iff.1 hr).1
  have g1 := hok.heap
  have g2 := hok.dfr
  have g3 := hok.input
  have g4 := hok.out
  have ac := xm s hok
  have am := pD s hok
  have a1 := uB s hok
  rw [hv] at a1
  have a2 := uC g 8 60
  rw [h1] at a2
  have ew : IntKind.i64.wrap (s.pos + 1) = s.pos + 1 := by rw [IntKind.wrap_i64]; omega
  refine ya 4 27 [5, 6] Go.Proofs.Try.func14 rfl rfl rfl ?_
  simp only [Go.Proofs.Try.ntmps14, List.length_cons, List.length_nil, Nat.reduceAdd, Nat.reduceSub, List.replicate_succ, List.replicate_zero, List.cons_append, List.nil_append]
  repeat' first | (refine zk rfl (fun h => absurd (of_decide_eq_true h) (by omega)) (fun _ => ?_)) | (refine zk rfl (fun _ => ?_) (fun h => absurd hp (of_decide_eq_false h))) | refine zK ?_ | refine zA ?_ | refine zP [] ?_ | (refine isA ?_; refine zg rfl ?_) | (refine isL ?_; refine zW rfl (by kernel_rfl) rfl rfl ?_) | (refine zd rfl ?_; refine zV rfl (by kernel_rfl) rfl rfl ?_) | (refine zv 65 ?_; refine zb rfl (yC (r' := .agg (soP 2 s)) (H' := bxS (soE s) :: bxS zS :: soW s) rfl ac (.cons (.same rfl) .nil) rfl (by simp only [List.map_cons, List.map_nil, shR, yH _ (yU (zJ _ _))]; rfl)) rfl ?_) | (refine zw 65 rfl ?_; refine zU rfl (by kernel_rfl) rfl (yC (r' := .agg (soP 2 s)) (H' := bxS (soE s) :: bxS zS :: soW s) rfl ac (.cons (.same rfl) .nil) rfl (by simp only [List.map_cons, List.map_nil, shR, yH _ (yU (zJ _ _))]; rfl)) rfl ?_) | (refine zv 18 ?_; refine zb rfl (zQ rfl a1 (.cons (.same rfl) .nil) rfl) rfl ?_) | (refine zw 18 rfl ?_; refine zU rfl (by kernel_rfl) rfl (zQ rfl a1 (.cons (.same rfl) .nil) rfl) rfl ?_) | (refine zv 66 ?_; refine zb rfl (zQ rfl a2 (.cons (.same rfl) (.cons (.same rfl) (.cons (.same rfl) .nil))) rfl) rfl ?_) | (refine zw 66 rfl ?_; refine zU rfl (by kernel_rfl) rfl (zQ rfl a2 (.cons (.same rfl) (.cons (.same rfl) (.cons (.same rfl) .nil))) rfl) rfl ?_) | refine zD ?_ | refine zB _ rfl (by kernel_rfl) ?_ | refine zX rfl ?_ | refine zY rfl ?_ | refine zC ?_ | with_reducible refine zN ?_ | refine zH ?_ | refine zI ?_ | (with_reducible first | refine zL ?_ | refine zM ?_ | refine zE ?_ | refine zG ?_ | refine zF ?_) | refine zO ?_
  refine yJ rfl rfl rfl rfl (fun _ => ?_) (fun h => absurd (of_decide_eq_false h) (by omega))
  repeat' first | refine zK ?_ | refine zA ?_ | refine zP [] ?_ | (refine isA ?_; refine zg rfl ?_) | (refine isL ?_; refine zW rfl (by kernel_rfl) rfl rfl ?_) | (refine zd rfl ?_; refine zV rfl (by kernel_rfl) rfl rfl ?_) | (refine zv 20 ?_; refine zb rfl (zQ rfl am (.cons (.same rfl) .nil) rfl) rfl ?_) | (refine zw 20 rfl ?_; refine zU rfl (by kernel_rfl) rfl (zQ rfl am (.cons (.same rfl) .nil) rfl) rfl ?_) | (refine yB (x := .tmp 42) ?_; refine zb rfl (z5 (t := rwT) (z := r) rfl rfl rfl rfl (by omega) (by rw [e1]; exact hr)) rfl ?_) | (refine yA (x := .tmp 42) rfl ?_; refine zU rfl (by kernel_rfl) rfl (z5 (t := rwT) (z := r) rfl rfl rfl rfl (by omega) (by rw [e1]; exact hr)) rfl ?_) | (refine zv 67 ?_; refine zb rfl (zQ rfl (wG r) (.cons (.same rfl) .nil) rfl) rfl ?_) | (refine zw 67 rfl ?_; refine zU rfl (by kernel_rfl) rfl (zQ rfl (wG r) (.cons (.same rfl) .nil) rfl) rfl ?_) | refine zD ?_ | refine zB _ rfl (by kernel_rfl) ?_ | refine zX rfl ?_ | refine zY rfl ?_ | refine zC ?_ | with_reducible refine zN ?_ | refine zH ?_ | refine zI ?_ | (with_reducible first | refine zL ?_ | refine zM ?_ | refine zE ?_ | refine zG ?_ | refine zF ?_) | refine zO ?_
  refine zk rfl (fun _ => ?_) (fun h => absurd (of_decide_eq_false h) (by rw [qt hm]; omega))
  repeat' first | refine zK ?_ | refine zA ?_ | refine zP [] ?_ | (refine isA ?_; refine zg rfl ?_) | (refine isL ?_; refine zW rfl (by kernel_rfl) rfl rfl ?_) | (refine zd rfl ?_; refine zV rfl (by kernel_rfl) rfl rfl ?_) | (refine yB (x := .tmp 53) ?_; refine zb rfl (z5 (t := rwT) (z := r) rfl rfl rfl rfl (by omega) (by rw [e1]; exact hr)) rfl ?_) | (refine yA (x := .tmp 53) rfl ?_; refine zU rfl (by kernel_rfl) rfl (z5 (t := rwT) (z := r) rfl rfl rfl rfl (by omega) (by rw [e1]; exact hr)) rfl ?_) | (refine s5 (x := .tmp 8) ?_; refine zb rfl (wJ rfl rfl rfl rfl rfl (wa r) rfl rfl) rfl ?_) | (refine s4 (x := .tmp 8) rfl ?_; refine zU rfl (by kernel_rfl) rfl (wJ rfl rfl rfl rfl rfl (wa r) rfl rfl) rfl ?_) | refine zD ?_ | refine zB _ rfl (by kernel_rfl) ?_ | refine zX rfl ?_ | refine zY rfl ?_ | refine zC ?_ | with_reducible refine zN ?_ | refine zH ?_ | refine zI ?_ | (with_reducible first | refine zL ?_ | refine zM ?_ | refine zE ?_ | refine zG ?_ | refine zF ?_) | refine zO ?_
  refine yJ rfl rfl rfl rfl (fun h => ?_) (fun h => ?_)
  · have h0 : 0 < s.out.length := by have := of_decide_eq_true h; omega
    obtain ⟨y, hy⟩ : ∃ z, s.out[s.out.length - 1]? = some z := ⟨_, List.getElem?_eq_getElem (by omega)⟩
    have ew2 : IntKind.i64.wrap ((s.out.length : Int) - 1) = ((s.out.length - 1 : Nat) : Int) := by rw [IntKind.wrap_i64]; omega
    have hbe : bel r s.out = decide (yp r y < 0) := by unfold bel; rw [hy]; rfl
    repeat' first | refine zK ?_ | refine zA ?_ | refine zP [] ?_ | (refine isA ?_; refine zg rfl ?_) | (refine isL ?_; refine zW rfl (by kernel_rfl) rfl rfl ?_) | (refine zd rfl ?_; refine zV rfl (by kernel_rfl) rfl rfl ?_) | (refine yB (x := .tmp 69) ?_; refine zb rfl (z5 (t := rwT) (j := ((s.out.length - 1 : Nat) : Int)) (z := y) rfl rfl rfl (congrArg I ew2) (Int.natCast_nonneg _) hy) rfl ?_) | (refine yA (x := .tmp 69) rfl ?_; refine zU rfl (by kernel_rfl) rfl (z5 (t := rwT) (j := ((s.out.length - 1 : Nat) : Int)) (z := y) rfl rfl rfl (congrArg I ew2) (Int.natCast_nonneg _) hy) rfl ?_) | (refine zv 68 ?_; refine zb rfl (zQ rfl (xt r y) (.cons (.same rfl) (.cons (.same rfl) .nil)) rfl) rfl ?_) | (refine zw 68 rfl ?_; refine zU rfl (by kernel_rfl) rfl (zQ rfl (xt r y) (.cons (.same rfl) (.cons (.same rfl) .nil)) rfl) rfl ?_) | refine zD ?_ | refine zB _ rfl (by kernel_rfl) ?_ | refine zX rfl ?_ | refine zY rfl ?_ | refine zC ?_ | with_reducible refine zN ?_ | refine zH ?_ | refine zI ?_ | (with_reducible first | refine zL ?_ | refine zM ?_ | refine zE ?_ | refine zG ?_ | refine zF ?_) | refine zO ?_
    refine zk rfl (fun p2 => ?_) (fun p2 => ?_)
    · have e : wk s r = { s with dfr := s.dfr ++ [r], pos := s.pos + 1 } := by unfold wk; rw [hbe, p2]; rfl
      rw [e]
      repeat' first | (refine isA ?_; refine zb rfl (yO rfl rfl rfl rfl rfl) rfl ?_) | refine zK ?_ | refine zA ?_ | refine zP [] ?_ | (refine isA ?_; refine zg rfl ?_) | (refine isL ?_; refine zW rfl (by kernel_rfl) rfl rfl ?_) | (refine zd rfl ?_; refine zV rfl (by kernel_rfl) rfl rfl ?_) | (refine xb ?_; refine zb rfl (yV (t := rwT) (xs := s.dfr) (ys := [r]) rfl rfl rfl rfl (.lst _ _) (by simp; omega) rfl) rfl ?_) | (refine xH rfl ?_; refine zU rfl (by kernel_rfl) rfl (yV (t := rwT) (xs := s.dfr) (ys := [r]) rfl rfl rfl rfl (.lst _ _) (by simp; omega) rfl) rfl ?_) | refine zD ?_ | refine zB _ rfl (by kernel_rfl) ?_ | refine zX rfl ?_ | refine zY rfl ?_ | refine zC ?_ | with_reducible refine zN ?_ | refine zH ?_ | refine zI ?_ | (with_reducible first | refine zL ?_ | refine zM ?_ | refine zE ?_ | refine zG ?_ | refine zF ?_) | refine zO ?_
      exact xh (yW rfl rfl rfl rfl rfl) rfl rfl (zJ _ _) (by repeat' first | exact Purs.nil | refine Purs.cons ?_ ?_ | exact zt rfl | exact yP rfl rfl | exact zt (T := rwT) (x := []) rfl | exact Pur.nil | exact Pur.same rfl | exact yx (by assumption)) (by repeat' first | exact Purs.nil | refine Purs.cons ?_ ?_ | exact zt rfl | exact yP rfl rfl | exact zt (T := rwT) (x := []) rfl | exact Pur.nil | exact Pur.same rfl | exact yx (by assumption)) (.cons (.same rfl) (.cons (.same rfl) .nil))
    · have e : wk s r = { s with heap := s.heap ++ [r], pos := s.pos + 1 } := by unfold wk; rw [hbe, p2]; rfl
      rw [e]
      repeat' first | (refine isA ?_; refine zb rfl (yO rfl rfl rfl rfl rfl) rfl ?_) | refine zK ?_ | refine zA ?_ | refine zP [] ?_ | (refine isA ?_; refine zg rfl ?_) | (refine isL ?_; refine zW rfl (by kernel_rfl) rfl rfl ?_) | (refine zd rfl ?_; refine zV rfl (by kernel_rfl) rfl rfl ?_) | (refine xb ?_; refine zb rfl (yV (t := rwT) (xs := s.heap) (ys := [r]) rfl rfl rfl rfl (.lst _ _) (by simp; omega) rfl) rfl ?_) | (refine xH rfl ?_; refine zU rfl (by kernel_rfl) rfl (yV (t := rwT) (xs := s.heap) (ys := [r]) rfl rfl rfl rfl (.lst _ _) (by simp; omega) rfl) rfl ?_) | refine zD ?_ | refine zB _ rfl (by kernel_rfl) ?_ | refine zX rfl ?_ | refine zY rfl ?_ | refine zC ?_ | with_reducible refine zN ?_ | refine zH ?_ | refine zI ?_ | (with_reducible first | refine zL ?_ | refine zM ?_ | refine zE ?_ | refine zG ?_ | refine zF ?_) | refine zO ?_
      exact xh (yW rfl rfl rfl rfl rfl) rfl rfl (zJ _ _) (by repeat' first | exact Purs.nil | refine Purs.cons ?_ ?_ | exact zt rfl | exact yP rfl rfl | exact zt (T := rwT) (x := []) rfl | exact Pur.nil | exact Pur.same rfl | exact yx (by assumption)) (by repeat' first | exact Purs.nil | refine Purs.cons ?_ ?_ | exact zt rfl | exact yP rfl rfl | exact zt (T := rwT) (x := []) rfl | exact Pur.nil | exact Pur.same rfl | exact yx (by assumption)) (.cons (.same rfl) (.cons (.same rfl) .nil))
  · have hbe : bel r s.out = false := by
      rw [List.eq_nil_of_length_eq_zero (show s.out.length = 0 by have := of_decide_eq_false h; omega)]; rfl
    have e : wk s r = { s with heap := s.heap ++ [r], pos := s.pos + 1 } := by unfold wk; rw [hbe]; rfl
    rw [e]
    repeat' first | (refine isA ?_; refine zb rfl (yO rfl rfl rfl rfl rfl) rfl ?_) | refine zK ?_ | refine zA ?_ | refine zP [] ?_ | (refine isA ?_; refine zg rfl ?_) | (refine isL ?_; refine zW rfl (by kernel_rfl) rfl rfl ?_) | (refine zd rfl ?_; refine zV rfl (by kernel_rfl) rfl rfl ?_) | (refine xb ?_; refine zb rfl (yV (t := rwT) (xs := s.heap) (ys := [r]) rfl rfl rfl rfl (.lst _ _) (by simp; omega) rfl) rfl ?_) | (refine xH rfl ?_; refine zU rfl (by kernel_rfl) rfl (yV (t := rwT) (xs := s.heap) (ys := [r]) rfl rfl rfl rfl (.lst _ _) (by simp; omega) rfl) rfl ?_) | refine zD ?_ | refine zB _ rfl (by kernel_rfl) ?_ | refine zX rfl ?_ | refine zY rfl ?_ | refine zC ?_ | with_reducible refine zN ?_ | refine zH ?_ | refine zI ?_ | (with_reducible first | refine zL ?_ | refine zM ?_ | refine zE ?_ | refine zG ?_ | refine zF ?_) | refine zO ?_
    exact xh (yW rfl rfl rfl rfl rfl) rfl rfl (zJ _ _) (by repeat' first | exact Purs.nil | refine Purs.cons ?_ ?_ | exact zt rfl | exact yP rfl rfl | exact zt (T := rwT) (x := []) rfl | exact Pur.nil | exact Pur.same rfl | exact yx (by assumption)) (by repeat' first | exact Purs.nil | refine Purs.cons ?_ ?_ | exact zt rfl | exact yP rfl rfl | exact zt (T := rwT) (x := []) rfl | exact Pur.nil | exact Pur.same rfl | exact yx (by assumption)) (.cons (.same rfl) (.cons (.same rfl) .nil))
end Go.Proofs.Ytojcojanokhnaaa.Ab
namespace Go.Proofs.Ytojcojanokhnaaa.Ab
open Go.RowKit
theorem qz {l : List V} {H K : List Reg} {m : Nat} {t : Tmp} {n : Nat} {v r : V} (hv : CellIs l H t n v) (hr : v = r) (hK : H = K) : (Exit.ret = .ret ∨ Exit.ret = .normal) ∧ ∃ v, CellIs l H t n v ∧ Out true r K v ⟨l, H, m⟩ := by
  subst hr
  subst hK
  exact ⟨Or.inl rfl, _, hv, nh (S := ⟨l, H, m⟩)⟩
theorem mm (a0 a1 a2 a3 a4 a5 a6 a7 : Reg) (x1 x6 x7 x8 x9 : Int) (h0 o0 n0 h2 o2 n2 h3 o3 n3 h4 o4 n4 h5 o5 n5 : Nat) :
    zz Go.Proofs.Try.prog 70 [.agg [.sl h0 o0 n0, I x1, .sl h2 o2 n2, .sl h3 o3 n3, .sl h4 o4 n4, .sl h5 o5 n5, I x6, I x7, I x8, I x9]] [a0, a1, a2, a3, a4, a5, a6, a7] (.agg [.sl h0 o0 n0, I x1, .sl h2 o2 n2, .sl h3 o3 n3, .sl h4 o4 n4, .sl h5 o5 n5, I 0, I 0, I (cond (decide (n5 = 0)) 4 (cond (decide (n5 = 1)) 3 2)), I x9])
      [a0, a1, a2, a3, a4, a5, a6, a7, bxS [.sl h0 o0 n0, I x1, .sl h2 o2 n2, .sl h3 o3 n3, .sl h4 o4 n4, .sl h5 o5 n5, I 0, I 0, I (cond (decide (n5 = 0)) 4 (cond (decide (n5 = 1)) 3 2)), I x9], bxS [.sl h0 o0 n0, I x1, .sl h2 o2 n2, .sl h3 o3 n3, .sl h4 o4 n4, .sl h5 o5 n5, I 0, I 0, I (cond (decide (n5 = 0)) 4 (cond (decide (n5 = 1)) 3 2)), I x9]] true := by
  have e0 : decide (n5 = 0) = decide ((n5 : Int) = 0) := decide_eq_decide.2 (by omega)
  have e1 : decide (n5 = 1) = decide ((n5 : Int) = 1) := decide_eq_decide.2 (by omega)
  rw [e0, e1]
  refine wC 2 27 Go.Proofs.Try.func70 rfl rfl ?_
  simp only [Go.Proofs.Try.ntmps70, List.length_cons, List.length_nil, Nat.reduceAdd, Nat.reduceSub, List.replicate_succ, List.replicate_zero, List.cons_append, List.nil_append]
  repeat' first | refine zK ?_ | refine zA ?_ | refine zP [] ?_ | (refine isA ?_; refine zg rfl ?_) | (refine isL ?_; refine zW rfl (by kernel_rfl) rfl rfl ?_) | (refine zd rfl ?_; refine zV rfl (by kernel_rfl) rfl rfl ?_) | refine zD ?_ | refine zB _ rfl (by kernel_rfl) ?_ | refine zX rfl ?_ | refine zY rfl ?_ | refine zC ?_ | with_reducible refine zN ?_ | refine zH ?_ | refine zI ?_ | (with_reducible first | refine zL ?_ | refine zM ?_ | refine zE ?_ | refine zG ?_ | refine zF ?_) | refine zO ?_ | refine zk rfl (fun hbr => ?_) (fun hbr => ?_)
  all_goals first
    | (exfalso; have p1 := of_decide_eq_true (by assumption : decide ((n5 : Int) = 1) = true); have p2 := of_decide_eq_true (by assumption : decide ((n5 : Int) = 0) = true); omega)
    | (refine qz (yW rfl rfl rfl rfl rfl) ?_ ?_ <;> simp only [*, cond_true, cond_false] <;> rfl)
theorem tF (a0 a1 a2 a3 a4 a5 a6 a7 a8 a9 a10 : Reg) (x1 x6 x7 x8 x9 : Int) (h0 o0 n0 h2 o2 n2 h3 o3 n3 h4 o4 n4 h5 o5 n5 : Nat) :
    zz Go.Proofs.Try.prog 70 [.agg [.sl h0 o0 n0, I x1, .sl h2 o2 n2, .sl h3 o3 n3, .sl h4 o4 n4, .sl h5 o5 n5, I x6, I x7, I x8, I x9]] [a0, a1, a2, a3, a4, a5, a6, a7, a8, a9, a10] (.agg [.sl h0 o0 n0, I x1, .sl h2 o2 n2, .sl h3 o3 n3, .sl h4 o4 n4, .sl h5 o5 n5, I 0, I 0, I (cond (decide (n5 = 0)) 4 (cond (decide (n5 = 1)) 3 2)), I x9])
      [a0, a1, a2, a3, a4, a5, a6, a7, a8, a9, a10, bxS [.sl h0 o0 n0, I x1, .sl h2 o2 n2, .sl h3 o3 n3, .sl h4 o4 n4, .sl h5 o5 n5, I 0, I 0, I (cond (decide (n5 = 0)) 4 (cond (decide (n5 = 1)) 3 2)), I x9], bxS [.sl h0 o0 n0, I x1, .sl h2 o2 n2, .sl h3 o3 n3, .sl h4 o4 n4, .sl h5 o5 n5, I 0, I 0, I (cond (decide (n5 = 0)) 4 (cond (decide (n5 = 1)) 3 2)), I x9]] true := by
  have e0 : decide (n5 = 0) = decide ((n5 : Int) = 0) := decide_eq_decide.2 (by omega)
  have e1 : decide (n5 = 1) = decide ((n5 : Int) = 1) := decide_eq_decide.2 (by omega)
  rw [e0, e1]
  refine wC 2 27 Go.Proofs.Try.func70 rfl rfl ?_
  simp only [Go.Proofs.Try.ntmps70, List.length_cons, List.length_nil, Nat.reduceAdd, Nat.reduceSub, List.replicate_succ, List.replicate_zero, List.cons_append, List.nil_append]
  repeat' first | refine zK ?_ | refine zA ?_ | refine zP [] ?_ | (refine isA ?_; refine zg rfl ?_) | (refine isL ?_; refine zW rfl (by kernel_rfl) rfl rfl ?_) | (refine zd rfl ?_; refine zV rfl (by kernel_rfl) rfl rfl ?_) | refine zD ?_ | refine zB _ rfl (by kernel_rfl) ?_ | refine zX rfl ?_ | refine zY rfl ?_ | refine zC ?_ | with_reducible refine zN ?_ | refine zH ?_ | refine zI ?_ | (with_reducible first | refine zL ?_ | refine zM ?_ | refine zE ?_ | refine zG ?_ | refine zF ?_) | refine zO ?_ | refine zk rfl (fun hbr => ?_) (fun hbr => ?_)
  all_goals first
    | (exfalso; have p1 := of_decide_eq_true (by assumption : decide ((n5 : Int) = 1) = true); have p2 := of_decide_eq_true (by assumption : decide ((n5 : Int) = 0) = true); omega)
    | (refine qz (yW rfl rfl rfl rfl rfl) ?_ ?_ <;> simp only [*, cond_true, cond_false] <;> rfl)
theorem dv (a0 a1 a7 : Reg) (s : So) (k : Nat) (r : Rw) (hok : okSo s) (hk : ni s.heap = (k : Nat)) (hr : s.heap[k]? = some r) :
    zz Go.Proofs.Try.prog 69 [.agg (soP 2 s)] [a0, a1, rwR s.input, rwR s.heap, rwR s.dfr, rwR s.out, rnR s.runs, a7]
      (.agg [.sl 2 0 s.input.length, I s.pos, .sl 11 0 (s.heap.take k ++ s.heap.drop (k + 1)).length, .sl 4 0 s.dfr.length, .sl 10 0 (s.out ++ [r]).length, .sl 6 0 s.runs.length, I s.lp, I s.rp, I s.ph, I (IntKind.i64.wrap (s.wr + y3 r))])
      [a0, a1, rwR s.input, rwR s.heap, rwR s.dfr, { rwR s.out with mode := 2 }, rnR s.runs, a7, bxS [.sl 2 0 s.input.length, I s.pos, .sl 11 0 (s.heap.take k ++ s.heap.drop (k + 1)).length, .sl 4 0 s.dfr.length, .sl 10 0 (s.out ++ [r]).length, .sl 6 0 s.runs.length, I s.lp, I s.rp, I s.ph, I (IntKind.i64.wrap (s.wr + y3 r))], bxS [.sl 2 0 s.input.length, I s.pos, .sl 11 0 (s.heap.take k ++ s.heap.drop (k + 1)).length, .sl 4 0 s.dfr.length, .sl 10 0 (s.out ++ [r]).length, .sl 6 0 s.runs.length, I s.lp, I s.rp, I s.ph, I (IntKind.i64.wrap (s.wr + y3 r))], rwR (s.out ++ [r]), rwR (s.heap.take k ++ s.heap.drop (k + 1))] true := by
  have g1 := hok.heap
  have g4 := hok.out
  have hlt := (List.getElem?_eq_some_iff.1 hr).1
  have ai := dj s.heap (by omega)
  rw [hk] at ai
  refine wC 2 27 Go.Proofs.Try.func69 rfl rfl ?_
  simp only [Go.Proofs.Try.ntmps69, List.length_cons, List.length_nil, Nat.reduceAdd, Nat.reduceSub, List.replicate_succ, List.replicate_zero, List.cons_append, List.nil_append]
  repeat' first | (refine zP (id := 9) [8, 10] ?_) | (refine tm rfl ?_; refine zU rfl (by kernel_rfl) rfl (yO rfl rfl rfl rfl rfl) rfl ?_) | (refine xH rfl ?_; refine tl rfl (by kernel_rfl) rfl (yV (t := rwT) (xs := s.out) (ys := [r]) rfl rfl rfl rfl (.lst _ _) (by simp; omega) rfl) rfl ?_) | (refine zk rfl (fun h => absurd (of_decide_eq_true h) (by omega)) (fun _ => ?_)) | (refine isA ?_; refine zb rfl (yO rfl rfl rfl rfl rfl) rfl ?_) | refine zK ?_ | refine zA ?_ | refine zP [10] ?_ | (refine isA ?_; refine zg rfl ?_) | (refine isL ?_; refine zW rfl (by kernel_rfl) rfl rfl ?_) | (refine zd rfl ?_; refine zV rfl (by kernel_rfl) rfl rfl ?_) | (refine zv 119 ?_; refine zb rfl (zQ rfl ai (.cons (zt rfl) .nil) rfl) rfl ?_) | (refine zw 119 rfl ?_; refine zU rfl (by kernel_rfl) rfl (zQ rfl ai (.cons (zt rfl) .nil) rfl) rfl ?_) | (refine yB (x := .tmp 30) ?_; refine zb rfl (zq (j := (k : Int)) rfl rfl rfl (Nat.zero_le _) rfl rfl (Int.natCast_nonneg _) (by omega)) rfl ?_) | (refine yA (x := .tmp 30) rfl ?_; refine zU rfl (by kernel_rfl) rfl (zq (j := (k : Int)) rfl rfl rfl (Nat.zero_le _) rfl rfl (Int.natCast_nonneg _) (by omega)) rfl ?_) | (refine xU (x := .tmp 32) ?_; refine zb rfl (yq (T := rwT) (i := 0 + k) (z := r) rfl rfl rfl (by rw [Nat.zero_add]; exact hr)) rfl ?_) | (refine xa (x := .tmp 32) rfl ?_; refine zU rfl (by kernel_rfl) rfl (yq (T := rwT) (i := 0 + k) (z := r) rfl rfl rfl (by rw [Nat.zero_add]; exact hr)) rfl ?_) | (refine zv 67 ?_; refine zb rfl (zQ rfl (wG r) (.cons (.same rfl) .nil) rfl) rfl ?_) | (refine zw 67 rfl ?_; refine zU rfl (by kernel_rfl) rfl (zQ rfl (wG r) (.cons (.same rfl) .nil) rfl) rfl ?_) | (refine yB (x := .tmp 40) ?_; refine zb rfl (zq (j := (k : Int)) rfl rfl rfl (Nat.zero_le _) rfl rfl (Int.natCast_nonneg _) (by omega)) rfl ?_) | (refine yA (x := .tmp 40) rfl ?_; refine zU rfl (by kernel_rfl) rfl (zq (j := (k : Int)) rfl rfl rfl (Nat.zero_le _) rfl rfl (Int.natCast_nonneg _) (by omega)) rfl ?_) | (refine xU (x := .tmp 42) ?_; refine zb rfl (yq (T := rwT) (i := 0 + k) (z := r) rfl rfl rfl (by rw [Nat.zero_add]; exact hr)) rfl ?_) | (refine xa (x := .tmp 42) rfl ?_; refine zU rfl (by kernel_rfl) rfl (yq (T := rwT) (i := 0 + k) (z := r) rfl rfl rfl (by rw [Nat.zero_add]; exact hr)) rfl ?_) | (refine zv 120 ?_; refine zb rfl (ye rfl (gl s.heap k hlt (by omega)) (.cons (zt rfl) (.cons (.same rfl) .nil)) (fun q hq => by simp at hq; subst hq; exact zJ _ _) rfl rfl) rfl ?_) | (refine zw 120 rfl ?_; refine zU rfl (by kernel_rfl) rfl (ye rfl (gl s.heap k hlt (by omega)) (.cons (zt rfl) (.cons (.same rfl) .nil)) (fun q hq => by simp at hq; subst hq; exact zJ _ _) rfl rfl) rfl ?_) | (refine isL ?_; refine vR rfl (by kernel_rfl) rfl rfl ?_) | refine zD ?_ | refine zB _ rfl (by kernel_rfl) ?_ | refine zX rfl ?_ | refine zY rfl ?_ | refine zC ?_ | with_reducible refine zN ?_ | refine zH ?_ | refine zI ?_ | (with_reducible first | refine zL ?_ | refine zM ?_ | refine zE ?_ | refine zG ?_ | refine zF ?_) | refine zO ?_
  exact qz (yW rfl rfl rfl rfl rfl) rfl rfl
theorem du (a0 a1 a7 : Reg) (s : So) (hok : okSo s) (hh : s.heap = []) :
    zz Go.Proofs.Try.prog 69 [.agg (soP 2 s)] [a0, a1, rwR s.input, rwR s.heap, rwR s.dfr, rwR s.out, rnR s.runs, a7]
      (.agg [.sl 2 0 s.input.length, I s.pos, .sl 4 0 s.dfr.length, .lst 0 [], .lst 0 [], .sl 11 0 (s.runs.length + 1), I s.lp, I s.rp, I s.ph, I s.wr])
      [a0, a1, rwR s.input, rwR s.heap, rwR s.dfr, rwR s.out, { rnR s.runs with mode := 2 }, a7, bxS [.sl 2 0 s.input.length, I s.pos, .sl 4 0 s.dfr.length, .lst 0 [], .lst 0 [], .sl 11 0 (s.runs.length + 1), I s.lp, I s.rp, I s.ph, I s.wr], bxS [.sl 2 0 s.input.length, I s.pos, .sl 4 0 s.dfr.length, .lst 0 [], .lst 0 [], .sl 11 0 (s.runs.length + 1), I s.lp, I s.rp, I s.ph, I s.wr], ⟨84, 1, [.sl 5 0 s.out.length], 0⟩, ⟨84, 1, rnT.flat s.runs ++ [.sl 5 0 s.out.length], 0⟩] true := by
  have g5 := hok.runs
  have hh0 : s.heap.length = 0 := by rw [hh]; rfl
  refine wC 2 27 Go.Proofs.Try.func69 rfl rfl ?_
  simp only [Go.Proofs.Try.ntmps69, List.length_cons, List.length_nil, Nat.reduceAdd, Nat.reduceSub, List.replicate_succ, List.replicate_zero, List.cons_append, List.nil_append]
  repeat' first | (refine zk rfl (fun _ => ?_) (fun h => absurd (of_decide_eq_false h) (by omega))) | (refine isA ?_; refine zb rfl (yO (ps := []) rfl rfl rfl rfl rfl) rfl ?_) | refine zK ?_ | refine zA ?_ | refine zP [] ?_ | (refine isA ?_; refine zg rfl ?_) | (refine isL ?_; refine zW rfl (by kernel_rfl) rfl rfl ?_) | (refine zd rfl ?_; refine zV rfl (by kernel_rfl) rfl rfl ?_) | (refine xb ?_; refine zb rfl (td (outs := s.runs) (hz := 10) (zi := 5) (n := s.out.length) rfl rfl rfl rfl rfl (by omega)) rfl ?_) | (refine xH rfl ?_; refine zU rfl (by kernel_rfl) rfl (td (outs := s.runs) (hz := 10) (zi := 5) (n := s.out.length) rfl rfl rfl rfl rfl (by omega)) rfl ?_) | refine zD ?_ | refine zB _ rfl (by kernel_rfl) ?_ | refine zX rfl ?_ | refine zY rfl ?_ | refine zC ?_ | with_reducible refine zN ?_ | refine zH ?_ | refine zI ?_ | (with_reducible first | refine zL ?_ | refine zM ?_ | refine zE ?_ | refine zG ?_ | refine zF ?_) | refine zO ?_
  exact qz (yW rfl rfl rfl rfl rfl) rfl rfl
end Go.Proofs.Ytojcojanokhnaaa.Ab
namespace Go.Proofs.Ytojcojanokhnaaa.Ab
open Go.RowKit
abbrev R8 (s : So) : List Reg := [bxS (soE s), bxS zS, rwR s.input, rwR s.heap, rwR s.dfr, rwR s.out, rnR s.runs, bxS (soP 2 s)]
abbrev T6 (s : So) (g : Int) : St := ⟨(.any :: (I g) :: (.ptr 0 0) :: .any :: (.ptr 1 0) :: .any :: .any :: (.ptr 7 0) :: .any :: .any :: .any :: .any :: .any :: .any :: .any :: .any :: .any :: .any :: .any :: .any :: .any :: .any :: .any :: .any :: .any :: .any :: .any :: .any :: .any :: (I s.ph) :: .any :: .any :: .any :: .any :: .any :: .any :: .any :: .any :: .any :: .any :: .any :: .any :: .any :: .any :: .any :: .any :: .any :: .any :: .any :: .any :: .any :: .any :: .any :: .any :: .any :: .any :: .any :: .any :: .any :: .any :: .any :: .any :: .any :: .any :: .any :: .any :: .any :: .any :: .any :: .any :: .any :: .any :: .any :: .any :: .any :: .any :: .any :: .any :: .any :: .any :: .any :: .any :: .any :: .any :: .any :: .any :: .any :: .any :: .any :: .any :: .any :: .any :: .any :: .any :: .any :: .any :: .any :: .any :: .any :: .any :: .any :: .any :: .any :: .any :: .any :: .any :: .any :: .any :: .any :: .any :: .any :: .any :: .any :: .any :: .any :: .any :: .any :: .any :: .any :: .any :: .any :: .any :: .any :: .any :: .any :: .any :: .any :: .any :: .any :: .any :: .any :: .any :: .any :: .any :: .any :: .any :: .any :: .any :: .any :: .any :: .any :: .any :: .any :: .any :: .any :: .any :: .any :: .any :: .any :: .any :: .any :: .any :: .any :: .any :: .any :: .any :: .any :: .any :: .any :: .any :: .any :: .any :: .any :: .any :: .any :: .any :: .any :: .any :: .any :: .any :: .any :: .any :: .any :: .any :: .any :: .any :: .any :: .any :: .any :: .any :: .any :: .any :: .any :: .any :: .any :: .any :: .any :: .any :: .any :: .any :: .any :: .any :: .any :: .any :: .any :: .any :: .any :: .any :: .any :: .any :: .any :: .any :: .any :: .any :: .any :: .any :: .any :: .any :: .any :: .any :: .any :: .any :: .any :: .any :: .any :: .any :: .any :: .any :: .any :: .any :: .any :: .any :: .any :: .any :: .any :: .any :: .any :: .any :: .any :: .any :: .any :: .any :: .any :: .any :: .any :: []), R8 s, 0⟩
noncomputable def seq6 : Code := match (Go.Proofs.Try.f14).body with
  | some (.seq _ (.seq _ (.seq _ (.seq (.seq _ (.block _ (.seq _ (.cond _ (.seq m _) _)))) _)))) => m
  | _ => .skip
theorem hl8 {ψ : List Nat} {s : So} (h : ∀ i, i < 8 → ψ[i]? = some i) : HLes ψ (R8 s) [0, 1, 2, 3, 4, 5, 6, 7] (R8 s) :=
  .cons rfl rfl rfl rfl (z6 rfl) (.cons rfl rfl rfl rfl (z6 rfl) (.cons rfl rfl rfl rfl (zT (zJ _ _)) (.cons rfl rfl rfl rfl (zT (zJ _ _)) (.cons rfl rfl rfl rfl (zT (zJ _ _)) (.cons rfl rfl rfl rfl (zT (zJ _ _)) (.cons rfl rfl rfl rfl (zT (zJ _ _)) (.cons rfl rfl rfl rfl (zZ (zj (h 2 (by decide)) rfl) (zZ (le_refl rfl) (zZ (zj (h 3 (by decide)) rfl) (zZ (zj (h 4 (by decide)) rfl) (zZ (zj (h 5 (by decide)) rfl) (zZ (zj (h 6 (by decide)) rfl) (zZ (le_refl rfl) (zZ (le_refl rfl) (zZ (le_refl rfl) (zZ (le_refl rfl) zm)))))))))) .nil)))))))
theorem id8 : ∀ i, i < 8 → [0, 1, 2, 3, 4, 5, 6, 7][i]? = some i := by decide
theorem tz (s : So) (g : Int) (hok : okSo s) (hb : VBa s) (hm : yj s ≤ 60) (hf : ue s g) : AW Go.Proofs.Try.prog seq6 (fun e S' => e = .normal ∧ Sub (T6 s g) S') (T6 s g) := by
  obtain ⟨p, hpp, hple⟩ := hb.pos
  have e1 : s.pos.toNat = p := by omega
  have g3 := hok.input
  have am := pD s hok
  repeat' first | refine zK ?_ | refine zA ?_ | refine zP [] ?_ | (refine isA ?_; refine zg rfl ?_) | (refine isL ?_; refine zW rfl (by kernel_rfl) rfl rfl ?_) | (refine zd rfl ?_; refine zV rfl (by kernel_rfl) rfl rfl ?_) | refine zD ?_ | refine zB _ rfl (by kernel_rfl) ?_ | refine zX rfl ?_ | refine zY rfl ?_ | refine zC ?_ | with_reducible refine zN ?_ | refine zH ?_ | refine zI ?_ | (with_reducible first | refine zL ?_ | refine zM ?_ | refine zE ?_ | refine zG ?_ | refine zF ?_) | refine zO ?_
  refine yJ rfl rfl rfl rfl (fun h => ?_) (fun h => ?_)
  · have hlt : p < s.input.length := by have := of_decide_eq_true h; omega
    obtain ⟨z, hz⟩ : ∃ z, s.input[p]? = some z := ⟨_, List.getElem?_eq_getElem hlt⟩
    have hfz := hf z (by rw [e1]; exact hz)
    repeat' first | (refine zk rfl (fun h => absurd (of_decide_eq_true h) (by rw [qt hm]; omega)) (fun _ => ?_)) | refine zK ?_ | refine zA ?_ | refine zP [] ?_ | (refine isA ?_; refine zg rfl ?_) | (refine isL ?_; refine zW rfl (by kernel_rfl) rfl rfl ?_) | (refine zd rfl ?_; refine zV rfl (by kernel_rfl) rfl rfl ?_) | (refine zv 20 ?_; refine zb rfl (zQ rfl am (.cons (.same rfl) .nil) rfl) rfl ?_) | (refine zw 20 rfl ?_; refine zU rfl (by kernel_rfl) rfl (zQ rfl am (.cons (.same rfl) .nil) rfl) rfl ?_) | (refine yB (x := .tmp 42) ?_; refine zb rfl (z5 (t := rwT) (z := z) rfl rfl rfl rfl (by omega) (by rw [e1]; exact hz)) rfl ?_) | (refine yA (x := .tmp 42) rfl ?_; refine zU rfl (by kernel_rfl) rfl (z5 (t := rwT) (z := z) rfl rfl rfl rfl (by omega) (by rw [e1]; exact hz)) rfl ?_) | (refine zv 67 ?_; refine zb rfl (zQ rfl (wG z) (.cons (.same rfl) .nil) rfl) rfl ?_) | (refine zw 67 rfl ?_; refine zU rfl (by kernel_rfl) rfl (zQ rfl (wG z) (.cons (.same rfl) .nil) rfl) rfl ?_) | refine zD ?_ | refine zB _ rfl (by kernel_rfl) ?_ | refine zX rfl ?_ | refine zY rfl ?_ | refine zC ?_ | with_reducible refine zN ?_ | refine zH ?_ | refine zI ?_ | (with_reducible first | refine zL ?_ | refine zM ?_ | refine zE ?_ | refine zG ?_ | refine zF ?_) | refine zO ?_
    exact ⟨rfl, yf [0, 1, 2, 3, 4, 5, 6, 7] rfl rfl (by decide) (hl8 id8) (by repeat' first | exact zm | refine zZ ?_ ?_ | exact zo | exact le_refl rfl | exact zj rfl rfl | exact zr rfl)⟩
  · repeat' first | refine zK ?_ | refine zA ?_ | refine zP [] ?_ | (refine isA ?_; refine zg rfl ?_) | (refine isL ?_; refine zW rfl (by kernel_rfl) rfl rfl ?_) | (refine zd rfl ?_; refine zV rfl (by kernel_rfl) rfl rfl ?_) | refine zD ?_ | refine zB _ rfl (by kernel_rfl) ?_ | refine zX rfl ?_ | refine zY rfl ?_ | refine zC ?_ | with_reducible refine zN ?_ | refine zH ?_ | refine zI ?_ | (with_reducible first | refine zL ?_ | refine zM ?_ | refine zE ?_ | refine zG ?_ | refine zF ?_) | refine zO ?_
    exact ⟨rfl, yf [0, 1, 2, 3, 4, 5, 6, 7] rfl rfl (by decide) (hl8 id8) (by repeat' first | exact zm | refine zZ ?_ ?_ | exact zo | exact le_refl rfl | exact zj rfl rfl | exact zr rfl)⟩
theorem s_pop (s : So) (g : Int) (k : Nat) (r : Rw) (hok : okSo s) (hv : vS s = true) (h1 : inV g 8 60 = true) (hb : VBa s) (hm : yj s ≤ 60) (hp : s.ph = 1) (hf : ue s g) (hh : 0 < s.heap.length) (hk : ni s.heap = (k : Nat)) (hr : s.heap[k]? = some r) : zz Go.Proofs.Try.prog 14 [.agg (soE s), I g] [] (.tup [.agg (soH (uR s k r)), rwL [], B true]) [rwR (uR s k r).heap] true := by
  have g1 := hok.heap
  have g2 := hok.dfr
  have ac := xm s hok
  have a1 := uB s hok
  rw [hv] at a1
  have a2 := uC g 8 60
  rw [h1] at a2
  have ao := dv (bxS (soE s)) (bxS zS) (bxS (soP 2 s)) s k r hok hk hr
  refine ya 4 27 [5, 6] Go.Proofs.Try.func14 rfl rfl rfl ?_
  simp only [Go.Proofs.Try.ntmps14, List.length_cons, List.length_nil, Nat.reduceAdd, Nat.reduceSub, List.replicate_succ, List.replicate_zero, List.cons_append, List.nil_append]
  repeat' first | (refine xn 6 (T6 s g) (xE ?_) ?_) | (refine zk rfl (fun h => absurd (of_decide_eq_true h) (by omega)) (fun _ => ?_)) | (refine zk rfl (fun _ => ?_) (fun h => absurd hp (of_decide_eq_false h))) | (refine zk rfl (fun _ => ?_) (fun h => absurd (of_decide_eq_false h) (by rw [IntKind.wrap_i64]; omega))) | (refine isA ?_; refine zb rfl (yO rfl rfl rfl rfl rfl) rfl ?_) | refine zK ?_ | refine zA ?_ | refine zP [] ?_ | (refine isA ?_; refine zg rfl ?_) | (refine isL ?_; refine zW rfl (by kernel_rfl) rfl rfl ?_) | (refine zd rfl ?_; refine zV rfl (by kernel_rfl) rfl rfl ?_) | (refine zv 65 ?_; refine zb rfl (yC (r' := .agg (soP 2 s)) (H' := bxS (soE s) :: bxS zS :: soW s) rfl ac (.cons (.same rfl) .nil) rfl (by simp only [List.map_cons, List.map_nil, shR, yH _ (yU (zJ _ _))]; rfl)) rfl ?_) | (refine zw 65 rfl ?_; refine zU rfl (by kernel_rfl) rfl (yC (r' := .agg (soP 2 s)) (H' := bxS (soE s) :: bxS zS :: soW s) rfl ac (.cons (.same rfl) .nil) rfl (by simp only [List.map_cons, List.map_nil, shR, yH _ (yU (zJ _ _))]; rfl)) rfl ?_) | (refine zv 18 ?_; refine zb rfl (zQ rfl a1 (.cons (.same rfl) .nil) rfl) rfl ?_) | (refine zw 18 rfl ?_; refine zU rfl (by kernel_rfl) rfl (zQ rfl a1 (.cons (.same rfl) .nil) rfl) rfl ?_) | (refine zv 66 ?_; refine zb rfl (zQ rfl a2 (.cons (.same rfl) (.cons (.same rfl) (.cons (.same rfl) .nil))) rfl) rfl ?_) | (refine zw 66 rfl ?_; refine zU rfl (by kernel_rfl) rfl (zQ rfl a2 (.cons (.same rfl) (.cons (.same rfl) (.cons (.same rfl) .nil))) rfl) rfl ?_) | (refine zv 69 ?_; refine zb rfl (yT rfl ao rfl) rfl ?_) | (refine zw 69 rfl ?_; refine zU rfl (by kernel_rfl) rfl (yT rfl ao rfl) rfl ?_) | refine zD ?_ | refine zB _ rfl (by kernel_rfl) ?_ | refine zX rfl ?_ | refine zY rfl ?_ | refine zC ?_ | with_reducible refine zN ?_ | refine zH ?_ | refine zI ?_ | (with_reducible first | refine zL ?_ | refine zM ?_ | refine zE ?_ | refine zG ?_ | refine zF ?_) | refine zO ?_
  · exact xl (uD (yf [0, 1, 2, 3, 4, 5, 6, 7] rfl rfl (by decide) (hl8 id8) (by repeat' first | exact zm | refine zZ ?_ ?_ | exact zo | exact le_refl rfl | exact zj rfl rfl | exact zr rfl)) (tz s g hok hb hm hf))
  · exact xh (yW rfl rfl rfl rfl rfl) rfl rfl (zJ _ _) (by repeat' first | exact Purs.nil | refine Purs.cons ?_ ?_ | exact zt rfl | exact yP rfl rfl | exact zt (T := rwT) (x := []) rfl | exact Pur.nil | exact Pur.same rfl | exact yx (by assumption)) (by repeat' first | exact Purs.nil | refine Purs.cons ?_ ?_ | exact zt rfl | exact yP rfl rfl | exact zt (T := rwT) (x := []) rfl | exact Pur.nil | exact Pur.same rfl | exact yx (by assumption)) (.cons (.same rfl) (.cons (.same rfl) .nil))
theorem dM (s : So) (g : Int) (hok : okSo s) (hv : vS s = true) (h1 : inV g 8 60 = true) (hb : VBa s) (hm : yj s ≤ 60) (hp : s.ph = 1) (hf : ue s g) (hh : s.heap = []) (hd : 0 < s.dfr.length) : zz Go.Proofs.Try.prog 14 [.agg (soE s), I g] [] (.tup [.agg (soH (yS s)), rwL [], B true]) [rwR (yS s).heap] true := by
  have g1 := hok.heap
  have g2 := hok.dfr
  have g4 := hok.out
  have g5 := hok.runs
  have hh0 : s.heap.length = 0 := by rw [hh]; rfl
  have ac := xm s hok
  have a1 := uB s hok
  rw [hv] at a1
  have a2 := uC g 8 60
  rw [h1] at a2
  have ao := du (bxS (soE s)) (bxS zS) (bxS (soP 2 s)) s hok hh
  refine ya 4 27 [5, 6] Go.Proofs.Try.func14 rfl rfl rfl ?_
  simp only [Go.Proofs.Try.ntmps14, List.length_cons, List.length_nil, Nat.reduceAdd, Nat.reduceSub, List.replicate_succ, List.replicate_zero, List.cons_append, List.nil_append]
  repeat' first | (refine xn 6 (T6 s g) (xE ?_) ?_) | (refine zk rfl (fun h => absurd (of_decide_eq_true h) (by omega)) (fun _ => ?_)) | (refine zk rfl (fun _ => ?_) (fun h => absurd hp (of_decide_eq_false h))) | (refine zk rfl (fun _ => ?_) (fun h => absurd (of_decide_eq_false h) (by rw [IntKind.wrap_i64]; omega))) | (refine isA ?_; refine zb rfl (yO rfl rfl rfl rfl rfl) rfl ?_) | refine zK ?_ | refine zA ?_ | refine zP [] ?_ | (refine isA ?_; refine zg rfl ?_) | (refine isL ?_; refine zW rfl (by kernel_rfl) rfl rfl ?_) | (refine zd rfl ?_; refine zV rfl (by kernel_rfl) rfl rfl ?_) | (refine zv 65 ?_; refine zb rfl (yC (r' := .agg (soP 2 s)) (H' := bxS (soE s) :: bxS zS :: soW s) rfl ac (.cons (.same rfl) .nil) rfl (by simp only [List.map_cons, List.map_nil, shR, yH _ (yU (zJ _ _))]; rfl)) rfl ?_) | (refine zw 65 rfl ?_; refine zU rfl (by kernel_rfl) rfl (yC (r' := .agg (soP 2 s)) (H' := bxS (soE s) :: bxS zS :: soW s) rfl ac (.cons (.same rfl) .nil) rfl (by simp only [List.map_cons, List.map_nil, shR, yH _ (yU (zJ _ _))]; rfl)) rfl ?_) | (refine zv 18 ?_; refine zb rfl (zQ rfl a1 (.cons (.same rfl) .nil) rfl) rfl ?_) | (refine zw 18 rfl ?_; refine zU rfl (by kernel_rfl) rfl (zQ rfl a1 (.cons (.same rfl) .nil) rfl) rfl ?_) | (refine zv 66 ?_; refine zb rfl (zQ rfl a2 (.cons (.same rfl) (.cons (.same rfl) (.cons (.same rfl) .nil))) rfl) rfl ?_) | (refine zw 66 rfl ?_; refine zU rfl (by kernel_rfl) rfl (zQ rfl a2 (.cons (.same rfl) (.cons (.same rfl) (.cons (.same rfl) .nil))) rfl) rfl ?_) | (refine zv 69 ?_; refine zb rfl (yT rfl ao rfl) rfl ?_) | (refine zw 69 rfl ?_; refine zU rfl (by kernel_rfl) rfl (yT rfl ao rfl) rfl ?_) | refine zD ?_ | refine zB _ rfl (by kernel_rfl) ?_ | refine zX rfl ?_ | refine zY rfl ?_ | refine zC ?_ | with_reducible refine zN ?_ | refine zH ?_ | refine zI ?_ | (with_reducible first | refine zL ?_ | refine zM ?_ | refine zE ?_ | refine zG ?_ | refine zF ?_) | refine zO ?_
  · exact xl (uD (yf [0, 1, 2, 3, 4, 5, 6, 7] rfl rfl (by decide) (hl8 id8) (by repeat' first | exact zm | refine zZ ?_ ?_ | exact zo | exact le_refl rfl | exact zj rfl rfl | exact zr rfl)) (tz s g hok hb hm hf))
  · exact xh (yW rfl rfl rfl rfl rfl) rfl rfl (zJ _ _) (by repeat' first | exact Purs.nil | refine Purs.cons ?_ ?_ | exact zt rfl | exact yP rfl rfl | exact zt (T := rwT) (x := []) rfl | exact Pur.nil | exact Pur.same rfl | exact yx (by assumption)) (by repeat' first | exact Purs.nil | refine Purs.cons ?_ ?_ | exact zt rfl | exact yP rfl rfl | exact zt (T := rwT) (x := []) rfl | exact Pur.nil | exact Pur.same rfl | exact yx (by assumption)) (.cons (.same rfl) (.cons (.same rfl) .nil))
theorem fQ (s : So) (g : Int) (hok : okSo s) (hv : vS s = true) (h1 : inV g 8 60 = true) (hb : VBa s) (hm : yj s ≤ 60) (hp : s.ph = 1) (hf : ue s g) (hh : s.heap = []) (hd : s.dfr = []) : zz Go.Proofs.Try.prog 14 [.agg (soE s), I g] [] (.tup [.agg (soH (yF (wE s))), rwL [], B true]) [rwR (yF (wE s)).heap] true := by
  have g1 := hok.heap
  have g2 := hok.dfr
  have g4 := hok.out
  have g5 := hok.runs
  have hh0 : s.heap.length = 0 := by rw [hh]; rfl
  have ac := xm s hok
  have a1 := uB s hok
  rw [hv] at a1
  have a2 := uC g 8 60
  rw [h1] at a2
  have hd0 : s.dfr.length = 0 := by rw [hd]; rfl
  rcases Nat.eq_zero_or_pos s.out.length with h0 | h0
  · have e : yF (wE s) = { s with lp := 0, rp := 0, ph := cond (decide (s.runs.length = 0)) 4 (cond (decide (s.runs.length = 1)) 3 2) } := by
      rw [wE, decide_eq_false (by omega), cond_false, yF]
    rw [e]
    refine ya 4 27 [5, 6] Go.Proofs.Try.func14 rfl rfl rfl ?_
    simp only [Go.Proofs.Try.ntmps14, List.length_cons, List.length_nil, Nat.reduceAdd, Nat.reduceSub, List.replicate_succ, List.replicate_zero, List.cons_append, List.nil_append]
    repeat' first | (refine xn 6 (T6 s g) (xE ?_) ?_) | (refine zk rfl (fun h => absurd (of_decide_eq_true h) (by omega)) (fun _ => ?_)) | (refine zk rfl (fun _ => ?_) (fun h => absurd hp (of_decide_eq_false h))) | (refine zk rfl (fun h => absurd (of_decide_eq_true h) (by rw [IntKind.wrap_i64]; omega)) (fun _ => ?_)) | (refine isA ?_; refine zb rfl (yO rfl rfl rfl rfl rfl) rfl ?_) | refine zK ?_ | refine zA ?_ | refine zP [] ?_ | (refine isA ?_; refine zg rfl ?_) | (refine isL ?_; refine zW rfl (by kernel_rfl) rfl rfl ?_) | (refine zd rfl ?_; refine zV rfl (by kernel_rfl) rfl rfl ?_) | (refine zv 65 ?_; refine zb rfl (yC (r' := .agg (soP 2 s)) (H' := bxS (soE s) :: bxS zS :: soW s) rfl ac (.cons (.same rfl) .nil) rfl (by simp only [List.map_cons, List.map_nil, shR, yH _ (yU (zJ _ _))]; rfl)) rfl ?_) | (refine zw 65 rfl ?_; refine zU rfl (by kernel_rfl) rfl (yC (r' := .agg (soP 2 s)) (H' := bxS (soE s) :: bxS zS :: soW s) rfl ac (.cons (.same rfl) .nil) rfl (by simp only [List.map_cons, List.map_nil, shR, yH _ (yU (zJ _ _))]; rfl)) rfl ?_) | (refine zv 18 ?_; refine zb rfl (zQ rfl a1 (.cons (.same rfl) .nil) rfl) rfl ?_) | (refine zw 18 rfl ?_; refine zU rfl (by kernel_rfl) rfl (zQ rfl a1 (.cons (.same rfl) .nil) rfl) rfl ?_) | (refine zv 66 ?_; refine zb rfl (zQ rfl a2 (.cons (.same rfl) (.cons (.same rfl) (.cons (.same rfl) .nil))) rfl) rfl ?_) | (refine zw 66 rfl ?_; refine zU rfl (by kernel_rfl) rfl (zQ rfl a2 (.cons (.same rfl) (.cons (.same rfl) (.cons (.same rfl) .nil))) rfl) rfl ?_) | (refine zv 70 ?_; refine zb rfl (yT rfl (mm _ _ _ _ _ _ _ _ _ _ _ _ _ _ _ _ _ _ _ _ _ _ _ _ _ _ _ _) rfl) rfl ?_) | (refine zw 70 rfl ?_; refine zU rfl (by kernel_rfl) rfl (yT rfl (mm _ _ _ _ _ _ _ _ _ _ _ _ _ _ _ _ _ _ _ _ _ _ _ _ _ _ _ _) rfl) rfl ?_) | refine zD ?_ | refine zB _ rfl (by kernel_rfl) ?_ | refine zX rfl ?_ | refine zY rfl ?_ | refine zC ?_ | with_reducible refine zN ?_ | refine zH ?_ | refine zI ?_ | (with_reducible first | refine zL ?_ | refine zM ?_ | refine zE ?_ | refine zG ?_ | refine zF ?_) | refine zO ?_
    · exact xl (uD (yf [0, 1, 2, 3, 4, 5, 6, 7] rfl rfl (by decide) (hl8 id8) (by repeat' first | exact zm | refine zZ ?_ ?_ | exact zo | exact le_refl rfl | exact zj rfl rfl | exact zr rfl)) (tz s g hok hb hm hf))
    · exact xh (yW rfl rfl rfl rfl rfl) rfl rfl (zJ _ _) (by repeat' first | exact Purs.nil | refine Purs.cons ?_ ?_ | exact zt rfl | exact yP rfl rfl | exact zt (T := rwT) (x := []) rfl | exact Pur.nil | exact Pur.same rfl | exact yx (by assumption)) (by repeat' first | exact Purs.nil | refine Purs.cons ?_ ?_ | exact zt rfl | exact yP rfl rfl | exact zt (T := rwT) (x := []) rfl | exact Pur.nil | exact Pur.same rfl | exact yx (by assumption)) (.cons (.same rfl) (.cons (.same rfl) .nil))
  · have e : yF (wE s) = { s with runs := s.runs ++ [s.out], out := [], lp := 0, rp := 0, ph := cond (decide (s.runs.length + 1 = 0)) 4 (cond (decide (s.runs.length + 1 = 1)) 3 2) } := by
      rw [wE, decide_eq_true h0, cond_true, yF, endV]
      simp
    rw [e]
    refine ya 4 27 [5, 6] Go.Proofs.Try.func14 rfl rfl rfl ?_
    simp only [Go.Proofs.Try.ntmps14, List.length_cons, List.length_nil, Nat.reduceAdd, Nat.reduceSub, List.replicate_succ, List.replicate_zero, List.cons_append, List.nil_append]
    repeat' first | (refine xn 6 (T6 s g) (xE ?_) ?_) | (refine zk rfl (fun h => absurd (of_decide_eq_true h) (by omega)) (fun _ => ?_)) | (refine zk rfl (fun _ => ?_) (fun h => absurd hp (of_decide_eq_false h))) | (refine zk rfl (fun h => absurd (of_decide_eq_true h) (by rw [IntKind.wrap_i64]; omega)) (fun _ => ?_)) | (refine zk rfl (fun _ => ?_) (fun h => absurd (of_decide_eq_false h) (by omega))) | refine zK ?_ | refine zA ?_ | refine zP [] ?_ | (refine isA ?_; refine zg rfl ?_) | (refine isL ?_; refine zW rfl (by kernel_rfl) rfl rfl ?_) | (refine zd rfl ?_; refine zV rfl (by kernel_rfl) rfl rfl ?_) | (refine zv 65 ?_; refine zb rfl (yC (r' := .agg (soP 2 s)) (H' := bxS (soE s) :: bxS zS :: soW s) rfl ac (.cons (.same rfl) .nil) rfl (by simp only [List.map_cons, List.map_nil, shR, yH _ (yU (zJ _ _))]; rfl)) rfl ?_) | (refine zw 65 rfl ?_; refine zU rfl (by kernel_rfl) rfl (yC (r' := .agg (soP 2 s)) (H' := bxS (soE s) :: bxS zS :: soW s) rfl ac (.cons (.same rfl) .nil) rfl (by simp only [List.map_cons, List.map_nil, shR, yH _ (yU (zJ _ _))]; rfl)) rfl ?_) | (refine zv 18 ?_; refine zb rfl (zQ rfl a1 (.cons (.same rfl) .nil) rfl) rfl ?_) | (refine zw 18 rfl ?_; refine zU rfl (by kernel_rfl) rfl (zQ rfl a1 (.cons (.same rfl) .nil) rfl) rfl ?_) | (refine zv 66 ?_; refine zb rfl (zQ rfl a2 (.cons (.same rfl) (.cons (.same rfl) (.cons (.same rfl) .nil))) rfl) rfl ?_) | (refine zw 66 rfl ?_; refine zU rfl (by kernel_rfl) rfl (zQ rfl a2 (.cons (.same rfl) (.cons (.same rfl) (.cons (.same rfl) .nil))) rfl) rfl ?_) | (refine xb ?_; refine zb rfl (td (outs := s.runs) (hz := 8) (zi := 5) (n := s.out.length) rfl rfl rfl rfl rfl (by omega)) rfl ?_) | (refine xH rfl ?_; refine zU rfl (by kernel_rfl) rfl (td (outs := s.runs) (hz := 8) (zi := 5) (n := s.out.length) rfl rfl rfl rfl rfl (by omega)) rfl ?_) | (refine zv 70 ?_; refine zb rfl (yT rfl (tF _ _ _ _ _ _ _ _ _ _ _ _ _ _ _ _ _ _ _ _ _ _ _ _ _ _ _ _ _ _ _) rfl) rfl ?_) | (refine zw 70 rfl ?_; refine zU rfl (by kernel_rfl) rfl (yT rfl (tF _ _ _ _ _ _ _ _ _ _ _ _ _ _ _ _ _ _ _ _ _ _ _ _ _ _ _ _ _ _ _) rfl) rfl ?_) | refine zD ?_ | refine zB _ rfl (by kernel_rfl) ?_ | refine zX rfl ?_ | refine zY rfl ?_ | refine zC ?_ | with_reducible refine zN ?_ | refine zH ?_ | refine zI ?_ | (with_reducible first | refine zL ?_ | refine zM ?_ | refine zE ?_ | refine zG ?_ | refine zF ?_) | refine zO ?_
    · exact xl (uD (yf [0, 1, 2, 3, 4, 5, 6, 7] rfl rfl (by decide) (hl8 id8) (by repeat' first | exact zm | refine zZ ?_ ?_ | exact zo | exact le_refl rfl | exact zj rfl rfl | exact zr rfl)) (tz s g hok hb hm hf))
    · exact xh (yW rfl rfl rfl rfl rfl) rfl rfl (zJ _ _) (by repeat' first | exact Purs.nil | refine Purs.cons ?_ ?_ | exact zt rfl | exact yP rfl rfl | exact zt (T := rwT) (x := []) rfl | exact Pur.nil | exact Pur.same rfl | exact yx (by assumption)) (by repeat' first | exact Purs.nil | refine Purs.cons ?_ ?_ | exact zt rfl | exact yP rfl rfl | exact zt (T := rwT) (x := []) rfl | exact Pur.nil | exact Pur.same rfl | exact yx (by assumption)) (.cons (zt (T := rwT) (x := []) rfl) (.cons (.same rfl) .nil))
theorem lm (s x : So) (g : Int) (r : List Rw) (hok : okSo s) (hv : vS s = true) (h1 : inV g 8 60 = true) (hp : s.ph = 1) (h : StepV s g x r) : zz Go.Proofs.Try.prog 14 [.agg (soE s), I g] [] (.tup [.agg (soH x), rwL r, B true]) [rwR x.heap] true := by
  have hV := vA.1 hv
  cases hV with
  | read b q =>
    have hm : yj s ≤ 60 := by rw [vE q.ph]; exact q.mem
    cases h with
    | put _ hr hf => exact s_put s g _ hok hv h1 b hm hp hr hf
    | pop _ hf hh hk hr => exact s_pop s g _ _ hok hv h1 b hm hp hf hh hk hr
    | swap _ hf hh hd => exact dM s g hok hv h1 b hm hp hf hh hd
    | close _ hf hh hd => exact fQ s g hok hv h1 b hm hp hf hh hd
    | merged h2 => omega
    | left h2 => omega
    | right h2 => omega
    | emit h2 => omega
  | merge b t ph => omega
  | emit b t ph => omega
  | done b t ph => omega
end Go.Proofs.Ytojcojanokhnaaa.Ab
namespace Go.Proofs.Ytojcojanokhnaaa.Ab
open Go.RowKit
theorem VS.base {s : So} (h : VS s) : VBa s := by
  cases h with
  | read b => exact b
  | merge b => exact b
  | emit b => exact b
  | done b => exact b
theorem mG : ∀ {rs : List Rn}, (∀ r ∈ rs, fC r) → rs.length ≤ tot rs
  | [], _ => Nat.zero_le _
  | r :: rs, h => by
    have h1 := mG (rs := rs) fun x hx => h x (List.mem_cons_of_mem _ hx)
    have h2 := List.length_pos_iff.2 (h r (List.mem_cons_self ..)).1
    have e : tot (r :: rs) = r.length + tot rs := by simp [tot]
    rw [e, List.length_cons]
    omega
theorem VS.small {s : So} (h : VS s) : s.input.length ≤ 24 ∧ s.heap.length ≤ 24 ∧ s.dfr.length ≤ 24 ∧ s.out.length ≤ 24 ∧ s.runs.length ≤ tot s.runs ∧ tot s.runs ≤ 24 := by
  have hb := h.base
  have h1 := (vh.1 hb.input).2
  have h2 := mG hb.runs
  have h3 := vZ s.runs
  cases h with
  | read b q =>
    have hl := q.bag.length_eq
    simp only [List.length_append, List.length_take] at hl
    omega
  | @merge b t ph x y rest i j runs lp rp m =>
    have hl := t.bag.length_eq
    have ml := m.len
    have m1 := m.ha
    have m2 := m.hb
    have e : tot s.runs = x.length + (y.length + tot rest) := by rw [runs]; simp [tot]
    rw [t.heap, t.dfr]
    simp only [List.length_nil]
    omega
  | @emit b t ph x i runs lp hi rp out =>
    have hl := t.bag.length_eq
    rw [t.heap, t.dfr, out]
    simp only [List.length_nil]
    omega
  | done b t ph runs lp rp out =>
    have hl := t.bag.length_eq
    rw [t.heap, t.dfr, out]
    simp only [List.length_nil]
    omega
theorem VS.ok {s : So} (h : VS s) : okSo s := by
  obtain ⟨h1, h2, h3, h4, h5, h6⟩ := h.small
  exact ⟨by omega, by omega, by omega, by omega, by omega, by omega⟩
end Go.Proofs.Ytojcojanokhnaaa.Ab
namespace Go.Proofs.Ytojcojanokhnaaa.Ab
open Go.RowKit
theorem qd (xs : List Rn) (y : Rn) : tot (xs ++ [y]) = tot xs + y.length := by simp [tot]
theorem lw (xs : List Rn) (k : Nat) : tot (xs.drop k) ≤ tot xs := by
  induction xs generalizing k with
  | nil => simp [tot]
  | cons x xs ih =>
    cases k with
    | zero => exact Nat.le_refl _
    | succ k => have := ih k; simp only [List.drop_succ_cons, tot, List.map_cons, List.sum_cons] at this ⊢; omega
structure Sm (k : Nat) (s : So) : Prop where
  input : s.input.length ≤ k
  heap : s.heap.length ≤ k
  dfr : s.dfr.length ≤ k
  out : s.out.length ≤ k
  runs : s.runs.length ≤ k
  tot : tot s.runs ≤ k
theorem VS.sm {s : So} (h : VS s) : Sm 24 s := by
  obtain ⟨h1, h2, h3, h4, h5, h6⟩ := h.small
  exact ⟨h1, h2, h3, h4, by omega, h6⟩
theorem Sm.next {k : Nat} {s : So} (h : Sm k s) : Sm k (yF s) := ⟨h.input, h.heap, h.dfr, h.out, h.runs, h.tot⟩
theorem Sm.endV {k : Nat} {s : So} (h : Sm k s) (hk : 1 ≤ k) : Sm (2 * k) (endV s) := by
  obtain ⟨h1, h2, h3, h4, h5, h6⟩ := h
  refine ⟨?_, ?_, ?_, ?_, ?_, ?_⟩ <;> simp only [Ab.endV, List.length_append, List.length_singleton, List.length_nil, qd] <;> omega
theorem n9 {s x : So} {g : Int} {r : List Rw} (hv : VS s) (h : StepV s g x r) : Sm 48 x := by
  have hs := hv.sm
  obtain ⟨h1, h2, h3, h4, h5, h6⟩ := hs
  cases h with
  | put hp hr hf =>
    unfold wk
    cases bel _ s.out <;> (refine ⟨?_, ?_, ?_, ?_, ?_, ?_⟩ <;> simp only [cond_true, cond_false, List.length_append, List.length_singleton] <;> omega)
  | pop hp hf hh hk hr => refine ⟨?_, ?_, ?_, ?_, ?_, ?_⟩ <;> simp only [uR, List.length_append, List.length_take, List.length_drop, List.length_singleton] <;> omega
  | swap hp hf hh hd => refine ⟨?_, ?_, ?_, ?_, ?_, ?_⟩ <;> simp only [yS, List.length_append, List.length_singleton, List.length_nil, qd] <;> omega
  | close hp hf hh hd =>
    refine Sm.next ?_
    unfold wE
    cases decide (0 < s.out.length)
    · exact ⟨by simp only [cond_false]; omega, by simp only [cond_false]; omega, by simp only [cond_false]; omega, by simp only [cond_false]; omega, by simp only [cond_false]; omega, by simp only [cond_false]; omega⟩
    · exact hv.sm.endV (by decide)
  | merged hp hr h7 h8 =>
    refine Sm.next ?_
    have := lw s.runs 2
    refine ⟨?_, ?_, ?_, ?_, ?_, ?_⟩ <;> simp only [uA, List.length_append, List.length_drop, List.length_singleton, List.length_nil, qd] <;> omega
  | left hp hr h7 h8 => refine ⟨?_, ?_, ?_, ?_, ?_, ?_⟩ <;> simp only [vK, List.length_append, List.length_singleton] <;> omega
  | right hp hr h7 h8 => refine ⟨?_, ?_, ?_, ?_, ?_, ?_⟩ <;> simp only [wO, List.length_append, List.length_singleton] <;> omega
  | emit hp hr h7 => refine ⟨?_, ?_, ?_, ?_, ?_, ?_⟩ <;> simp only [wF] <;> omega
theorem Sm.ok {s : So} (h : Sm 48 s) : okSo s ∧ totS s ≤ 1000 := by
  obtain ⟨h1, h2, h3, h4, h5, h6⟩ := h
  exact ⟨⟨by omega, by omega, by omega, by omega, by omega, by omega⟩, by unfold totS; omega⟩
end Go.Proofs.Ytojcojanokhnaaa.Ab
namespace Go.Proofs.Ytojcojanokhnaaa.Ab
open Go.RowKit
theorem dN (inp heap dfr out : List Rw) (pos wr g : Int) (a b : Rn) (rest : List Rn) (i k : Nat) (r : Rw) (hok : okSo ⟨inp, pos, heap, dfr, out, a :: b :: rest, i, k, 2, wr⟩) (hv : vS ⟨inp, pos, heap, dfr, out, a :: b :: rest, i, k, 2, wr⟩ = true) (hg : inV g 8 60 = true) (h1 : a[i]? = some r) (hk : k ≤ b.length) (h2 : ∀ q, b[k]? = some q → leW r q) :
    zz Go.Proofs.Try.prog 14 [.agg (soE ⟨inp, pos, heap, dfr, out, a :: b :: rest, i, k, 2, wr⟩), I g] [] (.tup [.agg (soH (vK ⟨inp, pos, heap, dfr, out, a :: b :: rest, i, k, 2, wr⟩ r)), rwL [], B true]) [rwR (vK ⟨inp, pos, heap, dfr, out, a :: b :: rest, i, k, 2, wr⟩ r).heap] true := by
  have g4 := hok.out
  have g6 := hok.tot
  simp only [tot, List.map_cons, List.sum_cons] at g4 g6
  have hlt := (List.getElem?_eq_some_iff.1 h1).1
  have ew : IntKind.i64.wrap ((i : Int) + 1) = (i : Int) + 1 := by rw [IntKind.wrap_i64]; omega
  have ac := xm _ hok
  have a1 := uB _ hok
  rw [hv] at a1
  have a2 := uC g 8 60
  rw [hg] at a2
  have b1 := wQ (a :: b :: rest) 0 i hok.rn (by decide)
  have b2 := wQ (a :: b :: rest) 1 k hok.rn (by decide)
  have e0 : wU (a :: b :: rest) 0 i = (a[i]?).toList := rfl
  have e1 : wU (a :: b :: rest) 1 k = (b[k]?).toList := rfl
  rw [e0] at b1
  rw [e1] at b2
  rw [h1] at b1
  have hz1 : ([r] : List Rw)[0]? = some r := rfl
  rcases hq : b[k]? with _ | q
  · rw [hq] at b2
    refine ya 4 27 [5, 6] Go.Proofs.Try.func14 rfl rfl rfl ?_
    simp only [Go.Proofs.Try.ntmps14, List.length_cons, List.length_nil, Nat.reduceAdd, Nat.reduceSub, List.replicate_succ, List.replicate_zero, List.cons_append, List.nil_append]
    repeat' first | (refine zk rfl (fun h => absurd (of_decide_eq_true h) (by simp only; decide)) (fun _ => ?_)) | (refine zk rfl (fun _ => ?_) (fun h => absurd (of_decide_eq_false h) (by simp only; decide))) | (refine isA ?_; refine zb rfl (yO rfl rfl rfl rfl rfl) rfl ?_) | (refine zP (id := 27) [6, 8] ?_) | (refine zP (id := 28) [8] ?_) | (refine tm rfl ?_; refine zU rfl (by kernel_rfl) rfl (yO rfl rfl rfl rfl rfl) rfl ?_) | (refine xH rfl ?_; refine tl rfl (by kernel_rfl) rfl (yV (t := rwT) (xs := out) (ys := [r]) rfl rfl rfl rfl (.lst _ _) (by simp; omega) rfl) rfl ?_) | refine zK ?_ | refine zA ?_ | refine zP [] ?_ | (refine isA ?_; refine zg rfl ?_) | (refine isL ?_; refine zW rfl (by kernel_rfl) rfl rfl ?_) | (refine zd rfl ?_; refine zV rfl (by kernel_rfl) rfl rfl ?_) | (refine zv 65 ?_; refine zb rfl (yC (r' := .agg (soP 2 ⟨inp, pos, heap, dfr, out, a :: b :: rest, i, k, 2, wr⟩)) (H' := bxS (soE ⟨inp, pos, heap, dfr, out, a :: b :: rest, i, k, 2, wr⟩) :: bxS zS :: soW ⟨inp, pos, heap, dfr, out, a :: b :: rest, i, k, 2, wr⟩) rfl ac (.cons (.same rfl) .nil) rfl (by simp only [List.map_cons, List.map_nil, shR, yH _ (yU (zJ _ _))]; rfl)) rfl ?_) | (refine zw 65 rfl ?_; refine zU rfl (by kernel_rfl) rfl (yC (r' := .agg (soP 2 ⟨inp, pos, heap, dfr, out, a :: b :: rest, i, k, 2, wr⟩)) (H' := bxS (soE ⟨inp, pos, heap, dfr, out, a :: b :: rest, i, k, 2, wr⟩) :: bxS zS :: soW ⟨inp, pos, heap, dfr, out, a :: b :: rest, i, k, 2, wr⟩) rfl ac (.cons (.same rfl) .nil) rfl (by simp only [List.map_cons, List.map_nil, shR, yH _ (yU (zJ _ _))]; rfl)) rfl ?_) | (refine zv 18 ?_; refine zb rfl (zQ rfl a1 (.cons (.same rfl) .nil) rfl) rfl ?_) | (refine zw 18 rfl ?_; refine zU rfl (by kernel_rfl) rfl (zQ rfl a1 (.cons (.same rfl) .nil) rfl) rfl ?_) | (refine zv 66 ?_; refine zb rfl (zQ rfl a2 (.cons (.same rfl) (.cons (.same rfl) (.cons (.same rfl) .nil))) rfl) rfl ?_) | (refine zw 66 rfl ?_; refine zU rfl (by kernel_rfl) rfl (zQ rfl a2 (.cons (.same rfl) (.cons (.same rfl) (.cons (.same rfl) .nil))) rfl) rfl ?_) | (refine zv 71 (x := #[.tmp 124, .tmp 126]) ?_; refine zb rfl (zQ rfl b1 (.cons (.same rfl) (.cons (.same rfl) (.cons (.same rfl) .nil))) rfl) rfl ?_) | (refine zw 71 (x := #[.tmp 124, .tmp 126]) rfl ?_; refine zU rfl (by kernel_rfl) rfl (zQ rfl b1 (.cons (.same rfl) (.cons (.same rfl) (.cons (.same rfl) .nil))) rfl) rfl ?_) | (refine zv 71 ?_; refine zb rfl (zQ rfl b1 (.cons (.same rfl) (.cons (.same rfl) (.cons (.same rfl) .nil))) rfl) rfl ?_) | (refine zw 71 rfl ?_; refine zU rfl (by kernel_rfl) rfl (zQ rfl b1 (.cons (.same rfl) (.cons (.same rfl) (.cons (.same rfl) .nil))) rfl) rfl ?_) | (refine zv 71 ?_; refine zb rfl (zQ rfl b2 (.cons (.same rfl) (.cons (.same rfl) (.cons (.same rfl) .nil))) rfl) rfl ?_) | (refine zw 71 rfl ?_; refine zU rfl (by kernel_rfl) rfl (zQ rfl b2 (.cons (.same rfl) (.cons (.same rfl) (.cons (.same rfl) .nil))) rfl) rfl ?_) | (refine yB (x := .tmp 173) ?_; refine zb rfl (z5 (t := rwT) (xs := [r]) (z := r) rfl rfl rfl rfl (Int.le_refl 0) hz1) rfl ?_) | (refine yA (x := .tmp 173) rfl ?_; refine zU rfl (by kernel_rfl) rfl (z5 (t := rwT) (xs := [r]) (z := r) rfl rfl rfl rfl (Int.le_refl 0) hz1) rfl ?_) | (refine yB (x := .tmp 181) ?_; refine zb rfl (z5 (t := rwT) (xs := [r]) (z := r) rfl rfl rfl rfl (Int.le_refl 0) hz1) rfl ?_) | (refine yA (x := .tmp 181) rfl ?_; refine zU rfl (by kernel_rfl) rfl (z5 (t := rwT) (xs := [r]) (z := r) rfl rfl rfl rfl (Int.le_refl 0) hz1) rfl ?_) | (refine zv 67 ?_; refine zb rfl (zQ rfl (wG r) (.cons (.same rfl) .nil) rfl) rfl ?_) | (refine zw 67 rfl ?_; refine zU rfl (by kernel_rfl) rfl (zQ rfl (wG r) (.cons (.same rfl) .nil) rfl) rfl ?_) | (refine isL ?_; refine vR rfl (by kernel_rfl) rfl rfl ?_) | refine zD ?_ | refine zB _ rfl (by kernel_rfl) ?_ | refine zX rfl ?_ | refine zY rfl ?_ | refine zC ?_ | with_reducible refine zN ?_ | refine zH ?_ | refine zI ?_ | (with_reducible first | refine zL ?_ | refine zM ?_ | refine zE ?_ | refine zG ?_ | refine zF ?_) | refine zO ?_
    exact xh (yW rfl rfl rfl rfl rfl) rfl rfl (zJ _ _) (by repeat' first | exact Purs.nil | refine Purs.cons ?_ ?_ | exact zt rfl | exact yP rfl rfl | exact zt (T := rwT) (x := []) rfl | exact Pur.nil | exact Pur.same rfl | exact yx (by assumption)) (by repeat' first | exact Purs.nil | refine Purs.cons ?_ ?_ | exact zt rfl | exact yP rfl rfl | exact zt (T := rwT) (x := []) rfl | exact Pur.nil | exact Pur.same rfl | exact yx (by assumption)) (.cons (.same rfl) (.cons (.same rfl) .nil))
  · rw [hq] at b2
    have hle : decide (yp r q ≤ 0) = true := decide_eq_true (h2 q hq)
    refine ya 4 27 [5, 6] Go.Proofs.Try.func14 rfl rfl rfl ?_
    simp only [Go.Proofs.Try.ntmps14, List.length_cons, List.length_nil, Nat.reduceAdd, Nat.reduceSub, List.replicate_succ, List.replicate_zero, List.cons_append, List.nil_append]
    repeat' first | (refine zk rfl (fun h => absurd (of_decide_eq_true h) (by simp only; decide)) (fun _ => ?_)) | (refine zk rfl (fun _ => ?_) (fun h => absurd (of_decide_eq_false h) (by simp only; decide))) | (refine isA ?_; refine zb rfl (yO rfl rfl rfl rfl rfl) rfl ?_) | (refine zP (id := 27) [6, 8] ?_) | (refine zP (id := 28) [8] ?_) | (refine tm rfl ?_; refine zU rfl (by kernel_rfl) rfl (yO rfl rfl rfl rfl rfl) rfl ?_) | (refine xH rfl ?_; refine tl rfl (by kernel_rfl) rfl (yV (t := rwT) (xs := out) (ys := [r]) rfl rfl rfl rfl (.lst _ _) (by simp; omega) rfl) rfl ?_) | refine zK ?_ | refine zA ?_ | refine zP [] ?_ | (refine isA ?_; refine zg rfl ?_) | (refine isL ?_; refine zW rfl (by kernel_rfl) rfl rfl ?_) | (refine zd rfl ?_; refine zV rfl (by kernel_rfl) rfl rfl ?_) | (refine zv 65 ?_; refine zb rfl (yC (r' := .agg (soP 2 ⟨inp, pos, heap, dfr, out, a :: b :: rest, i, k, 2, wr⟩)) (H' := bxS (soE ⟨inp, pos, heap, dfr, out, a :: b :: rest, i, k, 2, wr⟩) :: bxS zS :: soW ⟨inp, pos, heap, dfr, out, a :: b :: rest, i, k, 2, wr⟩) rfl ac (.cons (.same rfl) .nil) rfl (by simp only [List.map_cons, List.map_nil, shR, yH _ (yU (zJ _ _))]; rfl)) rfl ?_) | (refine zw 65 rfl ?_; refine zU rfl (by kernel_rfl) rfl (yC (r' := .agg (soP 2 ⟨inp, pos, heap, dfr, out, a :: b :: rest, i, k, 2, wr⟩)) (H' := bxS (soE ⟨inp, pos, heap, dfr, out, a :: b :: rest, i, k, 2, wr⟩) :: bxS zS :: soW ⟨inp, pos, heap, dfr, out, a :: b :: rest, i, k, 2, wr⟩) rfl ac (.cons (.same rfl) .nil) rfl (by simp only [List.map_cons, List.map_nil, shR, yH _ (yU (zJ _ _))]; rfl)) rfl ?_) | (refine zv 18 ?_; refine zb rfl (zQ rfl a1 (.cons (.same rfl) .nil) rfl) rfl ?_) | (refine zw 18 rfl ?_; refine zU rfl (by kernel_rfl) rfl (zQ rfl a1 (.cons (.same rfl) .nil) rfl) rfl ?_) | (refine zv 66 ?_; refine zb rfl (zQ rfl a2 (.cons (.same rfl) (.cons (.same rfl) (.cons (.same rfl) .nil))) rfl) rfl ?_) | (refine zw 66 rfl ?_; refine zU rfl (by kernel_rfl) rfl (zQ rfl a2 (.cons (.same rfl) (.cons (.same rfl) (.cons (.same rfl) .nil))) rfl) rfl ?_) | (refine zv 71 (x := #[.tmp 124, .tmp 126]) ?_; refine zb rfl (zQ rfl b1 (.cons (.same rfl) (.cons (.same rfl) (.cons (.same rfl) .nil))) rfl) rfl ?_) | (refine zw 71 (x := #[.tmp 124, .tmp 126]) rfl ?_; refine zU rfl (by kernel_rfl) rfl (zQ rfl b1 (.cons (.same rfl) (.cons (.same rfl) (.cons (.same rfl) .nil))) rfl) rfl ?_) | (refine zv 71 ?_; refine zb rfl (zQ rfl b1 (.cons (.same rfl) (.cons (.same rfl) (.cons (.same rfl) .nil))) rfl) rfl ?_) | (refine zw 71 rfl ?_; refine zU rfl (by kernel_rfl) rfl (zQ rfl b1 (.cons (.same rfl) (.cons (.same rfl) (.cons (.same rfl) .nil))) rfl) rfl ?_) | (refine zv 71 ?_; refine zb rfl (zQ rfl b2 (.cons (.same rfl) (.cons (.same rfl) (.cons (.same rfl) .nil))) rfl) rfl ?_) | (refine zw 71 rfl ?_; refine zU rfl (by kernel_rfl) rfl (zQ rfl b2 (.cons (.same rfl) (.cons (.same rfl) (.cons (.same rfl) .nil))) rfl) rfl ?_) | (refine yB (x := .tmp 161) ?_; refine zb rfl (z5 (t := rwT) (xs := [r]) (z := r) rfl rfl rfl rfl (Int.le_refl 0) rfl) rfl ?_) | (refine yA (x := .tmp 161) rfl ?_; refine zU rfl (by kernel_rfl) rfl (z5 (t := rwT) (xs := [r]) (z := r) rfl rfl rfl rfl (Int.le_refl 0) rfl) rfl ?_) | (refine yB (x := .tmp 164) ?_; refine zb rfl (z5 (t := rwT) (xs := [q]) (z := q) rfl rfl rfl rfl (Int.le_refl 0) rfl) rfl ?_) | (refine yA (x := .tmp 164) rfl ?_; refine zU rfl (by kernel_rfl) rfl (z5 (t := rwT) (xs := [q]) (z := q) rfl rfl rfl rfl (Int.le_refl 0) rfl) rfl ?_) | (refine zv 68 ?_; refine zb rfl (zQ rfl (xt r q) (.cons (.same rfl) (.cons (.same rfl) .nil)) rfl) rfl ?_) | (refine zw 68 rfl ?_; refine zU rfl (by kernel_rfl) rfl (zQ rfl (xt r q) (.cons (.same rfl) (.cons (.same rfl) .nil)) rfl) rfl ?_) | (refine yB (x := .tmp 173) ?_; refine zb rfl (z5 (t := rwT) (xs := [r]) (z := r) rfl rfl rfl rfl (Int.le_refl 0) hz1) rfl ?_) | (refine yA (x := .tmp 173) rfl ?_; refine zU rfl (by kernel_rfl) rfl (z5 (t := rwT) (xs := [r]) (z := r) rfl rfl rfl rfl (Int.le_refl 0) hz1) rfl ?_) | (refine yB (x := .tmp 181) ?_; refine zb rfl (z5 (t := rwT) (xs := [r]) (z := r) rfl rfl rfl rfl (Int.le_refl 0) hz1) rfl ?_) | (refine yA (x := .tmp 181) rfl ?_; refine zU rfl (by kernel_rfl) rfl (z5 (t := rwT) (xs := [r]) (z := r) rfl rfl rfl rfl (Int.le_refl 0) hz1) rfl ?_) | (refine zv 67 ?_; refine zb rfl (zQ rfl (wG r) (.cons (.same rfl) .nil) rfl) rfl ?_) | (refine zw 67 rfl ?_; refine zU rfl (by kernel_rfl) rfl (zQ rfl (wG r) (.cons (.same rfl) .nil) rfl) rfl ?_) | (refine isL ?_; refine vR rfl (by kernel_rfl) rfl rfl ?_) | refine zD ?_ | refine zB _ rfl (by kernel_rfl) ?_ | refine zX rfl ?_ | refine zY rfl ?_ | refine zC ?_ | with_reducible refine zN ?_ | refine zH ?_ | refine zI ?_ | (with_reducible first | refine zL ?_ | refine zM ?_ | refine zE ?_ | refine zG ?_ | refine zF ?_) | refine zO ?_
    refine zk rfl (fun _ => ?_) (fun h => absurd (hle.symm.trans h) (by decide))
    repeat' first | (refine isA ?_; refine zb rfl (yO rfl rfl rfl rfl rfl) rfl ?_) | (refine zP (id := 27) [6, 8] ?_) | (refine zP (id := 28) [8] ?_) | (refine tm rfl ?_; refine zU rfl (by kernel_rfl) rfl (yO rfl rfl rfl rfl rfl) rfl ?_) | (refine xH rfl ?_; refine tl rfl (by kernel_rfl) rfl (yV (t := rwT) (xs := out) (ys := [r]) rfl rfl rfl rfl (.lst _ _) (by simp; omega) rfl) rfl ?_) | refine zK ?_ | refine zA ?_ | refine zP [] ?_ | (refine isA ?_; refine zg rfl ?_) | (refine isL ?_; refine zW rfl (by kernel_rfl) rfl rfl ?_) | (refine zd rfl ?_; refine zV rfl (by kernel_rfl) rfl rfl ?_) | (refine yB (x := .tmp 173) ?_; refine zb rfl (z5 (t := rwT) (xs := [r]) (z := r) rfl rfl rfl rfl (Int.le_refl 0) hz1) rfl ?_) | (refine yA (x := .tmp 173) rfl ?_; refine zU rfl (by kernel_rfl) rfl (z5 (t := rwT) (xs := [r]) (z := r) rfl rfl rfl rfl (Int.le_refl 0) hz1) rfl ?_) | (refine yB (x := .tmp 181) ?_; refine zb rfl (z5 (t := rwT) (xs := [r]) (z := r) rfl rfl rfl rfl (Int.le_refl 0) hz1) rfl ?_) | (refine yA (x := .tmp 181) rfl ?_; refine zU rfl (by kernel_rfl) rfl (z5 (t := rwT) (xs := [r]) (z := r) rfl rfl rfl rfl (Int.le_refl 0) hz1) rfl ?_) | (refine zv 67 ?_; refine zb rfl (zQ rfl (wG r) (.cons (.same rfl) .nil) rfl) rfl ?_) | (refine zw 67 rfl ?_; refine zU rfl (by kernel_rfl) rfl (zQ rfl (wG r) (.cons (.same rfl) .nil) rfl) rfl ?_) | (refine isL ?_; refine vR rfl (by kernel_rfl) rfl rfl ?_) | refine zD ?_ | refine zB _ rfl (by kernel_rfl) ?_ | refine zX rfl ?_ | refine zY rfl ?_ | refine zC ?_ | with_reducible refine zN ?_ | refine zH ?_ | refine zI ?_ | (with_reducible first | refine zL ?_ | refine zM ?_ | refine zE ?_ | refine zG ?_ | refine zF ?_) | refine zO ?_
    exact xh (yW rfl rfl rfl rfl rfl) rfl rfl (zJ _ _) (by repeat' first | exact Purs.nil | refine Purs.cons ?_ ?_ | exact zt rfl | exact yP rfl rfl | exact zt (T := rwT) (x := []) rfl | exact Pur.nil | exact Pur.same rfl | exact yx (by assumption)) (by repeat' first | exact Purs.nil | refine Purs.cons ?_ ?_ | exact zt rfl | exact yP rfl rfl | exact zt (T := rwT) (x := []) rfl | exact Pur.nil | exact Pur.same rfl | exact yx (by assumption)) (.cons (.same rfl) (.cons (.same rfl) .nil))
theorem fP (inp heap dfr out : List Rw) (pos wr g : Int) (a b : Rn) (rest : List Rn) (i k : Nat) (r : Rw) (hok : okSo ⟨inp, pos, heap, dfr, out, a :: b :: rest, i, k, 2, wr⟩) (hv : vS ⟨inp, pos, heap, dfr, out, a :: b :: rest, i, k, 2, wr⟩ = true) (hg : inV g 8 60 = true) (h1 : b[k]? = some r) (hi : i ≤ a.length) (h2 : ∀ q, a[i]? = some q → ¬ leW q r) :
    zz Go.Proofs.Try.prog 14 [.agg (soE ⟨inp, pos, heap, dfr, out, a :: b :: rest, i, k, 2, wr⟩), I g] [] (.tup [.agg (soH (wO ⟨inp, pos, heap, dfr, out, a :: b :: rest, i, k, 2, wr⟩ r)), rwL [], B true]) [rwR (wO ⟨inp, pos, heap, dfr, out, a :: b :: rest, i, k, 2, wr⟩ r).heap] true := by
  have g4 := hok.out
  have g6 := hok.tot
  simp only [tot, List.map_cons, List.sum_cons] at g4 g6
  have hlt := (List.getElem?_eq_some_iff.1 h1).1
  have ew : IntKind.i64.wrap ((k : Int) + 1) = (k : Int) + 1 := by rw [IntKind.wrap_i64]; omega
  have ac := xm _ hok
  have a1 := uB _ hok
  rw [hv] at a1
  have a2 := uC g 8 60
  rw [hg] at a2
  have b1 := wQ (a :: b :: rest) 0 i hok.rn (by decide)
  have b2 := wQ (a :: b :: rest) 1 k hok.rn (by decide)
  have e0 : wU (a :: b :: rest) 0 i = (a[i]?).toList := rfl
  have e1 : wU (a :: b :: rest) 1 k = (b[k]?).toList := rfl
  rw [e0] at b1
  rw [e1] at b2
  rw [h1] at b2
  have hz1 : ([r] : List Rw)[0]? = some r := rfl
  rcases hq : a[i]? with _ | q
  · rw [hq] at b1
    refine ya 4 27 [5, 6] Go.Proofs.Try.func14 rfl rfl rfl ?_
    simp only [Go.Proofs.Try.ntmps14, List.length_cons, List.length_nil, Nat.reduceAdd, Nat.reduceSub, List.replicate_succ, List.replicate_zero, List.cons_append, List.nil_append]
    repeat' first | (refine zk rfl (fun h => absurd (of_decide_eq_true h) (by simp only; decide)) (fun _ => ?_)) | (refine zk rfl (fun _ => ?_) (fun h => absurd (of_decide_eq_false h) (by simp only; decide))) | (refine isA ?_; refine zb rfl (yO rfl rfl rfl rfl rfl) rfl ?_) | (refine zP (id := 30) [6, 8] ?_) | (refine zP (id := 31) [8] ?_) | (refine tm rfl ?_; refine zU rfl (by kernel_rfl) rfl (yO rfl rfl rfl rfl rfl) rfl ?_) | (refine xH rfl ?_; refine tl rfl (by kernel_rfl) rfl (yV (t := rwT) (xs := out) (ys := [r]) rfl rfl rfl rfl (.lst _ _) (by simp; omega) rfl) rfl ?_) | refine zK ?_ | refine zA ?_ | refine zP [] ?_ | (refine isA ?_; refine zg rfl ?_) | (refine isL ?_; refine zW rfl (by kernel_rfl) rfl rfl ?_) | (refine zd rfl ?_; refine zV rfl (by kernel_rfl) rfl rfl ?_) | (refine zv 65 ?_; refine zb rfl (yC (r' := .agg (soP 2 ⟨inp, pos, heap, dfr, out, a :: b :: rest, i, k, 2, wr⟩)) (H' := bxS (soE ⟨inp, pos, heap, dfr, out, a :: b :: rest, i, k, 2, wr⟩) :: bxS zS :: soW ⟨inp, pos, heap, dfr, out, a :: b :: rest, i, k, 2, wr⟩) rfl ac (.cons (.same rfl) .nil) rfl (by simp only [List.map_cons, List.map_nil, shR, yH _ (yU (zJ _ _))]; rfl)) rfl ?_) | (refine zw 65 rfl ?_; refine zU rfl (by kernel_rfl) rfl (yC (r' := .agg (soP 2 ⟨inp, pos, heap, dfr, out, a :: b :: rest, i, k, 2, wr⟩)) (H' := bxS (soE ⟨inp, pos, heap, dfr, out, a :: b :: rest, i, k, 2, wr⟩) :: bxS zS :: soW ⟨inp, pos, heap, dfr, out, a :: b :: rest, i, k, 2, wr⟩) rfl ac (.cons (.same rfl) .nil) rfl (by simp only [List.map_cons, List.map_nil, shR, yH _ (yU (zJ _ _))]; rfl)) rfl ?_) | (refine zv 18 ?_; refine zb rfl (zQ rfl a1 (.cons (.same rfl) .nil) rfl) rfl ?_) | (refine zw 18 rfl ?_; refine zU rfl (by kernel_rfl) rfl (zQ rfl a1 (.cons (.same rfl) .nil) rfl) rfl ?_) | (refine zv 66 ?_; refine zb rfl (zQ rfl a2 (.cons (.same rfl) (.cons (.same rfl) (.cons (.same rfl) .nil))) rfl) rfl ?_) | (refine zw 66 rfl ?_; refine zU rfl (by kernel_rfl) rfl (zQ rfl a2 (.cons (.same rfl) (.cons (.same rfl) (.cons (.same rfl) .nil))) rfl) rfl ?_) | (refine zv 71 (x := #[.tmp 124, .tmp 126]) ?_; refine zb rfl (zQ rfl b1 (.cons (.same rfl) (.cons (.same rfl) (.cons (.same rfl) .nil))) rfl) rfl ?_) | (refine zw 71 (x := #[.tmp 124, .tmp 126]) rfl ?_; refine zU rfl (by kernel_rfl) rfl (zQ rfl b1 (.cons (.same rfl) (.cons (.same rfl) (.cons (.same rfl) .nil))) rfl) rfl ?_) | (refine zv 71 ?_; refine zb rfl (zQ rfl b1 (.cons (.same rfl) (.cons (.same rfl) (.cons (.same rfl) .nil))) rfl) rfl ?_) | (refine zw 71 rfl ?_; refine zU rfl (by kernel_rfl) rfl (zQ rfl b1 (.cons (.same rfl) (.cons (.same rfl) (.cons (.same rfl) .nil))) rfl) rfl ?_) | (refine zv 71 ?_; refine zb rfl (zQ rfl b2 (.cons (.same rfl) (.cons (.same rfl) (.cons (.same rfl) .nil))) rfl) rfl ?_) | (refine zw 71 rfl ?_; refine zU rfl (by kernel_rfl) rfl (zQ rfl b2 (.cons (.same rfl) (.cons (.same rfl) (.cons (.same rfl) .nil))) rfl) rfl ?_) | (refine yB (x := .tmp 193) ?_; refine zb rfl (z5 (t := rwT) (xs := [r]) (z := r) rfl rfl rfl rfl (Int.le_refl 0) hz1) rfl ?_) | (refine yA (x := .tmp 193) rfl ?_; refine zU rfl (by kernel_rfl) rfl (z5 (t := rwT) (xs := [r]) (z := r) rfl rfl rfl rfl (Int.le_refl 0) hz1) rfl ?_) | (refine yB (x := .tmp 201) ?_; refine zb rfl (z5 (t := rwT) (xs := [r]) (z := r) rfl rfl rfl rfl (Int.le_refl 0) hz1) rfl ?_) | (refine yA (x := .tmp 201) rfl ?_; refine zU rfl (by kernel_rfl) rfl (z5 (t := rwT) (xs := [r]) (z := r) rfl rfl rfl rfl (Int.le_refl 0) hz1) rfl ?_) | (refine zv 67 ?_; refine zb rfl (zQ rfl (wG r) (.cons (.same rfl) .nil) rfl) rfl ?_) | (refine zw 67 rfl ?_; refine zU rfl (by kernel_rfl) rfl (zQ rfl (wG r) (.cons (.same rfl) .nil) rfl) rfl ?_) | (refine isL ?_; refine vR rfl (by kernel_rfl) rfl rfl ?_) | refine zD ?_ | refine zB _ rfl (by kernel_rfl) ?_ | refine zX rfl ?_ | refine zY rfl ?_ | refine zC ?_ | with_reducible refine zN ?_ | refine zH ?_ | refine zI ?_ | (with_reducible first | refine zL ?_ | refine zM ?_ | refine zE ?_ | refine zG ?_ | refine zF ?_) | refine zO ?_
    exact xh (yW rfl rfl rfl rfl rfl) rfl rfl (zJ _ _) (by repeat' first | exact Purs.nil | refine Purs.cons ?_ ?_ | exact zt rfl | exact yP rfl rfl | exact zt (T := rwT) (x := []) rfl | exact Pur.nil | exact Pur.same rfl | exact yx (by assumption)) (by repeat' first | exact Purs.nil | refine Purs.cons ?_ ?_ | exact zt rfl | exact yP rfl rfl | exact zt (T := rwT) (x := []) rfl | exact Pur.nil | exact Pur.same rfl | exact yx (by assumption)) (.cons (.same rfl) (.cons (.same rfl) .nil))
  · rw [hq] at b1
    have hle : decide (yp q r ≤ 0) = false := decide_eq_false (h2 q hq)
    refine ya 4 27 [5, 6] Go.Proofs.Try.func14 rfl rfl rfl ?_
    simp only [Go.Proofs.Try.ntmps14, List.length_cons, List.length_nil, Nat.reduceAdd, Nat.reduceSub, List.replicate_succ, List.replicate_zero, List.cons_append, List.nil_append]
    repeat' first | (refine zk rfl (fun h => absurd (of_decide_eq_true h) (by simp only; decide)) (fun _ => ?_)) | (refine zk rfl (fun _ => ?_) (fun h => absurd (of_decide_eq_false h) (by simp only; decide))) | (refine isA ?_; refine zb rfl (yO rfl rfl rfl rfl rfl) rfl ?_) | (refine zP (id := 30) [6, 8] ?_) | (refine zP (id := 31) [8] ?_) | (refine tm rfl ?_; refine zU rfl (by kernel_rfl) rfl (yO rfl rfl rfl rfl rfl) rfl ?_) | (refine xH rfl ?_; refine tl rfl (by kernel_rfl) rfl (yV (t := rwT) (xs := out) (ys := [r]) rfl rfl rfl rfl (.lst _ _) (by simp; omega) rfl) rfl ?_) | refine zK ?_ | refine zA ?_ | refine zP [] ?_ | (refine isA ?_; refine zg rfl ?_) | (refine isL ?_; refine zW rfl (by kernel_rfl) rfl rfl ?_) | (refine zd rfl ?_; refine zV rfl (by kernel_rfl) rfl rfl ?_) | (refine zv 65 ?_; refine zb rfl (yC (r' := .agg (soP 2 ⟨inp, pos, heap, dfr, out, a :: b :: rest, i, k, 2, wr⟩)) (H' := bxS (soE ⟨inp, pos, heap, dfr, out, a :: b :: rest, i, k, 2, wr⟩) :: bxS zS :: soW ⟨inp, pos, heap, dfr, out, a :: b :: rest, i, k, 2, wr⟩) rfl ac (.cons (.same rfl) .nil) rfl (by simp only [List.map_cons, List.map_nil, shR, yH _ (yU (zJ _ _))]; rfl)) rfl ?_) | (refine zw 65 rfl ?_; refine zU rfl (by kernel_rfl) rfl (yC (r' := .agg (soP 2 ⟨inp, pos, heap, dfr, out, a :: b :: rest, i, k, 2, wr⟩)) (H' := bxS (soE ⟨inp, pos, heap, dfr, out, a :: b :: rest, i, k, 2, wr⟩) :: bxS zS :: soW ⟨inp, pos, heap, dfr, out, a :: b :: rest, i, k, 2, wr⟩) rfl ac (.cons (.same rfl) .nil) rfl (by simp only [List.map_cons, List.map_nil, shR, yH _ (yU (zJ _ _))]; rfl)) rfl ?_) | (refine zv 18 ?_; refine zb rfl (zQ rfl a1 (.cons (.same rfl) .nil) rfl) rfl ?_) | (refine zw 18 rfl ?_; refine zU rfl (by kernel_rfl) rfl (zQ rfl a1 (.cons (.same rfl) .nil) rfl) rfl ?_) | (refine zv 66 ?_; refine zb rfl (zQ rfl a2 (.cons (.same rfl) (.cons (.same rfl) (.cons (.same rfl) .nil))) rfl) rfl ?_) | (refine zw 66 rfl ?_; refine zU rfl (by kernel_rfl) rfl (zQ rfl a2 (.cons (.same rfl) (.cons (.same rfl) (.cons (.same rfl) .nil))) rfl) rfl ?_) | (refine zv 71 (x := #[.tmp 124, .tmp 126]) ?_; refine zb rfl (zQ rfl b1 (.cons (.same rfl) (.cons (.same rfl) (.cons (.same rfl) .nil))) rfl) rfl ?_) | (refine zw 71 (x := #[.tmp 124, .tmp 126]) rfl ?_; refine zU rfl (by kernel_rfl) rfl (zQ rfl b1 (.cons (.same rfl) (.cons (.same rfl) (.cons (.same rfl) .nil))) rfl) rfl ?_) | (refine zv 71 ?_; refine zb rfl (zQ rfl b1 (.cons (.same rfl) (.cons (.same rfl) (.cons (.same rfl) .nil))) rfl) rfl ?_) | (refine zw 71 rfl ?_; refine zU rfl (by kernel_rfl) rfl (zQ rfl b1 (.cons (.same rfl) (.cons (.same rfl) (.cons (.same rfl) .nil))) rfl) rfl ?_) | (refine zv 71 ?_; refine zb rfl (zQ rfl b2 (.cons (.same rfl) (.cons (.same rfl) (.cons (.same rfl) .nil))) rfl) rfl ?_) | (refine zw 71 rfl ?_; refine zU rfl (by kernel_rfl) rfl (zQ rfl b2 (.cons (.same rfl) (.cons (.same rfl) (.cons (.same rfl) .nil))) rfl) rfl ?_) | (refine yB (x := .tmp 161) ?_; refine zb rfl (z5 (t := rwT) (xs := [q]) (z := q) rfl rfl rfl rfl (Int.le_refl 0) rfl) rfl ?_) | (refine yA (x := .tmp 161) rfl ?_; refine zU rfl (by kernel_rfl) rfl (z5 (t := rwT) (xs := [q]) (z := q) rfl rfl rfl rfl (Int.le_refl 0) rfl) rfl ?_) | (refine yB (x := .tmp 164) ?_; refine zb rfl (z5 (t := rwT) (xs := [r]) (z := r) rfl rfl rfl rfl (Int.le_refl 0) rfl) rfl ?_) | (refine yA (x := .tmp 164) rfl ?_; refine zU rfl (by kernel_rfl) rfl (z5 (t := rwT) (xs := [r]) (z := r) rfl rfl rfl rfl (Int.le_refl 0) rfl) rfl ?_) | (refine zv 68 ?_; refine zb rfl (zQ rfl (xt q r) (.cons (.same rfl) (.cons (.same rfl) .nil)) rfl) rfl ?_) | (refine zw 68 rfl ?_; refine zU rfl (by kernel_rfl) rfl (zQ rfl (xt q r) (.cons (.same rfl) (.cons (.same rfl) .nil)) rfl) rfl ?_) | (refine yB (x := .tmp 193) ?_; refine zb rfl (z5 (t := rwT) (xs := [r]) (z := r) rfl rfl rfl rfl (Int.le_refl 0) hz1) rfl ?_) | (refine yA (x := .tmp 193) rfl ?_; refine zU rfl (by kernel_rfl) rfl (z5 (t := rwT) (xs := [r]) (z := r) rfl rfl rfl rfl (Int.le_refl 0) hz1) rfl ?_) | (refine yB (x := .tmp 201) ?_; refine zb rfl (z5 (t := rwT) (xs := [r]) (z := r) rfl rfl rfl rfl (Int.le_refl 0) hz1) rfl ?_) | (refine yA (x := .tmp 201) rfl ?_; refine zU rfl (by kernel_rfl) rfl (z5 (t := rwT) (xs := [r]) (z := r) rfl rfl rfl rfl (Int.le_refl 0) hz1) rfl ?_) | (refine zv 67 ?_; refine zb rfl (zQ rfl (wG r) (.cons (.same rfl) .nil) rfl) rfl ?_) | (refine zw 67 rfl ?_; refine zU rfl (by kernel_rfl) rfl (zQ rfl (wG r) (.cons (.same rfl) .nil) rfl) rfl ?_) | (refine isL ?_; refine vR rfl (by kernel_rfl) rfl rfl ?_) | refine zD ?_ | refine zB _ rfl (by kernel_rfl) ?_ | refine zX rfl ?_ | refine zY rfl ?_ | refine zC ?_ | with_reducible refine zN ?_ | refine zH ?_ | refine zI ?_ | (with_reducible first | refine zL ?_ | refine zM ?_ | refine zE ?_ | refine zG ?_ | refine zF ?_) | refine zO ?_
    refine zk rfl (fun h => absurd (hle.symm.trans h) (by decide)) (fun _ => ?_)
    repeat' first | (refine isA ?_; refine zb rfl (yO rfl rfl rfl rfl rfl) rfl ?_) | (refine zP (id := 30) [6, 8] ?_) | (refine zP (id := 31) [8] ?_) | (refine tm rfl ?_; refine zU rfl (by kernel_rfl) rfl (yO rfl rfl rfl rfl rfl) rfl ?_) | (refine xH rfl ?_; refine tl rfl (by kernel_rfl) rfl (yV (t := rwT) (xs := out) (ys := [r]) rfl rfl rfl rfl (.lst _ _) (by simp; omega) rfl) rfl ?_) | refine zK ?_ | refine zA ?_ | refine zP [] ?_ | (refine isA ?_; refine zg rfl ?_) | (refine isL ?_; refine zW rfl (by kernel_rfl) rfl rfl ?_) | (refine zd rfl ?_; refine zV rfl (by kernel_rfl) rfl rfl ?_) | (refine yB (x := .tmp 193) ?_; refine zb rfl (z5 (t := rwT) (xs := [r]) (z := r) rfl rfl rfl rfl (Int.le_refl 0) hz1) rfl ?_) | (refine yA (x := .tmp 193) rfl ?_; refine zU rfl (by kernel_rfl) rfl (z5 (t := rwT) (xs := [r]) (z := r) rfl rfl rfl rfl (Int.le_refl 0) hz1) rfl ?_) | (refine yB (x := .tmp 201) ?_; refine zb rfl (z5 (t := rwT) (xs := [r]) (z := r) rfl rfl rfl rfl (Int.le_refl 0) hz1) rfl ?_) | (refine yA (x := .tmp 201) rfl ?_; refine zU rfl (by kernel_rfl) rfl (z5 (t := rwT) (xs := [r]) (z := r) rfl rfl rfl rfl (Int.le_refl 0) hz1) rfl ?_) | (refine zv 67 ?_; refine zb rfl (zQ rfl (wG r) (.cons (.same rfl) .nil) rfl) rfl ?_) | (refine zw 67 rfl ?_; refine zU rfl (by kernel_rfl) rfl (zQ rfl (wG r) (.cons (.same rfl) .nil) rfl) rfl ?_) | (refine isL ?_; refine vR rfl (by kernel_rfl) rfl rfl ?_) | refine zD ?_ | refine zB _ rfl (by kernel_rfl) ?_ | refine zX rfl ?_ | refine zY rfl ?_ | refine zC ?_ | with_reducible refine zN ?_ | refine zH ?_ | refine zI ?_ | (with_reducible first | refine zL ?_ | refine zM ?_ | refine zE ?_ | refine zG ?_ | refine zF ?_) | refine zO ?_
    exact xh (yW rfl rfl rfl rfl rfl) rfl rfl (zJ _ _) (by repeat' first | exact Purs.nil | refine Purs.cons ?_ ?_ | exact zt rfl | exact yP rfl rfl | exact zt (T := rwT) (x := []) rfl | exact Pur.nil | exact Pur.same rfl | exact yx (by assumption)) (by repeat' first | exact Purs.nil | refine Purs.cons ?_ ?_ | exact zt rfl | exact yP rfl rfl | exact zt (T := rwT) (x := []) rfl | exact Pur.nil | exact Pur.same rfl | exact yx (by assumption)) (.cons (.same rfl) (.cons (.same rfl) .nil))
end Go.Proofs.Ytojcojanokhnaaa.Ab
namespace Go.Proofs.Ytojcojanokhnaaa.Ab
open Go.RowKit
theorem dO (inp heap dfr out : List Rw) (pos wr rp g : Int) (a : Rn) (i : Nat) (r : Rw) (hok : okSo ⟨inp, pos, heap, dfr, out, [a], i, rp, 3, wr⟩) (hv : vS ⟨inp, pos, heap, dfr, out, [a], i, rp, 3, wr⟩ = true) (hg : inV g 8 60 = true) (h1 : a[i]? = some r) :
    zz Go.Proofs.Try.prog 14 [.agg (soE ⟨inp, pos, heap, dfr, out, [a], i, rp, 3, wr⟩), I g] [] (.tup [.agg (soH (wF ⟨inp, pos, heap, dfr, out, [a], i, rp, 3, wr⟩)), rwL [r], B true]) [rwR (wF ⟨inp, pos, heap, dfr, out, [a], i, rp, 3, wr⟩).heap] true := by
  have g4 := hok.out
  have g6 := hok.tot
  simp only [tot, List.map_cons, List.sum_cons] at g4 g6
  have hlt := (List.getElem?_eq_some_iff.1 h1).1
  have ew : IntKind.i64.wrap ((i : Int) + 1) = (i : Int) + 1 := by rw [IntKind.wrap_i64]; omega
  have ac := xm _ hok
  have a1 := uB _ hok
  rw [hv] at a1
  have a2 := uC g 8 60
  rw [hg] at a2
  have hz0 : ([a] : List Rn)[0]? = some a := rfl
  refine ya 4 27 [5, 6] Go.Proofs.Try.func14 rfl rfl rfl ?_
  simp only [Go.Proofs.Try.ntmps14, List.length_cons, List.length_nil, Nat.reduceAdd, Nat.reduceSub, List.replicate_succ, List.replicate_zero, List.cons_append, List.nil_append]
  repeat' first | (refine zk rfl (fun h => absurd (of_decide_eq_true h) (by simp only; decide)) (fun _ => ?_)) | refine zK ?_ | refine zA ?_ | refine zP [] ?_ | (refine isA ?_; refine zg rfl ?_) | (refine isL ?_; refine zW rfl (by kernel_rfl) rfl rfl ?_) | (refine zd rfl ?_; refine zV rfl (by kernel_rfl) rfl rfl ?_) | (refine zv 65 ?_; refine zb rfl (yC (r' := .agg (soP 2 ⟨inp, pos, heap, dfr, out, [a], i, rp, 3, wr⟩)) (H' := bxS (soE ⟨inp, pos, heap, dfr, out, [a], i, rp, 3, wr⟩) :: bxS zS :: soW ⟨inp, pos, heap, dfr, out, [a], i, rp, 3, wr⟩) rfl ac (.cons (.same rfl) .nil) rfl (by simp only [List.map_cons, List.map_nil, shR, yH _ (yU (zJ _ _))]; rfl)) rfl ?_) | (refine zw 65 rfl ?_; refine zU rfl (by kernel_rfl) rfl (yC (r' := .agg (soP 2 ⟨inp, pos, heap, dfr, out, [a], i, rp, 3, wr⟩)) (H' := bxS (soE ⟨inp, pos, heap, dfr, out, [a], i, rp, 3, wr⟩) :: bxS zS :: soW ⟨inp, pos, heap, dfr, out, [a], i, rp, 3, wr⟩) rfl ac (.cons (.same rfl) .nil) rfl (by simp only [List.map_cons, List.map_nil, shR, yH _ (yU (zJ _ _))]; rfl)) rfl ?_) | (refine zv 18 ?_; refine zb rfl (zQ rfl a1 (.cons (.same rfl) .nil) rfl) rfl ?_) | (refine zw 18 rfl ?_; refine zU rfl (by kernel_rfl) rfl (zQ rfl a1 (.cons (.same rfl) .nil) rfl) rfl ?_) | (refine zv 66 ?_; refine zb rfl (zQ rfl a2 (.cons (.same rfl) (.cons (.same rfl) (.cons (.same rfl) .nil))) rfl) rfl ?_) | (refine zw 66 rfl ?_; refine zU rfl (by kernel_rfl) rfl (zQ rfl a2 (.cons (.same rfl) (.cons (.same rfl) (.cons (.same rfl) .nil))) rfl) rfl ?_) | refine zD ?_ | refine zB _ rfl (by kernel_rfl) ?_ | refine zX rfl ?_ | refine zY rfl ?_ | refine zC ?_ | with_reducible refine zN ?_ | refine zH ?_ | refine zI ?_ | (with_reducible first | refine zL ?_ | refine zM ?_ | refine zE ?_ | refine zG ?_ | refine zF ?_) | refine zO ?_
  refine zk rfl (fun h => ?_) (fun h => ?_)
  · have e : wF ⟨inp, pos, heap, dfr, out, [a], (i : Int), rp, 3, wr⟩ = ⟨inp, pos, heap, dfr, out, [a], (i : Int) + 1, rp, 4, wr⟩ := by
      have h' : decide ((i : Int) + 1 = (inp.length : Int)) = true := by rw [← ew]; exact h
      simp only [wF, h', cond_true]
    rw [e]
    repeat' first | refine zK ?_ | refine zA ?_ | (refine isA ?_; refine zg rfl ?_) | (refine isL ?_; refine zW rfl (by kernel_rfl) rfl rfl ?_) | (refine zd rfl ?_; refine zV rfl (by kernel_rfl) rfl rfl ?_) | refine zD ?_ | refine zB _ rfl (by kernel_rfl) ?_ | refine zX rfl ?_ | refine zY rfl ?_ | refine zC ?_ | with_reducible refine zN ?_ | refine zH ?_ | refine zI ?_ | (with_reducible first | refine zL ?_ | refine zM ?_ | refine zE ?_ | refine zG ?_ | refine zF ?_) | refine zO ?_
    refine nI 0 7 14 rfl ?_
    refine xA 0 ⟨rfl, rfl⟩ rfl (by kernel_rfl) rfl (fun H hG => ki rfl rfl (hG.2.trans rfl) rfl rfl rfl) rfl ?_
    refine yY 1 ⟨rfl, rfl⟩ rfl (by kernel_rfl) rfl (fun _ => rfl) rfl ?_
    refine xA 2 ⟨rfl, rfl⟩ rfl (by kernel_rfl) rfl (fun H hG => xo rfl rfl (hG.1.trans rfl) rfl rfl) rfl ?_
    refine xA 3 ⟨rfl, rfl⟩ rfl (by kernel_rfl) rfl (fun H hG => z5 (t := rnT) (xs := [a]) (z := a) rfl rfl rfl rfl (Int.le_refl 0) hz0) rfl ?_
    refine yY 4 ⟨rfl, rfl⟩ rfl (by kernel_rfl) rfl (fun _ => rfl) rfl ?_
    refine yY 5 ⟨rfl, rfl⟩ rfl (by kernel_rfl) rfl (fun _ => rfl) rfl ?_
    refine yY 6 ⟨rfl, rfl⟩ rfl (by kernel_rfl) rfl (fun _ => rfl) rfl ?_
    refine xA 7 ⟨rfl, rfl⟩ rfl (by kernel_rfl) rfl (fun H hG => xo rfl rfl (hG.1.trans rfl) rfl rfl) rfl ?_
    refine xA 8 ⟨rfl, rfl⟩ rfl (by kernel_rfl) rfl (fun H hG => z5 (t := rwT) (xs := a) (z := r) rfl rfl rfl rfl (Int.natCast_nonneg i) h1) rfl ?_
    refine yY 9 ⟨rfl, rfl⟩ rfl (by kernel_rfl) rfl (fun _ => rfl) rfl ?_
    refine xA 10 ⟨rfl, rfl⟩ rfl (by kernel_rfl) rfl (fun H hG => yO (cs := rwE r) rfl rfl rfl rfl rfl) rfl ?_
    refine wV 11 (by kernel_rfl) ?_
    refine sx rfl rfl (sG (m := 0) (T := tab) TabC.ok rfl rfl rfl rfl rfl rfl rfl rfl rfl rfl) ⟨rfl, rfl⟩ rfl ?_
    refine yY 12 ⟨rfl, rfl⟩ rfl (by kernel_rfl) rfl (fun _ => rfl) rfl ?_
    refine yY 13 ⟨rfl, rfl⟩ rfl (by kernel_rfl) rfl (fun _ => rfl) rfl ?_
    refine w6 (by kernel_rfl) ?_
    repeat' first | refine zK ?_ | refine zA ?_ | refine zP [] ?_ | (refine isA ?_; refine zg rfl ?_) | (refine isL ?_; refine zW rfl (by kernel_rfl) rfl rfl ?_) | (refine zd rfl ?_; refine zV rfl (by kernel_rfl) rfl rfl ?_) | refine zD ?_ | refine zB _ rfl (by kernel_rfl) ?_ | refine zX rfl ?_ | refine zY rfl ?_ | refine zC ?_ | with_reducible refine zN ?_ | refine zH ?_ | refine zI ?_ | (with_reducible first | refine zL ?_ | refine zM ?_ | refine zE ?_ | refine zG ?_ | refine zF ?_) | refine zO ?_
    exact xh (yW rfl rfl rfl rfl rfl) rfl rfl (zJ _ _) (by repeat' first | exact Purs.nil | refine Purs.cons ?_ ?_ | exact zt rfl | exact yP rfl rfl | exact zt (T := rwT) (x := []) rfl | exact Pur.nil | exact Pur.same rfl | exact yx (by assumption)) (by repeat' first | exact Purs.nil | refine Purs.cons ?_ ?_ | exact zt rfl | exact yP rfl rfl | exact zt (T := rwT) (x := []) rfl | exact Pur.nil | exact Pur.same rfl | exact yx (by assumption)) (.cons (.same rfl) (.cons (.same rfl) .nil))
  · have e : wF ⟨inp, pos, heap, dfr, out, [a], (i : Int), rp, 3, wr⟩ = ⟨inp, pos, heap, dfr, out, [a], (i : Int) + 1, rp, 3, wr⟩ := by
      have h' : decide ((i : Int) + 1 = (inp.length : Int)) = false := by rw [← ew]; exact h
      simp only [wF, h', cond_false]
    rw [e]
    repeat' first | refine zK ?_ | refine zA ?_ | (refine isA ?_; refine zg rfl ?_) | (refine isL ?_; refine zW rfl (by kernel_rfl) rfl rfl ?_) | (refine zd rfl ?_; refine zV rfl (by kernel_rfl) rfl rfl ?_) | refine zD ?_ | refine zB _ rfl (by kernel_rfl) ?_ | refine zX rfl ?_ | refine zY rfl ?_ | refine zC ?_ | with_reducible refine zN ?_ | refine zH ?_ | refine zI ?_ | (with_reducible first | refine zL ?_ | refine zM ?_ | refine zE ?_ | refine zG ?_ | refine zF ?_) | refine zO ?_
    refine nI 0 7 14 rfl ?_
    refine xA 0 ⟨rfl, rfl⟩ rfl (by kernel_rfl) rfl (fun H hG => ki rfl rfl (hG.2.trans rfl) rfl rfl rfl) rfl ?_
    refine yY 1 ⟨rfl, rfl⟩ rfl (by kernel_rfl) rfl (fun _ => rfl) rfl ?_
    refine xA 2 ⟨rfl, rfl⟩ rfl (by kernel_rfl) rfl (fun H hG => xo rfl rfl (hG.1.trans rfl) rfl rfl) rfl ?_
    refine xA 3 ⟨rfl, rfl⟩ rfl (by kernel_rfl) rfl (fun H hG => z5 (t := rnT) (xs := [a]) (z := a) rfl rfl rfl rfl (Int.le_refl 0) hz0) rfl ?_
    refine yY 4 ⟨rfl, rfl⟩ rfl (by kernel_rfl) rfl (fun _ => rfl) rfl ?_
    refine yY 5 ⟨rfl, rfl⟩ rfl (by kernel_rfl) rfl (fun _ => rfl) rfl ?_
    refine yY 6 ⟨rfl, rfl⟩ rfl (by kernel_rfl) rfl (fun _ => rfl) rfl ?_
    refine xA 7 ⟨rfl, rfl⟩ rfl (by kernel_rfl) rfl (fun H hG => xo rfl rfl (hG.1.trans rfl) rfl rfl) rfl ?_
    refine xA 8 ⟨rfl, rfl⟩ rfl (by kernel_rfl) rfl (fun H hG => z5 (t := rwT) (xs := a) (z := r) rfl rfl rfl rfl (Int.natCast_nonneg i) h1) rfl ?_
    refine yY 9 ⟨rfl, rfl⟩ rfl (by kernel_rfl) rfl (fun _ => rfl) rfl ?_
    refine xA 10 ⟨rfl, rfl⟩ rfl (by kernel_rfl) rfl (fun H hG => yO (cs := rwE r) rfl rfl rfl rfl rfl) rfl ?_
    refine wV 11 (by kernel_rfl) ?_
    refine sx rfl rfl (sG (m := 0) (T := tab) TabC.ok rfl rfl rfl rfl rfl rfl rfl rfl rfl rfl) ⟨rfl, rfl⟩ rfl ?_
    refine yY 12 ⟨rfl, rfl⟩ rfl (by kernel_rfl) rfl (fun _ => rfl) rfl ?_
    refine yY 13 ⟨rfl, rfl⟩ rfl (by kernel_rfl) rfl (fun _ => rfl) rfl ?_
    refine w6 (by kernel_rfl) ?_
    repeat' first | refine zK ?_ | refine zA ?_ | refine zP [] ?_ | (refine isA ?_; refine zg rfl ?_) | (refine isL ?_; refine zW rfl (by kernel_rfl) rfl rfl ?_) | (refine zd rfl ?_; refine zV rfl (by kernel_rfl) rfl rfl ?_) | refine zD ?_ | refine zB _ rfl (by kernel_rfl) ?_ | refine zX rfl ?_ | refine zY rfl ?_ | refine zC ?_ | with_reducible refine zN ?_ | refine zH ?_ | refine zI ?_ | (with_reducible first | refine zL ?_ | refine zM ?_ | refine zE ?_ | refine zG ?_ | refine zF ?_) | refine zO ?_
    exact xh (yW rfl rfl rfl rfl rfl) rfl rfl (zJ _ _) (by repeat' first | exact Purs.nil | refine Purs.cons ?_ ?_ | exact zt rfl | exact yP rfl rfl | exact zt (T := rwT) (x := []) rfl | exact Pur.nil | exact Pur.same rfl | exact yx (by assumption)) (by repeat' first | exact Purs.nil | refine Purs.cons ?_ ?_ | exact zt rfl | exact yP rfl rfl | exact zt (T := rwT) (x := []) rfl | exact Pur.nil | exact Pur.same rfl | exact yx (by assumption)) (.cons (.same rfl) (.cons (.same rfl) .nil))
end Go.Proofs.Ytojcojanokhnaaa.Ab
namespace Go.Proofs.Ytojcojanokhnaaa.Ab
open Go.RowKit
section
variable {P : Program} {md : Region.Mode} {ops : Array Oper} {s : Nat} {G : List Reg → Prop} {Q : Exit → St → Prop}
theorem pK {i : Nat} {oi : Oper} {v : V} (hi : ops[i]? = some oi) (hne : i ≠ s) (fu : Nat) (hed : Region.reachB md ops i fu s = true) :
    ∀ (n : Nat) (listed : Array Bool) (S : St), G S.H → listed.getD s true = false → y7 md ops listed →
      (∀ j oj, ops[j]? = some oj → j ≠ i → listed.getD j true = false → (∀ e ∈ oj.after, Region.binds md e = true → e.on ≠ i) → oi.apart ops oj = true) →
      i ∈ Region.ready md ops listed → vH P ops G oi v S →
      uE P md ops s G Q n (listed.setIfInBounds i true) (S.put oi.dst v S.H) → uE P md ops s G Q (n + 1) listed S := by
  intro n
  induction n with
  | zero =>
    intro listed S hG hB hC _ hr hy H
    refine ⟨fun h => (by rw [h] at hr; cases hr), fun j hj => ?_⟩
    by_cases hji : j = i
    · subst hji
      unfold tJ
      rw [hi]
      rcases hy with ⟨h1, h2⟩ | ⟨h1, rfl⟩
      · exact Or.inl ⟨h1, _, .of (h2 _ hG), fun v1 H1 hp hb => by obtain ⟨_, rfl⟩ := hp; exact hG, fun v1 H1 hp => by obtain ⟨rfl, rfl⟩ := hp; exact H⟩
      · exact Or.inr ⟨h1, H⟩
    · have := ready_mono hj hji
      rw [H.1] at this
      cases this
  | succ n ih =>
    intro listed S hG hB hC hfree hr hy H
    refine ⟨fun h => (by rw [h] at hr; cases hr), fun j hj => ?_⟩
    by_cases hji : j = i
    · subst hji
      unfold tJ
      rw [hi]
      rcases hy with ⟨h1, h2⟩ | ⟨h1, rfl⟩
      · exact Or.inl ⟨h1, _, .of (h2 _ hG), fun v1 H1 hp hb => by obtain ⟨_, rfl⟩ := hp; exact hG, fun v1 H1 hp => by obtain ⟨rfl, rfl⟩ := hp; exact H⟩
      · exact Or.inr ⟨h1, H⟩
    · have h1 := H.2 j (ready_mono hj hji)
      obtain ⟨hjun, oj, hoj, hall⟩ := mem_ready.1 hj
      have hiun := (mem_ready.1 hr).1
      have hnot : ∀ e ∈ oj.after, Region.binds md e = true → e.on ≠ i := fun e he hb heq => by
        have h1 := hall e he hb
        rw [heq] at h1
        rcases Nat.lt_or_ge i listed.size with h' | h'
        · simp [h'] at hiun h1; rw [hiun] at h1; cases h1
        · simp [Array.getElem?_eq_none h'] at h1
      have hjs : j ≠ s := fun hjs => by
        subst hjs
        exact Region.reach_not_ready hC hed hiun hj
      have hfree' : ∀ k ok, ops[k]? = some ok → k ≠ i → (listed.setIfInBounds j true).getD k true = false →
          (∀ e ∈ ok.after, Region.binds md e = true → e.on ≠ i) → oi.apart ops ok = true := fun k ok hk hki hun hno => by
        refine hfree k ok hk hki ?_ hno
        by_cases hjk : j = k
        · subst hjk; exact hjun
        · rw [getD_set_ne true hjk] at hun; exact hun
      have hb2 : ((listed.setIfInBounds i true).setIfInBounds j true).getD s true = (listed.setIfInBounds j true).getD s true := by
        rw [Array.setIfInBounds_comm _ _ (Ne.symm hji), xP hne]
      have hBj : (listed.setIfInBounds j true).getD s true = false := by rw [xP hjs]; exact hB
      obtain ⟨p1, p2, p3⟩ := Oper.apart_spec (hfree j oj hoj hji hjun hnot)
      have key : ∀ (u : V) (H' : List Reg), G H' → uE P md ops s G Q n ((listed.setIfInBounds j true).setIfInBounds i true) ((S.put oj.dst u H').put oi.dst v H') → uE P md ops s G Q (n + 1) (listed.setIfInBounds j true) (S.put oj.dst u H') := fun u H' hGH hk => by
        refine ih (listed.setIfInBounds j true) (S.put oj.dst u H') (by rw [wB]; exact hGH) hBj (hC.set hj) hfree' (ready_mono hr (Ne.symm hji)) (hy.keep p3) ?_
        rw [wB]
        exact hk
      unfold tJ at h1 ⊢
      rw [hoj] at h1 ⊢
      simp only at h1 ⊢
      rw [w4 p1, wB] at h1
      rcases h1 with ⟨hw, post, hs, hH, hk⟩ | ⟨hw, hk⟩
      · rw [hb2] at hH
        refine Or.inl ⟨hw, post, hs.congr (fun x hx => (xe p1 x hx).symm), hH, fun u H' hp => key u H' (hH u H' hp hBj) ?_⟩
        rw [Array.setIfInBounds_comm _ _ hji, ← wj v u S.H H' p2]
        exact hk u H' hp
      · refine Or.inr ⟨hw, key (.k undef) S.H hG ?_⟩
        rw [Array.setIfInBounds_comm _ _ hji, ← wj v (.k undef) S.H S.H p2]
        exact hk
end
section
variable {P : Program} {T : Tab} {ops : Array Oper} {s : Nat} {G : List Reg → Prop} {Q : Exit → St → Prop} {l l' : List V} {H H' K : List Reg} {m : Nat} {o : Oper} {d : List Nat} {n : Nat}
def e8 (ops : Array Oper) (d : List Nat) (s i : Nat) : Bool := !((mkL ops.size d).getD s true) && Region.reachB .any ops i ops.size s && Region.closedB .any ops (mkL ops.size d) && !(i == s)
theorem sW (i : Nat) {v : V} (hG : G H) (he : e8 ops d s i = true) (ho : ops[i]? = some o) (hc : ux ops d i = true) (hw : yc ops ⟨l, H, m⟩ o = some true) (hs : ∀ H, G H → z9 P o (St.ev ⟨l, H, m⟩) H v H) (hp : vC l H o.dst v = some (l', K)) (hk : APerS P ops s G (i :: d) n Q ⟨l', K, m⟩) : APerS P ops s G d (n + 1) Q ⟨l, H, m⟩ := by
  simp only [ux, Bool.and_eq_true] at hc
  simp only [e8, Bool.and_eq_true, Bool.not_eq_true'] at he
  obtain ⟨⟨⟨e1, e2⟩, e3⟩, e4⟩ := he
  refine ⟨pK ho (by simpa using e4) _ e2 n _ _ hG e1 (Region.closedB_spec e3) (Region.free_spec ho hc.1) (by simpa using hc.2) (Or.inl ⟨hw, hs⟩) ?_⟩
  rw [show (⟨l, H, m⟩ : St).put o.dst v (⟨l, H, m⟩ : St).H = ⟨l', K, m⟩ from yw hp m]
  exact hk.out
end
end Go.Proofs.Ytojcojanokhnaaa.Ab
namespace Go.Proofs.Ytojcojanokhnaaa.Ab
open Go.RowKit
section
variable {P : Program} {o : Oper} {ρ : Operand → V} {H : List Reg}
theorem pR {post : V → List Reg → Prop}
    (h : ∀ (C : Cx) (A : Nat → Prop) (φ : List Hd) (a : Act) (w : World), InvA C A φ H w → (∀ x ∈ o.op.operands, Rel A w φ (ρ x) (a.eval x)) →
      ∃ v H' x w' A' φ', post v H' ∧ (execOp a.eval o).run P w = .ok (.value x) w' ∧ InvA C A' φ' H' w' ∧ (∀ b, A b → A' b ∧ w'.heap[b]? = w.heap[b]?) ∧ (∀ (h : Nat) (hd : Hd), φ[h]? = some hd → φ'[h]? = some hd) ∧ Rel A' w' φ' v x) : wv P o ρ H post := by
  intro S hS hρ C φ a w hI next Q hn
  obtain ⟨hm, ⟨A, hA, hr⟩, hs, hd⟩ := hI
  subst hS
  obtain ⟨v, H', x, w', A', φ', h0, h1, h2, h3, h4, h5⟩ := h C A φ a w hA (fun y hy => by rw [← hρ y hy]; exact wo hr y)
  have h6 : zy A' w' φ' S.tmps (fun i => a.tmps[i]?) := zy.mono h3 h4 hr
  obtain ⟨h7, h8⟩ := wx (H := H') hs h6 h5 o.dst
  unfold Oper.wp
  rw [h1]
  refine hn v H' x w' φ' h0 ⟨by cases o.dst <;> exact hm, ⟨A', ?_, h7⟩, h8, by cases o.dst <;> exact hd⟩
  have : (S.put o.dst v H').H = H' := by cases o.dst <;> rfl
  rw [this]
  exact h2
theorem uP (w : World) (t ty e : TypeId) (i : TypeInfo) (ht : P.underlying t = some (.slice e)) (hi : P.info? e = some i)
    (g off sLen sCap : Nat) (cur : Array Value) (hg : w.heap[g]? = some (.cells cur e (0, 0)))
    (a : Addr) (m c : Nat) (news : List Value) (hl : news.length = m * i.size) (hnews : ∀ j u, news[j]? = some u → w.cell? (a.add j) = some u) (h1 : ∀ u ∈ news, u.oneCell' = true)
    (hroom : sLen + m ≤ sCap) (hfit : off + sLen * i.size + news.length ≤ cur.size) :
    (Builtin.append_ #[t, t] ty #[.slice (some ⟨g, off, none⟩) sLen sCap, .slice (some a) m c]).run P w =
      .ok (.slice (some ⟨g, off, none⟩) (sLen + m) sCap) (w.setRow g (cur.toList.take (off + sLen * i.size) ++ news ++ cur.toList.drop (off + sLen * i.size + news.length)).toArray) := by
  have hf := run_firstCells_some (P := P) w i.size m a m c news hl hnews
  have hst := run_storeCells_at P g (off + sLen * i.size) e news 0 cur w hg (by simpa using hfit) h1
  simp only [Nat.add_zero] at hst
  simp [Builtin.append_, run_underlying ht, sizeOf, typeInfo, hi, Builtin.lenOf, hroom, hf, Addr.add_lit, hst]
def cA (H : List Reg) (h off k m n : Nat) (e : TypeId) (r : Reg) (src : List V) (v : V) (H' : List Reg) : Prop :=
  ∃ (o' : Nat) (pre : List V), v = .sl H.length o' (k + m) ∧ pre.length = o' * n ∧ (o' = off ∨ o' = 0) ∧ H' = H.set h { r with mode := 2 } ++ [⟨e, n, pre ++ (r.cells.drop (off * n)).take (k * n) ++ src, 0⟩]
theorem qi {s x : Operand} {t ty e n b h m k off : Nat} {r : Reg} {src : List V} [ht : Sl P t e n b] (ho : o.op = .call { callee := .builtin .append, args := #[s, x], argTypes := #[t, t] })
    (hs : ρ s = .sl h off k) (hr : H[h]? = some r) (hm : r.mode = 0) (he : r.e = e) (hes : r.esz = n) (hk : (off + k) * n ≤ r.cells.length) (hx : Src H (ρ x) m src) (hsl : src.length = m * n) (hm0 : 0 < m) (h1 : ∀ c ∈ src, uS c = true)
    (hb : (k + m) * b ≤ 140737488355328) (hmax : k + m ≤ maxLen) : wv P o ρ H (cA H h off k m n e r src) := pR fun C A φ a w hA hh => by
  have hs1 := hh s (by simp [ho, Op.operands, Call.operands])
  have hx1 := hh x (by simp [ho, Op.operands, Call.operands])
  obtain ⟨ad, c, news, ex, n1, n2, n3, n4⟩ := sP hx hA.ok hx1 h1
  rw [hs, Rel] at hs1
  obtain ⟨hd, e1, hs1⟩ := hs1
  obtain ⟨⟨f1, f2, f3⟩, f4⟩ := hA.ok.regs h hd r e1 hr (by omega)
  obtain ⟨i, z, i1, i2, i3, i4, i5⟩ := ht.i
  have hpos := ht.pos
  subst he
  have hlive : ∀ g, hd.blk = some g → z4 φ H h g := fun g hg => ⟨hd, r, e1, hr, hm, hg⟩
  have hK := hA.kill hr
  have hklen : (H.set h { r with mode := 2 }).length = H.length := by simp
  have hsmall : k + m ≤ 9223372036854775807 := by simp only [maxLen] at hmax; omega
  have hnl : news.length = m * n := n1.trans hsl
  have hzs : z.cells.size = n := i5
  have hmn : 0 < m * n := Nat.mul_pos hm0 hpos
  obtain ⟨ad', rfl, n5⟩ : ∃ ad', ad = some ad' ∧ ∀ j u, news[j]? = some u → w.cell? (ad'.add j) = some u := by
    rcases n4 with n4 | n4
    · rw [n4] at hsl; simp at hsl; omega
    · exact n4
  have hkn : (off + k) * n = off * n + k * n := Nat.add_mul ..
  have hpl : ((r.cells.drop (off * n)).take (k * n)).length = k * n := by simp only [List.length_take, List.length_drop]; omega
  have hop : ∀ (v : Value) (w' : World), (Builtin.append_ #[t, t] o.type #[a.eval s, a.eval x]).run P w = .ok v w' → (execOp a.eval o).run P w = .ok (.value v) w' := fun v w' hv => by
    simp only [execOp, ho, resolve, Sem.run_bind]
    simp [invoke, builtin, hv]
  have hnew : ∀ (olds : List Value) (cap : Nat), olds.length = k * n → zy A w φ ((r.cells.drop (off * n)).take (k * n)) (fun i => olds[i]?) → k + m ≤ cap → cap ≤ maxLen →
      (Builtin.append_ #[t, t] o.type #[a.eval s, a.eval x]).run P w = .ok (.slice (some ⟨w.heap.size, 0, none⟩) (k + m) cap) ((w.drewN 1).alloc (.cells (olds.toArray ++ news.toArray ++ Builtin.zeroCells z.cells (cap - (k + m))) r.e)) →
      ∃ v H' x w' A' φ', cA H h off k m n r.e r src v H' ∧ (execOp a.eval o).run P w = .ok (.value x) w' ∧ InvA C A' φ' H' w' ∧ (∀ b, A b → A' b ∧ w'.heap[b]? = w.heap[b]?) ∧ (∀ (h : Nat) (hd : Hd), φ[h]? = some hd → φ'[h]? = some hd) ∧ Rel A' w' φ' v x := fun olds cap ol or hc1 hc2 hrun => by
    have hsz : (olds.toArray ++ news.toArray ++ Builtin.zeroCells z.cells (cap - (k + m))).size = cap * n := by
      simp only [Array.size_append, List.size_toArray, size_zeroCells, hzs, ol, hnl, ← Nat.add_mul]
      congr 1
      omega
    have hcl : ((r.cells.drop (off * n)).take (k * n) ++ src).length = (k + m) * n := by rw [List.length_append, hpl, hsl, Nat.add_mul]
    refine ⟨_, _, _, _, A, φ ++ [⟨some w.heap.size, cap, n, r.e⟩], ⟨0, [], rfl, by simp, Or.inr rfl, rfl⟩, hop _ _ hrun, w9 hK hsz hc2 (by rw [hcl, hsz]; exact Nat.mul_le_mul_right _ hc1) (sZ n3 n1 _ _ or (by rw [ol, hpl]) _) 1, wY hA _ 1, fun h hd hh => za hh, ?_⟩
    have := uy (H := H.set h { r with mode := 2 }) hK (hd := ⟨some w.heap.size, cap, n, r.e⟩) rfl hc1 ((w.drewN 1).alloc (.cells (olds.toArray ++ news.toArray ++ Builtin.zeroCells z.cells (cap - (k + m))) r.e))
    rw [hklen] at this
    exact this
  have hempty : ∀ base : Option Addr, k = 0 → a.eval s = .slice base 0 0 → ∃ v H' x w' A' φ', cA H h off k m n r.e r src v H' ∧ (execOp a.eval o).run P w = .ok (.value x) w' ∧ InvA C A' φ' H' w' ∧ (∀ b, A b → A' b ∧ w'.heap[b]? = w.heap[b]?) ∧ (∀ (h : Nat) (hd : Hd), φ[h]? = some hd → φ'[h]? = some hd) ∧ Rel A' w' φ' v x := fun base hk0 e2' => by
    subst hk0
    cases base with
    | none =>
      have hrun := run_append_nil (P := P) w t o.type r.e i z ht.u i1 i4 ad' m c news (by rw [hnl, i2]) n5 (by omega) (by omega) (by rw [i3]; simp only [Nat.zero_add] at hb; omega)
      refine hnew [] (grownCap w m 0 r.e) (by simp) (by simp [zy]) (by simpa using grownCap_ge w m 0 r.e) (grownCap_le_maxLen w m 0 r.e (by omega)) ?_
      rw [e2', ex, hrun]
      simp [World.drewN_drew, World.drew_is_drewN]
    | some bs =>
      have hrun := run_append_grow (P := P) w t o.type r.e i z ht.u i1 i4 bs 0 0 [] (by simp) (fun j u hu => by simp at hu) ad' m c news (by rw [hnl, i2]) n5 (by omega) (by omega) (growslice_fits (by omega) (by rw [i3]; exact hb))
      refine hnew [] (grownCap w (0 + m) 0 r.e) (by simp) (by simp [zy]) (grownCap_ge w (0 + m) 0 r.e) (grownCap_le_maxLen w (0 + m) 0 r.e hmax) ?_
      rw [e2', ex, hrun]
      simp [World.drewN_drew, World.drew_is_drewN]
  rcases hs1 with ⟨e2, e3⟩ | ⟨p1, p2, base, e2⟩
  rotate_left
  · subst p2
    exact hempty base rfl e2
  cases hblk : hd.blk with
  | none =>
    rw [hblk] at f4 e2
    obtain ⟨g1, g2⟩ := f4
    exact hempty none (by omega) (by rw [e2, g2, show k = 0 by omega, Nat.zero_sub]; rfl)
  | some g =>
    rw [hblk] at f4 e2
    obtain ⟨cur, g1, g2, g3, g4⟩ := f4
    have hesz : hd.esz = n := f1.trans hes
    rw [hesz] at g2 e2
    have e2' : a.eval s = .slice (some ⟨g, off * n, none⟩) k (hd.cap - off) := by rw [e2]; simp
    have hlg := hlive g hblk
    have hfree : ∀ h', ¬ z4 φ (H.set h { r with mode := 2 }) h' g := fun h' ⟨hd', r', q1, q2, q3, q4⟩ => by
      rcases getElem?_set' q2 with ⟨_, rfl⟩ | ⟨hne, q2⟩
      · cases q3
      · exact hne (hA.ok.inj _ _ _ ⟨hd', r', q1, q2, q3, q4⟩ hlg)
    have hpre : zy A w φ (r.cells.take (off * n)) (fun i => cur[i]?) := yu g4 _
    have hmid : zy A w φ ((r.cells.drop (off * n)).take (k * n)) (fun i => cur[off * n + i]?) := yu (yv g4 _) _
    have hpre2 : (r.cells.take (off * n)).length = off * n := by simp only [List.length_take]; omega
    by_cases hroom : k + m ≤ hd.cap - off
    · have hcap : (off + (k + m)) * n ≤ hd.cap * n := Nat.mul_le_mul_right _ (by omega)
      have hcapn : (off + (k + m)) * n = off * n + k * n + m * n := by rw [Nat.add_mul, Nat.add_mul]; omega
      have hfit : off * n + k * i.size + news.length ≤ cur.size := by rw [i2, hnl, g2]; omega
      have hrun := uP (P := P) w t o.type r.e i ht.u i1 g (off * n) k (hd.cap - off) cur (by rw [g1, f2]) ad' m c news (by rw [hnl, i2]) n5 n2 hroom hfit
      rw [← e2', ← ex] at hrun
      rw [i2] at hfit hrun
      refine ⟨_, _, _, _, A, φ ++ [⟨some g, hd.cap, n, r.e⟩], ⟨off, r.cells.take (off * n), rfl, hpre2, Or.inl rfl, rfl⟩, hop _ _ hrun, hK.add hfree (hA.ok.apart h g hlg) (fun i _ hi => setRow_other w g i _ hi) (by simp) (hA.own h g hlg) rfl rfl rfl (setRow_heap w g cur _ r.e (0, 0) (by rw [g1, f2])) ?_ f3 ?_ ?_,
        fun b' hb' => ⟨hb', setRow_other w g b' _ fun e => hA.ok.apart h g hlg (e ▸ hb')⟩, fun h hd hh => za hh, ?_⟩
      · rw [← g2]
        simp only [List.size_toArray, List.length_append, List.length_take, List.length_drop, Array.length_toList]
        omega
      · simp only [List.length_append, hpl, hpre2, hsl, List.size_toArray, List.length_take, List.length_drop, Array.length_toList]
        omega
      · refine yg (yg (yM hpre fun j hj => ?_) (yM hmid fun j hj => ?_)) (yM n3 fun j hj => ?_)
        · rw [hpre2] at hj
          simp only [List.getElem?_toArray]
          rw [List.append_assoc, List.getElem?_append_left (by simp; omega), List.getElem?_take, if_pos (by omega), Array.getElem?_toList]
        · rw [hpl] at hj
          simp only [List.getElem?_toArray]
          rw [hpre2, List.append_assoc, List.getElem?_append_left (by simp; omega), List.getElem?_take, if_pos (by omega), Array.getElem?_toList]
        · rw [hsl] at hj
          simp only [List.getElem?_toArray]
          rw [List.length_append, hpre2, hpl, List.append_assoc, List.getElem?_append_right (by simp; omega), List.getElem?_append_left (by simp; omega)]
          congr 1
          simp
          omega
      · rw [Rel]
        refine ⟨⟨some g, hd.cap, n, r.e⟩, ?_, Or.inl ⟨rfl, by simp only; omega⟩⟩
        rw [← hA.ok.len]
        simp
    · have holds : ∀ j u, ((cur.toList.drop (off * n)).take (k * n))[j]? = some u → w.cell? ((⟨g, off * n, none⟩ : Addr).add j) = some u := fun j u hu => by
        rw [List.getElem?_take] at hu
        split at hu
        · rw [List.getElem?_drop] at hu
          rw [Addr.plus, cell_of_row w g (off * n + j) cur hd.e (0, 0) g1, ← Array.getElem?_toList]
          exact hu
        · cases hu
      have hol : ((cur.toList.drop (off * n)).take (k * n)).length = k * n := by
        simp only [List.length_take, List.length_drop, Array.length_toList, g2]
        have := Nat.mul_le_mul_right n e3
        omega
      have hrun := run_append_grow (P := P) w t o.type r.e i z ht.u i1 i4 ⟨g, off * n, none⟩ k (hd.cap - off) ((cur.toList.drop (off * n)).take (k * n)) (by rw [hol, i2]) holds ad' m c news (by rw [hnl, i2]) n5 (by omega) (by omega) (growslice_fits (by omega) (by rw [i3]; exact hb))
      refine hnew _ (grownCap w (k + m) (hd.cap - off) r.e) hol (yM hmid fun j hj => ?_) (grownCap_ge w (k + m) (hd.cap - off) r.e) (grownCap_le_maxLen w (k + m) (hd.cap - off) r.e hmax) ?_
      · rw [hpl] at hj
        rw [List.getElem?_take, if_pos (by omega), List.getElem?_drop, Array.getElem?_toList]
      · rw [e2', ex, hrun]
        simp [World.drewN_drew, World.drew_is_drewN]
end
theorem wv.mono {P : Program} {o : Oper} {ρ : Operand → V} {H : List Reg} {post post' : V → List Reg → Prop} (h : wv P o ρ H post) (hp : ∀ v H', post v H' → post' v H') : wv P o ρ H post' :=
  fun S hS hρ C φ a w hI next Q hn => h S hS hρ C φ a w hI next Q fun v H' x w' φ' hq hI' => hn v H' x w' φ' (hp v H' hq) hI'
theorem dU {l : List V} {H : List Reg} {m : Nat} {e : Exit} {post : V → List Reg → Prop} (he : e = .ret ∨ e = .normal) (hp : post (.tup []) H) : (e = .ret ∨ e = .normal) ∧ ∃ r hs', post r hs' ∧ Out true r hs' (vz ⟨l, H, m⟩ []) ⟨l, H, m⟩ :=
  ⟨he, _, _, hp, nh (S := ⟨l, H, m⟩)⟩
section
variable {α : Type} {T : Ty α} {e : TypeId}
theorem lS {H : List Reg} {h b ty : Nat} {pre : List V} {rs : List (List α)} (hH : H[h]? = some ⟨ty, 1, pre ++ nC b rs, 0⟩) (hR : ∀ j x, rs[j]? = some x → H[b + j]? = some (xR T e x)) : Pur true H (.sl h pre.length rs.length) (wD (lsT T) rs) :=
  .slN hH (Or.inr ⟨rfl, rfl⟩) (Nat.succ_pos 0) (by simp [xJ]) (by
    have := nf (H := H) hR
    simpa [xJ, List.take_of_length_le] using this)
end
def vi (P : Program) (f : FuncId) (cargs : List V) (hs : List Reg) (post : V → List Reg → Prop) (al : Bool) : Prop :=
  ∀ (A : Nat → Prop) (φ : List Hd) (w : World) (xs : Array Value), HeapOk A w φ hs → zy A w φ cargs (fun i => xs[i]?) → xs.size = cargs.length →
    Calls P f xs w fun e w' => ∃ r hs', post r hs' ∧ ∃ x φ' A', e = .returned x ∧ HeapOk A' w' φ' hs' ∧ Rel A' w' φ' r x ∧ (∀ b, A' b → (al = true ∧ A b) ∨ w.heap.size ≤ b) ∧
      (∀ h b, z4 φ' hs' h b → w.heap.size ≤ b ∨ ∃ h0, z4 φ hs h0 b) ∧ Framed ⟨A, w, φ, hs⟩ w' ∧ (∀ (h : Nat) (hd : Hd), φ[h]? = some hd → φ'[h]? = some hd)
theorem zz.x {P : Program} {f : FuncId} {cargs : List V} {hs : List Reg} {r : V} {hs' : List Reg} {al : Bool} (h : zz P f cargs hs r hs' al) {post : V → List Reg → Prop} (hp : post r hs') : vi P f cargs hs post al := fun A φ w xs h1 h2 h3 =>
  (h A φ w xs h1 h2 h3).mono fun e w' hq => ⟨r, hs', hp, hq⟩
theorem lY {P : Program} {f : FuncId} {fn : Func} {c : Code} {cargs : List V} {hs : List Reg} {post : V → List Reg → Prop} {al : Bool} (ts : List Tmp)
    (hf : P.funcs[f]? = some fn) (hb : fn.body = some c) (hr : fn.results = (ts.map ResultVar.tmp).toArray)
    (h : AW P c (fun e S => (e = .ret ∨ e = .normal) ∧ ∃ r hs', post r hs' ∧ Out al r hs' (vz S ts) S) ⟨cargs ++ List.replicate (fn.ntmps - cargs.length) (.k undef), hs, hs.length⟩) : vi P f cargs hs post al := by
  intro A φ w xs hok hrel hsz
  refine calls_of_wp hf hb ?_
  have hI : Inv ⟨A, w, φ, hs⟩ φ ⟨cargs ++ List.replicate (fn.ntmps - cargs.length) (.k undef), hs, hs.length⟩ { tmps := xs ++ Array.replicate (fn.ntmps - xs.size) undef, defers := [] } w := by
    refine ⟨hok.len, ⟨A, ⟨hok, fun b hb => Or.inl hb, fun h b hl => Or.inr ⟨h, hl⟩, ⟨rfl, rfl, rfl, Nat.le_refl _, fun _ _ _ => rfl⟩, fun _ _ h => h⟩, ?_⟩, by simp [hsz], rfl⟩
    refine yg (yM hrel fun i hi => ?_) (yQ.2 fun i c hc => ⟨undef, ?_, ?_⟩)
    · simp [Array.getElem?_append, hsz, hi]
    · have hlt := (List.getElem?_eq_some_iff.1 hc).1
      simp only [List.length_replicate] at hlt
      simp only [Array.getElem?_append, hsz, Nat.not_lt.2 (Nat.le_add_right _ _), if_false, Nat.add_sub_cancel_left]
      simp [hlt]
    · have := List.mem_of_getElem? hc
      obtain rfl := List.eq_of_mem_replicate this
      simp [Rel]
  refine wp_mono (h.out ⟨A, w, φ, hs⟩ φ _ w hI) ?_
  rintro e a' w' ⟨S', φ1, hI', he, r, hs', hp, ho⟩
  obtain ⟨hm, ⟨A1, hA1, hr1⟩, hs1, hd1⟩ := hI'
  obtain ⟨φ', A', k1, k2, k3, k4, k5⟩ := ho ⟨A, w, φ, hs⟩ A1 φ1 w' (kg a'.tmps ts) hm hA1 (pa hr1 ts)
  have key : a'.defers = [] ∧ ∃ v, (results fn a'.tmps).run P w' = .ok v w' ∧ ∃ r hs', post r hs' ∧ ∃ x φ' A', (Ending.returned v) = .returned x ∧ HeapOk A' w' φ' hs' ∧ Rel A' w' φ' r x ∧ (∀ b, A' b → (al = true ∧ A b) ∨ w.heap.size ≤ b) ∧
      (∀ h b, z4 φ' hs' h b → w.heap.size ≤ b ∨ ∃ h0, z4 φ hs h0 b) ∧ Framed ⟨A, w, φ, hs⟩ w' ∧ (∀ (h : Nat) (hd : Hd), φ[h]? = some hd → φ'[h]? = some hd) :=
    ⟨hd1, _, ti hr _ _, r, hs', hp, _, φ', A', rfl, k1, k2, k3, k4, hA1.frame, k5⟩
  rcases he with rfl | rfl
  · exact key
  · exact key
section
variable {P : Program}
theorem pi {f : FuncId} {fn : Func} {c : Code} {cargs : List V} {hs : List Reg} {post : V → List Reg → Prop} {al : Bool} (t : Tmp) (ty : TypeId) (us : List Tmp) {n : Nat} [ht : Ag P ty n]
    (hf : P.funcs[f]? = some fn) (hb : fn.body = some c) (hus : us.isEmpty = false) (hr : fn.results = (.cell t ty :: us.map ResultVar.tmp).toArray)
    (h : AW P c (fun e S => (e = .ret ∨ e = .normal) ∧ ∃ v, CellIs S.tmps S.H t n v ∧ ∃ r hs', post r hs' ∧ Out al r hs' (.tup (v :: us.map fun u => (S.tmps[u]?).getD .any)) S) ⟨cargs ++ List.replicate (fn.ntmps - cargs.length) (.k undef), hs, hs.length⟩) : vi P f cargs hs post al := by
  intro A φ w xs hok hrel hsz
  refine calls_of_wp hf hb ?_
  have hI : Inv ⟨A, w, φ, hs⟩ φ ⟨cargs ++ List.replicate (fn.ntmps - cargs.length) (.k undef), hs, hs.length⟩ { tmps := xs ++ Array.replicate (fn.ntmps - xs.size) undef, defers := [] } w := by
    refine ⟨hok.len, ⟨A, ⟨hok, fun b hb => Or.inl hb, fun h b hl => Or.inr ⟨h, hl⟩, ⟨rfl, rfl, rfl, Nat.le_refl _, fun _ _ _ => rfl⟩, fun _ _ h => h⟩, ?_⟩, by simp [hsz], rfl⟩
    refine yg (yM hrel fun i hi => ?_) (yQ.2 fun i c hc => ⟨undef, ?_, ?_⟩)
    · simp [Array.getElem?_append, hsz, hi]
    · have hlt := (List.getElem?_eq_some_iff.1 hc).1
      simp only [List.length_replicate] at hlt
      simp only [Array.getElem?_append, hsz, Nat.not_lt.2 (Nat.le_add_right _ _), if_false, Nat.add_sub_cancel_left]
      simp [hlt]
    · have := List.mem_of_getElem? hc
      obtain rfl := List.eq_of_mem_replicate this
      simp [Rel]
  refine wp_mono (h.out ⟨A, w, φ, hs⟩ φ _ w hI) ?_
  rintro e a' w' ⟨S', φ1, hI', he, v, hc, r, hs', hp, ho⟩
  obtain ⟨hm, ⟨A1, hA1, hr1⟩, hs1, hd1⟩ := hI'
  obtain ⟨⟨h, off, r0, c1, c2, c3, c4, c5⟩⟩ := hc
  obtain ⟨y, y1, y2⟩ := yi hr1 c1
  rw [Rel] at y2
  obtain ⟨hd, b, e1, e2, e3⟩ := y2
  obtain ⟨xs', h2, h3, h4⟩ := y9 (P := P) (yu (yv (xj hA1.ok e1 c2 c3 e2) off) n)
  have hl : ((r0.cells.drop off).take n).length = n := by simp; omega
  rw [hl] at h2
  have hx : Rel A1 w' φ1 v (.agg xs') := by subst c5; rw [Rel]; exact ⟨xs', rfl, h3, h4⟩
  have hrun : (results fn a'.tmps).run P w' = .ok (.tuple ((Value.agg xs') :: us.map fun u => a'.tmps.getD u undef).toArray) w' := by
    have hg : a'.tmps.getD t undef = .pointer (some ⟨b, off, none⟩) := by
      rw [Array.getD_eq_getD_getElem?, show a'.tmps[t]? = some y from y1, e3]
      rfl
    unfold results
    rw [hr]
    simp only [List.mapM_toArray, List.mapM_cons, hg, Sem.run_bind, Sem.run_map, Sem.run_pure, Result.andThen_ok, asAddr, loadVar, ht.a, ht.s, h2, if_true]
    rw [uv a'.tmps w' _ (fun t => rfl)]
    simp only [Result.andThen_ok, Sem.run_pure]
    cases us with
    | nil => cases hus
    | cons u us => simp
  have hxt : Rel A1 w' φ1 (.tup (v :: us.map fun u => (S'.tmps[u]?).getD .any)) (.tuple ((Value.agg xs') :: us.map fun u => a'.tmps.getD u undef).toArray) := by
    rw [Rel]
    refine ⟨_, rfl, by simp, ?_⟩
    rw [zy]
    refine ⟨⟨.agg xs', rfl, hx⟩, yQ.2 fun i c hc => ?_⟩
    rw [List.getElem?_map] at hc
    cases hi : us[i]? with
    | none => rw [hi] at hc; simp at hc
    | some u =>
      rw [hi] at hc
      simp only [Option.map_some, Option.some.injEq] at hc
      subst hc
      exact ⟨a'.tmps.getD u undef, by simp [hi], wo hr1 (.tmp u)⟩
  obtain ⟨φ', A', k1, k2, k3, k4, k5⟩ := ho ⟨A, w, φ, hs⟩ A1 φ1 w' _ hm hA1 hxt
  have key : a'.defers = [] ∧ ∃ v, (results fn a'.tmps).run P w' = .ok v w' ∧ ∃ r hs', post r hs' ∧ ∃ x φ' A', (Ending.returned v) = .returned x ∧ HeapOk A' w' φ' hs' ∧ Rel A' w' φ' r x ∧ (∀ b, A' b → (al = true ∧ A b) ∨ w.heap.size ≤ b) ∧
      (∀ h b, z4 φ' hs' h b → w.heap.size ≤ b ∨ ∃ h0, z4 φ hs h0 b) ∧ Framed ⟨A, w, φ, hs⟩ w' ∧ (∀ (h : Nat) (hd : Hd), φ[h]? = some hd → φ'[h]? = some hd) :=
    ⟨hd1, _, hrun, r, hs', hp, _, φ', A', rfl, k1, k2, k3, k4, hA1.frame, k5⟩
  rcases he with rfl | rfl
  · exact key
  · exact key
theorem vi.frozen {f : FuncId} {cargs : List V} {r' : V} {post : V → List Reg → Prop} {al : Bool} (h : vi P f cargs [] post al) (hp : ∀ r K, post r K → Pur true K r r') : zz P f cargs [] r' [] true := by
  intro A φ w xs hok hrel hsz
  refine (h A φ w xs hok hrel hsz).mono ?_
  rintro e w' ⟨r, K, hq, x, φ', A', rfl, k1, k2, k3, k4, k5, k6⟩
  have hφ : φ = [] := List.length_eq_zero_iff.1 hok.len
  refine ⟨x, [], fun b => A' b ∨ ∃ h, z4 φ' K h b, rfl, ⟨rfl, fun h hd r h1 => by simp at h1, fun h h' b ⟨hd, r, h1, _⟩ => by simp at h1, fun h b ⟨hd, r, h1, _⟩ => by simp at h1, fun h hd r b h1 => by simp at h1, fun b hb => ?_⟩,
    Pur.rel k1 (fun b hb => Or.inl hb) (fun _ h b hb => Or.inr ⟨h, hb⟩) (hp r K hq) k2, fun b hb => ?_, fun h b ⟨hd, r, h1, _⟩ => by simp at h1, k5, fun h hd h1 => by rw [hφ] at h1; simp at h1⟩
  · rcases hb with hb | ⟨h, hd, r, q1, q2, q3, q4⟩
    · exact k1.low b hb
    · exact wA k1 q1 q2 (by omega) q4
  · rcases hb with hb | ⟨h, hb⟩
    · exact (k3 b hb).imp (fun h => ⟨rfl, h.2⟩) id
    · rcases k4 h b hb with h1 | ⟨h9, hd, r, p1, _⟩
      · exact Or.inr h1
      · rw [hφ] at p1
        simp at p1
end
section
variable {P : Program} {o : Oper} {ρ : Operand → V} {H : List Reg}
theorem tt {f : FuncId} {cargs : List V} {post : V → List Reg → Prop}
    (hrun : ∀ (A : Nat → Prop) (φ : List Hd) (a : Act) (w : World), HeapOk A w φ H → (∀ x ∈ o.op.operands, Rel A w φ (ρ x) (a.eval x)) → ∃ xs : Array Value, (execOp a.eval o).run P w = .ok (.enter f xs) w ∧ xs.size = cargs.length ∧ zy A w φ cargs (fun i => xs[i]?))
    (hm : vi P f cargs H post true) : wv P o ρ H post := by
  intro S hS hρ C φ a w hI next Q hn
  obtain ⟨hm0, ⟨A, hA, hr⟩, hs, hd⟩ := hI
  subst hS
  obtain ⟨xs, hexec, hxl, hargr⟩ := hrun A φ a w hA.ok (fun x hx => by rw [← hρ x hx]; exact wo hr x)
  have hcall := hm A φ w xs hA.ok hargr hxl
  unfold Oper.wp
  rw [hexec, Oper.upon_enter]
  refine hcall.mono ?_
  rintro e w' ⟨r, K, hq, x, φ', A', rfl, k1, k2, k3, k4, k5, k6⟩
  have hfrA : ∀ b, A b → w'.heap[b]? = w.heap[b]? := fun b hb => k5.block b (hA.ok.low b hb) (fun h hl => hA.ok.apart h b hl hb)
  have xl : ∀ b, A' b → A b ∨ w.heap.size ≤ b := fun b hb => (k3 b hb).imp (fun h => h.2) id
  have hJ : InvA C (fun b => A b ∨ A' b) φ' K w' := by
    refine ⟨⟨k1.len, fun h hd q q1 q2 q3 => ?_, k1.inj, fun h b hl hb => ?_, fun h hd q b q1 q2 q3 q4 => Or.inr (k1.frz h hd q b q1 q2 q3 q4), fun b hb => ?_⟩, fun b hb => ?_, fun h b hl => ?_, ?_, fun h hd hh => k6 h hd (hA.pre h hd hh)⟩
    · obtain ⟨e1, e2⟩ := k1.regs h hd q q1 q2 q3
      refine ⟨e1, ?_⟩
      cases hb : hd.blk with
      | none => rw [hb] at e2; exact e2
      | some b =>
        rw [hb] at e2
        obtain ⟨c, c1, c2, c3, c4⟩ := e2
        exact ⟨c, c1, c2, c3, zy.mono (fun b hb => ⟨Or.inr hb, rfl⟩) (fun _ _ h => h) c4⟩
    · rcases hb with hb | hb
      · rcases k4 h b hl with h1 | ⟨h0, h1⟩
        · have := hA.ok.low b hb
          omega
        · exact hA.ok.apart h0 b h1 hb
      · exact k1.apart h b hl hb
    · rcases hb with hb | hb
      · exact Nat.lt_of_lt_of_le (hA.ok.low b hb) k5.size
      · exact k1.low b hb
    · rcases hb with hb | hb
      · exact hA.old b hb
      · rcases xl b hb with hb | hb
        · exact hA.old b hb
        · exact Or.inr (Nat.le_trans hA.frame.size hb)
    · rcases k4 h b hl with h1 | ⟨h0, h1⟩
      · exact Or.inl (Nat.le_trans hA.frame.size h1)
      · exact hA.own h0 b h1
    · obtain ⟨f1, f2, f3, f4, f5⟩ := hA.frame
      refine ⟨k5.os.trans f1, k5.tape.trans f2, k5.output.trans f3, Nat.le_trans f4 k5.size, fun b hb hno => ?_⟩
      rw [k5.block b (Nat.lt_of_lt_of_le hb f4) (fun h hl => ?_)]
      · exact f5 b hb hno
      · rcases hA.own h b hl with h1 | ⟨h0, h1⟩
        · have h2 : b < C.w0.heap.size := hb
          omega
        · exact hno h0 h1
  have hr' : zy (fun b => A b ∨ A' b) w' φ' S.tmps (fun i => a.tmps[i]?) := zy.mono (fun b hb => ⟨Or.inl hb, hfrA b hb⟩) (fun h hd hh => k6 h hd hh) hr
  have hx : Rel (fun b => A b ∨ A' b) w' φ' r x := Rel.mono (fun b hb => ⟨Or.inr hb, rfl⟩) (fun _ _ h => h) k2
  obtain ⟨h7, h8⟩ := wx (H := K) hs hr' hx o.dst
  refine hn r K x w' φ' hq ⟨by cases o.dst <;> exact hm0, ⟨_, ?_, h7⟩, h8, by cases o.dst <;> exact hd⟩
  rw [wB]
  exact hJ
theorem pU {f : FuncId} {args : List Operand} {ats : Array TypeId} {cargs : List V} {post : V → List Reg → Prop} [he : Ent P f] (ho : o.op = .call { callee := .value (.func f), args := args.toArray, argTypes := ats })
    (hm : vi P f cargs H post true) (hargs : args.map ρ = cargs) : wv P o ρ H post :=
  tt (fun A φ a w _ hh => ⟨_, vy ho, by rw [← hargs]; simp, by rw [← hargs]; exact vX fun x hx => hh x (by rw [ho]; simp only [Op.operands, Call.operands]; simp [hx])⟩) hm
end
end Go.Proofs.Ytojcojanokhnaaa.Ab
namespace Go.Proofs.Ytojcojanokhnaaa.Ab
open Go.RowKit
theorem dD {o : Oper} {ρ : Operand → V} {H : List Reg} {h hz off n : Nat} {v : V} {s x : Operand} {cells : List V} (ho : o.op = .call { callee := .builtin .append, args := #[s, x], argTypes := #[25, 25] })
    (hs : ρ s = .sl h off n) (hH : H[h]? = some ⟨84, 1, cells, 0⟩) (hx : ρ x = .sl hz 0 1) (hzz : H[hz]? = some ⟨84, 1, [v], 0⟩) (hv : uS v = true) (hn : cells.length = off + n) (hl : cells.length ≤ 100000000) :
    wv Go.Proofs.Try.prog o ρ H (fun w H' => ∃ (o' : Nat) (pre : List V), pre.length = o' ∧ (o' = off ∨ o' = 0) ∧ w = .sl H.length o' (n + 1) ∧ H' = H.set h ⟨84, 1, cells, 2⟩ ++ [⟨84, 1, pre ++ cells.drop off ++ [v], 0⟩]) := by
  have hsrc : Src H (ρ x) 1 [v] := by
    rw [hx]
    exact Src.sl (H := H) (off := 0) (m := 1) (r := ⟨84, 1, [v], 0⟩) hzz (Nat.zero_le _) (Nat.le_refl _)
  refine (qi (P := Go.Proofs.Try.prog) (ρ := ρ) (ty := 25) (m := 1) ho hs hH rfl rfl rfl (by show (off + n) * 1 ≤ cells.length; omega) hsrc rfl (by decide) (fun c hc => by simp at hc; subst hc; exact hv) (by omega) (by simp only [maxLen]; omega)).mono ?_
  rintro w H' ⟨o', pre, rfl, h1, h2, rfl⟩
  refine ⟨o', pre, by rw [h1, Nat.mul_one], h2, rfl, ?_⟩
  have e1 : ((⟨84, 1, cells, 0⟩ : Reg).cells.drop (off * 1)).take (n * 1) = cells.drop off := by
    show (cells.drop (off * 1)).take (n * 1) = _
    rw [Nat.mul_one, Nat.mul_one, List.take_of_length_le (by simp; omega)]
  rw [e1]
theorem lr (a0 a1 a3 a4 a5 a6 : Reg) (c0 c1 c2 c3 c6 c7 c8 c9 : V) (out : List Rw) (cells : List V) (off n : Nat) (hn : cells.length = off + n) (L : List Reg) (hl : cells.length ≤ 100000000) :
    vi Go.Proofs.Try.prog 60 [.ptr 2 0] (a0 :: a1 :: bxS [c0, c1, c2, c3, .sl 7 0 out.length, .sl 8 off n, c6, c7, c8, c9] :: a3 :: a4 :: a5 :: a6 :: rwR out :: ⟨84, 1, cells, 0⟩ :: L)
      (fun r K => ∃ (o' : Nat) (pre : List V), pre.length = o' ∧ (o' = off ∨ o' = 0) ∧ r = .tup [] ∧ K = a0 :: a1 :: bxS [c0, c1, c2, c3, wS, .sl ((L ++ [(⟨84, 1, [.sl 7 0 out.length], 0⟩ : Reg)]).length + 9) o' (n + 1), c6, c7, c8, c9] :: a3 :: a4 :: a5 :: a6 :: rwR out :: ⟨84, 1, cells, 2⟩ :: (L ++ [⟨84, 1, [.sl 7 0 out.length], 0⟩] ++ [⟨84, 1, pre ++ cells.drop off ++ [.sl 7 0 out.length], 0⟩])) true := by
  refine lY [] Go.Proofs.Try.func60 rfl rfl ?_
  simp only [Go.Proofs.Try.ntmps60, List.length_cons, List.length_nil, Nat.reduceAdd, Nat.reduceSub, List.replicate_succ, List.replicate_zero, List.cons_append, List.nil_append]
  repeat' first | refine zK ?_ | refine zA ?_ | (refine isA ?_; refine zg rfl ?_) | (refine isL ?_; refine zW rfl (by kernel_rfl) rfl rfl ?_) | (refine zd rfl ?_; refine zV rfl (by kernel_rfl) rfl rfl ?_) | refine zD ?_ | refine zB _ rfl (by kernel_rfl) ?_ | refine zX rfl ?_ | refine zY rfl ?_ | refine zC ?_ | with_reducible refine zN ?_ | refine zH ?_ | refine zI ?_ | (with_reducible first | refine zL ?_ | refine zM ?_ | refine zE ?_ | refine zG ?_ | refine zF ?_) | refine zO ?_
  refine uN 14 (fun H => H[2]? = some (bxS [c0, c1, c2, c3, .sl 7 0 out.length, .sl 8 off n, c6, c7, c8, c9])) 15 rfl ?_
  refine yR 0 (Or.inr rfl) rfl rfl (by kernel_rfl) rfl (fun _ => rfl) rfl ?_
  refine yR 1 (Or.inr rfl) rfl rfl (by kernel_rfl) rfl (fun _ => rfl) rfl ?_
  refine yR 2 (Or.inr rfl) rfl rfl (by kernel_rfl) rfl (fun _ => rfl) rfl ?_
  refine yR 3 (Or.inr rfl) rfl rfl (by kernel_rfl) rfl (fun _ => rfl) rfl ?_
  refine ve 4 rfl (by kernel_rfl) rfl (by kernel_rfl) rfl (fun _ hG => xo rfl rfl hG rfl rfl) rfl ?_
  refine yR 5 (Or.inr rfl) rfl rfl (by kernel_rfl) rfl (fun _ => rfl) rfl ?_
  refine yR 6 (Or.inr rfl) rfl rfl (by kernel_rfl) rfl (fun _ => rfl) rfl ?_
  refine yR 7 (Or.inr rfl) rfl rfl (by kernel_rfl) rfl (fun _ => rfl) rfl ?_
  refine ve 8 rfl (by kernel_rfl) rfl (by kernel_rfl) rfl (fun _ hG => xo rfl rfl hG rfl rfl) rfl ?_
  refine yR 9 (Or.inr rfl) rfl rfl (by kernel_rfl) rfl (fun _ => rfl) rfl ?_
  refine xk 10 (by kernel_rfl) rfl rfl rfl (Or.inr rfl) rfl ?_
  refine kq 11 (by kernel_rfl) rfl rfl (dD rfl rfl rfl rfl (zf rfl) rfl hn hl) (fun v H' hq => Or.inr ?_) (fun v H' hq => ?_)
  · obtain ⟨o', pre, p1, p2, rfl, rfl⟩ := hq
    rfl
  · obtain ⟨o', pre, p1, p2, rfl, rfl⟩ := hq
    refine ⟨_, _, rfl, ?_⟩
    refine yR 12 (Or.inr rfl) rfl rfl (by kernel_rfl) rfl (fun _ => rfl) rfl ?_
    refine yR 13 (Or.inr rfl) rfl rfl (by kernel_rfl) rfl (fun _ => rfl) rfl ?_
    refine xk 14 (by kernel_rfl) rfl rfl rfl (Or.inl (by kernel_rfl)) rfl ?_
    refine w5 (by kernel_rfl) ?_
    repeat' first | refine zK ?_ | refine zA ?_ | refine zP [] ?_ | (refine isA ?_; refine zg rfl ?_) | (refine isL ?_; refine zW rfl (by kernel_rfl) rfl rfl ?_) | (refine zd rfl ?_; refine zV rfl (by kernel_rfl) rfl rfl ?_) | refine zD ?_ | refine zB _ rfl (by kernel_rfl) ?_ | refine zX rfl ?_ | refine zY rfl ?_ | refine zC ?_ | with_reducible refine zN ?_ | refine zH ?_ | refine zI ?_ | (with_reducible first | refine zL ?_ | refine zM ?_ | refine zE ?_ | refine zG ?_ | refine zF ?_) | refine zO ?_
    exact dU (Or.inr rfl) ⟨o', pre, p1, p2, rfl, rfl⟩
end Go.Proofs.Ytojcojanokhnaaa.Ab
namespace Go.Proofs.Ytojcojanokhnaaa.Ab
open Go.RowKit
theorem d5 (s : So) (g : Int) (a : Rn) (r : Rw) (i : Nat) (hok : okSo s) (hp : s.ph = 3) (hr : s.runs = [a]) (hi : s.lp = (i : Int)) (h1 : a[i]? = some r) : AW Go.Proofs.Try.prog uj (stQ s (wF s) g [r]) (stT s s g []) := by
  obtain ⟨inp, pos, heap, dfr, out, runs, lp, rp, ph, wr⟩ := s
  simp only at hp hr hi
  subst hp hr hi
  have g3 := hok.input
  have g6 := hok.tot
  simp only at g3 g6
  have hlt := (List.getElem?_eq_some_iff.1 h1).1
  have ha : a.length ≤ 10000000 := by simpa [tot] using g6
  have ew : IntKind.i64.wrap ((i : Int) + 1) = (i : Int) + 1 := by rw [IntKind.wrap_i64]; omega
  repeat' first | (refine tm rfl ?_; refine zU rfl (by kernel_rfl) rfl (yO rfl rfl rfl rfl rfl) rfl ?_) | (refine xH rfl ?_; refine tl rfl (by kernel_rfl) rfl (yV (t := rwT) (xs := []) (ys := [r]) rfl rfl rfl rfl (.lst _ _) (by simp) rfl) rfl ?_) | refine zK ?_ | refine zA ?_ | refine zP [11] ?_ | (refine isA ?_; refine zg rfl ?_) | (refine isL ?_; refine zW rfl (by kernel_rfl) rfl rfl ?_) | (refine zd rfl ?_; refine zV rfl (by kernel_rfl) rfl rfl ?_) | (refine yB (x := .tmp 226) ?_; refine zb rfl (zq (j := 0) rfl rfl rfl (Nat.zero_le _) rfl rfl (by decide) (by simp)) rfl ?_) | (refine yA (x := .tmp 226) rfl ?_; refine zU rfl (by kernel_rfl) rfl (zq (j := 0) rfl rfl rfl (Nat.zero_le _) rfl rfl (by decide) (by simp)) rfl ?_) | (refine yB (x := .tmp 229) ?_; refine zb rfl (zq (j := (i : Int)) rfl rfl rfl (Nat.zero_le _) rfl rfl (Int.natCast_nonneg _) (by omega)) rfl ?_) | (refine yA (x := .tmp 229) rfl ?_; refine zU rfl (by kernel_rfl) rfl (zq (j := (i : Int)) rfl rfl rfl (Nat.zero_le _) rfl rfl (Int.natCast_nonneg _) (by omega)) rfl ?_) | (refine xU (x := .tmp 232) ?_; refine zb rfl (yq (T := rwT) (i := 0 + i) (z := r) rfl rfl rfl (by rw [Nat.zero_add]; exact h1)) rfl ?_) | (refine xa (x := .tmp 232) rfl ?_; refine zU rfl (by kernel_rfl) rfl (yq (T := rwT) (i := 0 + i) (z := r) rfl rfl rfl (by rw [Nat.zero_add]; exact h1)) rfl ?_) | refine zD ?_ | refine zB _ rfl (by kernel_rfl) ?_ | refine zX rfl ?_ | refine zY rfl ?_ | refine zC ?_ | with_reducible refine zN ?_ | refine zH ?_ | refine zI ?_ | (with_reducible first | refine zL ?_ | refine zM ?_ | refine zE ?_ | refine zG ?_ | refine zF ?_) | refine zO ?_
  refine zk rfl (fun h => ?_) (fun h => ?_)
  · have e : wF ⟨inp, pos, heap, dfr, out, [a], (i : Int), rp, 3, wr⟩ = ⟨inp, pos, heap, dfr, out, [a], (i : Int) + 1, rp, 4, wr⟩ := by
      have h' : decide ((i : Int) + 1 = (inp.length : Int)) = true := by rw [← ew]; exact h
      simp only [wF, h', cond_true]
    rw [e]
    repeat' first | refine zK ?_ | refine zA ?_ | refine zP [] ?_ | (refine isA ?_; refine zg rfl ?_) | (refine isL ?_; refine zW rfl (by kernel_rfl) rfl rfl ?_) | (refine zd rfl ?_; refine zV rfl (by kernel_rfl) rfl rfl ?_) | refine zD ?_ | refine zB _ rfl (by kernel_rfl) ?_ | refine zX rfl ?_ | refine zY rfl ?_ | refine zC ?_ | with_reducible refine zN ?_ | refine zH ?_ | refine zI ?_ | (with_reducible first | refine zL ?_ | refine zM ?_ | refine zE ?_ | refine zG ?_ | refine zF ?_) | refine zO ?_
    refine And.intro rfl (wT [0, 1, 2, 10, 4, 5, 6, 7, 8] (List.range' 9 1) rfl rfl (by decide) (by repeat' first | exact HLes.nil | refine HLes.cons rfl rfl rfl rfl (zT (zJ _ _)) ?_ | refine HLes.cons rfl rfl rfl rfl (z6 rfl) ?_ | refine HLes.cons rfl rfl rfl rfl (xf (fun j hj => xr _ 9 _ j hj)) ?_ | refine HLes.cons (z8 (zf xC)) rfl rfl rfl (zT (zJ _ _)) ?_ | refine HLes.cons (z8 (zf y6)) rfl rfl rfl (zT (zJ _ _)) ?_ | refine HLes.cons (z8 (zf y5)) rfl rfl rfl (zT (zJ _ _)) ?_ | refine HLes.cons (z8 (zf xB)) rfl rfl rfl (zT (zJ _ _)) ?_ | refine HLes.cons (z8 (za (zf xC))) rfl rfl rfl (zT (zJ _ _)) ?_ | refine HLes.cons (z8 (za (zf y6))) rfl rfl rfl (zT (zJ _ _)) ?_ | refine HLes.cons (z8 (za (zf y5))) rfl rfl rfl (zT (zJ _ _)) ?_ | refine HLes.cons (z8 (za (zf xB))) rfl rfl rfl (zT (zJ _ _)) ?_ | refine HLes.cons (z8 (za (za (zf xC)))) rfl rfl rfl (zT (zJ _ _)) ?_ | refine HLes.cons (z8 (za (za (zf y6)))) rfl rfl rfl (zT (zJ _ _)) ?_ | refine HLes.cons (z8 (za (za (zf y5)))) rfl rfl rfl (zT (zJ _ _)) ?_ | refine HLes.cons (z8 (za (za (zf xB)))) rfl rfl rfl (zT (zJ _ _)) ?_ | refine HLes.cons rfl rfl rfl rfl (by repeat' first | exact zm | refine zZ ?_ ?_ | exact zo | exact le_refl rfl | exact zj rfl rfl | exact zr rfl | exact zr (congrArg some (by simp [zh] <;> omega)) | exact zj rfl (by simp) | exact zj (congrArg some (by simp [zh] <;> omega)) rfl | exact zj (congrArg some (by simp [zh] <;> omega)) (by simp [yS, endV, yF]) | exact z7 (congrArg _ (by assumption)) | exact z7 (congrArg _ (Eq.symm (by assumption)))) ?_) (fun j i x hi hx => by rw [ix9 hi]; exact v8 (za (xG hx))) (by repeat' first | exact zm | refine zZ ?_ ?_ | exact zo | exact le_refl rfl | exact zj rfl rfl | exact zr rfl | exact zr (congrArg some (by simp [zh] <;> omega)) | exact zj rfl (by simp) | exact zj (congrArg some (by simp [zh] <;> omega)) rfl | exact zj (congrArg some (by simp [zh] <;> omega)) (by simp [yS, endV, yF]) | exact z7 (congrArg _ (by assumption)) | exact z7 (congrArg _ (Eq.symm (by assumption)))))
  · have e : wF ⟨inp, pos, heap, dfr, out, [a], (i : Int), rp, 3, wr⟩ = ⟨inp, pos, heap, dfr, out, [a], (i : Int) + 1, rp, 3, wr⟩ := by
      have h' : decide ((i : Int) + 1 = (inp.length : Int)) = false := by rw [← ew]; exact h
      simp only [wF, h', cond_false]
    rw [e]
    repeat' first | refine zK ?_ | refine zA ?_ | refine zP [] ?_ | (refine isA ?_; refine zg rfl ?_) | (refine isL ?_; refine zW rfl (by kernel_rfl) rfl rfl ?_) | (refine zd rfl ?_; refine zV rfl (by kernel_rfl) rfl rfl ?_) | refine zD ?_ | refine zB _ rfl (by kernel_rfl) ?_ | refine zX rfl ?_ | refine zY rfl ?_ | refine zC ?_ | with_reducible refine zN ?_ | refine zH ?_ | refine zI ?_ | (with_reducible first | refine zL ?_ | refine zM ?_ | refine zE ?_ | refine zG ?_ | refine zF ?_) | refine zO ?_
    refine And.intro rfl (wT [0, 1, 2, 10, 4, 5, 6, 7, 8] (List.range' 9 1) rfl rfl (by decide) (by repeat' first | exact HLes.nil | refine HLes.cons rfl rfl rfl rfl (zT (zJ _ _)) ?_ | refine HLes.cons rfl rfl rfl rfl (z6 rfl) ?_ | refine HLes.cons rfl rfl rfl rfl (xf (fun j hj => xr _ 9 _ j hj)) ?_ | refine HLes.cons (z8 (zf xC)) rfl rfl rfl (zT (zJ _ _)) ?_ | refine HLes.cons (z8 (zf y6)) rfl rfl rfl (zT (zJ _ _)) ?_ | refine HLes.cons (z8 (zf y5)) rfl rfl rfl (zT (zJ _ _)) ?_ | refine HLes.cons (z8 (zf xB)) rfl rfl rfl (zT (zJ _ _)) ?_ | refine HLes.cons (z8 (za (zf xC))) rfl rfl rfl (zT (zJ _ _)) ?_ | refine HLes.cons (z8 (za (zf y6))) rfl rfl rfl (zT (zJ _ _)) ?_ | refine HLes.cons (z8 (za (zf y5))) rfl rfl rfl (zT (zJ _ _)) ?_ | refine HLes.cons (z8 (za (zf xB))) rfl rfl rfl (zT (zJ _ _)) ?_ | refine HLes.cons (z8 (za (za (zf xC)))) rfl rfl rfl (zT (zJ _ _)) ?_ | refine HLes.cons (z8 (za (za (zf y6)))) rfl rfl rfl (zT (zJ _ _)) ?_ | refine HLes.cons (z8 (za (za (zf y5)))) rfl rfl rfl (zT (zJ _ _)) ?_ | refine HLes.cons (z8 (za (za (zf xB)))) rfl rfl rfl (zT (zJ _ _)) ?_ | refine HLes.cons rfl rfl rfl rfl (by repeat' first | exact zm | refine zZ ?_ ?_ | exact zo | exact le_refl rfl | exact zj rfl rfl | exact zr rfl | exact zr (congrArg some (by simp [zh] <;> omega)) | exact zj rfl (by simp) | exact zj (congrArg some (by simp [zh] <;> omega)) rfl | exact zj (congrArg some (by simp [zh] <;> omega)) (by simp [yS, endV, yF]) | exact z7 (congrArg _ (by assumption)) | exact z7 (congrArg _ (Eq.symm (by assumption)))) ?_) (fun j i x hi hx => by rw [ix9 hi]; exact v8 (za (xG hx))) (by repeat' first | exact zm | refine zZ ?_ ?_ | exact zo | exact le_refl rfl | exact zj rfl rfl | exact zr rfl | exact zr (congrArg some (by simp [zh] <;> omega)) | exact zj rfl (by simp) | exact zj (congrArg some (by simp [zh] <;> omega)) rfl | exact zj (congrArg some (by simp [zh] <;> omega)) (by simp [yS, endV, yF]) | exact z7 (congrArg _ (by assumption)) | exact z7 (congrArg _ (Eq.symm (by assumption)))))
end Go.Proofs.Ytojcojanokhnaaa.Ab
namespace Go.Proofs.Ytojcojanokhnaaa.Ab
open Go.RowKit
abbrev zR : Reg := ⟨78, 3, [I 0, I 0, I 0], 0⟩
abbrev T32 (s : So) (g : Int) (n m : Nat) (c : Bool) : St := ⟨(.any :: (I g) :: (.ptr 0 0) :: .any :: (.ptr 1 0) :: .any :: .any :: (.ptr 2 0) :: (.sl 3 0 0) :: .any :: .any :: .any :: (.sl 9 0 n) :: (.sl 10 0 m) :: (.ptr (stH s s []).length 0) :: .any :: .any :: .any :: .any :: .any :: .any :: .any :: .any :: .any :: .any :: .any :: .any :: .any :: .any :: .any :: .any :: .any :: .any :: .any :: .any :: .any :: .any :: .any :: .any :: .any :: .any :: .any :: .any :: .any :: .any :: .any :: .any :: .any :: .any :: .any :: .any :: .any :: .any :: .any :: .any :: .any :: .any :: .any :: .any :: .any :: .any :: .any :: .any :: .any :: .any :: .any :: .any :: .any :: .any :: .any :: .any :: .any :: .any :: .any :: .any :: .any :: .any :: .any :: .any :: .any :: .any :: .any :: .any :: .any :: .any :: .any :: .any :: .any :: .any :: .any :: .any :: .any :: .any :: .any :: .any :: .any :: .any :: .any :: .any :: .any :: .any :: .any :: .any :: .any :: .any :: .any :: .any :: .any :: .any :: .any :: .any :: .any :: .any :: .any :: .any :: .any :: .any :: .any :: .any :: .any :: .any :: .any :: .any :: .any :: .any :: .any :: .any :: .any :: .any :: .any :: .any :: .any :: .any :: .any :: .any :: .any :: .any :: .any :: .any :: .any :: .any :: .any :: .any :: .any :: .any :: .any :: .any :: .any :: .any :: .any :: .any :: .any :: .any :: .any :: .any :: .any :: .any :: .any :: .any :: .any :: .any :: .any :: .any :: .any :: .any :: .any :: .any :: .any :: .any :: .any :: .any :: .any :: .any :: .any :: .any :: .any :: .any :: .any :: .any :: .any :: .any :: .any :: .any :: .any :: .any :: .any :: .any :: .any :: .any :: .any :: .any :: (B c) :: .any :: .any :: .any :: .any :: .any :: .any :: .any :: .any :: .any :: .any :: .any :: .any :: .any :: .any :: .any :: .any :: .any :: .any :: .any :: .any :: .any :: .any :: .any :: .any :: .any :: .any :: .any :: .any :: .any :: .any :: .any :: .any :: .any :: .any :: .any :: .any :: .any :: .any :: .any :: .any :: .any :: .any :: .any :: .any :: .any :: .any :: .any :: .any :: .any :: .any :: .any :: .any :: .any :: .any :: .any :: .any :: .any :: []), stH s s [] ++ [zR], 0⟩
theorem dy (inp heap dfr out : List Rw) (pos wr g : Int) (a b : Rn) (rest : List Rn) (i k : Nat) (r : Rw) (hok : okSo ⟨inp, pos, heap, dfr, out, a :: b :: rest, i, k, 2, wr⟩) (h1 : a[i]? = some r) (hk : k ≤ b.length) (h2 : ∀ q, b[k]? = some q → leW r q) :
    AW Go.Proofs.Try.prog uj (stQ ⟨inp, pos, heap, dfr, out, a :: b :: rest, i, k, 2, wr⟩ (vK ⟨inp, pos, heap, dfr, out, a :: b :: rest, i, k, 2, wr⟩ r) g []) (stT ⟨inp, pos, heap, dfr, out, a :: b :: rest, i, k, 2, wr⟩ ⟨inp, pos, heap, dfr, out, a :: b :: rest, i, k, 2, wr⟩ g []) := by
  have g4 := hok.out
  have g6 := hok.tot
  simp only [tot, List.map_cons, List.sum_cons] at g4 g6
  have hlt := (List.getElem?_eq_some_iff.1 h1).1
  have ew : IntKind.i64.wrap ((i : Int) + 1) = (i : Int) + 1 := by rw [IntKind.wrap_i64]; omega
  repeat' first | refine zK ?_ | refine zA ?_ | refine zP [] ?_ | (refine isA ?_; refine zg rfl ?_) | (refine isL ?_; refine zW rfl (by kernel_rfl) rfl rfl ?_) | (refine zd rfl ?_; refine zV rfl (by kernel_rfl) rfl rfl ?_) | (refine yB (x := .tmp 138) ?_; refine zb rfl (zq (j := 0) rfl rfl rfl (Nat.zero_le _) rfl rfl (by decide) (by simp; omega)) rfl ?_) | (refine yA (x := .tmp 138) rfl ?_; refine zU rfl (by kernel_rfl) rfl (zq (j := 0) rfl rfl rfl (Nat.zero_le _) rfl rfl (by decide) (by simp; omega)) rfl ?_) | (refine yB (x := .tmp 143) ?_; refine zb rfl (zq (j := 1) rfl rfl rfl (Nat.zero_le _) rfl rfl (by decide) (by simp; omega)) rfl ?_) | (refine yA (x := .tmp 143) rfl ?_; refine zU rfl (by kernel_rfl) rfl (zq (j := 1) rfl rfl rfl (Nat.zero_le _) rfl rfl (by decide) (by simp; omega)) rfl ?_) | refine zD ?_ | refine zB _ rfl (by kernel_rfl) ?_ | refine zX rfl ?_ | refine zY rfl ?_ | refine zC ?_ | with_reducible refine zN ?_ | refine zH ?_ | refine zI ?_ | (with_reducible first | refine zL ?_ | refine zM ?_ | refine zE ?_ | refine zG ?_ | refine zF ?_) | refine zO ?_
  refine yX rfl rfl (fun h => absurd (of_decide_eq_true h) (by simp only; omega)) (fun _ => ?_)
  repeat' first | (refine wR 32 (T32 ⟨inp, pos, heap, dfr, out, a :: b :: rest, i, k, 2, wr⟩ g a.length b.length true) (xE ?_) ?_) | refine zK ?_ | refine zA ?_ | refine zP [] ?_ | (refine isA ?_; refine zg rfl ?_) | (refine isL ?_; refine zW rfl (by kernel_rfl) rfl rfl ?_) | (refine zd rfl ?_; refine zV rfl (by kernel_rfl) rfl rfl ?_) | (refine s5 (x := .tmp 14) ?_; refine zb rfl (wJ (vs := [I 0, I 0, I 0]) rfl rfl rfl rfl rfl (fun c hc => by simp at hc; subst hc; rfl) rfl rfl) rfl ?_) | (refine s4 (x := .tmp 14) rfl ?_; refine zU rfl (by kernel_rfl) rfl (wJ (vs := [I 0, I 0, I 0]) rfl rfl rfl rfl rfl (fun c hc => by simp at hc; subst hc; rfl) rfl rfl) rfl ?_) | refine zD ?_ | refine zB _ rfl (by kernel_rfl) ?_ | refine zX rfl ?_ | refine zY rfl ?_ | refine zC ?_ | with_reducible refine zN ?_ | refine zH ?_ | refine zI ?_ | (with_reducible first | refine zL ?_ | refine zM ?_ | refine zE ?_ | refine zG ?_ | refine zF ?_) | refine zO ?_
  · refine xl ?_
    repeat' first | refine zK ?_ | refine zA ?_ | refine zP [] ?_ | (refine isA ?_; refine zg rfl ?_) | (refine isL ?_; refine zW rfl (by kernel_rfl) rfl rfl ?_) | (refine zd rfl ?_; refine zV rfl (by kernel_rfl) rfl rfl ?_) | refine zD ?_ | refine zB _ rfl (by kernel_rfl) ?_ | refine zX rfl ?_ | refine zY rfl ?_ | refine zC ?_ | with_reducible refine zN ?_ | refine zH ?_ | refine zI ?_ | (with_reducible first | refine zL ?_ | refine zM ?_ | refine zE ?_ | refine zG ?_ | refine zF ?_) | refine zO ?_
    refine yJ rfl rfl rfl rfl (fun h => ?_) (fun h => ?_)
    · repeat' first | refine zK ?_ | refine zA ?_ | refine zP [] ?_ | (refine isA ?_; refine zg rfl ?_) | (refine isL ?_; refine zW rfl (by kernel_rfl) rfl rfl ?_) | (refine zd rfl ?_; refine zV rfl (by kernel_rfl) rfl rfl ?_) | exact ⟨rfl, xI rfl (by repeat' first | exact EqS.nil | refine EqS.any ?_ | refine EqS.same rfl ?_)⟩ | refine zD ?_ | refine zB _ rfl (by kernel_rfl) ?_ | refine zX rfl ?_ | refine zY rfl ?_ | refine zC ?_ | with_reducible refine zN ?_ | refine zH ?_ | refine zI ?_ | (with_reducible first | refine zL ?_ | refine zM ?_ | refine zE ?_ | refine zG ?_ | refine zF ?_) | refine zO ?_
    · have hkl : k < b.length := by have := of_decide_eq_false h; simp only at this; omega
      obtain ⟨q, hq⟩ : ∃ z, b[k]? = some z := ⟨_, List.getElem?_eq_getElem hkl⟩
      have hle : decide (yp r q ≤ 0) = true := decide_eq_true (h2 q hq)
      repeat' first | refine zK ?_ | refine zA ?_ | refine zP [] ?_ | (refine isA ?_; refine zg rfl ?_) | (refine isL ?_; refine zW rfl (by kernel_rfl) rfl rfl ?_) | (refine zd rfl ?_; refine zV rfl (by kernel_rfl) rfl rfl ?_) | refine zD ?_ | refine zB _ rfl (by kernel_rfl) ?_ | refine zX rfl ?_ | refine zY rfl ?_ | refine zC ?_ | with_reducible refine zN ?_ | refine zH ?_ | refine zI ?_ | (with_reducible first | refine zL ?_ | refine zM ?_ | refine zE ?_ | refine zG ?_ | refine zF ?_) | refine zO ?_
      refine yJ rfl rfl rfl rfl (fun _ => ?_) (fun h => absurd (of_decide_eq_false h) (by simp only; omega))
      repeat' first | refine zK ?_ | refine zA ?_ | refine zP [] ?_ | (refine isA ?_; refine zg rfl ?_) | (refine isL ?_; refine zW rfl (by kernel_rfl) rfl rfl ?_) | (refine zd rfl ?_; refine zV rfl (by kernel_rfl) rfl rfl ?_) | (refine yB (x := .tmp 178) ?_; refine zb rfl (zq (j := (i : Int)) rfl rfl rfl (Nat.zero_le _) rfl rfl (Int.natCast_nonneg _) (by omega)) rfl ?_) | (refine yA (x := .tmp 178) rfl ?_; refine zU rfl (by kernel_rfl) rfl (zq (j := (i : Int)) rfl rfl rfl (Nat.zero_le _) rfl rfl (Int.natCast_nonneg _) (by omega)) rfl ?_) | (refine yB (x := .tmp 183) ?_; refine zb rfl (zq (j := (k : Int)) rfl rfl rfl (Nat.zero_le _) rfl rfl (Int.natCast_nonneg _) (by omega)) rfl ?_) | (refine yA (x := .tmp 183) rfl ?_; refine zU rfl (by kernel_rfl) rfl (zq (j := (k : Int)) rfl rfl rfl (Nat.zero_le _) rfl rfl (Int.natCast_nonneg _) (by omega)) rfl ?_) | (refine xU (x := .tmp 181) ?_; refine zb rfl (yq (T := rwT) (i := 0 + i) (z := r) rfl rfl rfl (by rw [Nat.zero_add]; exact h1)) rfl ?_) | (refine xa (x := .tmp 181) rfl ?_; refine zU rfl (by kernel_rfl) rfl (yq (T := rwT) (i := 0 + i) (z := r) rfl rfl rfl (by rw [Nat.zero_add]; exact h1)) rfl ?_) | (refine xU (x := .tmp 186) ?_; refine zb rfl (yq (T := rwT) (i := 0 + k) (z := q) rfl rfl rfl (by rw [Nat.zero_add]; exact hq)) rfl ?_) | (refine xa (x := .tmp 186) rfl ?_; refine zU rfl (by kernel_rfl) rfl (yq (T := rwT) (i := 0 + k) (z := q) rfl rfl rfl (by rw [Nat.zero_add]; exact hq)) rfl ?_) | (refine zv 64 ?_; refine zb rfl (zQ rfl (xL r q) (.cons (.same rfl) (.cons (.same rfl) .nil)) rfl) rfl ?_) | (refine zw 64 rfl ?_; refine zU rfl (by kernel_rfl) rfl (zQ rfl (xL r q) (.cons (.same rfl) (.cons (.same rfl) .nil)) rfl) rfl ?_) | exact ⟨rfl, xI rfl (by repeat' first | exact EqS.nil | refine EqS.any ?_ | refine EqS.same rfl ?_ | refine EqS.same (congrArg B hle) ?_)⟩ | refine zD ?_ | refine zB _ rfl (by kernel_rfl) ?_ | refine zX rfl ?_ | refine zY rfl ?_ | refine zC ?_ | with_reducible refine zN ?_ | refine zH ?_ | refine zI ?_ | (with_reducible first | refine zL ?_ | refine zM ?_ | refine zE ?_ | refine zG ?_ | refine zF ?_) | refine zO ?_
  · repeat' first | (refine isA ?_; refine zb rfl (yO rfl rfl rfl rfl rfl) rfl ?_) | refine zK ?_ | refine zA ?_ | refine zP [6] ?_ | (refine isA ?_; refine zg rfl ?_) | (refine isL ?_; refine zW rfl (by kernel_rfl) rfl rfl ?_) | (refine zd rfl ?_; refine zV rfl (by kernel_rfl) rfl rfl ?_) | (refine yB (x := .tmp 192) ?_; refine zb rfl (zq (j := (i : Int)) rfl rfl rfl (Nat.zero_le _) rfl rfl (Int.natCast_nonneg _) (by omega)) rfl ?_) | (refine yA (x := .tmp 192) rfl ?_; refine zU rfl (by kernel_rfl) rfl (zq (j := (i : Int)) rfl rfl rfl (Nat.zero_le _) rfl rfl (Int.natCast_nonneg _) (by omega)) rfl ?_) | (refine xU (x := .tmp 195) ?_; refine zb rfl (yq (T := rwT) (i := 0 + i) (z := r) rfl rfl rfl (by rw [Nat.zero_add]; exact h1)) rfl ?_) | (refine xa (x := .tmp 195) rfl ?_; refine zU rfl (by kernel_rfl) rfl (yq (T := rwT) (i := 0 + i) (z := r) rfl rfl rfl (by rw [Nat.zero_add]; exact h1)) rfl ?_) | (refine s5 (x := .tmp 14) ?_; refine zb rfl (wJ rfl rfl rfl rfl rfl (wa r) rfl rfl) rfl ?_) | (refine s4 (x := .tmp 14) rfl ?_; refine zU rfl (by kernel_rfl) rfl (wJ rfl rfl rfl rfl rfl (wa r) rfl rfl) rfl ?_) | (refine xU (x := .tmp 14) ?_; refine zb rfl (xT rfl rfl (zf rfl) rfl rfl) rfl ?_) | (refine xa (x := .tmp 14) rfl ?_; refine zU rfl (by kernel_rfl) rfl (xT rfl rfl (zf rfl) rfl rfl) rfl ?_) | (refine xU (x := .tmp 14) ?_; refine zb rfl (xT rfl rfl (z8 (j := (nR rwT 78 (a :: b :: rest)).length) (za (zf rfl))) rfl rfl) rfl ?_) | (refine xa (x := .tmp 14) rfl ?_; refine zU rfl (by kernel_rfl) rfl (xT rfl rfl (z8 (j := (nR rwT 78 (a :: b :: rest)).length) (za (zf rfl))) rfl rfl) rfl ?_) | (refine xb ?_; refine zb rfl (yV (t := rwT) (xs := out) (ys := [r]) rfl rfl rfl rfl (.lst _ _) (by simp; omega) rfl) rfl ?_) | (refine xH rfl ?_; refine zU rfl (by kernel_rfl) rfl (yV (t := rwT) (xs := out) (ys := [r]) rfl rfl rfl rfl (.lst _ _) (by simp; omega) rfl) rfl ?_) | (refine zv 58 ?_; refine zb rfl (zQ rfl (wt r) (.cons (.same rfl) .nil) rfl) rfl ?_) | (refine zw 58 rfl ?_; refine zU rfl (by kernel_rfl) rfl (zQ rfl (wt r) (.cons (.same rfl) .nil) rfl) rfl ?_) | (refine isL ?_; refine vR rfl (by kernel_rfl) rfl rfl ?_) | refine zD ?_ | refine zB _ rfl (by kernel_rfl) ?_ | refine zX rfl ?_ | refine zY rfl ?_ | refine zC ?_ | with_reducible refine zN ?_ | refine zH ?_ | refine zI ?_ | (with_reducible first | refine zL ?_ | refine zM ?_ | refine zE ?_ | refine zG ?_ | refine zF ?_) | refine zO ?_
    refine And.intro rfl (wT [0, 1, 2, 3, 4, 5, 6, (a :: b :: rest).length + 1 + 9, 8] (List.range' 9 (a :: b :: rest).length) rfl (by simp [vK]) (yy (by simp <;> omega) (fun h hh => by simp at hh; simp; omega)) (by repeat' first | exact HLes.nil | refine HLes.cons rfl rfl rfl rfl (zT (zJ _ _)) ?_ | refine HLes.cons rfl rfl rfl rfl (z6 rfl) ?_ | refine HLes.cons rfl rfl rfl rfl (xf (fun j hj => xr _ 9 _ j hj)) ?_ | refine HLes.cons (z8 (zf xC)) rfl rfl rfl (zT (zJ _ _)) ?_ | refine HLes.cons (z8 (zf y6)) rfl rfl rfl (zT (zJ _ _)) ?_ | refine HLes.cons (z8 (zf y5)) rfl rfl rfl (zT (zJ _ _)) ?_ | refine HLes.cons (z8 (zf xB)) rfl rfl rfl (zT (zJ _ _)) ?_ | refine HLes.cons (z8 (za (zf xC))) rfl rfl rfl (zT (zJ _ _)) ?_ | refine HLes.cons (z8 (za (zf y6))) rfl rfl rfl (zT (zJ _ _)) ?_ | refine HLes.cons (z8 (za (zf y5))) rfl rfl rfl (zT (zJ _ _)) ?_ | refine HLes.cons (z8 (za (zf xB))) rfl rfl rfl (zT (zJ _ _)) ?_ | refine HLes.cons (z8 (za (za (zf xC)))) rfl rfl rfl (zT (zJ _ _)) ?_ | refine HLes.cons (z8 (za (za (zf y6)))) rfl rfl rfl (zT (zJ _ _)) ?_ | refine HLes.cons (z8 (za (za (zf y5)))) rfl rfl rfl (zT (zJ _ _)) ?_ | refine HLes.cons (z8 (za (za (zf xB)))) rfl rfl rfl (zT (zJ _ _)) ?_ | refine HLes.cons rfl rfl rfl rfl (by repeat' first | exact zm | refine zZ ?_ ?_ | exact zo | exact le_refl rfl | exact zj rfl rfl | exact zr rfl | exact zr (congrArg some (by simp [zh] <;> omega)) | exact zj rfl (by simp) | exact zj (congrArg some (by simp [zh] <;> omega)) rfl | exact zj (congrArg some (by simp [zh] <;> omega)) (by simp [yS, endV, yF]) | exact z7 (congrArg _ (by assumption)) | exact z7 (congrArg _ (Eq.symm (by assumption)))) ?_) (fun j i x hi hx => by rw [ix9 hi]; exact v8 (za (za (xG hx)))) (by repeat' first | exact zm | refine zZ ?_ ?_ | exact zo | exact le_refl rfl | exact zj rfl rfl | exact zr rfl | exact zr (congrArg some (by simp [zh] <;> omega)) | exact zj rfl (by simp) | exact zj (congrArg some (by simp [zh] <;> omega)) rfl | exact zj (congrArg some (by simp [zh] <;> omega)) (by simp [yS, endV, yF]) | exact z7 (congrArg _ (by assumption)) | exact z7 (congrArg _ (Eq.symm (by assumption)))))
end Go.Proofs.Ytojcojanokhnaaa.Ab
namespace Go.Proofs.Ytojcojanokhnaaa.Ab
open Go.RowKit
abbrev T27 (s : So) (g : Int) (n m : Nat) (c : Bool) : St := ⟨(.any :: (I g) :: (.ptr 0 0) :: .any :: (.ptr 1 0) :: .any :: .any :: (.ptr 2 0) :: (.sl 3 0 0) :: .any :: .any :: .any :: (.sl 9 0 n) :: (.sl 10 0 m) :: .any :: .any :: .any :: .any :: .any :: .any :: .any :: .any :: .any :: .any :: .any :: .any :: .any :: .any :: .any :: .any :: .any :: .any :: .any :: .any :: .any :: .any :: .any :: .any :: .any :: .any :: .any :: .any :: .any :: .any :: .any :: .any :: .any :: .any :: .any :: .any :: .any :: .any :: .any :: .any :: .any :: .any :: .any :: .any :: .any :: .any :: .any :: .any :: .any :: .any :: .any :: .any :: .any :: .any :: .any :: .any :: .any :: .any :: .any :: .any :: .any :: .any :: .any :: .any :: .any :: .any :: .any :: .any :: .any :: .any :: .any :: .any :: .any :: .any :: .any :: .any :: .any :: .any :: .any :: .any :: .any :: .any :: .any :: .any :: .any :: .any :: .any :: .any :: .any :: .any :: .any :: .any :: .any :: .any :: .any :: .any :: .any :: .any :: .any :: .any :: .any :: .any :: .any :: .any :: .any :: .any :: .any :: .any :: .any :: .any :: .any :: .any :: .any :: .any :: .any :: .any :: .any :: .any :: .any :: .any :: .any :: .any :: .any :: .any :: .any :: .any :: .any :: .any :: .any :: .any :: .any :: .any :: .any :: .any :: .any :: .any :: .any :: .any :: .any :: .any :: .any :: .any :: .any :: .any :: (B c) :: .any :: .any :: .any :: .any :: .any :: .any :: .any :: .any :: .any :: .any :: .any :: .any :: .any :: .any :: .any :: .any :: .any :: .any :: .any :: .any :: .any :: .any :: .any :: .any :: .any :: .any :: .any :: .any :: .any :: .any :: .any :: .any :: .any :: .any :: .any :: .any :: .any :: .any :: .any :: .any :: .any :: .any :: .any :: .any :: .any :: .any :: .any :: .any :: .any :: .any :: .any :: .any :: .any :: .any :: .any :: .any :: .any :: .any :: .any :: .any :: .any :: .any :: .any :: .any :: .any :: .any :: .any :: .any :: .any :: .any :: .any :: .any :: .any :: .any :: .any :: .any :: .any :: .any :: .any :: .any :: .any :: .any :: .any :: .any :: .any :: .any :: .any :: .any :: .any :: .any :: []), stH s s [], 0⟩
theorem fx (inp heap dfr out : List Rw) (pos wr g : Int) (a b : Rn) (rest : List Rn) (i k : Nat) (r : Rw) (hok : okSo ⟨inp, pos, heap, dfr, out, a :: b :: rest, i, k, 2, wr⟩) (h1 : b[k]? = some r) (hi : i ≤ a.length) (h2 : ∀ q, a[i]? = some q → ¬ leW q r) :
    AW Go.Proofs.Try.prog uj (stQ ⟨inp, pos, heap, dfr, out, a :: b :: rest, i, k, 2, wr⟩ (wO ⟨inp, pos, heap, dfr, out, a :: b :: rest, i, k, 2, wr⟩ r) g []) (stT ⟨inp, pos, heap, dfr, out, a :: b :: rest, i, k, 2, wr⟩ ⟨inp, pos, heap, dfr, out, a :: b :: rest, i, k, 2, wr⟩ g []) := by
  have g4 := hok.out
  have g6 := hok.tot
  simp only [tot, List.map_cons, List.sum_cons] at g4 g6
  have hlt := (List.getElem?_eq_some_iff.1 h1).1
  have ew : IntKind.i64.wrap ((k : Int) + 1) = (k : Int) + 1 := by rw [IntKind.wrap_i64]; omega
  repeat' first | (refine wR 27 (T27 ⟨inp, pos, heap, dfr, out, a :: b :: rest, i, k, 2, wr⟩ g a.length b.length false) (xE ?_) ?_) | (refine wR 32 (T32 ⟨inp, pos, heap, dfr, out, a :: b :: rest, i, k, 2, wr⟩ g a.length b.length false) (xE ?_) ?_) | refine zK ?_ | refine zA ?_ | refine zP [] ?_ | (refine isA ?_; refine zg rfl ?_) | (refine isL ?_; refine zW rfl (by kernel_rfl) rfl rfl ?_) | (refine zd rfl ?_; refine zV rfl (by kernel_rfl) rfl rfl ?_) | (refine yB (x := .tmp 138) ?_; refine zb rfl (zq (j := 0) rfl rfl rfl (Nat.zero_le _) rfl rfl (by decide) (by simp; omega)) rfl ?_) | (refine yA (x := .tmp 138) rfl ?_; refine zU rfl (by kernel_rfl) rfl (zq (j := 0) rfl rfl rfl (Nat.zero_le _) rfl rfl (by decide) (by simp; omega)) rfl ?_) | (refine yB (x := .tmp 143) ?_; refine zb rfl (zq (j := 1) rfl rfl rfl (Nat.zero_le _) rfl rfl (by decide) (by simp; omega)) rfl ?_) | (refine yA (x := .tmp 143) rfl ?_; refine zU rfl (by kernel_rfl) rfl (zq (j := 1) rfl rfl rfl (Nat.zero_le _) rfl rfl (by decide) (by simp; omega)) rfl ?_) | (refine s5 (x := .tmp 14) ?_; refine zb rfl (wJ (vs := [I 0, I 0, I 0]) rfl rfl rfl rfl rfl (fun c hc => by simp at hc; subst hc; rfl) rfl rfl) rfl ?_) | (refine s4 (x := .tmp 14) rfl ?_; refine zU rfl (by kernel_rfl) rfl (wJ (vs := [I 0, I 0, I 0]) rfl rfl rfl rfl rfl (fun c hc => by simp at hc; subst hc; rfl) rfl rfl) rfl ?_) | refine zD ?_ | refine zB _ rfl (by kernel_rfl) ?_ | refine zX rfl ?_ | refine zY rfl ?_ | refine zC ?_ | with_reducible refine zN ?_ | refine zH ?_ | refine zI ?_ | (with_reducible first | refine zL ?_ | refine zM ?_ | refine zE ?_ | refine zG ?_ | refine zF ?_) | refine zO ?_
  · refine xl ?_
    have hne : decide ((k : Int) = (b.length : Int)) = false := decide_eq_false (by omega)
    repeat' first | refine zK ?_ | refine zA ?_ | refine zP [] ?_ | (refine isA ?_; refine zg rfl ?_) | (refine isL ?_; refine zW rfl (by kernel_rfl) rfl rfl ?_) | (refine zd rfl ?_; refine zV rfl (by kernel_rfl) rfl rfl ?_) | refine zD ?_ | refine zB _ rfl (by kernel_rfl) ?_ | refine zX rfl ?_ | refine zY rfl ?_ | refine zC ?_ | with_reducible refine zN ?_ | refine zH ?_ | refine zI ?_ | (with_reducible first | refine zL ?_ | refine zM ?_ | refine zE ?_ | refine zG ?_ | refine zF ?_) | refine zO ?_
    refine yX rfl rfl (fun h => ?_) (fun h => ?_)
    · repeat' first | refine zK ?_ | refine zA ?_ | refine zP [] ?_ | (refine isA ?_; refine zg rfl ?_) | (refine isL ?_; refine zW rfl (by kernel_rfl) rfl rfl ?_) | (refine zd rfl ?_; refine zV rfl (by kernel_rfl) rfl rfl ?_) | exact ⟨rfl, xI rfl (by repeat' first | exact EqS.nil | refine EqS.any ?_ | refine EqS.same rfl ?_ | refine EqS.same (congrArg B hne) ?_)⟩ | refine zD ?_ | refine zB _ rfl (by kernel_rfl) ?_ | refine zX rfl ?_ | refine zY rfl ?_ | refine zC ?_ | with_reducible refine zN ?_ | refine zH ?_ | refine zI ?_ | (with_reducible first | refine zL ?_ | refine zM ?_ | refine zE ?_ | refine zG ?_ | refine zF ?_) | refine zO ?_
    · repeat' first | refine zK ?_ | refine zA ?_ | refine zP [] ?_ | (refine isA ?_; refine zg rfl ?_) | (refine isL ?_; refine zW rfl (by kernel_rfl) rfl rfl ?_) | (refine zd rfl ?_; refine zV rfl (by kernel_rfl) rfl rfl ?_) | exact ⟨rfl, xI rfl (by repeat' first | exact EqS.nil | refine EqS.any ?_ | refine EqS.same rfl ?_)⟩ | refine zD ?_ | refine zB _ rfl (by kernel_rfl) ?_ | refine zX rfl ?_ | refine zY rfl ?_ | refine zC ?_ | with_reducible refine zN ?_ | refine zH ?_ | refine zI ?_ | (with_reducible first | refine zL ?_ | refine zM ?_ | refine zE ?_ | refine zG ?_ | refine zF ?_) | refine zO ?_
  · refine xl ?_
    repeat' first | refine zK ?_ | refine zA ?_ | refine zP [] ?_ | (refine isA ?_; refine zg rfl ?_) | (refine isL ?_; refine zW rfl (by kernel_rfl) rfl rfl ?_) | (refine zd rfl ?_; refine zV rfl (by kernel_rfl) rfl rfl ?_) | refine zD ?_ | refine zB _ rfl (by kernel_rfl) ?_ | refine zX rfl ?_ | refine zY rfl ?_ | refine zC ?_ | with_reducible refine zN ?_ | refine zH ?_ | refine zI ?_ | (with_reducible first | refine zL ?_ | refine zM ?_ | refine zE ?_ | refine zG ?_ | refine zF ?_) | refine zO ?_
    refine yJ rfl rfl rfl rfl (fun h => absurd (of_decide_eq_true h) (by simp only; omega)) (fun _ => ?_)
    repeat' first | refine zK ?_ | refine zA ?_ | refine zP [] ?_ | (refine isA ?_; refine zg rfl ?_) | (refine isL ?_; refine zW rfl (by kernel_rfl) rfl rfl ?_) | (refine zd rfl ?_; refine zV rfl (by kernel_rfl) rfl rfl ?_) | refine zD ?_ | refine zB _ rfl (by kernel_rfl) ?_ | refine zX rfl ?_ | refine zY rfl ?_ | refine zC ?_ | with_reducible refine zN ?_ | refine zH ?_ | refine zI ?_ | (with_reducible first | refine zL ?_ | refine zM ?_ | refine zE ?_ | refine zG ?_ | refine zF ?_) | refine zO ?_
    refine yJ rfl rfl rfl rfl (fun h => ?_) (fun h => ?_)
    · have hil : i < a.length := by have := of_decide_eq_true h; simp only at this; omega
      obtain ⟨q, hq⟩ : ∃ z, a[i]? = some z := ⟨_, List.getElem?_eq_getElem hil⟩
      have hle : decide (yp q r ≤ 0) = false := decide_eq_false (h2 q hq)
      repeat' first | refine zK ?_ | refine zA ?_ | refine zP [] ?_ | (refine isA ?_; refine zg rfl ?_) | (refine isL ?_; refine zW rfl (by kernel_rfl) rfl rfl ?_) | (refine zd rfl ?_; refine zV rfl (by kernel_rfl) rfl rfl ?_) | (refine yB (x := .tmp 178) ?_; refine zb rfl (zq (j := (i : Int)) rfl rfl rfl (Nat.zero_le _) rfl rfl (Int.natCast_nonneg _) (by omega)) rfl ?_) | (refine yA (x := .tmp 178) rfl ?_; refine zU rfl (by kernel_rfl) rfl (zq (j := (i : Int)) rfl rfl rfl (Nat.zero_le _) rfl rfl (Int.natCast_nonneg _) (by omega)) rfl ?_) | (refine yB (x := .tmp 183) ?_; refine zb rfl (zq (j := (k : Int)) rfl rfl rfl (Nat.zero_le _) rfl rfl (Int.natCast_nonneg _) (by omega)) rfl ?_) | (refine yA (x := .tmp 183) rfl ?_; refine zU rfl (by kernel_rfl) rfl (zq (j := (k : Int)) rfl rfl rfl (Nat.zero_le _) rfl rfl (Int.natCast_nonneg _) (by omega)) rfl ?_) | (refine xU (x := .tmp 181) ?_; refine zb rfl (yq (T := rwT) (i := 0 + i) (z := q) rfl rfl rfl (by rw [Nat.zero_add]; exact hq)) rfl ?_) | (refine xa (x := .tmp 181) rfl ?_; refine zU rfl (by kernel_rfl) rfl (yq (T := rwT) (i := 0 + i) (z := q) rfl rfl rfl (by rw [Nat.zero_add]; exact hq)) rfl ?_) | (refine xU (x := .tmp 186) ?_; refine zb rfl (yq (T := rwT) (i := 0 + k) (z := r) rfl rfl rfl (by rw [Nat.zero_add]; exact h1)) rfl ?_) | (refine xa (x := .tmp 186) rfl ?_; refine zU rfl (by kernel_rfl) rfl (yq (T := rwT) (i := 0 + k) (z := r) rfl rfl rfl (by rw [Nat.zero_add]; exact h1)) rfl ?_) | (refine zv 64 ?_; refine zb rfl (zQ rfl (xL q r) (.cons (.same rfl) (.cons (.same rfl) .nil)) rfl) rfl ?_) | (refine zw 64 rfl ?_; refine zU rfl (by kernel_rfl) rfl (zQ rfl (xL q r) (.cons (.same rfl) (.cons (.same rfl) .nil)) rfl) rfl ?_) | exact ⟨rfl, xI rfl (by repeat' first | exact EqS.nil | refine EqS.any ?_ | refine EqS.same rfl ?_ | refine EqS.same (congrArg B hle) ?_)⟩ | refine zD ?_ | refine zB _ rfl (by kernel_rfl) ?_ | refine zX rfl ?_ | refine zY rfl ?_ | refine zC ?_ | with_reducible refine zN ?_ | refine zH ?_ | refine zI ?_ | (with_reducible first | refine zL ?_ | refine zM ?_ | refine zE ?_ | refine zG ?_ | refine zF ?_) | refine zO ?_
    · repeat' first | refine zK ?_ | refine zA ?_ | refine zP [] ?_ | (refine isA ?_; refine zg rfl ?_) | (refine isL ?_; refine zW rfl (by kernel_rfl) rfl rfl ?_) | (refine zd rfl ?_; refine zV rfl (by kernel_rfl) rfl rfl ?_) | exact ⟨rfl, xI rfl (by repeat' first | exact EqS.nil | refine EqS.any ?_ | refine EqS.same rfl ?_)⟩ | refine zD ?_ | refine zB _ rfl (by kernel_rfl) ?_ | refine zX rfl ?_ | refine zY rfl ?_ | refine zC ?_ | with_reducible refine zN ?_ | refine zH ?_ | refine zI ?_ | (with_reducible first | refine zL ?_ | refine zM ?_ | refine zE ?_ | refine zG ?_ | refine zF ?_) | refine zO ?_
  · repeat' first | (refine isA ?_; refine zb rfl (yO rfl rfl rfl rfl rfl) rfl ?_) | refine zK ?_ | refine zA ?_ | refine zP [6] ?_ | (refine isA ?_; refine zg rfl ?_) | (refine isL ?_; refine zW rfl (by kernel_rfl) rfl rfl ?_) | (refine zd rfl ?_; refine zV rfl (by kernel_rfl) rfl rfl ?_) | (refine yB (x := .tmp 201) ?_; refine zb rfl (zq (j := (k : Int)) rfl rfl rfl (Nat.zero_le _) rfl rfl (Int.natCast_nonneg _) (by omega)) rfl ?_) | (refine yA (x := .tmp 201) rfl ?_; refine zU rfl (by kernel_rfl) rfl (zq (j := (k : Int)) rfl rfl rfl (Nat.zero_le _) rfl rfl (Int.natCast_nonneg _) (by omega)) rfl ?_) | (refine xU (x := .tmp 204) ?_; refine zb rfl (yq (T := rwT) (i := 0 + k) (z := r) rfl rfl rfl (by rw [Nat.zero_add]; exact h1)) rfl ?_) | (refine xa (x := .tmp 204) rfl ?_; refine zU rfl (by kernel_rfl) rfl (yq (T := rwT) (i := 0 + k) (z := r) rfl rfl rfl (by rw [Nat.zero_add]; exact h1)) rfl ?_) | (refine s5 (x := .tmp 14) ?_; refine zb rfl (wJ rfl rfl rfl rfl rfl (wa r) rfl rfl) rfl ?_) | (refine s4 (x := .tmp 14) rfl ?_; refine zU rfl (by kernel_rfl) rfl (wJ rfl rfl rfl rfl rfl (wa r) rfl rfl) rfl ?_) | (refine xU (x := .tmp 14) ?_; refine zb rfl (xT rfl rfl (zf rfl) rfl rfl) rfl ?_) | (refine xa (x := .tmp 14) rfl ?_; refine zU rfl (by kernel_rfl) rfl (xT rfl rfl (zf rfl) rfl rfl) rfl ?_) | (refine xU (x := .tmp 14) ?_; refine zb rfl (xT rfl rfl (z8 (j := (nR rwT 78 (a :: b :: rest)).length) (za (zf rfl))) rfl rfl) rfl ?_) | (refine xa (x := .tmp 14) rfl ?_; refine zU rfl (by kernel_rfl) rfl (xT rfl rfl (z8 (j := (nR rwT 78 (a :: b :: rest)).length) (za (zf rfl))) rfl rfl) rfl ?_) | (refine xb ?_; refine zb rfl (yV (t := rwT) (xs := out) (ys := [r]) rfl rfl rfl rfl (.lst _ _) (by simp; omega) rfl) rfl ?_) | (refine xH rfl ?_; refine zU rfl (by kernel_rfl) rfl (yV (t := rwT) (xs := out) (ys := [r]) rfl rfl rfl rfl (.lst _ _) (by simp; omega) rfl) rfl ?_) | (refine zv 58 ?_; refine zb rfl (zQ rfl (wt r) (.cons (.same rfl) .nil) rfl) rfl ?_) | (refine zw 58 rfl ?_; refine zU rfl (by kernel_rfl) rfl (zQ rfl (wt r) (.cons (.same rfl) .nil) rfl) rfl ?_) | (refine isL ?_; refine vR rfl (by kernel_rfl) rfl rfl ?_) | refine zD ?_ | refine zB _ rfl (by kernel_rfl) ?_ | refine zX rfl ?_ | refine zY rfl ?_ | refine zC ?_ | with_reducible refine zN ?_ | refine zH ?_ | refine zI ?_ | (with_reducible first | refine zL ?_ | refine zM ?_ | refine zE ?_ | refine zG ?_ | refine zF ?_) | refine zO ?_
    refine And.intro rfl (wT [0, 1, 2, 3, 4, 5, 6, (a :: b :: rest).length + 1 + 9, 8] (List.range' 9 (a :: b :: rest).length) rfl (by simp [wO]) (yy (by simp <;> omega) (fun h hh => by simp at hh; simp; omega)) (by repeat' first | exact HLes.nil | refine HLes.cons rfl rfl rfl rfl (zT (zJ _ _)) ?_ | refine HLes.cons rfl rfl rfl rfl (z6 rfl) ?_ | refine HLes.cons rfl rfl rfl rfl (xf (fun j hj => xr _ 9 _ j hj)) ?_ | refine HLes.cons (z8 (zf xC)) rfl rfl rfl (zT (zJ _ _)) ?_ | refine HLes.cons (z8 (zf y6)) rfl rfl rfl (zT (zJ _ _)) ?_ | refine HLes.cons (z8 (zf y5)) rfl rfl rfl (zT (zJ _ _)) ?_ | refine HLes.cons (z8 (zf xB)) rfl rfl rfl (zT (zJ _ _)) ?_ | refine HLes.cons (z8 (za (zf xC))) rfl rfl rfl (zT (zJ _ _)) ?_ | refine HLes.cons (z8 (za (zf y6))) rfl rfl rfl (zT (zJ _ _)) ?_ | refine HLes.cons (z8 (za (zf y5))) rfl rfl rfl (zT (zJ _ _)) ?_ | refine HLes.cons (z8 (za (zf xB))) rfl rfl rfl (zT (zJ _ _)) ?_ | refine HLes.cons (z8 (za (za (zf xC)))) rfl rfl rfl (zT (zJ _ _)) ?_ | refine HLes.cons (z8 (za (za (zf y6)))) rfl rfl rfl (zT (zJ _ _)) ?_ | refine HLes.cons (z8 (za (za (zf y5)))) rfl rfl rfl (zT (zJ _ _)) ?_ | refine HLes.cons (z8 (za (za (zf xB)))) rfl rfl rfl (zT (zJ _ _)) ?_ | refine HLes.cons rfl rfl rfl rfl (by repeat' first | exact zm | refine zZ ?_ ?_ | exact zo | exact le_refl rfl | exact zj rfl rfl | exact zr rfl | exact zr (congrArg some (by simp [zh] <;> omega)) | exact zj rfl (by simp) | exact zj (congrArg some (by simp [zh] <;> omega)) rfl | exact zj (congrArg some (by simp [zh] <;> omega)) (by simp [yS, endV, yF]) | exact z7 (congrArg _ (by assumption)) | exact z7 (congrArg _ (Eq.symm (by assumption)))) ?_) (fun j i x hi hx => by rw [ix9 hi]; exact v8 (za (za (xG hx)))) (by repeat' first | exact zm | refine zZ ?_ ?_ | exact zo | exact le_refl rfl | exact zj rfl rfl | exact zr rfl | exact zr (congrArg some (by simp [zh] <;> omega)) | exact zj rfl (by simp) | exact zj (congrArg some (by simp [zh] <;> omega)) rfl | exact zj (congrArg some (by simp [zh] <;> omega)) (by simp [yS, endV, yF]) | exact z7 (congrArg _ (by assumption)) | exact z7 (congrArg _ (Eq.symm (by assumption)))))
end Go.Proofs.Ytojcojanokhnaaa.Ab
namespace Go.Proofs.Ytojcojanokhnaaa.Ab
open Go.RowKit
abbrev na (b : Nat) (s : So) (o : Nat) : List V := [.sl b 0 s.input.length, I s.pos, .sl (b + 1) 0 s.heap.length, .sl (b + 2) 0 s.dfr.length, .sl (b + 3) 0 s.out.length, .sl (b + 4) o s.runs.length, I s.lp, I s.rp, I s.ph, I s.wr]
abbrev nZ (b : Nat) (s : So) (o : Nat) : List Reg := rwR s.input :: rwR s.heap :: rwR s.dfr :: rwR s.out :: ⟨84, 1, List.replicate o .any ++ nC (b + 5) s.runs, 0⟩ :: nR rwT 78 s.runs
abbrev dK (s t : So) (r : List Rw) (o : Nat) : List Reg := bxS (soE s) :: bxS zS :: bxS (na 4 t o) :: rwR r :: nZ 4 t o
abbrev stTX (s t : So) (g : Int) (r : List Rw) (o : Nat) : St := ⟨stL s g r.length, dK s t r o, 0⟩
def kR (s x : So) (g : Int) (r : List Rw) : Exit → St → Prop := fun e S' => e = .normal ∧ ∃ o, (o = 0 ∨ o = 2) ∧ Sub (stTX s x g r o) S'
theorem si {ψ : List Nat} {cs ds : List V} : ∀ {n : Nat} {pre : List V}, pre.length = n → Les ψ cs ds → Les ψ (List.replicate n V.any ++ cs) (pre ++ ds)
  | 0, pre, hp, h => by rw [List.eq_nil_of_length_eq_zero hp]; exact h
  | n + 1, [], hp, h => by simp at hp
  | n + 1, p :: pre, hp, h => zZ zo (si (by simpa using hp) h)
theorem fM {s t : So} {r : List Rw} {o : Nat} {l lT : List V} {H : List Reg} (hs ix : List Nat) (hl9 : hs.length = 9) (hl : ix.length = t.runs.length) (hn : (hs ++ ix).Nodup)
    (h1 : HLes (hs ++ ix) H hs [bxS (soE s), bxS zS, bxS (na 4 t o), rwR r, rwR t.input, rwR t.heap, rwR t.dfr, rwR t.out, ⟨84, 1, List.replicate o .any ++ nC 9 t.runs, 0⟩]) (h2 : ∀ (j i : Nat) (x : Rn), ix[j]? = some i → t.runs[j]? = some x → H[i]? = some (rwR x))
    (ht : Les (hs ++ ix) lT l) : Sub ⟨lT, dK s t r o, 0⟩ ⟨l, H, 0⟩ := by
  have := qQ hl hn h1 h2
  exact tM (T := ⟨lT, dK s t r o, 0⟩) (S := ⟨l, H, 0⟩) (hs ++ ix) rfl (fun i hi => absurd hi (Nat.not_lt_zero _)) this ht
theorem lZ {ψ hs : List Nat} {rs : List Rn} {z : Rn} {k b : Nat} (hψ : ψ = hs ++ (List.range' b rs.length ++ [k])) (h9 : hs.length = 9) : Les ψ (nC 9 (rs ++ [z])) (nC b rs ++ [.sl k 0 z.length]) := by
  have e : nC b rs ++ [.sl k 0 z.length] = nX (List.range' b rs.length ++ [k]) (rs ++ [z]) := by
    rw [ky (by simp), kz]; rfl
  rw [e]
  refine nk (by simp) fun j hj => ?_
  rw [hψ, ← h9, kp]
theorem ixB {b n j i : Nat} (h : (List.range' b n)[j]? = some i) : i = b + j := by
  rw [List.getElem?_range'] at h
  · have := Option.some.inj h; omega
  · exact Nat.lt_of_not_le fun hn => by rw [List.getElem?_eq_none (by simpa using hn)] at h; cases h
theorem nc {H : List Reg} {rs : List Rn} {z : Rn} {k b : Nat} (hR : ∀ j x, rs[j]? = some x → H[b + j]? = some (rwR x)) (hz : H[k]? = some (rwR z)) : ∀ (j i : Nat) (x : Rn), (List.range' b rs.length ++ [k])[j]? = some i → (rs ++ [z])[j]? = some x → H[i]? = some (rwR x) := fun j i x hi hx => by
  rcases Nat.lt_or_ge j rs.length with h | h
  · rw [List.getElem?_append_left (by simpa using h)] at hi
    rw [List.getElem?_append_left h] at hx
    rw [ixB hi]
    exact hR j x hx
  · rw [List.getElem?_append_right h] at hx
    rw [List.getElem?_append_right (by simpa using h), List.length_range'] at hi
    cases hj : j - rs.length with
    | zero =>
      rw [hj] at hi hx
      cases hi
      cases hx
      exact hz
    | succ q =>
      rw [hj] at hx
      simp at hx
theorem pd {hs : List Nat} {n k b : Nat} (h1 : (k :: hs).Nodup) (h2 : ∀ h ∈ k :: hs, h < b ∨ b + n ≤ h) : (hs ++ (List.range' b n ++ [k])).Nodup := by
  rw [List.nodup_cons] at h1
  rw [List.nodup_append]
  refine ⟨h1.2, ?_, fun x hx y hy => ?_⟩
  · rw [List.nodup_append]
    refine ⟨List.nodup_range', by simp, fun x hx y hy => ?_⟩
    rw [List.mem_range'_1] at hx
    simp at hy
    have := h2 k (by simp)
    omega
  · rw [List.mem_append, List.mem_range'_1, List.mem_singleton] at hy
    have := h2 x (by simp [hx])
    rcases hy with hy | hy
    · omega
    · rintro rfl
      subst hy
      exact h1.1 hx
theorem gb (inp heap dfr out : List Rw) (pos wr g : Int) (a b : Rn) (rest : List Rn) (hok : okSo ⟨inp, pos, heap, dfr, out, a :: b :: rest, a.length, b.length, 2, wr⟩) :
    AW Go.Proofs.Try.prog uj (kR ⟨inp, pos, heap, dfr, out, a :: b :: rest, a.length, b.length, 2, wr⟩ ⟨inp, pos, heap, dfr, [], rest ++ [out], 0, 0, cond (decide (rest.length + 1 = 0)) 4 (cond (decide (rest.length + 1 = 1)) 3 2), wr⟩ g []) (stT ⟨inp, pos, heap, dfr, out, a :: b :: rest, a.length, b.length, 2, wr⟩ ⟨inp, pos, heap, dfr, out, a :: b :: rest, a.length, b.length, 2, wr⟩ g []) := by
  have g5 := hok.runs
  simp only [List.length_cons] at g5
  have ae := lr (bxS (soE ⟨inp, pos, heap, dfr, out, a :: b :: rest, a.length, b.length, 2, wr⟩)) (bxS zS) (rwR []) (rwR inp) (rwR heap) (rwR dfr) (.sl 4 0 inp.length) (I pos) (.sl 5 0 heap.length) (.sl 6 0 dfr.length) (I a.length) (I b.length) (I 2) (I wr) out (nC 9 (a :: b :: rest)) 2 rest.length (by simp [xJ]; omega) (nR rwT 78 (a :: b :: rest)) (by simp [xJ]; omega)
  repeat' first | (refine wR 27 (T27 ⟨inp, pos, heap, dfr, out, a :: b :: rest, a.length, b.length, 2, wr⟩ g a.length b.length true) (xE ?_) ?_) | refine zK ?_ | refine zA ?_ | refine zP [] ?_ | (refine isA ?_; refine zg rfl ?_) | (refine isL ?_; refine zW rfl (by kernel_rfl) rfl rfl ?_) | (refine zd rfl ?_; refine zV rfl (by kernel_rfl) rfl rfl ?_) | (refine yB (x := .tmp 138) ?_; refine zb rfl (zq (j := 0) rfl rfl rfl (Nat.zero_le _) rfl rfl (by decide) (by simp; omega)) rfl ?_) | (refine yA (x := .tmp 138) rfl ?_; refine zU rfl (by kernel_rfl) rfl (zq (j := 0) rfl rfl rfl (Nat.zero_le _) rfl rfl (by decide) (by simp; omega)) rfl ?_) | (refine yB (x := .tmp 143) ?_; refine zb rfl (zq (j := 1) rfl rfl rfl (Nat.zero_le _) rfl rfl (by decide) (by simp; omega)) rfl ?_) | (refine yA (x := .tmp 143) rfl ?_; refine zU rfl (by kernel_rfl) rfl (zq (j := 1) rfl rfl rfl (Nat.zero_le _) rfl rfl (by decide) (by simp; omega)) rfl ?_) | (refine v6 ?_; refine zb rfl (yn (l := (2 : Int)) (h := ((a :: b :: rest).length : Int)) rfl rfl rfl (Nat.zero_le _) rfl (.yes _ rfl) (.no _) (by decide) (by simp; omega) (by simp)) rfl ?_) | (refine v5 rfl ?_; refine zU rfl (by kernel_rfl) rfl (yn (l := (2 : Int)) (h := ((a :: b :: rest).length : Int)) rfl rfl rfl (Nat.zero_le _) rfl (.yes _ rfl) (.no _) (by decide) (by simp; omega) (by simp)) rfl ?_) | refine zD ?_ | refine zB _ rfl (by kernel_rfl) ?_ | refine zX rfl ?_ | refine zY rfl ?_ | refine zC ?_ | with_reducible refine zN ?_ | refine zH ?_ | refine zI ?_ | (with_reducible first | refine zL ?_ | refine zM ?_ | refine zE ?_ | refine zG ?_ | refine zF ?_) | refine zO ?_
  · refine xl ?_
    have hne : decide ((b.length : Int) = (b.length : Int)) = true := by simp
    repeat' first | refine zK ?_ | refine zA ?_ | refine zP [] ?_ | (refine isA ?_; refine zg rfl ?_) | (refine isL ?_; refine zW rfl (by kernel_rfl) rfl rfl ?_) | (refine zd rfl ?_; refine zV rfl (by kernel_rfl) rfl rfl ?_) | refine zD ?_ | refine zB _ rfl (by kernel_rfl) ?_ | refine zX rfl ?_ | refine zY rfl ?_ | refine zC ?_ | with_reducible refine zN ?_ | refine zH ?_ | refine zI ?_ | (with_reducible first | refine zL ?_ | refine zM ?_ | refine zE ?_ | refine zG ?_ | refine zF ?_) | refine zO ?_
    refine yX rfl rfl (fun _ => ?_) (fun h => absurd (of_decide_eq_false h) (by simp))
    repeat' first | refine zK ?_ | refine zA ?_ | refine zP [] ?_ | (refine isA ?_; refine zg rfl ?_) | (refine isL ?_; refine zW rfl (by kernel_rfl) rfl rfl ?_) | (refine zd rfl ?_; refine zV rfl (by kernel_rfl) rfl rfl ?_) | exact ⟨rfl, xI rfl (by repeat' first | exact EqS.nil | refine EqS.any ?_ | refine EqS.same rfl ?_ | refine EqS.same (congrArg B hne) ?_)⟩ | refine zD ?_ | refine zB _ rfl (by kernel_rfl) ?_ | refine zX rfl ?_ | refine zY rfl ?_ | refine zC ?_ | with_reducible refine zN ?_ | refine zH ?_ | refine zI ?_ | (with_reducible first | refine zL ?_ | refine zM ?_ | refine zE ?_ | refine zG ?_ | refine zF ?_) | refine zO ?_
  · refine do_X rfl (pU rfl ae rfl) (fun v H' hq => ?_)
    obtain ⟨o', pre, p1, p2, rfl, rfl⟩ := hq
    refine ⟨_, _, rfl, ?_⟩
    repeat' first | refine zK ?_ | refine zA ?_ | refine zP [] ?_ | (refine isA ?_; refine zg rfl ?_) | (refine isL ?_; refine zW rfl (by kernel_rfl) rfl rfl ?_) | (refine zd rfl ?_; refine zV rfl (by kernel_rfl) rfl rfl ?_) | (refine zv 63 ?_; refine zb rfl (yT rfl (su _ _ _ _ _ _ _ _ _ _ _ _ _ _ _) rfl) rfl ?_) | (refine zw 63 rfl ?_; refine zU rfl (by kernel_rfl) rfl (yT rfl (su _ _ _ _ _ _ _ _ _ _ _ _ _ _ _) rfl) rfl ?_) | refine zD ?_ | refine zB _ rfl (by kernel_rfl) ?_ | refine zX rfl ?_ | refine zY rfl ?_ | refine zC ?_ | with_reducible refine zN ?_ | refine zH ?_ | refine zI ?_ | (with_reducible first | refine zL ?_ | refine zM ?_ | refine zE ?_ | refine zG ?_ | refine zF ?_) | refine zO ?_
    refine ⟨rfl, o', p2.symm, Sub.trans ?_ (uq (l' := _) 78 3 (.rest _) (.cons (.rest _) (.cons (.rest _) (.cons (.cons (.same _) (.cons (.same _) (.cons (.same _) (.cons (.same _) (.cons .nil (.rest _)))))) (.rest _)))))⟩
    refine fM [0, 1, 2, 3, 4, 5, 6, (a :: b :: rest).length + 2 + 9, (a :: b :: rest).length + 1 + 9] (List.range' 11 rest.length ++ [7]) rfl (by simp) (pd (by simp <;> omega) (fun h hh => by simp at hh; omega)) ?_ (nc (fun j x hx => by rw [show 11 + j = (2 + j) + 9 by omega]; exact z8 (za (za (za (xG (by rw [Nat.add_comm]; exact hx)))))) rfl) (by repeat' first | exact zm | refine zZ ?_ ?_ | exact zo | exact le_refl rfl | exact zj rfl rfl | exact zr rfl | exact zr (congrArg some (by simp [zh] <;> omega)) | exact zj rfl (by simp) | exact zj (congrArg some (by simp [zh] <;> omega)) rfl | exact zj (congrArg some (by simp [zh] <;> omega)) (by simp [yS, endV, yF]) | exact z7 (congrArg _ (by assumption)) | exact z7 (congrArg _ (Eq.symm (by assumption))))
    refine .cons rfl rfl rfl rfl (z6 rfl) (.cons rfl rfl rfl rfl (z6 rfl) (.cons rfl rfl rfl rfl ?_ (.cons rfl rfl rfl rfl (zT (zJ _ _)) (.cons rfl rfl rfl rfl (zT (zJ _ _)) (.cons rfl rfl rfl rfl (zT (zJ _ _)) (.cons rfl rfl rfl rfl (zT (zJ _ _)) (.cons (z8 (zf y5)) rfl rfl rfl (zT (zJ _ _)) (.cons (z8 (za (zf y6))) rfl rfl rfl (by rw [List.append_assoc]; exact si p1 (lZ rfl rfl)) .nil))))))))
    exact (by repeat' first | exact zm | refine zZ ?_ ?_ | exact zo | exact le_refl rfl | exact zj rfl rfl | exact zr rfl | exact zr (congrArg some (by simp [zh] <;> omega)) | exact zj rfl (by simp) | exact zj (congrArg some (by simp [zh] <;> omega)) rfl | exact zj (congrArg some (by simp [zh] <;> omega)) (by simp [yS, endV, yF]) | exact z7 (congrArg _ (by assumption)) | exact z7 (congrArg _ (Eq.symm (by assumption))))
end Go.Proofs.Ytojcojanokhnaaa.Ab
namespace Go.Proofs.Ytojcojanokhnaaa.Ab
open Go.RowKit
theorem nq {P : Program} (id : Nat) {ops : Array Oper} {b : Bool} {c y : Code} {Q : Exit → St → Prop} {S : St} (T0 : St) (T : Nat → St) (p : Nat → Prop) (hs : Sub T0 S) (h : AW P (.seq (.region id ops b) c) (fun e S' => e = .normal ∧ ∃ o, p o ∧ Sub (T o) S') T0) (k : ∀ o, p o → AW P y Q (T o)) : AW P (.seq (.seq (.region id ops b) c) y) Q S :=
  uD hs (zK ⟨fun C φ a w hI => wp_mono (h.out C φ a w hI) fun e a' w' hq => by
    obtain ⟨S', φ1, hI', he, o, hp, hs⟩ := hq
    subst he
    obtain ⟨φ2, h2⟩ := hs C φ1 a' w' hI'
    exact ⟨T o, φ2, h2, k o hp⟩⟩)
theorem jL {l : List V} {H : List Reg} {al : Bool} {t : Tmp} {us : List Tmp} {n : Nat} {v r : V} {K : List Reg} {post : V → List Reg → Prop} (ψ : List Nat) (hp : post r K) (hv : CellIs l H t n v) (hr : Le ψ r (.tup (v :: us.map fun u => (l[u]?).getD .any))) (hH : HLe ψ K H) (hal : al = true ∨ (tn r = true ∧ ∀ q ∈ K, q.mode ≠ 1 ∧ (q.mode = 0 → vl q.cells))) :
    (Exit.ret = .ret ∨ Exit.ret = .normal) ∧ ∃ v, CellIs l H t n v ∧ ∃ r K, post r K ∧ Out al r K (.tup (v :: us.map fun u => (l[u]?).getD .any)) ⟨l, H, 0⟩ := ⟨Or.inl rfl, v, hv, r, K, hp, t5 (S := ⟨l, H, 0⟩) ψ (fun i hi => absurd hi (Nat.not_lt_zero _)) hH hr hal⟩
theorem lO (b : Nat) (s : So) (o : Nat) : ∀ q ∈ nZ b s o, q.mode ≠ 1 ∧ (q.mode = 0 → vl q.cells) := fun q hq => by
  rcases List.mem_cons.1 hq with rfl | hq
  · exact xd _
  rcases List.mem_cons.1 hq with rfl | hq
  · exact xd _
  rcases List.mem_cons.1 hq with rfl | hq
  · exact xd _
  rcases List.mem_cons.1 hq with rfl | hq
  · exact xd _
  rcases List.mem_cons.1 hq with rfl | hq
  · refine ⟨Nat.zero_ne_one, fun _ c hc => ?_⟩
    rcases List.mem_append.1 hc with hc | hc
    · rw [List.mem_replicate] at hc
      rw [hc.2]
    · exact uz _ _ c hc
  · obtain ⟨x, hx, rfl⟩ := List.mem_map.1 hq
    exact xd _
def eQ (x : So) (r : List Rw) : V → List Reg → Prop := fun v K => ∃ o, (o = 0 ∨ o = 2) ∧ v = .tup [.agg (na 1 x o), .sl 0 0 r.length, B true] ∧ K = rwR r :: nZ 1 x o
theorem gd (s x : So) (g : Int) (r : List Rw) (hok : okSo s) (hv : vS s = true) (h1 : inV g 8 60 = true) (hp : s.ph ≠ 4) (h : AW Go.Proofs.Try.prog uj (kR s x g r) (stT s s g [])) : vi Go.Proofs.Try.prog 13 [.agg (soE s), I g] [] (eQ x r) false := by
  have hfl : ∀ o, ∀ q ∈ rwR r :: nZ 1 x o, q.mode ≠ 1 ∧ (q.mode = 0 → vl q.cells) := fun o q hq => by
    rcases List.mem_cons.1 hq with rfl | hq
    · exact xd _
    · exact lO _ _ _ q hq
  have a1 := nG s hok
  rw [hv] at a1
  have a2 := qX g
  rw [h1] at a2
  refine pi 4 27 [5, 6] Go.Proofs.Try.func13 rfl rfl rfl ?_
  simp only [Go.Proofs.Try.ntmps13, List.length_cons, List.length_nil, Nat.reduceAdd, Nat.reduceSub, List.replicate_succ, List.replicate_zero, List.cons_append, List.nil_append]
  repeat' first | (refine nq 5 (stT s s g []) (fun o => stTX s x g r o) (fun o => o = 0 ∨ o = 2) (xE ?_) (xE ?_) (fun o ho => xE ?_)) | (exact absurd (of_decide_eq_true ‹decide (s.ph = 4) = true›) hp) | refine zK ?_ | refine zA ?_ | refine zP [] ?_ | (refine isA ?_; refine zg rfl ?_) | (refine isL ?_; refine zW rfl (by kernel_rfl) rfl rfl ?_) | (refine zd rfl ?_; refine zV rfl (by kernel_rfl) rfl rfl ?_) | (refine zv 56 ?_; refine zb rfl (yC (r' := .agg (soO 2 s)) (H' := bxS (soE s) :: bxS zS :: soR 2 s) rfl (tG s hok) (.cons (.same rfl) .nil) (qk 0 2 s) (by rw [qj]; rfl)) rfl ?_) | (refine zw 56 rfl ?_; refine zU rfl (by kernel_rfl) rfl (yC (r' := .agg (soO 2 s)) (H' := bxS (soE s) :: bxS zS :: soR 2 s) rfl (tG s hok) (.cons (.same rfl) .nil) (qk 0 2 s) (by rw [qj]; rfl)) rfl ?_) | (refine s5 (x := .tmp 7) ?_; refine zb rfl (xO (vs := soO 2 s) rfl rfl rfl rfl (fun c hc => by simp at hc; rcases hc with rfl | rfl | rfl | rfl | rfl | rfl | rfl | rfl | rfl | rfl <;> rfl) (zf rfl) rfl (Nat.le_refl _)) rfl ?_) | (refine s4 (x := .tmp 7) rfl ?_; refine zU rfl (by kernel_rfl) rfl (xO (vs := soO 2 s) rfl rfl rfl rfl (fun c hc => by simp at hc; rcases hc with rfl | rfl | rfl | rfl | rfl | rfl | rfl | rfl | rfl | rfl <;> rfl) (zf rfl) rfl (Nat.le_refl _)) rfl ?_) | (refine zv 17 ?_; refine zb rfl (zQ rfl a1 (.cons (.same rfl) .nil) rfl) rfl ?_) | (refine zw 17 rfl ?_; refine zU rfl (by kernel_rfl) rfl (zQ rfl a1 (.cons (.same rfl) .nil) rfl) rfl ?_) | (refine zv 57 ?_; refine zb rfl (zQ rfl a2 (.cons (.same rfl) .nil) rfl) rfl ?_) | (refine zw 57 rfl ?_; refine zU rfl (by kernel_rfl) rfl (zQ rfl a2 (.cons (.same rfl) .nil) rfl) rfl ?_) | refine zD ?_ | refine zB _ rfl (by kernel_rfl) ?_ | refine zX rfl ?_ | refine zY rfl ?_ | refine zC ?_ | with_reducible refine zN ?_ | refine zH ?_ | refine zI ?_ | (with_reducible first | refine zL ?_ | refine zM ?_ | refine zE ?_ | refine zG ?_ | refine zF ?_) | refine zO ?_ | refine zk rfl (fun hbr => ?_) (fun hbr => ?_)
  · refine xl ?_
    rw [uu rfl]
    have kl : (bxS (soE s) :: bxS zS :: soR 2 s).length = s.runs.length + 7 := by simp [zh]
    refine wT [0, 1, s.runs.length + 7, s.runs.length + 8, 2, 3, 4, 5, 6] (List.range' 7 s.runs.length) rfl (by simp) (yy (by simp <;> omega) (fun h hh => by simp at hh; omega)) ?_ (fun j i x hi hx => by rw [ix7 hi]; exact za (za (get7 (xG hx)))) (by repeat' first | exact zm | refine zZ ?_ ?_ | exact zo | exact le_refl rfl | exact zj rfl rfl | exact zr rfl | exact zr (congrArg some (by simp [zh] <;> omega)) | exact zj rfl (by simp) | exact zj (congrArg some (by simp [zh] <;> omega)) rfl | exact zj (congrArg some (by simp [zh] <;> omega)) (by simp [yS, endV, yF]) | exact z7 (congrArg _ (by assumption)) | exact z7 (congrArg _ (Eq.symm (by assumption))))
    refine .cons rfl rfl rfl rfl (z6 rfl) (.cons rfl rfl rfl rfl (z6 rfl) (.cons (za (zf kl)) rfl rfl rfl ?_ (.cons (zf (by rw [List.length_append, kl]; rfl)) rfl rfl rfl zm (.cons rfl rfl rfl rfl (zT (zJ _ _)) (.cons rfl rfl rfl rfl (zT (zJ _ _)) (.cons rfl rfl rfl rfl (zT (zJ _ _)) (.cons rfl rfl rfl rfl (zT (zJ _ _)) (.cons rfl rfl rfl rfl (xf fun j hj => xr [0, 1, s.runs.length + 7, s.runs.length + 8, 2, 3, 4, 5, 6] 7 _ j hj) .nil))))))))
    exact (by repeat' first | exact zm | refine zZ ?_ ?_ | exact zo | exact le_refl rfl | exact zj rfl rfl | exact zr rfl | exact zr (congrArg some (by simp [zh] <;> omega)) | exact zj rfl (by simp) | exact zj (congrArg some (by simp [zh] <;> omega)) rfl | exact zj (congrArg some (by simp [zh] <;> omega)) (by simp [yS, endV, yF]) | exact z7 (congrArg _ (by assumption)) | exact z7 (congrArg _ (Eq.symm (by assumption))))
  · exact xl h
  · refine xl ?_
    repeat' first | refine zK ?_ | refine zA ?_ | refine zP [] ?_ | (refine isA ?_; refine zg rfl ?_) | (refine isL ?_; refine zW rfl (by kernel_rfl) rfl rfl ?_) | (refine zd rfl ?_; refine zV rfl (by kernel_rfl) rfl rfl ?_) | refine zD ?_ | refine zB _ rfl (by kernel_rfl) ?_ | refine zX rfl ?_ | refine zY rfl ?_ | refine zC ?_ | with_reducible refine zN ?_ | refine zH ?_ | refine zI ?_ | (with_reducible first | refine zL ?_ | refine zM ?_ | refine zE ?_ | refine zG ?_ | refine zF ?_) | refine zO ?_
    have hh : HLe ([3, 4, 5, 6, 7, 8] ++ List.range' 9 x.runs.length) (rwR r :: nZ 1 x o) (bxS (soE s) :: bxS (na 4 x o) :: bxS (na 4 x o) :: rwR r :: nZ 4 x o) := v7 (T := rwT) (e := 78) (b := 9) (rs := x.runs) (H := bxS (soE s) :: bxS (na 4 x o) :: bxS (na 4 x o) :: rwR r :: nZ 4 x o) (hs := [3, 4, 5, 6, 7, 8]) (K1 := [rwR r, rwR x.input, rwR x.heap, rwR x.dfr, rwR x.out, ⟨84, 1, List.replicate o V.any ++ nC 6 x.runs, 0⟩]) (yy (by decide) (fun h hh => by simp at hh; omega)) (.cons rfl rfl rfl rfl (zT (zJ _ _)) (.cons rfl rfl rfl rfl (zT (zJ _ _)) (.cons rfl rfl rfl rfl (zT (zJ _ _)) (.cons rfl rfl rfl rfl (zT (zJ _ _)) (.cons rfl rfl rfl rfl (zT (zJ _ _)) (.cons rfl rfl rfl rfl (si (pre := List.replicate o V.any) List.length_replicate (xf fun j hj => xr [3, 4, 5, 6, 7, 8] 9 _ j hj)) .nil)))))) (fun j x hx => v8 (xG hx))
    exact jL (post := eQ x r) ([3, 4, 5, 6, 7, 8] ++ List.range' 9 x.runs.length) ⟨o, ho, rfl, rfl⟩ (yW rfl rfl rfl rfl rfl) (qu (zZ (sj (by repeat' first | exact zm | refine zZ ?_ ?_ | exact zo | exact le_refl rfl | exact zj rfl rfl | exact zr rfl | exact zr (congrArg some (by simp [zh] <;> omega)) | exact zj rfl (by simp) | exact zj (congrArg some (by simp [zh] <;> omega)) rfl | exact zj (congrArg some (by simp [zh] <;> omega)) (by simp [yS, endV, yF]) | exact z7 (congrArg _ (by assumption)) | exact z7 (congrArg _ (Eq.symm (by assumption))))) (zZ (zj rfl rfl) (zZ (le_refl rfl) zm)))) hh (Or.inr ⟨rfl, hfl o⟩)
theorem fT {H : List Reg} {s : So} {h1 h2 h3 h4 h5 b o : Nat} (e1 : H[h1]? = some (rwR s.input)) (e2 : H[h2]? = some (rwR s.heap)) (e3 : H[h3]? = some (rwR s.dfr)) (e4 : H[h4]? = some (rwR s.out)) (e5 : H[h5]? = some ⟨84, 1, List.replicate o V.any ++ nC b s.runs, 0⟩) (e6 : ∀ j x, s.runs[j]? = some x → H[b + j]? = some (rwR x)) :
    Pur true H (.agg [.sl h1 0 s.input.length, I s.pos, .sl h2 0 s.heap.length, .sl h3 0 s.dfr.length, .sl h4 0 s.out.length, .sl h5 o s.runs.length, I s.lp, I s.rp, I s.ph, I s.wr]) (.agg (soE s)) := by
  have q := lS (T := rwT) (h := h5) (b := b) (pre := List.replicate o V.any) (rs := s.runs) e5 e6
  rw [List.length_replicate] at q
  exact .agg (.cons (zt e1) (.cons (.same rfl) (.cons (zt e2) (.cons (zt e3) (.cons (zt e4) (.cons q (.cons (.same rfl) (.cons (.same rfl) (.cons (.same rfl) (.cons (.same rfl) .nil))))))))))
theorem gc (s x : So) (g : Int) (r : List Rw) (hok : okSo s) (hv : vS s = true) (h1 : inV g 8 60 = true) (hp : s.ph ≠ 4) (h : AW Go.Proofs.Try.prog uj (kR s x g r) (stT s s g [])) : zz Go.Proofs.Try.prog 13 [.agg (soE s), I g] [] (.tup [.agg (soE x), rwL r, B true]) [] true :=
  (gd s x g r hok hv h1 hp h).frozen (fun v K hq => by
    obtain ⟨o, _, rfl, rfl⟩ := hq
    exact .tup (.cons (fT rfl rfl rfl rfl rfl fun j y hy => by rw [Nat.add_comm]; exact xG hy) (.cons (zt rfl) (.cons (.same rfl) .nil))))
theorem mA {s x : So} {g : Int} {r : List Rw} (h : AW Go.Proofs.Try.prog uj (stQ s x g r) (stT s s g [])) : AW Go.Proofs.Try.prog uj (kR s x g r) (stT s s g []) :=
  h.mono fun e S' hq => ⟨hq.1, 0, Or.inl rfl, hq.2⟩
theorem dw (s x : So) (g : Int) (r : List Rw) (hok : okSo s) (hv : vS s = true) (h : StepV s g x r) : AW Go.Proofs.Try.prog uj (kR s x g r) (stT s s g []) := by
  have hV := vA.1 hv
  cases hV with
  | read b q => exact mA (dx s x g r hok hv q.ph h)
  | @merge b t ph c d rest i j hr hi hj m =>
    obtain ⟨inp, pos, heap, dfr, out, runs, lp, rp, ph', wr⟩ := s
    simp only at ph hr hi hj m
    subst ph hr hi hj
    have m1 := m.ha
    have m2 := m.hb
    cases h with
    | put h1 => simp at h1
    | pop h1 => simp at h1
    | swap h1 => simp at h1
    | close h1 => simp at h1
    | emit h1 => simp at h1
    | @merged a' b' rest' h1 h2 h3 h4 =>
      simp only [List.cons.injEq] at h2
      obtain ⟨rfl, rfl, rfl⟩ := h2
      simp only at h3 h4
      obtain rfl : i = c.length := by omega
      obtain rfl : j = d.length := by omega
      have e : yF (uA ⟨inp, pos, heap, dfr, out, c :: d :: rest, c.length, d.length, 2, wr⟩) = ⟨inp, pos, heap, dfr, [], rest ++ [out], 0, 0, cond (decide (rest.length + 1 = 0)) 4 (cond (decide (rest.length + 1 = 1)) 3 2), wr⟩ := by
        simp [yF, uA]
      rw [e]
      exact gb inp heap dfr out pos wr g c d rest hok
    | @left a' b' rest' q h1 h2 h3 h4 =>
      simp only [List.cons.injEq] at h2
      obtain ⟨rfl, rfl, rfl⟩ := h2
      simp only [Int.toNat_natCast] at h3 h4
      exact mA (dy inp heap dfr out pos wr g c d rest i j q hok h3 m2 h4)
    | @right a' b' rest' q h1 h2 h3 h4 =>
      simp only [List.cons.injEq] at h2
      obtain ⟨rfl, rfl, rfl⟩ := h2
      simp only [Int.toNat_natCast] at h3 h4
      exact mA (fx inp heap dfr out pos wr g c d rest i j q hok h3 m1 h4)
  | @emit b t ph c i hr hi hl hrp ho =>
    cases h with
    | put h1 => omega
    | pop h1 => omega
    | swap h1 => omega
    | close h1 => omega
    | merged h1 => omega
    | left h1 => omega
    | right h1 => omega
    | @emit a' q h1 h2 h3 =>
      rw [hr] at h2
      simp only [List.cons.injEq, and_true] at h2
      subst h2
      rw [hi, Int.toNat_natCast] at h3
      exact mA (d5 s g c q i hok ph hr hi h3)
  | done b t ph =>
    cases h with
    | put h1 => omega
    | pop h1 => omega
    | swap h1 => omega
    | close h1 => omega
    | merged h1 => omega
    | left h1 => omega
    | right h1 => omega
    | emit h1 => omega
theorem kQ {s x : So} {g : Int} {r : List Rw} (h : StepV s g x r) : s.ph ≠ 4 := by
  cases h <;> omega
theorem fy (s x : So) (g : Int) (r : List Rw) (hok : okSo s) (hv : vS s = true) (h1 : inV g 8 60 = true) (h : StepV s g x r) : zz Go.Proofs.Try.prog 13 [.agg (soE s), I g] [] (.tup [.agg (soE x), rwL r, B true]) [] true :=
  gc s x g r hok hv h1 (kQ h) (dw s x g r hok hv h)
end Go.Proofs.Ytojcojanokhnaaa.Ab
namespace Go.Proofs.Ytojcojanokhnaaa.Ab
open Go.RowKit
theorem ko {H : List Reg} {h zi ty o : Nat} {pre : List V} {outs : List Rn} {run : Rn} (hp : pre.length = o) (hH : H[h]? = some ⟨ty, 1, pre ++ rnT.flat outs ++ [.sl zi 0 run.length], 0⟩) (hz : H[zi]? = some (rwR run)) : Pur true H (.sl h o (outs.length + 1)) (rnL (outs ++ [run])) := by
  subst hp
  have fl : (rnT.flat outs).length = outs.length := by rw [yL]; show outs.length * 1 = _; omega
  have e : (outs ++ [run]).length = outs.length + 1 := by simp
  rw [← e]
  refine .slN hH (Or.inr ⟨rfl, rfl⟩) (Nat.lt_succ_self 0) (by simp only [List.length_append, fl, List.length_singleton]; omega) ?_
  have q : (List.take ((outs ++ [run]).length * 1) (List.drop (pre.length * 1) (pre ++ rnT.flat outs ++ [.sl zi 0 run.length]))) = rnT.flat outs ++ [.sl zi 0 run.length] := by
    rw [Nat.mul_one, Nat.mul_one, List.append_assoc, List.drop_append_of_le_length (Nat.le_refl _), List.drop_length, List.nil_append, List.take_of_length_le (by simp only [List.length_append, fl, List.length_singleton]; omega)]
  show Purs true H (List.take ((outs ++ [run]).length * 1) (List.drop (pre.length * 1) (pre ++ rnT.flat outs ++ [.sl zi 0 run.length]))) (rnT.flat (outs ++ [run]))
  rw [q, tW]
  exact sT (tO (zJ _ _)) (.cons (zt hz) .nil)
theorem ka (inp heap dfr out : List Rw) (pos wr g : Int) (a b : Rn) (rest : List Rn) (hok : okSo ⟨inp, pos, heap, dfr, out, a :: b :: rest, a.length, b.length, 2, wr⟩) (hv : vS ⟨inp, pos, heap, dfr, out, a :: b :: rest, a.length, b.length, 2, wr⟩ = true) (hg : inV g 8 60 = true) :
    zz Go.Proofs.Try.prog 14 [.agg (soE ⟨inp, pos, heap, dfr, out, a :: b :: rest, a.length, b.length, 2, wr⟩), I g] [] (.tup [.agg (soH ⟨inp, pos, heap, dfr, [], rest ++ [out], 0, 0, cond (decide (rest.length + 1 = 0)) 4 (cond (decide (rest.length + 1 = 1)) 3 2), wr⟩), rwL [], B true]) [rwR (⟨inp, pos, heap, dfr, [], rest ++ [out], 0, 0, cond (decide (rest.length + 1 = 0)) 4 (cond (decide (rest.length + 1 = 1)) 3 2), wr⟩ : So).heap] true := by
  have g5 := hok.runs
  simp only [List.length_cons] at g5
  have ac := xm _ hok
  have a1 := uB _ hok
  rw [hv] at a1
  have a2 := uC g 8 60
  rw [hg] at a2
  have b1 := wQ (a :: b :: rest) 0 a.length hok.rn (by decide)
  have b2 := wQ (a :: b :: rest) 1 b.length hok.rn (by decide)
  have e0 : wU (a :: b :: rest) 0 a.length = [] := by simp [wU]
  have e1 : wU (a :: b :: rest) 1 b.length = [] := by simp [wU]
  rw [e0] at b1
  rw [e1] at b2
  have fl : (rnT.flat (a :: b :: rest)).length = 2 + rest.length := by rw [yL]; show (a :: b :: rest).length * 1 = _; simp; omega
  refine ya 4 27 [5, 6] Go.Proofs.Try.func14 rfl rfl rfl ?_
  simp only [Go.Proofs.Try.ntmps14, List.length_cons, List.length_nil, Nat.reduceAdd, Nat.reduceSub, List.replicate_succ, List.replicate_zero, List.cons_append, List.nil_append]
  repeat' first | (refine zk rfl (fun h => absurd (of_decide_eq_true h) (by simp only; decide)) (fun _ => ?_)) | (refine zk rfl (fun _ => ?_) (fun h => absurd (of_decide_eq_false h) (by simp only; decide))) | (refine uN 7 (fun H => H[7]? = some (bxS (soP 2 ⟨inp, pos, heap, dfr, out, a :: b :: rest, a.length, b.length, 2, wr⟩)) ∧ H[6]? = some (rnR (a :: b :: rest))) 10 rfl (xE ?_)) | refine zK ?_ | refine zA ?_ | refine zP [] ?_ | (refine isA ?_; refine zg rfl ?_) | (refine isL ?_; refine zW rfl (by kernel_rfl) rfl rfl ?_) | (refine zd rfl ?_; refine zV rfl (by kernel_rfl) rfl rfl ?_) | (refine zv 65 ?_; refine zb rfl (yC (r' := .agg (soP 2 ⟨inp, pos, heap, dfr, out, a :: b :: rest, a.length, b.length, 2, wr⟩)) (H' := bxS (soE ⟨inp, pos, heap, dfr, out, a :: b :: rest, a.length, b.length, 2, wr⟩) :: bxS zS :: soW ⟨inp, pos, heap, dfr, out, a :: b :: rest, a.length, b.length, 2, wr⟩) rfl ac (.cons (.same rfl) .nil) rfl (by simp only [List.map_cons, List.map_nil, shR, yH _ (yU (zJ _ _))]; rfl)) rfl ?_) | (refine zw 65 rfl ?_; refine zU rfl (by kernel_rfl) rfl (yC (r' := .agg (soP 2 ⟨inp, pos, heap, dfr, out, a :: b :: rest, a.length, b.length, 2, wr⟩)) (H' := bxS (soE ⟨inp, pos, heap, dfr, out, a :: b :: rest, a.length, b.length, 2, wr⟩) :: bxS zS :: soW ⟨inp, pos, heap, dfr, out, a :: b :: rest, a.length, b.length, 2, wr⟩) rfl ac (.cons (.same rfl) .nil) rfl (by simp only [List.map_cons, List.map_nil, shR, yH _ (yU (zJ _ _))]; rfl)) rfl ?_) | (refine zv 18 ?_; refine zb rfl (zQ rfl a1 (.cons (.same rfl) .nil) rfl) rfl ?_) | (refine zw 18 rfl ?_; refine zU rfl (by kernel_rfl) rfl (zQ rfl a1 (.cons (.same rfl) .nil) rfl) rfl ?_) | (refine zv 66 ?_; refine zb rfl (zQ rfl a2 (.cons (.same rfl) (.cons (.same rfl) (.cons (.same rfl) .nil))) rfl) rfl ?_) | (refine zw 66 rfl ?_; refine zU rfl (by kernel_rfl) rfl (zQ rfl a2 (.cons (.same rfl) (.cons (.same rfl) (.cons (.same rfl) .nil))) rfl) rfl ?_) | (refine zv 71 ?_; refine zb rfl (zQ rfl b1 (.cons (.same rfl) (.cons (.same rfl) (.cons (.same rfl) .nil))) rfl) rfl ?_) | (refine zw 71 rfl ?_; refine zU rfl (by kernel_rfl) rfl (zQ rfl b1 (.cons (.same rfl) (.cons (.same rfl) (.cons (.same rfl) .nil))) rfl) rfl ?_) | (refine zv 71 ?_; refine zb rfl (zQ rfl b2 (.cons (.same rfl) (.cons (.same rfl) (.cons (.same rfl) .nil))) rfl) rfl ?_) | (refine zw 71 rfl ?_; refine zU rfl (by kernel_rfl) rfl (zQ rfl b2 (.cons (.same rfl) (.cons (.same rfl) (.cons (.same rfl) .nil))) rfl) rfl ?_) | refine zD ?_ | refine zB _ rfl (by kernel_rfl) ?_ | refine zX rfl ?_ | refine zY rfl ?_ | refine zC ?_ | with_reducible refine zN ?_ | refine zH ?_ | refine zI ?_ | (with_reducible first | refine zL ?_ | refine zM ?_ | refine zE ?_ | refine zG ?_ | refine zF ?_) | refine zO ?_
  refine xl ?_
  refine yR 0 (Or.inr ⟨rfl, rfl⟩) rfl rfl (by kernel_rfl) rfl (fun _ => rfl) rfl ?_
  refine sW 1 ⟨rfl, rfl⟩ (by kernel_rfl) rfl (by kernel_rfl) rfl (fun _ hG => xo rfl rfl hG.1 rfl rfl) rfl ?_
  refine sW 2 ⟨rfl, rfl⟩ (by kernel_rfl) rfl (by kernel_rfl) rfl (fun _ hG => yn (l := (2 : Int)) (h := ((a :: b :: rest).length : Int)) rfl rfl hG.2 (Nat.zero_le _) rfl (.yes _ rfl) (.no _) (by decide) (by simp; omega) (by simp)) rfl ?_
  refine yR 3 (Or.inr ⟨rfl, rfl⟩) rfl rfl (by kernel_rfl) rfl (fun _ => rfl) rfl ?_
  refine sW 4 ⟨rfl, rfl⟩ (by kernel_rfl) rfl (by kernel_rfl) rfl (fun _ hG => xo rfl rfl hG.1 rfl rfl) rfl ?_
  refine yR 5 (Or.inr ⟨rfl, rfl⟩) rfl rfl (by kernel_rfl) rfl (fun _ => rfl) rfl ?_
  refine xk 6 (by kernel_rfl) rfl rfl rfl (Or.inr ⟨rfl, rfl⟩) rfl ?_
  refine kq 7 (by kernel_rfl) rfl rfl (dD (hz := 8) (v := .sl 5 0 out.length) (n := rest.length) (off := 2) (cells := rnT.flat (a :: b :: rest)) rfl rfl rfl rfl rfl rfl fl (by omega)) (fun v H' hq => Or.inl (by kernel_rfl)) (fun v H' hq => ?_)
  obtain ⟨o', pre, p1, p2, rfl, rfl⟩ := hq
  refine ⟨_, _, rfl, ?_⟩
  refine yR 8 (Or.inl (by kernel_rfl)) rfl rfl (by kernel_rfl) rfl (fun _ => rfl) rfl ?_
  refine xk 9 (by kernel_rfl) rfl rfl rfl (Or.inl (by kernel_rfl)) rfl ?_
  refine w5 (by kernel_rfl) ?_
  repeat' first | refine zK ?_ | refine zA ?_ | refine zP [] ?_ | (refine isA ?_; refine zg rfl ?_) | (refine isL ?_; refine zW rfl (by kernel_rfl) rfl rfl ?_) | (refine zd rfl ?_; refine zV rfl (by kernel_rfl) rfl rfl ?_) | (refine zv 70 ?_; refine zb rfl (yT rfl (tF _ _ _ _ _ _ _ _ _ _ _ _ _ _ _ _ _ _ _ _ _ _ _ _ _ _ _ _ _ _ _) rfl) rfl ?_) | (refine zw 70 rfl ?_; refine zU rfl (by kernel_rfl) rfl (yT rfl (tF _ _ _ _ _ _ _ _ _ _ _ _ _ _ _ _ _ _ _ _ _ _ _ _ _ _ _ _ _ _ _) rfl) rfl ?_) | refine zD ?_ | refine zB _ rfl (by kernel_rfl) ?_ | refine zX rfl ?_ | refine zY rfl ?_ | refine zC ?_ | with_reducible refine zN ?_ | refine zH ?_ | refine zI ?_ | (with_reducible first | refine zL ?_ | refine zM ?_ | refine zE ?_ | refine zG ?_ | refine zF ?_) | refine zO ?_
  exact xh (yW rfl rfl rfl rfl rfl) rfl rfl (zJ _ _) (by repeat' first | exact Purs.nil | refine Purs.cons ?_ ?_ | exact zt rfl | exact yP rfl rfl | exact zt (T := rwT) (x := []) rfl | exact Pur.nil | exact Pur.same rfl | exact yx (by assumption)) (.cons (zt rfl) (.cons (zt (T := rwT) (x := []) rfl) (.cons (ko p1 rfl rfl) (.cons (.same rfl) (.cons (.same rfl) (.cons (.same rfl) (.cons (.same rfl) .nil))))))) (.cons (zt (T := rwT) (x := []) rfl) (.cons (.same rfl) .nil))
theorem gW (s x : So) (g : Int) (r : List Rw) (hok : okSo s) (hv : vS s = true) (h1 : inV g 8 60 = true) (h : StepV s g x r) : zz Go.Proofs.Try.prog 14 [.agg (soE s), I g] [] (.tup [.agg (soH x), rwL r, B true]) [rwR x.heap] true := by
  have hV := vA.1 hv
  cases hV with
  | read b q => exact lm s x g r hok hv h1 q.ph h
  | @merge b t ph c d rest i j hr hi hj m =>
    obtain ⟨inp, pos, heap, dfr, out, runs, lp, rp, ph', wr⟩ := s
    simp only at ph hr hi hj m
    subst ph hr hi hj
    have m1 := m.ha
    have m2 := m.hb
    cases h with
    | put h1 => simp at h1
    | pop h1 => simp at h1
    | swap h1 => simp at h1
    | close h1 => simp at h1
    | emit h1 => simp at h1
    | @merged a' b' rest' h3 h2 h4 h5 =>
      simp only [List.cons.injEq] at h2
      obtain ⟨rfl, rfl, rfl⟩ := h2
      simp only at h4 h5
      obtain rfl : i = c.length := by omega
      obtain rfl : j = d.length := by omega
      have e : yF (uA ⟨inp, pos, heap, dfr, out, c :: d :: rest, c.length, d.length, 2, wr⟩) = ⟨inp, pos, heap, dfr, [], rest ++ [out], 0, 0, cond (decide (rest.length + 1 = 0)) 4 (cond (decide (rest.length + 1 = 1)) 3 2), wr⟩ := by
        simp [yF, uA]
      rw [e]
      exact ka inp heap dfr out pos wr g c d rest hok hv h1
    | @left a' b' rest' q h5 h2 h3 h4 =>
      simp only [List.cons.injEq] at h2
      obtain ⟨rfl, rfl, rfl⟩ := h2
      simp only [Int.toNat_natCast] at h3 h4
      exact dN inp heap dfr out pos wr g c d rest i j q hok hv h1 h3 m2 h4
    | @right a' b' rest' q h5 h2 h3 h4 =>
      simp only [List.cons.injEq] at h2
      obtain ⟨rfl, rfl, rfl⟩ := h2
      simp only [Int.toNat_natCast] at h3 h4
      exact fP inp heap dfr out pos wr g c d rest i j q hok hv h1 h3 m1 h4
  | @emit b t ph c i hr hi hl hrp ho =>
    obtain ⟨inp, pos, heap, dfr, out, runs, lp, rp, ph', wr⟩ := s
    simp only at ph hr hi
    subst ph hr hi
    cases h with
    | put h1 => simp at h1
    | pop h1 => simp at h1
    | swap h1 => simp at h1
    | close h1 => simp at h1
    | merged h1 => simp at h1
    | left h1 => simp at h1
    | right h1 => simp at h1
    | @emit a' q h5 h2 h3 =>
      simp only [List.cons.injEq, and_true] at h2
      subst h2
      simp only [Int.toNat_natCast] at h3
      exact dO inp heap dfr out pos wr rp g c i q hok hv h1 h3
  | done b t ph =>
    cases h with
    | put h1 => omega
    | pop h1 => omega
    | swap h1 => omega
    | close h1 => omega
    | merged h1 => omega
    | left h1 => omega
    | right h1 => omega
    | emit h1 => omega
end Go.Proofs.Ytojcojanokhnaaa.Ab
namespace Go.Proofs.Ytojcojanokhnaaa.Ab
open Go.RowKit
abbrev rnNX (rs : List Rn) (o : Nat) : List Reg := ⟨84, 1, List.replicate o V.any ++ nC 1 rs, 0⟩ :: nR rwT 78 rs
end Go.Proofs.Ytojcojanokhnaaa.Ab
namespace Go.Proofs.Ytojcojanokhnaaa.Ab
open Go.RowKit
abbrev stN (s : So) : List Reg := bxS (soE s) :: bxS zS :: bxS (soO 3 s) :: soR 3 s
theorem ge (s : So) (g : Int) (hok : okSo s) (h : vS s = false ∨ inV g 8 60 = false ∨ s.ph = 4) : zz Go.Proofs.Try.prog 13 [.agg (soE s), I g] [] (.tup [.agg (soO 0 s), wS, B false]) (soR 0 s) false := by
  have a1 := nG s hok
  have a2 := qX g
  have kl : (bxS (soE s) :: bxS zS :: soR 2 s).length = s.runs.length + 7 := by simp [zh]
  have hS : HLe ([0, 1, s.runs.length + 7, 2, 3, 4, 5, 6] ++ List.range' 7 s.runs.length) (stN s) ((bxS (soE s) :: bxS zS :: soR 2 s) ++ [bxS (soO 2 s)]) :=
    v7 (T := rwT) (e := 78) (b := 7) (rs := s.runs) (H := (bxS (soE s) :: bxS zS :: soR 2 s) ++ [bxS (soO 2 s)]) (hs := [0, 1, s.runs.length + 7, 2, 3, 4, 5, 6]) (K1 := [bxS (soE s), bxS zS, bxS (soO 3 s), rwR s.input, rwR s.heap, rwR s.dfr, rwR s.out, (⟨84, 1, nC 8 s.runs, 0⟩ : Reg)]) (yy (by simp <;> omega) (fun h hh => by simp at hh; omega))
      (.cons rfl rfl rfl rfl (z6 rfl) (.cons rfl rfl rfl rfl (z6 rfl) (.cons (zf kl) rfl rfl rfl (by repeat' first | exact zm | refine zZ ?_ ?_ | exact zo | exact le_refl rfl | exact zj rfl rfl | exact zr rfl) (.cons rfl rfl rfl rfl (zT (zJ _ _)) (.cons rfl rfl rfl rfl (zT (zJ _ _)) (.cons rfl rfl rfl rfl (zT (zJ _ _)) (.cons rfl rfl rfl rfl (zT (zJ _ _)) (.cons rfl rfl rfl rfl (xf fun j hj => xr [0, 1, s.runs.length + 7, 2, 3, 4, 5, 6] 7 _ j hj) .nil)))))))) (fun j x hx => za (get7 (xG hx)))
  have hE : ∀ a0 a1 a2 : Reg, HLe ([3, 4, 5, 6, 7] ++ List.range' 8 s.runs.length) (soR 0 s) (a0 :: a1 :: a2 :: soR 3 s) := fun a0 a1 a2 =>
    v7 (T := rwT) (e := 78) (b := 8) (rs := s.runs) (H := a0 :: a1 :: a2 :: soR 3 s) (hs := [3, 4, 5, 6, 7]) (K1 := [rwR s.input, rwR s.heap, rwR s.dfr, rwR s.out, (⟨84, 1, nC 5 s.runs, 0⟩ : Reg)]) (yy (by decide) (fun h hh => by simp at hh; omega)) (.cons rfl rfl rfl rfl (zT (zJ _ _)) (.cons rfl rfl rfl rfl (zT (zJ _ _)) (.cons rfl rfl rfl rfl (zT (zJ _ _)) (.cons rfl rfl rfl rfl (zT (zJ _ _)) (.cons rfl rfl rfl rfl (xf fun j hj => xr [3, 4, 5, 6, 7] 8 _ j hj) .nil))))) (fun j x hx => by rw [show 8 + j = j + 8 from Nat.add_comm 8 j]; exact xG hx)
  refine ya 4 27 [5, 6] Go.Proofs.Try.func13 rfl rfl rfl ?_
  simp only [Go.Proofs.Try.ntmps13, List.length_cons, List.length_nil, Nat.reduceAdd, Nat.reduceSub, List.replicate_succ, List.replicate_zero, List.cons_append, List.nil_append]
  repeat' first | (refine wR 2 ⟨(.any :: .any :: (.ptr 0 0) :: .any :: (.ptr 1 0) :: wS :: (B false) :: (.ptr 2 0) :: .any :: .any :: .any :: .any :: .any :: .any :: .any :: .any :: .any :: .any :: .any :: .any :: .any :: .any :: .any :: .any :: .any :: .any :: .any :: .any :: .any :: (B true) :: .any :: .any :: .any :: .any :: .any :: .any :: .any :: .any :: .any :: .any :: .any :: .any :: .any :: .any :: .any :: .any :: .any :: .any :: .any :: .any :: .any :: .any :: .any :: .any :: .any :: .any :: .any :: .any :: .any :: .any :: .any :: .any :: .any :: .any :: .any :: .any :: .any :: .any :: .any :: .any :: .any :: .any :: .any :: .any :: .any :: .any :: .any :: .any :: .any :: .any :: .any :: .any :: .any :: .any :: .any :: .any :: .any :: .any :: .any :: .any :: .any :: .any :: .any :: .any :: .any :: .any :: .any :: .any :: .any :: .any :: .any :: .any :: .any :: .any :: .any :: .any :: .any :: .any :: .any :: .any :: .any :: .any :: .any :: .any :: .any :: .any :: .any :: .any :: .any :: .any :: .any :: .any :: .any :: .any :: .any :: .any :: .any :: .any :: .any :: .any :: .any :: .any :: .any :: .any :: .any :: .any :: .any :: .any :: .any :: .any :: .any :: .any :: .any :: .any :: .any :: .any :: .any :: .any :: .any :: .any :: .any :: .any :: .any :: .any :: .any :: .any :: .any :: .any :: .any :: .any :: .any :: .any :: .any :: .any :: .any :: .any :: .any :: .any :: .any :: .any :: .any :: .any :: .any :: .any :: .any :: .any :: .any :: .any :: .any :: .any :: .any :: .any :: .any :: .any :: .any :: .any :: .any :: .any :: .any :: .any :: .any :: .any :: .any :: .any :: .any :: .any :: .any :: .any :: .any :: .any :: .any :: .any :: .any :: .any :: .any :: .any :: .any :: .any :: .any :: .any :: .any :: .any :: .any :: .any :: .any :: .any :: .any :: .any :: .any :: .any :: .any :: .any :: .any :: .any :: .any :: .any :: .any :: .any :: .any :: .any :: .any :: .any :: .any :: .any :: .any :: .any :: .any :: .any :: .any :: .any :: .any :: .any :: .any :: .any :: .any :: .any :: .any :: .any :: .any :: []), stN s, 0⟩ (xE ?_) ?_) | refine zK ?_ | refine zA ?_ | refine zP [] ?_ | (refine isA ?_; refine zg rfl ?_) | (refine isL ?_; refine zW rfl (by kernel_rfl) rfl rfl ?_) | (refine zd rfl ?_; refine zV rfl (by kernel_rfl) rfl rfl ?_) | (refine zv 56 ?_; refine zb rfl (yC (r' := .agg (soO 2 s)) (H' := bxS (soE s) :: bxS zS :: soR 2 s) rfl (tG s hok) (.cons (.same rfl) .nil) (qk 0 2 s) (by rw [qj]; rfl)) rfl ?_) | (refine zw 56 rfl ?_; refine zU rfl (by kernel_rfl) rfl (yC (r' := .agg (soO 2 s)) (H' := bxS (soE s) :: bxS zS :: soR 2 s) rfl (tG s hok) (.cons (.same rfl) .nil) (qk 0 2 s) (by rw [qj]; rfl)) rfl ?_) | (refine s5 (x := .tmp 7) ?_; refine zb rfl (xO (vs := soO 2 s) rfl rfl rfl rfl (fun c hc => by simp at hc; rcases hc with rfl | rfl | rfl | rfl | rfl | rfl | rfl | rfl | rfl | rfl <;> rfl) (zf rfl) rfl (Nat.le_refl _)) rfl ?_) | (refine s4 (x := .tmp 7) rfl ?_; refine zU rfl (by kernel_rfl) rfl (xO (vs := soO 2 s) rfl rfl rfl rfl (fun c hc => by simp at hc; rcases hc with rfl | rfl | rfl | rfl | rfl | rfl | rfl | rfl | rfl | rfl <;> rfl) (zf rfl) rfl (Nat.le_refl _)) rfl ?_) | refine zD ?_ | refine zB _ rfl (by kernel_rfl) ?_ | refine zX rfl ?_ | refine zY rfl ?_ | refine zC ?_ | with_reducible refine zN ?_ | refine zH ?_ | refine zI ?_ | (with_reducible first | refine zL ?_ | refine zM ?_ | refine zE ?_ | refine zG ?_ | refine zF ?_) | refine zO ?_
  · refine xl ?_
    rw [uu rfl]
    have fin : ∀ (l : List V), Les ([0, 1, s.runs.length + 7, 2, 3, 4, 5, 6] ++ List.range' 7 s.runs.length) (.any :: .any :: (.ptr 0 0) :: .any :: (.ptr 1 0) :: wS :: (B false) :: (.ptr 2 0) :: .any :: .any :: .any :: .any :: .any :: .any :: .any :: .any :: .any :: .any :: .any :: .any :: .any :: .any :: .any :: .any :: .any :: .any :: .any :: .any :: .any :: (B true) :: .any :: .any :: .any :: .any :: .any :: .any :: .any :: .any :: .any :: .any :: .any :: .any :: .any :: .any :: .any :: .any :: .any :: .any :: .any :: .any :: .any :: .any :: .any :: .any :: .any :: .any :: .any :: .any :: .any :: .any :: .any :: .any :: .any :: .any :: .any :: .any :: .any :: .any :: .any :: .any :: .any :: .any :: .any :: .any :: .any :: .any :: .any :: .any :: .any :: .any :: .any :: .any :: .any :: .any :: .any :: .any :: .any :: .any :: .any :: .any :: .any :: .any :: .any :: .any :: .any :: .any :: .any :: .any :: .any :: .any :: .any :: .any :: .any :: .any :: .any :: .any :: .any :: .any :: .any :: .any :: .any :: .any :: .any :: .any :: .any :: .any :: .any :: .any :: .any :: .any :: .any :: .any :: .any :: .any :: .any :: .any :: .any :: .any :: .any :: .any :: .any :: .any :: .any :: .any :: .any :: .any :: .any :: .any :: .any :: .any :: .any :: .any :: .any :: .any :: .any :: .any :: .any :: .any :: .any :: .any :: .any :: .any :: .any :: .any :: .any :: .any :: .any :: .any :: .any :: .any :: .any :: .any :: .any :: .any :: .any :: .any :: .any :: .any :: .any :: .any :: .any :: .any :: .any :: .any :: .any :: .any :: .any :: .any :: .any :: .any :: .any :: .any :: .any :: .any :: .any :: .any :: .any :: .any :: .any :: .any :: .any :: .any :: .any :: .any :: .any :: .any :: .any :: .any :: .any :: .any :: .any :: .any :: .any :: .any :: .any :: .any :: .any :: .any :: .any :: .any :: .any :: .any :: .any :: .any :: .any :: .any :: .any :: .any :: .any :: .any :: .any :: .any :: .any :: .any :: .any :: .any :: .any :: .any :: .any :: .any :: .any :: .any :: .any :: .any :: .any :: .any :: .any :: .any :: .any :: .any :: .any :: .any :: .any :: .any :: .any :: .any :: .any :: .any :: .any :: []) l → Sub ⟨(.any :: .any :: (.ptr 0 0) :: .any :: (.ptr 1 0) :: wS :: (B false) :: (.ptr 2 0) :: .any :: .any :: .any :: .any :: .any :: .any :: .any :: .any :: .any :: .any :: .any :: .any :: .any :: .any :: .any :: .any :: .any :: .any :: .any :: .any :: .any :: (B true) :: .any :: .any :: .any :: .any :: .any :: .any :: .any :: .any :: .any :: .any :: .any :: .any :: .any :: .any :: .any :: .any :: .any :: .any :: .any :: .any :: .any :: .any :: .any :: .any :: .any :: .any :: .any :: .any :: .any :: .any :: .any :: .any :: .any :: .any :: .any :: .any :: .any :: .any :: .any :: .any :: .any :: .any :: .any :: .any :: .any :: .any :: .any :: .any :: .any :: .any :: .any :: .any :: .any :: .any :: .any :: .any :: .any :: .any :: .any :: .any :: .any :: .any :: .any :: .any :: .any :: .any :: .any :: .any :: .any :: .any :: .any :: .any :: .any :: .any :: .any :: .any :: .any :: .any :: .any :: .any :: .any :: .any :: .any :: .any :: .any :: .any :: .any :: .any :: .any :: .any :: .any :: .any :: .any :: .any :: .any :: .any :: .any :: .any :: .any :: .any :: .any :: .any :: .any :: .any :: .any :: .any :: .any :: .any :: .any :: .any :: .any :: .any :: .any :: .any :: .any :: .any :: .any :: .any :: .any :: .any :: .any :: .any :: .any :: .any :: .any :: .any :: .any :: .any :: .any :: .any :: .any :: .any :: .any :: .any :: .any :: .any :: .any :: .any :: .any :: .any :: .any :: .any :: .any :: .any :: .any :: .any :: .any :: .any :: .any :: .any :: .any :: .any :: .any :: .any :: .any :: .any :: .any :: .any :: .any :: .any :: .any :: .any :: .any :: .any :: .any :: .any :: .any :: .any :: .any :: .any :: .any :: .any :: .any :: .any :: .any :: .any :: .any :: .any :: .any :: .any :: .any :: .any :: .any :: .any :: .any :: .any :: .any :: .any :: .any :: .any :: .any :: .any :: .any :: .any :: .any :: .any :: .any :: .any :: .any :: .any :: .any :: .any :: .any :: .any :: .any :: .any :: .any :: .any :: .any :: .any :: .any :: .any :: .any :: .any :: .any :: .any :: .any :: .any :: .any :: []), stN s, 0⟩ ⟨l, (bxS (soE s) :: bxS zS :: soR 2 s) ++ [bxS (soO 2 s)], 0⟩ := fun l hl => tM (T := ⟨_, stN s, 0⟩) (S := ⟨l, _, 0⟩) _ rfl (fun i hi => absurd hi (Nat.not_lt_zero _)) hS hl
    have kl2 : (nR rwT 78 s.runs).length = s.runs.length := xC
    rcases Bool.eq_false_or_eq_true (vS s) with hv | hv
    · rw [hv] at a1
      rcases Bool.eq_false_or_eq_true (inV g 8 60) with hg | hg
      · rw [hg] at a2
        have h4 : s.ph = 4 := by rw [hv, hg] at h; simpa using h
        have h4' : decide (s.ph = 4) = true := decide_eq_true h4
        repeat' first | refine zK ?_ | refine zA ?_ | refine zP [] ?_ | (refine isA ?_; refine zg rfl ?_) | (refine isL ?_; refine zW rfl (by kernel_rfl) rfl rfl ?_) | (refine zd rfl ?_; refine zV rfl (by kernel_rfl) rfl rfl ?_) | (refine zv 17 ?_; refine zb rfl (zQ rfl a1 (.cons (.same rfl) .nil) rfl) rfl ?_) | (refine zw 17 rfl ?_; refine zU rfl (by kernel_rfl) rfl (zQ rfl a1 (.cons (.same rfl) .nil) rfl) rfl ?_) | (refine zv 57 ?_; refine zb rfl (zQ rfl a2 (.cons (.same rfl) .nil) rfl) rfl ?_) | (refine zw 57 rfl ?_; refine zU rfl (by kernel_rfl) rfl (zQ rfl a2 (.cons (.same rfl) .nil) rfl) rfl ?_) | refine zD ?_ | refine zB _ rfl (by kernel_rfl) ?_ | refine zX rfl ?_ | refine zY rfl ?_ | refine zC ?_ | with_reducible refine zN ?_ | refine zH ?_ | refine zI ?_ | (with_reducible first | refine zL ?_ | refine zM ?_ | refine zE ?_ | refine zG ?_ | refine zF ?_) | refine zO ?_
        exact ⟨rfl, fin _ (by repeat' first | exact zm | refine zZ ?_ ?_ | exact zo | exact le_refl rfl | exact zj rfl rfl | exact zr rfl | exact zr (congrArg some (by simp [zh] <;> omega)) | exact zj rfl (by simp) | exact zj (congrArg some (by simp [zh] <;> omega)) rfl | exact zj (congrArg some (by simp [zh] <;> omega)) (by simp [yS, endV, yF]) | exact z7 (congrArg _ (by assumption)) | exact z7 (congrArg _ (Eq.symm (by assumption))))⟩
      · rw [hg] at a2
        repeat' first | refine zK ?_ | refine zA ?_ | refine zP [] ?_ | (refine isA ?_; refine zg rfl ?_) | (refine isL ?_; refine zW rfl (by kernel_rfl) rfl rfl ?_) | (refine zd rfl ?_; refine zV rfl (by kernel_rfl) rfl rfl ?_) | (refine zv 17 ?_; refine zb rfl (zQ rfl a1 (.cons (.same rfl) .nil) rfl) rfl ?_) | (refine zw 17 rfl ?_; refine zU rfl (by kernel_rfl) rfl (zQ rfl a1 (.cons (.same rfl) .nil) rfl) rfl ?_) | (refine zv 57 ?_; refine zb rfl (zQ rfl a2 (.cons (.same rfl) .nil) rfl) rfl ?_) | (refine zw 57 rfl ?_; refine zU rfl (by kernel_rfl) rfl (zQ rfl a2 (.cons (.same rfl) .nil) rfl) rfl ?_) | refine zD ?_ | refine zB _ rfl (by kernel_rfl) ?_ | refine zX rfl ?_ | refine zY rfl ?_ | refine zC ?_ | with_reducible refine zN ?_ | refine zH ?_ | refine zI ?_ | (with_reducible first | refine zL ?_ | refine zM ?_ | refine zE ?_ | refine zG ?_ | refine zF ?_) | refine zO ?_
        exact ⟨rfl, fin _ (by repeat' first | exact zm | refine zZ ?_ ?_ | exact zo | exact le_refl rfl | exact zj rfl rfl | exact zr rfl | exact zr (congrArg some (by simp [zh] <;> omega)) | exact zj rfl (by simp) | exact zj (congrArg some (by simp [zh] <;> omega)) rfl | exact zj (congrArg some (by simp [zh] <;> omega)) (by simp [yS, endV, yF]) | exact z7 (congrArg _ (by assumption)) | exact z7 (congrArg _ (Eq.symm (by assumption))))⟩
    · rw [hv] at a1
      repeat' first | refine zK ?_ | refine zA ?_ | refine zP [] ?_ | (refine isA ?_; refine zg rfl ?_) | (refine isL ?_; refine zW rfl (by kernel_rfl) rfl rfl ?_) | (refine zd rfl ?_; refine zV rfl (by kernel_rfl) rfl rfl ?_) | (refine zv 17 ?_; refine zb rfl (zQ rfl a1 (.cons (.same rfl) .nil) rfl) rfl ?_) | (refine zw 17 rfl ?_; refine zU rfl (by kernel_rfl) rfl (zQ rfl a1 (.cons (.same rfl) .nil) rfl) rfl ?_) | refine zD ?_ | refine zB _ rfl (by kernel_rfl) ?_ | refine zX rfl ?_ | refine zY rfl ?_ | refine zC ?_ | with_reducible refine zN ?_ | refine zH ?_ | refine zI ?_ | (with_reducible first | refine zL ?_ | refine zM ?_ | refine zE ?_ | refine zG ?_ | refine zF ?_) | refine zO ?_
      exact ⟨rfl, fin _ (by repeat' first | exact zm | refine zZ ?_ ?_ | exact zo | exact le_refl rfl | exact zj rfl rfl | exact zr rfl | exact zr (congrArg some (by simp [zh] <;> omega)) | exact zj rfl (by simp) | exact zj (congrArg some (by simp [zh] <;> omega)) rfl | exact zj (congrArg some (by simp [zh] <;> omega)) (by simp [yS, endV, yF]) | exact z7 (congrArg _ (by assumption)) | exact z7 (congrArg _ (Eq.symm (by assumption))))⟩
  · exact fj ([3, 4, 5, 6, 7] ++ List.range' 8 s.runs.length) (yW rfl rfl rfl rfl rfl) (qu (zZ (sj (by repeat' first | exact zm | refine zZ ?_ ?_ | exact zo | exact le_refl rfl | exact zj rfl rfl | exact zr rfl | exact zr (congrArg some (by simp [zh] <;> omega)) | exact zj rfl (by simp) | exact zj (congrArg some (by simp [zh] <;> omega)) rfl | exact zj (congrArg some (by simp [zh] <;> omega)) (by simp [yS, endV, yF]) | exact z7 (congrArg _ (by assumption)) | exact z7 (congrArg _ (Eq.symm (by assumption))))) (zZ (le_refl rfl) (zZ (le_refl rfl) zm)))) (hE _ _ _) (Or.inr ⟨rfl, pX _ _⟩)
theorem ll (s : So) (g : Int) (hok : okSo s) (h : vS s = false ∨ inV g 8 60 = false ∨ s.ph = 4) : zz Go.Proofs.Try.prog 14 [.agg (soE s), I g] [] (.tup [.agg (soH s), rwL [], B false]) [rwR s.heap] true := by
  have ac := xm s hok
  have a1 := uB s hok
  have a2 := uC g 8 60
  rcases Bool.eq_false_or_eq_true (vS s) with hv | hv
  · rw [hv] at a1
    rcases Bool.eq_false_or_eq_true (inV g 8 60) with hg | hg
    · rw [hg] at a2
      have h4 : s.ph = 4 := by rw [hv, hg] at h; simpa using h
      refine ya 4 27 [5, 6] Go.Proofs.Try.func14 rfl rfl rfl ?_
      simp only [Go.Proofs.Try.ntmps14, List.length_cons, List.length_nil, Nat.reduceAdd, Nat.reduceSub, List.replicate_succ, List.replicate_zero, List.cons_append, List.nil_append]
      repeat' first | (refine isA ?_; refine zb rfl (yO rfl rfl rfl rfl rfl) rfl ?_) | (refine zk rfl (fun _ => ?_) (fun h => absurd h4 (of_decide_eq_false h))) | refine zK ?_ | refine zA ?_ | refine zP [] ?_ | (refine isA ?_; refine zg rfl ?_) | (refine isL ?_; refine zW rfl (by kernel_rfl) rfl rfl ?_) | (refine zd rfl ?_; refine zV rfl (by kernel_rfl) rfl rfl ?_) | (refine zv 65 ?_; refine zb rfl (yC (r' := .agg (soP 2 s)) (H' := bxS (soE s) :: bxS zS :: soW s) rfl ac (.cons (.same rfl) .nil) rfl (by simp only [List.map_cons, List.map_nil, shR, yH _ (yU (zJ _ _))]; rfl)) rfl ?_) | (refine zw 65 rfl ?_; refine zU rfl (by kernel_rfl) rfl (yC (r' := .agg (soP 2 s)) (H' := bxS (soE s) :: bxS zS :: soW s) rfl ac (.cons (.same rfl) .nil) rfl (by simp only [List.map_cons, List.map_nil, shR, yH _ (yU (zJ _ _))]; rfl)) rfl ?_) | (refine zv 18 ?_; refine zb rfl (zQ rfl a1 (.cons (.same rfl) .nil) rfl) rfl ?_) | (refine zw 18 rfl ?_; refine zU rfl (by kernel_rfl) rfl (zQ rfl a1 (.cons (.same rfl) .nil) rfl) rfl ?_) | (refine zv 66 ?_; refine zb rfl (zQ rfl a2 (.cons (.same rfl) (.cons (.same rfl) (.cons (.same rfl) .nil))) rfl) rfl ?_) | (refine zw 66 rfl ?_; refine zU rfl (by kernel_rfl) rfl (zQ rfl a2 (.cons (.same rfl) (.cons (.same rfl) (.cons (.same rfl) .nil))) rfl) rfl ?_) | refine zD ?_ | refine zB _ rfl (by kernel_rfl) ?_ | refine zX rfl ?_ | refine zY rfl ?_ | refine zC ?_ | with_reducible refine zN ?_ | refine zH ?_ | refine zI ?_ | (with_reducible first | refine zL ?_ | refine zM ?_ | refine zE ?_ | refine zG ?_ | refine zF ?_) | refine zO ?_
      exact xh (yW rfl rfl rfl rfl rfl) rfl rfl (zJ _ _) (by repeat' first | exact Purs.nil | refine Purs.cons ?_ ?_ | exact zt rfl | exact yP rfl rfl | exact zt (T := rwT) (x := []) rfl | exact Pur.nil | exact Pur.same rfl | exact yx (by assumption)) (by repeat' first | exact Purs.nil | refine Purs.cons ?_ ?_ | exact zt rfl | exact yP rfl rfl | exact zt (T := rwT) (x := []) rfl | exact Pur.nil | exact Pur.same rfl | exact yx (by assumption)) (.cons (.same rfl) (.cons (.same rfl) .nil))
    · rw [hg] at a2
      refine ya 4 27 [5, 6] Go.Proofs.Try.func14 rfl rfl rfl ?_
      simp only [Go.Proofs.Try.ntmps14, List.length_cons, List.length_nil, Nat.reduceAdd, Nat.reduceSub, List.replicate_succ, List.replicate_zero, List.cons_append, List.nil_append]
      repeat' first | (refine isA ?_; refine zb rfl (yO rfl rfl rfl rfl rfl) rfl ?_) | refine zK ?_ | refine zA ?_ | refine zP [] ?_ | (refine isA ?_; refine zg rfl ?_) | (refine isL ?_; refine zW rfl (by kernel_rfl) rfl rfl ?_) | (refine zd rfl ?_; refine zV rfl (by kernel_rfl) rfl rfl ?_) | (refine zv 65 ?_; refine zb rfl (yC (r' := .agg (soP 2 s)) (H' := bxS (soE s) :: bxS zS :: soW s) rfl ac (.cons (.same rfl) .nil) rfl (by simp only [List.map_cons, List.map_nil, shR, yH _ (yU (zJ _ _))]; rfl)) rfl ?_) | (refine zw 65 rfl ?_; refine zU rfl (by kernel_rfl) rfl (yC (r' := .agg (soP 2 s)) (H' := bxS (soE s) :: bxS zS :: soW s) rfl ac (.cons (.same rfl) .nil) rfl (by simp only [List.map_cons, List.map_nil, shR, yH _ (yU (zJ _ _))]; rfl)) rfl ?_) | (refine zv 18 ?_; refine zb rfl (zQ rfl a1 (.cons (.same rfl) .nil) rfl) rfl ?_) | (refine zw 18 rfl ?_; refine zU rfl (by kernel_rfl) rfl (zQ rfl a1 (.cons (.same rfl) .nil) rfl) rfl ?_) | (refine zv 66 ?_; refine zb rfl (zQ rfl a2 (.cons (.same rfl) (.cons (.same rfl) (.cons (.same rfl) .nil))) rfl) rfl ?_) | (refine zw 66 rfl ?_; refine zU rfl (by kernel_rfl) rfl (zQ rfl a2 (.cons (.same rfl) (.cons (.same rfl) (.cons (.same rfl) .nil))) rfl) rfl ?_) | refine zD ?_ | refine zB _ rfl (by kernel_rfl) ?_ | refine zX rfl ?_ | refine zY rfl ?_ | refine zC ?_ | with_reducible refine zN ?_ | refine zH ?_ | refine zI ?_ | (with_reducible first | refine zL ?_ | refine zM ?_ | refine zE ?_ | refine zG ?_ | refine zF ?_) | refine zO ?_
      exact xh (yW rfl rfl rfl rfl rfl) rfl rfl (zJ _ _) (by repeat' first | exact Purs.nil | refine Purs.cons ?_ ?_ | exact zt rfl | exact yP rfl rfl | exact zt (T := rwT) (x := []) rfl | exact Pur.nil | exact Pur.same rfl | exact yx (by assumption)) (by repeat' first | exact Purs.nil | refine Purs.cons ?_ ?_ | exact zt rfl | exact yP rfl rfl | exact zt (T := rwT) (x := []) rfl | exact Pur.nil | exact Pur.same rfl | exact yx (by assumption)) (.cons (.same rfl) (.cons (.same rfl) .nil))
  · rw [hv] at a1
    refine ya 4 27 [5, 6] Go.Proofs.Try.func14 rfl rfl rfl ?_
    simp only [Go.Proofs.Try.ntmps14, List.length_cons, List.length_nil, Nat.reduceAdd, Nat.reduceSub, List.replicate_succ, List.replicate_zero, List.cons_append, List.nil_append]
    repeat' first | (refine isA ?_; refine zb rfl (yO rfl rfl rfl rfl rfl) rfl ?_) | refine zK ?_ | refine zA ?_ | refine zP [] ?_ | (refine isA ?_; refine zg rfl ?_) | (refine isL ?_; refine zW rfl (by kernel_rfl) rfl rfl ?_) | (refine zd rfl ?_; refine zV rfl (by kernel_rfl) rfl rfl ?_) | (refine zv 65 ?_; refine zb rfl (yC (r' := .agg (soP 2 s)) (H' := bxS (soE s) :: bxS zS :: soW s) rfl ac (.cons (.same rfl) .nil) rfl (by simp only [List.map_cons, List.map_nil, shR, yH _ (yU (zJ _ _))]; rfl)) rfl ?_) | (refine zw 65 rfl ?_; refine zU rfl (by kernel_rfl) rfl (yC (r' := .agg (soP 2 s)) (H' := bxS (soE s) :: bxS zS :: soW s) rfl ac (.cons (.same rfl) .nil) rfl (by simp only [List.map_cons, List.map_nil, shR, yH _ (yU (zJ _ _))]; rfl)) rfl ?_) | (refine zv 18 ?_; refine zb rfl (zQ rfl a1 (.cons (.same rfl) .nil) rfl) rfl ?_) | (refine zw 18 rfl ?_; refine zU rfl (by kernel_rfl) rfl (zQ rfl a1 (.cons (.same rfl) .nil) rfl) rfl ?_) | refine zD ?_ | refine zB _ rfl (by kernel_rfl) ?_ | refine zX rfl ?_ | refine zY rfl ?_ | refine zC ?_ | with_reducible refine zN ?_ | refine zH ?_ | refine zI ?_ | (with_reducible first | refine zL ?_ | refine zM ?_ | refine zE ?_ | refine zG ?_ | refine zF ?_) | refine zO ?_
    exact xh (yW rfl rfl rfl rfl rfl) rfl rfl (zJ _ _) (by repeat' first | exact Purs.nil | refine Purs.cons ?_ ?_ | exact zt rfl | exact yP rfl rfl | exact zt (T := rwT) (x := []) rfl | exact Pur.nil | exact Pur.same rfl | exact yx (by assumption)) (by repeat' first | exact Purs.nil | refine Purs.cons ?_ ?_ | exact zt rfl | exact yP rfl rfl | exact zt (T := rwT) (x := []) rfl | exact Pur.nil | exact Pur.same rfl | exact yx (by assumption)) (.cons (.same rfl) (.cons (.same rfl) .nil))
end Go.Proofs.Ytojcojanokhnaaa.Ab
namespace Go.Proofs.Ytojcojanokhnaaa.Ab
open Go.RowKit
def soN (xs : List Rw) : So := ⟨xs, 0, [], [], [], [], 0, 0, 1, 0⟩
def soZ : So := ⟨[], 0, [], [], [], [], 0, 0, 0, 0⟩
def nsS (xs : List Rw) : So := cond (avR xs) (soN xs) soZ
abbrev nsO (n : Nat) : List V := [.sl 0 0 n, I 0, wS, wS, wS, wS, I 0, I 0, I 1, I 0]
abbrev nsZ : List V := [wS, I 0, wS, wS, wS, wS, I 0, I 0, I 0, I 0]
end Go.Proofs.Ytojcojanokhnaaa.Ab
namespace Go.Proofs.Ytojcojanokhnaaa.Ab
open Go.RowKit
theorem zz.nilH {P : Program} {f : FuncId} {cargs : List V} {c0 c1 : V} {cs es : List V} {al : Bool} (e : TypeId) (n : Nat) (h : zz P f cargs [] (.tup (.agg (c0 :: c1 :: wS :: cs) :: es)) [] al) : zz P f cargs [] (.tup (.agg (c0 :: c1 :: .sl 0 0 0 :: cs) :: es)) [⟨e, n, [], 0⟩] al := by
  intro A φ w xs hok hrel hsz
  refine (h A φ w xs hok hrel hsz).mono ?_
  rintro e' w' ⟨x, φ', A', rfl, k1, k2, k3, k4, k5, k6⟩
  have h1 : φ' = [] := List.length_eq_zero_iff.1 k1.len
  have h2 : φ = [] := List.length_eq_zero_iff.1 hok.len
  subst h1 h2
  have hno : ∀ i b, ¬ z4 [(⟨none, 0, n, e⟩ : Hd)] [(⟨e, n, [], 0⟩ : Reg)] i b := fun i b ⟨d, q, q1, q2, q3, q4⟩ => by
    match i, q1 with
    | 0, q1 =>
      simp only [List.getElem?_cons_zero, Option.some.injEq] at q1
      subst q1
      cases q4
  have hm : ∀ {v : V} {y : Value}, Rel A' w' [] v y → Rel A' w' [(⟨none, 0, n, e⟩ : Hd)] v y := fun hy => Rel.mono (fun b hb => ⟨hb, rfl⟩) (fun j d hj => by simp at hj) hy
  have hms : ∀ {v : List V} {g : Nat → Option Value}, zy A' w' [] v g → zy A' w' [(⟨none, 0, n, e⟩ : Hd)] v g := fun hy => zy.mono (fun b hb => ⟨hb, rfl⟩) (fun j d hj => by simp at hj) hy
  refine ⟨x, [⟨none, 0, n, e⟩], A', rfl, ⟨rfl, fun i d q q1 q2 q3 => ?_, fun i j b q1 q2 => absurd q1 (hno i b), fun i b q1 => absurd q1 (hno i b), fun i d q b q1 q2 q3 q4 => ?_, k1.low⟩, ?_, k3, fun i b q1 => absurd q1 (hno i b), k5, fun i d hi => by simp at hi⟩
  · match i, q1, q2 with
    | 0, q1, q2 =>
      simp only [List.getElem?_cons_zero, Option.some.injEq] at q1 q2
      subst q1 q2
      exact ⟨⟨rfl, rfl, by simp [maxLen]⟩, rfl, rfl⟩
  · match i, q1 with
    | 0, q1 =>
      simp only [List.getElem?_cons_zero, Option.some.injEq] at q1
      subst q1
      cases q4
  · simp only [Rel, zy] at k2 ⊢
    obtain ⟨xs, rfl, hs, ⟨y, hy, zs, rfl, hz, ⟨y0, z0, r0⟩, ⟨y1, z1, r1⟩, ⟨y2, z2, r2⟩, kr⟩, hr⟩ := k2
    refine ⟨xs, rfl, hs, ⟨_, hy, zs, rfl, hz, ⟨y0, z0, hm r0⟩, ⟨y1, z1, hm r1⟩, ⟨y2, z2, ?_⟩, hms kr⟩, hms hr⟩
    exact ⟨_, rfl, Or.inl ⟨r2, Nat.le_refl _⟩⟩
def soJ (s : So) : List V := [rwL s.input, I s.pos, wS, rwL s.dfr, rwL s.out, rnL s.runs, I s.lp, I s.rp, I s.ph, I s.wr]
theorem dh (xs : List Rw) (hl : xs.length ≤ 1000000000) : zz Go.Proofs.Try.prog 97 [rwL xs] [] (.tup [.agg (soJ (nsS xs)), B (avR xs)]) [] true := by
  refine ya 2 27 [3] Go.Proofs.Try.func97 rfl rfl rfl ?_
  simp only [Go.Proofs.Try.ntmps97, List.length_cons, List.length_nil, Nat.reduceAdd, Nat.reduceSub, List.replicate_succ, List.replicate_zero, List.cons_append, List.nil_append]
  repeat' first | refine zK ?_ | refine zA ?_ | refine zP [] ?_ | (refine isA ?_; refine zg rfl ?_) | (refine isL ?_; refine zW rfl (by kernel_rfl) rfl rfl ?_) | (refine zd rfl ?_; refine zV rfl (by kernel_rfl) rfl rfl ?_) | (refine zv 25 ?_; refine zb rfl (zQ rfl (pE xs hl) (.cons (.same rfl) .nil) rfl) rfl ?_) | (refine zw 25 rfl ?_; refine zU rfl (by kernel_rfl) rfl (zQ rfl (pE xs hl) (.cons (.same rfl) .nil) rfl) rfl ?_) | refine zD ?_ | refine zB _ rfl (by kernel_rfl) ?_ | refine zX rfl ?_ | refine zY rfl ?_ | refine zC ?_ | with_reducible refine zN ?_ | refine zH ?_ | refine zI ?_ | (with_reducible first | refine zL ?_ | refine zM ?_ | refine zE ?_ | refine zG ?_ | refine zF ?_) | refine zO ?_
  refine zk rfl (fun k1 => ?_) (fun k1 => ?_)
  · have k1 : avR xs = false := by simpa using k1
    rw [nsS, k1]
    repeat' first | refine zK ?_ | refine zA ?_ | refine zP [] ?_ | (refine isA ?_; refine zg rfl ?_) | (refine isL ?_; refine zW rfl (by kernel_rfl) rfl rfl ?_) | (refine zd rfl ?_; refine zV rfl (by kernel_rfl) rfl rfl ?_) | exact jM (yW rfl rfl rfl rfl rfl) (.tup (.cons (.agg (.cons .nil (.cons (.same rfl) (.cons (.same rfl) (.cons .nil (.cons .nil (.cons .nil (.cons (.same rfl) (.cons (.same rfl) (.cons (.same rfl) (.cons (.same rfl) .nil))))))))))) (.cons (.same rfl) .nil))) | refine zD ?_ | refine zB _ rfl (by kernel_rfl) ?_ | refine zX rfl ?_ | refine zY rfl ?_ | refine zC ?_ | with_reducible refine zN ?_ | refine zH ?_ | refine zI ?_ | (with_reducible first | refine zL ?_ | refine zM ?_ | refine zE ?_ | refine zG ?_ | refine zF ?_) | refine zO ?_
  · have k1 : avR xs = true := by simpa using k1
    rw [nsS, k1]
    repeat' first | refine zK ?_ | refine zA ?_ | refine zP [] ?_ | (refine isA ?_; refine zg rfl ?_) | (refine isL ?_; refine zW rfl (by kernel_rfl) rfl rfl ?_) | (refine zd rfl ?_; refine zV rfl (by kernel_rfl) rfl rfl ?_) | (refine xb ?_; refine zb rfl (yV (t := rwT) (xs := []) (ys := xs) rfl rfl rfl rfl (.lst _ _) (by simp; omega) rfl) rfl ?_) | (refine xH rfl ?_; refine zU rfl (by kernel_rfl) rfl (yV (t := rwT) (xs := []) (ys := xs) rfl rfl rfl rfl (.lst _ _) (by simp; omega) rfl) rfl ?_) | exact jM (yW rfl rfl rfl rfl rfl) (.tup (.cons (.agg (.cons (zt rfl) (.cons (.same rfl) (.cons (.same rfl) (.cons .nil (.cons .nil (.cons .nil (.cons (.same rfl) (.cons (.same rfl) (.cons (.same rfl) (.cons (.same rfl) .nil))))))))))) (.cons (.same rfl) .nil))) | refine zD ?_ | refine zB _ rfl (by kernel_rfl) ?_ | refine zX rfl ?_ | refine zY rfl ?_ | refine zC ?_ | with_reducible refine zN ?_ | refine zH ?_ | refine zI ?_ | (with_reducible first | refine zL ?_ | refine zM ?_ | refine zE ?_ | refine zG ?_ | refine zF ?_) | refine zO ?_
theorem kw (xs : List Rw) : (nsS xs).heap = [] := by
  rw [nsS]
  cases avR xs <;> rfl
theorem di (xs : List Rw) (hl : xs.length ≤ 1000000000) : zz Go.Proofs.Try.prog 97 [rwL xs] [] (.tup [.agg (soH (nsS xs)), B (avR xs)]) [rwR (nsS xs).heap] true := by
  have h := (dh xs hl).nilH 78 3
  rw [soH, kw]
  exact h
end Go.Proofs.Ytojcojanokhnaaa.Ab
namespace Go.Proofs.Ytojcojanokhnaaa.Ab
open Go.RowKit
inductive OneV (s : So) (g : Int) : So → List Rw → Bool → Prop where
  | yes {x : So} {r : List Rw} (hv : vS s = true) (h1 : inV g 8 60 = true) (h : StepV s g x r) : OneV s g x r true
  | no (h : vS s = false ∨ inV g 8 60 = false ∨ s.ph = 4) : OneV s g s [] false
theorem sd (s : So) (g : Int) : ∃ x r b, OneV s g x r b := by
  rcases Bool.eq_false_or_eq_true (vS s) with hv | hv
  · rcases Bool.eq_false_or_eq_true (inV g 8 60) with h1 | h1
    · by_cases hp : s.ph = 4
      · exact ⟨_, _, _, .no (Or.inr (Or.inr hp))⟩
      · obtain ⟨x, r, h⟩ := fN (g := g) (vA.1 hv) hp
        exact ⟨_, _, _, .yes hv h1 h⟩
    · exact ⟨_, _, _, .no (Or.inr (Or.inl h1))⟩
  · exact ⟨_, _, _, .no (Or.inl hv)⟩
structure Dr (s : So) (w : Int) : Prop where
  sm : Sm 49 s
  w0 : 0 ≤ s.wr
  w1 : s.wr ≤ w
theorem Sm.mono {k m : Nat} {s : So} (h : Sm k s) (hm : k ≤ m) : Sm m s := ⟨by have := h.input; omega, by have := h.heap; omega, by have := h.dfr; omega, by have := h.out; omega, by have := h.runs; omega, by have := h.tot; omega⟩
theorem Sm.ok9 {s : So} (h : Sm 49 s) : okSo s := by
  obtain ⟨h1, h2, h3, h4, h5, h6⟩ := h
  exact ⟨by omega, by omega, by omega, by omega, by omega, by omega⟩
theorem OneV.dr {s x : So} {g : Int} {r : List Rw} {b : Bool} {w : Int} (h : OneV s g x r b) (hd : Dr s w) (hw : w ≤ 1000000000) : Dr x (w + 4) := by
  have := hd.w0
  have := hd.w1
  cases h with
  | yes hv h1 h =>
    have := n8 h hd.w0 (by omega)
    exact ⟨(n9 (vA.1 hv) h).mono (by decide), by omega, by omega⟩
  | no h => exact ⟨hd.sm, by omega, by omega⟩
theorem OneV.len {s x : So} {g : Int} {r : List Rw} {b : Bool} (h : OneV s g x r b) : r.length ≤ 1 := by
  cases h with
  | yes hv h1 h => exact kK h
  | no h => exact Nat.zero_le _
theorem mv {s x : So} {g : Int} {r : List Rw} {b : Bool} (hok : okSo s) (h : OneV s g x r b) : zz Go.Proofs.Try.prog 14 [.agg (soE s), I g] [] (.tup [.agg (soH x), rwL r, B b]) [rwR x.heap] true := by
  cases h with
  | yes hv h1 h => exact gW s x g r hok hv h1 h
  | no h => exact ll s g hok h
theorem dn {s x : So} {g : Int} {r : List Rw} {b : Bool} (hok : okSo s) (h : OneV s g x r b) : zz Go.Proofs.Try.prog 14 [.agg (soE s), I g] [] (.tup [.agg (soE x), rwL r, B b]) [] true :=
  (mv hok h).frozen (fV x r b)
theorem d4 {s x : So} {g : Int} {r : List Rw} {b : Bool} (hok : okSo s) (h : OneV s g x r b) : zz Go.Proofs.Try.prog 13 [.agg (soE s), I g] [] (.tup [.agg (soE x), rwL r, B b]) [] true := by
  cases h with
  | yes hv h1 h => exact fy s x g r hok hv h1 h
  | no h => exact (ge s g hok h).frozen (.tup (.cons (sU rfl rfl rfl rfl rfl fun j y hy => by rw [show 0 + 5 + j = j + 5 by omega]; exact xG hy) (.cons .nil (.cons (.same rfl) .nil))))
noncomputable def fZ (s : So) (g : Int) : So := (sd s g).choose
noncomputable def oneR (s : So) (g : Int) : List Rw := (sd s g).choose_spec.choose
noncomputable def eg (s : So) (g : Int) : Bool := (sd s g).choose_spec.choose_spec.choose
theorem kv (s : So) (g : Int) : OneV s g (fZ s g) (oneR s g) (eg s g) := (sd s g).choose_spec.choose_spec.choose_spec
noncomputable def stF (s : So) (c : Cur) : Nat → So × Cur
  | 0 => (s, c)
  | i + 1 => (fZ (stF s c i).1 (pkV [8, 9, 12, 20] (stF s c i).2), beC 4 (stF s c i).2)
theorem sN (s : So) (c : Cur) : ∀ i, (stF s c i).2.code = c.code
  | 0 => rfl
  | i + 1 => by rw [stF, xD, sN s c i]
theorem nY {s : So} (c : Cur) {w : Int} (h : Dr s w) (hw : w ≤ 1000) : ∀ i, i ≤ 60 → Dr (stF s c i).1 (w + 4 * i)
  | 0, _ => by
    rw [stF]
    exact ⟨h.sm, h.w0, by have := h.w1; simp only at this ⊢; omega⟩
  | i + 1, hi => by
    have h1 := nY c h hw i (by omega)
    have h2 := (kv (stF s c i).1 (pkV [8, 9, 12, 20] (stF s c i).2)).dr h1 (by omega)
    rw [stF]
    exact ⟨h2.sm, h2.w0, by have := h2.w1; simp only at this ⊢; omega⟩
def spV (s : So) (c : Cur) : So × Cur :=
  cond (decide (beV 16 c = 0)) ({ s with ph := beV 6 (beC 16 c) }, beC 6 (beC 16 c))
    (cond (decide (beV 16 c = 1)) ({ s with pos := IntKind.i64.wrap (beV 8 (beC 16 c) - 1) }, beC 8 (beC 16 c))
      (cond (decide (beV 16 c = 2)) ({ s with lp := IntKind.i64.wrap (beV 4 (beC 16 c) - 1) }, beC 4 (beC 16 c))
        (cond (decide (beV 16 c = 3)) ({ s with heap := s.heap ++ [(wN 2 (beC 16 c)).1] }, (wN 2 (beC 16 c)).2) (s, beC 16 c))))
theorem kX (s : So) (c : Cur) : (spV s c).2.code = c.code := by
  unfold spV
  cases decide (beV 16 c = 0) <;> cases decide (beV 16 c = 1) <;> cases decide (beV 16 c = 2) <;> cases decide (beV 16 c = 3) <;> simp [xD, qK]
structure Dn (s : So) : Prop where
  sm : Sm 50 s
  w0 : 0 ≤ s.wr
  w1 : s.wr ≤ 1000
theorem dL {s : So} {w : Int} (c : Cur) (h : Dr s w) (hw : w ≤ 1000) : Dn (spV s c).1 := by
  obtain ⟨⟨h1, h2, h3, h4, h5, h6⟩, h7, h8⟩ := h
  unfold spV
  cases decide (beV 16 c = 0) <;> cases decide (beV 16 c = 1) <;> cases decide (beV 16 c = 2) <;> cases decide (beV 16 c = 3) <;>
    (refine ⟨⟨?_, ?_, ?_, ?_, ?_, ?_⟩, ?_, ?_⟩ <;> simp only [cond_true, cond_false, List.length_append, List.length_singleton] <;> omega)
noncomputable def tS (c : Cur) : So × Cur :=
  spV (stF (nsS (yt 9 c).1) (beC 60 (yt 9 c).2) (beV 60 (yt 9 c).2).toNat).1 (stF (nsS (yt 9 c).1) (beC 60 (yt 9 c).2) (beV 60 (yt 9 c).2).toNat).2
theorem kx {xs : List Rw} (h : xs.length ≤ 49) : Dr (nsS xs) 0 := by
  rw [nsS]
  cases avR xs
  · exact ⟨⟨Nat.zero_le _, Nat.zero_le _, Nat.zero_le _, Nat.zero_le _, Nat.zero_le _, Nat.zero_le _⟩, Int.le_refl 0, Int.le_refl 0⟩
  · exact ⟨⟨h, Nat.zero_le _, Nat.zero_le _, Nat.zero_le _, Nat.zero_le _, Nat.zero_le _⟩, Int.le_refl 0, Int.le_refl 0⟩
theorem mS (c : Cur) : (tS c).2.code = c.code ∧ Dn (tS c).1 := by
  have hr := qJ (most := 9) (by decide) (by decide) c
  obtain ⟨b0, b1⟩ := w8 (n := 60) (by decide) (yt 9 c).2
  have hd := nY (s := nsS (yt 9 c).1) (beC 60 (yt 9 c).2) (kx (by omega)) (by decide) (beV 60 (yt 9 c).2).toNat (by omega)
  refine ⟨?_, dL _ hd (by omega)⟩
  rw [tS, kX, sN, xD, sS]
end Go.Proofs.Ytojcojanokhnaaa.Ab

/- Several texts, joined. -/
import Derived.Test.YtjohcjfmlhihbaaQF1
set_option linter.unusedVariables false
set_option linter.unusedSimpArgs false
namespace Go.Proofs.Ytjohcjfmlhihbaa.G
open Go.RowKit Go.Proofs.YtjohcjfmlhihbaaW.PrintWords Go.Proofs.YtjohcjfmlhihbaaW.PrintLast Go.Proofs.YtjohcjfmlhihbaaW.PrintMore
set_option maxHeartbeats 8000000
set_option maxRecDepth 100000
attribute [local go_sem] cond_true cond_false fld23_0 fld23_1 fld45_0 fld45_1 fld109_0 fld109_1 fld94_0 fld94_1 max2_int min2_int max_two min_two max_three min_three max_four min_four   -- for this text's walks alone
def numnahlaw07_fit.l0:Nat → List (S23) → Int → Option (Bool)
 | 0,_,_=>none
 | k + 1,x0,x3=>if x3 < (x0.length:Int) then (if 0 ≤ x3 then ((numnahref07_Within.f k ((rd_T23 x0 x3).f0) ((rd_T23 x0 x3).f1) 0 1073741824 1073741824).bind fun b5=>(if b5 = true then (numnahlaw07_fit.l0 k x0 (wrap64 (x3 + 1))) else (some false))) else (none)) else (some true)
def numnahlaw07_fit.f (k:Nat) (l0:List (S23)):Option (Bool):=numnahlaw07_fit.l0 k l0 0
theorem numnahlaw07_fit.mono_l:∀ k,(∀ y0 y1,LeO (numnahlaw07_fit.l0 k y0 y1) (numnahlaw07_fit.l0 (k + 1) y0 y1))
 | 0=>fun _ _ r h=>by simp [numnahlaw07_fit.l0] at h
 | k + 1=>by
  have b7:=numnahlaw07_fit.mono_l k
  intro y0 y1
  unfold numnahlaw07_fit.l0
  repeat' first
  | (with_reducible exact b7 _ _)
  | (with_reducible exact numnahref07_Within.mono _ _ _ _ _ _)
  | (with_reducible exact LeO.refl _)
  | (with_reducible exact LeO.none _)
  | (with_reducible refine LeO.ite ?_ ?_)
  | (with_reducible refine LeO.bind ?_ (fun _=>?_))
  | exact b7 _ _
  | exact numnahref07_Within.mono _ _ _ _ _ _
  | exact LeO.none _
  | refine LeO.ite ?_ ?_
  | refine LeO.bind ?_ (fun _=>?_)
theorem numnahlaw07_fit.mono:∀ a0 k,LeO (numnahlaw07_fit.f k a0) (numnahlaw07_fit.f (k + 1) a0):=by
 intro a0 k
 have b7:=numnahlaw07_fit.mono_l k
 unfold numnahlaw07_fit.f
 repeat' first
   | (with_reducible exact b7 _ _)
   | (with_reducible exact numnahref07_Within.mono _ _ _ _ _ _)
   | (with_reducible exact LeO.refl _)
   | (with_reducible exact LeO.none _)
   | (with_reducible refine LeO.ite ?_ ?_)
   | (with_reducible refine LeO.bind ?_ (fun _=>?_))
   | exact b7 _ _
   | exact numnahref07_Within.mono _ _ _ _ _ _
   | exact LeO.none _
   | refine LeO.ite ?_ ?_
   | refine LeO.bind ?_ (fun _=>?_)
theorem numnahlaw07_fit.calls (k:Nat) (A0:Option Addr) (c0:Nat) (l0:List (S23)) (r:Bool) (w:World) (d0:Kd.C k23 w A0 l0.length l0) (d1:l0.length ≤ c0) (h:numnahlaw07_fit.f k l0 = some r) :
  Calls Try.prog 27 #[.slice A0 l0.length c0] w fun e w'=>e = .returned (.bool r) ∧ Below w.heap.size w w':=by
 have d5:=Try.underlying23
 have d2:=Aside0.mk d0
 have d7:=Aside0.mk d1
 clear d0 d1
 have HB:=Aside0.mk (Below.refl w.heap.size w)
 have H:(numnahlaw07_fit.l0 k l0 0) = some r:=h
 clear h
 have H':=Aside0.mk H
 clear H
 go_enter Try.func27,Try.ntmps27
 go_wp2
 go_loopg [3] k (fun kq v3 w'=>∃ (b0:Int),v3 = .int .i64 b0 ∧ Aside0 (numnahlaw07_fit.l0 kq l0 b0 = some r) ∧ Aside0 (kq ≤ k) ∧ Aside0 (Below w.heap.size w w'))
 case atStart=>exact ⟨(0),(by first | rfl | (simp;done) | (simp [*];done)),H',⟨Nat.le_refl _⟩,⟨by repeat (first | (with_reducible first | exact HB.out | apply below_alloc | apply pw_below_drewN | apply below_drew1) | exact HB.out)⟩⟩
 case round =>
  clear H'
  obtain ⟨b0,rfl,HA,d3,HB⟩:=hrel
  cases gk with
  | zero=>exact absurd HA.out (by simp [numnahlaw07_fit.l0])
  | succ k1 =>
   have H:=HA.out
   clear HA
   simp only [numnahlaw07_fit.l0] at H
   by_cases c2:b0 < (l0.length:Int)
   case neg =>
    rw [if_neg c2] at H
    have c1:decide (b0 < (l0.length:Int)) = false:=decide_eq_false c2
    clear c2
    obtain rfl:=Option.some.inj H
    go_wp2
    go_ret
    exact ⟨by first | rfl | (simp [errW_none,errW_some] <;> rfl) | (simp [*,errW_none,errW_some] <;> rfl),by repeat (first | (with_reducible first | exact HB.out | apply below_alloc | apply pw_below_drewN | apply below_drew1) | exact HB.out)⟩
   rw [if_pos c2] at H
   have c1:decide (b0 < (l0.length:Int)) = true:=decide_eq_true c2
   clear c2
   by_cases c3:0 ≤ b0
   case neg =>
    rw [if_neg c3] at H
    exact absurd H (by simp)
   rw [if_pos c3] at H
   have d6:decide (0 ≤ b0) = true:=decide_eq_true c3
   clear c3
   replace H:=Option.bind_eq_some_iff.mp H
   obtain ⟨b5,d4,H⟩:=H
   replace H:(if b5 = true then (numnahlaw07_fit.l0 k1 l0 (wrap64 (b0 + 1))) else (some false)) = some r:=H
   have A4:=Aside0.mk d4
   clear d4
   by_cases c5:b5 = true
   case neg =>
    replace c5:=Bool.eq_false_iff.mpr c5
    subst c5
    have H1:(some false) = some r:=by rw [if_neg (show ¬ (false = true) by decide)] at H;exact H
    clear H
    have H:=H1
    clear H1
    obtain rfl:=Option.some.inj H
    have b3:0 ≤ (b0:Int):=of_decide_eq_true (by first | (with_reducible assumption) | assumption)
    have b4:b0 < (l0.length:Int):=of_decide_eq_true (by first | (with_reducible assumption) | assumption)
    obtain ⟨b8,b6,b1,b2⟩:=at_T23 d2.out b0 b3 b4
    cases b6
    replace b1:=(HB.out.cell (World.block_lt_of_cell? w _ b1)).trans b1
    replace b2:=(HB.out.cell (World.block_lt_of_cell? w _ b2)).trans b2
    replace b3:=eq_true b3
    replace b4:=eq_true b4
    go_wp2_with (first | ((with_reducible refine gate_callee (f:=69) rfl ?_);refine goesL_ (some 14) rfl rfl Try.func69 (by kernel_rfl) rfl #[.agg #[.int .i64 ((rd_T23 l0 b0).f0),.int .i64 ((rd_T23 l0 b0).f1)],.int .i64 0,.int .i64 1073741824,.int .i64 1073741824] rfl (by (try simp only [List.map_toArray,List.map_cons,List.map_nil]);first | done | rfl | (simp only [List.length_drop,List.length_take];rfl)) ?_;(with_reducible refine (numnahref07_Within.calls k1 ((rd_T23 l0 b0).f0) ((rd_T23 l0 b0).f1) 0 1073741824 1073741824 false _ A4.out).mono ?_);rintro e w7 ⟨rfl,hb⟩;refine ⟨_,rfl,?_⟩;have b9:=Aside0.mk (below_step (by repeat (first | (with_reducible first | exact HB.out | apply below_alloc | apply pw_below_drewN | apply below_drew1) | exact HB.out)) hb);clear HB;have HB:=b9;clear b9;(try clear hb)))
    go_ret
    exact ⟨by first | rfl | (simp [errW_none,errW_some] <;> rfl) | (simp [*,errW_none,errW_some] <;> rfl),by repeat (first | (with_reducible first | exact HB.out | apply below_alloc | apply pw_below_drewN | apply below_drew1) | exact HB.out)⟩
   subst c5
   have H1:(numnahlaw07_fit.l0 k1 l0 (wrap64 (b0 + 1))) = some r:=by rw [if_pos rfl] at H;exact H
   clear H
   have H:=H1
   clear H1
   have H':=Aside0.mk H
   clear H
   have b3:0 ≤ (b0:Int):=of_decide_eq_true (by first | (with_reducible assumption) | assumption)
   have b4:b0 < (l0.length:Int):=of_decide_eq_true (by first | (with_reducible assumption) | assumption)
   obtain ⟨b8,b6,b1,b2⟩:=at_T23 d2.out b0 b3 b4
   cases b6
   replace b1:=(HB.out.cell (World.block_lt_of_cell? w _ b1)).trans b1
   replace b2:=(HB.out.cell (World.block_lt_of_cell? w _ b2)).trans b2
   replace b3:=eq_true b3
   replace b4:=eq_true b4
   go_wp2_with (first | ((with_reducible refine gate_callee (f:=69) rfl ?_);refine goesL_ (some 14) rfl rfl Try.func69 (by kernel_rfl) rfl #[.agg #[.int .i64 ((rd_T23 l0 b0).f0),.int .i64 ((rd_T23 l0 b0).f1)],.int .i64 0,.int .i64 1073741824,.int .i64 1073741824] rfl (by (try simp only [List.map_toArray,List.map_cons,List.map_nil]);first | done | rfl | (simp only [List.length_drop,List.length_take];rfl)) ?_;(with_reducible refine (numnahref07_Within.calls k1 ((rd_T23 l0 b0).f0) ((rd_T23 l0 b0).f1) 0 1073741824 1073741824 true _ A4.out).mono ?_);rintro e w6 ⟨rfl,hb⟩;refine ⟨_,rfl,?_⟩;have b9:=Aside0.mk (below_step (by repeat (first | (with_reducible first | exact HB.out | apply below_alloc | apply pw_below_drewN | apply below_drew1) | exact HB.out)) hb);clear HB;have HB:=b9;clear b9;(try clear hb)))
   go_roundg k1
   case measure=>have:=d3.out;omega
   case rel=>exact ⟨(wrap64 (b0 + 1)),(by first | rfl | (simp;done) | (simp [*];done)),H',⟨by have:=d3.out;omega⟩,⟨by repeat (first | (with_reducible first | exact HB.out | apply below_alloc | apply pw_below_drewN | apply below_drew1) | exact HB.out)⟩⟩
end Go.Proofs.Ytjohcjfmlhihbaa.G
namespace Go.Proofs.Ytjohcjfmlhihbaa.G
open Go.RowKit Go.Proofs.YtjohcjfmlhihbaaW.PrintWords Go.Proofs.YtjohcjfmlhihbaaW.PrintLast Go.Proofs.YtjohcjfmlhihbaaW.PrintMore
set_option maxHeartbeats 8000000
set_option maxRecDepth 100000
attribute [local go_sem] cond_true cond_false fld23_0 fld23_1 fld45_0 fld45_1 fld109_0 fld109_1 fld94_0 fld94_1 max2_int min2_int max_two min_two max_three min_three max_four min_four   -- for this text's walks alone
attribute [local go_sem high] eqA23
def numnahlaw07_fracs.f (l0:List (S23)):Option ((List (S23))):=if 0 ≤ (mn (l0.length:Int) 11) then (if (mn (l0.length:Int) 11) ≤ (l0.length:Int) then ((some (l0.take ((mn (l0.length:Int) 11):Int).toNat:List (S23))).bind fun b0=>(if ([]:List (S23)).length + b0.length < 8796093022208 then (some (([]:List (S23)) ++ b0)) else (none))) else (none)) else (none)
theorem numnahlaw07_fracs.calls (A0:Option Addr) (c0:Nat) (l0:List (S23)) (r:List (S23)) (w:World) (d6:Kd.C k23 w A0 l0.length l0) (d7:l0.length ≤ c0) (h:numnahlaw07_fracs.f l0 = some r) :
  Calls Try.prog 36 #[.slice A0 l0.length c0] w fun e w'=>∃ d8:Value,e = .returned (d8) ∧ Kd.R k23 23 w' w.heap.size (fun _=>True) d8 r ∧ Below w.heap.size w w':=by
 have e4:=Aside0.mk d6
 have e5:=Aside0.mk d7
 clear d6 d7
 have HB:=Aside0.mk (Below.refl w.heap.size w)
 have H:(if 0 ≤ (mn (l0.length:Int) 11) then (if (mn (l0.length:Int) 11) ≤ (l0.length:Int) then ((some (l0.take ((mn (l0.length:Int) 11):Int).toNat:List (S23))).bind fun b0=>(if ([]:List (S23)).length + b0.length < 8796093022208 then (some (([]:List (S23)) ++ b0)) else (none))) else (none)) else (none)) = some r:=h
 clear h
 obtain ⟨b1,b4⟩:∃ j_:Int,(mn (l0.length:Int) 11) = j_:=⟨_,rfl⟩
 replace H:(if 0 ≤ (b1) then (if (b1) ≤ (l0.length:Int) then ((some (l0.take ((b1):Int).toNat:List (S23))).bind fun b0=>(if ([]:List (S23)).length + b0.length < 8796093022208 then (some (([]:List (S23)) ++ b0)) else (none))) else (none)) else (none)) = some r:=by first | (rw [b4] at H;exact H) | (simp only [b4] at H ⊢;exact H)
 (try (have hji2h:b1 ≤ 11:=by (rw [← b4];unfold mn;(repeat' split) <;> omega)))
 (try (have hji2g:b1 ≤ 64:=by omega))
 (try (have hji2l:0 ≤ b1:=by (rw [← b4];unfold mn;(repeat' split) <;> omega)))
 (try (have hji2m:0 ≤ b1:=by omega))
 have d9:(if 11 < (l0.length:Int) then 11 else (l0.length:Int)) = b1:=b4
 by_cases c3:0 ≤ (b1)
 case neg =>
  rw [if_neg c3] at H
  exact absurd H (by simp)
 rw [if_pos c3] at H
 have e6:=eq_true c3
 have e7:decide (0 ≤ (b1)) = true:=decide_eq_true c3
 clear c3
 by_cases c4:(b1) ≤ (l0.length:Int)
 case neg =>
  rw [if_neg c4] at H
  exact absurd H (by simp)
 rw [if_pos c4] at H
 have e8:=eq_true c4
 have e9:decide ((b1) ≤ (l0.length:Int)) = true:=decide_eq_true c4
 clear c4
 obtain ⟨b0,b2⟩:∃ y_:List (S23),y_ = (l0.take ((b1):Int).toNat):=⟨_,rfl⟩
 replace H:(if ([]:List (S23)).length + b0.length < 8796093022208 then (some (([]:List (S23)) ++ b0)) else (none)) = some r:=by first | (rw [b2];with_reducible exact H) | (have b6:=(Option.bind_some _ _).symm.trans H;rw [b2];with_reducible exact b6) | (have b6:=(Option.bind_some _ _).symm.trans H;with_reducible exact b6) | with_reducible exact H | (rw [b2];exact H) | exact H
 have b5:=Aside0.mk b2
 clear b2
 by_cases c5:([]:List (S23)).length + b0.length < 8796093022208
 case neg =>
  rw [if_neg c5] at H
  exact absurd H (by simp)
 rw [if_pos c5] at H
 have d1:=Aside0.mk c5
 clear c5
 obtain ⟨d2,b3⟩:∃ y_:List (S23),y_ = (([]:List (S23)) ++ b0):=⟨_,rfl⟩
 replace H:(some d2) = some r:=by first | (rw [b3];with_reducible exact H) | (have b6:=(Option.bind_some _ _).symm.trans H;rw [b3];with_reducible exact b6) | (have b6:=(Option.bind_some _ _).symm.trans H;with_reducible exact b6) | with_reducible exact H | (rw [b3];exact H) | exact H
 have b7:=Aside0.mk b3
 clear b3
 obtain rfl:=Option.some.inj H
 have q6:((b1):Int) ≤ ((l0.length:Int):Int):=of_decide_eq_true (by first | (with_reducible assumption) | assumption)
 obtain ⟨h1,b8,_,d3,_⟩:=info_parts info23
 have hroom6:l0.length ≤ c0:=e5.out
 have e0:Kd.C k23 _ A0 l0.length l0:=e4.out
 have b9:=cut_to (P:=Try.prog) 35 23 .i64 Try.underlying35 b8 A0 l0.length c0 (b1) (of_decide_eq_true (by first | (with_reducible assumption) | assumption)) q6 hroom6
 have d4:=Kd.C_take (m:=((b1):Int).toNat) e0 (by omega)
 have d5:b0.length = ((b1):Int).toNat:=(by rw [b5.out,List.length_take];omega)
 rw [← b5.out] at d4
 rw [← d5] at b9
 have c1:=Aside0.mk d4
 have e1:=Aside0.mk (show b0.length ≤ c0 from by omega)
 clear d4 e0 hroom6 b8 d3
 have h2:=Aside0.mk d5
 clear d5
 replace q6:=eq_true q6
 go_enter Try.func36,Try.ntmps36
 go_wp2_with (first | ((with_reducible refine gate_builtin (b:=.append) (xs:=#[.tmp 4,.tmp 9]) rfl ?_);at_builtin;refine Kd.R_append_rows k23 (w0:=w) w.heap.size rfl (.tmp 4) (.tmp 9) 35 23 (.agg #[(.int .i64 0),(.int .i64 0)]) 16 rfl Try.underlying35 info23 rfl (by decide) (by omega) (.slice none 0 0) ([]:List (S23)) b0 _ _ _ (fun _=>True) (fun _=>False) rfl rfl ?aO ?aR (fun _ _ h=>h) (fun _ h=>h.elim) ?aF ?aB ?aS ?aL ?_;(case aR=>repeat (first | exact c1.out | (with_reducible refine Kd.C_alloc ?_ _) | (with_reducible refine Kd.C_drewN ?_ _) | (with_reducible refine Kd.C_drew ?_)));(case aB=>exact (by repeat (first | (with_reducible first | exact HB.out | apply below_alloc | apply pw_below_drewN | apply below_drew1) | exact HB.out)));(case aF=>exact (fun _ _=>trivial));(case aO=>exact ((Kd.R_nil _ _ _ _ (fun _=>True))));(case aS=>exact (below_size (by repeat (first | (with_reducible first | exact HB.out | apply below_alloc | apply pw_below_drewN | apply below_drew1) | exact HB.out))));(case aL=>have:=d1.out;omega);intro h0 w7 ho hb hg hat;rw [← b7.out] at ho;have e2:=Aside0.mk (hb);have e3:=Aside0.mk (ho);clear HB;have HB:=e2;have d0:=e3;clear e2 e3;clear ho hb hg hat))
 go_ret
 exact ⟨_,by first | rfl | (simp [errW_none,errW_some] <;> rfl) | (simp only [← b4];first | rfl | (simp [errW_none,errW_some] <;> rfl)) | (simp [*,errW_none,errW_some] <;> rfl),by (with_reducible repeat (first | apply Kd.R_alloc | apply Kd.R_drewN | apply Kd.R_drew));exact d0.out,by repeat (first | (with_reducible first | exact HB.out | apply below_alloc | apply pw_below_drewN | apply below_drew1) | exact HB.out)⟩
end Go.Proofs.Ytjohcjfmlhihbaa.G
set_option linter.unusedSectionVars false
namespace Go.Proofs.Ytjohcjfmlhihbaa.P
open Go Go.RowKit Go.Proofs.Ytjohcjfmlhihbaa.G
open Go.Proofs.YtjohcjfmlhihbaaW.PrintWords Go.Proofs.YtjohcjfmlhihbaaW.PrintMore
theorem S23_ext {a b:S23} (h0:a.f0 = b.f0) (h1:a.f1 = b.f1):a = b:=by cases a;cases b;simp_all
instance:DecidableEq S23:=fun a b=>decidable_of_iff (a.f0 = b.f0 ∧ a.f1 = b.f1) ⟨fun h=>S23_ext h.1 h.2,fun h=>by rw [h];exact ⟨rfl,rfl⟩⟩
theorem rdT {a:List S23} {i:Nat} (h:i < a.length):rd_T23 a (i:Int) = a[i]:=by unfold rd_T23;simp [h]
theorem same_l0 {a b:List S23} (hl:a.length = b.length) (hs:a.length ≤ 1000000):∀ (d i:Nat),i + d = a.length → a.take i = b.take i → Ev (fun k=>numnahref07_Same.l0 k a b (i:Int)) (decide (a = b)):=by
 intro d
 induction d with
 | zero =>
  intro i hi ht
  rw [List.take_of_length_le (by omega),List.take_of_length_le (by omega)] at ht
  rw [decide_eq_true ht]
  refine Ev.step (f:=fun _=>some true) (fun k=>?_) (Ev.now _)
  rw [numnahref07_Same.l0,if_neg (by omega)]
 | succ d ih =>
  intro i hi ht
  have ha:i < a.length:=by omega
  have hb:i < b.length:=by omega
  by_cases e:a[i] = b[i]
  ·refine Ev.step (fun k=>?_) (ih (i + 1) (by omega) (by rw [List.take_succ_eq_append_getElem ha,List.take_succ_eq_append_getElem hb,ht,e]))
   rw [numnahref07_Same.l0,if_pos (by omega),if_pos (by omega),if_pos (by omega),rdT ha,rdT hb,e,if_neg (by simp),wrap_succ (by omega)]
  ·have hne:a ≠ b:=fun h=>e (by subst h;rfl)
   rw [decide_eq_false hne]
   refine Ev.step (f:=fun _=>some false) (fun k=>?_) (Ev.now _)
   rw [numnahref07_Same.l0,if_pos (by omega),if_pos (by omega),if_pos (by omega),rdT ha,rdT hb,if_pos]
   apply Classical.byContradiction
   intro h
   apply e
   simp only [Bool.or_eq_true,Bool.not_eq_true',beq_eq_false_iff_ne,not_or,Decidable.not_not,ne_eq] at h
   exact S23_ext h.1 h.2
theorem ev_same {a b:List S23} (hs:a.length ≤ 1000000):Ev (fun k=>numnahref07_Same.f k a b) (decide (a = b)):=by
 unfold numnahref07_Same.f
 by_cases hl:a.length = b.length
 ·refine Ev.congr (fun k=>if_pos (by omega)) ?_
  exact same_l0 hl hs a.length 0 (by omega) rfl
 ·rw [decide_eq_false (fun h=>hl (by rw [h]))]
  exact Ev.congr (fun k=>if_neg (by omega)) (Ev.now _)
theorem mn11 {n:Nat}:mn (n:Int) 11 = ((min n 11:Nat):Int):=by unfold mn;split <;> omega
theorem fracs_f (l:List S23):numnahlaw07_fracs.f l = some (l.take 11):=by
 unfold numnahlaw07_fracs.f
 rw [mn11,if_pos (by omega),if_pos (by omega),Int.toNat_natCast]
 simp only [Option.bind_some,List.nil_append,List.length_nil]
 rw [if_pos (by rw [List.length_take];omega)]
 congr 1
 by_cases h:l.length ≤ 11
 ·rw [List.take_of_length_le (by omega),List.take_of_length_le h]
 ·rw [show min l.length 11 = 11 by omega]
theorem ev_within {q:Rat} (h1:q.num.natAbs < 9223372036854775808) (lo hi d:Int):Ev (fun k=>numnahref07_Within.f k q.num (q.den:Int) lo hi d) (decide ((q.den:Int) ≤ d ∧ lo ≤ q.num ∧ q.num ≤ hi)):=by
 unfold numnahref07_Within.f
 have hp:=den_pos q
 refine Ev.congr (fun k=>if_pos (by omega)) ?_
 by_cases a1:(q.den:Int) ≤ d
 ·refine Ev.congr (fun k=>if_pos a1) ?_
  by_cases a2:q.num ≥ lo
  ·refine Ev.congr (fun k=>if_pos a2) ?_
   by_cases a3:q.num ≤ hi
   ·refine Ev.congr (fun k=>if_pos a3) ?_
    rw [mx_abs h1,decide_eq_true (⟨a1,a2,a3⟩:_ ∧ _ ∧ _)]
    simp only [ref_gcd]
    refine Ev.bind (ev_gcd q.num.natAbs q.den) ?_
    rw [gcd_one q]
    exact Ev.now _
   ·rw [decide_eq_false (fun h=>a3 h.2.2)]
    exact Ev.congr (fun k=>if_neg a3) (Ev.now _)
  ·rw [decide_eq_false (fun h=>a2 h.2.1)]
   exact Ev.congr (fun k=>if_neg a2) (Ev.now _)
 ·rw [decide_eq_false (fun h=>a1 h.1)]
  exact Ev.congr (fun k=>if_neg a1) (Ev.now _)
theorem fit_l0 {x:List Rat} (hl:x.length ≤ 1000000) (hx:∀ q ∈ x,0 ≤ q ∧ Sm 1073741824 1073741824 q):∀ (d i:Nat),i + d = x.length → Ev (fun k=>numnahlaw07_fit.l0 k (encL x) (i:Int)) true:=by
 intro d
 induction d with
 | zero =>
  intro i hi
  refine Ev.step (f:=fun _=>some true) (fun k=>?_) (Ev.now _)
  rw [numnahlaw07_fit.l0,encL_length,if_neg (by omega)]
 | succ d ih =>
  intro i hi
  have hil:i < x.length:=by omega
  obtain ⟨q0,qs⟩:=hx _ (List.getElem_mem hil)
  have h1:=qs.num
  have h2:=qs.den
  have hw:=ev_within (q:=x[i]) (by omega) 0 1073741824 1073741824
  rw [decide_eq_true (⟨by omega,Rat.num_nonneg.2 q0,by omega⟩:_ ∧ _ ∧ _)] at hw
  obtain ⟨K1,e1⟩:=hw
  obtain ⟨K2,e2⟩:=ih (i + 1) (by omega)
  refine ⟨K1 + K2 + 1,fun k hk=>?_⟩
  obtain ⟨m,rfl⟩:∃ m,k = m + 1:=⟨k - 1,by omega⟩
  have f1:=e1 m (by omega)
  have f2:=e2 m (by omega)
  show numnahlaw07_fit.l0 (m + 1) _ _ = _
  rw [numnahlaw07_fit.l0,encL_length,if_pos (by omega),if_pos (by omega),rdE hil]
  simp only [encQ,f1,Option.bind_some,if_true]
  rw [wrap_succ (by omega)]
  exact f2
theorem ev_fit {x:List Rat} (hl:x.length ≤ 1000000) (hx:∀ q ∈ x,0 ≤ q ∧ Sm 1073741824 1073741824 q):Ev (fun k=>numnahlaw07_fit.f k (encL x)) true:=fit_l0 hl hx x.length 0 (by omega)
theorem mod_some (x:Int) {n:Int} (h0:0 < n) (h1:n ≤ 9223372036854775807):∃ m,0 ≤ m ∧ m < n ∧ numnahlaw07_mod.f x n = some m:=by
 unfold numnahlaw07_mod.f
 have e:IntKind.u64.wrap n = n:=by
  rw [show IntKind.u64.wrap n = n % 18446744073709551616 from by first | rfl | exact IntKind.wrap_u64 n | simp [IntKind.wrap]]
  omega
 obtain ⟨u,hu⟩:∃ u,IntKind.u64.wrap x = u:=⟨_,rfl⟩
 have hu0:0 ≤ u ∧ u ≤ 18446744073709551615:=by
  rw [← hu,show IntKind.u64.wrap x = x % 18446744073709551616 from by first | rfl | exact IntKind.wrap_u64 x | simp [IntKind.wrap]]
  omega
 rw [e,hu,if_neg (by omega),Int.tmod_eq_emod_of_nonneg hu0.1]
 have m0:=Int.emod_nonneg u (show n ≠ 0 by omega)
 have m1:=Int.emod_lt_of_pos u h0
 exact ⟨u % n,m0,m1,by rw [wrap_id (by omega) (by omega)]⟩
theorem tame_end {out:List Int} (ho:out.length ≤ 10) (hm:∀ x ∈ out,0 ≤ x ∧ x ≤ 1000) (e:Int):∃ l E,IsCl l ∧ 0 ≤ E ∧ E ≤ sI l ∧ (out.length ≠ 0 → l = out) ∧ (if (out.length:Int) = 0 then (some (([0]:List Int),(0:Int))) else (numnahlaw07_mod.f e (wrap64 (sI out + 1))).bind fun t=>(some (out,t))) = some (l,E):=by
 by_cases h0:out.length = 0
 ·exact ⟨[0],0,⟨by simp,by simp,fun x hx=>by rw [List.mem_singleton.1 hx];omega⟩,Int.le_refl _,by simp [sI],fun hne=>absurd h0 hne,by rw [if_pos (by omega)]⟩
 ·have hb:=sI_bound hm
  obtain ⟨m,h1,h2,h3⟩:=mod_some e (n:=sI out + 1) (by omega) (by omega)
  refine ⟨out,m,⟨by omega,ho,hm⟩,h1,by omega,fun _=>rfl,?_⟩
  rw [if_neg (by omega),wrap_id (by omega) (by omega),h3]
  rfl
theorem tame_l0 (l:List Int) (e:Int):∀ (d i:Nat) (out:List Int),i + d = 10 → i ≤ l.length → out.length = i → (∀ x ∈ out,0 ≤ x ∧ x ≤ 1000) → ∃ l' E,IsCl l' ∧ 0 ≤ E ∧ E ≤ sI l' ∧ (l.length ≠ 0 → l'.length = min l.length 10) ∧ Ev (fun k=>numnahlaw07_tame.l0 k l e out (sI out) (i:Int)) (l',E):=by
 intro d
 induction d with
 | zero =>
  intro i out hi hil0 ho hm
  obtain ⟨l',E,h1,h2,h3,h5,h4⟩:=tame_end (by omega) hm e
  refine ⟨l',E,h1,h2,h3,fun _=>by rw [h5 (by omega)];omega,Ev.step (f:=fun _=>some (l',E)) (fun k=>?_) (Ev.now _)⟩
  rw [numnahlaw07_tame.l0]
  by_cases hil:(i:Int) < (l.length:Int)
  ·rw [if_pos hil,if_neg (by omega)];exact h4
  ·rw [if_neg hil];exact h4
 | succ d ih =>
  intro i out hi hil0 ho hm
  by_cases hil:i < l.length
  ·obtain ⟨m,m0,m1,hmod⟩:=mod_some l[i] (n:=1001) (by omega) (by omega)
   have hm':∀ x ∈ out ++ [m],0 ≤ x ∧ x ≤ 1000:=fun x hx=>by
    rcases List.mem_append.1 hx with hx | hx
    ·exact hm x hx
    ·rw [List.mem_singleton.1 hx];omega
   obtain ⟨l',E,h1,h2,h3,h5,h4⟩:=ih (i + 1) (out ++ [m]) (by omega) (by omega) (by simp [ho]) hm'
   refine ⟨l',E,h1,h2,h3,h5,Ev.step (fun k=>?_) h4⟩
   have hb:=sI_bound hm'
   have hlen:(out ++ [m]).length = i + 1:=by simp [ho]
   have hrd:rd (out ++ [m]) (i:Int) = m:=by rw [rd_get (by omega)];simp [← ho]
   have hs:sI out + m = sI (out ++ [m]):=by rw [sI_append];simp [sI]
   rw [numnahlaw07_tame.l0,if_pos (by omega),if_pos (by omega),if_pos (by omega),rd_get hil,hmod]
   simp only [Option.bind_some]
   rw [if_pos (by omega),if_pos (by omega),hrd,hs,wrap_id (by omega) (by omega),wrap_succ (by omega)]
  ·obtain ⟨l',E,h1,h2,h3,h5,h4⟩:=tame_end (by omega) hm e
   refine ⟨l',E,h1,h2,h3,fun hne=>by rw [h5 (by omega)];omega,Ev.step (f:=fun _=>some (l',E)) (fun k=>?_) (Ev.now _)⟩
   rw [numnahlaw07_tame.l0,if_neg (by omega)]
   exact h4
theorem ev_tame (l:List Int) (e:Int):∃ l' E,IsCl l' ∧ 0 ≤ E ∧ E ≤ sI l' ∧ (l.length ≠ 0 → l'.length = min l.length 10) ∧ Ev (fun k=>numnahlaw07_tame.f k l e) (l',E):=tame_l0 l e 10 0 [] (by omega) (by omega) rfl (by simp)
theorem IsRule.len {r:Nat} {q:List Rat} {E:Rat} {x:List Rat} (h:IsRule r q E x):x.length = q.length:=by
 obtain ⟨_,_,rfl,_⟩:=h
 exact List.length_map _
section
variable {l:List Int} (h:IsCl l) {E:Int} (h0:0 ≤ E) (h1:E ≤ sI l) {r:Nat}
include h h0 h1
theorem cl_nonneg:∀ c ∈ cl l,0 ≤ c:=fun c hc=>(cl_okC h c hc).lo
theorem award_one (hr:r ≤ 4):∃ x,IsRule r (cl l) (E:Rat) x ∧ Ev (fun k=>shares_Award.f k (r:Int) l E) (encL x,0) ∧ Ev (fun k=>numnahref07_Award.f k (r:Int) l E) (encL x):=by
 obtain ⟨x,hx,e1⟩:=ev_Award h h0 h1 hr
 obtain ⟨y,hy,e2⟩:=ev_rAward h h0 h1 hr
 have:x = y:=hx.unique hy (cl_nonneg h h0 h1)
 subst this
 exact ⟨x,hx,e1,e2⟩
theorem award_within {x:List Rat} (hx:IsRule r (cl l) (E:Rat) x):∃ φ:Rat → Rat,Form r (cl l) (E:Rat) φ ∧ x = (cl l).map φ ∧ tot x = (E:Rat) ∧ ∀ c ∈ cl l,0 ≤ φ c ∧ φ c ≤ c:=by
 obtain ⟨φ,hf,rfl,ht⟩:=hx
 exact ⟨φ,hf,rfl,ht,form_within hf (E_ge h0) (E_le h h0 h1) ht (cl_nonneg h h0 h1)⟩
theorem award_D {x:List Rat} (hx:IsRule r (cl l) (E:Rat) x):∃ D,0 < D ∧ D ≤ 10000 ∧ (r ≠ 0 → D ≤ 20) ∧ ∀ y ∈ x,y.den ∣ D:=by
 have hs:=sI_cl h
 have hl:=h.ten
 have hlen:(cl l).length ≤ 10:=by rw [cl_length];exact hl
 have hlen1:1 ≤ (cl l).length:=by rw [cl_length];exact h.one
 obtain ⟨φ,hf,rfl,ht⟩:=hx
 have hcl:∀ c ∈ cl l,c.den ∣ 2:=fun c hc=>(cl_okC h c hc).den
 have hch:∀ c ∈ cl l,(c / 2).den ∣ 2:=fun c hc=>(cl_half_okC h _ (List.mem_map.2 ⟨c,hc,rfl⟩)).den
 have wh:∀ {F L:Rat},F.den ∣ 2 → tot ((cl l).map fun c=>min c L) = F → ∃ D,2 ∣ D ∧ 0 < D ∧ D ≤ 20 ∧ ∀ c ∈ cl l,(min c L).den ∣ D:=fun {F L} hF h2=>by
  obtain ⟨m,m1,m2,md⟩:=IsEq.den2 (l:=cl l) ⟨L,rfl,h2⟩ (by omega) hcl hF hlen1
  exact ⟨2 * m,Nat.dvd_mul_right _ _,by omega,by omega,fun c hc=>md _ (List.mem_map.2 ⟨c,hc,rfl⟩)⟩
 have hv:∀ {F L:Rat},F.den ∣ 2 → tot ((cl l).map fun c=>min (c / 2) L) = F → ∃ D,2 ∣ D ∧ 0 < D ∧ D ≤ 20 ∧ ∀ c ∈ cl l,(min (c / 2) L).den ∣ D:=fun {F L} hF h2=>by
  rw [← map_half] at h2
  obtain ⟨m,m1,m2,md⟩:=IsEq.den2 (l:=(cl l).map (· / 2)) ⟨L,rfl,h2⟩ (by omega) (fun d hd=>(cl_half_okC h d hd).den) hF (by rw [List.length_map];exact hlen1)
  rw [List.length_map] at m2
  exact ⟨2 * m,Nat.dvd_mul_right _ _,by omega,by omega,fun c hc=>md _ (List.mem_map.2 ⟨c / 2,List.mem_map.2 ⟨c,hc,rfl⟩,rfl⟩)⟩
 have fin:∀ (f:Rat → Rat) (D:Nat),0 < D → D ≤ 10000 → (r ≠ 0 → D ≤ 20) → (∀ c ∈ cl l,(f c).den ∣ D) → ∃ D,0 < D ∧ D ≤ 10000 ∧ (r ≠ 0 → D ≤ 20) ∧ ∀ y ∈ (cl l).map f,y.den ∣ D:=fun f D d0 d1 d3 d2=>⟨D,d0,d1,d3,fun y hy=>by
  obtain ⟨c,hc,rfl⟩:=List.mem_map.1 hy
  exact d2 c hc⟩
 rcases form_cases hf with ⟨r0,rfl⟩ | ⟨_,L,rfl⟩ | ⟨_,L,rfl⟩ | ⟨_,_,L,rfl⟩ | ⟨_,_,L,rfl⟩ | ⟨_,_,L,rfl⟩
 ·obtain ⟨a,ha⟩:∃ a:Nat,sI l = (a:Int):=⟨(sI l).toNat,by omega⟩
  by_cases hp:0 < tot (cl l)
  ·have hap:0 < a:=by rw [tot_cl,ha] at hp;have:=Rat.intCast_pos.1 hp;omega
   refine fin _ a hap (by omega) (fun hr=>absurd r0 hr) (fun c hc=>?_)
   obtain ⟨n,hn,rfl⟩:=List.mem_map.1 hc
   rw [if_pos hp,tot_cl]
   have e:(n:Rat) * (E:Rat) / (sI l:Rat) = mkRat (n * E) a:=by rw [mk_frac,ha];push_cast;rfl
   rw [e]
   exact den_dvd _ (by omega)
  ·refine fin _ 1 (by omega) (by omega) (fun _=>by omega) (fun c hc=>?_)
   rw [if_neg hp]
   exact Nat.one_dvd _
 ·obtain ⟨D,_,d1,d2,d3⟩:=wh (E_den E) ht
  exact fin _ D d1 (by omega) (fun _=>d2) d3
 ·have hF:(tot (cl l) - (E:Rat)).den ∣ 2:=sub_den_dvd' (by rw [tot_cl];exact E_den _) (E_den E) (by omega)
  have:=tot_sub (fun c=>c) (fun c=>min c L) (cl l)
  rw [List.map_id',ht] at this
  obtain ⟨D,d0,d1,d2,d3⟩:=wh hF (L:=L) (by grind)
  exact fin _ D d1 (by omega) (fun _=>d2) fun c hc=>sub_den_dvd' (Nat.dvd_trans (hcl c hc) d0) (d3 c hc) d1
 ·obtain ⟨D,_,d1,d2,d3⟩:=hv (E_den E) ht
  exact fin _ D d1 (by omega) (fun _=>d2) d3
 ·have hF:(tot (cl l) - (E:Rat)).den ∣ 2:=sub_den_dvd' (by rw [tot_cl];exact E_den _) (E_den E) (by omega)
  have:=tot_sub (fun c=>c) (fun c=>min (c / 2) L) (cl l)
  rw [List.map_id',ht] at this
  obtain ⟨D,d0,d1,d2,d3⟩:=hv hF (L:=L) (by grind)
  exact fin _ D d1 (by omega) (fun _=>d2) fun c hc=>sub_den_dvd' (Nat.dvd_trans (hcl c hc) d0) (d3 c hc) d1
 ·have e:mkRat (sI l) 2 = (sI l:Rat) / 2:=mk_frac _ _
  have hF:((E:Rat) - tot (cl l) / 2).den ∣ 2:=sub_den_dvd' (E_den E) (by rw [tot_cl,← e];exact den_dvd _ (by omega)) (by omega)
  have:=tot_add (fun c=>c / 2) (fun c=>min (c / 2) L) (cl l)
  rw [ht,half_tot] at this
  obtain ⟨D,d0,d1,d2,d3⟩:=hv hF (L:=L) (by grind)
  exact fin _ D d1 (by omega) (fun _=>d2) fun c hc=>add_den_dvd' (Nat.dvd_trans (hch c hc) d0) (d3 c hc) d1
theorem award_den {x:List Rat} (hx:IsRule r (cl l) (E:Rat) x):∀ y ∈ x,y.den ≤ 10000:=by
 obtain ⟨D,d0,d1,_,d2⟩:=award_D h h0 h1 hx
 exact fun y hy=>Nat.le_trans (Nat.le_of_dvd d0 (d2 y hy)) d1
theorem award_sm {x:List Rat} (hx:IsRule r (cl l) (E:Rat) x):∀ y ∈ x,0 ≤ y ∧ Sm 10000000 10000 y:=by
 have hd:=award_den h h0 h1 hx
 obtain ⟨φ,hf,rfl,ht,hw⟩:=award_within h h0 h1 hx
 intro y hy
 have hdy:=hd y hy
 obtain ⟨c,hc,rfl⟩:=List.mem_map.1 hy
 obtain ⟨w1,w2⟩:=hw c hc
 have hhi:=(cl_okC h c hc).hi
 exact ⟨w1,Nat.le_trans (num_abs (B:=1000) w1 (by grind) hdy) (by decide),hdy⟩
theorem award_fit {x:List Rat} (hx:IsRule r (cl l) (E:Rat) x):Ev (fun k=>numnahlaw07_fit.f k (encL x)) true :=
 ev_fit (by rw [hx.len,cl_length];have:=h.ten;omega) (fun y hy=>by
  obtain ⟨a,b⟩:=award_sm h h0 h1 hx y hy
  exact ⟨a,b.mono (by decide) (by decide)⟩)
end
end Go.Proofs.Ytjohcjfmlhihbaa.P

/- Several texts, joined. -/
import Derived.SizedLaws
import Derived.ChangeSlices
import Derived.Test.YtjohcjfmlhihbaaQDual1
set_option linter.unusedVariables false
set_option linter.unusedSimpArgs false
namespace Go.Proofs.Ytjohcjfmlhihbaa.G
open Go.RowKit Go.Proofs.YtjohcjfmlhihbaaW.PrintWords Go.Proofs.YtjohcjfmlhihbaaW.PrintLast Go.Proofs.YtjohcjfmlhihbaaW.PrintMore
set_option maxHeartbeats 8000000
set_option maxRecDepth 100000
attribute [local go_sem] cond_true cond_false fld23_0 fld23_1 fld45_0 fld45_1 fld109_0 fld109_1 fld94_0 fld94_1 max2_int min2_int max_two min_two max_three min_three max_four min_four
def numnahlaw07_tame.l0:Nat → List Int → Int → List Int → Int → Int → Option (List Int × Int)
 | 0,_,_,_,_,_=>none
 | k + 1,x0,x1,x6,x7,x8=>if x8 < (x0.length:Int) then (if x8 < 10 then (if 0 ≤ x8 then ((numnahlaw07_mod.f (rd x0 x8) 1001).bind fun t438=>(if x6.length < 17592186044416 then ((some (x6 ++ [t438]:List Int)).bind fun y439=>(if x8 < (y439.length:Int) then (numnahlaw07_tame.l0 k x0 x1 y439 (wrap64 (x7 + (rd y439 x8))) (wrap64 (x8 + 1))) else (none))) else (none))) else (none)) else (if (x6.length:Int) = 0 then (some ((([0]:List Int)),0)) else ((numnahlaw07_mod.f x1 (wrap64 (x7 + 1))).bind fun t446=>(some (x6,t446))))) else (if (x6.length:Int) = 0 then (some ((([0]:List Int)),0)) else ((numnahlaw07_mod.f x1 (wrap64 (x7 + 1))).bind fun t450=>(some (x6,t450))))
def numnahlaw07_tame.f (k:Nat) (l0:List Int) (a1:Int):Option (List Int × Int):=numnahlaw07_tame.l0 k l0 a1 (([]:List Int)) 0 0
theorem numnahlaw07_tame.mono_l:∀ k,(∀ y0 y1 y2 y3 y4,LeO (numnahlaw07_tame.l0 k y0 y1 y2 y3 y4) (numnahlaw07_tame.l0 (k + 1) y0 y1 y2 y3 y4))
 | 0=>fun _ _ _ _ _ r h=>by simp [numnahlaw07_tame.l0] at h
 | k + 1=>by
  have ih0:=numnahlaw07_tame.mono_l k
  intro y0 y1 y2 y3 y4
  unfold numnahlaw07_tame.l0
  repeat' first
  | (with_reducible first | exact ih0 _ _ _ _ _ | exact LeO.refl _ | exact LeO.none _ | refine LeO.ite ?_ ?_ | refine LeO.bind ?_ (fun _=>?_))
  | exact LeO.none _ | refine LeO.ite ?_ ?_ | refine LeO.bind ?_ (fun _=>?_)
theorem numnahlaw07_tame.mono:∀ a0 a1 k,LeO (numnahlaw07_tame.f k a0 a1) (numnahlaw07_tame.f (k + 1) a0 a1):=by
 intro a0 a1 k
 have ih0:=numnahlaw07_tame.mono_l k
 unfold numnahlaw07_tame.f
 repeat' first
   | (with_reducible first | exact ih0 _ _ _ _ _ | exact LeO.refl _ | exact LeO.none _ | refine LeO.ite ?_ ?_ | refine LeO.bind ?_ (fun _=>?_))
   | exact LeO.none _ | refine LeO.ite ?_ ?_ | refine LeO.bind ?_ (fun _=>?_)
theorem numnahlaw07_tame.calls (k:Nat) (A0:Option Addr) (c0:Nat) (l0:List Int) (a1:Int) (r1:List Int) (r2:Int) (w:World) (hr0:Kd.C (Kd.int .i64) w A0 l0.length l0) (hc0:l0.length ≤ c0) (h:numnahlaw07_tame.f k l0 a1 = some (r1,r2)) :
  Calls Try.prog 25 #[.slice A0 l0.length c0,.int .i64 a1] w fun e w'=>∃ v0_:Value,e = .returned (.tuple #[v0_,.int .i64 r2]) ∧ Kd.R (Kd.int .i64) 3 w' w.heap.size (fun _=>True) v0_ r1 ∧ Below w.heap.size w w':=by
 have HR0:=A_ hr0
 have HC0:=A_ hc0
 clear hr0 hc0
 have HB:=A_ (Below.refl w.heap.size w)
 have H:(numnahlaw07_tame.l0 k l0 a1 (([]:List Int)) 0 0) = some (r1,r2):=h
 clear h
 obtain ⟨y434,hy434⟩:∃ y_:List Int,y_ = (([]:List Int)):=⟨_,rfl⟩
 rw [← hy434] at H
 have Ny434:=A_ hy434
 clear hy434
 have H':=A_ H
 clear H
 go_enter Try.func25,Try.ntmps25
 go_wp2_with (first | ((with_reducible refine gate_dst (N:=9) rfl ?_);refine Kd.R_lit (Kd.int .i64) _ 3 ?hg (N:=9) ?hd (xs:=([]:List Int)) (inner:=[]) (ok:=fun _=>True) (okp:=fun _=>True) ?hr ?hp (fun _ hk=>hk) trivial (Below.refl _ _) (Nat.le_refl _) (by simp) ?_;(case hd=>rfl);(case hg=>rfl);(case hr=>first | (go_simp;done) | (go_simp;rfl));(case hp=>exact (Reps.none _ _));intro v435 w3 ho4 hb hg_ hnew_;clear hg_ hnew_;(first | rw [← Ny434.out] at ho4 | (simp only [Int.reduceToNat] at ho4;rw [← Ny434.out] at ho4));have HO436:=A_ (Kd.R_lower ho4 (below_size (bl HB)));replace HB:=bB HB hb;clear hb ho4))
 go_loopg [6,7,8] k (fun kq v6 v7 v8 w'=>∃ (x6_1:List Int) (x7_1:Int) (x8_1:Int),v7 = .int .i64 x7_1 ∧ v8 = .int .i64 x8_1 ∧ Aside0 (numnahlaw07_tame.l0 kq l0 a1 x6_1 x7_1 x8_1 = some (r1,r2)) ∧ Aside0 (kq ≤ k) ∧ Aside0 (Kd.R (Kd.int .i64) 3 w' w.heap.size (fun _=>True) v6 x6_1) ∧ Aside0 (Below w.heap.size w w'))
 case atStart=>exact ⟨(y434),(0),(0),(by first | rfl | (simp;done) | (simp [*];done)),(by first | rfl | (simp;done) | (simp [*];done)),H',⟨Nat.le_refl _⟩,⟨by (with_reducible repeat (first | apply Kd.R_alloc | apply Kd.R_drewN | apply Kd.R_drew));exact HO436.out⟩,⟨bl HB⟩⟩
 case round =>
  clear H'
  obtain ⟨x6_1,x7_1,x8_1,rfl,rfl,HA,HK1,HO_6,HB⟩:=hrel
  cases gk with
  | zero=>exact absurd HA.out (by simp [numnahlaw07_tame.l0])
  | succ k1 =>
   have H:=HA.out
   clear HA
   simp only [numnahlaw07_tame.l0] at H
   by_cases c5:x8_1 < (l0.length:Int)
   case neg =>
    rw [if_neg c5] at H
    have c5b0:=decide_eq_false c5
    clear c5
    by_cases c19:(x6_1.length:Int) = 0
    case neg =>
     rw [if_neg c19] at H
     have c19b0:((x6_1.length:Int) == 0) = false:=beq_eq_false_iff_ne.mpr c19
     have c19b1:((x6_1.length:Int) != 0) = true:=bne_iff_ne.mpr c19
     have c19b2:¬ (x6_1 = []):=fun h_=>c19 (by rw [h_];rfl)
     replace H:=Option.bind_eq_some_iff.mp H
     obtain ⟨t450,A230,H⟩:=H
     replace H:(some (x6_1,t450)) = some (r1,r2):=H
     have A23:=A_ A230
     clear A230
     simp only [Option.some.injEq,Prod.mk.injEq] at H
     obtain ⟨rfl,rfl⟩:=H
     obtain ⟨Ao24,co24,eo24⟩:=Kd.R_slice HO_6.out
     subst eo24
     go_wp2_with (first | ((with_reducible refine gate_callee (f:=29) rfl ?_);refine gL (some 42) Try.func29 #[.int .i64 a1,.int .i64 (wrap64 (x7_1 + 1))] ?_;(with_reducible refine (numnahlaw07_mod.calls a1 (wrap64 (x7_1 + 1)) t450 _ A23.out).mono ?_);rintro e w' ⟨rfl,⟨nd,rfl⟩⟩;refine ⟨_,rfl,?_⟩))
     go_ret2
     exact ⟨_,by first | rfl | (simp [errW_none,errW_some] <;> rfl) | (simp [*,errW_none,errW_some] <;> rfl),by (with_reducible repeat (first | apply Kd.R_alloc | apply Kd.R_drewN | apply Kd.R_drew));exact HO_6.out,bl HB⟩
    rw [if_pos c19] at H
    have c19b0:((x6_1.length:Int) == 0) = true:=beq_iff_eq.mpr c19
    have c19b1:((x6_1.length:Int) != 0) = false:=bne_eq_false_iff_eq.mpr c19
    clear c19
    obtain ⟨y447,hy447⟩:∃ y_:List Int,y_ = (([0]:List Int)):=⟨_,rfl⟩
    rw [← hy447] at H
    have Ny447:=A_ hy447
    clear hy447
    simp only [Option.some.injEq,Prod.mk.injEq] at H
    obtain ⟨rfl,rfl⟩:=H
    obtain ⟨Ao20,co20,eo20⟩:=Kd.R_slice HO_6.out
    subst eo20
    go_wp2_with (first | ((with_reducible refine gate_dst (N:=37) rfl ?_);refine Kd.R_lit (Kd.int .i64) _ 3 ?hg (N:=37) ?hd (xs:=([0]:List Int)) (inner:=[.int .i64 0]) (ok:=fun _=>True) (okp:=fun _=>True) ?hr ?hp (fun _ hk=>hk) trivial (Below.refl _ _) (Nat.le_refl _) (by simp) ?_;(case hd=>rfl);(case hg=>rfl);(case hr=>first | (go_simp;done) | (go_simp;rfl));(case hp=>exact (Reps.one (show Kd.M (Kd.int .i64) _ _ _ 0 [.int .i64 0] from rfl) (Reps.none _ _)));intro v448 w21 ho22 hb hg_ hnew_;clear hg_ hnew_;(first | rw [← Ny447.out] at ho22 | (simp only [Int.reduceToNat] at ho22;rw [← Ny447.out] at ho22));have HO449:=A_ (Kd.R_lower (Kd.R_new' ho22 (Kd.R_lt (rs HO_6))) (below_size (bl HB)));replace HO_6:=A_ (Kd.R_elder' (rs HO_6) (Kd.R_base ho22) hb);replace HB:=bB HB hb;clear hb ho22))
    go_ret2
    exact ⟨_,by first | rfl | (simp [errW_none,errW_some] <;> rfl) | (simp [*,errW_none,errW_some] <;> rfl),by (with_reducible repeat (first | apply Kd.R_alloc | apply Kd.R_drewN | apply Kd.R_drew));exact Kd.R_mono HO449.out (fun _ hk=>trivial),bl HB⟩
   rw [if_pos c5] at H
   have c5b0:=decide_eq_true c5
   clear c5
   by_cases c6:x8_1 < 10
   case neg =>
    rw [if_neg c6] at H
    have c6b0:=decide_eq_false c6
    clear c6
    by_cases c13:(x6_1.length:Int) = 0
    case neg =>
     rw [if_neg c13] at H
     have c13b0:((x6_1.length:Int) == 0) = false:=beq_eq_false_iff_ne.mpr c13
     have c13b1:((x6_1.length:Int) != 0) = true:=bne_iff_ne.mpr c13
     have c13b2:¬ (x6_1 = []):=fun h_=>c13 (by rw [h_];rfl)
     replace H:=Option.bind_eq_some_iff.mp H
     obtain ⟨t446,A170,H⟩:=H
     replace H:(some (x6_1,t446)) = some (r1,r2):=H
     have A17:=A_ A170
     clear A170
     simp only [Option.some.injEq,Prod.mk.injEq] at H
     obtain ⟨rfl,rfl⟩:=H
     obtain ⟨Ao18,co18,eo18⟩:=Kd.R_slice HO_6.out
     subst eo18
     go_wp2_with (first | ((with_reducible refine gate_callee (f:=29) rfl ?_);refine gL (some 42) Try.func29 #[.int .i64 a1,.int .i64 (wrap64 (x7_1 + 1))] ?_;(with_reducible refine (numnahlaw07_mod.calls a1 (wrap64 (x7_1 + 1)) t446 _ A17.out).mono ?_);rintro e w' ⟨rfl,⟨nd,rfl⟩⟩;refine ⟨_,rfl,?_⟩))
     go_ret2
     exact ⟨_,by first | rfl | (simp [errW_none,errW_some] <;> rfl) | (simp [*,errW_none,errW_some] <;> rfl),by (with_reducible repeat (first | apply Kd.R_alloc | apply Kd.R_drewN | apply Kd.R_drew));exact HO_6.out,bl HB⟩
    rw [if_pos c13] at H
    have c13b0:((x6_1.length:Int) == 0) = true:=beq_iff_eq.mpr c13
    have c13b1:((x6_1.length:Int) != 0) = false:=bne_eq_false_iff_eq.mpr c13
    clear c13
    obtain ⟨y443,hy443⟩:∃ y_:List Int,y_ = (([0]:List Int)):=⟨_,rfl⟩
    rw [← hy443] at H
    have Ny443:=A_ hy443
    clear hy443
    simp only [Option.some.injEq,Prod.mk.injEq] at H
    obtain ⟨rfl,rfl⟩:=H
    obtain ⟨Ao14,co14,eo14⟩:=Kd.R_slice HO_6.out
    subst eo14
    go_wp2_with (first | ((with_reducible refine gate_dst (N:=37) rfl ?_);refine Kd.R_lit (Kd.int .i64) _ 3 ?hg (N:=37) ?hd (xs:=([0]:List Int)) (inner:=[.int .i64 0]) (ok:=fun _=>True) (okp:=fun _=>True) ?hr ?hp (fun _ hk=>hk) trivial (Below.refl _ _) (Nat.le_refl _) (by simp) ?_;(case hd=>rfl);(case hg=>rfl);(case hr=>first | (go_simp;done) | (go_simp;rfl));(case hp=>exact (Reps.one (show Kd.M (Kd.int .i64) _ _ _ 0 [.int .i64 0] from rfl) (Reps.none _ _)));intro v444 w15 ho16 hb hg_ hnew_;clear hg_ hnew_;(first | rw [← Ny443.out] at ho16 | (simp only [Int.reduceToNat] at ho16;rw [← Ny443.out] at ho16));have HO445:=A_ (Kd.R_lower (Kd.R_new' ho16 (Kd.R_lt (rs HO_6))) (below_size (bl HB)));replace HO_6:=A_ (Kd.R_elder' (rs HO_6) (Kd.R_base ho16) hb);replace HB:=bB HB hb;clear hb ho16))
    go_ret2
    exact ⟨_,by first | rfl | (simp [errW_none,errW_some] <;> rfl) | (simp [*,errW_none,errW_some] <;> rfl),by (with_reducible repeat (first | apply Kd.R_alloc | apply Kd.R_drewN | apply Kd.R_drew));exact Kd.R_mono HO445.out (fun _ hk=>trivial),bl HB⟩
   rw [if_pos c6] at H
   have c6b0:=decide_eq_true c6
   clear c6
   replace H:=gd H
   obtain ⟨c7,H⟩:=H
   have c7b0:=decide_eq_true c7
   clear c7
   replace H:=Option.bind_eq_some_iff.mp H
   obtain ⟨t438,A80,H⟩:=H
   replace H:(if x6_1.length < 17592186044416 then ((some (x6_1 ++ [t438]:List Int)).bind fun y439=>(if x8_1 < (y439.length:Int) then (numnahlaw07_tame.l0 k1 l0 a1 y439 (wrap64 (x7_1 + (rd y439 x8_1))) (wrap64 (x8_1 + 1))) else (none))) else (none)) = some (r1,r2):=H
   have A8:=A_ A80
   clear A80
   replace H:=gd H
   obtain ⟨c9,H⟩:=H
   have LMc9:=A_ c9
   clear c9
   obtain ⟨y439,hy439⟩:∃ y_:List Int,y_ = (x6_1 ++ [t438]):=⟨_,rfl⟩
   rw [← hy439] at H
   have Ny439:=A_ hy439
   clear hy439
   replace H:=gd H
   obtain ⟨c10,H⟩:=H
   have c10b0:=decide_eq_true c10
   clear c10
   have H':=A_ H
   clear H
   have p437:0 ≤ (x8_1:Int):=of_decide_eq_true (by first | (with_reducible assumption) | assumption)
   have q437:x8_1 < (l0.length:Int):=of_decide_eq_true (by first | (with_reducible assumption) | assumption)
   obtain ⟨ad437,e437,hx437_0⟩:=Kd.at_int HR0.out x8_1 p437 q437
   cases e437
   replace hx437_0:=(HB.out.cell (World.block_lt_of_cell? w _ hx437_0)).trans hx437_0
   replace p437:=eq_true p437
   replace q437:=eq_true q437
   go_wp2_with (first | ((with_reducible refine gate_callee (f:=29) rfl ?_);refine gL (some 25) Try.func29 #[.int .i64 (rd l0 x8_1),.int .i64 1001] ?_;(with_reducible refine (numnahlaw07_mod.calls (rd l0 x8_1) 1001 t438 _ A8.out).mono ?_);rintro e w' ⟨rfl,⟨nd,rfl⟩⟩;refine ⟨_,rfl,?_⟩) | ((with_reducible refine gate_builtin (b:=.append) (xs:=#[.tmp 20,.tmp 26]) rfl ?_);at_builtin;refine Kd.R_append (Kd.int .i64) (w0:=w) w.heap.size rfl (.tmp 20) (.tmp 26) 28 3 (.int .i64 0) 8 rfl Try.underlying28 info3 rfl (by decide) (by omega) u6 x6_1 t438 [.int .i64 t438] (fun _=>True) (fun _=>False) rfl rfl ?aP (fun _ hk=>hk.elim) ?aF ?aO ?aB ?aS ?aL ?_;(case aP=>exact rfl);(case aB=>exact (bl HB));(case aF=>exact (fun _ _=>trivial));(case aO=>exact (rs HO_6));(case aS=>exact (below_size (bl HB)));(case aL=>have:=LMc9.out;omega);intro v440 w11 ho hb hg hat;rw [← Ny439.out] at ho;have HO441:=A_ ho;replace HB:=A_ hb;clear HO_6;clear ho hb hg hat;obtain ⟨Ao12,co12,eo12⟩:=Kd.R_slice HO441.out;subst eo12;have p442:0 ≤ (x8_1:Int):=of_decide_eq_true (by first | (with_reducible assumption) | assumption);have q442:x8_1 < (y439.length:Int):=of_decide_eq_true (by first | (with_reducible assumption) | assumption);obtain ⟨ad442,e442,hx442_0⟩:=Kd.at_int (Kd.R_reads' HO441.out).2.2 x8_1 p442 q442;cases e442;replace p442:=eq_true p442;replace q442:=eq_true q442))
   go_roundg k1
   case measure=>have:=HK1.out;omega
   case rel=>exact ⟨(y439),(wrap64 (x7_1 + (rd y439 x8_1))),(wrap64 (x8_1 + 1)),(by first | rfl | (simp;done) | (simp [*];done)),(by first | rfl | (simp;done) | (simp [*];done)),H',⟨by have:=HK1.out;omega⟩,⟨by (with_reducible repeat (first | apply Kd.R_alloc | apply Kd.R_drewN | apply Kd.R_drew));exact HO441.out⟩,⟨bl HB⟩⟩
end Go.Proofs.Ytjohcjfmlhihbaa.G
namespace Go.Proofs.Ytjohcjfmlhihbaa.G
open Go.RowKit Go.Proofs.YtjohcjfmlhihbaaW.PrintWords Go.Proofs.YtjohcjfmlhihbaaW.PrintLast Go.Proofs.YtjohcjfmlhihbaaW.PrintMore
set_option maxHeartbeats 8000000
set_option maxRecDepth 100000
attribute [local go_sem] cond_true cond_false fld23_0 fld23_1 fld45_0 fld45_1 fld109_0 fld109_1 fld94_0 fld94_1 max2_int min2_int max_two min_two max_three min_three max_four min_four   -- for this text's walks alone
def numnahlaw07_fit.l0:Nat → List (S23) → Int → Option (Bool)
 | 0,_,_=>none
 | k + 1,x0,x3=>if x3 < (x0.length:Int) then (if 0 ≤ x3 then ((numnahref07_Within.f k ((rd_T23 x0 x3).f0) ((rd_T23 x0 x3).f1) 0 1073741824 1073741824).bind fun t454=>(if t454 = true then (numnahlaw07_fit.l0 k x0 (wrap64 (x3 + 1))) else (some false))) else (none)) else (some true)
def numnahlaw07_fit.f (k:Nat) (l0:List (S23)):Option (Bool):=numnahlaw07_fit.l0 k l0 0
theorem numnahlaw07_fit.mono_l:∀ k,(∀ y0 y1,LeO (numnahlaw07_fit.l0 k y0 y1) (numnahlaw07_fit.l0 (k + 1) y0 y1))
 | 0=>fun _ _ r h=>by simp [numnahlaw07_fit.l0] at h
 | k + 1=>by
  have ih0:=numnahlaw07_fit.mono_l k
  intro y0 y1
  unfold numnahlaw07_fit.l0
  repeat' first
  | (with_reducible exact ih0 _ _)
  | (with_reducible exact numnahref07_Within.mono _ _ _ _ _ _)
  | (with_reducible exact LeO.refl _)
  | (with_reducible exact LeO.none _)
  | (with_reducible refine LeO.ite ?_ ?_)
  | (with_reducible refine LeO.bind ?_ (fun _=>?_))
  | exact ih0 _ _
  | exact numnahref07_Within.mono _ _ _ _ _ _
  | exact LeO.none _
  | refine LeO.ite ?_ ?_
  | refine LeO.bind ?_ (fun _=>?_)
theorem numnahlaw07_fit.mono:∀ a0 k,LeO (numnahlaw07_fit.f k a0) (numnahlaw07_fit.f (k + 1) a0):=by
 intro a0 k
 have ih0:=numnahlaw07_fit.mono_l k
 unfold numnahlaw07_fit.f
 repeat' first
   | (with_reducible exact ih0 _ _)
   | (with_reducible exact numnahref07_Within.mono _ _ _ _ _ _)
   | (with_reducible exact LeO.refl _)
   | (with_reducible exact LeO.none _)
   | (with_reducible refine LeO.ite ?_ ?_)
   | (with_reducible refine LeO.bind ?_ (fun _=>?_))
   | exact ih0 _ _
   | exact numnahref07_Within.mono _ _ _ _ _ _
   | exact LeO.none _
   | refine LeO.ite ?_ ?_
   | refine LeO.bind ?_ (fun _=>?_)
theorem numnahlaw07_fit.calls (k:Nat) (A0:Option Addr) (c0:Nat) (l0:List (S23)) (r:Bool) (w:World) (hr0:Kd.C k23 w A0 l0.length l0) (hc0:l0.length ≤ c0) (h:numnahlaw07_fit.f k l0 = some r) :
  Calls Try.prog 27 #[.slice A0 l0.length c0] w fun e w'=>e = .returned (.bool r) ∧ Below w.heap.size w w':=by
 have hu23:=Try.underlying23
 have HR0:=Aside0.mk hr0
 have HC0:=Aside0.mk hc0
 clear hr0 hc0
 have HB:=Aside0.mk (Below.refl w.heap.size w)
 have H:(numnahlaw07_fit.l0 k l0 0) = some r:=h
 clear h
 have H':=Aside0.mk H
 clear H
 go_enter Try.func27,Try.ntmps27
 go_wp2
 go_loopg [3] k (fun kq v3 w'=>∃ (x3_1:Int),v3 = .int .i64 x3_1 ∧ Aside0 (numnahlaw07_fit.l0 kq l0 x3_1 = some r) ∧ Aside0 (kq ≤ k) ∧ Aside0 (Below w.heap.size w w'))
 case atStart=>exact ⟨(0),(by first | rfl | (simp;done) | (simp [*];done)),H',⟨Nat.le_refl _⟩,⟨by repeat (first | (with_reducible first | exact HB.out | apply below_alloc | apply pw_below_drewN | apply below_drew1) | exact HB.out)⟩⟩
 case round =>
  clear H'
  obtain ⟨x3_1,rfl,HA,HK1,HB⟩:=hrel
  cases gk with
  | zero=>exact absurd HA.out (by simp [numnahlaw07_fit.l0])
  | succ k1 =>
   have H:=HA.out
   clear HA
   simp only [numnahlaw07_fit.l0] at H
   by_cases c2:x3_1 < (l0.length:Int)
   case neg =>
    rw [if_neg c2] at H
    have c2b0:decide (x3_1 < (l0.length:Int)) = false:=decide_eq_false c2
    clear c2
    obtain rfl:=Option.some.inj H
    go_wp2
    go_ret
    exact ⟨by first | rfl | (simp [errW_none,errW_some] <;> rfl) | (simp [*,errW_none,errW_some] <;> rfl),by repeat (first | (with_reducible first | exact HB.out | apply below_alloc | apply pw_below_drewN | apply below_drew1) | exact HB.out)⟩
   rw [if_pos c2] at H
   have c2b0:decide (x3_1 < (l0.length:Int)) = true:=decide_eq_true c2
   clear c2
   by_cases c3:0 ≤ x3_1
   case neg =>
    rw [if_neg c3] at H
    exact absurd H (by simp)
   rw [if_pos c3] at H
   have c3b0:decide (0 ≤ x3_1) = true:=decide_eq_true c3
   clear c3
   replace H:=Option.bind_eq_some_iff.mp H
   obtain ⟨t454,A40,H⟩:=H
   replace H:(if t454 = true then (numnahlaw07_fit.l0 k1 l0 (wrap64 (x3_1 + 1))) else (some false)) = some r:=H
   have A4:=Aside0.mk A40
   clear A40
   by_cases c5:t454 = true
   case neg =>
    replace c5:=Bool.eq_false_iff.mpr c5
    subst c5
    have H1:(some false) = some r:=by rw [if_neg (show ¬ (false = true) by decide)] at H;exact H
    clear H
    have H:=H1
    clear H1
    obtain rfl:=Option.some.inj H
    have p453:0 ≤ (x3_1:Int):=of_decide_eq_true (by first | (with_reducible assumption) | assumption)
    have q453:x3_1 < (l0.length:Int):=of_decide_eq_true (by first | (with_reducible assumption) | assumption)
    obtain ⟨ad453,e453,hx453_0,hx453_1⟩:=at_T23 HR0.out x3_1 p453 q453
    cases e453
    replace hx453_0:=(HB.out.cell (World.block_lt_of_cell? w _ hx453_0)).trans hx453_0
    replace hx453_1:=(HB.out.cell (World.block_lt_of_cell? w _ hx453_1)).trans hx453_1
    replace p453:=eq_true p453
    replace q453:=eq_true q453
    go_wp2_with (first | ((with_reducible refine gate_callee (f:=69) rfl ?_);refine goesL_ (some 14) rfl rfl Try.func69 (by kernel_rfl) rfl #[.agg #[.int .i64 ((rd_T23 l0 x3_1).f0),.int .i64 ((rd_T23 l0 x3_1).f1)],.int .i64 0,.int .i64 1073741824,.int .i64 1073741824] rfl (by (try simp only [List.map_toArray,List.map_cons,List.map_nil]);first | done | rfl | (simp only [List.length_drop,List.length_take];rfl)) ?_;(with_reducible refine (numnahref07_Within.calls k1 ((rd_T23 l0 x3_1).f0) ((rd_T23 l0 x3_1).f1) 0 1073741824 1073741824 false _ A4.out).mono ?_);rintro e w7 ⟨rfl,hb⟩;refine ⟨_,rfl,?_⟩;have n0_:=Aside0.mk (below_step (by repeat (first | (with_reducible first | exact HB.out | apply below_alloc | apply pw_below_drewN | apply below_drew1) | exact HB.out)) hb);clear HB;have HB:=n0_;clear n0_;(try clear hb)))
    go_ret
    exact ⟨by first | rfl | (simp [errW_none,errW_some] <;> rfl) | (simp [*,errW_none,errW_some] <;> rfl),by repeat (first | (with_reducible first | exact HB.out | apply below_alloc | apply pw_below_drewN | apply below_drew1) | exact HB.out)⟩
   subst c5
   have H1:(numnahlaw07_fit.l0 k1 l0 (wrap64 (x3_1 + 1))) = some r:=by rw [if_pos rfl] at H;exact H
   clear H
   have H:=H1
   clear H1
   have H':=Aside0.mk H
   clear H
   have p453:0 ≤ (x3_1:Int):=of_decide_eq_true (by first | (with_reducible assumption) | assumption)
   have q453:x3_1 < (l0.length:Int):=of_decide_eq_true (by first | (with_reducible assumption) | assumption)
   obtain ⟨ad453,e453,hx453_0,hx453_1⟩:=at_T23 HR0.out x3_1 p453 q453
   cases e453
   replace hx453_0:=(HB.out.cell (World.block_lt_of_cell? w _ hx453_0)).trans hx453_0
   replace hx453_1:=(HB.out.cell (World.block_lt_of_cell? w _ hx453_1)).trans hx453_1
   replace p453:=eq_true p453
   replace q453:=eq_true q453
   go_wp2_with (first | ((with_reducible refine gate_callee (f:=69) rfl ?_);refine goesL_ (some 14) rfl rfl Try.func69 (by kernel_rfl) rfl #[.agg #[.int .i64 ((rd_T23 l0 x3_1).f0),.int .i64 ((rd_T23 l0 x3_1).f1)],.int .i64 0,.int .i64 1073741824,.int .i64 1073741824] rfl (by (try simp only [List.map_toArray,List.map_cons,List.map_nil]);first | done | rfl | (simp only [List.length_drop,List.length_take];rfl)) ?_;(with_reducible refine (numnahref07_Within.calls k1 ((rd_T23 l0 x3_1).f0) ((rd_T23 l0 x3_1).f1) 0 1073741824 1073741824 true _ A4.out).mono ?_);rintro e w6 ⟨rfl,hb⟩;refine ⟨_,rfl,?_⟩;have n0_:=Aside0.mk (below_step (by repeat (first | (with_reducible first | exact HB.out | apply below_alloc | apply pw_below_drewN | apply below_drew1) | exact HB.out)) hb);clear HB;have HB:=n0_;clear n0_;(try clear hb)))
   go_roundg k1
   case measure=>have:=HK1.out;omega
   case rel=>exact ⟨(wrap64 (x3_1 + 1)),(by first | rfl | (simp;done) | (simp [*];done)),H',⟨by have:=HK1.out;omega⟩,⟨by repeat (first | (with_reducible first | exact HB.out | apply below_alloc | apply pw_below_drewN | apply below_drew1) | exact HB.out)⟩⟩
end Go.Proofs.Ytjohcjfmlhihbaa.G
namespace Go.Proofs.Ytjohcjfmlhihbaa.G
open Go.RowKit Go.Proofs.YtjohcjfmlhihbaaW.PrintWords Go.Proofs.YtjohcjfmlhihbaaW.PrintLast Go.Proofs.YtjohcjfmlhihbaaW.PrintMore
set_option maxHeartbeats 8000000
set_option maxRecDepth 100000
attribute [local go_sem] cond_true cond_false fld23_0 fld23_1 fld45_0 fld45_1 fld109_0 fld109_1 fld94_0 fld94_1 max2_int min2_int max_two min_two max_three min_three max_four min_four   -- for this text's walks alone
attribute [local go_sem high] eqA23
def numnahlaw07_fracs.f (l0:List (S23)):Option ((List (S23))):=if 0 ≤ (mn (l0.length:Int) 11) then (if (mn (l0.length:Int) 11) ≤ (l0.length:Int) then ((some (l0.take ((mn (l0.length:Int) 11):Int).toNat:List (S23))).bind fun y687=>(if ([]:List (S23)).length + y687.length < 8796093022208 then (some (([]:List (S23)) ++ y687)) else (none))) else (none)) else (none)
theorem numnahlaw07_fracs.calls (A0:Option Addr) (c0:Nat) (l0:List (S23)) (r:List (S23)) (w:World) (hr0:Kd.C k23 w A0 l0.length l0) (hc0:l0.length ≤ c0) (h:numnahlaw07_fracs.f l0 = some r) :
  Calls Try.prog 36 #[.slice A0 l0.length c0] w fun e w'=>∃ v0_:Value,e = .returned (v0_) ∧ Kd.R k23 23 w' w.heap.size (fun _=>True) v0_ r ∧ Below w.heap.size w w':=by
 have HR0:=Aside0.mk hr0
 have HC0:=Aside0.mk hc0
 clear hr0 hc0
 have HB:=Aside0.mk (Below.refl w.heap.size w)
 have H:(if 0 ≤ (mn (l0.length:Int) 11) then (if (mn (l0.length:Int) 11) ≤ (l0.length:Int) then ((some (l0.take ((mn (l0.length:Int) 11):Int).toNat:List (S23))).bind fun y687=>(if ([]:List (S23)).length + y687.length < 8796093022208 then (some (([]:List (S23)) ++ y687)) else (none))) else (none)) else (none)) = some r:=h
 clear h
 obtain ⟨ji2,hji2⟩:∃ j_:Int,(mn (l0.length:Int) 11) = j_:=⟨_,rfl⟩
 replace H:(if 0 ≤ (ji2) then (if (ji2) ≤ (l0.length:Int) then ((some (l0.take ((ji2):Int).toNat:List (S23))).bind fun y687=>(if ([]:List (S23)).length + y687.length < 8796093022208 then (some (([]:List (S23)) ++ y687)) else (none))) else (none)) else (none)) = some r:=by first | (rw [hji2] at H;exact H) | (simp only [hji2] at H ⊢;exact H)
 (try (have hji2h:ji2 ≤ 11:=by (rw [← hji2];unfold mn;(repeat' split) <;> omega)))
 (try (have hji2g:ji2 ≤ 64:=by omega))
 (try (have hji2l:0 ≤ ji2:=by (rw [← hji2];unfold mn;(repeat' split) <;> omega)))
 (try (have hji2m:0 ≤ ji2:=by omega))
 have hji2_:(if 11 < (l0.length:Int) then 11 else (l0.length:Int)) = ji2:=hji2
 by_cases c3:0 ≤ (ji2)
 case neg =>
  rw [if_neg c3] at H
  exact absurd H (by simp)
 rw [if_pos c3] at H
 have c3b0:=eq_true c3
 have c3b1:decide (0 ≤ (ji2)) = true:=decide_eq_true c3
 clear c3
 by_cases c4:(ji2) ≤ (l0.length:Int)
 case neg =>
  rw [if_neg c4] at H
  exact absurd H (by simp)
 rw [if_pos c4] at H
 have c4b0:=eq_true c4
 have c4b1:decide ((ji2) ≤ (l0.length:Int)) = true:=decide_eq_true c4
 clear c4
 obtain ⟨y687,hy687⟩:∃ y_:List (S23),y_ = (l0.take ((ji2):Int).toNat):=⟨_,rfl⟩
 replace H:(if ([]:List (S23)).length + y687.length < 8796093022208 then (some (([]:List (S23)) ++ y687)) else (none)) = some r:=by first | (rw [hy687];with_reducible exact H) | (have H2_:=(Option.bind_some _ _).symm.trans H;rw [hy687];with_reducible exact H2_) | (have H2_:=(Option.bind_some _ _).symm.trans H;with_reducible exact H2_) | with_reducible exact H | (rw [hy687];exact H) | exact H
 have Ny687:=Aside0.mk hy687
 clear hy687
 by_cases c5:([]:List (S23)).length + y687.length < 8796093022208
 case neg =>
  rw [if_neg c5] at H
  exact absurd H (by simp)
 rw [if_pos c5] at H
 have LMc5:=Aside0.mk c5
 clear c5
 obtain ⟨y691,hy691⟩:∃ y_:List (S23),y_ = (([]:List (S23)) ++ y687):=⟨_,rfl⟩
 replace H:(some y691) = some r:=by first | (rw [hy691];with_reducible exact H) | (have H2_:=(Option.bind_some _ _).symm.trans H;rw [hy691];with_reducible exact H2_) | (have H2_:=(Option.bind_some _ _).symm.trans H;with_reducible exact H2_) | with_reducible exact H | (rw [hy691];exact H) | exact H
 have Ny691:=Aside0.mk hy691
 clear hy691
 obtain rfl:=Option.some.inj H
 have q6:((ji2):Int) ≤ ((l0.length:Int):Int):=of_decide_eq_true (by first | (with_reducible assumption) | assumption)
 obtain ⟨i06,hi06,_,hsz6,_⟩:=info_parts info23
 have hroom6:l0.length ≤ c0:=HC0.out
 have hC6:Kd.C k23 _ A0 l0.length l0:=HR0.out
 have hcut6:=cut_to (P:=Try.prog) 35 23 .i64 Try.underlying35 hi06 A0 l0.length c0 (ji2) (of_decide_eq_true (by first | (with_reducible assumption) | assumption)) q6 hroom6
 have hr6:=Kd.C_take (m:=((ji2):Int).toNat) hC6 (by omega)
 have hy6:y687.length = ((ji2):Int).toNat:=(by rw [Ny687.out,List.length_take];omega)
 rw [← Ny687.out] at hr6
 rw [← hy6] at hcut6
 have HR690:=Aside0.mk hr6
 have HC690:=Aside0.mk (show y687.length ≤ c0 from by omega)
 clear hr6 hC6 hroom6 hi06 hsz6
 have KY6:=Aside0.mk hy6
 clear hy6
 replace q6:=eq_true q6
 go_enter Try.func36,Try.ntmps36
 go_wp2_with (first | ((with_reducible refine gate_builtin (b:=.append) (xs:=#[.tmp 4,.tmp 9]) rfl ?_);at_builtin;refine Kd.R_append_rows k23 (w0:=w) w.heap.size rfl (.tmp 4) (.tmp 9) 35 23 (.agg #[(.int .i64 0),(.int .i64 0)]) 16 rfl Try.underlying35 info23 rfl (by decide) (by omega) (.slice none 0 0) ([]:List (S23)) y687 _ _ _ (fun _=>True) (fun _=>False) rfl rfl ?aO ?aR (fun _ _ h=>h) (fun _ h=>h.elim) ?aF ?aB ?aS ?aL ?_;(case aR=>repeat (first | exact HR690.out | (with_reducible refine Kd.C_alloc ?_ _) | (with_reducible refine Kd.C_drewN ?_ _) | (with_reducible refine Kd.C_drew ?_)));(case aB=>exact (by repeat (first | (with_reducible first | exact HB.out | apply below_alloc | apply pw_below_drewN | apply below_drew1) | exact HB.out)));(case aF=>exact (fun _ _=>trivial));(case aO=>exact ((Kd.R_nil _ _ _ _ (fun _=>True))));(case aS=>exact (below_size (by repeat (first | (with_reducible first | exact HB.out | apply below_alloc | apply pw_below_drewN | apply below_drew1) | exact HB.out))));(case aL=>have:=LMc5.out;omega);intro v692 w7 ho hb hg hat;rw [← Ny691.out] at ho;have n0_:=Aside0.mk (hb);have n1_:=Aside0.mk (ho);clear HB;have HB:=n0_;have HO693:=n1_;clear n0_ n1_;clear ho hb hg hat))
 go_ret
 exact ⟨_,by first | rfl | (simp [errW_none,errW_some] <;> rfl) | (simp only [← hji2];first | rfl | (simp [errW_none,errW_some] <;> rfl)) | (simp [*,errW_none,errW_some] <;> rfl),by (with_reducible repeat (first | apply Kd.R_alloc | apply Kd.R_drewN | apply Kd.R_drew));exact HO693.out,by repeat (first | (with_reducible first | exact HB.out | apply below_alloc | apply pw_below_drewN | apply below_drew1) | exact HB.out)⟩
end Go.Proofs.Ytjohcjfmlhihbaa.G
set_option linter.unusedSectionVars false
namespace Go.Proofs.Ytjohcjfmlhihbaa.P
open Go Go.RowKit Go.Proofs.Ytjohcjfmlhihbaa.G
open Go.Proofs.YtjohcjfmlhihbaaW.PrintWords Go.Proofs.YtjohcjfmlhihbaaW.PrintMore
theorem S23_ext {a b:S23} (h0:a.f0 = b.f0) (h1:a.f1 = b.f1):a = b:=by cases a;cases b;simp_all
instance:DecidableEq S23:=fun a b=>decidable_of_iff (a.f0 = b.f0 ∧ a.f1 = b.f1) ⟨fun h=>S23_ext h.1 h.2,fun h=>by rw [h];exact ⟨rfl,rfl⟩⟩
theorem ev_within {q:Rat} (h1:q.num.natAbs < 9223372036854775808) (lo hi d:Int):Ev (fun k=>numnahref07_Within.f k q.num (q.den:Int) lo hi d) (decide ((q.den:Int) ≤ d ∧ lo ≤ q.num ∧ q.num ≤ hi)):=by
 unfold numnahref07_Within.f
 have hp:=den_pos q
 refine Ev.congr (fun k=>if_pos (by omega)) ?_
 by_cases a1:(q.den:Int) ≤ d
 ·refine Ev.congr (fun k=>if_pos a1) ?_
  by_cases a2:q.num ≥ lo
  ·refine Ev.congr (fun k=>if_pos a2) ?_
   by_cases a3:q.num ≤ hi
   ·refine Ev.congr (fun k=>if_pos a3) ?_
    rw [mx_abs h1,decide_eq_true (⟨a1,a2,a3⟩:_ ∧ _ ∧ _)]
    simp only [ref_gcd]
    refine Ev.bind (ev_gcd q.num.natAbs q.den) ?_
    rw [gcd_one q]
    exact Ev.now _
   ·rw [decide_eq_false (fun h=>a3 h.2.2)]
    exact Ev.congr (fun k=>if_neg a3) (Ev.now _)
  ·rw [decide_eq_false (fun h=>a2 h.2.1)]
   exact Ev.congr (fun k=>if_neg a2) (Ev.now _)
 ·rw [decide_eq_false (fun h=>a1 h.1)]
  exact Ev.congr (fun k=>if_neg a1) (Ev.now _)
theorem fit_l0 {x:List Rat} (hl:x.length ≤ 1000000) (hx:∀ q ∈ x,0 ≤ q ∧ Sm 1073741824 1073741824 q):∀ (d i:Nat),i + d = x.length → Ev (fun k=>numnahlaw07_fit.l0 k (encL x) (i:Int)) true:=by
 intro d
 induction d with
 | zero =>
  intro i hi
  refine Ev.step (f:=fun _=>some true) (fun k=>?_) (Ev.now _)
  rw [numnahlaw07_fit.l0,encL_length,if_neg (by omega)]
 | succ d ih =>
  intro i hi
  have hil:i < x.length:=by omega
  obtain ⟨q0,qs⟩:=hx _ (List.getElem_mem hil)
  have h1:=qs.num
  have h2:=qs.den
  have hw:=ev_within (q:=x[i]) (by omega) 0 1073741824 1073741824
  rw [decide_eq_true (⟨by omega,Rat.num_nonneg.2 q0,by omega⟩:_ ∧ _ ∧ _)] at hw
  obtain ⟨K1,e1⟩:=hw
  obtain ⟨K2,e2⟩:=ih (i + 1) (by omega)
  refine ⟨K1 + K2 + 1,fun k hk=>?_⟩
  obtain ⟨m,rfl⟩:∃ m,k = m + 1:=⟨k - 1,by omega⟩
  have f1:=e1 m (by omega)
  have f2:=e2 m (by omega)
  show numnahlaw07_fit.l0 (m + 1) _ _ = _
  rw [numnahlaw07_fit.l0,encL_length,if_pos (by omega),if_pos (by omega),rdE hil]
  simp only [encQ,f1,Option.bind_some,if_true]
  rw [wrap_succ (by omega)]
  exact f2
theorem ev_fit {x:List Rat} (hl:x.length ≤ 1000000) (hx:∀ q ∈ x,0 ≤ q ∧ Sm 1073741824 1073741824 q):Ev (fun k=>numnahlaw07_fit.f k (encL x)) true:=fit_l0 hl hx x.length 0 (by omega)
theorem mod_some (x:Int) {n:Int} (h0:0 < n) (h1:n ≤ 9223372036854775807):∃ m,0 ≤ m ∧ m < n ∧ numnahlaw07_mod.f x n = some m:=by
 unfold numnahlaw07_mod.f
 have e:IntKind.u64.wrap n = n:=by
  rw [show IntKind.u64.wrap n = n % 18446744073709551616 from by first | rfl | exact IntKind.wrap_u64 n | simp [IntKind.wrap]]
  omega
 obtain ⟨u,hu⟩:∃ u,IntKind.u64.wrap x = u:=⟨_,rfl⟩
 have hu0:0 ≤ u ∧ u ≤ 18446744073709551615:=by
  rw [← hu,show IntKind.u64.wrap x = x % 18446744073709551616 from by first | rfl | exact IntKind.wrap_u64 x | simp [IntKind.wrap]]
  omega
 rw [e,hu,if_neg (by omega),Int.tmod_eq_emod_of_nonneg hu0.1]
 have m0:=Int.emod_nonneg u (show n ≠ 0 by omega)
 have m1:=Int.emod_lt_of_pos u h0
 exact ⟨u % n,m0,m1,by rw [wrap_id (by omega) (by omega)]⟩
theorem tame_end {out:List Int} (ho:out.length ≤ 10) (hm:∀ x ∈ out,0 ≤ x ∧ x ≤ 1000) (e:Int):∃ l E,IsCl l ∧ 0 ≤ E ∧ E ≤ sI l ∧ (out.length ≠ 0 → l = out) ∧ (if (out.length:Int) = 0 then (some (([0]:List Int),(0:Int))) else (numnahlaw07_mod.f e (wrap64 (sI out + 1))).bind fun t=>(some (out,t))) = some (l,E):=by
 by_cases h0:out.length = 0
 ·exact ⟨[0],0,⟨by simp,by simp,fun x hx=>by rw [List.mem_singleton.1 hx];omega⟩,Int.le_refl _,by simp [sI],fun hne=>absurd h0 hne,by rw [if_pos (by omega)]⟩
 ·have hb:=sI_bound hm
  obtain ⟨m,h1,h2,h3⟩:=mod_some e (n:=sI out + 1) (by omega) (by omega)
  refine ⟨out,m,⟨by omega,ho,hm⟩,h1,by omega,fun _=>rfl,?_⟩
  rw [if_neg (by omega),wrap_id (by omega) (by omega),h3]
  rfl
theorem tame_l0 (l:List Int) (e:Int):∀ (d i:Nat) (out:List Int),i + d = 10 → i ≤ l.length → out.length = i → (∀ x ∈ out,0 ≤ x ∧ x ≤ 1000) → ∃ l' E,IsCl l' ∧ 0 ≤ E ∧ E ≤ sI l' ∧ (l.length ≠ 0 → l'.length = min l.length 10) ∧ Ev (fun k=>numnahlaw07_tame.l0 k l e out (sI out) (i:Int)) (l',E):=by
 intro d
 induction d with
 | zero =>
  intro i out hi hil0 ho hm
  obtain ⟨l',E,h1,h2,h3,h5,h4⟩:=tame_end (by omega) hm e
  refine ⟨l',E,h1,h2,h3,fun _=>by rw [h5 (by omega)];omega,Ev.step (f:=fun _=>some (l',E)) (fun k=>?_) (Ev.now _)⟩
  rw [numnahlaw07_tame.l0]
  by_cases hil:(i:Int) < (l.length:Int)
  ·rw [if_pos hil,if_neg (by omega)];exact h4
  ·rw [if_neg hil];exact h4
 | succ d ih =>
  intro i out hi hil0 ho hm
  by_cases hil:i < l.length
  ·obtain ⟨m,m0,m1,hmod⟩:=mod_some l[i] (n:=1001) (by omega) (by omega)
   have hm':∀ x ∈ out ++ [m],0 ≤ x ∧ x ≤ 1000:=fun x hx=>by
    rcases List.mem_append.1 hx with hx | hx
    ·exact hm x hx
    ·rw [List.mem_singleton.1 hx];omega
   obtain ⟨l',E,h1,h2,h3,h5,h4⟩:=ih (i + 1) (out ++ [m]) (by omega) (by omega) (by simp [ho]) hm'
   refine ⟨l',E,h1,h2,h3,h5,Ev.step (fun k=>?_) h4⟩
   have hb:=sI_bound hm'
   have hlen:(out ++ [m]).length = i + 1:=by simp [ho]
   have hrd:rd (out ++ [m]) (i:Int) = m:=by rw [rd_get (by omega)];simp [← ho]
   have hs:sI out + m = sI (out ++ [m]):=by rw [sI_append];simp [sI]
   rw [numnahlaw07_tame.l0,if_pos (by omega),if_pos (by omega),if_pos (by omega),rd_get hil,hmod]
   simp only [Option.bind_some]
   rw [if_pos (by omega),if_pos (by omega),hrd,hs,wrap_id (by omega) (by omega),wrap_succ (by omega)]
  ·obtain ⟨l',E,h1,h2,h3,h5,h4⟩:=tame_end (by omega) hm e
   refine ⟨l',E,h1,h2,h3,fun hne=>by rw [h5 (by omega)];omega,Ev.step (f:=fun _=>some (l',E)) (fun k=>?_) (Ev.now _)⟩
   rw [numnahlaw07_tame.l0,if_neg (by omega)]
   exact h4
theorem ev_tame (l:List Int) (e:Int):∃ l' E,IsCl l' ∧ 0 ≤ E ∧ E ≤ sI l' ∧ (l.length ≠ 0 → l'.length = min l.length 10) ∧ Ev (fun k=>numnahlaw07_tame.f k l e) (l',E):=tame_l0 l e 10 0 [] (by omega) (by omega) rfl (by simp)
theorem IsRule.len {r:Nat} {q:List Rat} {E:Rat} {x:List Rat} (h:IsRule r q E x):x.length = q.length:=by
 obtain ⟨_,_,rfl,_⟩:=h
 exact List.length_map _
section
variable {l:List Int} (h:IsCl l) {E:Int} (h0:0 ≤ E) (h1:E ≤ sI l) {r:Nat}
include h h0 h1
theorem cl_nonneg:∀ c ∈ cl l,0 ≤ c:=fun c hc=>(cl_okC h c hc).lo
theorem award_one (hr:r ≤ 4):∃ x,IsRule r (cl l) (E:Rat) x ∧ Ev (fun k=>shares_Award.f k (r:Int) l E) (encL x,0) ∧ Ev (fun k=>numnahref07_Award.f k (r:Int) l E) (encL x):=by
 obtain ⟨x,hx,e1⟩:=ev_Award h h0 h1 hr
 obtain ⟨y,hy,e2⟩:=ev_rAward h h0 h1 hr
 have:x = y:=hx.unique hy (cl_nonneg h h0 h1)
 subst this
 exact ⟨x,hx,e1,e2⟩
theorem award_within {x:List Rat} (hx:IsRule r (cl l) (E:Rat) x):∃ φ:Rat → Rat,Form r (cl l) (E:Rat) φ ∧ x = (cl l).map φ ∧ tot x = (E:Rat) ∧ ∀ c ∈ cl l,0 ≤ φ c ∧ φ c ≤ c:=by
 obtain ⟨φ,hf,rfl,ht⟩:=hx
 exact ⟨φ,hf,rfl,ht,form_within hf (E_ge h0) (E_le h h0 h1) ht (cl_nonneg h h0 h1)⟩
theorem award_D {x:List Rat} (hx:IsRule r (cl l) (E:Rat) x):∃ D,0 < D ∧ D ≤ 10000 ∧ (r ≠ 0 → D ≤ 20) ∧ ∀ y ∈ x,y.den ∣ D:=by
 have hs:=sI_cl h
 have hl:=h.ten
 have hlen:(cl l).length ≤ 10:=by rw [cl_length];exact hl
 have hlen1:1 ≤ (cl l).length:=by rw [cl_length];exact h.one
 obtain ⟨φ,hf,rfl,ht⟩:=hx
 have hcl:∀ c ∈ cl l,c.den ∣ 2:=fun c hc=>(cl_okC h c hc).den
 have hch:∀ c ∈ cl l,(c / 2).den ∣ 2:=fun c hc=>(cl_half_okC h _ (List.mem_map.2 ⟨c,hc,rfl⟩)).den
 have wh:∀ {F L:Rat},F.den ∣ 2 → tot ((cl l).map fun c=>min c L) = F → ∃ D,2 ∣ D ∧ 0 < D ∧ D ≤ 20 ∧ ∀ c ∈ cl l,(min c L).den ∣ D:=fun {F L} hF h2=>by
  obtain ⟨m,m1,m2,md⟩:=IsEq.den2 (l:=cl l) ⟨L,rfl,h2⟩ (by omega) hcl hF hlen1
  exact ⟨2 * m,Nat.dvd_mul_right _ _,by omega,by omega,fun c hc=>md _ (List.mem_map.2 ⟨c,hc,rfl⟩)⟩
 have hv:∀ {F L:Rat},F.den ∣ 2 → tot ((cl l).map fun c=>min (c / 2) L) = F → ∃ D,2 ∣ D ∧ 0 < D ∧ D ≤ 20 ∧ ∀ c ∈ cl l,(min (c / 2) L).den ∣ D:=fun {F L} hF h2=>by
  rw [← map_half] at h2
  obtain ⟨m,m1,m2,md⟩:=IsEq.den2 (l:=(cl l).map (· / 2)) ⟨L,rfl,h2⟩ (by omega) (fun d hd=>(cl_half_okC h d hd).den) hF (by rw [List.length_map];exact hlen1)
  rw [List.length_map] at m2
  exact ⟨2 * m,Nat.dvd_mul_right _ _,by omega,by omega,fun c hc=>md _ (List.mem_map.2 ⟨c / 2,List.mem_map.2 ⟨c,hc,rfl⟩,rfl⟩)⟩
 have fin:∀ (f:Rat → Rat) (D:Nat),0 < D → D ≤ 10000 → (r ≠ 0 → D ≤ 20) → (∀ c ∈ cl l,(f c).den ∣ D) → ∃ D,0 < D ∧ D ≤ 10000 ∧ (r ≠ 0 → D ≤ 20) ∧ ∀ y ∈ (cl l).map f,y.den ∣ D:=fun f D d0 d1 d3 d2=>⟨D,d0,d1,d3,fun y hy=>by
  obtain ⟨c,hc,rfl⟩:=List.mem_map.1 hy
  exact d2 c hc⟩
 rcases form_cases hf with ⟨r0,rfl⟩ | ⟨_,L,rfl⟩ | ⟨_,L,rfl⟩ | ⟨_,_,L,rfl⟩ | ⟨_,_,L,rfl⟩ | ⟨_,_,L,rfl⟩
 ·obtain ⟨a,ha⟩:∃ a:Nat,sI l = (a:Int):=⟨(sI l).toNat,by omega⟩
  by_cases hp:0 < tot (cl l)
  ·have hap:0 < a:=by rw [tot_cl,ha] at hp;have:=Rat.intCast_pos.1 hp;omega
   refine fin _ a hap (by omega) (fun hr=>absurd r0 hr) (fun c hc=>?_)
   obtain ⟨n,hn,rfl⟩:=List.mem_map.1 hc
   rw [if_pos hp,tot_cl]
   have e:(n:Rat) * (E:Rat) / (sI l:Rat) = mkRat (n * E) a:=by rw [mk_frac,ha];push_cast;rfl
   rw [e]
   exact den_dvd _ (by omega)
  ·refine fin _ 1 (by omega) (by omega) (fun _=>by omega) (fun c hc=>?_)
   rw [if_neg hp]
   exact Nat.one_dvd _
 ·obtain ⟨D,_,d1,d2,d3⟩:=wh (E_den E) ht
  exact fin _ D d1 (by omega) (fun _=>d2) d3
 ·have hF:(tot (cl l) - (E:Rat)).den ∣ 2:=sub_den_dvd' (by rw [tot_cl];exact E_den _) (E_den E) (by omega)
  have:=tot_sub (fun c=>c) (fun c=>min c L) (cl l)
  rw [List.map_id',ht] at this
  obtain ⟨D,d0,d1,d2,d3⟩:=wh hF (L:=L) (by grind)
  exact fin _ D d1 (by omega) (fun _=>d2) fun c hc=>sub_den_dvd' (Nat.dvd_trans (hcl c hc) d0) (d3 c hc) d1
 ·obtain ⟨D,_,d1,d2,d3⟩:=hv (E_den E) ht
  exact fin _ D d1 (by omega) (fun _=>d2) d3
 ·have hF:(tot (cl l) - (E:Rat)).den ∣ 2:=sub_den_dvd' (by rw [tot_cl];exact E_den _) (E_den E) (by omega)
  have:=tot_sub (fun c=>c) (fun c=>min (c / 2) L) (cl l)
  rw [List.map_id',ht] at this
  obtain ⟨D,d0,d1,d2,d3⟩:=hv hF (L:=L) (by grind)
  exact fin _ D d1 (by omega) (fun _=>d2) fun c hc=>sub_den_dvd' (Nat.dvd_trans (hcl c hc) d0) (d3 c hc) d1
 ·have e:mkRat (sI l) 2 = (sI l:Rat) / 2:=mk_frac _ _
  have hF:((E:Rat) - tot (cl l) / 2).den ∣ 2:=sub_den_dvd' (E_den E) (by rw [tot_cl,← e];exact den_dvd _ (by omega)) (by omega)
  have:=tot_add (fun c=>c / 2) (fun c=>min (c / 2) L) (cl l)
  rw [ht,half_tot] at this
  obtain ⟨D,d0,d1,d2,d3⟩:=hv hF (L:=L) (by grind)
  exact fin _ D d1 (by omega) (fun _=>d2) fun c hc=>add_den_dvd' (Nat.dvd_trans (hch c hc) d0) (d3 c hc) d1
theorem award_den {x:List Rat} (hx:IsRule r (cl l) (E:Rat) x):∀ y ∈ x,y.den ≤ 10000:=by
 obtain ⟨D,d0,d1,_,d2⟩:=award_D h h0 h1 hx
 exact fun y hy=>Nat.le_trans (Nat.le_of_dvd d0 (d2 y hy)) d1
theorem award_sm {x:List Rat} (hx:IsRule r (cl l) (E:Rat) x):∀ y ∈ x,0 ≤ y ∧ Sm 10000000 10000 y:=by
 have hd:=award_den h h0 h1 hx
 obtain ⟨φ,hf,rfl,ht,hw⟩:=award_within h h0 h1 hx
 intro y hy
 have hdy:=hd y hy
 obtain ⟨c,hc,rfl⟩:=List.mem_map.1 hy
 obtain ⟨w1,w2⟩:=hw c hc
 have hhi:=(cl_okC h c hc).hi
 exact ⟨w1,Nat.le_trans (num_abs (B:=1000) w1 (by grind) hdy) (by decide),hdy⟩
theorem award_fit {x:List Rat} (hx:IsRule r (cl l) (E:Rat) x):Ev (fun k=>numnahlaw07_fit.f k (encL x)) true :=
 ev_fit (by rw [hx.len,cl_length];have:=h.ten;omega) (fun y hy=>by
  obtain ⟨a,b⟩:=award_sm h h0 h1 hx y hy
  exact ⟨a,b.mono (by decide) (by decide)⟩)
end
end Go.Proofs.Ytjohcjfmlhihbaa.P
namespace Go.Proofs.Ytjohcjfmlhihbaa.G
open Go.RowKit Go.Proofs.YtjohcjfmlhihbaaW.PrintWords Go.Proofs.YtjohcjfmlhihbaaW.PrintLast Go.Proofs.YtjohcjfmlhihbaaW.PrintMore
set_option maxHeartbeats 8000000
set_option maxRecDepth 100000
attribute [local go_sem] cond_true cond_false fld23_0 fld23_1 fld45_0 fld45_1 fld109_0 fld109_1 fld94_0 fld94_1 max2_int min2_int max_two min_two max_three min_three max_four min_four
attribute [local go_sem high] eqA23
mutual
def numnahlaw07_SharesDual.l0:Nat → Int → List Int → Int → Int → Option (Bool)
 | 0,_,_,_,_=>none
 | k + 1,x1,x5,x6,x7=>if x7 < (x5.length:Int) then (if 0 ≤ x7 then (numnahlaw07_SharesDual.l0 k x1 x5 (wrap64 (x6 + (rd x5 x7))) (wrap64 (x7 + 1))) else (none)) else (numnahlaw07_SharesDual.l1 k x1 x5 x6 (([0,1,2,3]:List Int)) (([0,2,1,3]:List Int)) 0)
def numnahlaw07_SharesDual.l1:Nat → Int → List Int → Int → List Int → List Int → Int → Option (Bool)
 | 0,_,_,_,_,_,_=>none
 | k + 1,x1,x5,x6,x8,x9,x10=>if x10 < (x8.length:Int) then (if 0 ≤ x10 then ((shares_Award.f k (rd x8 x10) x5 x1).bind fun bt468=>(if x10 < (x9.length:Int) then ((shares_Award.f k (rd x9 x10) x5 (wrap64 (x6 - x1))).bind fun bt473=>(if bt468.2 = 0 then (if bt473.2 = 0 then (if (bt468.1.length:Int) = (x5.length:Int) then (if (bt473.1.length:Int) = (x5.length:Int) then ((numnahlaw07_fit.f k bt468.1).bind fun t477=>(if t477 = true then ((numnahlaw07_fit.f k bt473.1).bind fun t478=>(numnahlaw07_SharesDual.j2 k x1 x5 x6 x8 x9 x10 bt468.1 bt473.1 (!t478))) else (numnahlaw07_SharesDual.j2 k x1 x5 x6 x8 x9 x10 bt468.1 bt473.1 true))) else (numnahlaw07_SharesDual.j2 k x1 x5 x6 x8 x9 x10 bt468.1 bt473.1 true)) else (numnahlaw07_SharesDual.j2 k x1 x5 x6 x8 x9 x10 bt468.1 bt473.1 true)) else (numnahlaw07_SharesDual.j2 k x1 x5 x6 x8 x9 x10 bt468.1 bt473.1 true)) else (numnahlaw07_SharesDual.j2 k x1 x5 x6 x8 x9 x10 bt468.1 bt473.1 true))) else (none))) else (none)) else ((numnahlaw07_awake.f k).bind fun t466=>(some t466))
def numnahlaw07_SharesDual.j2:Nat → Int → List Int → Int → List Int → List Int → Int → List (S23) → List (S23) → Bool → Option (Bool)
 | 0,_,_,_,_,_,_,_,_,_=>none
 | k + 1,x1,x5,x6,x8,x9,x10,x11,x13,x93=>if x93 = true then (some false) else (numnahlaw07_SharesDual.l2 k x1 x5 x6 x8 x9 x10 x11 x13 0)
def numnahlaw07_SharesDual.l2:Nat → Int → List Int → Int → List Int → List Int → Int → List (S23) → List (S23) → Int → Option (Bool)
 | 0,_,_,_,_,_,_,_,_,_=>none
 | k + 1,x1,x5,x6,x8,x9,x10,x11,x13,x15=>if x15 < (x5.length:Int) then (if 0 ≤ x15 then (if x15 < (x11.length:Int) then (if x15 < (x13.length:Int) then ((numnahref07_Add.f k ((rd_T23 x11 x15).f0) ((rd_T23 x11 x15).f1) ((rd_T23 x13 x15).f0) ((rd_T23 x13 x15).f1)).bind fun bt481=>((numnahref07_Whole.f (rd x5 x15)).bind fun bt484=>(if (!(bt481.1 == bt484.1) || (!(bt481.2 == bt484.2))) = true then (some false) else (numnahlaw07_SharesDual.l2 k x1 x5 x6 x8 x9 x10 x11 x13 (wrap64 (x15 + 1)))))) else (none)) else (none)) else (none)) else (numnahlaw07_SharesDual.l1 k x1 x5 x6 x8 x9 (wrap64 (x10 + 1)))
end
def numnahlaw07_SharesDual.f (k:Nat) (l0:List Int) (a1:Int):Option (Bool):=(numnahlaw07_tame.f k l0 a1).bind fun bt455=>(numnahlaw07_SharesDual.l0 k bt455.2 bt455.1 0 0)
theorem numnahlaw07_SharesDual.mono_l:∀ k,(∀ y0 y1 y2 y3,LeO (numnahlaw07_SharesDual.l0 k y0 y1 y2 y3) (numnahlaw07_SharesDual.l0 (k + 1) y0 y1 y2 y3)) ∧ (∀ y0 y1 y2 y3 y4 y5,LeO (numnahlaw07_SharesDual.l1 k y0 y1 y2 y3 y4 y5) (numnahlaw07_SharesDual.l1 (k + 1) y0 y1 y2 y3 y4 y5)) ∧ (∀ y0 y1 y2 y3 y4 y5 y6 y7 y8,LeO (numnahlaw07_SharesDual.j2 k y0 y1 y2 y3 y4 y5 y6 y7 y8) (numnahlaw07_SharesDual.j2 (k + 1) y0 y1 y2 y3 y4 y5 y6 y7 y8)) ∧ (∀ y0 y1 y2 y3 y4 y5 y6 y7 y8,LeO (numnahlaw07_SharesDual.l2 k y0 y1 y2 y3 y4 y5 y6 y7 y8) (numnahlaw07_SharesDual.l2 (k + 1) y0 y1 y2 y3 y4 y5 y6 y7 y8))
 | 0=>⟨fun _ _ _ _ r h=>by simp [numnahlaw07_SharesDual.l0] at h,fun _ _ _ _ _ _ r h=>by simp [numnahlaw07_SharesDual.l1] at h,fun _ _ _ _ _ _ _ _ _ r h=>by simp [numnahlaw07_SharesDual.j2] at h,fun _ _ _ _ _ _ _ _ _ r h=>by simp [numnahlaw07_SharesDual.l2] at h⟩
 | k + 1=>by
  obtain ⟨ih0,ih1,ih2,ih3⟩:=numnahlaw07_SharesDual.mono_l k
  refine ⟨?_,?_,?_,?_⟩
  ·intro y0 y1 y2 y3
   unfold numnahlaw07_SharesDual.l0
   repeat' first
   | (with_reducible first | exact ih0 _ _ _ _ | exact ih1 _ _ _ _ _ _ | exact ih2 _ _ _ _ _ _ _ _ _ | exact ih3 _ _ _ _ _ _ _ _ _ | exact numnahlaw07_awake.mono _ | exact numnahlaw07_fit.mono _ _ | exact numnahlaw07_tame.mono _ _ _ | exact numnahref07_Add.mono _ _ _ _ _ | exact shares_Award.mono _ _ _ _ | exact LeO.refl _ | exact LeO.none _ | refine LeO.ite ?_ ?_ | refine LeO.bind ?_ (fun _=>?_))
   | exact LeO.none _ | refine LeO.ite ?_ ?_ | refine LeO.bind ?_ (fun _=>?_)
  ·intro y0 y1 y2 y3 y4 y5
   unfold numnahlaw07_SharesDual.l1
   repeat' first
   | (with_reducible first | exact ih0 _ _ _ _ | exact ih1 _ _ _ _ _ _ | exact ih2 _ _ _ _ _ _ _ _ _ | exact ih3 _ _ _ _ _ _ _ _ _ | exact numnahlaw07_awake.mono _ | exact numnahlaw07_fit.mono _ _ | exact numnahlaw07_tame.mono _ _ _ | exact numnahref07_Add.mono _ _ _ _ _ | exact shares_Award.mono _ _ _ _ | exact LeO.refl _ | exact LeO.none _ | refine LeO.ite ?_ ?_ | refine LeO.bind ?_ (fun _=>?_))
   | exact LeO.none _ | refine LeO.ite ?_ ?_ | refine LeO.bind ?_ (fun _=>?_)
  ·intro y0 y1 y2 y3 y4 y5 y6 y7 y8
   unfold numnahlaw07_SharesDual.j2
   repeat' first
   | (with_reducible first | exact ih0 _ _ _ _ | exact ih1 _ _ _ _ _ _ | exact ih2 _ _ _ _ _ _ _ _ _ | exact ih3 _ _ _ _ _ _ _ _ _ | exact numnahlaw07_awake.mono _ | exact numnahlaw07_fit.mono _ _ | exact numnahlaw07_tame.mono _ _ _ | exact numnahref07_Add.mono _ _ _ _ _ | exact shares_Award.mono _ _ _ _ | exact LeO.refl _ | exact LeO.none _ | refine LeO.ite ?_ ?_ | refine LeO.bind ?_ (fun _=>?_))
   | exact LeO.none _ | refine LeO.ite ?_ ?_ | refine LeO.bind ?_ (fun _=>?_)
  intro y0 y1 y2 y3 y4 y5 y6 y7 y8
  unfold numnahlaw07_SharesDual.l2
  repeat' first
  | (with_reducible first | exact ih0 _ _ _ _ | exact ih1 _ _ _ _ _ _ | exact ih2 _ _ _ _ _ _ _ _ _ | exact ih3 _ _ _ _ _ _ _ _ _ | exact numnahlaw07_awake.mono _ | exact numnahlaw07_fit.mono _ _ | exact numnahlaw07_tame.mono _ _ _ | exact numnahref07_Add.mono _ _ _ _ _ | exact shares_Award.mono _ _ _ _ | exact LeO.refl _ | exact LeO.none _ | refine LeO.ite ?_ ?_ | refine LeO.bind ?_ (fun _=>?_))
  | exact LeO.none _ | refine LeO.ite ?_ ?_ | refine LeO.bind ?_ (fun _=>?_)
theorem numnahlaw07_SharesDual.mono:∀ a0 a1 k,LeO (numnahlaw07_SharesDual.f k a0 a1) (numnahlaw07_SharesDual.f (k + 1) a0 a1):=by
 intro a0 a1 k
 obtain ⟨ih0,ih1,ih2,ih3⟩:=numnahlaw07_SharesDual.mono_l k
 unfold numnahlaw07_SharesDual.f
 repeat' first
   | (with_reducible first | exact ih0 _ _ _ _ | exact ih1 _ _ _ _ _ _ | exact ih2 _ _ _ _ _ _ _ _ _ | exact ih3 _ _ _ _ _ _ _ _ _ | exact numnahlaw07_awake.mono _ | exact numnahlaw07_fit.mono _ _ | exact numnahlaw07_tame.mono _ _ _ | exact numnahref07_Add.mono _ _ _ _ _ | exact shares_Award.mono _ _ _ _ | exact LeO.refl _ | exact LeO.none _ | refine LeO.ite ?_ ?_ | refine LeO.bind ?_ (fun _=>?_))
   | exact LeO.none _ | refine LeO.ite ?_ ?_ | refine LeO.bind ?_ (fun _=>?_)
def numnahlaw07_SharesDual.T18:Bool × List (List Nat × List Nat):=(true,[([],[]),([],[]),([0,1],[0,1]),([2],[2]),([],[]),([],[]),([4,5],[4,5]),([6],[6]),([3,7],[3,7]),([],[]),([],[]),([9,10],[9,10]),([11],[11]),([12,8],[12]),([8,13],[8,13])])
def numnahlaw07_SharesDual.B18:List Nat:=[0,0,3,7,0,0,48,112,255,0,0,1536,3584,8191,16383]
theorem numnahlaw07_SharesDual.tab18:rtab .any (opsOf Try.f4 18) = numnahlaw07_SharesDual.T18:=by kernel_rfl
theorem numnahlaw07_SharesDual.bits18:waitsOk numnahlaw07_SharesDual.T18.2 numnahlaw07_SharesDual.B18 = true:=by kernel_rfl
theorem numnahlaw07_SharesDual.calls (k:Nat) (A0:Option Addr) (c0:Nat) (l0:List Int) (a1:Int) (r:Bool) (w:World) (hr0:Kd.C (Kd.int .i64) w A0 l0.length l0) (hc0:l0.length ≤ c0) (h:numnahlaw07_SharesDual.f k l0 a1 = some r) (hrt_:r = true) :
  Calls Try.prog 4 #[.slice A0 l0.length c0,.int .i64 a1] w fun e w'=>e = .returned (.bool r) ∧ Below w.heap.size w w':=by
 have HRT:=A_ hrt_
 clear hrt_
 have hu23:=Try.underlying23
 have HR0:=A_ hr0
 have HC0:=A_ hc0
 clear hr0 hc0
 have HB:=A_ (Below.refl w.heap.size w)
 have H:((numnahlaw07_tame.f k l0 a1).bind fun bt455=>(numnahlaw07_SharesDual.l0 k bt455.2 bt455.1 0 0)) = some r:=h
 clear h
 replace H:=Option.bind_eq_some_iff.mp H
 obtain ⟨⟨t455,t456⟩,A30,H⟩:=H
 dsimp only at H
 have A3:=A_ A30
 clear A30
 have H':=A_ H
 clear H
 go_enter Try.func4,Try.ntmps4
 go_wp2_with (first | ((with_reducible refine gate_callee (f:=25) rfl ?_);refine gL (some 19) Try.func25 #[.slice A0 l0.length c0,.int .i64 a1] ?_;(with_reducible refine (numnahlaw07_tame.calls k _ _ l0 a1 t455 t456 _ ?side1 ?side2 A3.out).mono ?_);(case side1=>repeat (first | exact HR0.out | (with_reducible refine Kd.C_alloc ?_ _) | (with_reducible refine Kd.C_drewN ?_ _) | (with_reducible refine Kd.C_drew ?_)));(case side2=>exact HC0.out);rintro e w4 ⟨v457,rfl,ho0,hb⟩;refine ⟨_,rfl,?_⟩;have HO458:=A_ (Kd.R_lower ho0 (below_size HB.out));replace HB:=bB HB hb;(try clear hb)))
 go_loopg [6,7] k (fun kq v6 v7 w'=>∃ (x6_1:Int) (x7_1:Int),v6 = .int .i64 x6_1 ∧ v7 = .int .i64 x7_1 ∧ Aside0 (numnahlaw07_SharesDual.l0 kq t456 t455 x6_1 x7_1 = some r) ∧ Aside0 (kq ≤ k) ∧ Aside0 (Kd.R (Kd.int .i64) 3 w' w.heap.size (fun _=>True) v457 t455) ∧ Aside0 (Below w.heap.size w w'))
 case atStart=>exact ⟨(0),(0),rfl,rfl,H',⟨Nat.le_refl _⟩,⟨by (with_reducible repeat (first | apply Kd.R_alloc | apply Kd.R_drewN | apply Kd.R_drew));exact HO458.out⟩,⟨bl HB⟩⟩
 case round =>
  clear H'
  obtain ⟨x6_1,x7_1,rfl,rfl,HA,HK1,HO_5,HB⟩:=hrel
  cases gk with
  | zero=>exact absurd HA.out (by simp [numnahlaw07_SharesDual.l0])
  | succ k1 =>
   have H:=HA.out
   clear HA
   simp only [numnahlaw07_SharesDual.l0] at H
   by_cases c5:x7_1 < (t455.length:Int)
   ·rw [if_pos c5] at H
    have c5b0:=decide_eq_true c5
    clear c5
    replace H:=gd H
    obtain ⟨c6,H⟩:=H
    have c6b0:=decide_eq_true c6
    clear c6
    have H':=A_ H
    clear H
    obtain ⟨Ao7,co7,eo7⟩:=Kd.R_slice HO_5.out
    subst eo7
    have p459:0 ≤ (x7_1:Int):=of_decide_eq_true (by assumption)
    have q459:x7_1 < (t455.length:Int):=of_decide_eq_true (by assumption)
    obtain ⟨ad459,e459,hx459_0⟩:=Kd.at_int (Kd.R_reads' HO_5.out).2.2 x7_1 p459 q459
    cases e459
    replace p459:=eq_true p459
    replace q459:=eq_true q459
    go_wp2
    go_roundg k1
    case measure=>have:=HK1.out;omega
    case rel=>exact ⟨(wrap64 (x6_1 + (rd t455 x7_1))),(wrap64 (x7_1 + 1)),rfl,rfl,H',⟨by have:=HK1.out;omega⟩,⟨by (with_reducible repeat (first | apply Kd.R_alloc | apply Kd.R_drewN | apply Kd.R_drew));exact HO_5.out⟩,⟨bl HB⟩⟩
   rw [if_neg c5] at H
   have c5b0:=decide_eq_false c5
   clear c5
   obtain ⟨y460,hy460⟩:∃ y_:List Int,y_ = (([0,1,2,3]:List Int)):=⟨_,rfl⟩
   rw [← hy460] at H
   have Ny460:=A_ hy460
   clear hy460
   obtain ⟨y463,hy463⟩:∃ y_:List Int,y_ = (([0,2,1,3]:List Int)):=⟨_,rfl⟩
   rw [← hy463] at H
   have Ny463:=A_ hy463
   clear hy463
   have H':=A_ H
   clear H
   obtain ⟨Ao8,co8,eo8⟩:=Kd.R_slice HO_5.out
   subst eo8
   go_wp2_with (first | ((with_reducible refine gate_dst (N:=34) rfl ?_);(try (refine gate_guard (by rfl) ?_;dsimp only));refine Kd.R_lit (Kd.int .i64) _ 3 ?hg (N:=34) ?hd (xs:=([0,1,2,3]:List Int)) (inner:=[.int .i64 0,.int .i64 1,.int .i64 2,.int .i64 3]) (ok:=fun _=>True) (okp:=fun _=>True) ?hr ?hp (fun _ hk=>hk) trivial (Below.refl _ _) (Nat.le_refl _) (by simp) ?_;(case hd=>rfl);(case hg=>rfl);(case hr=>first | (go_simp;done) | (go_simp;rfl));(case hp=>exact (Reps.one (show Kd.M (Kd.int .i64) _ _ _ 0 [.int .i64 0] from rfl) (Reps.one (show Kd.M (Kd.int .i64) _ _ _ 1 [.int .i64 1] from rfl) (Reps.one (show Kd.M (Kd.int .i64) _ _ _ 2 [.int .i64 2] from rfl) (Reps.one (show Kd.M (Kd.int .i64) _ _ _ 3 [.int .i64 3] from rfl) (Reps.none _ _))))));intro v461 w9 ho10 hb hg_ hnew_;clear hg_ hnew_;(first | rw [← Ny460.out] at ho10 | (simp only [Int.reduceToNat] at ho10;rw [← Ny460.out] at ho10));have HO462:=A_ (Kd.R_lower (Kd.R_new' ho10 (Kd.R_lt HO_5.out)) (below_size HB.out));replace HO_5:=A_ (Kd.R_elder' HO_5.out (Kd.R_base ho10) hb);replace HB:=bB HB hb;clear hb ho10) | ((with_reducible refine gate_dst (N:=35) rfl ?_);(try (refine gate_guard (by rfl) ?_;dsimp only));refine Kd.R_lit (Kd.int .i64) _ 3 ?hg (N:=35) ?hd (xs:=([0,2,1,3]:List Int)) (inner:=[.int .i64 0,.int .i64 2,.int .i64 1,.int .i64 3]) (ok:=fun _=>True) (okp:=fun _=>True) ?hr ?hp (fun _ hk=>hk) trivial (Below.refl _ _) (Nat.le_refl _) (by simp) ?_;(case hd=>rfl);(case hg=>rfl);(case hr=>first | (go_simp;done) | (go_simp;rfl));(case hp=>exact (Reps.one (show Kd.M (Kd.int .i64) _ _ _ 0 [.int .i64 0] from rfl) (Reps.one (show Kd.M (Kd.int .i64) _ _ _ 2 [.int .i64 2] from rfl) (Reps.one (show Kd.M (Kd.int .i64) _ _ _ 1 [.int .i64 1] from rfl) (Reps.one (show Kd.M (Kd.int .i64) _ _ _ 3 [.int .i64 3] from rfl) (Reps.none _ _))))));intro v464 w11 ho12 hb hg_ hnew_;clear hg_ hnew_;(first | rw [← Ny463.out] at ho12 | (simp only [Int.reduceToNat] at ho12;rw [← Ny463.out] at ho12));have HO465:=A_ (Kd.R_lower (Kd.R_new' (Kd.R_new' ho12 (Kd.R_lt HO_5.out)) (Kd.R_lt HO462.out)) (below_size HB.out));replace HO_5:=A_ (Kd.R_elder' HO_5.out (Kd.R_base ho12) hb);replace HO462:=A_ (Kd.R_elder' HO462.out (Kd.R_base ho12) hb);replace HB:=bB HB hb;clear hb ho12))
   go_loopg [10] k1 (fun kq v10 w'=>∃ (x10_2:Int),v10 = .int .i64 x10_2 ∧ Aside0 (numnahlaw07_SharesDual.l1 kq t456 t455 x6_1 y460 y463 x10_2 = some r) ∧ Aside0 (kq ≤ k1) ∧ Aside0 (Kd.R (Kd.int .i64) 3 w' w.heap.size (fun k_=>some k_ ≠ (v461:Value).ownBlock ∧ some k_ ≠ (v464:Value).ownBlock) (.slice Ao8 t455.length co8) t455) ∧ Aside0 (Kd.R (Kd.int .i64) 3 w' w.heap.size (fun k_=>some k_ ≠ ((.slice Ao8 t455.length co8):Value).ownBlock ∧ some k_ ≠ (v464:Value).ownBlock) v461 y460) ∧ Aside0 (Kd.R (Kd.int .i64) 3 w' w.heap.size (fun k_=>some k_ ≠ ((.slice Ao8 t455.length co8):Value).ownBlock ∧ some k_ ≠ (v461:Value).ownBlock) v464 y463) ∧ Aside0 (Below w.heap.size w w'))
   case atStart=>exact ⟨(0),rfl,H',⟨Nat.le_refl _⟩,⟨by (with_reducible repeat (first | apply Kd.R_alloc | apply Kd.R_drewN | apply Kd.R_drew));exact Kd.R_mono HO_5.out (fun _ hk=>⟨hk.1.2,hk.2⟩)⟩,⟨by (with_reducible repeat (first | apply Kd.R_alloc | apply Kd.R_drewN | apply Kd.R_drew));exact Kd.R_mono HO462.out (fun _ hk=>⟨hk.1.2,hk.2⟩)⟩,⟨by (with_reducible repeat (first | apply Kd.R_alloc | apply Kd.R_drewN | apply Kd.R_drew));exact Kd.R_mono HO465.out (fun _ hk=>⟨hk.1.2,hk.2⟩)⟩,⟨bl HB⟩⟩
   case round =>
    clear H'
    obtain ⟨x10_2,rfl,HA,HK2,HO_5,HO_8,HO_9,HB⟩:=hrel
    cases gk with
    | zero=>exact absurd HA.out (by simp [numnahlaw07_SharesDual.l1])
    | succ k2 =>
     have H:=HA.out
     clear HA
     simp only [numnahlaw07_SharesDual.l1] at H
     by_cases c13:x10_2 < (y460.length:Int)
     case neg =>
      rw [if_neg c13] at H
      have c13b0:=decide_eq_false c13
      clear c13
      replace H:=Option.bind_eq_some_iff.mp H
      obtain ⟨t466,A580,H⟩:=H
      replace H:(some t466) = some r:=H
      have A58:=A_ A580
      clear A580
      obtain rfl:=Option.some.inj H
      obtain ⟨Ao59,co59,eo59⟩:=Kd.R_slice HO_8.out
      subst eo59
      go_wp2_with (first | ((with_reducible refine gate_callee (f:=22) rfl ?_);refine gL (some 115) Try.func22 #[] ?_;(with_reducible refine (numnahlaw07_awake.calls k2  t466 _ A58.out).mono ?_);rintro e w60 ⟨rfl,hb⟩;refine ⟨_,rfl,?_⟩;replace HO_5:=rB HO_5 hb;replace HO_8:=rB HO_8 hb;replace HO_9:=rB HO_9 hb;replace HB:=bB HB hb;(try clear hb)))
      go_ret
      exact ⟨rfl,bl HB⟩
     rw [if_pos c13] at H
     have c13b0:=decide_eq_true c13
     clear c13
     replace H:=gd H
     obtain ⟨c14,H⟩:=H
     have c14b0:=decide_eq_true c14
     clear c14
     replace H:=Option.bind_eq_some_iff.mp H
     obtain ⟨⟨t468,t469⟩,A150,H⟩:=H
     dsimp only at H
     have A15:=A_ A150
     clear A150
     replace H:=gd H
     obtain ⟨c16,H⟩:=H
     have c16b0:=decide_eq_true c16
     clear c16
     replace H:=Option.bind_eq_some_iff.mp H
     obtain ⟨⟨t473,t474⟩,A170,H⟩:=H
     dsimp only at H
     have A17:=A_ A170
     clear A170
     have HC18:=A_ H
     clear H
     obtain ⟨Ao19,co19,eo19⟩:=Kd.R_slice HO_8.out
     subst eo19
     have p467:0 ≤ (x10_2:Int):=of_decide_eq_true (by assumption)
     have q467:x10_2 < (y460.length:Int):=of_decide_eq_true (by assumption)
     obtain ⟨ad467,e467,hx467_0⟩:=Kd.at_int (Kd.R_reads' HO_8.out).2.2 x10_2 p467 q467
     cases e467
     replace p467:=eq_true p467
     replace q467:=eq_true q467
     go_upto_region 13 with (first | ((with_reducible refine gate_callee (f:=26) rfl ?_);refine gL (some 49) Try.func26 #[.int .i64 (rd y460 x10_2),.slice Ao8 t455.length co8,.int .i64 t456] ?_;(with_reducible refine (shares_Award.calls k2 (rd y460 x10_2) _ _ t455 t456 t468 t469 _ ?side1 ?side2 A15.out).mono ?_);(case side1=>repeat (first | exact (Kd.R_reads' HO_5.out).2.2 | (with_reducible refine Kd.C_alloc ?_ _) | (with_reducible refine Kd.C_drewN ?_ _) | (with_reducible refine Kd.C_drew ?_)));(case side2=>exact (Kd.R_reads' HO_5.out).2.1);rintro e w20 ⟨v470,rfl,ho0,hb⟩;refine ⟨_,rfl,?_⟩;have HO471:=A_ (Kd.R_lower ho0 (below_size HB.out));replace HO_5:=rB HO_5 hb;replace HO_8:=rB HO_8 hb;replace HO_9:=rB HO_9 hb;replace HB:=bB HB hb;(try clear hb);obtain ⟨Ao21,co21,eo21⟩:=Kd.R_slice HO_9.out;subst eo21;have p472:0 ≤ (x10_2:Int):=of_decide_eq_true (by assumption);have q472:x10_2 < (y463.length:Int):=of_decide_eq_true (by assumption);obtain ⟨ad472,e472,hx472_0⟩:=Kd.at_int (Kd.R_reads' HO_9.out).2.2 x10_2 p472 q472;cases e472;replace p472:=eq_true p472;replace q472:=eq_true q472) | ((with_reducible refine gate_callee (f:=26) rfl ?_);refine gL (some 61) Try.func26 #[.int .i64 (rd y463 x10_2),.slice Ao8 t455.length co8,.int .i64 (wrap64 (x6_1 - t456))] ?_;(with_reducible refine (shares_Award.calls k2 (rd y463 x10_2) _ _ t455 (wrap64 (x6_1 - t456)) t473 t474 _ ?side1 ?side2 A17.out).mono ?_);(case side1=>repeat (first | exact (Kd.R_reads' HO_5.out).2.2 | (with_reducible refine Kd.C_alloc ?_ _) | (with_reducible refine Kd.C_drewN ?_ _) | (with_reducible refine Kd.C_drew ?_)));(case side2=>exact (Kd.R_reads' HO_5.out).2.1);rintro e w22 ⟨v475,rfl,ho0,hb⟩;refine ⟨_,rfl,?_⟩;have HO476:=A_ (Kd.R_lower (Kd.R_new' ho0 (Kd.R_lt HO471.out)) (below_size HB.out));replace HO_5:=rB HO_5 hb;replace HO_8:=rB HO_8 hb;replace HO_9:=rB HO_9 hb;replace HO471:=A_ (Kd.R_elder' HO471.out (Kd.R_base ho0) hb);replace HB:=bB HB hb;(try clear hb)))
     (try simp only [Act.put,List.setIfInBounds_toArray,List.set_cons_zero,List.set_cons_succ])
     go_cut [93] (fun v93 wc=>∃ (kq:Nat) (x93_17:Bool),v93 = .bool x93_17 ∧ Aside0 (numnahlaw07_SharesDual.j2 kq t456 t455 x6_1 y460 y463 x10_2 t468 t473 x93_17 = some r) ∧ Aside0 (kq ≤ k2) ∧ Aside0 (Kd.R (Kd.int .i64) 3 wc w.heap.size (fun k_=>some k_ ≠ ((.slice (some ad467) y460.length co19):Value).ownBlock ∧ some k_ ≠ ((.slice (some ad472) y463.length co21):Value).ownBlock) (.slice Ao8 t455.length co8) t455) ∧ Aside0 (Kd.R (Kd.int .i64) 3 wc w.heap.size (fun k_=>some k_ ≠ ((.slice Ao8 t455.length co8):Value).ownBlock ∧ some k_ ≠ ((.slice (some ad472) y463.length co21):Value).ownBlock) (.slice (some ad467) y460.length co19) y460) ∧ Aside0 (Kd.R (Kd.int .i64) 3 wc w.heap.size (fun k_=>some k_ ≠ ((.slice Ao8 t455.length co8):Value).ownBlock ∧ some k_ ≠ ((.slice (some ad467) y460.length co19):Value).ownBlock) (.slice (some ad472) y463.length co21) y463) ∧ Aside0 (Kd.R k23 23 wc w.heap.size (fun k_=>some k_ ≠ (v475:Value).ownBlock) v470 t468) ∧ Aside0 (Kd.R k23 23 wc w.heap.size (fun k_=>some k_ ≠ (v470:Value).ownBlock) v475 t473) ∧ Aside0 (Below w.heap.size w wc))
     case first =>
      have H:=HC18.out
      clear HC18
      by_cases c23:t469 = 0
      case neg =>
       rw [if_neg c23] at H
       have c23b0:(t469 == 0) = false:=beq_eq_false_iff_ne.mpr c23
       have c23b1:(t469 != 0) = true:=bne_iff_ne.mpr c23
       (first | rw [c23b0] | (simp only [i64_w,i32_w];rw [c23b0]) | skip)
       have H':=A_ H
       clear H
       go_wp2
       go_meet
       case rel=>exact ⟨_,(true),rfl,H',⟨by have:=HK1.out;have:=HK2.out;first | omega | exact Nat.le_refl _⟩,⟨by (with_reducible repeat (first | apply Kd.R_alloc | apply Kd.R_drewN | apply Kd.R_drew));exact HO_5.out⟩,⟨by (with_reducible repeat (first | apply Kd.R_alloc | apply Kd.R_drewN | apply Kd.R_drew));exact HO_8.out⟩,⟨by (with_reducible repeat (first | apply Kd.R_alloc | apply Kd.R_drewN | apply Kd.R_drew));exact HO_9.out⟩,⟨by (with_reducible repeat (first | apply Kd.R_alloc | apply Kd.R_drewN | apply Kd.R_drew));exact Kd.R_mono HO471.out (fun _ hk=>hk.2)⟩,⟨by (with_reducible repeat (first | apply Kd.R_alloc | apply Kd.R_drewN | apply Kd.R_drew));exact Kd.R_mono HO476.out (fun _ hk=>hk.2)⟩,⟨bl HB⟩⟩
      rw [if_pos c23] at H
      have c23b0:(t469 == 0) = true:=beq_iff_eq.mpr c23
      have c23b1:(t469 != 0) = false:=bne_eq_false_iff_eq.mpr c23
      clear c23
      (first | rw [c23b0] | (simp only [i64_w,i32_w];rw [c23b0]) | skip)
      by_cases c24:t474 = 0
      case neg =>
       rw [if_neg c24] at H
       have c24b0:(t474 == 0) = false:=beq_eq_false_iff_ne.mpr c24
       have c24b1:(t474 != 0) = true:=bne_iff_ne.mpr c24
       have H':=A_ H
       clear H
       go_wp2
       go_meet
       case rel=>exact ⟨_,(true),rfl,H',⟨by have:=HK1.out;have:=HK2.out;first | omega | exact Nat.le_refl _⟩,⟨by (with_reducible repeat (first | apply Kd.R_alloc | apply Kd.R_drewN | apply Kd.R_drew));exact HO_5.out⟩,⟨by (with_reducible repeat (first | apply Kd.R_alloc | apply Kd.R_drewN | apply Kd.R_drew));exact HO_8.out⟩,⟨by (with_reducible repeat (first | apply Kd.R_alloc | apply Kd.R_drewN | apply Kd.R_drew));exact HO_9.out⟩,⟨by (with_reducible repeat (first | apply Kd.R_alloc | apply Kd.R_drewN | apply Kd.R_drew));exact Kd.R_mono HO471.out (fun _ hk=>hk.2)⟩,⟨by (with_reducible repeat (first | apply Kd.R_alloc | apply Kd.R_drewN | apply Kd.R_drew));exact Kd.R_mono HO476.out (fun _ hk=>hk.2)⟩,⟨bl HB⟩⟩
      rw [if_pos c24] at H
      have c24b0:(t474 == 0) = true:=beq_iff_eq.mpr c24
      have c24b1:(t474 != 0) = false:=bne_eq_false_iff_eq.mpr c24
      clear c24
      by_cases c25:(t468.length:Int) = (t455.length:Int)
      case neg =>
       rw [if_neg c25] at H
       have c25b0:((t468.length:Int) == (t455.length:Int)) = false:=beq_eq_false_iff_ne.mpr c25
       have c25b1:((t468.length:Int) != (t455.length:Int)) = true:=bne_iff_ne.mpr c25
       have c25b2:(t468.length == t455.length) = false:=by first | simpa using c25 | (simp at c25 ⊢;omega)
       have H':=A_ H
       clear H
       obtain ⟨Ao39,co39,eo39⟩:=Kd.R_slice HO471.out
       subst eo39
       go_wp2
       go_meet
       case rel=>exact ⟨_,(true),rfl,H',⟨by have:=HK1.out;have:=HK2.out;first | omega | exact Nat.le_refl _⟩,⟨by (with_reducible repeat (first | apply Kd.R_alloc | apply Kd.R_drewN | apply Kd.R_drew));exact HO_5.out⟩,⟨by (with_reducible repeat (first | apply Kd.R_alloc | apply Kd.R_drewN | apply Kd.R_drew));exact HO_8.out⟩,⟨by (with_reducible repeat (first | apply Kd.R_alloc | apply Kd.R_drewN | apply Kd.R_drew));exact HO_9.out⟩,⟨by (with_reducible repeat (first | apply Kd.R_alloc | apply Kd.R_drewN | apply Kd.R_drew));exact Kd.R_mono HO471.out (fun _ hk=>hk.2)⟩,⟨by (with_reducible repeat (first | apply Kd.R_alloc | apply Kd.R_drewN | apply Kd.R_drew));exact Kd.R_mono HO476.out (fun _ hk=>hk.2)⟩,⟨bl HB⟩⟩
      rw [if_pos c25] at H
      have c25b0:((t468.length:Int) == (t455.length:Int)) = true:=beq_iff_eq.mpr c25
      have c25b1:((t468.length:Int) != (t455.length:Int)) = false:=bne_eq_false_iff_eq.mpr c25
      have c25b2:(t468.length == t455.length) = true:=by first | simpa using c25 | (simp at c25 ⊢;omega)
      clear c25
      by_cases c26:(t473.length:Int) = (t455.length:Int)
      case neg =>
       rw [if_neg c26] at H
       have c26b0:((t473.length:Int) == (t455.length:Int)) = false:=beq_eq_false_iff_ne.mpr c26
       have c26b1:((t473.length:Int) != (t455.length:Int)) = true:=bne_iff_ne.mpr c26
       have c26b2:(t473.length == t455.length) = false:=by first | simpa using c26 | (simp at c26 ⊢;omega)
       have H':=A_ H
       clear H
       obtain ⟨Ao37,co37,eo37⟩:=Kd.R_slice HO471.out
       subst eo37
       obtain ⟨Ao38,co38,eo38⟩:=Kd.R_slice HO476.out
       subst eo38
       go_wp2
       go_meet
       case rel=>exact ⟨_,(true),rfl,H',⟨by have:=HK1.out;have:=HK2.out;first | omega | exact Nat.le_refl _⟩,⟨by (with_reducible repeat (first | apply Kd.R_alloc | apply Kd.R_drewN | apply Kd.R_drew));exact HO_5.out⟩,⟨by (with_reducible repeat (first | apply Kd.R_alloc | apply Kd.R_drewN | apply Kd.R_drew));exact HO_8.out⟩,⟨by (with_reducible repeat (first | apply Kd.R_alloc | apply Kd.R_drewN | apply Kd.R_drew));exact HO_9.out⟩,⟨by (with_reducible repeat (first | apply Kd.R_alloc | apply Kd.R_drewN | apply Kd.R_drew));exact Kd.R_mono HO471.out (fun _ hk=>hk.2)⟩,⟨by (with_reducible repeat (first | apply Kd.R_alloc | apply Kd.R_drewN | apply Kd.R_drew));exact Kd.R_mono HO476.out (fun _ hk=>hk.2)⟩,⟨bl HB⟩⟩
      rw [if_pos c26] at H
      have c26b0:((t473.length:Int) == (t455.length:Int)) = true:=beq_iff_eq.mpr c26
      have c26b1:((t473.length:Int) != (t455.length:Int)) = false:=bne_eq_false_iff_eq.mpr c26
      have c26b2:(t473.length == t455.length) = true:=by first | simpa using c26 | (simp at c26 ⊢;omega)
      clear c26
      replace H:=Option.bind_eq_some_iff.mp H
      obtain ⟨t477,A270,H⟩:=H
      replace H:(if t477 = true then ((numnahlaw07_fit.f k2 t473).bind fun t478=>(numnahlaw07_SharesDual.j2 k2 t456 t455 x6_1 y460 y463 x10_2 t468 t473 (!t478))) else (numnahlaw07_SharesDual.j2 k2 t456 t455 x6_1 y460 y463 x10_2 t468 t473 true)) = some r:=H
      have A27:=A_ A270
      clear A270
      by_cases c28:t477 = true
      case neg =>
       replace c28:=Bool.eq_false_iff.mpr c28
       subst c28
       rw [if_neg (show ¬ (false = true) by decide)] at H
       have H':=A_ H
       clear H
       obtain ⟨Ao34,co34,eo34⟩:=Kd.R_slice HO471.out
       subst eo34
       obtain ⟨Ao35,co35,eo35⟩:=Kd.R_slice HO476.out
       subst eo35
       go_wp2_with (first | (go_at_call 27;(with_reducible refine (numnahlaw07_fit.calls k2 _ _ t468 false _ ?side1 ?side2 A27.out).mono ?_);(case side1=>repeat (first | exact (Kd.R_reads' HO471.out).2.2 | (with_reducible refine Kd.C_alloc ?_ _) | (with_reducible refine Kd.C_drewN ?_ _) | (with_reducible refine Kd.C_drew ?_)));(case side2=>exact (Kd.R_reads' HO471.out).2.1);rintro e w36 ⟨rfl,hb⟩;replace HO_5:=rB HO_5 hb;replace HO_8:=rB HO_8 hb;replace HO_9:=rB HO_9 hb;replace HO471:=rB HO471 hb;replace HO476:=rB HO476 hb;replace HB:=bB HB hb;(try clear hb)))
       go_meet
       case rel=>exact ⟨_,(true),rfl,H',⟨by have:=HK1.out;have:=HK2.out;first | omega | exact Nat.le_refl _⟩,⟨by (with_reducible repeat (first | apply Kd.R_alloc | apply Kd.R_drewN | apply Kd.R_drew));exact HO_5.out⟩,⟨by (with_reducible repeat (first | apply Kd.R_alloc | apply Kd.R_drewN | apply Kd.R_drew));exact HO_8.out⟩,⟨by (with_reducible repeat (first | apply Kd.R_alloc | apply Kd.R_drewN | apply Kd.R_drew));exact HO_9.out⟩,⟨by (with_reducible repeat (first | apply Kd.R_alloc | apply Kd.R_drewN | apply Kd.R_drew));exact Kd.R_mono HO471.out (fun _ hk=>hk.2)⟩,⟨by (with_reducible repeat (first | apply Kd.R_alloc | apply Kd.R_drewN | apply Kd.R_drew));exact Kd.R_mono HO476.out (fun _ hk=>hk.2)⟩,⟨bl HB⟩⟩
      subst c28
      rw [if_pos rfl] at H
      replace H:=Option.bind_eq_some_iff.mp H
      obtain ⟨t478,A290,H⟩:=H
      replace H:(numnahlaw07_SharesDual.j2 k2 t456 t455 x6_1 y460 y463 x10_2 t468 t473 (!t478)) = some r:=H
      have A29:=A_ A290
      clear A290
      have H':=A_ H
      clear H
      obtain ⟨Ao30,co30,eo30⟩:=Kd.R_slice HO471.out
      subst eo30
      obtain ⟨Ao31,co31,eo31⟩:=Kd.R_slice HO476.out
      subst eo31
      go_wp2_with (first | (go_at_call 27;(with_reducible refine (numnahlaw07_fit.calls k2 _ _ t468 true _ ?side1 ?side2 A27.out).mono ?_);(case side1=>repeat (first | exact (Kd.R_reads' HO471.out).2.2 | (with_reducible refine Kd.C_alloc ?_ _) | (with_reducible refine Kd.C_drewN ?_ _) | (with_reducible refine Kd.C_drew ?_)));(case side2=>exact (Kd.R_reads' HO471.out).2.1);rintro e w32 ⟨rfl,hb⟩;replace HO_5:=rB HO_5 hb;replace HO_8:=rB HO_8 hb;replace HO_9:=rB HO_9 hb;replace HO471:=rB HO471 hb;replace HO476:=rB HO476 hb;replace HB:=bB HB hb;(try clear hb)) | (go_at_call 27;(with_reducible refine (numnahlaw07_fit.calls k2 _ _ t473 t478 _ ?side1 ?side2 A29.out).mono ?_);(case side1=>repeat (first | exact (Kd.R_reads' HO476.out).2.2 | (with_reducible refine Kd.C_alloc ?_ _) | (with_reducible refine Kd.C_drewN ?_ _) | (with_reducible refine Kd.C_drew ?_)));(case side2=>exact (Kd.R_reads' HO476.out).2.1);rintro e w33 ⟨rfl,hb⟩;replace HO_5:=rB HO_5 hb;replace HO_8:=rB HO_8 hb;replace HO_9:=rB HO_9 hb;replace HO471:=rB HO471 hb;replace HO476:=rB HO476 hb;replace HB:=bB HB hb;(try clear hb)))
      go_meet
      case rel=>exact ⟨_,(!t478),rfl,H',⟨by have:=HK1.out;have:=HK2.out;first | omega | exact Nat.le_refl _⟩,⟨by (with_reducible repeat (first | apply Kd.R_alloc | apply Kd.R_drewN | apply Kd.R_drew));exact HO_5.out⟩,⟨by (with_reducible repeat (first | apply Kd.R_alloc | apply Kd.R_drewN | apply Kd.R_drew));exact HO_8.out⟩,⟨by (with_reducible repeat (first | apply Kd.R_alloc | apply Kd.R_drewN | apply Kd.R_drew));exact HO_9.out⟩,⟨by (with_reducible repeat (first | apply Kd.R_alloc | apply Kd.R_drewN | apply Kd.R_drew));exact Kd.R_mono HO471.out (fun _ hk=>hk.2)⟩,⟨by (with_reducible repeat (first | apply Kd.R_alloc | apply Kd.R_drewN | apply Kd.R_drew));exact Kd.R_mono HO476.out (fun _ hk=>hk.2)⟩,⟨bl HB⟩⟩
     case rest =>
      clear HC18
      obtain ⟨kq,x93_17,rfl,HA,HJ17,HO_5,HO_8,HO_9,HO_11,HO_13,HB⟩:=hcut
      cases kq with
      | zero=>exact absurd HA.out (by simp [numnahlaw07_SharesDual.j2])
      | succ kj17 =>
       have H:=HA.out
       clear HA
       simp only [numnahlaw07_SharesDual.j2] at H
       by_cases c40:x93_17 = true
       ·subst c40
        rw [if_pos rfl] at H
        exact absurd ((Option.some.inj H).trans HRT.out) (by decide)
       replace c40:=Bool.eq_false_iff.mpr c40
       subst c40
       rw [if_neg (show ¬ (false = true) by decide)] at H
       have H':=A_ H
       clear H
       go_wp2
       go_loopg [15] kj17 (fun kq v15 w'=>∃ (x15_4:Int),v15 = .int .i64 x15_4 ∧ Aside0 (numnahlaw07_SharesDual.l2 kq t456 t455 x6_1 y460 y463 x10_2 t468 t473 x15_4 = some r) ∧ Aside0 (kq ≤ kj17) ∧ Aside0 (Kd.R (Kd.int .i64) 3 w' w.heap.size (fun k_=>some k_ ≠ ((.slice (some ad467) y460.length co19):Value).ownBlock ∧ some k_ ≠ ((.slice (some ad472) y463.length co21):Value).ownBlock) (.slice Ao8 t455.length co8) t455) ∧ Aside0 (Kd.R (Kd.int .i64) 3 w' w.heap.size (fun k_=>some k_ ≠ ((.slice Ao8 t455.length co8):Value).ownBlock ∧ some k_ ≠ ((.slice (some ad472) y463.length co21):Value).ownBlock) (.slice (some ad467) y460.length co19) y460) ∧ Aside0 (Kd.R (Kd.int .i64) 3 w' w.heap.size (fun k_=>some k_ ≠ ((.slice Ao8 t455.length co8):Value).ownBlock ∧ some k_ ≠ ((.slice (some ad467) y460.length co19):Value).ownBlock) (.slice (some ad472) y463.length co21) y463) ∧ Aside0 (Kd.R k23 23 w' w.heap.size (fun k_=>some k_ ≠ (v475:Value).ownBlock) v470 t468) ∧ Aside0 (Kd.R k23 23 w' w.heap.size (fun k_=>some k_ ≠ (v470:Value).ownBlock) v475 t473) ∧ Aside0 (Below w.heap.size w w'))
       case atStart=>exact ⟨(0),rfl,H',⟨Nat.le_refl _⟩,⟨by (with_reducible repeat (first | apply Kd.R_alloc | apply Kd.R_drewN | apply Kd.R_drew));exact HO_5.out⟩,⟨by (with_reducible repeat (first | apply Kd.R_alloc | apply Kd.R_drewN | apply Kd.R_drew));exact HO_8.out⟩,⟨by (with_reducible repeat (first | apply Kd.R_alloc | apply Kd.R_drewN | apply Kd.R_drew));exact HO_9.out⟩,⟨by (with_reducible repeat (first | apply Kd.R_alloc | apply Kd.R_drewN | apply Kd.R_drew));exact HO_11.out⟩,⟨by (with_reducible repeat (first | apply Kd.R_alloc | apply Kd.R_drewN | apply Kd.R_drew));exact HO_13.out⟩,⟨bl HB⟩⟩
       case round =>
        clear H'
        obtain ⟨x15_4,rfl,HA,HK4,HO_5,HO_8,HO_9,HO_11,HO_13,HB⟩:=hrel
        cases gk with
        | zero=>exact absurd HA.out (by simp [numnahlaw07_SharesDual.l2])
        | succ k4 =>
         have H:=HA.out
         clear HA
         simp only [numnahlaw07_SharesDual.l2] at H
         by_cases c41:x15_4 < (t455.length:Int)
         case neg =>
          rw [if_neg c41] at H
          have c41b0:=decide_eq_false c41
          clear c41
          have H':=A_ H
          clear H
          go_wp2
          go_roundg k4
          case measure=>have:=HK1.out;have:=HK2.out;have:=HJ17.out;have:=HK4.out;omega
          case rel=>exact ⟨(wrap64 (x10_2 + 1)),rfl,H',⟨by have:=HK1.out;have:=HK2.out;have:=HJ17.out;have:=HK4.out;omega⟩,⟨by (with_reducible repeat (first | apply Kd.R_alloc | apply Kd.R_drewN | apply Kd.R_drew));exact HO_5.out⟩,⟨by (with_reducible repeat (first | apply Kd.R_alloc | apply Kd.R_drewN | apply Kd.R_drew));exact HO_8.out⟩,⟨by (with_reducible repeat (first | apply Kd.R_alloc | apply Kd.R_drewN | apply Kd.R_drew));exact HO_9.out⟩,⟨bl HB⟩⟩
         rw [if_pos c41] at H
         have c41b0:=decide_eq_true c41
         clear c41
         replace H:=gd H
         obtain ⟨c42,H⟩:=H
         have c42b0:=decide_eq_true c42
         clear c42
         replace H:=gd H
         obtain ⟨c43,H⟩:=H
         have c43b0:=decide_eq_true c43
         clear c43
         replace H:=gd H
         obtain ⟨c44,H⟩:=H
         have c44b0:=decide_eq_true c44
         clear c44
         replace H:=Option.bind_eq_some_iff.mp H
         obtain ⟨⟨t481,t482⟩,A450,H⟩:=H
         dsimp only at H
         have A45:=A_ A450
         clear A450
         replace H:=Option.bind_eq_some_iff.mp H
         obtain ⟨⟨t484,t485⟩,A460,H⟩:=H
         dsimp only at H
         have A46:=A_ A460
         clear A460
         by_cases c47:(!(t481 == t484) || (!(t482 == t485))) = true
         ·rw [if_pos c47] at H
          have c47b0:(!(t481 == t484) || (!(t482 == t485))) = true:=c47
          clear c47
          exact absurd ((Option.some.inj H).trans HRT.out) (by decide)
         rw [if_neg c47] at H
         have c47b0:(!(t481 == t484) || (!(t482 == t485))) = false:=by simpa using c47
         clear c47
         have H':=A_ H
         clear H
         try go_wp2
         replace HO_5:=rD HO_5
         replace HO_8:=rD HO_8
         replace HO_9:=rD HO_9
         replace HO_11:=rD HO_11
         replace HO_13:=rD HO_13
         replace HB:=bD HB
         obtain ⟨Ao54,co54,eo54⟩:=Kd.R_slice HO_11.out
         (first | subst eo54 | (injection eo54 with f1_ f2_ f3_;have f4_:=f1_.symm;have f5_:=f3_.symm;clear f1_ f2_ f3_;subst f4_;subst f5_))
         have p479:0 ≤ (x15_4:Int):=of_decide_eq_true (by assumption)
         have q479:x15_4 < (t468.length:Int):=of_decide_eq_true (by assumption)
         obtain ⟨ad479,e479,hx479_0,hx479_1⟩:=at_T23 (Kd.R_reads' HO_11.out).2.2 x15_4 p479 q479
         cases e479
         replace p479:=eq_true p479
         replace q479:=eq_true q479
         obtain ⟨Ao55,co55,eo55⟩:=Kd.R_slice HO_13.out
         (first | subst eo55 | (injection eo55 with f1_ f2_ f3_;have f4_:=f1_.symm;have f5_:=f3_.symm;clear f1_ f2_ f3_;subst f4_;subst f5_))
         have p480:0 ≤ (x15_4:Int):=of_decide_eq_true (by assumption)
         have q480:x15_4 < (t473.length:Int):=of_decide_eq_true (by assumption)
         obtain ⟨ad480,e480,hx480_0,hx480_1⟩:=at_T23 (Kd.R_reads' HO_13.out).2.2 x15_4 p480 q480
         cases e480
         replace p480:=eq_true p480
         replace q480:=eq_true q480
         have p483:0 ≤ (x15_4:Int):=of_decide_eq_true (by assumption)
         have q483:x15_4 < (t455.length:Int):=of_decide_eq_true (by assumption)
         obtain ⟨ad483,e483,hx483_0⟩:=Kd.at_int (Kd.R_reads' HO_5.out).2.2 x15_4 p483 q483
         cases e483
         replace p483:=eq_true p483
         replace q483:=eq_true q483
         refine start_ (n:=15) (S:=fun w'=>w'.cell? (ad479.add ((x15_4).toNat * 2)) = some (.int .i64 ((rd_T23 t468 x15_4).f0)) ∧ w'.cell? ⟨(ad479.add ((x15_4).toNat * 2)).block,(ad479.add ((x15_4).toNat * 2)).off + 1,none⟩ = some (.int .i64 ((rd_T23 t468 x15_4).f1)) ∧ w'.cell? (ad480.add ((x15_4).toNat * 2)) = some (.int .i64 ((rd_T23 t473 x15_4).f0)) ∧ w'.cell? ⟨(ad480.add ((x15_4).toNat * 2)).block,(ad480.add ((x15_4).toNat * 2)).off + 1,none⟩ = some (.int .i64 ((rd_T23 t473 x15_4).f1)) ∧ w'.cell? (ad483.add (x15_4).toNat) = some (.int .i64 (rd t455 x15_4))) (ds:=[]) (ba 15 0) (by kernel_rfl) rfl rfl ⟨hx479_0,hx479_1,hx480_0,hx480_1,hx483_0⟩ (fun hHeld=>?_);refine with_tabW numnahlaw07_SharesDual.tab18 numnahlaw07_SharesDual.bits18 (fun HT_ HW_=>?_)
         generalize wr.drew = w53 at HO_5 HO_8 HO_9 HO_11 HO_13 HB hx479_0 hx479_1 hx480_0 hx480_1 hx483_0 hHeld ⊢
         refine pq 0 100 1 HT_ ?_
         refine pq 1 101 3 HT_ ?_
         refine pq 2 102 7 HT_ ?_
         refine pq 4 104 23 HT_ ?_
         refine pq 5 105 55 HT_ ?_
         refine pq 6 106 119 HT_ ?_
         refine pq 9 109 631 HT_ ?_
         refine pq 10 110 1655 HT_ ?_
         refine pq 11 111 3703 HT_ ?_
         refine tq 3 103 3711 HT_ HW_ hHeld ?_
         refine tq 7 107 3839 HT_ HW_ hHeld ?_
         refine tq 12 112 7935 HT_ HW_ hHeld ?_
         refine oq 8 108 8191 HT_ (fun K hK=>?_)
         refine gq Try.func28 #[.agg #[.int .i64 ((rd_T23 t468 x15_4).f0),.int .i64 ((rd_T23 t468 x15_4).f1)],.agg #[.int .i64 ((rd_T23 t473 x15_4).f0),.int .i64 ((rd_T23 t473 x15_4).f1)]] ?_
         with_reducible refine (numnahref07_Add.calls k4 ((rd_T23 t468 x15_4).f0) ((rd_T23 t468 x15_4).f1) ((rd_T23 t473 x15_4).f0) ((rd_T23 t473 x15_4).f1) t481 t482 _ A45.out).mono ?_
         rintro e w56 ⟨rfl,hb⟩
         have HS0_:=(hb.cell (World.block_lt_of_cell? _ _ (hHeld.1))).trans (hHeld.1)
         have HS1_:=(hb.cell (World.block_lt_of_cell? _ _ (hHeld.2.1))).trans (hHeld.2.1)
         have HS2_:=(hb.cell (World.block_lt_of_cell? _ _ (hHeld.2.2.1))).trans (hHeld.2.2.1)
         have HS3_:=(hb.cell (World.block_lt_of_cell? _ _ (hHeld.2.2.2.1))).trans (hHeld.2.2.2.1)
         have HS4_:=(hb.cell (World.block_lt_of_cell? _ _ (hHeld.2.2.2.2))).trans (hHeld.2.2.2.2)
         refine ⟨_,rfl,?_⟩
         replace HO_5:=rB HO_5 hb
         replace HO_8:=rB HO_8 hb
         replace HO_9:=rB HO_9 hb
         replace HO_11:=rB HO_11 hb
         replace HO_13:=rB HO_13 hb
         replace HB:=bB HB hb
         (try clear hb)
         refine hz hK (fun hHeld=>?_)
         clear hK K
         refine nq 108 ?_
         refine oq 13 113 16383 HT_ (fun K hK=>?_)
         refine gq Try.func23 #[.int .i64 (rd t455 x15_4)] ?_
         with_reducible refine (numnahref07_Whole.calls (rd t455 x15_4) t484 t485 _ A46.out).mono ?_
         rintro e w57 ⟨rfl,hb⟩
         have HS0_:=(hb.cell (World.block_lt_of_cell? _ _ (hHeld.1))).trans (hHeld.1)
         have HS1_:=(hb.cell (World.block_lt_of_cell? _ _ (hHeld.2.1))).trans (hHeld.2.1)
         have HS2_:=(hb.cell (World.block_lt_of_cell? _ _ (hHeld.2.2.1))).trans (hHeld.2.2.1)
         have HS3_:=(hb.cell (World.block_lt_of_cell? _ _ (hHeld.2.2.2.1))).trans (hHeld.2.2.2.1)
         have HS4_:=(hb.cell (World.block_lt_of_cell? _ _ (hHeld.2.2.2.2))).trans (hHeld.2.2.2.2)
         refine ⟨_,rfl,?_⟩
         replace HO_5:=rB HO_5 hb
         replace HO_8:=rB HO_8 hb
         replace HO_9:=rB HO_9 hb
         replace HO_11:=rB HO_11 hb
         replace HO_13:=rB HO_13 hb
         replace HB:=bB HB hb
         (try clear hb)
         refine hz hK (fun hHeld=>?_)
         clear hK K
         refine nq 113 ?_
         refine pq 14 114 32767 HT_ ?_
         refine done_ (done_of HT_.out (by kernel_rfl)) ?_
         try go_wp2
         go_roundg k4
         case measure=>have:=HK1.out;have:=HK2.out;have:=HJ17.out;have:=HK4.out;omega
         case rel=>exact ⟨(wrap64 (x15_4 + 1)),rfl,H',⟨by have:=HK1.out;have:=HK2.out;have:=HJ17.out;have:=HK4.out;omega⟩,⟨by (with_reducible repeat (first | apply Kd.R_alloc | apply Kd.R_drewN | apply Kd.R_drew));exact HO_5.out⟩,⟨by (with_reducible repeat (first | apply Kd.R_alloc | apply Kd.R_drewN | apply Kd.R_drew));exact HO_8.out⟩,⟨by (with_reducible repeat (first | apply Kd.R_alloc | apply Kd.R_drewN | apply Kd.R_drew));exact HO_9.out⟩,⟨by (with_reducible repeat (first | apply Kd.R_alloc | apply Kd.R_drewN | apply Kd.R_drew));exact HO_11.out⟩,⟨by (with_reducible repeat (first | apply Kd.R_alloc | apply Kd.R_drewN | apply Kd.R_drew));exact HO_13.out⟩,⟨bl HB⟩⟩
def numnahlaw07_SharesDual.Pure:Prop:=∀ (l0:List Int) (a1:Int),l0.length ≤ maxLen → l0.length * 8 ≤ 140737488351232 → (∀ x ∈ l0,(Lit.int .i64 x).wf = true) → (Lit.int .i64 a1).wf = true → ∃ k,numnahlaw07_SharesDual.f k l0 a1 = some true
theorem numnahlaw07_SharesDual.walk (P:numnahlaw07_SharesDual.Pure) (a0:Option Addr) (len0 cap0:Nat) (z0:List Int) (a1:Int) (w:World) (w0:(a0 = none ∧ len0 = 0 ∧ cap0 = 0 ∧ z0 = []) ∨ ∃ x,a0 = some x ∧ len0 ≤ cap0 ∧ cap0 ≤ maxLen ∧ z0.length = cap0 ∧ (∀ i,i < z0.length → w.cell? (x.add i) = some (.int .i64 (z0.getD i 0))) ∧ ∀ n ∈ z0,(Lit.int .i64 n).wf = true) (y0:len0 * 8 ≤ 140737488351232) (w1:(Lit.int .i64 a1).wf = true) :
  Calls Try.prog 4 #[.slice a0 len0 cap0,.int .i64 a1] w fun e w'=>e = .returned (.bool true) ∧ Below w.heap.size w w':=by
 obtain ⟨l0,rfl,hr0,hm0,hw0,hc0⟩:=ReadsInt.ofRowC w0
 obtain ⟨k,h⟩:=P l0 a1 hm0 y0 hw0 w1
 refine (numnahlaw07_SharesDual.calls k _ _ l0 a1 true w (Kd.C_of_reads (d:=(0:Int)) (h1:=fun _=>rfl) hr0) hc0 h rfl).mono ?_
 rintro e w' ⟨rfl,hd⟩
 exact ⟨rfl,hd⟩
end Go.Proofs.Ytjohcjfmlhihbaa.G
set_option linter.unusedSectionVars false
namespace Go.Proofs.Ytjohcjfmlhihbaa.P
open Go Go.RowKit Go.Proofs.Ytjohcjfmlhihbaa.G
open Go.Proofs.YtjohcjfmlhihbaaW.PrintWords Go.Proofs.YtjohcjfmlhihbaaW.PrintMore
section
variable {l:List Int} (h:IsCl l) {E:Int} (h0:0 ≤ E) (h1:E ≤ sI l)
include h h0 h1
theorem dual_l2 {φ ψ:Rat → Rat} (hs:∀ c ∈ cl l,φ c + ψ c = c ∧ Sm 10000000 10000 (φ c) ∧ Sm 10000000 10000 (ψ c)) {s:Int} {R Q:List Int} {j:Nat} (hj:j < 4) (next:Ev (fun k=>numnahlaw07_SharesDual.l1 k E l s R Q ((j + 1:Nat):Int)) true) :
  ∀ (d i:Nat),i + d = l.length → Ev (fun k=>numnahlaw07_SharesDual.l2 k E l s R Q (j:Int) (encL ((cl l).map φ)) (encL ((cl l).map ψ)) (i:Int)) true:=by
 intro d
 have hl:=h.ten
 induction d with
 | zero =>
  intro i hi
  refine Ev.step (fun k=>?_) next
  rw [numnahlaw07_SharesDual.l2,if_neg (by omega),wrap_succ (by omega)]
 | succ d ih =>
  intro i hi
  have hil:i < l.length:=by omega
  have hx:i < ((cl l).map φ).length:=by rw [List.length_map,cl_length];exact hil
  have hy:i < ((cl l).map ψ).length:=by rw [List.length_map,cl_length];exact hil
  obtain ⟨a1,a2,a3⟩:=hs (l[i]:Rat) (List.mem_map.2 ⟨l[i],List.getElem_mem hil,rfl⟩)
  have e1:=ev_radd (a2.fits a3 (by decide) (by decide))
  rw [a1,whole_num,whole_den] at e1
  obtain ⟨K1,e1⟩:=e1
  obtain ⟨K2,e2⟩:=ih (i + 1) (by omega)
  refine ⟨K1 + K2 + 1,fun k hk=>?_⟩
  obtain ⟨m,rfl⟩:∃ m,k = m + 1:=⟨k - 1,by omega⟩
  have f1:=e1 m (by omega)
  have f2:=e2 m (by omega)
  show numnahlaw07_SharesDual.l2 (m + 1) _ _ _ _ _ _ _ _ _ = _
  rw [numnahlaw07_SharesDual.l2,encL_length,encL_length,if_pos (by omega),if_pos (by omega),if_pos (by omega),if_pos (by omega),rdE hx,rdE hy,List.getElem_map,List.getElem_map,cl_get hil]
  simp only [encQ,f1,Option.bind_some,numnahref07_Whole.f]
  rw [rd_get hil,if_neg (by simp),wrap_succ (by omega)]
  exact f2
theorem dual_pair {r t:Nat} (hr:r ≤ 4) (ht:t ≤ 4) (dual:∀ x y,IsRule r (cl l) (E:Rat) x → IsRule t (cl l) (tot (cl l) - (E:Rat)) y → ∃ φ ψ:Rat → Rat,x = (cl l).map φ ∧ y = (cl l).map ψ ∧ ∀ c ∈ cl l,φ c + ψ c = c) {R Q:List Int} (hR:R.length = 4) (hQ:Q.length = 4) {j:Nat} (hj:j < 4) (hRj:rd R (j:Int) = (r:Int)) (hQj:rd Q (j:Int) = (t:Int))
  (next:Ev (fun k=>numnahlaw07_SharesDual.l1 k E l (sI l) R Q ((j + 1:Nat):Int)) true):Ev (fun k=>numnahlaw07_SharesDual.l1 k E l (sI l) R Q (j:Int)) true:=by
 have hs:=sI_cl h
 have h2:0 ≤ sI l - E:=by omega
 have h3:sI l - E ≤ sI l:=by omega
 obtain ⟨x,hx,ex,_⟩:=award_one h h0 h1 hr
 obtain ⟨y,hy,ey,_⟩:=award_one h h2 h3 ht
 have hfx:=award_fit h h0 h1 hx
 have hfy:=award_fit h h2 h3 hy
 have sx:=award_sm h h0 h1 hx
 have sy:=award_sm h h2 h3 hy
 have lx:=hx.len
 have ly:=hy.len
 rw [cl_length] at lx ly
 have hE:((sI l - E:Int):Rat) = tot (cl l) - (E:Rat):=by rw [tot_cl];push_cast;rfl
 rw [hE] at hy
 obtain ⟨φ,ψ,rfl,rfl,hsum⟩:=dual x y hx hy
 have hl2:=dual_l2 h h0 h1 (fun c hc=>⟨hsum c hc,(sx _ (List.mem_map.2 ⟨c,hc,rfl⟩)).2,(sy _ (List.mem_map.2 ⟨c,hc,rfl⟩)).2⟩) hj next l.length 0 (by omega)
 obtain ⟨K1,e1⟩:=ex
 obtain ⟨K2,e2⟩:=ey
 obtain ⟨K3,e3⟩:=hfx
 obtain ⟨K4,e4⟩:=hfy
 obtain ⟨K5,e5⟩:=hl2
 refine ⟨K1 + K2 + K3 + K4 + K5 + 2,fun k hk=>?_⟩
 obtain ⟨m,rfl⟩:∃ m,k = m + 1 + 1:=⟨k - 2,by omega⟩
 have f1:=e1 (m + 1) (by omega)
 have f2:=e2 (m + 1) (by omega)
 have f3:=e3 (m + 1) (by omega)
 have f4:=e4 (m + 1) (by omega)
 have f5:=e5 m (by omega)
 show numnahlaw07_SharesDual.l1 (m + 1 + 1) _ _ _ _ _ _ = _
 rw [numnahlaw07_SharesDual.l1,hR,hQ,if_pos (by omega),if_pos (by omega),hRj]
 simp only [f1,Option.bind_some]
 rw [if_pos (by omega),hQj,wrap_id (x:=sI l - E) (by omega) (by omega)]
 simp only [f2,f3,f4,Option.bind_some,encL_length,lx,ly,if_true,Bool.not_true]
 rw [numnahlaw07_SharesDual.j2,if_neg (by decide)]
 exact f5
theorem dual_l0:∀ (d i:Nat),i + d = l.length → Ev (fun k=>numnahlaw07_SharesDual.l0 k E l (sI (l.take i)) (i:Int)) true:=by
 have hl:=h.ten
 have p:∀ c ∈ cl l,0 ≤ c:=cl_nonneg h h0 h1
 have back:tot (cl l) - (tot (cl l) - (E:Rat)) = (E:Rat):=by grind
 intro d
 induction d with
 | zero =>
  intro i hi
  refine Ev.step (f:=fun k=>numnahlaw07_SharesDual.l1 k E l (sI l) [0,1,2,3] [0,2,1,3] 0) (fun k=>?_) ?_
  ·rw [numnahlaw07_SharesDual.l0,if_neg (by omega),List.take_of_length_le (by omega)]
  ·refine dual_pair h h0 h1 (r:=0) (t:=0) (by omega) (by omega) (fun x y hx hy=>dual_0 hx hy p) rfl rfl (j:=0) (by omega) rfl rfl ?_
   refine dual_pair h h0 h1 (r:=1) (t:=2) (by omega) (by omega) (fun x y hx hy=>dual_12 hx hy) rfl rfl (j:=1) (by omega) rfl rfl ?_
   refine dual_pair h h0 h1 (r:=2) (t:=1) (by omega) (by omega) (fun x y hx hy=>by
    obtain ⟨φ,ψ,rfl,rfl,hs⟩:=dual_12 hy (by rw [back];exact hx)
    exact ⟨ψ,φ,rfl,rfl,fun c hc=>by have:=hs c hc;grind⟩) rfl rfl (j:=2) (by omega) rfl rfl ?_
   refine dual_pair h h0 h1 (r:=3) (t:=3) (by omega) (by omega) (fun x y hx hy=>dual_3 hx hy) rfl rfl (j:=3) (by omega) rfl rfl ?_
   refine Ev.step (f:=fun k=>(numnahlaw07_awake.f k).bind fun t=>some t) (fun k=>?_) (Ev.bind ev_awake (Ev.now _))
   rw [numnahlaw07_SharesDual.l1,if_neg (by decide)]
 | succ d ih =>
  intro i hi
  have hil:i < l.length:=by omega
  refine Ev.step (fun k=>?_) (ih (i + 1) (by omega))
  have b1:=(sI_bound (l:=l.take (i + 1)) (fun x hx=>h.mem x (List.mem_of_mem_take hx)))
  have b2:(l.take (i + 1)).length ≤ 10:=by rw [List.length_take];omega
  have e:sI (l.take i) + l[i] = sI (l.take (i + 1)):=by rw [List.take_succ_eq_append_getElem hil,sI_append];simp [sI]
  rw [numnahlaw07_SharesDual.l0,if_pos (by omega),if_pos (by omega),rd_get hil,e,wrap_id (by omega) (by omega),wrap_succ (by omega)]
end
theorem dual_Pure:numnahlaw07_SharesDual.Pure:=by
 intro l0 a1 _ _ _ _
 refine Ev.rounds ?_
 unfold numnahlaw07_SharesDual.f
 obtain ⟨l,E,h,h0,h1,_,ht⟩:=ev_tame l0 a1
 exact Ev.bind ht (dual_l0 h h0 h1 l.length 0 (by omega))
end Go.Proofs.Ytjohcjfmlhihbaa.P
namespace Go.Proofs.YtjohcjfmlhihbaaW.PrintWords
open Go.ChangeShapes Go.WideShapes
theorem sized_ints {H:Type} {enc:TypeId × Value → H} {P:Program} {W:World} {base:Nat} {spare:Nat → Bool} {held:Bool} {t e:TypeId} {k:IntKind} {a:Option Addr} {len cap:Nat} {d:DataW H} {ps:List MemPlace} {ts:List TypeId} {ds:List (DataW H)} {j:Nat}
  (hsz:(DataW.weightsEach P ts ds).all (· ≤ reachBytes) = true) (ht:ts[j]? = some t) (hd:ds[j]? = some d) (hu:P.underlying t = some (.slice e)) (he:P.underlying e = some (.int k)) (hc:P.cellsOf e = 1) {B:Nat} (hB:P.bytesOf e = B)
  (h:DataW.Trod enc P W base spare held t (.slice a len cap) d ps):len * B ≤ 140737488351232:=by
 obtain ⟨fuel,hf⟩:=h
 rcases open_ints hu he hc hf with ⟨hcs,_⟩ | ⟨x,l,c,zs,hcs,_,hl,_,hz,hx,_,_⟩
 ·simp [Value.cells] at hcs
  obtain ⟨rfl,rfl,rfl⟩:=hcs
  simp
 ·simp [Value.cells] at hcs
  obtain ⟨rfl,rfl,rfl⟩:=hcs
  obtain ⟨hx,_⟩:=Prod.mk.inj hx
  subst hx
  have z:=sized_slice hsz ht hd hu
  rw [hB] at z
  have hl2:len ≤ zs.length:=by
   rw [hz]
   split
   ·exact hl
   ·exact Nat.le_refl _
  have h1:(lits (H:=H) k (zs.take len)).length + (lits (H:=H) k (zs.drop len)).length = zs.length:=by
   simp [lits]
   omega
  rw [h1] at z
  exact Nat.le_trans (Nat.mul_le_mul_right _ hl2) z
end Go.Proofs.YtjohcjfmlhihbaaW.PrintWords

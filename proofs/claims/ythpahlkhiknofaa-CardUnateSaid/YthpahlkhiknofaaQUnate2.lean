/- Several texts, joined. -/
import Derived.Test.YthpahlkhiknofaaQUnate1
set_option linter.unusedVariables false
set_option linter.unusedSimpArgs false
namespace Go.Proofs.Ythpahlkhiknofaa.G
open Go.RowKit Go.Proofs.YthpahlkhiknofaaW.PrintWords Go.Proofs.YthpahlkhiknofaaW.PrintLast Go.Proofs.YthpahlkhiknofaaW.PrintMore
set_option maxHeartbeats 8000000
set_option maxRecDepth 100000
attribute [local go_sem] max2_int min2_int max_two min_two max_three min_three max_four min_four   -- for this text's walks alone
mutual
noncomputable def numnahlaw01_CardUnate.l0:Nat → Int → List Int → List Int → List Int → Int → Option (Bool)
 | 0,_,_,_,_,_=>none
 | k + 1,x0,x1,x5,x6,x7=>if x7 ≤ x0 then ((numnahlaw01_at.f x1 x7).bind fun t554=>((numnahlaw01_mod.f t554 201).bind fun t555=>(if x5.length < 17592186044416 then ((some (x5 ++ [wrap64 (t555 - 100)]:List Int)).bind fun y556=>(if x7 < x0 then (if 0 ≤ x7 then (if x7 < (y556.length:Int) then (if (rd y556 x7) < 0 then (if x6.length < 17592186044416 then (numnahlaw01_CardUnate.l0 k x0 x1 y556 (x6 ++ [x7]) (wrap64 (x7 + 1))) else (none)) else (numnahlaw01_CardUnate.l0 k x0 x1 y556 x6 (wrap64 (x7 + 1)))) else (none)) else (none)) else (numnahlaw01_CardUnate.l0 k x0 x1 y556 x6 (wrap64 (x7 + 1))))) else (none)))) else (numnahlaw01_CardUnate.l1 k x0 x5 x6 ([]:List Int) 0)
noncomputable def numnahlaw01_CardUnate.l1:Nat → Int → List Int → List Int → List Int → Int → Option (Bool)
 | 0,_,_,_,_,_=>none
 | k + 1,x0,x5,x6,x8,x9=>if 0 ≤ x0 then (if x9 < (shl .i64 1 x0) then (numnahlaw01_CardUnate.l2 k x0 x5 x6 x8 x9 0 0) else ((card_Weights.f (strOfNums x8)).bind fun bt571=>((numnahlaw01_same.f k x0).bind fun t578=>((card_Turn.f k (strOfNums x8) t578 x6).bind fun bt581=>((card_Monotone.f k bt581.1).bind fun bt583=>(if bt571.2.2 = 0 then (if (bt571.1.length:Int) = (wrap64 (x0 + 1)) then ((card_Realize.f (strOfNums x8) x5).bind fun t586=>(if t586 = 0 then (if bt581.2 = 0 then (if bt583.2.2 = 0 then (if bt583.1 = (-1) then (if bt583.2.1 = (-1) then ((numnahlaw01_awake.f).bind fun t587=>(some t587)) else (some false)) else (some false)) else (some false)) else (some false)) else (some false))) else (some false)) else (some false))))))) else (none)
noncomputable def numnahlaw01_CardUnate.l2:Nat → Int → List Int → List Int → List Int → Int → Int → Int → Option (Bool)
 | 0,_,_,_,_,_,_,_=>none
 | k + 1,x0,x5,x6,x8,x9,x10,x11=>if x11 < x0 then (if 0 ≤ x11 then (if x11 < (x5.length:Int) then (numnahlaw01_CardUnate.l2 k x0 x5 x6 x8 x9 (wrap64 (x10 + (wrap64 ((rd x5 x11) * (Int.tmod (shr .i64 x9 x11) 2))))) (wrap64 (x11 + 1))) else (none)) else (none)) else (if 0 ≤ x0 then (if x0 < (x5.length:Int) then (if x10 ≥ (rd x5 x0) then (if x8.length < 140737488355328 then (numnahlaw01_CardUnate.l1 k x0 x5 x6 (x8 ++ [49]) (wrap64 (x9 + 1))) else (none)) else (if x8.length < 140737488355328 then (numnahlaw01_CardUnate.l1 k x0 x5 x6 (x8 ++ [48]) (wrap64 (x9 + 1))) else (none))) else (none)) else (none))
end
noncomputable def numnahlaw01_CardUnate.f (k:Nat) (a0:Int) (l1:List Int):Option (Bool):=(numnahlaw01_mod.f a0 5).bind fun t553=>(numnahlaw01_CardUnate.l0 k (wrap64 (1 + t553)) l1 ([]:List Int) ([]:List Int) 0)
theorem numnahlaw01_CardUnate.mono_l:∀ k,(∀ y0 y1 y2 y3 y4,LeO (numnahlaw01_CardUnate.l0 k y0 y1 y2 y3 y4) (numnahlaw01_CardUnate.l0 (k + 1) y0 y1 y2 y3 y4)) ∧ (∀ y0 y1 y2 y3 y4,LeO (numnahlaw01_CardUnate.l1 k y0 y1 y2 y3 y4) (numnahlaw01_CardUnate.l1 (k + 1) y0 y1 y2 y3 y4)) ∧ (∀ y0 y1 y2 y3 y4 y5 y6,LeO (numnahlaw01_CardUnate.l2 k y0 y1 y2 y3 y4 y5 y6) (numnahlaw01_CardUnate.l2 (k + 1) y0 y1 y2 y3 y4 y5 y6))
 | 0=>⟨fun _ _ _ _ _ r h=>by simp [numnahlaw01_CardUnate.l0] at h,fun _ _ _ _ _ r h=>by simp [numnahlaw01_CardUnate.l1] at h,fun _ _ _ _ _ _ _ r h=>by simp [numnahlaw01_CardUnate.l2] at h⟩
 | k + 1=>by
  obtain ⟨ih0,ih1,ih2⟩:=numnahlaw01_CardUnate.mono_l k
  refine ⟨?_,?_,?_⟩
  ·intro y0 y1 y2 y3 y4
   unfold numnahlaw01_CardUnate.l0
   repeat' first
   | (with_reducible exact ih0 _ _ _ _ _)
   | (with_reducible exact ih1 _ _ _ _ _)
   | (with_reducible exact ih2 _ _ _ _ _ _ _)
   | (with_reducible exact card_Monotone.mono _ _)
   | (with_reducible exact card_Turn.mono _ _ _ _)
   | (with_reducible exact numnahlaw01_same.mono _ _)
   | (with_reducible exact LeO.refl _)
   | (with_reducible exact LeO.none _)
   | (with_reducible refine LeO.ite ?_ ?_)
   | (with_reducible refine LeO.bind ?_ (fun _=>?_))
   | exact ih0 _ _ _ _ _
   | exact ih1 _ _ _ _ _
   | exact ih2 _ _ _ _ _ _ _
   | exact card_Monotone.mono _ _
   | exact card_Turn.mono _ _ _ _
   | exact numnahlaw01_same.mono _ _
   | exact LeO.none _
   | refine LeO.ite ?_ ?_
   | refine LeO.bind ?_ (fun _=>?_)
  ·intro y0 y1 y2 y3 y4
   unfold numnahlaw01_CardUnate.l1
   repeat' first
   | (with_reducible exact ih0 _ _ _ _ _)
   | (with_reducible exact ih1 _ _ _ _ _)
   | (with_reducible exact ih2 _ _ _ _ _ _ _)
   | (with_reducible exact card_Monotone.mono _ _)
   | (with_reducible exact card_Turn.mono _ _ _ _)
   | (with_reducible exact numnahlaw01_same.mono _ _)
   | (with_reducible exact LeO.refl _)
   | (with_reducible exact LeO.none _)
   | (with_reducible refine LeO.ite ?_ ?_)
   | (with_reducible refine LeO.bind ?_ (fun _=>?_))
   | exact ih0 _ _ _ _ _
   | exact ih1 _ _ _ _ _
   | exact ih2 _ _ _ _ _ _ _
   | exact card_Monotone.mono _ _
   | exact card_Turn.mono _ _ _ _
   | exact numnahlaw01_same.mono _ _
   | exact LeO.none _
   | refine LeO.ite ?_ ?_
   | refine LeO.bind ?_ (fun _=>?_)
  intro y0 y1 y2 y3 y4 y5 y6
  unfold numnahlaw01_CardUnate.l2
  repeat' first
  | (with_reducible exact ih0 _ _ _ _ _)
  | (with_reducible exact ih1 _ _ _ _ _)
  | (with_reducible exact ih2 _ _ _ _ _ _ _)
  | (with_reducible exact card_Monotone.mono _ _)
  | (with_reducible exact card_Turn.mono _ _ _ _)
  | (with_reducible exact numnahlaw01_same.mono _ _)
  | (with_reducible exact LeO.refl _)
  | (with_reducible exact LeO.none _)
  | (with_reducible refine LeO.ite ?_ ?_)
  | (with_reducible refine LeO.bind ?_ (fun _=>?_))
  | exact ih0 _ _ _ _ _
  | exact ih1 _ _ _ _ _
  | exact ih2 _ _ _ _ _ _ _
  | exact card_Monotone.mono _ _
  | exact card_Turn.mono _ _ _ _
  | exact numnahlaw01_same.mono _ _
  | exact LeO.none _
  | refine LeO.ite ?_ ?_
  | refine LeO.bind ?_ (fun _=>?_)
theorem numnahlaw01_CardUnate.mono:∀ a0 a1 k,LeO (numnahlaw01_CardUnate.f k a0 a1) (numnahlaw01_CardUnate.f (k + 1) a0 a1):=by
 intro a0 a1 k
 obtain ⟨ih0,ih1,ih2⟩:=numnahlaw01_CardUnate.mono_l k
 unfold numnahlaw01_CardUnate.f
 repeat' first
   | (with_reducible exact ih0 _ _ _ _ _)
   | (with_reducible exact ih1 _ _ _ _ _)
   | (with_reducible exact ih2 _ _ _ _ _ _ _)
   | (with_reducible exact card_Monotone.mono _ _)
   | (with_reducible exact card_Turn.mono _ _ _ _)
   | (with_reducible exact numnahlaw01_same.mono _ _)
   | (with_reducible exact LeO.refl _)
   | (with_reducible exact LeO.none _)
   | (with_reducible refine LeO.ite ?_ ?_)
   | (with_reducible refine LeO.bind ?_ (fun _=>?_))
   | exact ih0 _ _ _ _ _
   | exact ih1 _ _ _ _ _
   | exact ih2 _ _ _ _ _ _ _
   | exact card_Monotone.mono _ _
   | exact card_Turn.mono _ _ _ _
   | exact numnahlaw01_same.mono _ _
   | exact LeO.none _
   | refine LeO.ite ?_ ?_
   | refine LeO.bind ?_ (fun _=>?_)
noncomputable def numnahlaw01_CardUnate.T17:Bool × List (List Nat × List Nat):=(true,[([],[]),([],[]),([],[]),([1,2],[1,2]),([3],[3]),([],[]),([],[]),([5,6],[5,6]),([7],[7]),([4,8],[4,8]),([0,9],[0,9]),([10,0,1,2,3,4,5,6,7,8,9,10],[0,10])])
noncomputable def numnahlaw01_CardUnate.B17:List Nat:=[0,0,0,6,14,0,0,96,224,510,1023,2047]
theorem numnahlaw01_CardUnate.tab17:rtab .any (opsOf Try.f14 17) = numnahlaw01_CardUnate.T17:=by kernel_rfl
theorem numnahlaw01_CardUnate.bits17:waitsOk numnahlaw01_CardUnate.T17.2 numnahlaw01_CardUnate.B17 = true:=by kernel_rfl
noncomputable def numnahlaw01_CardUnate.T22:Bool × List (List Nat × List Nat):=(true,[([],[]),([0],[0]),([],[]),([2],[2]),([],[]),([1,3,4,3],[1,3,4]),([5],[5]),([6],[6]),([6],[6]),([7,5,0,1,2,3,4,5,6,7],[7]),([8,9,0,1,2,3,4,5,6,7,8,9],[8])])
noncomputable def numnahlaw01_CardUnate.B22:List Nat:=[0,1,0,4,0,31,63,127,127,255,1023]
theorem numnahlaw01_CardUnate.tab22:rtab .any (opsOf Try.f14 22) = numnahlaw01_CardUnate.T22:=by kernel_rfl
theorem numnahlaw01_CardUnate.bits22:waitsOk numnahlaw01_CardUnate.T22.2 numnahlaw01_CardUnate.B22 = true:=by kernel_rfl
theorem numnahlaw01_CardUnate.calls (k:Nat) (a0:Int) (A1:Option Addr) (c1:Nat) (l1:List Int) (r:Bool) (w:World) (hr1:Kd.C (Kd.int .i64) w A1 l1.length l1) (hc1:l1.length ≤ c1) (h:numnahlaw01_CardUnate.f k a0 l1 = some r) (hrt_:r = true) :
  Calls Try.prog 14 #[.int .i64 a0,.slice A1 l1.length c1] w fun e w'=>e = .returned (.bool r) ∧ Below w.heap.size w w':=by
 have HR1:=Aside0.mk hr1
 have HC1:=Aside0.mk hc1
 clear hr1 hc1
 have HB:=Aside0.mk (Below.refl w.heap.size w)
 have H:((numnahlaw01_mod.f a0 5).bind fun t553=>(numnahlaw01_CardUnate.l0 k (wrap64 (1 + t553)) l1 ([]:List Int) ([]:List Int) 0)) = some r:=h
 clear h
 replace H:=Option.bind_eq_some_iff.mp H
 obtain ⟨t553,A30,H⟩:=H
 replace H:(numnahlaw01_CardUnate.l0 k (wrap64 (1 + t553)) l1 ([]:List Int) ([]:List Int) 0) = some r:=H
 have A3:=Aside0.mk A30
 clear A30
 have H':=Aside0.mk H
 clear H
 go_enter Try.func14,Try.ntmps14
 go_wp2_with (first | ((with_reducible refine gate_callee (f:=27) rfl ?_);refine goesL_ (some 21) rfl rfl Try.func27 (by kernel_rfl) rfl #[.int .i64 a0,.int .i64 5] rfl (by (try simp only [List.map_toArray,List.map_cons,List.map_nil]);first | done | rfl | (simp only [List.length_drop,List.length_take];rfl)) ?_;(with_reducible refine (numnahlaw01_mod.calls a0 5 t553 _ A3.out).mono ?_);rintro e w' ⟨rfl,⟨nd,rfl⟩⟩;refine ⟨_,rfl,?_⟩))
 go_loopg [5,6,7] k (fun kq v5 v6 v7 w'=>∃ (x5_1:List Int) (x6_1:List Int) (x7_1:Int),v7 = .int .i64 x7_1 ∧ Aside0 (numnahlaw01_CardUnate.l0 kq (wrap64 (1 + t553)) l1 x5_1 x6_1 x7_1 = some r) ∧ Aside0 (kq ≤ k) ∧ Aside0 (Kd.R (Kd.int .i64) 3 w' w.heap.size (fun k_=>some k_ ≠ (v6:Value).ownBlock) v5 x5_1) ∧ Aside0 (Kd.R (Kd.int .i64) 3 w' w.heap.size (fun k_=>some k_ ≠ (v5:Value).ownBlock) v6 x6_1) ∧ Aside0 (Below w.heap.size w w'))
 case atStart=>exact ⟨(([]:List Int)),(([]:List Int)),(0),(by first | rfl | (simp;done) | (simp [*];done)),H',⟨Nat.le_refl _⟩,⟨by first | exact Kd.R_nil _ _ _ _ _ | exact Kd.N_nil _ _ _ _ _ | exact Kd.V_nil _ _ _ _ _ | exact Kd.Q_nil _ _ _ _ _ | exact Kd.S_nil _ _ _ _ _⟩,⟨by first | exact Kd.R_nil _ _ _ _ _ | exact Kd.N_nil _ _ _ _ _ | exact Kd.V_nil _ _ _ _ _ | exact Kd.Q_nil _ _ _ _ _ | exact Kd.S_nil _ _ _ _ _⟩,⟨by repeat (first | (with_reducible first | exact HB.out | apply below_alloc | apply pw_below_drewN | apply below_drew1) | exact HB.out)⟩⟩
 case round =>
  clear H'
  try clear c1
  try clear c2
  try clear p2
  obtain ⟨x5_1,x6_1,x7_1,rfl,HA,HK1,HO_5,HO_6,HB⟩:=hrel
  cases gk with
  | zero=>exact absurd HA.out (by simp [numnahlaw01_CardUnate.l0])
  | succ k1 =>
   have H:=HA.out
   clear HA
   simp only [numnahlaw01_CardUnate.l0] at H
   by_cases c4:x7_1 ≤ (wrap64 (1 + t553))
   ·rw [if_pos c4] at H
    have c4b0:decide (x7_1 ≤ (wrap64 (1 + t553))) = true:=decide_eq_true c4
    clear c4
    replace H:=Option.bind_eq_some_iff.mp H
    obtain ⟨t554,A50,H⟩:=H
    replace H:((numnahlaw01_mod.f t554 201).bind fun t555=>(if x5_1.length < 17592186044416 then ((some (x5_1 ++ [wrap64 (t555 - 100)]:List Int)).bind fun y556=>(if x7_1 < (wrap64 (1 + t553)) then (if 0 ≤ x7_1 then (if x7_1 < (y556.length:Int) then (if (rd y556 x7_1) < 0 then (if x6_1.length < 17592186044416 then (numnahlaw01_CardUnate.l0 k1 (wrap64 (1 + t553)) l1 y556 (x6_1 ++ [x7_1]) (wrap64 (x7_1 + 1))) else (none)) else (numnahlaw01_CardUnate.l0 k1 (wrap64 (1 + t553)) l1 y556 x6_1 (wrap64 (x7_1 + 1)))) else (none)) else (none)) else (numnahlaw01_CardUnate.l0 k1 (wrap64 (1 + t553)) l1 y556 x6_1 (wrap64 (x7_1 + 1))))) else (none))) = some r:=H
    have A5:=Aside0.mk A50
    clear A50
    replace H:=Option.bind_eq_some_iff.mp H
    obtain ⟨t555,A60,H⟩:=H
    replace H:(if x5_1.length < 17592186044416 then ((some (x5_1 ++ [wrap64 (t555 - 100)]:List Int)).bind fun y556=>(if x7_1 < (wrap64 (1 + t553)) then (if 0 ≤ x7_1 then (if x7_1 < (y556.length:Int) then (if (rd y556 x7_1) < 0 then (if x6_1.length < 17592186044416 then (numnahlaw01_CardUnate.l0 k1 (wrap64 (1 + t553)) l1 y556 (x6_1 ++ [x7_1]) (wrap64 (x7_1 + 1))) else (none)) else (numnahlaw01_CardUnate.l0 k1 (wrap64 (1 + t553)) l1 y556 x6_1 (wrap64 (x7_1 + 1)))) else (none)) else (none)) else (numnahlaw01_CardUnate.l0 k1 (wrap64 (1 + t553)) l1 y556 x6_1 (wrap64 (x7_1 + 1))))) else (none)) = some r:=H
    have A6:=Aside0.mk A60
    clear A60
    by_cases c7:x5_1.length < 17592186044416
    case neg =>
     rw [if_neg c7] at H
     exact absurd H (by simp)
    rw [if_pos c7] at H
    have LMc7:=Aside0.mk c7
    clear c7
    obtain ⟨y556,hy556⟩:∃ y_:List Int,y_ = (x5_1 ++ [wrap64 (t555 - 100)]):=⟨_,rfl⟩
    replace H:(if x7_1 < (wrap64 (1 + t553)) then (if 0 ≤ x7_1 then (if x7_1 < (y556.length:Int) then (if (rd y556 x7_1) < 0 then (if x6_1.length < 17592186044416 then (numnahlaw01_CardUnate.l0 k1 (wrap64 (1 + t553)) l1 y556 (x6_1 ++ [x7_1]) (wrap64 (x7_1 + 1))) else (none)) else (numnahlaw01_CardUnate.l0 k1 (wrap64 (1 + t553)) l1 y556 x6_1 (wrap64 (x7_1 + 1)))) else (none)) else (none)) else (numnahlaw01_CardUnate.l0 k1 (wrap64 (1 + t553)) l1 y556 x6_1 (wrap64 (x7_1 + 1)))) = some r:=by first | (rw [hy556];with_reducible exact H) | (have H2_:=(Option.bind_some _ _).symm.trans H;rw [hy556];with_reducible exact H2_) | (have H2_:=(Option.bind_some _ _).symm.trans H;with_reducible exact H2_) | with_reducible exact H | (rw [hy556];exact H) | exact H
    have Ny556:=Aside0.mk hy556
    clear hy556
    by_cases c8:x7_1 < (wrap64 (1 + t553))
    case neg =>
     rw [if_neg c8] at H
     have c8b0:decide (x7_1 < (wrap64 (1 + t553))) = false:=decide_eq_false c8
     clear c8
     have H':=Aside0.mk H
     clear H
     go_wp2_with (first | ((with_reducible refine gate_callee (f:=45) rfl ?_);refine goesL_ (some 31) rfl rfl Try.func45 (by kernel_rfl) rfl #[.slice A1 l1.length c1,.int .i64 x7_1] rfl (by (try simp only [List.map_toArray,List.map_cons,List.map_nil]);first | done | rfl | (simp only [List.length_drop,List.length_take];rfl)) ?_;(with_reducible refine (numnahlaw01_at.calls _ _ l1 x7_1 t554 _ ?side1 ?side2 A5.out).mono ?_);(case side1=>repeat (first | exact (Kd.C_below HR1.out HB.out) | (with_reducible refine Kd.C_alloc ?_ _) | (with_reducible refine Kd.C_drewN ?_ _) | (with_reducible refine Kd.C_drew ?_)));(case side2=>exact HC1.out);rintro e w' ⟨rfl,⟨nd,rfl⟩⟩;refine ⟨_,rfl,?_⟩) | ((with_reducible refine gate_callee (f:=27) rfl ?_);refine goesL_ (some 32) rfl rfl Try.func27 (by kernel_rfl) rfl #[.int .i64 t554,.int .i64 201] rfl (by (try simp only [List.map_toArray,List.map_cons,List.map_nil]);first | done | rfl | (simp only [List.length_drop,List.length_take];rfl)) ?_;(with_reducible refine (numnahlaw01_mod.calls t554 201 t555 _ A6.out).mono ?_);rintro e w' ⟨rfl,⟨nd,rfl⟩⟩;refine ⟨_,rfl,?_⟩) | ((with_reducible refine gate_builtin (b:=.append) (xs:=#[.tmp 28,.tmp 34]) rfl ?_);(try (refine gate_guard (by rfl) ?_;dsimp only));at_builtin;refine Kd.R_append (Kd.int .i64) (w0:=w) w.heap.size rfl (.tmp 28) (.tmp 34) 22 3 (.int .i64 0) 8 rfl Try.underlying22 info3 rfl (by decide) (by omega) u5 x5_1 (wrap64 (t555 - 100)) [.int .i64 (wrap64 (t555 - 100))] (fun k_=>some k_ ≠ (u6:Value).ownBlock) (fun _=>False) rfl rfl ?aP (fun _ hk=>hk.elim) ?aF ?aO ?aB ?aS ?aL ?_;(case aP=>exact rfl);(case aB=>exact (by repeat (first | (with_reducible first | exact HB.out | apply below_alloc | apply pw_below_drewN | apply below_drew1) | exact HB.out)));(case aF=>exact (fun k_ hk=>Kd.fresh' (Kd.R_lt (by (with_reducible repeat (first | apply Kd.R_alloc | apply Kd.R_drewN | apply Kd.R_drew));exact HO_6.out)) k_ hk));(case aO=>exact (by (with_reducible repeat (first | apply Kd.R_alloc | apply Kd.R_drewN | apply Kd.R_drew));exact HO_5.out));(case aS=>exact (below_size (by repeat (first | (with_reducible first | exact HB.out | apply below_alloc | apply pw_below_drewN | apply below_drew1) | exact HB.out))));(case aL=>have:=LMc7.out;omega);intro v557 w18 ho hb hg hat;rw [← Ny556.out] at ho;have n0_:=Aside0.mk (Kd.R_after (ok:=(fun _=>True)) (by (with_reducible repeat (first | apply Kd.R_alloc | apply Kd.R_drewN | apply Kd.R_drew));exact Kd.R_mono HO_6.out (fun _ hk=>⟨trivial,hk⟩)) hg hat);have n1_:=Aside0.mk (hb);have n2_:=Aside0.mk (ho);clear HO_6;clear HB;clear HO_5;have HO_6:=n0_;have HB:=n1_;have HO558:=n2_;clear n0_ n1_ n2_;clear ho hb hg hat))
     (try subst hji19)
     go_roundg k1
     case measure=>have:=HK1.out;omega
     case rel=>exact ⟨(y556),(x6_1),(wrap64 (x7_1 + 1)),(by first | rfl | (simp;done) | (simp [*];done)),H',⟨by have:=HK1.out;omega⟩,⟨by (with_reducible repeat (first | apply Kd.R_alloc | apply Kd.R_drewN | apply Kd.R_drew));exact HO558.out⟩,⟨by (with_reducible repeat (first | apply Kd.R_alloc | apply Kd.R_drewN | apply Kd.R_drew));exact Kd.R_mono HO_6.out (fun _ hk=>hk.2)⟩,⟨by repeat (first | (with_reducible first | exact HB.out | apply below_alloc | apply pw_below_drewN | apply below_drew1) | exact HB.out)⟩⟩
    rw [if_pos c8] at H
    have c8b0:decide (x7_1 < (wrap64 (1 + t553))) = true:=decide_eq_true c8
    clear c8
    by_cases c9:0 ≤ x7_1
    case neg =>
     rw [if_neg c9] at H
     exact absurd H (by simp)
    rw [if_pos c9] at H
    have c9b0:decide (0 ≤ x7_1) = true:=decide_eq_true c9
    clear c9
    by_cases c10:x7_1 < (y556.length:Int)
    case neg =>
     rw [if_neg c10] at H
     exact absurd H (by simp)
    rw [if_pos c10] at H
    have c10b0:decide (x7_1 < (y556.length:Int)) = true:=decide_eq_true c10
    clear c10
    by_cases c11:(rd y556 x7_1) < 0
    case neg =>
     rw [if_neg c11] at H
     have c11b0:decide ((rd y556 x7_1) < 0) = false:=decide_eq_false c11
     clear c11
     have H':=Aside0.mk H
     clear H
     go_wp2_with (first | ((with_reducible refine gate_callee (f:=45) rfl ?_);refine goesL_ (some 31) rfl rfl Try.func45 (by kernel_rfl) rfl #[.slice A1 l1.length c1,.int .i64 x7_1] rfl (by (try simp only [List.map_toArray,List.map_cons,List.map_nil]);first | done | rfl | (simp only [List.length_drop,List.length_take];rfl)) ?_;(with_reducible refine (numnahlaw01_at.calls _ _ l1 x7_1 t554 _ ?side1 ?side2 A5.out).mono ?_);(case side1=>repeat (first | exact (Kd.C_below HR1.out HB.out) | (with_reducible refine Kd.C_alloc ?_ _) | (with_reducible refine Kd.C_drewN ?_ _) | (with_reducible refine Kd.C_drew ?_)));(case side2=>exact HC1.out);rintro e w' ⟨rfl,⟨nd,rfl⟩⟩;refine ⟨_,rfl,?_⟩) | ((with_reducible refine gate_callee (f:=27) rfl ?_);refine goesL_ (some 32) rfl rfl Try.func27 (by kernel_rfl) rfl #[.int .i64 t554,.int .i64 201] rfl (by (try simp only [List.map_toArray,List.map_cons,List.map_nil]);first | done | rfl | (simp only [List.length_drop,List.length_take];rfl)) ?_;(with_reducible refine (numnahlaw01_mod.calls t554 201 t555 _ A6.out).mono ?_);rintro e w' ⟨rfl,⟨nd,rfl⟩⟩;refine ⟨_,rfl,?_⟩) | ((with_reducible refine gate_builtin (b:=.append) (xs:=#[.tmp 28,.tmp 34]) rfl ?_);(try (refine gate_guard (by rfl) ?_;dsimp only));at_builtin;refine Kd.R_append (Kd.int .i64) (w0:=w) w.heap.size rfl (.tmp 28) (.tmp 34) 22 3 (.int .i64 0) 8 rfl Try.underlying22 info3 rfl (by decide) (by omega) u5 x5_1 (wrap64 (t555 - 100)) [.int .i64 (wrap64 (t555 - 100))] (fun k_=>some k_ ≠ (u6:Value).ownBlock) (fun _=>False) rfl rfl ?aP (fun _ hk=>hk.elim) ?aF ?aO ?aB ?aS ?aL ?_;(case aP=>exact rfl);(case aB=>exact (by repeat (first | (with_reducible first | exact HB.out | apply below_alloc | apply pw_below_drewN | apply below_drew1) | exact HB.out)));(case aF=>exact (fun k_ hk=>Kd.fresh' (Kd.R_lt (by (with_reducible repeat (first | apply Kd.R_alloc | apply Kd.R_drewN | apply Kd.R_drew));exact HO_6.out)) k_ hk));(case aO=>exact (by (with_reducible repeat (first | apply Kd.R_alloc | apply Kd.R_drewN | apply Kd.R_drew));exact HO_5.out));(case aS=>exact (below_size (by repeat (first | (with_reducible first | exact HB.out | apply below_alloc | apply pw_below_drewN | apply below_drew1) | exact HB.out))));(case aL=>have:=LMc7.out;omega);intro v557 w16 ho hb hg hat;rw [← Ny556.out] at ho;have n0_:=Aside0.mk (Kd.R_after (ok:=(fun _=>True)) (by (with_reducible repeat (first | apply Kd.R_alloc | apply Kd.R_drewN | apply Kd.R_drew));exact Kd.R_mono HO_6.out (fun _ hk=>⟨trivial,hk⟩)) hg hat);have n1_:=Aside0.mk (hb);have n2_:=Aside0.mk (ho);clear HO_6;clear HB;clear HO_5;have HO_6:=n0_;have HB:=n1_;have HO558:=n2_;clear n0_ n1_ n2_;clear ho hb hg hat;obtain ⟨Ao17,co17,eo17⟩:=Kd.R_slice HO558.out;subst eo17;have p559:0 ≤ (x7_1:Int):=of_decide_eq_true (by first | (with_reducible assumption) | assumption);have q559:x7_1 < (y556.length:Int):=of_decide_eq_true (by first | (with_reducible assumption) | assumption);obtain ⟨ad559,e559,hx559_0⟩:=Kd.at_int (Kd.R_reads' HO558.out).2.2 x7_1 p559 q559;cases e559;replace p559:=eq_true p559;replace q559:=eq_true q559))
     (try subst hji19)
     go_roundg k1
     case measure=>have:=HK1.out;omega
     case rel=>exact ⟨(y556),(x6_1),(wrap64 (x7_1 + 1)),(by first | rfl | (simp;done) | (simp [*];done)),H',⟨by have:=HK1.out;omega⟩,⟨by (with_reducible repeat (first | apply Kd.R_alloc | apply Kd.R_drewN | apply Kd.R_drew));exact HO558.out⟩,⟨by (with_reducible repeat (first | apply Kd.R_alloc | apply Kd.R_drewN | apply Kd.R_drew));exact Kd.R_mono HO_6.out (fun _ hk=>hk.2)⟩,⟨by repeat (first | (with_reducible first | exact HB.out | apply below_alloc | apply pw_below_drewN | apply below_drew1) | exact HB.out)⟩⟩
    rw [if_pos c11] at H
    have c11b0:decide ((rd y556 x7_1) < 0) = true:=decide_eq_true c11
    clear c11
    by_cases c12:x6_1.length < 17592186044416
    case neg =>
     rw [if_neg c12] at H
     exact absurd H (by simp)
    rw [if_pos c12] at H
    have LMc12:=Aside0.mk c12
    clear c12
    obtain ⟨y560,hy560⟩:∃ y_:List Int,y_ = (x6_1 ++ [x7_1]):=⟨_,rfl⟩
    replace H:(numnahlaw01_CardUnate.l0 k1 (wrap64 (1 + t553)) l1 y556 y560 (wrap64 (x7_1 + 1))) = some r:=by first | (rw [hy560];with_reducible exact H) | (have H2_:=(Option.bind_some _ _).symm.trans H;rw [hy560];with_reducible exact H2_) | (have H2_:=(Option.bind_some _ _).symm.trans H;with_reducible exact H2_) | with_reducible exact H | (rw [hy560];exact H) | exact H
    have Ny560:=Aside0.mk hy560
    clear hy560
    have H':=Aside0.mk H
    clear H
    go_wp2_with (first | ((with_reducible refine gate_callee (f:=45) rfl ?_);refine goesL_ (some 31) rfl rfl Try.func45 (by kernel_rfl) rfl #[.slice A1 l1.length c1,.int .i64 x7_1] rfl (by (try simp only [List.map_toArray,List.map_cons,List.map_nil]);first | done | rfl | (simp only [List.length_drop,List.length_take];rfl)) ?_;(with_reducible refine (numnahlaw01_at.calls _ _ l1 x7_1 t554 _ ?side1 ?side2 A5.out).mono ?_);(case side1=>repeat (first | exact (Kd.C_below HR1.out HB.out) | (with_reducible refine Kd.C_alloc ?_ _) | (with_reducible refine Kd.C_drewN ?_ _) | (with_reducible refine Kd.C_drew ?_)));(case side2=>exact HC1.out);rintro e w' ⟨rfl,⟨nd,rfl⟩⟩;refine ⟨_,rfl,?_⟩) | ((with_reducible refine gate_callee (f:=27) rfl ?_);refine goesL_ (some 32) rfl rfl Try.func27 (by kernel_rfl) rfl #[.int .i64 t554,.int .i64 201] rfl (by (try simp only [List.map_toArray,List.map_cons,List.map_nil]);first | done | rfl | (simp only [List.length_drop,List.length_take];rfl)) ?_;(with_reducible refine (numnahlaw01_mod.calls t554 201 t555 _ A6.out).mono ?_);rintro e w' ⟨rfl,⟨nd,rfl⟩⟩;refine ⟨_,rfl,?_⟩) | ((with_reducible refine gate_builtin (b:=.append) (xs:=#[.tmp 28,.tmp 34]) rfl ?_);(try (refine gate_guard (by rfl) ?_;dsimp only));at_builtin;refine Kd.R_append (Kd.int .i64) (w0:=w) w.heap.size rfl (.tmp 28) (.tmp 34) 22 3 (.int .i64 0) 8 rfl Try.underlying22 info3 rfl (by decide) (by omega) u5 x5_1 (wrap64 (t555 - 100)) [.int .i64 (wrap64 (t555 - 100))] (fun k_=>some k_ ≠ (u6:Value).ownBlock) (fun _=>False) rfl rfl ?aP (fun _ hk=>hk.elim) ?aF ?aO ?aB ?aS ?aL ?_;(case aP=>exact rfl);(case aB=>exact (by repeat (first | (with_reducible first | exact HB.out | apply below_alloc | apply pw_below_drewN | apply below_drew1) | exact HB.out)));(case aF=>exact (fun k_ hk=>Kd.fresh' (Kd.R_lt (by (with_reducible repeat (first | apply Kd.R_alloc | apply Kd.R_drewN | apply Kd.R_drew));exact HO_6.out)) k_ hk));(case aO=>exact (by (with_reducible repeat (first | apply Kd.R_alloc | apply Kd.R_drewN | apply Kd.R_drew));exact HO_5.out));(case aS=>exact (below_size (by repeat (first | (with_reducible first | exact HB.out | apply below_alloc | apply pw_below_drewN | apply below_drew1) | exact HB.out))));(case aL=>have:=LMc7.out;omega);intro v557 w13 ho hb hg hat;rw [← Ny556.out] at ho;have n0_:=Aside0.mk (Kd.R_after (ok:=(fun _=>True)) (by (with_reducible repeat (first | apply Kd.R_alloc | apply Kd.R_drewN | apply Kd.R_drew));exact Kd.R_mono HO_6.out (fun _ hk=>⟨trivial,hk⟩)) hg hat);have n1_:=Aside0.mk (hb);have n2_:=Aside0.mk (ho);clear HO_6;clear HB;clear HO_5;have HO_6:=n0_;have HB:=n1_;have HO558:=n2_;clear n0_ n1_ n2_;clear ho hb hg hat;obtain ⟨Ao14,co14,eo14⟩:=Kd.R_slice HO558.out;subst eo14;have p559:0 ≤ (x7_1:Int):=of_decide_eq_true (by first | (with_reducible assumption) | assumption);have q559:x7_1 < (y556.length:Int):=of_decide_eq_true (by first | (with_reducible assumption) | assumption);obtain ⟨ad559,e559,hx559_0⟩:=Kd.at_int (Kd.R_reads' HO558.out).2.2 x7_1 p559 q559;cases e559;replace p559:=eq_true p559;replace q559:=eq_true q559) | ((with_reducible refine gate_builtin (b:=.append) (xs:=#[.tmp 46,.tmp 48]) rfl ?_);(try (refine gate_guard (by rfl) ?_;dsimp only));at_builtin;refine Kd.R_append (Kd.int .i64) (w0:=w) w.heap.size rfl (.tmp 46) (.tmp 48) 22 3 (.int .i64 0) 8 rfl Try.underlying22 info3 rfl (by decide) (by omega) u6 x6_1 x7_1 [.int .i64 x7_1] (fun k_=>some k_ ≠ (.slice (some ad559) y556.length co14:Value).ownBlock) (fun _=>False) rfl rfl ?aP (fun _ hk=>hk.elim) ?aF ?aO ?aB ?aS ?aL ?_;(case aP=>exact rfl);(case aB=>exact (by repeat (first | (with_reducible first | exact HB.out | apply below_alloc | apply pw_below_drewN | apply below_drew1) | exact HB.out)));(case aF=>exact (fun k_ hk=>Kd.fresh' (Kd.R_lt (by (with_reducible repeat (first | apply Kd.R_alloc | apply Kd.R_drewN | apply Kd.R_drew));exact HO558.out)) k_ hk));(case aO=>exact (by (with_reducible repeat (first | apply Kd.R_alloc | apply Kd.R_drewN | apply Kd.R_drew));exact Kd.R_mono HO_6.out (fun _ hk=>hk.2)));(case aS=>exact (below_size (by repeat (first | (with_reducible first | exact HB.out | apply below_alloc | apply pw_below_drewN | apply below_drew1) | exact HB.out))));(case aL=>have:=LMc12.out;omega);intro v561 w15 ho hb hg hat;rw [← Ny560.out] at ho;have n0_:=Aside0.mk (Kd.R_after (ok:=(fun _=>True)) (by (with_reducible repeat (first | apply Kd.R_alloc | apply Kd.R_drewN | apply Kd.R_drew));exact Kd.R_mono HO558.out (fun _ hk=>⟨trivial,hk⟩)) hg hat);have n1_:=Aside0.mk (hb);have n2_:=Aside0.mk (ho);clear HO558;clear HB;clear HO_6;have HO558:=n0_;have HB:=n1_;have HO562:=n2_;clear n0_ n1_ n2_;clear ho hb hg hat))
    (try subst hji19)
    go_roundg k1
    case measure=>have:=HK1.out;omega
    case rel=>exact ⟨(y556),(y560),(wrap64 (x7_1 + 1)),(by first | rfl | (simp;done) | (simp [*];done)),H',⟨by have:=HK1.out;omega⟩,⟨by (with_reducible repeat (first | apply Kd.R_alloc | apply Kd.R_drewN | apply Kd.R_drew));exact Kd.R_mono HO558.out (fun _ hk=>hk.2)⟩,⟨by (with_reducible repeat (first | apply Kd.R_alloc | apply Kd.R_drewN | apply Kd.R_drew));exact HO562.out⟩,⟨by repeat (first | (with_reducible first | exact HB.out | apply below_alloc | apply pw_below_drewN | apply below_drew1) | exact HB.out)⟩⟩
   rw [if_neg c4] at H
   have c4b0:decide (x7_1 ≤ (wrap64 (1 + t553))) = false:=decide_eq_false c4
   clear c4
   have H':=Aside0.mk H
   clear H
   go_wp2
   go_loopg [8,9] k1 (fun kq v8 v9 w'=>∃ (x8_2:List Int) (x9_2:Int),v9 = .int .i64 x9_2 ∧ Aside0 (numnahlaw01_CardUnate.l1 kq (wrap64 (1 + t553)) x5_1 x6_1 x8_2 x9_2 = some r) ∧ Aside0 (kq ≤ k1) ∧ Aside0 (Kd.R (Kd.int .i64) 3 w' w.heap.size (fun k_=>some k_ ≠ (u6:Value).ownBlock) u5 x5_1) ∧ Aside0 (Kd.R (Kd.int .i64) 3 w' w.heap.size (fun k_=>some k_ ≠ (u5:Value).ownBlock) u6 x6_1) ∧ Aside0 (Kd.R (Kd.int .u8) 5 w' w.heap.size (fun _=>True) v8 x8_2) ∧ Aside0 (Below w.heap.size w w'))
   case atStart=>exact ⟨(([]:List Int)),(0),(by first | rfl | (simp;done) | (simp [*];done)),H',⟨Nat.le_refl _⟩,⟨by (with_reducible repeat (first | apply Kd.R_alloc | apply Kd.R_drewN | apply Kd.R_drew));exact HO_5.out⟩,⟨by (with_reducible repeat (first | apply Kd.R_alloc | apply Kd.R_drewN | apply Kd.R_drew));exact HO_6.out⟩,⟨by first | exact Kd.R_nil _ _ _ _ _ | exact Kd.N_nil _ _ _ _ _ | exact Kd.V_nil _ _ _ _ _ | exact Kd.Q_nil _ _ _ _ _ | exact Kd.S_nil _ _ _ _ _⟩,⟨by repeat (first | (with_reducible first | exact HB.out | apply below_alloc | apply pw_below_drewN | apply below_drew1) | exact HB.out)⟩⟩
   case round =>
    clear H'
    try clear c1
    try clear c2
    try clear p2
    try clear c4
    try clear c4b0
    try clear p5
    try clear q5
    try clear hx5
    try clear p6
    try clear c7
    try clear c8
    try clear c8b0
    try clear c9
    try clear c9b0
    try clear c10
    try clear c10b0
    try clear c11
    try clear c11b0
    try clear c12
    try clear c14
    try clear hx559_0
    try clear p2
    try clear p559
    try clear q559
    obtain ⟨x8_2,x9_2,rfl,HA,HK2,HO_5,HO_6,HO_8,HB⟩:=hrel
    cases gk with
    | zero=>exact absurd HA.out (by simp [numnahlaw01_CardUnate.l1])
    | succ k2 =>
     have H:=HA.out
     clear HA
     simp only [numnahlaw01_CardUnate.l1] at H
     obtain ⟨ji19,hji19⟩:∃ j_:Int,(wrap64 (1 + t553)) = j_:=⟨_,rfl⟩
     replace H:(if 0 ≤ (ji19) then (if x9_2 < (shl .i64 1 (ji19)) then (numnahlaw01_CardUnate.l2 k2 (ji19) x5_1 x6_1 x8_2 x9_2 0 0) else ((card_Weights.f (strOfNums x8_2)).bind fun bt571=>((numnahlaw01_same.f k2 (ji19)).bind fun t578=>((card_Turn.f k2 (strOfNums x8_2) t578 x6_1).bind fun bt581=>((card_Monotone.f k2 bt581.1).bind fun bt583=>(if bt571.2.2 = 0 then (if (bt571.1.length:Int) = (wrap64 ((ji19) + 1)) then ((card_Realize.f (strOfNums x8_2) x5_1).bind fun t586=>(if t586 = 0 then (if bt581.2 = 0 then (if bt583.2.2 = 0 then (if bt583.1 = (-1) then (if bt583.2.1 = (-1) then ((numnahlaw01_awake.f).bind fun t587=>(some t587)) else (some false)) else (some false)) else (some false)) else (some false)) else (some false))) else (some false)) else (some false))))))) else (none)) = some r:=by first | (rw [hji19] at H;exact H) | (simp only [hji19] at H ⊢;exact H)
     (try rw [hji19] at c4b0)
     have hji19w:(IntKind.i64.wrap (1 + t553)) = ji19:=(i64_w _).trans hji19
     by_cases c20:0 ≤ (ji19)
     case neg =>
      rw [if_neg c20] at H
      exact absurd H (by simp)
     rw [if_pos c20] at H
     have c20b0:=eq_true c20
     have c20b1:decide (0 ≤ (ji19)) = true:=decide_eq_true c20
     clear c20
     obtain ⟨ji21,hji21⟩:∃ j_:Int,(shl .i64 1 (ji19)) = j_:=⟨_,rfl⟩
     replace H:(if x9_2 < (ji21) then (numnahlaw01_CardUnate.l2 k2 (ji19) x5_1 x6_1 x8_2 x9_2 0 0) else ((card_Weights.f (strOfNums x8_2)).bind fun bt571=>((numnahlaw01_same.f k2 (ji19)).bind fun t578=>((card_Turn.f k2 (strOfNums x8_2) t578 x6_1).bind fun bt581=>((card_Monotone.f k2 bt581.1).bind fun bt583=>(if bt571.2.2 = 0 then (if (bt571.1.length:Int) = (wrap64 ((ji19) + 1)) then ((card_Realize.f (strOfNums x8_2) x5_1).bind fun t586=>(if t586 = 0 then (if bt581.2 = 0 then (if bt583.2.2 = 0 then (if bt583.1 = (-1) then (if bt583.2.1 = (-1) then ((numnahlaw01_awake.f).bind fun t587=>(some t587)) else (some false)) else (some false)) else (some false)) else (some false)) else (some false))) else (some false)) else (some false))))))) = some r:=by first | (rw [hji21] at H;exact H) | (simp only [hji21] at H ⊢;exact H)
     have hji21_:(IntKind.i64.wrap (1 * 2 ^ min (ji19).toNat 64)) = ji21:=hji21
     have hji21z:(ji19) ≤ 64 → (IntKind.i64.wrap (1 * 2 ^ (ji19).toNat)) = ji21:=shl_small hji21
     have hji21u:(IntKind.i64.wrap (2 ^ min (ji19).toNat 64)) = ji21:=by have h_:=hji21_;rw [Int.one_mul] at h_;exact h_
     have hji21v:(ji19) ≤ 64 → (IntKind.i64.wrap (2 ^ (ji19).toNat)) = ji21:=fun hle_=>by have h_:=hji21z hle_;rw [Int.one_mul] at h_;exact h_
     have hji21y:(wrap64 (1 * 2 ^ min (ji19).toNat 64)) = ji21:=(i64_w _).symm.trans hji21_
     have hji21x:(ji19) ≤ 64 → (wrap64 (1 * 2 ^ (ji19).toNat)) = ji21:=fun h_=>(i64_w _).symm.trans (hji21z h_)
     by_cases c22:x9_2 < (ji21)
     ·rw [if_pos c22] at H
      have c22b0:decide (x9_2 < (ji21)) = true:=decide_eq_true c22
      clear c22
      have H':=Aside0.mk H
      clear H
      go_wp2
      (try simp only [hji19])
      go_loopg [10,11] k2 (fun kq v10 v11 w'=>∃ (x10_3:Int) (x11_3:Int),v10 = .int .i64 x10_3 ∧ v11 = .int .i64 x11_3 ∧ Aside0 (numnahlaw01_CardUnate.l2 kq (ji19) x5_1 x6_1 x8_2 x9_2 x10_3 x11_3 = some r) ∧ Aside0 (kq ≤ k2) ∧ Aside0 (Kd.R (Kd.int .i64) 3 w' w.heap.size (fun k_=>some k_ ≠ (u6:Value).ownBlock) u5 x5_1) ∧ Aside0 (Kd.R (Kd.int .i64) 3 w' w.heap.size (fun k_=>some k_ ≠ (u5:Value).ownBlock) u6 x6_1) ∧ Aside0 (Kd.R (Kd.int .u8) 5 w' w.heap.size (fun _=>True) u8 x8_2) ∧ Aside0 (Below w.heap.size w w'))
      case atStart=>exact ⟨(0),(0),(by first | rfl | (simp;done) | (simp [*];done)),(by first | rfl | (simp;done) | (simp [*];done)),H',⟨Nat.le_refl _⟩,⟨by (with_reducible repeat (first | apply Kd.R_alloc | apply Kd.R_drewN | apply Kd.R_drew));exact HO_5.out⟩,⟨by (with_reducible repeat (first | apply Kd.R_alloc | apply Kd.R_drewN | apply Kd.R_drew));exact HO_6.out⟩,⟨by (with_reducible repeat (first | apply Kd.R_alloc | apply Kd.R_drewN | apply Kd.R_drew));exact HO_8.out⟩,⟨by repeat (first | (with_reducible first | exact HB.out | apply below_alloc | apply pw_below_drewN | apply below_drew1) | exact HB.out)⟩⟩
      case round =>
       clear H'
       try clear c1
       try clear c2
       try clear p2
       try clear c4
       try clear c4b0
       try clear p5
       try clear q5
       try clear hx5
       try clear p6
       try clear c7
       try clear c8
       try clear c8b0
       try clear c9
       try clear c9b0
       try clear c10
       try clear c10b0
       try clear c11
       try clear c11b0
       try clear c12
       try clear c14
       try clear c20
       try clear c20b0
       try clear c20b1
       try clear c22
       try clear c22b0
       try clear hx559_0
       try clear p2
       try clear p5
       try clear p559
       try clear p6
       try clear q5
       try clear q559
       obtain ⟨x10_3,x11_3,rfl,rfl,HA,HK3,HO_5,HO_6,HO_8,HB⟩:=hrel
       cases gk with
       | zero=>exact absurd HA.out (by simp [numnahlaw01_CardUnate.l2])
       | succ k3 =>
        have H:=HA.out
        clear HA
        simp only [numnahlaw01_CardUnate.l2] at H
        by_cases c23:x11_3 < (ji19)
        case neg =>
         rw [if_neg c23] at H
         have c23b0:decide (x11_3 < (ji19)) = false:=decide_eq_false c23
         clear c23
         by_cases c30:0 ≤ (ji19)
         case neg =>
          rw [if_neg c30] at H
          exact absurd H (by simp)
         rw [if_pos c30] at H
         have c30b0:decide (0 ≤ (ji19)) = true:=decide_eq_true c30
         clear c30
         by_cases c31:(ji19) < (x5_1.length:Int)
         case neg =>
          rw [if_neg c31] at H
          exact absurd H (by simp)
         rw [if_pos c31] at H
         have c31b0:decide ((ji19) < (x5_1.length:Int)) = true:=decide_eq_true c31
         clear c31
         by_cases c32:x10_3 ≥ (rd x5_1 (ji19))
         ·rw [if_pos c32] at H
          have c32b0:decide ((rd x5_1 (ji19)) ≤ x10_3) = true:=decide_eq_true c32
          clear c32
          by_cases c33:x8_2.length < 140737488355328
          case neg =>
           rw [if_neg c33] at H
           exact absurd H (by simp)
          rw [if_pos c33] at H
          have LMc33:=Aside0.mk c33
          clear c33
          obtain ⟨y565,hy565⟩:∃ y_:List Int,y_ = (x8_2 ++ [49]):=⟨_,rfl⟩
          replace H:(numnahlaw01_CardUnate.l1 k3 (ji19) x5_1 x6_1 y565 (wrap64 (x9_2 + 1))) = some r:=by first | (rw [hy565];with_reducible exact H) | (have H2_:=(Option.bind_some _ _).symm.trans H;rw [hy565];with_reducible exact H2_) | (have H2_:=(Option.bind_some _ _).symm.trans H;with_reducible exact H2_) | with_reducible exact H | (rw [hy565];exact H) | exact H
          have Ny565:=Aside0.mk hy565
          clear hy565
          have H':=Aside0.mk H
          clear H
          obtain ⟨Ao34,co34,eo34⟩:=Kd.R_slice HO_5.out
          subst eo34
          have p564:0 ≤ ((ji19):Int):=of_decide_eq_true (by first | (with_reducible assumption) | assumption)
          have q564:(ji19) < (x5_1.length:Int):=of_decide_eq_true (by first | (with_reducible assumption) | assumption)
          obtain ⟨ad564,e564,hx564_0⟩:=Kd.at_int (Kd.R_reads' HO_5.out).2.2 (ji19) p564 q564
          cases e564
          replace p564:=eq_true p564
          replace q564:=eq_true q564
          go_wp2_with (first | ((with_reducible refine gate_builtin (b:=.append) (xs:=#[.tmp 78,.tmp 79]) rfl ?_);(try (refine gate_guard (by rfl) ?_;dsimp only));at_builtin;refine Kd.R_append (Kd.int .u8) (w0:=w) w.heap.size rfl (.tmp 78) (.tmp 79) 42 5 (.int .u8 0) 1 rfl Try.underlying42 info5 rfl (by decide) (by omega) u8 x8_2 49 [.int .u8 49] (fun _=>True) (fun _=>False) rfl rfl ?aP (fun _ hk=>hk.elim) ?aF ?aO ?aB ?aS ?aL ?_;(case aP=>exact rfl);(case aB=>exact (by repeat (first | (with_reducible first | exact HB.out | apply below_alloc | apply pw_below_drewN | apply below_drew1) | exact HB.out)));(case aF=>exact (fun _ _=>trivial));(case aO=>exact (by (with_reducible repeat (first | apply Kd.R_alloc | apply Kd.R_drewN | apply Kd.R_drew));exact HO_8.out));(case aS=>exact (below_size (by repeat (first | (with_reducible first | exact HB.out | apply below_alloc | apply pw_below_drewN | apply below_drew1) | exact HB.out))));(case aL=>have:=LMc33.out;omega);intro v566 w35 ho hb hg hat;rw [← Ny565.out] at ho;have n0_:=Aside0.mk (Kd.R_over' (by (with_reducible repeat (first | apply Kd.R_alloc | apply Kd.R_drewN | apply Kd.R_drew));exact HO_5.out) (Kd.R_typed (by (with_reducible repeat (first | apply Kd.R_alloc | apply Kd.R_drewN | apply Kd.R_drew));exact HO_8.out)) (by decide) hg);have n1_:=Aside0.mk (Kd.R_over' (by (with_reducible repeat (first | apply Kd.R_alloc | apply Kd.R_drewN | apply Kd.R_drew));exact HO_6.out) (Kd.R_typed (by (with_reducible repeat (first | apply Kd.R_alloc | apply Kd.R_drewN | apply Kd.R_drew));exact HO_8.out)) (by decide) hg);have n2_:=Aside0.mk (hb);have n3_:=Aside0.mk (ho);clear HO_5;clear HO_6;clear HB;clear HO_8;have HO_5:=n0_;have HO_6:=n1_;have HB:=n2_;have HO567:=n3_;clear n0_ n1_ n2_ n3_;clear ho hb hg hat))
          (try subst hji19)
          go_roundg k3
          case measure=>have:=HK1.out;have:=HK2.out;have:=HK3.out;omega
          case rel=>exact ⟨(y565),(wrap64 (x9_2 + 1)),(by first | rfl | (simp;done) | (simp [*];done)),H',⟨by have:=HK1.out;have:=HK2.out;have:=HK3.out;omega⟩,⟨by (with_reducible repeat (first | apply Kd.R_alloc | apply Kd.R_drewN | apply Kd.R_drew));exact HO_5.out⟩,⟨by (with_reducible repeat (first | apply Kd.R_alloc | apply Kd.R_drewN | apply Kd.R_drew));exact HO_6.out⟩,⟨by (with_reducible repeat (first | apply Kd.R_alloc | apply Kd.R_drewN | apply Kd.R_drew));exact HO567.out⟩,⟨by repeat (first | (with_reducible first | exact HB.out | apply below_alloc | apply pw_below_drewN | apply below_drew1) | exact HB.out)⟩⟩
         rw [if_neg c32] at H
         have c32b0:decide ((rd x5_1 (ji19)) ≤ x10_3) = false:=decide_eq_false c32
         clear c32
         by_cases c36:x8_2.length < 140737488355328
         case neg =>
          rw [if_neg c36] at H
          exact absurd H (by simp)
         rw [if_pos c36] at H
         have LMc36:=Aside0.mk c36
         clear c36
         obtain ⟨y568,hy568⟩:∃ y_:List Int,y_ = (x8_2 ++ [48]):=⟨_,rfl⟩
         replace H:(numnahlaw01_CardUnate.l1 k3 (ji19) x5_1 x6_1 y568 (wrap64 (x9_2 + 1))) = some r:=by first | (rw [hy568];with_reducible exact H) | (have H2_:=(Option.bind_some _ _).symm.trans H;rw [hy568];with_reducible exact H2_) | (have H2_:=(Option.bind_some _ _).symm.trans H;with_reducible exact H2_) | with_reducible exact H | (rw [hy568];exact H) | exact H
         have Ny568:=Aside0.mk hy568
         clear hy568
         have H':=Aside0.mk H
         clear H
         obtain ⟨Ao37,co37,eo37⟩:=Kd.R_slice HO_5.out
         subst eo37
         have p564:0 ≤ ((ji19):Int):=of_decide_eq_true (by first | (with_reducible assumption) | assumption)
         have q564:(ji19) < (x5_1.length:Int):=of_decide_eq_true (by first | (with_reducible assumption) | assumption)
         obtain ⟨ad564,e564,hx564_0⟩:=Kd.at_int (Kd.R_reads' HO_5.out).2.2 (ji19) p564 q564
         cases e564
         replace p564:=eq_true p564
         replace q564:=eq_true q564
         go_wp2_with (first | ((with_reducible refine gate_builtin (b:=.append) (xs:=#[.tmp 81,.tmp 82]) rfl ?_);(try (refine gate_guard (by rfl) ?_;dsimp only));at_builtin;refine Kd.R_append (Kd.int .u8) (w0:=w) w.heap.size rfl (.tmp 81) (.tmp 82) 42 5 (.int .u8 0) 1 rfl Try.underlying42 info5 rfl (by decide) (by omega) u8 x8_2 48 [.int .u8 48] (fun _=>True) (fun _=>False) rfl rfl ?aP (fun _ hk=>hk.elim) ?aF ?aO ?aB ?aS ?aL ?_;(case aP=>exact rfl);(case aB=>exact (by repeat (first | (with_reducible first | exact HB.out | apply below_alloc | apply pw_below_drewN | apply below_drew1) | exact HB.out)));(case aF=>exact (fun _ _=>trivial));(case aO=>exact (by (with_reducible repeat (first | apply Kd.R_alloc | apply Kd.R_drewN | apply Kd.R_drew));exact HO_8.out));(case aS=>exact (below_size (by repeat (first | (with_reducible first | exact HB.out | apply below_alloc | apply pw_below_drewN | apply below_drew1) | exact HB.out))));(case aL=>have:=LMc36.out;omega);intro v569 w38 ho hb hg hat;rw [← Ny568.out] at ho;have n0_:=Aside0.mk (Kd.R_over' (by (with_reducible repeat (first | apply Kd.R_alloc | apply Kd.R_drewN | apply Kd.R_drew));exact HO_5.out) (Kd.R_typed (by (with_reducible repeat (first | apply Kd.R_alloc | apply Kd.R_drewN | apply Kd.R_drew));exact HO_8.out)) (by decide) hg);have n1_:=Aside0.mk (Kd.R_over' (by (with_reducible repeat (first | apply Kd.R_alloc | apply Kd.R_drewN | apply Kd.R_drew));exact HO_6.out) (Kd.R_typed (by (with_reducible repeat (first | apply Kd.R_alloc | apply Kd.R_drewN | apply Kd.R_drew));exact HO_8.out)) (by decide) hg);have n2_:=Aside0.mk (hb);have n3_:=Aside0.mk (ho);clear HO_5;clear HO_6;clear HB;clear HO_8;have HO_5:=n0_;have HO_6:=n1_;have HB:=n2_;have HO570:=n3_;clear n0_ n1_ n2_ n3_;clear ho hb hg hat))
         (try subst hji19)
         go_roundg k3
         case measure=>have:=HK1.out;have:=HK2.out;have:=HK3.out;omega
         case rel=>exact ⟨(y568),(wrap64 (x9_2 + 1)),(by first | rfl | (simp;done) | (simp [*];done)),H',⟨by have:=HK1.out;have:=HK2.out;have:=HK3.out;omega⟩,⟨by (with_reducible repeat (first | apply Kd.R_alloc | apply Kd.R_drewN | apply Kd.R_drew));exact HO_5.out⟩,⟨by (with_reducible repeat (first | apply Kd.R_alloc | apply Kd.R_drewN | apply Kd.R_drew));exact HO_6.out⟩,⟨by (with_reducible repeat (first | apply Kd.R_alloc | apply Kd.R_drewN | apply Kd.R_drew));exact HO570.out⟩,⟨by repeat (first | (with_reducible first | exact HB.out | apply below_alloc | apply pw_below_drewN | apply below_drew1) | exact HB.out)⟩⟩
        rw [if_pos c23] at H
        have c23b0:decide (x11_3 < (ji19)) = true:=decide_eq_true c23
        clear c23
        by_cases c24:0 ≤ x11_3
        case neg =>
         rw [if_neg c24] at H
         exact absurd H (by simp)
        rw [if_pos c24] at H
        have c24b0:decide (0 ≤ x11_3) = true:=decide_eq_true c24
        clear c24
        by_cases c25:x11_3 < (x5_1.length:Int)
        case neg =>
         rw [if_neg c25] at H
         exact absurd H (by simp)
        rw [if_pos c25] at H
        have c25b0:decide (x11_3 < (x5_1.length:Int)) = true:=decide_eq_true c25
        clear c25
        have c26b0:=eq_true (of_decide_eq_true (by first | (with_reducible assumption) | assumption):0 ≤ x11_3)
        obtain ⟨ji27,hji27⟩:∃ j_:Int,(shr .i64 x9_2 x11_3) = j_:=⟨_,rfl⟩
        replace H:(numnahlaw01_CardUnate.l2 k3 (ji19) x5_1 x6_1 x8_2 x9_2 (wrap64 (x10_3 + (wrap64 ((rd x5_1 x11_3) * (Int.tmod (ji27) 2))))) (wrap64 (x11_3 + 1))) = some r:=by first | (rw [hji27] at H;exact H) | (simp only [hji27] at H ⊢;exact H)
        have hji27_:(x9_2 / 2 ^ min x11_3.toNat 64) = ji27:=hji27
        have hji27z:x11_3 ≤ 64 → (x9_2 / 2 ^ x11_3.toNat) = ji27:=shr_small hji27
        have H':=Aside0.mk H
        clear H
        try go_wp2
        have n0_:=Aside0.mk (Kd.R_drew HO_5.out)
        have n1_:=Aside0.mk (Kd.R_drew HO_6.out)
        have n2_:=Aside0.mk (Kd.R_drew HO_8.out)
        have n3_:=Aside0.mk (below_drew1 HB.out)
        clear HO_5
        clear HO_6
        clear HO_8
        clear HB
        have HO_5:=n0_
        have HO_6:=n1_
        have HO_8:=n2_
        have HB:=n3_
        clear n0_ n1_ n2_ n3_
        obtain ⟨Ao29,co29,eo29⟩:=Kd.R_slice HO_5.out
        (first | subst eo29 | (injection eo29 with f1_ f2_ f3_;have f4_:=f1_.symm;have f5_:=f3_.symm;clear f1_ f2_ f3_;subst f4_;subst f5_))
        have p563:0 ≤ (x11_3:Int):=of_decide_eq_true (by first | (with_reducible assumption) | assumption)
        have q563:x11_3 < (x5_1.length:Int):=of_decide_eq_true (by first | (with_reducible assumption) | assumption)
        obtain ⟨ad563,e563,hx563_0⟩:=Kd.at_int (Kd.R_reads' HO_5.out).2.2 x11_3 p563 q563
        cases e563
        replace p563:=eq_true p563
        replace q563:=eq_true q563
        refine start_ (n:=12) (S:=fun w'=>w'.cell? (ad563.add (x11_3).toNat) = some (.int .i64 (rd x5_1 x11_3))) (ds:=[]) #[false,false,false,false,false,false,false,false,false,false,false,false] (by kernel_rfl) rfl rfl (hx563_0) (fun hHeld=>?_);refine with_tabW numnahlaw01_CardUnate.tab17 numnahlaw01_CardUnate.bits17 (fun HT_ HW_=>?_)
        generalize wr.drew = w28 at HO_5 HO_6 HO_8 HB hx563_0 hHeld ⊢
        refine pure_ (i:=0) (N:=some 61) (v:=?_) (a':=?_) #[true,false,false,false,false,false,false,false,false,false,false,false] rfl rfl (any_of HT_.out (by kernel_rfl)) (fun _ _ _ h=>h) (Or.inl ⟨by rfl,?_⟩) ?_ ?_
        rotate_left
        ·intro w'
         go_simp
         with_reducible rfl
        rotate_left
        ·simp only [Act.put,List.setIfInBounds_toArray,List.set_cons_zero,List.set_cons_succ,i64_w,i32_w]
         rfl
        refine pure_ (i:=1) (N:=some 62) (v:=?_) (a':=?_) #[true,true,false,false,false,false,false,false,false,false,false,false] rfl rfl (any_of HT_.out (by kernel_rfl)) (fun _ _ _ h=>h) (Or.inl ⟨by rfl,?_⟩) ?_ ?_
        rotate_left
        ·intro w'
         go_simp
         with_reducible rfl
        rotate_left
        ·simp only [Act.put,List.setIfInBounds_toArray,List.set_cons_zero,List.set_cons_succ,i64_w,i32_w]
         rfl
        refine pure_ (i:=2) (N:=some 63) (v:=?_) (a':=?_) #[true,true,true,false,false,false,false,false,false,false,false,false] rfl rfl (any_of HT_.out (by kernel_rfl)) (fun _ _ _ h=>h) (Or.inl ⟨by rfl,?_⟩) ?_ ?_
        rotate_left
        ·intro w'
         go_simp
         with_reducible rfl
        rotate_left
        ·simp only [Act.put,List.setIfInBounds_toArray,List.set_cons_zero,List.set_cons_succ,i64_w,i32_w]
         rfl
        refine pure_ (i:=3) (N:=some 64) (v:=?_) (a':=?_) #[true,true,true,true,false,false,false,false,false,false,false,false] rfl rfl (any_of HT_.out (by kernel_rfl)) (fun _ _ _ h=>h) (Or.inl ⟨by rfl,?_⟩) ?_ ?_
        rotate_left
        ·intro w'
         go_simp
         with_reducible rfl
        rotate_left
        ·simp only [Act.put,List.setIfInBounds_toArray,List.set_cons_zero,List.set_cons_succ,i64_w,i32_w]
         rfl
        refine pure_ (i:=5) (N:=some 66) (v:=?_) (a':=?_) #[true,true,true,true,false,true,false,false,false,false,false,false] rfl rfl (any_of HT_.out (by kernel_rfl)) (fun _ _ _ h=>h) (Or.inl ⟨by rfl,?_⟩) ?_ ?_
        rotate_left
        ·intro w'
         go_simp
         with_reducible rfl
        rotate_left
        ·simp only [Act.put,List.setIfInBounds_toArray,List.set_cons_zero,List.set_cons_succ,i64_w,i32_w]
         rfl
        refine pure_ (i:=6) (N:=some 67) (v:=?_) (a':=?_) #[true,true,true,true,false,true,true,false,false,false,false,false] rfl rfl (any_of HT_.out (by kernel_rfl)) (fun _ _ _ h=>h) (Or.inl ⟨by rfl,?_⟩) ?_ ?_
        rotate_left
        ·intro w'
         go_simp
         with_reducible rfl
        rotate_left
        ·simp only [Act.put,List.setIfInBounds_toArray,List.set_cons_zero,List.set_cons_succ,i64_w,i32_w]
         rfl
        refine pure_ (i:=7) (N:=some 68) (v:=?_) (a':=?_) #[true,true,true,true,false,true,true,true,false,false,false,false] rfl rfl (any_of HT_.out (by kernel_rfl)) (fun _ _ _ h=>h) (Or.inl ⟨by rfl,?_⟩) ?_ ?_
        rotate_left
        ·intro w'
         go_simp
         with_reducible rfl
        rotate_left
        ·simp only [Act.put,List.setIfInBounds_toArray,List.set_cons_zero,List.set_cons_succ,i64_w,i32_w]
         rfl
        refine pure_ (i:=8) (N:=some 69) (v:=?_) (a':=?_) #[true,true,true,true,false,true,true,true,true,false,false,false] rfl rfl (any_of HT_.out (by kernel_rfl)) (fun _ _ _ h=>h) (Or.inl ⟨by rfl,?_⟩) ?_ ?_
        rotate_left
        ·intro w'
         go_simp
         with_reducible rfl
        rotate_left
        ·simp only [Act.put,List.setIfInBounds_toArray,List.set_cons_zero,List.set_cons_succ,i64_w,i32_w]
         rfl
        refine take_ (i:=4) (N:=some 65) (v:=?_) (a':=?_) #[true,true,true,true,true,true,true,true,true,false,false,false] rfl rfl (take_ofW HT_.out HW_.out (by kernel_rfl)) (fun _ _ _ h=>h) (Or.inl ⟨by rfl,?_⟩) hHeld ?_ ?_
        rotate_left
        ·intro w' s0
         go_simp
         with_reducible rfl
        rotate_left
        ·simp only [Act.put,List.setIfInBounds_toArray,List.set_cons_zero,List.set_cons_succ,i64_w,i32_w]
         rfl
        refine pure_ (i:=9) (N:=some 70) (v:=?_) (a':=?_) #[true,true,true,true,true,true,true,true,true,true,false,false] rfl rfl (any_of HT_.out (by kernel_rfl)) (fun _ _ _ h=>h) (Or.inl ⟨by rfl,?_⟩) ?_ ?_
        rotate_left
        ·intro w'
         go_simp
         with_reducible rfl
        rotate_left
        ·simp only [Act.put,List.setIfInBounds_toArray,List.set_cons_zero,List.set_cons_succ,i64_w,i32_w]
         rfl
        refine pure_ (i:=10) (N:=some 71) (v:=?_) (a':=?_) #[true,true,true,true,true,true,true,true,true,true,true,false] rfl rfl (any_of HT_.out (by kernel_rfl)) (fun _ _ _ h=>h) (Or.inl ⟨by rfl,?_⟩) ?_ ?_
        rotate_left
        ·intro w'
         go_simp
         with_reducible rfl
        rotate_left
        ·simp only [Act.put,List.setIfInBounds_toArray,List.set_cons_zero,List.set_cons_succ,i64_w,i32_w]
         rfl
        refine pure_ (i:=11) (N:=some 10) (v:=?_) (a':=?_) #[true,true,true,true,true,true,true,true,true,true,true,true] rfl rfl (any_of HT_.out (by kernel_rfl)) (fun _ _ _ h=>h) (Or.inl ⟨by rfl,?_⟩) ?_ ?_
        rotate_left
        ·intro w'
         go_simp
         with_reducible rfl
        rotate_left
        ·simp only [Act.put,List.setIfInBounds_toArray,List.set_cons_zero,List.set_cons_succ,i64_w,i32_w]
         rfl
        refine done_ (done_of HT_.out (by kernel_rfl)) ?_
        try go_wp2
        (try subst hji19)
        go_roundg k3
        case measure=>have:=HK1.out;have:=HK2.out;have:=HK3.out;omega
        case rel=>exact ⟨(wrap64 (x10_3 + (wrap64 ((rd x5_1 x11_3) * (Int.tmod (ji27) 2))))),(wrap64 (x11_3 + 1)),(by first | rfl | (simp;done) | (simp only [← hji27] <;> (first | rfl | simp)) | (simp [*];done)),(by first | rfl | (simp;done) | (simp [*];done)),H',⟨by have:=HK1.out;have:=HK2.out;have:=HK3.out;omega⟩,⟨by (with_reducible repeat (first | apply Kd.R_alloc | apply Kd.R_drewN | apply Kd.R_drew));exact HO_5.out⟩,⟨by (with_reducible repeat (first | apply Kd.R_alloc | apply Kd.R_drewN | apply Kd.R_drew));exact HO_6.out⟩,⟨by (with_reducible repeat (first | apply Kd.R_alloc | apply Kd.R_drewN | apply Kd.R_drew));exact HO_8.out⟩,⟨by repeat (first | (with_reducible first | exact HB.out | apply below_alloc | apply pw_below_drewN | apply below_drew1) | exact HB.out)⟩⟩
     rw [if_neg c22] at H
     have c22b0:decide (x9_2 < (ji21)) = false:=decide_eq_false c22
     clear c22
     replace H:=Option.bind_eq_some_iff.mp H
     obtain ⟨⟨t571,t572,t573⟩,A390,H⟩:=H
     replace H:((numnahlaw01_same.f k2 (ji19)).bind fun t578=>((card_Turn.f k2 (strOfNums x8_2) t578 x6_1).bind fun bt581=>((card_Monotone.f k2 bt581.1).bind fun bt583=>(if t573 = 0 then (if (t571.length:Int) = (wrap64 ((ji19) + 1)) then ((card_Realize.f (strOfNums x8_2) x5_1).bind fun t586=>(if t586 = 0 then (if bt581.2 = 0 then (if bt583.2.2 = 0 then (if bt583.1 = (-1) then (if bt583.2.1 = (-1) then ((numnahlaw01_awake.f).bind fun t587=>(some t587)) else (some false)) else (some false)) else (some false)) else (some false)) else (some false))) else (some false)) else (some false))))) = some r:=H
     have A39:=Aside0.mk A390
     clear A390
     replace H:=Option.bind_eq_some_iff.mp H
     obtain ⟨t578,A400,H⟩:=H
     replace H:((card_Turn.f k2 (strOfNums x8_2) t578 x6_1).bind fun bt581=>((card_Monotone.f k2 bt581.1).bind fun bt583=>(if t573 = 0 then (if (t571.length:Int) = (wrap64 ((ji19) + 1)) then ((card_Realize.f (strOfNums x8_2) x5_1).bind fun t586=>(if t586 = 0 then (if bt581.2 = 0 then (if bt583.2.2 = 0 then (if bt583.1 = (-1) then (if bt583.2.1 = (-1) then ((numnahlaw01_awake.f).bind fun t587=>(some t587)) else (some false)) else (some false)) else (some false)) else (some false)) else (some false))) else (some false)) else (some false)))) = some r:=H
     have A40:=Aside0.mk A400
     clear A400
     replace H:=Option.bind_eq_some_iff.mp H
     obtain ⟨⟨t581,t582⟩,A410,H⟩:=H
     replace H:((card_Monotone.f k2 t581).bind fun bt583=>(if t573 = 0 then (if (t571.length:Int) = (wrap64 ((ji19) + 1)) then ((card_Realize.f (strOfNums x8_2) x5_1).bind fun t586=>(if t586 = 0 then (if t582 = 0 then (if bt583.2.2 = 0 then (if bt583.1 = (-1) then (if bt583.2.1 = (-1) then ((numnahlaw01_awake.f).bind fun t587=>(some t587)) else (some false)) else (some false)) else (some false)) else (some false)) else (some false))) else (some false)) else (some false))) = some r:=H
     have A41:=Aside0.mk A410
     clear A410
     replace H:=Option.bind_eq_some_iff.mp H
     obtain ⟨⟨t583,t584,t585⟩,A420,H⟩:=H
     replace H:(if t573 = 0 then (if (t571.length:Int) = (wrap64 ((ji19) + 1)) then ((card_Realize.f (strOfNums x8_2) x5_1).bind fun t586=>(if t586 = 0 then (if t582 = 0 then (if t585 = 0 then (if t583 = (-1) then (if t584 = (-1) then ((numnahlaw01_awake.f).bind fun t587=>(some t587)) else (some false)) else (some false)) else (some false)) else (some false)) else (some false))) else (some false)) else (some false)) = some r:=H
     have A42:=Aside0.mk A420
     clear A420
     by_cases c43:t573 = 0
     case neg =>
      rw [if_neg c43] at H
      exact absurd ((Option.some.inj H).trans hrt_) (by decide)
     rw [if_pos c43] at H
     have c43b0:(t573 == 0) = true:=beq_iff_eq.mpr c43
     have c43b1:(t573 != 0) = false:=bne_eq_false_iff_eq.mpr c43
     clear c43
     by_cases c44:(t571.length:Int) = (wrap64 ((ji19) + 1))
     case neg =>
      rw [if_neg c44] at H
      exact absurd ((Option.some.inj H).trans hrt_) (by decide)
     rw [if_pos c44] at H
     have c44b0:((t571.length:Int) == (wrap64 ((ji19) + 1))) = true:=beq_iff_eq.mpr c44
     have c44b1:((t571.length:Int) != (wrap64 ((ji19) + 1))) = false:=bne_eq_false_iff_eq.mpr c44
     clear c44
     replace H:=Option.bind_eq_some_iff.mp H
     obtain ⟨t586,A450,H⟩:=H
     replace H:(if t586 = 0 then (if t582 = 0 then (if t585 = 0 then (if t583 = (-1) then (if t584 = (-1) then ((numnahlaw01_awake.f).bind fun t587=>(some t587)) else (some false)) else (some false)) else (some false)) else (some false)) else (some false)) = some r:=H
     have A45:=Aside0.mk A450
     clear A450
     by_cases c46:t586 = 0
     case neg =>
      rw [if_neg c46] at H
      exact absurd ((Option.some.inj H).trans hrt_) (by decide)
     rw [if_pos c46] at H
     have c46b0:(t586 == 0) = true:=beq_iff_eq.mpr c46
     have c46b1:(t586 != 0) = false:=bne_eq_false_iff_eq.mpr c46
     clear c46
     by_cases c47:t582 = 0
     case neg =>
      rw [if_neg c47] at H
      exact absurd ((Option.some.inj H).trans hrt_) (by decide)
     rw [if_pos c47] at H
     have c47b0:(t582 == 0) = true:=beq_iff_eq.mpr c47
     have c47b1:(t582 != 0) = false:=bne_eq_false_iff_eq.mpr c47
     clear c47
     by_cases c48:t585 = 0
     case neg =>
      rw [if_neg c48] at H
      exact absurd ((Option.some.inj H).trans hrt_) (by decide)
     rw [if_pos c48] at H
     have c48b0:(t585 == 0) = true:=beq_iff_eq.mpr c48
     have c48b1:(t585 != 0) = false:=bne_eq_false_iff_eq.mpr c48
     clear c48
     by_cases c49:t583 = (-1)
     case neg =>
      rw [if_neg c49] at H
      exact absurd ((Option.some.inj H).trans hrt_) (by decide)
     rw [if_pos c49] at H
     have c49b0:(t583 == (-1)) = true:=beq_iff_eq.mpr c49
     have c49b1:(t583 != (-1)) = false:=bne_eq_false_iff_eq.mpr c49
     clear c49
     by_cases c50:t584 = (-1)
     case neg =>
      rw [if_neg c50] at H
      exact absurd ((Option.some.inj H).trans hrt_) (by decide)
     rw [if_pos c50] at H
     have c50b0:(t584 == (-1)) = true:=beq_iff_eq.mpr c50
     have c50b1:(t584 != (-1)) = false:=bne_eq_false_iff_eq.mpr c50
     clear c50
     replace H:=Option.bind_eq_some_iff.mp H
     obtain ⟨t587,A510,H⟩:=H
     replace H:(some t587) = some r:=H
     have A51:=Aside0.mk A510
     clear A510
     obtain rfl:=Option.some.inj H
     have hcv52:=own_string (P:=Try.prog) Try.underlying42 Try.underlying5 Try.underlying9 (Kd.own_of_R HO_8.out)
     try go_wp2_with (first | ((with_reducible refine gate_callee (f:=44) rfl ?_);refine goesL_ (some 87) rfl rfl Try.func44 (by kernel_rfl) rfl #[.string (strOfNums x8_2)] rfl (by (try simp only [List.map_toArray,List.map_cons,List.map_nil]);first | done | rfl | (simp only [List.length_drop,List.length_take];rfl)) ?_;(with_reducible refine (card_Weights.calls (strOfNums x8_2) t571 t572 t573 _ A39.out).mono ?_);rintro e w53 ⟨v574,v576,rfl,ho0,ho1,hb⟩;refine ⟨_,rfl,?_⟩;have n0_:=Aside0.mk (Kd.R_elder' (by (with_reducible repeat (first | apply Kd.R_alloc | apply Kd.R_drewN | apply Kd.R_drew));exact HO_5.out) (Kd.R_base ho0) hb);have n1_:=Aside0.mk (Kd.R_elder' (by (with_reducible repeat (first | apply Kd.R_alloc | apply Kd.R_drewN | apply Kd.R_drew));exact HO_6.out) (Kd.R_base ho0) hb);have n2_:=Aside0.mk (Kd.R_below (by (with_reducible repeat (first | apply Kd.R_alloc | apply Kd.R_drewN | apply Kd.R_drew));exact HO_8.out) hb);have n3_:=Aside0.mk (Kd.R_lower (Kd.R_new' (Kd.R_new' ho0 (Kd.R_lt (by (with_reducible repeat (first | apply Kd.R_alloc | apply Kd.R_drewN | apply Kd.R_drew));exact HO_5.out))) (Kd.R_lt (by (with_reducible repeat (first | apply Kd.R_alloc | apply Kd.R_drewN | apply Kd.R_drew));exact HO_6.out))) (below_size (by repeat (first | (with_reducible first | exact HB.out | apply below_alloc | apply pw_below_drewN | apply below_drew1) | exact HB.out))));have n4_:=Aside0.mk (Kd.S_lower (Kd.S_new' (Kd.S_new' ho1 (Kd.R_lt (by (with_reducible repeat (first | apply Kd.R_alloc | apply Kd.R_drewN | apply Kd.R_drew));exact HO_5.out))) (Kd.R_lt (by (with_reducible repeat (first | apply Kd.R_alloc | apply Kd.R_drewN | apply Kd.R_drew));exact HO_6.out))) (below_size (by repeat (first | (with_reducible first | exact HB.out | apply below_alloc | apply pw_below_drewN | apply below_drew1) | exact HB.out))));have n5_:=Aside0.mk (below_step (by repeat (first | (with_reducible first | exact HB.out | apply below_alloc | apply pw_below_drewN | apply below_drew1) | exact HB.out)) hb);clear HO_5;clear HO_6;clear HO_8;clear HB;have HO_5:=n0_;have HO_6:=n1_;have HO_8:=n2_;have HO575:=n3_;have HO577:=n4_;have HB:=n5_;clear n0_ n1_ n2_ n3_ n4_ n5_;(try clear hb);(try clear ho0);(try clear ho1);obtain ⟨Ao54,co54,eo54⟩:=Kd.R_slice HO_6.out;subst eo54))
     have n0_:=Aside0.mk (Kd.R_drew HO_5.out)
     have n1_:=Aside0.mk (Kd.R_drew HO_6.out)
     have n2_:=Aside0.mk (Kd.R_drew HO_8.out)
     have n3_:=Aside0.mk (Kd.R_drew HO575.out)
     have n4_:=Aside0.mk (Kd.S_drew HO577.out)
     have n5_:=Aside0.mk (below_drew1 HB.out)
     clear HO_5
     clear HO_6
     clear HO_8
     clear HO575
     clear HO577
     clear HB
     have HO_5:=n0_
     have HO_6:=n1_
     have HO_8:=n2_
     have HO575:=n3_
     have HO577:=n4_
     have HB:=n5_
     clear n0_ n1_ n2_ n3_ n4_ n5_
     have hcv56:=own_string (P:=Try.prog) Try.underlying42 Try.underlying5 Try.underlying9 (Kd.own_of_R HO_8.out)
     refine start_ (n:=11) (S:=fun w'=>(convert 42 9 u8).run Try.prog w' = .ok (.string (strOfNums x8_2)) w') (ds:=[]) #[false,false,false,false,false,false,false,false,false,false,false] (by kernel_rfl) rfl rfl hcv56 (fun hHeld=>?_);refine with_tabW numnahlaw01_CardUnate.tab22 numnahlaw01_CardUnate.bits22 (fun HT_ HW_=>?_)
     generalize w53.drew = w55 at HO_5 HO_6 HO_8 HO575 HO577 HB hHeld ⊢
     refine pure_ (i:=0) (N:=some 92) (v:=?_) (a':=?_) #[true,false,false,false,false,false,false,false,false,false,false] rfl rfl (any_of HT_.out (by kernel_rfl)) (fun _ _ _ h=>h) (Or.inl ⟨by rfl,?_⟩) ?_ ?_
     rotate_left
     ·intro w'
      go_simp
      with_reducible rfl
     rotate_left
     ·simp only [Act.put,List.setIfInBounds_toArray,List.set_cons_zero,List.set_cons_succ,i64_w,i32_w]
      rfl
     refine pure_ (i:=2) (N:=some 94) (v:=?_) (a':=?_) #[true,false,true,false,false,false,false,false,false,false,false] rfl rfl (any_of HT_.out (by kernel_rfl)) (fun _ _ _ h=>h) (Or.inl ⟨by rfl,?_⟩) ?_ ?_
     rotate_left
     ·intro w'
      go_simp
      with_reducible rfl
     rotate_left
     ·simp only [Act.put,List.setIfInBounds_toArray,List.set_cons_zero,List.set_cons_succ,i64_w,i32_w]
      rfl
     refine pure_ (i:=4) (N:=some 96) (v:=?_) (a':=?_) #[true,false,true,false,true,false,false,false,false,false,false] rfl rfl (any_of HT_.out (by kernel_rfl)) (fun _ _ _ h=>h) (Or.inl ⟨by rfl,?_⟩) ?_ ?_
     rotate_left
     ·intro w'
      go_simp
      with_reducible rfl
     rotate_left
     ·simp only [Act.put,List.setIfInBounds_toArray,List.set_cons_zero,List.set_cons_succ,i64_w,i32_w]
      rfl
     refine take_ (i:=1) (N:=some 93) (v:=?_) (a':=?_) #[true,true,true,false,true,false,false,false,false,false,false] rfl rfl (take_ofW HT_.out HW_.out (by kernel_rfl)) (fun _ _ _ h=>h) (Or.inl ⟨by rfl,?_⟩) hHeld ?_ ?_
     rotate_left
     ·intro w' s0
      go_simp
      with_reducible rfl
     rotate_left
     ·simp only [Act.put,List.setIfInBounds_toArray,List.set_cons_zero,List.set_cons_succ,i64_w,i32_w]
      rfl
     refine one_ (i:=3) (N:=some 95) #[true,true,true,true,true,false,false,false,false,false,false] rfl rfl (one_of HT_.out (by kernel_rfl)) (by decide) (fun K hK=>?_)
     refine goes_ Try.func54 (by kernel_rfl) rfl #[.int .i64 (ji19)] (by rfl) rfl rfl (by (try simp only [List.map_toArray,List.map_cons,List.map_nil]);first | done | (simp only [hji19];rfl) | rfl | (simp only [List.length_drop,List.length_take];rfl)) ?_
     with_reducible refine (numnahlaw01_same.calls k2 (ji19) t578 _ A40.out).mono ?_
     rintro e w57 ⟨v579,rfl,ho0,hb⟩
     refine ⟨_,rfl,?_⟩
     have n0_:=Aside0.mk (Kd.R_elder' (by (with_reducible repeat (first | apply Kd.R_alloc | apply Kd.R_drewN | apply Kd.R_drew));exact HO_5.out) (Kd.R_base ho0) hb)
     have n1_:=Aside0.mk (Kd.R_elder' (by (with_reducible repeat (first | apply Kd.R_alloc | apply Kd.R_drewN | apply Kd.R_drew));exact HO_6.out) (Kd.R_base ho0) hb)
     have n2_:=Aside0.mk (Kd.R_below (by (with_reducible repeat (first | apply Kd.R_alloc | apply Kd.R_drewN | apply Kd.R_drew));exact HO_8.out) hb)
     have n3_:=Aside0.mk (Kd.R_elder' (by (with_reducible repeat (first | apply Kd.R_alloc | apply Kd.R_drewN | apply Kd.R_drew));exact HO575.out) (Kd.R_base ho0) hb)
     have n4_:=Aside0.mk (Kd.S_elder' (by (with_reducible repeat (first | apply Kd.S_alloc | apply Kd.S_drewN | apply Kd.S_drew));exact HO577.out) (Kd.R_base ho0) hb)
     have n5_:=Aside0.mk (Kd.R_lower (Kd.R_new' (Kd.R_new' (Kd.R_new' ho0 (Kd.R_lt (by (with_reducible repeat (first | apply Kd.R_alloc | apply Kd.R_drewN | apply Kd.R_drew));exact HO_5.out))) (Kd.R_lt (by (with_reducible repeat (first | apply Kd.R_alloc | apply Kd.R_drewN | apply Kd.R_drew));exact HO_6.out))) (Kd.R_lt (by (with_reducible repeat (first | apply Kd.R_alloc | apply Kd.R_drewN | apply Kd.R_drew));exact HO575.out))) (below_size (by repeat (first | (with_reducible first | exact HB.out | apply below_alloc | apply pw_below_drewN | apply below_drew1) | exact HB.out))))
     have n6_:=Aside0.mk (below_step (by repeat (first | (with_reducible first | exact HB.out | apply below_alloc | apply pw_below_drewN | apply below_drew1) | exact HB.out)) hb)
     clear HO_5
     clear HO_6
     clear HO_8
     clear HO575
     clear HO577
     clear HB
     have HO_5:=n0_
     have HO_6:=n1_
     have HO_8:=n2_
     have HO575:=n3_
     have HO577:=n4_
     have HO580:=n5_
     have HB:=n6_
     clear n0_ n1_ n2_ n3_ n4_ n5_ n6_
     (try clear hb)
     (try clear ho0)
     refine hK.out _ _ (own_string (P:=Try.prog) Try.underlying42 Try.underlying5 Try.underlying9 (Kd.own_of_R HO_8.out)) (fun hHeld=>?_)
     clear hK K
     refine norm_ (a':=?_) ?_ ?_
     rotate_left
     ·show Act.put _ (some 95) _ = _
      simp only [Act.put,List.setIfInBounds_toArray,List.set_cons_zero,List.set_cons_succ,i64_w,i32_w]
      rfl
     obtain ⟨Ao59,co59,rfl⟩:=Kd.R_slice HO580.out
     refine one_ (i:=5) (N:=some 97) #[true,true,true,true,true,true,false,false,false,false,false] rfl rfl (one_of HT_.out (by kernel_rfl)) (by decide) (fun K hK=>?_)
     refine goes_ Try.func37 (by kernel_rfl) rfl #[.string (strOfNums x8_2),.slice Ao59 t578.length co59,.slice Ao54 x6_1.length co54] (by rfl) rfl rfl (by (try simp only [List.map_toArray,List.map_cons,List.map_nil]);first | done | rfl | (simp only [List.length_drop,List.length_take];rfl)) ?_
     with_reducible refine (card_Turn.calls k2 (strOfNums x8_2) _ _ t578 _ _ x6_1 t581 t582 _ ?side1 ?side2 ?side3 ?side4 A41.out).mono ?_
     (case side1=>repeat (first | exact (Kd.R_reads' HO580.out).2.2 | (with_reducible refine Kd.C_alloc ?_ _) | (with_reducible refine Kd.C_drewN ?_ _) | (with_reducible refine Kd.C_drew ?_)))
     (case side2=>exact (Kd.R_reads' HO580.out).2.1)
     (case side3=>repeat (first | exact (Kd.R_reads' HO_6.out).2.2 | (with_reducible refine Kd.C_alloc ?_ _) | (with_reducible refine Kd.C_drewN ?_ _) | (with_reducible refine Kd.C_drew ?_)))
     (case side4=>exact (Kd.R_reads' HO_6.out).2.1)
     rintro e w60 ⟨rfl,hb⟩
     refine ⟨_,rfl,?_⟩
     have n0_:=Aside0.mk (Kd.R_below (by (with_reducible repeat (first | apply Kd.R_alloc | apply Kd.R_drewN | apply Kd.R_drew));exact HO_5.out) hb)
     have n1_:=Aside0.mk (Kd.R_below (by (with_reducible repeat (first | apply Kd.R_alloc | apply Kd.R_drewN | apply Kd.R_drew));exact HO_6.out) hb)
     have n2_:=Aside0.mk (Kd.R_below (by (with_reducible repeat (first | apply Kd.R_alloc | apply Kd.R_drewN | apply Kd.R_drew));exact HO_8.out) hb)
     have n3_:=Aside0.mk (Kd.R_below (by (with_reducible repeat (first | apply Kd.R_alloc | apply Kd.R_drewN | apply Kd.R_drew));exact HO575.out) hb)
     have n4_:=Aside0.mk (Kd.S_below (by (with_reducible repeat (first | apply Kd.S_alloc | apply Kd.S_drewN | apply Kd.S_drew));exact HO577.out) hb)
     have n5_:=Aside0.mk (Kd.R_below (by (with_reducible repeat (first | apply Kd.R_alloc | apply Kd.R_drewN | apply Kd.R_drew));exact HO580.out) hb)
     have n6_:=Aside0.mk (below_step (by repeat (first | (with_reducible first | exact HB.out | apply below_alloc | apply pw_below_drewN | apply below_drew1) | exact HB.out)) hb)
     clear HO_5
     clear HO_6
     clear HO_8
     clear HO575
     clear HO577
     clear HO580
     clear HB
     have HO_5:=n0_
     have HO_6:=n1_
     have HO_8:=n2_
     have HO575:=n3_
     have HO577:=n4_
     have HO580:=n5_
     have HB:=n6_
     clear n0_ n1_ n2_ n3_ n4_ n5_ n6_
     (try clear hb)
     refine hK.out _ _ (own_string (P:=Try.prog) Try.underlying42 Try.underlying5 Try.underlying9 (Kd.own_of_R HO_8.out)) (fun hHeld=>?_)
     clear hK K
     refine norm_ (a':=?_) ?_ ?_
     rotate_left
     ·show Act.put _ (some 97) _ = _
      simp only [Act.put,List.setIfInBounds_toArray,List.set_cons_zero,List.set_cons_succ,i64_w,i32_w]
      rfl
     refine pure_ (i:=6) (N:=some 91) (v:=?_) (a':=?_) #[true,true,true,true,true,true,true,false,false,false,false] rfl rfl (any_of HT_.out (by kernel_rfl)) (fun _ _ _ h=>h) (Or.inl ⟨by rfl,?_⟩) ?_ ?_
     rotate_left
     ·intro w'
      go_simp
      with_reducible rfl
     rotate_left
     ·simp only [Act.put,List.setIfInBounds_toArray,List.set_cons_zero,List.set_cons_succ,i64_w,i32_w]
      rfl
     refine pure_ (i:=7) (N:=some 98) (v:=?_) (a':=?_) #[true,true,true,true,true,true,true,true,false,false,false] rfl rfl (any_of HT_.out (by kernel_rfl)) (fun _ _ _ h=>h) (Or.inl ⟨by rfl,?_⟩) ?_ ?_
     rotate_left
     ·intro w'
      go_simp
      with_reducible rfl
     rotate_left
     ·simp only [Act.put,List.setIfInBounds_toArray,List.set_cons_zero,List.set_cons_succ,i64_w,i32_w]
      rfl
     refine pure_ (i:=8) (N:=some 99) (v:=?_) (a':=?_) #[true,true,true,true,true,true,true,true,true,false,false] rfl rfl (any_of HT_.out (by kernel_rfl)) (fun _ _ _ h=>h) (Or.inl ⟨by rfl,?_⟩) ?_ ?_
     rotate_left
     ·intro w'
      go_simp
      with_reducible rfl
     rotate_left
     ·simp only [Act.put,List.setIfInBounds_toArray,List.set_cons_zero,List.set_cons_succ,i64_w,i32_w]
      rfl
     refine pure_ (i:=9) (N:=some 15) (v:=?_) (a':=?_) #[true,true,true,true,true,true,true,true,true,true,false] rfl rfl (any_of HT_.out (by kernel_rfl)) (fun _ _ _ h=>h) (Or.inl ⟨by rfl,?_⟩) ?_ ?_
     rotate_left
     ·intro w'
      go_simp
      with_reducible rfl
     rotate_left
     ·simp only [Act.put,List.setIfInBounds_toArray,List.set_cons_zero,List.set_cons_succ,i64_w,i32_w]
      rfl
     refine pure_ (i:=10) (N:=some 16) (v:=?_) (a':=?_) #[true,true,true,true,true,true,true,true,true,true,true] rfl rfl (any_of HT_.out (by kernel_rfl)) (fun _ _ _ h=>h) (Or.inl ⟨by rfl,?_⟩) ?_ ?_
     rotate_left
     ·intro w'
      go_simp
      with_reducible rfl
     rotate_left
     ·simp only [Act.put,List.setIfInBounds_toArray,List.set_cons_zero,List.set_cons_succ,i64_w,i32_w]
      rfl
     refine done_ (done_of HT_.out (by kernel_rfl)) ?_
     try go_wp2_with (first | ((with_reducible refine gate_callee (f:=50) rfl ?_);refine goesL_ (some 102) rfl rfl Try.func50 (by kernel_rfl) rfl #[.string t581] rfl (by (try simp only [List.map_toArray,List.map_cons,List.map_nil]);first | done | rfl | (simp only [List.length_drop,List.length_take];rfl)) ?_;(with_reducible refine (card_Monotone.calls k2 t581 t583 t584 t585 _ A42.out).mono ?_);rintro e w61 ⟨rfl,hb⟩;refine ⟨_,rfl,?_⟩;have n0_:=Aside0.mk (Kd.R_below (by (with_reducible repeat (first | apply Kd.R_alloc | apply Kd.R_drewN | apply Kd.R_drew));exact HO_5.out) hb);have n1_:=Aside0.mk (Kd.R_below (by (with_reducible repeat (first | apply Kd.R_alloc | apply Kd.R_drewN | apply Kd.R_drew));exact HO_6.out) hb);have n2_:=Aside0.mk (Kd.R_below (by (with_reducible repeat (first | apply Kd.R_alloc | apply Kd.R_drewN | apply Kd.R_drew));exact HO_8.out) hb);have n3_:=Aside0.mk (Kd.R_below (by (with_reducible repeat (first | apply Kd.R_alloc | apply Kd.R_drewN | apply Kd.R_drew));exact HO575.out) hb);have n4_:=Aside0.mk (Kd.S_below (by (with_reducible repeat (first | apply Kd.S_alloc | apply Kd.S_drewN | apply Kd.S_drew));exact HO577.out) hb);have n5_:=Aside0.mk (Kd.R_below (by (with_reducible repeat (first | apply Kd.R_alloc | apply Kd.R_drewN | apply Kd.R_drew));exact HO580.out) hb);have n6_:=Aside0.mk (below_step (by repeat (first | (with_reducible first | exact HB.out | apply below_alloc | apply pw_below_drewN | apply below_drew1) | exact HB.out)) hb);clear HO_5;clear HO_6;clear HO_8;clear HO575;clear HO577;clear HO580;clear HB;have HO_5:=n0_;have HO_6:=n1_;have HO_8:=n2_;have HO575:=n3_;have HO577:=n4_;have HO580:=n5_;have HB:=n6_;clear n0_ n1_ n2_ n3_ n4_ n5_ n6_;(try clear hb);obtain ⟨Ao62,co62,eo62⟩:=Kd.R_slice HO575.out;subst eo62;have hcv63:=own_string (P:=Try.prog) Try.underlying42 Try.underlying5 Try.underlying9 (Kd.own_of_R HO_8.out);obtain ⟨Ao64,co64,eo64⟩:=Kd.R_slice HO_5.out;subst eo64) | (go_at_call 19;(with_reducible refine (card_Realize.calls (strOfNums x8_2) _ _ x5_1 t586 _ ?side1 ?side2 A45.out).mono ?_);(case side1=>repeat (first | exact (Kd.R_reads' HO_5.out).2.2 | (with_reducible refine Kd.C_alloc ?_ _) | (with_reducible refine Kd.C_drewN ?_ _) | (with_reducible refine Kd.C_drew ?_)));(case side2=>exact (Kd.R_reads' HO_5.out).2.1);rintro e w65 ⟨rfl,hb⟩;have n0_:=Aside0.mk (Kd.R_below (by (with_reducible repeat (first | apply Kd.R_alloc | apply Kd.R_drewN | apply Kd.R_drew));exact HO_5.out) hb);have n1_:=Aside0.mk (Kd.R_below (by (with_reducible repeat (first | apply Kd.R_alloc | apply Kd.R_drewN | apply Kd.R_drew));exact HO_6.out) hb);have n2_:=Aside0.mk (Kd.R_below (by (with_reducible repeat (first | apply Kd.R_alloc | apply Kd.R_drewN | apply Kd.R_drew));exact HO_8.out) hb);have n3_:=Aside0.mk (Kd.R_below (by (with_reducible repeat (first | apply Kd.R_alloc | apply Kd.R_drewN | apply Kd.R_drew));exact HO575.out) hb);have n4_:=Aside0.mk (Kd.S_below (by (with_reducible repeat (first | apply Kd.S_alloc | apply Kd.S_drewN | apply Kd.S_drew));exact HO577.out) hb);have n5_:=Aside0.mk (Kd.R_below (by (with_reducible repeat (first | apply Kd.R_alloc | apply Kd.R_drewN | apply Kd.R_drew));exact HO580.out) hb);have n6_:=Aside0.mk (below_step (by repeat (first | (with_reducible first | exact HB.out | apply below_alloc | apply pw_below_drewN | apply below_drew1) | exact HB.out)) hb);clear HO_5;clear HO_6;clear HO_8;clear HO575;clear HO577;clear HO580;clear HB;have HO_5:=n0_;have HO_6:=n1_;have HO_8:=n2_;have HO575:=n3_;have HO577:=n4_;have HO580:=n5_;have HB:=n6_;clear n0_ n1_ n2_ n3_ n4_ n5_ n6_;(try clear hb)) | (go_at_call 22;(with_reducible refine (numnahlaw01_awake.calls  t587 _ A51.out).mono ?_);rintro e w66 ⟨rfl,hb⟩;have n0_:=Aside0.mk (Kd.R_below (by (with_reducible repeat (first | apply Kd.R_alloc | apply Kd.R_drewN | apply Kd.R_drew));exact HO_5.out) hb);have n1_:=Aside0.mk (Kd.R_below (by (with_reducible repeat (first | apply Kd.R_alloc | apply Kd.R_drewN | apply Kd.R_drew));exact HO_6.out) hb);have n2_:=Aside0.mk (Kd.R_below (by (with_reducible repeat (first | apply Kd.R_alloc | apply Kd.R_drewN | apply Kd.R_drew));exact HO_8.out) hb);have n3_:=Aside0.mk (Kd.R_below (by (with_reducible repeat (first | apply Kd.R_alloc | apply Kd.R_drewN | apply Kd.R_drew));exact HO575.out) hb);have n4_:=Aside0.mk (Kd.S_below (by (with_reducible repeat (first | apply Kd.S_alloc | apply Kd.S_drewN | apply Kd.S_drew));exact HO577.out) hb);have n5_:=Aside0.mk (Kd.R_below (by (with_reducible repeat (first | apply Kd.R_alloc | apply Kd.R_drewN | apply Kd.R_drew));exact HO580.out) hb);have n6_:=Aside0.mk (below_step (by repeat (first | (with_reducible first | exact HB.out | apply below_alloc | apply pw_below_drewN | apply below_drew1) | exact HB.out)) hb);clear HO_5;clear HO_6;clear HO_8;clear HO575;clear HO577;clear HO580;clear HB;have HO_5:=n0_;have HO_6:=n1_;have HO_8:=n2_;have HO575:=n3_;have HO577:=n4_;have HO580:=n5_;have HB:=n6_;clear n0_ n1_ n2_ n3_ n4_ n5_ n6_;(try clear hb)))
     go_ret
     exact ⟨by first | rfl | (simp [errW_none,errW_some] <;> rfl) | (simp only [← hji19,← hji21];first | rfl | (simp [errW_none,errW_some] <;> rfl)) | (simp [*,errW_none,errW_some] <;> rfl),by repeat (first | (with_reducible first | exact HB.out | apply below_alloc | apply pw_below_drewN | apply below_drew1) | exact HB.out)⟩
noncomputable def numnahlaw01_CardUnate.Pure:Prop:=∀ (a0:Int) (l1:List Int),(Lit.int .i64 a0).wf = true → l1.length ≤ maxLen → l1.length * 8 ≤ 140737488351232 → (∀ x ∈ l1,(Lit.int .i64 x).wf = true) → ∃ k,numnahlaw01_CardUnate.f k a0 l1 = some true
theorem numnahlaw01_CardUnate.walk (P:numnahlaw01_CardUnate.Pure) (a0:Int) (a1:Option Addr) (len1 cap1:Nat) (z1:List Int) (w:World) (w0:(Lit.int .i64 a0).wf = true) (w1:(a1 = none ∧ len1 = 0 ∧ cap1 = 0 ∧ z1 = []) ∨ ∃ x,a1 = some x ∧ len1 ≤ cap1 ∧ cap1 ≤ maxLen ∧ z1.length = cap1 ∧ (∀ i,i < z1.length → w.cell? (x.add i) = some (.int .i64 (z1.getD i 0))) ∧ ∀ n ∈ z1,(Lit.int .i64 n).wf = true) (y1:len1 * 8 ≤ 140737488351232) :
  Calls Try.prog 14 #[.int .i64 a0,.slice a1 len1 cap1] w fun e w'=>e = .returned (.bool true) ∧ Below w.heap.size w w':=by
 obtain ⟨l1,rfl,hr1,hm1,hw1,hc1⟩:=ReadsInt.ofRowC w1
 obtain ⟨k,h⟩:=P a0 l1 w0 hm1 y1 hw1
 refine (numnahlaw01_CardUnate.calls k a0 _ _ l1 true w (Kd.C_of_reads (d:=(0:Int)) (h1:=fun _=>rfl) hr1) hc1 h rfl).mono ?_
 rintro e w' ⟨rfl,hd⟩
 exact ⟨rfl,hd⟩
end Go.Proofs.Ythpahlkhiknofaa.G
set_option linter.unusedSectionVars false
namespace Go.Proofs.Ythpahlkhiknofaa.P
open Go Go.RowKit Go.Proofs.Ythpahlkhiknofaa.M Go.Proofs.Ythpahlkhiknofaa.G Go.Proofs.Ythpahlkhiknofaa.H
open Go.Proofs.YthpahlkhiknofaaW.PrintWords Go.Proofs.YthpahlkhiknofaaW.PrintMore
def negI (w:List Int) (i:Nat):List Int:=((List.range i).filter (fun v:Nat=>decide (rd w (v:Int) < 0))).map Int.ofNat
theorem negI_succ (w:List Int) (i:Nat):negI w (i + 1) = if rd w (i:Int) < 0 then negI w i ++ [(i:Int)] else negI w i:=by
 unfold negI
 rw [List.range_succ,List.filter_append,List.map_append]
 by_cases h:rd w (i:Int) < 0
 ·rw [if_pos h];simp [h]
 ·rw [if_neg h];simp [h]
theorem negI_len (w:List Int) (i:Nat):(negI w i).length ≤ i:=by
 unfold negI
 rw [List.length_map]
 exact Nat.le_trans (List.length_filter_le _ _) (by rw [List.length_range];exact Nat.le_refl _)
theorem negI_mem (w:List Int) (i v:Nat):((v:Int) ∈ negI w i) ↔ (v < i ∧ rd w (v:Int) < 0):=by
 unfold negI
 rw [List.mem_map]
 constructor
 ·rintro ⟨u,hu,e⟩
  have:u = v:=by have:((u:Nat):Int) = (v:Int):=e;omega
  subst this
  simpa using hu
 ·rintro ⟨h1,h2⟩
  exact ⟨v,by simp [h1,h2],rfl⟩
theorem negI_app {w:List Int} (y:Int):∀ i,i ≤ w.length → negI (w ++ [y]) i = negI w i
 | 0,_=>rfl
 | i + 1,h=>by
  have e:rd (w ++ [y]) (i:Int) = rd w (i:Int):=by rw [rd_get (by rw [List.length_append];omega),rd_get (by omega),List.getElem_append_left (by omega)]
  rw [negI_succ,negI_succ,e,negI_app y i (by omega)]
theorem same_l0 {n:Nat} (hn:n ≤ 5):∀ d i,i + d = n → Ev (fun k=>numnahlaw01_same.l0 k (n:Int) (tabI i (fun v=>(v:Int))) (i:Int)) (tabI n (fun v=>(v:Int))):=by
 intro d
 induction d with
 | zero =>
  intro i hi
  obtain rfl:i = n:=by omega
  refine Ev.step (f:=fun _=>some (tabI i (fun v=>(v:Int)))) (fun k=>?_) (Ev.now _)
  rw [numnahlaw01_same.l0,if_neg (by omega)]
 | succ d ih =>
  intro i hi
  have hnx:=ih (i + 1) (by omega)
  have e:tabI (i + 1) (fun v=>(v:Int)) = tabI i (fun v=>(v:Int)) ++ [(i:Int)]:=by unfold tabI;rw [List.range_succ,List.map_append];rfl
  rw [e] at hnx
  refine Ev.step (fun k=>?_) hnx
  rw [numnahlaw01_same.l0,if_pos (by omega),if_pos (by rw [tabI_len];omega),wrap_succ (by omega)]
theorem ev_same {n:Nat} (hn:n ≤ 5):Ev (fun k=>numnahlaw01_same.f k (n:Int)) (tabI n (fun v=>(v:Int))):=same_l0 hn n 0 (by omega)
theorem vs_same (n:Nat):Vs n (tabI n (fun v=>(v:Int))):=by
 refine ⟨fun k h=>?_,fun k h=>?_,fun j k hj h=>?_⟩
 ·simp [tabI]
 ·rw [tabI_len] at h;simp [tabI];omega
 ·simp [tabI];omega
theorem dist_of {n:Nat} {l:List Int} (h:Vs n l):distB n l l.length 0 = true:=by
 refine (allF_iff _ _ _).2 fun k _ hk=>?_
 have hk':k < l.length:=by omega
 simp only [Bool.and_eq_true,decide_eq_true_eq,Bool.not_eq_true',decide_eq_false_iff_not]
 rw [rd_get hk']
 refine ⟨⟨h.ge k hk',h.lt k hk'⟩,fun hm=>?_⟩
 obtain ⟨j,hj,e⟩:=List.mem_take_iff_getElem.1 hm
 exact h.ne j k (by omega) hk' e
theorem ev_Turn {c:ByteArray} (hc:c.size ≤ 40) (h0:fnN c ≠ 0) {o fl:List Int} (hol:o.length = fnN c) (ho:Vs (fnN c) o) (hf:Vs (fnN c) fl) (hfl:fl.length ≤ 1001):Ev (fun k=>card_Turn.f k c o fl) (strOfNums (part c o fl c.size 0),0):=by
 obtain ⟨m,hm,en⟩:=newF hc
 obtain ⟨hok,hs,h1,h5,h32⟩:=fnN_pos hc h0
 have hmn:=hm h0
 subst hmn
 have hn:1 ≤ fnN c ∧ fnN c ≤ 5:=⟨h1,h5⟩
 have a1:=ev_areVars (l:=o) (by omega) hn c
 have a2:=ev_areVars hfl hn c
 rw [dist_of ho] at a1
 rw [dist_of hf] at a2
 have t0:=turn_l0 hn hs ho hol hf hfl c.size 0 (by omega)
 unfold card_Turn.f
 rw [en]
 refine Ev.congr (fun k=>Option.bind_some _ _) (Ev.congr (fun k=>if_pos (decide_eq_true h0)) (Ev.bind a1 (Ev.congr (fun k=>if_pos rfl) (Ev.congr (fun k=>if_pos (by omega)) (Ev.bind a2 ?_)))))
 refine Ev.step (fun k=>?_) t0
 rw [card_Turn.j0,if_neg (by decide),if_pos (by omega),if_pos (by rw [Int.toNat_natCast];omega),Option.bind_some,List.length_replicate,Int.toNat_natCast]
 rfl
theorem mono_no_l1 {c:ByteArray} {n:Nat} (hT:Tot c n) {p:Nat} (hp:p < c.size) (hno:∀ i,i < n → p.testBit i = false → bt c (p:Int) = 49 → bt c ((p ||| 2 ^ i:Nat):Int) ≠ 48) {r:Int × Int × Int} (hnx:Ev (fun k=>card_Monotone.l0 k c (c.size:Int) ((p + 1:Nat):Int) (n:Int) c) r):∀ d i,i + d = n → Ev (fun k=>card_Monotone.l1 k c (p:Int) (c.size:Int) (p:Int) (n:Int) (i:Int) (n:Int) c) r:=by
 have hle:=hT.le
 have h5:=hT.n5
 intro d
 induction d with
 | zero =>
  intro i hi
  obtain rfl:i = n:=by omega
  refine Ev.step (fun k=>?_) hnx
  rw [card_Monotone.l1,if_neg (by omega),wrap_succ (by omega)]
 | succ d ih =>
  intro i hi
  have h1:=ih (i + 1) (by omega)
  have hpw:p >>> i < 2 ^ 60:=Nat.lt_of_le_of_lt (by rw [Nat.shiftRight_eq_div_pow];exact Nat.div_le_self _ _) (show p < 2 ^ 60 by omega)
  have hbit:Go.bits .and .i64 (shr .i64 (p:Int) (i:Int)) 1 = if p.testBit i = true then 1 else 0:=by
   rw [shr_nat (by omega),and_one _ hpw,Nat.testBit_eq_decide_div_mod_eq,← Nat.shiftRight_eq_div_pow]
   rcases Nat.mod_two_eq_zero_or_one (p >>> i) with h | h <;> simp [h]
  have s1:∀ k,card_Monotone.l1 (k + 1) c (p:Int) (c.size:Int) (p:Int) (n:Int) (i:Int) (n:Int) c = _:=fun k=>by rw [card_Monotone.l1,if_pos (by omega),if_pos (by omega),hbit,wrap_succ (by omega)]
  by_cases hb:p.testBit i = true
  ·exact Ev.step s1 (Ev.congr (fun k=>if_neg (by rw [if_pos hb];decide)) h1)
  ·have hb':p.testBit i = false:=by simpa using hb
   have e0:(if p.testBit i = true then (1:Int) else 0) = 0:=by rw [if_neg hb]
   have hlt:p ||| 2 ^ i < c.size:=by
    rw [hT.size] at hp ⊢
    exact Nat.or_lt_two_pow hp (Nat.pow_lt_pow_right (by decide) (by omega))
   have h2i:=pow_small hT (show i < n by omega)
   have i1:Go.bits .or .i64 (p:Int) (shl .i64 1 (i:Int)) = ((p ||| 2 ^ i:Nat):Int):=by
    rw [shl_one (by omega)];exact ni_or p (2 ^ i) (by omega) (by omega)
   rw [i1] at s1
   by_cases h49:bt c (p:Int) = 49
   ·exact Ev.step s1 (Ev.congr (fun k=>if_pos e0) (Ev.congr (fun k=>if_pos (by omega)) (Ev.congr (fun k=>if_pos (by omega)) (Ev.congr (fun k=>if_pos h49) (Ev.congr (fun k=>if_pos (by omega)) (Ev.congr (fun k=>if_pos (by omega)) (Ev.congr (fun k=>if_neg (hno i (by omega) hb' h49)) h1)))))))
   ·exact Ev.step s1 (Ev.congr (fun k=>if_pos e0) (Ev.congr (fun k=>if_pos (by omega)) (Ev.congr (fun k=>if_pos (by omega)) (Ev.congr (fun k=>if_neg h49) h1))))
theorem mono_no_l0 {c:ByteArray} {n:Nat} (hT:Tot c n) (hno:∀ p,p < c.size → ∀ i,i < n → p.testBit i = false → bt c (p:Int) = 49 → bt c ((p ||| 2 ^ i:Nat):Int) ≠ 48):∀ d p,p + d = c.size → Ev (fun k=>card_Monotone.l0 k c (c.size:Int) (p:Int) (n:Int) c) (-1,-1,0):=by
 intro d
 induction d with
 | zero =>
  intro p hp
  refine Ev.step (f:=fun _=>some (-1,-1,0)) (fun k=>?_) (Ev.now _)
  rw [card_Monotone.l0,if_neg (by omega)]
 | succ d ih =>
  intro p hp
  refine Ev.step (fun k=>?_) (mono_no_l1 hT (p:=p) (by omega) (hno p (by omega)) (ih (p + 1) (by omega)) n 0 (by omega))
  rw [card_Monotone.l0,if_pos (by omega)];rfl
theorem ev_mono_no {c:ByteArray} (hc:c.size ≤ 40) {n:Nat} (hT:Tot c n) (ht:totB c = true) (hfn:fnN c = n) (hno:∀ p,p < c.size → ∀ i,i < n → p.testBit i = false → bt c (p:Int) = 49 → bt c ((p ||| 2 ^ i:Nat):Int) ≠ 48):Ev (fun k=>card_Monotone.f k c) (-1,-1,0):=by
 obtain ⟨m,hm,e⟩:=newT hc
 have:=hm ht
 subst this
 unfold card_Monotone.f
 rw [e,hfn]
 exact Ev.congr (fun k=>Option.bind_some _ _) (Ev.congr (fun k=>if_pos ht) (mono_no_l0 hT hno c.size 0 (by omega)))
structure Wt (n:Nat) (w:List Int):Prop where
 len:w.length = n + 1
 bd:∀ i:Nat,-100 ≤ rd w (i:Int) ∧ rd w (i:Int) ≤ 100
theorem wsum_flip {w:List Int} {p q i:Nat} (h:∀ v,v ≠ i → bI q v = bI p v):∀ m,wsum w q m = wsum w p m + (if i < m then rd w (i:Int) * (bI q i - bI p i) else 0)
 | 0=>by simp [wsum]
 | m + 1=>by
  have ih:=wsum_flip (w:=w) h m
  rw [wsum,wsum,ih]
  by_cases e:i = m
  ·subst e
   rw [if_neg (by omega),if_pos (by omega),Int.mul_sub];omega
  ·rw [h m (fun h=>e h.symm)]
   by_cases e2:i < m
   ·rw [if_pos e2,if_pos (by omega)];omega
   ·rw [if_neg e2,if_neg (by omega)];omega
def valW (w:List Int) (n p:Nat):Int:=if wsum w p n ≥ rd w (n:Int) then 49 else 48
def funW (w:List Int) (n:Nat):ByteArray:=strOfNums (tabI (2 ^ n) (valW w n))
theorem valW_or (w:List Int) (n p:Nat):valW w n p = 48 ∨ valW w n p = 49:=by unfold valW;split <;> simp
theorem funW_size (w:List Int) (n:Nat):(funW w n).size = 2 ^ n:=by unfold funW;rw [str_size,tabI_len]
theorem funW_bt {w:List Int} {n p:Nat} (hp:p < 2 ^ n):bt (funW w n) (p:Int) = valW w n p:=by
 have hv:=valW_or w n p
 have e:(tabI (2 ^ n) (valW w n))[p]'(by rw [tabI_len];exact hp) = valW w n p:=by simp [tabI]
 unfold funW
 rw [str_bt (by rw [tabI_len];exact hp) (by rw [e];omega) (by rw [e];omega),e]
section
variable {n:Nat} (h1:1 ≤ n) (h5:n ≤ 5) {w:List Int} (hw:Wt n w)
include h1 h5 hw
theorem wt_sm:Sm 100 w:=fun i _=>hw.bd i
theorem un_l2 (x6 x8:List Int) {p:Nat} (hp:p < 64) (hx:x8.length ≤ 64) {r:Bool} (hv:Ev (fun k=>numnahlaw01_CardUnate.l1 k (n:Int) w x6 (x8 ++ [valW w n p]) ((p + 1:Nat):Int)) r):∀ d i,i + d = n → Ev (fun k=>numnahlaw01_CardUnate.l2 k (n:Int) w x6 x8 (p:Int) (wsum w p i) (i:Int)) r:=by
 have hl:=hw.len
 intro d
 induction d with
 | zero =>
  intro i hi
  obtain rfl:i = n:=by omega
  refine Ev.step (fun k=>by rw [numnahlaw01_CardUnate.l2,if_neg (by omega),if_pos (by omega),if_pos (by omega)]) ?_
  unfold valW at hv
  by_cases h:wsum w p i ≥ rd w (i:Int)
  ·rw [if_pos h] at hv
   exact Ev.congr (fun k=>if_pos h) (Ev.congr (fun k=>by rw [if_pos (by omega),wrap_succ (by omega)]) hv)
  ·rw [if_neg h] at hv
   exact Ev.congr (fun k=>if_neg h) (Ev.congr (fun k=>by rw [if_pos (by omega),wrap_succ (by omega)]) hv)
 | succ d ih =>
  intro i hi
  have hb:=wsum_bd (by decide) (wt_sm h1 h5 hw) p i (by omega)
  have hm:(i:Int) * 100 ≤ 5 * 100:=Int.mul_le_mul_of_nonneg_right (by omega) (by decide)
  have hx:=hw.bd i
  have hbi:=bI_cases p i
  have e1:wrap64 (rd w (i:Int) * bI p i) = rd w (i:Int) * bI p i:=wrap_id (by rcases hbi with e | e <;> rw [e] <;> omega) (by rcases hbi with e | e <;> rw [e] <;> omega)
  refine Ev.step (fun k=>?_) (ih (i + 1) (by omega))
  rw [numnahlaw01_CardUnate.l2,if_pos (by omega),if_pos (by omega),if_pos (by omega),digitI (by omega),e1,wrap_succ (by omega),wsum,wrap_id (by rcases hbi with e | e <;> rw [e] <;> omega) (by rcases hbi with e | e <;> rw [e] <;> omega)]
theorem un_tot:totB (funW w n) = true ∧ fnN (funW w n) = n ∧ (funW w n).size ≤ 40:=mk_tot h1 h5 (funW_size w n) fun p hp=>by
 rw [funW_size] at hp
 rw [funW_bt hp]
 exact valW_or w n p
theorem un_T:Tot (funW w n) n:=by
 obtain ⟨a,b,c⟩:=un_tot h1 h5 hw
 have:=tot_of c a
 rwa [b] at this
def marW (w:List Int) (n:Nat):Nat → Int:=fun v=>if v < n then 2 * rd w (v:Int) else if v = n then 2 * rd w (n:Int) - 1 else 0
theorem mar_dot (p:Nat):J.dot (J.aV n p) (marW w n) = 2 * wsum w p n - 2 * rd w (n:Int) + 1:=by
 unfold J.dot J.aV marW
 rcases (by omega:n = 1 ∨ n = 2 ∨ n = 3 ∨ n = 4 ∨ n = 5) with rfl | rfl | rfl | rfl | rfl
 all_goals
  simp [wsum,jbI]
  try grind
theorem mar_norm:J.dot (marW w n) (marW w n) ≤ 300000:=by
 have hb:∀ v,marW w n v * marW w n v ≤ 50000:=fun v=>by
  have h0:=hw.bd v
  have h2:=hw.bd n
  have hz:-201 ≤ marW w n v ∧ marW w n v ≤ 201:=by
   unfold marW
   split
   ·omega
   ·split <;> omega
  have h3:marW w n v * marW w n v ≤ 201 * 201:=by
   rcases Int.le_total 0 (marW w n v) with h | h
   ·exact Int.mul_le_mul hz.2 hz.2 h (by decide)
   ·have:=Int.mul_le_mul (show -marW w n v ≤ 201 by omega) (show -marW w n v ≤ 201 by omega) (by omega) (by decide)
    rwa [Int.neg_mul_neg] at this
  omega
 have b0:=hb 0
 have b1:=hb 1
 have b2:=hb 2
 have b3:=hb 3
 have b4:=hb 4
 have b5:=hb 5
 unfold J.dot
 omega
theorem un_marg:J.Marg (fB (funW w n)) n (funW w n).size (marW w n):=fun p hp=>by
 rw [funW_size] at hp
 rw [mar_dot h1 h5 hw]
 unfold J.sgF fB
 rw [funW_bt hp]
 unfold valW
 by_cases h:wsum w p n ≥ rd w (n:Int)
 ·rw [if_pos h,if_pos (by decide)];omega
 ·rw [if_neg h,if_neg (by decide)];omega
theorem un_ends:∃ xs,EndsAt n (funW w n) xs:=by
 have hm:=un_marg h1 h5 hw
 obtain ⟨K,hK,he,hnn⟩:=J.conv_end hm
 have hN:=mar_norm h1 h5 hw
 have hsz:(funW w n).size = 2 ^ n:=funW_size w n
 exact ⟨_,ends_at (un_T h1 h5 hw) (K:=K) (by omega) hnn (fun i j hij hj=>J.conv_inj hm hnn hij (by omega)) he⟩
omit h1 h5 hw in
theorem vs_neg (w:List Int) (n:Nat):Vs n (negI w n):=by
 have hm:∀ k (h:k < (negI w n).length),∃ v:Nat,(negI w n)[k] = (v:Int) ∧ v < n:=fun k h=>by
  have hk:=List.getElem_mem h
  obtain ⟨v,hv,e⟩:=List.mem_map.1 (show (negI w n)[k] ∈ ((List.range n).filter (fun v:Nat=>decide (rd w (v:Int) < 0))).map Int.ofNat from hk)
  exact ⟨v,e.symm,List.mem_range.1 (List.mem_filter.1 hv).1⟩
 refine ⟨fun k h=>?_,fun k h=>?_,fun j k hj h he=>?_⟩
 ·obtain ⟨v,e,_⟩:=hm k h;omega
 ·obtain ⟨v,e,h2⟩:=hm k h;omega
 ·have hp:(negI w n).Pairwise (· < ·):=by
   unfold negI
   refine List.Pairwise.map _ (fun a b (hab:a < b)=>?_) (List.Pairwise.filter _ List.pairwise_lt_range)
   exact Int.ofNat_lt.2 hab
  have:=List.pairwise_iff_getElem.1 hp j k (by omega) h hj
  omega
def qN (w:List Int) (n p:Nat):Nat:=setN (tabI n (fun v=>(v:Int))) (bitF (negI w n) p) (tabI n (fun v=>(v:Int))).length
omit h1 h5 hw in
theorem qN_bit (w:List Int) (n p v:Nat):(qN w n p).testBit v = (decide (v < n) && bitF (negI w n) p v):=by
 unfold qN
 rw [Bool.eq_iff_iff,setN_bit (vs_same n) _ v _ (Nat.le_refl _),Bool.and_eq_true,decide_eq_true_eq]
 constructor
 ·rintro ⟨j,hj,_,hb,e⟩
  have:j = v:=by
   have:(tabI n (fun v=>(v:Int)))[j] = (j:Int):=by simp [tabI]
   omega
  subst this
  rw [tabI_len] at hj
  exact ⟨hj,hb⟩
 ·rintro ⟨hv,hb⟩
  exact ⟨v,by rw [tabI_len];exact hv,by rw [tabI_len];exact hv,hb,by simp [tabI]⟩
omit h1 h5 hw in
theorem qN_mono {w:List Int} {n p i:Nat} (hi:i < n) (hp:p.testBit i = false):wsum w (qN w n p) n ≤ wsum w (qN w n (p ||| 2 ^ i)) n:=by
 have hsame:∀ v,v ≠ i → bI (qN w n (p ||| 2 ^ i)) v = bI (qN w n p) v:=fun v hv=>by
  unfold bI
  rw [qN_bit,qN_bit]
  unfold bitF
  rw [Nat.testBit_or,Nat.testBit_two_pow_of_ne (fun h=>hv h.symm),Bool.or_false]
 rw [wsum_flip hsame n,if_pos hi]
 have h0:(qN w n p).testBit i = decide ((i:Int) ∈ negI w n):=by
  rw [qN_bit,decide_eq_true hi,Bool.true_and]
  unfold bitF
  rw [hp]
  cases decide ((i:Int) ∈ negI w n) <;> rfl
 have h1:(qN w n (p ||| 2 ^ i)).testBit i = !decide ((i:Int) ∈ negI w n):=by
  rw [qN_bit,decide_eq_true hi,Bool.true_and]
  unfold bitF
  rw [Nat.testBit_or,Nat.testBit_two_pow_self,Bool.or_true]
  cases decide ((i:Int) ∈ negI w n) <;> rfl
 unfold bI
 rw [h0,h1]
 by_cases hm:(i:Int) ∈ negI w n
 ·have:=((negI_mem w n i).1 hm).2
  rw [decide_eq_true hm]
  simp;omega
 ·have:¬ rd w (i:Int) < 0:=fun h=>hm ((negI_mem w n i).2 ⟨hi,h⟩)
  rw [decide_eq_false hm]
  simp;omega
omit h1 h5 hw in
theorem qN_lt (w:List Int) {n:Nat} (h5:n ≤ 5) (p:Nat):qN w n p < 2 ^ n:=setN_lt h5 (vs_same n) _ _ (Nat.le_refl _)
def turW (w:List Int) (n:Nat):ByteArray:=strOfNums (part (funW w n) (tabI n (fun v=>(v:Int))) (negI w n) (funW w n).size 0)
omit h1 hw in
theorem turW_bt {p:Nat} (hp:p < 2 ^ n):bt (turW w n) (p:Int) = valW w n (qN w n p):=by
 have hl:p < (part (funW w n) (tabI n (fun v=>(v:Int))) (negI w n) (funW w n).size 0).length:=by rw [part_len,funW_size];exact hp
 have e:(part (funW w n) (tabI n (fun v=>(v:Int))) (negI w n) (funW w n).size 0)[p] = valW w n (qN w n p):=by
  have:part (funW w n) (tabI n (fun v=>(v:Int))) (negI w n) (funW w n).size 0 = (List.range (funW w n).size).map (outF (funW w n) (tabI n (fun v=>(v:Int))) (negI w n)):=by unfold part;simp
  simp only [this,List.getElem_map,List.getElem_range]
  unfold outF
  exact funW_bt (qN_lt w h5 p)
 have hv:=valW_or w n (qN w n p)
 unfold turW
 rw [str_bt hl (by rw [e];omega) (by rw [e];omega),e]
theorem tur_size:(turW w n).size = 2 ^ n:=by unfold turW;rw [str_size,part_len,funW_size];rfl
theorem tur_tot:totB (turW w n) = true ∧ fnN (turW w n) = n ∧ (turW w n).size ≤ 40:=mk_tot h1 h5 (tur_size h1 h5 hw) fun p hp=>by
 rw [tur_size h1 h5 hw] at hp
 rw [turW_bt h5 hp]
 exact valW_or w n _
theorem tur_T:Tot (turW w n) n:=by
 obtain ⟨a,b,c⟩:=tur_tot h1 h5 hw
 have:=tot_of c a
 rwa [b] at this
theorem weights_un:∃ xs:List Int,xs.length = n + 1 ∧ card_Weights.f (funW w n) = some (xs,[],0):=by
 obtain ⟨a,b,c⟩:=un_tot h1 h5 hw
 have he:=un_ends h1 h5 hw
 obtain ⟨m,hm,e⟩:=newT c
 have:=hm a
 subst this
 rw [b] at e
 refine ⟨he.choose.take (n + 1),?_,?_⟩
 ·rw [List.length_take,ends_len he.choose_spec];omega
 ·unfold card_Weights.f
  rw [e,Option.bind_some]
  have hok:okT (funW w n) (n:Int) (funW w n) (totB (funW w n)):=⟨rfl,by omega,fun _=>⟨by omega,by omega⟩⟩
  rw [if_pos hok,if_pos a]
  simp only [Int.toNat_natCast]
  rw [dif_pos he]
theorem un_end (k0:Nat):Ev (fun k=>numnahlaw01_CardUnate.l1 k (n:Int) w (negI w n) (tabI (2 ^ n) (valW w n)) ((2 ^ n:Nat):Int)) true:=by
 obtain ⟨a,b,c⟩:=un_tot h1 h5 hw
 obtain ⟨a2,b2,c2⟩:=tur_tot h1 h5 hw
 obtain ⟨xs,hxs,eW⟩:=weights_un h1 h5 hw
 have hl:=hw.len
 have hsm:=wt_sm h1 h5 hw
 have eT:Ev (fun k=>card_Turn.f k (funW w n) (tabI n (fun v=>(v:Int))) (negI w n)) (turW w n,0):=ev_Turn c (by rw [b];omega) (by rw [tabI_len,b]) (by rw [b];exact vs_same n) (by rw [b];exact vs_neg w n) (by have:=negI_len w n;omega)
 have eM:Ev (fun k=>card_Monotone.f k (turW w n)) (-1,-1,0):=ev_mono_no c2 (tur_T h1 h5 hw) a2 b2 fun p hp i hi hb h49=>by
  rw [tur_size h1 h5 hw] at hp
  have hlt:p ||| 2 ^ i < 2 ^ n:=Nat.or_lt_two_pow hp (Nat.pow_lt_pow_right (by decide) hi)
  rw [turW_bt h5 hp] at h49
  rw [turW_bt h5 hlt]
  have hmn:=qN_mono (w:=w) hi hb
  unfold valW at h49 ⊢
  by_cases h:wsum w (qN w n p) n ≥ rd w (n:Int)
  ·rw [if_pos (by omega)];decide
  ·rw [if_neg h] at h49;cases h49
 have eR:card_Realize.f (funW w n) w = some 0:=by
  rw [realize_f c (by omega),if_pos a,b]
  have hb:bad60 w = false:=by
   unfold bad60
   rw [List.any_eq_false]
   intro x hx
   obtain ⟨v,hv,rfl⟩:=List.getElem_of_mem hx
   have:=hw.bd v
   rw [rd_get hv] at this
   simp;omega
  have ha:allF (okR (funW w n) w n) (funW w n).size 0 = true:=(allF_iff _ _ _).2 fun p _ hp=>by
   rw [funW_size] at hp
   unfold okR
   rw [funW_bt (by omega)]
   unfold valW
   by_cases h:wsum w p n ≥ rd w (n:Int)
   ·rw [if_pos h,decide_eq_true h];rfl
   ·rw [if_neg h,decide_eq_false h];rfl
  rw [if_pos ⟨hl,hb⟩,if_pos ha]
 refine Ev.step (fun k=>by rw [numnahlaw01_CardUnate.l1,if_pos (by omega),shl_one (by omega),if_neg (by omega),show strOfNums (tabI (2 ^ n) (valW w n)) = funW w n from rfl,eW,Option.bind_some]) ?_
 refine Ev.bind (ev_same h5) (Ev.bind eT (Ev.bind eM ?_))
 refine Ev.congr (fun k=>if_pos rfl) (Ev.congr (fun k=>if_pos (by rw [wrap_succ (by omega)];show (xs.length:Int) = _;omega)) ?_)
 rw [eR]
 exact Ev.congr (fun k=>Option.bind_some _ _) (Ev.congr (fun k=>if_pos rfl) (Ev.congr (fun k=>if_pos rfl) (Ev.congr (fun k=>if_pos rfl) (Ev.congr (fun k=>if_pos rfl) (Ev.congr (fun k=>if_pos rfl) ev_aw)))))
theorem un_l1:∀ d p,p + d = 2 ^ n → Ev (fun k=>numnahlaw01_CardUnate.l1 k (n:Int) w (negI w n) (tabI p (valW w n)) (p:Int)) true:=by
 have hp5:2 ^ n ≤ 2 ^ 5:=Nat.pow_le_pow_right (by decide) h5
 intro d
 induction d with
 | zero =>
  intro p hp
  obtain rfl:p = 2 ^ n:=by omega
  exact un_end h1 h5 hw 0
 | succ d ih =>
  intro p hp
  have hnx:=ih (p + 1) (by omega)
  have e:tabI (p + 1) (valW w n) = tabI p (valW w n) ++ [valW w n p]:=by unfold tabI;rw [List.range_succ,List.map_append];rfl
  rw [e] at hnx
  refine Ev.step (fun k=>?_) (un_l2 h1 h5 hw (negI w n) (tabI p (valW w n)) (p:=p) (by omega) (by rw [tabI_len];omega) hnx n 0 (by omega))
  rw [numnahlaw01_CardUnate.l1,if_pos (by omega),shl_one (by omega),if_pos (by omega)];rfl
end
theorem un_l0 {n:Nat} (h1:1 ≤ n) (h5:n ≤ 5) (l:List Int):∀ d i (w:List Int),i + d = n + 1 → w.length = i → (∀ j:Nat,-100 ≤ rd w (j:Int) ∧ rd w (j:Int) ≤ 100) → Ev (fun k=>numnahlaw01_CardUnate.l0 k (n:Int) l w (negI w (min i n)) (i:Int)) true:=by
 intro d
 induction d with
 | zero =>
  intro i w hi hl hb
  obtain rfl:i = n + 1:=by omega
  refine Ev.step (fun k=>?_) (un_l1 h1 h5 ⟨hl,hb⟩ (2 ^ n) 0 (by omega))
  rw [numnahlaw01_CardUnate.l0,if_neg (by omega),show min (n + 1) n = n by omega];rfl
 | succ d ih =>
  intro i w hi hl hb
  obtain ⟨x,hx⟩:∃ x,numnahlaw01_at.f l (i:Int) = some x:=by
   unfold numnahlaw01_at.f
   by_cases h:(i:Int) < (l.length:Int)
   ·exact ⟨_,by rw [if_pos h,if_pos (by omega)]⟩
   ·exact ⟨_,by rw [if_neg h]⟩
  obtain ⟨m,m0,m5,em⟩:=mod_some x (n:=201) (by decide) (by decide)
  have hw:wrap64 (m - 100) = m - 100:=wrap_id (by omega) (by omega)
  have hrd:rd (w ++ [m - 100]) (i:Int) = m - 100:=by
   rw [rd_get (by rw [List.length_append];simp;omega)]
   rw [List.getElem_append_right (by omega)]
   simp [hl]
  have hb2:∀ j:Nat,-100 ≤ rd (w ++ [m - 100]) (j:Int) ∧ rd (w ++ [m - 100]) (j:Int) ≤ 100:=fun j=>by
   by_cases h:j < i
   ·have e:rd (w ++ [m - 100]) (j:Int) = rd w (j:Int):=by rw [rd_get (by rw [List.length_append];omega),rd_get (by omega),List.getElem_append_left (by omega)]
    rw [e];exact hb j
   ·by_cases h2:j = i
    ·subst h2;rw [hrd];omega
    ·have:rd (w ++ [m - 100]) (j:Int) = 0:=by
      unfold rd
      rw [List.getD_eq_getElem?_getD,List.getElem?_eq_none (by rw [List.length_append,Int.toNat_natCast];simp;omega)];rfl
     rw [this];omega
  have hnx:=ih (i + 1) (w ++ [m - 100]) (by omega) (by rw [List.length_append,hl];rfl) hb2
  refine Ev.step (fun k=>by rw [numnahlaw01_CardUnate.l0,if_pos (by omega),hx,Option.bind_some,em,Option.bind_some,if_pos (by omega),Option.bind_some,hw,wrap_succ (by omega)]) ?_
  by_cases hin:i < n
  ·have en:negI (w ++ [m - 100]) (i + 1) = if m - 100 < 0 then negI w i ++ [(i:Int)] else negI w i:=by
    rw [negI_succ,hrd,negI_app _ i (by omega)]
   rw [show min (i + 1) n = i + 1 by omega,en] at hnx
   rw [show min i n = i by omega]
   have hnl:=negI_len w i
   refine Ev.congr (fun k=>if_pos (by omega)) (Ev.congr (fun k=>if_pos (by omega)) (Ev.congr (fun k=>if_pos (by rw [List.length_append];simp;omega)) ?_))
   rw [hrd]
   by_cases hneg:m - 100 < 0
   ·rw [if_pos hneg] at hnx
    exact Ev.congr (fun k=>if_pos hneg) (Ev.congr (fun k=>if_pos (by omega)) hnx)
   ·rw [if_neg hneg] at hnx
    exact Ev.congr (fun k=>if_neg hneg) hnx
  ·have:i = n:=by omega
   subst this
   rw [show min (i + 1) i = i by omega,negI_app _ i (by omega)] at hnx
   rw [show min i i = i by omega]
   exact Ev.congr (fun k=>if_neg (by omega)) hnx
theorem unate_pure (a0:Int) (l1:List Int):∃ k,numnahlaw01_CardUnate.f k a0 l1 = some true:=by
 refine Ev.rounds ?_
 unfold numnahlaw01_CardUnate.f
 obtain ⟨m,m0,m5,em⟩:=mod_some a0 (n:=5) (by decide) (by decide)
 obtain ⟨n,rfl⟩:∃ k:Nat,m = (k:Int):=⟨m.toNat,by omega⟩
 rw [em]
 have hw:wrap64 (1 + (n:Int)) = ((n + 1:Nat):Int):=by rw [wrap_id (by omega) (by omega)];omega
 simp only [Option.bind_some,hw]
 have h:=un_l0 (n:=n + 1) (by omega) (by omega) l1 (n + 2) 0 [] (by omega) rfl (fun j=>by simp [rd])
 exact h
theorem unate_Pure:numnahlaw01_CardUnate.Pure:=fun a0 l1 _ _ _ _=>unate_pure a0 l1
end Go.Proofs.Ythpahlkhiknofaa.P

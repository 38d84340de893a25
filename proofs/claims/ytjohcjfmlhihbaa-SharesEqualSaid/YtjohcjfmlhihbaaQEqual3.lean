/- Several texts, joined. -/
import Derived.SizedLaws
import Derived.ChangeSlices
import Derived.Test.YtjohcjfmlhihbaaQEqual2
set_option linter.unusedVariables false
set_option linter.unusedSimpArgs false
namespace Go.Proofs.Ytjohcjfmlhihbaa.G
open Go.RowKit Go.Proofs.YtjohcjfmlhihbaaW.PrintWords Go.Proofs.YtjohcjfmlhihbaaW.PrintLast Go.Proofs.YtjohcjfmlhihbaaW.PrintMore
set_option maxHeartbeats 8000000
set_option maxRecDepth 100000
attribute [local go_sem] cond_true cond_false fld23_0 fld23_1 fld45_0 fld45_1 fld109_0 fld109_1 fld94_0 fld94_1 max2_int min2_int max_two min_two max_three min_three max_four min_four   -- for this text's walks alone
attribute [local go_sem high] eqA23
mutual
def numnahlaw07_SharesEqual.j1:Nat → Int → List (S45) → List (S45) → Int → Option (Bool)
 | 0,_,_,_,_=>none
 | k + 1,x0,x5,x6,x7=>if x7 = 0 then (numnahlaw07_SharesEqual.j2 k x0 (([(⟨1,(([0]:List Int))⟩:S45)]:List (S45))) (([(⟨1,(([0,1]:List Int))⟩:S45)]:List (S45))) 1) else (numnahlaw07_SharesEqual.j2 k x0 x5 x6 x7)
def numnahlaw07_SharesEqual.j2:Nat → Int → List (S45) → List (S45) → Int → Option (Bool)
 | 0,_,_,_,_=>none
 | k + 1,x0,x5,x6,x7=>(shares_Fair.f k (([x0]:List Int)) x5).bind fun d2=>((shares_Fair.f k (([200,x0]:List Int)) x6).bind fun c0=>(if d2.2.2 = 0 then (if c0.2.2 = 0 then ((numnahref07_Same.f k d2.1 c0.1).bind fun m0=>(if m0 = true then (if (d2.1.length:Int) = (x5.length:Int) then (if (d2.2.1.length:Int) = (x5.length:Int) then (numnahlaw07_SharesEqual.j3 k x0 x5 x7 d2.1 d2.2.1 c0.2.1 ((c0.2.1.length:Int) != (x5.length:Int))) else (numnahlaw07_SharesEqual.j3 k x0 x5 x7 d2.1 d2.2.1 c0.2.1 true)) else (numnahlaw07_SharesEqual.j3 k x0 x5 x7 d2.1 d2.2.1 c0.2.1 true)) else (numnahlaw07_SharesEqual.j3 k x0 x5 x7 d2.1 d2.2.1 c0.2.1 true))) else (numnahlaw07_SharesEqual.j3 k x0 x5 x7 d2.1 d2.2.1 c0.2.1 true)) else (numnahlaw07_SharesEqual.j3 k x0 x5 x7 d2.1 d2.2.1 c0.2.1 true)))
def numnahlaw07_SharesEqual.j3:Nat → Int → List (S45) → Int → List (S23) → List Int → List Int → Bool → Option (Bool)
 | 0,_,_,_,_,_,_,_=>none
 | k + 1,x0,x5,x7,E9,F3,F4,x106=>if x106 = true then (some false) else (numnahlaw07_SharesEqual.l1 k x0 x5 x7 E9 F3 F4 0)
def numnahlaw07_SharesEqual.l1:Nat → Int → List (S45) → Int → List (S23) → List Int → List Int → Int → Option (Bool)
 | 0,_,_,_,_,_,_,_=>none
 | k + 1,x0,x5,x7,E9,F3,F4,x4=>if x4 < (x5.length:Int) then (if 0 ≤ x4 then (if x4 < (E9.length:Int) then ((numnahref07_Reduced.f k (wrap64 (x0 * ((rd_T45 x5 x4).f0))) x7).bind fun C9=>(if (!(((rd_T23 E9 x4).f0) == C9.1) || (!(((rd_T23 E9 x4).f1) == C9.2))) = true then (some false) else (if x4 < (F3.length:Int) then (if (rd F3 x4) = 0 then (if x4 < (F4.length:Int) then (if (rd F4 x4) = 1 then (numnahlaw07_SharesEqual.l1 k x0 x5 x7 E9 F3 F4 (wrap64 (x4 + 1))) else (some false)) else (none)) else (some false)) else (none)))) else (none)) else (none)) else ((numnahlaw07_awake.f k).bind fun A9=>(some A9))
def numnahlaw07_SharesEqual.l0:Nat → Int → List Int → List (S45) → List (S45) → Int → Int → Option (Bool)
 | 0,_,_,_,_,_,_=>none
 | k + 1,x0,x1,x5,x6,x7,x8=>if x8 < (x1.length:Int) then (if x8 < 6 then (if 0 ≤ x8 then ((numnahlaw07_mod.f (rd x1 x8) 4).bind fun h0=>(if x5.length < 4398046511104 then (if x6.length < 4398046511104 then (numnahlaw07_SharesEqual.l0 k x0 x1 (x5 ++ [(⟨wrap64 (1 + h0),(([0]:List Int))⟩:S45)]) (x6 ++ [(⟨wrap64 (1 + h0),(([0,1]:List Int))⟩:S45)]) (wrap64 (x7 + (wrap64 (1 + h0)))) (wrap64 (x8 + 1))) else (none)) else (none))) else (none)) else (numnahlaw07_SharesEqual.j1 k x0 x5 x6 x7)) else (numnahlaw07_SharesEqual.j1 k x0 x5 x6 x7)
end
def numnahlaw07_SharesEqual.f (k:Nat) (a0:Int) (l1:List Int):Option (Bool):=(numnahlaw07_mod.f a0 100).bind fun b3=>(numnahlaw07_SharesEqual.l0 k b3 l1 ([]:List (S45)) ([]:List (S45)) 0 0)
theorem numnahlaw07_SharesEqual.mono_l:∀ k,(∀ y0 y1 y2 y3,LeO (numnahlaw07_SharesEqual.j1 k y0 y1 y2 y3) (numnahlaw07_SharesEqual.j1 (k + 1) y0 y1 y2 y3)) ∧ (∀ y0 y1 y2 y3,LeO (numnahlaw07_SharesEqual.j2 k y0 y1 y2 y3) (numnahlaw07_SharesEqual.j2 (k + 1) y0 y1 y2 y3)) ∧ (∀ y0 y1 y2 y3 y4 y5 y6,LeO (numnahlaw07_SharesEqual.j3 k y0 y1 y2 y3 y4 y5 y6) (numnahlaw07_SharesEqual.j3 (k + 1) y0 y1 y2 y3 y4 y5 y6)) ∧ (∀ y0 y1 y2 y3 y4 y5 y6,LeO (numnahlaw07_SharesEqual.l1 k y0 y1 y2 y3 y4 y5 y6) (numnahlaw07_SharesEqual.l1 (k + 1) y0 y1 y2 y3 y4 y5 y6)) ∧ (∀ y0 y1 y2 y3 y4 y5,LeO (numnahlaw07_SharesEqual.l0 k y0 y1 y2 y3 y4 y5) (numnahlaw07_SharesEqual.l0 (k + 1) y0 y1 y2 y3 y4 y5))
 | 0=>⟨fun _ _ _ _ r h=>by simp [numnahlaw07_SharesEqual.j1] at h,fun _ _ _ _ r h=>by simp [numnahlaw07_SharesEqual.j2] at h,fun _ _ _ _ _ _ _ r h=>by simp [numnahlaw07_SharesEqual.j3] at h,fun _ _ _ _ _ _ _ r h=>by simp [numnahlaw07_SharesEqual.l1] at h,fun _ _ _ _ _ _ r h=>by simp [numnahlaw07_SharesEqual.l0] at h⟩
 | k + 1=>by
  obtain ⟨s9,t0,t1,t2,t3⟩:=numnahlaw07_SharesEqual.mono_l k
  refine ⟨?_,?_,?_,?_,?_⟩
  ·intro y0 y1 y2 y3
   unfold numnahlaw07_SharesEqual.j1
   repeat' first
   | (with_reducible exact s9 _ _ _ _)
   | (with_reducible exact t0 _ _ _ _)
   | (with_reducible exact t1 _ _ _ _ _ _ _)
   | (with_reducible exact t2 _ _ _ _ _ _ _)
   | (with_reducible exact t3 _ _ _ _ _ _)
   | (with_reducible exact numnahlaw07_awake.mono _)
   | (with_reducible exact numnahref07_Reduced.mono _ _ _)
   | (with_reducible exact numnahref07_Same.mono _ _ _)
   | (with_reducible exact shares_Fair.mono _ _ _)
   | (with_reducible exact LeO.refl _)
   | (with_reducible exact LeO.none _)
   | (with_reducible refine LeO.ite ?_ ?_)
   | (with_reducible refine LeO.bind ?_ (fun _=>?_))
   | exact s9 _ _ _ _
   | exact t0 _ _ _ _
   | exact t1 _ _ _ _ _ _ _
   | exact t2 _ _ _ _ _ _ _
   | exact t3 _ _ _ _ _ _
   | exact numnahlaw07_awake.mono _
   | exact numnahref07_Reduced.mono _ _ _
   | exact numnahref07_Same.mono _ _ _
   | exact shares_Fair.mono _ _ _
   | exact LeO.none _
   | refine LeO.ite ?_ ?_
   | refine LeO.bind ?_ (fun _=>?_)
  ·intro y0 y1 y2 y3
   unfold numnahlaw07_SharesEqual.j2
   repeat' first
   | (with_reducible exact s9 _ _ _ _)
   | (with_reducible exact t0 _ _ _ _)
   | (with_reducible exact t1 _ _ _ _ _ _ _)
   | (with_reducible exact t2 _ _ _ _ _ _ _)
   | (with_reducible exact t3 _ _ _ _ _ _)
   | (with_reducible exact numnahlaw07_awake.mono _)
   | (with_reducible exact numnahref07_Reduced.mono _ _ _)
   | (with_reducible exact numnahref07_Same.mono _ _ _)
   | (with_reducible exact shares_Fair.mono _ _ _)
   | (with_reducible exact LeO.refl _)
   | (with_reducible exact LeO.none _)
   | (with_reducible refine LeO.ite ?_ ?_)
   | (with_reducible refine LeO.bind ?_ (fun _=>?_))
   | exact s9 _ _ _ _
   | exact t0 _ _ _ _
   | exact t1 _ _ _ _ _ _ _
   | exact t2 _ _ _ _ _ _ _
   | exact t3 _ _ _ _ _ _
   | exact numnahlaw07_awake.mono _
   | exact numnahref07_Reduced.mono _ _ _
   | exact numnahref07_Same.mono _ _ _
   | exact shares_Fair.mono _ _ _
   | exact LeO.none _
   | refine LeO.ite ?_ ?_
   | refine LeO.bind ?_ (fun _=>?_)
  ·intro y0 y1 y2 y3 y4 y5 y6
   unfold numnahlaw07_SharesEqual.j3
   repeat' first
   | (with_reducible exact s9 _ _ _ _)
   | (with_reducible exact t0 _ _ _ _)
   | (with_reducible exact t1 _ _ _ _ _ _ _)
   | (with_reducible exact t2 _ _ _ _ _ _ _)
   | (with_reducible exact t3 _ _ _ _ _ _)
   | (with_reducible exact numnahlaw07_awake.mono _)
   | (with_reducible exact numnahref07_Reduced.mono _ _ _)
   | (with_reducible exact numnahref07_Same.mono _ _ _)
   | (with_reducible exact shares_Fair.mono _ _ _)
   | (with_reducible exact LeO.refl _)
   | (with_reducible exact LeO.none _)
   | (with_reducible refine LeO.ite ?_ ?_)
   | (with_reducible refine LeO.bind ?_ (fun _=>?_))
   | exact s9 _ _ _ _
   | exact t0 _ _ _ _
   | exact t1 _ _ _ _ _ _ _
   | exact t2 _ _ _ _ _ _ _
   | exact t3 _ _ _ _ _ _
   | exact numnahlaw07_awake.mono _
   | exact numnahref07_Reduced.mono _ _ _
   | exact numnahref07_Same.mono _ _ _
   | exact shares_Fair.mono _ _ _
   | exact LeO.none _
   | refine LeO.ite ?_ ?_
   | refine LeO.bind ?_ (fun _=>?_)
  ·intro y0 y1 y2 y3 y4 y5 y6
   unfold numnahlaw07_SharesEqual.l1
   repeat' first
   | (with_reducible exact s9 _ _ _ _)
   | (with_reducible exact t0 _ _ _ _)
   | (with_reducible exact t1 _ _ _ _ _ _ _)
   | (with_reducible exact t2 _ _ _ _ _ _ _)
   | (with_reducible exact t3 _ _ _ _ _ _)
   | (with_reducible exact numnahlaw07_awake.mono _)
   | (with_reducible exact numnahref07_Reduced.mono _ _ _)
   | (with_reducible exact numnahref07_Same.mono _ _ _)
   | (with_reducible exact shares_Fair.mono _ _ _)
   | (with_reducible exact LeO.refl _)
   | (with_reducible exact LeO.none _)
   | (with_reducible refine LeO.ite ?_ ?_)
   | (with_reducible refine LeO.bind ?_ (fun _=>?_))
   | exact s9 _ _ _ _
   | exact t0 _ _ _ _
   | exact t1 _ _ _ _ _ _ _
   | exact t2 _ _ _ _ _ _ _
   | exact t3 _ _ _ _ _ _
   | exact numnahlaw07_awake.mono _
   | exact numnahref07_Reduced.mono _ _ _
   | exact numnahref07_Same.mono _ _ _
   | exact shares_Fair.mono _ _ _
   | exact LeO.none _
   | refine LeO.ite ?_ ?_
   | refine LeO.bind ?_ (fun _=>?_)
  intro y0 y1 y2 y3 y4 y5
  unfold numnahlaw07_SharesEqual.l0
  repeat' first
  | (with_reducible exact s9 _ _ _ _)
  | (with_reducible exact t0 _ _ _ _)
  | (with_reducible exact t1 _ _ _ _ _ _ _)
  | (with_reducible exact t2 _ _ _ _ _ _ _)
  | (with_reducible exact t3 _ _ _ _ _ _)
  | (with_reducible exact numnahlaw07_awake.mono _)
  | (with_reducible exact numnahref07_Reduced.mono _ _ _)
  | (with_reducible exact numnahref07_Same.mono _ _ _)
  | (with_reducible exact shares_Fair.mono _ _ _)
  | (with_reducible exact LeO.refl _)
  | (with_reducible exact LeO.none _)
  | (with_reducible refine LeO.ite ?_ ?_)
  | (with_reducible refine LeO.bind ?_ (fun _=>?_))
  | exact s9 _ _ _ _
  | exact t0 _ _ _ _
  | exact t1 _ _ _ _ _ _ _
  | exact t2 _ _ _ _ _ _ _
  | exact t3 _ _ _ _ _ _
  | exact numnahlaw07_awake.mono _
  | exact numnahref07_Reduced.mono _ _ _
  | exact numnahref07_Same.mono _ _ _
  | exact shares_Fair.mono _ _ _
  | exact LeO.none _
  | refine LeO.ite ?_ ?_
  | refine LeO.bind ?_ (fun _=>?_)
theorem numnahlaw07_SharesEqual.mono:∀ a0 a1 k,LeO (numnahlaw07_SharesEqual.f k a0 a1) (numnahlaw07_SharesEqual.f (k + 1) a0 a1):=by
 intro a0 a1 k
 obtain ⟨s9,t0,t1,t2,t3⟩:=numnahlaw07_SharesEqual.mono_l k
 unfold numnahlaw07_SharesEqual.f
 repeat' first
   | (with_reducible exact s9 _ _ _ _)
   | (with_reducible exact t0 _ _ _ _)
   | (with_reducible exact t1 _ _ _ _ _ _ _)
   | (with_reducible exact t2 _ _ _ _ _ _ _)
   | (with_reducible exact t3 _ _ _ _ _ _)
   | (with_reducible exact numnahlaw07_awake.mono _)
   | (with_reducible exact numnahref07_Reduced.mono _ _ _)
   | (with_reducible exact numnahref07_Same.mono _ _ _)
   | (with_reducible exact shares_Fair.mono _ _ _)
   | (with_reducible exact LeO.refl _)
   | (with_reducible exact LeO.none _)
   | (with_reducible refine LeO.ite ?_ ?_)
   | (with_reducible refine LeO.bind ?_ (fun _=>?_))
   | exact s9 _ _ _ _
   | exact t0 _ _ _ _
   | exact t1 _ _ _ _ _ _ _
   | exact t2 _ _ _ _ _ _ _
   | exact t3 _ _ _ _ _ _
   | exact numnahlaw07_awake.mono _
   | exact numnahref07_Reduced.mono _ _ _
   | exact numnahref07_Same.mono _ _ _
   | exact shares_Fair.mono _ _ _
   | exact LeO.none _
   | refine LeO.ite ?_ ?_
   | refine LeO.bind ?_ (fun _=>?_)
def numnahlaw07_SharesEqual.T22:Bool × List (List Nat × List Nat):=(true,[([],[]),([],[]),([0,1],[0,1]),([2],[2]),([],[]),([],[]),([],[]),([5,6],[5,6]),([7],[7]),([8],[8]),([4,9],[4,9]),([],[]),([10,11],[10,11]),([3,12],[3,12]),([13,12],[13]),([14],[14]),([14],[14]),([15,16,14],[14,15,16]),([17,14],[14,17]),([18,14],[14,18]),([14,19],[14,19]),([20,14],[20]),([21],[21]),([21],[21]),([22,23,21],[21,22,23]),([24,21],[21,24]),([25,21],[21,25]),([21,26],[21,26])])
def numnahlaw07_SharesEqual.B22:List Nat:=[0,0,3,7,0,0,0,96,224,480,1008,0,4080,8191,16383,32767,32767,131071,262143,524287,1048575,2097151,4194303,4194303,16777215,33554431,67108863,134217727]
theorem numnahlaw07_SharesEqual.tab22:rtab .any (opsOf Try.f8 22) = numnahlaw07_SharesEqual.T22:=by kernel_rfl
theorem numnahlaw07_SharesEqual.bits22:waitsOk numnahlaw07_SharesEqual.T22.2 numnahlaw07_SharesEqual.B22 = true:=by kernel_rfl
theorem numnahlaw07_SharesEqual.calls (k:Nat) (a0:Int) (A1:Option Addr) (c1:Nat) (l1:List Int) (r:Bool) (w:World) (J1:Kd.C (Kd.int .i64) w A1 l1.length l1) (J2:l1.length ≤ c1) (h:numnahlaw07_SharesEqual.f k a0 l1 = some r) :
  Calls Try.prog 8 #[.int .i64 a0,.slice A1 l1.length c1] w fun e w'=>e = .returned (.bool r) ∧ Below w.heap.size w w':=by
 have O0:=Try.underlying45
 have O1:=Try.underlying23
 have O2:=Aside0.mk J1
 have V0:=Aside0.mk J2
 clear J1 J2
 have HB:=Aside0.mk (Below.refl w.heap.size w)
 have H:((numnahlaw07_mod.f a0 100).bind fun b3=>(numnahlaw07_SharesEqual.l0 k b3 l1 ([]:List (S45)) ([]:List (S45)) 0 0)) = some r:=h
 clear h
 replace H:=Option.bind_eq_some_iff.mp H
 obtain ⟨b3,M9,H⟩:=H
 replace H:(numnahlaw07_SharesEqual.l0 k b3 l1 ([]:List (S45)) ([]:List (S45)) 0 0) = some r:=H
 have A3:=Aside0.mk M9
 clear M9
 have K0:=Aside0.mk H
 clear H
 go_enter Try.func8,Try.ntmps8
 go_upto_block 0 with (first | ((with_reducible refine gate_callee (f:=29) rfl ?_);refine goesL_ (some 18) rfl rfl Try.func29 (by kernel_rfl) rfl #[.int .i64 a0,.int .i64 100] rfl (by (try simp only [List.map_toArray,List.map_cons,List.map_nil]);first | done | rfl | (simp only [List.length_drop,List.length_take];rfl)) ?_;(with_reducible refine (numnahlaw07_mod.calls a0 100 b3 _ A3.out).mono ?_);rintro e w' ⟨rfl,⟨nd,rfl⟩⟩;refine ⟨_,rfl,?_⟩))
 (try simp only [Act.put,List.setIfInBounds_toArray,List.set_cons_zero,List.set_cons_succ])
 go_cut [5,6,7] (fun v5 v6 v7 wc=>∃ (kq:Nat) (B0:List (S45)) (C0:List (S45)) (n0:Int),v7 = .int .i64 n0 ∧ Aside0 (numnahlaw07_SharesEqual.j1 kq b3 B0 C0 n0 = some r) ∧ Aside0 (kq ≤ k) ∧ Aside0 (Kd.N k45 45 wc w.heap.size (fun k_=>some k_ ≠ (v6:Value).ownBlock) v5 B0) ∧ Aside0 (Kd.N k45 45 wc w.heap.size (fun k_=>some k_ ≠ (v5:Value).ownBlock) v6 C0) ∧ Aside0 (Below w.heap.size w wc))
 case first =>
  have H:=K0.out
  clear K0
  have H':=Aside0.mk H
  clear H
  go_wp2
  go_loopg [5,6,7,8] k (fun kq v5 v6 v7 v8 w'=>∃ (m1:List (S45)) (i5:List (S45)) (m3:Int) (h7:Int),v7 = .int .i64 m3 ∧ v8 = .int .i64 h7 ∧ Aside0 (numnahlaw07_SharesEqual.l0 kq b3 l1 m1 i5 m3 h7 = some r) ∧ Aside0 (kq ≤ k) ∧ Aside0 (Kd.N k45 45 w' w.heap.size (fun k_=>some k_ ≠ (v6:Value).ownBlock) v5 m1) ∧ Aside0 (Kd.N k45 45 w' w.heap.size (fun k_=>some k_ ≠ (v5:Value).ownBlock) v6 i5) ∧ Aside0 (Below w.heap.size w w'))
  case atStart=>exact ⟨(([]:List (S45))),(([]:List (S45))),(0),(0),(by first | rfl | (simp;done) | (simp [*];done)),(by first | rfl | (simp;done) | (simp [*];done)),H',⟨Nat.le_refl _⟩,⟨by first | exact Kd.S_nil _ _ _ _ _ | exact Kd.N_nil _ _ _ _ _ | exact Kd.V_nil _ _ _ _ _ | exact Kd.Q_nil _ _ _ _ _ | exact Kd.R_nil _ _ _ _ _⟩,⟨by first | exact Kd.S_nil _ _ _ _ _ | exact Kd.N_nil _ _ _ _ _ | exact Kd.V_nil _ _ _ _ _ | exact Kd.Q_nil _ _ _ _ _ | exact Kd.R_nil _ _ _ _ _⟩,⟨by repeat (first | (with_reducible first | exact HB.out | apply below_alloc | apply pw_below_drewN | apply below_drew1) | exact HB.out)⟩⟩
  case round =>
   clear H'
   try clear c1
   try clear c2
   try clear p2
   obtain ⟨m1,i5,m3,h7,rfl,rfl,HA,J3,b2,d1,HB⟩:=hrel
   cases gk with
   | zero=>exact absurd HA.out (by simp [numnahlaw07_SharesEqual.l0])
   | succ k1 =>
    have H:=HA.out
    clear HA
    simp only [numnahlaw07_SharesEqual.l0] at H
    by_cases c5:h7 < (l1.length:Int)
    case neg =>
     rw [if_neg c5] at H
     have n1:decide (h7 < (l1.length:Int)) = false:=decide_eq_false c5
     clear c5
     (first | rw [n1] | (simp only [i64_w,i32_w];rw [n1]) | skip)
     have H':=Aside0.mk H
     clear H
     go_wp2
     go_meet
     case rel=>exact ⟨_,(m1),(i5),(m3),(by first | rfl | (simp;done) | (simp [*];done)),H',⟨by have:=J3.out;first | omega | exact Nat.le_refl _⟩,⟨by (with_reducible repeat (first | apply Kd.N_alloc | apply Kd.N_drewN | apply Kd.N_drew));exact b2.out⟩,⟨by (with_reducible repeat (first | apply Kd.N_alloc | apply Kd.N_drewN | apply Kd.N_drew));exact d1.out⟩,⟨by repeat (first | (with_reducible first | exact HB.out | apply below_alloc | apply pw_below_drewN | apply below_drew1) | exact HB.out)⟩⟩
    rw [if_pos c5] at H
    have n1:decide (h7 < (l1.length:Int)) = true:=decide_eq_true c5
    clear c5
    (first | rw [n1] | (simp only [i64_w,i32_w];rw [n1]) | skip)
    by_cases c6:h7 < 6
    case neg =>
     rw [if_neg c6] at H
     have x9:decide (h7 < 6) = false:=decide_eq_false c6
     clear c6
     have H':=Aside0.mk H
     clear H
     go_wp2
     go_meet
     case rel=>exact ⟨_,(m1),(i5),(m3),(by first | rfl | (simp;done) | (simp [*];done)),H',⟨by have:=J3.out;first | omega | exact Nat.le_refl _⟩,⟨by (with_reducible repeat (first | apply Kd.N_alloc | apply Kd.N_drewN | apply Kd.N_drew));exact b2.out⟩,⟨by (with_reducible repeat (first | apply Kd.N_alloc | apply Kd.N_drewN | apply Kd.N_drew));exact d1.out⟩,⟨by repeat (first | (with_reducible first | exact HB.out | apply below_alloc | apply pw_below_drewN | apply below_drew1) | exact HB.out)⟩⟩
    rw [if_pos c6] at H
    have x9:decide (h7 < 6) = true:=decide_eq_true c6
    clear c6
    by_cases c7:0 ≤ h7
    case neg =>
     rw [if_neg c7] at H
     exact absurd H (by simp)
    rw [if_pos c7] at H
    have C1:decide (0 ≤ h7) = true:=decide_eq_true c7
    clear c7
    replace H:=Option.bind_eq_some_iff.mp H
    obtain ⟨h0,N0,H⟩:=H
    replace H:(if m1.length < 4398046511104 then (if i5.length < 4398046511104 then (numnahlaw07_SharesEqual.l0 k1 b3 l1 (m1 ++ [(⟨wrap64 (1 + h0),(([0]:List Int))⟩:S45)]) (i5 ++ [(⟨wrap64 (1 + h0),(([0,1]:List Int))⟩:S45)]) (wrap64 (m3 + (wrap64 (1 + h0)))) (wrap64 (h7 + 1))) else (none)) else (none)) = some r:=H
    have A8:=Aside0.mk N0
    clear N0
    obtain ⟨t4,n7⟩:∃ y_:List Int,y_ = (([0]:List Int)):=⟨_,rfl⟩
    replace H:(if m1.length < 4398046511104 then (if i5.length < 4398046511104 then (numnahlaw07_SharesEqual.l0 k1 b3 l1 (m1 ++ [(⟨wrap64 (1 + h0),t4⟩:S45)]) (i5 ++ [(⟨wrap64 (1 + h0),(([0,1]:List Int))⟩:S45)]) (wrap64 (m3 + (wrap64 (1 + h0)))) (wrap64 (h7 + 1))) else (none)) else (none)) = some r:=by first | (rw [n7];with_reducible exact H) | (have i0:=(Option.bind_some _ _).symm.trans H;rw [n7];with_reducible exact i0) | (have i0:=(Option.bind_some _ _).symm.trans H;with_reducible exact i0) | with_reducible exact H | (rw [n7];exact H) | exact H
    have D0:=Aside0.mk n7
    clear n7
    by_cases c9:m1.length < 4398046511104
    case neg =>
     rw [if_neg c9] at H
     exact absurd H (by simp)
    rw [if_pos c9] at H
    have K1:=Aside0.mk c9
    clear c9
    obtain ⟨C2,n8⟩:∃ y_:List (S45),y_ = (m1 ++ [(⟨wrap64 (1 + h0),t4⟩:S45)]):=⟨_,rfl⟩
    replace H:(if i5.length < 4398046511104 then (numnahlaw07_SharesEqual.l0 k1 b3 l1 C2 (i5 ++ [(⟨wrap64 (1 + h0),(([0,1]:List Int))⟩:S45)]) (wrap64 (m3 + (wrap64 (1 + h0)))) (wrap64 (h7 + 1))) else (none)) = some r:=by first | (rw [n8];with_reducible exact H) | (have i0:=(Option.bind_some _ _).symm.trans H;rw [n8];with_reducible exact i0) | (have i0:=(Option.bind_some _ _).symm.trans H;with_reducible exact i0) | with_reducible exact H | (rw [n8];exact H) | exact H
    have F5:=Aside0.mk n8
    clear n8
    obtain ⟨t5,n9⟩:∃ y_:List Int,y_ = (([0,1]:List Int)):=⟨_,rfl⟩
    replace H:(if i5.length < 4398046511104 then (numnahlaw07_SharesEqual.l0 k1 b3 l1 C2 (i5 ++ [(⟨wrap64 (1 + h0),t5⟩:S45)]) (wrap64 (m3 + (wrap64 (1 + h0)))) (wrap64 (h7 + 1))) else (none)) = some r:=by first | (rw [n9];with_reducible exact H) | (have i0:=(Option.bind_some _ _).symm.trans H;rw [n9];with_reducible exact i0) | (have i0:=(Option.bind_some _ _).symm.trans H;with_reducible exact i0) | with_reducible exact H | (rw [n9];exact H) | exact H
    have D1:=Aside0.mk n9
    clear n9
    by_cases c10:i5.length < 4398046511104
    case neg =>
     rw [if_neg c10] at H
     exact absurd H (by simp)
    rw [if_pos c10] at H
    have F6:=Aside0.mk c10
    clear c10
    obtain ⟨F7,o0⟩:∃ y_:List (S45),y_ = (i5 ++ [(⟨wrap64 (1 + h0),t5⟩:S45)]):=⟨_,rfl⟩
    replace H:(numnahlaw07_SharesEqual.l0 k1 b3 l1 C2 F7 (wrap64 (m3 + (wrap64 (1 + h0)))) (wrap64 (h7 + 1))) = some r:=by first | (rw [o0];with_reducible exact H) | (have i0:=(Option.bind_some _ _).symm.trans H;rw [o0];with_reducible exact i0) | (have i0:=(Option.bind_some _ _).symm.trans H;with_reducible exact i0) | with_reducible exact H | (rw [o0];exact H) | exact H
    have F8:=Aside0.mk o0
    clear o0
    have H':=Aside0.mk H
    clear H
    have p9:0 ≤ (h7:Int):=of_decide_eq_true (by first | (with_reducible assumption) | assumption)
    have q0:h7 < (l1.length:Int):=of_decide_eq_true (by first | (with_reducible assumption) | assumption)
    obtain ⟨N1,K2,i1⟩:=Kd.at_int O2.out h7 p9 q0
    cases K2
    replace i1:=(HB.out.cell (World.block_lt_of_cell? w _ i1)).trans i1
    replace p9:=eq_true p9
    replace q0:=eq_true q0
    go_wp2_with (first | ((with_reducible refine gate_callee (f:=29) rfl ?_);refine goesL_ (some 33) rfl rfl Try.func29 (by kernel_rfl) rfl #[.int .i64 (rd l1 h7),.int .i64 4] rfl (by (try simp only [List.map_toArray,List.map_cons,List.map_nil]);first | done | rfl | (simp only [List.length_drop,List.length_take];rfl)) ?_;(with_reducible refine (numnahlaw07_mod.calls (rd l1 h7) 4 h0 _ A8.out).mono ?_);rintro e w' ⟨rfl,⟨nd,rfl⟩⟩;refine ⟨_,rfl,?_⟩) | ((with_reducible refine gate_dst (N:=37) rfl ?_);(try (refine gate_guard (by rfl) ?_;dsimp only));refine Kd.R_lit (Kd.int .i64) _ 3 ?hg (N:=37) ?hd (xs:=([0]:List Int)) (inner:=[.int .i64 0]) (ok:=fun _=>True) (okp:=fun _=>True) ?hr ?hp (fun _ hk=>hk) trivial (Below.refl _ _) (Nat.le_refl _) (by simp) ?_;(case hd=>rfl);(case hg=>rfl);(case hr=>first | (go_simp;done) | (go_simp;rfl));(case hp=>exact (Reps.one (show Kd.M (Kd.int .i64) _ _ _ 0 [.int .i64 0] from rfl) (Reps.none _ _)));intro O3 V1 q1 hb hg_ hnew_;clear hg_ hnew_;(first | rw [← D0.out] at q1 | (simp only [Int.reduceToNat] at q1;rw [← D0.out] at q1));have e1:=Aside0.mk (Kd.N_elder' (by (with_reducible repeat (first | apply Kd.N_alloc | apply Kd.N_drewN | apply Kd.N_drew));exact b2.out) (Kd.R_base q1) hb);have e2:=Aside0.mk (Kd.N_elder' (by (with_reducible repeat (first | apply Kd.N_alloc | apply Kd.N_drewN | apply Kd.N_drew));exact d1.out) (Kd.R_base q1) hb);have e3:=Aside0.mk (Kd.R_lower q1 (below_size (by repeat (first | (with_reducible first | exact HB.out | apply below_alloc | apply pw_below_drewN | apply below_drew1) | exact HB.out))));have e9:=Aside0.mk (below_step (by repeat (first | (with_reducible first | exact HB.out | apply below_alloc | apply pw_below_drewN | apply below_drew1) | exact HB.out)) hb);clear b2;clear d1;clear HB;have b2:=e1;have d1:=e2;have r8:=e3;have HB:=e9;clear e1 e2 e3 e9;clear hb q1;obtain ⟨F9,G0,K3⟩:=Kd.R_slice r8.out;subst K3) | ((with_reducible refine gate_builtin (b:=.append) (xs:=#[.tmp 35,.tmp 39]) rfl ?_);(try (refine gate_guard (by rfl) ?_;dsimp only));at_builtin;refine Kd.N_append k45 (w0:=w) w.heap.size rfl (.tmp 35) (.tmp 39) 43 45 (.agg #[(.int .i64 0),(.slice none 0 0)]) 32 rfl Try.underlying43 info45 rfl (by decide) (by omega) u5 m1 (⟨wrap64 (1 + h0),t4⟩:S45) [.int .i64 (wrap64 (1 + h0)),.slice F9 t4.length G0] (fun k_=>some k_ ≠ (u6:Value).ownBlock) (fun k_=>((fun k_=>some k_ ≠ (u6:Value).ownBlock)) k_ ∧ some k_ ≠ (u5:Value).ownBlock) rfl rfl ?aP (fun _ hk=>hk) ?aF ?aO ?aB ?aS ?aL ?_;(case aP=>exact (k45_mkF _ _ (⟨wrap64 (1 + h0),t4⟩:S45) (Kd.R_reads' (Kd.R_mono (ok':=(fun k_=>((fun k_=>some k_ ≠ (u6:Value).ownBlock)) k_ ∧ some k_ ≠ (u5:Value).ownBlock)) (Kd.R_apart' (Kd.R_apart' (r8.out) (Kd.N_typed d1.out) (by decide)) (Kd.N_typed b2.out) (by decide)) (fun k_ hk=>⟨hk.1.2,hk.2⟩))).2.1 (Kd.R_F (Kd.R_mono (ok':=(fun k_=>((fun k_=>some k_ ≠ (u6:Value).ownBlock)) k_ ∧ some k_ ≠ (u5:Value).ownBlock)) (Kd.R_apart' (Kd.R_apart' (r8.out) (Kd.N_typed d1.out) (by decide)) (Kd.N_typed b2.out) (by decide)) (fun k_ hk=>⟨hk.1.2,hk.2⟩)))));(case aB=>exact (by repeat (first | (with_reducible first | exact HB.out | apply below_alloc | apply pw_below_drewN | apply below_drew1) | exact HB.out)));(case aF=>exact (fun k_ hk=>Kd.fresh' (Kd.N_lt (by (with_reducible repeat (first | apply Kd.N_alloc | apply Kd.N_drewN | apply Kd.N_drew));exact d1.out)) k_ hk));(case aO=>exact (by (with_reducible repeat (first | apply Kd.N_alloc | apply Kd.N_drewN | apply Kd.N_drew));exact Kd.N_mono b2.out (fun _ hk=>hk.1)));(case aS=>exact (below_size (by repeat (first | (with_reducible first | exact HB.out | apply below_alloc | apply pw_below_drewN | apply below_drew1) | exact HB.out))));(case aL=>have:=K1.out;omega);intro C3 V2 ho hb hg hat;rw [← F5.out] at ho;have e1:=Aside0.mk (Kd.N_afterv (ok:=(fun k_=>some k_ ≠ (.slice F9 t4.length G0:Value).ownBlock)) (by (with_reducible repeat (first | apply Kd.N_alloc | apply Kd.N_drewN | apply Kd.N_drew));exact Kd.N_mono d1.out (fun _ hk=>⟨hk.2,hk.1⟩)) hg hat);have e2:=Aside0.mk (hb);have e3:=Aside0.mk (ho);clear d1;clear HB;clear b2;clear r8;have d1:=e1;have HB:=e2;have i6:=e3;clear e1 e2 e3;clear ho hb hg hat) | ((with_reducible refine gate_dst (N:=43) rfl ?_);(try (refine gate_guard (by rfl) ?_;dsimp only));refine Kd.R_lit (Kd.int .i64) _ 3 ?hg (N:=43) ?hd (xs:=([0,1]:List Int)) (inner:=[.int .i64 0,.int .i64 1]) (ok:=fun _=>True) (okp:=fun _=>True) ?hr ?hp (fun _ hk=>hk) trivial (Below.refl _ _) (Nat.le_refl _) (by simp) ?_;(case hd=>rfl);(case hg=>rfl);(case hr=>first | (go_simp;done) | (go_simp;rfl));(case hp=>exact (Reps.one (show Kd.M (Kd.int .i64) _ _ _ 0 [.int .i64 0] from rfl) (Reps.one (show Kd.M (Kd.int .i64) _ _ _ 1 [.int .i64 1] from rfl) (Reps.none _ _))));intro O4 V3 q2 hb hg_ hnew_;clear hg_ hnew_;(first | rw [← D1.out] at q2 | (simp only [Int.reduceToNat] at q2;rw [← D1.out] at q2));have e1:=Aside0.mk (Kd.N_elder' (by (with_reducible repeat (first | apply Kd.N_alloc | apply Kd.N_drewN | apply Kd.N_drew));exact d1.out) (Kd.R_base q2) hb);have e2:=Aside0.mk (Kd.N_elder' (by (with_reducible repeat (first | apply Kd.N_alloc | apply Kd.N_drewN | apply Kd.N_drew));exact i6.out) (Kd.R_base q2) hb);have e3:=Aside0.mk (Kd.R_lower q2 (below_size (by repeat (first | (with_reducible first | exact HB.out | apply below_alloc | apply pw_below_drewN | apply below_drew1) | exact HB.out))));have e9:=Aside0.mk (below_step (by repeat (first | (with_reducible first | exact HB.out | apply below_alloc | apply pw_below_drewN | apply below_drew1) | exact HB.out)) hb);clear d1;clear i6;clear HB;have d1:=e1;have i6:=e2;have r9:=e3;have HB:=e9;clear e1 e2 e3 e9;clear hb q2;obtain ⟨G1,G2,K4⟩:=Kd.R_slice r9.out;subst K4) | ((with_reducible refine gate_builtin (b:=.append) (xs:=#[.tmp 41,.tmp 45]) rfl ?_);(try (refine gate_guard (by rfl) ?_;dsimp only));at_builtin;refine Kd.N_append k45 (w0:=w) w.heap.size rfl (.tmp 41) (.tmp 45) 43 45 (.agg #[(.int .i64 0),(.slice none 0 0)]) 32 rfl Try.underlying43 info45 rfl (by decide) (by omega) u6 i5 (⟨wrap64 (1 + h0),t5⟩:S45) [.int .i64 (wrap64 (1 + h0)),.slice G1 t5.length G2] (fun k_=>some k_ ≠ (C3:Value).ownBlock) (fun k_=>((fun k_=>some k_ ≠ (C3:Value).ownBlock)) k_ ∧ some k_ ≠ (u6:Value).ownBlock) rfl rfl ?aP (fun _ hk=>hk) ?aF ?aO ?aB ?aS ?aL ?_;(case aP=>exact (k45_mkF _ _ (⟨wrap64 (1 + h0),t5⟩:S45) (Kd.R_reads' (Kd.R_mono (ok':=(fun k_=>((fun k_=>some k_ ≠ (C3:Value).ownBlock)) k_ ∧ some k_ ≠ (u6:Value).ownBlock)) (Kd.R_apart' (Kd.R_apart' (r9.out) (Kd.N_typed i6.out) (by decide)) (Kd.N_typed d1.out) (by decide)) (fun k_ hk=>⟨hk.1.2,hk.2⟩))).2.1 (Kd.R_F (Kd.R_mono (ok':=(fun k_=>((fun k_=>some k_ ≠ (C3:Value).ownBlock)) k_ ∧ some k_ ≠ (u6:Value).ownBlock)) (Kd.R_apart' (Kd.R_apart' (r9.out) (Kd.N_typed i6.out) (by decide)) (Kd.N_typed d1.out) (by decide)) (fun k_ hk=>⟨hk.1.2,hk.2⟩)))));(case aB=>exact (by repeat (first | (with_reducible first | exact HB.out | apply below_alloc | apply pw_below_drewN | apply below_drew1) | exact HB.out)));(case aF=>exact (fun k_ hk=>Kd.fresh' (Kd.N_lt (by (with_reducible repeat (first | apply Kd.N_alloc | apply Kd.N_drewN | apply Kd.N_drew));exact i6.out)) k_ hk));(case aO=>exact (by (with_reducible repeat (first | apply Kd.N_alloc | apply Kd.N_drewN | apply Kd.N_drew));exact Kd.N_mono d1.out (fun _ hk=>hk.1.2)));(case aS=>exact (below_size (by repeat (first | (with_reducible first | exact HB.out | apply below_alloc | apply pw_below_drewN | apply below_drew1) | exact HB.out))));(case aL=>have:=F6.out;omega);intro O5 V4 ho hb hg hat;rw [← F8.out] at ho;have e1:=Aside0.mk (Kd.N_afterv (ok:=(fun k_=>some k_ ≠ (.slice G1 t5.length G2:Value).ownBlock)) (by (with_reducible repeat (first | apply Kd.N_alloc | apply Kd.N_drewN | apply Kd.N_drew));exact Kd.N_mono i6.out (fun _ hk=>⟨hk.2,hk.1⟩)) hg hat);have e2:=Aside0.mk (hb);have e3:=Aside0.mk (ho);clear i6;clear HB;clear d1;clear r9;have i6:=e1;have HB:=e2;have G3:=e3;clear e1 e2 e3;clear ho hb hg hat))
    go_roundg k1
    case measure=>have:=J3.out;omega
    case rel=>exact ⟨(C2),(F7),(wrap64 (m3 + (wrap64 (1 + h0)))),(wrap64 (h7 + 1)),(by first | rfl | (simp;done) | (simp [*];done)),(by first | rfl | (simp;done) | (simp [*];done)),H',⟨by have:=J3.out;omega⟩,⟨by (with_reducible repeat (first | apply Kd.N_alloc | apply Kd.N_drewN | apply Kd.N_drew));exact Kd.N_mono i6.out (fun _ hk=>hk.2)⟩,⟨by (with_reducible repeat (first | apply Kd.N_alloc | apply Kd.N_drewN | apply Kd.N_drew));exact G3.out⟩,⟨by repeat (first | (with_reducible first | exact HB.out | apply below_alloc | apply pw_below_drewN | apply below_drew1) | exact HB.out)⟩⟩
 case rest =>
  clear K0
  try clear c1
  try clear c2
  try clear p2
  try clear c5
  try clear n1
  try clear c6
  try clear x9
  try clear p6
  try clear q6
  try clear hx6
  try clear c7
  try clear C1
  try clear c8
  try clear c9
  try clear c10
  try clear i1
  try clear p2
  try clear p9
  try clear q0
  obtain ⟨kq,B0,C0,n0,rfl,HA,A5,b2,d1,HB⟩:=hcut
  cases kq with
  | zero=>exact absurd HA.out (by simp [numnahlaw07_SharesEqual.j1])
  | succ G4 =>
   have H:=HA.out
   clear HA
   simp only [numnahlaw07_SharesEqual.j1] at H
   have D8:=Aside0.mk H
   clear H
   go_upto_if 51 with (fail)
   go_cut [5,6,7] (fun v5 v6 v7 wc=>∃ (kq:Nat) (b1:List (S45)) (l6:List (S45)) (b5:Int),v7 = .int .i64 b5 ∧ Aside0 (numnahlaw07_SharesEqual.j2 kq b3 b1 l6 b5 = some r) ∧ Aside0 (kq ≤ G4) ∧ Aside0 (Kd.N k45 45 wc w.heap.size (fun k_=>some k_ ≠ (v6:Value).ownBlock) v5 b1) ∧ Aside0 (Kd.N k45 45 wc w.heap.size (fun k_=>some k_ ≠ (v5:Value).ownBlock) v6 l6) ∧ Aside0 (Below w.heap.size w wc))
   case first =>
    have H:=D8.out
    clear D8
    by_cases A6:n0 = 0
    case neg =>
     rw [if_neg A6] at H
     have l7:(n0 == 0) = false:=beq_eq_false_iff_ne.mpr A6
     have s6:(n0 != 0) = true:=bne_iff_ne.mpr A6
     (first | rw [l7] | (simp only [i64_w,i32_w];rw [l7]) | skip)
     have H':=Aside0.mk H
     clear H
     go_wp2
     go_meet
     case rel=>exact ⟨_,(B0),(C0),(n0),(by first | rfl | (simp;done) | (simp [*];done)),H',⟨by have:=A5.out;first | omega | exact Nat.le_refl _⟩,⟨by (with_reducible repeat (first | apply Kd.N_alloc | apply Kd.N_drewN | apply Kd.N_drew));exact b2.out⟩,⟨by (with_reducible repeat (first | apply Kd.N_alloc | apply Kd.N_drewN | apply Kd.N_drew));exact d1.out⟩,⟨by repeat (first | (with_reducible first | exact HB.out | apply below_alloc | apply pw_below_drewN | apply below_drew1) | exact HB.out)⟩⟩
    rw [if_pos A6] at H
    have l7:(n0 == 0) = true:=beq_iff_eq.mpr A6
    have s6:(n0 != 0) = false:=bne_eq_false_iff_eq.mpr A6
    clear A6
    (first | rw [l7] | (simp only [i64_w,i32_w];rw [l7]) | skip)
    obtain ⟨q3,o1⟩:∃ y_:List Int,y_ = (([0]:List Int)):=⟨_,rfl⟩
    replace H:(numnahlaw07_SharesEqual.j2 G4 b3 (([(⟨1,q3⟩:S45)]:List (S45))) (([(⟨1,(([0,1]:List Int))⟩:S45)]:List (S45))) 1) = some r:=by first | (rw [o1];with_reducible exact H) | (have i0:=(Option.bind_some _ _).symm.trans H;rw [o1];with_reducible exact i0) | (have i0:=(Option.bind_some _ _).symm.trans H;with_reducible exact i0) | with_reducible exact H | (rw [o1];exact H) | exact H
    have D2:=Aside0.mk o1
    clear o1
    obtain ⟨C4,o2⟩:∃ y_:List (S45),y_ = (([(⟨1,q3⟩:S45)]:List (S45))):=⟨_,rfl⟩
    replace H:(numnahlaw07_SharesEqual.j2 G4 b3 C4 (([(⟨1,(([0,1]:List Int))⟩:S45)]:List (S45))) 1) = some r:=by first | (rw [o2];with_reducible exact H) | (have i0:=(Option.bind_some _ _).symm.trans H;rw [o2];with_reducible exact i0) | (have i0:=(Option.bind_some _ _).symm.trans H;with_reducible exact i0) | with_reducible exact H | (rw [o2];exact H) | exact H
    have D3:=Aside0.mk o2
    clear o2
    obtain ⟨q4,o3⟩:∃ y_:List Int,y_ = (([0,1]:List Int)):=⟨_,rfl⟩
    replace H:(numnahlaw07_SharesEqual.j2 G4 b3 C4 (([(⟨1,q4⟩:S45)]:List (S45))) 1) = some r:=by first | (rw [o3];with_reducible exact H) | (have i0:=(Option.bind_some _ _).symm.trans H;rw [o3];with_reducible exact i0) | (have i0:=(Option.bind_some _ _).symm.trans H;with_reducible exact i0) | with_reducible exact H | (rw [o3];exact H) | exact H
    have D4:=Aside0.mk o3
    clear o3
    obtain ⟨G5,o4⟩:∃ y_:List (S45),y_ = (([(⟨1,q4⟩:S45)]:List (S45))):=⟨_,rfl⟩
    replace H:(numnahlaw07_SharesEqual.j2 G4 b3 C4 G5 1) = some r:=by first | (rw [o4];with_reducible exact H) | (have i0:=(Option.bind_some _ _).symm.trans H;rw [o4];with_reducible exact i0) | (have i0:=(Option.bind_some _ _).symm.trans H;with_reducible exact i0) | with_reducible exact H | (rw [o4];exact H) | exact H
    have D5:=Aside0.mk o4
    clear o4
    have H':=Aside0.mk H
    clear H
    go_wp2_with (first | ((with_reducible refine gate_dst (N:=52) rfl ?_);(try (refine gate_guard (by rfl) ?_;dsimp only));refine Kd.R_lit (Kd.int .i64) _ 3 ?hg (N:=52) ?hd (xs:=([0]:List Int)) (inner:=[.int .i64 0]) (ok:=fun _=>True) (okp:=fun _=>True) ?hr ?hp (fun _ hk=>hk) trivial (Below.refl _ _) (Nat.le_refl _) (by simp) ?_;(case hd=>rfl);(case hg=>rfl);(case hr=>first | (go_simp;done) | (go_simp;rfl));(case hp=>exact (Reps.one (show Kd.M (Kd.int .i64) _ _ _ 0 [.int .i64 0] from rfl) (Reps.none _ _)));intro O6 O7 q5 hb hg_ hnew_;clear hg_ hnew_;(first | rw [← D2.out] at q5 | (simp only [Int.reduceToNat] at q5;rw [← D2.out] at q5));have e1:=Aside0.mk (Kd.N_elder' (by (with_reducible repeat (first | apply Kd.N_alloc | apply Kd.N_drewN | apply Kd.N_drew));exact b2.out) (Kd.R_base q5) hb);have e2:=Aside0.mk (Kd.N_elder' (by (with_reducible repeat (first | apply Kd.N_alloc | apply Kd.N_drewN | apply Kd.N_drew));exact d1.out) (Kd.R_base q5) hb);have e3:=Aside0.mk (Kd.R_lower q5 (below_size (by repeat (first | (with_reducible first | exact HB.out | apply below_alloc | apply pw_below_drewN | apply below_drew1) | exact HB.out))));have e9:=Aside0.mk (below_step (by repeat (first | (with_reducible first | exact HB.out | apply below_alloc | apply pw_below_drewN | apply below_drew1) | exact HB.out)) hb);clear b2;clear d1;clear HB;have b2:=e1;have d1:=e2;have s7:=e3;have HB:=e9;clear e1 e2 e3 e9;clear hb q5;obtain ⟨G6,G7,K5⟩:=Kd.R_slice s7.out;subst K5) | ((with_reducible refine gate_dst (N:=54) rfl ?_);(try (refine gate_guard (by rfl) ?_;dsimp only));refine Kd.N_lit k45 _ 45 ?hg (N':=54) ?hd (xs:=([(⟨1,q3⟩:S45)]:List (S45))) (inner:=[.int .i64 1,.slice G6 q3.length G7]) (ok:=(fun k_=>some k_ ≠ (u5:Value).ownBlock ∧ some k_ ≠ (u6:Value).ownBlock)) (okp:=(fun k_=>some k_ ≠ (u5:Value).ownBlock ∧ some k_ ≠ (u6:Value).ownBlock)) ?hr ?hp (fun _ hk=>hk) ((show ∀ k_,O7.heap.size ≤ k_ → (fun k_=>some k_ ≠ (u5:Value).ownBlock ∧ some k_ ≠ (u6:Value).ownBlock) k_ from fun k_ hk=>⟨Kd.fresh' (Kd.N_lt (by (with_reducible repeat (first | apply Kd.N_alloc | apply Kd.N_drewN | apply Kd.N_drew));exact b2.out)) k_ hk,Kd.fresh' (Kd.N_lt (by (with_reducible repeat (first | apply Kd.N_alloc | apply Kd.N_drewN | apply Kd.N_drew));exact d1.out)) k_ hk⟩) _ (Nat.le_refl _)) (Below.refl _ _) (Nat.le_refl _) (by simp) ?_;(case hd=>rfl);(case hg=>rfl);(case hr=>first | (go_simp;done) | (go_simp;rfl));(case hp=>exact (Reps.c2 (show Kd.FK k45 _ _ (⟨1,q3⟩:S45) [.int .i64 1,.slice G6 q3.length G7] from (k45_mkF _ _ (⟨1,q3⟩:S45) (Kd.R_reads' (Kd.R_mono (ok':=(fun k_=>some k_ ≠ (u5:Value).ownBlock ∧ some k_ ≠ (u6:Value).ownBlock)) (Kd.R_apart' (Kd.R_apart' (s7.out) (Kd.N_typed b2.out) (by decide)) (Kd.N_typed d1.out) (by decide)) (fun k_ hk=>⟨hk.1.2,hk.2⟩))).2.1 (Kd.R_F (Kd.R_mono (ok':=(fun k_=>some k_ ≠ (u5:Value).ownBlock ∧ some k_ ≠ (u6:Value).ownBlock)) (Kd.R_apart' (Kd.R_apart' (s7.out) (Kd.N_typed b2.out) (by decide)) (Kd.N_typed d1.out) (by decide)) (fun k_ hk=>⟨hk.1.2,hk.2⟩))))) (Reps.none _ _)));intro y7 V5 q7 hb hg_ hnew_;clear hg_ hnew_;(first | rw [← D3.out] at q7 | (simp only [Int.reduceToNat] at q7;rw [← D3.out] at q7));have e1:=Aside0.mk (Kd.N_elder' (by (with_reducible repeat (first | apply Kd.N_alloc | apply Kd.N_drewN | apply Kd.N_drew));exact b2.out) (Kd.N_base q7) hb);have e2:=Aside0.mk (Kd.N_elder' (by (with_reducible repeat (first | apply Kd.N_alloc | apply Kd.N_drewN | apply Kd.N_drew));exact d1.out) (Kd.N_base q7) hb);have e3:=Aside0.mk (Kd.N_lower q7 (below_size (by repeat (first | (with_reducible first | exact HB.out | apply below_alloc | apply pw_below_drewN | apply below_drew1) | exact HB.out))));have e9:=Aside0.mk (below_step (by repeat (first | (with_reducible first | exact HB.out | apply below_alloc | apply pw_below_drewN | apply below_drew1) | exact HB.out)) hb);clear b2;clear d1;clear HB;clear s7;have b2:=e1;have d1:=e2;have i7:=e3;have HB:=e9;clear e1 e2 e3 e9;clear hb q7) | ((with_reducible refine gate_dst (N:=55) rfl ?_);(try (refine gate_guard (by rfl) ?_;dsimp only));refine Kd.R_lit (Kd.int .i64) _ 3 ?hg (N:=55) ?hd (xs:=([0,1]:List Int)) (inner:=[.int .i64 0,.int .i64 1]) (ok:=fun _=>True) (okp:=fun _=>True) ?hr ?hp (fun _ hk=>hk) trivial (Below.refl _ _) (Nat.le_refl _) (by simp) ?_;(case hd=>rfl);(case hg=>rfl);(case hr=>first | (go_simp;done) | (go_simp;rfl));(case hp=>exact (Reps.one (show Kd.M (Kd.int .i64) _ _ _ 0 [.int .i64 0] from rfl) (Reps.one (show Kd.M (Kd.int .i64) _ _ _ 1 [.int .i64 1] from rfl) (Reps.none _ _))));intro O8 O9 o5 hb hg_ hnew_;clear hg_ hnew_;(first | rw [← D4.out] at o5 | (simp only [Int.reduceToNat] at o5;rw [← D4.out] at o5));have e1:=Aside0.mk (Kd.N_elder' (by (with_reducible repeat (first | apply Kd.N_alloc | apply Kd.N_drewN | apply Kd.N_drew));exact b2.out) (Kd.R_base o5) hb);have e2:=Aside0.mk (Kd.N_elder' (by (with_reducible repeat (first | apply Kd.N_alloc | apply Kd.N_drewN | apply Kd.N_drew));exact d1.out) (Kd.R_base o5) hb);have e3:=Aside0.mk (Kd.N_elder' (by (with_reducible repeat (first | apply Kd.N_alloc | apply Kd.N_drewN | apply Kd.N_drew));exact i7.out) (Kd.R_base o5) hb);have e9:=Aside0.mk (Kd.R_lower o5 (below_size (by repeat (first | (with_reducible first | exact HB.out | apply below_alloc | apply pw_below_drewN | apply below_drew1) | exact HB.out))));have h9:=Aside0.mk (below_step (by repeat (first | (with_reducible first | exact HB.out | apply below_alloc | apply pw_below_drewN | apply below_drew1) | exact HB.out)) hb);clear b2;clear d1;clear i7;clear HB;have b2:=e1;have d1:=e2;have i7:=e3;have s8:=e9;have HB:=h9;clear e1 e2 e3 e9 h9;clear hb o5;obtain ⟨G8,G9,K6⟩:=Kd.R_slice s8.out;subst K6) | ((with_reducible refine gate_dst (N:=57) rfl ?_);(try (refine gate_guard (by rfl) ?_;dsimp only));refine Kd.N_lit k45 _ 45 ?hg (N':=57) ?hd (xs:=([(⟨1,q4⟩:S45)]:List (S45))) (inner:=[.int .i64 1,.slice G8 q4.length G9]) (ok:=(fun k_=>some k_ ≠ (u5:Value).ownBlock ∧ some k_ ≠ (u6:Value).ownBlock ∧ some k_ ≠ (y7:Value).ownBlock)) (okp:=(fun k_=>some k_ ≠ (u5:Value).ownBlock ∧ some k_ ≠ (u6:Value).ownBlock ∧ some k_ ≠ (y7:Value).ownBlock)) ?hr ?hp (fun _ hk=>hk) ((show ∀ k_,O9.heap.size ≤ k_ → (fun k_=>some k_ ≠ (u5:Value).ownBlock ∧ some k_ ≠ (u6:Value).ownBlock ∧ some k_ ≠ (y7:Value).ownBlock) k_ from fun k_ hk=>⟨Kd.fresh' (Kd.N_lt (by (with_reducible repeat (first | apply Kd.N_alloc | apply Kd.N_drewN | apply Kd.N_drew));exact b2.out)) k_ hk,Kd.fresh' (Kd.N_lt (by (with_reducible repeat (first | apply Kd.N_alloc | apply Kd.N_drewN | apply Kd.N_drew));exact d1.out)) k_ hk,Kd.fresh' (Kd.N_lt (by (with_reducible repeat (first | apply Kd.N_alloc | apply Kd.N_drewN | apply Kd.N_drew));exact i7.out)) k_ hk⟩) _ (Nat.le_refl _)) (Below.refl _ _) (Nat.le_refl _) (by simp) ?_;(case hd=>rfl);(case hg=>rfl);(case hr=>first | (go_simp;done) | (go_simp;rfl));(case hp=>exact (Reps.c2 (show Kd.FK k45 _ _ (⟨1,q4⟩:S45) [.int .i64 1,.slice G8 q4.length G9] from (k45_mkF _ _ (⟨1,q4⟩:S45) (Kd.R_reads' (Kd.R_mono (ok':=(fun k_=>some k_ ≠ (u5:Value).ownBlock ∧ some k_ ≠ (u6:Value).ownBlock ∧ some k_ ≠ (y7:Value).ownBlock)) (Kd.R_apart' (Kd.R_apart' (Kd.R_apart' (s8.out) (Kd.N_typed b2.out) (by decide)) (Kd.N_typed d1.out) (by decide)) (Kd.N_typed i7.out) (by decide)) (fun k_ hk=>⟨hk.1.1.2,⟨hk.1.2,hk.2⟩⟩))).2.1 (Kd.R_F (Kd.R_mono (ok':=(fun k_=>some k_ ≠ (u5:Value).ownBlock ∧ some k_ ≠ (u6:Value).ownBlock ∧ some k_ ≠ (y7:Value).ownBlock)) (Kd.R_apart' (Kd.R_apart' (Kd.R_apart' (s8.out) (Kd.N_typed b2.out) (by decide)) (Kd.N_typed d1.out) (by decide)) (Kd.N_typed i7.out) (by decide)) (fun k_ hk=>⟨hk.1.1.2,⟨hk.1.2,hk.2⟩⟩))))) (Reps.none _ _)));intro P0 V6 o6 hb hg_ hnew_;clear hg_ hnew_;(first | rw [← D5.out] at o6 | (simp only [Int.reduceToNat] at o6;rw [← D5.out] at o6));have e1:=Aside0.mk (Kd.N_elder' (by (with_reducible repeat (first | apply Kd.N_alloc | apply Kd.N_drewN | apply Kd.N_drew));exact b2.out) (Kd.N_base o6) hb);have e2:=Aside0.mk (Kd.N_elder' (by (with_reducible repeat (first | apply Kd.N_alloc | apply Kd.N_drewN | apply Kd.N_drew));exact d1.out) (Kd.N_base o6) hb);have e3:=Aside0.mk (Kd.N_elder' (by (with_reducible repeat (first | apply Kd.N_alloc | apply Kd.N_drewN | apply Kd.N_drew));exact i7.out) (Kd.N_base o6) hb);have e9:=Aside0.mk (Kd.N_lower o6 (below_size (by repeat (first | (with_reducible first | exact HB.out | apply below_alloc | apply pw_below_drewN | apply below_drew1) | exact HB.out))));have h9:=Aside0.mk (below_step (by repeat (first | (with_reducible first | exact HB.out | apply below_alloc | apply pw_below_drewN | apply below_drew1) | exact HB.out)) hb);clear b2;clear d1;clear i7;clear HB;clear s8;have b2:=e1;have d1:=e2;have i7:=e3;have H0:=e9;have HB:=h9;clear e1 e2 e3 e9 h9;clear hb o6))
    go_meet
    case rel=>exact ⟨_,(C4),(G5),(1),(by first | rfl | (simp;done) | (simp [*];done)),H',⟨by have:=A5.out;first | omega | exact Nat.le_refl _⟩,⟨by (with_reducible repeat (first | apply Kd.N_alloc | apply Kd.N_drewN | apply Kd.N_drew));exact Kd.N_mono i7.out (fun _ hk=>hk.2)⟩,⟨by (with_reducible repeat (first | apply Kd.N_alloc | apply Kd.N_drewN | apply Kd.N_drew));exact Kd.N_mono H0.out (fun _ hk=>hk.2.2)⟩,⟨by repeat (first | (with_reducible first | exact HB.out | apply below_alloc | apply pw_below_drewN | apply below_drew1) | exact HB.out)⟩⟩
   case rest =>
    clear D8
    try clear c1
    try clear c2
    try clear p2
    try clear c5
    try clear n1
    try clear c6
    try clear x9
    try clear p6
    try clear q6
    try clear hx6
    try clear c7
    try clear C1
    try clear c8
    try clear c9
    try clear c10
    try clear A6
    try clear l7
    try clear s6
    try clear N2
    try clear i1
    try clear p2
    try clear p6
    try clear p9
    try clear q6
    try clear q0
    obtain ⟨kq,b1,l6,b5,rfl,HA,o7,b2,d1,HB⟩:=hcut
    cases kq with
    | zero=>exact absurd HA.out (by simp [numnahlaw07_SharesEqual.j2])
    | succ d5 =>
     have H:=HA.out
     clear HA
     simp only [numnahlaw07_SharesEqual.j2] at H
     obtain ⟨D9,o8⟩:∃ y_:List Int,y_ = (([b3]:List Int)):=⟨_,rfl⟩
     replace H:((shares_Fair.f d5 D9 b1).bind fun d2=>((shares_Fair.f d5 (([200,b3]:List Int)) l6).bind fun c0=>(if d2.2.2 = 0 then (if c0.2.2 = 0 then ((numnahref07_Same.f d5 d2.1 c0.1).bind fun m0=>(if m0 = true then (if (d2.1.length:Int) = (b1.length:Int) then (if (d2.2.1.length:Int) = (b1.length:Int) then (numnahlaw07_SharesEqual.j3 d5 b3 b1 b5 d2.1 d2.2.1 c0.2.1 ((c0.2.1.length:Int) != (b1.length:Int))) else (numnahlaw07_SharesEqual.j3 d5 b3 b1 b5 d2.1 d2.2.1 c0.2.1 true)) else (numnahlaw07_SharesEqual.j3 d5 b3 b1 b5 d2.1 d2.2.1 c0.2.1 true)) else (numnahlaw07_SharesEqual.j3 d5 b3 b1 b5 d2.1 d2.2.1 c0.2.1 true))) else (numnahlaw07_SharesEqual.j3 d5 b3 b1 b5 d2.1 d2.2.1 c0.2.1 true)) else (numnahlaw07_SharesEqual.j3 d5 b3 b1 b5 d2.1 d2.2.1 c0.2.1 true)))) = some r:=by first | (rw [o8];with_reducible exact H) | (have i0:=(Option.bind_some _ _).symm.trans H;rw [o8];with_reducible exact i0) | (have i0:=(Option.bind_some _ _).symm.trans H;with_reducible exact i0) | with_reducible exact H | (rw [o8];exact H) | exact H
     have D6:=Aside0.mk o8
     clear o8
     replace H:=Option.bind_eq_some_iff.mp H
     obtain ⟨⟨b4,b9,n2⟩,A310,H⟩:=H
     replace H:((shares_Fair.f d5 (([200,b3]:List Int)) l6).bind fun c0=>(if n2 = 0 then (if c0.2.2 = 0 then ((numnahref07_Same.f d5 b4 c0.1).bind fun m0=>(if m0 = true then (if (b4.length:Int) = (b1.length:Int) then (if (b9.length:Int) = (b1.length:Int) then (numnahlaw07_SharesEqual.j3 d5 b3 b1 b5 b4 b9 c0.2.1 ((c0.2.1.length:Int) != (b1.length:Int))) else (numnahlaw07_SharesEqual.j3 d5 b3 b1 b5 b4 b9 c0.2.1 true)) else (numnahlaw07_SharesEqual.j3 d5 b3 b1 b5 b4 b9 c0.2.1 true)) else (numnahlaw07_SharesEqual.j3 d5 b3 b1 b5 b4 b9 c0.2.1 true))) else (numnahlaw07_SharesEqual.j3 d5 b3 b1 b5 b4 b9 c0.2.1 true)) else (numnahlaw07_SharesEqual.j3 d5 b3 b1 b5 b4 b9 c0.2.1 true))) = some r:=H
     have P1:=Aside0.mk A310
     clear A310
     obtain ⟨E0,o9⟩:∃ y_:List Int,y_ = (([200,b3]:List Int)):=⟨_,rfl⟩
     replace H:((shares_Fair.f d5 E0 l6).bind fun c0=>(if n2 = 0 then (if c0.2.2 = 0 then ((numnahref07_Same.f d5 b4 c0.1).bind fun m0=>(if m0 = true then (if (b4.length:Int) = (b1.length:Int) then (if (b9.length:Int) = (b1.length:Int) then (numnahlaw07_SharesEqual.j3 d5 b3 b1 b5 b4 b9 c0.2.1 ((c0.2.1.length:Int) != (b1.length:Int))) else (numnahlaw07_SharesEqual.j3 d5 b3 b1 b5 b4 b9 c0.2.1 true)) else (numnahlaw07_SharesEqual.j3 d5 b3 b1 b5 b4 b9 c0.2.1 true)) else (numnahlaw07_SharesEqual.j3 d5 b3 b1 b5 b4 b9 c0.2.1 true))) else (numnahlaw07_SharesEqual.j3 d5 b3 b1 b5 b4 b9 c0.2.1 true)) else (numnahlaw07_SharesEqual.j3 d5 b3 b1 b5 b4 b9 c0.2.1 true))) = some r:=by first | (rw [o9];with_reducible exact H) | (have i0:=(Option.bind_some _ _).symm.trans H;rw [o9];with_reducible exact i0) | (have i0:=(Option.bind_some _ _).symm.trans H;with_reducible exact i0) | with_reducible exact H | (rw [o9];exact H) | exact H
     have D7:=Aside0.mk o9
     clear o9
     replace H:=Option.bind_eq_some_iff.mp H
     obtain ⟨⟨t6,d9,q8⟩,A320,H⟩:=H
     replace H:(if n2 = 0 then (if q8 = 0 then ((numnahref07_Same.f d5 b4 t6).bind fun m0=>(if m0 = true then (if (b4.length:Int) = (b1.length:Int) then (if (b9.length:Int) = (b1.length:Int) then (numnahlaw07_SharesEqual.j3 d5 b3 b1 b5 b4 b9 d9 ((d9.length:Int) != (b1.length:Int))) else (numnahlaw07_SharesEqual.j3 d5 b3 b1 b5 b4 b9 d9 true)) else (numnahlaw07_SharesEqual.j3 d5 b3 b1 b5 b4 b9 d9 true)) else (numnahlaw07_SharesEqual.j3 d5 b3 b1 b5 b4 b9 d9 true))) else (numnahlaw07_SharesEqual.j3 d5 b3 b1 b5 b4 b9 d9 true)) else (numnahlaw07_SharesEqual.j3 d5 b3 b1 b5 b4 b9 d9 true)) = some r:=H
     have P2:=Aside0.mk A320
     clear A320
     have E1:=Aside0.mk H
     clear H
     go_upto_region 17 with (first | ((with_reducible refine gate_dst (N:=60) rfl ?_);(try (refine gate_guard (by rfl) ?_;dsimp only));refine Kd.R_lit (Kd.int .i64) _ 3 ?hg (N:=60) ?hd (xs:=([b3]:List Int)) (inner:=[.int .i64 b3]) (ok:=fun _=>True) (okp:=fun _=>True) ?hr ?hp (fun _ hk=>hk) trivial (Below.refl _ _) (Nat.le_refl _) (by simp) ?_;(case hd=>rfl);(case hg=>rfl);(case hr=>first | (go_simp;done) | (go_simp;rfl));(case hp=>exact (Reps.one (show Kd.M (Kd.int .i64) _ _ _ b3 [.int .i64 b3] from rfl) (Reps.none _ _)));intro P3 V7 q9 hb hg_ hnew_;clear hg_ hnew_;(first | rw [← D6.out] at q9 | (simp only [Int.reduceToNat] at q9;rw [← D6.out] at q9));have e1:=Aside0.mk (Kd.N_elder' (by (with_reducible repeat (first | apply Kd.N_alloc | apply Kd.N_drewN | apply Kd.N_drew));exact b2.out) (Kd.R_base q9) hb);have e2:=Aside0.mk (Kd.N_elder' (by (with_reducible repeat (first | apply Kd.N_alloc | apply Kd.N_drewN | apply Kd.N_drew));exact d1.out) (Kd.R_base q9) hb);have e3:=Aside0.mk (Kd.R_lower q9 (below_size (by repeat (first | (with_reducible first | exact HB.out | apply below_alloc | apply pw_below_drewN | apply below_drew1) | exact HB.out))));have e9:=Aside0.mk (below_step (by repeat (first | (with_reducible first | exact HB.out | apply below_alloc | apply pw_below_drewN | apply below_drew1) | exact HB.out)) hb);clear b2;clear d1;clear HB;have b2:=e1;have d1:=e2;have h3:=e3;have HB:=e9;clear e1 e2 e3 e9;clear hb q9;obtain ⟨K7,K8,K9⟩:=Kd.R_slice h3.out;subst K9;obtain ⟨E2,E3,L0⟩:=Kd.N_slice b2.out;subst L0) | ((with_reducible refine gate_callee (f:=32) rfl ?_);refine goesL_ (some 62) rfl rfl Try.func32 (by kernel_rfl) rfl #[.slice K7 D9.length K8,.slice E2 b1.length E3] rfl (by (try simp only [List.map_toArray,List.map_cons,List.map_nil]);first | done | rfl | (simp only [List.length_drop,List.length_take];rfl)) ?_;(with_reducible refine (shares_Fair.calls d5 _ _ D9 _ _ b1 b4 b9 n2 _ ?side1 ?side2 ?side3 ?side4 P1.out).mono ?_);(case side1=>repeat (first | exact (Kd.R_reads' h3.out).2.2 | (with_reducible refine Kd.C_alloc ?_ _) | (with_reducible refine Kd.C_drewN ?_ _) | (with_reducible refine Kd.C_drew ?_)));(case side2=>exact (Kd.R_reads' h3.out).2.1);(case side3=>repeat (first | exact (Kd.N_reads' b2.out).2.2 | (with_reducible refine Kd.C_alloc ?_ _) | (with_reducible refine Kd.C_drewN ?_ _) | (with_reducible refine Kd.C_drew ?_)));(case side4=>exact (Kd.N_reads' b2.out).2.1);rintro e V8 ⟨C5,t7,rfl,A7,t8,hb⟩;refine ⟨_,rfl,?_⟩;have e1:=Aside0.mk (Kd.N_mono (Kd.N_told (Kd.N_told (Kd.N_old (by (with_reducible repeat (first | apply Kd.N_alloc | apply Kd.N_drewN | apply Kd.N_drew));exact b2.out) hb) (Kd.R_base A7)) (Kd.R_base t8)) (fun _ h_=>h_.1));have e2:=Aside0.mk (Kd.N_mono (Kd.N_told (Kd.N_told (Kd.N_old (by (with_reducible repeat (first | apply Kd.N_alloc | apply Kd.N_drewN | apply Kd.N_drew));exact d1.out) hb) (Kd.R_base A7)) (Kd.R_base t8)) (fun _ h_=>h_.1));have e3:=Aside0.mk (Kd.R_elder' (by (with_reducible repeat (first | apply Kd.R_alloc | apply Kd.R_drewN | apply Kd.R_drew));exact h3.out) (Kd.R_base t8) hb);have e9:=Aside0.mk (Kd.R_lower A7 (below_size (by repeat (first | (with_reducible first | exact HB.out | apply below_alloc | apply pw_below_drewN | apply below_drew1) | exact HB.out))));have h9:=Aside0.mk (Kd.R_lower (Kd.R_new' t8 (Kd.R_lt (by (with_reducible repeat (first | apply Kd.R_alloc | apply Kd.R_drewN | apply Kd.R_drew));exact h3.out))) (below_size (by repeat (first | (with_reducible first | exact HB.out | apply below_alloc | apply pw_below_drewN | apply below_drew1) | exact HB.out))));have m9:=Aside0.mk (below_step (by repeat (first | (with_reducible first | exact HB.out | apply below_alloc | apply pw_below_drewN | apply below_drew1) | exact HB.out)) hb);clear b2;clear d1;clear h3;clear HB;have b2:=e1;have d1:=e2;have h3:=e3;have e0:=e9;have h2:=h9;have HB:=m9;clear e1 e2 e3 e9 h9 m9;(try clear hb);(try clear A7);(try clear t8)) | ((with_reducible refine gate_dst (N:=68) rfl ?_);(try (refine gate_guard (by rfl) ?_;dsimp only));refine Kd.R_lit (Kd.int .i64) _ 3 ?hg (N:=68) ?hd (xs:=([200,b3]:List Int)) (inner:=[.int .i64 200,.int .i64 b3]) (ok:=fun _=>True) (okp:=fun _=>True) ?hr ?hp (fun _ hk=>hk) trivial (Below.refl _ _) (Nat.le_refl _) (by simp) ?_;(case hd=>rfl);(case hg=>rfl);(case hr=>first | (go_simp;done) | (go_simp;rfl));(case hp=>exact (Reps.one (show Kd.M (Kd.int .i64) _ _ _ 200 [.int .i64 200] from rfl) (Reps.one (show Kd.M (Kd.int .i64) _ _ _ b3 [.int .i64 b3] from rfl) (Reps.none _ _))));intro P4 V9 n3 hb hg_ hnew_;clear hg_ hnew_;(first | rw [← D7.out] at n3 | (simp only [Int.reduceToNat] at n3;rw [← D7.out] at n3));have e1:=Aside0.mk (Kd.N_elder' (by (with_reducible repeat (first | apply Kd.N_alloc | apply Kd.N_drewN | apply Kd.N_drew));exact b2.out) (Kd.R_base n3) hb);have e2:=Aside0.mk (Kd.N_elder' (by (with_reducible repeat (first | apply Kd.N_alloc | apply Kd.N_drewN | apply Kd.N_drew));exact d1.out) (Kd.R_base n3) hb);have e3:=Aside0.mk (Kd.R_elder' (by (with_reducible repeat (first | apply Kd.R_alloc | apply Kd.R_drewN | apply Kd.R_drew));exact h3.out) (Kd.R_base n3) hb);have e9:=Aside0.mk (Kd.R_below (by (with_reducible repeat (first | apply Kd.R_alloc | apply Kd.R_drewN | apply Kd.R_drew));exact e0.out) hb);have h9:=Aside0.mk (Kd.R_elder' (by (with_reducible repeat (first | apply Kd.R_alloc | apply Kd.R_drewN | apply Kd.R_drew));exact h2.out) (Kd.R_base n3) hb);have m9:=Aside0.mk (Kd.R_lower (Kd.R_new' (Kd.R_new' n3 (Kd.R_lt (by (with_reducible repeat (first | apply Kd.R_alloc | apply Kd.R_drewN | apply Kd.R_drew));exact h3.out))) (Kd.R_lt (by (with_reducible repeat (first | apply Kd.R_alloc | apply Kd.R_drewN | apply Kd.R_drew));exact h2.out))) (below_size (by repeat (first | (with_reducible first | exact HB.out | apply below_alloc | apply pw_below_drewN | apply below_drew1) | exact HB.out))));have p0:=Aside0.mk (below_step (by repeat (first | (with_reducible first | exact HB.out | apply below_alloc | apply pw_below_drewN | apply below_drew1) | exact HB.out)) hb);clear b2;clear d1;clear h3;clear e0;clear h2;clear HB;have b2:=e1;have d1:=e2;have h3:=e3;have e0:=e9;have h2:=h9;have m4:=m9;have HB:=p0;clear e1 e2 e3 e9 h9 m9 p0;clear hb n3;obtain ⟨L1,L2,L3⟩:=Kd.R_slice m4.out;subst L3;obtain ⟨L4,L5,L6⟩:=Kd.N_slice d1.out;subst L6) | ((with_reducible refine gate_callee (f:=32) rfl ?_);refine goesL_ (some 70) rfl rfl Try.func32 (by kernel_rfl) rfl #[.slice L1 E0.length L2,.slice L4 l6.length L5] rfl (by (try simp only [List.map_toArray,List.map_cons,List.map_nil]);first | done | rfl | (simp only [List.length_drop,List.length_take];rfl)) ?_;(with_reducible refine (shares_Fair.calls d5 _ _ E0 _ _ l6 t6 d9 q8 _ ?side1 ?side2 ?side3 ?side4 P2.out).mono ?_);(case side1=>repeat (first | exact (Kd.R_reads' m4.out).2.2 | (with_reducible refine Kd.C_alloc ?_ _) | (with_reducible refine Kd.C_drewN ?_ _) | (with_reducible refine Kd.C_drew ?_)));(case side2=>exact (Kd.R_reads' m4.out).2.1);(case side3=>repeat (first | exact (Kd.N_reads' d1.out).2.2 | (with_reducible refine Kd.C_alloc ?_ _) | (with_reducible refine Kd.C_drewN ?_ _) | (with_reducible refine Kd.C_drew ?_)));(case side4=>exact (Kd.N_reads' d1.out).2.1);rintro e W0 ⟨P5,t9,rfl,A7,t8,hb⟩;refine ⟨_,rfl,?_⟩;have e1:=Aside0.mk (Kd.N_mono (Kd.N_told (Kd.N_told (Kd.N_old (by (with_reducible repeat (first | apply Kd.N_alloc | apply Kd.N_drewN | apply Kd.N_drew));exact b2.out) hb) (Kd.R_base A7)) (Kd.R_base t8)) (fun _ h_=>h_.1));have e2:=Aside0.mk (Kd.N_mono (Kd.N_told (Kd.N_told (Kd.N_old (by (with_reducible repeat (first | apply Kd.N_alloc | apply Kd.N_drewN | apply Kd.N_drew));exact d1.out) hb) (Kd.R_base A7)) (Kd.R_base t8)) (fun _ h_=>h_.1));have e3:=Aside0.mk (Kd.R_elder' (by (with_reducible repeat (first | apply Kd.R_alloc | apply Kd.R_drewN | apply Kd.R_drew));exact h3.out) (Kd.R_base t8) hb);have e9:=Aside0.mk (Kd.R_elder' (by (with_reducible repeat (first | apply Kd.R_alloc | apply Kd.R_drewN | apply Kd.R_drew));exact e0.out) (Kd.R_base A7) hb);have h9:=Aside0.mk (Kd.R_elder' (by (with_reducible repeat (first | apply Kd.R_alloc | apply Kd.R_drewN | apply Kd.R_drew));exact h2.out) (Kd.R_base t8) hb);have m9:=Aside0.mk (Kd.R_elder' (by (with_reducible repeat (first | apply Kd.R_alloc | apply Kd.R_drewN | apply Kd.R_drew));exact m4.out) (Kd.R_base t8) hb);have p0:=Aside0.mk (Kd.R_lower (Kd.R_new' A7 (Kd.R_lt (by (with_reducible repeat (first | apply Kd.R_alloc | apply Kd.R_drewN | apply Kd.R_drew));exact e0.out))) (below_size (by repeat (first | (with_reducible first | exact HB.out | apply below_alloc | apply pw_below_drewN | apply below_drew1) | exact HB.out))));have N3:=Aside0.mk (Kd.R_lower (Kd.R_new' (Kd.R_new' (Kd.R_new' t8 (Kd.R_lt (by (with_reducible repeat (first | apply Kd.R_alloc | apply Kd.R_drewN | apply Kd.R_drew));exact h3.out))) (Kd.R_lt (by (with_reducible repeat (first | apply Kd.R_alloc | apply Kd.R_drewN | apply Kd.R_drew));exact h2.out))) (Kd.R_lt (by (with_reducible repeat (first | apply Kd.R_alloc | apply Kd.R_drewN | apply Kd.R_drew));exact m4.out))) (below_size (by repeat (first | (with_reducible first | exact HB.out | apply below_alloc | apply pw_below_drewN | apply below_drew1) | exact HB.out))));have N4:=Aside0.mk (below_step (by repeat (first | (with_reducible first | exact HB.out | apply below_alloc | apply pw_below_drewN | apply below_drew1) | exact HB.out)) hb);clear b2;clear d1;clear h3;clear e0;clear h2;clear m4;clear HB;have b2:=e1;have d1:=e2;have h3:=e3;have e0:=e9;have h2:=h9;have m4:=m9;have i4:=p0;have m5:=N3;have HB:=N4;clear e1 e2 e3 e9 h9 m9 p0 N3 N4;(try clear hb);(try clear A7);(try clear t8)))
     (try simp only [Act.put,List.setIfInBounds_toArray,List.set_cons_zero,List.set_cons_succ])
     go_cut [106] (fun L7 wc=>∃ (kq:Nat) (m2:Bool),L7 = .bool m2 ∧ Aside0 (numnahlaw07_SharesEqual.j3 kq b3 b1 b5 b4 b9 d9 m2 = some r) ∧ Aside0 (kq ≤ d5) ∧ Aside0 (Kd.N k45 45 wc w.heap.size (fun k_=>some k_ ≠ (C5:Value).ownBlock ∧ some k_ ≠ (t7:Value).ownBlock ∧ some k_ ≠ (t9:Value).ownBlock) (.slice E2 b1.length E3) b1) ∧ Aside0 (Kd.R k23 23 wc w.heap.size (fun _=>True) C5 b4) ∧ Aside0 (Kd.R (Kd.int .i64) 3 wc w.heap.size (fun k_=>some k_ ≠ (t9:Value).ownBlock) t7 b9) ∧ Aside0 (Kd.R (Kd.int .i64) 3 wc w.heap.size (fun k_=>some k_ ≠ (t7:Value).ownBlock) t9 d9) ∧ Aside0 (Below w.heap.size w wc))
     case first =>
      have H:=E1.out
      clear E1
      by_cases C6:n2 = 0
      case neg =>
       rw [if_neg C6] at H
       have m6:(n2 == 0) = false:=beq_eq_false_iff_ne.mpr C6
       have y8:(n2 != 0) = true:=bne_iff_ne.mpr C6
       (first | rw [m6] | (simp only [i64_w,i32_w];rw [m6]) | skip)
       have H':=Aside0.mk H
       clear H
       go_wp2
       go_meet
       case rel=>exact ⟨_,(true),(by first | rfl | (simp;done) | (simp [*];done)),H',⟨by have:=A5.out;have:=o7.out;first | omega | exact Nat.le_refl _⟩,⟨by (with_reducible repeat (first | apply Kd.N_alloc | apply Kd.N_drewN | apply Kd.N_drew));exact Kd.N_mono b2.out (fun _ hk=>⟨hk.1.1.1.1.2,⟨hk.1.1.1.2,hk.2⟩⟩)⟩,⟨by (with_reducible repeat (first | apply Kd.R_alloc | apply Kd.R_drewN | apply Kd.R_drew));exact Kd.R_mono e0.out (fun _ hk=>trivial)⟩,⟨by (with_reducible repeat (first | apply Kd.R_alloc | apply Kd.R_drewN | apply Kd.R_drew));exact Kd.R_mono h2.out (fun _ hk=>hk.2)⟩,⟨by (with_reducible repeat (first | apply Kd.R_alloc | apply Kd.R_drewN | apply Kd.R_drew));exact Kd.R_mono m5.out (fun _ hk=>hk.1.2)⟩,⟨by repeat (first | (with_reducible first | exact HB.out | apply below_alloc | apply pw_below_drewN | apply below_drew1) | exact HB.out)⟩⟩
      rw [if_pos C6] at H
      have m6:(n2 == 0) = true:=beq_iff_eq.mpr C6
      have y8:(n2 != 0) = false:=bne_eq_false_iff_eq.mpr C6
      clear C6
      (first | rw [m6] | (simp only [i64_w,i32_w];rw [m6]) | skip)
      by_cases C7:q8 = 0
      case neg =>
       rw [if_neg C7] at H
       have y9:(q8 == 0) = false:=beq_eq_false_iff_ne.mpr C7
       have z0:(q8 != 0) = true:=bne_iff_ne.mpr C7
       have H':=Aside0.mk H
       clear H
       go_wp2
       go_meet
       case rel=>exact ⟨_,(true),(by first | rfl | (simp;done) | (simp [*];done)),H',⟨by have:=A5.out;have:=o7.out;first | omega | exact Nat.le_refl _⟩,⟨by (with_reducible repeat (first | apply Kd.N_alloc | apply Kd.N_drewN | apply Kd.N_drew));exact Kd.N_mono b2.out (fun _ hk=>⟨hk.1.1.1.1.2,⟨hk.1.1.1.2,hk.2⟩⟩)⟩,⟨by (with_reducible repeat (first | apply Kd.R_alloc | apply Kd.R_drewN | apply Kd.R_drew));exact Kd.R_mono e0.out (fun _ hk=>trivial)⟩,⟨by (with_reducible repeat (first | apply Kd.R_alloc | apply Kd.R_drewN | apply Kd.R_drew));exact Kd.R_mono h2.out (fun _ hk=>hk.2)⟩,⟨by (with_reducible repeat (first | apply Kd.R_alloc | apply Kd.R_drewN | apply Kd.R_drew));exact Kd.R_mono m5.out (fun _ hk=>hk.1.2)⟩,⟨by repeat (first | (with_reducible first | exact HB.out | apply below_alloc | apply pw_below_drewN | apply below_drew1) | exact HB.out)⟩⟩
      rw [if_pos C7] at H
      have y9:(q8 == 0) = true:=beq_iff_eq.mpr C7
      have z0:(q8 != 0) = false:=bne_eq_false_iff_eq.mpr C7
      clear C7
      replace H:=Option.bind_eq_some_iff.mp H
      obtain ⟨m0,H2,H⟩:=H
      replace H:(if m0 = true then (if (b4.length:Int) = (b1.length:Int) then (if (b9.length:Int) = (b1.length:Int) then (numnahlaw07_SharesEqual.j3 d5 b3 b1 b5 b4 b9 d9 ((d9.length:Int) != (b1.length:Int))) else (numnahlaw07_SharesEqual.j3 d5 b3 b1 b5 b4 b9 d9 true)) else (numnahlaw07_SharesEqual.j3 d5 b3 b1 b5 b4 b9 d9 true)) else (numnahlaw07_SharesEqual.j3 d5 b3 b1 b5 b4 b9 d9 true)) = some r:=H
      have J4:=Aside0.mk H2
      clear H2
      by_cases F0:m0 = true
      case neg =>
       replace F0:=Bool.eq_false_iff.mpr F0
       subst F0
       have H1:(numnahlaw07_SharesEqual.j3 d5 b3 b1 b5 b4 b9 d9 true) = some r:=by rw [if_neg (show ¬ (false = true) by decide)] at H;exact H
       clear H
       have H:=H1
       clear H1
       have H':=Aside0.mk H
       clear H
       obtain ⟨P6,P7,L8⟩:=Kd.R_slice e0.out
       subst L8
       obtain ⟨P8,P9,L9⟩:=Kd.R_slice i4.out
       subst L9
       go_wp2_with (first | (go_at_call 33;(with_reducible refine (numnahref07_Same.calls d5 _ _ b4 _ _ t6 false _ ?side1 ?side2 ?side3 ?side4 J4.out).mono ?_);(case side1=>repeat (first | exact (Kd.R_reads' e0.out).2.2 | (with_reducible refine Kd.C_alloc ?_ _) | (with_reducible refine Kd.C_drewN ?_ _) | (with_reducible refine Kd.C_drew ?_)));(case side2=>exact (Kd.R_reads' e0.out).2.1);(case side3=>repeat (first | exact (Kd.R_reads' i4.out).2.2 | (with_reducible refine Kd.C_alloc ?_ _) | (with_reducible refine Kd.C_drewN ?_ _) | (with_reducible refine Kd.C_drew ?_)));(case side4=>exact (Kd.R_reads' i4.out).2.1);rintro e w' ⟨rfl,⟨nd,rfl⟩⟩))
       go_meet
       case rel=>exact ⟨_,(true),(by first | rfl | (simp;done) | (simp [*];done)),H',⟨by have:=A5.out;have:=o7.out;first | omega | exact Nat.le_refl _⟩,⟨by (with_reducible repeat (first | apply Kd.N_alloc | apply Kd.N_drewN | apply Kd.N_drew));exact Kd.N_mono b2.out (fun _ hk=>⟨hk.1.1.1.1.2,⟨hk.1.1.1.2,hk.2⟩⟩)⟩,⟨by (with_reducible repeat (first | apply Kd.R_alloc | apply Kd.R_drewN | apply Kd.R_drew));exact Kd.R_mono e0.out (fun _ hk=>trivial)⟩,⟨by (with_reducible repeat (first | apply Kd.R_alloc | apply Kd.R_drewN | apply Kd.R_drew));exact Kd.R_mono h2.out (fun _ hk=>hk.2)⟩,⟨by (with_reducible repeat (first | apply Kd.R_alloc | apply Kd.R_drewN | apply Kd.R_drew));exact Kd.R_mono m5.out (fun _ hk=>hk.1.2)⟩,⟨by repeat (first | (with_reducible first | exact HB.out | apply below_alloc | apply pw_below_drewN | apply below_drew1) | exact HB.out)⟩⟩
      subst F0
      have H1:(if (b4.length:Int) = (b1.length:Int) then (if (b9.length:Int) = (b1.length:Int) then (numnahlaw07_SharesEqual.j3 d5 b3 b1 b5 b4 b9 d9 ((d9.length:Int) != (b1.length:Int))) else (numnahlaw07_SharesEqual.j3 d5 b3 b1 b5 b4 b9 d9 true)) else (numnahlaw07_SharesEqual.j3 d5 b3 b1 b5 b4 b9 d9 true)) = some r:=by rw [if_pos rfl] at H;exact H
      clear H
      have H:=H1
      clear H1
      by_cases x2:(b4.length:Int) = (b1.length:Int)
      case neg =>
       rw [if_neg x2] at H
       have z2:((b4.length:Int) == (b1.length:Int)) = false:=beq_eq_false_iff_ne.mpr x2
       have z3:((b4.length:Int) != (b1.length:Int)) = true:=bne_iff_ne.mpr x2
       have z4:(b4.length == b1.length) = false:=by first | simpa using x2 | (simp at x2 ⊢;omega)
       have H':=Aside0.mk H
       clear H
       obtain ⟨Q0,Q1,M0⟩:=Kd.R_slice e0.out
       subst M0
       obtain ⟨Q2,Q3,M1⟩:=Kd.R_slice i4.out
       subst M1
       go_wp2_with (first | (go_at_call 33;(with_reducible refine (numnahref07_Same.calls d5 _ _ b4 _ _ t6 true _ ?side1 ?side2 ?side3 ?side4 J4.out).mono ?_);(case side1=>repeat (first | exact (Kd.R_reads' e0.out).2.2 | (with_reducible refine Kd.C_alloc ?_ _) | (with_reducible refine Kd.C_drewN ?_ _) | (with_reducible refine Kd.C_drew ?_)));(case side2=>exact (Kd.R_reads' e0.out).2.1);(case side3=>repeat (first | exact (Kd.R_reads' i4.out).2.2 | (with_reducible refine Kd.C_alloc ?_ _) | (with_reducible refine Kd.C_drewN ?_ _) | (with_reducible refine Kd.C_drew ?_)));(case side4=>exact (Kd.R_reads' i4.out).2.1);rintro e w' ⟨rfl,⟨nd,rfl⟩⟩))
       go_meet
       case rel=>exact ⟨_,(true),(by first | rfl | (simp;done) | (simp [*];done)),H',⟨by have:=A5.out;have:=o7.out;first | omega | exact Nat.le_refl _⟩,⟨by (with_reducible repeat (first | apply Kd.N_alloc | apply Kd.N_drewN | apply Kd.N_drew));exact Kd.N_mono b2.out (fun _ hk=>⟨hk.1.1.1.1.2,⟨hk.1.1.1.2,hk.2⟩⟩)⟩,⟨by (with_reducible repeat (first | apply Kd.R_alloc | apply Kd.R_drewN | apply Kd.R_drew));exact Kd.R_mono e0.out (fun _ hk=>trivial)⟩,⟨by (with_reducible repeat (first | apply Kd.R_alloc | apply Kd.R_drewN | apply Kd.R_drew));exact Kd.R_mono h2.out (fun _ hk=>hk.2)⟩,⟨by (with_reducible repeat (first | apply Kd.R_alloc | apply Kd.R_drewN | apply Kd.R_drew));exact Kd.R_mono m5.out (fun _ hk=>hk.1.2)⟩,⟨by repeat (first | (with_reducible first | exact HB.out | apply below_alloc | apply pw_below_drewN | apply below_drew1) | exact HB.out)⟩⟩
      rw [if_pos x2] at H
      have z2:((b4.length:Int) == (b1.length:Int)) = true:=beq_iff_eq.mpr x2
      have z3:((b4.length:Int) != (b1.length:Int)) = false:=bne_eq_false_iff_eq.mpr x2
      have z4:(b4.length == b1.length) = true:=by first | simpa using x2 | (simp at x2 ⊢;omega)
      clear x2
      by_cases x3:(b9.length:Int) = (b1.length:Int)
      case neg =>
       rw [if_neg x3] at H
       have z5:((b9.length:Int) == (b1.length:Int)) = false:=beq_eq_false_iff_ne.mpr x3
       have z6:((b9.length:Int) != (b1.length:Int)) = true:=bne_iff_ne.mpr x3
       have z7:(b9.length == b1.length) = false:=by first | simpa using x3 | (simp at x3 ⊢;omega)
       have H':=Aside0.mk H
       clear H
       obtain ⟨Q4,Q5,M2⟩:=Kd.R_slice e0.out
       subst M2
       obtain ⟨Q6,Q7,M3⟩:=Kd.R_slice i4.out
       subst M3
       go_wp2_with (first | (go_at_call 33;(with_reducible refine (numnahref07_Same.calls d5 _ _ b4 _ _ t6 true _ ?side1 ?side2 ?side3 ?side4 J4.out).mono ?_);(case side1=>repeat (first | exact (Kd.R_reads' e0.out).2.2 | (with_reducible refine Kd.C_alloc ?_ _) | (with_reducible refine Kd.C_drewN ?_ _) | (with_reducible refine Kd.C_drew ?_)));(case side2=>exact (Kd.R_reads' e0.out).2.1);(case side3=>repeat (first | exact (Kd.R_reads' i4.out).2.2 | (with_reducible refine Kd.C_alloc ?_ _) | (with_reducible refine Kd.C_drewN ?_ _) | (with_reducible refine Kd.C_drew ?_)));(case side4=>exact (Kd.R_reads' i4.out).2.1);rintro e w' ⟨rfl,⟨nd,rfl⟩⟩;obtain ⟨Q8,Q9,M4⟩:=Kd.R_slice h2.out;subst M4))
       go_meet
       case rel=>exact ⟨_,(true),(by first | rfl | (simp;done) | (simp [*];done)),H',⟨by have:=A5.out;have:=o7.out;first | omega | exact Nat.le_refl _⟩,⟨by (with_reducible repeat (first | apply Kd.N_alloc | apply Kd.N_drewN | apply Kd.N_drew));exact Kd.N_mono b2.out (fun _ hk=>⟨hk.1.1.1.1.2,⟨hk.1.1.1.2,hk.2⟩⟩)⟩,⟨by (with_reducible repeat (first | apply Kd.R_alloc | apply Kd.R_drewN | apply Kd.R_drew));exact Kd.R_mono e0.out (fun _ hk=>trivial)⟩,⟨by (with_reducible repeat (first | apply Kd.R_alloc | apply Kd.R_drewN | apply Kd.R_drew));exact Kd.R_mono h2.out (fun _ hk=>hk.2)⟩,⟨by (with_reducible repeat (first | apply Kd.R_alloc | apply Kd.R_drewN | apply Kd.R_drew));exact Kd.R_mono m5.out (fun _ hk=>hk.1.2)⟩,⟨by repeat (first | (with_reducible first | exact HB.out | apply below_alloc | apply pw_below_drewN | apply below_drew1) | exact HB.out)⟩⟩
      rw [if_pos x3] at H
      have z5:((b9.length:Int) == (b1.length:Int)) = true:=beq_iff_eq.mpr x3
      have z6:((b9.length:Int) != (b1.length:Int)) = false:=bne_eq_false_iff_eq.mpr x3
      have z7:(b9.length == b1.length) = true:=by first | simpa using x3 | (simp at x3 ⊢;omega)
      clear x3
      have H':=Aside0.mk H
      clear H
      obtain ⟨R0,R1,M5⟩:=Kd.R_slice e0.out
      subst M5
      obtain ⟨R2,R3,M6⟩:=Kd.R_slice i4.out
      subst M6
      go_wp2_with (first | (go_at_call 33;(with_reducible refine (numnahref07_Same.calls d5 _ _ b4 _ _ t6 true _ ?side1 ?side2 ?side3 ?side4 J4.out).mono ?_);(case side1=>repeat (first | exact (Kd.R_reads' e0.out).2.2 | (with_reducible refine Kd.C_alloc ?_ _) | (with_reducible refine Kd.C_drewN ?_ _) | (with_reducible refine Kd.C_drew ?_)));(case side2=>exact (Kd.R_reads' e0.out).2.1);(case side3=>repeat (first | exact (Kd.R_reads' i4.out).2.2 | (with_reducible refine Kd.C_alloc ?_ _) | (with_reducible refine Kd.C_drewN ?_ _) | (with_reducible refine Kd.C_drew ?_)));(case side4=>exact (Kd.R_reads' i4.out).2.1);rintro e w' ⟨rfl,⟨nd,rfl⟩⟩;obtain ⟨R4,R5,M7⟩:=Kd.R_slice h2.out;subst M7;obtain ⟨R6,R7,M8⟩:=Kd.R_slice m5.out;subst M8))
      go_meet
      case rel=>exact ⟨_,(((d9.length:Int) != (b1.length:Int))),(by first | rfl | (simp;done) | (simp [*];done)),H',⟨by have:=A5.out;have:=o7.out;first | omega | exact Nat.le_refl _⟩,⟨by (with_reducible repeat (first | apply Kd.N_alloc | apply Kd.N_drewN | apply Kd.N_drew));exact Kd.N_mono b2.out (fun _ hk=>⟨hk.1.1.1.1.2,⟨hk.1.1.1.2,hk.2⟩⟩)⟩,⟨by (with_reducible repeat (first | apply Kd.R_alloc | apply Kd.R_drewN | apply Kd.R_drew));exact Kd.R_mono e0.out (fun _ hk=>trivial)⟩,⟨by (with_reducible repeat (first | apply Kd.R_alloc | apply Kd.R_drewN | apply Kd.R_drew));exact Kd.R_mono h2.out (fun _ hk=>hk.2)⟩,⟨by (with_reducible repeat (first | apply Kd.R_alloc | apply Kd.R_drewN | apply Kd.R_drew));exact Kd.R_mono m5.out (fun _ hk=>hk.1.2)⟩,⟨by repeat (first | (with_reducible first | exact HB.out | apply below_alloc | apply pw_below_drewN | apply below_drew1) | exact HB.out)⟩⟩
     case rest =>
      clear E1
      try clear c1
      try clear c2
      try clear p2
      try clear c3
      try clear c4
      try clear c5
      try clear n1
      try clear c6
      try clear x9
      try clear p6
      try clear q6
      try clear hx6
      try clear c7
      try clear C1
      try clear c8
      try clear c9
      try clear c10
      try clear A6
      try clear l7
      try clear s6
      try clear N2
      try clear R8
      try clear C6
      try clear m6
      try clear y8
      try clear C7
      try clear y9
      try clear z0
      try clear F0
      try clear x2
      try clear z2
      try clear z3
      try clear z4
      try clear x3
      try clear z5
      try clear z6
      try clear z7
      try clear i1
      try clear p2
      try clear p6
      try clear p9
      try clear q6
      try clear q0
      obtain ⟨kq,m2,rfl,HA,H3,b2,b7,b6,b8,HB⟩:=hcut
      cases kq with
      | zero=>exact absurd HA.out (by simp [numnahlaw07_SharesEqual.j3])
      | succ E4 =>
       have H:=HA.out
       clear HA
       simp only [numnahlaw07_SharesEqual.j3] at H
       by_cases H4:m2 = true
       ·subst H4
        have H1:(some false) = some r:=by rw [if_pos rfl] at H;exact H
        clear H
        have H:=H1
        clear H1
        obtain rfl:=Option.some.inj H
        go_wp2
        go_ret
        exact ⟨by first | rfl | (simp [errW_none,errW_some] <;> rfl) | (simp [*,errW_none,errW_some] <;> rfl),by repeat (first | (with_reducible first | exact HB.out | apply below_alloc | apply pw_below_drewN | apply below_drew1) | exact HB.out)⟩
       replace H4:=Bool.eq_false_iff.mpr H4
       subst H4
       have H1:(numnahlaw07_SharesEqual.l1 E4 b3 b1 b5 b4 b9 d9 0) = some r:=by rw [if_neg (show ¬ (false = true) by decide)] at H;exact H
       clear H
       have H:=H1
       clear H1
       have H':=Aside0.mk H
       clear H
       go_wp2
       go_loopg [16] E4 (fun kq R9 w'=>∃ (b0:Int),R9 = .int .i64 b0 ∧ Aside0 (numnahlaw07_SharesEqual.l1 kq b3 b1 b5 b4 b9 d9 b0 = some r) ∧ Aside0 (kq ≤ E4) ∧ Aside0 (Kd.N k45 45 w' w.heap.size (fun k_=>some k_ ≠ (C5:Value).ownBlock ∧ some k_ ≠ (t7:Value).ownBlock ∧ some k_ ≠ (t9:Value).ownBlock) (.slice E2 b1.length E3) b1) ∧ Aside0 (Kd.R k23 23 w' w.heap.size (fun _=>True) C5 b4) ∧ Aside0 (Kd.R (Kd.int .i64) 3 w' w.heap.size (fun k_=>some k_ ≠ (t9:Value).ownBlock) t7 b9) ∧ Aside0 (Kd.R (Kd.int .i64) 3 w' w.heap.size (fun k_=>some k_ ≠ (t7:Value).ownBlock) t9 d9) ∧ Aside0 (Below w.heap.size w w'))
       case atStart=>exact ⟨(0),(by first | rfl | (simp;done) | (simp [*];done)),H',⟨Nat.le_refl _⟩,⟨by (with_reducible repeat (first | apply Kd.N_alloc | apply Kd.N_drewN | apply Kd.N_drew));exact b2.out⟩,⟨by (with_reducible repeat (first | apply Kd.R_alloc | apply Kd.R_drewN | apply Kd.R_drew));exact b7.out⟩,⟨by (with_reducible repeat (first | apply Kd.R_alloc | apply Kd.R_drewN | apply Kd.R_drew));exact b6.out⟩,⟨by (with_reducible repeat (first | apply Kd.R_alloc | apply Kd.R_drewN | apply Kd.R_drew));exact b8.out⟩,⟨by repeat (first | (with_reducible first | exact HB.out | apply below_alloc | apply pw_below_drewN | apply below_drew1) | exact HB.out)⟩⟩
       case round =>
        clear H'
        try clear c1
        try clear c2
        try clear p2
        try clear c3
        try clear c4
        try clear c5
        try clear n1
        try clear c6
        try clear x9
        try clear p6
        try clear q6
        try clear hx6
        try clear c7
        try clear C1
        try clear c8
        try clear c9
        try clear c10
        try clear A6
        try clear l7
        try clear s6
        try clear N2
        try clear R8
        try clear C6
        try clear m6
        try clear y8
        try clear C7
        try clear y9
        try clear z0
        try clear F0
        try clear x2
        try clear z2
        try clear z3
        try clear z4
        try clear x3
        try clear z5
        try clear z6
        try clear z7
        try clear H4
        try clear i1
        try clear p2
        try clear p6
        try clear p9
        try clear q6
        try clear q0
        obtain ⟨b0,rfl,HA,N5,b2,b7,b6,b8,HB⟩:=hrel
        cases gk with
        | zero=>exact absurd HA.out (by simp [numnahlaw07_SharesEqual.l1])
        | succ k4 =>
         have H:=HA.out
         clear HA
         simp only [numnahlaw07_SharesEqual.l1] at H
         by_cases F1:b0 < (b1.length:Int)
         case neg =>
          rw [if_neg F1] at H
          have H5:decide (b0 < (b1.length:Int)) = false:=decide_eq_false F1
          clear F1
          replace H:=Option.bind_eq_some_iff.mp H
          obtain ⟨A9,H6,H⟩:=H
          replace H:(some A9) = some r:=H
          have S0:=Aside0.mk H6
          clear H6
          obtain rfl:=Option.some.inj H
          go_wp2_with (first | ((with_reducible refine gate_callee (f:=22) rfl ?_);refine goesL_ (some 141) rfl rfl Try.func22 (by kernel_rfl) rfl #[] rfl (by (try simp only [List.map_toArray,List.map_cons,List.map_nil]);first | done | rfl | (simp only [List.length_drop,List.length_take];rfl)) ?_;(with_reducible refine (numnahlaw07_awake.calls k4  A9 _ S0.out).mono ?_);rintro e W1 ⟨rfl,hb⟩;refine ⟨_,rfl,?_⟩;have e1:=Aside0.mk (Kd.N_below (by (with_reducible repeat (first | apply Kd.N_alloc | apply Kd.N_drewN | apply Kd.N_drew));exact b2.out) hb);have e2:=Aside0.mk (Kd.R_below (by (with_reducible repeat (first | apply Kd.R_alloc | apply Kd.R_drewN | apply Kd.R_drew));exact b7.out) hb);have e3:=Aside0.mk (Kd.R_below (by (with_reducible repeat (first | apply Kd.R_alloc | apply Kd.R_drewN | apply Kd.R_drew));exact b6.out) hb);have e9:=Aside0.mk (Kd.R_below (by (with_reducible repeat (first | apply Kd.R_alloc | apply Kd.R_drewN | apply Kd.R_drew));exact b8.out) hb);have h9:=Aside0.mk (below_step (by repeat (first | (with_reducible first | exact HB.out | apply below_alloc | apply pw_below_drewN | apply below_drew1) | exact HB.out)) hb);clear b2;clear b7;clear b6;clear b8;clear HB;have b2:=e1;have b7:=e2;have b6:=e3;have b8:=e9;have HB:=h9;clear e1 e2 e3 e9 h9;(try clear hb)))
          go_ret
          exact ⟨by first | rfl | (simp [errW_none,errW_some] <;> rfl) | (simp [*,errW_none,errW_some] <;> rfl),by repeat (first | (with_reducible first | exact HB.out | apply below_alloc | apply pw_below_drewN | apply below_drew1) | exact HB.out)⟩
         rw [if_pos F1] at H
         have H5:decide (b0 < (b1.length:Int)) = true:=decide_eq_true F1
         clear F1
         by_cases J5:0 ≤ b0
         case neg =>
          rw [if_neg J5] at H
          exact absurd H (by simp)
         rw [if_pos J5] at H
         have N6:decide (0 ≤ b0) = true:=decide_eq_true J5
         clear J5
         by_cases J6:b0 < (b4.length:Int)
         case neg =>
          rw [if_neg J6] at H
          exact absurd H (by simp)
         rw [if_pos J6] at H
         have N7:decide (b0 < (b4.length:Int)) = true:=decide_eq_true J6
         clear J6
         replace H:=Option.bind_eq_some_iff.mp H
         obtain ⟨⟨p1,p3⟩,A650,H⟩:=H
         replace H:(if (!(((rd_T23 b4 b0).f0) == p1) || (!(((rd_T23 b4 b0).f1) == p3))) = true then (some false) else (if b0 < (b9.length:Int) then (if (rd b9 b0) = 0 then (if b0 < (d9.length:Int) then (if (rd d9 b0) = 1 then (numnahlaw07_SharesEqual.l1 k4 b3 b1 b5 b4 b9 d9 (wrap64 (b0 + 1))) else (some false)) else (none)) else (some false)) else (none))) = some r:=H
         have J7:=Aside0.mk A650
         clear A650
         by_cases F2:(!(((rd_T23 b4 b0).f0) == p1) || (!(((rd_T23 b4 b0).f1) == p3))) = true
         ·rw [if_pos F2] at H
          have H7:(!(((rd_T23 b4 b0).f0) == p1) || (!(((rd_T23 b4 b0).f1) == p3))) = true:=F2
          clear F2
          obtain rfl:=Option.some.inj H
          try go_wp2
          have e1:=Aside0.mk (Kd.N_drew b2.out)
          have e2:=Aside0.mk (Kd.R_drew b7.out)
          have e3:=Aside0.mk (Kd.R_drew b6.out)
          have e9:=Aside0.mk (Kd.R_drew b8.out)
          have h9:=Aside0.mk (below_drew1 HB.out)
          clear b2
          clear b7
          clear b6
          clear b8
          clear HB
          have b2:=e1
          have b7:=e2
          have b6:=e3
          have b8:=e9
          have HB:=h9
          clear e1 e2 e3 e9 h9
          obtain ⟨S1,S2,H8⟩:=Kd.R_slice b7.out
          (first | subst H8 | (injection H8 with l8 p4 l9;have p5:=l8.symm;have p7:=l9.symm;clear l8 p4 l9;subst p5;subst p7))
          have i8:0 ≤ (b0:Int):=of_decide_eq_true (by first | (with_reducible assumption) | assumption)
          have i9:b0 < (b4.length:Int):=of_decide_eq_true (by first | (with_reducible assumption) | assumption)
          obtain ⟨h4,r0,e4,e5⟩:=at_T23 (Kd.R_reads' b7.out).2.2 b0 i8 i9
          cases r0
          replace i8:=eq_true i8
          replace i9:=eq_true i9
          have i2:0 ≤ (b0:Int):=of_decide_eq_true (by first | (with_reducible assumption) | assumption)
          have i3:b0 < (b1.length:Int):=of_decide_eq_true (by first | (with_reducible assumption) | assumption)
          obtain ⟨h5,j5,j7,r1,e6,d6,e7,e8⟩:=at_T45 (Kd.N_reads' b2.out).2.2 b0 i2 i3
          cases r1
          obtain ⟨z8,j8,j9,h6⟩:=Kd.N_get b2.out z45 b0 i2 (by first | exact i3 | exact of_decide_eq_true (by first | (with_reducible assumption) | assumption) | (have e_:=(Kd.N_reads' b2.out).1;omega))
          obtain ⟨n4,n5,rfl,d7,d8⟩:=k45_openF j9
          have d3:=h6 1 _ rfl
          rw [add_field _ _ 1 (by omega)] at d3
          replace d3:=Option.some.inj (d3.symm.trans d6)
          injection d3 with hva_ hvn_ hvc_
          rw [hva_] at d8
          rw [hvc_] at d7
          have d4:=Aside0.mk (show Kd.V (Kd.int .i64) 3 _ w.heap.size _ _ ((rd_T45 b1 b0).f1) from Kd.V_mk d7 d8)
          clear hva_ hvn_ hvc_ d8 d7
          clear h6 j8
          have d0:=Aside0.mk e8
          have n6:=Aside0.mk e7
          clear e8 e7
          replace i2:=eq_true i2
          replace i3:=eq_true i3
          refine start_ (n:=28) (S:=fun w'=>w'.cell? (h4.add ((b0).toNat * 2)) = some (.int .i64 ((rd_T23 b4 b0).f0)) ∧ w'.cell? ⟨(h4.add ((b0).toNat * 2)).block,(h4.add ((b0).toNat * 2)).off + 1,none⟩ = some (.int .i64 ((rd_T23 b4 b0).f1)) ∧ w'.cell? (h5.add ((b0).toNat * 2)) = some (.int .i64 ((rd_T45 b1 b0).f0)) ∧ w'.cell? ⟨(h5.add ((b0).toNat * 2)).block,(h5.add ((b0).toNat * 2)).off + 1,none⟩ = some (.slice j5 ((rd_T45 b1 b0).f1).length j7)) (ds:=[]) #[false,false,false,false,false,false,false,false,false,false,false,false,false,false,false,false,false,false,false,false,false,false,false,false,false,false,false,false] (by kernel_rfl) rfl rfl ⟨e4,e5,e6,d6⟩ (fun hHeld=>?_);refine with_tabW numnahlaw07_SharesEqual.tab22 numnahlaw07_SharesEqual.bits22 (fun HT_ HW_=>?_)
          generalize wr.drew = W2 at b2 b7 b6 b8 HB d4 d0 e4 e5 e6 d6 hHeld ⊢
          refine pure_ (i:=0) (N:=some 113) (v:=?_) (a':=?_) #[true,false,false,false,false,false,false,false,false,false,false,false,false,false,false,false,false,false,false,false,false,false,false,false,false,false,false,false] rfl rfl (any_of HT_.out (by kernel_rfl)) (fun _ _ _ h=>h) (Or.inl ⟨by rfl,?_⟩) ?_ ?_
          rotate_left
          ·intro w'
           go_simp
           with_reducible rfl
          rotate_left
          ·simp only [Act.put,List.setIfInBounds_toArray,List.set_cons_zero,List.set_cons_succ,i64_w,i32_w]
           rfl
          refine pure_ (i:=1) (N:=some 114) (v:=?_) (a':=?_) #[true,true,false,false,false,false,false,false,false,false,false,false,false,false,false,false,false,false,false,false,false,false,false,false,false,false,false,false] rfl rfl (any_of HT_.out (by kernel_rfl)) (fun _ _ _ h=>h) (Or.inl ⟨by rfl,?_⟩) ?_ ?_
          rotate_left
          ·intro w'
           go_simp
           with_reducible rfl
          rotate_left
          ·simp only [Act.put,List.setIfInBounds_toArray,List.set_cons_zero,List.set_cons_succ,i64_w,i32_w]
           rfl
          refine pure_ (i:=2) (N:=some 115) (v:=?_) (a':=?_) #[true,true,true,false,false,false,false,false,false,false,false,false,false,false,false,false,false,false,false,false,false,false,false,false,false,false,false,false] rfl rfl (any_of HT_.out (by kernel_rfl)) (fun _ _ _ h=>h) (Or.inl ⟨by rfl,?_⟩) ?_ ?_
          rotate_left
          ·intro w'
           go_simp
           with_reducible rfl
          rotate_left
          ·simp only [Act.put,List.setIfInBounds_toArray,List.set_cons_zero,List.set_cons_succ,i64_w,i32_w]
           rfl
          refine pure_ (i:=4) (N:=some 117) (v:=?_) (a':=?_) #[true,true,true,false,true,false,false,false,false,false,false,false,false,false,false,false,false,false,false,false,false,false,false,false,false,false,false,false] rfl rfl (any_of HT_.out (by kernel_rfl)) (fun _ _ _ h=>h) (Or.inl ⟨by rfl,?_⟩) ?_ ?_
          rotate_left
          ·intro w'
           go_simp
           with_reducible rfl
          rotate_left
          ·simp only [Act.put,List.setIfInBounds_toArray,List.set_cons_zero,List.set_cons_succ,i64_w,i32_w]
           rfl
          refine pure_ (i:=5) (N:=some 118) (v:=?_) (a':=?_) #[true,true,true,false,true,true,false,false,false,false,false,false,false,false,false,false,false,false,false,false,false,false,false,false,false,false,false,false] rfl rfl (any_of HT_.out (by kernel_rfl)) (fun _ _ _ h=>h) (Or.inl ⟨by rfl,?_⟩) ?_ ?_
          rotate_left
          ·intro w'
           go_simp
           with_reducible rfl
          rotate_left
          ·simp only [Act.put,List.setIfInBounds_toArray,List.set_cons_zero,List.set_cons_succ,i64_w,i32_w]
           rfl
          refine pure_ (i:=6) (N:=some 119) (v:=?_) (a':=?_) #[true,true,true,false,true,true,true,false,false,false,false,false,false,false,false,false,false,false,false,false,false,false,false,false,false,false,false,false] rfl rfl (any_of HT_.out (by kernel_rfl)) (fun _ _ _ h=>h) (Or.inl ⟨by rfl,?_⟩) ?_ ?_
          rotate_left
          ·intro w'
           go_simp
           with_reducible rfl
          rotate_left
          ·simp only [Act.put,List.setIfInBounds_toArray,List.set_cons_zero,List.set_cons_succ,i64_w,i32_w]
           rfl
          refine pure_ (i:=7) (N:=some 120) (v:=?_) (a':=?_) #[true,true,true,false,true,true,true,true,false,false,false,false,false,false,false,false,false,false,false,false,false,false,false,false,false,false,false,false] rfl rfl (any_of HT_.out (by kernel_rfl)) (fun _ _ _ h=>h) (Or.inl ⟨by rfl,?_⟩) ?_ ?_
          rotate_left
          ·intro w'
           go_simp
           with_reducible rfl
          rotate_left
          ·simp only [Act.put,List.setIfInBounds_toArray,List.set_cons_zero,List.set_cons_succ,i64_w,i32_w]
           rfl
          refine pure_ (i:=8) (N:=some 121) (v:=?_) (a':=?_) #[true,true,true,false,true,true,true,true,true,false,false,false,false,false,false,false,false,false,false,false,false,false,false,false,false,false,false,false] rfl rfl (any_of HT_.out (by kernel_rfl)) (fun _ _ _ h=>h) (Or.inl ⟨by rfl,?_⟩) ?_ ?_
          rotate_left
          ·intro w'
           go_simp
           with_reducible rfl
          rotate_left
          ·simp only [Act.put,List.setIfInBounds_toArray,List.set_cons_zero,List.set_cons_succ,i64_w,i32_w]
           rfl
          refine pure_ (i:=11) (N:=some 124) (v:=?_) (a':=?_) #[true,true,true,false,true,true,true,true,true,false,false,true,false,false,false,false,false,false,false,false,false,false,false,false,false,false,false,false] rfl rfl (any_of HT_.out (by kernel_rfl)) (fun _ _ _ h=>h) (Or.inl ⟨by rfl,?_⟩) ?_ ?_
          rotate_left
          ·intro w'
           go_simp
           with_reducible rfl
          rotate_left
          ·simp only [Act.put,List.setIfInBounds_toArray,List.set_cons_zero,List.set_cons_succ,i64_w,i32_w]
           rfl
          refine take_ (i:=3) (N:=some 116) (v:=?_) (a':=?_) #[true,true,true,true,true,true,true,true,true,false,false,true,false,false,false,false,false,false,false,false,false,false,false,false,false,false,false,false] rfl rfl (take_ofW HT_.out HW_.out (by kernel_rfl)) (fun _ _ _ h=>h) (Or.inl ⟨by rfl,?_⟩) hHeld ?_ ?_
          rotate_left
          ·rintro w' ⟨s0,s1,s2,s3⟩
           go_simp
           with_reducible rfl
          rotate_left
          ·simp only [Act.put,List.setIfInBounds_toArray,List.set_cons_zero,List.set_cons_succ,i64_w,i32_w]
           rfl
          refine take_ (i:=9) (N:=some 122) (v:=?_) (a':=?_) #[true,true,true,true,true,true,true,true,true,true,false,true,false,false,false,false,false,false,false,false,false,false,false,false,false,false,false,false] rfl rfl (take_ofW HT_.out HW_.out (by kernel_rfl)) (fun _ _ _ h=>h) (Or.inl ⟨by rfl,?_⟩) hHeld ?_ ?_
          rotate_left
          ·rintro w' ⟨s0,s1,s2,s3⟩
           go_simp
           with_reducible rfl
          rotate_left
          ·simp only [Act.put,List.setIfInBounds_toArray,List.set_cons_zero,List.set_cons_succ,i64_w,i32_w]
           rfl
          refine pure_ (i:=10) (N:=some 123) (v:=?_) (a':=?_) #[true,true,true,true,true,true,true,true,true,true,true,true,false,false,false,false,false,false,false,false,false,false,false,false,false,false,false,false] rfl rfl (any_of HT_.out (by kernel_rfl)) (fun _ _ _ h=>h) (Or.inl ⟨by rfl,?_⟩) ?_ ?_
          rotate_left
          ·intro w'
           go_simp
           with_reducible rfl
          rotate_left
          ·simp only [Act.put,List.setIfInBounds_toArray,List.set_cons_zero,List.set_cons_succ,i64_w,i32_w]
           rfl
          refine one_ (i:=12) (N:=some 125) #[true,true,true,true,true,true,true,true,true,true,true,true,true,false,false,false,false,false,false,false,false,false,false,false,false,false,false,false] rfl rfl (one_of HT_.out (by kernel_rfl)) (by decide) (fun K hK=>?_)
          refine goes_ Try.func34 (by kernel_rfl) rfl #[.int .i64 (wrap64 (b3 * ((rd_T45 b1 b0).f0))),.int .i64 b5] (by rfl) rfl rfl (by (try simp only [List.map_toArray,List.map_cons,List.map_nil]);first | done | rfl | (simp only [List.length_drop,List.length_take];rfl)) ?_
          with_reducible refine (numnahref07_Reduced.calls k4 (wrap64 (b3 * ((rd_T45 b1 b0).f0))) b5 p1 p3 _ J7.out).mono ?_
          rintro e W3 ⟨rfl,hb⟩
          have r2:=(hb.cell (World.block_lt_of_cell? _ _ (hHeld.1))).trans (hHeld.1)
          have r3:=(hb.cell (World.block_lt_of_cell? _ _ (hHeld.2.1))).trans (hHeld.2.1)
          have r4:=(hb.cell (World.block_lt_of_cell? _ _ (hHeld.2.2.1))).trans (hHeld.2.2.1)
          have r5:=(hb.cell (World.block_lt_of_cell? _ _ (hHeld.2.2.2))).trans (hHeld.2.2.2)
          refine ⟨_,rfl,?_⟩
          have e1:=Aside0.mk (Kd.N_below (by (with_reducible repeat (first | apply Kd.N_alloc | apply Kd.N_drewN | apply Kd.N_drew));exact b2.out) hb)
          have e2:=Aside0.mk (Kd.R_below (by (with_reducible repeat (first | apply Kd.R_alloc | apply Kd.R_drewN | apply Kd.R_drew));exact b7.out) hb)
          have e3:=Aside0.mk (Kd.R_below (by (with_reducible repeat (first | apply Kd.R_alloc | apply Kd.R_drewN | apply Kd.R_drew));exact b6.out) hb)
          have e9:=Aside0.mk (Kd.R_below (by (with_reducible repeat (first | apply Kd.R_alloc | apply Kd.R_drewN | apply Kd.R_drew));exact b8.out) hb)
          have h9:=Aside0.mk (Kd.V_below (by (with_reducible repeat (first | apply Kd.V_alloc | apply Kd.V_drewN | apply Kd.V_drew));exact d4.out) hb)
          have m9:=Aside0.mk (Kd.C_below (by repeat (first | (with_reducible exact d0.out) | (with_reducible refine Kd.C_alloc ?_ _) | (with_reducible refine Kd.C_drewN ?_ _) | (with_reducible refine Kd.C_drew ?_) | exact d0.out)) hb)
          have p0:=Aside0.mk (below_step (by repeat (first | (with_reducible first | exact HB.out | apply below_alloc | apply pw_below_drewN | apply below_drew1) | exact HB.out)) hb)
          clear b2
          clear b7
          clear b6
          clear b8
          clear d4
          clear d0
          clear HB
          have b2:=e1
          have b7:=e2
          have b6:=e3
          have b8:=e9
          have d4:=h9
          have d0:=m9
          have HB:=p0
          clear e1 e2 e3 e9 h9 m9 p0
          (try clear hb)
          refine hK.out _ _ ⟨r2,r3,r4,r5⟩ (fun hHeld=>?_)
          clear hK K
          refine norm_ (a':=?_) ?_ ?_
          rotate_left
          ·show Act.put _ (some 125) _ = _
           simp only [Act.put,List.setIfInBounds_toArray,List.set_cons_zero,List.set_cons_succ,i64_w,i32_w]
           rfl
          refine pure_ (i:=13) (N:=some 126) (v:=?_) (a':=?_) #[true,true,true,true,true,true,true,true,true,true,true,true,true,true,false,false,false,false,false,false,false,false,false,false,false,false,false,false] rfl rfl (any_of HT_.out (by kernel_rfl)) (fun _ _ _ h=>h) (Or.inl ⟨by rfl,?_⟩) ?_ ?_
          rotate_left
          ·intro w'
           go_simp
           with_reducible rfl
          rotate_left
          ·simp only [Act.put,List.setIfInBounds_toArray,List.set_cons_zero,List.set_cons_succ,i64_w,i32_w]
           rfl
          refine pure_ (i:=14) (N:=some 127) (v:=?_) (a':=?_) #[true,true,true,true,true,true,true,true,true,true,true,true,true,true,true,false,false,false,false,false,false,false,false,false,false,false,false,false] rfl rfl (any_of HT_.out (by kernel_rfl)) (fun _ _ _ h=>h) (Or.inl ⟨by rfl,?_⟩) ?_ ?_
          rotate_left
          ·intro w'
           go_simp
           with_reducible rfl
          rotate_left
          ·simp only [Act.put,List.setIfInBounds_toArray,List.set_cons_zero,List.set_cons_succ,i64_w,i32_w]
           rfl
          refine pure_ (i:=15) (N:=some 128) (v:=undef) (a':=?_) #[true,true,true,true,true,true,true,true,true,true,true,true,true,true,true,true,false,false,false,false,false,false,false,false,false,false,false,false] rfl rfl (any_of HT_.out (by kernel_rfl)) (fun _ _ _ h=>h) (Or.inr ⟨by rfl,rfl⟩) ?_ ?_
          rotate_left
          ·simp only [Act.put,List.setIfInBounds_toArray,List.set_cons_zero,List.set_cons_succ,i64_w,i32_w]
           rfl
          refine pure_ (i:=16) (N:=some 129) (v:=undef) (a':=?_) #[true,true,true,true,true,true,true,true,true,true,true,true,true,true,true,true,true,false,false,false,false,false,false,false,false,false,false,false] rfl rfl (any_of HT_.out (by kernel_rfl)) (fun _ _ _ h=>h) (Or.inr ⟨by rfl,rfl⟩) ?_ ?_
          rotate_left
          ·simp only [Act.put,List.setIfInBounds_toArray,List.set_cons_zero,List.set_cons_succ,i64_w,i32_w]
           rfl
          refine pure_ (i:=17) (N:=some 130) (v:=undef) (a':=?_) #[true,true,true,true,true,true,true,true,true,true,true,true,true,true,true,true,true,true,false,false,false,false,false,false,false,false,false,false] rfl rfl (any_of HT_.out (by kernel_rfl)) (fun _ _ _ h=>h) (Or.inr ⟨by rfl,rfl⟩) ?_ ?_
          rotate_left
          ·simp only [Act.put,List.setIfInBounds_toArray,List.set_cons_zero,List.set_cons_succ,i64_w,i32_w]
           rfl
          refine pure_ (i:=18) (N:=some 131) (v:=undef) (a':=?_) #[true,true,true,true,true,true,true,true,true,true,true,true,true,true,true,true,true,true,true,false,false,false,false,false,false,false,false,false] rfl rfl (any_of HT_.out (by kernel_rfl)) (fun _ _ _ h=>h) (Or.inr ⟨by rfl,rfl⟩) ?_ ?_
          rotate_left
          ·simp only [Act.put,List.setIfInBounds_toArray,List.set_cons_zero,List.set_cons_succ,i64_w,i32_w]
           rfl
          refine pure_ (i:=19) (N:=some 132) (v:=undef) (a':=?_) #[true,true,true,true,true,true,true,true,true,true,true,true,true,true,true,true,true,true,true,true,false,false,false,false,false,false,false,false] rfl rfl (any_of HT_.out (by kernel_rfl)) (fun _ _ _ h=>h) (Or.inr ⟨by rfl,rfl⟩) ?_ ?_
          rotate_left
          ·simp only [Act.put,List.setIfInBounds_toArray,List.set_cons_zero,List.set_cons_succ,i64_w,i32_w]
           rfl
          refine pure_ (i:=20) (N:=some 133) (v:=?_) (a':=?_) #[true,true,true,true,true,true,true,true,true,true,true,true,true,true,true,true,true,true,true,true,true,false,false,false,false,false,false,false] rfl rfl (any_of HT_.out (by kernel_rfl)) (fun _ _ _ h=>h) (Or.inl ⟨by rfl,?_⟩) ?_ ?_
          rotate_left
          ·intro w'
           go_simp
           with_reducible rfl
          rotate_left
          ·simp only [Act.put,List.setIfInBounds_toArray,List.set_cons_zero,List.set_cons_succ,i64_w,i32_w]
           rfl
          refine pure_ (i:=21) (N:=some 134) (v:=?_) (a':=?_) #[true,true,true,true,true,true,true,true,true,true,true,true,true,true,true,true,true,true,true,true,true,true,false,false,false,false,false,false] rfl rfl (any_of HT_.out (by kernel_rfl)) (fun _ _ _ h=>h) (Or.inl ⟨by rfl,?_⟩) ?_ ?_
          rotate_left
          ·intro w'
           go_simp
           with_reducible rfl
          rotate_left
          ·simp only [Act.put,List.setIfInBounds_toArray,List.set_cons_zero,List.set_cons_succ,i64_w,i32_w]
           rfl
          refine pure_ (i:=22) (N:=some 135) (v:=undef) (a':=?_) #[true,true,true,true,true,true,true,true,true,true,true,true,true,true,true,true,true,true,true,true,true,true,true,false,false,false,false,false] rfl rfl (any_of HT_.out (by kernel_rfl)) (fun _ _ _ h=>h) (Or.inr ⟨by rfl,rfl⟩) ?_ ?_
          rotate_left
          ·simp only [Act.put,List.setIfInBounds_toArray,List.set_cons_zero,List.set_cons_succ,i64_w,i32_w]
           rfl
          refine pure_ (i:=23) (N:=some 136) (v:=undef) (a':=?_) #[true,true,true,true,true,true,true,true,true,true,true,true,true,true,true,true,true,true,true,true,true,true,true,true,false,false,false,false] rfl rfl (any_of HT_.out (by kernel_rfl)) (fun _ _ _ h=>h) (Or.inr ⟨by rfl,rfl⟩) ?_ ?_
          rotate_left
          ·simp only [Act.put,List.setIfInBounds_toArray,List.set_cons_zero,List.set_cons_succ,i64_w,i32_w]
           rfl
          refine pure_ (i:=24) (N:=some 137) (v:=undef) (a':=?_) #[true,true,true,true,true,true,true,true,true,true,true,true,true,true,true,true,true,true,true,true,true,true,true,true,true,false,false,false] rfl rfl (any_of HT_.out (by kernel_rfl)) (fun _ _ _ h=>h) (Or.inr ⟨by rfl,rfl⟩) ?_ ?_
          rotate_left
          ·simp only [Act.put,List.setIfInBounds_toArray,List.set_cons_zero,List.set_cons_succ,i64_w,i32_w]
           rfl
          refine pure_ (i:=25) (N:=some 138) (v:=undef) (a':=?_) #[true,true,true,true,true,true,true,true,true,true,true,true,true,true,true,true,true,true,true,true,true,true,true,true,true,true,false,false] rfl rfl (any_of HT_.out (by kernel_rfl)) (fun _ _ _ h=>h) (Or.inr ⟨by rfl,rfl⟩) ?_ ?_
          rotate_left
          ·simp only [Act.put,List.setIfInBounds_toArray,List.set_cons_zero,List.set_cons_succ,i64_w,i32_w]
           rfl
          refine pure_ (i:=26) (N:=some 139) (v:=undef) (a':=?_) #[true,true,true,true,true,true,true,true,true,true,true,true,true,true,true,true,true,true,true,true,true,true,true,true,true,true,true,false] rfl rfl (any_of HT_.out (by kernel_rfl)) (fun _ _ _ h=>h) (Or.inr ⟨by rfl,rfl⟩) ?_ ?_
          rotate_left
          ·simp only [Act.put,List.setIfInBounds_toArray,List.set_cons_zero,List.set_cons_succ,i64_w,i32_w]
           rfl
          refine pure_ (i:=27) (N:=some 140) (v:=?_) (a':=?_) #[true,true,true,true,true,true,true,true,true,true,true,true,true,true,true,true,true,true,true,true,true,true,true,true,true,true,true,true] rfl rfl (any_of HT_.out (by kernel_rfl)) (fun _ _ _ h=>h) (Or.inl ⟨by rfl,?_⟩) ?_ ?_
          rotate_left
          ·intro w'
           go_simp
           with_reducible rfl
          rotate_left
          ·simp only [Act.put,List.setIfInBounds_toArray,List.set_cons_zero,List.set_cons_succ,i64_w,i32_w]
           rfl
          refine done_ (done_of HT_.out (by kernel_rfl)) ?_
          try go_wp2
          go_ret
          exact ⟨by first | rfl | (simp [errW_none,errW_some] <;> rfl) | (simp [*,errW_none,errW_some] <;> rfl),by repeat (first | (with_reducible first | exact HB.out | apply below_alloc | apply pw_below_drewN | apply below_drew1) | exact HB.out)⟩
         rw [if_neg F2] at H
         have H7:(!(((rd_T23 b4 b0).f0) == p1) || (!(((rd_T23 b4 b0).f1) == p3))) = false:=by simpa using F2
         clear F2
         by_cases J8:b0 < (b9.length:Int)
         case neg =>
          rw [if_neg J8] at H
          exact absurd H (by simp)
         rw [if_pos J8] at H
         have N8:decide (b0 < (b9.length:Int)) = true:=decide_eq_true J8
         clear J8
         by_cases E5:(rd b9 b0) = 0
         case neg =>
          rw [if_neg E5] at H
          have H9:((rd b9 b0) == 0) = false:=beq_eq_false_iff_ne.mpr E5
          have I0:((rd b9 b0) != 0) = true:=bne_iff_ne.mpr E5
          obtain rfl:=Option.some.inj H
          try go_wp2
          have e1:=Aside0.mk (Kd.N_drew b2.out)
          have e2:=Aside0.mk (Kd.R_drew b7.out)
          have e3:=Aside0.mk (Kd.R_drew b6.out)
          have e9:=Aside0.mk (Kd.R_drew b8.out)
          have h9:=Aside0.mk (below_drew1 HB.out)
          clear b2
          clear b7
          clear b6
          clear b8
          clear HB
          have b2:=e1
          have b7:=e2
          have b6:=e3
          have b8:=e9
          have HB:=h9
          clear e1 e2 e3 e9 h9
          obtain ⟨S3,S4,I1⟩:=Kd.R_slice b7.out
          (first | subst I1 | (injection I1 with l8 p4 l9;have p5:=l8.symm;have p7:=l9.symm;clear l8 p4 l9;subst p5;subst p7))
          have i8:0 ≤ (b0:Int):=of_decide_eq_true (by first | (with_reducible assumption) | assumption)
          have i9:b0 < (b4.length:Int):=of_decide_eq_true (by first | (with_reducible assumption) | assumption)
          obtain ⟨h4,r0,e4,e5⟩:=at_T23 (Kd.R_reads' b7.out).2.2 b0 i8 i9
          cases r0
          replace i8:=eq_true i8
          replace i9:=eq_true i9
          have i2:0 ≤ (b0:Int):=of_decide_eq_true (by first | (with_reducible assumption) | assumption)
          have i3:b0 < (b1.length:Int):=of_decide_eq_true (by first | (with_reducible assumption) | assumption)
          obtain ⟨h5,j5,j7,r1,e6,d6,e7,e8⟩:=at_T45 (Kd.N_reads' b2.out).2.2 b0 i2 i3
          cases r1
          obtain ⟨z8,j8,j9,h6⟩:=Kd.N_get b2.out z45 b0 i2 (by first | exact i3 | exact of_decide_eq_true (by first | (with_reducible assumption) | assumption) | (have e_:=(Kd.N_reads' b2.out).1;omega))
          obtain ⟨n4,n5,rfl,d7,d8⟩:=k45_openF j9
          have d3:=h6 1 _ rfl
          rw [add_field _ _ 1 (by omega)] at d3
          replace d3:=Option.some.inj (d3.symm.trans d6)
          injection d3 with hva_ hvn_ hvc_
          rw [hva_] at d8
          rw [hvc_] at d7
          have d4:=Aside0.mk (show Kd.V (Kd.int .i64) 3 _ w.heap.size _ _ ((rd_T45 b1 b0).f1) from Kd.V_mk d7 d8)
          clear hva_ hvn_ hvc_ d8 d7
          clear h6 j8
          have d0:=Aside0.mk e8
          have n6:=Aside0.mk e7
          clear e8 e7
          replace i2:=eq_true i2
          replace i3:=eq_true i3
          obtain ⟨Aoz_,coz_,eoz_⟩:=Kd.R_slice b6.out
          (first | subst eoz_ | clear eoz_)
          have m7:0 ≤ (b0:Int):=of_decide_eq_true (by first | (with_reducible assumption) | assumption)
          have m8:b0 < (b9.length:Int):=of_decide_eq_true (by first | (with_reducible assumption) | assumption)
          obtain ⟨p8,z9,h8⟩:=Kd.at_int (Kd.R_reads' b6.out).2.2 b0 m7 m8
          cases z9
          replace m7:=eq_true m7
          replace m8:=eq_true m8
          refine start_ (n:=28) (S:=fun w'=>w'.cell? (h4.add ((b0).toNat * 2)) = some (.int .i64 ((rd_T23 b4 b0).f0)) ∧ w'.cell? ⟨(h4.add ((b0).toNat * 2)).block,(h4.add ((b0).toNat * 2)).off + 1,none⟩ = some (.int .i64 ((rd_T23 b4 b0).f1)) ∧ w'.cell? (h5.add ((b0).toNat * 2)) = some (.int .i64 ((rd_T45 b1 b0).f0)) ∧ w'.cell? ⟨(h5.add ((b0).toNat * 2)).block,(h5.add ((b0).toNat * 2)).off + 1,none⟩ = some (.slice j5 ((rd_T45 b1 b0).f1).length j7) ∧ w'.cell? (p8.add (b0).toNat) = some (.int .i64 (rd b9 b0))) (ds:=[]) #[false,false,false,false,false,false,false,false,false,false,false,false,false,false,false,false,false,false,false,false,false,false,false,false,false,false,false,false] (by kernel_rfl) rfl rfl ⟨e4,e5,e6,d6,h8⟩ (fun hHeld=>?_);refine with_tabW numnahlaw07_SharesEqual.tab22 numnahlaw07_SharesEqual.bits22 (fun HT_ HW_=>?_)
          generalize wr.drew = W4 at b2 b7 b6 b8 HB d4 d0 e4 e5 e6 d6 h8 hHeld ⊢
          refine pure_ (i:=0) (N:=some 113) (v:=?_) (a':=?_) #[true,false,false,false,false,false,false,false,false,false,false,false,false,false,false,false,false,false,false,false,false,false,false,false,false,false,false,false] rfl rfl (any_of HT_.out (by kernel_rfl)) (fun _ _ _ h=>h) (Or.inl ⟨by rfl,?_⟩) ?_ ?_
          rotate_left
          ·intro w'
           go_simp
           with_reducible rfl
          rotate_left
          ·simp only [Act.put,List.setIfInBounds_toArray,List.set_cons_zero,List.set_cons_succ,i64_w,i32_w]
           rfl
          refine pure_ (i:=1) (N:=some 114) (v:=?_) (a':=?_) #[true,true,false,false,false,false,false,false,false,false,false,false,false,false,false,false,false,false,false,false,false,false,false,false,false,false,false,false] rfl rfl (any_of HT_.out (by kernel_rfl)) (fun _ _ _ h=>h) (Or.inl ⟨by rfl,?_⟩) ?_ ?_
          rotate_left
          ·intro w'
           go_simp
           with_reducible rfl
          rotate_left
          ·simp only [Act.put,List.setIfInBounds_toArray,List.set_cons_zero,List.set_cons_succ,i64_w,i32_w]
           rfl
          refine pure_ (i:=2) (N:=some 115) (v:=?_) (a':=?_) #[true,true,true,false,false,false,false,false,false,false,false,false,false,false,false,false,false,false,false,false,false,false,false,false,false,false,false,false] rfl rfl (any_of HT_.out (by kernel_rfl)) (fun _ _ _ h=>h) (Or.inl ⟨by rfl,?_⟩) ?_ ?_
          rotate_left
          ·intro w'
           go_simp
           with_reducible rfl
          rotate_left
          ·simp only [Act.put,List.setIfInBounds_toArray,List.set_cons_zero,List.set_cons_succ,i64_w,i32_w]
           rfl
          refine pure_ (i:=4) (N:=some 117) (v:=?_) (a':=?_) #[true,true,true,false,true,false,false,false,false,false,false,false,false,false,false,false,false,false,false,false,false,false,false,false,false,false,false,false] rfl rfl (any_of HT_.out (by kernel_rfl)) (fun _ _ _ h=>h) (Or.inl ⟨by rfl,?_⟩) ?_ ?_
          rotate_left
          ·intro w'
           go_simp
           with_reducible rfl
          rotate_left
          ·simp only [Act.put,List.setIfInBounds_toArray,List.set_cons_zero,List.set_cons_succ,i64_w,i32_w]
           rfl
          refine pure_ (i:=5) (N:=some 118) (v:=?_) (a':=?_) #[true,true,true,false,true,true,false,false,false,false,false,false,false,false,false,false,false,false,false,false,false,false,false,false,false,false,false,false] rfl rfl (any_of HT_.out (by kernel_rfl)) (fun _ _ _ h=>h) (Or.inl ⟨by rfl,?_⟩) ?_ ?_
          rotate_left
          ·intro w'
           go_simp
           with_reducible rfl
          rotate_left
          ·simp only [Act.put,List.setIfInBounds_toArray,List.set_cons_zero,List.set_cons_succ,i64_w,i32_w]
           rfl
          refine pure_ (i:=6) (N:=some 119) (v:=?_) (a':=?_) #[true,true,true,false,true,true,true,false,false,false,false,false,false,false,false,false,false,false,false,false,false,false,false,false,false,false,false,false] rfl rfl (any_of HT_.out (by kernel_rfl)) (fun _ _ _ h=>h) (Or.inl ⟨by rfl,?_⟩) ?_ ?_
          rotate_left
          ·intro w'
           go_simp
           with_reducible rfl
          rotate_left
          ·simp only [Act.put,List.setIfInBounds_toArray,List.set_cons_zero,List.set_cons_succ,i64_w,i32_w]
           rfl
          refine pure_ (i:=7) (N:=some 120) (v:=?_) (a':=?_) #[true,true,true,false,true,true,true,true,false,false,false,false,false,false,false,false,false,false,false,false,false,false,false,false,false,false,false,false] rfl rfl (any_of HT_.out (by kernel_rfl)) (fun _ _ _ h=>h) (Or.inl ⟨by rfl,?_⟩) ?_ ?_
          rotate_left
          ·intro w'
           go_simp
           with_reducible rfl
          rotate_left
          ·simp only [Act.put,List.setIfInBounds_toArray,List.set_cons_zero,List.set_cons_succ,i64_w,i32_w]
           rfl
          refine pure_ (i:=8) (N:=some 121) (v:=?_) (a':=?_) #[true,true,true,false,true,true,true,true,true,false,false,false,false,false,false,false,false,false,false,false,false,false,false,false,false,false,false,false] rfl rfl (any_of HT_.out (by kernel_rfl)) (fun _ _ _ h=>h) (Or.inl ⟨by rfl,?_⟩) ?_ ?_
          rotate_left
          ·intro w'
           go_simp
           with_reducible rfl
          rotate_left
          ·simp only [Act.put,List.setIfInBounds_toArray,List.set_cons_zero,List.set_cons_succ,i64_w,i32_w]
           rfl
          refine pure_ (i:=11) (N:=some 124) (v:=?_) (a':=?_) #[true,true,true,false,true,true,true,true,true,false,false,true,false,false,false,false,false,false,false,false,false,false,false,false,false,false,false,false] rfl rfl (any_of HT_.out (by kernel_rfl)) (fun _ _ _ h=>h) (Or.inl ⟨by rfl,?_⟩) ?_ ?_
          rotate_left
          ·intro w'
           go_simp
           with_reducible rfl
          rotate_left
          ·simp only [Act.put,List.setIfInBounds_toArray,List.set_cons_zero,List.set_cons_succ,i64_w,i32_w]
           rfl
          refine take_ (i:=3) (N:=some 116) (v:=?_) (a':=?_) #[true,true,true,true,true,true,true,true,true,false,false,true,false,false,false,false,false,false,false,false,false,false,false,false,false,false,false,false] rfl rfl (take_ofW HT_.out HW_.out (by kernel_rfl)) (fun _ _ _ h=>h) (Or.inl ⟨by rfl,?_⟩) hHeld ?_ ?_
          rotate_left
          ·rintro w' ⟨s0,s1,s2,s3,s4⟩
           go_simp
           with_reducible rfl
          rotate_left
          ·simp only [Act.put,List.setIfInBounds_toArray,List.set_cons_zero,List.set_cons_succ,i64_w,i32_w]
           rfl
          refine take_ (i:=9) (N:=some 122) (v:=?_) (a':=?_) #[true,true,true,true,true,true,true,true,true,true,false,true,false,false,false,false,false,false,false,false,false,false,false,false,false,false,false,false] rfl rfl (take_ofW HT_.out HW_.out (by kernel_rfl)) (fun _ _ _ h=>h) (Or.inl ⟨by rfl,?_⟩) hHeld ?_ ?_
          rotate_left
          ·rintro w' ⟨s0,s1,s2,s3,s4⟩
           go_simp
           with_reducible rfl
          rotate_left
          ·simp only [Act.put,List.setIfInBounds_toArray,List.set_cons_zero,List.set_cons_succ,i64_w,i32_w]
           rfl
          refine pure_ (i:=10) (N:=some 123) (v:=?_) (a':=?_) #[true,true,true,true,true,true,true,true,true,true,true,true,false,false,false,false,false,false,false,false,false,false,false,false,false,false,false,false] rfl rfl (any_of HT_.out (by kernel_rfl)) (fun _ _ _ h=>h) (Or.inl ⟨by rfl,?_⟩) ?_ ?_
          rotate_left
          ·intro w'
           go_simp
           with_reducible rfl
          rotate_left
          ·simp only [Act.put,List.setIfInBounds_toArray,List.set_cons_zero,List.set_cons_succ,i64_w,i32_w]
           rfl
          refine one_ (i:=12) (N:=some 125) #[true,true,true,true,true,true,true,true,true,true,true,true,true,false,false,false,false,false,false,false,false,false,false,false,false,false,false,false] rfl rfl (one_of HT_.out (by kernel_rfl)) (by decide) (fun K hK=>?_)
          refine goes_ Try.func34 (by kernel_rfl) rfl #[.int .i64 (wrap64 (b3 * ((rd_T45 b1 b0).f0))),.int .i64 b5] (by rfl) rfl rfl (by (try simp only [List.map_toArray,List.map_cons,List.map_nil]);first | done | rfl | (simp only [List.length_drop,List.length_take];rfl)) ?_
          with_reducible refine (numnahref07_Reduced.calls k4 (wrap64 (b3 * ((rd_T45 b1 b0).f0))) b5 p1 p3 _ J7.out).mono ?_
          rintro e W5 ⟨rfl,hb⟩
          have r2:=(hb.cell (World.block_lt_of_cell? _ _ (hHeld.1))).trans (hHeld.1)
          have r3:=(hb.cell (World.block_lt_of_cell? _ _ (hHeld.2.1))).trans (hHeld.2.1)
          have r4:=(hb.cell (World.block_lt_of_cell? _ _ (hHeld.2.2.1))).trans (hHeld.2.2.1)
          have r5:=(hb.cell (World.block_lt_of_cell? _ _ (hHeld.2.2.2.1))).trans (hHeld.2.2.2.1)
          have A0:=(hb.cell (World.block_lt_of_cell? _ _ (hHeld.2.2.2.2))).trans (hHeld.2.2.2.2)
          refine ⟨_,rfl,?_⟩
          have e1:=Aside0.mk (Kd.N_below (by (with_reducible repeat (first | apply Kd.N_alloc | apply Kd.N_drewN | apply Kd.N_drew));exact b2.out) hb)
          have e2:=Aside0.mk (Kd.R_below (by (with_reducible repeat (first | apply Kd.R_alloc | apply Kd.R_drewN | apply Kd.R_drew));exact b7.out) hb)
          have e3:=Aside0.mk (Kd.R_below (by (with_reducible repeat (first | apply Kd.R_alloc | apply Kd.R_drewN | apply Kd.R_drew));exact b6.out) hb)
          have e9:=Aside0.mk (Kd.R_below (by (with_reducible repeat (first | apply Kd.R_alloc | apply Kd.R_drewN | apply Kd.R_drew));exact b8.out) hb)
          have h9:=Aside0.mk (Kd.V_below (by (with_reducible repeat (first | apply Kd.V_alloc | apply Kd.V_drewN | apply Kd.V_drew));exact d4.out) hb)
          have m9:=Aside0.mk (Kd.C_below (by repeat (first | (with_reducible exact d0.out) | (with_reducible refine Kd.C_alloc ?_ _) | (with_reducible refine Kd.C_drewN ?_ _) | (with_reducible refine Kd.C_drew ?_) | exact d0.out)) hb)
          have p0:=Aside0.mk (below_step (by repeat (first | (with_reducible first | exact HB.out | apply below_alloc | apply pw_below_drewN | apply below_drew1) | exact HB.out)) hb)
          clear b2
          clear b7
          clear b6
          clear b8
          clear d4
          clear d0
          clear HB
          have b2:=e1
          have b7:=e2
          have b6:=e3
          have b8:=e9
          have d4:=h9
          have d0:=m9
          have HB:=p0
          clear e1 e2 e3 e9 h9 m9 p0
          (try clear hb)
          obtain ⟨S5,S6,I2⟩:=Kd.R_slice b6.out
          (first | subst I2 | (injection I2 with l8 p4 l9;have p5:=l8.symm;have p7:=l9.symm;clear l8 p4 l9;subst p5;subst p7))
          refine hK.out _ _ ⟨r2,r3,r4,r5,A0⟩ (fun hHeld=>?_)
          clear hK K
          refine norm_ (a':=?_) ?_ ?_
          rotate_left
          ·show Act.put _ (some 125) _ = _
           simp only [Act.put,List.setIfInBounds_toArray,List.set_cons_zero,List.set_cons_succ,i64_w,i32_w]
           rfl
          refine pure_ (i:=13) (N:=some 126) (v:=?_) (a':=?_) #[true,true,true,true,true,true,true,true,true,true,true,true,true,true,false,false,false,false,false,false,false,false,false,false,false,false,false,false] rfl rfl (any_of HT_.out (by kernel_rfl)) (fun _ _ _ h=>h) (Or.inl ⟨by rfl,?_⟩) ?_ ?_
          rotate_left
          ·intro w'
           go_simp
           with_reducible rfl
          rotate_left
          ·simp only [Act.put,List.setIfInBounds_toArray,List.set_cons_zero,List.set_cons_succ,i64_w,i32_w]
           rfl
          refine pure_ (i:=14) (N:=some 127) (v:=?_) (a':=?_) #[true,true,true,true,true,true,true,true,true,true,true,true,true,true,true,false,false,false,false,false,false,false,false,false,false,false,false,false] rfl rfl (any_of HT_.out (by kernel_rfl)) (fun _ _ _ h=>h) (Or.inl ⟨by rfl,?_⟩) ?_ ?_
          rotate_left
          ·intro w'
           go_simp
           with_reducible rfl
          rotate_left
          ·simp only [Act.put,List.setIfInBounds_toArray,List.set_cons_zero,List.set_cons_succ,i64_w,i32_w]
           rfl
          refine pure_ (i:=15) (N:=some 128) (v:=?_) (a':=?_) #[true,true,true,true,true,true,true,true,true,true,true,true,true,true,true,true,false,false,false,false,false,false,false,false,false,false,false,false] rfl rfl (any_of HT_.out (by kernel_rfl)) (fun _ _ _ h=>h) (Or.inl ⟨by rfl,?_⟩) ?_ ?_
          rotate_left
          ·intro w'
           go_simp
           with_reducible rfl
          rotate_left
          ·simp only [Act.put,List.setIfInBounds_toArray,List.set_cons_zero,List.set_cons_succ,i64_w,i32_w]
           rfl
          refine pure_ (i:=16) (N:=some 129) (v:=?_) (a':=?_) #[true,true,true,true,true,true,true,true,true,true,true,true,true,true,true,true,true,false,false,false,false,false,false,false,false,false,false,false] rfl rfl (any_of HT_.out (by kernel_rfl)) (fun _ _ _ h=>h) (Or.inl ⟨by rfl,?_⟩) ?_ ?_
          rotate_left
          ·intro w'
           go_simp
           with_reducible rfl
          rotate_left
          ·simp only [Act.put,List.setIfInBounds_toArray,List.set_cons_zero,List.set_cons_succ,i64_w,i32_w]
           rfl
          refine pure_ (i:=17) (N:=some 130) (v:=?_) (a':=?_) #[true,true,true,true,true,true,true,true,true,true,true,true,true,true,true,true,true,true,false,false,false,false,false,false,false,false,false,false] rfl rfl (any_of HT_.out (by kernel_rfl)) (fun _ _ _ h=>h) (Or.inl ⟨by rfl,?_⟩) ?_ ?_
          rotate_left
          ·intro w'
           go_simp
           with_reducible rfl
          rotate_left
          ·simp only [Act.put,List.setIfInBounds_toArray,List.set_cons_zero,List.set_cons_succ,i64_w,i32_w]
           rfl
          refine take_ (i:=18) (N:=some 131) (v:=?_) (a':=?_) #[true,true,true,true,true,true,true,true,true,true,true,true,true,true,true,true,true,true,true,false,false,false,false,false,false,false,false,false] rfl rfl (take_ofW HT_.out HW_.out (by kernel_rfl)) (fun _ _ _ h=>h) (Or.inl ⟨by rfl,?_⟩) hHeld ?_ ?_
          rotate_left
          ·rintro w' ⟨s0,s1,s2,s3,s4⟩
           go_simp
           with_reducible rfl
          rotate_left
          ·simp only [Act.put,List.setIfInBounds_toArray,List.set_cons_zero,List.set_cons_succ,i64_w,i32_w]
           rfl
          refine pure_ (i:=19) (N:=some 132) (v:=?_) (a':=?_) #[true,true,true,true,true,true,true,true,true,true,true,true,true,true,true,true,true,true,true,true,false,false,false,false,false,false,false,false] rfl rfl (any_of HT_.out (by kernel_rfl)) (fun _ _ _ h=>h) (Or.inl ⟨by rfl,?_⟩) ?_ ?_
          rotate_left
          ·intro w'
           go_simp
           with_reducible rfl
          rotate_left
          ·simp only [Act.put,List.setIfInBounds_toArray,List.set_cons_zero,List.set_cons_succ,i64_w,i32_w]
           rfl
          refine pure_ (i:=20) (N:=some 133) (v:=?_) (a':=?_) #[true,true,true,true,true,true,true,true,true,true,true,true,true,true,true,true,true,true,true,true,true,false,false,false,false,false,false,false] rfl rfl (any_of HT_.out (by kernel_rfl)) (fun _ _ _ h=>h) (Or.inl ⟨by rfl,?_⟩) ?_ ?_
          rotate_left
          ·intro w'
           go_simp
           with_reducible rfl
          rotate_left
          ·simp only [Act.put,List.setIfInBounds_toArray,List.set_cons_zero,List.set_cons_succ,i64_w,i32_w]
           rfl
          refine pure_ (i:=21) (N:=some 134) (v:=?_) (a':=?_) #[true,true,true,true,true,true,true,true,true,true,true,true,true,true,true,true,true,true,true,true,true,true,false,false,false,false,false,false] rfl rfl (any_of HT_.out (by kernel_rfl)) (fun _ _ _ h=>h) (Or.inl ⟨by rfl,?_⟩) ?_ ?_
          rotate_left
          ·intro w'
           go_simp
           with_reducible rfl
          rotate_left
          ·simp only [Act.put,List.setIfInBounds_toArray,List.set_cons_zero,List.set_cons_succ,i64_w,i32_w]
           rfl
          refine pure_ (i:=22) (N:=some 135) (v:=undef) (a':=?_) #[true,true,true,true,true,true,true,true,true,true,true,true,true,true,true,true,true,true,true,true,true,true,true,false,false,false,false,false] rfl rfl (any_of HT_.out (by kernel_rfl)) (fun _ _ _ h=>h) (Or.inr ⟨by rfl,rfl⟩) ?_ ?_
          rotate_left
          ·simp only [Act.put,List.setIfInBounds_toArray,List.set_cons_zero,List.set_cons_succ,i64_w,i32_w]
           rfl
          refine pure_ (i:=23) (N:=some 136) (v:=undef) (a':=?_) #[true,true,true,true,true,true,true,true,true,true,true,true,true,true,true,true,true,true,true,true,true,true,true,true,false,false,false,false] rfl rfl (any_of HT_.out (by kernel_rfl)) (fun _ _ _ h=>h) (Or.inr ⟨by rfl,rfl⟩) ?_ ?_
          rotate_left
          ·simp only [Act.put,List.setIfInBounds_toArray,List.set_cons_zero,List.set_cons_succ,i64_w,i32_w]
           rfl
          refine pure_ (i:=24) (N:=some 137) (v:=undef) (a':=?_) #[true,true,true,true,true,true,true,true,true,true,true,true,true,true,true,true,true,true,true,true,true,true,true,true,true,false,false,false] rfl rfl (any_of HT_.out (by kernel_rfl)) (fun _ _ _ h=>h) (Or.inr ⟨by rfl,rfl⟩) ?_ ?_
          rotate_left
          ·simp only [Act.put,List.setIfInBounds_toArray,List.set_cons_zero,List.set_cons_succ,i64_w,i32_w]
           rfl
          refine pure_ (i:=25) (N:=some 138) (v:=undef) (a':=?_) #[true,true,true,true,true,true,true,true,true,true,true,true,true,true,true,true,true,true,true,true,true,true,true,true,true,true,false,false] rfl rfl (any_of HT_.out (by kernel_rfl)) (fun _ _ _ h=>h) (Or.inr ⟨by rfl,rfl⟩) ?_ ?_
          rotate_left
          ·simp only [Act.put,List.setIfInBounds_toArray,List.set_cons_zero,List.set_cons_succ,i64_w,i32_w]
           rfl
          refine pure_ (i:=26) (N:=some 139) (v:=undef) (a':=?_) #[true,true,true,true,true,true,true,true,true,true,true,true,true,true,true,true,true,true,true,true,true,true,true,true,true,true,true,false] rfl rfl (any_of HT_.out (by kernel_rfl)) (fun _ _ _ h=>h) (Or.inr ⟨by rfl,rfl⟩) ?_ ?_
          rotate_left
          ·simp only [Act.put,List.setIfInBounds_toArray,List.set_cons_zero,List.set_cons_succ,i64_w,i32_w]
           rfl
          refine pure_ (i:=27) (N:=some 140) (v:=?_) (a':=?_) #[true,true,true,true,true,true,true,true,true,true,true,true,true,true,true,true,true,true,true,true,true,true,true,true,true,true,true,true] rfl rfl (any_of HT_.out (by kernel_rfl)) (fun _ _ _ h=>h) (Or.inl ⟨by rfl,?_⟩) ?_ ?_
          rotate_left
          ·intro w'
           go_simp
           with_reducible rfl
          rotate_left
          ·simp only [Act.put,List.setIfInBounds_toArray,List.set_cons_zero,List.set_cons_succ,i64_w,i32_w]
           rfl
          refine done_ (done_of HT_.out (by kernel_rfl)) ?_
          try go_wp2
          go_ret
          exact ⟨by first | rfl | (simp [errW_none,errW_some] <;> rfl) | (simp [*,errW_none,errW_some] <;> rfl),by repeat (first | (with_reducible first | exact HB.out | apply below_alloc | apply pw_below_drewN | apply below_drew1) | exact HB.out)⟩
         rw [if_pos E5] at H
         have H9:((rd b9 b0) == 0) = true:=beq_iff_eq.mpr E5
         have I0:((rd b9 b0) != 0) = false:=bne_eq_false_iff_eq.mpr E5
         clear E5
         by_cases J9:b0 < (d9.length:Int)
         case neg =>
          rw [if_neg J9] at H
          exact absurd H (by simp)
         rw [if_pos J9] at H
         have N9:decide (b0 < (d9.length:Int)) = true:=decide_eq_true J9
         clear J9
         by_cases E6:(rd d9 b0) = 1
         case neg =>
          rw [if_neg E6] at H
          have I3:((rd d9 b0) == 1) = false:=beq_eq_false_iff_ne.mpr E6
          have I4:((rd d9 b0) != 1) = true:=bne_iff_ne.mpr E6
          obtain rfl:=Option.some.inj H
          try go_wp2
          have e1:=Aside0.mk (Kd.N_drew b2.out)
          have e2:=Aside0.mk (Kd.R_drew b7.out)
          have e3:=Aside0.mk (Kd.R_drew b6.out)
          have e9:=Aside0.mk (Kd.R_drew b8.out)
          have h9:=Aside0.mk (below_drew1 HB.out)
          clear b2
          clear b7
          clear b6
          clear b8
          clear HB
          have b2:=e1
          have b7:=e2
          have b6:=e3
          have b8:=e9
          have HB:=h9
          clear e1 e2 e3 e9 h9
          obtain ⟨S7,S8,I5⟩:=Kd.R_slice b7.out
          (first | subst I5 | (injection I5 with l8 p4 l9;have p5:=l8.symm;have p7:=l9.symm;clear l8 p4 l9;subst p5;subst p7))
          have i8:0 ≤ (b0:Int):=of_decide_eq_true (by first | (with_reducible assumption) | assumption)
          have i9:b0 < (b4.length:Int):=of_decide_eq_true (by first | (with_reducible assumption) | assumption)
          obtain ⟨h4,r0,e4,e5⟩:=at_T23 (Kd.R_reads' b7.out).2.2 b0 i8 i9
          cases r0
          replace i8:=eq_true i8
          replace i9:=eq_true i9
          have i2:0 ≤ (b0:Int):=of_decide_eq_true (by first | (with_reducible assumption) | assumption)
          have i3:b0 < (b1.length:Int):=of_decide_eq_true (by first | (with_reducible assumption) | assumption)
          obtain ⟨h5,j5,j7,r1,e6,d6,e7,e8⟩:=at_T45 (Kd.N_reads' b2.out).2.2 b0 i2 i3
          cases r1
          obtain ⟨z8,j8,j9,h6⟩:=Kd.N_get b2.out z45 b0 i2 (by first | exact i3 | exact of_decide_eq_true (by first | (with_reducible assumption) | assumption) | (have e_:=(Kd.N_reads' b2.out).1;omega))
          obtain ⟨n4,n5,rfl,d7,d8⟩:=k45_openF j9
          have d3:=h6 1 _ rfl
          rw [add_field _ _ 1 (by omega)] at d3
          replace d3:=Option.some.inj (d3.symm.trans d6)
          injection d3 with hva_ hvn_ hvc_
          rw [hva_] at d8
          rw [hvc_] at d7
          have d4:=Aside0.mk (show Kd.V (Kd.int .i64) 3 _ w.heap.size _ _ ((rd_T45 b1 b0).f1) from Kd.V_mk d7 d8)
          clear hva_ hvn_ hvc_ d8 d7
          clear h6 j8
          have d0:=Aside0.mk e8
          have n6:=Aside0.mk e7
          clear e8 e7
          replace i2:=eq_true i2
          replace i3:=eq_true i3
          obtain ⟨Aoz_,coz_,eoz_⟩:=Kd.R_slice b6.out
          (first | subst eoz_ | clear eoz_)
          have m7:0 ≤ (b0:Int):=of_decide_eq_true (by first | (with_reducible assumption) | assumption)
          have m8:b0 < (b9.length:Int):=of_decide_eq_true (by first | (with_reducible assumption) | assumption)
          obtain ⟨p8,z9,h8⟩:=Kd.at_int (Kd.R_reads' b6.out).2.2 b0 m7 m8
          cases z9
          replace m7:=eq_true m7
          replace m8:=eq_true m8
          obtain ⟨Aoz_,coz_,eoz_⟩:=Kd.R_slice b8.out
          (first | subst eoz_ | clear eoz_)
          have r6:0 ≤ (b0:Int):=of_decide_eq_true (by first | (with_reducible assumption) | assumption)
          have r7:b0 < (d9.length:Int):=of_decide_eq_true (by first | (with_reducible assumption) | assumption)
          obtain ⟨A2,E7,l5⟩:=Kd.at_int (Kd.R_reads' b8.out).2.2 b0 r6 r7
          cases E7
          replace r6:=eq_true r6
          replace r7:=eq_true r7
          refine start_ (n:=28) (S:=fun w'=>w'.cell? (h4.add ((b0).toNat * 2)) = some (.int .i64 ((rd_T23 b4 b0).f0)) ∧ w'.cell? ⟨(h4.add ((b0).toNat * 2)).block,(h4.add ((b0).toNat * 2)).off + 1,none⟩ = some (.int .i64 ((rd_T23 b4 b0).f1)) ∧ w'.cell? (h5.add ((b0).toNat * 2)) = some (.int .i64 ((rd_T45 b1 b0).f0)) ∧ w'.cell? ⟨(h5.add ((b0).toNat * 2)).block,(h5.add ((b0).toNat * 2)).off + 1,none⟩ = some (.slice j5 ((rd_T45 b1 b0).f1).length j7) ∧ w'.cell? (p8.add (b0).toNat) = some (.int .i64 (rd b9 b0)) ∧ w'.cell? (A2.add (b0).toNat) = some (.int .i64 (rd d9 b0))) (ds:=[]) #[false,false,false,false,false,false,false,false,false,false,false,false,false,false,false,false,false,false,false,false,false,false,false,false,false,false,false,false] (by kernel_rfl) rfl rfl ⟨e4,e5,e6,d6,h8,l5⟩ (fun hHeld=>?_);refine with_tabW numnahlaw07_SharesEqual.tab22 numnahlaw07_SharesEqual.bits22 (fun HT_ HW_=>?_)
          generalize wr.drew = W6 at b2 b7 b6 b8 HB d4 d0 e4 e5 e6 d6 h8 l5 hHeld ⊢
          refine pure_ (i:=0) (N:=some 113) (v:=?_) (a':=?_) #[true,false,false,false,false,false,false,false,false,false,false,false,false,false,false,false,false,false,false,false,false,false,false,false,false,false,false,false] rfl rfl (any_of HT_.out (by kernel_rfl)) (fun _ _ _ h=>h) (Or.inl ⟨by rfl,?_⟩) ?_ ?_
          rotate_left
          ·intro w'
           go_simp
           with_reducible rfl
          rotate_left
          ·simp only [Act.put,List.setIfInBounds_toArray,List.set_cons_zero,List.set_cons_succ,i64_w,i32_w]
           rfl
          refine pure_ (i:=1) (N:=some 114) (v:=?_) (a':=?_) #[true,true,false,false,false,false,false,false,false,false,false,false,false,false,false,false,false,false,false,false,false,false,false,false,false,false,false,false] rfl rfl (any_of HT_.out (by kernel_rfl)) (fun _ _ _ h=>h) (Or.inl ⟨by rfl,?_⟩) ?_ ?_
          rotate_left
          ·intro w'
           go_simp
           with_reducible rfl
          rotate_left
          ·simp only [Act.put,List.setIfInBounds_toArray,List.set_cons_zero,List.set_cons_succ,i64_w,i32_w]
           rfl
          refine pure_ (i:=2) (N:=some 115) (v:=?_) (a':=?_) #[true,true,true,false,false,false,false,false,false,false,false,false,false,false,false,false,false,false,false,false,false,false,false,false,false,false,false,false] rfl rfl (any_of HT_.out (by kernel_rfl)) (fun _ _ _ h=>h) (Or.inl ⟨by rfl,?_⟩) ?_ ?_
          rotate_left
          ·intro w'
           go_simp
           with_reducible rfl
          rotate_left
          ·simp only [Act.put,List.setIfInBounds_toArray,List.set_cons_zero,List.set_cons_succ,i64_w,i32_w]
           rfl
          refine pure_ (i:=4) (N:=some 117) (v:=?_) (a':=?_) #[true,true,true,false,true,false,false,false,false,false,false,false,false,false,false,false,false,false,false,false,false,false,false,false,false,false,false,false] rfl rfl (any_of HT_.out (by kernel_rfl)) (fun _ _ _ h=>h) (Or.inl ⟨by rfl,?_⟩) ?_ ?_
          rotate_left
          ·intro w'
           go_simp
           with_reducible rfl
          rotate_left
          ·simp only [Act.put,List.setIfInBounds_toArray,List.set_cons_zero,List.set_cons_succ,i64_w,i32_w]
           rfl
          refine pure_ (i:=5) (N:=some 118) (v:=?_) (a':=?_) #[true,true,true,false,true,true,false,false,false,false,false,false,false,false,false,false,false,false,false,false,false,false,false,false,false,false,false,false] rfl rfl (any_of HT_.out (by kernel_rfl)) (fun _ _ _ h=>h) (Or.inl ⟨by rfl,?_⟩) ?_ ?_
          rotate_left
          ·intro w'
           go_simp
           with_reducible rfl
          rotate_left
          ·simp only [Act.put,List.setIfInBounds_toArray,List.set_cons_zero,List.set_cons_succ,i64_w,i32_w]
           rfl
          refine pure_ (i:=6) (N:=some 119) (v:=?_) (a':=?_) #[true,true,true,false,true,true,true,false,false,false,false,false,false,false,false,false,false,false,false,false,false,false,false,false,false,false,false,false] rfl rfl (any_of HT_.out (by kernel_rfl)) (fun _ _ _ h=>h) (Or.inl ⟨by rfl,?_⟩) ?_ ?_
          rotate_left
          ·intro w'
           go_simp
           with_reducible rfl
          rotate_left
          ·simp only [Act.put,List.setIfInBounds_toArray,List.set_cons_zero,List.set_cons_succ,i64_w,i32_w]
           rfl
          refine pure_ (i:=7) (N:=some 120) (v:=?_) (a':=?_) #[true,true,true,false,true,true,true,true,false,false,false,false,false,false,false,false,false,false,false,false,false,false,false,false,false,false,false,false] rfl rfl (any_of HT_.out (by kernel_rfl)) (fun _ _ _ h=>h) (Or.inl ⟨by rfl,?_⟩) ?_ ?_
          rotate_left
          ·intro w'
           go_simp
           with_reducible rfl
          rotate_left
          ·simp only [Act.put,List.setIfInBounds_toArray,List.set_cons_zero,List.set_cons_succ,i64_w,i32_w]
           rfl
          refine pure_ (i:=8) (N:=some 121) (v:=?_) (a':=?_) #[true,true,true,false,true,true,true,true,true,false,false,false,false,false,false,false,false,false,false,false,false,false,false,false,false,false,false,false] rfl rfl (any_of HT_.out (by kernel_rfl)) (fun _ _ _ h=>h) (Or.inl ⟨by rfl,?_⟩) ?_ ?_
          rotate_left
          ·intro w'
           go_simp
           with_reducible rfl
          rotate_left
          ·simp only [Act.put,List.setIfInBounds_toArray,List.set_cons_zero,List.set_cons_succ,i64_w,i32_w]
           rfl
          refine pure_ (i:=11) (N:=some 124) (v:=?_) (a':=?_) #[true,true,true,false,true,true,true,true,true,false,false,true,false,false,false,false,false,false,false,false,false,false,false,false,false,false,false,false] rfl rfl (any_of HT_.out (by kernel_rfl)) (fun _ _ _ h=>h) (Or.inl ⟨by rfl,?_⟩) ?_ ?_
          rotate_left
          ·intro w'
           go_simp
           with_reducible rfl
          rotate_left
          ·simp only [Act.put,List.setIfInBounds_toArray,List.set_cons_zero,List.set_cons_succ,i64_w,i32_w]
           rfl
          refine take_ (i:=3) (N:=some 116) (v:=?_) (a':=?_) #[true,true,true,true,true,true,true,true,true,false,false,true,false,false,false,false,false,false,false,false,false,false,false,false,false,false,false,false] rfl rfl (take_ofW HT_.out HW_.out (by kernel_rfl)) (fun _ _ _ h=>h) (Or.inl ⟨by rfl,?_⟩) hHeld ?_ ?_
          rotate_left
          ·rintro w' ⟨s0,s1,s2,s3,s4,s5⟩
           go_simp
           with_reducible rfl
          rotate_left
          ·simp only [Act.put,List.setIfInBounds_toArray,List.set_cons_zero,List.set_cons_succ,i64_w,i32_w]
           rfl
          refine take_ (i:=9) (N:=some 122) (v:=?_) (a':=?_) #[true,true,true,true,true,true,true,true,true,true,false,true,false,false,false,false,false,false,false,false,false,false,false,false,false,false,false,false] rfl rfl (take_ofW HT_.out HW_.out (by kernel_rfl)) (fun _ _ _ h=>h) (Or.inl ⟨by rfl,?_⟩) hHeld ?_ ?_
          rotate_left
          ·rintro w' ⟨s0,s1,s2,s3,s4,s5⟩
           go_simp
           with_reducible rfl
          rotate_left
          ·simp only [Act.put,List.setIfInBounds_toArray,List.set_cons_zero,List.set_cons_succ,i64_w,i32_w]
           rfl
          refine pure_ (i:=10) (N:=some 123) (v:=?_) (a':=?_) #[true,true,true,true,true,true,true,true,true,true,true,true,false,false,false,false,false,false,false,false,false,false,false,false,false,false,false,false] rfl rfl (any_of HT_.out (by kernel_rfl)) (fun _ _ _ h=>h) (Or.inl ⟨by rfl,?_⟩) ?_ ?_
          rotate_left
          ·intro w'
           go_simp
           with_reducible rfl
          rotate_left
          ·simp only [Act.put,List.setIfInBounds_toArray,List.set_cons_zero,List.set_cons_succ,i64_w,i32_w]
           rfl
          refine one_ (i:=12) (N:=some 125) #[true,true,true,true,true,true,true,true,true,true,true,true,true,false,false,false,false,false,false,false,false,false,false,false,false,false,false,false] rfl rfl (one_of HT_.out (by kernel_rfl)) (by decide) (fun K hK=>?_)
          refine goes_ Try.func34 (by kernel_rfl) rfl #[.int .i64 (wrap64 (b3 * ((rd_T45 b1 b0).f0))),.int .i64 b5] (by rfl) rfl rfl (by (try simp only [List.map_toArray,List.map_cons,List.map_nil]);first | done | rfl | (simp only [List.length_drop,List.length_take];rfl)) ?_
          with_reducible refine (numnahref07_Reduced.calls k4 (wrap64 (b3 * ((rd_T45 b1 b0).f0))) b5 p1 p3 _ J7.out).mono ?_
          rintro e W7 ⟨rfl,hb⟩
          have r2:=(hb.cell (World.block_lt_of_cell? _ _ (hHeld.1))).trans (hHeld.1)
          have r3:=(hb.cell (World.block_lt_of_cell? _ _ (hHeld.2.1))).trans (hHeld.2.1)
          have r4:=(hb.cell (World.block_lt_of_cell? _ _ (hHeld.2.2.1))).trans (hHeld.2.2.1)
          have r5:=(hb.cell (World.block_lt_of_cell? _ _ (hHeld.2.2.2.1))).trans (hHeld.2.2.2.1)
          have A0:=(hb.cell (World.block_lt_of_cell? _ _ (hHeld.2.2.2.2.1))).trans (hHeld.2.2.2.2.1)
          have E8:=(hb.cell (World.block_lt_of_cell? _ _ (hHeld.2.2.2.2.2))).trans (hHeld.2.2.2.2.2)
          refine ⟨_,rfl,?_⟩
          have e1:=Aside0.mk (Kd.N_below (by (with_reducible repeat (first | apply Kd.N_alloc | apply Kd.N_drewN | apply Kd.N_drew));exact b2.out) hb)
          have e2:=Aside0.mk (Kd.R_below (by (with_reducible repeat (first | apply Kd.R_alloc | apply Kd.R_drewN | apply Kd.R_drew));exact b7.out) hb)
          have e3:=Aside0.mk (Kd.R_below (by (with_reducible repeat (first | apply Kd.R_alloc | apply Kd.R_drewN | apply Kd.R_drew));exact b6.out) hb)
          have e9:=Aside0.mk (Kd.R_below (by (with_reducible repeat (first | apply Kd.R_alloc | apply Kd.R_drewN | apply Kd.R_drew));exact b8.out) hb)
          have h9:=Aside0.mk (Kd.V_below (by (with_reducible repeat (first | apply Kd.V_alloc | apply Kd.V_drewN | apply Kd.V_drew));exact d4.out) hb)
          have m9:=Aside0.mk (Kd.C_below (by repeat (first | (with_reducible exact d0.out) | (with_reducible refine Kd.C_alloc ?_ _) | (with_reducible refine Kd.C_drewN ?_ _) | (with_reducible refine Kd.C_drew ?_) | exact d0.out)) hb)
          have p0:=Aside0.mk (below_step (by repeat (first | (with_reducible first | exact HB.out | apply below_alloc | apply pw_below_drewN | apply below_drew1) | exact HB.out)) hb)
          clear b2
          clear b7
          clear b6
          clear b8
          clear d4
          clear d0
          clear HB
          have b2:=e1
          have b7:=e2
          have b6:=e3
          have b8:=e9
          have d4:=h9
          have d0:=m9
          have HB:=p0
          clear e1 e2 e3 e9 h9 m9 p0
          (try clear hb)
          obtain ⟨S9,T0,I6⟩:=Kd.R_slice b6.out
          (first | subst I6 | (injection I6 with l8 p4 l9;have p5:=l8.symm;have p7:=l9.symm;clear l8 p4 l9;subst p5;subst p7))
          obtain ⟨U0,U1,I7⟩:=Kd.R_slice b8.out
          (first | subst I7 | (injection I7 with l8 p4 l9;have p5:=l8.symm;have p7:=l9.symm;clear l8 p4 l9;subst p5;subst p7))
          refine hK.out _ _ ⟨r2,r3,r4,r5,A0,E8⟩ (fun hHeld=>?_)
          clear hK K
          refine norm_ (a':=?_) ?_ ?_
          rotate_left
          ·show Act.put _ (some 125) _ = _
           simp only [Act.put,List.setIfInBounds_toArray,List.set_cons_zero,List.set_cons_succ,i64_w,i32_w]
           rfl
          refine pure_ (i:=13) (N:=some 126) (v:=?_) (a':=?_) #[true,true,true,true,true,true,true,true,true,true,true,true,true,true,false,false,false,false,false,false,false,false,false,false,false,false,false,false] rfl rfl (any_of HT_.out (by kernel_rfl)) (fun _ _ _ h=>h) (Or.inl ⟨by rfl,?_⟩) ?_ ?_
          rotate_left
          ·intro w'
           go_simp
           with_reducible rfl
          rotate_left
          ·simp only [Act.put,List.setIfInBounds_toArray,List.set_cons_zero,List.set_cons_succ,i64_w,i32_w]
           rfl
          refine pure_ (i:=14) (N:=some 127) (v:=?_) (a':=?_) #[true,true,true,true,true,true,true,true,true,true,true,true,true,true,true,false,false,false,false,false,false,false,false,false,false,false,false,false] rfl rfl (any_of HT_.out (by kernel_rfl)) (fun _ _ _ h=>h) (Or.inl ⟨by rfl,?_⟩) ?_ ?_
          rotate_left
          ·intro w'
           go_simp
           with_reducible rfl
          rotate_left
          ·simp only [Act.put,List.setIfInBounds_toArray,List.set_cons_zero,List.set_cons_succ,i64_w,i32_w]
           rfl
          refine pure_ (i:=15) (N:=some 128) (v:=?_) (a':=?_) #[true,true,true,true,true,true,true,true,true,true,true,true,true,true,true,true,false,false,false,false,false,false,false,false,false,false,false,false] rfl rfl (any_of HT_.out (by kernel_rfl)) (fun _ _ _ h=>h) (Or.inl ⟨by rfl,?_⟩) ?_ ?_
          rotate_left
          ·intro w'
           go_simp
           with_reducible rfl
          rotate_left
          ·simp only [Act.put,List.setIfInBounds_toArray,List.set_cons_zero,List.set_cons_succ,i64_w,i32_w]
           rfl
          refine pure_ (i:=16) (N:=some 129) (v:=?_) (a':=?_) #[true,true,true,true,true,true,true,true,true,true,true,true,true,true,true,true,true,false,false,false,false,false,false,false,false,false,false,false] rfl rfl (any_of HT_.out (by kernel_rfl)) (fun _ _ _ h=>h) (Or.inl ⟨by rfl,?_⟩) ?_ ?_
          rotate_left
          ·intro w'
           go_simp
           with_reducible rfl
          rotate_left
          ·simp only [Act.put,List.setIfInBounds_toArray,List.set_cons_zero,List.set_cons_succ,i64_w,i32_w]
           rfl
          refine pure_ (i:=17) (N:=some 130) (v:=?_) (a':=?_) #[true,true,true,true,true,true,true,true,true,true,true,true,true,true,true,true,true,true,false,false,false,false,false,false,false,false,false,false] rfl rfl (any_of HT_.out (by kernel_rfl)) (fun _ _ _ h=>h) (Or.inl ⟨by rfl,?_⟩) ?_ ?_
          rotate_left
          ·intro w'
           go_simp
           with_reducible rfl
          rotate_left
          ·simp only [Act.put,List.setIfInBounds_toArray,List.set_cons_zero,List.set_cons_succ,i64_w,i32_w]
           rfl
          refine take_ (i:=18) (N:=some 131) (v:=?_) (a':=?_) #[true,true,true,true,true,true,true,true,true,true,true,true,true,true,true,true,true,true,true,false,false,false,false,false,false,false,false,false] rfl rfl (take_ofW HT_.out HW_.out (by kernel_rfl)) (fun _ _ _ h=>h) (Or.inl ⟨by rfl,?_⟩) hHeld ?_ ?_
          rotate_left
          ·rintro w' ⟨s0,s1,s2,s3,s4,s5⟩
           go_simp
           with_reducible rfl
          rotate_left
          ·simp only [Act.put,List.setIfInBounds_toArray,List.set_cons_zero,List.set_cons_succ,i64_w,i32_w]
           rfl
          refine pure_ (i:=19) (N:=some 132) (v:=?_) (a':=?_) #[true,true,true,true,true,true,true,true,true,true,true,true,true,true,true,true,true,true,true,true,false,false,false,false,false,false,false,false] rfl rfl (any_of HT_.out (by kernel_rfl)) (fun _ _ _ h=>h) (Or.inl ⟨by rfl,?_⟩) ?_ ?_
          rotate_left
          ·intro w'
           go_simp
           with_reducible rfl
          rotate_left
          ·simp only [Act.put,List.setIfInBounds_toArray,List.set_cons_zero,List.set_cons_succ,i64_w,i32_w]
           rfl
          refine pure_ (i:=20) (N:=some 133) (v:=?_) (a':=?_) #[true,true,true,true,true,true,true,true,true,true,true,true,true,true,true,true,true,true,true,true,true,false,false,false,false,false,false,false] rfl rfl (any_of HT_.out (by kernel_rfl)) (fun _ _ _ h=>h) (Or.inl ⟨by rfl,?_⟩) ?_ ?_
          rotate_left
          ·intro w'
           go_simp
           with_reducible rfl
          rotate_left
          ·simp only [Act.put,List.setIfInBounds_toArray,List.set_cons_zero,List.set_cons_succ,i64_w,i32_w]
           rfl
          refine pure_ (i:=21) (N:=some 134) (v:=?_) (a':=?_) #[true,true,true,true,true,true,true,true,true,true,true,true,true,true,true,true,true,true,true,true,true,true,false,false,false,false,false,false] rfl rfl (any_of HT_.out (by kernel_rfl)) (fun _ _ _ h=>h) (Or.inl ⟨by rfl,?_⟩) ?_ ?_
          rotate_left
          ·intro w'
           go_simp
           with_reducible rfl
          rotate_left
          ·simp only [Act.put,List.setIfInBounds_toArray,List.set_cons_zero,List.set_cons_succ,i64_w,i32_w]
           rfl
          refine pure_ (i:=22) (N:=some 135) (v:=?_) (a':=?_) #[true,true,true,true,true,true,true,true,true,true,true,true,true,true,true,true,true,true,true,true,true,true,true,false,false,false,false,false] rfl rfl (any_of HT_.out (by kernel_rfl)) (fun _ _ _ h=>h) (Or.inl ⟨by rfl,?_⟩) ?_ ?_
          rotate_left
          ·intro w'
           go_simp
           with_reducible rfl
          rotate_left
          ·simp only [Act.put,List.setIfInBounds_toArray,List.set_cons_zero,List.set_cons_succ,i64_w,i32_w]
           rfl
          refine pure_ (i:=23) (N:=some 136) (v:=?_) (a':=?_) #[true,true,true,true,true,true,true,true,true,true,true,true,true,true,true,true,true,true,true,true,true,true,true,true,false,false,false,false] rfl rfl (any_of HT_.out (by kernel_rfl)) (fun _ _ _ h=>h) (Or.inl ⟨by rfl,?_⟩) ?_ ?_
          rotate_left
          ·intro w'
           go_simp
           with_reducible rfl
          rotate_left
          ·simp only [Act.put,List.setIfInBounds_toArray,List.set_cons_zero,List.set_cons_succ,i64_w,i32_w]
           rfl
          refine pure_ (i:=24) (N:=some 137) (v:=?_) (a':=?_) #[true,true,true,true,true,true,true,true,true,true,true,true,true,true,true,true,true,true,true,true,true,true,true,true,true,false,false,false] rfl rfl (any_of HT_.out (by kernel_rfl)) (fun _ _ _ h=>h) (Or.inl ⟨by rfl,?_⟩) ?_ ?_
          rotate_left
          ·intro w'
           go_simp
           with_reducible rfl
          rotate_left
          ·simp only [Act.put,List.setIfInBounds_toArray,List.set_cons_zero,List.set_cons_succ,i64_w,i32_w]
           rfl
          refine take_ (i:=25) (N:=some 138) (v:=?_) (a':=?_) #[true,true,true,true,true,true,true,true,true,true,true,true,true,true,true,true,true,true,true,true,true,true,true,true,true,true,false,false] rfl rfl (take_ofW HT_.out HW_.out (by kernel_rfl)) (fun _ _ _ h=>h) (Or.inl ⟨by rfl,?_⟩) hHeld ?_ ?_
          rotate_left
          ·rintro w' ⟨s0,s1,s2,s3,s4,s5⟩
           go_simp
           with_reducible rfl
          rotate_left
          ·simp only [Act.put,List.setIfInBounds_toArray,List.set_cons_zero,List.set_cons_succ,i64_w,i32_w]
           rfl
          refine pure_ (i:=26) (N:=some 139) (v:=?_) (a':=?_) #[true,true,true,true,true,true,true,true,true,true,true,true,true,true,true,true,true,true,true,true,true,true,true,true,true,true,true,false] rfl rfl (any_of HT_.out (by kernel_rfl)) (fun _ _ _ h=>h) (Or.inl ⟨by rfl,?_⟩) ?_ ?_
          rotate_left
          ·intro w'
           go_simp
           with_reducible rfl
          rotate_left
          ·simp only [Act.put,List.setIfInBounds_toArray,List.set_cons_zero,List.set_cons_succ,i64_w,i32_w]
           rfl
          refine pure_ (i:=27) (N:=some 140) (v:=?_) (a':=?_) #[true,true,true,true,true,true,true,true,true,true,true,true,true,true,true,true,true,true,true,true,true,true,true,true,true,true,true,true] rfl rfl (any_of HT_.out (by kernel_rfl)) (fun _ _ _ h=>h) (Or.inl ⟨by rfl,?_⟩) ?_ ?_
          rotate_left
          ·intro w'
           go_simp
           with_reducible rfl
          rotate_left
          ·simp only [Act.put,List.setIfInBounds_toArray,List.set_cons_zero,List.set_cons_succ,i64_w,i32_w]
           rfl
          refine done_ (done_of HT_.out (by kernel_rfl)) ?_
          try go_wp2
          go_ret
          exact ⟨by first | rfl | (simp [errW_none,errW_some] <;> rfl) | (simp [*,errW_none,errW_some] <;> rfl),by repeat (first | (with_reducible first | exact HB.out | apply below_alloc | apply pw_below_drewN | apply below_drew1) | exact HB.out)⟩
         rw [if_pos E6] at H
         have I3:((rd d9 b0) == 1) = true:=beq_iff_eq.mpr E6
         have I4:((rd d9 b0) != 1) = false:=bne_eq_false_iff_eq.mpr E6
         clear E6
         have H':=Aside0.mk H
         clear H
         try go_wp2
         have e1:=Aside0.mk (Kd.N_drew b2.out)
         have e2:=Aside0.mk (Kd.R_drew b7.out)
         have e3:=Aside0.mk (Kd.R_drew b6.out)
         have e9:=Aside0.mk (Kd.R_drew b8.out)
         have h9:=Aside0.mk (below_drew1 HB.out)
         clear b2
         clear b7
         clear b6
         clear b8
         clear HB
         have b2:=e1
         have b7:=e2
         have b6:=e3
         have b8:=e9
         have HB:=h9
         clear e1 e2 e3 e9 h9
         obtain ⟨U2,U3,I8⟩:=Kd.R_slice b7.out
         (first | subst I8 | (injection I8 with l8 p4 l9;have p5:=l8.symm;have p7:=l9.symm;clear l8 p4 l9;subst p5;subst p7))
         have i8:0 ≤ (b0:Int):=of_decide_eq_true (by first | (with_reducible assumption) | assumption)
         have i9:b0 < (b4.length:Int):=of_decide_eq_true (by first | (with_reducible assumption) | assumption)
         obtain ⟨h4,r0,e4,e5⟩:=at_T23 (Kd.R_reads' b7.out).2.2 b0 i8 i9
         cases r0
         replace i8:=eq_true i8
         replace i9:=eq_true i9
         have i2:0 ≤ (b0:Int):=of_decide_eq_true (by first | (with_reducible assumption) | assumption)
         have i3:b0 < (b1.length:Int):=of_decide_eq_true (by first | (with_reducible assumption) | assumption)
         obtain ⟨h5,j5,j7,r1,e6,d6,e7,e8⟩:=at_T45 (Kd.N_reads' b2.out).2.2 b0 i2 i3
         cases r1
         obtain ⟨z8,j8,j9,h6⟩:=Kd.N_get b2.out z45 b0 i2 (by first | exact i3 | exact of_decide_eq_true (by first | (with_reducible assumption) | assumption) | (have e_:=(Kd.N_reads' b2.out).1;omega))
         obtain ⟨n4,n5,rfl,d7,d8⟩:=k45_openF j9
         have d3:=h6 1 _ rfl
         rw [add_field _ _ 1 (by omega)] at d3
         replace d3:=Option.some.inj (d3.symm.trans d6)
         injection d3 with hva_ hvn_ hvc_
         rw [hva_] at d8
         rw [hvc_] at d7
         have d4:=Aside0.mk (show Kd.V (Kd.int .i64) 3 _ w.heap.size _ _ ((rd_T45 b1 b0).f1) from Kd.V_mk d7 d8)
         clear hva_ hvn_ hvc_ d8 d7
         clear h6 j8
         have d0:=Aside0.mk e8
         have n6:=Aside0.mk e7
         clear e8 e7
         replace i2:=eq_true i2
         replace i3:=eq_true i3
         obtain ⟨Aoz_,coz_,eoz_⟩:=Kd.R_slice b6.out
         (first | subst eoz_ | clear eoz_)
         have m7:0 ≤ (b0:Int):=of_decide_eq_true (by first | (with_reducible assumption) | assumption)
         have m8:b0 < (b9.length:Int):=of_decide_eq_true (by first | (with_reducible assumption) | assumption)
         obtain ⟨p8,z9,h8⟩:=Kd.at_int (Kd.R_reads' b6.out).2.2 b0 m7 m8
         cases z9
         replace m7:=eq_true m7
         replace m8:=eq_true m8
         obtain ⟨Aoz_,coz_,eoz_⟩:=Kd.R_slice b8.out
         (first | subst eoz_ | clear eoz_)
         have r6:0 ≤ (b0:Int):=of_decide_eq_true (by first | (with_reducible assumption) | assumption)
         have r7:b0 < (d9.length:Int):=of_decide_eq_true (by first | (with_reducible assumption) | assumption)
         obtain ⟨A2,E7,l5⟩:=Kd.at_int (Kd.R_reads' b8.out).2.2 b0 r6 r7
         cases E7
         replace r6:=eq_true r6
         replace r7:=eq_true r7
         refine start_ (n:=28) (S:=fun w'=>w'.cell? (h4.add ((b0).toNat * 2)) = some (.int .i64 ((rd_T23 b4 b0).f0)) ∧ w'.cell? ⟨(h4.add ((b0).toNat * 2)).block,(h4.add ((b0).toNat * 2)).off + 1,none⟩ = some (.int .i64 ((rd_T23 b4 b0).f1)) ∧ w'.cell? (h5.add ((b0).toNat * 2)) = some (.int .i64 ((rd_T45 b1 b0).f0)) ∧ w'.cell? ⟨(h5.add ((b0).toNat * 2)).block,(h5.add ((b0).toNat * 2)).off + 1,none⟩ = some (.slice j5 ((rd_T45 b1 b0).f1).length j7) ∧ w'.cell? (p8.add (b0).toNat) = some (.int .i64 (rd b9 b0)) ∧ w'.cell? (A2.add (b0).toNat) = some (.int .i64 (rd d9 b0))) (ds:=[]) #[false,false,false,false,false,false,false,false,false,false,false,false,false,false,false,false,false,false,false,false,false,false,false,false,false,false,false,false] (by kernel_rfl) rfl rfl ⟨e4,e5,e6,d6,h8,l5⟩ (fun hHeld=>?_);refine with_tabW numnahlaw07_SharesEqual.tab22 numnahlaw07_SharesEqual.bits22 (fun HT_ HW_=>?_)
         generalize wr.drew = W8 at b2 b7 b6 b8 HB d4 d0 e4 e5 e6 d6 h8 l5 hHeld ⊢
         refine pure_ (i:=0) (N:=some 113) (v:=?_) (a':=?_) #[true,false,false,false,false,false,false,false,false,false,false,false,false,false,false,false,false,false,false,false,false,false,false,false,false,false,false,false] rfl rfl (any_of HT_.out (by kernel_rfl)) (fun _ _ _ h=>h) (Or.inl ⟨by rfl,?_⟩) ?_ ?_
         rotate_left
         ·intro w'
          go_simp
          with_reducible rfl
         rotate_left
         ·simp only [Act.put,List.setIfInBounds_toArray,List.set_cons_zero,List.set_cons_succ,i64_w,i32_w]
          rfl
         refine pure_ (i:=1) (N:=some 114) (v:=?_) (a':=?_) #[true,true,false,false,false,false,false,false,false,false,false,false,false,false,false,false,false,false,false,false,false,false,false,false,false,false,false,false] rfl rfl (any_of HT_.out (by kernel_rfl)) (fun _ _ _ h=>h) (Or.inl ⟨by rfl,?_⟩) ?_ ?_
         rotate_left
         ·intro w'
          go_simp
          with_reducible rfl
         rotate_left
         ·simp only [Act.put,List.setIfInBounds_toArray,List.set_cons_zero,List.set_cons_succ,i64_w,i32_w]
          rfl
         refine pure_ (i:=2) (N:=some 115) (v:=?_) (a':=?_) #[true,true,true,false,false,false,false,false,false,false,false,false,false,false,false,false,false,false,false,false,false,false,false,false,false,false,false,false] rfl rfl (any_of HT_.out (by kernel_rfl)) (fun _ _ _ h=>h) (Or.inl ⟨by rfl,?_⟩) ?_ ?_
         rotate_left
         ·intro w'
          go_simp
          with_reducible rfl
         rotate_left
         ·simp only [Act.put,List.setIfInBounds_toArray,List.set_cons_zero,List.set_cons_succ,i64_w,i32_w]
          rfl
         refine pure_ (i:=4) (N:=some 117) (v:=?_) (a':=?_) #[true,true,true,false,true,false,false,false,false,false,false,false,false,false,false,false,false,false,false,false,false,false,false,false,false,false,false,false] rfl rfl (any_of HT_.out (by kernel_rfl)) (fun _ _ _ h=>h) (Or.inl ⟨by rfl,?_⟩) ?_ ?_
         rotate_left
         ·intro w'
          go_simp
          with_reducible rfl
         rotate_left
         ·simp only [Act.put,List.setIfInBounds_toArray,List.set_cons_zero,List.set_cons_succ,i64_w,i32_w]
          rfl
         refine pure_ (i:=5) (N:=some 118) (v:=?_) (a':=?_) #[true,true,true,false,true,true,false,false,false,false,false,false,false,false,false,false,false,false,false,false,false,false,false,false,false,false,false,false] rfl rfl (any_of HT_.out (by kernel_rfl)) (fun _ _ _ h=>h) (Or.inl ⟨by rfl,?_⟩) ?_ ?_
         rotate_left
         ·intro w'
          go_simp
          with_reducible rfl
         rotate_left
         ·simp only [Act.put,List.setIfInBounds_toArray,List.set_cons_zero,List.set_cons_succ,i64_w,i32_w]
          rfl
         refine pure_ (i:=6) (N:=some 119) (v:=?_) (a':=?_) #[true,true,true,false,true,true,true,false,false,false,false,false,false,false,false,false,false,false,false,false,false,false,false,false,false,false,false,false] rfl rfl (any_of HT_.out (by kernel_rfl)) (fun _ _ _ h=>h) (Or.inl ⟨by rfl,?_⟩) ?_ ?_
         rotate_left
         ·intro w'
          go_simp
          with_reducible rfl
         rotate_left
         ·simp only [Act.put,List.setIfInBounds_toArray,List.set_cons_zero,List.set_cons_succ,i64_w,i32_w]
          rfl
         refine pure_ (i:=7) (N:=some 120) (v:=?_) (a':=?_) #[true,true,true,false,true,true,true,true,false,false,false,false,false,false,false,false,false,false,false,false,false,false,false,false,false,false,false,false] rfl rfl (any_of HT_.out (by kernel_rfl)) (fun _ _ _ h=>h) (Or.inl ⟨by rfl,?_⟩) ?_ ?_
         rotate_left
         ·intro w'
          go_simp
          with_reducible rfl
         rotate_left
         ·simp only [Act.put,List.setIfInBounds_toArray,List.set_cons_zero,List.set_cons_succ,i64_w,i32_w]
          rfl
         refine pure_ (i:=8) (N:=some 121) (v:=?_) (a':=?_) #[true,true,true,false,true,true,true,true,true,false,false,false,false,false,false,false,false,false,false,false,false,false,false,false,false,false,false,false] rfl rfl (any_of HT_.out (by kernel_rfl)) (fun _ _ _ h=>h) (Or.inl ⟨by rfl,?_⟩) ?_ ?_
         rotate_left
         ·intro w'
          go_simp
          with_reducible rfl
         rotate_left
         ·simp only [Act.put,List.setIfInBounds_toArray,List.set_cons_zero,List.set_cons_succ,i64_w,i32_w]
          rfl
         refine pure_ (i:=11) (N:=some 124) (v:=?_) (a':=?_) #[true,true,true,false,true,true,true,true,true,false,false,true,false,false,false,false,false,false,false,false,false,false,false,false,false,false,false,false] rfl rfl (any_of HT_.out (by kernel_rfl)) (fun _ _ _ h=>h) (Or.inl ⟨by rfl,?_⟩) ?_ ?_
         rotate_left
         ·intro w'
          go_simp
          with_reducible rfl
         rotate_left
         ·simp only [Act.put,List.setIfInBounds_toArray,List.set_cons_zero,List.set_cons_succ,i64_w,i32_w]
          rfl
         refine take_ (i:=3) (N:=some 116) (v:=?_) (a':=?_) #[true,true,true,true,true,true,true,true,true,false,false,true,false,false,false,false,false,false,false,false,false,false,false,false,false,false,false,false] rfl rfl (take_ofW HT_.out HW_.out (by kernel_rfl)) (fun _ _ _ h=>h) (Or.inl ⟨by rfl,?_⟩) hHeld ?_ ?_
         rotate_left
         ·rintro w' ⟨s0,s1,s2,s3,s4,s5⟩
          go_simp
          with_reducible rfl
         rotate_left
         ·simp only [Act.put,List.setIfInBounds_toArray,List.set_cons_zero,List.set_cons_succ,i64_w,i32_w]
          rfl
         refine take_ (i:=9) (N:=some 122) (v:=?_) (a':=?_) #[true,true,true,true,true,true,true,true,true,true,false,true,false,false,false,false,false,false,false,false,false,false,false,false,false,false,false,false] rfl rfl (take_ofW HT_.out HW_.out (by kernel_rfl)) (fun _ _ _ h=>h) (Or.inl ⟨by rfl,?_⟩) hHeld ?_ ?_
         rotate_left
         ·rintro w' ⟨s0,s1,s2,s3,s4,s5⟩
          go_simp
          with_reducible rfl
         rotate_left
         ·simp only [Act.put,List.setIfInBounds_toArray,List.set_cons_zero,List.set_cons_succ,i64_w,i32_w]
          rfl
         refine pure_ (i:=10) (N:=some 123) (v:=?_) (a':=?_) #[true,true,true,true,true,true,true,true,true,true,true,true,false,false,false,false,false,false,false,false,false,false,false,false,false,false,false,false] rfl rfl (any_of HT_.out (by kernel_rfl)) (fun _ _ _ h=>h) (Or.inl ⟨by rfl,?_⟩) ?_ ?_
         rotate_left
         ·intro w'
          go_simp
          with_reducible rfl
         rotate_left
         ·simp only [Act.put,List.setIfInBounds_toArray,List.set_cons_zero,List.set_cons_succ,i64_w,i32_w]
          rfl
         refine one_ (i:=12) (N:=some 125) #[true,true,true,true,true,true,true,true,true,true,true,true,true,false,false,false,false,false,false,false,false,false,false,false,false,false,false,false] rfl rfl (one_of HT_.out (by kernel_rfl)) (by decide) (fun K hK=>?_)
         refine goes_ Try.func34 (by kernel_rfl) rfl #[.int .i64 (wrap64 (b3 * ((rd_T45 b1 b0).f0))),.int .i64 b5] (by rfl) rfl rfl (by (try simp only [List.map_toArray,List.map_cons,List.map_nil]);first | done | rfl | (simp only [List.length_drop,List.length_take];rfl)) ?_
         with_reducible refine (numnahref07_Reduced.calls k4 (wrap64 (b3 * ((rd_T45 b1 b0).f0))) b5 p1 p3 _ J7.out).mono ?_
         rintro e W9 ⟨rfl,hb⟩
         have r2:=(hb.cell (World.block_lt_of_cell? _ _ (hHeld.1))).trans (hHeld.1)
         have r3:=(hb.cell (World.block_lt_of_cell? _ _ (hHeld.2.1))).trans (hHeld.2.1)
         have r4:=(hb.cell (World.block_lt_of_cell? _ _ (hHeld.2.2.1))).trans (hHeld.2.2.1)
         have r5:=(hb.cell (World.block_lt_of_cell? _ _ (hHeld.2.2.2.1))).trans (hHeld.2.2.2.1)
         have A0:=(hb.cell (World.block_lt_of_cell? _ _ (hHeld.2.2.2.2.1))).trans (hHeld.2.2.2.2.1)
         have E8:=(hb.cell (World.block_lt_of_cell? _ _ (hHeld.2.2.2.2.2))).trans (hHeld.2.2.2.2.2)
         refine ⟨_,rfl,?_⟩
         have e1:=Aside0.mk (Kd.N_below (by (with_reducible repeat (first | apply Kd.N_alloc | apply Kd.N_drewN | apply Kd.N_drew));exact b2.out) hb)
         have e2:=Aside0.mk (Kd.R_below (by (with_reducible repeat (first | apply Kd.R_alloc | apply Kd.R_drewN | apply Kd.R_drew));exact b7.out) hb)
         have e3:=Aside0.mk (Kd.R_below (by (with_reducible repeat (first | apply Kd.R_alloc | apply Kd.R_drewN | apply Kd.R_drew));exact b6.out) hb)
         have e9:=Aside0.mk (Kd.R_below (by (with_reducible repeat (first | apply Kd.R_alloc | apply Kd.R_drewN | apply Kd.R_drew));exact b8.out) hb)
         have h9:=Aside0.mk (Kd.V_below (by (with_reducible repeat (first | apply Kd.V_alloc | apply Kd.V_drewN | apply Kd.V_drew));exact d4.out) hb)
         have m9:=Aside0.mk (Kd.C_below (by repeat (first | (with_reducible exact d0.out) | (with_reducible refine Kd.C_alloc ?_ _) | (with_reducible refine Kd.C_drewN ?_ _) | (with_reducible refine Kd.C_drew ?_) | exact d0.out)) hb)
         have p0:=Aside0.mk (below_step (by repeat (first | (with_reducible first | exact HB.out | apply below_alloc | apply pw_below_drewN | apply below_drew1) | exact HB.out)) hb)
         clear b2
         clear b7
         clear b6
         clear b8
         clear d4
         clear d0
         clear HB
         have b2:=e1
         have b7:=e2
         have b6:=e3
         have b8:=e9
         have d4:=h9
         have d0:=m9
         have HB:=p0
         clear e1 e2 e3 e9 h9 m9 p0
         (try clear hb)
         obtain ⟨U4,U5,I9⟩:=Kd.R_slice b6.out
         (first | subst I9 | (injection I9 with l8 p4 l9;have p5:=l8.symm;have p7:=l9.symm;clear l8 p4 l9;subst p5;subst p7))
         obtain ⟨U6,U7,J0⟩:=Kd.R_slice b8.out
         (first | subst J0 | (injection J0 with l8 p4 l9;have p5:=l8.symm;have p7:=l9.symm;clear l8 p4 l9;subst p5;subst p7))
         refine hK.out _ _ ⟨r2,r3,r4,r5,A0,E8⟩ (fun hHeld=>?_)
         clear hK K
         refine norm_ (a':=?_) ?_ ?_
         rotate_left
         ·show Act.put _ (some 125) _ = _
          simp only [Act.put,List.setIfInBounds_toArray,List.set_cons_zero,List.set_cons_succ,i64_w,i32_w]
          rfl
         refine pure_ (i:=13) (N:=some 126) (v:=?_) (a':=?_) #[true,true,true,true,true,true,true,true,true,true,true,true,true,true,false,false,false,false,false,false,false,false,false,false,false,false,false,false] rfl rfl (any_of HT_.out (by kernel_rfl)) (fun _ _ _ h=>h) (Or.inl ⟨by rfl,?_⟩) ?_ ?_
         rotate_left
         ·intro w'
          go_simp
          with_reducible rfl
         rotate_left
         ·simp only [Act.put,List.setIfInBounds_toArray,List.set_cons_zero,List.set_cons_succ,i64_w,i32_w]
          rfl
         refine pure_ (i:=14) (N:=some 127) (v:=?_) (a':=?_) #[true,true,true,true,true,true,true,true,true,true,true,true,true,true,true,false,false,false,false,false,false,false,false,false,false,false,false,false] rfl rfl (any_of HT_.out (by kernel_rfl)) (fun _ _ _ h=>h) (Or.inl ⟨by rfl,?_⟩) ?_ ?_
         rotate_left
         ·intro w'
          go_simp
          with_reducible rfl
         rotate_left
         ·simp only [Act.put,List.setIfInBounds_toArray,List.set_cons_zero,List.set_cons_succ,i64_w,i32_w]
          rfl
         refine pure_ (i:=15) (N:=some 128) (v:=?_) (a':=?_) #[true,true,true,true,true,true,true,true,true,true,true,true,true,true,true,true,false,false,false,false,false,false,false,false,false,false,false,false] rfl rfl (any_of HT_.out (by kernel_rfl)) (fun _ _ _ h=>h) (Or.inl ⟨by rfl,?_⟩) ?_ ?_
         rotate_left
         ·intro w'
          go_simp
          with_reducible rfl
         rotate_left
         ·simp only [Act.put,List.setIfInBounds_toArray,List.set_cons_zero,List.set_cons_succ,i64_w,i32_w]
          rfl
         refine pure_ (i:=16) (N:=some 129) (v:=?_) (a':=?_) #[true,true,true,true,true,true,true,true,true,true,true,true,true,true,true,true,true,false,false,false,false,false,false,false,false,false,false,false] rfl rfl (any_of HT_.out (by kernel_rfl)) (fun _ _ _ h=>h) (Or.inl ⟨by rfl,?_⟩) ?_ ?_
         rotate_left
         ·intro w'
          go_simp
          with_reducible rfl
         rotate_left
         ·simp only [Act.put,List.setIfInBounds_toArray,List.set_cons_zero,List.set_cons_succ,i64_w,i32_w]
          rfl
         refine pure_ (i:=17) (N:=some 130) (v:=?_) (a':=?_) #[true,true,true,true,true,true,true,true,true,true,true,true,true,true,true,true,true,true,false,false,false,false,false,false,false,false,false,false] rfl rfl (any_of HT_.out (by kernel_rfl)) (fun _ _ _ h=>h) (Or.inl ⟨by rfl,?_⟩) ?_ ?_
         rotate_left
         ·intro w'
          go_simp
          with_reducible rfl
         rotate_left
         ·simp only [Act.put,List.setIfInBounds_toArray,List.set_cons_zero,List.set_cons_succ,i64_w,i32_w]
          rfl
         refine take_ (i:=18) (N:=some 131) (v:=?_) (a':=?_) #[true,true,true,true,true,true,true,true,true,true,true,true,true,true,true,true,true,true,true,false,false,false,false,false,false,false,false,false] rfl rfl (take_ofW HT_.out HW_.out (by kernel_rfl)) (fun _ _ _ h=>h) (Or.inl ⟨by rfl,?_⟩) hHeld ?_ ?_
         rotate_left
         ·rintro w' ⟨s0,s1,s2,s3,s4,s5⟩
          go_simp
          with_reducible rfl
         rotate_left
         ·simp only [Act.put,List.setIfInBounds_toArray,List.set_cons_zero,List.set_cons_succ,i64_w,i32_w]
          rfl
         refine pure_ (i:=19) (N:=some 132) (v:=?_) (a':=?_) #[true,true,true,true,true,true,true,true,true,true,true,true,true,true,true,true,true,true,true,true,false,false,false,false,false,false,false,false] rfl rfl (any_of HT_.out (by kernel_rfl)) (fun _ _ _ h=>h) (Or.inl ⟨by rfl,?_⟩) ?_ ?_
         rotate_left
         ·intro w'
          go_simp
          with_reducible rfl
         rotate_left
         ·simp only [Act.put,List.setIfInBounds_toArray,List.set_cons_zero,List.set_cons_succ,i64_w,i32_w]
          rfl
         refine pure_ (i:=20) (N:=some 133) (v:=?_) (a':=?_) #[true,true,true,true,true,true,true,true,true,true,true,true,true,true,true,true,true,true,true,true,true,false,false,false,false,false,false,false] rfl rfl (any_of HT_.out (by kernel_rfl)) (fun _ _ _ h=>h) (Or.inl ⟨by rfl,?_⟩) ?_ ?_
         rotate_left
         ·intro w'
          go_simp
          with_reducible rfl
         rotate_left
         ·simp only [Act.put,List.setIfInBounds_toArray,List.set_cons_zero,List.set_cons_succ,i64_w,i32_w]
          rfl
         refine pure_ (i:=21) (N:=some 134) (v:=?_) (a':=?_) #[true,true,true,true,true,true,true,true,true,true,true,true,true,true,true,true,true,true,true,true,true,true,false,false,false,false,false,false] rfl rfl (any_of HT_.out (by kernel_rfl)) (fun _ _ _ h=>h) (Or.inl ⟨by rfl,?_⟩) ?_ ?_
         rotate_left
         ·intro w'
          go_simp
          with_reducible rfl
         rotate_left
         ·simp only [Act.put,List.setIfInBounds_toArray,List.set_cons_zero,List.set_cons_succ,i64_w,i32_w]
          rfl
         refine pure_ (i:=22) (N:=some 135) (v:=?_) (a':=?_) #[true,true,true,true,true,true,true,true,true,true,true,true,true,true,true,true,true,true,true,true,true,true,true,false,false,false,false,false] rfl rfl (any_of HT_.out (by kernel_rfl)) (fun _ _ _ h=>h) (Or.inl ⟨by rfl,?_⟩) ?_ ?_
         rotate_left
         ·intro w'
          go_simp
          with_reducible rfl
         rotate_left
         ·simp only [Act.put,List.setIfInBounds_toArray,List.set_cons_zero,List.set_cons_succ,i64_w,i32_w]
          rfl
         refine pure_ (i:=23) (N:=some 136) (v:=?_) (a':=?_) #[true,true,true,true,true,true,true,true,true,true,true,true,true,true,true,true,true,true,true,true,true,true,true,true,false,false,false,false] rfl rfl (any_of HT_.out (by kernel_rfl)) (fun _ _ _ h=>h) (Or.inl ⟨by rfl,?_⟩) ?_ ?_
         rotate_left
         ·intro w'
          go_simp
          with_reducible rfl
         rotate_left
         ·simp only [Act.put,List.setIfInBounds_toArray,List.set_cons_zero,List.set_cons_succ,i64_w,i32_w]
          rfl
         refine pure_ (i:=24) (N:=some 137) (v:=?_) (a':=?_) #[true,true,true,true,true,true,true,true,true,true,true,true,true,true,true,true,true,true,true,true,true,true,true,true,true,false,false,false] rfl rfl (any_of HT_.out (by kernel_rfl)) (fun _ _ _ h=>h) (Or.inl ⟨by rfl,?_⟩) ?_ ?_
         rotate_left
         ·intro w'
          go_simp
          with_reducible rfl
         rotate_left
         ·simp only [Act.put,List.setIfInBounds_toArray,List.set_cons_zero,List.set_cons_succ,i64_w,i32_w]
          rfl
         refine take_ (i:=25) (N:=some 138) (v:=?_) (a':=?_) #[true,true,true,true,true,true,true,true,true,true,true,true,true,true,true,true,true,true,true,true,true,true,true,true,true,true,false,false] rfl rfl (take_ofW HT_.out HW_.out (by kernel_rfl)) (fun _ _ _ h=>h) (Or.inl ⟨by rfl,?_⟩) hHeld ?_ ?_
         rotate_left
         ·rintro w' ⟨s0,s1,s2,s3,s4,s5⟩
          go_simp
          with_reducible rfl
         rotate_left
         ·simp only [Act.put,List.setIfInBounds_toArray,List.set_cons_zero,List.set_cons_succ,i64_w,i32_w]
          rfl
         refine pure_ (i:=26) (N:=some 139) (v:=?_) (a':=?_) #[true,true,true,true,true,true,true,true,true,true,true,true,true,true,true,true,true,true,true,true,true,true,true,true,true,true,true,false] rfl rfl (any_of HT_.out (by kernel_rfl)) (fun _ _ _ h=>h) (Or.inl ⟨by rfl,?_⟩) ?_ ?_
         rotate_left
         ·intro w'
          go_simp
          with_reducible rfl
         rotate_left
         ·simp only [Act.put,List.setIfInBounds_toArray,List.set_cons_zero,List.set_cons_succ,i64_w,i32_w]
          rfl
         refine pure_ (i:=27) (N:=some 140) (v:=?_) (a':=?_) #[true,true,true,true,true,true,true,true,true,true,true,true,true,true,true,true,true,true,true,true,true,true,true,true,true,true,true,true] rfl rfl (any_of HT_.out (by kernel_rfl)) (fun _ _ _ h=>h) (Or.inl ⟨by rfl,?_⟩) ?_ ?_
         rotate_left
         ·intro w'
          go_simp
          with_reducible rfl
         rotate_left
         ·simp only [Act.put,List.setIfInBounds_toArray,List.set_cons_zero,List.set_cons_succ,i64_w,i32_w]
          rfl
         refine done_ (done_of HT_.out (by kernel_rfl)) ?_
         try go_wp2
         go_roundg k4
         case measure=>have:=A5.out;have:=o7.out;have:=H3.out;have:=N5.out;omega
         case rel=>exact ⟨(wrap64 (b0 + 1)),(by first | rfl | (simp;done) | (simp [*];done)),H',⟨by have:=A5.out;have:=o7.out;have:=H3.out;have:=N5.out;omega⟩,⟨by (with_reducible repeat (first | apply Kd.N_alloc | apply Kd.N_drewN | apply Kd.N_drew));exact b2.out⟩,⟨by (with_reducible repeat (first | apply Kd.R_alloc | apply Kd.R_drewN | apply Kd.R_drew));exact b7.out⟩,⟨by (with_reducible repeat (first | apply Kd.R_alloc | apply Kd.R_drewN | apply Kd.R_drew));exact b6.out⟩,⟨by (with_reducible repeat (first | apply Kd.R_alloc | apply Kd.R_drewN | apply Kd.R_drew));exact b8.out⟩,⟨by repeat (first | (with_reducible first | exact HB.out | apply below_alloc | apply pw_below_drewN | apply below_drew1) | exact HB.out)⟩⟩
def numnahlaw07_SharesEqual.Pure:Prop:=∀ (a0:Int) (l1:List Int),(Lit.int .i64 a0).wf = true → l1.length ≤ maxLen → l1.length * 8 ≤ 140737488351232 → (∀ x ∈ l1,(Lit.int .i64 x).wf = true) → ∃ k,numnahlaw07_SharesEqual.f k a0 l1 = some true
theorem numnahlaw07_SharesEqual.walk (P:numnahlaw07_SharesEqual.Pure) (a0:Int) (a1:Option Addr) (C8 A4:Nat) (z1:List Int) (w:World) (w0:(Lit.int .i64 a0).wf = true) (w1:(a1 = none ∧ C8 = 0 ∧ A4 = 0 ∧ z1 = []) ∨ ∃ x,a1 = some x ∧ C8 ≤ A4 ∧ A4 ≤ maxLen ∧ z1.length = A4 ∧ (∀ i,i < z1.length → w.cell? (x.add i) = some (.int .i64 (z1.getD i 0))) ∧ ∀ n ∈ z1,(Lit.int .i64 n).wf = true) (y1:C8 * 8 ≤ 140737488351232) :
  Calls Try.prog 8 #[.int .i64 a0,.slice a1 C8 A4] w fun e w'=>e = .returned (.bool true) ∧ Below w.heap.size w w':=by
 obtain ⟨l1,rfl,J1,U8,U9,J2⟩:=ReadsInt.ofRowC w1
 obtain ⟨k,h⟩:=P a0 l1 w0 U8 y1 U9
 refine (numnahlaw07_SharesEqual.calls k a0 _ _ l1 true w (Kd.C_of_reads (d:=(0:Int)) (h1:=fun _=>rfl) J1) J2 h).mono ?_
 rintro e w' ⟨rfl,hd⟩
 exact ⟨rfl,hd⟩
end Go.Proofs.Ytjohcjfmlhihbaa.G
set_option linter.unusedSectionVars false
namespace Go.Proofs.Ytjohcjfmlhihbaa.P
open Go Go.RowKit Go.Proofs.Ytjohcjfmlhihbaa.G
open Go.Proofs.YtjohcjfmlhihbaaW.PrintWords Go.Proofs.YtjohcjfmlhihbaaW.PrintMore
section
variable {N:Net} {c:Rat} (hh:∀ v q,v < N.m → q < N.n → N.has v q = true) (hw:∀ v,v < N.m → 0 < N.w v) (h0:0 < S N.m N.w)
include hh hw h0
theorem eq_load {q:Nat} (hq:q < N.n):N.load (fun v=>c * N.w v / S N.m N.w) q = c:=by
 unfold Net.load
 have e:S N.m (fun v=>if N.has v q = true then c * N.w v / S N.m N.w else 0) = S N.m (fun v=>N.w v * (c / S N.m N.w)):=S_congr fun v hv=>by
  rw [if_pos (hh v q hv hq),Rat.div_def,Rat.div_def];grind
 rw [e,S_mul,Rat.div_def]
 have:S N.m N.w * (S N.m N.w)⁻¹ = 1:=Rat.mul_inv_cancel _ (by grind)
 grind
theorem eq_level {v:Nat} (hv:v < N.m):(c * N.w v / S N.m N.w) / N.w v = c / S N.m N.w:=by
 have:=hw v hv
 rw [Rat.div_def,Rat.div_def,Rat.div_def]
 have:N.w v * (N.w v)⁻¹ = 1:=Rat.mul_inv_cancel _ (by grind)
 grind
theorem eq_holds {q v:Nat} (hv:v < N.m):N.Holds (fun v=>c * N.w v / S N.m N.w) q v ↔ q < N.n ∧ N.cap q = c:=by
 constructor
 ·rintro ⟨h1,_,h3,_⟩
  rw [eq_load hh hw h0 h1] at h3
  exact ⟨h1,h3.symm⟩
 ·rintro ⟨h1,h2⟩
  refine ⟨h1,hh v q hv h1,by rw [eq_load hh hw h0 h1,h2],fun k hk _=>?_⟩
  show c * N.w k / S N.m N.w / N.w k ≤ c * N.w v / S N.m N.w / N.w v
  rw [eq_level hh hw h0 hk,eq_level hh hw h0 hv];exact Rat.le_refl
theorem eq_fair (hc:∀ q,q < N.n → c ≤ N.cap q) {a:Nat} (ha:a < N.n) (hca:N.cap a = c):N.Fair (fun v=>c * N.w v / S N.m N.w) :=
 ⟨fun q hq=>by rw [eq_load hh hw h0 hq];exact hc q hq,fun v hv=>⟨a,(eq_holds hh hw h0 hv).2 ⟨ha,hca⟩⟩⟩
end
def usr (l:List Int) (ws:List Int):List S45:=ws.map fun w=>(⟨w,l⟩:S45)
theorem usr_len (l ws:List Int):(usr l ws).length = ws.length:=List.length_map _
theorem usr_get {l ws:List Int} {i:Nat} (h:i < ws.length):rd_T45 (usr l ws) (i:Int) = ⟨rd ws (i:Int),l⟩:=by
 rw [rdT45 (by rw [usr_len];exact h),rd_get h]
 simp [usr]
structure Ws (ws:List Int):Prop where
 one:1 ≤ ws.length
 six:ws.length ≤ 6
 mem:∀ w ∈ ws,1 ≤ w ∧ w ≤ 4
theorem usr_ok {p l ws:List Int} (h:Ws ws) (hp1:1 ≤ p.length) (hp5:p.length ≤ 5) (hp:∀ x ∈ p,0 ≤ x ∧ x ≤ 200) (hl:1 ≤ l.length) (ha:allF (okAt p.length l) l.length 0 = true):okNet p (usr l ws) = true:=by
 unfold okNet
 simp only [Bool.and_eq_true,decide_eq_true_eq,List.all_eq_true,allF_iff,usr_len]
 refine ⟨⟨⟨⟨⟨hp1,hp5⟩,h.one⟩,h.six⟩,hp⟩,fun i _ hi=>?_⟩
 rw [usr_get (by omega)]
 have hm:=h.mem _ (List.getElem_mem (l:=ws) (n:=i) (by omega))
 unfold okU
 simp only [Bool.and_eq_true,decide_eq_true_eq]
 rw [rd_get (by omega)]
 exact ⟨⟨⟨hm.1,hm.2⟩,hl⟩,ha⟩
theorem S_sI:∀ (ws:List Int),S ws.length (fun v=>((rd ws (v:Int):Int):Rat)) = ((sI ws:Int):Rat):=by
 intro ws
 rw [← tot_cl]
 unfold S cl
 congr 1
 apply List.ext_getElem
 ·simp
 ·intro i h1 h2
  have:i < ws.length:=by simpa using h2
  rw [List.getElem_map,List.getElem_map,List.getElem_range,rd_get this]
theorem sI_pos:∀ {ws:List Int},(∀ w ∈ ws,1 ≤ w ∧ w ≤ 4) → (ws.length:Int) ≤ sI ws ∧ sI ws ≤ 4 * (ws.length:Int)
 | [],_=>by simp [sI]
 | a :: ws,h=>by
  have h1:=h a (by simp)
  have h2:=sI_pos (ws:=ws) fun w hw=>h w (List.mem_cons_of_mem _ hw)
  rw [sI_cons,List.length_cons]
  omega
section
variable {ws:List Int} (h:Ws ws) {c:Int} (hc:0 ≤ c ∧ c < 100)
include h hc
theorem one_net {p l:List Int} (hp1:1 ≤ p.length) (hp5:p.length ≤ 5) (hp:∀ x ∈ p,0 ≤ x ∧ x ≤ 200) (hl:1 ≤ l.length) (hl2:l.length ≤ 5) (ha:allF (okAt p.length l) l.length 0 = true) (hall:∀ q:Nat,q < p.length → (q:Int) ∈ l) (hcap:∀ q:Nat,q < p.length → c ≤ rd p (q:Int)) {a:Nat} (haq:a < p.length) (hca:rd p (a:Int) = c) :
  ∃ x,x.length = ws.length ∧ (∀ v,v < ws.length → rt x v = (c:Rat) * ((rd ws (v:Int):Int):Rat) / ((sI ws:Int):Rat)) ∧ (∀ v,v < ws.length → ∀ q,holdsB (netOf p (usr l ws)) (rt x) q v = decide (q < p.length ∧ rd p (q:Int) = c)) ∧ Ev (fun k=>shares_Fair.f k p (usr l ws)) (encL x,tab ws.length (heldI p (usr l ws) x),0):=by
 have hok:=usr_ok h hp1 hp5 hp hl ha
 have hN:=isN hok
 obtain ⟨x,hx,e1,_⟩:=ev_Fair hok (by omega) (by rw [usr_len];have:=h.six;omega) (by unfold H.fitL;omega) (fun b hb=>by
  obtain ⟨w,_,rfl⟩:=List.mem_map.1 hb
  show l.length ≤ 1000000;omega)
 rw [usr_len] at e1
 have hm:(netOf p (usr l ws)).m = ws.length:=usr_len l ws
 have hn:(netOf p (usr l ws)).n = p.length:=rfl
 have hwv:∀ v,v < ws.length → (netOf p (usr l ws)).w v = ((rd ws (v:Int):Int):Rat):=fun v hv=>by
  show ((rd_T45 (usr l ws) (v:Int)).f0:Rat) = _
  rw [usr_get hv]
 have hS:S (netOf p (usr l ws)).m (netOf p (usr l ws)).w = ((sI ws:Int):Rat):=by
  rw [hm,← S_sI]
  exact S_congr fun v hv=>hwv v hv
 have hpos:=sI_pos h.mem
 have h0:(0:Rat) < S (netOf p (usr l ws)).m (netOf p (usr l ws)).w:=by
  rw [hS]
  have:=h.one
  exact Rat.intCast_pos.2 (by omega)
 have hh:∀ v q,v < (netOf p (usr l ws)).m → q < (netOf p (usr l ws)).n → (netOf p (usr l ws)).has v q = true:=fun v q hv hq=>by
  show decide ((q:Int) ∈ (rd_T45 (usr l ws) (v:Int)).f1) = true
  rw [usr_get (by omega)]
  exact decide_eq_true (hall q hq)
 have hw:=wpos hN
 have hcapq:∀ q,q < (netOf p (usr l ws)).n → (c:Rat) ≤ (netOf p (usr l ws)).cap q:=fun q hq=>cast_le (hcap q hq)
 have hca':(netOf p (usr l ws)).cap a = (c:Rat):=by show ((rd p (a:Int):Int):Rat) = _;rw [hca]
 have hfair:=eq_fair (c:=(c:Rat)) hh hw h0 hcapq haq hca'
 have hu:=Net.unique hw hx.fair hfair
 have hval:∀ v,v < ws.length → rt x v = (c:Rat) * ((rd ws (v:Int):Int):Rat) / ((sI ws:Int):Rat):=fun v hv=>by
  have:=hu v (by omega)
  rw [this,hS,hwv v hv]
 refine ⟨x,by rw [hx.len,usr_len],hval,fun v hv q=>?_,e1⟩
 rw [Bool.eq_iff_iff,holdsB_iff,Holds_congr hu (by omega),eq_holds hh hw h0 (by omega),decide_eq_true_iff]
 refine and_congr Iff.rfl ?_
 show ((rd p (q:Int):Int):Rat) = (c:Rat) ↔ _
 exact Rat.intCast_inj
theorem equal_l1 {x:List Rat} (hxl:x.length = ws.length) (hval:∀ v,v < ws.length → rt x v = (c:Rat) * ((rd ws (v:Int):Int):Rat) / ((sI ws:Int):Rat)) {f g:Nat → Int} (hf:∀ v,v < ws.length → f v = 0) (hg:∀ v,v < ws.length → g v = 1):∀ d i,i + d = ws.length → Ev (fun k=>numnahlaw07_SharesEqual.l1 k c (usr [0] ws) (sI ws) (encL x) (tab ws.length f) (tab ws.length g) (i:Int)) true:=by
 intro d
 have h6:=h.six
 have h1:=h.one
 have hpos:=sI_pos h.mem
 induction d with
 | zero =>
  intro i hi
  refine Ev.step (f:=fun k=>(numnahlaw07_awake.f k).bind fun t=>some t) (fun k=>?_) (Ev.bind ev_awake (Ev.now _))
  rw [numnahlaw07_SharesEqual.l1,if_neg (by rw [usr_len];omega)]
 | succ d ih =>
  intro i hi
  have hil:i < ws.length:=by omega
  have hm:=h.mem _ (List.getElem_mem (l:=ws) (n:=i) hil)
  rw [← rd_get hil] at hm
  have hb:c * rd ws (i:Int) ≤ 100 * 4:=Int.mul_le_mul (by omega) hm.2 (by omega) (by omega)
  have hb0:0 ≤ c * rd ws (i:Int):=Int.mul_nonneg hc.1 (by omega)
  have e:sI ws = (((sI ws).toNat:Nat):Int):=by omega
  have hq:=ev_frac (c * rd ws (i:Int)) (sI ws).toNat (by omega) (by omega) (by omega)
  have ev:mkRat (c * rd ws (i:Int)) (sI ws).toNat = rt x i:=by
   rw [hval i hil,mk_frac]
   have e2:((sI ws:Int):Rat) = (((sI ws).toNat:Nat):Rat):=(congrArg (fun z:Int=>(z:Rat)) e).trans (Rat.intCast_natCast _)
   rw [e2];push_cast;rfl
  rw [ev] at hq
  have hq2:Ev (fun k=>numnahref07_Reduced.f k (wrap64 (c * rd ws (i:Int))) (sI ws)) ((rt x i).num,((rt x i).den:Int)):=by
   rw [wrap_id (by omega) (by omega),e]
   exact Ev.congr (fun k=>ref_reduced k _ _) hq
  refine Ev.step (fun k=>by rw [numnahlaw07_SharesEqual.l1,if_pos (by rw [usr_len];omega),if_pos (by omega),if_pos (by rw [encL_length];omega),usr_get hil,encT (by omega),wrap_succ (by omega)]) (Ev.bind hq2 ?_)
  refine Ev.congr (fun k=>if_neg ?_) (Ev.congr (fun k=>if_pos (by rw [tab_length];omega)) (Ev.congr (fun k=>if_pos (by rw [tab_I hil];exact hf i hil)) (Ev.congr (fun k=>if_pos (by rw [tab_length];omega)) (Ev.congr (fun k=>if_pos (by rw [tab_I hil];exact hg i hil)) (ih (i + 1) (by omega))))))
  show ¬ (!(rt x i).num == (rt x i).num || !((rt x i).den:Int) == ((rt x i).den:Int)) = true
  simp
theorem equal_j2:Ev (fun k=>numnahlaw07_SharesEqual.j2 k c (usr [0] ws) (usr [0,1] ws) (sI ws)) true:=by
 have h6:=h.six
 obtain ⟨x,hxl,hval,hold,e1⟩:=one_net h hc (p:=[c]) (l:=[0]) (show 1 ≤ 1 by decide) (show 1 ≤ 5 by decide) (fun y hy=>by rw [List.mem_singleton.1 hy];omega) (by decide) (by decide) (by show allF (okAt 1 [0]) 1 0 = true;decide) (fun q hq=>by
  have:q = 0:=by simpa using hq
  subst this;decide) (fun q hq=>by
  have:q = 0:=by simpa using hq
  subst this;exact Int.le_refl _) (a:=0) (show 0 < 1 by decide) rfl
 obtain ⟨y,hyl,hval2,hold2,e2⟩:=one_net h hc (p:=[200,c]) (l:=[0,1]) (show 1 ≤ 2 by decide) (show 2 ≤ 5 by decide) (fun y hy=>by
  rcases List.mem_cons.1 hy with rfl | hy
  ·omega
  ·rw [List.mem_singleton.1 hy];omega) (by decide) (by decide) (by show allF (okAt 2 [0,1]) 2 0 = true;decide) (fun q hq=>by
  have:q < 2:=hq
  rcases (by omega:q = 0 ∨ q = 1) with rfl | rfl <;> decide) (fun q hq=>by
  have:q < 2:=hq
  rcases (by omega:q = 0 ∨ q = 1) with rfl | rfl
  ·show c ≤ 200;omega
  ·exact Int.le_refl _) (a:=1) (show 1 < 2 by decide) rfl
 have hxy:x = y:=by
  apply List.ext_getElem
  ·omega
  ·intro i a1 a2
   rw [← rt_get a1,← rt_get a2,hval i (by omega),hval2 i (by omega)]
 subst hxy
 have f1:∀ v,v < ws.length → heldI [c] (usr [0] ws) x v = 0:=fun v hv=>by
  show firstI _ 1 0 = 0
  rw [firstI,hold v hv 0,if_pos]
  ·rfl
  ·exact decide_eq_true ⟨show 0 < 1 by decide,rfl⟩
 have f2:∀ v,v < ws.length → heldI [200,c] (usr [0,1] ws) x v = 1:=fun v hv=>by
  show firstI _ 2 0 = 1
  rw [firstI,hold2 v hv 0,if_neg,firstI,hold2 v hv 1,if_pos]
  ·rfl
  ·exact decide_eq_true ⟨show 1 < 2 by decide,rfl⟩
  ·rw [decide_eq_true_eq]
   rintro ⟨_,e⟩
   have:(200:Int) = c:=e
   omega
 have e3:=ev_same (a:=encL x) (b:=encL x) (by rw [encL_length];omega)
 rw [decide_eq_true rfl] at e3
 refine Ev.step (fun k=>by rw [numnahlaw07_SharesEqual.j2]) (Ev.bind e1 (Ev.bind e2 (Ev.congr (fun k=>if_pos rfl) (Ev.congr (fun k=>if_pos rfl) (Ev.bind e3 (Ev.congr (fun k=>if_pos rfl) ?_))))))
 have el:((encL x).length:Int) = ((usr [0] ws).length:Int):=by rw [encL_length,usr_len,hxl]
 have et:((tab ws.length (heldI [c] (usr [0] ws) x)).length:Int) = ((usr [0] ws).length:Int):=by rw [tab_length,usr_len]
 refine Ev.congr (fun k=>if_pos el) (Ev.congr (fun k=>if_pos et) ?_)
 refine Ev.step (fun k=>?_) (equal_l1 h hc hxl hval f1 f2 ws.length 0 (by omega))
 rw [numnahlaw07_SharesEqual.j3,if_neg (by rw [tab_length,usr_len];simp)];rfl
end
theorem equal_j1 {ws:List Int} (h6:ws.length ≤ 6) (hm:∀ w ∈ ws,1 ≤ w ∧ w ≤ 4) {c:Int} (hc:0 ≤ c ∧ c < 100):Ev (fun k=>numnahlaw07_SharesEqual.j1 k c (usr [0] ws) (usr [0,1] ws) (sI ws)) true:=by
 have hpos:=sI_pos hm
 by_cases h0:ws.length = 0
 ·have:ws = []:=List.length_eq_zero_iff.1 h0
  subst this
  refine Ev.step (fun k=>?_) (equal_j2 (ws:=[1]) ⟨by decide,by decide,fun w hw=>by rw [List.mem_singleton.1 hw];decide⟩ hc)
  rw [numnahlaw07_SharesEqual.j1,if_pos (by rfl)];rfl
 ·refine Ev.step (fun k=>?_) (equal_j2 ⟨by omega,h6,hm⟩ hc)
  rw [numnahlaw07_SharesEqual.j1,if_neg (by omega)]
theorem equalL_l0 (l:List Int) {c:Int} (hc:0 ≤ c ∧ c < 100):∀ d i (ws:List Int),i + d = 6 → i ≤ l.length → ws.length = i → (∀ w ∈ ws,1 ≤ w ∧ w ≤ 4) → Ev (fun k=>numnahlaw07_SharesEqual.l0 k c l (usr [0] ws) (usr [0,1] ws) (sI ws) (i:Int)) true:=by
 intro d
 induction d with
 | zero =>
  intro i ws hi hil hw hm
  refine Ev.step (fun k=>?_) (equal_j1 (by omega) hm hc)
  rw [numnahlaw07_SharesEqual.l0]
  by_cases h:(i:Int) < (l.length:Int)
  ·rw [if_pos h,if_neg (by omega)]
  ·rw [if_neg h]
 | succ d ih =>
  intro i ws hi hil hw hm
  by_cases h:i < l.length
  ·obtain ⟨a,a0,a1,ha⟩:=mod_some (rd l (i:Int)) (n:=4) (by decide) (by decide)
   have hpos:=sI_pos hm
   have hn:=ih (i + 1) (ws ++ [1 + a]) (by omega) (by omega) (by rw [List.length_append];simp;omega) (fun w hw=>by
    rcases List.mem_append.1 hw with hw | hw
    ·exact hm w hw
    ·rw [List.mem_singleton.1 hw];omega)
   refine Ev.step (fun k=>?_) hn
   have e1:wrap64 (1 + a) = 1 + a:=wrap_id (by omega) (by omega)
   have e2:wrap64 (sI ws + (1 + a)) = sI (ws ++ [1 + a]):=by
    rw [wrap_id (by omega) (by omega),sI_append];simp [sI]
   rw [numnahlaw07_SharesEqual.l0,if_pos (by omega),if_pos (by omega),if_pos (by omega),ha]
   simp only [Option.bind_some]
   rw [if_pos (by rw [usr_len];omega),if_pos (by rw [usr_len];omega),e1,e2,wrap_succ (by omega)]
   congr 1
   ·unfold usr;rw [List.map_append];rfl
   ·unfold usr;rw [List.map_append];rfl
  ·refine Ev.step (fun k=>?_) (equal_j1 (by omega) hm hc)
   rw [numnahlaw07_SharesEqual.l0,if_neg (by omega)]
theorem equal_pure (a0:Int) (l1:List Int):∃ k,numnahlaw07_SharesEqual.f k a0 l1 = some true:=by
 refine Ev.rounds ?_
 obtain ⟨c,c0,c1,hc⟩:=mod_some a0 (n:=100) (by decide) (by decide)
 unfold numnahlaw07_SharesEqual.f
 rw [hc]
 exact equalL_l0 l1 ⟨c0,c1⟩ 6 0 [] (by omega) (by omega) rfl (fun w hw=>by cases hw)
theorem equal_Pure:numnahlaw07_SharesEqual.Pure:=fun a0 l1 _ _ _ _=>equal_pure a0 l1
end Go.Proofs.Ytjohcjfmlhihbaa.P
namespace Go.Proofs.YtjohcjfmlhihbaaW.PrintWords
open Go.ChangeShapes Go.WideShapes
theorem sized_ints {H:Type} {enc:TypeId × Value → H} {P:Program} {W:World} {base:Nat} {spare:Nat → Bool} {held:Bool} {t e:TypeId} {k:IntKind} {a:Option Addr} {len cap:Nat} {d:DataW H} {ps:List MemPlace} {ts:List TypeId} {ds:List (DataW H)} {j:Nat}
  (hsz:(DataW.weightsEach P ts ds).all (· ≤ reachBytes) = true) (ht:ts[j]? = some t) (hd:ds[j]? = some d) (hu:P.underlying t = some (.slice e)) (he:P.underlying e = some (.int k)) (hc:P.cellsOf e = 1) {B:Nat} (hB:P.bytesOf e = B)
  (h:DataW.Trod enc P W base spare held t (.slice a len cap) d ps):len * B ≤ 140737488351232:=by
 obtain ⟨fuel,hf⟩:=h
 rcases open_ints hu he hc hf with ⟨hcs,_⟩ | ⟨x,l,c,zs,hcs,_,hl,_,hz,hx,_,_⟩
 ·simp [Value.cells] at hcs
  obtain ⟨rfl,rfl,rfl⟩:=hcs
  simp
 ·simp [Value.cells] at hcs
  obtain ⟨rfl,rfl,rfl⟩:=hcs
  obtain ⟨hx,_⟩:=Prod.mk.inj hx
  subst hx
  have z:=sized_slice hsz ht hd hu
  rw [hB] at z
  have hl2:len ≤ zs.length:=by
   rw [hz]
   split
   ·exact hl
   ·exact Nat.le_refl _
  have h1:(lits (H:=H) k (zs.take len)).length + (lits (H:=H) k (zs.drop len)).length = zs.length:=by
   simp [lits]
   omega
  rw [h1] at z
  exact Nat.le_trans (Nat.mul_le_mul_right _ hl2) z
end Go.Proofs.YtjohcjfmlhihbaaW.PrintWords

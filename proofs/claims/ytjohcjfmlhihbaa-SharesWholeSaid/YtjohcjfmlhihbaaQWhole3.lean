/- Several texts, joined. -/
import Derived.Test.YtjohcjfmlhihbaaQWhole2
set_option linter.unusedVariables false
set_option linter.unusedSimpArgs false
namespace Go.Proofs.Ytjohcjfmlhihbaa.G
open Go.RowKit Go.Proofs.YtjohcjfmlhihbaaW.PrintWords Go.Proofs.YtjohcjfmlhihbaaW.PrintLast Go.Proofs.YtjohcjfmlhihbaaW.PrintMore
set_option maxHeartbeats 8000000
set_option maxRecDepth 100000
attribute [local go_sem] cond_true cond_false fld23_0 fld23_1 fld45_0 fld45_1 fld109_0 fld109_1 fld94_0 fld94_1 max2_int min2_int max_two min_two max_three min_three max_four min_four   -- for this text's walks alone
mutual
def numnahlaw07_SharesWhole.j0:Nat → List Int → List (S45) → List Int → List (S23) → List Int → Bool → Option (Bool)
 | 0,_,_,_,_,_,_=>none
 | k + 1,x3,x4,x5,x7,q7,x82=>if x82 = true then (some false) else ((numnahlaw07_list.f x3).bind fun n2=>(numnahlaw07_SharesWhole.l0 k x3 x4 x5 x7 q7 n2 0))
def numnahlaw07_SharesWhole.l0:Nat → List Int → List (S45) → List Int → List (S23) → List Int → List Int → Int → Option (Bool)
 | 0,_,_,_,_,_,_,_=>none
 | k + 1,x3,x4,x5,x7,q7,r2,q8=>if q8 < (x4.length:Int) then (if 0 ≤ q8 then (if q8 < (x5.length:Int) then (if (rd x5 q8) < 0 then (numnahlaw07_SharesWhole.j2 k x3 x4 x5 x7 q7 r2 q8 true) else (numnahlaw07_SharesWhole.j2 k x3 x4 x5 x7 q7 r2 q8 (decide ((rd x5 q8) > 200)))) else (none)) else (none)) else (numnahlaw07_SharesWhole.l2 k x3 x4 x7 q7 r2 0 0)
def numnahlaw07_SharesWhole.j2:Nat → List Int → List (S45) → List Int → List (S23) → List Int → List Int → Int → Bool → Option (Bool)
 | 0,_,_,_,_,_,_,_,_=>none
 | k + 1,x3,x4,x5,x7,q7,r2,q8,x102=>if x102 = true then (some false) else (numnahlaw07_SharesWhole.l1 k x3 x4 x5 x7 q7 r2 q8 0)
def numnahlaw07_SharesWhole.l1:Nat → List Int → List (S45) → List Int → List (S23) → List Int → List Int → Int → Int → Option (Bool)
 | 0,_,_,_,_,_,_,_,_=>none
 | k + 1,x3,x4,x5,x7,q7,r2,q8,L0=>if 0 ≤ q8 then (if q8 < (x4.length:Int) then (if L0 < (((rd_T45 x4 q8).f1).length:Int) then (if 0 ≤ L0 then (if 0 ≤ (rd ((rd_T45 x4 q8).f1) L0) then (if (rd ((rd_T45 x4 q8).f1) L0) < (r2.length:Int) then (if q8 < (x5.length:Int) then (numnahlaw07_SharesWhole.l1 k x3 x4 x5 x7 q7 (r2.set ((rd ((rd_T45 x4 q8).f1) L0):Int).toNat (wrap64 ((rd r2 (rd ((rd_T45 x4 q8).f1) L0)) - (rd x5 q8)))) q8 (wrap64 (L0 + 1))) else (none)) else (none)) else (none)) else (none)) else (numnahlaw07_SharesWhole.l0 k x3 x4 x5 x7 q7 r2 (wrap64 (q8 + 1)))) else (none)) else (none)
def numnahlaw07_SharesWhole.l2:Nat → List Int → List (S45) → List (S23) → List Int → List Int → Int → Int → Option (Bool)
 | 0,_,_,_,_,_,_,_=>none
 | k + 1,x3,x4,x7,q7,r2,O1,q9=>if q9 < (x4.length:Int) then (numnahlaw07_SharesWhole.l3 k x3 x4 x7 q7 r2 O1 q9 false 0) else (if 0 < (x3.length:Int) then (if O1 = (rd x3 0) then ((numnahlaw07_awake.f k).bind fun C2=>(some C2)) else (some false)) else (none))
def numnahlaw07_SharesWhole.l3:Nat → List Int → List (S45) → List (S23) → List Int → List Int → Int → Int → Bool → Int → Option (Bool)
 | 0,_,_,_,_,_,_,_,_,_=>none
 | k + 1,x3,x4,x7,q7,r2,O1,q9,x17,J3=>if 0 ≤ q9 then (if q9 < (x4.length:Int) then (if J3 < (((rd_T45 x4 q9).f1).length:Int) then (if 0 ≤ J3 then (if 0 ≤ (rd ((rd_T45 x4 q9).f1) J3) then (if (rd ((rd_T45 x4 q9).f1) J3) < (r2.length:Int) then (if (rd r2 (rd ((rd_T45 x4 q9).f1) J3)) < 0 then (some false) else (if x17 = true then (numnahlaw07_SharesWhole.l3 k x3 x4 x7 q7 r2 O1 q9 true (wrap64 (J3 + 1))) else (numnahlaw07_SharesWhole.l3 k x3 x4 x7 q7 r2 O1 q9 ((rd r2 (rd ((rd_T45 x4 q9).f1) J3)) == 0) (wrap64 (J3 + 1))))) else (none)) else (none)) else (none)) else (if x17 = true then (if q9 < (q7.length:Int) then (if (rd q7 q9) < 0 then (some false) else (if (rd q7 q9) > 200 then (some false) else (if q9 < (x7.length:Int) then ((numnahref07_Whole.f (wrap64 ((rd q7 q9) + 1))).bind fun n3=>((numnahref07_Less.f ((rd_T23 x7 q9).f0) ((rd_T23 x7 q9).f1) n3.1 n3.2).bind fun m9=>(if m9 = true then (numnahlaw07_SharesWhole.l2 k x3 x4 x7 q7 r2 (wrap64 (O1 + (rd q7 q9))) (wrap64 (q9 + 1))) else (some false)))) else (none)))) else (none)) else (some false))) else (none)) else (none)
end
def numnahlaw07_SharesWhole.g (k:Nat) (l0:List Int) (l1:List Int) (l2:List (S45)):Option (Bool):=(shares_Whole.f k l1 l2).bind fun d4=>(if 1 ≤ (l1.length:Int) then ((numnahlaw07_alone.f k l2).bind fun l9=>((shares_Fair.f k (l1.take 1) l9).bind fun b6=>((numnahlaw07_alone.f k l2).bind fun h6=>((shares_Whole.f k (l1.take 1) h6).bind fun b2=>(if d4.2 = 0 then (if b6.2.2 = 0 then (if b2.2 = 0 then (if (d4.1.length:Int) = (l2.length:Int) then (if (b6.1.length:Int) = (l2.length:Int) then (if (b2.1.length:Int) = (l2.length:Int) then ((numnahlaw07_fit.f k b6.1).bind fun d8=>(numnahlaw07_SharesWhole.j0 k l1 l2 d4.1 b6.1 b2.1 (!d8))) else (numnahlaw07_SharesWhole.j0 k l1 l2 d4.1 b6.1 b2.1 true)) else (numnahlaw07_SharesWhole.j0 k l1 l2 d4.1 b6.1 b2.1 true)) else (numnahlaw07_SharesWhole.j0 k l1 l2 d4.1 b6.1 b2.1 true)) else (numnahlaw07_SharesWhole.j0 k l1 l2 d4.1 b6.1 b2.1 true)) else (numnahlaw07_SharesWhole.j0 k l1 l2 d4.1 b6.1 b2.1 true)) else (numnahlaw07_SharesWhole.j0 k l1 l2 d4.1 b6.1 b2.1 true)))))) else (none))
theorem numnahlaw07_SharesWhole.mono_l:∀ k,(∀ y0 y1 y2 y3 y4 y5,LeO (numnahlaw07_SharesWhole.j0 k y0 y1 y2 y3 y4 y5) (numnahlaw07_SharesWhole.j0 (k + 1) y0 y1 y2 y3 y4 y5)) ∧ (∀ y0 y1 y2 y3 y4 y5 y6,LeO (numnahlaw07_SharesWhole.l0 k y0 y1 y2 y3 y4 y5 y6) (numnahlaw07_SharesWhole.l0 (k + 1) y0 y1 y2 y3 y4 y5 y6)) ∧ (∀ y0 y1 y2 y3 y4 y5 y6 y7,LeO (numnahlaw07_SharesWhole.j2 k y0 y1 y2 y3 y4 y5 y6 y7) (numnahlaw07_SharesWhole.j2 (k + 1) y0 y1 y2 y3 y4 y5 y6 y7)) ∧ (∀ y0 y1 y2 y3 y4 y5 y6 y7,LeO (numnahlaw07_SharesWhole.l1 k y0 y1 y2 y3 y4 y5 y6 y7) (numnahlaw07_SharesWhole.l1 (k + 1) y0 y1 y2 y3 y4 y5 y6 y7)) ∧ (∀ y0 y1 y2 y3 y4 y5 y6,LeO (numnahlaw07_SharesWhole.l2 k y0 y1 y2 y3 y4 y5 y6) (numnahlaw07_SharesWhole.l2 (k + 1) y0 y1 y2 y3 y4 y5 y6)) ∧ (∀ y0 y1 y2 y3 y4 y5 y6 y7 y8,LeO (numnahlaw07_SharesWhole.l3 k y0 y1 y2 y3 y4 y5 y6 y7 y8) (numnahlaw07_SharesWhole.l3 (k + 1) y0 y1 y2 y3 y4 y5 y6 y7 y8))
 | 0=>⟨fun _ _ _ _ _ _ r h=>by simp [numnahlaw07_SharesWhole.j0] at h,fun _ _ _ _ _ _ _ r h=>by simp [numnahlaw07_SharesWhole.l0] at h,fun _ _ _ _ _ _ _ _ r h=>by simp [numnahlaw07_SharesWhole.j2] at h,fun _ _ _ _ _ _ _ _ r h=>by simp [numnahlaw07_SharesWhole.l1] at h,fun _ _ _ _ _ _ _ r h=>by simp [numnahlaw07_SharesWhole.l2] at h,fun _ _ _ _ _ _ _ _ _ r h=>by simp [numnahlaw07_SharesWhole.l3] at h⟩
 | k + 1=>by
  obtain ⟨z6,z7,z8,z9,A5,A8⟩:=numnahlaw07_SharesWhole.mono_l k
  refine ⟨?_,?_,?_,?_,?_,?_⟩
  ·intro y0 y1 y2 y3 y4 y5
   unfold numnahlaw07_SharesWhole.j0
   repeat' first
   | (with_reducible exact z6 _ _ _ _ _ _)
   | (with_reducible exact z7 _ _ _ _ _ _ _)
   | (with_reducible exact z8 _ _ _ _ _ _ _ _)
   | (with_reducible exact z9 _ _ _ _ _ _ _ _)
   | (with_reducible exact A5 _ _ _ _ _ _ _)
   | (with_reducible exact A8 _ _ _ _ _ _ _ _ _)
   | (with_reducible exact numnahlaw07_alone.mono _ _)
   | (with_reducible exact numnahlaw07_awake.mono _)
   | (with_reducible exact numnahlaw07_fit.mono _ _)
   | (with_reducible exact shares_Fair.mono _ _ _)
   | (with_reducible exact shares_Whole.mono _ _ _)
   | (with_reducible exact LeO.refl _)
   | (with_reducible exact LeO.none _)
   | (with_reducible refine LeO.ite ?_ ?_)
   | (with_reducible refine LeO.bind ?_ (fun _=>?_))
   | exact z6 _ _ _ _ _ _
   | exact z7 _ _ _ _ _ _ _
   | exact z8 _ _ _ _ _ _ _ _
   | exact z9 _ _ _ _ _ _ _ _
   | exact A5 _ _ _ _ _ _ _
   | exact A8 _ _ _ _ _ _ _ _ _
   | exact numnahlaw07_alone.mono _ _
   | exact numnahlaw07_awake.mono _
   | exact numnahlaw07_fit.mono _ _
   | exact shares_Fair.mono _ _ _
   | exact shares_Whole.mono _ _ _
   | exact LeO.none _
   | refine LeO.ite ?_ ?_
   | refine LeO.bind ?_ (fun _=>?_)
  ·intro y0 y1 y2 y3 y4 y5 y6
   unfold numnahlaw07_SharesWhole.l0
   repeat' first
   | (with_reducible exact z6 _ _ _ _ _ _)
   | (with_reducible exact z7 _ _ _ _ _ _ _)
   | (with_reducible exact z8 _ _ _ _ _ _ _ _)
   | (with_reducible exact z9 _ _ _ _ _ _ _ _)
   | (with_reducible exact A5 _ _ _ _ _ _ _)
   | (with_reducible exact A8 _ _ _ _ _ _ _ _ _)
   | (with_reducible exact numnahlaw07_alone.mono _ _)
   | (with_reducible exact numnahlaw07_awake.mono _)
   | (with_reducible exact numnahlaw07_fit.mono _ _)
   | (with_reducible exact shares_Fair.mono _ _ _)
   | (with_reducible exact shares_Whole.mono _ _ _)
   | (with_reducible exact LeO.refl _)
   | (with_reducible exact LeO.none _)
   | (with_reducible refine LeO.ite ?_ ?_)
   | (with_reducible refine LeO.bind ?_ (fun _=>?_))
   | exact z6 _ _ _ _ _ _
   | exact z7 _ _ _ _ _ _ _
   | exact z8 _ _ _ _ _ _ _ _
   | exact z9 _ _ _ _ _ _ _ _
   | exact A5 _ _ _ _ _ _ _
   | exact A8 _ _ _ _ _ _ _ _ _
   | exact numnahlaw07_alone.mono _ _
   | exact numnahlaw07_awake.mono _
   | exact numnahlaw07_fit.mono _ _
   | exact shares_Fair.mono _ _ _
   | exact shares_Whole.mono _ _ _
   | exact LeO.none _
   | refine LeO.ite ?_ ?_
   | refine LeO.bind ?_ (fun _=>?_)
  ·intro y0 y1 y2 y3 y4 y5 y6 y7
   unfold numnahlaw07_SharesWhole.j2
   repeat' first
   | (with_reducible exact z6 _ _ _ _ _ _)
   | (with_reducible exact z7 _ _ _ _ _ _ _)
   | (with_reducible exact z8 _ _ _ _ _ _ _ _)
   | (with_reducible exact z9 _ _ _ _ _ _ _ _)
   | (with_reducible exact A5 _ _ _ _ _ _ _)
   | (with_reducible exact A8 _ _ _ _ _ _ _ _ _)
   | (with_reducible exact numnahlaw07_alone.mono _ _)
   | (with_reducible exact numnahlaw07_awake.mono _)
   | (with_reducible exact numnahlaw07_fit.mono _ _)
   | (with_reducible exact shares_Fair.mono _ _ _)
   | (with_reducible exact shares_Whole.mono _ _ _)
   | (with_reducible exact LeO.refl _)
   | (with_reducible exact LeO.none _)
   | (with_reducible refine LeO.ite ?_ ?_)
   | (with_reducible refine LeO.bind ?_ (fun _=>?_))
   | exact z6 _ _ _ _ _ _
   | exact z7 _ _ _ _ _ _ _
   | exact z8 _ _ _ _ _ _ _ _
   | exact z9 _ _ _ _ _ _ _ _
   | exact A5 _ _ _ _ _ _ _
   | exact A8 _ _ _ _ _ _ _ _ _
   | exact numnahlaw07_alone.mono _ _
   | exact numnahlaw07_awake.mono _
   | exact numnahlaw07_fit.mono _ _
   | exact shares_Fair.mono _ _ _
   | exact shares_Whole.mono _ _ _
   | exact LeO.none _
   | refine LeO.ite ?_ ?_
   | refine LeO.bind ?_ (fun _=>?_)
  ·intro y0 y1 y2 y3 y4 y5 y6 y7
   unfold numnahlaw07_SharesWhole.l1
   repeat' first
   | (with_reducible exact z6 _ _ _ _ _ _)
   | (with_reducible exact z7 _ _ _ _ _ _ _)
   | (with_reducible exact z8 _ _ _ _ _ _ _ _)
   | (with_reducible exact z9 _ _ _ _ _ _ _ _)
   | (with_reducible exact A5 _ _ _ _ _ _ _)
   | (with_reducible exact A8 _ _ _ _ _ _ _ _ _)
   | (with_reducible exact numnahlaw07_alone.mono _ _)
   | (with_reducible exact numnahlaw07_awake.mono _)
   | (with_reducible exact numnahlaw07_fit.mono _ _)
   | (with_reducible exact shares_Fair.mono _ _ _)
   | (with_reducible exact shares_Whole.mono _ _ _)
   | (with_reducible exact LeO.refl _)
   | (with_reducible exact LeO.none _)
   | (with_reducible refine LeO.ite ?_ ?_)
   | (with_reducible refine LeO.bind ?_ (fun _=>?_))
   | exact z6 _ _ _ _ _ _
   | exact z7 _ _ _ _ _ _ _
   | exact z8 _ _ _ _ _ _ _ _
   | exact z9 _ _ _ _ _ _ _ _
   | exact A5 _ _ _ _ _ _ _
   | exact A8 _ _ _ _ _ _ _ _ _
   | exact numnahlaw07_alone.mono _ _
   | exact numnahlaw07_awake.mono _
   | exact numnahlaw07_fit.mono _ _
   | exact shares_Fair.mono _ _ _
   | exact shares_Whole.mono _ _ _
   | exact LeO.none _
   | refine LeO.ite ?_ ?_
   | refine LeO.bind ?_ (fun _=>?_)
  ·intro y0 y1 y2 y3 y4 y5 y6
   unfold numnahlaw07_SharesWhole.l2
   repeat' first
   | (with_reducible exact z6 _ _ _ _ _ _)
   | (with_reducible exact z7 _ _ _ _ _ _ _)
   | (with_reducible exact z8 _ _ _ _ _ _ _ _)
   | (with_reducible exact z9 _ _ _ _ _ _ _ _)
   | (with_reducible exact A5 _ _ _ _ _ _ _)
   | (with_reducible exact A8 _ _ _ _ _ _ _ _ _)
   | (with_reducible exact numnahlaw07_alone.mono _ _)
   | (with_reducible exact numnahlaw07_awake.mono _)
   | (with_reducible exact numnahlaw07_fit.mono _ _)
   | (with_reducible exact shares_Fair.mono _ _ _)
   | (with_reducible exact shares_Whole.mono _ _ _)
   | (with_reducible exact LeO.refl _)
   | (with_reducible exact LeO.none _)
   | (with_reducible refine LeO.ite ?_ ?_)
   | (with_reducible refine LeO.bind ?_ (fun _=>?_))
   | exact z6 _ _ _ _ _ _
   | exact z7 _ _ _ _ _ _ _
   | exact z8 _ _ _ _ _ _ _ _
   | exact z9 _ _ _ _ _ _ _ _
   | exact A5 _ _ _ _ _ _ _
   | exact A8 _ _ _ _ _ _ _ _ _
   | exact numnahlaw07_alone.mono _ _
   | exact numnahlaw07_awake.mono _
   | exact numnahlaw07_fit.mono _ _
   | exact shares_Fair.mono _ _ _
   | exact shares_Whole.mono _ _ _
   | exact LeO.none _
   | refine LeO.ite ?_ ?_
   | refine LeO.bind ?_ (fun _=>?_)
  intro y0 y1 y2 y3 y4 y5 y6 y7 y8
  unfold numnahlaw07_SharesWhole.l3
  repeat' first
  | (with_reducible exact z6 _ _ _ _ _ _)
  | (with_reducible exact z7 _ _ _ _ _ _ _)
  | (with_reducible exact z8 _ _ _ _ _ _ _ _)
  | (with_reducible exact z9 _ _ _ _ _ _ _ _)
  | (with_reducible exact A5 _ _ _ _ _ _ _)
  | (with_reducible exact A8 _ _ _ _ _ _ _ _ _)
  | (with_reducible exact numnahlaw07_alone.mono _ _)
  | (with_reducible exact numnahlaw07_awake.mono _)
  | (with_reducible exact numnahlaw07_fit.mono _ _)
  | (with_reducible exact shares_Fair.mono _ _ _)
  | (with_reducible exact shares_Whole.mono _ _ _)
  | (with_reducible exact LeO.refl _)
  | (with_reducible exact LeO.none _)
  | (with_reducible refine LeO.ite ?_ ?_)
  | (with_reducible refine LeO.bind ?_ (fun _=>?_))
  | exact z6 _ _ _ _ _ _
  | exact z7 _ _ _ _ _ _ _
  | exact z8 _ _ _ _ _ _ _ _
  | exact z9 _ _ _ _ _ _ _ _
  | exact A5 _ _ _ _ _ _ _
  | exact A8 _ _ _ _ _ _ _ _ _
  | exact numnahlaw07_alone.mono _ _
  | exact numnahlaw07_awake.mono _
  | exact numnahlaw07_fit.mono _ _
  | exact shares_Fair.mono _ _ _
  | exact shares_Whole.mono _ _ _
  | exact LeO.none _
  | refine LeO.ite ?_ ?_
  | refine LeO.bind ?_ (fun _=>?_)
theorem numnahlaw07_SharesWhole.gmono:∀ a0 a1 a2 k,LeO (numnahlaw07_SharesWhole.g k a0 a1 a2) (numnahlaw07_SharesWhole.g (k + 1) a0 a1 a2):=by
 intro a0 a1 a2 k
 obtain ⟨z6,z7,z8,z9,A5,A8⟩:=numnahlaw07_SharesWhole.mono_l k
 unfold numnahlaw07_SharesWhole.g
 repeat' first
   | (with_reducible exact z6 _ _ _ _ _ _)
   | (with_reducible exact z7 _ _ _ _ _ _ _)
   | (with_reducible exact z8 _ _ _ _ _ _ _ _)
   | (with_reducible exact z9 _ _ _ _ _ _ _ _)
   | (with_reducible exact A5 _ _ _ _ _ _ _)
   | (with_reducible exact A8 _ _ _ _ _ _ _ _ _)
   | (with_reducible exact numnahlaw07_alone.mono _ _)
   | (with_reducible exact numnahlaw07_awake.mono _)
   | (with_reducible exact numnahlaw07_fit.mono _ _)
   | (with_reducible exact shares_Fair.mono _ _ _)
   | (with_reducible exact shares_Whole.mono _ _ _)
   | (with_reducible exact LeO.refl _)
   | (with_reducible exact LeO.none _)
   | (with_reducible refine LeO.ite ?_ ?_)
   | (with_reducible refine LeO.bind ?_ (fun _=>?_))
   | exact z6 _ _ _ _ _ _
   | exact z7 _ _ _ _ _ _ _
   | exact z8 _ _ _ _ _ _ _ _
   | exact z9 _ _ _ _ _ _ _ _
   | exact A5 _ _ _ _ _ _ _
   | exact A8 _ _ _ _ _ _ _ _ _
   | exact numnahlaw07_alone.mono _ _
   | exact numnahlaw07_awake.mono _
   | exact numnahlaw07_fit.mono _ _
   | exact shares_Fair.mono _ _ _
   | exact shares_Whole.mono _ _ _
   | exact LeO.none _
   | refine LeO.ite ?_ ?_
   | refine LeO.bind ?_ (fun _=>?_)
def numnahlaw07_SharesWhole.T3:Bool × List (List Nat × List Nat):=(true,[([],[]),([0],[0]),([],[]),([2],[2]),([1,3,3],[1,3]),([4],[4]),([5],[5]),([5],[5]),([5],[5]),([6,4,0,1,2,3,4,5,6],[6]),([7,9,0,1,2,3,4,5,6,7,9],[7]),([8,10,0,1,2,3,4,5,6,7,8,9,10],[8])])
def numnahlaw07_SharesWhole.B3:List Nat:=[0,1,0,4,15,31,63,63,63,127,767,2047]
theorem numnahlaw07_SharesWhole.tab3:rtab .any (opsOf Try.f13 3) = numnahlaw07_SharesWhole.T3:=by kernel_rfl
theorem numnahlaw07_SharesWhole.bits3:waitsOk numnahlaw07_SharesWhole.T3.2 numnahlaw07_SharesWhole.B3 = true:=by kernel_rfl
def numnahlaw07_SharesWhole.T4:Bool × List (List Nat × List Nat):=(true,[([],[]),([0],[0]),([],[]),([2],[2]),([1,3,3],[1,3]),([4],[4]),([5],[5]),([5],[5]),([6,4,0,1,2,3,4,5,6],[6]),([7,8,0,1,2,3,4,5,6,7,8],[7])])
def numnahlaw07_SharesWhole.B4:List Nat:=[0,1,0,4,15,31,63,63,127,511]
theorem numnahlaw07_SharesWhole.tab4:rtab .any (opsOf Try.f13 4) = numnahlaw07_SharesWhole.T4:=by kernel_rfl
theorem numnahlaw07_SharesWhole.bits4:waitsOk numnahlaw07_SharesWhole.T4.2 numnahlaw07_SharesWhole.B4 = true:=by kernel_rfl
def numnahlaw07_SharesWhole.T16:Bool × List (List Nat × List Nat):=(true,[([],[]),([],[]),([],[]),([1,2],[1,2]),([3],[3]),([4],[4]),([],[]),([5,6],[5,6]),([7],[7]),([],[]),([],[]),([],[]),([10,11],[10,11]),([12],[12]),([13],[13]),([],[]),([14,15],[14,15]),([16],[16]),([9,17],[9,17]),([18],[18]),([],[]),([],[]),([20,21],[20,21]),([22],[22]),([19,23],[19,23]),([0,8,0,1,2,3,4,5,6,7,8,9,10,11,12,13,14,15,16,17,18,19,20,21,22,23,24],[0,8]),([25,24,0,1,2,3,4,5,6,7,8,9,10,11,12,13,14,15,16,17,18,19,20,21,22,23,24],[24,25])])
def numnahlaw07_SharesWhole.B16:List Nat:=[0,0,0,6,14,30,0,126,254,0,0,0,3072,7168,15360,0,64512,130048,261632,523776,0,0,3145728,7340032,16776704,33554431,67108863]
theorem numnahlaw07_SharesWhole.tab16:rtab .any (opsOf Try.f13 16) = numnahlaw07_SharesWhole.T16:=by kernel_rfl
theorem numnahlaw07_SharesWhole.bits16:waitsOk numnahlaw07_SharesWhole.T16.2 numnahlaw07_SharesWhole.B16 = true:=by kernel_rfl
def numnahlaw07_SharesWhole.T28:Bool × List (List Nat × List Nat):=(true,[([],[]),([0],[0]),([1],[1]),([2],[2]),([2],[2]),([3,4,2],[2,3,4]),([5,2],[2,5]),([6,2],[2,6]),([2,7],[2,7]),([8,2],[8]),([9],[9]),([9],[9]),([10,11,9],[9,10,11]),([12,9],[9,12]),([13,9],[9,13]),([9,14],[9,14]),([15,9],[15]),([16],[16]),([16],[16]),([17,18,16],[16,17,18]),([19,16],[16,19]),([16],[16]),([16],[16]),([21,22,16],[16,21,22]),([23,16],[16,23]),([24,16],[16,24]),([25,16,16],[16,25]),([20,26,26,16],[16,20,26]),([27,16],[16,27]),([16,28],[16,28])])
def numnahlaw07_SharesWhole.B28:List Nat:=[0,1,3,7,7,31,63,127,255,511,1023,1023,4095,8191,16383,32767,65535,131071,131071,524287,1048575,131071,131071,6422527,14811135,31588351,65142783,134217727,268435455,536870911]
theorem numnahlaw07_SharesWhole.tab28:rtab .any (opsOf Try.f13 28) = numnahlaw07_SharesWhole.T28:=by kernel_rfl
theorem numnahlaw07_SharesWhole.bits28:waitsOk numnahlaw07_SharesWhole.T28.2 numnahlaw07_SharesWhole.B28 = true:=by kernel_rfl
def numnahlaw07_SharesWhole.f (k:Nat) (l0:List Int):Option (Bool):=(numnahlaw07_plant.f k l0).bind fun bt=>(numnahlaw07_SharesWhole.g k l0 bt.1 bt.2)
theorem numnahlaw07_SharesWhole.mono:∀ a0 k,LeO (numnahlaw07_SharesWhole.f k a0) (numnahlaw07_SharesWhole.f (k + 1) a0):=by
 intro a0 k
 unfold numnahlaw07_SharesWhole.f
 exact LeO.bind (numnahlaw07_plant.mono _ _) (fun _=>numnahlaw07_SharesWhole.gmono _ _ _ _)
theorem numnahlaw07_SharesWhole.calls (k:Nat) (A0:Option Addr) (c0:Nat) (l0:List Int) (r:Bool) (V1:World) (hr0:Kd.C (Kd.int .i64) V1 A0 l0.length l0) (hc0:l0.length ≤ c0) (h:numnahlaw07_SharesWhole.f k l0 = some r) (hrt_:r = true) :
  Calls Try.prog 13 #[.slice A0 l0.length c0] V1 fun e w'=>e = .returned (.bool r) ∧ Below V1.heap.size V1 w':=by
 have HRT:=Aside0.mk hrt_
 clear hrt_
 have hu23:=Try.underlying23
 have HR0:=A_ hr0
 have HC0:=A_ hc0
 clear hr0 hc0
 have H0:((numnahlaw07_plant.f k l0).bind fun bt=>(numnahlaw07_SharesWhole.g k l0 bt.1 bt.2)) = some r:=h
 clear h
 replace H0:=Option.bind_eq_some_iff.mp H0
 obtain ⟨⟨l1,l2⟩,A30,H0⟩:=H0
 have A3:=A_ A30
 clear A30
 have h:numnahlaw07_SharesWhole.g k l0 l1 l2 = some r:=H0
 clear H0
 have HH:=A_ h
 clear h
 go_enter Try.func13,Try.ntmps13
 go_upto_region 2 with (((with_reducible refine gate_callee (f:=52) rfl ?_);refine goesL_ (some 21) rfl rfl Try.func52 (by kernel_rfl) rfl #[.slice A0 l0.length c0] rfl (by (try simp only [List.map_toArray,List.map_cons,List.map_nil]);first | done | rfl | (simp only [List.length_drop,List.length_take];rfl)) ?_;(with_reducible refine (numnahlaw07_plant.calls k _ _ l0 l1 l2 _ ?side1 ?side2 A3.out).mono ?_);(case side1=>exact kc_ HR0.out);(case side2=>exact HC0.out);rintro e w ⟨v1,v2,rfl,m7,L1,hb⟩;refine ⟨_,rfl,?_⟩;have V2:=A_ m7;have V3:=A_ L1;have HUP:=A_ (fun W (hW:Below w.heap.size w W)=>below_step hb hW);clear hb m7 L1;obtain ⟨A1,c1,e1⟩:=Kd.R_slice V2.out;subst e1;obtain ⟨A2,c2,e2⟩:=Kd.S_slice V3.out;subst e2))
 (try simp only [Act.put,List.setIfInBounds_toArray,List.set_cons_zero,List.set_cons_succ])
 have h:=HH.out
 clear HH
 have P3:=A_ (Kd.R_reads' V2.out).2.2
 have V4:=A_ (Kd.R_reads' V2.out).2.1
 have C9:=A_ (Kd.S_reads' V3.out).2.2
 have X2:=A_ (Kd.S_reads' V3.out).2.1
 clear V2 V3 HR0 HC0
 have HB:=A_ (Below.refl w.heap.size w)
 have H:((shares_Whole.f k l1 l2).bind fun d4=>(if 1 ≤ (l1.length:Int) then ((numnahlaw07_alone.f k l2).bind fun l9=>((shares_Fair.f k (l1.take 1) l9).bind fun b6=>((numnahlaw07_alone.f k l2).bind fun h6=>((shares_Whole.f k (l1.take 1) h6).bind fun b2=>(if d4.2 = 0 then (if b6.2.2 = 0 then (if b2.2 = 0 then (if (d4.1.length:Int) = (l2.length:Int) then (if (b6.1.length:Int) = (l2.length:Int) then (if (b2.1.length:Int) = (l2.length:Int) then ((numnahlaw07_fit.f k b6.1).bind fun d8=>(numnahlaw07_SharesWhole.j0 k l1 l2 d4.1 b6.1 b2.1 (!d8))) else (numnahlaw07_SharesWhole.j0 k l1 l2 d4.1 b6.1 b2.1 true)) else (numnahlaw07_SharesWhole.j0 k l1 l2 d4.1 b6.1 b2.1 true)) else (numnahlaw07_SharesWhole.j0 k l1 l2 d4.1 b6.1 b2.1 true)) else (numnahlaw07_SharesWhole.j0 k l1 l2 d4.1 b6.1 b2.1 true)) else (numnahlaw07_SharesWhole.j0 k l1 l2 d4.1 b6.1 b2.1 true)) else (numnahlaw07_SharesWhole.j0 k l1 l2 d4.1 b6.1 b2.1 true)))))) else (none))) = some r:=h
 clear h
 replace H:=Option.bind_eq_some_iff.mp H
 obtain ⟨⟨b3,i3⟩,A40,H⟩:=H
 replace H:(if 1 ≤ (l1.length:Int) then ((numnahlaw07_alone.f k l2).bind fun l9=>((shares_Fair.f k (l1.take 1) l9).bind fun b6=>((numnahlaw07_alone.f k l2).bind fun h6=>((shares_Whole.f k (l1.take 1) h6).bind fun b2=>(if i3 = 0 then (if b6.2.2 = 0 then (if b2.2 = 0 then (if (b3.length:Int) = (l2.length:Int) then (if (b6.1.length:Int) = (l2.length:Int) then (if (b2.1.length:Int) = (l2.length:Int) then ((numnahlaw07_fit.f k b6.1).bind fun d8=>(numnahlaw07_SharesWhole.j0 k l1 l2 b3 b6.1 b2.1 (!d8))) else (numnahlaw07_SharesWhole.j0 k l1 l2 b3 b6.1 b2.1 true)) else (numnahlaw07_SharesWhole.j0 k l1 l2 b3 b6.1 b2.1 true)) else (numnahlaw07_SharesWhole.j0 k l1 l2 b3 b6.1 b2.1 true)) else (numnahlaw07_SharesWhole.j0 k l1 l2 b3 b6.1 b2.1 true)) else (numnahlaw07_SharesWhole.j0 k l1 l2 b3 b6.1 b2.1 true)) else (numnahlaw07_SharesWhole.j0 k l1 l2 b3 b6.1 b2.1 true)))))) else (none)) = some r:=H
 have A4:=A_ A40
 clear A40
 by_cases c5:1 ≤ (l1.length:Int)
 case neg =>
  rw [if_neg c5] at H
  exact absurd H (by simp)
 rw [if_pos c5] at H
 have D0:=eq_true c5
 have D1:decide (1 ≤ (l1.length:Int)) = true:=decide_eq_true c5
 clear c5
 replace H:=Option.bind_eq_some_iff.mp H
 obtain ⟨l9,A60,H⟩:=H
 replace H:((shares_Fair.f k (l1.take 1) l9).bind fun b6=>((numnahlaw07_alone.f k l2).bind fun h6=>((shares_Whole.f k (l1.take 1) h6).bind fun b2=>(if i3 = 0 then (if b6.2.2 = 0 then (if b2.2 = 0 then (if (b3.length:Int) = (l2.length:Int) then (if (b6.1.length:Int) = (l2.length:Int) then (if (b2.1.length:Int) = (l2.length:Int) then ((numnahlaw07_fit.f k b6.1).bind fun d8=>(numnahlaw07_SharesWhole.j0 k l1 l2 b3 b6.1 b2.1 (!d8))) else (numnahlaw07_SharesWhole.j0 k l1 l2 b3 b6.1 b2.1 true)) else (numnahlaw07_SharesWhole.j0 k l1 l2 b3 b6.1 b2.1 true)) else (numnahlaw07_SharesWhole.j0 k l1 l2 b3 b6.1 b2.1 true)) else (numnahlaw07_SharesWhole.j0 k l1 l2 b3 b6.1 b2.1 true)) else (numnahlaw07_SharesWhole.j0 k l1 l2 b3 b6.1 b2.1 true)) else (numnahlaw07_SharesWhole.j0 k l1 l2 b3 b6.1 b2.1 true))))) = some r:=H
 have A6:=A_ A60
 clear A60
 replace H:=Option.bind_eq_some_iff.mp H
 obtain ⟨⟨b4,P4,m1⟩,A70,H⟩:=H
 replace H:((numnahlaw07_alone.f k l2).bind fun h6=>((shares_Whole.f k (l1.take 1) h6).bind fun b2=>(if i3 = 0 then (if m1 = 0 then (if b2.2 = 0 then (if (b3.length:Int) = (l2.length:Int) then (if (b4.length:Int) = (l2.length:Int) then (if (b2.1.length:Int) = (l2.length:Int) then ((numnahlaw07_fit.f k b4).bind fun d8=>(numnahlaw07_SharesWhole.j0 k l1 l2 b3 b4 b2.1 (!d8))) else (numnahlaw07_SharesWhole.j0 k l1 l2 b3 b4 b2.1 true)) else (numnahlaw07_SharesWhole.j0 k l1 l2 b3 b4 b2.1 true)) else (numnahlaw07_SharesWhole.j0 k l1 l2 b3 b4 b2.1 true)) else (numnahlaw07_SharesWhole.j0 k l1 l2 b3 b4 b2.1 true)) else (numnahlaw07_SharesWhole.j0 k l1 l2 b3 b4 b2.1 true)) else (numnahlaw07_SharesWhole.j0 k l1 l2 b3 b4 b2.1 true)))) = some r:=H
 have A7:=A_ A70
 clear A70
 have D2:=eq_true (oa_:1 ≤ (l1.length:Int))
 replace H:=Option.bind_eq_some_iff.mp H
 obtain ⟨h6,A90,H⟩:=H
 replace H:((shares_Whole.f k (l1.take 1) h6).bind fun b2=>(if i3 = 0 then (if m1 = 0 then (if b2.2 = 0 then (if (b3.length:Int) = (l2.length:Int) then (if (b4.length:Int) = (l2.length:Int) then (if (b2.1.length:Int) = (l2.length:Int) then ((numnahlaw07_fit.f k b4).bind fun d8=>(numnahlaw07_SharesWhole.j0 k l1 l2 b3 b4 b2.1 (!d8))) else (numnahlaw07_SharesWhole.j0 k l1 l2 b3 b4 b2.1 true)) else (numnahlaw07_SharesWhole.j0 k l1 l2 b3 b4 b2.1 true)) else (numnahlaw07_SharesWhole.j0 k l1 l2 b3 b4 b2.1 true)) else (numnahlaw07_SharesWhole.j0 k l1 l2 b3 b4 b2.1 true)) else (numnahlaw07_SharesWhole.j0 k l1 l2 b3 b4 b2.1 true)) else (numnahlaw07_SharesWhole.j0 k l1 l2 b3 b4 b2.1 true))) = some r:=H
 have A9:=A_ A90
 clear A90
 replace H:=Option.bind_eq_some_iff.mp H
 obtain ⟨⟨b5,n4⟩,I5,H⟩:=H
 replace H:(if i3 = 0 then (if m1 = 0 then (if n4 = 0 then (if (b3.length:Int) = (l2.length:Int) then (if (b4.length:Int) = (l2.length:Int) then (if (b5.length:Int) = (l2.length:Int) then ((numnahlaw07_fit.f k b4).bind fun d8=>(numnahlaw07_SharesWhole.j0 k l1 l2 b3 b4 b5 (!d8))) else (numnahlaw07_SharesWhole.j0 k l1 l2 b3 b4 b5 true)) else (numnahlaw07_SharesWhole.j0 k l1 l2 b3 b4 b5 true)) else (numnahlaw07_SharesWhole.j0 k l1 l2 b3 b4 b5 true)) else (numnahlaw07_SharesWhole.j0 k l1 l2 b3 b4 b5 true)) else (numnahlaw07_SharesWhole.j0 k l1 l2 b3 b4 b5 true)) else (numnahlaw07_SharesWhole.j0 k l1 l2 b3 b4 b5 true)) = some r:=H
 have A10:=A_ I5
 clear I5
 have L2:=A_ H
 clear H
 try go_wp2_with (first | ((with_reducible refine gate_callee (f:=44) rfl ?_);refine goesL_ (some 27) rfl rfl Try.func44 (by kernel_rfl) rfl #[.slice A1 l1.length c1,.slice A2 l2.length c2] rfl (by (try simp only [List.map_toArray,List.map_cons,List.map_nil]);first | done | rfl | (simp only [List.length_drop,List.length_take];rfl)) ?_;(with_reducible refine (shares_Whole.calls k _ _ l1 _ _ l2 b3 i3 _ ?side1 ?side2 ?side3 ?side4 A4.out).mono ?_);(case side1=>exact kc_ P3.out);(case side2=>exact V4.out);(case side3=>exact kc_ C9.out);(case side4=>exact X2.out);rintro e w12 ⟨i4,rfl,m7,hb⟩;refine ⟨_,rfl,?_⟩;have b8:=A_ (Kd.R_lower m7 (below_size (bl HB)));replace HB:=bB HB hb;(try clear hb);(try clear m7)))
 replace b8:=A_ (Kd.R_drew b8.out)
 replace HB:=A_ (below_drew1 HB.out)
 obtain ⟨i014,J4,_,J5,_⟩:=info_parts info3
 obtain ⟨X3,P5,P6⟩:=print_take_of (P:=Try.prog) (Value.int .i64) 0 28 3 .i64 Try.underlying28 J4 J5 A1 c1 l1 1 (by omega) oa_ V4.out
 have D8:=A_ (Kd.C_of_reads (h1:=fun _=>rfl) (P5 _ (Kd.reads_of_C P3.out)))
 have L3:=A_ P6
 clear P5 P6 J4 J5
 refine start_ (n:=12) (S:=fun w'=>True) (ds:=[]) (ba 12 0) (by kernel_rfl) rfl rfl trivial (fun hHeld=>?_);refine with_tabW numnahlaw07_SharesWhole.tab3 numnahlaw07_SharesWhole.bits3 (fun HT_ HW_=>?_)
 generalize w12.drew = w13 at b8 HB D8 hHeld ⊢
 refine pq 0 31 1 HT_ ?_
 refine pq 1 32 3 HT_ ?_
 refine pq 2 33 7 HT_ ?_
 refine oq 3 34 15 HT_ (fun K hK=>?_)
 refine gq Try.func53 #[.slice A2 l2.length c2] ?_
 with_reducible refine (numnahlaw07_alone.calls k _ _ l2 l9 _ ?side1 ?side2 A6.out).mono ?_
 (case side1=>exact cB C9 HB)
 (case side2=>exact X2.out)
 rintro e w15 ⟨v1133,rfl,m7,hb⟩
 refine ⟨_,rfl,?_⟩
 have d7:=A_ (Kd.S_lower (Kd.S_new' m7 (Kd.R_lt (rs b8))) (below_size (bl HB)))
 replace b8:=rB b8 hb
 replace HB:=bB HB hb
 (try clear hb)
 (try clear m7)
 obtain ⟨X4,X5,P7⟩:=Kd.S_slice d7.out
 (first | subst P7 | (injection P7 with r5 D9 r6;have E0:=r5.symm;have E1:=r6.symm;clear r5 D9 r6;subst E0;subst E1))
 refine hK.out _ _ trivial (fun hHeld=>?_)
 clear hK K
 refine nq 34 ?_
 refine oq 4 35 31 HT_ (fun K hK=>?_)
 refine goes_ Try.func32 (by kernel_rfl) rfl #[.slice A1 (l1.take 1).length c1,.slice X4 l9.length X5] (by rfl) rfl rfl (by (try simp only [List.map_toArray,List.map_cons,List.map_nil]);first | done | (rw [show (l1.take 1).length = 1 from (by rw [List.length_take];have h_:(1:Int) ≤ (l1.length:Int):=oa_;omega)] <;> rfl) | rfl | (simp only [List.length_drop,List.length_take];rfl)) ?_
 with_reducible refine (shares_Fair.calls k _ _ (l1.take 1) _ _ l9 b4 P4 m1 _ ?side1 ?side2 ?side3 ?side4 A7.out).mono ?_
 (case side1=>exact cB D8 HB)
 (case side2=>exact L3.out)
 (case side3=>repeat (first | exact (Kd.S_reads' d7.out).2.2 | (with_reducible refine Kd.C_alloc ?_ _) | (with_reducible refine Kd.C_drewN ?_ _) | (with_reducible refine Kd.C_drew ?_)))
 (case side4=>exact (Kd.S_reads' d7.out).2.1)
 rintro e w17 ⟨r0,v1140,rfl,m7,L1,hb⟩
 refine ⟨_,rfl,?_⟩
 have d2:=A_ (Kd.R_lower m7 (below_size (bl HB)))
 have e5:=A_ (Kd.R_lower (Kd.R_new' L1 (Kd.R_lt (rs b8))) (below_size (bl HB)))
 replace b8:=A_ (Kd.R_elder' (rs b8) (Kd.R_base L1) hb)
 replace d7:=A_ (Kd.S_elder' (ks_ d7) (Kd.R_base L1) hb)
 replace HB:=bB HB hb
 (try clear hb)
 (try clear m7)
 (try clear L1)
 refine hK.out _ _ trivial (fun hHeld=>?_)
 clear hK K
 refine nq 35 ?_
 refine pq 5 30 63 HT_ ?_
 refine pq 6 36 127 HT_ ?_
 refine pq 7 37 255 HT_ ?_
 refine pq 8 38 511 HT_ ?_
 refine pq 9 7 1023 HT_ ?_
 refine pq 10 8 2047 HT_ ?_
 refine pq 11 9 4095 HT_ ?_
 refine done_ (done_of HT_.out (by kernel_rfl)) ?_
 try go_wp2
 replace b8:=A_ (Kd.R_drew b8.out)
 replace d7:=A_ (Kd.S_drew d7.out)
 replace d2:=A_ (Kd.R_drew d2.out)
 replace e5:=A_ (Kd.R_drew e5.out)
 replace HB:=A_ (below_drew1 HB.out)
 obtain ⟨i019,J6,_,J7,_⟩:=info_parts info3
 obtain ⟨X6,P8,P9⟩:=print_take_of (P:=Try.prog) (Value.int .i64) 0 28 3 .i64 Try.underlying28 J6 J7 A1 c1 l1 1 (by omega) oa_ V4.out
 have E2:=A_ (Kd.C_of_reads (h1:=fun _=>rfl) (P8 _ (Kd.reads_of_C P3.out)))
 have L4:=A_ P9
 clear P8 P9 J6 J7
 refine start_ (n:=10) (S:=fun w'=>True) (ds:=[]) (ba 10 0) (by kernel_rfl) rfl rfl trivial (fun hHeld=>?_);refine with_tabW numnahlaw07_SharesWhole.tab4 numnahlaw07_SharesWhole.bits4 (fun HT_ HW_=>?_)
 generalize w17.drew = w18 at b8 d7 d2 e5 HB E2 hHeld ⊢
 refine pq 0 40 1 HT_ ?_
 refine pq 1 41 3 HT_ ?_
 refine pq 2 42 7 HT_ ?_
 refine oq 3 43 15 HT_ (fun K hK=>?_)
 refine gq Try.func53 #[.slice A2 l2.length c2] ?_
 with_reducible refine (numnahlaw07_alone.calls k _ _ l2 h6 _ ?side1 ?side2 A9.out).mono ?_
 (case side1=>exact cB C9 HB)
 (case side2=>exact X2.out)
 rintro e w20 ⟨v1144,rfl,m7,hb⟩
 refine ⟨_,rfl,?_⟩
 have m0:=A_ (Kd.S_lower (Kd.S_new' (Kd.S_new' (Kd.S_new' m7 (Kd.R_lt (rs b8))) (Kd.S_lt (ks_ d7))) (Kd.R_lt (rs e5))) (below_size (bl HB)))
 replace b8:=rB b8 hb
 replace d7:=A_ (Kd.S_elder' (ks_ d7) (Kd.S_base m7) hb)
 replace d2:=rB d2 hb
 replace e5:=rB e5 hb
 replace HB:=bB HB hb
 (try clear hb)
 (try clear m7)
 obtain ⟨X7,X8,Q0⟩:=Kd.S_slice m0.out
 (first | subst Q0 | (injection Q0 with r5 D9 r6;have E0:=r5.symm;have E1:=r6.symm;clear r5 D9 r6;subst E0;subst E1))
 refine hK.out _ _ trivial (fun hHeld=>?_)
 clear hK K
 refine nq 43 ?_
 refine oq 4 44 31 HT_ (fun K hK=>?_)
 refine goes_ Try.func44 (by kernel_rfl) rfl #[.slice A1 (l1.take 1).length c1,.slice X7 h6.length X8] (by rfl) rfl rfl (by (try simp only [List.map_toArray,List.map_cons,List.map_nil]);first | done | (rw [show (l1.take 1).length = 1 from (by rw [List.length_take];have h_:(1:Int) ≤ (l1.length:Int):=oa_;omega)] <;> rfl) | rfl | (simp only [List.length_drop,List.length_take];rfl)) ?_
 with_reducible refine (shares_Whole.calls k _ _ (l1.take 1) _ _ h6 b5 n4 _ ?side1 ?side2 ?side3 ?side4 A10.out).mono ?_
 (case side1=>exact cB E2 HB)
 (case side2=>exact L4.out)
 (case side3=>repeat (first | exact (Kd.S_reads' m0.out).2.2 | (with_reducible refine Kd.C_alloc ?_ _) | (with_reducible refine Kd.C_drewN ?_ _) | (with_reducible refine Kd.C_drew ?_)))
 (case side4=>exact (Kd.S_reads' m0.out).2.1)
 rintro e w22 ⟨e6,rfl,m7,hb⟩
 refine ⟨_,rfl,?_⟩
 have e7:=A_ (Kd.R_lower (Kd.R_new' (Kd.R_new' m7 (Kd.R_lt (rs b8))) (Kd.R_lt (rs e5))) (below_size (bl HB)))
 replace b8:=A_ (Kd.R_elder' (rs b8) (Kd.R_base m7) hb)
 replace d7:=A_ (Kd.S_elder' (ks_ d7) (Kd.R_base m7) hb)
 replace d2:=rB d2 hb
 replace e5:=A_ (Kd.R_elder' (rs e5) (Kd.R_base m7) hb)
 replace m0:=A_ (Kd.S_elder' (ks_ m0) (Kd.R_base m7) hb)
 replace HB:=bB HB hb
 (try clear hb)
 (try clear m7)
 refine hK.out _ _ trivial (fun hHeld=>?_)
 clear hK K
 refine nq 44 ?_
 refine pq 5 39 63 HT_ ?_
 refine pq 6 45 127 HT_ ?_
 refine pq 7 46 255 HT_ ?_
 refine pq 8 10 511 HT_ ?_
 refine pq 9 11 1023 HT_ ?_
 refine done_ (done_of HT_.out (by kernel_rfl)) ?_
 go_upto_region 5 with (fail)
 go_cut [82] (fun v82 wc=>∃ (kq:Nat) (r3:Bool),v82 = .bool r3 ∧ Aside0 (numnahlaw07_SharesWhole.j0 kq l1 l2 b3 b4 b5 r3 = some r) ∧ Aside0 (kq ≤ k) ∧ Aside0 (Kd.R (Kd.int .i64) 3 wc w.heap.size (fun k_=>some k_ ≠ (e6:Value).ownBlock) i4 b3) ∧ Aside0 (Kd.R k23 23 wc w.heap.size (fun _=>True) r0 b4) ∧ Aside0 (Kd.R (Kd.int .i64) 3 wc w.heap.size (fun k_=>some k_ ≠ (i4:Value).ownBlock) e6 b5) ∧ Aside0 (Below w.heap.size w wc))
 case first=>as_aux_lemma =>
  have H:=L2.out
  clear L2
  by_cases D3:i3 = 0
  case neg =>
   rw [if_neg D3] at H
   have i5:(i3 == 0) = false:=beq_eq_false_iff_ne.mpr D3
   have n5:(i3 != 0) = true:=bne_iff_ne.mpr D3
   (first | rw [i5] | (simp only [i64_w,i32_w];rw [i5]) | skip)
   have H':=A_ H
   clear H
   go_wp2
   go_meet
   case rel=>exact ⟨_,(true),rf_,H',⟨by first | omega | exact Nat.le_refl _⟩,⟨by (with_reducible repeat (first | apply Kd.R_alloc | apply Kd.R_drewN | apply Kd.R_drew));exact Kd.R_mono b8.out (fun _ hk=>hk.2)⟩,⟨kr_ d2⟩,⟨by (with_reducible repeat (first | apply Kd.R_alloc | apply Kd.R_drewN | apply Kd.R_drew));exact Kd.R_mono e7.out (fun _ hk=>hk.1.2)⟩,⟨by repeat (first | (with_reducible first | exact HB.out | apply below_alloc | apply pw_below_drewN | apply below_drew1) | exact HB.out)⟩⟩
  rw [if_pos D3] at H
  have i5:(i3 == 0) = true:=beq_iff_eq.mpr D3
  have n5:(i3 != 0) = false:=bne_eq_false_iff_eq.mpr D3
  clear D3
  (first | rw [i5] | (simp only [i64_w,i32_w];rw [i5]) | skip)
  by_cases D4:m1 = 0
  case neg =>
   rw [if_neg D4] at H
   have n6:(m1 == 0) = false:=beq_eq_false_iff_ne.mpr D4
   have n7:(m1 != 0) = true:=bne_iff_ne.mpr D4
   have H':=A_ H
   clear H
   go_wp2
   go_meet
   case rel=>exact ⟨_,(true),rf_,H',⟨by first | omega | exact Nat.le_refl _⟩,⟨by (with_reducible repeat (first | apply Kd.R_alloc | apply Kd.R_drewN | apply Kd.R_drew));exact Kd.R_mono b8.out (fun _ hk=>hk.2)⟩,⟨kr_ d2⟩,⟨by (with_reducible repeat (first | apply Kd.R_alloc | apply Kd.R_drewN | apply Kd.R_drew));exact Kd.R_mono e7.out (fun _ hk=>hk.1.2)⟩,⟨by repeat (first | (with_reducible first | exact HB.out | apply below_alloc | apply pw_below_drewN | apply below_drew1) | exact HB.out)⟩⟩
  rw [if_pos D4] at H
  have n6:(m1 == 0) = true:=beq_iff_eq.mpr D4
  have n7:(m1 != 0) = false:=bne_eq_false_iff_eq.mpr D4
  clear D4
  by_cases D5:n4 = 0
  case neg =>
   rw [if_neg D5] at H
   have n8:(n4 == 0) = false:=beq_eq_false_iff_ne.mpr D5
   have n9:(n4 != 0) = true:=bne_iff_ne.mpr D5
   have H':=A_ H
   clear H
   go_wp2
   go_meet
   case rel=>exact ⟨_,(true),rf_,H',⟨by first | omega | exact Nat.le_refl _⟩,⟨by (with_reducible repeat (first | apply Kd.R_alloc | apply Kd.R_drewN | apply Kd.R_drew));exact Kd.R_mono b8.out (fun _ hk=>hk.2)⟩,⟨kr_ d2⟩,⟨by (with_reducible repeat (first | apply Kd.R_alloc | apply Kd.R_drewN | apply Kd.R_drew));exact Kd.R_mono e7.out (fun _ hk=>hk.1.2)⟩,⟨by repeat (first | (with_reducible first | exact HB.out | apply below_alloc | apply pw_below_drewN | apply below_drew1) | exact HB.out)⟩⟩
  rw [if_pos D5] at H
  have n8:(n4 == 0) = true:=beq_iff_eq.mpr D5
  have n9:(n4 != 0) = false:=bne_eq_false_iff_eq.mpr D5
  clear D5
  by_cases r7:(b3.length:Int) = (l2.length:Int)
  case neg =>
   rw [if_neg r7] at H
   have o0:((b3.length:Int) == (l2.length:Int)) = false:=beq_eq_false_iff_ne.mpr r7
   have o1:((b3.length:Int) != (l2.length:Int)) = true:=bne_iff_ne.mpr r7
   have o2:(b3.length == l2.length) = false:=by first | simpa using r7 | (simp at r7 ⊢;omega)
   have H':=A_ H
   clear H
   obtain ⟨Ao39,co39,X9⟩:=Kd.R_slice b8.out
   subst X9
   go_wp2
   go_meet
   case rel=>exact ⟨_,(true),rf_,H',⟨by first | omega | exact Nat.le_refl _⟩,⟨by (with_reducible repeat (first | apply Kd.R_alloc | apply Kd.R_drewN | apply Kd.R_drew));exact Kd.R_mono b8.out (fun _ hk=>hk.2)⟩,⟨kr_ d2⟩,⟨by (with_reducible repeat (first | apply Kd.R_alloc | apply Kd.R_drewN | apply Kd.R_drew));exact Kd.R_mono e7.out (fun _ hk=>hk.1.2)⟩,⟨by repeat (first | (with_reducible first | exact HB.out | apply below_alloc | apply pw_below_drewN | apply below_drew1) | exact HB.out)⟩⟩
  rw [if_pos r7] at H
  have o0:((b3.length:Int) == (l2.length:Int)) = true:=beq_iff_eq.mpr r7
  have o1:((b3.length:Int) != (l2.length:Int)) = false:=bne_eq_false_iff_eq.mpr r7
  have o2:(b3.length == l2.length) = true:=by first | simpa using r7 | (simp at r7 ⊢;omega)
  clear r7
  by_cases r8:(b4.length:Int) = (l2.length:Int)
  case neg =>
   rw [if_neg r8] at H
   have o3:((b4.length:Int) == (l2.length:Int)) = false:=beq_eq_false_iff_ne.mpr r8
   have o4:((b4.length:Int) != (l2.length:Int)) = true:=bne_iff_ne.mpr r8
   have o5:(b4.length == l2.length) = false:=by first | simpa using r8 | (simp at r8 ⊢;omega)
   have H':=A_ H
   clear H
   obtain ⟨Ao37,co37,Y0⟩:=Kd.R_slice b8.out
   subst Y0
   obtain ⟨Ao38,co38,Y1⟩:=Kd.R_slice d2.out
   subst Y1
   go_wp2
   go_meet
   case rel=>exact ⟨_,(true),rf_,H',⟨by first | omega | exact Nat.le_refl _⟩,⟨by (with_reducible repeat (first | apply Kd.R_alloc | apply Kd.R_drewN | apply Kd.R_drew));exact Kd.R_mono b8.out (fun _ hk=>hk.2)⟩,⟨kr_ d2⟩,⟨by (with_reducible repeat (first | apply Kd.R_alloc | apply Kd.R_drewN | apply Kd.R_drew));exact Kd.R_mono e7.out (fun _ hk=>hk.1.2)⟩,⟨by repeat (first | (with_reducible first | exact HB.out | apply below_alloc | apply pw_below_drewN | apply below_drew1) | exact HB.out)⟩⟩
  rw [if_pos r8] at H
  have o3:((b4.length:Int) == (l2.length:Int)) = true:=beq_iff_eq.mpr r8
  have o4:((b4.length:Int) != (l2.length:Int)) = false:=bne_eq_false_iff_eq.mpr r8
  have o5:(b4.length == l2.length) = true:=by first | simpa using r8 | (simp at r8 ⊢;omega)
  clear r8
  by_cases r9:(b5.length:Int) = (l2.length:Int)
  case neg =>
   rw [if_neg r9] at H
   have o6:((b5.length:Int) == (l2.length:Int)) = false:=beq_eq_false_iff_ne.mpr r9
   have o7:((b5.length:Int) != (l2.length:Int)) = true:=bne_iff_ne.mpr r9
   have o8:(b5.length == l2.length) = false:=by first | simpa using r9 | (simp at r9 ⊢;omega)
   have H':=A_ H
   clear H
   obtain ⟨Ao34,co34,Y2⟩:=Kd.R_slice b8.out
   subst Y2
   obtain ⟨Ao35,co35,Y3⟩:=Kd.R_slice d2.out
   subst Y3
   obtain ⟨Ao36,co36,Y4⟩:=Kd.R_slice e7.out
   subst Y4
   go_wp2
   go_meet
   case rel=>exact ⟨_,(true),rf_,H',⟨by first | omega | exact Nat.le_refl _⟩,⟨by (with_reducible repeat (first | apply Kd.R_alloc | apply Kd.R_drewN | apply Kd.R_drew));exact Kd.R_mono b8.out (fun _ hk=>hk.2)⟩,⟨kr_ d2⟩,⟨by (with_reducible repeat (first | apply Kd.R_alloc | apply Kd.R_drewN | apply Kd.R_drew));exact Kd.R_mono e7.out (fun _ hk=>hk.1.2)⟩,⟨by repeat (first | (with_reducible first | exact HB.out | apply below_alloc | apply pw_below_drewN | apply below_drew1) | exact HB.out)⟩⟩
  rw [if_pos r9] at H
  have o6:((b5.length:Int) == (l2.length:Int)) = true:=beq_iff_eq.mpr r9
  have o7:((b5.length:Int) != (l2.length:Int)) = false:=bne_eq_false_iff_eq.mpr r9
  have o8:(b5.length == l2.length) = true:=by first | simpa using r9 | (simp at r9 ⊢;omega)
  clear r9
  replace H:=Option.bind_eq_some_iff.mp H
  obtain ⟨d8,Q1,H⟩:=H
  replace H:(numnahlaw07_SharesWhole.j0 k l1 l2 b3 b4 b5 (!d8)) = some r:=H
  have A29:=A_ Q1
  clear Q1
  have H':=A_ H
  clear H
  obtain ⟨Ao30,co30,Y5⟩:=Kd.R_slice b8.out
  subst Y5
  obtain ⟨Ao31,co31,Y6⟩:=Kd.R_slice d2.out
  subst Y6
  obtain ⟨Ao32,co32,Y7⟩:=Kd.R_slice e7.out
  subst Y7
  go_wp2_with (first | (go_at_call 27;(with_reducible refine (numnahlaw07_fit.calls k _ _ b4 d8 _ ?side1 ?side2 A29.out).mono ?_);(case side1=>repeat (first | exact (Kd.R_reads' d2.out).2.2 | (with_reducible refine Kd.C_alloc ?_ _) | (with_reducible refine Kd.C_drewN ?_ _) | (with_reducible refine Kd.C_drew ?_)));(case side2=>exact (Kd.R_reads' d2.out).2.1);rintro e w33 ⟨rfl,hb⟩;replace b8:=rB b8 hb;replace d7:=A_ (Kd.S_below (ks_ d7) hb);replace d2:=rB d2 hb;replace e5:=rB e5 hb;replace m0:=A_ (Kd.S_below (ks_ m0) hb);replace e7:=rB e7 hb;replace HB:=bB HB hb;(try clear hb)))
  go_meet
  case rel=>exact ⟨_,(!d8),rf_,H',⟨by first | omega | exact Nat.le_refl _⟩,⟨by (with_reducible repeat (first | apply Kd.R_alloc | apply Kd.R_drewN | apply Kd.R_drew));exact Kd.R_mono b8.out (fun _ hk=>hk.2)⟩,⟨kr_ d2⟩,⟨by (with_reducible repeat (first | apply Kd.R_alloc | apply Kd.R_drewN | apply Kd.R_drew));exact Kd.R_mono e7.out (fun _ hk=>hk.1.2)⟩,⟨by repeat (first | (with_reducible first | exact HB.out | apply below_alloc | apply pw_below_drewN | apply below_drew1) | exact HB.out)⟩⟩
 case rest=>as_aux_lemma =>
  clear L2
  try clear c1
  try clear c2
  try clear p2
  try clear c3
  try clear c4
  try clear c5
  try clear D0
  try clear D1
  try clear c8
  try clear D2
  try clear Q2
  try clear D3
  try clear i5
  try clear n5
  try clear D4
  try clear n6
  try clear n7
  try clear D5
  try clear n8
  try clear n9
  try clear r7
  try clear o0
  try clear o1
  try clear o2
  try clear r8
  try clear o3
  try clear o4
  try clear o5
  try clear r9
  try clear o6
  try clear o7
  try clear o8
  try clear Q3
  obtain ⟨kq,r3,rfl,HA,n0,h5,d6,d0,HB⟩:=hcut
  cases kq with
  | zero=>exact absurd HA.out (by simp [numnahlaw07_SharesWhole.j0])
  | succ I6 =>
   have H:=HA.out
   clear HA
   simp only [numnahlaw07_SharesWhole.j0] at H
   by_cases I7:r3 = true
   ·subst I7
    have H1:(some false) = some r:=by rw [if_pos rfl] at H;exact H
    clear H
    have H:=H1
    clear H1
    exact absurd ((Option.some.inj H).trans HRT.out) (by decide)
   replace I7:=Bool.eq_false_iff.mpr I7
   subst I7
   have H1:((numnahlaw07_list.f l1).bind fun n2=>(numnahlaw07_SharesWhole.l0 I6 l1 l2 b3 b4 b5 n2 0)) = some r:=by rw [if_neg (show ¬ (false = true) by decide)] at H;exact H
   clear H
   have H:=H1
   clear H1
   replace H:=Option.bind_eq_some_iff.mp H
   obtain ⟨n2,Q4,H⟩:=H
   replace H:(numnahlaw07_SharesWhole.l0 I6 l1 l2 b3 b4 b5 n2 0) = some r:=H
   have A41:=A_ Q4
   clear Q4
   have H':=A_ H
   clear H
   go_wp2_with (first | ((with_reducible refine gate_callee (f:=35) rfl ?_);refine goesL_ (some 84) rfl rfl Try.func35 (by kernel_rfl) rfl #[.slice A1 l1.length c1] rfl (by (try simp only [List.map_toArray,List.map_cons,List.map_nil]);first | done | rfl | (simp only [List.length_drop,List.length_take];rfl)) ?_;(with_reducible refine (numnahlaw07_list.calls _ _ l1 n2 _ ?side1 ?side2 A41.out).mono ?_);(case side1=>exact cB P3 HB);(case side2=>exact V4.out);rintro e w42 ⟨h7,rfl,m7,hb⟩;refine ⟨_,rfl,?_⟩;have L5:=A_ (Kd.R_lower (Kd.R_new' (Kd.R_new' m7 (Kd.R_lt (rs h5))) (Kd.R_lt (rs d0))) (below_size (bl HB)));replace h5:=A_ (Kd.R_elder' (rs h5) (Kd.R_base m7) hb);replace d6:=rB d6 hb;replace d0:=A_ (Kd.R_elder' (rs d0) (Kd.R_base m7) hb);replace HB:=bB HB hb;(try clear hb);(try clear m7)))
   go_loopg [13] I6 (fun kq v13 w'=>∃ (d3:List Int) (b1:Int),v13 = .int .i64 b1 ∧ Aside0 (numnahlaw07_SharesWhole.l0 kq l1 l2 b3 b4 b5 d3 b1 = some r) ∧ Aside0 (kq ≤ I6) ∧ Aside0 (Kd.R (Kd.int .i64) 3 w' w.heap.size (fun k_=>some k_ ≠ (e6:Value).ownBlock ∧ some k_ ≠ (h7:Value).ownBlock) i4 b3) ∧ Aside0 (Kd.R k23 23 w' w.heap.size (fun _=>True) r0 b4) ∧ Aside0 (Kd.R (Kd.int .i64) 3 w' w.heap.size (fun k_=>some k_ ≠ (i4:Value).ownBlock ∧ some k_ ≠ (h7:Value).ownBlock) e6 b5) ∧ Aside0 (Kd.R (Kd.int .i64) 3 w' w.heap.size (fun k_=>some k_ ≠ (i4:Value).ownBlock ∧ some k_ ≠ (e6:Value).ownBlock) h7 d3) ∧ Aside0 (Below w.heap.size w w'))
   case atStart=>exact ⟨(n2),(0),rf_,H',⟨Nat.le_refl _⟩,⟨kr_ h5⟩,⟨kr_ d6⟩,⟨kr_ d0⟩,⟨by (with_reducible repeat (first | apply Kd.R_alloc | apply Kd.R_drewN | apply Kd.R_drew));exact Kd.R_mono L5.out (fun _ hk=>⟨hk.1.2,hk.2⟩)⟩,⟨by repeat (first | (with_reducible first | exact HB.out | apply below_alloc | apply pw_below_drewN | apply below_drew1) | exact HB.out)⟩⟩
   case round=>as_aux_lemma =>
    clear H'
    try clear c1
    try clear c2
    try clear p2
    try clear c3
    try clear c4
    try clear c5
    try clear D0
    try clear D1
    try clear c8
    try clear D2
    try clear Q2
    try clear D3
    try clear i5
    try clear n5
    try clear D4
    try clear n6
    try clear n7
    try clear D5
    try clear n8
    try clear n9
    try clear r7
    try clear o0
    try clear o1
    try clear o2
    try clear r8
    try clear o3
    try clear o4
    try clear o5
    try clear r9
    try clear o6
    try clear o7
    try clear o8
    try clear Q3
    try clear V5
    try clear I7
    try clear p2
    obtain ⟨d3,b1,rfl,HA,D7,h5,d6,d0,d1,HB⟩:=hrel
    cases gk with
    | zero=>exact absurd HA.out (by simp [numnahlaw07_SharesWhole.l0])
    | succ k2 =>
     have H:=HA.out
     clear HA
     simp only [numnahlaw07_SharesWhole.l0] at H
     by_cases I3:b1 < (l2.length:Int)
     ·rw [if_pos I3] at H
      have s0:decide (b1 < (l2.length:Int)) = true:=decide_eq_true I3
      clear I3
      have L6:=A_ H
      clear H
      go_upto_region 11 with (fail)
      go_cut [102] (fun Y8 wc=>∃ (kq:Nat) (n1:Bool),Y8 = .bool n1 ∧ Aside0 (numnahlaw07_SharesWhole.j2 kq l1 l2 b3 b4 b5 d3 b1 n1 = some r) ∧ Aside0 (kq ≤ k2) ∧ Aside0 (Kd.R (Kd.int .i64) 3 wc w.heap.size (fun k_=>some k_ ≠ (e6:Value).ownBlock ∧ some k_ ≠ (h7:Value).ownBlock) i4 b3) ∧ Aside0 (Kd.R k23 23 wc w.heap.size (fun _=>True) r0 b4) ∧ Aside0 (Kd.R (Kd.int .i64) 3 wc w.heap.size (fun k_=>some k_ ≠ (i4:Value).ownBlock ∧ some k_ ≠ (h7:Value).ownBlock) e6 b5) ∧ Aside0 (Kd.R (Kd.int .i64) 3 wc w.heap.size (fun k_=>some k_ ≠ (i4:Value).ownBlock ∧ some k_ ≠ (e6:Value).ownBlock) h7 d3) ∧ Aside0 (Below w.heap.size w wc))
      case first=>as_aux_lemma =>
       have H:=L6.out
       clear L6
       by_cases J8:0 ≤ b1
       case neg =>
        rw [if_neg J8] at H
        exact absurd H (by simp)
       rw [if_pos J8] at H
       have r1:decide (0 ≤ b1) = true:=decide_eq_true J8
       clear J8
       (first | rw [r1] | (simp only [i64_w,i32_w];rw [r1]) | skip)
       by_cases J9:b1 < (b3.length:Int)
       case neg =>
        rw [if_neg J9] at H
        exact absurd H (by simp)
       rw [if_pos J9] at H
       have C3:decide (b1 < (b3.length:Int)) = true:=decide_eq_true J9
       clear J9
       by_cases I4:(rd b3 b1) < 0
       ·rw [if_pos I4] at H
        have s1:decide ((rd b3 b1) < 0) = true:=decide_eq_true I4
        clear I4
        have H':=A_ H
        clear H
        obtain ⟨Ao48,co48,Y9⟩:=Kd.R_slice h5.out
        subst Y9
        have i6:0 ≤ (b1:Int):=oa_
        have i7:b1 < (b3.length:Int):=oa_
        obtain ⟨E3,E4,i8⟩:=Kd.at_int (Kd.R_reads' h5.out).2.2 b1 i6 i7
        cases E4
        replace i6:=eq_true i6
        replace i7:=eq_true i7
        go_wp2
        go_meet
        case rel=>exact ⟨_,(true),rf_,H',⟨by have:=n0.out;have:=D7.out;first | omega | exact Nat.le_refl _⟩,⟨kr_ h5⟩,⟨kr_ d6⟩,⟨kr_ d0⟩,⟨kr_ d1⟩,⟨by repeat (first | (with_reducible first | exact HB.out | apply below_alloc | apply pw_below_drewN | apply below_drew1) | exact HB.out)⟩⟩
       rw [if_neg I4] at H
       have s1:decide ((rd b3 b1) < 0) = false:=decide_eq_false I4
       clear I4
       have H':=A_ H
       clear H
       obtain ⟨Ao49,co49,Z0⟩:=Kd.R_slice h5.out
       subst Z0
       have i6:0 ≤ (b1:Int):=oa_
       have i7:b1 < (b3.length:Int):=oa_
       obtain ⟨E3,E4,i8⟩:=Kd.at_int (Kd.R_reads' h5.out).2.2 b1 i6 i7
       cases E4
       replace i6:=eq_true i6
       replace i7:=eq_true i7
       have o9:0 ≤ (b1:Int):=oa_
       have p0:b1 < (b3.length:Int):=oa_
       obtain ⟨L7,Q5,m2⟩:=Kd.at_int (Kd.R_reads' h5.out).2.2 b1 o9 p0
       obtain rfl:E3 = L7:=(by injection Q5)
       replace o9:=eq_true o9
       replace p0:=eq_true p0
       go_wp2
       go_meet
       case rel=>exact ⟨_,(decide ((rd b3 b1) > 200)),rf_,H',⟨by have:=n0.out;have:=D7.out;first | omega | exact Nat.le_refl _⟩,⟨kr_ h5⟩,⟨kr_ d6⟩,⟨kr_ d0⟩,⟨kr_ d1⟩,⟨by repeat (first | (with_reducible first | exact HB.out | apply below_alloc | apply pw_below_drewN | apply below_drew1) | exact HB.out)⟩⟩
      case rest=>as_aux_lemma =>
       clear L6
       try clear c1
       try clear p1
       try clear q1
       try clear hx1
       try clear c2
       try clear p2
       try clear c3
       try clear c4
       try clear c5
       try clear D0
       try clear D1
       try clear c8
       try clear D2
       try clear p11
       try clear q11
       try clear hx11
       try clear Q2
       try clear D3
       try clear i5
       try clear n5
       try clear D4
       try clear n6
       try clear n7
       try clear D5
       try clear n8
       try clear n9
       try clear r7
       try clear o0
       try clear o1
       try clear o2
       try clear r8
       try clear o3
       try clear o4
       try clear o5
       try clear r9
       try clear o6
       try clear o7
       try clear o8
       try clear Q3
       try clear V5
       try clear I7
       try clear I3
       try clear s0
       try clear Z1
       try clear J8
       try clear r1
       try clear J9
       try clear C3
       try clear I4
       try clear s1
       try clear i8
       try clear m2
       try clear i6
       try clear o9
       try clear p2
       try clear i7
       try clear p0
       obtain ⟨kq,n1,rfl,HA,I8,h5,d6,d0,d1,HB⟩:=hcut
       cases kq with
       | zero=>exact absurd HA.out (by simp [numnahlaw07_SharesWhole.j2])
       | succ L8 =>
        have H:=HA.out
        clear HA
        simp only [numnahlaw07_SharesWhole.j2] at H
        by_cases L9:n1 = true
        ·subst L9
         have H1:(some false) = some r:=by rw [if_pos rfl] at H;exact H
         clear H
         have H:=H1
         clear H1
         exact absurd ((Option.some.inj H).trans HRT.out) (by decide)
        replace L9:=Bool.eq_false_iff.mpr L9
        subst L9
        have H1:(numnahlaw07_SharesWhole.l1 L8 l1 l2 b3 b4 b5 d3 b1 0) = some r:=by rw [if_neg (show ¬ (false = true) by decide)] at H;exact H
        clear H
        have H:=H1
        clear H1
        have H':=A_ H
        clear H
        go_wp2
        go_loopg [14] L8 (fun kq v14 w'=>∃ (e8:List Int) (b7:Int),v14 = .int .i64 b7 ∧ Aside0 (numnahlaw07_SharesWhole.l1 kq l1 l2 b3 b4 b5 e8 b1 b7 = some r) ∧ Aside0 (kq ≤ L8) ∧ Aside0 (Kd.R (Kd.int .i64) 3 w' w.heap.size (fun k_=>some k_ ≠ (e6:Value).ownBlock ∧ some k_ ≠ (h7:Value).ownBlock) i4 b3) ∧ Aside0 (Kd.R k23 23 w' w.heap.size (fun _=>True) r0 b4) ∧ Aside0 (Kd.R (Kd.int .i64) 3 w' w.heap.size (fun k_=>some k_ ≠ (i4:Value).ownBlock ∧ some k_ ≠ (h7:Value).ownBlock) e6 b5) ∧ Aside0 (Kd.R (Kd.int .i64) 3 w' w.heap.size (fun k_=>some k_ ≠ (i4:Value).ownBlock ∧ some k_ ≠ (e6:Value).ownBlock) h7 e8) ∧ Aside0 (Below w.heap.size w w'))
        case atStart=>exact ⟨(d3),(0),rf_,H',⟨Nat.le_refl _⟩,⟨kr_ h5⟩,⟨kr_ d6⟩,⟨kr_ d0⟩,⟨kr_ d1⟩,⟨by repeat (first | (with_reducible first | exact HB.out | apply below_alloc | apply pw_below_drewN | apply below_drew1) | exact HB.out)⟩⟩
        case round=>as_aux_lemma =>
         clear H'
         try clear c1
         try clear p1
         try clear q1
         try clear hx1
         try clear c2
         try clear p2
         try clear c3
         try clear c4
         try clear c5
         try clear D0
         try clear D1
         try clear c8
         try clear D2
         try clear p11
         try clear q11
         try clear hx11
         try clear Q2
         try clear D3
         try clear i5
         try clear n5
         try clear D4
         try clear n6
         try clear n7
         try clear D5
         try clear n8
         try clear n9
         try clear r7
         try clear o0
         try clear o1
         try clear o2
         try clear r8
         try clear o3
         try clear o4
         try clear o5
         try clear r9
         try clear o6
         try clear o7
         try clear o8
         try clear Q3
         try clear V5
         try clear I7
         try clear I3
         try clear s0
         try clear Z1
         try clear J8
         try clear r1
         try clear J9
         try clear C3
         try clear I4
         try clear s1
         try clear L9
         try clear i8
         try clear m2
         try clear p1
         try clear p11
         try clear i6
         try clear o9
         try clear p2
         try clear q1
         try clear q11
         try clear i7
         try clear p0
         obtain ⟨e8,b7,rfl,HA,E5,h5,d6,d0,d1,HB⟩:=hrel
         cases gk with
         | zero=>exact absurd HA.out (by simp [numnahlaw07_SharesWhole.l1])
         | succ k4 =>
          have H:=HA.out
          clear HA
          simp only [numnahlaw07_SharesWhole.l1] at H
          by_cases O2:0 ≤ b1
          case neg =>
           rw [if_neg O2] at H
           exact absurd H (by simp)
          rw [if_pos O2] at H
          have K0:decide (0 ≤ b1) = true:=decide_eq_true O2
          clear O2
          by_cases O3:b1 < (l2.length:Int)
          case neg =>
           rw [if_neg O3] at H
           exact absurd H (by simp)
          rw [if_pos O3] at H
          have K1:decide (b1 < (l2.length:Int)) = true:=decide_eq_true O3
          clear O3
          by_cases K2:b7 < (((rd_T45 l2 b1).f1).length:Int)
          case neg =>
           rw [if_neg K2] at H
           have E6:decide (b7 < (((rd_T45 l2 b1).f1).length:Int)) = false:=decide_eq_false K2
           clear K2
           have H':=A_ H
           clear H
           have m3:0 ≤ (b1:Int):=oa_
           have m4:b1 < (l2.length:Int):=oa_
           obtain ⟨i2,I9,J0,E7,e9,h0,i9,j5⟩:=at_T45 C9.out b1 m3 m4
           cases E7
           replace e9:=cT HB e9
           replace h0:=cT HB h0
           have E8:=A_ j5
           have E9:=A_ i9
           clear j5 i9
           replace m3:=eq_true m3
           replace m4:=eq_true m4
           go_wp2
           go_roundg k4
           case measure=>have:=n0.out;have:=D7.out;have:=I8.out;have:=E5.out;omega
           case rel=>exact ⟨(e8),(wrap64 (b1 + 1)),rf_,H',⟨by have:=n0.out;have:=D7.out;have:=I8.out;have:=E5.out;omega⟩,⟨kr_ h5⟩,⟨kr_ d6⟩,⟨kr_ d0⟩,⟨kr_ d1⟩,⟨by repeat (first | (with_reducible first | exact HB.out | apply below_alloc | apply pw_below_drewN | apply below_drew1) | exact HB.out)⟩⟩
          rw [if_pos K2] at H
          have E6:decide (b7 < (((rd_T45 l2 b1).f1).length:Int)) = true:=decide_eq_true K2
          clear K2
          by_cases O4:0 ≤ b7
          case neg =>
           rw [if_neg O4] at H
           exact absurd H (by simp)
          rw [if_pos O4] at H
          have K3:decide (0 ≤ b7) = true:=decide_eq_true O4
          clear O4
          by_cases O5:0 ≤ (rd ((rd_T45 l2 b1).f1) b7)
          case neg =>
           rw [if_neg O5] at H
           exact absurd H (by simp)
          rw [if_pos O5] at H
          have K4:decide (0 ≤ (rd ((rd_T45 l2 b1).f1) b7)) = true:=decide_eq_true O5
          clear O5
          by_cases O6:(rd ((rd_T45 l2 b1).f1) b7) < (e8.length:Int)
          case neg =>
           rw [if_neg O6] at H
           exact absurd H (by simp)
          rw [if_pos O6] at H
          have K5:decide ((rd ((rd_T45 l2 b1).f1) b7) < (e8.length:Int)) = true:=decide_eq_true O6
          clear O6
          by_cases O7:b1 < (b3.length:Int)
          case neg =>
           rw [if_neg O7] at H
           exact absurd H (by simp)
          rw [if_pos O7] at H
          have K6:decide (b1 < (b3.length:Int)) = true:=decide_eq_true O7
          clear O7
          obtain ⟨K7,p3⟩:∃ y_:List Int,y_ = (e8.set ((rd ((rd_T45 l2 b1).f1) b7):Int).toNat (wrap64 ((rd e8 (rd ((rd_T45 l2 b1).f1) b7)) - (rd b3 b1)))):=⟨_,rfl⟩
          replace H:(numnahlaw07_SharesWhole.l1 k4 l1 l2 b3 b4 b5 K7 b1 (wrap64 (b7 + 1))) = some r:=by first | (rw [p3];with_reducible exact H) | (have Z2:=(Option.bind_some _ _).symm.trans H;rw [p3];with_reducible exact Z2) | (have Z2:=(Option.bind_some _ _).symm.trans H;with_reducible exact Z2) | with_reducible exact H | (rw [p3];exact H) | exact H
          have M0:=A_ p3
          clear p3
          have H':=A_ H
          clear H
          have m3:0 ≤ (b1:Int):=oa_
          have m4:b1 < (l2.length:Int):=oa_
          obtain ⟨i2,I9,J0,E7,e9,h0,i9,j5⟩:=at_T45 C9.out b1 m3 m4
          cases E7
          replace e9:=cT HB e9
          replace h0:=cT HB h0
          have E8:=A_ j5
          have E9:=A_ i9
          clear j5 i9
          replace m3:=eq_true m3
          replace m4:=eq_true m4
          try go_wp2
          replace h5:=A_ (Kd.R_drew h5.out)
          replace d6:=A_ (Kd.R_drew d6.out)
          replace d0:=A_ (Kd.R_drew d0.out)
          replace d1:=A_ (Kd.R_drew d1.out)
          replace HB:=A_ (below_drew1 HB.out)
          have s2:0 ≤ (b1:Int):=oa_
          have s3:b1 < (l2.length:Int):=oa_
          obtain ⟨M1,V6,C4,Q6,h8,h2,s4,s5⟩:=at_T45 C9.out b1 s2 s3
          have F0:=h2
          have F1:=h8
          obtain rfl:i2 = M1:=(by injection Q6)
          replace h8:=cT HB h8
          replace h2:=cT HB h2
          have s6:=A_ s5
          have Q7:=A_ s4
          clear s5 s4
          replace s2:=eq_true s2
          replace s3:=eq_true s3
          have s7:0 ≤ (b7:Int):=oa_
          have s8:b7 < (((rd_T45 l2 b1).f1).length:Int):=oa_
          obtain ⟨r4,Q8,h9⟩:=Kd.at_int s6.out b7 s7 s8
          have F2:=h9
          cases Q8
          replace h9:=cT HB h9
          replace s7:=eq_true s7
          replace s8:=eq_true s8
          have s9:0 ≤ (b1:Int):=oa_
          have t0:b1 < (l2.length:Int):=oa_
          obtain ⟨M2,V7,V8,Q9,i0,h3,t1,t2⟩:=at_T45 C9.out b1 s9 t0
          have F3:=h3
          have F4:=i0
          obtain rfl:i2 = M2:=(by injection Q9)
          replace i0:=cT HB i0
          replace h3:=cT HB h3
          have t3:=A_ t2
          have R0:=A_ t1
          clear t2 t1
          replace s9:=eq_true s9
          replace t0:=eq_true t0
          have ea_:=Option.some.inj (h2.symm.trans h3)
          injection ea_ with ea_ en_ ec_
          subst ea_
          subst ec_
          clear en_
          have t4:0 ≤ (b7:Int):=oa_
          have t5:b7 < (((rd_T45 l2 b1).f1).length:Int):=oa_
          obtain ⟨Z3,R1,i1⟩:=Kd.at_int t3.out b7 t4 t5
          have F5:=i1
          cases R1
          replace i1:=cT HB i1
          replace t4:=eq_true t4
          replace t5:=eq_true t5
          obtain ⟨Ao60,co60,R2⟩:=Kd.R_slice d1.out
          (first | subst R2 | (injection R2 with r5 D9 r6;have E0:=r5.symm;have E1:=r6.symm;clear r5 D9 r6;subst E0;subst E1))
          have t6:0 ≤ ((rd ((rd_T45 l2 b1).f1) b7):Int):=oa_
          have t7:(rd ((rd_T45 l2 b1).f1) b7) < (e8.length:Int):=oa_
          obtain ⟨Z4,R3,j7⟩:=Kd.at_int (Kd.R_reads' d1.out).2.2 (rd ((rd_T45 l2 b1).f1) b7) t6 t7
          cases R3
          replace t6:=eq_true t6
          replace t7:=eq_true t7
          obtain ⟨Ao61,co61,R4⟩:=Kd.R_slice h5.out
          (first | subst R4 | (injection R4 with r5 D9 r6;have E0:=r5.symm;have E1:=r6.symm;clear r5 D9 r6;subst E0;subst E1))
          have t8:0 ≤ (b1:Int):=oa_
          have t9:b1 < (b3.length:Int):=oa_
          obtain ⟨M3,R5,m5⟩:=Kd.at_int (Kd.R_reads' h5.out).2.2 b1 t8 t9
          cases R5
          replace t8:=eq_true t8
          replace t9:=eq_true t9
          have M4:0 ≤ ((rd ((rd_T45 l2 b1).f1) b7):Int):=oa_
          have M5:((rd ((rd_T45 l2 b1).f1) b7):Int) < ((e8.length:Int):Int):=oa_
          obtain ⟨D6,co58,R6,R7,Z5,cl58,R8⟩:=Kd.R_form d1.out (by omega)
          (first | cases R6 | (injection R6 with ea_ en_ ec_;(first | subst ea_ | (injection ea_ with ea_;subst ea_));subst ec_;clear en_))
          have Z6:=A_ R7
          have R9:=A_ R8
          clear R7 Z5 R8
          (first | simp only [add_plain] at j7 | skip)
          obtain ⟨B0,M6⟩:=Kd.R_celln 0 d1.out ((rd ((rd_T45 l2 b1).f1) b7):Int) M4 M5
          replace M4:=eq_true M4
          replace M5:=eq_true M5
          have M7:=Kd.R_putn d1.out ((rd ((rd_T45 l2 b1).f1) b7):Int) (wrap64 ((rd e8 (rd ((rd_T45 l2 b1).f1) b7)) - (rd b3 b1)))
          rw [← M0.out] at M7
          have S0:=A_ M7
          clear M7
          refine start_ (n:=27) (S:=fun w'=>w'.cell? (i2.add ((b1).toNat * 2)) = some (.int .i64 ((rd_T45 l2 b1).f0)) ∧ w'.cell? ⟨(i2.add ((b1).toNat * 2)).block,(i2.add ((b1).toNat * 2)).off + 1,none⟩ = some (.slice (some r4) ((rd_T45 l2 b1).f1).length C4) ∧ w'.cell? (r4.add (b7).toNat) = some (.int .i64 (rd ((rd_T45 l2 b1).f1) b7)) ∧ w'.cell? (i2.add ((b1).toNat * 2)) = some (.int .i64 ((rd_T45 l2 b1).f0)) ∧ w'.cell? ⟨(i2.add ((b1).toNat * 2)).block,(i2.add ((b1).toNat * 2)).off + 1,none⟩ = some (.slice (some r4) ((rd_T45 l2 b1).f1).length C4) ∧ w'.cell? (r4.add (b7).toNat) = some (.int .i64 (rd ((rd_T45 l2 b1).f1) b7)) ∧ w'.cell? ⟨D6,((rd ((rd_T45 l2 b1).f1) b7)).toNat,none⟩ = some (.int .i64 (rd e8 (rd ((rd_T45 l2 b1).f1) b7))) ∧ w'.cell? (M3.add (b1).toNat) = some (.int .i64 (rd b3 b1))) (ds:=[26]) (ba 27 0) (by kernel_rfl) rfl rfl ⟨(cT HB F1),(cT HB F0),(cT HB F2),(cT HB F4),(cT HB F3),(cT HB F5),j7,m5⟩ (fun hHeld=>?_);refine with_tabW numnahlaw07_SharesWhole.tab16 numnahlaw07_SharesWhole.bits16 (fun HT_ HW_=>?_)
          generalize wr.drew = w59 at h5 d6 d0 d1 HB R9 S0 s6 t3 M6 h8 h2 h9 i0 h3 i1 j7 m5 B0 hHeld ⊢
          refine pq 0 113 1 HT_ ?_
          refine pq 1 114 3 HT_ ?_
          refine pq 2 115 7 HT_ ?_
          refine pq 3 116 15 HT_ ?_
          refine pq 4 117 31 HT_ ?_
          refine pq 6 119 95 HT_ ?_
          refine pq 9 122 607 HT_ ?_
          refine pq 10 123 1631 HT_ ?_
          refine pq 11 124 3679 HT_ ?_
          refine pq 12 125 7775 HT_ ?_
          refine pq 13 126 15967 HT_ ?_
          refine pq 15 128 48735 HT_ ?_
          refine pq 20 133 1097311 HT_ ?_
          refine pq 21 134 3194463 HT_ ?_
          refine pq 22 135 7388767 HT_ ?_
          refine tq 5 118 7388799 HT_ HW_ hHeld ?_
          refine pq 7 120 7388927 HT_ ?_
          refine tq 8 121 7389183 HT_ HW_ hHeld ?_
          refine tq 14 127 7405567 HT_ HW_ hHeld ?_
          refine pq 16 129 7471103 HT_ ?_
          refine tq 17 130 7602175 HT_ HW_ hHeld ?_
          refine pq 18 131 7864319 HT_ ?_
          refine tq 19 132 8388607 HT_ HW_ hHeld ?_
          refine tq 23 136 16777215 HT_ HW_ hHeld ?_
          refine pq 24 137 33554431 HT_ ?_
          refine pq 25 138 67108863 HT_ ?_
          refine last_ (i:=26) (N:=none) (ba 27 134217727) rfl rfl (one_of HT_.out (by kernel_rfl)) (by decide) (fun K hK=>?_)
          refine skip_ (w1:=?_) (by rfl) rfl ?_ ?_
          rotate_left
          ·go_simp
           rfl
          refine hK.out _ _ ?_
          clear hK K
          refine done_ (done_of HT_.out (by kernel_rfl)) ?_
          try go_wp2
          go_roundg k4
          case measure=>have:=n0.out;have:=D7.out;have:=I8.out;have:=E5.out;omega
          case rel=>exact ⟨(K7),(wrap64 (b7 + 1)),rf_,H',⟨by have:=n0.out;have:=D7.out;have:=I8.out;have:=E5.out;omega⟩,⟨by (with_reducible repeat (first | apply Kd.R_alloc | apply Kd.R_drewN | apply Kd.R_drew));exact Kd.R_mono (Kd.R_far (p:=⟨D6,((rd ((rd_T45 l2 b1).f1) b7):Int).toNat,none⟩) (Kd.R_mono h5.out (fun k_ hk=>(⟨hk,fun e_=>hk.2 (by rw [e_];rfl)⟩:_ ∧ k_ ≠ D6))) (fun _ hk=>hk.2) (.int .i64 (wrap64 ((rd e8 (rd ((rd_T45 l2 b1).f1) b7)) - (rd b3 b1))))) (fun _ hk=>⟨hk.1.1,hk.1.2⟩)⟩,⟨by (with_reducible repeat (first | apply Kd.R_alloc | apply Kd.R_drewN | apply Kd.R_drew));exact Kd.R_mono (Kd.R_far (p:=⟨D6,((rd ((rd_T45 l2 b1).f1) b7):Int).toNat,none⟩) (Kd.R_types d6.out R9.out (by decide)) (fun _ hk=>hk.2) (.int .i64 (wrap64 ((rd e8 (rd ((rd_T45 l2 b1).f1) b7)) - (rd b3 b1))))) (fun _ hk=>trivial)⟩,⟨by (with_reducible repeat (first | apply Kd.R_alloc | apply Kd.R_drewN | apply Kd.R_drew));exact Kd.R_mono (Kd.R_far (p:=⟨D6,((rd ((rd_T45 l2 b1).f1) b7):Int).toNat,none⟩) (Kd.R_mono d0.out (fun k_ hk=>(⟨hk,fun e_=>hk.2 (by rw [e_];rfl)⟩:_ ∧ k_ ≠ D6))) (fun _ hk=>hk.2) (.int .i64 (wrap64 ((rd e8 (rd ((rd_T45 l2 b1).f1) b7)) - (rd b3 b1))))) (fun _ hk=>⟨hk.1.1,hk.1.2⟩)⟩,⟨kr_ S0⟩,⟨by repeat (first | (with_reducible first | exact HB.out | apply below_alloc | apply pw_below_drewN | apply below_drew1 | refine below_set ?_ Z6.out) | exact HB.out)⟩⟩
     rw [if_neg I3] at H
     have s0:decide (b1 < (l2.length:Int)) = false:=decide_eq_false I3
     clear I3
     have H':=A_ H
     clear H
     go_wp2
     go_loopg [15,16] k2 (fun kq v15 v16 w'=>∃ (e4:Int) (b0:Int),v15 = .int .i64 e4 ∧ v16 = .int .i64 b0 ∧ Aside0 (numnahlaw07_SharesWhole.l2 kq l1 l2 b4 b5 d3 e4 b0 = some r) ∧ Aside0 (kq ≤ k2) ∧ Aside0 (Kd.R k23 23 w' w.heap.size (fun _=>True) r0 b4) ∧ Aside0 (Kd.R (Kd.int .i64) 3 w' w.heap.size (fun k_=>some k_ ≠ (h7:Value).ownBlock) e6 b5) ∧ Aside0 (Kd.R (Kd.int .i64) 3 w' w.heap.size (fun k_=>some k_ ≠ (e6:Value).ownBlock) h7 d3) ∧ Aside0 (Below w.heap.size w w'))
     case atStart=>exact ⟨(0),(0),rf_,rf_,H',⟨Nat.le_refl _⟩,⟨kr_ d6⟩,⟨by (with_reducible repeat (first | apply Kd.R_alloc | apply Kd.R_drewN | apply Kd.R_drew));exact Kd.R_mono d0.out (fun _ hk=>hk.2)⟩,⟨by (with_reducible repeat (first | apply Kd.R_alloc | apply Kd.R_drewN | apply Kd.R_drew));exact Kd.R_mono d1.out (fun _ hk=>hk.2)⟩,⟨by repeat (first | (with_reducible first | exact HB.out | apply below_alloc | apply pw_below_drewN | apply below_drew1) | exact HB.out)⟩⟩
     case round=>as_aux_lemma =>
      clear H'
      try clear c1
      try clear p1
      try clear q1
      try clear hx1
      try clear c2
      try clear p2
      try clear c3
      try clear c4
      try clear c5
      try clear D0
      try clear D1
      try clear p5
      try clear q5
      try clear hx5
      try clear hf5
      try clear p6
      try clear c8
      try clear D2
      try clear c11
      try clear p11
      try clear q11
      try clear hx11
      try clear Q2
      try clear D3
      try clear i5
      try clear n5
      try clear D4
      try clear n6
      try clear n7
      try clear D5
      try clear n8
      try clear n9
      try clear r7
      try clear o0
      try clear o1
      try clear o2
      try clear r8
      try clear o3
      try clear o4
      try clear o5
      try clear r9
      try clear o6
      try clear o7
      try clear o8
      try clear Q3
      try clear V5
      try clear I7
      try clear I3
      try clear s0
      try clear Z1
      try clear J8
      try clear r1
      try clear J9
      try clear C3
      try clear I4
      try clear s1
      try clear L9
      try clear O2
      try clear K0
      try clear O3
      try clear K1
      try clear K2
      try clear E6
      try clear O4
      try clear K3
      try clear O5
      try clear K4
      try clear O6
      try clear K5
      try clear O7
      try clear K6
      try clear M4
      try clear M5
      try clear hx58
      try clear hf58
      try clear i8
      try clear m2
      try clear e9
      try clear h0
      try clear h8
      try clear h2
      try clear h9
      try clear i0
      try clear h3
      try clear i1
      try clear j7
      try clear m5
      try clear B0
      try clear p1
      try clear p11
      try clear i6
      try clear o9
      try clear m3
      try clear s2
      try clear s7
      try clear s9
      try clear t4
      try clear t6
      try clear t8
      try clear p2
      try clear M4
      try clear q1
      try clear q11
      try clear i7
      try clear p0
      try clear m4
      try clear s3
      try clear s8
      try clear t0
      try clear t5
      try clear t7
      try clear t9
      try clear M5
      obtain ⟨e4,b0,rfl,rfl,HA,O8,d6,d0,d1,HB⟩:=hrel
      cases gk with
      | zero=>exact absurd HA.out (by simp [numnahlaw07_SharesWhole.l2])
      | succ k3 =>
       have H:=HA.out
       clear HA
       simp only [numnahlaw07_SharesWhole.l2] at H
       by_cases M8:b0 < (l2.length:Int)
       case neg =>
        rw [if_neg M8] at H
        have K8:decide (b0 < (l2.length:Int)) = false:=decide_eq_false M8
        clear M8
        by_cases V9:0 < (l1.length:Int)
        case neg =>
         rw [if_neg V9] at H
         exact absurd H (by simp)
        rw [if_pos V9] at H
        have c98b0:decide (0 < (l1.length:Int)) = true:=decide_eq_true V9
        have c98b1:decide (0 < l1.length) = true:=decide_eq_true (by omega)
        clear V9
        by_cases M9:e4 = (rd l1 0)
        case neg =>
         rw [if_neg M9] at H
         have S1:(e4 == (rd l1 0)) = false:=beq_eq_false_iff_ne.mpr M9
         have S2:(e4 != (rd l1 0)) = true:=bne_iff_ne.mpr M9
         exact absurd ((Option.some.inj H).trans HRT.out) (by decide)
        rw [if_pos M9] at H
        have S1:(e4 == (rd l1 0)) = true:=beq_iff_eq.mpr M9
        have S2:(e4 != (rd l1 0)) = false:=bne_eq_false_iff_eq.mpr M9
        clear M9
        replace H:=Option.bind_eq_some_iff.mp H
        obtain ⟨C2,K9,H⟩:=H
        replace H:(some C2) = some r:=H
        have I5:=A_ K9
        clear K9
        obtain rfl:=Option.some.inj H
        have F6:0 ≤ (0:Int):=(by omega)
        have F7:0 < (l1.length:Int):=oa_
        obtain ⟨Z7,S3,m6⟩:=Kd.at_int P3.out 0 F6 F7
        cases S3
        have Z8:(0 < l1.length) = True:=eq_true (by omega)
        (try rw [show ((0:Int)).toNat = 0 from rfl] at m6)
        (try rw [Addr.add_zero'] at m6)
        replace m6:=cT HB m6
        replace F6:=eq_true F6
        replace F7:=eq_true F7
        go_wp2_with (first | (go_at_call 22;(with_reducible refine (numnahlaw07_awake.calls k3  C2 _ I5.out).mono ?_);rintro e w101 ⟨rfl,hb⟩;replace d6:=rB d6 hb;replace d0:=rB d0 hb;replace d1:=rB d1 hb;replace HB:=bB HB hb;(try clear hb)))
        go_ret
        exact ⟨by first | rfl | (simp [errW_none,errW_some] <;> rfl) | (simp [*,errW_none,errW_some] <;> rfl),HUP.out _ (bl HB)⟩
       rw [if_pos M8] at H
       have K8:decide (b0 < (l2.length:Int)) = true:=decide_eq_true M8
       clear M8
       have H':=A_ H
       clear H
       go_wp2
       go_loopg [17,18] k3 (fun kq v17 v18 w'=>∃ (x0:Bool) (b9:Int),v17 = .bool x0 ∧ v18 = .int .i64 b9 ∧ Aside0 (numnahlaw07_SharesWhole.l3 kq l1 l2 b4 b5 d3 e4 b0 x0 b9 = some r) ∧ Aside0 (kq ≤ k3) ∧ Aside0 (Kd.R k23 23 w' w.heap.size (fun _=>True) r0 b4) ∧ Aside0 (Kd.R (Kd.int .i64) 3 w' w.heap.size (fun k_=>some k_ ≠ (h7:Value).ownBlock) e6 b5) ∧ Aside0 (Kd.R (Kd.int .i64) 3 w' w.heap.size (fun k_=>some k_ ≠ (e6:Value).ownBlock) h7 d3) ∧ Aside0 (Below w.heap.size w w'))
       case atStart=>exact ⟨(false),(0),rf_,rf_,H',⟨Nat.le_refl _⟩,⟨kr_ d6⟩,⟨kr_ d0⟩,⟨kr_ d1⟩,⟨by repeat (first | (with_reducible first | exact HB.out | apply below_alloc | apply pw_below_drewN | apply below_drew1) | exact HB.out)⟩⟩
       case round=>as_aux_lemma =>
        clear H'
        try clear c1
        try clear p1
        try clear q1
        try clear hx1
        try clear c2
        try clear p2
        try clear c3
        try clear c4
        try clear c5
        try clear D0
        try clear D1
        try clear p5
        try clear q5
        try clear hx5
        try clear hf5
        try clear c6
        try clear p6
        try clear c8
        try clear D2
        try clear c11
        try clear p11
        try clear q11
        try clear hx11
        try clear Q2
        try clear D3
        try clear i5
        try clear n5
        try clear D4
        try clear n6
        try clear n7
        try clear D5
        try clear n8
        try clear n9
        try clear r7
        try clear o0
        try clear o1
        try clear o2
        try clear r8
        try clear o3
        try clear o4
        try clear o5
        try clear r9
        try clear o6
        try clear o7
        try clear o8
        try clear Q3
        try clear V5
        try clear I7
        try clear I3
        try clear s0
        try clear Z1
        try clear J8
        try clear r1
        try clear J9
        try clear C3
        try clear I4
        try clear s1
        try clear L9
        try clear O2
        try clear K0
        try clear O3
        try clear K1
        try clear K2
        try clear E6
        try clear O4
        try clear K3
        try clear O5
        try clear K4
        try clear O6
        try clear K5
        try clear O7
        try clear K6
        try clear M4
        try clear M5
        try clear hx58
        try clear hf58
        try clear M8
        try clear K8
        try clear i8
        try clear m2
        try clear e9
        try clear h0
        try clear h8
        try clear h2
        try clear h9
        try clear i0
        try clear h3
        try clear i1
        try clear j7
        try clear m5
        try clear B0
        try clear p1
        try clear p11
        try clear i6
        try clear o9
        try clear m3
        try clear s2
        try clear s7
        try clear s9
        try clear t4
        try clear t6
        try clear t8
        try clear p2
        try clear p5
        try clear M4
        try clear p6
        try clear q1
        try clear q11
        try clear i7
        try clear p0
        try clear m4
        try clear s3
        try clear s8
        try clear t0
        try clear t5
        try clear t7
        try clear t9
        try clear q5
        try clear M5
        obtain ⟨x0,b9,rfl,rfl,HA,E5,d6,d0,d1,HB⟩:=hrel
        cases gk with
        | zero=>exact absurd HA.out (by simp [numnahlaw07_SharesWhole.l3])
        | succ k4 =>
         have H:=HA.out
         clear HA
         simp only [numnahlaw07_SharesWhole.l3] at H
         by_cases W0:0 ≤ b0
         case neg =>
          rw [if_neg W0] at H
          exact absurd H (by simp)
         rw [if_pos W0] at H
         have c64b0:decide (0 ≤ b0) = true:=decide_eq_true W0
         clear W0
         by_cases W1:b0 < (l2.length:Int)
         case neg =>
          rw [if_neg W1] at H
          exact absurd H (by simp)
         rw [if_pos W1] at H
         have c65b0:decide (b0 < (l2.length:Int)) = true:=decide_eq_true W1
         clear W1
         by_cases O9:b9 < (((rd_T45 l2 b0).f1).length:Int)
         ·rw [if_pos O9] at H
          have S4:decide (b9 < (((rd_T45 l2 b0).f1).length:Int)) = true:=decide_eq_true O9
          clear O9
          by_cases W2:0 ≤ b9
          case neg =>
           rw [if_neg W2] at H
           exact absurd H (by simp)
          rw [if_pos W2] at H
          have c67b0:decide (0 ≤ b9) = true:=decide_eq_true W2
          clear W2
          by_cases W3:0 ≤ (rd ((rd_T45 l2 b0).f1) b9)
          case neg =>
           rw [if_neg W3] at H
           exact absurd H (by simp)
          rw [if_pos W3] at H
          have c68b0:decide (0 ≤ (rd ((rd_T45 l2 b0).f1) b9)) = true:=decide_eq_true W3
          clear W3
          by_cases W4:(rd ((rd_T45 l2 b0).f1) b9) < (d3.length:Int)
          case neg =>
           rw [if_neg W4] at H
           exact absurd H (by simp)
          rw [if_pos W4] at H
          have c69b0:decide ((rd ((rd_T45 l2 b0).f1) b9) < (d3.length:Int)) = true:=decide_eq_true W4
          clear W4
          by_cases P0:(rd d3 (rd ((rd_T45 l2 b0).f1) b9)) < 0
          ·rw [if_pos P0] at H
           have S5:decide ((rd d3 (rd ((rd_T45 l2 b0).f1) b9)) < 0) = true:=decide_eq_true P0
           clear P0
           exact absurd ((Option.some.inj H).trans HRT.out) (by decide)
          rw [if_neg P0] at H
          have S5:decide ((rd d3 (rd ((rd_T45 l2 b0).f1) b9)) < 0) = false:=decide_eq_false P0
          clear P0
          by_cases W5:x0 = true
          ·subst W5
           have H1:(numnahlaw07_SharesWhole.l3 k4 l1 l2 b4 b5 d3 e4 b0 true (wrap64 (b9 + 1))) = some r:=by rw [if_pos rfl] at H;exact H
           clear H
           have H:=H1
           clear H1
           have H':=A_ H
           clear H
           have j8:0 ≤ (b0:Int):=oa_
           have j9:b0 < (l2.length:Int):=oa_
           obtain ⟨p4,C5,C6,x1,d9,d5,e0,e3⟩:=at_T45 C9.out b0 j8 j9
           cases x1
           replace d9:=cT HB d9
           replace d5:=cT HB d5
           have x2:=A_ e3
           have x6:=A_ e0
           clear e3 e0
           replace j8:=eq_true j8
           replace j9:=eq_true j9
           have p7:0 ≤ (b0:Int):=oa_
           have p8:b0 < (l2.length:Int):=oa_
           obtain ⟨C0,J1,J2,F8,l5,h4,l6,l7⟩:=at_T45 C9.out b0 p7 p8
           obtain rfl:p4 = C0:=(by injection F8)
           replace l5:=cT HB l5
           replace h4:=cT HB h4
           have p9:=A_ l7
           have F9:=A_ l6
           clear l7 l6
           replace p7:=eq_true p7
           replace p8:=eq_true p8
           have ea_:=Option.some.inj (d5.symm.trans h4)
           injection ea_ with ea_ en_ ec_
           subst ea_
           subst ec_
           clear en_
           have q0:0 ≤ (b9:Int):=oa_
           have q2:b9 < (((rd_T45 l2 b0).f1).length:Int):=oa_
           obtain ⟨N0,G0,l8⟩:=Kd.at_int p9.out b9 q0 q2
           cases G0
           replace l8:=cT HB l8
           replace q0:=eq_true q0
           replace q2:=eq_true q2
           obtain ⟨Ao73,co73,Z9⟩:=Kd.R_slice d1.out
           subst Z9
           have q3:0 ≤ ((rd ((rd_T45 l2 b0).f1) b9):Int):=oa_
           have q4:(rd ((rd_T45 l2 b0).f1) b9) < (d3.length:Int):=oa_
           obtain ⟨G1,G2,G3⟩:=Kd.at_int (Kd.R_reads' d1.out).2.2 (rd ((rd_T45 l2 b0).f1) b9) q3 q4
           cases G2
           replace q3:=eq_true q3
           replace q4:=eq_true q4
           go_wp2
           go_roundg k4
           case measure=>have:=n0.out;have:=D7.out;have:=O8.out;have:=E5.out;omega
           case rel=>exact ⟨(true),(wrap64 (b9 + 1)),rf_,rf_,H',⟨by have:=n0.out;have:=D7.out;have:=O8.out;have:=E5.out;omega⟩,⟨kr_ d6⟩,⟨kr_ d0⟩,⟨kr_ d1⟩,⟨by repeat (first | (with_reducible first | exact HB.out | apply below_alloc | apply pw_below_drewN | apply below_drew1) | exact HB.out)⟩⟩
          replace W5:=Bool.eq_false_iff.mpr W5
          subst W5
          have H1:(numnahlaw07_SharesWhole.l3 k4 l1 l2 b4 b5 d3 e4 b0 ((rd d3 (rd ((rd_T45 l2 b0).f1) b9)) == 0) (wrap64 (b9 + 1))) = some r:=by rw [if_neg (show ¬ (false = true) by decide)] at H;exact H
          clear H
          have H:=H1
          clear H1
          have H':=A_ H
          clear H
          have j8:0 ≤ (b0:Int):=oa_
          have j9:b0 < (l2.length:Int):=oa_
          obtain ⟨p4,C5,C6,x1,d9,d5,e0,e3⟩:=at_T45 C9.out b0 j8 j9
          cases x1
          replace d9:=cT HB d9
          replace d5:=cT HB d5
          have x2:=A_ e3
          have x6:=A_ e0
          clear e3 e0
          replace j8:=eq_true j8
          replace j9:=eq_true j9
          have p7:0 ≤ (b0:Int):=oa_
          have p8:b0 < (l2.length:Int):=oa_
          obtain ⟨C0,J1,J2,F8,l5,h4,l6,l7⟩:=at_T45 C9.out b0 p7 p8
          obtain rfl:p4 = C0:=(by injection F8)
          replace l5:=cT HB l5
          replace h4:=cT HB h4
          have p9:=A_ l7
          have F9:=A_ l6
          clear l7 l6
          replace p7:=eq_true p7
          replace p8:=eq_true p8
          have ea_:=Option.some.inj (d5.symm.trans h4)
          injection ea_ with ea_ en_ ec_
          subst ea_
          subst ec_
          clear en_
          have q0:0 ≤ (b9:Int):=oa_
          have q2:b9 < (((rd_T45 l2 b0).f1).length:Int):=oa_
          obtain ⟨N0,G0,l8⟩:=Kd.at_int p9.out b9 q0 q2
          cases G0
          replace l8:=cT HB l8
          replace q0:=eq_true q0
          replace q2:=eq_true q2
          obtain ⟨Ao74,co74,ba0⟩:=Kd.R_slice d1.out
          subst ba0
          have q3:0 ≤ ((rd ((rd_T45 l2 b0).f1) b9):Int):=oa_
          have q4:(rd ((rd_T45 l2 b0).f1) b9) < (d3.length:Int):=oa_
          obtain ⟨G1,G2,G3⟩:=Kd.at_int (Kd.R_reads' d1.out).2.2 (rd ((rd_T45 l2 b0).f1) b9) q3 q4
          cases G2
          replace q3:=eq_true q3
          replace q4:=eq_true q4
          have G4:0 ≤ (b0:Int):=oa_
          have G5:b0 < (l2.length:Int):=oa_
          obtain ⟨N1,W6,W7,S6,x8,q6,x9,y9⟩:=at_T45 C9.out b0 G4 G5
          obtain rfl:p4 = N1:=(by injection S6)
          replace x8:=cT HB x8
          replace q6:=cT HB q6
          have G6:=A_ y9
          have S7:=A_ x9
          clear y9 x9
          replace G4:=eq_true G4
          replace G5:=eq_true G5
          have ea_:=Option.some.inj (d5.symm.trans q6)
          injection ea_ with ea_ en_ ec_
          subst ea_
          subst ec_
          clear en_
          have G7:0 ≤ (b9:Int):=oa_
          have G8:b9 < (((rd_T45 l2 b0).f1).length:Int):=oa_
          obtain ⟨ba1,S8,z0⟩:=Kd.at_int G6.out b9 G7 G8
          cases S8
          replace z0:=cT HB z0
          replace G7:=eq_true G7
          replace G8:=eq_true G8
          have G9:0 ≤ ((rd ((rd_T45 l2 b0).f1) b9):Int):=oa_
          have H2:(rd ((rd_T45 l2 b0).f1) b9) < (d3.length:Int):=oa_
          obtain ⟨N2,S9,T0⟩:=Kd.at_int (Kd.R_reads' d1.out).2.2 (rd ((rd_T45 l2 b0).f1) b9) G9 H2
          obtain rfl:G1 = N2:=(by injection S9)
          replace G9:=eq_true G9
          replace H2:=eq_true H2
          go_wp2
          go_roundg k4
          case measure=>have:=n0.out;have:=D7.out;have:=O8.out;have:=E5.out;omega
          case rel=>exact ⟨(((rd d3 (rd ((rd_T45 l2 b0).f1) b9)) == 0)),(wrap64 (b9 + 1)),rf_,rf_,H',⟨by have:=n0.out;have:=D7.out;have:=O8.out;have:=E5.out;omega⟩,⟨kr_ d6⟩,⟨kr_ d0⟩,⟨kr_ d1⟩,⟨by repeat (first | (with_reducible first | exact HB.out | apply below_alloc | apply pw_below_drewN | apply below_drew1) | exact HB.out)⟩⟩
         rw [if_neg O9] at H
         have S4:decide (b9 < (((rd_T45 l2 b0).f1).length:Int)) = false:=decide_eq_false O9
         clear O9
         by_cases W8:x0 = true
         case neg =>
          replace W8:=Bool.eq_false_iff.mpr W8
          subst W8
          have H1:(some false) = some r:=by rw [if_neg (show ¬ (false = true) by decide)] at H;exact H
          clear H
          have H:=H1
          clear H1
          exact absurd ((Option.some.inj H).trans HRT.out) (by decide)
         subst W8
         have H1:(if b0 < (b5.length:Int) then (if (rd b5 b0) < 0 then (some false) else (if (rd b5 b0) > 200 then (some false) else (if b0 < (b4.length:Int) then ((numnahref07_Whole.f (wrap64 ((rd b5 b0) + 1))).bind fun n3=>((numnahref07_Less.f ((rd_T23 b4 b0).f0) ((rd_T23 b4 b0).f1) n3.1 n3.2).bind fun m9=>(if m9 = true then (numnahlaw07_SharesWhole.l2 k4 l1 l2 b4 b5 d3 (wrap64 (e4 + (rd b5 b0))) (wrap64 (b0 + 1))) else (some false)))) else (none)))) else (none)) = some r:=by rw [if_pos rfl] at H;exact H
         clear H
         have H:=H1
         clear H1
         by_cases W9:b0 < (b5.length:Int)
         case neg =>
          rw [if_neg W9] at H
          exact absurd H (by simp)
         rw [if_pos W9] at H
         have c76b0:decide (b0 < (b5.length:Int)) = true:=decide_eq_true W9
         clear W9
         by_cases P1:(rd b5 b0) < 0
         ·rw [if_pos P1] at H
          have U0:decide ((rd b5 b0) < 0) = true:=decide_eq_true P1
          clear P1
          exact absurd ((Option.some.inj H).trans HRT.out) (by decide)
         rw [if_neg P1] at H
         have U0:decide ((rd b5 b0) < 0) = false:=decide_eq_false P1
         clear P1
         by_cases P2:(rd b5 b0) > 200
         ·rw [if_pos P2] at H
          have U1:decide (200 < (rd b5 b0)) = true:=decide_eq_true P2
          clear P2
          exact absurd ((Option.some.inj H).trans HRT.out) (by decide)
         rw [if_neg P2] at H
         have U1:decide (200 < (rd b5 b0)) = false:=decide_eq_false P2
         clear P2
         by_cases X0:b0 < (b4.length:Int)
         case neg =>
          rw [if_neg X0] at H
          exact absurd H (by simp)
         rw [if_pos X0] at H
         have c83b0:decide (b0 < (b4.length:Int)) = true:=decide_eq_true X0
         clear X0
         replace H:=Option.bind_eq_some_iff.mp H
         obtain ⟨⟨C7,C8⟩,A840,H⟩:=H
         replace H:((numnahref07_Less.f ((rd_T23 b4 b0).f0) ((rd_T23 b4 b0).f1) C7 C8).bind fun m9=>(if m9 = true then (numnahlaw07_SharesWhole.l2 k4 l1 l2 b4 b5 d3 (wrap64 (e4 + (rd b5 b0))) (wrap64 (b0 + 1))) else (some false))) = some r:=H
         have A84:=A_ A840
         clear A840
         replace H:=Option.bind_eq_some_iff.mp H
         obtain ⟨m9,U2,H⟩:=H
         replace H:(if m9 = true then (numnahlaw07_SharesWhole.l2 k4 l1 l2 b4 b5 d3 (wrap64 (e4 + (rd b5 b0))) (wrap64 (b0 + 1))) else (some false)) = some r:=H
         have A85:=A_ U2
         clear U2
         by_cases X1:m9 = true
         case neg =>
          replace X1:=Bool.eq_false_iff.mpr X1
          subst X1
          have H1:(some false) = some r:=by rw [if_neg (show ¬ (false = true) by decide)] at H;exact H
          clear H
          have H:=H1
          clear H1
          exact absurd ((Option.some.inj H).trans HRT.out) (by decide)
         subst X1
         have H1:(numnahlaw07_SharesWhole.l2 k4 l1 l2 b4 b5 d3 (wrap64 (e4 + (rd b5 b0))) (wrap64 (b0 + 1))) = some r:=by rw [if_pos rfl] at H;exact H
         clear H
         have H:=H1
         clear H1
         have H':=A_ H
         clear H
         have j8:0 ≤ (b0:Int):=oa_
         have j9:b0 < (l2.length:Int):=oa_
         obtain ⟨p4,C5,C6,x1,d9,d5,e0,e3⟩:=at_T45 C9.out b0 j8 j9
         cases x1
         replace d9:=cT HB d9
         replace d5:=cT HB d5
         have x2:=A_ e3
         have x6:=A_ e0
         clear e3 e0
         replace j8:=eq_true j8
         replace j9:=eq_true j9
         try go_wp2
         replace d6:=A_ (Kd.R_drew d6.out)
         replace d0:=A_ (Kd.R_drew d0.out)
         replace d1:=A_ (Kd.R_drew d1.out)
         replace HB:=A_ (below_drew1 HB.out)
         obtain ⟨Ao88,co88,U3⟩:=Kd.R_slice d0.out
         (first | subst U3 | (injection U3 with r5 D9 r6;have E0:=r5.symm;have E1:=r6.symm;clear r5 D9 r6;subst E0;subst E1))
         have H3:0 ≤ (b0:Int):=oa_
         have H4:b0 < (b5.length:Int):=oa_
         obtain ⟨m8,U4,z1⟩:=Kd.at_int (Kd.R_reads' d0.out).2.2 b0 H3 H4
         cases U4
         replace H3:=eq_true H3
         replace H4:=eq_true H4
         have H5:0 ≤ (b0:Int):=oa_
         have H6:b0 < (b5.length:Int):=oa_
         obtain ⟨N3,U5,z2⟩:=Kd.at_int (Kd.R_reads' d0.out).2.2 b0 H5 H6
         obtain rfl:m8 = N3:=(by injection U5)
         replace H5:=eq_true H5
         replace H6:=eq_true H6
         obtain ⟨Ao89,co89,U6⟩:=Kd.R_slice d6.out
         (first | subst U6 | (injection U6 with r5 D9 r6;have E0:=r5.symm;have E1:=r6.symm;clear r5 D9 r6;subst E0;subst E1))
         have H7:0 ≤ (b0:Int):=oa_
         have H8:b0 < (b4.length:Int):=oa_
         obtain ⟨C1,U7,z3,z4⟩:=at_T23 (Kd.R_reads' d6.out).2.2 b0 H7 H8
         cases U7
         replace H7:=eq_true H7
         replace H8:=eq_true H8
         have H9:0 ≤ (b0:Int):=oa_
         have I0:b0 < (b5.length:Int):=oa_
         obtain ⟨N4,U8,z5⟩:=Kd.at_int (Kd.R_reads' d0.out).2.2 b0 H9 I0
         obtain rfl:m8 = N4:=(by injection U8)
         replace H9:=eq_true H9
         replace I0:=eq_true I0
         refine start_ (n:=30) (S:=fun w'=>w'.cell? (m8.add (b0).toNat) = some (.int .i64 (rd b5 b0)) ∧ w'.cell? (m8.add (b0).toNat) = some (.int .i64 (rd b5 b0)) ∧ w'.cell? (C1.add ((b0).toNat * 2)) = some (.int .i64 ((rd_T23 b4 b0).f0)) ∧ w'.cell? ⟨(C1.add ((b0).toNat * 2)).block,(C1.add ((b0).toNat * 2)).off + 1,none⟩ = some (.int .i64 ((rd_T23 b4 b0).f1)) ∧ w'.cell? (m8.add (b0).toNat) = some (.int .i64 (rd b5 b0))) (ds:=[]) (ba 30 0) (by kernel_rfl) rfl rfl ⟨z1,z2,z3,z4,z5⟩ (fun hHeld=>?_);refine with_tabW numnahlaw07_SharesWhole.tab28 numnahlaw07_SharesWhole.bits28 (fun HT_ HW_=>?_)
         generalize wr.drew = w87 at d6 d0 d1 HB z1 z2 z3 z4 z5 hHeld ⊢
         refine pq 0 182 1 HT_ ?_
         refine pq 1 183 3 HT_ ?_
         refine pq 2 184 7 HT_ ?_
         refine pq 3 185 15 HT_ ?_
         refine pq 4 186 31 HT_ ?_
         refine pq 5 187 63 HT_ ?_
         refine tq 6 188 127 HT_ HW_ hHeld ?_
         refine pq 7 189 255 HT_ ?_
         refine pq 8 190 511 HT_ ?_
         refine pq 9 191 1023 HT_ ?_
         refine pq 10 192 2047 HT_ ?_
         refine pq 11 193 4095 HT_ ?_
         refine pq 12 194 8191 HT_ ?_
         refine tq 13 195 16383 HT_ HW_ hHeld ?_
         refine pq 14 196 32767 HT_ ?_
         refine pq 15 197 65535 HT_ ?_
         refine pq 16 198 131071 HT_ ?_
         refine pq 17 199 262143 HT_ ?_
         refine pq 18 200 524287 HT_ ?_
         refine pq 19 201 1048575 HT_ ?_
         refine pq 21 203 3145727 HT_ ?_
         refine pq 22 204 7340031 HT_ ?_
         refine pq 23 205 15728639 HT_ ?_
         refine tq 20 202 16777215 HT_ HW_ hHeld ?_
         refine tq 24 206 33554431 HT_ HW_ hHeld ?_
         refine pq 25 207 67108863 HT_ ?_
         refine oq 26 208 134217727 HT_ (fun K hK=>?_)
         refine gq Try.func23 #[.int .i64 (wrap64 ((rd b5 b0) + 1))] ?_
         with_reducible refine (numnahref07_Whole.calls (wrap64 ((rd b5 b0) + 1)) C7 C8 _ A84.out).mono ?_
         rintro e w90 ⟨rfl,hb⟩
         have N5:=cU hb (hHeld.1)
         have N6:=cU hb (hHeld.2.1)
         have N7:=cU hb (hHeld.2.2.1)
         have N8:=cU hb (hHeld.2.2.2.1)
         have N9:=cU hb (hHeld.2.2.2.2)
         refine ⟨_,rfl,?_⟩
         replace d6:=rB d6 hb
         replace d0:=rB d0 hb
         replace d1:=rB d1 hb
         replace HB:=bB HB hb
         (try clear hb)
         refine hK.out _ _ ⟨N5,N6,N7,N8,N9⟩ (fun hHeld=>?_)
         clear hK K
         refine nq 208 ?_
         refine oq 27 209 268435455 HT_ (fun K hK=>?_)
         refine gq Try.func30 #[.agg #[.int .i64 ((rd_T23 b4 b0).f0),.int .i64 ((rd_T23 b4 b0).f1)],.agg #[.int .i64 C7,.int .i64 C8]] ?_
         with_reducible refine (numnahref07_Less.calls ((rd_T23 b4 b0).f0) ((rd_T23 b4 b0).f1) C7 C8 true _ A85.out).mono ?_
         rintro e w91 ⟨rfl,hb⟩
         have N5:=cU hb (hHeld.1)
         have N6:=cU hb (hHeld.2.1)
         have N7:=cU hb (hHeld.2.2.1)
         have N8:=cU hb (hHeld.2.2.2.1)
         have N9:=cU hb (hHeld.2.2.2.2)
         refine ⟨_,rfl,?_⟩
         replace d6:=rB d6 hb
         replace d0:=rB d0 hb
         replace d1:=rB d1 hb
         replace HB:=bB HB hb
         (try clear hb)
         refine hK.out _ _ ⟨N5,N6,N7,N8,N9⟩ (fun hHeld=>?_)
         clear hK K
         refine nq 209 ?_
         refine pq 28 210 536870911 HT_ ?_
         refine pq 29 211 1073741823 HT_ ?_
         refine done_ (done_of HT_.out (by kernel_rfl)) ?_
         have I1:0 ≤ (b0:Int):=oa_
         have I2:b0 < (b5.length:Int):=oa_
         obtain ⟨O0,U9,V0⟩:=Kd.at_int (Kd.R_reads' d0.out).2.2 b0 I1 I2
         obtain rfl:m8 = O0:=(by injection U9)
         replace I1:=eq_true I1
         replace I2:=eq_true I2
         try go_wp2
         go_roundg k4
         case measure=>have:=n0.out;have:=D7.out;have:=O8.out;have:=E5.out;omega
         case rel=>exact ⟨(wrap64 (e4 + (rd b5 b0))),(wrap64 (b0 + 1)),rf_,rf_,H',⟨by have:=n0.out;have:=D7.out;have:=O8.out;have:=E5.out;omega⟩,⟨kr_ d6⟩,⟨kr_ d0⟩,⟨kr_ d1⟩,⟨by repeat (first | (with_reducible first | exact HB.out | apply below_alloc | apply pw_below_drewN | apply below_drew1) | exact HB.out)⟩⟩
end Go.Proofs.Ytjohcjfmlhihbaa.G
set_option linter.unusedSectionVars false
namespace Go.Proofs.Ytjohcjfmlhihbaa.P
open Go Go.RowKit Go.Proofs.Ytjohcjfmlhihbaa.G
open Go.Proofs.YtjohcjfmlhihbaaW.PrintWords Go.Proofs.YtjohcjfmlhihbaaW.PrintMore
def wsOf (u:List S45):List Int:=u.map (·.f0)
theorem wsOf_len (u:List S45):(wsOf u).length = u.length:=List.length_map _
theorem alone_l0 {u:List S45} (hu:u.length ≤ 6):∀ d i,i + d = u.length → Ev (fun k=>numnahlaw07_alone.l0 k u (usr [0] (wsOf (u.take i))) (i:Int)) (usr [0] (wsOf u)):=by
 intro d
 induction d with
 | zero =>
  intro i hi
  obtain rfl:i = u.length:=by omega
  rw [List.take_length]
  refine Ev.step (f:=fun _=>some (usr [0] (wsOf u))) (fun k=>?_) (Ev.now _)
  rw [numnahlaw07_alone.l0,if_neg (by omega)]
 | succ d ih =>
  intro i hi
  have hil:i < u.length:=by omega
  have hn:=ih (i + 1) (by omega)
  rw [List.take_succ_eq_append_getElem hil] at hn
  have e:usr [0] (wsOf (u.take i ++ [u[i]])) = usr [0] (wsOf (u.take i)) ++ [(⟨(rd_T45 u (i:Int)).f0,[0]⟩:S45)]:=by
   unfold usr wsOf
   rw [rdT45 hil,List.map_append,List.map_append];rfl
  rw [e] at hn
  refine Ev.step (fun k=>?_) hn
  rw [numnahlaw07_alone.l0,if_pos (by omega),if_pos (by omega),if_pos (by rw [usr_len,wsOf_len,List.length_take];omega),wrap_succ (by omega)]
theorem ev_alone {u:List S45} (hu:u.length ≤ 6):Ev (fun k=>numnahlaw07_alone.f k u) (usr [0] (wsOf u)):=alone_l0 hu u.length 0 (by omega)
section
variable {p:List Int} {u:List S45} (hok:okNet p u = true)
include hok
theorem whole_runP (P:(Nat → Int) → Prop) (hP:∀ X F a,WS p u X F → P X → a < u.length → fullB u F a = false → (∀ v,v < u.length → fullB u F v = false → (X a + 1) * wI u v ≤ (X v + 1) * wI u a) → P (fun v=>if v = a then X a + 1 else X v)):∀ (c:Nat) (X F:Nat → Int),WS p u X F → P X → 1201 - sumI u.length X ≤ (c:Int) → ∃ Y G,WS p u Y G ∧ P Y ∧ (∀ v,v < u.length → fullB u G v = true) ∧ Ev (fun k=>shares_Whole.l0 k u (tab u.length X) p u (tab p.length F)) (tab u.length Y,0):=by
 have h6:=(isN hok).u6
 have h5:=(isN hok).p5
 intro c
 induction c with
 | zero =>
  intro X F hW hPX hc
  have h1:=sumI_le (m:=u.length) (f:=X) (b:=200) fun v hv=>hW.le hok hv
  omega
 | succ c ih =>
  intro X F hW hPX hc
  have hX:∀ v,v < u.length → 0 ≤ X v ∧ X v ≤ 200:=fun v hv=>⟨hW.x0 v hv,hW.le hok hv⟩
  have h0:PkOk u X F 0 (-1):=⟨fun _=>⟨rfl,fun v hv=>by omega⟩,fun h=>by omega⟩
  have hall:=h0.all hok (d:=u.length) (by omega)
  by_cases hneg:pk u X F u.length 0 (-1) < 0
  ·refine ⟨X,F,hW,hPX,(hall.1 hneg).2,?_⟩
   ·refine Ev.step (fun k=>by rw [shares_Whole.l0];rfl) (whole_l1 hok hX u.length 0 (-1) (by omega) h0 (by omega) (fun _=>rfl) (fun h=>by omega))
  ·obtain ⟨a1,a2,a3⟩:=hall.2 (by omega)
   have ha:(pk u X F u.length 0 (-1)).toNat < u.length:=by omega
   have hs:=hW.step hok ha a2
   have hPn:=hP X F _ hW hPX ha a2 a3
   have hsum:sumI u.length (fun v=>if v = (pk u X F u.length 0 (-1)).toNat then X (pk u X F u.length 0 (-1)).toNat + 1 else X v) = sumI u.length X + 1:=by
    rw [sumI_upd (f:=X) ha (fun v hv=>if_neg hv)]
    simp only [if_true];omega
   obtain ⟨Y,G,hY,hPY,hfull,e1⟩:=ih _ _ hs hPn (by omega)
   have ed:tab p.length (fun q=>F q - cI u (pk u X F u.length 0 (-1)).toNat q) = tab p.length (dec F ((pipesOf u (pk u X F u.length 0 (-1)).toNat).drop 0)):=rfl
   rw [ed] at e1
   have hFb:∀ q,q < p.length → ((pipesOf u (pk u X F u.length 0 (-1)).toNat).length:Int) - 10 ≤ F q ∧ F q ≤ 200:=fun q hq=>by
    have:=hW.f0 q hq
    have:=hW.cap hok hq
    have:=(pipes_len hok ha).2
    omega
   refine ⟨Y,G,hY,hPY,hfull,?_⟩
   ·refine Ev.step (fun k=>by rw [shares_Whole.l0];rfl) (whole_l1 hok hX u.length 0 (-1) (by omega) h0 (by omega) (fun h=>absurd h hneg) (fun _=>?_))
    exact whole_l2 hok (pipes_len hok ha).2 (pipes_in hok ha) _ 0 F (by omega) hFb e1
end
theorem ev_WholeP {p:List Int} {u:List S45} (hok:okNet p u = true) (hf:H.fitL p) (hul:∀ a ∈ u,a.f1.length ≤ 1000000) (P:(Nat → Int) → Prop) (hP0:P (fun _=>0)) (hP:∀ X F a,WS p u X F → P X → a < u.length → fullB u F a = false → (∀ v,v < u.length → fullB u F v = false → (X a + 1) * wI u v ≤ (X v + 1) * wI u a) → P (fun v=>if v = a then X a + 1 else X v)) :
  ∃ Y G,WS p u Y G ∧ P Y ∧ (∀ v,v < u.length → fullB u G v = true) ∧ Ev (fun k=>shares_Whole.f k p u) (tab u.length Y,0):=by
 have h6:=(isN hok).u6
 have h5:=(isN hok).p5
 have e0:=ev_newNet (p:=p) (u:=u) (by omega) (by omega) hf hul
 rw [hok] at e0
 obtain ⟨Y,G,h1,h2,h3,e1⟩:=whole_runP hok P hP 1201 _ _ (WS.start hok) hP0 (by
  have:=sumI_nonneg (m:=u.length) (f:=fun _=>0) fun _ _=>Int.le_refl _
  omega)
 rw [tab_self,← tab_rep] at e1
 refine ⟨Y,G,h1,h2,h3,?_⟩
 ·unfold shares_Whole.f slices_Clone_int_int.f
  refine Ev.bind e0 (Ev.congr (fun k=>?_) e1)
  rw [if_pos rfl,Option.bind_some,if_pos (by simp only [List.length_nil];omega),Option.bind_some,if_pos (by omega),if_pos (by omega),Int.toNat_natCast,List.nil_append]
theorem ev_FairP {p:List Int} {u:List S45} (hok:okNet p u = true) (hf:H.fitL p) (hul:∀ a ∈ u,a.f1.length ≤ 1000000):∃ x,FairR p u x ∧ Ev (fun k=>shares_Fair.f k p u) (encL x,tab u.length (heldI p u x),0):=by
 have hN:=isN hok
 have h5:=hN.p5
 have h6:=hN.u6
 have e0:=ev_newNet (p:=p) (u:=u) (by omega) (by omega) hf hul
 rw [hok] at e0
 obtain ⟨x,hx,e1⟩:=ev_fair hN
 refine ⟨x,hx,?_⟩
 unfold shares_Fair.f
 exact Ev.bind e0 (Ev.bind e1 (Fair_l0 hN (hx.ok hN) u.length 0 (by omega)))
def decW (F:Nat → Int) (c:Int) (l:List Int) (q:Nat):Int:=F q - c * (l.count (q:Int):Int)
theorem decW_nil (F:Nat → Int) (c:Int):decW F c [] = F:=funext fun q=>by unfold decW;simp
theorem decW_cons {n:Nat} {F:Nat → Int} {c q:Int} {l:List Int} (h0:0 ≤ q) (h1:q < (n:Int)):tab n (decW F c (q :: l)) = tab n (decW (fun v=>if v = q.toNat then F q.toNat - c else F v) c l):=tab_congr fun v hv=>by
 unfold decW
 show F v - _ = (if v = q.toNat then F q.toNat - c else F v) - _
 rw [List.count_cons]
 by_cases e:v = q.toNat
 ·have e2:q = (v:Int):=by omega
  rw [if_pos e,e2];simp;rw [Int.mul_add];omega
 ·have e2:¬ q = (v:Int):=by omega
  rw [if_neg e];simp [e2]
section
variable {p:List Int} {u:List S45} (hok:okNet p u = true) {Y G:Nat → Int} (hW:WS p u Y G) (hfull:∀ v,v < u.length → fullB u G v = true)
include hok hW
theorem wh_l1 {z:List S23} {v:List Int} {a:Nat} (ha:a < u.length) {t:Bool} (h0:∀ F,tab p.length F = tab p.length (fun q=>rd p (q:Int) - sumI (a + 1) (fun v=>Y v * cI u v q)) → Ev (fun k=>numnahlaw07_SharesWhole.l0 k p u (tab u.length Y) z v (tab p.length F) ((a + 1:Nat):Int)) t):∀ d j (F:Nat → Int),j + d = (pipesOf u a).length → (∀ q,q < p.length → (d:Int) * 200 - 1000 ≤ F q ∧ F q ≤ 200) → tab p.length (decW F (Y a) ((pipesOf u a).drop j)) = tab p.length (fun q=>rd p (q:Int) - sumI (a + 1) (fun v=>Y v * cI u v q)) → Ev (fun k=>numnahlaw07_SharesWhole.l1 k p u (tab u.length Y) z v (tab p.length F) (a:Int) (j:Int)) t:=by
 have h6:=(isN hok).u6
 have hl:=(pipes_len hok ha).2
 have hin:=pipes_in hok ha
 have hy:0 ≤ Y a ∧ Y a ≤ 200:=⟨hW.x0 a ha,hW.le hok ha⟩
 intro d
 induction d with
 | zero =>
  intro j F hj hF he
  obtain rfl:j = (pipesOf u a).length:=by omega
  rw [List.drop_length,decW_nil] at he
  refine Ev.step (fun k=>?_) (h0 F he)
  rw [numnahlaw07_SharesWhole.l1,if_pos (by omega),if_pos (by omega),if_neg (show ¬ (((pipesOf u a).length:Nat):Int) < (((rd_T45 u (a:Int)).f1.length:Nat):Int) by unfold pipesOf;omega),wrap_succ (by omega)]
 | succ d ih =>
  intro j F hj hF he
  have hjl:j < (pipesOf u a).length:=by omega
  obtain ⟨h0,h1⟩:=hin _ (List.getElem_mem hjl)
  have hb:=hF (pipesOf u a)[j].toNat (by omega)
  rw [List.drop_eq_getElem_cons hjl,decW_cons h0 h1] at he
  have hn:=ih (j + 1) _ (by omega) (fun q hq=>by
   have:=hF q hq
   show (d:Int) * 200 - 1000 ≤ (if q = (pipesOf u a)[j].toNat then F (pipesOf u a)[j].toNat - Y a else F q) ∧ (if q = (pipesOf u a)[j].toNat then F (pipesOf u a)[j].toNat - Y a else F q) ≤ 200
   split <;> omega) he
  have er:rd (rd_T45 u (a:Int)).f1 (j:Int) = (pipesOf u a)[j]:=rd_get hjl
  refine Ev.step (fun k=>?_) hn
  rw [numnahlaw07_SharesWhole.l1,if_pos (by omega),if_pos (by omega),if_pos (show (j:Int) < (((rd_T45 u (a:Int)).f1.length:Nat):Int) by unfold pipesOf at hjl;omega),if_pos (by omega),er,if_pos h0,if_pos (by rw [tab_length];exact h1),if_pos (by rw [tab_length];omega),tab_In h0 h1,tab_I ha,wrap_succ (by omega),wrap_id (by omega) (by omega),tab_set]
theorem wh_part {q:Nat} (hq:q < p.length):∀ i,i ≤ u.length → 0 ≤ sumI i (fun v=>Y v * cI u v q) ∧ sumI i (fun v=>Y v * cI u v q) ≤ rd p (q:Int) - G q:=by
 have hnn:∀ v,v < u.length → 0 ≤ Y v * cI u v q:=fun v hv=>Int.mul_nonneg (hW.x0 v hv) (cI_le hok hv q).1
 have mono:∀ d i,i + d = u.length → sumI i (fun v=>Y v * cI u v q) ≤ sumI u.length (fun v=>Y v * cI u v q):=by
  intro d
  induction d with
  | zero =>
   intro i hi
   obtain rfl:i = u.length:=by omega
   exact Int.le_refl _
  | succ d ih =>
   intro i hi
   have h1:=ih (i + 1) (by omega)
   rw [sumI_succ] at h1
   have:=hnn i (by omega)
   have h2:0 ≤ (fun v=>Y v * cI u v q) i:=this
   omega
 intro i hi
 have h1:=mono (u.length - i) i (by omega)
 have h2:=hW.eq q hq
 exact ⟨sumI_nonneg fun v hv=>hnn v (by omega),by omega⟩
theorem wh_l0 {z:List S23} {v:List Int} {t:Bool} (hend:Ev (fun k=>numnahlaw07_SharesWhole.l2 k p u z v (tab p.length G) 0 0) t):∀ d i (F:Nat → Int),i + d = u.length → tab p.length F = tab p.length (fun q=>rd p (q:Int) - sumI i (fun v=>Y v * cI u v q)) → Ev (fun k=>numnahlaw07_SharesWhole.l0 k p u (tab u.length Y) z v (tab p.length F) (i:Int)) t:=by
 have h6:=(isN hok).u6
 intro d
 induction d with
 | zero =>
  intro i F hi he
  obtain rfl:i = u.length:=by omega
  have e:tab p.length F = tab p.length G:=by
   rw [he]
   exact tab_congr fun q hq=>by have:=hW.eq q hq;omega
  rw [e]
  refine Ev.step (fun k=>?_) hend
  rw [numnahlaw07_SharesWhole.l0,if_neg (by omega)]
 | succ d ih =>
  intro i F hi he
  have hil:i < u.length:=by omega
  have hy0:=hW.x0 i hil
  have hy1:=hW.le hok hil
  have h1:=wh_l1 hok hW (z:=z) (v:=v) hil (t:=t) (fun F' he'=>ih (i + 1) F' (by omega) he') (pipesOf u i).length 0 (fun q=>rd p (q:Int) - sumI i (fun v=>Y v * cI u v q)) (by omega) (fun q hq=>by
   have h2:=wh_part hok hW hq i (by omega)
   have h3:=hW.f0 q hq
   have h4:=(isN hok).cap q hq
   have h5:=(pipes_len hok hil).2
   rw [← rd_get hq] at h4
   omega) (tab_congr fun q hq=>by
    have e2:sumI (i + 1) (fun v=>Y v * cI u v q) = sumI i (fun v=>Y v * cI u v q) + Y i * cI u i q:=sumI_succ i (fun v=>Y v * cI u v q)
    show rd p (q:Int) - sumI i (fun v=>Y v * cI u v q) - Y i * (((pipesOf u i).drop 0).count (q:Int):Int) = rd p (q:Int) - sumI (i + 1) (fun v=>Y v * cI u v q)
    rw [e2,List.drop_zero]
    show rd p (q:Int) - sumI i (fun v=>Y v * cI u v q) - Y i * cI u i q = _
    omega)
  rw [← he] at h1
  have h2:Ev (fun k=>numnahlaw07_SharesWhole.j2 k p u (tab u.length Y) z v (tab p.length F) (i:Int) false) t:=Ev.step (fun k=>by rw [numnahlaw07_SharesWhole.j2,if_neg (by decide)];rfl) h1
  refine Ev.step (fun k=>?_) h2
  rw [numnahlaw07_SharesWhole.l0,if_pos (by omega),if_pos (by omega),if_pos (by rw [tab_length];omega),tab_I hil,if_neg (by omega),decide_eq_false (by omega)]
theorem wh_l3 {Z:Nat → Int} {z:List S23} {s:Int} {a:Nat} (ha:a < u.length) (hfa:fullB u G a = true) (hz:0 ≤ Z a ∧ Z a ≤ 200) (hzl:a < z.length) (hless:(numnahref07_Whole.f (wrap64 (Z a + 1))).bind (fun b=>numnahref07_Less.f (rd_T23 z (a:Int)).f0 (rd_T23 z (a:Int)).f1 b.1 b.2) = some true) {t:Bool} (hn:Ev (fun k=>numnahlaw07_SharesWhole.l2 k p u z (tab u.length Z) (tab p.length G) (wrap64 (s + Z a)) ((a + 1:Nat):Int)) t):∀ d j (b:Bool),j + d = (pipesOf u a).length → (b || ((pipesOf u a).drop j).any fun q=>decide (G q.toNat = 0)) = true → Ev (fun k=>numnahlaw07_SharesWhole.l3 k p u z (tab u.length Z) (tab p.length G) s (a:Int) b (j:Int)) t:=by
 have h6:=(isN hok).u6
 have hl:=(pipes_len hok ha).2
 have hin:=pipes_in hok ha
 intro d
 induction d with
 | zero =>
  intro j b hj hb
  obtain rfl:j = (pipesOf u a).length:=by omega
  rw [List.drop_length,List.any_nil,Bool.or_false] at hb
  subst hb
  refine Ev.step (fun k=>?_) hn
  rw [numnahlaw07_SharesWhole.l3,if_pos (by omega),if_pos (by omega),if_neg (show ¬ (((pipesOf u a).length:Nat):Int) < (((rd_T45 u (a:Int)).f1.length:Nat):Int) by unfold pipesOf;omega),if_pos rfl,if_pos (by rw [tab_length];omega),tab_I ha,if_neg (by omega),if_neg (by omega),if_pos (by omega)]
  cases hw:numnahref07_Whole.f (wrap64 (Z a + 1)) with
  | none=>rw [hw] at hless;cases hless
  | some w =>
   rw [hw,Option.bind_some] at hless
   rw [Option.bind_some,hless,Option.bind_some,if_pos rfl,wrap_succ (by omega)]
 | succ d ih =>
  intro j b hj hb
  have hjl:j < (pipesOf u a).length:=by omega
  obtain ⟨h0,h1⟩:=hin _ (List.getElem_mem hjl)
  have er:rd (rd_T45 u (a:Int)).f1 (j:Int) = (pipesOf u a)[j]:=rd_get hjl
  have hG:=hW.f0 (pipesOf u a)[j].toNat (by omega)
  rw [List.drop_eq_getElem_cons hjl,List.any_cons] at hb
  refine Ev.step (fun k=>by rw [numnahlaw07_SharesWhole.l3,if_pos (by omega),if_pos (by omega),if_pos (show (j:Int) < (((rd_T45 u (a:Int)).f1.length:Nat):Int) by unfold pipesOf at hjl;omega),if_pos (by omega),er,if_pos h0,if_pos (by rw [tab_length];exact h1),tab_In h0 h1,if_neg (by omega),wrap_succ (by omega)]) ?_
  cases b with
  | true=>exact Ev.congr (fun k=>if_pos rfl) (ih (j + 1) true (by omega) (by rw [Bool.true_or]))
  | false =>
   refine Ev.congr (fun k=>if_neg (by decide)) (ih (j + 1) _ (by omega) ?_)
   rw [← hb,Bool.false_or];rfl
end
theorem fits_whole {q:Rat} (h:Sm 1073741824 1073741824 q) {n:Int} (h0:0 ≤ n) (h1:n ≤ 1000):Fits q (n:Rat):=fits_of h.num h.den (B:=1000) (E:=1) (by rw [whole_num];omega) (by rw [whole_den];omega) (by decide) (by decide)
theorem sumI_list (ws:List Int):sumI ws.length (fun v=>rd ws (v:Int)) = sI ws:=by
 have h:=S_sI ws
 have:∀ m,((sumI m (fun v=>rd ws (v:Int)):Int):Rat) = S m (fun v=>((rd ws (v:Int):Int):Rat)):=by
  intro m
  induction m with
  | zero=>rfl
  | succ m ih=>rw [sumI_succ,S_succ,← ih];push_cast;rfl
 rw [← this] at h
 exact Rat.intCast_inj.1 h
theorem step_form {m a:Nat} {X w:Nat → Int} (h:∀ i j,i < m → j < m → (if j = a then X j + 1 else X j) * w i ≤ ((if i = a then X i + 1 else X i) + 1) * w j):∀ i j,i < m → j < m → (if j = a then X a + 1 else X j) * w i ≤ ((if i = a then X a + 1 else X i) + 1) * w j:=by
 have e:∀ v,(if v = a then X a + 1 else X v) = (if v = a then X v + 1 else X v):=fun v=>by
  by_cases hv:v = a
  ·rw [hv]
  ·rw [if_neg hv,if_neg hv]
 intro i j hi hj
 rw [e,e]
 exact h i j hi hj
theorem whole_pure (l0:List Int):∃ k,numnahlaw07_SharesWhole.f k l0 = some true:=by
 refine Ev.rounds ?_
 unfold numnahlaw07_SharesWhole.f
 obtain ⟨p,u,hok,hul,e0⟩:=ev_plant l0
 have hN:=isN hok
 have h5:=hN.p5
 have h6:=hN.u6
 have h1p:=hN.p1
 have h1u:=hN.u1
 refine Ev.bind e0 ?_
 show Ev (fun k=>numnahlaw07_SharesWhole.g k l0 p u) true
 have hf:H.fitL p:=by unfold H.fitL;omega
 have hf1:H.fitL (p.take 1):=by unfold H.fitL;rw [List.length_take];omega
 obtain ⟨Y,G,hW,_,hfull,e1⟩:=ev_WholeP hok hf hul (fun _=>True) trivial (fun _ _ _ _ _ _ _ _=>trivial)
 have hWs:Ws (wsOf u):=⟨by rw [wsOf_len];exact h1u,by rw [wsOf_len];exact h6,fun w hw=>by
  obtain ⟨a,ha,rfl⟩:=List.mem_map.1 hw
  obtain ⟨i,hi,rfl⟩:=List.getElem_of_mem ha
  exact hN.wt i hi⟩
 have hpl:(p.take 1).length = 1:=by rw [List.length_take];omega
 have hc0:rd (p.take 1) 0 = rd p 0:=by
  have h1:rd (p.take 1) ((0:Nat):Int) = (p.take 1)[0]:=rd_get (by omega)
  have h2:rd p ((0:Nat):Int) = p[0]:=rd_get (by omega)
  rw [List.getElem_take] at h1
  exact h1.trans h2.symm
 have hok1:okNet (p.take 1) (usr [0] (wsOf u)) = true:=usr_ok hWs (by omega) (by omega) (fun x hx=>by
  obtain ⟨i,hi,rfl⟩:=List.getElem_of_mem (List.mem_of_mem_take hx)
  exact hN.cap i hi) (by decide) (by rw [hpl];decide)
 have hul1:∀ a ∈ usr [0] (wsOf u),a.f1.length ≤ 1000000:=fun b hb=>by
  obtain ⟨w,_,rfl⟩:=List.mem_map.1 hb
  show ([0]:List Int).length ≤ 1000000;decide
 have hlen1:(usr [0] (wsOf u)).length = u.length:=by rw [usr_len,wsOf_len]
 have hN1:=isN hok1
 obtain ⟨x,hx,e2⟩:=ev_FairP hok1 hf1 hul1
 have hxl:x.length = u.length:=by rw [hx.len,hlen1]
 have hgetw:∀ v,v < u.length → wI (usr [0] (wsOf u)) v = rd (wsOf u) (v:Int) ∧ pipesOf (usr [0] (wsOf u)) v = [0]:=fun v hv=>by
  unfold wI pipesOf
  rw [usr_get (by rw [wsOf_len];exact hv)];exact ⟨rfl,rfl⟩
 have hfb:∀ F v,v < u.length → fullB (usr [0] (wsOf u)) F v = decide (F 0 = 0):=fun F v hv=>by
  unfold fullB
  rw [(hgetw v hv).2];simp
 obtain ⟨Z,H,hZ,hinv,hfull1,e3⟩:=ev_WholeP hok1 hf1 hul1 (fun X=>∀ i j,i < u.length → j < u.length → X j * wI (usr [0] (wsOf u)) i ≤ (X i + 1) * wI (usr [0] (wsOf u)) j) (fun i j hi hj=>by
   have:=wI_in hok1 (v:=j) (by omega)
   show 0 * _ ≤ (0 + 1) * _
   rw [Int.zero_mul,Int.zero_add,Int.one_mul];omega) (fun X F a _ hP ha hfa hmin=>step_form (whole_step (fun v hv=>by have:=wI_in hok1 (v:=v) (by omega);omega) hP (by omega) (fun i hi=>hmin i (by omega) (by rw [hfb F i hi];rw [hfb F a (by omega)] at hfa;exact hfa))))
 have hH0:H 0 = 0:=by
  have:=hfull1 0 (by omega)
  rw [hfb H 0 (by omega)] at this
  exact of_decide_eq_true this
 have hsum:sumI u.length Z = rd p 0:=by
  have h:=hZ.eq 0 (by omega)
  rw [hH0,Int.zero_add,hlen1] at h
  rw [sumI_congr (g:=Z) (fun v hv=>by
   unfold cI
   rw [(hgetw v hv).2]
   show Z v * 1 = Z v
   rw [Int.mul_one])] at h
  exact h.trans hc0
 have hsw:sumI u.length (wI (usr [0] (wsOf u))) = sI (wsOf u):=by
  rw [← sumI_list,wsOf_len]
  exact sumI_congr fun v hv=>(hgetw v hv).1
 have hpos:=sI_pos hWs.mem
 have hone:=hWs.one
 have hm1:(netOf (p.take 1) (usr [0] (wsOf u))).m = u.length:=hlen1
 have hn1:(netOf (p.take 1) (usr [0] (wsOf u))).n = 1:=hpl
 have hwv:∀ v,v < u.length → (netOf (p.take 1) (usr [0] (wsOf u))).w v = ((rd (wsOf u) (v:Int):Int):Rat):=fun v hv=>by
  show ((rd_T45 (usr [0] (wsOf u)) (v:Int)).f0:Rat) = _
  rw [usr_get (by rw [wsOf_len];exact hv)]
 have hS:S (netOf (p.take 1) (usr [0] (wsOf u))).m (netOf (p.take 1) (usr [0] (wsOf u))).w = ((sI (wsOf u):Int):Rat):=by
  rw [hm1,← S_sI,wsOf_len]
  exact S_congr fun v hv=>hwv v hv
 have hSp:(0:Rat) < S (netOf (p.take 1) (usr [0] (wsOf u))).m (netOf (p.take 1) (usr [0] (wsOf u))).w:=by
  rw [hS];exact Rat.intCast_pos.2 (by omega)
 have hh:∀ v q,v < (netOf (p.take 1) (usr [0] (wsOf u))).m → q < (netOf (p.take 1) (usr [0] (wsOf u))).n → (netOf (p.take 1) (usr [0] (wsOf u))).has v q = true:=fun v q hv hq=>by
  obtain rfl:q = 0:=by omega
  show decide (((0:Nat):Int) ∈ (rd_T45 (usr [0] (wsOf u)) (v:Int)).f1) = true
  rw [usr_get (by rw [wsOf_len];omega)]
  exact decide_eq_true (by simp)
 have hfair:=eq_fair (c:=((rd p 0:Int):Rat)) hh (wpos hN1) hSp (fun q hq=>by
  obtain rfl:q = 0:=by omega
  show _ ≤ ((rd (p.take 1) 0:Int):Rat)
  rw [hc0];exact Rat.le_refl) (a:=0) (by omega) (by show ((rd (p.take 1) 0:Int):Rat) = _;rw [hc0])
 have hu:=Net.unique (wpos hN1) hx.fair hfair
 have hval:∀ v,v < u.length → rt x v = ((rd p 0:Int):Rat) * ((rd (wsOf u) (v:Int):Int):Rat) / ((sI (wsOf u):Int):Rat):=fun v hv=>by
  have:=hu v (by omega)
  rw [this,hS,hwv v hv]
 have hfit:=fair_fit hN1 hx
 have hlt:∀ v,v < u.length → rt x v < (((Z v + 1:Int)):Rat):=fun v hv=>by
  have h:=whole_above (m:=u.length) (x:=Z) (w:=wI (usr [0] (wsOf u))) (fun v hv=>by have:=wI_in hok1 (v:=v) (by omega);omega) hinv hv
  rw [hsum,hsw,(hgetw v hv).1] at h
  rw [hval v hv,Rat.div_lt_iff (by exact Rat.intCast_pos.2 (by omega))]
  have:=Rat.intCast_lt_intCast.2 h
  push_cast at this ⊢
  exact this
 have hz:∀ v,v < u.length → 0 ≤ Z v ∧ Z v ≤ 200:=fun v hv=>⟨hZ.x0 v (by omega),hZ.le hok1 (by omega)⟩
 have l2:∀ d i,i + d = u.length → Ev (fun k=>numnahlaw07_SharesWhole.l2 k p u (encL x) (tab u.length Z) (tab p.length G) (sumI i Z) (i:Int)) true:=by
  intro d
  induction d with
  | zero =>
   intro i hi
   obtain rfl:i = u.length:=by omega
   refine Ev.step (f:=fun k=>(numnahlaw07_awake.f k).bind fun t=>some t) (fun k=>?_) (Ev.bind ev_awake (Ev.now _))
   rw [numnahlaw07_SharesWhole.l2,if_neg (by omega),if_pos (by omega),if_pos hsum]
  | succ d ih =>
   intro i hi
   have hil:i < u.length:=by omega
   have hn:=ih (i + 1) (by omega)
   have hzi:=hz i hil
   have hs0:=sumI_nonneg (m:=i) (f:=Z) fun v hv=>(hz v (by omega)).1
   have hs1:=sumI_le (m:=i) (f:=Z) (b:=200) fun v hv=>(hz v (by omega)).2
   have ew:wrap64 (sumI i Z + Z i) = sumI (i + 1) Z:=by rw [sumI_succ];exact wrap_id (by omega) (by omega)
   rw [← ew] at hn
   have hless:(numnahref07_Whole.f (wrap64 (Z i + 1))).bind (fun b=>numnahref07_Less.f (rd_T23 (encL x) (i:Int)).f0 (rd_T23 (encL x) (i:Int)).f1 b.1 b.2) = some true:=by
    rw [wrap_id (x:=Z i + 1) (by omega) (by omega),encT (by omega)]
    unfold numnahref07_Whole.f
    rw [Option.bind_some]
    have hfq:Fits (rt x i) (((Z i + 1:Int)):Rat):=fits_whole (by rw [rt_get (by omega)];exact (hfit _ (List.getElem_mem _)).2) (by omega) (by omega)
    have:=rless hfq
    rw [whole_num,whole_den,decide_eq_true (hlt i hil)] at this
    exact this
   refine Ev.step (fun k=>by rw [numnahlaw07_SharesWhole.l2,if_pos (by omega)];rfl) (wh_l3 hok hW hil (hfull i hil) hzi (by rw [encL_length];omega) hless hn (pipesOf u i).length 0 false (by omega) ?_)
   rw [List.drop_zero,Bool.false_or]
   exact hfull i hil
 have ef:=ev_fit (x:=x) (by omega) hfit
 unfold numnahlaw07_SharesWhole.g
 refine Ev.bind e1 (Ev.congr (fun k=>if_pos (by omega)) (Ev.bind (ev_alone h6) (Ev.bind e2 (Ev.bind (ev_alone h6) (Ev.bind e3 ?_)))))
 refine Ev.congr (fun k=>if_pos rfl) (Ev.congr (fun k=>if_pos rfl) (Ev.congr (fun k=>if_pos rfl) (Ev.congr (fun k=>if_pos (by rw [tab_length])) (Ev.congr (fun k=>if_pos (by rw [encL_length,hxl])) (Ev.congr (fun k=>if_pos (by rw [tab_length,hlen1])) (Ev.bind ef ?_))))))
 have hz2:tab (usr [0] (wsOf u)).length Z = tab u.length Z:=by rw [hlen1]
 have hfin:=wh_l0 hok hW (z:=encL x) (v:=tab u.length Z) (l2 u.length 0 (by omega)) u.length 0 (fun q=>rd p (q:Int)) (by omega) (tab_congr fun q _=>by show _ = _ - 0;omega)
 rw [tab_self] at hfin
 refine Ev.step (fun k=>?_) hfin
 show numnahlaw07_SharesWhole.j0 (k + 1) p u (tab u.length Y) (encL x) (tab (usr [0] (wsOf u)).length Z) (!true) = _
 rw [numnahlaw07_SharesWhole.j0,if_neg (by decide),list_f,Option.bind_some,List.take_of_length_le (by omega),hz2]
 rfl
end Go.Proofs.Ytjohcjfmlhihbaa.P

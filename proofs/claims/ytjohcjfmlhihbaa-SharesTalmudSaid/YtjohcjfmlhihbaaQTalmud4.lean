/- Several texts, joined. -/
import Derived.Test.YtjohcjfmlhihbaaQTalmud3
set_option linter.unusedVariables false
set_option linter.unusedSimpArgs false
namespace Go.Proofs.Ytjohcjfmlhihbaa.G
open Go.RowKit Go.Proofs.YtjohcjfmlhihbaaW.PrintWords Go.Proofs.YtjohcjfmlhihbaaW.PrintLast Go.Proofs.YtjohcjfmlhihbaaW.PrintMore
set_option maxHeartbeats 8000000
set_option maxRecDepth 100000
attribute [local go_sem] cond_true cond_false fld23_0 fld23_1 fld45_0 fld45_1 fld109_0 fld109_1 fld94_0 fld94_1 max2_int min2_int max_two min_two max_three min_three max_four min_four   -- for this text's walks alone
attribute [local go_sem high] eqA23
mutual
def numnahlaw07_SharesTalmud.j0:Nat → Int → List Int → List (S23) → Bool → Int → Int → Int → Option (Bool)
 | 0,_,_,_,_,_,_,_=>none
 | k + 1,x1,x7,x8,x44,m1,m2,m3=>if x44 = true then (some false) else ((shares_Agrees.f k x7 x1 x8).bind fun o1=>(if o1.2.2.2 = 0 then (numnahlaw07_SharesTalmud.j1 k x1 x7 x8 (!o1.2.2.1) m1 m2 m3) else (numnahlaw07_SharesTalmud.j1 k x1 x7 x8 true m1 m2 m3)))
def numnahlaw07_SharesTalmud.j1:Nat → Int → List Int → List (S23) → Bool → Int → Int → Int → Option (Bool)
 | 0,_,_,_,_,_,_,_=>none
 | k + 1,x1,x7,x8,x58,m1,m2,m3=>if x58 = true then (some false) else ((numnahlaw07_mod.f m1 (x7.length:Int)).bind fun b0=>((numnahlaw07_mod.f m2 (x7.length:Int)).bind fun b4=>((numnahlaw07_mod.f m3 2).bind fun d3=>((numnahlaw07_fracs.f x8).bind fun b6=>(if b0 = b4 then (numnahlaw07_SharesTalmud.j2 k x1 x7 x8 b0 b4 b6 false 1 (wrap64 (1 + d3))) else (if 0 ≤ b0 then (if b0 < (b6.length:Int) then ((numnahref07_Less.f ((rd_T23 b6 b0).f0) ((rd_T23 b6 b0).f1) 1 (wrap64 (1 + d3))).bind fun h1=>(numnahlaw07_SharesTalmud.j2 k x1 x7 x8 b0 b4 b6 (!h1) 1 (wrap64 (1 + d3)))) else (none)) else (none)))))))
def numnahlaw07_SharesTalmud.j2:Nat → Int → List Int → List (S23) → Int → Int → List (S23) → Bool → Int → Int → Option (Bool)
 | 0,_,_,_,_,_,_,_,_,_=>none
 | k + 1,x1,x7,x8,s0,C1,q6,x87,x1484000,x1484001=>if x87 = true then (if 0 ≤ s0 then (if s0 < (q6.length:Int) then ((numnahref07_Sub.f k ((rd_T23 q6 s0).f0) ((rd_T23 q6 s0).f1) x1484000 x1484001).bind fun o2=>((some (q6.set (s0:Int).toNat (⟨o2.1,o2.2⟩:S23):List (S23))).bind fun d5=>(if 0 ≤ C1 then (if C1 < (q6.length:Int) then ((numnahref07_Add.f k ((rd_T23 d5 C1).f0) ((rd_T23 d5 C1).f1) x1484000 x1484001).bind fun h2=>(numnahlaw07_SharesTalmud.j3 k x1 x7 x8 s0 C1 (d5.set (C1:Int).toNat (⟨h2.1,h2.2⟩:S23)))) else (none)) else (none)))) else (none)) else (none)) else (numnahlaw07_SharesTalmud.j3 k x1 x7 x8 s0 C1 q6)
def numnahlaw07_SharesTalmud.j3:Nat → Int → List Int → List (S23) → Int → Int → List (S23) → Option (Bool)
 | 0,_,_,_,_,_,_=>none
 | k + 1,x1,x7,x8,s0,C1,q6=>if s0 = C1 then (numnahlaw07_SharesTalmud.j4 k x1 x7 q6 true) else (if 0 ≤ s0 then (if s0 < (q6.length:Int) then (if s0 < (x8.length:Int) then (if (((rd_T23 q6 s0).f0) == ((rd_T23 x8 s0).f0) && (((rd_T23 q6 s0).f1) == ((rd_T23 x8 s0).f1))) = true then (numnahlaw07_SharesTalmud.j4 k x1 x7 q6 true) else ((numnahref07_Divides.f k x7 x1 q6).bind fun q7=>(numnahlaw07_SharesTalmud.j4 k x1 x7 q6 (!q7)))) else (none)) else (none)) else (none))
def numnahlaw07_SharesTalmud.j4:Nat → Int → List Int → List (S23) → Bool → Option (Bool)
 | 0,_,_,_,_=>none
 | k + 1,x1,x7,q6,x126=>if x126 = true then ((numnahlaw07_awake.f k).bind fun p3=>(some p3)) else ((shares_Agrees.f k x7 x1 q6).bind fun i7=>(if i7.2.2.2 = 0 then (if i7.2.2.1 = true then (some false) else (if i7.1 < i7.2.1 then ((shares_Right.f k 3 x7 x1 q6).bind fun h3=>(if h3 = 10 then ((numnahlaw07_awake.f k).bind fun i9=>(some i9)) else (some false))) else (some false))) else (some false)))
end
def numnahlaw07_SharesTalmud.f (k:Nat) (l0:List Int) (a1:Int) (e1:Int) (e0:Int) (d8:Int):Option (Bool):=(numnahlaw07_tame.f k l0 a1).bind fun d9=>((shares_Award.f k 3 d9.1 d9.2).bind fun d6=>(if d6.2 = 0 then (if (d6.1.length:Int) = (d9.1.length:Int) then ((numnahlaw07_fit.f k d6.1).bind fun j7=>(numnahlaw07_SharesTalmud.j0 k d9.2 d9.1 d6.1 (!j7) e1 e0 d8)) else (numnahlaw07_SharesTalmud.j0 k d9.2 d9.1 d6.1 true e1 e0 d8)) else (numnahlaw07_SharesTalmud.j0 k d9.2 d9.1 d6.1 true e1 e0 d8)))
theorem numnahlaw07_SharesTalmud.mono_l:∀ k,(∀ y0 y1 y2 y3 y4 y5 y6,LeO (numnahlaw07_SharesTalmud.j0 k y0 y1 y2 y3 y4 y5 y6) (numnahlaw07_SharesTalmud.j0 (k + 1) y0 y1 y2 y3 y4 y5 y6)) ∧ (∀ y0 y1 y2 y3 y4 y5 y6,LeO (numnahlaw07_SharesTalmud.j1 k y0 y1 y2 y3 y4 y5 y6) (numnahlaw07_SharesTalmud.j1 (k + 1) y0 y1 y2 y3 y4 y5 y6)) ∧ (∀ y0 y1 y2 y3 y4 y5 y6 y7 y8,LeO (numnahlaw07_SharesTalmud.j2 k y0 y1 y2 y3 y4 y5 y6 y7 y8) (numnahlaw07_SharesTalmud.j2 (k + 1) y0 y1 y2 y3 y4 y5 y6 y7 y8)) ∧ (∀ y0 y1 y2 y3 y4 y5,LeO (numnahlaw07_SharesTalmud.j3 k y0 y1 y2 y3 y4 y5) (numnahlaw07_SharesTalmud.j3 (k + 1) y0 y1 y2 y3 y4 y5)) ∧ (∀ y0 y1 y2 y3,LeO (numnahlaw07_SharesTalmud.j4 k y0 y1 y2 y3) (numnahlaw07_SharesTalmud.j4 (k + 1) y0 y1 y2 y3))
 | 0=>⟨fun _ _ _ _ _ _ _ r h=>by simp [numnahlaw07_SharesTalmud.j0] at h,fun _ _ _ _ _ _ _ r h=>by simp [numnahlaw07_SharesTalmud.j1] at h,fun _ _ _ _ _ _ _ _ _ r h=>by simp [numnahlaw07_SharesTalmud.j2] at h,fun _ _ _ _ _ _ r h=>by simp [numnahlaw07_SharesTalmud.j3] at h,fun _ _ _ _ r h=>by simp [numnahlaw07_SharesTalmud.j4] at h⟩
 | k + 1=>by
  obtain ⟨x5,x6,x9,y9,z0⟩:=numnahlaw07_SharesTalmud.mono_l k
  refine ⟨?_,?_,?_,?_,?_⟩
  ·intro y0 y1 y2 y3 y4 y5 y6
   unfold numnahlaw07_SharesTalmud.j0
   repeat' first
   | (with_reducible exact x5 _ _ _ _ _ _ _)
   | (with_reducible exact x6 _ _ _ _ _ _ _)
   | (with_reducible exact x9 _ _ _ _ _ _ _ _ _)
   | (with_reducible exact y9 _ _ _ _ _ _)
   | (with_reducible exact z0 _ _ _ _)
   | (with_reducible exact numnahlaw07_awake.mono _)
   | (with_reducible exact numnahlaw07_fit.mono _ _)
   | (with_reducible exact numnahlaw07_tame.mono _ _ _)
   | (with_reducible exact numnahref07_Add.mono _ _ _ _ _)
   | (with_reducible exact numnahref07_Divides.mono _ _ _ _)
   | (with_reducible exact numnahref07_Sub.mono _ _ _ _ _)
   | (with_reducible exact shares_Agrees.mono _ _ _ _)
   | (with_reducible exact shares_Award.mono _ _ _ _)
   | (with_reducible exact shares_Right.mono _ _ _ _ _)
   | (with_reducible exact LeO.refl _)
   | (with_reducible exact LeO.none _)
   | (with_reducible refine LeO.ite ?_ ?_)
   | (with_reducible refine LeO.bind ?_ (fun _=>?_))
   | exact x5 _ _ _ _ _ _ _
   | exact x6 _ _ _ _ _ _ _
   | exact x9 _ _ _ _ _ _ _ _ _
   | exact y9 _ _ _ _ _ _
   | exact z0 _ _ _ _
   | exact numnahlaw07_awake.mono _
   | exact numnahlaw07_fit.mono _ _
   | exact numnahlaw07_tame.mono _ _ _
   | exact numnahref07_Add.mono _ _ _ _ _
   | exact numnahref07_Divides.mono _ _ _ _
   | exact numnahref07_Sub.mono _ _ _ _ _
   | exact shares_Agrees.mono _ _ _ _
   | exact shares_Award.mono _ _ _ _
   | exact shares_Right.mono _ _ _ _ _
   | exact LeO.none _
   | refine LeO.ite ?_ ?_
   | refine LeO.bind ?_ (fun _=>?_)
  ·intro y0 y1 y2 y3 y4 y5 y6
   unfold numnahlaw07_SharesTalmud.j1
   repeat' first
   | (with_reducible exact x5 _ _ _ _ _ _ _)
   | (with_reducible exact x6 _ _ _ _ _ _ _)
   | (with_reducible exact x9 _ _ _ _ _ _ _ _ _)
   | (with_reducible exact y9 _ _ _ _ _ _)
   | (with_reducible exact z0 _ _ _ _)
   | (with_reducible exact numnahlaw07_awake.mono _)
   | (with_reducible exact numnahlaw07_fit.mono _ _)
   | (with_reducible exact numnahlaw07_tame.mono _ _ _)
   | (with_reducible exact numnahref07_Add.mono _ _ _ _ _)
   | (with_reducible exact numnahref07_Divides.mono _ _ _ _)
   | (with_reducible exact numnahref07_Sub.mono _ _ _ _ _)
   | (with_reducible exact shares_Agrees.mono _ _ _ _)
   | (with_reducible exact shares_Award.mono _ _ _ _)
   | (with_reducible exact shares_Right.mono _ _ _ _ _)
   | (with_reducible exact LeO.refl _)
   | (with_reducible exact LeO.none _)
   | (with_reducible refine LeO.ite ?_ ?_)
   | (with_reducible refine LeO.bind ?_ (fun _=>?_))
   | exact x5 _ _ _ _ _ _ _
   | exact x6 _ _ _ _ _ _ _
   | exact x9 _ _ _ _ _ _ _ _ _
   | exact y9 _ _ _ _ _ _
   | exact z0 _ _ _ _
   | exact numnahlaw07_awake.mono _
   | exact numnahlaw07_fit.mono _ _
   | exact numnahlaw07_tame.mono _ _ _
   | exact numnahref07_Add.mono _ _ _ _ _
   | exact numnahref07_Divides.mono _ _ _ _
   | exact numnahref07_Sub.mono _ _ _ _ _
   | exact shares_Agrees.mono _ _ _ _
   | exact shares_Award.mono _ _ _ _
   | exact shares_Right.mono _ _ _ _ _
   | exact LeO.none _
   | refine LeO.ite ?_ ?_
   | refine LeO.bind ?_ (fun _=>?_)
  ·intro y0 y1 y2 y3 y4 y5 y6 y7 y8
   unfold numnahlaw07_SharesTalmud.j2
   repeat' first
   | (with_reducible exact x5 _ _ _ _ _ _ _)
   | (with_reducible exact x6 _ _ _ _ _ _ _)
   | (with_reducible exact x9 _ _ _ _ _ _ _ _ _)
   | (with_reducible exact y9 _ _ _ _ _ _)
   | (with_reducible exact z0 _ _ _ _)
   | (with_reducible exact numnahlaw07_awake.mono _)
   | (with_reducible exact numnahlaw07_fit.mono _ _)
   | (with_reducible exact numnahlaw07_tame.mono _ _ _)
   | (with_reducible exact numnahref07_Add.mono _ _ _ _ _)
   | (with_reducible exact numnahref07_Divides.mono _ _ _ _)
   | (with_reducible exact numnahref07_Sub.mono _ _ _ _ _)
   | (with_reducible exact shares_Agrees.mono _ _ _ _)
   | (with_reducible exact shares_Award.mono _ _ _ _)
   | (with_reducible exact shares_Right.mono _ _ _ _ _)
   | (with_reducible exact LeO.refl _)
   | (with_reducible exact LeO.none _)
   | (with_reducible refine LeO.ite ?_ ?_)
   | (with_reducible refine LeO.bind ?_ (fun _=>?_))
   | exact x5 _ _ _ _ _ _ _
   | exact x6 _ _ _ _ _ _ _
   | exact x9 _ _ _ _ _ _ _ _ _
   | exact y9 _ _ _ _ _ _
   | exact z0 _ _ _ _
   | exact numnahlaw07_awake.mono _
   | exact numnahlaw07_fit.mono _ _
   | exact numnahlaw07_tame.mono _ _ _
   | exact numnahref07_Add.mono _ _ _ _ _
   | exact numnahref07_Divides.mono _ _ _ _
   | exact numnahref07_Sub.mono _ _ _ _ _
   | exact shares_Agrees.mono _ _ _ _
   | exact shares_Award.mono _ _ _ _
   | exact shares_Right.mono _ _ _ _ _
   | exact LeO.none _
   | refine LeO.ite ?_ ?_
   | refine LeO.bind ?_ (fun _=>?_)
  ·intro y0 y1 y2 y3 y4 y5
   unfold numnahlaw07_SharesTalmud.j3
   repeat' first
   | (with_reducible exact x5 _ _ _ _ _ _ _)
   | (with_reducible exact x6 _ _ _ _ _ _ _)
   | (with_reducible exact x9 _ _ _ _ _ _ _ _ _)
   | (with_reducible exact y9 _ _ _ _ _ _)
   | (with_reducible exact z0 _ _ _ _)
   | (with_reducible exact numnahlaw07_awake.mono _)
   | (with_reducible exact numnahlaw07_fit.mono _ _)
   | (with_reducible exact numnahlaw07_tame.mono _ _ _)
   | (with_reducible exact numnahref07_Add.mono _ _ _ _ _)
   | (with_reducible exact numnahref07_Divides.mono _ _ _ _)
   | (with_reducible exact numnahref07_Sub.mono _ _ _ _ _)
   | (with_reducible exact shares_Agrees.mono _ _ _ _)
   | (with_reducible exact shares_Award.mono _ _ _ _)
   | (with_reducible exact shares_Right.mono _ _ _ _ _)
   | (with_reducible exact LeO.refl _)
   | (with_reducible exact LeO.none _)
   | (with_reducible refine LeO.ite ?_ ?_)
   | (with_reducible refine LeO.bind ?_ (fun _=>?_))
   | exact x5 _ _ _ _ _ _ _
   | exact x6 _ _ _ _ _ _ _
   | exact x9 _ _ _ _ _ _ _ _ _
   | exact y9 _ _ _ _ _ _
   | exact z0 _ _ _ _
   | exact numnahlaw07_awake.mono _
   | exact numnahlaw07_fit.mono _ _
   | exact numnahlaw07_tame.mono _ _ _
   | exact numnahref07_Add.mono _ _ _ _ _
   | exact numnahref07_Divides.mono _ _ _ _
   | exact numnahref07_Sub.mono _ _ _ _ _
   | exact shares_Agrees.mono _ _ _ _
   | exact shares_Award.mono _ _ _ _
   | exact shares_Right.mono _ _ _ _ _
   | exact LeO.none _
   | refine LeO.ite ?_ ?_
   | refine LeO.bind ?_ (fun _=>?_)
  intro y0 y1 y2 y3
  unfold numnahlaw07_SharesTalmud.j4
  repeat' first
  | (with_reducible exact x5 _ _ _ _ _ _ _)
  | (with_reducible exact x6 _ _ _ _ _ _ _)
  | (with_reducible exact x9 _ _ _ _ _ _ _ _ _)
  | (with_reducible exact y9 _ _ _ _ _ _)
  | (with_reducible exact z0 _ _ _ _)
  | (with_reducible exact numnahlaw07_awake.mono _)
  | (with_reducible exact numnahlaw07_fit.mono _ _)
  | (with_reducible exact numnahlaw07_tame.mono _ _ _)
  | (with_reducible exact numnahref07_Add.mono _ _ _ _ _)
  | (with_reducible exact numnahref07_Divides.mono _ _ _ _)
  | (with_reducible exact numnahref07_Sub.mono _ _ _ _ _)
  | (with_reducible exact shares_Agrees.mono _ _ _ _)
  | (with_reducible exact shares_Award.mono _ _ _ _)
  | (with_reducible exact shares_Right.mono _ _ _ _ _)
  | (with_reducible exact LeO.refl _)
  | (with_reducible exact LeO.none _)
  | (with_reducible refine LeO.ite ?_ ?_)
  | (with_reducible refine LeO.bind ?_ (fun _=>?_))
  | exact x5 _ _ _ _ _ _ _
  | exact x6 _ _ _ _ _ _ _
  | exact x9 _ _ _ _ _ _ _ _ _
  | exact y9 _ _ _ _ _ _
  | exact z0 _ _ _ _
  | exact numnahlaw07_awake.mono _
  | exact numnahlaw07_fit.mono _ _
  | exact numnahlaw07_tame.mono _ _ _
  | exact numnahref07_Add.mono _ _ _ _ _
  | exact numnahref07_Divides.mono _ _ _ _
  | exact numnahref07_Sub.mono _ _ _ _ _
  | exact shares_Agrees.mono _ _ _ _
  | exact shares_Award.mono _ _ _ _
  | exact shares_Right.mono _ _ _ _ _
  | exact LeO.none _
  | refine LeO.ite ?_ ?_
  | refine LeO.bind ?_ (fun _=>?_)
theorem numnahlaw07_SharesTalmud.mono:∀ a0 a1 a2 a3 a4 k,LeO (numnahlaw07_SharesTalmud.f k a0 a1 a2 a3 a4) (numnahlaw07_SharesTalmud.f (k + 1) a0 a1 a2 a3 a4):=by
 intro a0 a1 a2 a3 a4 k
 obtain ⟨x5,x6,x9,y9,z0⟩:=numnahlaw07_SharesTalmud.mono_l k
 unfold numnahlaw07_SharesTalmud.f
 repeat' first
   | (with_reducible exact x5 _ _ _ _ _ _ _)
   | (with_reducible exact x6 _ _ _ _ _ _ _)
   | (with_reducible exact x9 _ _ _ _ _ _ _ _ _)
   | (with_reducible exact y9 _ _ _ _ _ _)
   | (with_reducible exact z0 _ _ _ _)
   | (with_reducible exact numnahlaw07_awake.mono _)
   | (with_reducible exact numnahlaw07_fit.mono _ _)
   | (with_reducible exact numnahlaw07_tame.mono _ _ _)
   | (with_reducible exact numnahref07_Add.mono _ _ _ _ _)
   | (with_reducible exact numnahref07_Divides.mono _ _ _ _)
   | (with_reducible exact numnahref07_Sub.mono _ _ _ _ _)
   | (with_reducible exact shares_Agrees.mono _ _ _ _)
   | (with_reducible exact shares_Award.mono _ _ _ _)
   | (with_reducible exact shares_Right.mono _ _ _ _ _)
   | (with_reducible exact LeO.refl _)
   | (with_reducible exact LeO.none _)
   | (with_reducible refine LeO.ite ?_ ?_)
   | (with_reducible refine LeO.bind ?_ (fun _=>?_))
   | exact x5 _ _ _ _ _ _ _
   | exact x6 _ _ _ _ _ _ _
   | exact x9 _ _ _ _ _ _ _ _ _
   | exact y9 _ _ _ _ _ _
   | exact z0 _ _ _ _
   | exact numnahlaw07_awake.mono _
   | exact numnahlaw07_fit.mono _ _
   | exact numnahlaw07_tame.mono _ _ _
   | exact numnahref07_Add.mono _ _ _ _ _
   | exact numnahref07_Divides.mono _ _ _ _
   | exact numnahref07_Sub.mono _ _ _ _ _
   | exact shares_Agrees.mono _ _ _ _
   | exact shares_Award.mono _ _ _ _
   | exact shares_Right.mono _ _ _ _ _
   | exact LeO.none _
   | refine LeO.ite ?_ ?_
   | refine LeO.bind ?_ (fun _=>?_)
def numnahlaw07_SharesTalmud.T8:Bool × List (List Nat × List Nat):=(true,[([],[]),([0],[0]),([],[]),([2],[2]),([1,3],[1,3]),([],[]),([5],[5]),([],[]),([7],[7]),([6,8,4],[6,8]),([4,9,0,1,2,3,4],[4]),([9,10,0,1,2,3,4,5,6,7,8,9,10],[9])])
def numnahlaw07_SharesTalmud.B8:List Nat:=[0,1,0,4,15,0,32,0,128,511,1023,2047]
theorem numnahlaw07_SharesTalmud.tab8:rtab .any (opsOf Try.f18 8) = numnahlaw07_SharesTalmud.T8:=by kernel_rfl
theorem numnahlaw07_SharesTalmud.bits8:waitsOk numnahlaw07_SharesTalmud.T8.2 numnahlaw07_SharesTalmud.B8 = true:=by kernel_rfl
def numnahlaw07_SharesTalmud.T11:Bool × List (List Nat × List Nat):=(true,[([],[]),([],[]),([0,1],[0,1]),([2],[2]),([3],[3]),([3],[3]),([4,5,3],[3,4,5]),([6,3],[3,6]),([3],[3]),([7,8,3,3],[3,7,8]),([9,3],[3,9]),([3,10],[3,10])])
def numnahlaw07_SharesTalmud.B11:List Nat:=[0,0,3,7,15,15,63,127,15,511,1023,2047]
theorem numnahlaw07_SharesTalmud.tab11:rtab .any (opsOf Try.f18 11) = numnahlaw07_SharesTalmud.T11:=by kernel_rfl
theorem numnahlaw07_SharesTalmud.bits11:waitsOk numnahlaw07_SharesTalmud.T11.2 numnahlaw07_SharesTalmud.B11 = true:=by kernel_rfl
def numnahlaw07_SharesTalmud.T12:Bool × List (List Nat × List Nat):=(true,[([],[]),([],[]),([],[]),([],[]),([2,3],[2,3]),([4],[4]),([],[]),([5,6],[5,6]),([0,1,0,1,2,3,4,5,6,7],[0,1]),([8,7,7,0,1,2,3,4,5,6,7],[7,8])])
def numnahlaw07_SharesTalmud.B12:List Nat:=[0,0,0,0,12,28,0,124,255,511]
theorem numnahlaw07_SharesTalmud.tab12:rtab .any (opsOf Try.f18 12) = numnahlaw07_SharesTalmud.T12:=by kernel_rfl
theorem numnahlaw07_SharesTalmud.bits12:waitsOk numnahlaw07_SharesTalmud.T12.2 numnahlaw07_SharesTalmud.B12 = true:=by kernel_rfl
def numnahlaw07_SharesTalmud.T13:Bool × List (List Nat × List Nat):=(true,[([],[]),([],[]),([],[]),([],[]),([2,3],[2,3]),([4],[4]),([],[]),([5,6],[5,6]),([0,1,0,1,2,3,4,5,6,7],[0,1]),([8,7,7,0,1,2,3,4,5,6,7],[7,8])])
def numnahlaw07_SharesTalmud.B13:List Nat:=[0,0,0,0,12,28,0,124,255,511]
theorem numnahlaw07_SharesTalmud.tab13:rtab .any (opsOf Try.f18 13) = numnahlaw07_SharesTalmud.T13:=by kernel_rfl
theorem numnahlaw07_SharesTalmud.bits13:waitsOk numnahlaw07_SharesTalmud.T13.2 numnahlaw07_SharesTalmud.B13 = true:=by kernel_rfl
def numnahlaw07_SharesTalmud.T14:Bool × List (List Nat × List Nat):=(true,[([],[]),([],[]),([0,1],[0,1]),([2],[2]),([3],[3]),([3],[3]),([4,5,3],[3,4,5]),([6,3],[3,6]),([3],[3]),([3],[3]),([8,9,3],[3,8,9]),([10,3],[3,10]),([7,11,3],[3,7,11]),([3,12],[3,12]),([13,3],[13]),([14],[14]),([14],[14]),([14],[14]),([15,16,17,14,14],[14,15,16,17]),([18,14],[14,18]),([14,19],[14,19])])
def numnahlaw07_SharesTalmud.B14:List Nat:=[0,0,3,7,15,15,63,127,15,15,783,1807,4095,8191,16383,32767,32767,32767,262143,524287,1048575]
theorem numnahlaw07_SharesTalmud.tab14:rtab .any (opsOf Try.f18 14) = numnahlaw07_SharesTalmud.T14:=by kernel_rfl
theorem numnahlaw07_SharesTalmud.bits14:waitsOk numnahlaw07_SharesTalmud.T14.2 numnahlaw07_SharesTalmud.B14 = true:=by kernel_rfl
theorem numnahlaw07_SharesTalmud.calls (k:Nat) (A0:Option Addr) (c0:Nat) (l0:List Int) (a1:Int) (e1:Int) (e0:Int) (d8:Int) (r:Bool) (w:World) (Q1:Kd.C (Kd.int .i64) w A0 l0.length l0) (Q2:l0.length ≤ c0) (h:numnahlaw07_SharesTalmud.f k l0 a1 e1 e0 d8 = some r) (hrt_:r = true) :
  Calls Try.prog 18 #[.slice A0 l0.length c0,.int .i64 a1,.agg #[.int .i64 e1,.int .i64 e0,.int .i64 d8]] w fun e w'=>e = .returned (.bool r) ∧ Below w.heap.size w w':=by
 have HRT:=Aside0.mk hrt_
 clear hrt_
 have S0:=Try.underlying91
 have S1:=Try.underlying51
 have S2:=Try.underlying23
 have S3:=A_ Q1
 have S4:=A_ Q2
 clear Q1 Q2
 have HB:=A_ (Below.refl w.heap.size w)
 have H:((numnahlaw07_tame.f k l0 a1).bind fun d9=>((shares_Award.f k 3 d9.1 d9.2).bind fun d6=>(if d6.2 = 0 then (if (d6.1.length:Int) = (d9.1.length:Int) then ((numnahlaw07_fit.f k d6.1).bind fun j7=>(numnahlaw07_SharesTalmud.j0 k d9.2 d9.1 d6.1 (!j7) e1 e0 d8)) else (numnahlaw07_SharesTalmud.j0 k d9.2 d9.1 d6.1 true e1 e0 d8)) else (numnahlaw07_SharesTalmud.j0 k d9.2 d9.1 d6.1 true e1 e0 d8)))) = some r:=h
 clear h
 replace H:=Option.bind_eq_some_iff.mp H
 obtain ⟨⟨b7,d1⟩,A40,H⟩:=H
 replace H:((shares_Award.f k 3 b7 d1).bind fun d6=>(if d6.2 = 0 then (if (d6.1.length:Int) = (b7.length:Int) then ((numnahlaw07_fit.f k d6.1).bind fun j7=>(numnahlaw07_SharesTalmud.j0 k d1 b7 d6.1 (!j7) e1 e0 d8)) else (numnahlaw07_SharesTalmud.j0 k d1 b7 d6.1 true e1 e0 d8)) else (numnahlaw07_SharesTalmud.j0 k d1 b7 d6.1 true e1 e0 d8))) = some r:=H
 have A4:=A_ A40
 clear A40
 replace H:=Option.bind_eq_some_iff.mp H
 obtain ⟨⟨b5,o3⟩,A50,H⟩:=H
 replace H:(if o3 = 0 then (if (b5.length:Int) = (b7.length:Int) then ((numnahlaw07_fit.f k b5).bind fun j7=>(numnahlaw07_SharesTalmud.j0 k d1 b7 b5 (!j7) e1 e0 d8)) else (numnahlaw07_SharesTalmud.j0 k d1 b7 b5 true e1 e0 d8)) else (numnahlaw07_SharesTalmud.j0 k d1 b7 b5 true e1 e0 d8)) = some r:=H
 have A5:=A_ A50
 clear A50
 have N8:=A_ H
 clear H
 go_enter Try.func18,Try.ntmps18
 go_upto_region 3 with (first | ((with_reducible refine gate_dst (N:=5) rfl ?_);(try (refine gate_guard (by rfl) ?_;dsimp only));refine box_event ?hg (N:=5) ?hd (cs:=#[.int .i64 e1,.int .i64 e0,.int .i64 d8]) (t:=91) ?hr ?_;(case hd=>rfl);(case hg=>rfl);(case hr=>first | (go_simp;done) | (go_simp;rfl));intro e3 hg w7 hbox hb;have b1:=A_ hbox;have E1:=gw hg HB;have e4:=E1;replace HB:=bB HB hb;clear hb hbox hg) | ((with_reducible refine gate_callee (f:=25) rfl ?_);refine goesL_ (some 22) rfl rfl Try.func25 (by kernel_rfl) rfl #[.slice A0 l0.length c0,.int .i64 a1] rfl (by (try simp only [List.map_toArray,List.map_cons,List.map_nil]);first | done | rfl | (simp only [List.length_drop,List.length_take];rfl)) ?_;(with_reducible refine (numnahlaw07_tame.calls k _ _ l0 a1 b7 d1 _ ?side1 ?side2 A4.out).mono ?_);(case side1=>exact cB S3 HB);(case side2=>exact S4.out);rintro e w8 ⟨Q3,rfl,C2,hb⟩;refine ⟨_,rfl,?_⟩;have h8:=A_ (Kd.R_lower C2 (below_size (bl HB)));replace b1:=kB b1 hb;replace HB:=bB HB hb;(try clear hb);(try clear C2);obtain ⟨z3,z1,S5⟩:=Kd.R_slice h8.out;subst S5) | ((with_reducible refine gate_callee (f:=26) rfl ?_);refine goesL_ (some 28) rfl rfl Try.func26 (by kernel_rfl) rfl #[.int .i64 3,.slice z3 b7.length z1,.int .i64 d1] rfl (by (try simp only [List.map_toArray,List.map_cons,List.map_nil]);first | done | rfl | (simp only [List.length_drop,List.length_take];rfl)) ?_;(with_reducible refine (shares_Award.calls k 3 _ _ b7 d1 b5 o3 _ ?side1 ?side2 A5.out).mono ?_);(case side1=>repeat (first | exact (Kd.R_reads' h8.out).2.2 | (with_reducible refine Kd.C_alloc ?_ _) | (with_reducible refine Kd.C_drewN ?_ _) | (with_reducible refine Kd.C_drew ?_)));(case side2=>exact (Kd.R_reads' h8.out).2.1);rintro e X5 ⟨H8,rfl,C2,hb⟩;refine ⟨_,rfl,?_⟩;have i8:=A_ (Kd.R_lower C2 (below_size (bl HB)));replace h8:=rB h8 hb;replace b1:=kB b1 hb;replace HB:=bB HB hb;(try clear hb);(try clear C2)))
 (try simp only [Act.put,List.setIfInBounds_toArray,List.set_cons_zero,List.set_cons_succ])
 go_cut [44] (fun S6 wc=>∃ (kq:Nat) (s8:Bool),S6 = .bool s8 ∧ Aside0 (numnahlaw07_SharesTalmud.j0 kq d1 b7 b5 s8 e1 e0 d8 = some r) ∧ Aside0 (kq ≤ k) ∧ Aside0 (Kd.R (Kd.int .i64) 3 wc w.heap.size (fun _=>True) (.slice z3 b7.length z1) b7) ∧ Aside0 (Kd.R k23 23 wc w.heap.size (fun _=>True) H8 b5) ∧ Aside0 (wc.heap[e3]? = some (.cells #[.int .i64 e1,.int .i64 e0,.int .i64 d8] 91 (0,0))) ∧ Aside0 (Below w.heap.size w wc))
 case first =>
  have H:=N8.out
  clear N8
  by_cases z4:o3 = 0
  case neg =>
   rw [if_neg z4] at H
   have m4:(o3 == 0) = false:=beq_eq_false_iff_ne.mpr z4
   have q8:(o3 != 0) = true:=bne_iff_ne.mpr z4
   (first | rw [m4] | (simp only [i64_w,i32_w];rw [m4]) | skip)
   have H':=A_ H
   clear H
   go_wp2
   go_meet
   case rel=>exact ⟨_,(true),rf_,H',⟨by first | omega | exact Nat.le_refl _⟩,⟨kr_ h8⟩,⟨kr_ i8⟩,⟨dr_ b1⟩,⟨by repeat (first | (with_reducible first | exact HB.out | apply below_alloc | apply pw_below_drewN | apply below_drew1 | refine below_set ?_ e4.out) | exact HB.out)⟩⟩
  rw [if_pos z4] at H
  have m4:(o3 == 0) = true:=beq_iff_eq.mpr z4
  have q8:(o3 != 0) = false:=bne_eq_false_iff_eq.mpr z4
  clear z4
  (first | rw [m4] | (simp only [i64_w,i32_w];rw [m4]) | skip)
  by_cases s1:(b5.length:Int) = (b7.length:Int)
  case neg =>
   rw [if_neg s1] at H
   have q9:((b5.length:Int) == (b7.length:Int)) = false:=beq_eq_false_iff_ne.mpr s1
   have r0:((b5.length:Int) != (b7.length:Int)) = true:=bne_iff_ne.mpr s1
   have r1:(b5.length == b7.length) = false:=by first | simpa using s1 | (simp at s1 ⊢;omega)
   have H':=A_ H
   clear H
   obtain ⟨S7,S8,N9⟩:=Kd.R_slice i8.out
   subst N9
   go_wp2
   go_meet
   case rel=>exact ⟨_,(true),rf_,H',⟨by first | omega | exact Nat.le_refl _⟩,⟨kr_ h8⟩,⟨kr_ i8⟩,⟨dr_ b1⟩,⟨by repeat (first | (with_reducible first | exact HB.out | apply below_alloc | apply pw_below_drewN | apply below_drew1 | refine below_set ?_ e4.out) | exact HB.out)⟩⟩
  rw [if_pos s1] at H
  have q9:((b5.length:Int) == (b7.length:Int)) = true:=beq_iff_eq.mpr s1
  have r0:((b5.length:Int) != (b7.length:Int)) = false:=bne_eq_false_iff_eq.mpr s1
  have r1:(b5.length == b7.length) = true:=by first | simpa using s1 | (simp at s1 ⊢;omega)
  clear s1
  replace H:=Option.bind_eq_some_iff.mp H
  obtain ⟨j7,H9,H⟩:=H
  replace H:(numnahlaw07_SharesTalmud.j0 k d1 b7 b5 (!j7) e1 e0 d8) = some r:=H
  have S9:=A_ H9
  clear H9
  have H':=A_ H
  clear H
  obtain ⟨T0,U0,O0⟩:=Kd.R_slice i8.out
  subst O0
  go_wp2_with (first | (go_at_call 27;(with_reducible refine (numnahlaw07_fit.calls k _ _ b5 j7 _ ?side1 ?side2 S9.out).mono ?_);(case side1=>repeat (first | exact (Kd.R_reads' i8.out).2.2 | (with_reducible refine Kd.C_alloc ?_ _) | (with_reducible refine Kd.C_drewN ?_ _) | (with_reducible refine Kd.C_drew ?_)));(case side2=>exact (Kd.R_reads' i8.out).2.1);rintro e X6 ⟨rfl,hb⟩;replace h8:=rB h8 hb;replace i8:=rB i8 hb;replace b1:=kB b1 hb;replace HB:=bB HB hb;(try clear hb)))
  go_meet
  case rel=>exact ⟨_,(!j7),rf_,H',⟨by first | omega | exact Nat.le_refl _⟩,⟨kr_ h8⟩,⟨kr_ i8⟩,⟨dr_ b1⟩,⟨by repeat (first | (with_reducible first | exact HB.out | apply below_alloc | apply pw_below_drewN | apply below_drew1 | refine below_set ?_ e4.out) | exact HB.out)⟩⟩
 case rest =>
  clear N8
  try clear c1
  try clear c2
  try clear p2
  try clear z4
  try clear m4
  try clear q8
  try clear s1
  try clear q9
  try clear r0
  try clear r1
  obtain ⟨kq,s8,rfl,HA,C3,d0,d4,b1,HB⟩:=hcut
  cases kq with
  | zero=>exact absurd HA.out (by simp [numnahlaw07_SharesTalmud.j0])
  | succ E2 =>
   have H:=HA.out
   clear HA
   simp only [numnahlaw07_SharesTalmud.j0] at H
   by_cases E3:s8 = true
   ·subst E3
    have H1:(some false) = some r:=by rw [if_pos rfl] at H;exact H
    clear H
    have H:=H1
    clear H1
    exact absurd ((Option.some.inj H).trans HRT.out) (by decide)
   replace E3:=Bool.eq_false_iff.mpr E3
   subst E3
   have H1:((shares_Agrees.f E2 b7 d1 b5).bind fun o1=>(if o1.2.2.2 = 0 then (numnahlaw07_SharesTalmud.j1 E2 d1 b7 b5 (!o1.2.2.1) e1 e0 d8) else (numnahlaw07_SharesTalmud.j1 E2 d1 b7 b5 true e1 e0 d8))) = some r:=by rw [if_neg (show ¬ (false = true) by decide)] at H;exact H
   clear H
   have H:=H1
   clear H1
   replace H:=Option.bind_eq_some_iff.mp H
   obtain ⟨⟨h4,i0,z5,o4⟩,A180,H⟩:=H
   replace H:(if o4 = 0 then (numnahlaw07_SharesTalmud.j1 E2 d1 b7 b5 (!z5) e1 e0 d8) else (numnahlaw07_SharesTalmud.j1 E2 d1 b7 b5 true e1 e0 d8)) = some r:=H
   have U1:=A_ A180
   clear A180
   have E4:=A_ H
   clear H
   obtain ⟨p0,o5,O1⟩:=Kd.R_slice d4.out
   subst O1
   go_upto_region 6 with (first | ((with_reducible refine gate_callee (f:=54) rfl ?_);refine goesL_ (some 49) rfl rfl Try.func54 (by kernel_rfl) rfl #[.slice z3 b7.length z1,.int .i64 d1,.slice p0 b5.length o5] rfl (by (try simp only [List.map_toArray,List.map_cons,List.map_nil]);first | done | rfl | (simp only [List.length_drop,List.length_take];rfl)) ?_;(with_reducible refine (shares_Agrees.calls E2 _ _ b7 d1 _ _ b5 h4 i0 z5 o4 _ ?side1 ?side2 ?side3 ?side4 U1.out).mono ?_);(case side1=>repeat (first | exact (Kd.R_reads' d0.out).2.2 | (with_reducible refine Kd.C_alloc ?_ _) | (with_reducible refine Kd.C_drewN ?_ _) | (with_reducible refine Kd.C_drew ?_)));(case side2=>exact (Kd.R_reads' d0.out).2.1);(case side3=>repeat (first | exact (Kd.R_reads' d4.out).2.2 | (with_reducible refine Kd.C_alloc ?_ _) | (with_reducible refine Kd.C_drewN ?_ _) | (with_reducible refine Kd.C_drew ?_)));(case side4=>exact (Kd.R_reads' d4.out).2.1);rintro e X7 ⟨rfl,hb⟩;refine ⟨_,rfl,?_⟩;replace d0:=rB d0 hb;replace d4:=rB d4 hb;replace b1:=kB b1 hb;replace HB:=bB HB hb;(try clear hb)) | ((with_reducible refine gate_dst (N:=10) rfl ?_);(try (refine gate_guard (by rfl) ?_;dsimp only));refine box_event ?hg (N:=10) ?hd (cs:=#[.int .i64 0,.int .i64 0]) (t:=51) ?hr ?_;(case hd=>rfl);(case hg=>rfl);(case hr=>first | (go_simp;done) | (go_simp;rfl));intro e2 hg Q4 hbox hb;have b2:=A_ hbox;have E5:=gw hg HB;have e6:=E5;have e5:=nl hg b1;have n1:=ng hg b1;replace d0:=rB d0 hb;replace d4:=rB d4 hb;replace b1:=kB b1 hb;replace HB:=bB HB hb;clear hb hbox hg;have Q5:=n1.out;have Q6:=e5.out;have p7:Q4.cell? ⟨e2,0,none⟩ = some (.int .i64 0):=cz b2 0;have p8:Q4.cell? ⟨e2,1,none⟩ = some (.int .i64 0):=cz b2 1;have p9:=blk_frozen b2.out 0;have q0:=blk_frozen b2.out 1))
   (try simp only [Act.put,List.setIfInBounds_toArray,List.set_cons_zero,List.set_cons_succ])
   go_cut [58] (fun U2 wc=>∃ (kq:Nat) (q2:Bool),U2 = .bool q2 ∧ Aside0 (numnahlaw07_SharesTalmud.j1 kq d1 b7 b5 q2 e1 e0 d8 = some r) ∧ Aside0 (kq ≤ E2) ∧ Aside0 (Kd.R (Kd.int .i64) 3 wc w.heap.size (fun _=>True) (.slice z3 b7.length z1) b7) ∧ Aside0 (Kd.R k23 23 wc w.heap.size (fun _=>True) (.slice p0 b5.length o5) b5) ∧ Aside0 (wc.heap[e3]? = some (.cells #[.int .i64 e1,.int .i64 e0,.int .i64 d8] 91 (0,0))) ∧ Aside0 (wc.heap[e2]? = some (.cells #[.int .i64 h4,.int .i64 i0] 51 (0,0))) ∧ Aside0 (Below w.heap.size w wc))
   case first =>
    have H:=E4.out
    clear E4
    by_cases C0:o4 = 0
    case neg =>
     rw [if_neg C0] at H
     have n2:(o4 == 0) = false:=beq_eq_false_iff_ne.mpr C0
     have s9:(o4 != 0) = true:=bne_iff_ne.mpr C0
     (first | rw [n2] | (simp only [i64_w,i32_w];rw [n2]) | skip)
     have H':=A_ H
     clear H
     go_wp2
     go_meet
     case rel=>exact ⟨_,(true),rf_,H',⟨by have:=C3.out;first | omega | exact Nat.le_refl _⟩,⟨by (with_reducible repeat (first | apply Kd.R_alloc | apply Kd.R_drewN | apply Kd.R_drew));exact Kd.R_mono (Kd.R_far (p:=⟨e2,1,none⟩) (Kd.R_far (p:=⟨e2,0,none⟩) (Kd.R_types d0.out b2.out (by decide)) (fun _ hk=>hk.2) (.int .i64 h4)) (fun _ hk=>hk.2) (.int .i64 i0)) (fun _ hk=>trivial)⟩,⟨by (with_reducible repeat (first | apply Kd.R_alloc | apply Kd.R_drewN | apply Kd.R_drew));exact Kd.R_mono (Kd.R_far (p:=⟨e2,1,none⟩) (Kd.R_far (p:=⟨e2,0,none⟩) (Kd.R_types d4.out b2.out (by decide)) (fun _ hk=>hk.2) (.int .i64 h4)) (fun _ hk=>hk.2) (.int .i64 i0)) (fun _ hk=>trivial)⟩,⟨bf2_ e5 e5 b1⟩,⟨by (with_reducible repeat (first | refine blk_drewN ?_ _ | refine blk_drew ?_ | refine blk_alloc ?_ _));refine blk_put (cs:=#[.int .i64 h4,.int .i64 0]) ?_ 1 _ rfl;(with_reducible repeat (first | refine blk_drewN ?_ _ | refine blk_drew ?_ | refine blk_alloc ?_ _));refine blk_put (cs:=#[.int .i64 0,.int .i64 0]) ?_ 0 _ rfl;(with_reducible repeat (first | refine blk_drewN ?_ _ | refine blk_drew ?_ | refine blk_alloc ?_ _));exact b2.out⟩,⟨by repeat (first | (with_reducible first | exact HB.out | apply below_alloc | apply pw_below_drewN | apply below_drew1 | refine below_set ?_ e4.out | refine below_set ?_ e6.out) | exact HB.out)⟩⟩
    rw [if_pos C0] at H
    have n2:(o4 == 0) = true:=beq_iff_eq.mpr C0
    have s9:(o4 != 0) = false:=bne_eq_false_iff_eq.mpr C0
    clear C0
    (first | rw [n2] | (simp only [i64_w,i32_w];rw [n2]) | skip)
    have H':=A_ H
    clear H
    go_wp2
    go_meet
    case rel=>exact ⟨_,(!z5),rf_,H',⟨by have:=C3.out;first | omega | exact Nat.le_refl _⟩,⟨by (with_reducible repeat (first | apply Kd.R_alloc | apply Kd.R_drewN | apply Kd.R_drew));exact Kd.R_mono (Kd.R_far (p:=⟨e2,1,none⟩) (Kd.R_far (p:=⟨e2,0,none⟩) (Kd.R_types d0.out b2.out (by decide)) (fun _ hk=>hk.2) (.int .i64 h4)) (fun _ hk=>hk.2) (.int .i64 i0)) (fun _ hk=>trivial)⟩,⟨by (with_reducible repeat (first | apply Kd.R_alloc | apply Kd.R_drewN | apply Kd.R_drew));exact Kd.R_mono (Kd.R_far (p:=⟨e2,1,none⟩) (Kd.R_far (p:=⟨e2,0,none⟩) (Kd.R_types d4.out b2.out (by decide)) (fun _ hk=>hk.2) (.int .i64 h4)) (fun _ hk=>hk.2) (.int .i64 i0)) (fun _ hk=>trivial)⟩,⟨bf2_ e5 e5 b1⟩,⟨by (with_reducible repeat (first | refine blk_drewN ?_ _ | refine blk_drew ?_ | refine blk_alloc ?_ _));refine blk_put (cs:=#[.int .i64 h4,.int .i64 0]) ?_ 1 _ rfl;(with_reducible repeat (first | refine blk_drewN ?_ _ | refine blk_drew ?_ | refine blk_alloc ?_ _));refine blk_put (cs:=#[.int .i64 0,.int .i64 0]) ?_ 0 _ rfl;(with_reducible repeat (first | refine blk_drewN ?_ _ | refine blk_drew ?_ | refine blk_alloc ?_ _));exact b2.out⟩,⟨by repeat (first | (with_reducible first | exact HB.out | apply below_alloc | apply pw_below_drewN | apply below_drew1 | refine below_set ?_ e4.out | refine below_set ?_ e6.out) | exact HB.out)⟩⟩
   case rest =>
    clear E4
    try clear c1
    try clear c2
    try clear p2
    try clear c5
    try clear z4
    try clear m4
    try clear q8
    try clear s1
    try clear q9
    try clear r0
    try clear r1
    try clear E3
    try clear Q7
    try clear c23
    try clear C0
    try clear n2
    try clear s9
    try clear p7
    try clear p8
    try clear p9
    try clear q0
    try clear p2
    obtain ⟨kq,q2,rfl,HA,s2,d0,d4,b1,b2,HB⟩:=hcut
    cases kq with
    | zero=>exact absurd HA.out (by simp [numnahlaw07_SharesTalmud.j1])
    | succ n9 =>
     have H:=HA.out
     clear HA
     simp only [numnahlaw07_SharesTalmud.j1] at H
     by_cases G7:q2 = true
     ·subst G7
      have H1:(some false) = some r:=by rw [if_pos rfl] at H;exact H
      clear H
      have H:=H1
      clear H1
      exact absurd ((Option.some.inj H).trans HRT.out) (by decide)
     replace G7:=Bool.eq_false_iff.mpr G7
     subst G7
     have H1:((numnahlaw07_mod.f e1 (b7.length:Int)).bind fun b0=>((numnahlaw07_mod.f e0 (b7.length:Int)).bind fun b4=>((numnahlaw07_mod.f d8 2).bind fun d3=>((numnahlaw07_fracs.f b5).bind fun b6=>(if b0 = b4 then (numnahlaw07_SharesTalmud.j2 n9 d1 b7 b5 b0 b4 b6 false 1 (wrap64 (1 + d3))) else (if 0 ≤ b0 then (if b0 < (b6.length:Int) then ((numnahref07_Less.f ((rd_T23 b6 b0).f0) ((rd_T23 b6 b0).f1) 1 (wrap64 (1 + d3))).bind fun h1=>(numnahlaw07_SharesTalmud.j2 n9 d1 b7 b5 b0 b4 b6 (!h1) 1 (wrap64 (1 + d3)))) else (none)) else (none))))))) = some r:=by rw [if_neg (show ¬ (false = true) by decide)] at H;exact H
     clear H
     have H:=H1
     clear H1
     replace H:=Option.bind_eq_some_iff.mp H
     obtain ⟨b0,I0,H⟩:=H
     replace H:((numnahlaw07_mod.f e0 (b7.length:Int)).bind fun b4=>((numnahlaw07_mod.f d8 2).bind fun d3=>((numnahlaw07_fracs.f b5).bind fun b6=>(if b0 = b4 then (numnahlaw07_SharesTalmud.j2 n9 d1 b7 b5 b0 b4 b6 false 1 (wrap64 (1 + d3))) else (if 0 ≤ b0 then (if b0 < (b6.length:Int) then ((numnahref07_Less.f ((rd_T23 b6 b0).f0) ((rd_T23 b6 b0).f1) 1 (wrap64 (1 + d3))).bind fun h1=>(numnahlaw07_SharesTalmud.j2 n9 d1 b7 b5 b0 b4 b6 (!h1) 1 (wrap64 (1 + d3)))) else (none)) else (none)))))) = some r:=H
     have U3:=A_ I0
     clear I0
     replace H:=Option.bind_eq_some_iff.mp H
     obtain ⟨b4,I1,H⟩:=H
     replace H:((numnahlaw07_mod.f d8 2).bind fun d3=>((numnahlaw07_fracs.f b5).bind fun b6=>(if b0 = b4 then (numnahlaw07_SharesTalmud.j2 n9 d1 b7 b5 b0 b4 b6 false 1 (wrap64 (1 + d3))) else (if 0 ≤ b0 then (if b0 < (b6.length:Int) then ((numnahref07_Less.f ((rd_T23 b6 b0).f0) ((rd_T23 b6 b0).f1) 1 (wrap64 (1 + d3))).bind fun h1=>(numnahlaw07_SharesTalmud.j2 n9 d1 b7 b5 b0 b4 b6 (!h1) 1 (wrap64 (1 + d3)))) else (none)) else (none))))) = some r:=H
     have U4:=A_ I1
     clear I1
     replace H:=Option.bind_eq_some_iff.mp H
     obtain ⟨d3,I2,H⟩:=H
     replace H:((numnahlaw07_fracs.f b5).bind fun b6=>(if b0 = b4 then (numnahlaw07_SharesTalmud.j2 n9 d1 b7 b5 b0 b4 b6 false 1 (wrap64 (1 + d3))) else (if 0 ≤ b0 then (if b0 < (b6.length:Int) then ((numnahref07_Less.f ((rd_T23 b6 b0).f0) ((rd_T23 b6 b0).f1) 1 (wrap64 (1 + d3))).bind fun h1=>(numnahlaw07_SharesTalmud.j2 n9 d1 b7 b5 b0 b4 b6 (!h1) 1 (wrap64 (1 + d3)))) else (none)) else (none)))) = some r:=H
     have U5:=A_ I2
     clear I2
     replace H:=Option.bind_eq_some_iff.mp H
     obtain ⟨b6,I3,H⟩:=H
     replace H:(if b0 = b4 then (numnahlaw07_SharesTalmud.j2 n9 d1 b7 b5 b0 b4 b6 false 1 (wrap64 (1 + d3))) else (if 0 ≤ b0 then (if b0 < (b6.length:Int) then ((numnahref07_Less.f ((rd_T23 b6 b0).f0) ((rd_T23 b6 b0).f1) 1 (wrap64 (1 + d3))).bind fun h1=>(numnahlaw07_SharesTalmud.j2 n9 d1 b7 b5 b0 b4 b6 (!h1) 1 (wrap64 (1 + d3)))) else (none)) else (none))) = some r:=H
     have U6:=A_ I3
     clear I3
     have E6:=A_ H
     clear H
     try go_wp2
     replace d0:=A_ (Kd.R_drew d0.out)
     replace d4:=A_ (Kd.R_drew d4.out)
     replace b1:=A_ (blk_drew b1.out)
     replace b2:=A_ (blk_drew b2.out)
     replace HB:=A_ (below_drew1 HB.out)
     refine start_ (n:=12) (S:=fun w'=>w'.cell? ⟨e3,0,none⟩ = some (.int .i64 e1) ∧ w'.cell? ⟨e3,1,none⟩ = some (.int .i64 e0) ∧ w'.cell? ⟨e3,2,none⟩ = some (.int .i64 d8)) (ds:=[]) (ba 12 0) (by kernel_rfl) rfl rfl ⟨cz b1 0,cz b1 1,cz b1 2⟩ (fun hHeld=>?_);refine with_tabW numnahlaw07_SharesTalmud.tab8 numnahlaw07_SharesTalmud.bits8 (fun HT_ HW_=>?_)
     generalize wc.drew = z6 at d0 d4 b1 b2 HB hHeld ⊢
     refine pq 0 59 1 HT_ ?_
     refine pq 2 61 5 HT_ ?_
     refine pq 3 62 13 HT_ ?_
     refine pq 5 64 45 HT_ ?_
     refine pq 7 66 173 HT_ ?_
     refine pq 8 67 429 HT_ ?_
     refine tq 1 60 431 HT_ HW_ hHeld ?_
     refine tq 6 65 495 HT_ HW_ hHeld ?_
     refine oq 4 63 511 HT_ (fun K hK=>?_)
     refine gq Try.func29 #[.int .i64 e1,.int .i64 (b7.length:Int)] ?_
     with_reducible refine (numnahlaw07_mod.calls e1 (b7.length:Int) b0 _ U3.out).mono ?_
     rintro e w' ⟨rfl,⟨nd,rfl⟩⟩
     refine ⟨_,rfl,?_⟩
     refine hK.out _ _ ⟨cz b1 0,cz b1 1,cz b1 2⟩ (fun hHeld=>?_)
     clear hK K
     refine nq 63 ?_
     refine oq 9 68 1023 HT_ (fun K hK=>?_)
     refine gq Try.func29 #[.int .i64 e0,.int .i64 (b7.length:Int)] ?_
     with_reducible refine (numnahlaw07_mod.calls e0 (b7.length:Int) b4 _ U4.out).mono ?_
     rintro e w' ⟨rfl,⟨nd,rfl⟩⟩
     refine ⟨_,rfl,?_⟩
     refine hK.out _ _ ⟨cz b1 0,cz b1 1,cz b1 2⟩ (fun hHeld=>?_)
     clear hK K
     refine nq 68 ?_
     refine pq 10 13 2047 HT_ ?_
     refine pq 11 14 4095 HT_ ?_
     refine done_ (done_of HT_.out (by kernel_rfl)) ?_
     have Q8:=e5.out
     have Q9:=n1.out
     have t0:z6.cell? ⟨e3,0,none⟩ = some (.int .i64 e1):=cz b1 0
     have t1:z6.cell? ⟨e3,1,none⟩ = some (.int .i64 e0):=cz b1 1
     have t2:z6.cell? ⟨e3,2,none⟩ = some (.int .i64 d8):=cz b1 2
     have t3:=blk_frozen b1.out 0
     have t4:=blk_frozen b1.out 1
     have t5:=blk_frozen b1.out 2
     go_upto_region 11 with (first | ((with_reducible refine gate_callee (f:=29) rfl ?_);refine goesL_ (some 71) rfl rfl Try.func29 (by kernel_rfl) rfl #[.int .i64 d8,.int .i64 2] rfl (by (try simp only [List.map_toArray,List.map_cons,List.map_nil]);first | done | rfl | (simp only [List.length_drop,List.length_take];rfl)) ?_;(with_reducible refine (numnahlaw07_mod.calls d8 2 d3 _ U5.out).mono ?_);rintro e w' ⟨rfl,⟨nd,rfl⟩⟩;refine ⟨_,rfl,?_⟩;(try (rw [drewN_self z6];generalize hq_:World.drewN z6 _ = z6;have G8:Aside0 (Kd.R (Kd.int .i64) 3 z6 w.heap.size (fun _=>True) (.slice z3 b7.length z1) b7):=⟨by rw [← hq_];exact (rs d0)⟩;have G9:Aside0 (Kd.R k23 23 z6 w.heap.size (fun _=>True) (.slice p0 b5.length o5) b5):=⟨by rw [← hq_];exact (rs d4)⟩;have H0:Aside0 (z6.heap[e3]? = some (.cells #[.int .i64 e1,.int .i64 e0,.int .i64 d8] 91 (0,0))):=⟨by rw [← hq_];exact (kb b1)⟩;have H2:Aside0 (z6.heap[e2]? = some (.cells #[.int .i64 h4,.int .i64 i0] 51 (0,0))):=⟨by rw [← hq_];exact (kb b2)⟩;have H3:Aside0 (Below w.heap.size w z6):=⟨by rw [← hq_];exact (bl HB)⟩;clear d0 d4 b1 b2 HB hq_;have d0:=G8;have d4:=G9;have b1:=H0;have b2:=H2;have HB:=H3;clear G8 G9 H0 H2 H3))) | ((with_reducible refine gate_dst (N:=15) rfl ?_);(try (refine gate_guard (by rfl) ?_;dsimp only));refine box_event ?hg (N:=15) ?hd (cs:=#[.int .i64 0,.int .i64 0]) (t:=23) ?hr ?_;(case hd=>rfl);(case hg=>rfl);(case hr=>first | (go_simp;done) | (go_simp;rfl));intro d2 hg R0 hbox hb;have b3:=A_ hbox;have E7:=gw hg HB;have h9:=E7;have j8:=nl hg b1;have r2:=ng hg b1;have j9:=nl hg b2;have r3:=ng hg b2;replace d0:=rB d0 hb;replace d4:=A_ (Kd.R_below (Kd.R_elderB (rs d4) d2 (Nat.le_of_eq hg.symm)) hb);replace b1:=kB b1 hb;replace b2:=kB b2 hb;replace HB:=bB HB hb;clear hb hbox hg;have R1:=r2.out;have R2:=j8.out;have R3:=r3.out;have R4:=j9.out;have t6:R0.cell? ⟨d2,0,none⟩ = some (.int .i64 0):=cz b3 0;have t7:R0.cell? ⟨d2,1,none⟩ = some (.int .i64 0):=cz b3 1;have t8:=blk_frozen b3.out 0;have t9:=blk_frozen b3.out 1) | ((with_reducible refine gate_callee (f:=36) rfl ?_);refine goesL_ (some 75) rfl rfl Try.func36 (by kernel_rfl) rfl #[.slice p0 b5.length o5] rfl (by (try simp only [List.map_toArray,List.map_cons,List.map_nil]);first | done | rfl | (simp only [List.length_drop,List.length_take];rfl)) ?_;(with_reducible refine (numnahlaw07_fracs.calls _ _ b5 b6 _ ?side1 ?side2 U6.out).mono ?_);(case side1=>refine (Kd.R_reads' (e:=23) (base:=w.heap.size) (ok:=fun k_=>(True ∧ k_ ≠ d2)) (n:=b5.length) (c:=o5) ?_).2.2;exact (by (with_reducible repeat (first | apply Kd.R_alloc | apply Kd.R_drewN | apply Kd.R_drew));exact (Kd.R_mono (Kd.R_far (p:=⟨d2,1,none⟩) (Kd.R_far (p:=⟨d2,0,none⟩) (Kd.R_mono d4.out (fun k_ hk=>(⟨hk,hk.2⟩:_ ∧ k_ ≠ d2))) (fun _ hk=>hk.2) (.int .i64 1)) (fun _ hk=>hk.2) (.int .i64 (wrap64 (1 + d3)))) (fun _ h_=>h_.1))));(case side2=>exact (Kd.R_reads' d4.out).2.1);rintro e R5 ⟨r4,rfl,C2,hb⟩;refine ⟨_,rfl,?_⟩;have e7:=A_ (Kd.R_lower (Kd.R_newB (Kd.R_new' C2 (Kd.R_lt (by (with_reducible repeat (first | apply Kd.R_alloc | apply Kd.R_drewN | apply Kd.R_drew));exact (Kd.R_mono (Kd.R_far (p:=⟨d2,1,none⟩) (Kd.R_far (p:=⟨d2,0,none⟩) (Kd.R_mono d4.out (fun k_ hk=>(⟨hk,hk.2⟩:_ ∧ k_ ≠ d2))) (fun _ hk=>hk.2) (.int .i64 1)) (fun _ hk=>hk.2) (.int .i64 (wrap64 (1 + d3)))) (fun _ h_=>h_.1))))) (g:=d2) (o:=.cells #[.int .i64 1,.int .i64 (wrap64 (1 + d3))] 23 (0,0)) (by (with_reducible repeat (first | refine blk_drewN ?_ _ | refine blk_drew ?_ | refine blk_alloc ?_ _));refine blk_put (cs:=#[.int .i64 1,.int .i64 0]) ?_ 1 _ rfl;(with_reducible repeat (first | refine blk_drewN ?_ _ | refine blk_drew ?_ | refine blk_alloc ?_ _));refine blk_put (cs:=#[.int .i64 0,.int .i64 0]) ?_ 0 _ rfl;(with_reducible repeat (first | refine blk_drewN ?_ _ | refine blk_drew ?_ | refine blk_alloc ?_ _));exact b3.out)) (below_size (bl HB)));replace d0:=A_ (Kd.R_below (by (with_reducible repeat (first | apply Kd.R_alloc | apply Kd.R_drewN | apply Kd.R_drew));exact (Kd.R_mono (Kd.R_far (p:=⟨d2,1,none⟩) (Kd.R_far (p:=⟨d2,0,none⟩) (Kd.R_types d0.out b3.out (by decide)) (fun _ hk=>hk.2) (.int .i64 1)) (fun _ hk=>hk.2) (.int .i64 (wrap64 (1 + d3)))) (fun _ h_=>h_.1))) hb);replace d4:=A_ (Kd.R_elder' (by (with_reducible repeat (first | apply Kd.R_alloc | apply Kd.R_drewN | apply Kd.R_drew));exact (Kd.R_mono (Kd.R_far (p:=⟨d2,1,none⟩) (Kd.R_far (p:=⟨d2,0,none⟩) (Kd.R_mono d4.out (fun k_ hk=>(⟨hk,hk.2⟩:_ ∧ k_ ≠ d2))) (fun _ hk=>hk.2) (.int .i64 1)) (fun _ hk=>hk.2) (.int .i64 (wrap64 (1 + d3)))) (fun _ h_=>h_.1))) (Kd.R_base C2) hb);replace b1:=A_ (blk_below (g:=e3) (o:=.cells #[.int .i64 e1,.int .i64 e0,.int .i64 d8] 91 (0,0)) (bf2_ j8 j8 b1) hb);replace b2:=A_ (blk_below (g:=e2) (o:=.cells #[.int .i64 h4,.int .i64 i0] 51 (0,0)) (bf2_ j9 j9 b2) hb);replace b3:=A_ (blk_below (g:=d2) (o:=.cells #[.int .i64 1,.int .i64 (wrap64 (1 + d3))] 23 (0,0)) (by (with_reducible repeat (first | refine blk_drewN ?_ _ | refine blk_drew ?_ | refine blk_alloc ?_ _));refine blk_put (cs:=#[.int .i64 1,.int .i64 0]) ?_ 1 _ rfl;(with_reducible repeat (first | refine blk_drewN ?_ _ | refine blk_drew ?_ | refine blk_alloc ?_ _));refine blk_put (cs:=#[.int .i64 0,.int .i64 0]) ?_ 0 _ rfl;(with_reducible repeat (first | refine blk_drewN ?_ _ | refine blk_drew ?_ | refine blk_alloc ?_ _));exact b3.out) hb);replace HB:=bB HB hb;(try clear hb);(try clear C2)))
     (try simp only [Act.put,List.setIfInBounds_toArray,List.set_cons_zero,List.set_cons_succ])
     go_cut [87] (fun U7 wc=>∃ (kq:Nat) (q3:Bool),U7 = .bool q3 ∧ Aside0 (numnahlaw07_SharesTalmud.j2 kq d1 b7 b5 b0 b4 b6 q3 1 (wrap64 (1 + d3)) = some r) ∧ Aside0 (kq ≤ n9) ∧ Aside0 (Kd.R (Kd.int .i64) 3 wc w.heap.size (fun _=>True) (.slice z3 b7.length z1) b7) ∧ Aside0 (Kd.R k23 23 wc w.heap.size (fun k_=>some k_ ≠ (r4:Value).ownBlock ∧ k_ ≠ d2) (.slice p0 b5.length o5) b5) ∧ Aside0 (Kd.R k23 23 wc w.heap.size (fun k_=>some k_ ≠ ((.slice p0 b5.length o5):Value).ownBlock ∧ k_ ≠ d2) r4 b6) ∧ Aside0 (wc.heap[e3]? = some (.cells #[.int .i64 e1,.int .i64 e0,.int .i64 d8] 91 (0,0))) ∧ Aside0 (wc.heap[e2]? = some (.cells #[.int .i64 h4,.int .i64 i0] 51 (0,0))) ∧ Aside0 (wc.heap[d2]? = some (.cells #[.int .i64 1,.int .i64 (wrap64 (1 + d3))] 23 (0,0))) ∧ Aside0 (Below w.heap.size w wc))
     case first =>
      have H:=E6.out
      clear E6
      by_cases C4:b0 = b4
      ·rw [if_pos C4] at H
       have o6:(b0 == b4) = true:=beq_iff_eq.mpr C4
       have z7:(b0 != b4) = false:=bne_eq_false_iff_eq.mpr C4
       clear C4
       (first | rw [o6] | (simp only [i64_w,i32_w];rw [o6]) | skip)
       have H':=A_ H
       clear H
       try go_wp2
       replace d0:=A_ (Kd.R_drew d0.out)
       replace d4:=A_ (Kd.R_drew d4.out)
       replace e7:=A_ (Kd.R_drew e7.out)
       replace b1:=A_ (blk_drew b1.out)
       replace b2:=A_ (blk_drew b2.out)
       replace b3:=A_ (blk_drew b3.out)
       replace HB:=A_ (below_drew1 HB.out)
       refine start_ (n:=12) (S:=fun w'=>True) (ds:=[]) (ba 12 0) (by kernel_rfl) rfl rfl trivial (fun hHeld=>?_);refine with_tabW numnahlaw07_SharesTalmud.tab11 numnahlaw07_SharesTalmud.bits11 (fun HT_ HW_=>?_)
       generalize R5.drew = X8 at d0 d4 e7 b1 b2 b3 HB hHeld ⊢
       refine pq 0 76 1 HT_ ?_
       refine pq 1 77 3 HT_ ?_
       refine pq 2 78 7 HT_ ?_
       refine pq 3 79 15 HT_ ?_
       refine pu 4 80 31 HT_ ?_
       refine pu 5 81 63 HT_ ?_
       refine pu 6 82 127 HT_ ?_
       refine pu 7 83 255 HT_ ?_
       refine pu 8 84 511 HT_ ?_
       refine pu 9 85 1023 HT_ ?_
       refine pu 10 86 2047 HT_ ?_
       refine pq 11 87 4095 HT_ ?_
       refine done_ (done_of HT_.out (by kernel_rfl)) ?_
       try go_wp2
       go_meet
       case rel=>exact ⟨_,(false),rf_,H',⟨by have:=C3.out;have:=s2.out;first | omega | exact Nat.le_refl _⟩,⟨kr_ d0⟩,⟨by (with_reducible repeat (first | apply Kd.R_alloc | apply Kd.R_drewN | apply Kd.R_drew));exact Kd.R_mono d4.out (fun _ hk=>⟨hk.2,hk.1.2⟩)⟩,⟨by (with_reducible repeat (first | apply Kd.R_alloc | apply Kd.R_drewN | apply Kd.R_drew));exact Kd.R_mono e7.out (fun _ hk=>⟨hk.1.2,hk.2⟩)⟩,⟨dr_ b1⟩,⟨dr_ b2⟩,⟨dr_ b3⟩,⟨by repeat (first | (with_reducible first | exact HB.out | apply below_alloc | apply pw_below_drewN | apply below_drew1 | refine below_set ?_ e4.out | refine below_set ?_ e6.out | refine below_set ?_ h9.out) | exact HB.out)⟩⟩
      rw [if_neg C4] at H
      have o6:(b0 == b4) = false:=beq_eq_false_iff_ne.mpr C4
      have z7:(b0 != b4) = true:=bne_iff_ne.mpr C4
      (first | rw [o6] | (simp only [i64_w,i32_w];rw [o6]) | skip)
      by_cases H4:0 ≤ b0
      case neg =>
       rw [if_neg H4] at H
       exact absurd H (by simp)
      rw [if_pos H4] at H
      have C7:decide (0 ≤ b0) = true:=decide_eq_true H4
      clear H4
      by_cases H5:b0 < (b6.length:Int)
      case neg =>
       rw [if_neg H5] at H
       exact absurd H (by simp)
      rw [if_pos H5] at H
      have C8:decide (b0 < (b6.length:Int)) = true:=decide_eq_true H5
      clear H5
      replace H:=Option.bind_eq_some_iff.mp H
      obtain ⟨h1,I4,H⟩:=H
      replace H:(numnahlaw07_SharesTalmud.j2 n9 d1 b7 b5 b0 b4 b6 (!h1) 1 (wrap64 (1 + d3))) = some r:=H
      have U8:=A_ I4
      clear I4
      have H':=A_ H
      clear H
      try go_wp2
      replace d0:=A_ (Kd.R_drew d0.out)
      replace d4:=A_ (Kd.R_drew d4.out)
      replace e7:=A_ (Kd.R_drew e7.out)
      replace b1:=A_ (blk_drew b1.out)
      replace b2:=A_ (blk_drew b2.out)
      replace b3:=A_ (blk_drew b3.out)
      replace HB:=A_ (below_drew1 HB.out)
      obtain ⟨U9,V0,I5⟩:=Kd.R_slice e7.out
      (first | subst I5 | (injection I5 with z8 E8 z9;have E9:=z8.symm;have F0:=z9.symm;clear z8 E8 z9;subst E9;subst F0))
      have r5:0 ≤ (b0:Int):=oa_
      have r6:b0 < (b6.length:Int):=oa_
      obtain ⟨s3,I6,m5,m6⟩:=at_T23 (Kd.R_reads' e7.out).2.2 b0 r5 r6
      cases I6
      replace r5:=eq_true r5
      replace r6:=eq_true r6
      refine start_ (n:=12) (S:=fun w'=>w'.cell? ⟨d2,0,none⟩ = some (.int .i64 1) ∧ w'.cell? ⟨d2,1,none⟩ = some (.int .i64 (wrap64 (1 + d3))) ∧ w'.cell? (s3.add ((b0).toNat * 2)) = some (.int .i64 ((rd_T23 b6 b0).f0)) ∧ w'.cell? ⟨(s3.add ((b0).toNat * 2)).block,(s3.add ((b0).toNat * 2)).off + 1,none⟩ = some (.int .i64 ((rd_T23 b6 b0).f1))) (ds:=[]) (ba 12 0) (by kernel_rfl) rfl rfl ⟨cz b3 0,cz b3 1,m5,m6⟩ (fun hHeld=>?_);refine with_tabW numnahlaw07_SharesTalmud.tab11 numnahlaw07_SharesTalmud.bits11 (fun HT_ HW_=>?_)
      generalize R5.drew = X9 at d0 d4 e7 b1 b2 b3 HB m5 m6 hHeld ⊢
      refine pq 0 76 1 HT_ ?_
      refine pq 1 77 3 HT_ ?_
      refine pq 2 78 7 HT_ ?_
      refine pq 3 79 15 HT_ ?_
      refine pq 4 80 31 HT_ ?_
      refine pq 5 81 63 HT_ ?_
      refine pq 6 82 127 HT_ ?_
      refine tq 7 83 255 HT_ HW_ hHeld ?_
      refine tq 8 84 511 HT_ HW_ hHeld ?_
      refine oq 9 85 1023 HT_ (fun K hK=>?_)
      refine gq Try.func30 #[.agg #[.int .i64 ((rd_T23 b6 b0).f0),.int .i64 ((rd_T23 b6 b0).f1)],.agg #[.int .i64 1,.int .i64 (wrap64 (1 + d3))]] ?_
      with_reducible refine (numnahref07_Less.calls ((rd_T23 b6 b0).f0) ((rd_T23 b6 b0).f1) 1 (wrap64 (1 + d3)) h1 _ U8.out).mono ?_
      rintro e Y0 ⟨rfl,hb⟩
      have s4:=cU hb (hHeld.2.2.1)
      have s5:=cU hb (hHeld.2.2.2)
      refine ⟨_,rfl,?_⟩
      replace d0:=rB d0 hb
      replace d4:=rB d4 hb
      replace e7:=rB e7 hb
      replace b1:=kB b1 hb
      replace b2:=kB b2 hb
      replace b3:=kB b3 hb
      replace HB:=bB HB hb
      (try clear hb)
      refine hK.out _ _ ⟨cz b3 0,cz b3 1,s4,s5⟩ (fun hHeld=>?_)
      clear hK K
      refine nq 85 ?_
      refine pq 10 86 2047 HT_ ?_
      refine pq 11 87 4095 HT_ ?_
      refine done_ (done_of HT_.out (by kernel_rfl)) ?_
      try go_wp2
      go_meet
      case rel=>exact ⟨_,(!h1),rf_,H',⟨by have:=C3.out;have:=s2.out;first | omega | exact Nat.le_refl _⟩,⟨kr_ d0⟩,⟨by (with_reducible repeat (first | apply Kd.R_alloc | apply Kd.R_drewN | apply Kd.R_drew));exact Kd.R_mono d4.out (fun _ hk=>⟨hk.2,hk.1.2⟩)⟩,⟨by (with_reducible repeat (first | apply Kd.R_alloc | apply Kd.R_drewN | apply Kd.R_drew));exact Kd.R_mono e7.out (fun _ hk=>⟨hk.1.2,hk.2⟩)⟩,⟨dr_ b1⟩,⟨dr_ b2⟩,⟨dr_ b3⟩,⟨by repeat (first | (with_reducible first | exact HB.out | apply below_alloc | apply pw_below_drewN | apply below_drew1 | refine below_set ?_ e4.out | refine below_set ?_ e6.out | refine below_set ?_ h9.out) | exact HB.out)⟩⟩
     case rest =>
      clear E6
      try clear c1
      try clear p1
      try clear q1
      try clear hx1
      try clear c2
      try clear p2
      try clear c3
      try clear c4
      try clear c5
      try clear p6
      try clear z4
      try clear m4
      try clear q8
      try clear s1
      try clear q9
      try clear r0
      try clear r1
      try clear p14
      try clear q14
      try clear hx14
      try clear E3
      try clear Q7
      try clear c23
      try clear C0
      try clear n2
      try clear s9
      try clear G7
      try clear V1
      try clear V2
      try clear c33
      try clear V3
      try clear c37
      try clear C4
      try clear o6
      try clear z7
      try clear H4
      try clear C7
      try clear H5
      try clear C8
      try clear p7
      try clear p8
      try clear t0
      try clear t1
      try clear t2
      try clear t6
      try clear t7
      try clear p9
      try clear q0
      try clear t3
      try clear t4
      try clear t5
      try clear t8
      try clear t9
      try clear m5
      try clear m6
      try clear r5
      try clear p2
      try clear r6
      obtain ⟨kq,q3,rfl,HA,A1,d0,d4,b8,b1,b2,b3,HB⟩:=hcut
      cases kq with
      | zero=>exact absurd HA.out (by simp [numnahlaw07_SharesTalmud.j2])
      | succ m9 =>
       have H:=HA.out
       clear HA
       simp only [numnahlaw07_SharesTalmud.j2] at H
       have F1:=A_ H
       clear H
       go_upto_if 87 with (fail)
       go_cut [] (fun wc=>∃ (kq:Nat) (b9:List (S23)) (h6:Int) (h7:Int),Aside0 (numnahlaw07_SharesTalmud.j3 kq d1 b7 b5 b0 b4 b9 = some r) ∧ Aside0 (kq ≤ m9) ∧ Aside0 (Kd.R (Kd.int .i64) 3 wc w.heap.size (fun _=>True) (.slice z3 b7.length z1) b7) ∧ Aside0 (Kd.R k23 23 wc w.heap.size (fun k_=>some k_ ≠ (r4:Value).ownBlock ∧ k_ ≠ d2) (.slice p0 b5.length o5) b5) ∧ Aside0 (Kd.R k23 23 wc w.heap.size (fun k_=>some k_ ≠ ((.slice p0 b5.length o5):Value).ownBlock ∧ k_ ≠ d2) r4 b9) ∧ Aside0 (wc.heap[e3]? = some (.cells #[.int .i64 e1,.int .i64 e0,.int .i64 d8] 91 (0,0))) ∧ Aside0 (wc.heap[e2]? = some (.cells #[.int .i64 h4,.int .i64 i0] 51 (0,0))) ∧ Aside0 (wc.heap[d2]? = some (.cells #[.int .i64 h6,.int .i64 h7] 23 (0,0))) ∧ Aside0 (Below w.heap.size w wc))
       case first =>
        have H:=F1.out
        clear F1
        by_cases I7:q3 = true
        case neg =>
         replace I7:=Bool.eq_false_iff.mpr I7
         subst I7
         have H1:(numnahlaw07_SharesTalmud.j3 m9 d1 b7 b5 b0 b4 b6) = some r:=by rw [if_neg (show ¬ (false = true) by decide)] at H;exact H
         clear H
         have H:=H1
         clear H1
         have H':=A_ H
         clear H
         go_wp2
         go_meet
         case rel=>exact ⟨_,(b6),(1),((wrap64 (1 + d3))),H',⟨by have:=C3.out;have:=s2.out;have:=A1.out;first | omega | exact Nat.le_refl _⟩,⟨kr_ d0⟩,⟨kr_ d4⟩,⟨kr_ b8⟩,⟨dr_ b1⟩,⟨dr_ b2⟩,⟨dr_ b3⟩,⟨by repeat (first | (with_reducible first | exact HB.out | apply below_alloc | apply pw_below_drewN | apply below_drew1 | refine below_set ?_ e4.out | refine below_set ?_ e6.out | refine below_set ?_ h9.out) | exact HB.out)⟩⟩
        subst I7
        have H1:(if 0 ≤ b0 then (if b0 < (b6.length:Int) then ((numnahref07_Sub.f m9 ((rd_T23 b6 b0).f0) ((rd_T23 b6 b0).f1) 1 (wrap64 (1 + d3))).bind fun o2=>((some (b6.set (b0:Int).toNat (⟨o2.1,o2.2⟩:S23):List (S23))).bind fun d5=>(if 0 ≤ b4 then (if b4 < (b6.length:Int) then ((numnahref07_Add.f m9 ((rd_T23 d5 b4).f0) ((rd_T23 d5 b4).f1) 1 (wrap64 (1 + d3))).bind fun h2=>(numnahlaw07_SharesTalmud.j3 m9 d1 b7 b5 b0 b4 (d5.set (b4:Int).toNat (⟨h2.1,h2.2⟩:S23)))) else (none)) else (none)))) else (none)) else (none)) = some r:=by rw [if_pos rfl] at H;exact H
        clear H
        have H:=H1
        clear H1
        by_cases I8:0 ≤ b0
        case neg =>
         rw [if_neg I8] at H
         exact absurd H (by simp)
        rw [if_pos I8] at H
        have A2:decide (0 ≤ b0) = true:=decide_eq_true I8
        clear I8
        (first | rw [A2] | (simp only [i64_w,i32_w];rw [A2]) | skip)
        by_cases I9:b0 < (b6.length:Int)
        case neg =>
         rw [if_neg I9] at H
         exact absurd H (by simp)
        rw [if_pos I9] at H
        have J0:decide (b0 < (b6.length:Int)) = true:=decide_eq_true I9
        clear I9
        replace H:=Option.bind_eq_some_iff.mp H
        obtain ⟨⟨e9,h0⟩,A520,H⟩:=H
        replace H:((some (b6.set (b0:Int).toNat (⟨e9,h0⟩:S23):List (S23))).bind fun d5=>(if 0 ≤ b4 then (if b4 < (b6.length:Int) then ((numnahref07_Add.f m9 ((rd_T23 d5 b4).f0) ((rd_T23 d5 b4).f1) 1 (wrap64 (1 + d3))).bind fun h2=>(numnahlaw07_SharesTalmud.j3 m9 d1 b7 b5 b0 b4 (d5.set (b4:Int).toNat (⟨h2.1,h2.2⟩:S23)))) else (none)) else (none))) = some r:=H
        have V4:=A_ A520
        clear A520
        obtain ⟨d5,o7⟩:∃ y_:List (S23),y_ = (b6.set (b0:Int).toNat (⟨e9,h0⟩:S23)):=⟨_,rfl⟩
        replace H:(if 0 ≤ b4 then (if b4 < (b6.length:Int) then ((numnahref07_Add.f m9 ((rd_T23 d5 b4).f0) ((rd_T23 d5 b4).f1) 1 (wrap64 (1 + d3))).bind fun h2=>(numnahlaw07_SharesTalmud.j3 m9 d1 b7 b5 b0 b4 (d5.set (b4:Int).toNat (⟨h2.1,h2.2⟩:S23)))) else (none)) else (none)) = some r:=by first | (rw [o7];with_reducible exact H) | (have F2:=(Option.bind_some _ _).symm.trans H;rw [o7];with_reducible exact F2) | (have F2:=(Option.bind_some _ _).symm.trans H;with_reducible exact F2) | with_reducible exact H | (rw [o7];exact H) | exact H
        have q4:=A_ o7
        clear o7
        by_cases J1:0 ≤ b4
        case neg =>
         rw [if_neg J1] at H
         exact absurd H (by simp)
        rw [if_pos J1] at H
        have J2:decide (0 ≤ b4) = true:=decide_eq_true J1
        clear J1
        by_cases H6:b4 < (b6.length:Int)
        case neg =>
         rw [if_neg H6] at H
         exact absurd H (by simp)
        rw [if_pos H6] at H
        have J3:decide (b4 < (b6.length:Int)) = true:=decide_eq_true H6
        clear H6
        replace H:=Option.bind_eq_some_iff.mp H
        obtain ⟨⟨n3,n4⟩,A560,H⟩:=H
        replace H:(numnahlaw07_SharesTalmud.j3 m9 d1 b7 b5 b0 b4 (d5.set (b4:Int).toNat (⟨n3,n4⟩:S23))) = some r:=H
        have V5:=A_ A560
        clear A560
        obtain ⟨C9,o8⟩:∃ y_:List (S23),y_ = (d5.set (b4:Int).toNat (⟨n3,n4⟩:S23)):=⟨_,rfl⟩
        replace H:(numnahlaw07_SharesTalmud.j3 m9 d1 b7 b5 b0 b4 C9) = some r:=by first | (rw [o8];with_reducible exact H) | (have F2:=(Option.bind_some _ _).symm.trans H;rw [o8];with_reducible exact F2) | (have F2:=(Option.bind_some _ _).symm.trans H;with_reducible exact F2) | with_reducible exact H | (rw [o8];exact H) | exact H
        have s6:=A_ o8
        clear o8
        have H':=A_ H
        clear H
        try go_wp2
        replace d0:=A_ (Kd.R_drew d0.out)
        replace d4:=A_ (Kd.R_drew d4.out)
        replace b8:=A_ (Kd.R_drew b8.out)
        replace b1:=A_ (blk_drew b1.out)
        replace b2:=A_ (blk_drew b2.out)
        replace b3:=A_ (blk_drew b3.out)
        replace HB:=A_ (below_drew1 HB.out)
        obtain ⟨V6,J4,J5⟩:=Kd.R_slice b8.out
        (first | subst J5 | (injection J5 with z8 E8 z9;have E9:=z8.symm;have F0:=z9.symm;clear z8 E8 z9;subst E9;subst F0))
        have x0:0 ≤ (b0:Int):=oa_
        have x2:b0 < (b6.length:Int):=oa_
        obtain ⟨s7,J6,m7,m8⟩:=at_T23 (Kd.R_reads' b8.out).2.2 b0 x0 x2
        cases J6
        replace x0:=eq_true x0
        replace x2:=eq_true x2
        refine start_ (n:=10) (S:=fun w'=>w'.cell? ⟨d2,0,none⟩ = some (.int .i64 1) ∧ w'.cell? ⟨d2,1,none⟩ = some (.int .i64 (wrap64 (1 + d3))) ∧ w'.cell? (s7.add ((b0).toNat * 2)) = some (.int .i64 ((rd_T23 b6 b0).f0)) ∧ w'.cell? ⟨(s7.add ((b0).toNat * 2)).block,(s7.add ((b0).toNat * 2)).off + 1,none⟩ = some (.int .i64 ((rd_T23 b6 b0).f1))) (ds:=[9]) (ba 10 0) (by kernel_rfl) rfl rfl ⟨cz b3 0,cz b3 1,m7,m8⟩ (fun hHeld=>?_);refine with_tabW numnahlaw07_SharesTalmud.tab12 numnahlaw07_SharesTalmud.bits12 (fun HT_ HW_=>?_)
        generalize wc.drew = Y1 at d0 d4 b8 b1 b2 b3 HB m7 m8 hHeld ⊢
        refine pq 0 88 1 HT_ ?_
        refine pq 1 89 3 HT_ ?_
        refine pq 2 90 7 HT_ ?_
        refine pq 3 91 15 HT_ ?_
        refine pq 4 92 31 HT_ ?_
        refine tq 5 93 63 HT_ HW_ hHeld ?_
        refine tq 6 94 127 HT_ HW_ hHeld ?_
        refine oq 7 95 255 HT_ (fun K hK=>?_)
        refine gq Try.func31 #[.agg #[.int .i64 ((rd_T23 b6 b0).f0),.int .i64 ((rd_T23 b6 b0).f1)],.agg #[.int .i64 1,.int .i64 (wrap64 (1 + d3))]] ?_
        with_reducible refine (numnahref07_Sub.calls m9 ((rd_T23 b6 b0).f0) ((rd_T23 b6 b0).f1) 1 (wrap64 (1 + d3)) e9 h0 _ V4.out).mono ?_
        rintro e D0 ⟨rfl,hb⟩
        have s4:=cU hb (hHeld.2.2.1)
        have s5:=cU hb (hHeld.2.2.2)
        refine ⟨_,rfl,?_⟩
        replace d0:=rB d0 hb
        replace d4:=rB d4 hb
        replace b8:=rB b8 hb
        replace b1:=kB b1 hb
        replace b2:=kB b2 hb
        replace b3:=kB b3 hb
        replace HB:=bB HB hb
        (try clear hb)
        have J7:0 ≤ (b0:Int):=oa_
        have J8:(b0:Int) < ((b6.length:Int):Int):=oa_
        obtain ⟨d7,V7,J9,K0,O2,V8,K1⟩:=Kd.R_form b8.out (by omega)
        (first | cases J9 | (injection J9 with ea_ en_ ec_;(first | subst ea_ | (injection ea_ with ea_;subst ea_));subst ec_;clear en_))
        have C5:=A_ K0
        have C6:=A_ K1
        clear K0 O2 K1
        (first | simp only [add_plain] at m7 | skip)
        (first | simp only [add_plain] at m8 | skip)
        obtain ⟨goz_,coz_,eoz_,gbz_,glz_,clz_,HGz_⟩:=Kd.R_form b8.out (by first | omega | (simp only [q4.out,List.length_set];omega) | (simp only [s6.out,List.length_set];omega))
        have gez_:goz_ = d7:=by injection eoz_ with ea_ _ _;injection ea_ with ea_;injection ea_ with ea_;exact ea_.symm
        rw [gez_] at HGz_
        have C6:=A_ HGz_
        clear eoz_ gbz_ glz_ HGz_ gez_
        obtain ⟨V9,K2,K3,A3,A6⟩:=Kd.R_elem b8.out z23 (b0:Int) J7 J8
        obtain rfl:=k23_openM K3
        have F3:World.cell? _ ⟨d7,(b0:Int).toNat * 2,none⟩ = some (.int .i64 ((rd_T23 b6 b0).f0)):=A3 0 _ rfl
        have F4:World.cell? _ ⟨d7,(b0:Int).toNat * 2 + 1,none⟩ = some (.int .i64 ((rd_T23 b6 b0).f1)):=A3 1 _ rfl
        have O3:World.frozen? _ ⟨d7,(b0:Int).toNat * 2,none⟩ = false:=A6 0
        have O4:World.frozen? _ ⟨d7,(b0:Int).toNat * 2 + 1,none⟩ = false:=A6 1
        clear K2 A3 A6 K3
        replace J7:=eq_true J7
        replace J8:=eq_true J8
        obtain ⟨W0,D1,K4,D2,K5⟩:=Kd.R_elem b8.out z23 (b0:Int) oa_ (by have h_:(b0:Int) < ((b6.length:Int):Int):=oa_;first | exact h_ | (have e_:=(Kd.R_reads' b8.out).1;omega) | simpa using h_)
        obtain rfl:=k23_openM K4
        have F5:=(Kd.R_seg b8.out (b0:Int) oa_ (by have h_:(b0:Int) < ((b6.length:Int):Int):=oa_;first | exact h_ | (have e_:=(Kd.R_reads' b8.out).1;omega) | simpa using h_) (seg:=[.int .i64 e9,.int .i64 h0]) (j:=0) D1 D2 (show 2 ≤ 2 from by decide) (x':=(⟨e9,h0⟩:S23)) (k23_mkM _ _ _ (⟨e9,h0⟩:S23) ) (fun _ hk=>hk)).1
        rw [← q4.out] at F5
        have K6:=A_ F5
        clear D1 D2 K5 K4 F5
        refine hK.out _ _ ⟨cz b3 0,cz b3 1,s4,s5⟩ (fun hHeld=>?_)
        clear hK K
        refine nq 95 ?_
        refine pq 8 96 511 HT_ ?_
        refine last_ (i:=9) (N:=none) (ba 10 1023) rfl rfl (one_of HT_.out (by kernel_rfl)) (by decide) (fun K hK=>?_)
        refine skip_ (w1:=?_) (by rfl) rfl ?_ ?_
        rotate_left
        ·go_simp
         rfl
        refine hK.out _ _ ?_
        clear hK K
        refine done_ (done_of HT_.out (by kernel_rfl)) ?_
        try go_wp2
        have G8:Aside0 (Kd.R (Kd.int .i64) 3 ((D0.setCell ⟨d7,(b0:Int).toNat * 2,none⟩ (.int .i64 e9)).setCell ⟨d7,(b0:Int).toNat * 2 + 1,none⟩ (.int .i64 h0)) w.heap.size (fun _=>True) (.slice z3 b7.length z1) b7):=⟨by (with_reducible repeat (first | apply Kd.R_alloc | apply Kd.R_drewN | apply Kd.R_drew));exact Kd.R_mono (Kd.R_far (p:=⟨d7,(b0:Int).toNat * 2 + 1,none⟩) (Kd.R_far (p:=⟨d7,(b0:Int).toNat * 2,none⟩) (Kd.R_types d0.out C6.out (by decide)) (fun _ hk=>hk.2) (.int .i64 e9)) (fun _ hk=>hk.2) (.int .i64 h0)) (fun _ hk=>trivial)⟩
        have G9:Aside0 (Kd.R k23 23 ((D0.setCell ⟨d7,(b0:Int).toNat * 2,none⟩ (.int .i64 e9)).setCell ⟨d7,(b0:Int).toNat * 2 + 1,none⟩ (.int .i64 h0)) w.heap.size (fun k_=>some k_ ≠ (.slice (some ⟨d7,0,none⟩) b6.length J4:Value).ownBlock ∧ k_ ≠ d2) (.slice p0 b5.length o5) b5):=⟨by (with_reducible repeat (first | apply Kd.R_alloc | apply Kd.R_drewN | apply Kd.R_drew));exact Kd.R_mono (Kd.R_far (p:=⟨d7,(b0:Int).toNat * 2 + 1,none⟩) (Kd.R_far (p:=⟨d7,(b0:Int).toNat * 2,none⟩) (Kd.R_mono d4.out (fun k_ hk=>(⟨hk,fun e_=>hk.1 (by rw [e_];rfl)⟩:_ ∧ k_ ≠ d7))) (fun _ hk=>hk.2) (.int .i64 e9)) (fun _ hk=>hk.2) (.int .i64 h0)) (fun _ hk=>⟨hk.1.1,hk.1.2⟩)⟩
        have H0:Aside0 (Kd.R k23 23 ((D0.setCell ⟨d7,(b0:Int).toNat * 2,none⟩ (.int .i64 e9)).setCell ⟨d7,(b0:Int).toNat * 2 + 1,none⟩ (.int .i64 h0)) w.heap.size (fun k_=>some k_ ≠ (.slice p0 b5.length o5:Value).ownBlock ∧ k_ ≠ d2) (.slice (some ⟨d7,0,none⟩) b6.length J4) d5):=⟨kr_ K6⟩
        have H2:Aside0 (((D0.setCell ⟨d7,(b0:Int).toNat * 2,none⟩ (.int .i64 e9)).setCell ⟨d7,(b0:Int).toNat * 2 + 1,none⟩ (.int .i64 h0)).heap[e3]? = some (.cells #[.int .i64 e1,.int .i64 e0,.int .i64 d8] 91 (0,0))):=⟨by (with_reducible repeat (first | refine blk_drewN ?_ _ | refine blk_drew ?_ | refine blk_alloc ?_ _));refine blk_far ?_ (by have h_:=Kd.R_ne b8.out b1.out (by decide);intro e_;exact h_ (by rw [e_];rfl)) _;(with_reducible repeat (first | refine blk_drewN ?_ _ | refine blk_drew ?_ | refine blk_alloc ?_ _));refine blk_far ?_ (by have h_:=Kd.R_ne b8.out b1.out (by decide);intro e_;exact h_ (by rw [e_];rfl)) _;(with_reducible repeat (first | refine blk_drewN ?_ _ | refine blk_drew ?_ | refine blk_alloc ?_ _));exact b1.out⟩
        have H3:Aside0 (((D0.setCell ⟨d7,(b0:Int).toNat * 2,none⟩ (.int .i64 e9)).setCell ⟨d7,(b0:Int).toNat * 2 + 1,none⟩ (.int .i64 h0)).heap[e2]? = some (.cells #[.int .i64 h4,.int .i64 i0] 51 (0,0))):=⟨by (with_reducible repeat (first | refine blk_drewN ?_ _ | refine blk_drew ?_ | refine blk_alloc ?_ _));refine blk_far ?_ (by have h_:=Kd.R_ne b8.out b2.out (by decide);intro e_;exact h_ (by rw [e_];rfl)) _;(with_reducible repeat (first | refine blk_drewN ?_ _ | refine blk_drew ?_ | refine blk_alloc ?_ _));refine blk_far ?_ (by have h_:=Kd.R_ne b8.out b2.out (by decide);intro e_;exact h_ (by rw [e_];rfl)) _;(with_reducible repeat (first | refine blk_drewN ?_ _ | refine blk_drew ?_ | refine blk_alloc ?_ _));exact b2.out⟩
        have O5:Aside0 (((D0.setCell ⟨d7,(b0:Int).toNat * 2,none⟩ (.int .i64 e9)).setCell ⟨d7,(b0:Int).toNat * 2 + 1,none⟩ (.int .i64 h0)).heap[d2]? = some (.cells #[.int .i64 1,.int .i64 (wrap64 (1 + d3))] 23 (0,0))):=⟨by (with_reducible repeat (first | refine blk_drewN ?_ _ | refine blk_drew ?_ | refine blk_alloc ?_ _));refine blk_far ?_ (by have h_:=Kd.R_away b8.out (fun _ hk=>hk.2);intro e_;exact h_ (by rw [e_];rfl)) _;(with_reducible repeat (first | refine blk_drewN ?_ _ | refine blk_drew ?_ | refine blk_alloc ?_ _));refine blk_far ?_ (by have h_:=Kd.R_away b8.out (fun _ hk=>hk.2);intro e_;exact h_ (by rw [e_];rfl)) _;(with_reducible repeat (first | refine blk_drewN ?_ _ | refine blk_drew ?_ | refine blk_alloc ?_ _));exact b3.out⟩
        have O6:Aside0 (Below w.heap.size w ((D0.setCell ⟨d7,(b0:Int).toNat * 2,none⟩ (.int .i64 e9)).setCell ⟨d7,(b0:Int).toNat * 2 + 1,none⟩ (.int .i64 h0))):=⟨by repeat (first | (with_reducible first | exact HB.out | apply below_alloc | apply pw_below_drewN | apply below_drew1 | refine below_set ?_ C5.out | refine below_set ?_ C5.out | refine below_set ?_ e4.out | refine below_set ?_ e6.out | refine below_set ?_ h9.out) | exact HB.out)⟩
        (try clear d0)
        (try clear d4)
        (try clear b8)
        (try clear b1)
        (try clear b2)
        (try clear b3)
        (try clear HB)
        generalize ((D0.setCell ⟨d7,(b0:Int).toNat * 2,none⟩ (.int .i64 e9)).setCell ⟨d7,(b0:Int).toNat * 2 + 1,none⟩ (.int .i64 h0)) = W1 at G8 G9 H0 H2 H3 O5 O6 ⊢
        have d0:=G8
        have d4:=G9
        have b8:=H0
        have b1:=H2
        have b2:=H3
        have b3:=O5
        have HB:=O6
        clear G8 G9 H0 H2 H3 O5 O6
        replace d0:=A_ (Kd.R_drew d0.out)
        replace d4:=A_ (Kd.R_drew d4.out)
        replace b8:=A_ (Kd.R_drew b8.out)
        replace b1:=A_ (blk_drew b1.out)
        replace b2:=A_ (blk_drew b2.out)
        replace b3:=A_ (blk_drew b3.out)
        replace HB:=A_ (below_drew1 HB.out)
        have x3:0 ≤ (b4:Int):=oa_
        have x4:b4 < (d5.length:Int):=(by have h_:(b4:Int) < ((b6.length:Int):Int):=oa_;first | (have e_:=(Kd.R_reads' b8.out).1;omega) | simpa only [q4.out,List.length_set] using h_)
        have O7:((b4:Int) < ((b6.length:Int):Int)) = True:=eq_true oa_
        obtain ⟨F6,K7,i1,i2⟩:=at_T23 (Kd.R_reads' b8.out).2.2 b4 x3 x4
        obtain rfl:(⟨d7,0,none⟩:Addr) = F6:=(by injection K7)
        (first | simp only [add_plain] at i1 | simp only [add_at] at i1 | simp only [Addr.add,Nat.zero_add] at i1 | skip)
        (first | simp only [add_plain] at i2 | simp only [add_at] at i2 | simp only [Addr.add,Nat.zero_add] at i2 | skip)
        replace x3:=eq_true x3
        replace x4:=eq_true x4
        refine start_ (n:=10) (S:=fun w'=>w'.cell? ⟨d2,0,none⟩ = some (.int .i64 1) ∧ w'.cell? ⟨d2,1,none⟩ = some (.int .i64 (wrap64 (1 + d3))) ∧ w'.cell? ⟨d7,(b4).toNat * 2,none⟩ = some (.int .i64 ((rd_T23 d5 b4).f0)) ∧ w'.cell? ⟨d7,(b4).toNat * 2 + 1,none⟩ = some (.int .i64 ((rd_T23 d5 b4).f1))) (ds:=[9]) (ba 10 0) (by kernel_rfl) rfl rfl ⟨cz b3 0,cz b3 1,i1,i2⟩ (fun hHeld=>?_);refine with_tabW numnahlaw07_SharesTalmud.tab13 numnahlaw07_SharesTalmud.bits13 (fun HT_ HW_=>?_)
        generalize W1.drew = Y2 at d0 d4 b8 b1 b2 b3 HB K6 i1 i2 hHeld ⊢
        refine pq 0 97 1 HT_ ?_
        refine pq 1 98 3 HT_ ?_
        refine pq 2 99 7 HT_ ?_
        refine pq 3 100 15 HT_ ?_
        refine pq 4 101 31 HT_ ?_
        refine tq 5 102 63 HT_ HW_ hHeld ?_
        refine tq 6 103 127 HT_ HW_ hHeld ?_
        refine oq 7 104 255 HT_ (fun K hK=>?_)
        refine gq Try.func28 #[.agg #[.int .i64 ((rd_T23 d5 b4).f0),.int .i64 ((rd_T23 d5 b4).f1)],.agg #[.int .i64 1,.int .i64 (wrap64 (1 + d3))]] ?_
        with_reducible refine (numnahref07_Add.calls m9 ((rd_T23 d5 b4).f0) ((rd_T23 d5 b4).f1) 1 (wrap64 (1 + d3)) n3 n4 _ V5.out).mono ?_
        rintro e Y3 ⟨rfl,hb⟩
        have s4:=cU hb (hHeld.2.2.1)
        have s5:=cU hb (hHeld.2.2.2)
        refine ⟨_,rfl,?_⟩
        replace d0:=rB d0 hb
        replace d4:=rB d4 hb
        replace b8:=rB b8 hb
        replace b1:=kB b1 hb
        replace b2:=kB b2 hb
        replace b3:=kB b3 hb
        replace HB:=bB HB hb
        (try clear hb)
        have K8:0 ≤ (b4:Int):=oa_
        have K9:(b4:Int) < ((b6.length:Int):Int):=oa_
        obtain ⟨goz_,coz_,eoz_,gbz_,glz_,clz_,HGz_⟩:=Kd.R_form b8.out (by first | omega | (simp only [q4.out,List.length_set];omega) | (simp only [s6.out,List.length_set];omega))
        have gez_:goz_ = d7:=by injection eoz_ with ea_ _ _;injection ea_ with ea_;injection ea_ with ea_;exact ea_.symm
        rw [gez_] at HGz_
        have C6:=A_ HGz_
        clear eoz_ gbz_ glz_ HGz_ gez_
        obtain ⟨W2,L0,L1,A7,A8⟩:=Kd.R_elem b8.out z23 (b4:Int) K8 K9
        obtain rfl:=k23_openM L1
        have F7:World.cell? _ ⟨d7,(b4:Int).toNat * 2,none⟩ = some (.int .i64 ((rd_T23 d5 b4).f0)):=A7 0 _ rfl
        have F8:World.cell? _ ⟨d7,(b4:Int).toNat * 2 + 1,none⟩ = some (.int .i64 ((rd_T23 d5 b4).f1)):=A7 1 _ rfl
        have O8:World.frozen? _ ⟨d7,(b4:Int).toNat * 2,none⟩ = false:=A8 0
        have O9:World.frozen? _ ⟨d7,(b4:Int).toNat * 2 + 1,none⟩ = false:=A8 1
        clear L0 A7 A8 L1
        replace K8:=eq_true K8
        replace K9:=eq_true K9
        obtain ⟨W3,D3,L2,D4,L3⟩:=Kd.R_elem b8.out z23 (b4:Int) oa_ (by have h_:(b4:Int) < ((b6.length:Int):Int):=oa_;first | exact h_ | (have e_:=(Kd.R_reads' b8.out).1;omega) | simpa using h_)
        obtain rfl:=k23_openM L2
        have F9:=(Kd.R_seg b8.out (b4:Int) oa_ (by have h_:(b4:Int) < ((b6.length:Int):Int):=oa_;first | exact h_ | (have e_:=(Kd.R_reads' b8.out).1;omega) | simpa using h_) (seg:=[.int .i64 n3,.int .i64 n4]) (j:=0) D3 D4 (show 2 ≤ 2 from by decide) (x':=(⟨n3,n4⟩:S23)) (k23_mkM _ _ _ (⟨n3,n4⟩:S23) ) (fun _ hk=>hk)).1
        rw [← s6.out] at F9
        have P0:=A_ F9
        clear D3 D4 L3 L2 F9
        refine hK.out _ _ ⟨cz b3 0,cz b3 1,s4,s5⟩ (fun hHeld=>?_)
        clear hK K
        refine nq 104 ?_
        refine pq 8 105 511 HT_ ?_
        refine last_ (i:=9) (N:=none) (ba 10 1023) rfl rfl (one_of HT_.out (by kernel_rfl)) (by decide) (fun K hK=>?_)
        refine skip_ (w1:=?_) (by rfl) rfl ?_ ?_
        rotate_left
        ·go_simp
         rfl
        refine hK.out _ _ ?_
        clear hK K
        refine done_ (done_of HT_.out (by kernel_rfl)) ?_
        try go_wp2
        go_meet
        case rel=>exact ⟨_,(C9),(1),((wrap64 (1 + d3))),H',⟨by have:=C3.out;have:=s2.out;have:=A1.out;first | omega | exact Nat.le_refl _⟩,⟨by (with_reducible repeat (first | apply Kd.R_alloc | apply Kd.R_drewN | apply Kd.R_drew));exact Kd.R_mono (Kd.R_far (p:=⟨d7,(b4:Int).toNat * 2 + 1,none⟩) (Kd.R_far (p:=⟨d7,(b4:Int).toNat * 2,none⟩) (Kd.R_types d0.out C6.out (by decide)) (fun _ hk=>hk.2) (.int .i64 n3)) (fun _ hk=>hk.2) (.int .i64 n4)) (fun _ hk=>trivial)⟩,⟨by (with_reducible repeat (first | apply Kd.R_alloc | apply Kd.R_drewN | apply Kd.R_drew));exact Kd.R_mono (Kd.R_far (p:=⟨d7,(b4:Int).toNat * 2 + 1,none⟩) (Kd.R_far (p:=⟨d7,(b4:Int).toNat * 2,none⟩) (Kd.R_mono d4.out (fun k_ hk=>(⟨hk,fun e_=>hk.1 (by rw [e_];rfl)⟩:_ ∧ k_ ≠ d7))) (fun _ hk=>hk.2) (.int .i64 n3)) (fun _ hk=>hk.2) (.int .i64 n4)) (fun _ hk=>⟨hk.1.1,hk.1.2⟩)⟩,⟨kr_ P0⟩,⟨by (with_reducible repeat (first | refine blk_drewN ?_ _ | refine blk_drew ?_ | refine blk_alloc ?_ _));refine blk_far ?_ (by have h_:=Kd.R_ne b8.out b1.out (by decide);intro e_;exact h_ (by rw [e_];rfl)) _;(with_reducible repeat (first | refine blk_drewN ?_ _ | refine blk_drew ?_ | refine blk_alloc ?_ _));refine blk_far ?_ (by have h_:=Kd.R_ne b8.out b1.out (by decide);intro e_;exact h_ (by rw [e_];rfl)) _;(with_reducible repeat (first | refine blk_drewN ?_ _ | refine blk_drew ?_ | refine blk_alloc ?_ _));exact b1.out⟩,⟨by (with_reducible repeat (first | refine blk_drewN ?_ _ | refine blk_drew ?_ | refine blk_alloc ?_ _));refine blk_far ?_ (by have h_:=Kd.R_ne b8.out b2.out (by decide);intro e_;exact h_ (by rw [e_];rfl)) _;(with_reducible repeat (first | refine blk_drewN ?_ _ | refine blk_drew ?_ | refine blk_alloc ?_ _));refine blk_far ?_ (by have h_:=Kd.R_ne b8.out b2.out (by decide);intro e_;exact h_ (by rw [e_];rfl)) _;(with_reducible repeat (first | refine blk_drewN ?_ _ | refine blk_drew ?_ | refine blk_alloc ?_ _));exact b2.out⟩,⟨by (with_reducible repeat (first | refine blk_drewN ?_ _ | refine blk_drew ?_ | refine blk_alloc ?_ _));refine blk_far ?_ (by have h_:=Kd.R_away b8.out (fun _ hk=>hk.2);intro e_;exact h_ (by rw [e_];rfl)) _;(with_reducible repeat (first | refine blk_drewN ?_ _ | refine blk_drew ?_ | refine blk_alloc ?_ _));refine blk_far ?_ (by have h_:=Kd.R_away b8.out (fun _ hk=>hk.2);intro e_;exact h_ (by rw [e_];rfl)) _;(with_reducible repeat (first | refine blk_drewN ?_ _ | refine blk_drew ?_ | refine blk_alloc ?_ _));exact b3.out⟩,⟨by repeat (first | (with_reducible first | exact HB.out | apply below_alloc | apply pw_below_drewN | apply below_drew1 | refine below_set ?_ C5.out | refine below_set ?_ C5.out | refine below_set ?_ e4.out | refine below_set ?_ e6.out | refine below_set ?_ h9.out) | exact HB.out)⟩⟩
       case rest =>
        clear F1
        try clear c1
        try clear p1
        try clear q1
        try clear hx1
        try clear c2
        try clear p2
        try clear c3
        try clear c4
        try clear c5
        try clear p5
        try clear q5
        try clear hx5
        try clear hf5
        try clear c6
        try clear p6
        try clear z4
        try clear m4
        try clear q8
        try clear s1
        try clear q9
        try clear r0
        try clear r1
        try clear p14
        try clear q14
        try clear hx14
        try clear E3
        try clear Q7
        try clear c23
        try clear C0
        try clear n2
        try clear s9
        try clear G7
        try clear Y4
        try clear V1
        try clear V2
        try clear Y5
        try clear c33
        try clear V3
        try clear c37
        try clear C4
        try clear o6
        try clear z7
        try clear H4
        try clear C7
        try clear H5
        try clear C8
        try clear I7
        try clear I8
        try clear A2
        try clear I9
        try clear J0
        try clear c53
        try clear J7
        try clear J8
        try clear hx53
        try clear hf53
        try clear J1
        try clear J2
        try clear H6
        try clear J3
        try clear c57
        try clear K8
        try clear K9
        try clear hx57
        try clear hf57
        try clear c61
        try clear p64
        try clear c65
        try clear p7
        try clear p8
        try clear t0
        try clear t1
        try clear t2
        try clear t6
        try clear t7
        try clear p9
        try clear q0
        try clear t3
        try clear t4
        try clear t5
        try clear t8
        try clear t9
        try clear m5
        try clear m6
        try clear m7
        try clear m8
        try clear i1
        try clear i2
        try clear F3
        try clear F4
        try clear F7
        try clear F8
        try clear p1
        try clear p14
        try clear r5
        try clear x0
        try clear x3
        try clear p2
        try clear J7
        try clear K8
        try clear p6
        try clear q1
        try clear q14
        try clear r6
        try clear x2
        try clear x4
        try clear J8
        try clear K9
        obtain ⟨kq,b9,h6,h7,HA,G0,d0,d4,b8,b1,b2,b3,HB⟩:=hcut
        cases kq with
        | zero=>exact absurd HA.out (by simp [numnahlaw07_SharesTalmud.j3])
        | succ G1 =>
         have H:=HA.out
         clear HA
         simp only [numnahlaw07_SharesTalmud.j3] at H
         have G2:=A_ H
         clear H
         go_upto_region 14 with (fail)
         go_cut [126] (fun P1 wc=>∃ (kq:Nat) (o0:Bool),P1 = .bool o0 ∧ Aside0 (numnahlaw07_SharesTalmud.j4 kq d1 b7 b9 o0 = some r) ∧ Aside0 (kq ≤ G1) ∧ Aside0 (Kd.R (Kd.int .i64) 3 wc w.heap.size (fun _=>True) (.slice z3 b7.length z1) b7) ∧ Aside0 (Kd.R k23 23 wc w.heap.size (fun k_=>k_ ≠ d2) r4 b9) ∧ Aside0 (wc.heap[e3]? = some (.cells #[.int .i64 e1,.int .i64 e0,.int .i64 d8] 91 (0,0))) ∧ Aside0 (wc.heap[e2]? = some (.cells #[.int .i64 h4,.int .i64 i0] 51 (0,0))) ∧ Aside0 (wc.heap[d2]? = some (.cells #[.int .i64 h6,.int .i64 h7] 23 (0,0))) ∧ Aside0 (Below w.heap.size w wc))
         case first =>
          have H:=G2.out
          clear G2
          by_cases D5:b0 = b4
          ·rw [if_pos D5] at H
           have p4:(b0 == b4) = true:=beq_iff_eq.mpr D5
           have D6:(b0 != b4) = false:=bne_eq_false_iff_eq.mpr D5
           clear D5
           (first | rw [p4] | (simp only [i64_w,i32_w];rw [p4]) | skip)
           have H':=A_ H
           clear H
           try go_wp2
           replace d0:=A_ (Kd.R_drew d0.out)
           replace d4:=A_ (Kd.R_drew d4.out)
           replace b8:=A_ (Kd.R_drew b8.out)
           replace b1:=A_ (blk_drew b1.out)
           replace b2:=A_ (blk_drew b2.out)
           replace b3:=A_ (blk_drew b3.out)
           replace HB:=A_ (below_drew1 HB.out)
           refine start_ (n:=21) (S:=fun w'=>True) (ds:=[]) (ba 21 0) (by kernel_rfl) rfl rfl trivial (fun hHeld=>?_);refine with_tabW numnahlaw07_SharesTalmud.tab14 numnahlaw07_SharesTalmud.bits14 (fun HT_ HW_=>?_)
           generalize wc.drew = Y6 at d0 d4 b8 b1 b2 b3 HB hHeld ⊢
           refine pq 0 106 1 HT_ ?_
           refine pq 1 107 3 HT_ ?_
           refine pq 2 108 7 HT_ ?_
           refine pq 3 109 15 HT_ ?_
           refine pu 4 110 31 HT_ ?_
           refine pu 5 111 63 HT_ ?_
           refine pu 6 112 127 HT_ ?_
           refine pu 7 113 255 HT_ ?_
           refine pu 8 114 511 HT_ ?_
           refine pu 9 115 1023 HT_ ?_
           refine pu 10 116 2047 HT_ ?_
           refine pu 11 117 4095 HT_ ?_
           refine pu 12 118 8191 HT_ ?_
           refine pq 13 119 16383 HT_ ?_
           refine pq 14 120 32767 HT_ ?_
           refine pu 15 121 65535 HT_ ?_
           refine pu 16 122 131071 HT_ ?_
           refine pu 17 123 262143 HT_ ?_
           refine pu 18 124 524287 HT_ ?_
           refine pu 19 125 1048575 HT_ ?_
           refine pq 20 126 2097151 HT_ ?_
           refine done_ (done_of HT_.out (by kernel_rfl)) ?_
           try go_wp2
           go_meet
           case rel=>exact ⟨_,(true),rf_,H',⟨by have:=C3.out;have:=s2.out;have:=A1.out;have:=G0.out;first | omega | exact Nat.le_refl _⟩,⟨kr_ d0⟩,⟨by (with_reducible repeat (first | apply Kd.R_alloc | apply Kd.R_drewN | apply Kd.R_drew));exact Kd.R_mono b8.out (fun _ hk=>hk.2)⟩,⟨dr_ b1⟩,⟨dr_ b2⟩,⟨dr_ b3⟩,⟨by repeat (first | (with_reducible first | exact HB.out | apply below_alloc | apply pw_below_drewN | apply below_drew1 | refine below_set ?_ e4.out | refine below_set ?_ e6.out | refine below_set ?_ h9.out) | exact HB.out)⟩⟩
          rw [if_neg D5] at H
          have p4:(b0 == b4) = false:=beq_eq_false_iff_ne.mpr D5
          have D6:(b0 != b4) = true:=bne_iff_ne.mpr D5
          (first | rw [p4] | (simp only [i64_w,i32_w];rw [p4]) | skip)
          by_cases L4:0 ≤ b0
          case neg =>
           rw [if_neg L4] at H
           exact absurd H (by simp)
          rw [if_pos L4] at H
          have L5:decide (0 ≤ b0) = true:=decide_eq_true L4
          clear L4
          by_cases L6:b0 < (b9.length:Int)
          case neg =>
           rw [if_neg L6] at H
           exact absurd H (by simp)
          rw [if_pos L6] at H
          have L7:decide (b0 < (b9.length:Int)) = true:=decide_eq_true L6
          clear L6
          by_cases L8:b0 < (b5.length:Int)
          case neg =>
           rw [if_neg L8] at H
           exact absurd H (by simp)
          rw [if_pos L8] at H
          have L9:decide (b0 < (b5.length:Int)) = true:=decide_eq_true L8
          clear L8
          by_cases z2:(((rd_T23 b9 b0).f0) == ((rd_T23 b5 b0).f0) && (((rd_T23 b9 b0).f1) == ((rd_T23 b5 b0).f1))) = true
          ·rw [if_pos z2] at H
           have D7:(((rd_T23 b9 b0).f0) == ((rd_T23 b5 b0).f0) && (((rd_T23 b9 b0).f1) == ((rd_T23 b5 b0).f1))) = true:=z2
           (try (have D8:decide (((rd_T23 b9 b0).f0) = ((rd_T23 b5 b0).f0) && (((rd_T23 b9 b0).f1) == ((rd_T23 b5 b0).f1))) = true:=by simpa using z2))
           (try (have D9:(((rd_T23 b9 b0).f0) == ((rd_T23 b5 b0).f0) && (((rd_T23 b9 b0).f1) == ((rd_T23 b5 b0).f1))) = true:=by simpa using z2))
           clear z2
           have H':=A_ H
           clear H
           try go_wp2
           replace d0:=A_ (Kd.R_drew d0.out)
           replace d4:=A_ (Kd.R_drew d4.out)
           replace b8:=A_ (Kd.R_drew b8.out)
           replace b1:=A_ (blk_drew b1.out)
           replace b2:=A_ (blk_drew b2.out)
           replace b3:=A_ (blk_drew b3.out)
           replace HB:=A_ (below_drew1 HB.out)
           obtain ⟨W4,W5,M0⟩:=Kd.R_slice b8.out
           (first | subst M0 | (injection M0 with z8 E8 z9;have E9:=z8.symm;have F0:=z9.symm;clear z8 E8 z9;subst E9;subst F0))
           have n5:0 ≤ (b0:Int):=oa_
           have n6:b0 < (b9.length:Int):=oa_
           obtain ⟨l5,A9,i3,i4⟩:=at_T23 (Kd.R_reads' b8.out).2.2 b0 n5 n6
           cases A9
           replace n5:=eq_true n5
           replace n6:=eq_true n6
           have n7:0 ≤ (b0:Int):=oa_
           have n8:b0 < (b5.length:Int):=oa_
           obtain ⟨m0,B0,i5,i6⟩:=at_T23 (Kd.R_reads' d4.out).2.2 b0 n7 n8
           cases B0
           replace n7:=eq_true n7
           replace n8:=eq_true n8
           refine start_ (n:=21) (S:=fun w'=>w'.cell? (l5.add ((b0).toNat * 2)) = some (.int .i64 ((rd_T23 b9 b0).f0)) ∧ w'.cell? ⟨(l5.add ((b0).toNat * 2)).block,(l5.add ((b0).toNat * 2)).off + 1,none⟩ = some (.int .i64 ((rd_T23 b9 b0).f1)) ∧ w'.cell? (m0.add ((b0).toNat * 2)) = some (.int .i64 ((rd_T23 b5 b0).f0)) ∧ w'.cell? ⟨(m0.add ((b0).toNat * 2)).block,(m0.add ((b0).toNat * 2)).off + 1,none⟩ = some (.int .i64 ((rd_T23 b5 b0).f1))) (ds:=[]) (ba 21 0) (by kernel_rfl) rfl rfl ⟨i3,i4,i5,i6⟩ (fun hHeld=>?_);refine with_tabW numnahlaw07_SharesTalmud.tab14 numnahlaw07_SharesTalmud.bits14 (fun HT_ HW_=>?_)
           generalize wc.drew = Y7 at d0 d4 b8 b1 b2 b3 HB i3 i4 i5 i6 hHeld ⊢
           refine pq 0 106 1 HT_ ?_
           refine pq 1 107 3 HT_ ?_
           refine pq 2 108 7 HT_ ?_
           refine pq 3 109 15 HT_ ?_
           refine pq 4 110 31 HT_ ?_
           refine pq 5 111 63 HT_ ?_
           refine pq 6 112 127 HT_ ?_
           refine pq 8 114 383 HT_ ?_
           refine pq 9 115 895 HT_ ?_
           refine pq 10 116 1919 HT_ ?_
           refine tq 7 113 2047 HT_ HW_ hHeld ?_
           refine tq 11 117 4095 HT_ HW_ hHeld ?_
           refine pq 12 118 8191 HT_ ?_
           refine pq 13 119 16383 HT_ ?_
           refine pq 14 120 32767 HT_ ?_
           refine pu 15 121 65535 HT_ ?_
           refine pu 16 122 131071 HT_ ?_
           refine pu 17 123 262143 HT_ ?_
           refine pu 18 124 524287 HT_ ?_
           refine pu 19 125 1048575 HT_ ?_
           refine pq 20 126 2097151 HT_ ?_
           refine done_ (done_of HT_.out (by kernel_rfl)) ?_
           try go_wp2
           go_meet
           case rel=>exact ⟨_,(true),rf_,H',⟨by have:=C3.out;have:=s2.out;have:=A1.out;have:=G0.out;first | omega | exact Nat.le_refl _⟩,⟨kr_ d0⟩,⟨by (with_reducible repeat (first | apply Kd.R_alloc | apply Kd.R_drewN | apply Kd.R_drew));exact Kd.R_mono b8.out (fun _ hk=>hk.2)⟩,⟨dr_ b1⟩,⟨dr_ b2⟩,⟨dr_ b3⟩,⟨by repeat (first | (with_reducible first | exact HB.out | apply below_alloc | apply pw_below_drewN | apply below_drew1 | refine below_set ?_ e4.out | refine below_set ?_ e6.out | refine below_set ?_ h9.out) | exact HB.out)⟩⟩
          rw [if_neg z2] at H
          have D7:(((rd_T23 b9 b0).f0) == ((rd_T23 b5 b0).f0) && (((rd_T23 b9 b0).f1) == ((rd_T23 b5 b0).f1))) = false:=by simpa using z2
          (try (have D8:decide (((rd_T23 b9 b0).f0) = ((rd_T23 b5 b0).f0) && (((rd_T23 b9 b0).f1) == ((rd_T23 b5 b0).f1))) = false:=by simpa using z2))
          (try (have D9:(((rd_T23 b9 b0).f0) == ((rd_T23 b5 b0).f0) && (((rd_T23 b9 b0).f1) == ((rd_T23 b5 b0).f1))) = false:=by simpa using z2))
          (try (have R6:¬ (((rd_T23 b9 b0).f0) = ((rd_T23 b5 b0).f0) && (((rd_T23 b9 b0).f1) == ((rd_T23 b5 b0).f1))):=by simpa using z2))
          clear z2
          replace H:=Option.bind_eq_some_iff.mp H
          obtain ⟨q7,M1,H⟩:=H
          replace H:(numnahlaw07_SharesTalmud.j4 G1 d1 b7 b9 (!q7)) = some r:=H
          have W6:=A_ M1
          clear M1
          have H':=A_ H
          clear H
          try go_wp2
          replace d0:=A_ (Kd.R_drew d0.out)
          replace d4:=A_ (Kd.R_drew d4.out)
          replace b8:=A_ (Kd.R_drew b8.out)
          replace b1:=A_ (blk_drew b1.out)
          replace b2:=A_ (blk_drew b2.out)
          replace b3:=A_ (blk_drew b3.out)
          replace HB:=A_ (below_drew1 HB.out)
          obtain ⟨W7,P2,M2⟩:=Kd.R_slice b8.out
          (first | subst M2 | (injection M2 with z8 E8 z9;have E9:=z8.symm;have F0:=z9.symm;clear z8 E8 z9;subst E9;subst F0))
          have n5:0 ≤ (b0:Int):=oa_
          have n6:b0 < (b9.length:Int):=oa_
          obtain ⟨l5,A9,i3,i4⟩:=at_T23 (Kd.R_reads' b8.out).2.2 b0 n5 n6
          cases A9
          replace n5:=eq_true n5
          replace n6:=eq_true n6
          have n7:0 ≤ (b0:Int):=oa_
          have n8:b0 < (b5.length:Int):=oa_
          obtain ⟨m0,B0,i5,i6⟩:=at_T23 (Kd.R_reads' d4.out).2.2 b0 n7 n8
          cases B0
          replace n7:=eq_true n7
          replace n8:=eq_true n8
          refine start_ (n:=21) (S:=fun w'=>w'.cell? (l5.add ((b0).toNat * 2)) = some (.int .i64 ((rd_T23 b9 b0).f0)) ∧ w'.cell? ⟨(l5.add ((b0).toNat * 2)).block,(l5.add ((b0).toNat * 2)).off + 1,none⟩ = some (.int .i64 ((rd_T23 b9 b0).f1)) ∧ w'.cell? (m0.add ((b0).toNat * 2)) = some (.int .i64 ((rd_T23 b5 b0).f0)) ∧ w'.cell? ⟨(m0.add ((b0).toNat * 2)).block,(m0.add ((b0).toNat * 2)).off + 1,none⟩ = some (.int .i64 ((rd_T23 b5 b0).f1))) (ds:=[]) (ba 21 0) (by kernel_rfl) rfl rfl ⟨i3,i4,i5,i6⟩ (fun hHeld=>?_);refine with_tabW numnahlaw07_SharesTalmud.tab14 numnahlaw07_SharesTalmud.bits14 (fun HT_ HW_=>?_)
          generalize wc.drew = Y8 at d0 d4 b8 b1 b2 b3 HB i3 i4 i5 i6 hHeld ⊢
          refine pq 0 106 1 HT_ ?_
          refine pq 1 107 3 HT_ ?_
          refine pq 2 108 7 HT_ ?_
          refine pq 3 109 15 HT_ ?_
          refine pq 4 110 31 HT_ ?_
          refine pq 5 111 63 HT_ ?_
          refine pq 6 112 127 HT_ ?_
          refine pq 8 114 383 HT_ ?_
          refine pq 9 115 895 HT_ ?_
          refine pq 10 116 1919 HT_ ?_
          refine tq 7 113 2047 HT_ HW_ hHeld ?_
          refine tq 11 117 4095 HT_ HW_ hHeld ?_
          refine pq 12 118 8191 HT_ ?_
          refine pq 13 119 16383 HT_ ?_
          refine pq 14 120 32767 HT_ ?_
          refine pq 15 121 65535 HT_ ?_
          refine pq 16 122 131071 HT_ ?_
          refine pq 17 123 262143 HT_ ?_
          refine oq 18 124 524287 HT_ (fun K hK=>?_)
          refine gq Try.func55 #[.slice z3 b7.length z1,.int .i64 d1,.slice (some l5) b9.length P2] ?_
          with_reducible refine (numnahref07_Divides.calls G1 _ _ b7 d1 _ _ b9 q7 _ ?side1 ?side2 ?side3 ?side4 W6.out).mono ?_
          (case side1=>repeat (first | exact (Kd.R_reads' d0.out).2.2 | (with_reducible refine Kd.C_alloc ?_ _) | (with_reducible refine Kd.C_drewN ?_ _) | (with_reducible refine Kd.C_drew ?_)))
          (case side2=>exact (Kd.R_reads' d0.out).2.1)
          (case side3=>repeat (first | exact (Kd.R_reads' b8.out).2.2 | (with_reducible refine Kd.C_alloc ?_ _) | (with_reducible refine Kd.C_drewN ?_ _) | (with_reducible refine Kd.C_drew ?_)))
          (case side4=>exact (Kd.R_reads' b8.out).2.1)
          rintro e Y9 ⟨rfl,hb⟩
          have P3:=cU hb (hHeld.1)
          have P4:=cU hb (hHeld.2.1)
          have s4:=cU hb (hHeld.2.2.1)
          have s5:=cU hb (hHeld.2.2.2)
          refine ⟨_,rfl,?_⟩
          replace d0:=rB d0 hb
          replace d4:=rB d4 hb
          replace b8:=rB b8 hb
          replace b1:=kB b1 hb
          replace b2:=kB b2 hb
          replace b3:=kB b3 hb
          replace HB:=bB HB hb
          (try clear hb)
          refine hK.out _ _ ⟨P3,P4,s4,s5⟩ (fun hHeld=>?_)
          clear hK K
          refine nq 124 ?_
          refine pq 19 125 1048575 HT_ ?_
          refine pq 20 126 2097151 HT_ ?_
          refine done_ (done_of HT_.out (by kernel_rfl)) ?_
          try go_wp2
          go_meet
          case rel=>exact ⟨_,(!q7),rf_,H',⟨by have:=C3.out;have:=s2.out;have:=A1.out;have:=G0.out;first | omega | exact Nat.le_refl _⟩,⟨kr_ d0⟩,⟨by (with_reducible repeat (first | apply Kd.R_alloc | apply Kd.R_drewN | apply Kd.R_drew));exact Kd.R_mono b8.out (fun _ hk=>hk.2)⟩,⟨dr_ b1⟩,⟨dr_ b2⟩,⟨dr_ b3⟩,⟨by repeat (first | (with_reducible first | exact HB.out | apply below_alloc | apply pw_below_drewN | apply below_drew1 | refine below_set ?_ e4.out | refine below_set ?_ e6.out | refine below_set ?_ h9.out) | exact HB.out)⟩⟩
         case rest =>
          clear G2
          try clear p1
          try clear q1
          try clear hx1
          try clear p2
          try clear c5
          try clear c6
          try clear c7
          try clear p14
          try clear q14
          try clear hx14
          try clear H6
          try clear D5
          try clear p4
          try clear D6
          try clear L4
          try clear L5
          try clear L6
          try clear L7
          try clear L8
          try clear L9
          try clear z2
          try clear D7
          try clear D8
          try clear D9
          try clear i3
          try clear i4
          try clear i5
          try clear i6
          try clear n5
          try clear n7
          try clear n6
          try clear n8
          obtain ⟨kq,o0,rfl,HA,W8,d0,b8,b1,b2,b3,HB⟩:=hcut
          cases kq with
          | zero=>exact absurd HA.out (by simp [numnahlaw07_SharesTalmud.j4])
          | succ n0 =>
           have H:=HA.out
           clear HA
           simp only [numnahlaw07_SharesTalmud.j4] at H
           by_cases N6:o0 = true
           ·subst N6
            have H1:((numnahlaw07_awake.f n0).bind fun p3=>(some p3)) = some r:=by rw [if_pos rfl] at H;exact H
            clear H
            have H:=H1
            clear H1
            replace H:=Option.bind_eq_some_iff.mp H
            obtain ⟨p3,M3,H⟩:=H
            replace H:(some p3) = some r:=H
            have W9:=A_ M3
            clear M3
            obtain rfl:=Option.some.inj H
            go_wp2_with (first | ((with_reducible refine gate_callee (f:=22) rfl ?_);refine goesL_ (some 127) rfl rfl Try.func22 (by kernel_rfl) rfl #[] rfl (by (try simp only [List.map_toArray,List.map_cons,List.map_nil]);first | done | rfl | (simp only [List.length_drop,List.length_take];rfl)) ?_;(with_reducible refine (numnahlaw07_awake.calls n0  p3 _ W9.out).mono ?_);rintro e Z0 ⟨rfl,hb⟩;refine ⟨_,rfl,?_⟩;replace d0:=rB d0 hb;replace b8:=rB b8 hb;replace b1:=kB b1 hb;replace b2:=kB b2 hb;replace b3:=kB b3 hb;replace HB:=bB HB hb;(try clear hb)))
            go_ret
            exact ⟨by first | rfl | (simp [errW_none,errW_some] <;> rfl) | (simp [*,errW_none,errW_some] <;> rfl),by repeat (first | (with_reducible first | exact HB.out | apply below_alloc | apply pw_below_drewN | apply below_drew1 | refine below_set ?_ e4.out | refine below_set ?_ e6.out | refine below_set ?_ h9.out) | exact HB.out)⟩
           replace N6:=Bool.eq_false_iff.mpr N6
           subst N6
           have H1:((shares_Agrees.f n0 b7 d1 b9).bind fun i7=>(if i7.2.2.2 = 0 then (if i7.2.2.1 = true then (some false) else (if i7.1 < i7.2.1 then ((shares_Right.f n0 3 b7 d1 b9).bind fun h3=>(if h3 = 10 then ((numnahlaw07_awake.f n0).bind fun i9=>(some i9)) else (some false))) else (some false))) else (some false))) = some r:=by rw [if_neg (show ¬ (false = true) by decide)] at H;exact H
           clear H
           have H:=H1
           clear H1
           replace H:=Option.bind_eq_some_iff.mp H
           obtain ⟨⟨j5,l6,E0,o9⟩,A820,H⟩:=H
           replace H:(if o9 = 0 then (if E0 = true then (some false) else (if j5 < l6 then ((shares_Right.f n0 3 b7 d1 b9).bind fun h3=>(if h3 = 10 then ((numnahlaw07_awake.f n0).bind fun i9=>(some i9)) else (some false))) else (some false))) else (some false)) = some r:=H
           have X0:=A_ A820
           clear A820
           by_cases G3:o9 = 0
           case neg =>
            rw [if_neg G3] at H
            have M4:(o9 == 0) = false:=beq_eq_false_iff_ne.mpr G3
            have M5:(o9 != 0) = true:=bne_iff_ne.mpr G3
            exact absurd ((Option.some.inj H).trans HRT.out) (by decide)
           rw [if_pos G3] at H
           have M4:(o9 == 0) = true:=beq_iff_eq.mpr G3
           have M5:(o9 != 0) = false:=bne_eq_false_iff_eq.mpr G3
           clear G3
           by_cases N7:E0 = true
           ·subst N7
            have H1:(some false) = some r:=by rw [if_pos rfl] at H;exact H
            clear H
            have H:=H1
            clear H1
            exact absurd ((Option.some.inj H).trans HRT.out) (by decide)
           replace N7:=Bool.eq_false_iff.mpr N7
           subst N7
           have H1:(if j5 < l6 then ((shares_Right.f n0 3 b7 d1 b9).bind fun h3=>(if h3 = 10 then ((numnahlaw07_awake.f n0).bind fun i9=>(some i9)) else (some false))) else (some false)) = some r:=by rw [if_neg (show ¬ (false = true) by decide)] at H;exact H
           clear H
           have H:=H1
           clear H1
           by_cases H7:j5 < l6
           case neg =>
            rw [if_neg H7] at H
            have M6:decide (j5 < l6) = false:=decide_eq_false H7
            clear H7
            exact absurd ((Option.some.inj H).trans HRT.out) (by decide)
           rw [if_pos H7] at H
           have M6:decide (j5 < l6) = true:=decide_eq_true H7
           clear H7
           replace H:=Option.bind_eq_some_iff.mp H
           obtain ⟨h3,M7,H⟩:=H
           replace H:(if h3 = 10 then ((numnahlaw07_awake.f n0).bind fun i9=>(some i9)) else (some false)) = some r:=H
           have X1:=A_ M7
           clear M7
           by_cases G4:h3 = 10
           case neg =>
            rw [if_neg G4] at H
            have M8:(h3 == 10) = false:=beq_eq_false_iff_ne.mpr G4
            have M9:(h3 != 10) = true:=bne_iff_ne.mpr G4
            exact absurd ((Option.some.inj H).trans HRT.out) (by decide)
           rw [if_pos G4] at H
           have M8:(h3 == 10) = true:=beq_iff_eq.mpr G4
           have M9:(h3 != 10) = false:=bne_eq_false_iff_eq.mpr G4
           clear G4
           replace H:=Option.bind_eq_some_iff.mp H
           obtain ⟨i9,N0,H⟩:=H
           replace H:(some i9) = some r:=H
           have X2:=A_ N0
           clear N0
           obtain rfl:=Option.some.inj H
           obtain ⟨P5,N1,P6⟩:=Kd.R_slice b8.out
           subst P6
           go_wp2_with (first | ((with_reducible refine gate_callee (f:=54) rfl ?_);refine goesL_ (some 132) rfl rfl Try.func54 (by kernel_rfl) rfl #[.slice z3 b7.length z1,.int .i64 d1,.slice P5 b9.length N1] rfl (by (try simp only [List.map_toArray,List.map_cons,List.map_nil]);first | done | rfl | (simp only [List.length_drop,List.length_take];rfl)) ?_;(with_reducible refine (shares_Agrees.calls n0 _ _ b7 d1 _ _ b9 j5 l6 false o9 _ ?side1 ?side2 ?side3 ?side4 X0.out).mono ?_);(case side1=>repeat (first | exact (Kd.R_reads' d0.out).2.2 | (with_reducible refine Kd.C_alloc ?_ _) | (with_reducible refine Kd.C_drewN ?_ _) | (with_reducible refine Kd.C_drew ?_)));(case side2=>exact (Kd.R_reads' d0.out).2.1);(case side3=>repeat (first | exact (Kd.R_reads' b8.out).2.2 | (with_reducible refine Kd.C_alloc ?_ _) | (with_reducible refine Kd.C_drewN ?_ _) | (with_reducible refine Kd.C_drew ?_)));(case side4=>exact (Kd.R_reads' b8.out).2.1);rintro e Z1 ⟨rfl,hb⟩;refine ⟨_,rfl,?_⟩;replace d0:=rB d0 hb;replace b8:=rB b8 hb;replace b1:=kB b1 hb;replace b2:=kB b2 hb;replace b3:=kB b3 hb;replace HB:=bB HB hb;(try clear hb)) | ((with_reducible refine gate_dst (N:=17) rfl ?_);(try (refine gate_guard (by rfl) ?_;dsimp only));refine box_event ?hg (N:=17) ?hd (cs:=#[.int .i64 0,.int .i64 0]) (t:=51) ?hr ?_;(case hd=>rfl);(case hg=>rfl);(case hr=>first | (go_simp;done) | (go_simp;rfl));intro h5 hg R7 hbox hb;have e8:=A_ hbox;have G5:=gw hg HB;have G6:=G5;have l7:=nl hg b1;have r7:=ng hg b1;have l8:=nl hg b2;have r8:=ng hg b2;have l9:=nl hg b3;have r9:=ng hg b3;replace d0:=rB d0 hb;replace b8:=rB b8 hb;replace b1:=kB b1 hb;replace b2:=kB b2 hb;replace b3:=kB b3 hb;replace HB:=bB HB hb;clear hb hbox hg;have R8:=r7.out;have R9:=l7.out;have P7:=r8.out;have P8:=l8.out;have P9:=r9.out;have Q0:=l9.out;have N2:R7.cell? ⟨h5,0,none⟩ = some (.int .i64 0):=cz e8 0;have N3:R7.cell? ⟨h5,1,none⟩ = some (.int .i64 0):=cz e8 1;have N4:=blk_frozen e8.out 0;have N5:=blk_frozen e8.out 1) | (go_at_call 37;(with_reducible refine (shares_Right.calls n0 3 _ _ b7 d1 _ _ b9 h3 _ ?side1 ?side2 ?side3 ?side4 X1.out).mono ?_);(case side1=>refine (Kd.R_reads' (e:=3) (base:=w.heap.size) (ok:=fun k_=>True) (n:=b7.length) (c:=z1) ?_).2.2;exact (by (with_reducible repeat (first | apply Kd.R_alloc | apply Kd.R_drewN | apply Kd.R_drew));exact (Kd.R_mono (Kd.R_far (p:=⟨h5,1,none⟩) (Kd.R_far (p:=⟨h5,0,none⟩) (Kd.R_types d0.out e8.out (by decide)) (fun _ hk=>hk.2) (.int .i64 j5)) (fun _ hk=>hk.2) (.int .i64 l6)) (fun _ h_=>h_.1))));(case side2=>exact (Kd.R_reads' d0.out).2.1);(case side3=>refine (Kd.R_reads' (e:=23) (base:=w.heap.size) (ok:=fun k_=>k_ ≠ d2) (n:=b9.length) (c:=N1) ?_).2.2;exact (by (with_reducible repeat (first | apply Kd.R_alloc | apply Kd.R_drewN | apply Kd.R_drew));exact (Kd.R_mono (Kd.R_far (p:=⟨h5,1,none⟩) (Kd.R_far (p:=⟨h5,0,none⟩) (Kd.R_types b8.out e8.out (by decide)) (fun _ hk=>hk.2) (.int .i64 j5)) (fun _ hk=>hk.2) (.int .i64 l6)) (fun _ h_=>h_.1))));(case side4=>exact (Kd.R_reads' b8.out).2.1);rintro e X3 ⟨rfl,hb⟩;replace d0:=A_ (Kd.R_below (by (with_reducible repeat (first | apply Kd.R_alloc | apply Kd.R_drewN | apply Kd.R_drew));exact (Kd.R_mono (Kd.R_far (p:=⟨h5,1,none⟩) (Kd.R_far (p:=⟨h5,0,none⟩) (Kd.R_types d0.out e8.out (by decide)) (fun _ hk=>hk.2) (.int .i64 j5)) (fun _ hk=>hk.2) (.int .i64 l6)) (fun _ h_=>h_.1))) hb);replace b8:=A_ (Kd.R_below (by (with_reducible repeat (first | apply Kd.R_alloc | apply Kd.R_drewN | apply Kd.R_drew));exact (Kd.R_mono (Kd.R_far (p:=⟨h5,1,none⟩) (Kd.R_far (p:=⟨h5,0,none⟩) (Kd.R_types b8.out e8.out (by decide)) (fun _ hk=>hk.2) (.int .i64 j5)) (fun _ hk=>hk.2) (.int .i64 l6)) (fun _ h_=>h_.1))) hb);replace b1:=A_ (blk_below (g:=e3) (o:=.cells #[.int .i64 e1,.int .i64 e0,.int .i64 d8] 91 (0,0)) (bf2_ l7 l7 b1) hb);replace b2:=A_ (blk_below (g:=e2) (o:=.cells #[.int .i64 h4,.int .i64 i0] 51 (0,0)) (bf2_ l8 l8 b2) hb);replace b3:=A_ (blk_below (g:=d2) (o:=.cells #[.int .i64 h6,.int .i64 h7] 23 (0,0)) (bf2_ l9 l9 b3) hb);replace e8:=A_ (blk_below (g:=h5) (o:=.cells #[.int .i64 j5,.int .i64 l6] 51 (0,0)) (by (with_reducible repeat (first | refine blk_drewN ?_ _ | refine blk_drew ?_ | refine blk_alloc ?_ _));refine blk_put (cs:=#[.int .i64 j5,.int .i64 0]) ?_ 1 _ rfl;(with_reducible repeat (first | refine blk_drewN ?_ _ | refine blk_drew ?_ | refine blk_alloc ?_ _));refine blk_put (cs:=#[.int .i64 0,.int .i64 0]) ?_ 0 _ rfl;(with_reducible repeat (first | refine blk_drewN ?_ _ | refine blk_drew ?_ | refine blk_alloc ?_ _));exact e8.out) hb);replace HB:=bB HB hb;(try clear hb)) | (go_at_call 22;(with_reducible refine (numnahlaw07_awake.calls n0  i9 _ X2.out).mono ?_);rintro e X4 ⟨rfl,hb⟩;replace d0:=rB d0 hb;replace b8:=rB b8 hb;replace b1:=kB b1 hb;replace b2:=kB b2 hb;replace b3:=kB b3 hb;replace e8:=kB e8 hb;replace HB:=bB HB hb;(try clear hb)))
           go_ret
           exact ⟨by first | rfl | (simp [errW_none,errW_some] <;> rfl) | (simp [*,errW_none,errW_some] <;> rfl),by repeat (first | (with_reducible first | exact HB.out | apply below_alloc | apply pw_below_drewN | apply below_drew1 | refine below_set ?_ e4.out | refine below_set ?_ e6.out | refine below_set ?_ h9.out | refine below_set ?_ G6.out) | exact HB.out)⟩
end Go.Proofs.Ytjohcjfmlhihbaa.G
set_option linter.unusedSectionVars false
namespace Go.Proofs.Ytjohcjfmlhihbaa.P
open Go Go.RowKit Go.Proofs.Ytjohcjfmlhihbaa.G
open Go.Proofs.YtjohcjfmlhihbaaW.PrintWords Go.Proofs.YtjohcjfmlhihbaaW.PrintMore
theorem inS_enc {x:List Rat} (h:∀ q ∈ x,Sm 1000000000 1000000000 q):∀ a ∈ encL x,inS a:=fun a ha=>by
 obtain ⟨q,hq,rfl⟩:=List.mem_map.1 ha
 have s1:=(h q hq).num
 have s2:=(h q hq).den
 exact ⟨⟨by show _ ≤ q.num;omega,by show q.num ≤ _;omega⟩,⟨by show _ ≤ (q.den:Int);omega,by show (q.den:Int) ≤ _;omega⟩⟩
section
variable {l:List Int} (h:IsCl l) {E:Int} (h0:0 ≤ E) (h1:E ≤ sI l) {φ:Rat → Rat} (hf:Form 3 (cl l) (E:Rat) φ) (ht:tot ((cl l).map φ) = (E:Rat)) (hw:∀ c ∈ cl l,0 ≤ φ c ∧ φ c ≤ c) (hD:∀ c ∈ cl l,(φ c).den ≤ 20)
include h h0 h1 hf ht hw hD
theorem tal_div:IsDiv l E ((cl l).map φ):=by
 refine ⟨by rw [List.length_map,cl_length],fun i hi1 hi2=>?_,ht⟩
 rw [List.getElem_map,cl_get hi2]
 have hc:(l[i]:Rat) ∈ cl l:=List.mem_map.2 ⟨l[i],List.getElem_mem hi2,rfl⟩
 exact ⟨(hw _ hc).1,(hw _ hc).2,hD _ hc⟩
theorem tal_pairs (a b:Nat) (ha:a < l.length) (hb:b < l.length):garR (((cl l).map φ)[a]'(by rw [List.length_map,cl_length];exact ha) + ((cl l).map φ)[b]'(by rw [List.length_map,cl_length];exact hb)) (l[a]:Rat) (l[b]:Rat) = ((cl l).map φ)[a]'(by rw [List.length_map,cl_length];exact ha):=by
 rw [List.getElem_map,List.getElem_map,cl_get ha,cl_get hb]
 exact tal_pair hf _ _
theorem tal_first:∃ a b,Ev (fun k=>shares_Agrees.f k l E (encL ((cl l).map φ))) (a,b,true,0):=by
 obtain ⟨r,hr,e1⟩:=ev_AgreesP h h0 h1 (tal_div h h0 h1 hf ht hw hD)
 have:r.2.2 = true:=by
  cases hv:r.2.2 with
  | true=>rfl
  | false =>
   obtain ⟨_,a,b,ha,hb,hxa,hxb,_,hne⟩:=hr.1 hv
   exact absurd (tal_pairs h h0 h1 hf ht hw hD a b ha hb) hne
 rw [this] at e1
 exact ⟨_,_,e1⟩
omit h h0 h1 hf ht hw hD in
theorem tal_yes {w:List S23}:Ev (fun k=>numnahlaw07_SharesTalmud.j4 k E l w true) true:=by
 refine Ev.step (f:=fun k=>(numnahlaw07_awake.f k).bind fun t=>some t) (fun k=>?_) (Ev.bind ev_awake (Ev.now _))
 rw [numnahlaw07_SharesTalmud.j4,if_pos rfl]
theorem tal_no {z:List Rat} (hz:IsDiv l E z) (hne:z ≠ (cl l).map φ) (haw:Ev (fun k=>shares_Award.f k 3 l E) (encL ((cl l).map φ),0)):Ev (fun k=>numnahlaw07_SharesTalmud.j4 k E l (encL z) false) true:=by
 obtain ⟨r,hr,e1⟩:=ev_AgreesP h h0 h1 hz
 have hlen:((cl l).map φ).length = l.length:=by rw [List.length_map,cl_length]
 have hrf:r.2.2 = false:=by
  cases hv:r.2.2 with
  | false=>rfl
  | true =>
   exact absurd (agree_unique hz.len hlen (by rw [hz.sum,ht]) (told_all hr hv hz.len) (fun a b ha hb _=>tal_pairs h h0 h1 hf ht hw hD a b ha hb)) hne
 have hlt:=(hr.1 hrf).1
 rw [hrf] at e1
 have hl:=h.ten
 have hR:=ev_Right (w:=encL z) (by rw [encL_length,hlen];omega) haw
 rw [if_neg (fun e=>hne (encL_inj e).symm)] at hR
 obtain ⟨K1,e1⟩:=e1
 obtain ⟨K2,e2⟩:=hR
 obtain ⟨K3,e3⟩:=ev_awake
 refine ⟨K1 + K2 + K3 + 1,fun k hk=>?_⟩
 obtain ⟨m,rfl⟩:∃ m,k = m + 1:=⟨k - 1,by omega⟩
 have f1:=e1 m (by omega)
 have f2:=e2 m (by omega)
 have f3:=e3 m (by omega)
 show numnahlaw07_SharesTalmud.j4 (m + 1) _ _ _ _ = _
 rw [numnahlaw07_SharesTalmud.j4,if_neg (by decide)]
 simp only [f1,Option.bind_some,if_true,Bool.false_eq_true,if_false,hlt,f2,f3]
theorem tal_j1 (haw:Ev (fun k=>shares_Award.f k 3 l E) (encL ((cl l).map φ),0)) (o0 o1 o2:Int):Ev (fun k=>numnahlaw07_SharesTalmud.j1 k E l (encL ((cl l).map φ)) false o0 o1 o2) true:=by
 have hl:=h.ten
 have hl1:=h.one
 obtain ⟨x,hx⟩:∃ x,(cl l).map φ = x:=⟨_,rfl⟩
 have hxl:x.length = l.length:=by rw [← hx,List.length_map,cl_length]
 have hdiv:=tal_div h h0 h1 hf ht hw hD
 rw [hx] at hdiv haw
 have hxs:=x_small h hdiv.len hdiv.ok
 obtain ⟨i,i0,i1,hi⟩:=mod_some o0 (n:=(l.length:Int)) (by omega) (by omega)
 obtain ⟨j,j0,j1,hj⟩:=mod_some o1 (n:=(l.length:Int)) (by omega) (by omega)
 obtain ⟨p,p0,p1,hp⟩:=mod_some o2 (n:=2) (by omega) (by omega)
 obtain ⟨i,rfl⟩:∃ n:Nat,i = (n:Int):=⟨i.toNat,by omega⟩
 obtain ⟨j,rfl⟩:∃ n:Nat,j = (n:Int):=⟨j.toNat,by omega⟩
 have hil:i < x.length:=by omega
 have hjl:j < x.length:=by omega
 have htake:(encL x).take 11 = encL x:=List.take_of_length_le (by rw [encL_length];omega)
 obtain ⟨t,t0,td1,tn,td⟩:∃ t:Rat,t ≠ 0 ∧ t.den ≤ 2 ∧ t.num = 1 ∧ (t.den:Int) = 1 + p:=by
  obtain rfl | rfl:p = 0 ∨ p = 1:=by omega
  ·exact ⟨1,by decide,by decide,by decide,by decide⟩
  ·exact ⟨mkRat 1 2,by decide,by decide,by decide,by decide⟩
 have ts:Sm 1 2 t:=⟨by rw [tn];decide,td1⟩
 have hwp:wrap64 (1 + p) = (t.den:Int):=by rw [td];exact wrap_id (by omega) (by omega)
 have si:=q_sm (hxs _ (List.getElem_mem hil))
 have sj:=q_sm (hxs _ (List.getElem_mem hjl))
 have j3:∀ z:List Rat,z.length = x.length → (∀ q ∈ z,Sm 1000000000 1000000000 q) → Ev (fun k=>numnahlaw07_SharesTalmud.j3 k E l (encL x) (i:Int) (j:Int) (encL z)) true:=by
  intro z hzl hzs
  by_cases hij:i = j
  ·subst hij
   refine Ev.step (fun k=>?_) (tal_yes (E:=E) (l:=l) (w:=encL z))
   rw [numnahlaw07_SharesTalmud.j3,if_pos rfl]
  ·have hiz:i < z.length:=by omega
   have start:∀ k,numnahlaw07_SharesTalmud.j3 (k + 1) E l (encL x) (i:Int) (j:Int) (encL z) = if ((z[i].num == x[i].num) && ((z[i].den:Int) == (x[i].den:Int))) = true then numnahlaw07_SharesTalmud.j4 k E l (encL z) true else ((numnahref07_Divides.f k l E (encL z)).bind fun t=>numnahlaw07_SharesTalmud.j4 k E l (encL z) (!t)):=by
    intro k
    rw [numnahlaw07_SharesTalmud.j3,if_neg (by omega),encL_length,encL_length,if_pos (by omega),if_pos (by omega),if_pos (by omega),rdE hiz,rdE hil]
    rfl
   by_cases he:z[i] = x[i]
   ·refine Ev.step start (Ev.congr (fun k=>if_pos ?_) (tal_yes (E:=E) (l:=l) (w:=encL z)))
    rw [he];simp
   ·obtain ⟨b,hb,hev⟩:=ev_divides h (inS_enc hzs) E
    refine Ev.step start (Ev.congr (fun k=>if_neg ?_) (Ev.bind hev ?_))
    ·intro hc
     simp only [Bool.and_eq_true,beq_iff_eq] at hc
     exact he (Rat.ext hc.1 (by omega))
    ·cases b with
     | false=>exact tal_yes (E:=E) (l:=l) (w:=encL z)
     | true =>
      obtain ⟨z',hz',hd⟩:=hb.1 rfl
      obtain rfl:z = z':=encL_inj hz'
      have haw':=haw
      rw [← hx] at haw'
      exact tal_no h h0 h1 hf ht hw hD hd (fun e=>he (by rw [hx] at e;subst e;rfl)) haw'
 have big:∀ {A D:Nat} {q:Rat},Sm A D q → A ≤ 1000000000 → D ≤ 1000000000 → Sm 1000000000 1000000000 q:=fun s a d=>s.mono a d
 have xbig:∀ q ∈ x,Sm 1000000000 1000000000 q:=fun q hq=>big (q_sm (hxs q hq)) (by decide) (by decide)
 have j2f:Ev (fun k=>numnahlaw07_SharesTalmud.j2 k E l (encL x) (i:Int) (j:Int) (encL x) false 1 (t.den:Int)) true:=by
  refine Ev.step (fun k=>?_) (j3 x rfl xbig)
  rw [numnahlaw07_SharesTalmud.j2,if_neg (by decide)]
 have j2t:i ≠ j → Ev (fun k=>numnahlaw07_SharesTalmud.j2 k E l (encL x) (i:Int) (j:Int) (encL x) true 1 (t.den:Int)) true:=by
  intro hij
  have s1:=ev_rsub (si.fits ts (by decide) (by decide))
  have s2:=ev_radd (sj.fits ts (by decide) (by decide))
  rw [tn] at s1 s2
  have hz:=j3 ((x.set i (x[i] - t)).set j (x[j] + t)) (by simp) (fun q hq=>by
   rcases List.mem_or_eq_of_mem_set hq with hq | rfl
   ·rcases List.mem_or_eq_of_mem_set hq with hq | rfl
    ·exact xbig q hq
    ·exact big (si.sub ts) (by decide) (by decide)
   ·exact big (sj.add ts) (by decide) (by decide))
  obtain ⟨K1,e1⟩:=s1
  obtain ⟨K2,e2⟩:=s2
  obtain ⟨K3,e3⟩:=hz
  refine ⟨K1 + K2 + K3 + 1,fun k hk=>?_⟩
  obtain ⟨m,rfl⟩:∃ m,k = m + 1:=⟨k - 1,by omega⟩
  have f1:=e1 m (by omega)
  have f2:=e2 m (by omega)
  have f3:=e3 m (by omega)
  have hset:∀ (y:List Rat) (n:Nat) (q:Rat),(encL y).set n (⟨q.num,(q.den:Int)⟩:S23) = encL (y.set n q):=fun y n q=>by
   unfold encL;rw [List.map_set];rfl
  have hrj:rd_T23 (encL (x.set i (x[i] - t))) (j:Int) = encQ x[j]:=by
   rw [rdE (by rw [List.length_set];exact hjl),List.getElem_set,if_neg hij]
  show numnahlaw07_SharesTalmud.j2 (m + 1) _ _ _ _ _ _ _ _ _ = _
  rw [numnahlaw07_SharesTalmud.j2,if_pos rfl,encL_length,if_pos (by omega),if_pos (by omega),rdE hil]
  simp only [encQ,f1,Option.bind_some]
  rw [if_pos (by omega),if_pos (by omega),Int.toNat_natCast,Int.toNat_natCast,hset,hrj]
  simp only [encQ,f2,Option.bind_some,hset]
  exact f3
 have hlt:=rless (si.fits ts (by decide) (by decide))
 rw [tn] at hlt
 have start:∀ k,numnahlaw07_SharesTalmud.j1 (k + 1) E l (encL x) false o0 o1 o2 = if (i:Int) = (j:Int) then numnahlaw07_SharesTalmud.j2 k E l (encL x) (i:Int) (j:Int) (encL x) false 1 (t.den:Int) else numnahlaw07_SharesTalmud.j2 k E l (encL x) (i:Int) (j:Int) (encL x) (!decide (x[i] < t)) 1 (t.den:Int):=by
  intro k
  rw [numnahlaw07_SharesTalmud.j1,if_neg (by decide)]
  simp only [hi,hj,hp,fracs_f,htake,Option.bind_some,hwp]
  by_cases hij:(i:Int) = (j:Int)
  ·rw [if_pos hij,if_pos hij]
  ·rw [if_neg hij,if_neg hij,if_pos (by omega),encL_length,if_pos (by omega),rdE hil]
   simp only [encQ,hlt,Option.bind_some]
 rw [hx]
 refine Ev.step start ?_
 by_cases hij:i = j
 ·exact Ev.congr (fun k=>if_pos (by omega)) j2f
 ·refine Ev.congr (fun k=>if_neg (by omega)) ?_
  by_cases hl2:x[i] < t
  ·rw [decide_eq_true hl2];exact j2f
  ·rw [decide_eq_false hl2];exact j2t hij
end
theorem talmud_pure (l0:List Int) (a1 o0 o1 o2:Int):∃ k,numnahlaw07_SharesTalmud.f k l0 a1 o0 o1 o2 = some true:=by
 refine Ev.rounds ?_
 unfold numnahlaw07_SharesTalmud.f
 obtain ⟨l,E,h,h0,h1,_,ht⟩:=ev_tame l0 a1
 obtain ⟨x,hx,ex⟩:=award_pr h h0 h1 (r:=3) (by omega)
 have hfit:=award_fit h h0 h1 hx
 obtain ⟨D,d0,_,d1,d2⟩:=award_D h h0 h1 hx
 have lx:=hx.len
 rw [cl_length] at lx
 obtain ⟨φ,hf,rfl,htot,hw⟩:=award_within h h0 h1 hx
 have hD:∀ c ∈ cl l,(φ c).den ≤ 20:=fun c hc=>Nat.le_trans (Nat.le_of_dvd d0 (d2 _ (List.mem_map.2 ⟨c,hc,rfl⟩))) (d1 (by decide))
 obtain ⟨a,b,hag⟩:=tal_first h h0 h1 hf htot hw hD
 have hj1:=tal_j1 h h0 h1 hf htot hw hD ex o0 o1 o2
 have hj0:Ev (fun k=>numnahlaw07_SharesTalmud.j0 k E l (encL ((cl l).map φ)) false o0 o1 o2) true:=by
  refine Ev.step (f:=fun k=>(shares_Agrees.f k l E (encL ((cl l).map φ))).bind fun bt=>(if bt.2.2.2 = 0 then (numnahlaw07_SharesTalmud.j1 k E l (encL ((cl l).map φ)) (!bt.2.2.1) o0 o1 o2) else (numnahlaw07_SharesTalmud.j1 k E l (encL ((cl l).map φ)) true o0 o1 o2))) (fun k=>?_) (Ev.bind hag ?_)
  ·rw [numnahlaw07_SharesTalmud.j0,if_neg (by decide)]
  ·simp only [if_true,Bool.not_true]
   exact hj1
 refine Ev.bind ht (Ev.bind ex ?_)
 simp only [if_true,encL_length,lx]
 refine Ev.bind hfit ?_
 simp only [Bool.not_true]
 exact hj0
end Go.Proofs.Ytjohcjfmlhihbaa.P

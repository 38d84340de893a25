/- Several texts, joined. -/
import Derived.SizedLaws
import Derived.ChangeSlices
import Derived.Test.YtjohcjfmlhihbaaQC2
set_option linter.unusedVariables false
set_option linter.unusedSimpArgs false
namespace Go.Proofs.Ytjohcjfmlhihbaa.G
open Go.RowKit Go.Proofs.YtjohcjfmlhihbaaW.PrintWords Go.Proofs.YtjohcjfmlhihbaaW.PrintLast Go.Proofs.YtjohcjfmlhihbaaW.PrintMore
set_option maxHeartbeats 8000000
set_option maxRecDepth 100000
attribute [local go_sem] cond_true cond_false fld23_0 fld23_1 fld45_0 fld45_1 fld109_0 fld109_1 fld94_0 fld94_1 max2_int min2_int max_two min_two max_three min_three max_four min_four
attribute [local go_sem high] eqA23
mutual
def numnahlaw07_SharesOrder.l0:Nat → Int → Int → List Int → Int → Int → Option (Bool)
 | 0,_,_,_,_,_=>none
 | k + 1,x1,x2,x7,x8,x9=>if x9 < (x7.length:Int) then (if 0 ≤ x9 then (numnahlaw07_SharesOrder.l0 k x1 x2 x7 (wrap64 (x8 + (rd x7 x9))) (wrap64 (x9 + 1))) else (none)) else ((shares_Award.f k x2 x7 x1).bind fun d3=>((shares_Award.f k x2 x7 (mn x8 (wrap64 (x1 + 1)))).bind fun b9=>(if d3.2 = 0 then (if b9.2 = 0 then (if (d3.1.length:Int) = (x7.length:Int) then (if (b9.1.length:Int) = (x7.length:Int) then ((numnahlaw07_fit.f k d3.1).bind fun j8=>(if j8 = true then ((numnahlaw07_fit.f k b9.1).bind fun e6=>(numnahlaw07_SharesOrder.j1 k x1 x7 d3.1 b9.1 (!e6))) else (numnahlaw07_SharesOrder.j1 k x1 x7 d3.1 b9.1 true))) else (numnahlaw07_SharesOrder.j1 k x1 x7 d3.1 b9.1 true)) else (numnahlaw07_SharesOrder.j1 k x1 x7 d3.1 b9.1 true)) else (numnahlaw07_SharesOrder.j1 k x1 x7 d3.1 b9.1 true)) else (numnahlaw07_SharesOrder.j1 k x1 x7 d3.1 b9.1 true))))
def numnahlaw07_SharesOrder.j1:Nat → Int → List Int → List (S23) → List (S23) → Bool → Option (Bool)
 | 0,_,_,_,_,_=>none
 | k + 1,x1,x7,e3,j9,x83=>if x83 = true then (some false) else ((numnahref07_Whole.f 0).bind fun n9=>(numnahlaw07_SharesOrder.l1 k x1 x7 e3 j9 0 n9.1 n9.2))
def numnahlaw07_SharesOrder.l1:Nat → Int → List Int → List (S23) → List (S23) → Int → Int → Int → Option (Bool)
 | 0,_,_,_,_,_,_,_=>none
 | k + 1,x1,x7,e3,j9,d9,d1,d2=>if d9 < (x7.length:Int) then (if 0 ≤ d9 then (if d9 < (e3.length:Int) then ((numnahref07_Add.f k d1 d2 ((rd_T23 e3 d9).f0) ((rd_T23 e3 d9).f1)).bind fun i0=>((numnahref07_Whole.f (rd x7 d9)).bind fun o0=>((numnahref07_Less.f o0.1 o0.2 ((rd_T23 e3 d9).f0) ((rd_T23 e3 d9).f1)).bind fun n2=>(if n2 = true then (numnahlaw07_SharesOrder.j3 k x1 x7 e3 j9 d9 true i0.1 i0.2) else (if d9 < (j9.length:Int) then ((numnahref07_Less.f ((rd_T23 j9 d9).f0) ((rd_T23 j9 d9).f1) ((rd_T23 e3 d9).f0) ((rd_T23 e3 d9).f1)).bind fun g8=>(numnahlaw07_SharesOrder.j3 k x1 x7 e3 j9 d9 g8 i0.1 i0.2)) else (none)))))) else (none)) else (none)) else ((numnahref07_Whole.f x1).bind fun o1=>(if (d1 == o1.1 && (d2 == o1.2)) = true then ((numnahlaw07_awake.f k).bind fun n3=>(some n3)) else (some false)))
def numnahlaw07_SharesOrder.j3:Nat → Int → List Int → List (S23) → List (S23) → Int → Bool → Int → Int → Option (Bool)
 | 0,_,_,_,_,_,_,_,_=>none
 | k + 1,x1,x7,e3,j9,d9,x117,d1,d2=>if x117 = true then (some false) else (numnahlaw07_SharesOrder.l2 k x1 x7 e3 j9 d9 0 d1 d2)
def numnahlaw07_SharesOrder.l2:Nat → Int → List Int → List (S23) → List (S23) → Int → Int → Int → Int → Option (Bool)
 | 0,_,_,_,_,_,_,_,_=>none
 | k + 1,x1,x7,e3,j9,d9,o2,d1,d2=>if o2 < (x7.length:Int) then (if 0 ≤ d9 then (if d9 < (x7.length:Int) then (if 0 ≤ o2 then (if (rd x7 d9) ≤ (rd x7 o2) then (if o2 < (e3.length:Int) then (if d9 < (e3.length:Int) then ((numnahref07_Less.f ((rd_T23 e3 o2).f0) ((rd_T23 e3 o2).f1) ((rd_T23 e3 d9).f0) ((rd_T23 e3 d9).f1)).bind fun n4=>(if n4 = true then (some false) else (numnahlaw07_SharesOrder.l2 k x1 x7 e3 j9 d9 (wrap64 (o2 + 1)) d1 d2))) else (none)) else (none)) else (numnahlaw07_SharesOrder.l2 k x1 x7 e3 j9 d9 (wrap64 (o2 + 1)) d1 d2)) else (none)) else (none)) else (none)) else (numnahlaw07_SharesOrder.l1 k x1 x7 e3 j9 (wrap64 (d9 + 1)) d1 d2)
end
def numnahlaw07_SharesOrder.f (k:Nat) (l0:List Int) (a1:Int) (a2:Int):Option (Bool):=(numnahlaw07_tame.f k l0 a1).bind fun g1=>((numnahlaw07_mod.f a2 5).bind fun e0=>(numnahlaw07_SharesOrder.l0 k g1.2 e0 g1.1 0 0))
theorem numnahlaw07_SharesOrder.mono_l:∀ k,(∀ y0 y1 y2 y3 y4,LeO (numnahlaw07_SharesOrder.l0 k y0 y1 y2 y3 y4) (numnahlaw07_SharesOrder.l0 (k + 1) y0 y1 y2 y3 y4)) ∧ (∀ y0 y1 y2 y3 y4,LeO (numnahlaw07_SharesOrder.j1 k y0 y1 y2 y3 y4) (numnahlaw07_SharesOrder.j1 (k + 1) y0 y1 y2 y3 y4)) ∧ (∀ y0 y1 y2 y3 y4 y5 y6,LeO (numnahlaw07_SharesOrder.l1 k y0 y1 y2 y3 y4 y5 y6) (numnahlaw07_SharesOrder.l1 (k + 1) y0 y1 y2 y3 y4 y5 y6)) ∧ (∀ y0 y1 y2 y3 y4 y5 y6 y7,LeO (numnahlaw07_SharesOrder.j3 k y0 y1 y2 y3 y4 y5 y6 y7) (numnahlaw07_SharesOrder.j3 (k + 1) y0 y1 y2 y3 y4 y5 y6 y7)) ∧ (∀ y0 y1 y2 y3 y4 y5 y6 y7,LeO (numnahlaw07_SharesOrder.l2 k y0 y1 y2 y3 y4 y5 y6 y7) (numnahlaw07_SharesOrder.l2 (k + 1) y0 y1 y2 y3 y4 y5 y6 y7))
 | 0=>⟨fun _ _ _ _ _ r h=>by simp [numnahlaw07_SharesOrder.l0] at h,fun _ _ _ _ _ r h=>by simp [numnahlaw07_SharesOrder.j1] at h,fun _ _ _ _ _ _ _ r h=>by simp [numnahlaw07_SharesOrder.l1] at h,fun _ _ _ _ _ _ _ _ r h=>by simp [numnahlaw07_SharesOrder.j3] at h,fun _ _ _ _ _ _ _ _ r h=>by simp [numnahlaw07_SharesOrder.l2] at h⟩
 | k + 1=>by
  obtain ⟨o5,o6,o7,o8,o9⟩:=numnahlaw07_SharesOrder.mono_l k
  refine ⟨?_,?_,?_,?_,?_⟩
  ·intro y0 y1 y2 y3 y4
   unfold numnahlaw07_SharesOrder.l0
   repeat' first
   | (with_reducible first | exact o5 _ _ _ _ _ | exact o6 _ _ _ _ _ | exact o7 _ _ _ _ _ _ _ | exact o8 _ _ _ _ _ _ _ _ | exact o9 _ _ _ _ _ _ _ _ | exact numnahlaw07_awake.mono _ | exact numnahlaw07_fit.mono _ _ | exact numnahlaw07_tame.mono _ _ _ | exact numnahref07_Add.mono _ _ _ _ _ | exact shares_Award.mono _ _ _ _ | exact LeO.refl _ | exact LeO.none _ | refine LeO.ite ?_ ?_ | refine LeO.bind ?_ (fun _=>?_))
   | exact LeO.none _ | refine LeO.ite ?_ ?_ | refine LeO.bind ?_ (fun _=>?_)
  ·intro y0 y1 y2 y3 y4
   unfold numnahlaw07_SharesOrder.j1
   repeat' first
   | (with_reducible first | exact o5 _ _ _ _ _ | exact o6 _ _ _ _ _ | exact o7 _ _ _ _ _ _ _ | exact o8 _ _ _ _ _ _ _ _ | exact o9 _ _ _ _ _ _ _ _ | exact numnahlaw07_awake.mono _ | exact numnahlaw07_fit.mono _ _ | exact numnahlaw07_tame.mono _ _ _ | exact numnahref07_Add.mono _ _ _ _ _ | exact shares_Award.mono _ _ _ _ | exact LeO.refl _ | exact LeO.none _ | refine LeO.ite ?_ ?_ | refine LeO.bind ?_ (fun _=>?_))
   | exact LeO.none _ | refine LeO.ite ?_ ?_ | refine LeO.bind ?_ (fun _=>?_)
  ·intro y0 y1 y2 y3 y4 y5 y6
   unfold numnahlaw07_SharesOrder.l1
   repeat' first
   | (with_reducible first | exact o5 _ _ _ _ _ | exact o6 _ _ _ _ _ | exact o7 _ _ _ _ _ _ _ | exact o8 _ _ _ _ _ _ _ _ | exact o9 _ _ _ _ _ _ _ _ | exact numnahlaw07_awake.mono _ | exact numnahlaw07_fit.mono _ _ | exact numnahlaw07_tame.mono _ _ _ | exact numnahref07_Add.mono _ _ _ _ _ | exact shares_Award.mono _ _ _ _ | exact LeO.refl _ | exact LeO.none _ | refine LeO.ite ?_ ?_ | refine LeO.bind ?_ (fun _=>?_))
   | exact LeO.none _ | refine LeO.ite ?_ ?_ | refine LeO.bind ?_ (fun _=>?_)
  ·intro y0 y1 y2 y3 y4 y5 y6 y7
   unfold numnahlaw07_SharesOrder.j3
   repeat' first
   | (with_reducible first | exact o5 _ _ _ _ _ | exact o6 _ _ _ _ _ | exact o7 _ _ _ _ _ _ _ | exact o8 _ _ _ _ _ _ _ _ | exact o9 _ _ _ _ _ _ _ _ | exact numnahlaw07_awake.mono _ | exact numnahlaw07_fit.mono _ _ | exact numnahlaw07_tame.mono _ _ _ | exact numnahref07_Add.mono _ _ _ _ _ | exact shares_Award.mono _ _ _ _ | exact LeO.refl _ | exact LeO.none _ | refine LeO.ite ?_ ?_ | refine LeO.bind ?_ (fun _=>?_))
   | exact LeO.none _ | refine LeO.ite ?_ ?_ | refine LeO.bind ?_ (fun _=>?_)
  intro y0 y1 y2 y3 y4 y5 y6 y7
  unfold numnahlaw07_SharesOrder.l2
  repeat' first
  | (with_reducible first | exact o5 _ _ _ _ _ | exact o6 _ _ _ _ _ | exact o7 _ _ _ _ _ _ _ | exact o8 _ _ _ _ _ _ _ _ | exact o9 _ _ _ _ _ _ _ _ | exact numnahlaw07_awake.mono _ | exact numnahlaw07_fit.mono _ _ | exact numnahlaw07_tame.mono _ _ _ | exact numnahref07_Add.mono _ _ _ _ _ | exact shares_Award.mono _ _ _ _ | exact LeO.refl _ | exact LeO.none _ | refine LeO.ite ?_ ?_ | refine LeO.bind ?_ (fun _=>?_))
  | exact LeO.none _ | refine LeO.ite ?_ ?_ | refine LeO.bind ?_ (fun _=>?_)
theorem numnahlaw07_SharesOrder.mono:∀ a0 a1 a2 k,LeO (numnahlaw07_SharesOrder.f k a0 a1 a2) (numnahlaw07_SharesOrder.f (k + 1) a0 a1 a2):=by
 intro a0 a1 a2 k
 obtain ⟨o5,o6,o7,o8,o9⟩:=numnahlaw07_SharesOrder.mono_l k
 unfold numnahlaw07_SharesOrder.f
 repeat' first
   | (with_reducible first | exact o5 _ _ _ _ _ | exact o6 _ _ _ _ _ | exact o7 _ _ _ _ _ _ _ | exact o8 _ _ _ _ _ _ _ _ | exact o9 _ _ _ _ _ _ _ _ | exact numnahlaw07_awake.mono _ | exact numnahlaw07_fit.mono _ _ | exact numnahlaw07_tame.mono _ _ _ | exact numnahref07_Add.mono _ _ _ _ _ | exact shares_Award.mono _ _ _ _ | exact LeO.refl _ | exact LeO.none _ | refine LeO.ite ?_ ?_ | refine LeO.bind ?_ (fun _=>?_))
   | exact LeO.none _ | refine LeO.ite ?_ ?_ | refine LeO.bind ?_ (fun _=>?_)
def numnahlaw07_SharesOrder.T17:Bool × List (List Nat × List Nat):=(true,[([],[]),([],[]),([0,1],[0,1]),([2],[2]),([3],[3]),([],[]),([],[]),([5,6],[5,6]),([7],[7]),([4,8,4],[4,8]),([9,9],[9]),([10],[10]),([10],[10]),([11,12,10],[10,11,12]),([13,10],[10,13]),([10],[10]),([10],[10]),([15,16,10],[10,15,16]),([17,10],[10,17]),([14,18,10,10],[10,14,18]),([10,19],[10,19])])
def numnahlaw07_SharesOrder.B17:List Nat:=[0,0,3,7,15,0,0,96,224,511,1023,2047,2047,8191,16383,2047,2047,100351,231423,524287,1048575]
theorem numnahlaw07_SharesOrder.tab17:rtab .any (opsOf Try.f5 17) = numnahlaw07_SharesOrder.T17:=by kernel_rfl
theorem numnahlaw07_SharesOrder.bits17:waitsOk numnahlaw07_SharesOrder.T17.2 numnahlaw07_SharesOrder.B17 = true:=by kernel_rfl
def numnahlaw07_SharesOrder.T22:Bool × List (List Nat × List Nat):=(true,[([],[]),([],[]),([0,1],[0,1]),([2],[2]),([],[]),([],[]),([4,5],[4,5]),([6],[6]),([3,7],[3,7]),([8],[8]),([9],[9]),([9],[9]),([10,11,9],[9,10,11]),([12,9],[9,12]),([9],[9]),([9],[9]),([14,15,9],[9,14,15]),([16,9],[9,16]),([13,17,9,9],[9,13,17]),([9,18],[9,18])])
def numnahlaw07_SharesOrder.B22:List Nat:=[0,0,3,7,0,0,48,112,255,511,1023,1023,4095,8191,1023,1023,50175,115711,262143,524287]
theorem numnahlaw07_SharesOrder.tab22:rtab .any (opsOf Try.f5 22) = numnahlaw07_SharesOrder.T22:=by kernel_rfl
theorem numnahlaw07_SharesOrder.bits22:waitsOk numnahlaw07_SharesOrder.T22.2 numnahlaw07_SharesOrder.B22 = true:=by kernel_rfl
def numnahlaw07_SharesOrder.T24:Bool × List (List Nat × List Nat):=(true,[([],[]),([],[]),([1],[1]),([0,2],[0,2]),([3,2],[3]),([4,4],[4]),([4,5],[4,5]),([6,5,0,1,2,3,4,5,6],[6])])
def numnahlaw07_SharesOrder.B24:List Nat:=[0,0,2,7,15,31,63,127]
theorem numnahlaw07_SharesOrder.tab24:rtab .any (opsOf Try.f5 24) = numnahlaw07_SharesOrder.T24:=by kernel_rfl
theorem numnahlaw07_SharesOrder.bits24:waitsOk numnahlaw07_SharesOrder.T24.2 numnahlaw07_SharesOrder.B24 = true:=by kernel_rfl
theorem numnahlaw07_SharesOrder.calls (k:Nat) (A0:Option Addr) (c0:Nat) (l0:List Int) (a1:Int) (a2:Int) (r:Bool) (w:World) (v6:Kd.C (Kd.int .i64) w A0 l0.length l0) (v7:l0.length ≤ c0) (h:numnahlaw07_SharesOrder.f k l0 a1 a2 = some r) (hrt_:r = true) :
  Calls Try.prog 5 #[.slice A0 l0.length c0,.int .i64 a1,.int .i64 a2] w fun e w'=>e = .returned (.bool r) ∧ Below w.heap.size w w':=by
 have HRT:=Aside0.mk hrt_
 clear hrt_
 have E5:=Try.underlying23
 have E6:=A_ v6
 have E7:=A_ v7
 clear v6 v7
 have HB:=A_ (Below.refl w.heap.size w)
 have H:((numnahlaw07_tame.f k l0 a1).bind fun g1=>((numnahlaw07_mod.f a2 5).bind fun e0=>(numnahlaw07_SharesOrder.l0 k g1.2 e0 g1.1 0 0))) = some r:=h
 clear h
 replace H:=Option.bind_eq_some_iff.mp H
 obtain ⟨⟨b0,c1⟩,A40,H⟩:=H
 dsimp only at H
 have A4:=A_ A40
 clear A40
 replace H:=Option.bind_eq_some_iff.mp H
 obtain ⟨e0,s2,H⟩:=H
 replace H:(numnahlaw07_SharesOrder.l0 k c1 e0 b0 0 0) = some r:=H
 have A5:=A_ s2
 clear s2
 have H':=A_ H
 clear H
 go_enter Try.func5,Try.ntmps5
 go_wp2_with (first | ((with_reducible refine gate_callee (f:=25) rfl ?_);refine gL (some 20) Try.func25 #[.slice A0 l0.length c0,.int .i64 a1] ?_;(with_reducible refine (numnahlaw07_tame.calls k _ _ l0 a1 b0 c1 _ ?side1 ?side2 A4.out).mono ?_);(case side1=>repeat (first | exact E6.out | (with_reducible refine Kd.C_alloc ?_ _) | (with_reducible refine Kd.C_drewN ?_ _) | (with_reducible refine Kd.C_drew ?_)));(case side2=>exact E7.out);rintro e w6 ⟨x6,rfl,r7,hb⟩;refine ⟨_,rfl,?_⟩;have s3:=A_ (Kd.R_lower r7 (below_size (bl HB)));replace HB:=bB HB hb;(try clear hb)) | ((with_reducible refine gate_callee (f:=29) rfl ?_);refine gL (some 24) Try.func29 #[.int .i64 a2,.int .i64 5] ?_;(with_reducible refine (numnahlaw07_mod.calls a2 5 e0 _ A5.out).mono ?_);rintro e w' ⟨rfl,⟨nd,rfl⟩⟩;refine ⟨_,rfl,?_⟩))
 go_loopg [8,9] k (fun kq v8 v9 w'=>∃ (g9:Int) (e7:Int),v8 = .int .i64 g9 ∧ v9 = .int .i64 e7 ∧ Aside0 (numnahlaw07_SharesOrder.l0 kq c1 e0 b0 g9 e7 = some r) ∧ Aside0 (kq ≤ k) ∧ Aside0 (Kd.R (Kd.int .i64) 3 w' w.heap.size (fun _=>True) x6 b0) ∧ Aside0 (Below w.heap.size w w'))
 case atStart=>exact ⟨(0),(0),(by first | rfl | (simp;done) | (simp [*];done)),(by first | rfl | (simp;done) | (simp [*];done)),H',⟨Nat.le_refl _⟩,⟨by (with_reducible repeat (first | apply Kd.R_alloc | apply Kd.R_drewN | apply Kd.R_drew));exact s3.out⟩,⟨bl HB⟩⟩
 case round =>
  clear H'
  obtain ⟨g9,e7,rfl,rfl,HA,g7,a9,HB⟩:=hrel
  cases gk with
  | zero=>exact absurd HA.out (by simp [numnahlaw07_SharesOrder.l0])
  | succ k1 =>
   have H:=HA.out
   clear HA
   simp only [numnahlaw07_SharesOrder.l0] at H
   by_cases c7:e7 < (b0.length:Int)
   ·rw [if_pos c7] at H
    have y8:=decide_eq_true c7
    clear c7
    replace H:=gd H
    obtain ⟨c8,H⟩:=H
    have E8:=decide_eq_true c8
    clear c8
    have H':=A_ H
    clear H
    obtain ⟨I4,I5,E9⟩:=Kd.R_slice a9.out
    subst E9
    have p0:0 ≤ (e7:Int):=of_decide_eq_true (by first | (with_reducible assumption) | assumption)
    have p1:e7 < (b0.length:Int):=of_decide_eq_true (by first | (with_reducible assumption) | assumption)
    obtain ⟨C1,y9,w3⟩:=Kd.at_int (Kd.R_reads' a9.out).2.2 e7 p0 p1
    cases y9
    replace p0:=eq_true p0
    replace p1:=eq_true p1
    go_wp2
    go_roundg k1
    case measure=>have:=g7.out;omega
    case rel=>exact ⟨(wrap64 (g9 + (rd b0 e7))),(wrap64 (e7 + 1)),(by first | rfl | (simp;done) | (simp [*];done)),(by first | rfl | (simp;done) | (simp [*];done)),H',⟨by have:=g7.out;omega⟩,⟨by (with_reducible repeat (first | apply Kd.R_alloc | apply Kd.R_drewN | apply Kd.R_drew));exact a9.out⟩,⟨bl HB⟩⟩
   rw [if_neg c7] at H
   have y8:=decide_eq_false c7
   clear c7
   replace H:=Option.bind_eq_some_iff.mp H
   obtain ⟨⟨a7,h0⟩,A100,H⟩:=H
   dsimp only at H
   have C2:=A_ A100
   clear A100
   obtain ⟨n5,e5⟩:∃ j_:Int,(mn g9 (wrap64 (c1 + 1))) = j_:=⟨_,rfl⟩
   replace H:((shares_Award.f k1 e0 b0 (n5)).bind fun b9=>(if h0 = 0 then (if b9.2 = 0 then (if (a7.length:Int) = (b0.length:Int) then (if (b9.1.length:Int) = (b0.length:Int) then ((numnahlaw07_fit.f k1 a7).bind fun j8=>(if j8 = true then ((numnahlaw07_fit.f k1 b9.1).bind fun e6=>(numnahlaw07_SharesOrder.j1 k1 c1 b0 a7 b9.1 (!e6))) else (numnahlaw07_SharesOrder.j1 k1 c1 b0 a7 b9.1 true))) else (numnahlaw07_SharesOrder.j1 k1 c1 b0 a7 b9.1 true)) else (numnahlaw07_SharesOrder.j1 k1 c1 b0 a7 b9.1 true)) else (numnahlaw07_SharesOrder.j1 k1 c1 b0 a7 b9.1 true)) else (numnahlaw07_SharesOrder.j1 k1 c1 b0 a7 b9.1 true))) = some r:=by first | (rw [e5] at H;exact H) | (simp only [e5] at H ⊢;exact H)
   (try rw [e5] at C2)
   have z1:(if (wrap64 (c1 + 1)) < g9 then (wrap64 (c1 + 1)) else g9) = n5:=e5
   replace H:=Option.bind_eq_some_iff.mp H
   obtain ⟨⟨b5,l5⟩,A120,H⟩:=H
   dsimp only at H
   have F0:=A_ A120
   clear A120
   have p2:=A_ H
   clear H
   obtain ⟨g2,g3,z2⟩:=Kd.R_slice a9.out
   subst z2
   go_upto_region 10 with (first | ((with_reducible refine gate_callee (f:=26) rfl ?_);refine gL (some 41) Try.func26 #[.int .i64 e0,.slice g2 b0.length g3,.int .i64 c1] ?_;(with_reducible refine (shares_Award.calls k1 e0 _ _ b0 c1 a7 h0 _ ?side1 ?side2 C2.out).mono ?_);(case side1=>repeat (first | exact (Kd.R_reads' a9.out).2.2 | (with_reducible refine Kd.C_alloc ?_ _) | (with_reducible refine Kd.C_drewN ?_ _) | (with_reducible refine Kd.C_drew ?_)));(case side2=>exact (Kd.R_reads' a9.out).2.1);rintro e I6 ⟨n6,rfl,r7,hb⟩;refine ⟨_,rfl,?_⟩;have b6:=A_ (Kd.R_lower r7 (below_size (bl HB)));replace a9:=rB a9 hb;replace HB:=bB HB hb;(try clear hb)) | ((with_reducible refine gate_callee (f:=26) rfl ?_);refine goesL_ (some 51) rfl rfl Try.func26 (by kernel_rfl) rfl #[.int .i64 e0,.slice g2 b0.length g3,.int .i64 n5] rfl (by (try simp only [List.map_toArray,List.map_cons,List.map_nil]);first | done | (simp only [e5];rfl) | rfl | (simp only [List.length_drop,List.length_take];rfl)) ?_;(with_reducible refine (shares_Award.calls k1 e0 _ _ b0 n5 b5 l5 _ ?side1 ?side2 F0.out).mono ?_);(case side1=>repeat (first | exact (Kd.R_reads' a9.out).2.2 | (with_reducible refine Kd.C_alloc ?_ _) | (with_reducible refine Kd.C_drewN ?_ _) | (with_reducible refine Kd.C_drew ?_)));(case side2=>exact (Kd.R_reads' a9.out).2.1);rintro e I7 ⟨e1,rfl,r7,hb⟩;refine ⟨_,rfl,?_⟩;have d0:=A_ (Kd.R_lower (Kd.R_new' r7 (Kd.R_lt (rs b6))) (below_size (bl HB)));replace a9:=rB a9 hb;replace b6:=A_ (Kd.R_elder' (rs b6) (Kd.R_base r7) hb);replace HB:=bB HB hb;(try clear hb)))
   (try simp only [Act.put,List.setIfInBounds_toArray,List.set_cons_zero,List.set_cons_succ])
   go_cut [83] (fun F1 wc=>∃ (kq:Nat) (e8:Bool),F1 = .bool e8 ∧ Aside0 (numnahlaw07_SharesOrder.j1 kq c1 b0 a7 b5 e8 = some r) ∧ Aside0 (kq ≤ k1) ∧ Aside0 (Kd.R (Kd.int .i64) 3 wc w.heap.size (fun _=>True) (.slice g2 b0.length g3) b0) ∧ Aside0 (Kd.R k23 23 wc w.heap.size (fun k_=>some k_ ≠ (e1:Value).ownBlock) n6 a7) ∧ Aside0 (Kd.R k23 23 wc w.heap.size (fun k_=>some k_ ≠ (n6:Value).ownBlock) e1 b5) ∧ Aside0 (Below w.heap.size w wc))
   case first =>
    have H:=p2.out
    clear p2
    by_cases p3:h0 = 0
    case neg =>
     rw [if_neg p3] at H
     have g4:(h0 == 0) = false:=beq_eq_false_iff_ne.mpr p3
     have s4:(h0 != 0) = true:=bne_iff_ne.mpr p3
     (first | rw [g4] | (simp only [i64_w,i32_w];rw [g4]) | skip)
     have H':=A_ H
     clear H
     go_wp2
     go_meet
     case rel=>exact ⟨_,(true),(by first | rfl | (simp;done) | (simp [*];done)),H',⟨by have:=g7.out;first | omega | exact Nat.le_refl _⟩,⟨by (with_reducible repeat (first | apply Kd.R_alloc | apply Kd.R_drewN | apply Kd.R_drew));exact a9.out⟩,⟨by (with_reducible repeat (first | apply Kd.R_alloc | apply Kd.R_drewN | apply Kd.R_drew));exact Kd.R_mono b6.out (fun _ hk=>hk.2)⟩,⟨by (with_reducible repeat (first | apply Kd.R_alloc | apply Kd.R_drewN | apply Kd.R_drew));exact Kd.R_mono d0.out (fun _ hk=>hk.2)⟩,⟨bl HB⟩⟩
    rw [if_pos p3] at H
    have g4:(h0 == 0) = true:=beq_iff_eq.mpr p3
    have s4:(h0 != 0) = false:=bne_eq_false_iff_eq.mpr p3
    clear p3
    (first | rw [g4] | (simp only [i64_w,i32_w];rw [g4]) | skip)
    by_cases p4:l5 = 0
    case neg =>
     rw [if_neg p4] at H
     have s5:(l5 == 0) = false:=beq_eq_false_iff_ne.mpr p4
     have s6:(l5 != 0) = true:=bne_iff_ne.mpr p4
     have H':=A_ H
     clear H
     go_wp2
     go_meet
     case rel=>exact ⟨_,(true),(by first | rfl | (simp;done) | (simp [*];done)),H',⟨by have:=g7.out;first | omega | exact Nat.le_refl _⟩,⟨by (with_reducible repeat (first | apply Kd.R_alloc | apply Kd.R_drewN | apply Kd.R_drew));exact a9.out⟩,⟨by (with_reducible repeat (first | apply Kd.R_alloc | apply Kd.R_drewN | apply Kd.R_drew));exact Kd.R_mono b6.out (fun _ hk=>hk.2)⟩,⟨by (with_reducible repeat (first | apply Kd.R_alloc | apply Kd.R_drewN | apply Kd.R_drew));exact Kd.R_mono d0.out (fun _ hk=>hk.2)⟩,⟨bl HB⟩⟩
    rw [if_pos p4] at H
    have s5:(l5 == 0) = true:=beq_iff_eq.mpr p4
    have s6:(l5 != 0) = false:=bne_eq_false_iff_eq.mpr p4
    clear p4
    by_cases m1:(a7.length:Int) = (b0.length:Int)
    case neg =>
     rw [if_neg m1] at H
     have s7:((a7.length:Int) == (b0.length:Int)) = false:=beq_eq_false_iff_ne.mpr m1
     have s8:((a7.length:Int) != (b0.length:Int)) = true:=bne_iff_ne.mpr m1
     have s9:(a7.length == b0.length) = false:=by first | simpa using m1 | (simp at m1 ⊢;omega)
     have H':=A_ H
     clear H
     obtain ⟨F2,F3,z3⟩:=Kd.R_slice b6.out
     subst z3
     go_wp2
     go_meet
     case rel=>exact ⟨_,(true),(by first | rfl | (simp;done) | (simp [*];done)),H',⟨by have:=g7.out;first | omega | exact Nat.le_refl _⟩,⟨by (with_reducible repeat (first | apply Kd.R_alloc | apply Kd.R_drewN | apply Kd.R_drew));exact a9.out⟩,⟨by (with_reducible repeat (first | apply Kd.R_alloc | apply Kd.R_drewN | apply Kd.R_drew));exact Kd.R_mono b6.out (fun _ hk=>hk.2)⟩,⟨by (with_reducible repeat (first | apply Kd.R_alloc | apply Kd.R_drewN | apply Kd.R_drew));exact Kd.R_mono d0.out (fun _ hk=>hk.2)⟩,⟨bl HB⟩⟩
    rw [if_pos m1] at H
    have s7:((a7.length:Int) == (b0.length:Int)) = true:=beq_iff_eq.mpr m1
    have s8:((a7.length:Int) != (b0.length:Int)) = false:=bne_eq_false_iff_eq.mpr m1
    have s9:(a7.length == b0.length) = true:=by first | simpa using m1 | (simp at m1 ⊢;omega)
    clear m1
    by_cases m2:(b5.length:Int) = (b0.length:Int)
    case neg =>
     rw [if_neg m2] at H
     have t0:((b5.length:Int) == (b0.length:Int)) = false:=beq_eq_false_iff_ne.mpr m2
     have t1:((b5.length:Int) != (b0.length:Int)) = true:=bne_iff_ne.mpr m2
     have t2:(b5.length == b0.length) = false:=by first | simpa using m2 | (simp at m2 ⊢;omega)
     have H':=A_ H
     clear H
     obtain ⟨F4,F5,z4⟩:=Kd.R_slice b6.out
     subst z4
     obtain ⟨F6,F7,z5⟩:=Kd.R_slice d0.out
     subst z5
     go_wp2
     go_meet
     case rel=>exact ⟨_,(true),(by first | rfl | (simp;done) | (simp [*];done)),H',⟨by have:=g7.out;first | omega | exact Nat.le_refl _⟩,⟨by (with_reducible repeat (first | apply Kd.R_alloc | apply Kd.R_drewN | apply Kd.R_drew));exact a9.out⟩,⟨by (with_reducible repeat (first | apply Kd.R_alloc | apply Kd.R_drewN | apply Kd.R_drew));exact Kd.R_mono b6.out (fun _ hk=>hk.2)⟩,⟨by (with_reducible repeat (first | apply Kd.R_alloc | apply Kd.R_drewN | apply Kd.R_drew));exact Kd.R_mono d0.out (fun _ hk=>hk.2)⟩,⟨bl HB⟩⟩
    rw [if_pos m2] at H
    have t0:((b5.length:Int) == (b0.length:Int)) = true:=beq_iff_eq.mpr m2
    have t1:((b5.length:Int) != (b0.length:Int)) = false:=bne_eq_false_iff_eq.mpr m2
    have t2:(b5.length == b0.length) = true:=by first | simpa using m2 | (simp at m2 ⊢;omega)
    clear m2
    replace H:=Option.bind_eq_some_iff.mp H
    obtain ⟨j8,t3,H⟩:=H
    replace H:(if j8 = true then ((numnahlaw07_fit.f k1 b5).bind fun e6=>(numnahlaw07_SharesOrder.j1 k1 c1 b0 a7 b5 (!e6))) else (numnahlaw07_SharesOrder.j1 k1 c1 b0 a7 b5 true)) = some r:=H
    have C3:=A_ t3
    clear t3
    by_cases w4:j8 = true
    case neg =>
     replace w4:=Bool.eq_false_iff.mpr w4
     subst w4
     rw [if_neg (show ¬ (false = true) by decide)] at H
     have H':=A_ H
     clear H
     obtain ⟨F8,F9,z6⟩:=Kd.R_slice b6.out
     subst z6
     obtain ⟨G0,G1,z7⟩:=Kd.R_slice d0.out
     subst z7
     go_wp2_with (first | (go_at_call 27;(with_reducible refine (numnahlaw07_fit.calls k1 _ _ a7 false _ ?side1 ?side2 C3.out).mono ?_);(case side1=>repeat (first | exact (Kd.R_reads' b6.out).2.2 | (with_reducible refine Kd.C_alloc ?_ _) | (with_reducible refine Kd.C_drewN ?_ _) | (with_reducible refine Kd.C_drew ?_)));(case side2=>exact (Kd.R_reads' b6.out).2.1);rintro e I8 ⟨rfl,hb⟩;replace a9:=rB a9 hb;replace b6:=rB b6 hb;replace d0:=rB d0 hb;replace HB:=bB HB hb;(try clear hb)))
     go_meet
     case rel=>exact ⟨_,(true),(by first | rfl | (simp;done) | (simp [*];done)),H',⟨by have:=g7.out;first | omega | exact Nat.le_refl _⟩,⟨by (with_reducible repeat (first | apply Kd.R_alloc | apply Kd.R_drewN | apply Kd.R_drew));exact a9.out⟩,⟨by (with_reducible repeat (first | apply Kd.R_alloc | apply Kd.R_drewN | apply Kd.R_drew));exact Kd.R_mono b6.out (fun _ hk=>hk.2)⟩,⟨by (with_reducible repeat (first | apply Kd.R_alloc | apply Kd.R_drewN | apply Kd.R_drew));exact Kd.R_mono d0.out (fun _ hk=>hk.2)⟩,⟨bl HB⟩⟩
    subst w4
    rw [if_pos rfl] at H
    replace H:=Option.bind_eq_some_iff.mp H
    obtain ⟨e6,t4,H⟩:=H
    replace H:(numnahlaw07_SharesOrder.j1 k1 c1 b0 a7 b5 (!e6)) = some r:=H
    have G2:=A_ t4
    clear t4
    have H':=A_ H
    clear H
    obtain ⟨G3,G4,z8⟩:=Kd.R_slice b6.out
    subst z8
    obtain ⟨G5,G6,z9⟩:=Kd.R_slice d0.out
    subst z9
    go_wp2_with (first | (go_at_call 27;(with_reducible refine (numnahlaw07_fit.calls k1 _ _ a7 true _ ?side1 ?side2 C3.out).mono ?_);(case side1=>repeat (first | exact (Kd.R_reads' b6.out).2.2 | (with_reducible refine Kd.C_alloc ?_ _) | (with_reducible refine Kd.C_drewN ?_ _) | (with_reducible refine Kd.C_drew ?_)));(case side2=>exact (Kd.R_reads' b6.out).2.1);rintro e I9 ⟨rfl,hb⟩;replace a9:=rB a9 hb;replace b6:=rB b6 hb;replace d0:=rB d0 hb;replace HB:=bB HB hb;(try clear hb)) | (go_at_call 27;(with_reducible refine (numnahlaw07_fit.calls k1 _ _ b5 e6 _ ?side1 ?side2 G2.out).mono ?_);(case side1=>repeat (first | exact (Kd.R_reads' d0.out).2.2 | (with_reducible refine Kd.C_alloc ?_ _) | (with_reducible refine Kd.C_drewN ?_ _) | (with_reducible refine Kd.C_drew ?_)));(case side2=>exact (Kd.R_reads' d0.out).2.1);rintro e J0 ⟨rfl,hb⟩;replace a9:=rB a9 hb;replace b6:=rB b6 hb;replace d0:=rB d0 hb;replace HB:=bB HB hb;(try clear hb)))
    go_meet
    case rel=>exact ⟨_,(!e6),(by first | rfl | (simp;done) | (simp [*];done)),H',⟨by have:=g7.out;first | omega | exact Nat.le_refl _⟩,⟨by (with_reducible repeat (first | apply Kd.R_alloc | apply Kd.R_drewN | apply Kd.R_drew));exact a9.out⟩,⟨by (with_reducible repeat (first | apply Kd.R_alloc | apply Kd.R_drewN | apply Kd.R_drew));exact Kd.R_mono b6.out (fun _ hk=>hk.2)⟩,⟨by (with_reducible repeat (first | apply Kd.R_alloc | apply Kd.R_drewN | apply Kd.R_drew));exact Kd.R_mono d0.out (fun _ hk=>hk.2)⟩,⟨bl HB⟩⟩
   case rest =>
    clear p2
    obtain ⟨kq,e8,rfl,HA,g5,a9,a6,a8,HB⟩:=hcut
    cases kq with
    | zero=>exact absurd HA.out (by simp [numnahlaw07_SharesOrder.j1])
    | succ t5 =>
     have H:=HA.out
     clear HA
     simp only [numnahlaw07_SharesOrder.j1] at H
     by_cases w5:e8 = true
     ·subst w5
      rw [if_pos rfl] at H
      exact absurd ((Option.some.inj H).trans HRT.out) (by decide)
     replace w5:=Bool.eq_false_iff.mpr w5
     subst w5
     rw [if_neg (show ¬ (false = true) by decide)] at H
     replace H:=Option.bind_eq_some_iff.mp H
     obtain ⟨⟨l6,m3⟩,A350,H⟩:=H
     dsimp only at H
     have G7:=A_ A350
     clear A350
     have H':=A_ H
     clear H
     go_wp2_with (first | ((with_reducible refine gate_callee (f:=23) rfl ?_);refine gL (some 84) Try.func23 #[.int .i64 0] ?_;(with_reducible refine (numnahref07_Whole.calls 0 l6 m3 _ G7.out).mono ?_);rintro e J1 ⟨rfl,hb⟩;refine ⟨_,rfl,?_⟩;replace a9:=rB a9 hb;replace a6:=rB a6 hb;replace a8:=rB a8 hb;replace HB:=bB HB hb;(try clear hb)) | ((with_reducible refine gate_dst (N:=14) rfl ?_);(try (refine gate_guard (by rfl) ?_;dsimp only));refine bx 14 #[.int .i64 0,.int .i64 0] 23 ?_;intro a4 hg C4 hbox hb;have a5:=A_ hbox;have t6:=gw hg HB;have C5:=t6;replace a9:=rB a9 hb;replace a6:=A_ (Kd.R_below (Kd.R_elderB (rs a6) a4 (Nat.le_of_eq hg.symm)) hb);replace a8:=A_ (Kd.R_below (Kd.R_elderB (rs a8) a4 (Nat.le_of_eq hg.symm)) hb);replace HB:=bB HB hb;clear hb hbox hg;have w7:C4.cell? ⟨a4,0,none⟩ = some (.int .i64 0):=cz a5 0;have w8:C4.cell? ⟨a4,1,none⟩ = some (.int .i64 0):=cz a5 1;have w9:=blk_frozen a5.out 0;have x0:=blk_frozen a5.out 1))
     go_loopg [15] t5 (fun kq G8 w'=>∃ (a3:Int) (b2:Int) (b1:Int),G8 = .int .i64 a3 ∧ Aside0 (numnahlaw07_SharesOrder.l1 kq c1 b0 a7 b5 a3 b2 b1 = some r) ∧ Aside0 (kq ≤ t5) ∧ Aside0 (Kd.R (Kd.int .i64) 3 w' w.heap.size (fun _=>True) (.slice g2 b0.length g3) b0) ∧ Aside0 (Kd.R k23 23 w' w.heap.size (fun k_=>some k_ ≠ (e1:Value).ownBlock ∧ k_ ≠ a4) n6 a7) ∧ Aside0 (Kd.R k23 23 w' w.heap.size (fun k_=>some k_ ≠ (n6:Value).ownBlock ∧ k_ ≠ a4) e1 b5) ∧ Aside0 (w'.heap[a4]? = some (.cells #[.int .i64 b2,.int .i64 b1] 23 (0,0))) ∧ Aside0 (Below w.heap.size w w'))
     case atStart=>exact ⟨(0),(l6),(m3),(by first | rfl | (simp;done) | (simp [*];done)),H',⟨Nat.le_refl _⟩,⟨by (with_reducible repeat (first | apply Kd.R_alloc | apply Kd.R_drewN | apply Kd.R_drew));exact Kd.R_mono (Kd.R_far (p:=⟨a4,1,none⟩) (Kd.R_far (p:=⟨a4,0,none⟩) (Kd.R_types a9.out a5.out (by decide)) (fun _ hk=>hk.2) (.int .i64 l6)) (fun _ hk=>hk.2) (.int .i64 m3)) (fun _ hk=>trivial)⟩,⟨by (with_reducible repeat (first | apply Kd.R_alloc | apply Kd.R_drewN | apply Kd.R_drew));exact Kd.R_mono (Kd.R_far (p:=⟨a4,1,none⟩) (Kd.R_far (p:=⟨a4,0,none⟩) (Kd.R_mono a6.out (fun k_ hk=>(⟨hk,hk.2⟩:_ ∧ k_ ≠ a4))) (fun _ hk=>hk.2) (.int .i64 l6)) (fun _ hk=>hk.2) (.int .i64 m3)) (fun _ hk=>⟨hk.1.1,hk.1.2⟩)⟩,⟨by (with_reducible repeat (first | apply Kd.R_alloc | apply Kd.R_drewN | apply Kd.R_drew));exact Kd.R_mono (Kd.R_far (p:=⟨a4,1,none⟩) (Kd.R_far (p:=⟨a4,0,none⟩) (Kd.R_mono a8.out (fun k_ hk=>(⟨hk,hk.2⟩:_ ∧ k_ ≠ a4))) (fun _ hk=>hk.2) (.int .i64 l6)) (fun _ hk=>hk.2) (.int .i64 m3)) (fun _ hk=>⟨hk.1.1,hk.1.2⟩)⟩,⟨by (with_reducible repeat (first | refine blk_drewN ?_ _ | refine blk_drew ?_ | refine blk_alloc ?_ _));refine blk_put (cs:=#[.int .i64 l6,.int .i64 0]) ?_ 1 _ rfl;(with_reducible repeat (first | refine blk_drewN ?_ _ | refine blk_drew ?_ | refine blk_alloc ?_ _));refine blk_put (cs:=#[.int .i64 0,.int .i64 0]) ?_ 0 _ rfl;(with_reducible repeat (first | refine blk_drewN ?_ _ | refine blk_drew ?_ | refine blk_alloc ?_ _));exact a5.out⟩,⟨bl HB⟩⟩
     case round =>
      clear H'
      obtain ⟨a3,b2,b1,rfl,HA,o3,a9,a6,a8,a5,HB⟩:=hrel
      cases gk with
      | zero=>exact absurd HA.out (by simp [numnahlaw07_SharesOrder.l1])
      | succ k3 =>
       have H:=HA.out
       clear HA
       simp only [numnahlaw07_SharesOrder.l1] at H
       by_cases r8:a3 < (b0.length:Int)
       case neg =>
        rw [if_neg r8] at H
        have t7:=decide_eq_false r8
        clear r8
        replace H:=Option.bind_eq_some_iff.mp H
        obtain ⟨⟨e9,g0⟩,A790,H⟩:=H
        dsimp only at H
        have G9:=A_ A790
        clear A790
        by_cases m4:(b2 == e9 && (b1 == g0)) = true
        case neg =>
         rw [if_neg m4] at H
         have t8:(b2 == e9 && (b1 == g0)) = false:=by simpa using m4
         (try (have t9:decide (b2 = e9 && (b1 == g0)) = false:=by simpa using m4))
         (try (have u0:(b2 == e9 && (b1 == g0)) = false:=by simpa using m4))
         (try (have C6:¬ (b2 = e9 && (b1 == g0)):=by simpa using m4))
         clear m4
         exact absurd ((Option.some.inj H).trans HRT.out) (by decide)
        rw [if_pos m4] at H
        have t8:(b2 == e9 && (b1 == g0)) = true:=m4
        (try (have t9:decide (b2 = e9 && (b1 == g0)) = true:=by simpa using m4))
        (try (have u0:(b2 == e9 && (b1 == g0)) = true:=by simpa using m4))
        clear m4
        replace H:=Option.bind_eq_some_iff.mp H
        obtain ⟨n3,u1,H⟩:=H
        replace H:(some n3) = some r:=H
        have H0:=A_ u1
        clear u1
        obtain rfl:=Option.some.inj H
        try go_wp2
        replace a9:=rD a9
        replace a6:=rD a6
        replace a8:=rD a8
        replace a5:=kD a5
        replace HB:=bD HB
        refine st 8 (fun w'=>w'.cell? ⟨a4,0,none⟩ = some (.int .i64 b2) ∧ w'.cell? ⟨a4,1,none⟩ = some (.int .i64 b1)) [] numnahlaw07_SharesOrder.tab24 numnahlaw07_SharesOrder.bits24 (fun hHeld HT_ HW_=>?_)
        generalize wr.drew = J2 at a9 a6 a8 a5 HB hHeld ⊢
        refine pq 1 145 2 HT_ ?_
        refine tq 0 144 3 HT_ HW_ hHeld ?_
        refine oq 2 146 7 HT_ (fun K hK=>?_)
        refine gq Try.func23 #[.int .i64 c1] ?_
        with_reducible refine (numnahref07_Whole.calls c1 e9 g0 _ G9.out).mono ?_
        rintro e J3 ⟨rfl,hb⟩
        refine ⟨_,rfl,?_⟩
        replace a9:=rB a9 hb
        replace a6:=rB a6 hb
        replace a8:=rB a8 hb
        replace a5:=kB a5 hb
        replace HB:=bB HB hb
        (try clear hb)
        refine hz hK (fun hHeld=>?_)
        clear hK K
        refine nq 146 ?_
        refine pq 3 147 15 HT_ ?_
        refine pq 4 148 31 HT_ ?_
        refine oq 5 149 63 HT_ (fun K hK=>?_)
        refine gq Try.func22 #[] ?_
        with_reducible refine (numnahlaw07_awake.calls k3  n3 _ H0.out).mono ?_
        rintro e J4 ⟨rfl,hb⟩
        refine ⟨_,rfl,?_⟩
        replace a9:=rB a9 hb
        replace a6:=rB a6 hb
        replace a8:=rB a8 hb
        replace a5:=kB a5 hb
        replace HB:=bB HB hb
        (try clear hb)
        refine hz hK (fun hHeld=>?_)
        clear hK K
        refine nq 149 ?_
        refine pq 6 150 127 HT_ ?_
        refine pq 7 6 255 HT_ ?_
        refine done_ (done_of HT_.out (by kernel_rfl)) ?_
        try go_wp2
        go_ret
        exact ⟨by first | rfl | (simp [errW_none,errW_some] <;> rfl) | (simp only [← e5];first | rfl | (simp [errW_none,errW_some] <;> rfl)) | (simp [*,errW_none,errW_some] <;> rfl),bl HB⟩
       rw [if_pos r8] at H
       have t7:=decide_eq_true r8
       clear r8
       replace H:=gd H
       obtain ⟨C7,H⟩:=H
       have C8:=decide_eq_true C7
       clear C7
       replace H:=gd H
       obtain ⟨C9,H⟩:=H
       have D0:=decide_eq_true C9
       clear C9
       replace H:=Option.bind_eq_some_iff.mp H
       obtain ⟨⟨b7,b8⟩,A420,H⟩:=H
       dsimp only at H
       have H1:=A_ A420
       clear A420
       have p5:=A_ H
       clear H
       try go_wp2
       replace a9:=rD a9
       replace a6:=rD a6
       replace a8:=rD a8
       replace a5:=kD a5
       replace HB:=bD HB
       obtain ⟨H2,g6,u2⟩:=Kd.R_slice a6.out
       (first | subst u2 | (injection u2 with u3 A1 u4;have A2:=u3.symm;have A3:=u4.symm;clear u3 A1 u4;subst A2;subst A3))
       have p6:0 ≤ (a3:Int):=of_decide_eq_true (by first | (with_reducible assumption) | assumption)
       have p7:a3 < (a7.length:Int):=of_decide_eq_true (by first | (with_reducible assumption) | assumption)
       obtain ⟨b3,A6,i1,i2⟩:=at_T23 (Kd.R_reads' a6.out).2.2 a3 p6 p7
       cases A6
       replace p6:=eq_true p6
       replace p7:=eq_true p7
       refine start_ (n:=7) (S:=fun w'=>w'.cell? ⟨a4,0,none⟩ = some (.int .i64 b2) ∧ w'.cell? ⟨a4,1,none⟩ = some (.int .i64 b1) ∧ w'.cell? (b3.add ((a3).toNat * 2)) = some (.int .i64 ((rd_T23 a7 a3).f0)) ∧ w'.cell? ⟨(b3.add ((a3).toNat * 2)).block,(b3.add ((a3).toNat * 2)).off + 1,none⟩ = some (.int .i64 ((rd_T23 a7 a3).f1))) (ds:=[6]) (ba 7 0) (by kernel_rfl) rfl rfl ⟨cz a5 0,cz a5 1,i1,i2⟩ (fun hHeld=>?_)
       generalize wr.drew = J5 at a9 a6 a8 a5 HB i1 i2 hHeld ⊢
       refine pr 1 92 2 ?_
       refine pr 2 93 6 ?_
       refine pr 3 94 14 ?_
       refine tr 0 91 15 hHeld ?_
       refine tr 4 95 31 hHeld ?_
       refine os 5 96 63 (fun K hK=>?_)
       refine gq Try.func28 #[.agg #[.int .i64 b2,.int .i64 b1],.agg #[.int .i64 ((rd_T23 a7 a3).f0),.int .i64 ((rd_T23 a7 a3).f1)]] ?_
       with_reducible refine (numnahref07_Add.calls k3 b2 b1 ((rd_T23 a7 a3).f0) ((rd_T23 a7 a3).f1) b7 b8 _ H1.out).mono ?_
       rintro e i3 ⟨rfl,hb⟩
       have l7:=(hb.cell (World.block_lt_of_cell? _ _ (hHeld.2.2.1))).trans (hHeld.2.2.1)
       have n7:=(hb.cell (World.block_lt_of_cell? _ _ (hHeld.2.2.2))).trans (hHeld.2.2.2)
       refine ⟨_,rfl,?_⟩
       replace a9:=rB a9 hb
       replace a6:=rB a6 hb
       replace a8:=rB a8 hb
       replace a5:=kB a5 hb
       replace HB:=bB HB hb
       (try clear hb)
       refine hz hK (fun hHeld=>?_)
       clear hK K
       refine nq 96 ?_
       refine last_ (i:=6) (N:=none) (ba 7 127) rfl rfl (by kernel_rfl) (by decide) (fun K hK=>?_)
       have H3:i3.cell? ⟨a4,0,none⟩ = some (.int .i64 b2):=cz a5 0
       have D1:=blk_frozen a5.out 0
       have H4:i3.cell? ⟨a4,1,none⟩ = some (.int .i64 b1):=cz a5 1
       have D2:=blk_frozen a5.out 1
       refine skip_ (w1:=?_) (by rfl) rfl ?_ ?_
       rotate_left
       ·go_simp
        rfl
       refine hK.out _ _ ?_
       clear hK K
       refine done_ (by kernel_rfl) ?_
       go_upto_region 17 with (fail)
       go_cut [117] (fun A7 wc=>∃ (kq:Nat) (e2:Bool),A7 = .bool e2 ∧ Aside0 (numnahlaw07_SharesOrder.j3 kq c1 b0 a7 b5 a3 e2 b7 b8 = some r) ∧ Aside0 (kq ≤ k3) ∧ Aside0 (Kd.R (Kd.int .i64) 3 wc w.heap.size (fun _=>True) (.slice g2 b0.length g3) b0) ∧ Aside0 (Kd.R k23 23 wc w.heap.size (fun k_=>some k_ ≠ (e1:Value).ownBlock ∧ k_ ≠ a4) (.slice (some b3) a7.length g6) a7) ∧ Aside0 (Kd.R k23 23 wc w.heap.size (fun k_=>some k_ ≠ ((.slice (some b3) a7.length g6):Value).ownBlock ∧ k_ ≠ a4) e1 b5) ∧ Aside0 (wc.heap[a4]? = some (.cells #[.int .i64 b7,.int .i64 b8] 23 (0,0))) ∧ Aside0 (Below w.heap.size w wc))
       case first =>
        have H:=p5.out
        clear p5
        replace H:=Option.bind_eq_some_iff.mp H
        obtain ⟨⟨l8,l9⟩,A490,H⟩:=H
        dsimp only at H
        have D3:=A_ A490
        clear A490
        replace H:=Option.bind_eq_some_iff.mp H
        obtain ⟨n2,u5,H⟩:=H
        replace H:(if n2 = true then (numnahlaw07_SharesOrder.j3 k3 c1 b0 a7 b5 a3 true b7 b8) else (if a3 < (b5.length:Int) then ((numnahref07_Less.f ((rd_T23 b5 a3).f0) ((rd_T23 b5 a3).f1) ((rd_T23 a7 a3).f0) ((rd_T23 a7 a3).f1)).bind fun g8=>(numnahlaw07_SharesOrder.j3 k3 c1 b0 a7 b5 a3 g8 b7 b8)) else (none))) = some r:=H
        have s2:=A_ u5
        clear u5
        by_cases x3:n2 = true
        ·subst x3
         rw [if_pos rfl] at H
         have H':=A_ H
         clear H
         try go_wp2
         have p8:Aside0 (Kd.R (Kd.int .i64) 3 ((i3.setCell ⟨a4,0,none⟩ (.int .i64 b7)).setCell ⟨a4,1,none⟩ (.int .i64 b8)) w.heap.size (fun _=>True) (.slice g2 b0.length g3) b0):=⟨by (with_reducible repeat (first | apply Kd.R_alloc | apply Kd.R_drewN | apply Kd.R_drew));exact Kd.R_mono (Kd.R_far (p:=⟨a4,1,none⟩) (Kd.R_far (p:=⟨a4,0,none⟩) (Kd.R_types a9.out a5.out (by decide)) (fun _ hk=>hk.2) (.int .i64 b7)) (fun _ hk=>hk.2) (.int .i64 b8)) (fun _ hk=>trivial)⟩
         have p9:Aside0 (Kd.R k23 23 ((i3.setCell ⟨a4,0,none⟩ (.int .i64 b7)).setCell ⟨a4,1,none⟩ (.int .i64 b8)) w.heap.size (fun k_=>some k_ ≠ (e1:Value).ownBlock ∧ k_ ≠ a4) (.slice (some b3) a7.length g6) a7):=⟨by (with_reducible repeat (first | apply Kd.R_alloc | apply Kd.R_drewN | apply Kd.R_drew));exact Kd.R_mono (Kd.R_far (p:=⟨a4,1,none⟩) (Kd.R_far (p:=⟨a4,0,none⟩) (Kd.R_mono a6.out (fun k_ hk=>(⟨hk,hk.2⟩:_ ∧ k_ ≠ a4))) (fun _ hk=>hk.2) (.int .i64 b7)) (fun _ hk=>hk.2) (.int .i64 b8)) (fun _ hk=>⟨hk.1.1,hk.1.2⟩)⟩
         have q0:Aside0 (Kd.R k23 23 ((i3.setCell ⟨a4,0,none⟩ (.int .i64 b7)).setCell ⟨a4,1,none⟩ (.int .i64 b8)) w.heap.size (fun k_=>some k_ ≠ (.slice (some b3) a7.length g6:Value).ownBlock ∧ k_ ≠ a4) e1 b5):=⟨by (with_reducible repeat (first | apply Kd.R_alloc | apply Kd.R_drewN | apply Kd.R_drew));exact Kd.R_mono (Kd.R_far (p:=⟨a4,1,none⟩) (Kd.R_far (p:=⟨a4,0,none⟩) (Kd.R_mono a8.out (fun k_ hk=>(⟨hk,hk.2⟩:_ ∧ k_ ≠ a4))) (fun _ hk=>hk.2) (.int .i64 b7)) (fun _ hk=>hk.2) (.int .i64 b8)) (fun _ hk=>⟨hk.1.1,hk.1.2⟩)⟩
         have q1:Aside0 (((i3.setCell ⟨a4,0,none⟩ (.int .i64 b7)).setCell ⟨a4,1,none⟩ (.int .i64 b8)).heap[a4]? = some (.cells #[.int .i64 b7,.int .i64 b8] 23 (0,0))):=⟨by (with_reducible repeat (first | refine blk_drewN ?_ _ | refine blk_drew ?_ | refine blk_alloc ?_ _));refine blk_put (cs:=#[.int .i64 b7,.int .i64 b1]) ?_ 1 _ rfl;(with_reducible repeat (first | refine blk_drewN ?_ _ | refine blk_drew ?_ | refine blk_alloc ?_ _));refine blk_put (cs:=#[.int .i64 b2,.int .i64 b1]) ?_ 0 _ rfl;(with_reducible repeat (first | refine blk_drewN ?_ _ | refine blk_drew ?_ | refine blk_alloc ?_ _));exact a5.out⟩
         have q2:Aside0 (Below w.heap.size w ((i3.setCell ⟨a4,0,none⟩ (.int .i64 b7)).setCell ⟨a4,1,none⟩ (.int .i64 b8))):=⟨bl HB⟩
         generalize ((i3.setCell ⟨a4,0,none⟩ (.int .i64 b7)).setCell ⟨a4,1,none⟩ (.int .i64 b8)) = H5 at p8 p9 q0 q1 q2 ⊢
         have a9:=p8
         have a6:=p9
         have a8:=q0
         have a5:=q1
         have HB:=q2
         clear p8 p9 q0 q1 q2
         replace a9:=rD a9
         replace a6:=rD a6
         replace a8:=rD a8
         replace a5:=kD a5
         replace HB:=bD HB
         have h2:0 ≤ (a3:Int):=of_decide_eq_true (by first | (with_reducible assumption) | assumption)
         have h3:a3 < (b0.length:Int):=of_decide_eq_true (by first | (with_reducible assumption) | assumption)
         obtain ⟨m5,q3,d4⟩:=Kd.at_int (Kd.R_reads' a9.out).2.2 a3 h2 h3
         cases q3
         replace h2:=eq_true h2
         replace h3:=eq_true h3
         have h4:0 ≤ (a3:Int):=of_decide_eq_true (by first | (with_reducible assumption) | assumption)
         have h5:a3 < (a7.length:Int):=of_decide_eq_true (by first | (with_reducible assumption) | assumption)
         obtain ⟨m6,q4,d5,d6⟩:=at_T23 (Kd.R_reads' a6.out).2.2 a3 h4 h5
         obtain rfl:b3 = m6:=(by injection q4)
         replace h4:=eq_true h4
         replace h5:=eq_true h5
         refine start_ (n:=21) (S:=fun w'=>w'.cell? (m5.add (a3).toNat) = some (.int .i64 (rd b0 a3)) ∧ w'.cell? (b3.add ((a3).toNat * 2)) = some (.int .i64 ((rd_T23 a7 a3).f0)) ∧ w'.cell? ⟨(b3.add ((a3).toNat * 2)).block,(b3.add ((a3).toNat * 2)).off + 1,none⟩ = some (.int .i64 ((rd_T23 a7 a3).f1))) (ds:=[]) (ba 21 0) (by kernel_rfl) rfl rfl ⟨d4,d5,d6⟩ (fun hHeld=>?_);refine with_tabW numnahlaw07_SharesOrder.tab17 numnahlaw07_SharesOrder.bits17 (fun HT_ HW_=>?_)
         generalize H5.drew = J6 at a9 a6 a8 a5 HB d4 d5 d6 hHeld ⊢
         refine pq 0 97 1 HT_ ?_
         refine pq 1 98 3 HT_ ?_
         refine pq 2 99 7 HT_ ?_
         refine pq 5 102 39 HT_ ?_
         refine pq 6 103 103 HT_ ?_
         refine pq 7 104 231 HT_ ?_
         refine tq 3 100 239 HT_ HW_ hHeld ?_
         refine tq 8 105 495 HT_ HW_ hHeld ?_
         refine oq 4 101 511 HT_ (fun K hK=>?_)
         refine gq Try.func23 #[.int .i64 (rd b0 a3)] ?_
         with_reducible refine (numnahref07_Whole.calls (rd b0 a3) l8 l9 _ D3.out).mono ?_
         rintro e J7 ⟨rfl,hb⟩
         have m7:=(hb.cell (World.block_lt_of_cell? _ _ (hHeld.1))).trans (hHeld.1)
         have m8:=(hb.cell (World.block_lt_of_cell? _ _ (hHeld.2.1))).trans (hHeld.2.1)
         have l7:=(hb.cell (World.block_lt_of_cell? _ _ (hHeld.2.2))).trans (hHeld.2.2)
         refine ⟨_,rfl,?_⟩
         replace a9:=rB a9 hb
         replace a6:=rB a6 hb
         replace a8:=rB a8 hb
         replace a5:=kB a5 hb
         replace HB:=bB HB hb
         (try clear hb)
         refine hz hK (fun hHeld=>?_)
         clear hK K
         refine nq 101 ?_
         refine oq 9 106 1023 HT_ (fun K hK=>?_)
         refine gq Try.func30 #[.agg #[.int .i64 l8,.int .i64 l9],.agg #[.int .i64 ((rd_T23 a7 a3).f0),.int .i64 ((rd_T23 a7 a3).f1)]] ?_
         with_reducible refine (numnahref07_Less.calls l8 l9 ((rd_T23 a7 a3).f0) ((rd_T23 a7 a3).f1) true _ s2.out).mono ?_
         rintro e J8 ⟨rfl,hb⟩
         have m7:=(hb.cell (World.block_lt_of_cell? _ _ (hHeld.1))).trans (hHeld.1)
         have m8:=(hb.cell (World.block_lt_of_cell? _ _ (hHeld.2.1))).trans (hHeld.2.1)
         have l7:=(hb.cell (World.block_lt_of_cell? _ _ (hHeld.2.2))).trans (hHeld.2.2)
         refine ⟨_,rfl,?_⟩
         replace a9:=rB a9 hb
         replace a6:=rB a6 hb
         replace a8:=rB a8 hb
         replace a5:=kB a5 hb
         replace HB:=bB HB hb
         (try clear hb)
         refine hz hK (fun hHeld=>?_)
         clear hK K
         refine nq 106 ?_
         refine pq 10 107 2047 HT_ ?_
         refine pu 11 108 4095 HT_ ?_
         refine pu 12 109 8191 HT_ ?_
         refine pu 13 110 16383 HT_ ?_
         refine pu 14 111 32767 HT_ ?_
         refine pu 15 112 65535 HT_ ?_
         refine pu 16 113 131071 HT_ ?_
         refine pu 17 114 262143 HT_ ?_
         refine pu 18 115 524287 HT_ ?_
         refine pu 19 116 1048575 HT_ ?_
         refine pq 20 117 2097151 HT_ ?_
         refine done_ (done_of HT_.out (by kernel_rfl)) ?_
         try go_wp2
         go_meet
         case rel=>exact ⟨_,(true),(by first | rfl | (simp;done) | (simp [*];done)),H',⟨by have:=g7.out;have:=g5.out;have:=o3.out;first | omega | exact Nat.le_refl _⟩,⟨by (with_reducible repeat (first | apply Kd.R_alloc | apply Kd.R_drewN | apply Kd.R_drew));exact a9.out⟩,⟨by (with_reducible repeat (first | apply Kd.R_alloc | apply Kd.R_drewN | apply Kd.R_drew));exact a6.out⟩,⟨by (with_reducible repeat (first | apply Kd.R_alloc | apply Kd.R_drewN | apply Kd.R_drew));exact a8.out⟩,⟨by (with_reducible repeat (first | refine blk_drewN ?_ _ | refine blk_drew ?_ | refine blk_alloc ?_ _));exact a5.out⟩,⟨bl HB⟩⟩
        replace x3:=Bool.eq_false_iff.mpr x3
        subst x3
        rw [if_neg (show ¬ (false = true) by decide)] at H
        replace H:=gd H
        obtain ⟨D4,H⟩:=H
        have o4:=decide_eq_true D4
        clear D4
        (first | rw [o4] | (simp only [i64_w,i32_w];rw [o4]) | skip)
        replace H:=Option.bind_eq_some_iff.mp H
        obtain ⟨g8,u6,H⟩:=H
        replace H:(numnahlaw07_SharesOrder.j3 k3 c1 b0 a7 b5 a3 g8 b7 b8) = some r:=H
        have H6:=A_ u6
        clear u6
        have H':=A_ H
        clear H
        try go_wp2
        have p8:Aside0 (Kd.R (Kd.int .i64) 3 ((i3.setCell ⟨a4,0,none⟩ (.int .i64 b7)).setCell ⟨a4,1,none⟩ (.int .i64 b8)) w.heap.size (fun _=>True) (.slice g2 b0.length g3) b0):=⟨by (with_reducible repeat (first | apply Kd.R_alloc | apply Kd.R_drewN | apply Kd.R_drew));exact Kd.R_mono (Kd.R_far (p:=⟨a4,1,none⟩) (Kd.R_far (p:=⟨a4,0,none⟩) (Kd.R_types a9.out a5.out (by decide)) (fun _ hk=>hk.2) (.int .i64 b7)) (fun _ hk=>hk.2) (.int .i64 b8)) (fun _ hk=>trivial)⟩
        have p9:Aside0 (Kd.R k23 23 ((i3.setCell ⟨a4,0,none⟩ (.int .i64 b7)).setCell ⟨a4,1,none⟩ (.int .i64 b8)) w.heap.size (fun k_=>some k_ ≠ (e1:Value).ownBlock ∧ k_ ≠ a4) (.slice (some b3) a7.length g6) a7):=⟨by (with_reducible repeat (first | apply Kd.R_alloc | apply Kd.R_drewN | apply Kd.R_drew));exact Kd.R_mono (Kd.R_far (p:=⟨a4,1,none⟩) (Kd.R_far (p:=⟨a4,0,none⟩) (Kd.R_mono a6.out (fun k_ hk=>(⟨hk,hk.2⟩:_ ∧ k_ ≠ a4))) (fun _ hk=>hk.2) (.int .i64 b7)) (fun _ hk=>hk.2) (.int .i64 b8)) (fun _ hk=>⟨hk.1.1,hk.1.2⟩)⟩
        have q0:Aside0 (Kd.R k23 23 ((i3.setCell ⟨a4,0,none⟩ (.int .i64 b7)).setCell ⟨a4,1,none⟩ (.int .i64 b8)) w.heap.size (fun k_=>some k_ ≠ (.slice (some b3) a7.length g6:Value).ownBlock ∧ k_ ≠ a4) e1 b5):=⟨by (with_reducible repeat (first | apply Kd.R_alloc | apply Kd.R_drewN | apply Kd.R_drew));exact Kd.R_mono (Kd.R_far (p:=⟨a4,1,none⟩) (Kd.R_far (p:=⟨a4,0,none⟩) (Kd.R_mono a8.out (fun k_ hk=>(⟨hk,hk.2⟩:_ ∧ k_ ≠ a4))) (fun _ hk=>hk.2) (.int .i64 b7)) (fun _ hk=>hk.2) (.int .i64 b8)) (fun _ hk=>⟨hk.1.1,hk.1.2⟩)⟩
        have q1:Aside0 (((i3.setCell ⟨a4,0,none⟩ (.int .i64 b7)).setCell ⟨a4,1,none⟩ (.int .i64 b8)).heap[a4]? = some (.cells #[.int .i64 b7,.int .i64 b8] 23 (0,0))):=⟨by (with_reducible repeat (first | refine blk_drewN ?_ _ | refine blk_drew ?_ | refine blk_alloc ?_ _));refine blk_put (cs:=#[.int .i64 b7,.int .i64 b1]) ?_ 1 _ rfl;(with_reducible repeat (first | refine blk_drewN ?_ _ | refine blk_drew ?_ | refine blk_alloc ?_ _));refine blk_put (cs:=#[.int .i64 b2,.int .i64 b1]) ?_ 0 _ rfl;(with_reducible repeat (first | refine blk_drewN ?_ _ | refine blk_drew ?_ | refine blk_alloc ?_ _));exact a5.out⟩
        have q2:Aside0 (Below w.heap.size w ((i3.setCell ⟨a4,0,none⟩ (.int .i64 b7)).setCell ⟨a4,1,none⟩ (.int .i64 b8))):=⟨bl HB⟩
        generalize ((i3.setCell ⟨a4,0,none⟩ (.int .i64 b7)).setCell ⟨a4,1,none⟩ (.int .i64 b8)) = H7 at p8 p9 q0 q1 q2 ⊢
        have a9:=p8
        have a6:=p9
        have a8:=q0
        have a5:=q1
        have HB:=q2
        clear p8 p9 q0 q1 q2
        replace a9:=rD a9
        replace a6:=rD a6
        replace a8:=rD a8
        replace a5:=kD a5
        replace HB:=bD HB
        have h2:0 ≤ (a3:Int):=of_decide_eq_true (by first | (with_reducible assumption) | assumption)
        have h3:a3 < (b0.length:Int):=of_decide_eq_true (by first | (with_reducible assumption) | assumption)
        obtain ⟨m5,q3,d4⟩:=Kd.at_int (Kd.R_reads' a9.out).2.2 a3 h2 h3
        cases q3
        replace h2:=eq_true h2
        replace h3:=eq_true h3
        have h4:0 ≤ (a3:Int):=of_decide_eq_true (by first | (with_reducible assumption) | assumption)
        have h5:a3 < (a7.length:Int):=of_decide_eq_true (by first | (with_reducible assumption) | assumption)
        obtain ⟨m6,q4,d5,d6⟩:=at_T23 (Kd.R_reads' a6.out).2.2 a3 h4 h5
        obtain rfl:b3 = m6:=(by injection q4)
        replace h4:=eq_true h4
        replace h5:=eq_true h5
        obtain ⟨Aoz_,coz_,eoz_⟩:=Kd.R_slice a8.out
        subst eoz_
        have q5:0 ≤ (a3:Int):=of_decide_eq_true (by first | (with_reducible assumption) | assumption)
        have q6:a3 < (b5.length:Int):=of_decide_eq_true (by first | (with_reducible assumption) | assumption)
        obtain ⟨m9,A8,i4,i5⟩:=at_T23 (Kd.R_reads' a8.out).2.2 a3 q5 q6
        cases A8
        replace q5:=eq_true q5
        replace q6:=eq_true q6
        have q7:0 ≤ (a3:Int):=of_decide_eq_true (by first | (with_reducible assumption) | assumption)
        have q8:a3 < (a7.length:Int):=of_decide_eq_true (by first | (with_reducible assumption) | assumption)
        obtain ⟨u7,A9,i6,i7⟩:=at_T23 (Kd.R_reads' a6.out).2.2 a3 q7 q8
        obtain rfl:b3 = u7:=(by injection A9)
        replace q7:=eq_true q7
        replace q8:=eq_true q8
        refine start_ (n:=21) (S:=fun w'=>w'.cell? (m5.add (a3).toNat) = some (.int .i64 (rd b0 a3)) ∧ w'.cell? (b3.add ((a3).toNat * 2)) = some (.int .i64 ((rd_T23 a7 a3).f0)) ∧ w'.cell? ⟨(b3.add ((a3).toNat * 2)).block,(b3.add ((a3).toNat * 2)).off + 1,none⟩ = some (.int .i64 ((rd_T23 a7 a3).f1)) ∧ w'.cell? (m9.add ((a3).toNat * 2)) = some (.int .i64 ((rd_T23 b5 a3).f0)) ∧ w'.cell? ⟨(m9.add ((a3).toNat * 2)).block,(m9.add ((a3).toNat * 2)).off + 1,none⟩ = some (.int .i64 ((rd_T23 b5 a3).f1)) ∧ w'.cell? (b3.add ((a3).toNat * 2)) = some (.int .i64 ((rd_T23 a7 a3).f0)) ∧ w'.cell? ⟨(b3.add ((a3).toNat * 2)).block,(b3.add ((a3).toNat * 2)).off + 1,none⟩ = some (.int .i64 ((rd_T23 a7 a3).f1))) (ds:=[]) (ba 21 0) (by kernel_rfl) rfl rfl ⟨d4,d5,d6,i4,i5,i6,i7⟩ (fun hHeld=>?_);refine with_tabW numnahlaw07_SharesOrder.tab17 numnahlaw07_SharesOrder.bits17 (fun HT_ HW_=>?_)
        generalize H7.drew = J9 at a9 a6 a8 a5 HB d4 d5 d6 i4 i5 i6 i7 hHeld ⊢
        refine pq 0 97 1 HT_ ?_
        refine pq 1 98 3 HT_ ?_
        refine pq 2 99 7 HT_ ?_
        refine pq 5 102 39 HT_ ?_
        refine pq 6 103 103 HT_ ?_
        refine pq 7 104 231 HT_ ?_
        refine tq 3 100 239 HT_ HW_ hHeld ?_
        refine tq 8 105 495 HT_ HW_ hHeld ?_
        refine oq 4 101 511 HT_ (fun K hK=>?_)
        refine gq Try.func23 #[.int .i64 (rd b0 a3)] ?_
        with_reducible refine (numnahref07_Whole.calls (rd b0 a3) l8 l9 _ D3.out).mono ?_
        rintro e K0 ⟨rfl,hb⟩
        have m7:=(hb.cell (World.block_lt_of_cell? _ _ (hHeld.1))).trans (hHeld.1)
        have m8:=(hb.cell (World.block_lt_of_cell? _ _ (hHeld.2.1))).trans (hHeld.2.1)
        have l7:=(hb.cell (World.block_lt_of_cell? _ _ (hHeld.2.2.1))).trans (hHeld.2.2.1)
        have n7:=(hb.cell (World.block_lt_of_cell? _ _ (hHeld.2.2.2.1))).trans (hHeld.2.2.2.1)
        have q9:=(hb.cell (World.block_lt_of_cell? _ _ (hHeld.2.2.2.2.1))).trans (hHeld.2.2.2.2.1)
        have r0:=(hb.cell (World.block_lt_of_cell? _ _ (hHeld.2.2.2.2.2.1))).trans (hHeld.2.2.2.2.2.1)
        have u8:=(hb.cell (World.block_lt_of_cell? _ _ (hHeld.2.2.2.2.2.2))).trans (hHeld.2.2.2.2.2.2)
        refine ⟨_,rfl,?_⟩
        replace a9:=rB a9 hb
        replace a6:=rB a6 hb
        replace a8:=rB a8 hb
        replace a5:=kB a5 hb
        replace HB:=bB HB hb
        (try clear hb)
        refine hz hK (fun hHeld=>?_)
        clear hK K
        refine nq 101 ?_
        refine oq 9 106 1023 HT_ (fun K hK=>?_)
        refine gq Try.func30 #[.agg #[.int .i64 l8,.int .i64 l9],.agg #[.int .i64 ((rd_T23 a7 a3).f0),.int .i64 ((rd_T23 a7 a3).f1)]] ?_
        with_reducible refine (numnahref07_Less.calls l8 l9 ((rd_T23 a7 a3).f0) ((rd_T23 a7 a3).f1) false _ s2.out).mono ?_
        rintro e K1 ⟨rfl,hb⟩
        have m7:=(hb.cell (World.block_lt_of_cell? _ _ (hHeld.1))).trans (hHeld.1)
        have m8:=(hb.cell (World.block_lt_of_cell? _ _ (hHeld.2.1))).trans (hHeld.2.1)
        have l7:=(hb.cell (World.block_lt_of_cell? _ _ (hHeld.2.2.1))).trans (hHeld.2.2.1)
        have n7:=(hb.cell (World.block_lt_of_cell? _ _ (hHeld.2.2.2.1))).trans (hHeld.2.2.2.1)
        have q9:=(hb.cell (World.block_lt_of_cell? _ _ (hHeld.2.2.2.2.1))).trans (hHeld.2.2.2.2.1)
        have r0:=(hb.cell (World.block_lt_of_cell? _ _ (hHeld.2.2.2.2.2.1))).trans (hHeld.2.2.2.2.2.1)
        have u8:=(hb.cell (World.block_lt_of_cell? _ _ (hHeld.2.2.2.2.2.2))).trans (hHeld.2.2.2.2.2.2)
        refine ⟨_,rfl,?_⟩
        replace a9:=rB a9 hb
        replace a6:=rB a6 hb
        replace a8:=rB a8 hb
        replace a5:=kB a5 hb
        replace HB:=bB HB hb
        (try clear hb)
        obtain ⟨H8,H9,u9⟩:=Kd.R_slice a8.out
        (first | subst u9 | (injection u9 with u3 A1 u4;have A2:=u3.symm;have A3:=u4.symm;clear u3 A1 u4;subst A2;subst A3))
        refine hz hK (fun hHeld=>?_)
        clear hK K
        refine nq 106 ?_
        refine pq 10 107 2047 HT_ ?_
        refine pq 11 108 4095 HT_ ?_
        refine pq 12 109 8191 HT_ ?_
        refine pq 13 110 16383 HT_ ?_
        refine pq 15 112 49151 HT_ ?_
        refine pq 16 113 114687 HT_ ?_
        refine pq 17 114 245759 HT_ ?_
        refine tq 14 111 262143 HT_ HW_ hHeld ?_
        refine tq 18 115 524287 HT_ HW_ hHeld ?_
        refine oq 19 116 1048575 HT_ (fun K hK=>?_)
        refine gq Try.func30 #[.agg #[.int .i64 ((rd_T23 b5 a3).f0),.int .i64 ((rd_T23 b5 a3).f1)],.agg #[.int .i64 ((rd_T23 a7 a3).f0),.int .i64 ((rd_T23 a7 a3).f1)]] ?_
        with_reducible refine (numnahref07_Less.calls ((rd_T23 b5 a3).f0) ((rd_T23 b5 a3).f1) ((rd_T23 a7 a3).f0) ((rd_T23 a7 a3).f1) g8 _ H6.out).mono ?_
        rintro e K2 ⟨rfl,hb⟩
        have m7:=(hb.cell (World.block_lt_of_cell? _ _ (hHeld.1))).trans (hHeld.1)
        have m8:=(hb.cell (World.block_lt_of_cell? _ _ (hHeld.2.1))).trans (hHeld.2.1)
        have l7:=(hb.cell (World.block_lt_of_cell? _ _ (hHeld.2.2.1))).trans (hHeld.2.2.1)
        have n7:=(hb.cell (World.block_lt_of_cell? _ _ (hHeld.2.2.2.1))).trans (hHeld.2.2.2.1)
        have q9:=(hb.cell (World.block_lt_of_cell? _ _ (hHeld.2.2.2.2.1))).trans (hHeld.2.2.2.2.1)
        have r0:=(hb.cell (World.block_lt_of_cell? _ _ (hHeld.2.2.2.2.2.1))).trans (hHeld.2.2.2.2.2.1)
        have u8:=(hb.cell (World.block_lt_of_cell? _ _ (hHeld.2.2.2.2.2.2))).trans (hHeld.2.2.2.2.2.2)
        refine ⟨_,rfl,?_⟩
        replace a9:=rB a9 hb
        replace a6:=rB a6 hb
        replace a8:=rB a8 hb
        replace a5:=kB a5 hb
        replace HB:=bB HB hb
        (try clear hb)
        refine hz hK (fun hHeld=>?_)
        clear hK K
        refine nq 116 ?_
        refine pq 20 117 2097151 HT_ ?_
        refine done_ (done_of HT_.out (by kernel_rfl)) ?_
        try go_wp2
        go_meet
        case rel=>exact ⟨_,(g8),(by first | rfl | (simp;done) | (simp [*];done)),H',⟨by have:=g7.out;have:=g5.out;have:=o3.out;first | omega | exact Nat.le_refl _⟩,⟨by (with_reducible repeat (first | apply Kd.R_alloc | apply Kd.R_drewN | apply Kd.R_drew));exact a9.out⟩,⟨by (with_reducible repeat (first | apply Kd.R_alloc | apply Kd.R_drewN | apply Kd.R_drew));exact a6.out⟩,⟨by (with_reducible repeat (first | apply Kd.R_alloc | apply Kd.R_drewN | apply Kd.R_drew));exact a8.out⟩,⟨by (with_reducible repeat (first | refine blk_drewN ?_ _ | refine blk_drew ?_ | refine blk_alloc ?_ _));exact a5.out⟩,⟨bl HB⟩⟩
       case rest =>
        clear p5
        obtain ⟨kq,e2,rfl,HA,m0,a9,a6,a8,a5,HB⟩:=hcut
        cases kq with
        | zero=>exact absurd HA.out (by simp [numnahlaw07_SharesOrder.j3])
        | succ v0 =>
         have H:=HA.out
         clear HA
         simp only [numnahlaw07_SharesOrder.j3] at H
         by_cases x4:e2 = true
         ·subst x4
          rw [if_pos rfl] at H
          exact absurd ((Option.some.inj H).trans HRT.out) (by decide)
         replace x4:=Bool.eq_false_iff.mpr x4
         subst x4
         rw [if_neg (show ¬ (false = true) by decide)] at H
         have H':=A_ H
         clear H
         go_wp2
         go_loopg [16] v0 (fun kq I0 w'=>∃ (b4:Int),I0 = .int .i64 b4 ∧ Aside0 (numnahlaw07_SharesOrder.l2 kq c1 b0 a7 b5 a3 b4 b7 b8 = some r) ∧ Aside0 (kq ≤ v0) ∧ Aside0 (Kd.R (Kd.int .i64) 3 w' w.heap.size (fun _=>True) (.slice g2 b0.length g3) b0) ∧ Aside0 (Kd.R k23 23 w' w.heap.size (fun k_=>some k_ ≠ (e1:Value).ownBlock ∧ k_ ≠ a4) (.slice (some b3) a7.length g6) a7) ∧ Aside0 (Kd.R k23 23 w' w.heap.size (fun k_=>some k_ ≠ ((.slice (some b3) a7.length g6):Value).ownBlock ∧ k_ ≠ a4) e1 b5) ∧ Aside0 (w'.heap[a4]? = some (.cells #[.int .i64 b7,.int .i64 b8] 23 (0,0))) ∧ Aside0 (Below w.heap.size w w'))
         case atStart=>exact ⟨(0),(by first | rfl | (simp;done) | (simp [*];done)),H',⟨Nat.le_refl _⟩,⟨by (with_reducible repeat (first | apply Kd.R_alloc | apply Kd.R_drewN | apply Kd.R_drew));exact a9.out⟩,⟨by (with_reducible repeat (first | apply Kd.R_alloc | apply Kd.R_drewN | apply Kd.R_drew));exact a6.out⟩,⟨by (with_reducible repeat (first | apply Kd.R_alloc | apply Kd.R_drewN | apply Kd.R_drew));exact a8.out⟩,⟨by (with_reducible repeat (first | refine blk_drewN ?_ _ | refine blk_drew ?_ | refine blk_alloc ?_ _));exact a5.out⟩,⟨bl HB⟩⟩
         case round =>
          clear H'
          obtain ⟨b4,rfl,HA,r9,a9,a6,a8,a5,HB⟩:=hrel
          cases gk with
          | zero=>exact absurd HA.out (by simp [numnahlaw07_SharesOrder.l2])
          | succ k5 =>
           have H:=HA.out
           clear HA
           simp only [numnahlaw07_SharesOrder.l2] at H
           by_cases s0:b4 < (b0.length:Int)
           case neg =>
            rw [if_neg s0] at H
            have v1:=decide_eq_false s0
            clear s0
            have H':=A_ H
            clear H
            go_wp2
            go_roundg k5
            case measure=>have:=g7.out;have:=g5.out;have:=o3.out;have:=m0.out;have:=r9.out;omega
            case rel=>exact ⟨(wrap64 (a3 + 1)),(b7),(b8),(by first | rfl | (simp;done) | (simp [*];done)),H',⟨by have:=g7.out;have:=g5.out;have:=o3.out;have:=m0.out;have:=r9.out;omega⟩,⟨by (with_reducible repeat (first | apply Kd.R_alloc | apply Kd.R_drewN | apply Kd.R_drew));exact a9.out⟩,⟨by (with_reducible repeat (first | apply Kd.R_alloc | apply Kd.R_drewN | apply Kd.R_drew));exact a6.out⟩,⟨by (with_reducible repeat (first | apply Kd.R_alloc | apply Kd.R_drewN | apply Kd.R_drew));exact a8.out⟩,⟨by (with_reducible repeat (first | refine blk_drewN ?_ _ | refine blk_drew ?_ | refine blk_alloc ?_ _));exact a5.out⟩,⟨bl HB⟩⟩
           rw [if_pos s0] at H
           have v1:=decide_eq_true s0
           clear s0
           replace H:=gd H
           obtain ⟨D5,H⟩:=H
           have D6:=decide_eq_true D5
           clear D5
           replace H:=gd H
           obtain ⟨D7,H⟩:=H
           have D8:=decide_eq_true D7
           clear D7
           replace H:=gd H
           obtain ⟨D9,H⟩:=H
           have E0:=decide_eq_true D9
           clear D9
           by_cases s1:(rd b0 a3) ≤ (rd b0 b4)
           case neg =>
            rw [if_neg s1] at H
            have v2:=decide_eq_false s1
            clear s1
            have H':=A_ H
            clear H
            try go_wp2
            replace a9:=rD a9
            replace a6:=rD a6
            replace a8:=rD a8
            replace a5:=kD a5
            replace HB:=bD HB
            have h6:0 ≤ (a3:Int):=of_decide_eq_true (by first | (with_reducible assumption) | assumption)
            have h7:a3 < (b0.length:Int):=of_decide_eq_true (by first | (with_reducible assumption) | assumption)
            obtain ⟨e4,r1,d7⟩:=Kd.at_int (Kd.R_reads' a9.out).2.2 a3 h6 h7
            cases r1
            replace h6:=eq_true h6
            replace h7:=eq_true h7
            have h8:0 ≤ (b4:Int):=of_decide_eq_true (by first | (with_reducible assumption) | assumption)
            have h9:b4 < (b0.length:Int):=of_decide_eq_true (by first | (with_reducible assumption) | assumption)
            obtain ⟨n0,r2,d8⟩:=Kd.at_int (Kd.R_reads' a9.out).2.2 b4 h8 h9
            obtain rfl:e4 = n0:=(by injection r2)
            replace h8:=eq_true h8
            replace h9:=eq_true h9
            refine start_ (n:=20) (S:=fun w'=>w'.cell? (e4.add (a3).toNat) = some (.int .i64 (rd b0 a3)) ∧ w'.cell? (e4.add (b4).toNat) = some (.int .i64 (rd b0 b4))) (ds:=[]) (ba 20 0) (by kernel_rfl) rfl rfl ⟨d7,d8⟩ (fun hHeld=>?_);refine with_tabW numnahlaw07_SharesOrder.tab22 numnahlaw07_SharesOrder.bits22 (fun HT_ HW_=>?_)
            generalize wr.drew = K3 at a9 a6 a8 a5 HB d7 d8 hHeld ⊢
            refine pq 0 124 1 HT_ ?_
            refine pq 1 125 3 HT_ ?_
            refine pq 2 126 7 HT_ ?_
            refine pq 4 128 23 HT_ ?_
            refine pq 5 129 55 HT_ ?_
            refine pq 6 130 119 HT_ ?_
            refine tq 3 127 127 HT_ HW_ hHeld ?_
            refine tq 7 131 255 HT_ HW_ hHeld ?_
            refine pq 8 132 511 HT_ ?_
            refine pq 9 133 1023 HT_ ?_
            refine pu 10 134 2047 HT_ ?_
            refine pu 11 135 4095 HT_ ?_
            refine pu 12 136 8191 HT_ ?_
            refine pu 13 137 16383 HT_ ?_
            refine pu 14 138 32767 HT_ ?_
            refine pu 15 139 65535 HT_ ?_
            refine pu 16 140 131071 HT_ ?_
            refine pu 17 141 262143 HT_ ?_
            refine pu 18 142 524287 HT_ ?_
            refine pq 19 143 1048575 HT_ ?_
            refine done_ (done_of HT_.out (by kernel_rfl)) ?_
            try go_wp2
            go_roundg k5
            case measure=>have:=g7.out;have:=g5.out;have:=o3.out;have:=m0.out;have:=r9.out;omega
            case rel=>exact ⟨(wrap64 (b4 + 1)),(by first | rfl | (simp;done) | (simp [*];done)),H',⟨by have:=g7.out;have:=g5.out;have:=o3.out;have:=m0.out;have:=r9.out;omega⟩,⟨by (with_reducible repeat (first | apply Kd.R_alloc | apply Kd.R_drewN | apply Kd.R_drew));exact a9.out⟩,⟨by (with_reducible repeat (first | apply Kd.R_alloc | apply Kd.R_drewN | apply Kd.R_drew));exact a6.out⟩,⟨by (with_reducible repeat (first | apply Kd.R_alloc | apply Kd.R_drewN | apply Kd.R_drew));exact a8.out⟩,⟨by (with_reducible repeat (first | refine blk_drewN ?_ _ | refine blk_drew ?_ | refine blk_alloc ?_ _));exact a5.out⟩,⟨bl HB⟩⟩
           rw [if_pos s1] at H
           have v2:=decide_eq_true s1
           clear s1
           replace H:=gd H
           obtain ⟨E1,H⟩:=H
           have E2:=decide_eq_true E1
           clear E1
           replace H:=gd H
           obtain ⟨E3,H⟩:=H
           have E4:=decide_eq_true E3
           clear E3
           replace H:=Option.bind_eq_some_iff.mp H
           obtain ⟨n4,v3,H⟩:=H
           replace H:(if n4 = true then (some false) else (numnahlaw07_SharesOrder.l2 k5 c1 b0 a7 b5 a3 (wrap64 (b4 + 1)) b7 b8)) = some r:=H
           have I1:=A_ v3
           clear v3
           by_cases x5:n4 = true
           ·subst x5
            rw [if_pos rfl] at H
            exact absurd ((Option.some.inj H).trans HRT.out) (by decide)
           replace x5:=Bool.eq_false_iff.mpr x5
           subst x5
           rw [if_neg (show ¬ (false = true) by decide)] at H
           have H':=A_ H
           clear H
           try go_wp2
           replace a9:=rD a9
           replace a6:=rD a6
           replace a8:=rD a8
           replace a5:=kD a5
           replace HB:=bD HB
           have h6:0 ≤ (a3:Int):=of_decide_eq_true (by first | (with_reducible assumption) | assumption)
           have h7:a3 < (b0.length:Int):=of_decide_eq_true (by first | (with_reducible assumption) | assumption)
           obtain ⟨e4,r1,d7⟩:=Kd.at_int (Kd.R_reads' a9.out).2.2 a3 h6 h7
           cases r1
           replace h6:=eq_true h6
           replace h7:=eq_true h7
           have h8:0 ≤ (b4:Int):=of_decide_eq_true (by first | (with_reducible assumption) | assumption)
           have h9:b4 < (b0.length:Int):=of_decide_eq_true (by first | (with_reducible assumption) | assumption)
           obtain ⟨n0,r2,d8⟩:=Kd.at_int (Kd.R_reads' a9.out).2.2 b4 h8 h9
           obtain rfl:e4 = n0:=(by injection r2)
           replace h8:=eq_true h8
           replace h9:=eq_true h9
           have r3:0 ≤ (b4:Int):=of_decide_eq_true (by first | (with_reducible assumption) | assumption)
           have r4:b4 < (a7.length:Int):=of_decide_eq_true (by first | (with_reducible assumption) | assumption)
           obtain ⟨v4,B0,i8,i9⟩:=at_T23 (Kd.R_reads' a6.out).2.2 b4 r3 r4
           obtain rfl:b3 = v4:=(by injection B0)
           replace r3:=eq_true r3
           replace r4:=eq_true r4
           have r5:0 ≤ (a3:Int):=of_decide_eq_true (by first | (with_reducible assumption) | assumption)
           have r6:a3 < (a7.length:Int):=of_decide_eq_true (by first | (with_reducible assumption) | assumption)
           obtain ⟨v5,C0,j5,j7⟩:=at_T23 (Kd.R_reads' a6.out).2.2 a3 r5 r6
           obtain rfl:b3 = v5:=(by injection C0)
           replace r5:=eq_true r5
           replace r6:=eq_true r6
           refine start_ (n:=20) (S:=fun w'=>w'.cell? (e4.add (a3).toNat) = some (.int .i64 (rd b0 a3)) ∧ w'.cell? (e4.add (b4).toNat) = some (.int .i64 (rd b0 b4)) ∧ w'.cell? (b3.add ((b4).toNat * 2)) = some (.int .i64 ((rd_T23 a7 b4).f0)) ∧ w'.cell? ⟨(b3.add ((b4).toNat * 2)).block,(b3.add ((b4).toNat * 2)).off + 1,none⟩ = some (.int .i64 ((rd_T23 a7 b4).f1)) ∧ w'.cell? (b3.add ((a3).toNat * 2)) = some (.int .i64 ((rd_T23 a7 a3).f0)) ∧ w'.cell? ⟨(b3.add ((a3).toNat * 2)).block,(b3.add ((a3).toNat * 2)).off + 1,none⟩ = some (.int .i64 ((rd_T23 a7 a3).f1))) (ds:=[]) (ba 20 0) (by kernel_rfl) rfl rfl ⟨d7,d8,i8,i9,j5,j7⟩ (fun hHeld=>?_);refine with_tabW numnahlaw07_SharesOrder.tab22 numnahlaw07_SharesOrder.bits22 (fun HT_ HW_=>?_)
           generalize wr.drew = K4 at a9 a6 a8 a5 HB d7 d8 i8 i9 j5 j7 hHeld ⊢
           refine pq 0 124 1 HT_ ?_
           refine pq 1 125 3 HT_ ?_
           refine pq 2 126 7 HT_ ?_
           refine pq 4 128 23 HT_ ?_
           refine pq 5 129 55 HT_ ?_
           refine pq 6 130 119 HT_ ?_
           refine tq 3 127 127 HT_ HW_ hHeld ?_
           refine tq 7 131 255 HT_ HW_ hHeld ?_
           refine pq 8 132 511 HT_ ?_
           refine pq 9 133 1023 HT_ ?_
           refine pq 10 134 2047 HT_ ?_
           refine pq 11 135 4095 HT_ ?_
           refine pq 12 136 8191 HT_ ?_
           refine pq 14 138 24575 HT_ ?_
           refine pq 15 139 57343 HT_ ?_
           refine pq 16 140 122879 HT_ ?_
           refine tq 13 137 131071 HT_ HW_ hHeld ?_
           refine tq 17 141 262143 HT_ HW_ hHeld ?_
           refine oq 18 142 524287 HT_ (fun K hK=>?_)
           refine gq Try.func30 #[.agg #[.int .i64 ((rd_T23 a7 b4).f0),.int .i64 ((rd_T23 a7 b4).f1)],.agg #[.int .i64 ((rd_T23 a7 a3).f0),.int .i64 ((rd_T23 a7 a3).f1)]] ?_
           with_reducible refine (numnahref07_Less.calls ((rd_T23 a7 b4).f0) ((rd_T23 a7 b4).f1) ((rd_T23 a7 a3).f0) ((rd_T23 a7 a3).f1) false _ I1.out).mono ?_
           rintro e K5 ⟨rfl,hb⟩
           have m7:=(hb.cell (World.block_lt_of_cell? _ _ (hHeld.1))).trans (hHeld.1)
           have m8:=(hb.cell (World.block_lt_of_cell? _ _ (hHeld.2.1))).trans (hHeld.2.1)
           have l7:=(hb.cell (World.block_lt_of_cell? _ _ (hHeld.2.2.1))).trans (hHeld.2.2.1)
           have n7:=(hb.cell (World.block_lt_of_cell? _ _ (hHeld.2.2.2.1))).trans (hHeld.2.2.2.1)
           have q9:=(hb.cell (World.block_lt_of_cell? _ _ (hHeld.2.2.2.2.1))).trans (hHeld.2.2.2.2.1)
           have r0:=(hb.cell (World.block_lt_of_cell? _ _ (hHeld.2.2.2.2.2))).trans (hHeld.2.2.2.2.2)
           refine ⟨_,rfl,?_⟩
           replace a9:=rB a9 hb
           replace a6:=rB a6 hb
           replace a8:=rB a8 hb
           replace a5:=kB a5 hb
           replace HB:=bB HB hb
           (try clear hb)
           refine hz hK (fun hHeld=>?_)
           clear hK K
           refine nq 142 ?_
           refine pq 19 143 1048575 HT_ ?_
           refine done_ (done_of HT_.out (by kernel_rfl)) ?_
           try go_wp2
           go_roundg k5
           case measure=>have:=g7.out;have:=g5.out;have:=o3.out;have:=m0.out;have:=r9.out;omega
           case rel=>exact ⟨(wrap64 (b4 + 1)),(by first | rfl | (simp;done) | (simp [*];done)),H',⟨by have:=g7.out;have:=g5.out;have:=o3.out;have:=m0.out;have:=r9.out;omega⟩,⟨by (with_reducible repeat (first | apply Kd.R_alloc | apply Kd.R_drewN | apply Kd.R_drew));exact a9.out⟩,⟨by (with_reducible repeat (first | apply Kd.R_alloc | apply Kd.R_drewN | apply Kd.R_drew));exact a6.out⟩,⟨by (with_reducible repeat (first | apply Kd.R_alloc | apply Kd.R_drewN | apply Kd.R_drew));exact a8.out⟩,⟨by (with_reducible repeat (first | refine blk_drewN ?_ _ | refine blk_drew ?_ | refine blk_alloc ?_ _));exact a5.out⟩,⟨bl HB⟩⟩
def numnahlaw07_SharesOrder.Pure:Prop:=∀ (l0:List Int) (a1:Int) (a2:Int),l0.length ≤ maxLen → l0.length * 8 ≤ 140737488351232 → (∀ x ∈ l0,(Lit.int .i64 x).wf = true) → (Lit.int .i64 a1).wf = true → (Lit.int .i64 a2).wf = true → ∃ k,numnahlaw07_SharesOrder.f k l0 a1 a2 = some true
theorem numnahlaw07_SharesOrder.walk (P:numnahlaw07_SharesOrder.Pure) (a0:Option Addr) (n8 n1:Nat) (z0:List Int) (a1:Int) (a2:Int) (w:World) (w0:(a0 = none ∧ n8 = 0 ∧ n1 = 0 ∧ z0 = []) ∨ ∃ x,a0 = some x ∧ n8 ≤ n1 ∧ n1 ≤ maxLen ∧ z0.length = n1 ∧ (∀ i,i < z0.length → w.cell? (x.add i) = some (.int .i64 (z0.getD i 0))) ∧ ∀ n ∈ z0,(Lit.int .i64 n).wf = true) (y0:n8 * 8 ≤ 140737488351232) (w1:(Lit.int .i64 a1).wf = true) (w2:(Lit.int .i64 a2).wf = true) :
  Calls Try.prog 5 #[.slice a0 n8 n1,.int .i64 a1,.int .i64 a2] w fun e w'=>e = .returned (.bool true) ∧ Below w.heap.size w w':=by
 obtain ⟨l0,rfl,v6,I2,I3,v7⟩:=ReadsInt.ofRowC w0
 obtain ⟨k,h⟩:=P l0 a1 a2 I2 y0 I3 w1 w2
 refine (numnahlaw07_SharesOrder.calls k _ _ l0 a1 a2 true w (Kd.C_of_reads (d:=(0:Int)) (h1:=fun _=>rfl) v6) v7 h rfl).mono ?_
 rintro e w' ⟨rfl,hd⟩
 exact ⟨rfl,hd⟩
end Go.Proofs.Ytjohcjfmlhihbaa.G
set_option linter.unusedSectionVars false
namespace Go.Proofs.Ytjohcjfmlhihbaa.P
open Go Go.RowKit Go.Proofs.Ytjohcjfmlhihbaa.G
open Go.Proofs.YtjohcjfmlhihbaaW.PrintWords Go.Proofs.YtjohcjfmlhihbaaW.PrintMore
section
variable {l:List Int} (h:IsCl l) {E:Int} (h0:0 ≤ E) (h1:E ≤ sI l)
variable {φ ψ:Rat → Rat} (hw:∀ c ∈ cl l,0 ≤ φ c ∧ φ c ≤ c) (ho:∀ c d,c ≤ d → c ∈ cl l → d ∈ cl l → φ c ≤ φ d) (hm:∀ c ∈ cl l,φ c ≤ ψ c) (sx:∀ c ∈ cl l,Sm 10000000 10000 (φ c)) (sy:∀ c ∈ cl l,Sm 10000000 10000 (ψ c))
variable {D:Nat} (d0:0 < D) (d1:D ≤ 10000) (hD:∀ c ∈ cl l,(φ c).den ∣ D) (ht:tot ((cl l).map φ) = (E:Rat))
include h h0 h1 hw ho hm sx sy d0 d1 hD ht
theorem order_l2 {i:Nat} (hi:i < l.length) {a b:Int} (next:Ev (fun k=>numnahlaw07_SharesOrder.l1 k E l (encL ((cl l).map φ)) (encL ((cl l).map ψ)) ((i + 1:Nat):Int) a b) true) :
  ∀ (d j:Nat),j + d = l.length → Ev (fun k=>numnahlaw07_SharesOrder.l2 k E l (encL ((cl l).map φ)) (encL ((cl l).map ψ)) (i:Int) (j:Int) a b) true:=by
 have hl:=h.ten
 have hx:∀ {j},j < l.length → j < ((cl l).map φ).length:=fun hj=>by rw [List.length_map,cl_length];exact hj
 intro d
 induction d with
 | zero =>
  intro j hj
  refine Ev.step (fun k=>?_) next
  rw [numnahlaw07_SharesOrder.l2,if_neg (by omega),wrap_succ (by omega)]
 | succ d ih =>
  intro j hj
  have hjl:j < l.length:=by omega
  refine Ev.step (fun k=>?_) (ih (j + 1) (by omega))
  have hxi:=hx hi
  have hxj:=hx hjl
  rw [numnahlaw07_SharesOrder.l2,encL_length,if_pos (by omega),if_pos (by omega),if_pos (by omega),if_pos (by omega),rd_get hi,rd_get hjl]
  by_cases hle:l[i] ≤ l[j]
  ·have ci:(l[i]:Rat) ∈ cl l:=List.mem_map.2 ⟨l[i],List.getElem_mem hi,rfl⟩
   have cj:(l[j]:Rat) ∈ cl l:=List.mem_map.2 ⟨l[j],List.getElem_mem hjl,rfl⟩
   have hno:=ho _ _ (int_rat_le.2 hle) ci cj
   rw [if_pos hle,if_pos (by omega),if_pos (by omega),rdE hxi,rdE hxj,List.getElem_map,List.getElem_map,cl_get hi,cl_get hjl]
   have hf:=rless ((sx _ cj).fits (sx _ ci) (by decide) (by decide))
   simp only [encQ,hf,Option.bind_some]
   rw [decide_eq_false (by grind),if_neg (by decide),wrap_succ (by omega)]
  ·rw [if_neg hle,wrap_succ (by omega)]
theorem order_l1:∀ (d i:Nat),i + d = l.length → Ev (fun k=>numnahlaw07_SharesOrder.l1 k E l (encL ((cl l).map φ)) (encL ((cl l).map ψ)) (i:Int) (tot (((cl l).map φ).take i)).num ((tot (((cl l).map φ).take i)).den:Int)) true:=by
 have hl:=h.ten
 have hs:=sI_cl h
 intro d
 induction d with
 | zero =>
  intro i hi
  refine Ev.step (f:=fun k=>(numnahlaw07_awake.f k).bind fun t=>some t) (fun k=>?_) (Ev.bind ev_awake (Ev.now _))
  rw [numnahlaw07_SharesOrder.l1,if_neg (by omega),List.take_of_length_le (by rw [List.length_map,cl_length];omega),ht,whole_num,whole_den]
  simp only [numnahref07_Whole.f,Option.bind_some]
  rw [if_pos (by simp)]
 | succ d ih =>
  intro i hi
  have hil:i < l.length:=by omega
  have hx:i < ((cl l).map φ).length:=by rw [List.length_map,cl_length];exact hil
  have hy:i < ((cl l).map ψ).length:=by rw [List.length_map,cl_length];exact hil
  have ci:(l[i]:Rat) ∈ cl l:=List.mem_map.2 ⟨l[i],List.getElem_mem hil,rfl⟩
  have hmi:=h.mem _ (List.getElem_mem hil)
  have hall:∀ y ∈ (cl l).map φ,0 ≤ y ∧ y.den ∣ D:=fun y hy=>by
   obtain ⟨c,hc,rfl⟩:=List.mem_map.1 hy
   exact ⟨(hw c hc).1,hD c hc⟩
  have t0:0 ≤ tot (((cl l).map φ).take i):=tot_nonneg fun c hc=>(hall c (List.mem_of_mem_take hc)).1
  have t1:tot (((cl l).map φ).take i) ≤ ((10000:Nat):Rat):=by
   have e:=tot_append (((cl l).map φ).take i) (((cl l).map φ).drop i)
   rw [List.take_append_drop,ht] at e
   have:=tot_nonneg (l:=((cl l).map φ).drop i) fun c hc=>(hall c (List.mem_of_mem_drop hc)).1
   have:(E:Rat) ≤ ((10000:Int):Rat):=int_rat_le.2 (by omega)
   have e2:((10000:Int):Rat) = ((10000:Nat):Rat):=rfl
   grind
  have td:(tot (((cl l).map φ).take i)).den ≤ 10000:=Nat.le_trans (Nat.le_of_dvd d0 (tot_den d0 fun c hc=>(hall c (List.mem_of_mem_take hc)).2)) d1
  have ts:Sm 100000000 10000 (tot (((cl l).map φ).take i)):=⟨Nat.le_trans (num_abs t0 t1 td) (by decide),td⟩
  have e1:=ev_radd (ts.fits (sx _ ci) (by decide) (by decide))
  have hsum:tot (((cl l).map φ).take i) + φ (l[i]:Rat) = tot (((cl l).map φ).take (i + 1)):=by
   rw [List.take_succ_eq_append_getElem hx,tot_append,List.getElem_map,cl_get hil,tot_cons,tot_nil];grind
  rw [hsum] at e1
  have e2:=order_l2 h h0 h1 hw ho hm sx sy d0 d1 hD ht hil (ih (i + 1) (by omega)) l.length 0 (by omega)
  obtain ⟨K1,e1⟩:=e1
  obtain ⟨K2,e2⟩:=e2
  refine ⟨K1 + K2 + 2,fun k hk=>?_⟩
  obtain ⟨m,rfl⟩:∃ m,k = m + 1 + 1:=⟨k - 2,by omega⟩
  have f1:=e1 (m + 1) (by omega)
  have f2:=e2 m (by omega)
  have l1:=rless ((Sm.int (n:=l[i]) (A:=1000) (by omega)).fits (sx _ ci) (by decide) (by decide))
  rw [whole_num,whole_den,decide_eq_false (by have:=(hw _ ci).2;grind)] at l1
  have l1':numnahref07_Less.f l[i] 1 _ _ = _:=l1
  have l2:=rless ((sy _ ci).fits (sx _ ci) (by decide) (by decide))
  rw [decide_eq_false (by have:=hm _ ci;grind)] at l2
  show numnahlaw07_SharesOrder.l1 (m + 1 + 1) _ _ _ _ _ _ _ = _
  rw [numnahlaw07_SharesOrder.l1,encL_length,encL_length,if_pos (by omega),if_pos (by omega),if_pos (by omega),rdE hx,rdE hy,List.getElem_map,List.getElem_map,cl_get hil]
  simp only [encQ,f1,Option.bind_some,numnahref07_Whole.f]
  rw [rd_get hil]
  simp only [l1',Option.bind_some]
  rw [if_neg (by decide),if_pos (by omega)]
  simp only [l2,Option.bind_some]
  rw [numnahlaw07_SharesOrder.j3,if_neg (by decide)]
  exact f2
end
section
variable {l:List Int} (h:IsCl l) {E:Int} (h0:0 ≤ E) (h1:E ≤ sI l) {r:Nat} (hr:r ≤ 4)
include h h0 h1 hr
theorem order_l0:∀ (d i:Nat),i + d = l.length → Ev (fun k=>numnahlaw07_SharesOrder.l0 k E (r:Int) l (sI (l.take i)) (i:Int)) true:=by
 have hl:=h.ten
 have hs:=sI_cl h
 intro d
 induction d with
 | zero =>
  intro i hi
  obtain ⟨F,hF⟩:∃ F,mn (sI l) (E + 1) = F:=⟨_,rfl⟩
  have hF2:0 ≤ F ∧ F ≤ sI l ∧ E ≤ F:=by rw [← hF];unfold mn;split <;> omega
  obtain ⟨x,hx,ex,_⟩:=award_one h h0 h1 hr
  obtain ⟨y,hy,ey,_⟩:=award_one h hF2.1 hF2.2.1 hr
  have hfx:=award_fit h h0 h1 hx
  have hfy:=award_fit h hF2.1 hF2.2.1 hy
  have sx:=award_sm h h0 h1 hx
  have sy:=award_sm h hF2.1 hF2.2.1 hy
  obtain ⟨D,d0,d1,_,d2⟩:=award_D h h0 h1 hx
  have lx:=hx.len
  have ly:=hy.len
  rw [cl_length] at lx ly
  obtain ⟨θ,hform,hxe,htx,hwθ⟩:=award_within h h0 h1 hx
  obtain ⟨φ,ψ,hxφ,rfl,hmono⟩:=hx.mono hy (int_rat_le.2 hF2.2.2) (cl_nonneg h h0 h1)
  have hsame:∀ c ∈ cl l,φ c = θ c:=List.map_inj_left.1 (hxφ.symm.trans hxe)
  subst hxφ
  have mem:∀ c ∈ cl l,φ c ∈ (cl l).map φ:=fun c hc=>List.mem_map.2 ⟨c,hc,rfl⟩
  have e5:=order_l1 h h0 h1 (φ:=φ) (ψ:=ψ) (fun c hc=>by rw [hsame c hc];exact hwθ c hc) (fun c d hcd hc hd=>by rw [hsame c hc,hsame d hd];exact form_order hform (E_ge h0) hcd) hmono (fun c hc=>(sx _ (mem c hc)).2) (fun c hc=>(sy _ (List.mem_map.2 ⟨c,hc,rfl⟩)).2) d0 d1 (fun c hc=>d2 _ (mem c hc)) htx l.length 0 (by omega)
  obtain ⟨K1,e1⟩:=ex
  obtain ⟨K2,e2⟩:=ey
  obtain ⟨K3,e3⟩:=hfx
  obtain ⟨K4,e4⟩:=hfy
  obtain ⟨K5,e5⟩:=e5
  refine ⟨K1 + K2 + K3 + K4 + K5 + 2,fun k hk=>?_⟩
  obtain ⟨m,rfl⟩:∃ m,k = m + 1 + 1:=⟨k - 2,by omega⟩
  have f1:=e1 (m + 1) (by omega)
  have f2:=e2 (m + 1) (by omega)
  have f3:=e3 (m + 1) (by omega)
  have f4:=e4 (m + 1) (by omega)
  have f5:=e5 m (by omega)
  show numnahlaw07_SharesOrder.l0 (m + 1 + 1) _ _ _ _ _ = _
  rw [numnahlaw07_SharesOrder.l0,if_neg (by omega),List.take_of_length_le (by omega),wrap_id (x:=E + 1) (by omega) (by omega),hF]
  simp only [f1,f2,f3,f4,Option.bind_some,encL_length,lx,ly,if_true,Bool.not_true]
  rw [numnahlaw07_SharesOrder.j1,if_neg (by decide)]
  exact f5
 | succ d ih =>
  intro i hi
  have hil:i < l.length:=by omega
  refine Ev.step (fun k=>?_) (ih (i + 1) (by omega))
  have b1:=(sI_bound (l:=l.take (i + 1)) (fun x hx=>h.mem x (List.mem_of_mem_take hx)))
  have b2:(l.take (i + 1)).length ≤ 10:=by rw [List.length_take];omega
  have e:sI (l.take i) + l[i] = sI (l.take (i + 1)):=by rw [List.take_succ_eq_append_getElem hil,sI_append];simp [sI]
  rw [numnahlaw07_SharesOrder.l0,if_pos (by omega),if_pos (by omega),rd_get hil,e,wrap_id (by omega) (by omega),wrap_succ (by omega)]
end
theorem order_Pure:numnahlaw07_SharesOrder.Pure:=by
 intro l0 a1 a2 _ _ _ _ _
 refine Ev.rounds ?_
 unfold numnahlaw07_SharesOrder.f
 obtain ⟨l,E,h,h0,h1,_,ht⟩:=ev_tame l0 a1
 obtain ⟨r,r0,r1,hr⟩:=mod_some a2 (n:=5) (by omega) (by omega)
 obtain ⟨r,rfl⟩:∃ n:Nat,r = (n:Int):=⟨r.toNat,by omega⟩
 refine Ev.bind ht ?_
 simp only [hr,Option.bind_some]
 exact order_l0 h h0 h1 (r:=r) (by omega) l.length 0 (by omega)
end Go.Proofs.Ytjohcjfmlhihbaa.P
namespace Go.Proofs.YtjohcjfmlhihbaaW.PrintWords
open Go.ChangeShapes Go.WideShapes
theorem sized_ints {H:Type} {enc:TypeId × Value → H} {P:Program} {W:World} {base:Nat} {spare:Nat → Bool} {held:Bool} {t e:TypeId} {k:IntKind} {a:Option Addr} {len cap:Nat} {d:DataW H} {ps:List MemPlace} {ts:List TypeId} {ds:List (DataW H)} {j:Nat}
  (hsz:(DataW.weightsEach P ts ds).all (· ≤ reachBytes) = true) (ht:ts[j]? = some t) (hd:ds[j]? = some d) (hu:P.underlying t = some (.slice e)) (he:P.underlying e = some (.int k)) (hc:P.cellsOf e = 1) {B:Nat} (hB:P.bytesOf e = B)
  (h:DataW.Trod enc P W base spare held t (.slice a len cap) d ps):len * B ≤ 140737488351232:=by
 obtain ⟨fuel,hf⟩:=h
 rcases open_ints hu he hc hf with ⟨hcs,_⟩ | ⟨x,l,c,zs,hcs,_,hl,_,hz,hx,_,_⟩
 ·simp [Value.cells] at hcs
  obtain ⟨rfl,rfl,rfl⟩:=hcs
  simp
 ·simp [Value.cells] at hcs
  obtain ⟨rfl,rfl,rfl⟩:=hcs
  obtain ⟨hx,_⟩:=Prod.mk.inj hx
  subst hx
  have z:=sized_slice hsz ht hd hu
  rw [hB] at z
  have hl2:len ≤ zs.length:=by
   rw [hz]
   split
   ·exact hl
   ·exact Nat.le_refl _
  have h1:(lits (H:=H) k (zs.take len)).length + (lits (H:=H) k (zs.drop len)).length = zs.length:=by
   simp [lits]
   omega
  rw [h1] at z
  exact Nat.le_trans (Nat.mul_le_mul_right _ hl2) z
end Go.Proofs.YtjohcjfmlhihbaaW.PrintWords

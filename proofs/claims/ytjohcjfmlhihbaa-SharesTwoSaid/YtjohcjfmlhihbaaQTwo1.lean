/- Several texts, joined. -/
import Derived.Test.YtjohcjfmlhihbaaQF2
set_option linter.unusedVariables false
set_option linter.unusedSimpArgs false
namespace Go.Proofs.Ytjohcjfmlhihbaa.P
open Go Go.RowKit Go.Proofs.Ytjohcjfmlhihbaa.G
open Go.Proofs.YtjohcjfmlhihbaaW.PrintWords Go.Proofs.YtjohcjfmlhihbaaW.PrintMore
theorem fit2 (a b:Int):H.fitL [a,b]:=by unfold H.fitL;simp
theorem newClaims_r {k:Nat} {l:List Int} {e:Int} {b:Bool} (h:newClaimsR.f k l e = some b):∃ x y,shares_newClaims.f k l e = some (x,y,b):=by
 unfold newClaimsR.f at h
 obtain ⟨⟨x,y,z⟩,hx,hz⟩:=Option.map_eq_some_iff.1 h
 exact ⟨x,y,by rw [hx];simp only at hz;rw [hz]⟩
theorem cl2 {e a b:Int} (h:clB [a,b] e = true):(0 ≤ a ∧ a ≤ 1000) ∧ (0 ≤ b ∧ b ≤ 1000) ∧ 0 ≤ e ∧ e ≤ a + b:=by
 have h:=of_decide_eq_true h
 have ha:=h.1.mem a (by simp)
 have hb:=h.1.mem b (by simp)
 have he:=h.2
 have hs:sI [a,b] = a + b:=by simp [sI]
 rw [hs] at he
 exact ⟨ha,hb,he.1,by omega⟩
theorem ev_Garment {e a b:Int} (h:clB [a,b] e = true):Ev (fun k=>shares_Garment.f k e a b) ((garR (e:Rat) (a:Rat) (b:Rat)).num,((garR (e:Rat) (a:Rat) (b:Rat)).den:Int),(garR (e:Rat) (b:Rat) (a:Rat)).num,((garR (e:Rat) (b:Rat) (a:Rat)).den:Int),0):=by
 obtain ⟨ha,hb,h0,h1⟩:=cl2 h
 obtain ⟨K,hK⟩:=ev_newClaims (fit2 a b) e
 have he:Sm 2000000 400 (e:Rat):=(Sm.int (A:=2000000) (by omega)).mono (Nat.le_refl _) (by decide)
 obtain ⟨K',hG⟩:=ev_garment he ha hb
 refine ⟨max K K',fun k hk=>?_⟩
 obtain ⟨x,y,hx⟩:=newClaims_r (hK k (by omega))
 have hg:=hG k (by omega)
 rw [whole_num,whole_den] at hg
 have hg':shares_garment.f k e 1 a b = _:=hg
 show shares_Garment.f k e a b = _
 unfold shares_Garment.f shares_whole.f
 rw [hx,h]
 simp only [Option.bind_some,if_true,hg']
end Go.Proofs.Ytjohcjfmlhihbaa.P
namespace Go.Proofs.Ytjohcjfmlhihbaa.G
open Go.RowKit Go.Proofs.YtjohcjfmlhihbaaW.PrintWords Go.Proofs.YtjohcjfmlhihbaaW.PrintLast Go.Proofs.YtjohcjfmlhihbaaW.PrintMore
set_option maxHeartbeats 8000000
set_option maxRecDepth 100000
attribute [local go_sem] cond_true cond_false fld23_0 fld23_1 fld45_0 fld45_1 fld109_0 fld109_1 fld94_0 fld94_1 max2_int min2_int max_two min_two max_three min_three max_four min_four
attribute [local go_sem high] eqA23
def numnahlaw07_SharesTwo.j0:Nat → Int → List Int → Bool → Int → Int → Int → Int → Option (Bool)
 | 0,_,_,_,_,_,_,_=>none
 | k + 1,x0,x7,x97,q6,q7,q8,q9=>if x97 = true then (some false) else ((numnahref07_Add.f k q6 q7 q8 q9).bind fun t6=>((numnahref07_Whole.f x0).bind fun p9=>(if (t6.1 == p9.1 && (t6.2 == p9.2)) = true then (if 0 < (x7.length:Int) then ((numnahref07_Whole.f (rd x7 0)).bind fun n6=>((numnahref07_Less.f n6.1 n6.2 q6 q7).bind fun p4=>(if p4 = true then (some false) else (if 1 < (x7.length:Int) then ((numnahref07_Whole.f (rd x7 1)).bind fun m1=>((numnahref07_Less.f m1.1 m1.2 q8 q9).bind fun n3=>(if n3 = true then (some false) else ((numnahlaw07_awake.f k).bind fun n1=>(some n1))))) else (none))))) else (none)) else (some false))))
def numnahlaw07_SharesTwo.f (k:Nat) (a0:Int) (a1:Int) (a2:Int):Option (Bool):=(numnahlaw07_tame.f k (([a1,a2]:List Int)) a0).bind fun c1=>(if 0 < (c1.1.length:Int) then (if 1 < (c1.1.length:Int) then ((shares_Garment.f k c1.2 (rd c1.1 0) (rd c1.1 1)).bind fun b1=>((shares_Garment.f k c1.2 (rd c1.1 1) (rd c1.1 0)).bind fun h6=>((shares_Award.f k 3 c1.1 c1.2).bind fun d7=>(if b1.2.2.2.2 = 0 then (if h6.2.2.2.2 = 0 then (if d7.2 = 0 then (if (!(b1.1 == h6.2.2.1) || (!(b1.2.1 == h6.2.2.2.1))) = true then (numnahlaw07_SharesTwo.j0 k c1.2 c1.1 true b1.1 b1.2.1 b1.2.2.1 b1.2.2.2.1) else (if (!(b1.2.2.1 == h6.1) || (!(b1.2.2.2.1 == h6.2.1))) = true then (numnahlaw07_SharesTwo.j0 k c1.2 c1.1 true b1.1 b1.2.1 b1.2.2.1 b1.2.2.2.1) else (if (d7.1.length:Int) = 2 then (if 0 < (d7.1.length:Int) then (if (!(((rd_T23 d7.1 0).f0) == b1.1) || (!(((rd_T23 d7.1 0).f1) == b1.2.1))) = true then (numnahlaw07_SharesTwo.j0 k c1.2 c1.1 true b1.1 b1.2.1 b1.2.2.1 b1.2.2.2.1) else (if 1 < (d7.1.length:Int) then (if (!(((rd_T23 d7.1 1).f0) == b1.2.2.1) || (!(((rd_T23 d7.1 1).f1) == b1.2.2.2.1))) = true then (numnahlaw07_SharesTwo.j0 k c1.2 c1.1 true b1.1 b1.2.1 b1.2.2.1 b1.2.2.2.1) else ((numnahlaw07_fit.f k d7.1).bind fun m8=>(numnahlaw07_SharesTwo.j0 k c1.2 c1.1 (!m8) b1.1 b1.2.1 b1.2.2.1 b1.2.2.2.1))) else (none))) else (none)) else (numnahlaw07_SharesTwo.j0 k c1.2 c1.1 true b1.1 b1.2.1 b1.2.2.1 b1.2.2.2.1)))) else (numnahlaw07_SharesTwo.j0 k c1.2 c1.1 true b1.1 b1.2.1 b1.2.2.1 b1.2.2.2.1)) else (numnahlaw07_SharesTwo.j0 k c1.2 c1.1 true b1.1 b1.2.1 b1.2.2.1 b1.2.2.2.1)) else (numnahlaw07_SharesTwo.j0 k c1.2 c1.1 true b1.1 b1.2.1 b1.2.2.1 b1.2.2.2.1))))) else (none)) else (none))
theorem numnahlaw07_SharesTwo.mono_l:∀ k,(∀ y0 y1 y2 y3 y4 y5 y6,LeO (numnahlaw07_SharesTwo.j0 k y0 y1 y2 y3 y4 y5 y6) (numnahlaw07_SharesTwo.j0 (k + 1) y0 y1 y2 y3 y4 y5 y6))
 | 0=>fun _ _ _ _ _ _ _ r h=>by simp [numnahlaw07_SharesTwo.j0] at h
 | k + 1=>by
  have I1:=numnahlaw07_SharesTwo.mono_l k
  intro y0 y1 y2 y3 y4 y5 y6
  unfold numnahlaw07_SharesTwo.j0
  repeat' first
  | (with_reducible first | exact I1 _ _ _ _ _ _ _ | exact numnahlaw07_awake.mono _ | exact numnahlaw07_fit.mono _ _ | exact numnahlaw07_tame.mono _ _ _ | exact numnahref07_Add.mono _ _ _ _ _ | exact shares_Award.mono _ _ _ _ | exact shares_Garment.mono _ _ _ _ | exact LeO.refl _ | exact LeO.none _ | refine LeO.ite ?_ ?_ | refine LeO.bind ?_ (fun _=>?_))
  | exact LeO.none _ | refine LeO.ite ?_ ?_ | refine LeO.bind ?_ (fun _=>?_)
theorem numnahlaw07_SharesTwo.mono:∀ a0 a1 a2 k,LeO (numnahlaw07_SharesTwo.f k a0 a1 a2) (numnahlaw07_SharesTwo.f (k + 1) a0 a1 a2):=by
 intro a0 a1 a2 k
 have I1:=numnahlaw07_SharesTwo.mono_l k
 unfold numnahlaw07_SharesTwo.f
 repeat' first
   | (with_reducible first | exact I1 _ _ _ _ _ _ _ | exact numnahlaw07_awake.mono _ | exact numnahlaw07_fit.mono _ _ | exact numnahlaw07_tame.mono _ _ _ | exact numnahref07_Add.mono _ _ _ _ _ | exact shares_Award.mono _ _ _ _ | exact shares_Garment.mono _ _ _ _ | exact LeO.refl _ | exact LeO.none _ | refine LeO.ite ?_ ?_ | refine LeO.bind ?_ (fun _=>?_))
   | exact LeO.none _ | refine LeO.ite ?_ ?_ | refine LeO.bind ?_ (fun _=>?_)
def numnahlaw07_SharesTwo.T2:Bool × List (List Nat × List Nat):=(true,[([],[]),([],[]),([1],[1]),([2],[2]),([],[]),([4],[4]),([5],[5]),([0,3,6],[0,3,6]),([7],[7]),([8],[8]),([8],[8]),([8],[8]),([],[]),([],[]),([12,9,7,0,1,2,3,4,5,6,7,8,9,12,13],[9,12]),([13,10,14,0,1,2,3,4,5,6,7,8,9,10,12,13,14],[10,13]),([11,15,0,1,2,3,4,5,6,7,8,9,10,11,12,13,14,15],[11])])
def numnahlaw07_SharesTwo.B2:List Nat:=[0,0,2,6,0,16,48,127,255,511,511,511,0,0,13311,30719,65535]
theorem numnahlaw07_SharesTwo.tab2:rtab .any (opsOf Try.f7 2) = numnahlaw07_SharesTwo.T2:=by kernel_rfl
theorem numnahlaw07_SharesTwo.bits2:waitsOk numnahlaw07_SharesTwo.T2.2 numnahlaw07_SharesTwo.B2 = true:=by kernel_rfl
def numnahlaw07_SharesTwo.T3:Bool × List (List Nat × List Nat):=(true,[([],[]),([],[]),([1],[1]),([2],[2]),([],[]),([4],[4]),([5],[5]),([0,3,6],[0,3,6]),([7],[7]),([8],[8]),([8],[8]),([8],[8]),([],[]),([],[]),([12,9,7,0,1,2,3,4,5,6,7,8,9,12,13],[9,12]),([13,10,14,0,1,2,3,4,5,6,7,8,9,10,12,13,14],[10,13]),([11,15,0,1,2,3,4,5,6,7,8,9,10,11,12,13,14,15],[11])])
def numnahlaw07_SharesTwo.B3:List Nat:=[0,0,2,6,0,16,48,127,255,511,511,511,0,0,13311,30719,65535]
theorem numnahlaw07_SharesTwo.tab3:rtab .any (opsOf Try.f7 3) = numnahlaw07_SharesTwo.T3:=by kernel_rfl
theorem numnahlaw07_SharesTwo.bits3:waitsOk numnahlaw07_SharesTwo.T3.2 numnahlaw07_SharesTwo.B3 = true:=by kernel_rfl
def numnahlaw07_SharesTwo.T5:Bool × List (List Nat × List Nat):=(true,[([],[]),([0],[0]),([1],[1]),([2],[2]),([3,2],[2,3]),([2,4],[2,4]),([5,2],[5]),([6],[6]),([7,6],[6,7]),([6,8],[6,8]),([9,6],[9]),([10],[10]),([10],[10]),([11,12,10],[10,11,12]),([10,13],[10,13]),([14,10],[14]),([15],[15]),([15],[15]),([16,17,15],[15,16,17]),([15,18],[15,18]),([19,15],[19]),([20],[20]),([21,20],[20,21]),([22,20],[20,22]),([20,23],[20,23]),([24,20],[24]),([25],[25]),([26,25],[25,26]),([27,25],[25,27]),([25],[25]),([28,29,25],[25,28,29]),([25,30],[25,30]),([31,25],[31]),([32],[32]),([33,32],[32,33]),([34,32],[32,34]),([32],[32]),([35,36,32],[32,35,36]),([32,37],[32,37]),([38,32],[38]),([39],[39]),([40,39,39],[39,40]),([41,39],[39,41]),([39,42],[39,42])])
def numnahlaw07_SharesTwo.B5:List Nat:=[0,1,3,7,15,31,63,127,255,511,1023,2047,2047,8191,16383,32767,65535,65535,262143,524287,1048575,2097151,4194303,8388607,16777215,33554431,67108863,134217727,268435455,67108863,1073741823,2147483647,4294967295,8589934591,17179869183,34359738367,8589934591,137438953471,274877906943,549755813887,1099511627775,2199023255551,4398046511103,8796093022207]
theorem numnahlaw07_SharesTwo.tab5:rtab .any (opsOf Try.f7 5) = numnahlaw07_SharesTwo.T5:=by kernel_rfl
theorem numnahlaw07_SharesTwo.bits5:waitsOk numnahlaw07_SharesTwo.T5.2 numnahlaw07_SharesTwo.B5 = true:=by kernel_rfl
def numnahlaw07_SharesTwo.T7:Bool × List (List Nat × List Nat):=(true,[([],[]),([],[]),([0,1],[0,1]),([],[]),([3,2],[3]),([2,4],[2,4]),([5,4],[5]),([6],[6]),([7,6],[6,7]),([8,6],[6,8]),([9,6,6],[6,9]),([6],[6]),([10,11,10,6],[6,10,11]),([12,6],[6,12]),([6,13],[6,13]),([14,12],[14]),([15],[15]),([16,15],[15,16]),([17,15],[15,17]),([18,15,15],[15,18]),([15],[15]),([19,20,19,15],[15,19,20]),([21,15],[15,21]),([15,22],[15,22]),([23,21],[23]),([24,24],[24]),([24,25],[24,25]),([26,25,0,1,2,3,4,5,6,7,8,9,10,11,12,13,14,15,16,17,18,19,20,21,22,23,24,25,26],[26])])
def numnahlaw07_SharesTwo.B7:List Nat:=[0,0,3,0,15,31,63,127,255,511,1023,127,4095,8191,16383,32767,65535,131071,262143,524287,65535,2097151,4194303,8388607,16777215,33554431,67108863,134217727]
theorem numnahlaw07_SharesTwo.tab7:rtab .any (opsOf Try.f7 7) = numnahlaw07_SharesTwo.T7:=by kernel_rfl
theorem numnahlaw07_SharesTwo.bits7:waitsOk numnahlaw07_SharesTwo.T7.2 numnahlaw07_SharesTwo.B7 = true:=by kernel_rfl
theorem numnahlaw07_SharesTwo.calls (k:Nat) (a0:Int) (a1:Int) (a2:Int) (r:Bool) (w:World) (h:numnahlaw07_SharesTwo.f k a0 a1 a2 = some r) (hrt_:r = true) :
  Calls Try.prog 7 #[.int .i64 a0,.int .i64 a1,.int .i64 a2] w fun e w'=>e = .returned (.bool r) ∧ Below w.heap.size w w':=by
 have HRT:=Aside0.mk hrt_
 clear hrt_
 have M8:=Try.underlying23
 have HB:=A_ (Below.refl w.heap.size w)
 have H:((numnahlaw07_tame.f k (([a1,a2]:List Int)) a0).bind fun c1=>(if 0 < (c1.1.length:Int) then (if 1 < (c1.1.length:Int) then ((shares_Garment.f k c1.2 (rd c1.1 0) (rd c1.1 1)).bind fun b1=>((shares_Garment.f k c1.2 (rd c1.1 1) (rd c1.1 0)).bind fun h6=>((shares_Award.f k 3 c1.1 c1.2).bind fun d7=>(if b1.2.2.2.2 = 0 then (if h6.2.2.2.2 = 0 then (if d7.2 = 0 then (if (!(b1.1 == h6.2.2.1) || (!(b1.2.1 == h6.2.2.2.1))) = true then (numnahlaw07_SharesTwo.j0 k c1.2 c1.1 true b1.1 b1.2.1 b1.2.2.1 b1.2.2.2.1) else (if (!(b1.2.2.1 == h6.1) || (!(b1.2.2.2.1 == h6.2.1))) = true then (numnahlaw07_SharesTwo.j0 k c1.2 c1.1 true b1.1 b1.2.1 b1.2.2.1 b1.2.2.2.1) else (if (d7.1.length:Int) = 2 then (if 0 < (d7.1.length:Int) then (if (!(((rd_T23 d7.1 0).f0) == b1.1) || (!(((rd_T23 d7.1 0).f1) == b1.2.1))) = true then (numnahlaw07_SharesTwo.j0 k c1.2 c1.1 true b1.1 b1.2.1 b1.2.2.1 b1.2.2.2.1) else (if 1 < (d7.1.length:Int) then (if (!(((rd_T23 d7.1 1).f0) == b1.2.2.1) || (!(((rd_T23 d7.1 1).f1) == b1.2.2.2.1))) = true then (numnahlaw07_SharesTwo.j0 k c1.2 c1.1 true b1.1 b1.2.1 b1.2.2.1 b1.2.2.2.1) else ((numnahlaw07_fit.f k d7.1).bind fun m8=>(numnahlaw07_SharesTwo.j0 k c1.2 c1.1 (!m8) b1.1 b1.2.1 b1.2.2.1 b1.2.2.2.1))) else (none))) else (none)) else (numnahlaw07_SharesTwo.j0 k c1.2 c1.1 true b1.1 b1.2.1 b1.2.2.1 b1.2.2.2.1)))) else (numnahlaw07_SharesTwo.j0 k c1.2 c1.1 true b1.1 b1.2.1 b1.2.2.1 b1.2.2.2.1)) else (numnahlaw07_SharesTwo.j0 k c1.2 c1.1 true b1.1 b1.2.1 b1.2.2.1 b1.2.2.2.1)) else (numnahlaw07_SharesTwo.j0 k c1.2 c1.1 true b1.1 b1.2.1 b1.2.2.1 b1.2.2.2.1))))) else (none)) else (none))) = some r:=h
 clear h
 obtain ⟨d6,q0⟩:∃ y_:List Int,y_ = (([a1,a2]:List Int)):=⟨_,rfl⟩
 replace H:((numnahlaw07_tame.f k d6 a0).bind fun c1=>(if 0 < (c1.1.length:Int) then (if 1 < (c1.1.length:Int) then ((shares_Garment.f k c1.2 (rd c1.1 0) (rd c1.1 1)).bind fun b1=>((shares_Garment.f k c1.2 (rd c1.1 1) (rd c1.1 0)).bind fun h6=>((shares_Award.f k 3 c1.1 c1.2).bind fun d7=>(if b1.2.2.2.2 = 0 then (if h6.2.2.2.2 = 0 then (if d7.2 = 0 then (if (!(b1.1 == h6.2.2.1) || (!(b1.2.1 == h6.2.2.2.1))) = true then (numnahlaw07_SharesTwo.j0 k c1.2 c1.1 true b1.1 b1.2.1 b1.2.2.1 b1.2.2.2.1) else (if (!(b1.2.2.1 == h6.1) || (!(b1.2.2.2.1 == h6.2.1))) = true then (numnahlaw07_SharesTwo.j0 k c1.2 c1.1 true b1.1 b1.2.1 b1.2.2.1 b1.2.2.2.1) else (if (d7.1.length:Int) = 2 then (if 0 < (d7.1.length:Int) then (if (!(((rd_T23 d7.1 0).f0) == b1.1) || (!(((rd_T23 d7.1 0).f1) == b1.2.1))) = true then (numnahlaw07_SharesTwo.j0 k c1.2 c1.1 true b1.1 b1.2.1 b1.2.2.1 b1.2.2.2.1) else (if 1 < (d7.1.length:Int) then (if (!(((rd_T23 d7.1 1).f0) == b1.2.2.1) || (!(((rd_T23 d7.1 1).f1) == b1.2.2.2.1))) = true then (numnahlaw07_SharesTwo.j0 k c1.2 c1.1 true b1.1 b1.2.1 b1.2.2.1 b1.2.2.2.1) else ((numnahlaw07_fit.f k d7.1).bind fun m8=>(numnahlaw07_SharesTwo.j0 k c1.2 c1.1 (!m8) b1.1 b1.2.1 b1.2.2.1 b1.2.2.2.1))) else (none))) else (none)) else (numnahlaw07_SharesTwo.j0 k c1.2 c1.1 true b1.1 b1.2.1 b1.2.2.1 b1.2.2.2.1)))) else (numnahlaw07_SharesTwo.j0 k c1.2 c1.1 true b1.1 b1.2.1 b1.2.2.1 b1.2.2.2.1)) else (numnahlaw07_SharesTwo.j0 k c1.2 c1.1 true b1.1 b1.2.1 b1.2.2.1 b1.2.2.2.1)) else (numnahlaw07_SharesTwo.j0 k c1.2 c1.1 true b1.1 b1.2.1 b1.2.2.1 b1.2.2.2.1))))) else (none)) else (none))) = some r:=by first | (rw [q0];with_reducible exact H) | (have I2:=(Option.bind_some _ _).symm.trans H;rw [q0];with_reducible exact I2) | (have I2:=(Option.bind_some _ _).symm.trans H;with_reducible exact I2) | with_reducible exact H | (rw [q0];exact H) | exact H
 have t7:=A_ q0
 clear q0
 replace H:=Option.bind_eq_some_iff.mp H
 obtain ⟨⟨b4,e2⟩,A40,H⟩:=H
 replace H:(if 0 < (b4.length:Int) then (if 1 < (b4.length:Int) then ((shares_Garment.f k e2 (rd b4 0) (rd b4 1)).bind fun b1=>((shares_Garment.f k e2 (rd b4 1) (rd b4 0)).bind fun h6=>((shares_Award.f k 3 b4 e2).bind fun d7=>(if b1.2.2.2.2 = 0 then (if h6.2.2.2.2 = 0 then (if d7.2 = 0 then (if (!(b1.1 == h6.2.2.1) || (!(b1.2.1 == h6.2.2.2.1))) = true then (numnahlaw07_SharesTwo.j0 k e2 b4 true b1.1 b1.2.1 b1.2.2.1 b1.2.2.2.1) else (if (!(b1.2.2.1 == h6.1) || (!(b1.2.2.2.1 == h6.2.1))) = true then (numnahlaw07_SharesTwo.j0 k e2 b4 true b1.1 b1.2.1 b1.2.2.1 b1.2.2.2.1) else (if (d7.1.length:Int) = 2 then (if 0 < (d7.1.length:Int) then (if (!(((rd_T23 d7.1 0).f0) == b1.1) || (!(((rd_T23 d7.1 0).f1) == b1.2.1))) = true then (numnahlaw07_SharesTwo.j0 k e2 b4 true b1.1 b1.2.1 b1.2.2.1 b1.2.2.2.1) else (if 1 < (d7.1.length:Int) then (if (!(((rd_T23 d7.1 1).f0) == b1.2.2.1) || (!(((rd_T23 d7.1 1).f1) == b1.2.2.2.1))) = true then (numnahlaw07_SharesTwo.j0 k e2 b4 true b1.1 b1.2.1 b1.2.2.1 b1.2.2.2.1) else ((numnahlaw07_fit.f k d7.1).bind fun m8=>(numnahlaw07_SharesTwo.j0 k e2 b4 (!m8) b1.1 b1.2.1 b1.2.2.1 b1.2.2.2.1))) else (none))) else (none)) else (numnahlaw07_SharesTwo.j0 k e2 b4 true b1.1 b1.2.1 b1.2.2.1 b1.2.2.2.1)))) else (numnahlaw07_SharesTwo.j0 k e2 b4 true b1.1 b1.2.1 b1.2.2.1 b1.2.2.2.1)) else (numnahlaw07_SharesTwo.j0 k e2 b4 true b1.1 b1.2.1 b1.2.2.1 b1.2.2.2.1)) else (numnahlaw07_SharesTwo.j0 k e2 b4 true b1.1 b1.2.1 b1.2.2.1 b1.2.2.2.1))))) else (none)) else (none)) = some r:=H
 have A4:=A_ A40
 clear A40
 by_cases c5:0 < (b4.length:Int)
 case neg =>
  rw [if_neg c5] at H
  exact absurd H (by simp)
 rw [if_pos c5] at H
 have M9:=decide_eq_true c5
 have N0:decide (0 < b4.length) = true:=decide_eq_true (by omega)
 clear c5
 replace H:=gd H
 obtain ⟨c6,H⟩:=H
 have N1:=decide_eq_true c6
 have N2:decide (1 < b4.length) = true:=decide_eq_true (by omega)
 clear c6
 replace H:=Option.bind_eq_some_iff.mp H
 obtain ⟨⟨d3,d5,d2,d4,j7⟩,A70,H⟩:=H
 replace H:((shares_Garment.f k e2 (rd b4 1) (rd b4 0)).bind fun h6=>((shares_Award.f k 3 b4 e2).bind fun d7=>(if j7 = 0 then (if h6.2.2.2.2 = 0 then (if d7.2 = 0 then (if (!(d3 == h6.2.2.1) || (!(d5 == h6.2.2.2.1))) = true then (numnahlaw07_SharesTwo.j0 k e2 b4 true d3 d5 d2 d4) else (if (!(d2 == h6.1) || (!(d4 == h6.2.1))) = true then (numnahlaw07_SharesTwo.j0 k e2 b4 true d3 d5 d2 d4) else (if (d7.1.length:Int) = 2 then (if 0 < (d7.1.length:Int) then (if (!(((rd_T23 d7.1 0).f0) == d3) || (!(((rd_T23 d7.1 0).f1) == d5))) = true then (numnahlaw07_SharesTwo.j0 k e2 b4 true d3 d5 d2 d4) else (if 1 < (d7.1.length:Int) then (if (!(((rd_T23 d7.1 1).f0) == d2) || (!(((rd_T23 d7.1 1).f1) == d4))) = true then (numnahlaw07_SharesTwo.j0 k e2 b4 true d3 d5 d2 d4) else ((numnahlaw07_fit.f k d7.1).bind fun m8=>(numnahlaw07_SharesTwo.j0 k e2 b4 (!m8) d3 d5 d2 d4))) else (none))) else (none)) else (numnahlaw07_SharesTwo.j0 k e2 b4 true d3 d5 d2 d4)))) else (numnahlaw07_SharesTwo.j0 k e2 b4 true d3 d5 d2 d4)) else (numnahlaw07_SharesTwo.j0 k e2 b4 true d3 d5 d2 d4)) else (numnahlaw07_SharesTwo.j0 k e2 b4 true d3 d5 d2 d4)))) = some r:=H
 have A7:=A_ A70
 clear A70
 replace H:=Option.bind_eq_some_iff.mp H
 obtain ⟨⟨i0,i3,h9,i2,j8⟩,A80,H⟩:=H
 replace H:((shares_Award.f k 3 b4 e2).bind fun d7=>(if j7 = 0 then (if j8 = 0 then (if d7.2 = 0 then (if (!(d3 == h9) || (!(d5 == i2))) = true then (numnahlaw07_SharesTwo.j0 k e2 b4 true d3 d5 d2 d4) else (if (!(d2 == i0) || (!(d4 == i3))) = true then (numnahlaw07_SharesTwo.j0 k e2 b4 true d3 d5 d2 d4) else (if (d7.1.length:Int) = 2 then (if 0 < (d7.1.length:Int) then (if (!(((rd_T23 d7.1 0).f0) == d3) || (!(((rd_T23 d7.1 0).f1) == d5))) = true then (numnahlaw07_SharesTwo.j0 k e2 b4 true d3 d5 d2 d4) else (if 1 < (d7.1.length:Int) then (if (!(((rd_T23 d7.1 1).f0) == d2) || (!(((rd_T23 d7.1 1).f1) == d4))) = true then (numnahlaw07_SharesTwo.j0 k e2 b4 true d3 d5 d2 d4) else ((numnahlaw07_fit.f k d7.1).bind fun m8=>(numnahlaw07_SharesTwo.j0 k e2 b4 (!m8) d3 d5 d2 d4))) else (none))) else (none)) else (numnahlaw07_SharesTwo.j0 k e2 b4 true d3 d5 d2 d4)))) else (numnahlaw07_SharesTwo.j0 k e2 b4 true d3 d5 d2 d4)) else (numnahlaw07_SharesTwo.j0 k e2 b4 true d3 d5 d2 d4)) else (numnahlaw07_SharesTwo.j0 k e2 b4 true d3 d5 d2 d4))) = some r:=H
 have A8:=A_ A80
 clear A80
 replace H:=Option.bind_eq_some_iff.mp H
 obtain ⟨⟨h5,q3⟩,A90,H⟩:=H
 replace H:(if j7 = 0 then (if j8 = 0 then (if q3 = 0 then (if (!(d3 == h9) || (!(d5 == i2))) = true then (numnahlaw07_SharesTwo.j0 k e2 b4 true d3 d5 d2 d4) else (if (!(d2 == i0) || (!(d4 == i3))) = true then (numnahlaw07_SharesTwo.j0 k e2 b4 true d3 d5 d2 d4) else (if (h5.length:Int) = 2 then (if 0 < (h5.length:Int) then (if (!(((rd_T23 h5 0).f0) == d3) || (!(((rd_T23 h5 0).f1) == d5))) = true then (numnahlaw07_SharesTwo.j0 k e2 b4 true d3 d5 d2 d4) else (if 1 < (h5.length:Int) then (if (!(((rd_T23 h5 1).f0) == d2) || (!(((rd_T23 h5 1).f1) == d4))) = true then (numnahlaw07_SharesTwo.j0 k e2 b4 true d3 d5 d2 d4) else ((numnahlaw07_fit.f k h5).bind fun m8=>(numnahlaw07_SharesTwo.j0 k e2 b4 (!m8) d3 d5 d2 d4))) else (none))) else (none)) else (numnahlaw07_SharesTwo.j0 k e2 b4 true d3 d5 d2 d4)))) else (numnahlaw07_SharesTwo.j0 k e2 b4 true d3 d5 d2 d4)) else (numnahlaw07_SharesTwo.j0 k e2 b4 true d3 d5 d2 d4)) else (numnahlaw07_SharesTwo.j0 k e2 b4 true d3 d5 d2 d4)) = some r:=H
 have A9:=A_ A90
 clear A90
 have x1:=A_ H
 clear H
 go_enter Try.func7,Try.ntmps7
 try go_wp2_with (first | ((with_reducible refine gate_dst (N:=19) rfl ?_);(try (refine gate_guard (by rfl) ?_;dsimp only));refine Kd.R_lit (Kd.int .i64) _ 3 ?hg (N:=19) ?hd (xs:=([a1,a2]:List Int)) (inner:=[.int .i64 a1,.int .i64 a2]) (ok:=fun _=>True) (okp:=fun _=>True) ?hr ?hp (fun _ hk=>hk) trivial (Below.refl _ _) (Nat.le_refl _) (by simp) ?_;(case hd=>rfl);(case hg=>rfl);(case hr=>first | (go_simp;done) | (go_simp;rfl));(case hp=>exact (Reps.one (show Kd.M (Kd.int .i64) _ _ _ a1 [.int .i64 a1] from rfl) (Reps.one (show Kd.M (Kd.int .i64) _ _ _ a2 [.int .i64 a2] from rfl) (Reps.none _ _))));intro N3 Q5 r5 hb hg_ hnew_;clear hg_ hnew_;(first | rw [← t7.out] at r5 | (simp only [Int.reduceToNat] at r5;rw [← t7.out] at r5));have b6:=A_ (Kd.R_lower r5 (below_size (bl HB)));replace HB:=bB HB hb;clear hb r5;obtain ⟨h1,h2,I3⟩:=Kd.R_slice b6.out;subst I3) | ((with_reducible refine gate_callee (f:=25) rfl ?_);refine gL (some 21) Try.func25 #[.slice h1 d6.length h2,.int .i64 a0] ?_;(with_reducible refine (numnahlaw07_tame.calls k _ _ d6 a0 b4 e2 _ ?side1 ?side2 A4.out).mono ?_);(case side1=>repeat (first | exact (Kd.R_reads' b6.out).2.2 | (with_reducible refine Kd.C_alloc ?_ _) | (with_reducible refine Kd.C_drewN ?_ _) | (with_reducible refine Kd.C_drew ?_)));(case side2=>exact (Kd.R_reads' b6.out).2.1);rintro e N4 ⟨N5,rfl,E5,hb⟩;refine ⟨_,rfl,?_⟩;have b0:=A_ (Kd.R_lower (Kd.R_new' E5 (Kd.R_lt (rs b6))) (below_size (bl HB)));replace b6:=A_ (Kd.R_elder' (rs b6) (Kd.R_base E5) hb);replace HB:=bB HB hb;(try clear hb)))
 replace b6:=rD b6
 replace b0:=rD b0
 replace HB:=bD HB
 obtain ⟨N6,e9,A3⟩:=Kd.R_slice b0.out
 (first | subst A3 | (injection A3 with r0 s8 r1;have s9:=r0.symm;have t0:=r1.symm;clear r0 s8 r1;subst s9;subst t0))
 have x2:0 ≤ (0:Int):=(by omega)
 have x3:0 < (b4.length:Int):=of_decide_eq_true (by first | (with_reducible assumption) | assumption)
 obtain ⟨b5,I4,n8⟩:=Kd.at_int (Kd.R_reads' b0.out).2.2 0 x2 x3
 cases I4
 have J7:(0 < b4.length) = True:=eq_true (by omega)
 (try rw [show ((0:Int)).toNat = 0 from rfl] at n8)
 (try rw [Addr.add_zero'] at n8)
 replace x2:=eq_true x2
 replace x3:=eq_true x3
 have x4:0 ≤ (1:Int):=(by omega)
 have x5:1 < (b4.length:Int):=of_decide_eq_true (by first | (with_reducible assumption) | assumption)
 obtain ⟨A5,I5,n9⟩:=Kd.at_int (Kd.R_reads' b0.out).2.2 1 x4 x5
 obtain rfl:b5 = A5:=(by injection I5)
 (try simp only [show (1:Int).toNat = 1 from rfl,Nat.reduceMul,Nat.reduceEqDiff,Go.Addr.add,↓reduceIte] at n9)
 have J8:(1 < b4.length) = True:=eq_true (by omega)
 (try rw [show ((1:Int)).toNat = 1 from rfl] at n9)
 replace x4:=eq_true x4
 replace x5:=eq_true x5
 refine start_ (n:=17) (S:=fun w'=>w'.cell? b5 = some (.int .i64 (rd b4 0)) ∧ w'.cell? ⟨b5.block,b5.off + 1,none⟩ = some (.int .i64 (rd b4 1))) (ds:=[]) (ba 17 0) (by kernel_rfl) rfl rfl ⟨n8,n9⟩ (fun hHeld=>?_);refine with_tabW numnahlaw07_SharesTwo.tab2 numnahlaw07_SharesTwo.bits2 (fun HT_ HW_=>?_)
 generalize N4.drew = Q6 at b6 b0 HB n8 n9 hHeld ⊢
 refine pq 0 25 1 HT_ ?_
 refine pq 1 26 3 HT_ ?_
 refine pq 2 27 7 HT_ ?_
 refine pq 4 29 23 HT_ ?_
 refine pq 5 30 55 HT_ ?_
 refine tq 3 28 63 HT_ HW_ hHeld ?_
 refine tq 6 31 127 HT_ HW_ hHeld ?_
 refine join_ (σ:=Nat × Nat) 3 (ba 17 16383) (fun s_=>[(32,.tuple #[.agg #[.int .i64 d3,.int .i64 d5],.agg #[.int .i64 d2,.int .i64 d4],.int .i64 j7]),(8,.pointer (some ⟨s_.1,0,none⟩)),(9,.pointer (some ⟨s_.2,0,none⟩)),(24,.tuple #[.agg #[.int .i64 d3,.int .i64 d5],.agg #[.int .i64 d2,.int .i64 d4],.int .i64 j7]),(33,.agg #[.int .i64 d3,.int .i64 d5]),(34,.agg #[.int .i64 d2,.int .i64 d4]),(35,.int .i64 j7)]) (fun s_ w'=>(w'.cell? b5 = some (.int .i64 (rd b4 0)) ∧ w'.cell? ⟨b5.block,b5.off + 1,none⟩ = some (.int .i64 (rd b4 1))) ∧ (Kd.R (Kd.int .i64) 3 w' w.heap.size (fun k_=>some k_ ≠ (.slice (some b5) b4.length e9:Value).ownBlock) (.slice h1 d6.length h2) d6) ∧ (Kd.R (Kd.int .i64) 3 w' w.heap.size (fun k_=>some k_ ≠ (.slice h1 d6.length h2:Value).ownBlock) (.slice (some b5) b4.length e9) b4) ∧ (w'.heap[s_.1]? = some (.cells #[.int .i64 0,.int .i64 0] 23 (0,0))) ∧ (w'.heap[s_.2]? = some (.cells #[.int .i64 0,.int .i64 0] 23 (0,0))) ∧ (w.heap.size ≤ s_.1) ∧ (w.heap.size ≤ s_.1) ∧ (s_.2 ≠ s_.1) ∧ (s_.1 ≠ s_.2) ∧ (w.heap.size ≤ s_.2) ∧ (w.heap.size ≤ s_.2) ∧ (Below w.heap.size w w')) ?_ ?_
 rotate_left
 ·intro j5
  refine join_ (σ:=Nat) 4 (ba 17 8191) (fun s_=>[(32,.tuple #[.agg #[.int .i64 d3,.int .i64 d5],.agg #[.int .i64 d2,.int .i64 d4],.int .i64 j7]),(8,.pointer (some ⟨s_,0,none⟩)),(24,.tuple #[.agg #[.int .i64 d3,.int .i64 d5],.agg #[.int .i64 d2,.int .i64 d4],.int .i64 j7]),(33,.agg #[.int .i64 d3,.int .i64 d5]),(34,.agg #[.int .i64 d2,.int .i64 d4]),(35,.int .i64 j7)]) (fun s_ w'=>(w'.cell? b5 = some (.int .i64 (rd b4 0)) ∧ w'.cell? ⟨b5.block,b5.off + 1,none⟩ = some (.int .i64 (rd b4 1))) ∧ (Kd.R (Kd.int .i64) 3 w' w.heap.size (fun k_=>some k_ ≠ (.slice (some b5) b4.length e9:Value).ownBlock) (.slice h1 d6.length h2) d6) ∧ (Kd.R (Kd.int .i64) 3 w' w.heap.size (fun k_=>some k_ ≠ (.slice h1 d6.length h2:Value).ownBlock) (.slice (some b5) b4.length e9) b4) ∧ (w'.heap[s_]? = some (.cells #[.int .i64 0,.int .i64 0] 23 (0,0))) ∧ (w.heap.size ≤ s_) ∧ (w.heap.size ≤ s_) ∧ (Below w.heap.size w w')) ?_ ?_
  rotate_left
  ·intro o4
   refine join_ (σ:=Nat) 4 (ba 17 12287) (fun s_=>[(32,.tuple #[.agg #[.int .i64 d3,.int .i64 d5],.agg #[.int .i64 d2,.int .i64 d4],.int .i64 j7]),(9,.pointer (some ⟨s_,0,none⟩)),(24,.tuple #[.agg #[.int .i64 d3,.int .i64 d5],.agg #[.int .i64 d2,.int .i64 d4],.int .i64 j7]),(33,.agg #[.int .i64 d3,.int .i64 d5]),(34,.agg #[.int .i64 d2,.int .i64 d4]),(35,.int .i64 j7)]) (fun s_ w'=>(w'.cell? b5 = some (.int .i64 (rd b4 0)) ∧ w'.cell? ⟨b5.block,b5.off + 1,none⟩ = some (.int .i64 (rd b4 1))) ∧ (Kd.R (Kd.int .i64) 3 w' w.heap.size (fun k_=>some k_ ≠ (.slice (some b5) b4.length e9:Value).ownBlock) (.slice h1 d6.length h2) d6) ∧ (Kd.R (Kd.int .i64) 3 w' w.heap.size (fun k_=>some k_ ≠ (.slice h1 d6.length h2:Value).ownBlock) (.slice (some b5) b4.length e9) b4) ∧ (w'.heap[s_]? = some (.cells #[.int .i64 0,.int .i64 0] 23 (0,0))) ∧ (w.heap.size ≤ s_) ∧ (w.heap.size ≤ s_) ∧ (Below w.heap.size w w')) ?_ ?_
   rotate_left
   ·intro o5
    refine join_ (σ:=Nat × Nat) 8 (ba 17 12415) (fun s_=>[(8,.pointer (some ⟨s_.1,0,none⟩)),(9,.pointer (some ⟨s_.2,0,none⟩))]) (fun s_ w'=>(w'.cell? b5 = some (.int .i64 (rd b4 0)) ∧ w'.cell? ⟨b5.block,b5.off + 1,none⟩ = some (.int .i64 (rd b4 1))) ∧ (Kd.R (Kd.int .i64) 3 w' w.heap.size (fun k_=>some k_ ≠ (.slice (some b5) b4.length e9:Value).ownBlock) (.slice h1 d6.length h2) d6) ∧ (Kd.R (Kd.int .i64) 3 w' w.heap.size (fun k_=>some k_ ≠ (.slice h1 d6.length h2:Value).ownBlock) (.slice (some b5) b4.length e9) b4) ∧ (w'.heap[s_.1]? = some (.cells #[.int .i64 0,.int .i64 0] 23 (0,0))) ∧ (w'.heap[s_.2]? = some (.cells #[.int .i64 0,.int .i64 0] 23 (0,0))) ∧ (w.heap.size ≤ s_.1) ∧ (w.heap.size ≤ s_.1) ∧ (s_.2 ≠ s_.1) ∧ (s_.1 ≠ s_.2) ∧ (w.heap.size ≤ s_.2) ∧ (w.heap.size ≤ s_.2) ∧ (Below w.heap.size w w')) ?_ ?_
    rotate_left
    ·intro n4
     refine join_ (σ:=Unit) 5 (ba 17 4095) (fun s_=>[(32,.tuple #[.agg #[.int .i64 d3,.int .i64 d5],.agg #[.int .i64 d2,.int .i64 d4],.int .i64 j7]),(24,.tuple #[.agg #[.int .i64 d3,.int .i64 d5],.agg #[.int .i64 d2,.int .i64 d4],.int .i64 j7]),(33,.agg #[.int .i64 d3,.int .i64 d5]),(34,.agg #[.int .i64 d2,.int .i64 d4]),(35,.int .i64 j7)]) (fun s_ w'=>(w'.cell? b5 = some (.int .i64 (rd b4 0)) ∧ w'.cell? ⟨b5.block,b5.off + 1,none⟩ = some (.int .i64 (rd b4 1))) ∧ (Kd.R (Kd.int .i64) 3 w' w.heap.size (fun k_=>some k_ ≠ (.slice (some b5) b4.length e9:Value).ownBlock) (.slice h1 d6.length h2) d6) ∧ (Kd.R (Kd.int .i64) 3 w' w.heap.size (fun k_=>some k_ ≠ (.slice h1 d6.length h2:Value).ownBlock) (.slice (some b5) b4.length e9) b4) ∧ (Below w.heap.size w w')) ?_ ?_
     rotate_left
     ·intro I6
      refine join_ (σ:=Nat) 9 (ba 17 4223) (fun s_=>[(8,.pointer (some ⟨s_,0,none⟩))]) (fun s_ w'=>(w'.cell? b5 = some (.int .i64 (rd b4 0)) ∧ w'.cell? ⟨b5.block,b5.off + 1,none⟩ = some (.int .i64 (rd b4 1))) ∧ (Kd.R (Kd.int .i64) 3 w' w.heap.size (fun k_=>some k_ ≠ (.slice (some b5) b4.length e9:Value).ownBlock) (.slice h1 d6.length h2) d6) ∧ (Kd.R (Kd.int .i64) 3 w' w.heap.size (fun k_=>some k_ ≠ (.slice h1 d6.length h2:Value).ownBlock) (.slice (some b5) b4.length e9) b4) ∧ (w'.heap[s_]? = some (.cells #[.int .i64 0,.int .i64 0] 23 (0,0))) ∧ (w.heap.size ≤ s_) ∧ (w.heap.size ≤ s_) ∧ (Below w.heap.size w w')) ?_ ?_
      rotate_left
      ·intro x6
       refine join_ (σ:=Nat) 9 (ba 17 8319) (fun s_=>[(9,.pointer (some ⟨s_,0,none⟩))]) (fun s_ w'=>(w'.cell? b5 = some (.int .i64 (rd b4 0)) ∧ w'.cell? ⟨b5.block,b5.off + 1,none⟩ = some (.int .i64 (rd b4 1))) ∧ (Kd.R (Kd.int .i64) 3 w' w.heap.size (fun k_=>some k_ ≠ (.slice (some b5) b4.length e9:Value).ownBlock) (.slice h1 d6.length h2) d6) ∧ (Kd.R (Kd.int .i64) 3 w' w.heap.size (fun k_=>some k_ ≠ (.slice h1 d6.length h2:Value).ownBlock) (.slice (some b5) b4.length e9) b4) ∧ (w'.heap[s_]? = some (.cells #[.int .i64 0,.int .i64 0] 23 (0,0))) ∧ (w.heap.size ≤ s_) ∧ (w.heap.size ≤ s_) ∧ (Below w.heap.size w w')) ?_ ?_
       rotate_left
       ·intro x8
        refine three_ (i:=7) (j:=12) (k:=13) (Ni:=some 32) (Nj:=some 8) (Nk:=some 9) (ba 17 255) (ba 17 4223) (ba 17 8319) rfl rfl rfl rfl rfl rfl (three_of HT_.out (by kernel_rfl)) (by decide) (by decide) (by decide) (fun K hK=>?_) (fun K hK=>?_) (fun K hK=>?_)
        ·skip
         refine gq Try.func20 #[.int .i64 e2,.int .i64 (rd b4 0),.int .i64 (rd b4 1)] ?_
         with_reducible refine (shares_Garment.calls k e2 (rd b4 0) (rd b4 1) d3 d5 d2 d4 j7 _ A7.out).mono ?_
         rintro e J9 ⟨rfl,hb⟩
         have j9:=(hb.cell (World.block_lt_of_cell? _ _ (hHeld.1))).trans (hHeld.1)
         have l5:=(hb.cell (World.block_lt_of_cell? _ _ (hHeld.2))).trans (hHeld.2)
         refine ⟨_,rfl,?_⟩
         replace b6:=rB b6 hb
         replace b0:=rB b0 hb
         replace HB:=bB HB hb
         (try clear hb)
         refine hz hK (fun hHeld=>?_)
         clear hK K
         refine nq 32 ?_
         refine pq 8 24 511 HT_ ?_
         refine pq 9 33 1023 HT_ ?_
         refine pq 10 34 2047 HT_ ?_
         refine pq 11 35 4095 HT_ ?_
         exact norm_ (by first | (simp only [putAll,Act.put,List.setIfInBounds_toArray,List.set_cons_zero,List.set_cons_succ];done) | (simp only [putAll,Act.put,List.setIfInBounds_toArray,List.set_cons_zero,List.set_cons_succ];rfl)) (I6 () _ ⟨hHeld,(by (with_reducible repeat (first | apply Kd.R_alloc | apply Kd.R_drewN | apply Kd.R_drew));exact Kd.R_mono b6.out (fun _ hk=>hk.2)),(by (with_reducible repeat (first | apply Kd.R_alloc | apply Kd.R_drewN | apply Kd.R_drew));exact Kd.R_mono b0.out (fun _ hk=>hk.2)),(bl HB)⟩)
        ·skip
         refine box_step ?hg (N:=8) ?hd (cs:=#[.int .i64 0,.int .i64 0]) (t:=23) ?hr ?_;(case hd=>rfl);(case hg=>rfl);(case hr=>first | (go_simp;done) | (go_simp;rfl))
         intro b7 hg J9 hbox hb
         have j9:=(hb.cell (World.block_lt_of_cell? _ _ (hHeld.1))).trans (hHeld.1)
         have l5:=(hb.cell (World.block_lt_of_cell? _ _ (hHeld.2))).trans (hHeld.2)
         have b2:=A_ hbox
         have i4:=gw hg HB
         have l6:=i4
         replace b6:=rB b6 hb
         replace b0:=rB b0 hb
         replace HB:=bB HB hb
         clear hb hbox hg
         refine hz hK (fun hHeld=>?_)
         clear hK K
         refine nq 8 ?_
         exact norm_ (by first | (simp only [putAll,Act.put,List.setIfInBounds_toArray,List.set_cons_zero,List.set_cons_succ];done) | (simp only [putAll,Act.put,List.setIfInBounds_toArray,List.set_cons_zero,List.set_cons_succ];rfl)) (x6 (b7) _ ⟨hHeld,(by (with_reducible repeat (first | apply Kd.R_alloc | apply Kd.R_drewN | apply Kd.R_drew));exact Kd.R_mono b6.out (fun _ hk=>hk.2)),(by (with_reducible repeat (first | apply Kd.R_alloc | apply Kd.R_drewN | apply Kd.R_drew));exact Kd.R_mono b0.out (fun _ hk=>hk.2)),(kb b2),i4.out,l6.out,(bl HB)⟩)
        skip
        refine box_step ?hg (N:=9) ?hd (cs:=#[.int .i64 0,.int .i64 0]) (t:=23) ?hr ?_;(case hd=>rfl);(case hg=>rfl);(case hr=>first | (go_simp;done) | (go_simp;rfl))
        intro b8 hg J9 hbox hb
        have j9:=(hb.cell (World.block_lt_of_cell? _ _ (hHeld.1))).trans (hHeld.1)
        have l5:=(hb.cell (World.block_lt_of_cell? _ _ (hHeld.2))).trans (hHeld.2)
        have b3:=A_ hbox
        have i5:=gw hg HB
        have l7:=i5
        replace b6:=rB b6 hb
        replace b0:=rB b0 hb
        replace HB:=bB HB hb
        clear hb hbox hg
        refine hz hK (fun hHeld=>?_)
        clear hK K
        refine nq 9 ?_
        exact norm_ (by first | (simp only [putAll,Act.put,List.setIfInBounds_toArray,List.set_cons_zero,List.set_cons_succ];done) | (simp only [putAll,Act.put,List.setIfInBounds_toArray,List.set_cons_zero,List.set_cons_succ];rfl)) (x8 (b8) _ ⟨hHeld,(by (with_reducible repeat (first | apply Kd.R_alloc | apply Kd.R_drewN | apply Kd.R_drew));exact Kd.R_mono b6.out (fun _ hk=>hk.2)),(by (with_reducible repeat (first | apply Kd.R_alloc | apply Kd.R_drewN | apply Kd.R_drew));exact Kd.R_mono b0.out (fun _ hk=>hk.2)),(kb b3),i5.out,l7.out,(bl HB)⟩)
       skip
       rintro b8 p8 ⟨hS_,m2,m3,m4,m6,m7,m9⟩
       have b3:Aside0 (p8.heap[b8]? = some (.cells #[.int .i64 0,.int .i64 0] 23 (0,0))):=⟨m4⟩
       have i5:Aside0 (w.heap.size ≤ b8):=⟨m6⟩
       have l7:Aside0 (w.heap.size ≤ b8):=⟨m7⟩
       replace b6:Aside0 (Kd.R (Kd.int .i64) 3 p8 w.heap.size (fun k_=>some k_ ≠ (.slice (some b5) b4.length e9:Value).ownBlock) (.slice h1 d6.length h2) d6):=⟨m2⟩
       replace b0:Aside0 (Kd.R (Kd.int .i64) 3 p8 w.heap.size (fun k_=>some k_ ≠ (.slice h1 d6.length h2:Value).ownBlock) (.slice (some b5) b4.length e9) b4):=⟨m3⟩
       replace HB:Aside0 (Below w.heap.size w p8):=⟨m9⟩
       clear m2 m3 m4 m6 m7 m9
       have hHeld:p8.cell? b5 = some (.int .i64 (rd b4 0)) ∧ p8.cell? ⟨b5.block,b5.off + 1,none⟩ = some (.int .i64 (rd b4 1)):=hS_
       refine norm_ (a':=?_) ?_ ?_
       rotate_left
       ·simp only [putAll,Act.put,List.setIfInBounds_toArray,List.set_cons_zero,List.set_cons_succ]
        rfl
       refine two_ (i:=7) (j:=12) (Ni:=some 32) (Nj:=some 8) (ba 17 8447) (ba 17 12415) rfl rfl rfl rfl (two_of HT_.out (by kernel_rfl)) (by decide) (by decide) (fun K hK=>?_) (fun K hK=>?_)
       ·skip
        refine gq Try.func20 #[.int .i64 e2,.int .i64 (rd b4 0),.int .i64 (rd b4 1)] ?_
        with_reducible refine (shares_Garment.calls k e2 (rd b4 0) (rd b4 1) d3 d5 d2 d4 j7 _ A7.out).mono ?_
        rintro e n5 ⟨rfl,hb⟩
        have j9:=(hb.cell (World.block_lt_of_cell? _ _ (hHeld.1))).trans (hHeld.1)
        have l5:=(hb.cell (World.block_lt_of_cell? _ _ (hHeld.2))).trans (hHeld.2)
        refine ⟨_,rfl,?_⟩
        replace b6:=rB b6 hb
        replace b0:=rB b0 hb
        replace b3:=kB b3 hb
        replace HB:=bB HB hb
        (try clear hb)
        refine hz hK (fun hHeld=>?_)
        clear hK K
        refine nq 32 ?_
        refine pq 8 24 8703 HT_ ?_
        refine pq 9 33 9215 HT_ ?_
        refine pq 10 34 10239 HT_ ?_
        refine pq 11 35 12287 HT_ ?_
        exact norm_ (by first | (simp only [putAll,Act.put,List.setIfInBounds_toArray,List.set_cons_zero,List.set_cons_succ];done) | (simp only [putAll,Act.put,List.setIfInBounds_toArray,List.set_cons_zero,List.set_cons_succ];rfl)) (o5 (b8) _ ⟨hHeld,(rs b6),(rs b0),(kb b3),i5.out,l7.out,(bl HB)⟩)
       skip
       refine box_step ?hg (N:=8) ?hd (cs:=#[.int .i64 0,.int .i64 0]) (t:=23) ?hr ?_;(case hd=>rfl);(case hg=>rfl);(case hr=>first | (go_simp;done) | (go_simp;rfl))
       intro b7 hg n5 hbox hb
       have j9:=(hb.cell (World.block_lt_of_cell? _ _ (hHeld.1))).trans (hHeld.1)
       have l5:=(hb.cell (World.block_lt_of_cell? _ _ (hHeld.2))).trans (hHeld.2)
       have b2:=A_ hbox
       have i4:=gw hg HB
       have l6:=i4
       have h3:=nl hg b3
       have h4:=ng hg b3
       replace b6:=rB b6 hb
       replace b0:=rB b0 hb
       replace b3:=kB b3 hb
       replace HB:=bB HB hb
       clear hb hbox hg
       refine hz hK (fun hHeld=>?_)
       clear hK K
       refine nq 8 ?_
       exact norm_ (by first | (simp only [putAll,Act.put,List.setIfInBounds_toArray,List.set_cons_zero,List.set_cons_succ];done) | (simp only [putAll,Act.put,List.setIfInBounds_toArray,List.set_cons_zero,List.set_cons_succ];rfl)) (n4 (b7,b8) _ ⟨hHeld,(rs b6),(rs b0),(kb b2),(kb b3),i4.out,l6.out,h3.out,h4.out,i5.out,l7.out,(bl HB)⟩)
      skip
      rintro b7 p8 ⟨hS_,m2,m3,m4,m6,m7,m9⟩
      have b2:Aside0 (p8.heap[b7]? = some (.cells #[.int .i64 0,.int .i64 0] 23 (0,0))):=⟨m4⟩
      have i4:Aside0 (w.heap.size ≤ b7):=⟨m6⟩
      have l6:Aside0 (w.heap.size ≤ b7):=⟨m7⟩
      replace b6:Aside0 (Kd.R (Kd.int .i64) 3 p8 w.heap.size (fun k_=>some k_ ≠ (.slice (some b5) b4.length e9:Value).ownBlock) (.slice h1 d6.length h2) d6):=⟨m2⟩
      replace b0:Aside0 (Kd.R (Kd.int .i64) 3 p8 w.heap.size (fun k_=>some k_ ≠ (.slice h1 d6.length h2:Value).ownBlock) (.slice (some b5) b4.length e9) b4):=⟨m3⟩
      replace HB:Aside0 (Below w.heap.size w p8):=⟨m9⟩
      clear m2 m3 m4 m6 m7 m9
      have hHeld:p8.cell? b5 = some (.int .i64 (rd b4 0)) ∧ p8.cell? ⟨b5.block,b5.off + 1,none⟩ = some (.int .i64 (rd b4 1)):=hS_
      refine norm_ (a':=?_) ?_ ?_
      rotate_left
      ·simp only [putAll,Act.put,List.setIfInBounds_toArray,List.set_cons_zero,List.set_cons_succ]
       rfl
      refine two_ (i:=7) (j:=13) (Ni:=some 32) (Nj:=some 9) (ba 17 4351) (ba 17 12415) rfl rfl rfl rfl (two_of HT_.out (by kernel_rfl)) (by decide) (by decide) (fun K hK=>?_) (fun K hK=>?_)
      ·skip
       refine gq Try.func20 #[.int .i64 e2,.int .i64 (rd b4 0),.int .i64 (rd b4 1)] ?_
       with_reducible refine (shares_Garment.calls k e2 (rd b4 0) (rd b4 1) d3 d5 d2 d4 j7 _ A7.out).mono ?_
       rintro e n5 ⟨rfl,hb⟩
       have j9:=(hb.cell (World.block_lt_of_cell? _ _ (hHeld.1))).trans (hHeld.1)
       have l5:=(hb.cell (World.block_lt_of_cell? _ _ (hHeld.2))).trans (hHeld.2)
       refine ⟨_,rfl,?_⟩
       replace b6:=rB b6 hb
       replace b0:=rB b0 hb
       replace b2:=kB b2 hb
       replace HB:=bB HB hb
       (try clear hb)
       refine hz hK (fun hHeld=>?_)
       clear hK K
       refine nq 32 ?_
       refine pq 8 24 4607 HT_ ?_
       refine pq 9 33 5119 HT_ ?_
       refine pq 10 34 6143 HT_ ?_
       refine pq 11 35 8191 HT_ ?_
       exact norm_ (by first | (simp only [putAll,Act.put,List.setIfInBounds_toArray,List.set_cons_zero,List.set_cons_succ];done) | (simp only [putAll,Act.put,List.setIfInBounds_toArray,List.set_cons_zero,List.set_cons_succ];rfl)) (o4 (b7) _ ⟨hHeld,(rs b6),(rs b0),(kb b2),i4.out,l6.out,(bl HB)⟩)
      skip
      refine box_step ?hg (N:=9) ?hd (cs:=#[.int .i64 0,.int .i64 0]) (t:=23) ?hr ?_;(case hd=>rfl);(case hg=>rfl);(case hr=>first | (go_simp;done) | (go_simp;rfl))
      intro b8 hg n5 hbox hb
      have j9:=(hb.cell (World.block_lt_of_cell? _ _ (hHeld.1))).trans (hHeld.1)
      have l5:=(hb.cell (World.block_lt_of_cell? _ _ (hHeld.2))).trans (hHeld.2)
      have b3:=A_ hbox
      have i5:=gw hg HB
      have l7:=i5
      have h4:=nl hg b2
      have h3:=ng hg b2
      replace b6:=rB b6 hb
      replace b0:=rB b0 hb
      replace b2:=kB b2 hb
      replace HB:=bB HB hb
      clear hb hbox hg
      refine hz hK (fun hHeld=>?_)
      clear hK K
      refine nq 9 ?_
      exact norm_ (by first | (simp only [putAll,Act.put,List.setIfInBounds_toArray,List.set_cons_zero,List.set_cons_succ];done) | (simp only [putAll,Act.put,List.setIfInBounds_toArray,List.set_cons_zero,List.set_cons_succ];rfl)) (n4 (b7,b8) _ ⟨hHeld,(rs b6),(rs b0),(kb b2),(kb b3),i4.out,l6.out,h3.out,h4.out,i5.out,l7.out,(bl HB)⟩)
     skip
     rintro _ p8 ⟨hS_,m2,m3,m4⟩
     replace b6:Aside0 (Kd.R (Kd.int .i64) 3 p8 w.heap.size (fun k_=>some k_ ≠ (.slice (some b5) b4.length e9:Value).ownBlock) (.slice h1 d6.length h2) d6):=⟨m2⟩
     replace b0:Aside0 (Kd.R (Kd.int .i64) 3 p8 w.heap.size (fun k_=>some k_ ≠ (.slice h1 d6.length h2:Value).ownBlock) (.slice (some b5) b4.length e9) b4):=⟨m3⟩
     replace HB:Aside0 (Below w.heap.size w p8):=⟨m4⟩
     clear m2 m3 m4
     have hHeld:p8.cell? b5 = some (.int .i64 (rd b4 0)) ∧ p8.cell? ⟨b5.block,b5.off + 1,none⟩ = some (.int .i64 (rd b4 1)):=hS_
     refine norm_ (a':=?_) ?_ ?_
     rotate_left
     ·simp only [putAll,Act.put,List.setIfInBounds_toArray,List.set_cons_zero,List.set_cons_succ]
      rfl
     refine two_ (i:=12) (j:=13) (Ni:=some 8) (Nj:=some 9) (ba 17 8191) (ba 17 12287) rfl rfl rfl rfl (two_of HT_.out (by kernel_rfl)) (by decide) (by decide) (fun K hK=>?_) (fun K hK=>?_)
     ·skip
      refine box_step ?hg (N:=8) ?hd (cs:=#[.int .i64 0,.int .i64 0]) (t:=23) ?hr ?_;(case hd=>rfl);(case hg=>rfl);(case hr=>first | (go_simp;done) | (go_simp;rfl))
      intro b7 hg n5 hbox hb
      have j9:=(hb.cell (World.block_lt_of_cell? _ _ (hHeld.1))).trans (hHeld.1)
      have l5:=(hb.cell (World.block_lt_of_cell? _ _ (hHeld.2))).trans (hHeld.2)
      have b2:=A_ hbox
      have i4:=gw hg HB
      have l6:=i4
      replace b6:=rB b6 hb
      replace b0:=rB b0 hb
      replace HB:=bB HB hb
      clear hb hbox hg
      refine hz hK (fun hHeld=>?_)
      clear hK K
      refine nq 8 ?_
      exact norm_ (by first | (simp only [putAll,Act.put,List.setIfInBounds_toArray,List.set_cons_zero,List.set_cons_succ];done) | (simp only [putAll,Act.put,List.setIfInBounds_toArray,List.set_cons_zero,List.set_cons_succ];rfl)) (o4 (b7) _ ⟨hHeld,(rs b6),(rs b0),(kb b2),i4.out,l6.out,(bl HB)⟩)
     skip
     refine box_step ?hg (N:=9) ?hd (cs:=#[.int .i64 0,.int .i64 0]) (t:=23) ?hr ?_;(case hd=>rfl);(case hg=>rfl);(case hr=>first | (go_simp;done) | (go_simp;rfl))
     intro b8 hg n5 hbox hb
     have j9:=(hb.cell (World.block_lt_of_cell? _ _ (hHeld.1))).trans (hHeld.1)
     have l5:=(hb.cell (World.block_lt_of_cell? _ _ (hHeld.2))).trans (hHeld.2)
     have b3:=A_ hbox
     have i5:=gw hg HB
     have l7:=i5
     replace b6:=rB b6 hb
     replace b0:=rB b0 hb
     replace HB:=bB HB hb
     clear hb hbox hg
     refine hz hK (fun hHeld=>?_)
     clear hK K
     refine nq 9 ?_
     exact norm_ (by first | (simp only [putAll,Act.put,List.setIfInBounds_toArray,List.set_cons_zero,List.set_cons_succ];done) | (simp only [putAll,Act.put,List.setIfInBounds_toArray,List.set_cons_zero,List.set_cons_succ];rfl)) (o5 (b8) _ ⟨hHeld,(rs b6),(rs b0),(kb b3),i5.out,l7.out,(bl HB)⟩)
    skip
    rintro ⟨b7,b8⟩ n5 ⟨hS_,m2,m3,m4,m6,m7,m9,o6,o7,o8,o9,l8⟩
    have b2:Aside0 (n5.heap[b7]? = some (.cells #[.int .i64 0,.int .i64 0] 23 (0,0))):=⟨m4⟩
    have b3:Aside0 (n5.heap[b8]? = some (.cells #[.int .i64 0,.int .i64 0] 23 (0,0))):=⟨m6⟩
    have i4:Aside0 (w.heap.size ≤ b7):=⟨m7⟩
    have l6:Aside0 (w.heap.size ≤ b7):=⟨m9⟩
    have h3:Aside0 (b8 ≠ b7):=⟨o6⟩
    have h4:Aside0 (b7 ≠ b8):=⟨o7⟩
    have i5:Aside0 (w.heap.size ≤ b8):=⟨o8⟩
    have l7:Aside0 (w.heap.size ≤ b8):=⟨o9⟩
    replace b6:Aside0 (Kd.R (Kd.int .i64) 3 n5 w.heap.size (fun k_=>some k_ ≠ (.slice (some b5) b4.length e9:Value).ownBlock) (.slice h1 d6.length h2) d6):=⟨m2⟩
    replace b0:Aside0 (Kd.R (Kd.int .i64) 3 n5 w.heap.size (fun k_=>some k_ ≠ (.slice h1 d6.length h2:Value).ownBlock) (.slice (some b5) b4.length e9) b4):=⟨m3⟩
    replace HB:Aside0 (Below w.heap.size w n5):=⟨l8⟩
    clear m2 m3 m4 m6 m7 m9 o6 o7 o8 o9 l8
    have hHeld:n5.cell? b5 = some (.int .i64 (rd b4 0)) ∧ n5.cell? ⟨b5.block,b5.off + 1,none⟩ = some (.int .i64 (rd b4 1)):=hS_
    refine norm_ (a':=?_) ?_ ?_
    rotate_left
    ·simp only [putAll,Act.put,List.setIfInBounds_toArray,List.set_cons_zero,List.set_cons_succ]
     rfl
    refine oq 7 32 12543 HT_ (fun K hK=>?_)
    refine gq Try.func20 #[.int .i64 e2,.int .i64 (rd b4 0),.int .i64 (rd b4 1)] ?_
    with_reducible refine (shares_Garment.calls k e2 (rd b4 0) (rd b4 1) d3 d5 d2 d4 j7 _ A7.out).mono ?_
    rintro e p7 ⟨rfl,hb⟩
    have j9:=(hb.cell (World.block_lt_of_cell? _ _ (hHeld.1))).trans (hHeld.1)
    have l5:=(hb.cell (World.block_lt_of_cell? _ _ (hHeld.2))).trans (hHeld.2)
    refine ⟨_,rfl,?_⟩
    replace b6:=rB b6 hb
    replace b0:=rB b0 hb
    replace b2:=kB b2 hb
    replace b3:=kB b3 hb
    replace HB:=bB HB hb
    (try clear hb)
    refine hz hK (fun hHeld=>?_)
    clear hK K
    refine nq 32 ?_
    refine pq 8 24 12799 HT_ ?_
    refine pq 9 33 13311 HT_ ?_
    refine pq 10 34 14335 HT_ ?_
    refine pq 11 35 16383 HT_ ?_
    exact norm_ (by first | (simp only [putAll,Act.put,List.setIfInBounds_toArray,List.set_cons_zero,List.set_cons_succ];done) | (simp only [putAll,Act.put,List.setIfInBounds_toArray,List.set_cons_zero,List.set_cons_succ];rfl)) (j5 (b7,b8) _ ⟨hHeld,(rs b6),(rs b0),(kb b2),(kb b3),i4.out,l6.out,h3.out,h4.out,i5.out,l7.out,(bl HB)⟩)
   skip
   rintro b8 n5 ⟨hS_,m2,m3,m4,m6,m7,m9⟩
   have b3:Aside0 (n5.heap[b8]? = some (.cells #[.int .i64 0,.int .i64 0] 23 (0,0))):=⟨m4⟩
   have i5:Aside0 (w.heap.size ≤ b8):=⟨m6⟩
   have l7:Aside0 (w.heap.size ≤ b8):=⟨m7⟩
   replace b6:Aside0 (Kd.R (Kd.int .i64) 3 n5 w.heap.size (fun k_=>some k_ ≠ (.slice (some b5) b4.length e9:Value).ownBlock) (.slice h1 d6.length h2) d6):=⟨m2⟩
   replace b0:Aside0 (Kd.R (Kd.int .i64) 3 n5 w.heap.size (fun k_=>some k_ ≠ (.slice h1 d6.length h2:Value).ownBlock) (.slice (some b5) b4.length e9) b4):=⟨m3⟩
   replace HB:Aside0 (Below w.heap.size w n5):=⟨m9⟩
   clear m2 m3 m4 m6 m7 m9
   have hHeld:n5.cell? b5 = some (.int .i64 (rd b4 0)) ∧ n5.cell? ⟨b5.block,b5.off + 1,none⟩ = some (.int .i64 (rd b4 1)):=hS_
   refine norm_ (a':=?_) ?_ ?_
   rotate_left
   ·simp only [putAll,Act.put,List.setIfInBounds_toArray,List.set_cons_zero,List.set_cons_succ]
    rfl
   refine oq 12 8 16383 HT_ (fun K hK=>?_)
   refine box_step ?hg (N:=8) ?hd (cs:=#[.int .i64 0,.int .i64 0]) (t:=23) ?hr ?_;(case hd=>rfl);(case hg=>rfl);(case hr=>first | (go_simp;done) | (go_simp;rfl))
   intro b7 hg p7 hbox hb
   have j9:=(hb.cell (World.block_lt_of_cell? _ _ (hHeld.1))).trans (hHeld.1)
   have l5:=(hb.cell (World.block_lt_of_cell? _ _ (hHeld.2))).trans (hHeld.2)
   have b2:=A_ hbox
   have i4:=gw hg HB
   have l6:=i4
   have h3:=nl hg b3
   have h4:=ng hg b3
   replace b6:=rB b6 hb
   replace b0:=rB b0 hb
   replace b3:=kB b3 hb
   replace HB:=bB HB hb
   clear hb hbox hg
   refine hz hK (fun hHeld=>?_)
   clear hK K
   refine nq 8 ?_
   exact norm_ (by first | (simp only [putAll,Act.put,List.setIfInBounds_toArray,List.set_cons_zero,List.set_cons_succ];done) | (simp only [putAll,Act.put,List.setIfInBounds_toArray,List.set_cons_zero,List.set_cons_succ];rfl)) (j5 (b7,b8) _ ⟨hHeld,(rs b6),(rs b0),(kb b2),(kb b3),i4.out,l6.out,h3.out,h4.out,i5.out,l7.out,(bl HB)⟩)
  skip
  rintro b7 n5 ⟨hS_,m2,m3,m4,m6,m7,m9⟩
  have b2:Aside0 (n5.heap[b7]? = some (.cells #[.int .i64 0,.int .i64 0] 23 (0,0))):=⟨m4⟩
  have i4:Aside0 (w.heap.size ≤ b7):=⟨m6⟩
  have l6:Aside0 (w.heap.size ≤ b7):=⟨m7⟩
  replace b6:Aside0 (Kd.R (Kd.int .i64) 3 n5 w.heap.size (fun k_=>some k_ ≠ (.slice (some b5) b4.length e9:Value).ownBlock) (.slice h1 d6.length h2) d6):=⟨m2⟩
  replace b0:Aside0 (Kd.R (Kd.int .i64) 3 n5 w.heap.size (fun k_=>some k_ ≠ (.slice h1 d6.length h2:Value).ownBlock) (.slice (some b5) b4.length e9) b4):=⟨m3⟩
  replace HB:Aside0 (Below w.heap.size w n5):=⟨m9⟩
  clear m2 m3 m4 m6 m7 m9
  have hHeld:n5.cell? b5 = some (.int .i64 (rd b4 0)) ∧ n5.cell? ⟨b5.block,b5.off + 1,none⟩ = some (.int .i64 (rd b4 1)):=hS_
  refine norm_ (a':=?_) ?_ ?_
  rotate_left
  ·simp only [putAll,Act.put,List.setIfInBounds_toArray,List.set_cons_zero,List.set_cons_succ]
   rfl
  refine oq 13 9 16383 HT_ (fun K hK=>?_)
  refine box_step ?hg (N:=9) ?hd (cs:=#[.int .i64 0,.int .i64 0]) (t:=23) ?hr ?_;(case hd=>rfl);(case hg=>rfl);(case hr=>first | (go_simp;done) | (go_simp;rfl))
  intro b8 hg p7 hbox hb
  have j9:=(hb.cell (World.block_lt_of_cell? _ _ (hHeld.1))).trans (hHeld.1)
  have l5:=(hb.cell (World.block_lt_of_cell? _ _ (hHeld.2))).trans (hHeld.2)
  have b3:=A_ hbox
  have i5:=gw hg HB
  have l7:=i5
  have h4:=nl hg b2
  have h3:=ng hg b2
  replace b6:=rB b6 hb
  replace b0:=rB b0 hb
  replace b2:=kB b2 hb
  replace HB:=bB HB hb
  clear hb hbox hg
  refine hz hK (fun hHeld=>?_)
  clear hK K
  refine nq 9 ?_
  exact norm_ (by first | (simp only [putAll,Act.put,List.setIfInBounds_toArray,List.set_cons_zero,List.set_cons_succ];done) | (simp only [putAll,Act.put,List.setIfInBounds_toArray,List.set_cons_zero,List.set_cons_succ];rfl)) (j5 (b7,b8) _ ⟨hHeld,(rs b6),(rs b0),(kb b2),(kb b3),i4.out,l6.out,h3.out,h4.out,i5.out,l7.out,(bl HB)⟩)
 rintro ⟨b7,b8⟩ p7 ⟨hS_,m2,m3,m4,m6,m7,m9,o6,o7,o8,o9,l8⟩
 have b2:Aside0 (p7.heap[b7]? = some (.cells #[.int .i64 0,.int .i64 0] 23 (0,0))):=⟨m4⟩
 have b3:Aside0 (p7.heap[b8]? = some (.cells #[.int .i64 0,.int .i64 0] 23 (0,0))):=⟨m6⟩
 have i4:Aside0 (w.heap.size ≤ b7):=⟨m7⟩
 have l6:Aside0 (w.heap.size ≤ b7):=⟨m9⟩
 have h3:Aside0 (b8 ≠ b7):=⟨o6⟩
 have h4:Aside0 (b7 ≠ b8):=⟨o7⟩
 have i5:Aside0 (w.heap.size ≤ b8):=⟨o8⟩
 have l7:Aside0 (w.heap.size ≤ b8):=⟨o9⟩
 replace b6:Aside0 (Kd.R (Kd.int .i64) 3 p7 w.heap.size (fun k_=>some k_ ≠ (.slice (some b5) b4.length e9:Value).ownBlock) (.slice h1 d6.length h2) d6):=⟨m2⟩
 replace b0:Aside0 (Kd.R (Kd.int .i64) 3 p7 w.heap.size (fun k_=>some k_ ≠ (.slice h1 d6.length h2:Value).ownBlock) (.slice (some b5) b4.length e9) b4):=⟨m3⟩
 replace HB:Aside0 (Below w.heap.size w p7):=⟨l8⟩
 clear m2 m3 m4 m6 m7 m9 o6 o7 o8 o9 l8
 have hHeld:p7.cell? b5 = some (.int .i64 (rd b4 0)) ∧ p7.cell? ⟨b5.block,b5.off + 1,none⟩ = some (.int .i64 (rd b4 1)):=hS_
 refine norm_ (a':=?_) ?_ ?_
 rotate_left
 ·simp only [putAll,Act.put,List.setIfInBounds_toArray,List.set_cons_zero,List.set_cons_succ]
  rfl
 refine one_ (i:=14) (N:=none) (ba 17 32767) rfl rfl (one_of HT_.out (by kernel_rfl)) (by decide) (fun K hK=>?_)
 have N7:p7.cell? ⟨b7,0,none⟩ = some (.int .i64 0):=cz b2 0
 have K0:=blk_frozen b2.out 0
 have E6:=h3.out
 have E7:=h4.out
 have N8:p7.cell? ⟨b7,1,none⟩ = some (.int .i64 0):=cz b2 1
 have K1:=blk_frozen b2.out 1
 have E8:=h3.out
 have E9:=h4.out
 refine skip_ (w1:=?_) (by rfl) rfl ?_ ?_
 rotate_left
 ·go_simp
  rfl
 refine hK.out _ _ ⟨((cell_far (p:=⟨b7,_,none⟩) (by first | exact Kd.own_blk (Kd.R_ne b0.out b2.out (by decide)) | (rw [add_block];exact Kd.own_blk (Kd.R_ne b0.out b2.out (by decide))) | (show (Addr.add _ _).block ≠ _;rw [add_block];exact Kd.own_blk (Kd.R_ne b0.out b2.out (by decide))) | (dsimp only;exact Kd.own_blk (Kd.R_ne b0.out b2.out (by decide)))) _).trans (((cell_far (p:=⟨b7,_,none⟩) (by first | exact Kd.own_blk (Kd.R_ne b0.out b2.out (by decide)) | (rw [add_block];exact Kd.own_blk (Kd.R_ne b0.out b2.out (by decide))) | (show (Addr.add _ _).block ≠ _;rw [add_block];exact Kd.own_blk (Kd.R_ne b0.out b2.out (by decide))) | (dsimp only;exact Kd.own_blk (Kd.R_ne b0.out b2.out (by decide)))) _).trans (hHeld.1)))),((cell_far (p:=⟨b7,_,none⟩) (by first | exact Kd.own_blk (Kd.R_ne b0.out b2.out (by decide)) | (rw [add_block];exact Kd.own_blk (Kd.R_ne b0.out b2.out (by decide))) | (show (Addr.add _ _).block ≠ _;rw [add_block];exact Kd.own_blk (Kd.R_ne b0.out b2.out (by decide))) | (dsimp only;exact Kd.own_blk (Kd.R_ne b0.out b2.out (by decide)))) _).trans (((cell_far (p:=⟨b7,_,none⟩) (by first | exact Kd.own_blk (Kd.R_ne b0.out b2.out (by decide)) | (rw [add_block];exact Kd.own_blk (Kd.R_ne b0.out b2.out (by decide))) | (show (Addr.add _ _).block ≠ _;rw [add_block];exact Kd.own_blk (Kd.R_ne b0.out b2.out (by decide))) | (dsimp only;exact Kd.own_blk (Kd.R_ne b0.out b2.out (by decide)))) _).trans (hHeld.2))))⟩ (fun hHeld=>?_)
 clear hK K
 refine one_ (i:=15) (N:=none) (ba 17 65535) rfl rfl (one_of HT_.out (by kernel_rfl)) (by decide) (fun K hK=>?_)
 have N9:p7.cell? ⟨b8,0,none⟩ = some (.int .i64 0):=cz b3 0
 have K2:=blk_frozen b3.out 0
 have F0:=h4.out
 have F1:=h3.out
 have O0:p7.cell? ⟨b8,1,none⟩ = some (.int .i64 0):=cz b3 1
 have K3:=blk_frozen b3.out 1
 have F2:=h4.out
 have F3:=h3.out
 refine skip_ (w1:=?_) (by rfl) rfl ?_ ?_
 rotate_left
 ·go_simp
  rfl
 refine hK.out _ _ ⟨((cell_far (p:=⟨b8,_,none⟩) (by first | exact Kd.own_blk (Kd.R_ne b0.out b3.out (by decide)) | (rw [add_block];exact Kd.own_blk (Kd.R_ne b0.out b3.out (by decide))) | (show (Addr.add _ _).block ≠ _;rw [add_block];exact Kd.own_blk (Kd.R_ne b0.out b3.out (by decide))) | (dsimp only;exact Kd.own_blk (Kd.R_ne b0.out b3.out (by decide)))) _).trans (((cell_far (p:=⟨b8,_,none⟩) (by first | exact Kd.own_blk (Kd.R_ne b0.out b3.out (by decide)) | (rw [add_block];exact Kd.own_blk (Kd.R_ne b0.out b3.out (by decide))) | (show (Addr.add _ _).block ≠ _;rw [add_block];exact Kd.own_blk (Kd.R_ne b0.out b3.out (by decide))) | (dsimp only;exact Kd.own_blk (Kd.R_ne b0.out b3.out (by decide)))) _).trans (hHeld.1)))),((cell_far (p:=⟨b8,_,none⟩) (by first | exact Kd.own_blk (Kd.R_ne b0.out b3.out (by decide)) | (rw [add_block];exact Kd.own_blk (Kd.R_ne b0.out b3.out (by decide))) | (show (Addr.add _ _).block ≠ _;rw [add_block];exact Kd.own_blk (Kd.R_ne b0.out b3.out (by decide))) | (dsimp only;exact Kd.own_blk (Kd.R_ne b0.out b3.out (by decide)))) _).trans (((cell_far (p:=⟨b8,_,none⟩) (by first | exact Kd.own_blk (Kd.R_ne b0.out b3.out (by decide)) | (rw [add_block];exact Kd.own_blk (Kd.R_ne b0.out b3.out (by decide))) | (show (Addr.add _ _).block ≠ _;rw [add_block];exact Kd.own_blk (Kd.R_ne b0.out b3.out (by decide))) | (dsimp only;exact Kd.own_blk (Kd.R_ne b0.out b3.out (by decide)))) _).trans (hHeld.2))))⟩ (fun hHeld=>?_)
 clear hK K
 refine pq 16 10 131071 HT_ ?_
 refine done_ (done_of HT_.out (by kernel_rfl)) ?_
 try go_wp2
 have I7:Aside0 (Kd.R (Kd.int .i64) 3 ((((p7.setCell ⟨b7,0,none⟩ (.int .i64 d3)).setCell ⟨b7,1,none⟩ (.int .i64 d5)).setCell ⟨b8,0,none⟩ (.int .i64 d2)).setCell ⟨b8,1,none⟩ (.int .i64 d4)) w.heap.size (fun k_=>some k_ ≠ (.slice (some b5) b4.length e9:Value).ownBlock) (.slice h1 d6.length h2) d6):=⟨by (with_reducible repeat (first | apply Kd.R_alloc | apply Kd.R_drewN | apply Kd.R_drew));exact Kd.R_mono (Kd.R_far (p:=⟨b8,1,none⟩) (Kd.R_far (p:=⟨b8,0,none⟩) (Kd.R_far (p:=⟨b7,1,none⟩) (Kd.R_far (p:=⟨b7,0,none⟩) (Kd.R_types (Kd.R_types b6.out b2.out (by decide)) b3.out (by decide)) (fun _ hk=>hk.1.2) (.int .i64 d3)) (fun _ hk=>hk.1.2) (.int .i64 d5)) (fun _ hk=>hk.2) (.int .i64 d2)) (fun _ hk=>hk.2) (.int .i64 d4)) (fun _ hk=>hk.1.1)⟩
 have I8:Aside0 (Kd.R (Kd.int .i64) 3 ((((p7.setCell ⟨b7,0,none⟩ (.int .i64 d3)).setCell ⟨b7,1,none⟩ (.int .i64 d5)).setCell ⟨b8,0,none⟩ (.int .i64 d2)).setCell ⟨b8,1,none⟩ (.int .i64 d4)) w.heap.size (fun k_=>some k_ ≠ (.slice h1 d6.length h2:Value).ownBlock) (.slice (some b5) b4.length e9) b4):=⟨by (with_reducible repeat (first | apply Kd.R_alloc | apply Kd.R_drewN | apply Kd.R_drew));exact Kd.R_mono (Kd.R_far (p:=⟨b8,1,none⟩) (Kd.R_far (p:=⟨b8,0,none⟩) (Kd.R_far (p:=⟨b7,1,none⟩) (Kd.R_far (p:=⟨b7,0,none⟩) (Kd.R_types (Kd.R_types b0.out b2.out (by decide)) b3.out (by decide)) (fun _ hk=>hk.1.2) (.int .i64 d3)) (fun _ hk=>hk.1.2) (.int .i64 d5)) (fun _ hk=>hk.2) (.int .i64 d2)) (fun _ hk=>hk.2) (.int .i64 d4)) (fun _ hk=>hk.1.1)⟩
 have I9:Aside0 (((((p7.setCell ⟨b7,0,none⟩ (.int .i64 d3)).setCell ⟨b7,1,none⟩ (.int .i64 d5)).setCell ⟨b8,0,none⟩ (.int .i64 d2)).setCell ⟨b8,1,none⟩ (.int .i64 d4)).heap[b7]? = some (.cells #[.int .i64 d3,.int .i64 d5] 23 (0,0))):=⟨by (with_reducible repeat (first | refine blk_drewN ?_ _ | refine blk_drew ?_ | refine blk_alloc ?_ _));refine blk_far ?_ h4.out _;(with_reducible repeat (first | refine blk_drewN ?_ _ | refine blk_drew ?_ | refine blk_alloc ?_ _));refine blk_far ?_ h4.out _;(with_reducible repeat (first | refine blk_drewN ?_ _ | refine blk_drew ?_ | refine blk_alloc ?_ _));refine blk_put (cs:=#[.int .i64 d3,.int .i64 0]) ?_ 1 _ rfl;(with_reducible repeat (first | refine blk_drewN ?_ _ | refine blk_drew ?_ | refine blk_alloc ?_ _));refine blk_put (cs:=#[.int .i64 0,.int .i64 0]) ?_ 0 _ rfl;(with_reducible repeat (first | refine blk_drewN ?_ _ | refine blk_drew ?_ | refine blk_alloc ?_ _));exact b2.out⟩
 have J0:Aside0 (((((p7.setCell ⟨b7,0,none⟩ (.int .i64 d3)).setCell ⟨b7,1,none⟩ (.int .i64 d5)).setCell ⟨b8,0,none⟩ (.int .i64 d2)).setCell ⟨b8,1,none⟩ (.int .i64 d4)).heap[b8]? = some (.cells #[.int .i64 d2,.int .i64 d4] 23 (0,0))):=⟨by (with_reducible repeat (first | refine blk_drewN ?_ _ | refine blk_drew ?_ | refine blk_alloc ?_ _));refine blk_put (cs:=#[.int .i64 d2,.int .i64 0]) ?_ 1 _ rfl;(with_reducible repeat (first | refine blk_drewN ?_ _ | refine blk_drew ?_ | refine blk_alloc ?_ _));refine blk_put (cs:=#[.int .i64 0,.int .i64 0]) ?_ 0 _ rfl;(with_reducible repeat (first | refine blk_drewN ?_ _ | refine blk_drew ?_ | refine blk_alloc ?_ _));refine blk_far ?_ h3.out _;(with_reducible repeat (first | refine blk_drewN ?_ _ | refine blk_drew ?_ | refine blk_alloc ?_ _));refine blk_far ?_ h3.out _;(with_reducible repeat (first | refine blk_drewN ?_ _ | refine blk_drew ?_ | refine blk_alloc ?_ _));exact b3.out⟩
 have J1:Aside0 (Below w.heap.size w ((((p7.setCell ⟨b7,0,none⟩ (.int .i64 d3)).setCell ⟨b7,1,none⟩ (.int .i64 d5)).setCell ⟨b8,0,none⟩ (.int .i64 d2)).setCell ⟨b8,1,none⟩ (.int .i64 d4))):=⟨bl HB⟩
 generalize ((((p7.setCell ⟨b7,0,none⟩ (.int .i64 d3)).setCell ⟨b7,1,none⟩ (.int .i64 d5)).setCell ⟨b8,0,none⟩ (.int .i64 d2)).setCell ⟨b8,1,none⟩ (.int .i64 d4)) = O1 at I7 I8 I9 J0 J1 ⊢
 have b6:=I7
 have b0:=I8
 have b2:=I9
 have b3:=J0
 have HB:=J1
 clear I7 I8 I9 J0 J1
 replace b6:=rD b6
 replace b0:=rD b0
 replace b2:=kD b2
 replace b3:=kD b3
 replace HB:=bD HB
 have x9:0 ≤ (1:Int):=(by omega)
 have y7:1 < (b4.length:Int):=of_decide_eq_true (by first | (with_reducible assumption) | assumption)
 obtain ⟨A6,J2,o0⟩:=Kd.at_int (Kd.R_reads' b0.out).2.2 1 x9 y7
 obtain rfl:b5 = A6:=(by injection J2)
 (try simp only [show (1:Int).toNat = 1 from rfl,Nat.reduceMul,Nat.reduceEqDiff,Go.Addr.add,↓reduceIte] at o0)
 have K4:(1 < b4.length) = True:=eq_true (by omega)
 (try rw [show ((1:Int)).toNat = 1 from rfl] at o0)
 replace x9:=eq_true x9
 replace y7:=eq_true y7
 have y8:0 ≤ (0:Int):=(by omega)
 have y9:0 < (b4.length:Int):=of_decide_eq_true (by first | (with_reducible assumption) | assumption)
 obtain ⟨B0,J3,o1⟩:=Kd.at_int (Kd.R_reads' b0.out).2.2 0 y8 y9
 obtain rfl:b5 = B0:=(by injection J3)
 have K5:(0 < b4.length) = True:=eq_true (by omega)
 (try rw [show ((0:Int)).toNat = 0 from rfl] at o1)
 (try rw [Addr.add_zero'] at o1)
 replace y8:=eq_true y8
 replace y9:=eq_true y9
 refine start_ (n:=17) (S:=fun w'=>w'.cell? ⟨b5.block,b5.off + 1,none⟩ = some (.int .i64 (rd b4 1)) ∧ w'.cell? b5 = some (.int .i64 (rd b4 0))) (ds:=[]) (ba 17 0) (by kernel_rfl) rfl rfl ⟨o0,o1⟩ (fun hHeld=>?_);refine with_tabW numnahlaw07_SharesTwo.tab3 numnahlaw07_SharesTwo.bits3 (fun HT_ HW_=>?_)
 generalize O1.drew = Q7 at b6 b0 b2 b3 HB o0 o1 hHeld ⊢
 refine pq 0 37 1 HT_ ?_
 refine pq 1 38 3 HT_ ?_
 refine pq 2 39 7 HT_ ?_
 refine pq 4 41 23 HT_ ?_
 refine pq 5 42 55 HT_ ?_
 refine tq 3 40 63 HT_ HW_ hHeld ?_
 refine tq 6 43 127 HT_ HW_ hHeld ?_
 refine join_ (σ:=Nat × Nat) 3 (ba 17 16383) (fun s_=>[(44,.tuple #[.agg #[.int .i64 i0,.int .i64 i3],.agg #[.int .i64 h9,.int .i64 i2],.int .i64 j8]),(11,.pointer (some ⟨s_.1,0,none⟩)),(12,.pointer (some ⟨s_.2,0,none⟩)),(36,.tuple #[.agg #[.int .i64 i0,.int .i64 i3],.agg #[.int .i64 h9,.int .i64 i2],.int .i64 j8]),(45,.agg #[.int .i64 i0,.int .i64 i3]),(46,.agg #[.int .i64 h9,.int .i64 i2]),(47,.int .i64 j8)]) (fun s_ w'=>(w'.cell? ⟨b5.block,b5.off + 1,none⟩ = some (.int .i64 (rd b4 1)) ∧ w'.cell? b5 = some (.int .i64 (rd b4 0))) ∧ (Kd.R (Kd.int .i64) 3 w' w.heap.size (fun k_=>some k_ ≠ (.slice (some b5) b4.length e9:Value).ownBlock) (.slice h1 d6.length h2) d6) ∧ (Kd.R (Kd.int .i64) 3 w' w.heap.size (fun k_=>some k_ ≠ (.slice h1 d6.length h2:Value).ownBlock) (.slice (some b5) b4.length e9) b4) ∧ (w'.heap[b7]? = some (.cells #[.int .i64 d3,.int .i64 d5] 23 (0,0))) ∧ (w'.heap[b8]? = some (.cells #[.int .i64 d2,.int .i64 d4] 23 (0,0))) ∧ (w'.heap[s_.1]? = some (.cells #[.int .i64 0,.int .i64 0] 23 (0,0))) ∧ (w'.heap[s_.2]? = some (.cells #[.int .i64 0,.int .i64 0] 23 (0,0))) ∧ (w.heap.size ≤ s_.1) ∧ (w.heap.size ≤ s_.1) ∧ (b7 ≠ s_.1) ∧ (s_.1 ≠ b7) ∧ (b8 ≠ s_.1) ∧ (s_.1 ≠ b8) ∧ (s_.2 ≠ s_.1) ∧ (s_.1 ≠ s_.2) ∧ (w.heap.size ≤ s_.2) ∧ (w.heap.size ≤ s_.2) ∧ (b7 ≠ s_.2) ∧ (s_.2 ≠ b7) ∧ (b8 ≠ s_.2) ∧ (s_.2 ≠ b8) ∧ (Below w.heap.size w w')) ?_ ?_
 rotate_left
 ·intro j5
  refine join_ (σ:=Nat) 4 (ba 17 8191) (fun s_=>[(44,.tuple #[.agg #[.int .i64 i0,.int .i64 i3],.agg #[.int .i64 h9,.int .i64 i2],.int .i64 j8]),(11,.pointer (some ⟨s_,0,none⟩)),(36,.tuple #[.agg #[.int .i64 i0,.int .i64 i3],.agg #[.int .i64 h9,.int .i64 i2],.int .i64 j8]),(45,.agg #[.int .i64 i0,.int .i64 i3]),(46,.agg #[.int .i64 h9,.int .i64 i2]),(47,.int .i64 j8)]) (fun s_ w'=>(w'.cell? ⟨b5.block,b5.off + 1,none⟩ = some (.int .i64 (rd b4 1)) ∧ w'.cell? b5 = some (.int .i64 (rd b4 0))) ∧ (Kd.R (Kd.int .i64) 3 w' w.heap.size (fun k_=>some k_ ≠ (.slice (some b5) b4.length e9:Value).ownBlock) (.slice h1 d6.length h2) d6) ∧ (Kd.R (Kd.int .i64) 3 w' w.heap.size (fun k_=>some k_ ≠ (.slice h1 d6.length h2:Value).ownBlock) (.slice (some b5) b4.length e9) b4) ∧ (w'.heap[b7]? = some (.cells #[.int .i64 d3,.int .i64 d5] 23 (0,0))) ∧ (w'.heap[b8]? = some (.cells #[.int .i64 d2,.int .i64 d4] 23 (0,0))) ∧ (w'.heap[s_]? = some (.cells #[.int .i64 0,.int .i64 0] 23 (0,0))) ∧ (w.heap.size ≤ s_) ∧ (w.heap.size ≤ s_) ∧ (b7 ≠ s_) ∧ (s_ ≠ b7) ∧ (b8 ≠ s_) ∧ (s_ ≠ b8) ∧ (Below w.heap.size w w')) ?_ ?_
  rotate_left
  ·intro o4
   refine join_ (σ:=Nat) 4 (ba 17 12287) (fun s_=>[(44,.tuple #[.agg #[.int .i64 i0,.int .i64 i3],.agg #[.int .i64 h9,.int .i64 i2],.int .i64 j8]),(12,.pointer (some ⟨s_,0,none⟩)),(36,.tuple #[.agg #[.int .i64 i0,.int .i64 i3],.agg #[.int .i64 h9,.int .i64 i2],.int .i64 j8]),(45,.agg #[.int .i64 i0,.int .i64 i3]),(46,.agg #[.int .i64 h9,.int .i64 i2]),(47,.int .i64 j8)]) (fun s_ w'=>(w'.cell? ⟨b5.block,b5.off + 1,none⟩ = some (.int .i64 (rd b4 1)) ∧ w'.cell? b5 = some (.int .i64 (rd b4 0))) ∧ (Kd.R (Kd.int .i64) 3 w' w.heap.size (fun k_=>some k_ ≠ (.slice (some b5) b4.length e9:Value).ownBlock) (.slice h1 d6.length h2) d6) ∧ (Kd.R (Kd.int .i64) 3 w' w.heap.size (fun k_=>some k_ ≠ (.slice h1 d6.length h2:Value).ownBlock) (.slice (some b5) b4.length e9) b4) ∧ (w'.heap[b7]? = some (.cells #[.int .i64 d3,.int .i64 d5] 23 (0,0))) ∧ (w'.heap[b8]? = some (.cells #[.int .i64 d2,.int .i64 d4] 23 (0,0))) ∧ (w'.heap[s_]? = some (.cells #[.int .i64 0,.int .i64 0] 23 (0,0))) ∧ (w.heap.size ≤ s_) ∧ (w.heap.size ≤ s_) ∧ (b7 ≠ s_) ∧ (s_ ≠ b7) ∧ (b8 ≠ s_) ∧ (s_ ≠ b8) ∧ (Below w.heap.size w w')) ?_ ?_
   rotate_left
   ·intro o5
    refine join_ (σ:=Nat × Nat) 8 (ba 17 12415) (fun s_=>[(11,.pointer (some ⟨s_.1,0,none⟩)),(12,.pointer (some ⟨s_.2,0,none⟩))]) (fun s_ w'=>(w'.cell? ⟨b5.block,b5.off + 1,none⟩ = some (.int .i64 (rd b4 1)) ∧ w'.cell? b5 = some (.int .i64 (rd b4 0))) ∧ (Kd.R (Kd.int .i64) 3 w' w.heap.size (fun k_=>some k_ ≠ (.slice (some b5) b4.length e9:Value).ownBlock) (.slice h1 d6.length h2) d6) ∧ (Kd.R (Kd.int .i64) 3 w' w.heap.size (fun k_=>some k_ ≠ (.slice h1 d6.length h2:Value).ownBlock) (.slice (some b5) b4.length e9) b4) ∧ (w'.heap[b7]? = some (.cells #[.int .i64 d3,.int .i64 d5] 23 (0,0))) ∧ (w'.heap[b8]? = some (.cells #[.int .i64 d2,.int .i64 d4] 23 (0,0))) ∧ (w'.heap[s_.1]? = some (.cells #[.int .i64 0,.int .i64 0] 23 (0,0))) ∧ (w'.heap[s_.2]? = some (.cells #[.int .i64 0,.int .i64 0] 23 (0,0))) ∧ (w.heap.size ≤ s_.1) ∧ (w.heap.size ≤ s_.1) ∧ (b7 ≠ s_.1) ∧ (s_.1 ≠ b7) ∧ (b8 ≠ s_.1) ∧ (s_.1 ≠ b8) ∧ (s_.2 ≠ s_.1) ∧ (s_.1 ≠ s_.2) ∧ (w.heap.size ≤ s_.2) ∧ (w.heap.size ≤ s_.2) ∧ (b7 ≠ s_.2) ∧ (s_.2 ≠ b7) ∧ (b8 ≠ s_.2) ∧ (s_.2 ≠ b8) ∧ (Below w.heap.size w w')) ?_ ?_
    rotate_left
    ·intro n4
     refine join_ (σ:=Unit) 5 (ba 17 4095) (fun s_=>[(44,.tuple #[.agg #[.int .i64 i0,.int .i64 i3],.agg #[.int .i64 h9,.int .i64 i2],.int .i64 j8]),(36,.tuple #[.agg #[.int .i64 i0,.int .i64 i3],.agg #[.int .i64 h9,.int .i64 i2],.int .i64 j8]),(45,.agg #[.int .i64 i0,.int .i64 i3]),(46,.agg #[.int .i64 h9,.int .i64 i2]),(47,.int .i64 j8)]) (fun s_ w'=>(w'.cell? ⟨b5.block,b5.off + 1,none⟩ = some (.int .i64 (rd b4 1)) ∧ w'.cell? b5 = some (.int .i64 (rd b4 0))) ∧ (Kd.R (Kd.int .i64) 3 w' w.heap.size (fun k_=>some k_ ≠ (.slice (some b5) b4.length e9:Value).ownBlock) (.slice h1 d6.length h2) d6) ∧ (Kd.R (Kd.int .i64) 3 w' w.heap.size (fun k_=>some k_ ≠ (.slice h1 d6.length h2:Value).ownBlock) (.slice (some b5) b4.length e9) b4) ∧ (w'.heap[b7]? = some (.cells #[.int .i64 d3,.int .i64 d5] 23 (0,0))) ∧ (w'.heap[b8]? = some (.cells #[.int .i64 d2,.int .i64 d4] 23 (0,0))) ∧ (Below w.heap.size w w')) ?_ ?_
     rotate_left
     ·intro I6
      refine join_ (σ:=Nat) 9 (ba 17 4223) (fun s_=>[(11,.pointer (some ⟨s_,0,none⟩))]) (fun s_ w'=>(w'.cell? ⟨b5.block,b5.off + 1,none⟩ = some (.int .i64 (rd b4 1)) ∧ w'.cell? b5 = some (.int .i64 (rd b4 0))) ∧ (Kd.R (Kd.int .i64) 3 w' w.heap.size (fun k_=>some k_ ≠ (.slice (some b5) b4.length e9:Value).ownBlock) (.slice h1 d6.length h2) d6) ∧ (Kd.R (Kd.int .i64) 3 w' w.heap.size (fun k_=>some k_ ≠ (.slice h1 d6.length h2:Value).ownBlock) (.slice (some b5) b4.length e9) b4) ∧ (w'.heap[b7]? = some (.cells #[.int .i64 d3,.int .i64 d5] 23 (0,0))) ∧ (w'.heap[b8]? = some (.cells #[.int .i64 d2,.int .i64 d4] 23 (0,0))) ∧ (w'.heap[s_]? = some (.cells #[.int .i64 0,.int .i64 0] 23 (0,0))) ∧ (w.heap.size ≤ s_) ∧ (w.heap.size ≤ s_) ∧ (b7 ≠ s_) ∧ (s_ ≠ b7) ∧ (b8 ≠ s_) ∧ (s_ ≠ b8) ∧ (Below w.heap.size w w')) ?_ ?_
      rotate_left
      ·intro x6
       refine join_ (σ:=Nat) 9 (ba 17 8319) (fun s_=>[(12,.pointer (some ⟨s_,0,none⟩))]) (fun s_ w'=>(w'.cell? ⟨b5.block,b5.off + 1,none⟩ = some (.int .i64 (rd b4 1)) ∧ w'.cell? b5 = some (.int .i64 (rd b4 0))) ∧ (Kd.R (Kd.int .i64) 3 w' w.heap.size (fun k_=>some k_ ≠ (.slice (some b5) b4.length e9:Value).ownBlock) (.slice h1 d6.length h2) d6) ∧ (Kd.R (Kd.int .i64) 3 w' w.heap.size (fun k_=>some k_ ≠ (.slice h1 d6.length h2:Value).ownBlock) (.slice (some b5) b4.length e9) b4) ∧ (w'.heap[b7]? = some (.cells #[.int .i64 d3,.int .i64 d5] 23 (0,0))) ∧ (w'.heap[b8]? = some (.cells #[.int .i64 d2,.int .i64 d4] 23 (0,0))) ∧ (w'.heap[s_]? = some (.cells #[.int .i64 0,.int .i64 0] 23 (0,0))) ∧ (w.heap.size ≤ s_) ∧ (w.heap.size ≤ s_) ∧ (b7 ≠ s_) ∧ (s_ ≠ b7) ∧ (b8 ≠ s_) ∧ (s_ ≠ b8) ∧ (Below w.heap.size w w')) ?_ ?_
       rotate_left
       ·intro x8
        refine three_ (i:=7) (j:=12) (k:=13) (Ni:=some 44) (Nj:=some 11) (Nk:=some 12) (ba 17 255) (ba 17 4223) (ba 17 8319) rfl rfl rfl rfl rfl rfl (three_of HT_.out (by kernel_rfl)) (by decide) (by decide) (by decide) (fun K hK=>?_) (fun K hK=>?_) (fun K hK=>?_)
        ·skip
         refine gq Try.func20 #[.int .i64 e2,.int .i64 (rd b4 1),.int .i64 (rd b4 0)] ?_
         with_reducible refine (shares_Garment.calls k e2 (rd b4 1) (rd b4 0) i0 i3 h9 i2 j8 _ A8.out).mono ?_
         rintro e K6 ⟨rfl,hb⟩
         have j9:=(hb.cell (World.block_lt_of_cell? _ _ (hHeld.1))).trans (hHeld.1)
         have l5:=(hb.cell (World.block_lt_of_cell? _ _ (hHeld.2))).trans (hHeld.2)
         refine ⟨_,rfl,?_⟩
         replace b6:=rB b6 hb
         replace b0:=rB b0 hb
         replace b2:=kB b2 hb
         replace b3:=kB b3 hb
         replace HB:=bB HB hb
         (try clear hb)
         refine hz hK (fun hHeld=>?_)
         clear hK K
         refine nq 44 ?_
         refine pq 8 36 511 HT_ ?_
         refine pq 9 45 1023 HT_ ?_
         refine pq 10 46 2047 HT_ ?_
         refine pq 11 47 4095 HT_ ?_
         exact norm_ (by first | (simp only [putAll,Act.put,List.setIfInBounds_toArray,List.set_cons_zero,List.set_cons_succ];done) | (simp only [putAll,Act.put,List.setIfInBounds_toArray,List.set_cons_zero,List.set_cons_succ];rfl)) (I6 () _ ⟨hHeld,(rs b6),(rs b0),(kb b2),(kb b3),(bl HB)⟩)
        ·skip
         refine box_step ?hg (N:=11) ?hd (cs:=#[.int .i64 0,.int .i64 0]) (t:=23) ?hr ?_;(case hd=>rfl);(case hg=>rfl);(case hr=>first | (go_simp;done) | (go_simp;rfl))
         intro d1 hg K6 hbox hb
         have j9:=(hb.cell (World.block_lt_of_cell? _ _ (hHeld.1))).trans (hHeld.1)
         have l5:=(hb.cell (World.block_lt_of_cell? _ _ (hHeld.2))).trans (hHeld.2)
         have b9:=A_ hbox
         have i6:=gw hg HB
         have l9:=i6
         have d8:=nl hg b2
         have e5:=ng hg b2
         have d9:=nl hg b3
         have e6:=ng hg b3
         replace b6:=rB b6 hb
         replace b0:=rB b0 hb
         replace b2:=kB b2 hb
         replace b3:=kB b3 hb
         replace HB:=bB HB hb
         clear hb hbox hg
         refine hz hK (fun hHeld=>?_)
         clear hK K
         refine nq 11 ?_
         exact norm_ (by first | (simp only [putAll,Act.put,List.setIfInBounds_toArray,List.set_cons_zero,List.set_cons_succ];done) | (simp only [putAll,Act.put,List.setIfInBounds_toArray,List.set_cons_zero,List.set_cons_succ];rfl)) (x6 (d1) _ ⟨hHeld,(rs b6),(rs b0),(kb b2),(kb b3),(kb b9),i6.out,l9.out,d8.out,e5.out,d9.out,e6.out,(bl HB)⟩)
        skip
        refine box_step ?hg (N:=12) ?hd (cs:=#[.int .i64 0,.int .i64 0]) (t:=23) ?hr ?_;(case hd=>rfl);(case hg=>rfl);(case hr=>first | (go_simp;done) | (go_simp;rfl))
        intro d0 hg K6 hbox hb
        have j9:=(hb.cell (World.block_lt_of_cell? _ _ (hHeld.1))).trans (hHeld.1)
        have l5:=(hb.cell (World.block_lt_of_cell? _ _ (hHeld.2))).trans (hHeld.2)
        have c0:=A_ hbox
        have i7:=gw hg HB
        have m0:=i7
        have e0:=nl hg b2
        have e7:=ng hg b2
        have e1:=nl hg b3
        have e8:=ng hg b3
        replace b6:=rB b6 hb
        replace b0:=rB b0 hb
        replace b2:=kB b2 hb
        replace b3:=kB b3 hb
        replace HB:=bB HB hb
        clear hb hbox hg
        refine hz hK (fun hHeld=>?_)
        clear hK K
        refine nq 12 ?_
        exact norm_ (by first | (simp only [putAll,Act.put,List.setIfInBounds_toArray,List.set_cons_zero,List.set_cons_succ];done) | (simp only [putAll,Act.put,List.setIfInBounds_toArray,List.set_cons_zero,List.set_cons_succ];rfl)) (x8 (d0) _ ⟨hHeld,(rs b6),(rs b0),(kb b2),(kb b3),(kb c0),i7.out,m0.out,e0.out,e7.out,e1.out,e8.out,(bl HB)⟩)
       skip
       rintro d0 n7 ⟨hS_,m2,m3,m4,m6,m7,m9,o6,o7,o8,o9,l8,n0⟩
       have c0:Aside0 (n7.heap[d0]? = some (.cells #[.int .i64 0,.int .i64 0] 23 (0,0))):=⟨m7⟩
       have i7:Aside0 (w.heap.size ≤ d0):=⟨m9⟩
       have m0:Aside0 (w.heap.size ≤ d0):=⟨o6⟩
       have e0:Aside0 (b7 ≠ d0):=⟨o7⟩
       have e7:Aside0 (d0 ≠ b7):=⟨o8⟩
       have e1:Aside0 (b8 ≠ d0):=⟨o9⟩
       have e8:Aside0 (d0 ≠ b8):=⟨l8⟩
       replace b6:Aside0 (Kd.R (Kd.int .i64) 3 n7 w.heap.size (fun k_=>some k_ ≠ (.slice (some b5) b4.length e9:Value).ownBlock) (.slice h1 d6.length h2) d6):=⟨m2⟩
       replace b0:Aside0 (Kd.R (Kd.int .i64) 3 n7 w.heap.size (fun k_=>some k_ ≠ (.slice h1 d6.length h2:Value).ownBlock) (.slice (some b5) b4.length e9) b4):=⟨m3⟩
       replace b2:Aside0 (n7.heap[b7]? = some (.cells #[.int .i64 d3,.int .i64 d5] 23 (0,0))):=⟨m4⟩
       replace b3:Aside0 (n7.heap[b8]? = some (.cells #[.int .i64 d2,.int .i64 d4] 23 (0,0))):=⟨m6⟩
       replace HB:Aside0 (Below w.heap.size w n7):=⟨n0⟩
       clear m2 m3 m4 m6 m7 m9 o6 o7 o8 o9 l8 n0
       have hHeld:n7.cell? ⟨b5.block,b5.off + 1,none⟩ = some (.int .i64 (rd b4 1)) ∧ n7.cell? b5 = some (.int .i64 (rd b4 0)):=hS_
       refine norm_ (a':=?_) ?_ ?_
       rotate_left
       ·simp only [putAll,Act.put,List.setIfInBounds_toArray,List.set_cons_zero,List.set_cons_succ]
        rfl
       refine two_ (i:=7) (j:=12) (Ni:=some 44) (Nj:=some 11) (ba 17 8447) (ba 17 12415) rfl rfl rfl rfl (two_of HT_.out (by kernel_rfl)) (by decide) (by decide) (fun K hK=>?_) (fun K hK=>?_)
       ·skip
        refine gq Try.func20 #[.int .i64 e2,.int .i64 (rd b4 1),.int .i64 (rd b4 0)] ?_
        with_reducible refine (shares_Garment.calls k e2 (rd b4 1) (rd b4 0) i0 i3 h9 i2 j8 _ A8.out).mono ?_
        rintro e n2 ⟨rfl,hb⟩
        have j9:=(hb.cell (World.block_lt_of_cell? _ _ (hHeld.1))).trans (hHeld.1)
        have l5:=(hb.cell (World.block_lt_of_cell? _ _ (hHeld.2))).trans (hHeld.2)
        refine ⟨_,rfl,?_⟩
        replace b6:=rB b6 hb
        replace b0:=rB b0 hb
        replace b2:=kB b2 hb
        replace b3:=kB b3 hb
        replace c0:=kB c0 hb
        replace HB:=bB HB hb
        (try clear hb)
        refine hz hK (fun hHeld=>?_)
        clear hK K
        refine nq 44 ?_
        refine pq 8 36 8703 HT_ ?_
        refine pq 9 45 9215 HT_ ?_
        refine pq 10 46 10239 HT_ ?_
        refine pq 11 47 12287 HT_ ?_
        exact norm_ (by first | (simp only [putAll,Act.put,List.setIfInBounds_toArray,List.set_cons_zero,List.set_cons_succ];done) | (simp only [putAll,Act.put,List.setIfInBounds_toArray,List.set_cons_zero,List.set_cons_succ];rfl)) (o5 (d0) _ ⟨hHeld,(rs b6),(rs b0),(kb b2),(kb b3),(kb c0),i7.out,m0.out,e0.out,e7.out,e1.out,e8.out,(bl HB)⟩)
       skip
       refine box_step ?hg (N:=11) ?hd (cs:=#[.int .i64 0,.int .i64 0]) (t:=23) ?hr ?_;(case hd=>rfl);(case hg=>rfl);(case hr=>first | (go_simp;done) | (go_simp;rfl))
       intro d1 hg n2 hbox hb
       have j9:=(hb.cell (World.block_lt_of_cell? _ _ (hHeld.1))).trans (hHeld.1)
       have l5:=(hb.cell (World.block_lt_of_cell? _ _ (hHeld.2))).trans (hHeld.2)
       have b9:=A_ hbox
       have i6:=gw hg HB
       have l9:=i6
       have d8:=nl hg b2
       have e5:=ng hg b2
       have d9:=nl hg b3
       have e6:=ng hg b3
       have e3:=nl hg c0
       have e4:=ng hg c0
       replace b6:=rB b6 hb
       replace b0:=rB b0 hb
       replace b2:=kB b2 hb
       replace b3:=kB b3 hb
       replace c0:=kB c0 hb
       replace HB:=bB HB hb
       clear hb hbox hg
       refine hz hK (fun hHeld=>?_)
       clear hK K
       refine nq 11 ?_
       exact norm_ (by first | (simp only [putAll,Act.put,List.setIfInBounds_toArray,List.set_cons_zero,List.set_cons_succ];done) | (simp only [putAll,Act.put,List.setIfInBounds_toArray,List.set_cons_zero,List.set_cons_succ];rfl)) (n4 (d1,d0) _ ⟨hHeld,(rs b6),(rs b0),(kb b2),(kb b3),(kb b9),(kb c0),i6.out,l9.out,d8.out,e5.out,d9.out,e6.out,e3.out,e4.out,i7.out,m0.out,e0.out,e7.out,e1.out,e8.out,(bl HB)⟩)
      skip
      rintro d1 n7 ⟨hS_,m2,m3,m4,m6,m7,m9,o6,o7,o8,o9,l8,n0⟩
      have b9:Aside0 (n7.heap[d1]? = some (.cells #[.int .i64 0,.int .i64 0] 23 (0,0))):=⟨m7⟩
      have i6:Aside0 (w.heap.size ≤ d1):=⟨m9⟩
      have l9:Aside0 (w.heap.size ≤ d1):=⟨o6⟩
      have d8:Aside0 (b7 ≠ d1):=⟨o7⟩
      have e5:Aside0 (d1 ≠ b7):=⟨o8⟩
      have d9:Aside0 (b8 ≠ d1):=⟨o9⟩
      have e6:Aside0 (d1 ≠ b8):=⟨l8⟩
      replace b6:Aside0 (Kd.R (Kd.int .i64) 3 n7 w.heap.size (fun k_=>some k_ ≠ (.slice (some b5) b4.length e9:Value).ownBlock) (.slice h1 d6.length h2) d6):=⟨m2⟩
      replace b0:Aside0 (Kd.R (Kd.int .i64) 3 n7 w.heap.size (fun k_=>some k_ ≠ (.slice h1 d6.length h2:Value).ownBlock) (.slice (some b5) b4.length e9) b4):=⟨m3⟩
      replace b2:Aside0 (n7.heap[b7]? = some (.cells #[.int .i64 d3,.int .i64 d5] 23 (0,0))):=⟨m4⟩
      replace b3:Aside0 (n7.heap[b8]? = some (.cells #[.int .i64 d2,.int .i64 d4] 23 (0,0))):=⟨m6⟩
      replace HB:Aside0 (Below w.heap.size w n7):=⟨n0⟩
      clear m2 m3 m4 m6 m7 m9 o6 o7 o8 o9 l8 n0
      have hHeld:n7.cell? ⟨b5.block,b5.off + 1,none⟩ = some (.int .i64 (rd b4 1)) ∧ n7.cell? b5 = some (.int .i64 (rd b4 0)):=hS_
      refine norm_ (a':=?_) ?_ ?_
      rotate_left
      ·simp only [putAll,Act.put,List.setIfInBounds_toArray,List.set_cons_zero,List.set_cons_succ]
       rfl
      refine two_ (i:=7) (j:=13) (Ni:=some 44) (Nj:=some 12) (ba 17 4351) (ba 17 12415) rfl rfl rfl rfl (two_of HT_.out (by kernel_rfl)) (by decide) (by decide) (fun K hK=>?_) (fun K hK=>?_)
      ·skip
       refine gq Try.func20 #[.int .i64 e2,.int .i64 (rd b4 1),.int .i64 (rd b4 0)] ?_
       with_reducible refine (shares_Garment.calls k e2 (rd b4 1) (rd b4 0) i0 i3 h9 i2 j8 _ A8.out).mono ?_
       rintro e n2 ⟨rfl,hb⟩
       have j9:=(hb.cell (World.block_lt_of_cell? _ _ (hHeld.1))).trans (hHeld.1)
       have l5:=(hb.cell (World.block_lt_of_cell? _ _ (hHeld.2))).trans (hHeld.2)
       refine ⟨_,rfl,?_⟩
       replace b6:=rB b6 hb
       replace b0:=rB b0 hb
       replace b2:=kB b2 hb
       replace b3:=kB b3 hb
       replace b9:=kB b9 hb
       replace HB:=bB HB hb
       (try clear hb)
       refine hz hK (fun hHeld=>?_)
       clear hK K
       refine nq 44 ?_
       refine pq 8 36 4607 HT_ ?_
       refine pq 9 45 5119 HT_ ?_
       refine pq 10 46 6143 HT_ ?_
       refine pq 11 47 8191 HT_ ?_
       exact norm_ (by first | (simp only [putAll,Act.put,List.setIfInBounds_toArray,List.set_cons_zero,List.set_cons_succ];done) | (simp only [putAll,Act.put,List.setIfInBounds_toArray,List.set_cons_zero,List.set_cons_succ];rfl)) (o4 (d1) _ ⟨hHeld,(rs b6),(rs b0),(kb b2),(kb b3),(kb b9),i6.out,l9.out,d8.out,e5.out,d9.out,e6.out,(bl HB)⟩)
      skip
      refine box_step ?hg (N:=12) ?hd (cs:=#[.int .i64 0,.int .i64 0]) (t:=23) ?hr ?_;(case hd=>rfl);(case hg=>rfl);(case hr=>first | (go_simp;done) | (go_simp;rfl))
      intro d0 hg n2 hbox hb
      have j9:=(hb.cell (World.block_lt_of_cell? _ _ (hHeld.1))).trans (hHeld.1)
      have l5:=(hb.cell (World.block_lt_of_cell? _ _ (hHeld.2))).trans (hHeld.2)
      have c0:=A_ hbox
      have i7:=gw hg HB
      have m0:=i7
      have e0:=nl hg b2
      have e7:=ng hg b2
      have e1:=nl hg b3
      have e8:=ng hg b3
      have e4:=nl hg b9
      have e3:=ng hg b9
      replace b6:=rB b6 hb
      replace b0:=rB b0 hb
      replace b2:=kB b2 hb
      replace b3:=kB b3 hb
      replace b9:=kB b9 hb
      replace HB:=bB HB hb
      clear hb hbox hg
      refine hz hK (fun hHeld=>?_)
      clear hK K
      refine nq 12 ?_
      exact norm_ (by first | (simp only [putAll,Act.put,List.setIfInBounds_toArray,List.set_cons_zero,List.set_cons_succ];done) | (simp only [putAll,Act.put,List.setIfInBounds_toArray,List.set_cons_zero,List.set_cons_succ];rfl)) (n4 (d1,d0) _ ⟨hHeld,(rs b6),(rs b0),(kb b2),(kb b3),(kb b9),(kb c0),i6.out,l9.out,d8.out,e5.out,d9.out,e6.out,e3.out,e4.out,i7.out,m0.out,e0.out,e7.out,e1.out,e8.out,(bl HB)⟩)
     skip
     rintro _ n7 ⟨hS_,m2,m3,m4,m6,m7⟩
     replace b6:Aside0 (Kd.R (Kd.int .i64) 3 n7 w.heap.size (fun k_=>some k_ ≠ (.slice (some b5) b4.length e9:Value).ownBlock) (.slice h1 d6.length h2) d6):=⟨m2⟩
     replace b0:Aside0 (Kd.R (Kd.int .i64) 3 n7 w.heap.size (fun k_=>some k_ ≠ (.slice h1 d6.length h2:Value).ownBlock) (.slice (some b5) b4.length e9) b4):=⟨m3⟩
     replace b2:Aside0 (n7.heap[b7]? = some (.cells #[.int .i64 d3,.int .i64 d5] 23 (0,0))):=⟨m4⟩
     replace b3:Aside0 (n7.heap[b8]? = some (.cells #[.int .i64 d2,.int .i64 d4] 23 (0,0))):=⟨m6⟩
     replace HB:Aside0 (Below w.heap.size w n7):=⟨m7⟩
     clear m2 m3 m4 m6 m7
     have hHeld:n7.cell? ⟨b5.block,b5.off + 1,none⟩ = some (.int .i64 (rd b4 1)) ∧ n7.cell? b5 = some (.int .i64 (rd b4 0)):=hS_
     refine norm_ (a':=?_) ?_ ?_
     rotate_left
     ·simp only [putAll,Act.put,List.setIfInBounds_toArray,List.set_cons_zero,List.set_cons_succ]
      rfl
     refine two_ (i:=12) (j:=13) (Ni:=some 11) (Nj:=some 12) (ba 17 8191) (ba 17 12287) rfl rfl rfl rfl (two_of HT_.out (by kernel_rfl)) (by decide) (by decide) (fun K hK=>?_) (fun K hK=>?_)
     ·skip
      refine box_step ?hg (N:=11) ?hd (cs:=#[.int .i64 0,.int .i64 0]) (t:=23) ?hr ?_;(case hd=>rfl);(case hg=>rfl);(case hr=>first | (go_simp;done) | (go_simp;rfl))
      intro d1 hg n2 hbox hb
      have j9:=(hb.cell (World.block_lt_of_cell? _ _ (hHeld.1))).trans (hHeld.1)
      have l5:=(hb.cell (World.block_lt_of_cell? _ _ (hHeld.2))).trans (hHeld.2)
      have b9:=A_ hbox
      have i6:=gw hg HB
      have l9:=i6
      have d8:=nl hg b2
      have e5:=ng hg b2
      have d9:=nl hg b3
      have e6:=ng hg b3
      replace b6:=rB b6 hb
      replace b0:=rB b0 hb
      replace b2:=kB b2 hb
      replace b3:=kB b3 hb
      replace HB:=bB HB hb
      clear hb hbox hg
      refine hz hK (fun hHeld=>?_)
      clear hK K
      refine nq 11 ?_
      exact norm_ (by first | (simp only [putAll,Act.put,List.setIfInBounds_toArray,List.set_cons_zero,List.set_cons_succ];done) | (simp only [putAll,Act.put,List.setIfInBounds_toArray,List.set_cons_zero,List.set_cons_succ];rfl)) (o4 (d1) _ ⟨hHeld,(rs b6),(rs b0),(kb b2),(kb b3),(kb b9),i6.out,l9.out,d8.out,e5.out,d9.out,e6.out,(bl HB)⟩)
     skip
     refine box_step ?hg (N:=12) ?hd (cs:=#[.int .i64 0,.int .i64 0]) (t:=23) ?hr ?_;(case hd=>rfl);(case hg=>rfl);(case hr=>first | (go_simp;done) | (go_simp;rfl))
     intro d0 hg n2 hbox hb
     have j9:=(hb.cell (World.block_lt_of_cell? _ _ (hHeld.1))).trans (hHeld.1)
     have l5:=(hb.cell (World.block_lt_of_cell? _ _ (hHeld.2))).trans (hHeld.2)
     have c0:=A_ hbox
     have i7:=gw hg HB
     have m0:=i7
     have e0:=nl hg b2
     have e7:=ng hg b2
     have e1:=nl hg b3
     have e8:=ng hg b3
     replace b6:=rB b6 hb
     replace b0:=rB b0 hb
     replace b2:=kB b2 hb
     replace b3:=kB b3 hb
     replace HB:=bB HB hb
     clear hb hbox hg
     refine hz hK (fun hHeld=>?_)
     clear hK K
     refine nq 12 ?_
     exact norm_ (by first | (simp only [putAll,Act.put,List.setIfInBounds_toArray,List.set_cons_zero,List.set_cons_succ];done) | (simp only [putAll,Act.put,List.setIfInBounds_toArray,List.set_cons_zero,List.set_cons_succ];rfl)) (o5 (d0) _ ⟨hHeld,(rs b6),(rs b0),(kb b2),(kb b3),(kb c0),i7.out,m0.out,e0.out,e7.out,e1.out,e8.out,(bl HB)⟩)
    skip
    rintro ⟨d1,d0⟩ n2 ⟨hS_,m2,m3,m4,m6,m7,m9,o6,o7,o8,o9,l8,n0,r6,r7,r8,r9,s0,s1,s2,s3,s4⟩
    have b9:Aside0 (n2.heap[d1]? = some (.cells #[.int .i64 0,.int .i64 0] 23 (0,0))):=⟨m7⟩
    have c0:Aside0 (n2.heap[d0]? = some (.cells #[.int .i64 0,.int .i64 0] 23 (0,0))):=⟨m9⟩
    have i6:Aside0 (w.heap.size ≤ d1):=⟨o6⟩
    have l9:Aside0 (w.heap.size ≤ d1):=⟨o7⟩
    have d8:Aside0 (b7 ≠ d1):=⟨o8⟩
    have e5:Aside0 (d1 ≠ b7):=⟨o9⟩
    have d9:Aside0 (b8 ≠ d1):=⟨l8⟩
    have e6:Aside0 (d1 ≠ b8):=⟨n0⟩
    have e3:Aside0 (d0 ≠ d1):=⟨r6⟩
    have e4:Aside0 (d1 ≠ d0):=⟨r7⟩
    have i7:Aside0 (w.heap.size ≤ d0):=⟨r8⟩
    have m0:Aside0 (w.heap.size ≤ d0):=⟨r9⟩
    have e0:Aside0 (b7 ≠ d0):=⟨s0⟩
    have e7:Aside0 (d0 ≠ b7):=⟨s1⟩
    have e1:Aside0 (b8 ≠ d0):=⟨s2⟩
    have e8:Aside0 (d0 ≠ b8):=⟨s3⟩
    replace b6:Aside0 (Kd.R (Kd.int .i64) 3 n2 w.heap.size (fun k_=>some k_ ≠ (.slice (some b5) b4.length e9:Value).ownBlock) (.slice h1 d6.length h2) d6):=⟨m2⟩
    replace b0:Aside0 (Kd.R (Kd.int .i64) 3 n2 w.heap.size (fun k_=>some k_ ≠ (.slice h1 d6.length h2:Value).ownBlock) (.slice (some b5) b4.length e9) b4):=⟨m3⟩
    replace b2:Aside0 (n2.heap[b7]? = some (.cells #[.int .i64 d3,.int .i64 d5] 23 (0,0))):=⟨m4⟩
    replace b3:Aside0 (n2.heap[b8]? = some (.cells #[.int .i64 d2,.int .i64 d4] 23 (0,0))):=⟨m6⟩
    replace HB:Aside0 (Below w.heap.size w n2):=⟨s4⟩
    clear m2 m3 m4 m6 m7 m9 o6 o7 o8 o9 l8 n0 r6 r7 r8 r9 s0 s1 s2 s3 s4
    have hHeld:n2.cell? ⟨b5.block,b5.off + 1,none⟩ = some (.int .i64 (rd b4 1)) ∧ n2.cell? b5 = some (.int .i64 (rd b4 0)):=hS_
    refine norm_ (a':=?_) ?_ ?_
    rotate_left
    ·simp only [putAll,Act.put,List.setIfInBounds_toArray,List.set_cons_zero,List.set_cons_succ]
     rfl
    refine oq 7 44 12543 HT_ (fun K hK=>?_)
    refine gq Try.func20 #[.int .i64 e2,.int .i64 (rd b4 1),.int .i64 (rd b4 0)] ?_
    with_reducible refine (shares_Garment.calls k e2 (rd b4 1) (rd b4 0) i0 i3 h9 i2 j8 _ A8.out).mono ?_
    rintro e q2 ⟨rfl,hb⟩
    have j9:=(hb.cell (World.block_lt_of_cell? _ _ (hHeld.1))).trans (hHeld.1)
    have l5:=(hb.cell (World.block_lt_of_cell? _ _ (hHeld.2))).trans (hHeld.2)
    refine ⟨_,rfl,?_⟩
    replace b6:=rB b6 hb
    replace b0:=rB b0 hb
    replace b2:=kB b2 hb
    replace b3:=kB b3 hb
    replace b9:=kB b9 hb
    replace c0:=kB c0 hb
    replace HB:=bB HB hb
    (try clear hb)
    refine hz hK (fun hHeld=>?_)
    clear hK K
    refine nq 44 ?_
    refine pq 8 36 12799 HT_ ?_
    refine pq 9 45 13311 HT_ ?_
    refine pq 10 46 14335 HT_ ?_
    refine pq 11 47 16383 HT_ ?_
    exact norm_ (by first | (simp only [putAll,Act.put,List.setIfInBounds_toArray,List.set_cons_zero,List.set_cons_succ];done) | (simp only [putAll,Act.put,List.setIfInBounds_toArray,List.set_cons_zero,List.set_cons_succ];rfl)) (j5 (d1,d0) _ ⟨hHeld,(rs b6),(rs b0),(kb b2),(kb b3),(kb b9),(kb c0),i6.out,l9.out,d8.out,e5.out,d9.out,e6.out,e3.out,e4.out,i7.out,m0.out,e0.out,e7.out,e1.out,e8.out,(bl HB)⟩)
   skip
   rintro d0 n2 ⟨hS_,m2,m3,m4,m6,m7,m9,o6,o7,o8,o9,l8,n0⟩
   have c0:Aside0 (n2.heap[d0]? = some (.cells #[.int .i64 0,.int .i64 0] 23 (0,0))):=⟨m7⟩
   have i7:Aside0 (w.heap.size ≤ d0):=⟨m9⟩
   have m0:Aside0 (w.heap.size ≤ d0):=⟨o6⟩
   have e0:Aside0 (b7 ≠ d0):=⟨o7⟩
   have e7:Aside0 (d0 ≠ b7):=⟨o8⟩
   have e1:Aside0 (b8 ≠ d0):=⟨o9⟩
   have e8:Aside0 (d0 ≠ b8):=⟨l8⟩
   replace b6:Aside0 (Kd.R (Kd.int .i64) 3 n2 w.heap.size (fun k_=>some k_ ≠ (.slice (some b5) b4.length e9:Value).ownBlock) (.slice h1 d6.length h2) d6):=⟨m2⟩
   replace b0:Aside0 (Kd.R (Kd.int .i64) 3 n2 w.heap.size (fun k_=>some k_ ≠ (.slice h1 d6.length h2:Value).ownBlock) (.slice (some b5) b4.length e9) b4):=⟨m3⟩
   replace b2:Aside0 (n2.heap[b7]? = some (.cells #[.int .i64 d3,.int .i64 d5] 23 (0,0))):=⟨m4⟩
   replace b3:Aside0 (n2.heap[b8]? = some (.cells #[.int .i64 d2,.int .i64 d4] 23 (0,0))):=⟨m6⟩
   replace HB:Aside0 (Below w.heap.size w n2):=⟨n0⟩
   clear m2 m3 m4 m6 m7 m9 o6 o7 o8 o9 l8 n0
   have hHeld:n2.cell? ⟨b5.block,b5.off + 1,none⟩ = some (.int .i64 (rd b4 1)) ∧ n2.cell? b5 = some (.int .i64 (rd b4 0)):=hS_
   refine norm_ (a':=?_) ?_ ?_
   rotate_left
   ·simp only [putAll,Act.put,List.setIfInBounds_toArray,List.set_cons_zero,List.set_cons_succ]
    rfl
   refine oq 12 11 16383 HT_ (fun K hK=>?_)
   refine box_step ?hg (N:=11) ?hd (cs:=#[.int .i64 0,.int .i64 0]) (t:=23) ?hr ?_;(case hd=>rfl);(case hg=>rfl);(case hr=>first | (go_simp;done) | (go_simp;rfl))
   intro d1 hg q2 hbox hb
   have j9:=(hb.cell (World.block_lt_of_cell? _ _ (hHeld.1))).trans (hHeld.1)
   have l5:=(hb.cell (World.block_lt_of_cell? _ _ (hHeld.2))).trans (hHeld.2)
   have b9:=A_ hbox
   have i6:=gw hg HB
   have l9:=i6
   have d8:=nl hg b2
   have e5:=ng hg b2
   have d9:=nl hg b3
   have e6:=ng hg b3
   have e3:=nl hg c0
   have e4:=ng hg c0
   replace b6:=rB b6 hb
   replace b0:=rB b0 hb
   replace b2:=kB b2 hb
   replace b3:=kB b3 hb
   replace c0:=kB c0 hb
   replace HB:=bB HB hb
   clear hb hbox hg
   refine hz hK (fun hHeld=>?_)
   clear hK K
   refine nq 11 ?_
   exact norm_ (by first | (simp only [putAll,Act.put,List.setIfInBounds_toArray,List.set_cons_zero,List.set_cons_succ];done) | (simp only [putAll,Act.put,List.setIfInBounds_toArray,List.set_cons_zero,List.set_cons_succ];rfl)) (j5 (d1,d0) _ ⟨hHeld,(rs b6),(rs b0),(kb b2),(kb b3),(kb b9),(kb c0),i6.out,l9.out,d8.out,e5.out,d9.out,e6.out,e3.out,e4.out,i7.out,m0.out,e0.out,e7.out,e1.out,e8.out,(bl HB)⟩)
  skip
  rintro d1 n2 ⟨hS_,m2,m3,m4,m6,m7,m9,o6,o7,o8,o9,l8,n0⟩
  have b9:Aside0 (n2.heap[d1]? = some (.cells #[.int .i64 0,.int .i64 0] 23 (0,0))):=⟨m7⟩
  have i6:Aside0 (w.heap.size ≤ d1):=⟨m9⟩
  have l9:Aside0 (w.heap.size ≤ d1):=⟨o6⟩
  have d8:Aside0 (b7 ≠ d1):=⟨o7⟩
  have e5:Aside0 (d1 ≠ b7):=⟨o8⟩
  have d9:Aside0 (b8 ≠ d1):=⟨o9⟩
  have e6:Aside0 (d1 ≠ b8):=⟨l8⟩
  replace b6:Aside0 (Kd.R (Kd.int .i64) 3 n2 w.heap.size (fun k_=>some k_ ≠ (.slice (some b5) b4.length e9:Value).ownBlock) (.slice h1 d6.length h2) d6):=⟨m2⟩
  replace b0:Aside0 (Kd.R (Kd.int .i64) 3 n2 w.heap.size (fun k_=>some k_ ≠ (.slice h1 d6.length h2:Value).ownBlock) (.slice (some b5) b4.length e9) b4):=⟨m3⟩
  replace b2:Aside0 (n2.heap[b7]? = some (.cells #[.int .i64 d3,.int .i64 d5] 23 (0,0))):=⟨m4⟩
  replace b3:Aside0 (n2.heap[b8]? = some (.cells #[.int .i64 d2,.int .i64 d4] 23 (0,0))):=⟨m6⟩
  replace HB:Aside0 (Below w.heap.size w n2):=⟨n0⟩
  clear m2 m3 m4 m6 m7 m9 o6 o7 o8 o9 l8 n0
  have hHeld:n2.cell? ⟨b5.block,b5.off + 1,none⟩ = some (.int .i64 (rd b4 1)) ∧ n2.cell? b5 = some (.int .i64 (rd b4 0)):=hS_
  refine norm_ (a':=?_) ?_ ?_
  rotate_left
  ·simp only [putAll,Act.put,List.setIfInBounds_toArray,List.set_cons_zero,List.set_cons_succ]
   rfl
  refine oq 13 12 16383 HT_ (fun K hK=>?_)
  refine box_step ?hg (N:=12) ?hd (cs:=#[.int .i64 0,.int .i64 0]) (t:=23) ?hr ?_;(case hd=>rfl);(case hg=>rfl);(case hr=>first | (go_simp;done) | (go_simp;rfl))
  intro d0 hg q2 hbox hb
  have j9:=(hb.cell (World.block_lt_of_cell? _ _ (hHeld.1))).trans (hHeld.1)
  have l5:=(hb.cell (World.block_lt_of_cell? _ _ (hHeld.2))).trans (hHeld.2)
  have c0:=A_ hbox
  have i7:=gw hg HB
  have m0:=i7
  have e0:=nl hg b2
  have e7:=ng hg b2
  have e1:=nl hg b3
  have e8:=ng hg b3
  have e4:=nl hg b9
  have e3:=ng hg b9
  replace b6:=rB b6 hb
  replace b0:=rB b0 hb
  replace b2:=kB b2 hb
  replace b3:=kB b3 hb
  replace b9:=kB b9 hb
  replace HB:=bB HB hb
  clear hb hbox hg
  refine hz hK (fun hHeld=>?_)
  clear hK K
  refine nq 12 ?_
  exact norm_ (by first | (simp only [putAll,Act.put,List.setIfInBounds_toArray,List.set_cons_zero,List.set_cons_succ];done) | (simp only [putAll,Act.put,List.setIfInBounds_toArray,List.set_cons_zero,List.set_cons_succ];rfl)) (j5 (d1,d0) _ ⟨hHeld,(rs b6),(rs b0),(kb b2),(kb b3),(kb b9),(kb c0),i6.out,l9.out,d8.out,e5.out,d9.out,e6.out,e3.out,e4.out,i7.out,m0.out,e0.out,e7.out,e1.out,e8.out,(bl HB)⟩)
 rintro ⟨d1,d0⟩ q2 ⟨hS_,m2,m3,m4,m6,m7,m9,o6,o7,o8,o9,l8,n0,r6,r7,r8,r9,s0,s1,s2,s3,s4⟩
 have b9:Aside0 (q2.heap[d1]? = some (.cells #[.int .i64 0,.int .i64 0] 23 (0,0))):=⟨m7⟩
 have c0:Aside0 (q2.heap[d0]? = some (.cells #[.int .i64 0,.int .i64 0] 23 (0,0))):=⟨m9⟩
 have i6:Aside0 (w.heap.size ≤ d1):=⟨o6⟩
 have l9:Aside0 (w.heap.size ≤ d1):=⟨o7⟩
 have d8:Aside0 (b7 ≠ d1):=⟨o8⟩
 have e5:Aside0 (d1 ≠ b7):=⟨o9⟩
 have d9:Aside0 (b8 ≠ d1):=⟨l8⟩
 have e6:Aside0 (d1 ≠ b8):=⟨n0⟩
 have e3:Aside0 (d0 ≠ d1):=⟨r6⟩
 have e4:Aside0 (d1 ≠ d0):=⟨r7⟩
 have i7:Aside0 (w.heap.size ≤ d0):=⟨r8⟩
 have m0:Aside0 (w.heap.size ≤ d0):=⟨r9⟩
 have e0:Aside0 (b7 ≠ d0):=⟨s0⟩
 have e7:Aside0 (d0 ≠ b7):=⟨s1⟩
 have e1:Aside0 (b8 ≠ d0):=⟨s2⟩
 have e8:Aside0 (d0 ≠ b8):=⟨s3⟩
 replace b6:Aside0 (Kd.R (Kd.int .i64) 3 q2 w.heap.size (fun k_=>some k_ ≠ (.slice (some b5) b4.length e9:Value).ownBlock) (.slice h1 d6.length h2) d6):=⟨m2⟩
 replace b0:Aside0 (Kd.R (Kd.int .i64) 3 q2 w.heap.size (fun k_=>some k_ ≠ (.slice h1 d6.length h2:Value).ownBlock) (.slice (some b5) b4.length e9) b4):=⟨m3⟩
 replace b2:Aside0 (q2.heap[b7]? = some (.cells #[.int .i64 d3,.int .i64 d5] 23 (0,0))):=⟨m4⟩
 replace b3:Aside0 (q2.heap[b8]? = some (.cells #[.int .i64 d2,.int .i64 d4] 23 (0,0))):=⟨m6⟩
 replace HB:Aside0 (Below w.heap.size w q2):=⟨s4⟩
 clear m2 m3 m4 m6 m7 m9 o6 o7 o8 o9 l8 n0 r6 r7 r8 r9 s0 s1 s2 s3 s4
 have hHeld:q2.cell? ⟨b5.block,b5.off + 1,none⟩ = some (.int .i64 (rd b4 1)) ∧ q2.cell? b5 = some (.int .i64 (rd b4 0)):=hS_
 refine norm_ (a':=?_) ?_ ?_
 rotate_left
 ·simp only [putAll,Act.put,List.setIfInBounds_toArray,List.set_cons_zero,List.set_cons_succ]
  rfl
 refine one_ (i:=14) (N:=none) (ba 17 32767) rfl rfl (one_of HT_.out (by kernel_rfl)) (by decide) (fun K hK=>?_)
 have O2:q2.cell? ⟨d1,0,none⟩ = some (.int .i64 0):=cz b9 0
 have K7:=blk_frozen b9.out 0
 have F4:=d8.out
 have F5:=d9.out
 have F6:=e3.out
 have F7:=e5.out
 have F8:=e6.out
 have F9:=e4.out
 have O3:q2.cell? ⟨d1,1,none⟩ = some (.int .i64 0):=cz b9 1
 have K8:=blk_frozen b9.out 1
 have G0:=d8.out
 have G1:=d9.out
 have G2:=e3.out
 have G3:=e5.out
 have G4:=e6.out
 have G5:=e4.out
 refine skip_ (w1:=?_) (by rfl) rfl ?_ ?_
 rotate_left
 ·go_simp
  rfl
 refine hK.out _ _ ⟨((cell_far (p:=⟨d1,_,none⟩) (by first | exact Kd.own_blk (Kd.R_ne b0.out b9.out (by decide)) | (rw [add_block];exact Kd.own_blk (Kd.R_ne b0.out b9.out (by decide))) | (show (Addr.add _ _).block ≠ _;rw [add_block];exact Kd.own_blk (Kd.R_ne b0.out b9.out (by decide))) | (dsimp only;exact Kd.own_blk (Kd.R_ne b0.out b9.out (by decide)))) _).trans (((cell_far (p:=⟨d1,_,none⟩) (by first | exact Kd.own_blk (Kd.R_ne b0.out b9.out (by decide)) | (rw [add_block];exact Kd.own_blk (Kd.R_ne b0.out b9.out (by decide))) | (show (Addr.add _ _).block ≠ _;rw [add_block];exact Kd.own_blk (Kd.R_ne b0.out b9.out (by decide))) | (dsimp only;exact Kd.own_blk (Kd.R_ne b0.out b9.out (by decide)))) _).trans (hHeld.1)))),((cell_far (p:=⟨d1,_,none⟩) (by first | exact Kd.own_blk (Kd.R_ne b0.out b9.out (by decide)) | (rw [add_block];exact Kd.own_blk (Kd.R_ne b0.out b9.out (by decide))) | (show (Addr.add _ _).block ≠ _;rw [add_block];exact Kd.own_blk (Kd.R_ne b0.out b9.out (by decide))) | (dsimp only;exact Kd.own_blk (Kd.R_ne b0.out b9.out (by decide)))) _).trans (((cell_far (p:=⟨d1,_,none⟩) (by first | exact Kd.own_blk (Kd.R_ne b0.out b9.out (by decide)) | (rw [add_block];exact Kd.own_blk (Kd.R_ne b0.out b9.out (by decide))) | (show (Addr.add _ _).block ≠ _;rw [add_block];exact Kd.own_blk (Kd.R_ne b0.out b9.out (by decide))) | (dsimp only;exact Kd.own_blk (Kd.R_ne b0.out b9.out (by decide)))) _).trans (hHeld.2))))⟩ (fun hHeld=>?_)
 clear hK K
 refine one_ (i:=15) (N:=none) (ba 17 65535) rfl rfl (one_of HT_.out (by kernel_rfl)) (by decide) (fun K hK=>?_)
 have O4:q2.cell? ⟨d0,0,none⟩ = some (.int .i64 0):=cz c0 0
 have K9:=blk_frozen c0.out 0
 have G6:=e0.out
 have G7:=e1.out
 have G8:=e4.out
 have G9:=e7.out
 have H0:=e8.out
 have H1:=e3.out
 have O5:q2.cell? ⟨d0,1,none⟩ = some (.int .i64 0):=cz c0 1
 have L0:=blk_frozen c0.out 1
 have H2:=e0.out
 have H3:=e1.out
 have H4:=e4.out
 have H5:=e7.out
 have H6:=e8.out
 have H7:=e3.out
 refine skip_ (w1:=?_) (by rfl) rfl ?_ ?_
 rotate_left
 ·go_simp
  rfl
 refine hK.out _ _ ⟨((cell_far (p:=⟨d0,_,none⟩) (by first | exact Kd.own_blk (Kd.R_ne b0.out c0.out (by decide)) | (rw [add_block];exact Kd.own_blk (Kd.R_ne b0.out c0.out (by decide))) | (show (Addr.add _ _).block ≠ _;rw [add_block];exact Kd.own_blk (Kd.R_ne b0.out c0.out (by decide))) | (dsimp only;exact Kd.own_blk (Kd.R_ne b0.out c0.out (by decide)))) _).trans (((cell_far (p:=⟨d0,_,none⟩) (by first | exact Kd.own_blk (Kd.R_ne b0.out c0.out (by decide)) | (rw [add_block];exact Kd.own_blk (Kd.R_ne b0.out c0.out (by decide))) | (show (Addr.add _ _).block ≠ _;rw [add_block];exact Kd.own_blk (Kd.R_ne b0.out c0.out (by decide))) | (dsimp only;exact Kd.own_blk (Kd.R_ne b0.out c0.out (by decide)))) _).trans (hHeld.1)))),((cell_far (p:=⟨d0,_,none⟩) (by first | exact Kd.own_blk (Kd.R_ne b0.out c0.out (by decide)) | (rw [add_block];exact Kd.own_blk (Kd.R_ne b0.out c0.out (by decide))) | (show (Addr.add _ _).block ≠ _;rw [add_block];exact Kd.own_blk (Kd.R_ne b0.out c0.out (by decide))) | (dsimp only;exact Kd.own_blk (Kd.R_ne b0.out c0.out (by decide)))) _).trans (((cell_far (p:=⟨d0,_,none⟩) (by first | exact Kd.own_blk (Kd.R_ne b0.out c0.out (by decide)) | (rw [add_block];exact Kd.own_blk (Kd.R_ne b0.out c0.out (by decide))) | (show (Addr.add _ _).block ≠ _;rw [add_block];exact Kd.own_blk (Kd.R_ne b0.out c0.out (by decide))) | (dsimp only;exact Kd.own_blk (Kd.R_ne b0.out c0.out (by decide)))) _).trans (hHeld.2))))⟩ (fun hHeld=>?_)
 clear hK K
 refine pq 16 13 131071 HT_ ?_
 refine done_ (done_of HT_.out (by kernel_rfl)) ?_
 go_upto_region 5 with (first | ((with_reducible refine gate_callee (f:=26) rfl ?_);refine gL (some 51) Try.func26 #[.int .i64 3,.slice (some b5) b4.length e9,.int .i64 e2] ?_;(with_reducible refine (shares_Award.calls k 3 _ _ b4 e2 h5 q3 _ ?side1 ?side2 A9.out).mono ?_);(case side1=>refine (Kd.R_reads' (e:=3) (base:=w.heap.size) (ok:=fun k_=>some k_ ≠ (.slice h1 d6.length h2:Value).ownBlock) (n:=b4.length) (c:=e9) ?_).2.2;exact (by (with_reducible repeat (first | apply Kd.R_alloc | apply Kd.R_drewN | apply Kd.R_drew));exact (Kd.R_mono (Kd.R_mono (Kd.R_far (p:=⟨d0,1,none⟩) (Kd.R_far (p:=⟨d0,0,none⟩) (Kd.R_far (p:=⟨d1,1,none⟩) (Kd.R_far (p:=⟨d1,0,none⟩) (Kd.R_types (Kd.R_types b0.out b9.out (by decide)) c0.out (by decide)) (fun _ hk=>hk.1.2) (.int .i64 i0)) (fun _ hk=>hk.1.2) (.int .i64 i3)) (fun _ hk=>hk.2) (.int .i64 h9)) (fun _ hk=>hk.2) (.int .i64 i2)) (fun _ h_=>h_.1)) (fun _ h_=>h_.1))));(case side2=>exact (Kd.R_reads' b0.out).2.1);rintro e t1 ⟨O6,rfl,E5,hb⟩;refine ⟨_,rfl,?_⟩;have h0:=A_ (Kd.R_lower (Kd.R_newB (Kd.R_newB (Kd.R_newB (Kd.R_newB E5 (g:=b7) (o:=.cells #[.int .i64 d3,.int .i64 d5] 23 (0,0)) (by (with_reducible repeat (first | refine blk_drewN ?_ _ | refine blk_drew ?_ | refine blk_alloc ?_ _));refine blk_far ?_ e0.out _;(with_reducible repeat (first | refine blk_drewN ?_ _ | refine blk_drew ?_ | refine blk_alloc ?_ _));refine blk_far ?_ e0.out _;(with_reducible repeat (first | refine blk_drewN ?_ _ | refine blk_drew ?_ | refine blk_alloc ?_ _));refine blk_far ?_ d8.out _;(with_reducible repeat (first | refine blk_drewN ?_ _ | refine blk_drew ?_ | refine blk_alloc ?_ _));refine blk_far ?_ d8.out _;(with_reducible repeat (first | refine blk_drewN ?_ _ | refine blk_drew ?_ | refine blk_alloc ?_ _));exact b2.out)) (g:=b8) (o:=.cells #[.int .i64 d2,.int .i64 d4] 23 (0,0)) (by (with_reducible repeat (first | refine blk_drewN ?_ _ | refine blk_drew ?_ | refine blk_alloc ?_ _));refine blk_far ?_ e1.out _;(with_reducible repeat (first | refine blk_drewN ?_ _ | refine blk_drew ?_ | refine blk_alloc ?_ _));refine blk_far ?_ e1.out _;(with_reducible repeat (first | refine blk_drewN ?_ _ | refine blk_drew ?_ | refine blk_alloc ?_ _));refine blk_far ?_ d9.out _;(with_reducible repeat (first | refine blk_drewN ?_ _ | refine blk_drew ?_ | refine blk_alloc ?_ _));refine blk_far ?_ d9.out _;(with_reducible repeat (first | refine blk_drewN ?_ _ | refine blk_drew ?_ | refine blk_alloc ?_ _));exact b3.out)) (g:=d1) (o:=.cells #[.int .i64 i0,.int .i64 i3] 23 (0,0)) (by (with_reducible repeat (first | refine blk_drewN ?_ _ | refine blk_drew ?_ | refine blk_alloc ?_ _));refine blk_far ?_ e4.out _;(with_reducible repeat (first | refine blk_drewN ?_ _ | refine blk_drew ?_ | refine blk_alloc ?_ _));refine blk_far ?_ e4.out _;(with_reducible repeat (first | refine blk_drewN ?_ _ | refine blk_drew ?_ | refine blk_alloc ?_ _));refine blk_put (cs:=#[.int .i64 i0,.int .i64 0]) ?_ 1 _ rfl;(with_reducible repeat (first | refine blk_drewN ?_ _ | refine blk_drew ?_ | refine blk_alloc ?_ _));refine blk_put (cs:=#[.int .i64 0,.int .i64 0]) ?_ 0 _ rfl;(with_reducible repeat (first | refine blk_drewN ?_ _ | refine blk_drew ?_ | refine blk_alloc ?_ _));exact b9.out)) (g:=d0) (o:=.cells #[.int .i64 h9,.int .i64 i2] 23 (0,0)) (by (with_reducible repeat (first | refine blk_drewN ?_ _ | refine blk_drew ?_ | refine blk_alloc ?_ _));refine blk_put (cs:=#[.int .i64 h9,.int .i64 0]) ?_ 1 _ rfl;(with_reducible repeat (first | refine blk_drewN ?_ _ | refine blk_drew ?_ | refine blk_alloc ?_ _));refine blk_put (cs:=#[.int .i64 0,.int .i64 0]) ?_ 0 _ rfl;(with_reducible repeat (first | refine blk_drewN ?_ _ | refine blk_drew ?_ | refine blk_alloc ?_ _));refine blk_far ?_ e3.out _;(with_reducible repeat (first | refine blk_drewN ?_ _ | refine blk_drew ?_ | refine blk_alloc ?_ _));refine blk_far ?_ e3.out _;(with_reducible repeat (first | refine blk_drewN ?_ _ | refine blk_drew ?_ | refine blk_alloc ?_ _));exact c0.out)) (below_size (bl HB)));replace b6:=A_ (Kd.R_below (by (with_reducible repeat (first | apply Kd.R_alloc | apply Kd.R_drewN | apply Kd.R_drew));exact (Kd.R_mono (Kd.R_mono (Kd.R_far (p:=⟨d0,1,none⟩) (Kd.R_far (p:=⟨d0,0,none⟩) (Kd.R_far (p:=⟨d1,1,none⟩) (Kd.R_far (p:=⟨d1,0,none⟩) (Kd.R_types (Kd.R_types b6.out b9.out (by decide)) c0.out (by decide)) (fun _ hk=>hk.1.2) (.int .i64 i0)) (fun _ hk=>hk.1.2) (.int .i64 i3)) (fun _ hk=>hk.2) (.int .i64 h9)) (fun _ hk=>hk.2) (.int .i64 i2)) (fun _ h_=>h_.1)) (fun _ h_=>h_.1))) hb);replace b0:=A_ (Kd.R_below (by (with_reducible repeat (first | apply Kd.R_alloc | apply Kd.R_drewN | apply Kd.R_drew));exact (Kd.R_mono (Kd.R_mono (Kd.R_far (p:=⟨d0,1,none⟩) (Kd.R_far (p:=⟨d0,0,none⟩) (Kd.R_far (p:=⟨d1,1,none⟩) (Kd.R_far (p:=⟨d1,0,none⟩) (Kd.R_types (Kd.R_types b0.out b9.out (by decide)) c0.out (by decide)) (fun _ hk=>hk.1.2) (.int .i64 i0)) (fun _ hk=>hk.1.2) (.int .i64 i3)) (fun _ hk=>hk.2) (.int .i64 h9)) (fun _ hk=>hk.2) (.int .i64 i2)) (fun _ h_=>h_.1)) (fun _ h_=>h_.1))) hb);replace b2:=A_ (blk_below (g:=b7) (o:=.cells #[.int .i64 d3,.int .i64 d5] 23 (0,0)) (by (with_reducible repeat (first | refine blk_drewN ?_ _ | refine blk_drew ?_ | refine blk_alloc ?_ _));refine blk_far ?_ e0.out _;(with_reducible repeat (first | refine blk_drewN ?_ _ | refine blk_drew ?_ | refine blk_alloc ?_ _));refine blk_far ?_ e0.out _;(with_reducible repeat (first | refine blk_drewN ?_ _ | refine blk_drew ?_ | refine blk_alloc ?_ _));refine blk_far ?_ d8.out _;(with_reducible repeat (first | refine blk_drewN ?_ _ | refine blk_drew ?_ | refine blk_alloc ?_ _));refine blk_far ?_ d8.out _;(with_reducible repeat (first | refine blk_drewN ?_ _ | refine blk_drew ?_ | refine blk_alloc ?_ _));exact b2.out) hb);replace b3:=A_ (blk_below (g:=b8) (o:=.cells #[.int .i64 d2,.int .i64 d4] 23 (0,0)) (by (with_reducible repeat (first | refine blk_drewN ?_ _ | refine blk_drew ?_ | refine blk_alloc ?_ _));refine blk_far ?_ e1.out _;(with_reducible repeat (first | refine blk_drewN ?_ _ | refine blk_drew ?_ | refine blk_alloc ?_ _));refine blk_far ?_ e1.out _;(with_reducible repeat (first | refine blk_drewN ?_ _ | refine blk_drew ?_ | refine blk_alloc ?_ _));refine blk_far ?_ d9.out _;(with_reducible repeat (first | refine blk_drewN ?_ _ | refine blk_drew ?_ | refine blk_alloc ?_ _));refine blk_far ?_ d9.out _;(with_reducible repeat (first | refine blk_drewN ?_ _ | refine blk_drew ?_ | refine blk_alloc ?_ _));exact b3.out) hb);replace b9:=A_ (blk_below (g:=d1) (o:=.cells #[.int .i64 i0,.int .i64 i3] 23 (0,0)) (by (with_reducible repeat (first | refine blk_drewN ?_ _ | refine blk_drew ?_ | refine blk_alloc ?_ _));refine blk_far ?_ e4.out _;(with_reducible repeat (first | refine blk_drewN ?_ _ | refine blk_drew ?_ | refine blk_alloc ?_ _));refine blk_far ?_ e4.out _;(with_reducible repeat (first | refine blk_drewN ?_ _ | refine blk_drew ?_ | refine blk_alloc ?_ _));refine blk_put (cs:=#[.int .i64 i0,.int .i64 0]) ?_ 1 _ rfl;(with_reducible repeat (first | refine blk_drewN ?_ _ | refine blk_drew ?_ | refine blk_alloc ?_ _));refine blk_put (cs:=#[.int .i64 0,.int .i64 0]) ?_ 0 _ rfl;(with_reducible repeat (first | refine blk_drewN ?_ _ | refine blk_drew ?_ | refine blk_alloc ?_ _));exact b9.out) hb);replace c0:=A_ (blk_below (g:=d0) (o:=.cells #[.int .i64 h9,.int .i64 i2] 23 (0,0)) (by (with_reducible repeat (first | refine blk_drewN ?_ _ | refine blk_drew ?_ | refine blk_alloc ?_ _));refine blk_put (cs:=#[.int .i64 h9,.int .i64 0]) ?_ 1 _ rfl;(with_reducible repeat (first | refine blk_drewN ?_ _ | refine blk_drew ?_ | refine blk_alloc ?_ _));refine blk_put (cs:=#[.int .i64 0,.int .i64 0]) ?_ 0 _ rfl;(with_reducible repeat (first | refine blk_drewN ?_ _ | refine blk_drew ?_ | refine blk_alloc ?_ _));refine blk_far ?_ e3.out _;(with_reducible repeat (first | refine blk_drewN ?_ _ | refine blk_drew ?_ | refine blk_alloc ?_ _));refine blk_far ?_ e3.out _;(with_reducible repeat (first | refine blk_drewN ?_ _ | refine blk_drew ?_ | refine blk_alloc ?_ _));exact c0.out) hb);replace HB:=bB HB hb;(try clear hb)))
 (try simp only [Act.put,List.setIfInBounds_toArray,List.set_cons_zero,List.set_cons_succ])
 go_cut [97] (fun O7 wc=>∃ (kq:Nat) (r2:Bool),O7 = .bool r2 ∧ Aside0 (numnahlaw07_SharesTwo.j0 kq e2 b4 r2 d3 d5 d2 d4 = some r) ∧ Aside0 (kq ≤ k) ∧ Aside0 (Kd.R (Kd.int .i64) 3 wc w.heap.size (fun _=>True) (.slice (some b5) b4.length e9) b4) ∧ Aside0 (wc.heap[b7]? = some (.cells #[.int .i64 d3,.int .i64 d5] 23 (0,0))) ∧ Aside0 (wc.heap[b8]? = some (.cells #[.int .i64 d2,.int .i64 d4] 23 (0,0))) ∧ Aside0 (wc.heap[d1]? = some (.cells #[.int .i64 i0,.int .i64 i3] 23 (0,0))) ∧ Aside0 (wc.heap[d0]? = some (.cells #[.int .i64 h9,.int .i64 i2] 23 (0,0))) ∧ Aside0 (Below w.heap.size w wc))
 case first =>
  have H:=x1.out
  clear x1
  by_cases z0:j7 = 0
  case neg =>
   rw [if_neg z0] at H
   have q1:(j7 == 0) = false:=beq_eq_false_iff_ne.mpr z0
   have C0:(j7 != 0) = true:=bne_iff_ne.mpr z0
   (first | rw [q1] | (simp only [i64_w,i32_w];rw [q1]) | skip)
   have H':=A_ H
   clear H
   try go_wp2
   replace b6:=rD b6
   replace b0:=rD b0
   replace h0:=rD h0
   replace b2:=kD b2
   replace b3:=kD b3
   replace b9:=kD b9
   replace c0:=kD c0
   replace HB:=bD HB
   refine st 44 (fun w'=>True) [] numnahlaw07_SharesTwo.tab5 numnahlaw07_SharesTwo.bits5 (fun hHeld HT_ HW_=>?_)
   generalize t1.drew = Q8 at b6 b0 h0 b2 b3 b9 c0 HB hHeld ⊢
   refine pq 0 54 1 HT_ ?_
   refine pq 1 55 3 HT_ ?_
   refine pq 2 56 7 HT_ ?_
   refine pu 3 57 15 HT_ ?_
   refine pu 4 58 31 HT_ ?_
   refine pq 5 59 63 HT_ ?_
   refine pq 6 60 127 HT_ ?_
   refine pu 7 61 255 HT_ ?_
   refine pu 8 62 511 HT_ ?_
   refine pq 9 63 1023 HT_ ?_
   refine pq 10 64 2047 HT_ ?_
   refine pu 11 65 4095 HT_ ?_
   refine pu 12 66 8191 HT_ ?_
   refine pu 13 67 16383 HT_ ?_
   refine pq 14 68 32767 HT_ ?_
   refine pq 15 69 65535 HT_ ?_
   refine pu 16 70 131071 HT_ ?_
   refine pu 17 71 262143 HT_ ?_
   refine pu 18 72 524287 HT_ ?_
   refine pq 19 73 1048575 HT_ ?_
   refine pq 20 74 2097151 HT_ ?_
   refine pu 21 75 4194303 HT_ ?_
   refine pu 22 76 8388607 HT_ ?_
   refine pu 23 77 16777215 HT_ ?_
   refine pq 24 78 33554431 HT_ ?_
   refine pq 25 79 67108863 HT_ ?_
   refine pu 26 80 134217727 HT_ ?_
   refine pu 27 81 268435455 HT_ ?_
   refine pu 28 82 536870911 HT_ ?_
   refine pu 29 83 1073741823 HT_ ?_
   refine pu 30 84 2147483647 HT_ ?_
   refine pq 31 85 4294967295 HT_ ?_
   refine pq 32 86 8589934591 HT_ ?_
   refine pu 33 87 17179869183 HT_ ?_
   refine pu 34 88 34359738367 HT_ ?_
   refine pu 35 89 68719476735 HT_ ?_
   refine pu 36 90 137438953471 HT_ ?_
   refine pu 37 91 274877906943 HT_ ?_
   refine pq 38 92 549755813887 HT_ ?_
   refine pq 39 93 1099511627775 HT_ ?_
   refine pu 40 94 2199023255551 HT_ ?_
   refine pu 41 95 4398046511103 HT_ ?_
   refine pu 42 96 8796093022207 HT_ ?_
   refine pq 43 97 17592186044415 HT_ ?_
   refine done_ (done_of HT_.out (by kernel_rfl)) ?_
   try go_wp2
   go_meet
   case rel=>exact ⟨_,(true),(by first | rfl | (simp;done) | (simp [*];done)),H',⟨by first | omega | exact Nat.le_refl _⟩,⟨by (with_reducible repeat (first | apply Kd.R_alloc | apply Kd.R_drewN | apply Kd.R_drew));exact Kd.R_mono b0.out (fun _ hk=>trivial)⟩,⟨by (with_reducible repeat (first | refine blk_drewN ?_ _ | refine blk_drew ?_ | refine blk_alloc ?_ _));exact b2.out⟩,⟨by (with_reducible repeat (first | refine blk_drewN ?_ _ | refine blk_drew ?_ | refine blk_alloc ?_ _));exact b3.out⟩,⟨by (with_reducible repeat (first | refine blk_drewN ?_ _ | refine blk_drew ?_ | refine blk_alloc ?_ _));exact b9.out⟩,⟨by (with_reducible repeat (first | refine blk_drewN ?_ _ | refine blk_drew ?_ | refine blk_alloc ?_ _));exact c0.out⟩,⟨bl HB⟩⟩
  rw [if_pos z0] at H
  have q1:(j7 == 0) = true:=beq_iff_eq.mpr z0
  have C0:(j7 != 0) = false:=bne_eq_false_iff_eq.mpr z0
  clear z0
  (first | rw [q1] | (simp only [i64_w,i32_w];rw [q1]) | skip)
  by_cases z1:j8 = 0
  case neg =>
   rw [if_neg z1] at H
   have C1:(j8 == 0) = false:=beq_eq_false_iff_ne.mpr z1
   have C2:(j8 != 0) = true:=bne_iff_ne.mpr z1
   have H':=A_ H
   clear H
   try go_wp2
   replace b6:=rD b6
   replace b0:=rD b0
   replace h0:=rD h0
   replace b2:=kD b2
   replace b3:=kD b3
   replace b9:=kD b9
   replace c0:=kD c0
   replace HB:=bD HB
   refine st 44 (fun w'=>True) [] numnahlaw07_SharesTwo.tab5 numnahlaw07_SharesTwo.bits5 (fun hHeld HT_ HW_=>?_)
   generalize t1.drew = Q9 at b6 b0 h0 b2 b3 b9 c0 HB hHeld ⊢
   refine pq 0 54 1 HT_ ?_
   refine pq 1 55 3 HT_ ?_
   refine pq 2 56 7 HT_ ?_
   refine pq 3 57 15 HT_ ?_
   refine pq 4 58 31 HT_ ?_
   refine pq 5 59 63 HT_ ?_
   refine pq 6 60 127 HT_ ?_
   refine pu 7 61 255 HT_ ?_
   refine pu 8 62 511 HT_ ?_
   refine pq 9 63 1023 HT_ ?_
   refine pq 10 64 2047 HT_ ?_
   refine pu 11 65 4095 HT_ ?_
   refine pu 12 66 8191 HT_ ?_
   refine pu 13 67 16383 HT_ ?_
   refine pq 14 68 32767 HT_ ?_
   refine pq 15 69 65535 HT_ ?_
   refine pu 16 70 131071 HT_ ?_
   refine pu 17 71 262143 HT_ ?_
   refine pu 18 72 524287 HT_ ?_
   refine pq 19 73 1048575 HT_ ?_
   refine pq 20 74 2097151 HT_ ?_
   refine pu 21 75 4194303 HT_ ?_
   refine pu 22 76 8388607 HT_ ?_
   refine pu 23 77 16777215 HT_ ?_
   refine pq 24 78 33554431 HT_ ?_
   refine pq 25 79 67108863 HT_ ?_
   refine pu 26 80 134217727 HT_ ?_
   refine pu 27 81 268435455 HT_ ?_
   refine pu 28 82 536870911 HT_ ?_
   refine pu 29 83 1073741823 HT_ ?_
   refine pu 30 84 2147483647 HT_ ?_
   refine pq 31 85 4294967295 HT_ ?_
   refine pq 32 86 8589934591 HT_ ?_
   refine pu 33 87 17179869183 HT_ ?_
   refine pu 34 88 34359738367 HT_ ?_
   refine pu 35 89 68719476735 HT_ ?_
   refine pu 36 90 137438953471 HT_ ?_
   refine pu 37 91 274877906943 HT_ ?_
   refine pq 38 92 549755813887 HT_ ?_
   refine pq 39 93 1099511627775 HT_ ?_
   refine pu 40 94 2199023255551 HT_ ?_
   refine pu 41 95 4398046511103 HT_ ?_
   refine pu 42 96 8796093022207 HT_ ?_
   refine pq 43 97 17592186044415 HT_ ?_
   refine done_ (done_of HT_.out (by kernel_rfl)) ?_
   try go_wp2
   go_meet
   case rel=>exact ⟨_,(true),(by first | rfl | (simp;done) | (simp [*];done)),H',⟨by first | omega | exact Nat.le_refl _⟩,⟨by (with_reducible repeat (first | apply Kd.R_alloc | apply Kd.R_drewN | apply Kd.R_drew));exact Kd.R_mono b0.out (fun _ hk=>trivial)⟩,⟨by (with_reducible repeat (first | refine blk_drewN ?_ _ | refine blk_drew ?_ | refine blk_alloc ?_ _));exact b2.out⟩,⟨by (with_reducible repeat (first | refine blk_drewN ?_ _ | refine blk_drew ?_ | refine blk_alloc ?_ _));exact b3.out⟩,⟨by (with_reducible repeat (first | refine blk_drewN ?_ _ | refine blk_drew ?_ | refine blk_alloc ?_ _));exact b9.out⟩,⟨by (with_reducible repeat (first | refine blk_drewN ?_ _ | refine blk_drew ?_ | refine blk_alloc ?_ _));exact c0.out⟩,⟨bl HB⟩⟩
  rw [if_pos z1] at H
  have C1:(j8 == 0) = true:=beq_iff_eq.mpr z1
  have C2:(j8 != 0) = false:=bne_eq_false_iff_eq.mpr z1
  clear z1
  by_cases z2:q3 = 0
  case neg =>
   rw [if_neg z2] at H
   have C3:(q3 == 0) = false:=beq_eq_false_iff_ne.mpr z2
   have C4:(q3 != 0) = true:=bne_iff_ne.mpr z2
   have H':=A_ H
   clear H
   try go_wp2
   replace b6:=rD b6
   replace b0:=rD b0
   replace h0:=rD h0
   replace b2:=kD b2
   replace b3:=kD b3
   replace b9:=kD b9
   replace c0:=kD c0
   replace HB:=bD HB
   refine st 44 (fun w'=>True) [] numnahlaw07_SharesTwo.tab5 numnahlaw07_SharesTwo.bits5 (fun hHeld HT_ HW_=>?_)
   generalize t1.drew = R0 at b6 b0 h0 b2 b3 b9 c0 HB hHeld ⊢
   refine pq 0 54 1 HT_ ?_
   refine pq 1 55 3 HT_ ?_
   refine pq 2 56 7 HT_ ?_
   refine pq 3 57 15 HT_ ?_
   refine pq 4 58 31 HT_ ?_
   refine pq 5 59 63 HT_ ?_
   refine pq 6 60 127 HT_ ?_
   refine pq 7 61 255 HT_ ?_
   refine pq 8 62 511 HT_ ?_
   refine pq 9 63 1023 HT_ ?_
   refine pq 10 64 2047 HT_ ?_
   refine pu 11 65 4095 HT_ ?_
   refine pu 12 66 8191 HT_ ?_
   refine pu 13 67 16383 HT_ ?_
   refine pq 14 68 32767 HT_ ?_
   refine pq 15 69 65535 HT_ ?_
   refine pu 16 70 131071 HT_ ?_
   refine pu 17 71 262143 HT_ ?_
   refine pu 18 72 524287 HT_ ?_
   refine pq 19 73 1048575 HT_ ?_
   refine pq 20 74 2097151 HT_ ?_
   refine pu 21 75 4194303 HT_ ?_
   refine pu 22 76 8388607 HT_ ?_
   refine pu 23 77 16777215 HT_ ?_
   refine pq 24 78 33554431 HT_ ?_
   refine pq 25 79 67108863 HT_ ?_
   refine pu 26 80 134217727 HT_ ?_
   refine pu 27 81 268435455 HT_ ?_
   refine pu 28 82 536870911 HT_ ?_
   refine pu 29 83 1073741823 HT_ ?_
   refine pu 30 84 2147483647 HT_ ?_
   refine pq 31 85 4294967295 HT_ ?_
   refine pq 32 86 8589934591 HT_ ?_
   refine pu 33 87 17179869183 HT_ ?_
   refine pu 34 88 34359738367 HT_ ?_
   refine pu 35 89 68719476735 HT_ ?_
   refine pu 36 90 137438953471 HT_ ?_
   refine pu 37 91 274877906943 HT_ ?_
   refine pq 38 92 549755813887 HT_ ?_
   refine pq 39 93 1099511627775 HT_ ?_
   refine pu 40 94 2199023255551 HT_ ?_
   refine pu 41 95 4398046511103 HT_ ?_
   refine pu 42 96 8796093022207 HT_ ?_
   refine pq 43 97 17592186044415 HT_ ?_
   refine done_ (done_of HT_.out (by kernel_rfl)) ?_
   try go_wp2
   go_meet
   case rel=>exact ⟨_,(true),(by first | rfl | (simp;done) | (simp [*];done)),H',⟨by first | omega | exact Nat.le_refl _⟩,⟨by (with_reducible repeat (first | apply Kd.R_alloc | apply Kd.R_drewN | apply Kd.R_drew));exact Kd.R_mono b0.out (fun _ hk=>trivial)⟩,⟨by (with_reducible repeat (first | refine blk_drewN ?_ _ | refine blk_drew ?_ | refine blk_alloc ?_ _));exact b2.out⟩,⟨by (with_reducible repeat (first | refine blk_drewN ?_ _ | refine blk_drew ?_ | refine blk_alloc ?_ _));exact b3.out⟩,⟨by (with_reducible repeat (first | refine blk_drewN ?_ _ | refine blk_drew ?_ | refine blk_alloc ?_ _));exact b9.out⟩,⟨by (with_reducible repeat (first | refine blk_drewN ?_ _ | refine blk_drew ?_ | refine blk_alloc ?_ _));exact c0.out⟩,⟨bl HB⟩⟩
  rw [if_pos z2] at H
  have C3:(q3 == 0) = true:=beq_iff_eq.mpr z2
  have C4:(q3 != 0) = false:=bne_eq_false_iff_eq.mpr z2
  clear z2
  by_cases z9:(!(d3 == h9) || (!(d5 == i2))) = true
  ·rw [if_pos z9] at H
   have C5:(!(d3 == h9) || (!(d5 == i2))) = true:=z9
   clear z9
   have H':=A_ H
   clear H
   try go_wp2
   replace b6:=rD b6
   replace b0:=rD b0
   replace h0:=rD h0
   replace b2:=kD b2
   replace b3:=kD b3
   replace b9:=kD b9
   replace c0:=kD c0
   replace HB:=bD HB
   refine st 44 (fun w'=>w'.cell? ⟨b7,0,none⟩ = some (.int .i64 d3) ∧ w'.cell? ⟨b7,1,none⟩ = some (.int .i64 d5) ∧ w'.cell? ⟨d0,0,none⟩ = some (.int .i64 h9) ∧ w'.cell? ⟨d0,1,none⟩ = some (.int .i64 i2)) [] numnahlaw07_SharesTwo.tab5 numnahlaw07_SharesTwo.bits5 (fun hHeld HT_ HW_=>?_)
   generalize t1.drew = R1 at b6 b0 h0 b2 b3 b9 c0 HB hHeld ⊢
   refine pq 0 54 1 HT_ ?_
   refine pq 1 55 3 HT_ ?_
   refine pq 2 56 7 HT_ ?_
   refine pq 3 57 15 HT_ ?_
   refine pq 4 58 31 HT_ ?_
   refine pq 5 59 63 HT_ ?_
   refine pq 6 60 127 HT_ ?_
   refine pq 7 61 255 HT_ ?_
   refine pq 8 62 511 HT_ ?_
   refine pq 9 63 1023 HT_ ?_
   refine pq 10 64 2047 HT_ ?_
   refine tq 11 65 4095 HT_ HW_ hHeld ?_
   refine tq 12 66 8191 HT_ HW_ hHeld ?_
   refine pq 13 67 16383 HT_ ?_
   refine pq 14 68 32767 HT_ ?_
   refine pq 15 69 65535 HT_ ?_
   refine pu 16 70 131071 HT_ ?_
   refine pu 17 71 262143 HT_ ?_
   refine pu 18 72 524287 HT_ ?_
   refine pq 19 73 1048575 HT_ ?_
   refine pq 20 74 2097151 HT_ ?_
   refine pu 21 75 4194303 HT_ ?_
   refine pu 22 76 8388607 HT_ ?_
   refine pu 23 77 16777215 HT_ ?_
   refine pq 24 78 33554431 HT_ ?_
   refine pq 25 79 67108863 HT_ ?_
   refine pu 26 80 134217727 HT_ ?_
   refine pu 27 81 268435455 HT_ ?_
   refine pu 28 82 536870911 HT_ ?_
   refine pu 29 83 1073741823 HT_ ?_
   refine pu 30 84 2147483647 HT_ ?_
   refine pq 31 85 4294967295 HT_ ?_
   refine pq 32 86 8589934591 HT_ ?_
   refine pu 33 87 17179869183 HT_ ?_
   refine pu 34 88 34359738367 HT_ ?_
   refine pu 35 89 68719476735 HT_ ?_
   refine pu 36 90 137438953471 HT_ ?_
   refine pu 37 91 274877906943 HT_ ?_
   refine pq 38 92 549755813887 HT_ ?_
   refine pq 39 93 1099511627775 HT_ ?_
   refine pu 40 94 2199023255551 HT_ ?_
   refine pu 41 95 4398046511103 HT_ ?_
   refine pu 42 96 8796093022207 HT_ ?_
   refine pq 43 97 17592186044415 HT_ ?_
   refine done_ (done_of HT_.out (by kernel_rfl)) ?_
   try go_wp2
   go_meet
   case rel=>exact ⟨_,(true),(by first | rfl | (simp;done) | (simp [*];done)),H',⟨by first | omega | exact Nat.le_refl _⟩,⟨by (with_reducible repeat (first | apply Kd.R_alloc | apply Kd.R_drewN | apply Kd.R_drew));exact Kd.R_mono b0.out (fun _ hk=>trivial)⟩,⟨by (with_reducible repeat (first | refine blk_drewN ?_ _ | refine blk_drew ?_ | refine blk_alloc ?_ _));exact b2.out⟩,⟨by (with_reducible repeat (first | refine blk_drewN ?_ _ | refine blk_drew ?_ | refine blk_alloc ?_ _));exact b3.out⟩,⟨by (with_reducible repeat (first | refine blk_drewN ?_ _ | refine blk_drew ?_ | refine blk_alloc ?_ _));exact b9.out⟩,⟨by (with_reducible repeat (first | refine blk_drewN ?_ _ | refine blk_drew ?_ | refine blk_alloc ?_ _));exact c0.out⟩,⟨bl HB⟩⟩
  rw [if_neg z9] at H
  have C5:(!(d3 == h9) || (!(d5 == i2))) = false:=by simpa using z9
  clear z9
  by_cases A0:(!(d2 == i0) || (!(d4 == i3))) = true
  ·rw [if_pos A0] at H
   have C6:(!(d2 == i0) || (!(d4 == i3))) = true:=A0
   clear A0
   have H':=A_ H
   clear H
   try go_wp2
   replace b6:=rD b6
   replace b0:=rD b0
   replace h0:=rD h0
   replace b2:=kD b2
   replace b3:=kD b3
   replace b9:=kD b9
   replace c0:=kD c0
   replace HB:=bD HB
   refine st 44 (fun w'=>w'.cell? ⟨b7,0,none⟩ = some (.int .i64 d3) ∧ w'.cell? ⟨b7,1,none⟩ = some (.int .i64 d5) ∧ w'.cell? ⟨d0,0,none⟩ = some (.int .i64 h9) ∧ w'.cell? ⟨d0,1,none⟩ = some (.int .i64 i2) ∧ w'.cell? ⟨b8,0,none⟩ = some (.int .i64 d2) ∧ w'.cell? ⟨b8,1,none⟩ = some (.int .i64 d4) ∧ w'.cell? ⟨d1,0,none⟩ = some (.int .i64 i0) ∧ w'.cell? ⟨d1,1,none⟩ = some (.int .i64 i3)) [] numnahlaw07_SharesTwo.tab5 numnahlaw07_SharesTwo.bits5 (fun hHeld HT_ HW_=>?_)
   generalize t1.drew = R2 at b6 b0 h0 b2 b3 b9 c0 HB hHeld ⊢
   refine pq 0 54 1 HT_ ?_
   refine pq 1 55 3 HT_ ?_
   refine pq 2 56 7 HT_ ?_
   refine pq 3 57 15 HT_ ?_
   refine pq 4 58 31 HT_ ?_
   refine pq 5 59 63 HT_ ?_
   refine pq 6 60 127 HT_ ?_
   refine pq 7 61 255 HT_ ?_
   refine pq 8 62 511 HT_ ?_
   refine pq 9 63 1023 HT_ ?_
   refine pq 10 64 2047 HT_ ?_
   refine tq 11 65 4095 HT_ HW_ hHeld ?_
   refine tq 12 66 8191 HT_ HW_ hHeld ?_
   refine pq 13 67 16383 HT_ ?_
   refine pq 14 68 32767 HT_ ?_
   refine pq 15 69 65535 HT_ ?_
   refine tq 16 70 131071 HT_ HW_ hHeld ?_
   refine tq 17 71 262143 HT_ HW_ hHeld ?_
   refine pq 18 72 524287 HT_ ?_
   refine pq 19 73 1048575 HT_ ?_
   refine pq 20 74 2097151 HT_ ?_
   refine pu 21 75 4194303 HT_ ?_
   refine pu 22 76 8388607 HT_ ?_
   refine pu 23 77 16777215 HT_ ?_
   refine pq 24 78 33554431 HT_ ?_
   refine pq 25 79 67108863 HT_ ?_
   refine pu 26 80 134217727 HT_ ?_
   refine pu 27 81 268435455 HT_ ?_
   refine pu 28 82 536870911 HT_ ?_
   refine pu 29 83 1073741823 HT_ ?_
   refine pu 30 84 2147483647 HT_ ?_
   refine pq 31 85 4294967295 HT_ ?_
   refine pq 32 86 8589934591 HT_ ?_
   refine pu 33 87 17179869183 HT_ ?_
   refine pu 34 88 34359738367 HT_ ?_
   refine pu 35 89 68719476735 HT_ ?_
   refine pu 36 90 137438953471 HT_ ?_
   refine pu 37 91 274877906943 HT_ ?_
   refine pq 38 92 549755813887 HT_ ?_
   refine pq 39 93 1099511627775 HT_ ?_
   refine pu 40 94 2199023255551 HT_ ?_
   refine pu 41 95 4398046511103 HT_ ?_
   refine pu 42 96 8796093022207 HT_ ?_
   refine pq 43 97 17592186044415 HT_ ?_
   refine done_ (done_of HT_.out (by kernel_rfl)) ?_
   try go_wp2
   go_meet
   case rel=>exact ⟨_,(true),(by first | rfl | (simp;done) | (simp [*];done)),H',⟨by first | omega | exact Nat.le_refl _⟩,⟨by (with_reducible repeat (first | apply Kd.R_alloc | apply Kd.R_drewN | apply Kd.R_drew));exact Kd.R_mono b0.out (fun _ hk=>trivial)⟩,⟨by (with_reducible repeat (first | refine blk_drewN ?_ _ | refine blk_drew ?_ | refine blk_alloc ?_ _));exact b2.out⟩,⟨by (with_reducible repeat (first | refine blk_drewN ?_ _ | refine blk_drew ?_ | refine blk_alloc ?_ _));exact b3.out⟩,⟨by (with_reducible repeat (first | refine blk_drewN ?_ _ | refine blk_drew ?_ | refine blk_alloc ?_ _));exact b9.out⟩,⟨by (with_reducible repeat (first | refine blk_drewN ?_ _ | refine blk_drew ?_ | refine blk_alloc ?_ _));exact c0.out⟩,⟨bl HB⟩⟩
  rw [if_neg A0] at H
  have C6:(!(d2 == i0) || (!(d4 == i3))) = false:=by simpa using A0
  clear A0
  by_cases z3:(h5.length:Int) = 2
  case neg =>
   rw [if_neg z3] at H
   have C7:((h5.length:Int) == 2) = false:=beq_eq_false_iff_ne.mpr z3
   have C8:((h5.length:Int) != 2) = true:=bne_iff_ne.mpr z3
   have H':=A_ H
   clear H
   try go_wp2
   replace b6:=rD b6
   replace b0:=rD b0
   replace h0:=rD h0
   replace b2:=kD b2
   replace b3:=kD b3
   replace b9:=kD b9
   replace c0:=kD c0
   replace HB:=bD HB
   obtain ⟨O8,O9,C9⟩:=Kd.R_slice h0.out
   (first | subst C9 | (injection C9 with r0 s8 r1;have s9:=r0.symm;have t0:=r1.symm;clear r0 s8 r1;subst s9;subst t0))
   refine st 44 (fun w'=>w'.cell? ⟨b7,0,none⟩ = some (.int .i64 d3) ∧ w'.cell? ⟨b7,1,none⟩ = some (.int .i64 d5) ∧ w'.cell? ⟨d0,0,none⟩ = some (.int .i64 h9) ∧ w'.cell? ⟨d0,1,none⟩ = some (.int .i64 i2) ∧ w'.cell? ⟨b8,0,none⟩ = some (.int .i64 d2) ∧ w'.cell? ⟨b8,1,none⟩ = some (.int .i64 d4) ∧ w'.cell? ⟨d1,0,none⟩ = some (.int .i64 i0) ∧ w'.cell? ⟨d1,1,none⟩ = some (.int .i64 i3)) [] numnahlaw07_SharesTwo.tab5 numnahlaw07_SharesTwo.bits5 (fun hHeld HT_ HW_=>?_)
   generalize t1.drew = R3 at b6 b0 h0 b2 b3 b9 c0 HB hHeld ⊢
   refine pq 0 54 1 HT_ ?_
   refine pq 1 55 3 HT_ ?_
   refine pq 2 56 7 HT_ ?_
   refine pq 3 57 15 HT_ ?_
   refine pq 4 58 31 HT_ ?_
   refine pq 5 59 63 HT_ ?_
   refine pq 6 60 127 HT_ ?_
   refine pq 7 61 255 HT_ ?_
   refine pq 8 62 511 HT_ ?_
   refine pq 9 63 1023 HT_ ?_
   refine pq 10 64 2047 HT_ ?_
   refine tq 11 65 4095 HT_ HW_ hHeld ?_
   refine tq 12 66 8191 HT_ HW_ hHeld ?_
   refine pq 13 67 16383 HT_ ?_
   refine pq 14 68 32767 HT_ ?_
   refine pq 15 69 65535 HT_ ?_
   refine tq 16 70 131071 HT_ HW_ hHeld ?_
   refine tq 17 71 262143 HT_ HW_ hHeld ?_
   refine pq 18 72 524287 HT_ ?_
   refine pq 19 73 1048575 HT_ ?_
   refine pq 20 74 2097151 HT_ ?_
   refine pq 21 75 4194303 HT_ ?_
   refine pq 22 76 8388607 HT_ ?_
   refine pq 23 77 16777215 HT_ ?_
   refine pq 24 78 33554431 HT_ ?_
   refine pq 25 79 67108863 HT_ ?_
   refine pu 26 80 134217727 HT_ ?_
   refine pu 27 81 268435455 HT_ ?_
   refine pu 28 82 536870911 HT_ ?_
   refine pu 29 83 1073741823 HT_ ?_
   refine pu 30 84 2147483647 HT_ ?_
   refine pq 31 85 4294967295 HT_ ?_
   refine pq 32 86 8589934591 HT_ ?_
   refine pu 33 87 17179869183 HT_ ?_
   refine pu 34 88 34359738367 HT_ ?_
   refine pu 35 89 68719476735 HT_ ?_
   refine pu 36 90 137438953471 HT_ ?_
   refine pu 37 91 274877906943 HT_ ?_
   refine pq 38 92 549755813887 HT_ ?_
   refine pq 39 93 1099511627775 HT_ ?_
   refine pu 40 94 2199023255551 HT_ ?_
   refine pu 41 95 4398046511103 HT_ ?_
   refine pu 42 96 8796093022207 HT_ ?_
   refine pq 43 97 17592186044415 HT_ ?_
   refine done_ (done_of HT_.out (by kernel_rfl)) ?_
   try go_wp2
   go_meet
   case rel=>exact ⟨_,(true),(by first | rfl | (simp;done) | (simp [*];done)),H',⟨by first | omega | exact Nat.le_refl _⟩,⟨by (with_reducible repeat (first | apply Kd.R_alloc | apply Kd.R_drewN | apply Kd.R_drew));exact Kd.R_mono b0.out (fun _ hk=>trivial)⟩,⟨by (with_reducible repeat (first | refine blk_drewN ?_ _ | refine blk_drew ?_ | refine blk_alloc ?_ _));exact b2.out⟩,⟨by (with_reducible repeat (first | refine blk_drewN ?_ _ | refine blk_drew ?_ | refine blk_alloc ?_ _));exact b3.out⟩,⟨by (with_reducible repeat (first | refine blk_drewN ?_ _ | refine blk_drew ?_ | refine blk_alloc ?_ _));exact b9.out⟩,⟨by (with_reducible repeat (first | refine blk_drewN ?_ _ | refine blk_drew ?_ | refine blk_alloc ?_ _));exact c0.out⟩,⟨bl HB⟩⟩
  rw [if_pos z3] at H
  have C7:((h5.length:Int) == 2) = true:=beq_iff_eq.mpr z3
  have C8:((h5.length:Int) != 2) = false:=bne_eq_false_iff_eq.mpr z3
  clear z3
  replace H:=gd H
  obtain ⟨L1,H⟩:=H
  have L2:=decide_eq_true L1
  have L3:decide (0 < h5.length) = true:=decide_eq_true (by omega)
  clear L1
  by_cases A1:(!(((rd_T23 h5 0).f0) == d3) || (!(((rd_T23 h5 0).f1) == d5))) = true
  ·rw [if_pos A1] at H
   have D0:(!(((rd_T23 h5 0).f0) == d3) || (!(((rd_T23 h5 0).f1) == d5))) = true:=A1
   clear A1
   have H':=A_ H
   clear H
   try go_wp2
   replace b6:=rD b6
   replace b0:=rD b0
   replace h0:=rD h0
   replace b2:=kD b2
   replace b3:=kD b3
   replace b9:=kD b9
   replace c0:=kD c0
   replace HB:=bD HB
   obtain ⟨P0,P1,D1⟩:=Kd.R_slice h0.out
   (first | subst D1 | (injection D1 with r0 s8 r1;have s9:=r0.symm;have t0:=r1.symm;clear r0 s8 r1;subst s9;subst t0))
   have p0:0 ≤ (0:Int):=(by omega)
   have p1:0 < (h5.length:Int):=of_decide_eq_true (by first | (with_reducible assumption) | assumption)
   obtain ⟨i1,s5,h7,h8⟩:=at_T23 (Kd.R_reads' h0.out).2.2 0 p0 p1
   cases s5
   have t8:(0 < h5.length) = True:=eq_true (by omega)
   (try rw [show ((0:Int)).toNat = 0 from rfl] at h7)
   (try rw [show 0 * 2 = 0 from rfl] at h7)
   (try rw [Addr.add_zero'] at h7)
   (try rw [show ((0:Int)).toNat = 0 from rfl] at h8)
   (try rw [show 0 * 2 = 0 from rfl] at h8)
   (try rw [Addr.add_zero'] at h8)
   replace p0:=eq_true p0
   replace p1:=eq_true p1
   refine start_ (n:=44) (S:=fun w'=>w'.cell? ⟨b7,0,none⟩ = some (.int .i64 d3) ∧ w'.cell? ⟨b7,1,none⟩ = some (.int .i64 d5) ∧ w'.cell? ⟨d0,0,none⟩ = some (.int .i64 h9) ∧ w'.cell? ⟨d0,1,none⟩ = some (.int .i64 i2) ∧ w'.cell? ⟨b8,0,none⟩ = some (.int .i64 d2) ∧ w'.cell? ⟨b8,1,none⟩ = some (.int .i64 d4) ∧ w'.cell? ⟨d1,0,none⟩ = some (.int .i64 i0) ∧ w'.cell? ⟨d1,1,none⟩ = some (.int .i64 i3) ∧ w'.cell? i1 = some (.int .i64 ((rd_T23 h5 0).f0)) ∧ w'.cell? ⟨i1.block,i1.off + 1,none⟩ = some (.int .i64 ((rd_T23 h5 0).f1))) (ds:=[]) (ba 44 0) (by kernel_rfl) rfl rfl ⟨cz b2 0,cz b2 1,cz c0 0,cz c0 1,cz b3 0,cz b3 1,cz b9 0,cz b9 1,h7,h8⟩ (fun hHeld=>?_);refine with_tabW numnahlaw07_SharesTwo.tab5 numnahlaw07_SharesTwo.bits5 (fun HT_ HW_=>?_)
   generalize t1.drew = R4 at b6 b0 h0 b2 b3 b9 c0 HB h7 h8 hHeld ⊢
   refine pq 0 54 1 HT_ ?_
   refine pq 1 55 3 HT_ ?_
   refine pq 2 56 7 HT_ ?_
   refine pq 3 57 15 HT_ ?_
   refine pq 4 58 31 HT_ ?_
   refine pq 5 59 63 HT_ ?_
   refine pq 6 60 127 HT_ ?_
   refine pq 7 61 255 HT_ ?_
   refine pq 8 62 511 HT_ ?_
   refine pq 9 63 1023 HT_ ?_
   refine pq 10 64 2047 HT_ ?_
   refine tq 11 65 4095 HT_ HW_ hHeld ?_
   refine tq 12 66 8191 HT_ HW_ hHeld ?_
   refine pq 13 67 16383 HT_ ?_
   refine pq 14 68 32767 HT_ ?_
   refine pq 15 69 65535 HT_ ?_
   refine tq 16 70 131071 HT_ HW_ hHeld ?_
   refine tq 17 71 262143 HT_ HW_ hHeld ?_
   refine pq 18 72 524287 HT_ ?_
   refine pq 19 73 1048575 HT_ ?_
   refine pq 20 74 2097151 HT_ ?_
   refine pq 21 75 4194303 HT_ ?_
   refine pq 22 76 8388607 HT_ ?_
   refine pq 23 77 16777215 HT_ ?_
   refine pq 24 78 33554431 HT_ ?_
   refine pq 25 79 67108863 HT_ ?_
   refine pq 26 80 134217727 HT_ ?_
   refine pq 27 81 268435455 HT_ ?_
   refine tq 28 82 536870911 HT_ HW_ hHeld ?_
   refine tq 29 83 1073741823 HT_ HW_ hHeld ?_
   refine pq 30 84 2147483647 HT_ ?_
   refine pq 31 85 4294967295 HT_ ?_
   refine pq 32 86 8589934591 HT_ ?_
   refine pu 33 87 17179869183 HT_ ?_
   refine pu 34 88 34359738367 HT_ ?_
   refine pu 35 89 68719476735 HT_ ?_
   refine pu 36 90 137438953471 HT_ ?_
   refine pu 37 91 274877906943 HT_ ?_
   refine pq 38 92 549755813887 HT_ ?_
   refine pq 39 93 1099511627775 HT_ ?_
   refine pu 40 94 2199023255551 HT_ ?_
   refine pu 41 95 4398046511103 HT_ ?_
   refine pu 42 96 8796093022207 HT_ ?_
   refine pq 43 97 17592186044415 HT_ ?_
   refine done_ (done_of HT_.out (by kernel_rfl)) ?_
   try go_wp2
   go_meet
   case rel=>exact ⟨_,(true),(by first | rfl | (simp;done) | (simp [*];done)),H',⟨by first | omega | exact Nat.le_refl _⟩,⟨by (with_reducible repeat (first | apply Kd.R_alloc | apply Kd.R_drewN | apply Kd.R_drew));exact Kd.R_mono b0.out (fun _ hk=>trivial)⟩,⟨by (with_reducible repeat (first | refine blk_drewN ?_ _ | refine blk_drew ?_ | refine blk_alloc ?_ _));exact b2.out⟩,⟨by (with_reducible repeat (first | refine blk_drewN ?_ _ | refine blk_drew ?_ | refine blk_alloc ?_ _));exact b3.out⟩,⟨by (with_reducible repeat (first | refine blk_drewN ?_ _ | refine blk_drew ?_ | refine blk_alloc ?_ _));exact b9.out⟩,⟨by (with_reducible repeat (first | refine blk_drewN ?_ _ | refine blk_drew ?_ | refine blk_alloc ?_ _));exact c0.out⟩,⟨bl HB⟩⟩
  rw [if_neg A1] at H
  have D0:(!(((rd_T23 h5 0).f0) == d3) || (!(((rd_T23 h5 0).f1) == d5))) = false:=by simpa using A1
  clear A1
  replace H:=gd H
  obtain ⟨L4,H⟩:=H
  have L5:=decide_eq_true L4
  have L6:decide (1 < h5.length) = true:=decide_eq_true (by omega)
  clear L4
  by_cases A2:(!(((rd_T23 h5 1).f0) == d2) || (!(((rd_T23 h5 1).f1) == d4))) = true
  ·rw [if_pos A2] at H
   have D2:(!(((rd_T23 h5 1).f0) == d2) || (!(((rd_T23 h5 1).f1) == d4))) = true:=A2
   clear A2
   have H':=A_ H
   clear H
   try go_wp2
   replace b6:=rD b6
   replace b0:=rD b0
   replace h0:=rD h0
   replace b2:=kD b2
   replace b3:=kD b3
   replace b9:=kD b9
   replace c0:=kD c0
   replace HB:=bD HB
   obtain ⟨P2,P3,D3⟩:=Kd.R_slice h0.out
   (first | subst D3 | (injection D3 with r0 s8 r1;have s9:=r0.symm;have t0:=r1.symm;clear r0 s8 r1;subst s9;subst t0))
   have p0:0 ≤ (0:Int):=(by omega)
   have p1:0 < (h5.length:Int):=of_decide_eq_true (by first | (with_reducible assumption) | assumption)
   obtain ⟨i1,s5,h7,h8⟩:=at_T23 (Kd.R_reads' h0.out).2.2 0 p0 p1
   cases s5
   have t8:(0 < h5.length) = True:=eq_true (by omega)
   (try rw [show ((0:Int)).toNat = 0 from rfl] at h7)
   (try rw [show 0 * 2 = 0 from rfl] at h7)
   (try rw [Addr.add_zero'] at h7)
   (try rw [show ((0:Int)).toNat = 0 from rfl] at h8)
   (try rw [show 0 * 2 = 0 from rfl] at h8)
   (try rw [Addr.add_zero'] at h8)
   replace p0:=eq_true p0
   replace p1:=eq_true p1
   have q4:0 ≤ (1:Int):=(by omega)
   have q5:1 < (h5.length:Int):=of_decide_eq_true (by first | (with_reducible assumption) | assumption)
   obtain ⟨s6,z4,i8,i9⟩:=at_T23 (Kd.R_reads' h0.out).2.2 1 q4 q5
   obtain rfl:i1 = s6:=(by injection z4)
   (try simp only [show (1:Int).toNat = 1 from rfl,Nat.reduceMul,Nat.reduceEqDiff,Go.Addr.add,↓reduceIte] at i8)
   (try simp only [show (1:Int).toNat = 1 from rfl,Nat.reduceMul,Nat.reduceEqDiff,Go.Addr.add,↓reduceIte] at i9)
   have D4:(1 < h5.length) = True:=eq_true (by omega)
   (try rw [show ((1:Int)).toNat = 1 from rfl] at i8)
   (try rw [show 1 * 2 = 2 from rfl] at i8)
   (try rw [show ((1:Int)).toNat = 1 from rfl] at i9)
   (try rw [show 1 * 2 = 2 from rfl] at i9)
   replace q4:=eq_true q4
   replace q5:=eq_true q5
   refine start_ (n:=44) (S:=fun w'=>w'.cell? ⟨b7,0,none⟩ = some (.int .i64 d3) ∧ w'.cell? ⟨b7,1,none⟩ = some (.int .i64 d5) ∧ w'.cell? ⟨d0,0,none⟩ = some (.int .i64 h9) ∧ w'.cell? ⟨d0,1,none⟩ = some (.int .i64 i2) ∧ w'.cell? ⟨b8,0,none⟩ = some (.int .i64 d2) ∧ w'.cell? ⟨b8,1,none⟩ = some (.int .i64 d4) ∧ w'.cell? ⟨d1,0,none⟩ = some (.int .i64 i0) ∧ w'.cell? ⟨d1,1,none⟩ = some (.int .i64 i3) ∧ w'.cell? i1 = some (.int .i64 ((rd_T23 h5 0).f0)) ∧ w'.cell? ⟨i1.block,i1.off + 1,none⟩ = some (.int .i64 ((rd_T23 h5 0).f1)) ∧ w'.cell? ⟨i1.block,i1.off + 2,none⟩ = some (.int .i64 ((rd_T23 h5 1).f0)) ∧ w'.cell? ⟨i1.block,i1.off + 2 + 1,none⟩ = some (.int .i64 ((rd_T23 h5 1).f1))) (ds:=[]) (ba 44 0) (by kernel_rfl) rfl rfl ⟨cz b2 0,cz b2 1,cz c0 0,cz c0 1,cz b3 0,cz b3 1,cz b9 0,cz b9 1,h7,h8,i8,i9⟩ (fun hHeld=>?_);refine with_tabW numnahlaw07_SharesTwo.tab5 numnahlaw07_SharesTwo.bits5 (fun HT_ HW_=>?_)
   generalize t1.drew = R5 at b6 b0 h0 b2 b3 b9 c0 HB h7 h8 i8 i9 hHeld ⊢
   refine pq 0 54 1 HT_ ?_
   refine pq 1 55 3 HT_ ?_
   refine pq 2 56 7 HT_ ?_
   refine pq 3 57 15 HT_ ?_
   refine pq 4 58 31 HT_ ?_
   refine pq 5 59 63 HT_ ?_
   refine pq 6 60 127 HT_ ?_
   refine pq 7 61 255 HT_ ?_
   refine pq 8 62 511 HT_ ?_
   refine pq 9 63 1023 HT_ ?_
   refine pq 10 64 2047 HT_ ?_
   refine tq 11 65 4095 HT_ HW_ hHeld ?_
   refine tq 12 66 8191 HT_ HW_ hHeld ?_
   refine pq 13 67 16383 HT_ ?_
   refine pq 14 68 32767 HT_ ?_
   refine pq 15 69 65535 HT_ ?_
   refine tq 16 70 131071 HT_ HW_ hHeld ?_
   refine tq 17 71 262143 HT_ HW_ hHeld ?_
   refine pq 18 72 524287 HT_ ?_
   refine pq 19 73 1048575 HT_ ?_
   refine pq 20 74 2097151 HT_ ?_
   refine pq 21 75 4194303 HT_ ?_
   refine pq 22 76 8388607 HT_ ?_
   refine pq 23 77 16777215 HT_ ?_
   refine pq 24 78 33554431 HT_ ?_
   refine pq 25 79 67108863 HT_ ?_
   refine pq 26 80 134217727 HT_ ?_
   refine pq 27 81 268435455 HT_ ?_
   refine tq 28 82 536870911 HT_ HW_ hHeld ?_
   refine tq 29 83 1073741823 HT_ HW_ hHeld ?_
   refine pq 30 84 2147483647 HT_ ?_
   refine pq 31 85 4294967295 HT_ ?_
   refine pq 32 86 8589934591 HT_ ?_
   refine pq 33 87 17179869183 HT_ ?_
   refine pq 34 88 34359738367 HT_ ?_
   refine tq 35 89 68719476735 HT_ HW_ hHeld ?_
   refine tq 36 90 137438953471 HT_ HW_ hHeld ?_
   refine pq 37 91 274877906943 HT_ ?_
   refine pq 38 92 549755813887 HT_ ?_
   refine pq 39 93 1099511627775 HT_ ?_
   refine pu 40 94 2199023255551 HT_ ?_
   refine pu 41 95 4398046511103 HT_ ?_
   refine pu 42 96 8796093022207 HT_ ?_
   refine pq 43 97 17592186044415 HT_ ?_
   refine done_ (done_of HT_.out (by kernel_rfl)) ?_
   try go_wp2
   go_meet
   case rel=>exact ⟨_,(true),(by first | rfl | (simp;done) | (simp [*];done)),H',⟨by first | omega | exact Nat.le_refl _⟩,⟨by (with_reducible repeat (first | apply Kd.R_alloc | apply Kd.R_drewN | apply Kd.R_drew));exact Kd.R_mono b0.out (fun _ hk=>trivial)⟩,⟨by (with_reducible repeat (first | refine blk_drewN ?_ _ | refine blk_drew ?_ | refine blk_alloc ?_ _));exact b2.out⟩,⟨by (with_reducible repeat (first | refine blk_drewN ?_ _ | refine blk_drew ?_ | refine blk_alloc ?_ _));exact b3.out⟩,⟨by (with_reducible repeat (first | refine blk_drewN ?_ _ | refine blk_drew ?_ | refine blk_alloc ?_ _));exact b9.out⟩,⟨by (with_reducible repeat (first | refine blk_drewN ?_ _ | refine blk_drew ?_ | refine blk_alloc ?_ _));exact c0.out⟩,⟨bl HB⟩⟩
  rw [if_neg A2] at H
  have D2:(!(((rd_T23 h5 1).f0) == d2) || (!(((rd_T23 h5 1).f1) == d4))) = false:=by simpa using A2
  clear A2
  replace H:=Option.bind_eq_some_iff.mp H
  obtain ⟨m8,D5,H⟩:=H
  replace H:(numnahlaw07_SharesTwo.j0 k e2 b4 (!m8) d3 d5 d2 d4) = some r:=H
  have P4:=A_ D5
  clear D5
  have H':=A_ H
  clear H
  try go_wp2
  replace b6:=rD b6
  replace b0:=rD b0
  replace h0:=rD h0
  replace b2:=kD b2
  replace b3:=kD b3
  replace b9:=kD b9
  replace c0:=kD c0
  replace HB:=bD HB
  obtain ⟨P5,J4,D6⟩:=Kd.R_slice h0.out
  (first | subst D6 | (injection D6 with r0 s8 r1;have s9:=r0.symm;have t0:=r1.symm;clear r0 s8 r1;subst s9;subst t0))
  have p0:0 ≤ (0:Int):=(by omega)
  have p1:0 < (h5.length:Int):=of_decide_eq_true (by first | (with_reducible assumption) | assumption)
  obtain ⟨i1,s5,h7,h8⟩:=at_T23 (Kd.R_reads' h0.out).2.2 0 p0 p1
  cases s5
  have t8:(0 < h5.length) = True:=eq_true (by omega)
  (try rw [show ((0:Int)).toNat = 0 from rfl] at h7)
  (try rw [show 0 * 2 = 0 from rfl] at h7)
  (try rw [Addr.add_zero'] at h7)
  (try rw [show ((0:Int)).toNat = 0 from rfl] at h8)
  (try rw [show 0 * 2 = 0 from rfl] at h8)
  (try rw [Addr.add_zero'] at h8)
  replace p0:=eq_true p0
  replace p1:=eq_true p1
  have q4:0 ≤ (1:Int):=(by omega)
  have q5:1 < (h5.length:Int):=of_decide_eq_true (by first | (with_reducible assumption) | assumption)
  obtain ⟨s6,z4,i8,i9⟩:=at_T23 (Kd.R_reads' h0.out).2.2 1 q4 q5
  obtain rfl:i1 = s6:=(by injection z4)
  (try simp only [show (1:Int).toNat = 1 from rfl,Nat.reduceMul,Nat.reduceEqDiff,Go.Addr.add,↓reduceIte] at i8)
  (try simp only [show (1:Int).toNat = 1 from rfl,Nat.reduceMul,Nat.reduceEqDiff,Go.Addr.add,↓reduceIte] at i9)
  have D4:(1 < h5.length) = True:=eq_true (by omega)
  (try rw [show ((1:Int)).toNat = 1 from rfl] at i8)
  (try rw [show 1 * 2 = 2 from rfl] at i8)
  (try rw [show ((1:Int)).toNat = 1 from rfl] at i9)
  (try rw [show 1 * 2 = 2 from rfl] at i9)
  replace q4:=eq_true q4
  replace q5:=eq_true q5
  refine start_ (n:=44) (S:=fun w'=>w'.cell? ⟨b7,0,none⟩ = some (.int .i64 d3) ∧ w'.cell? ⟨b7,1,none⟩ = some (.int .i64 d5) ∧ w'.cell? ⟨d0,0,none⟩ = some (.int .i64 h9) ∧ w'.cell? ⟨d0,1,none⟩ = some (.int .i64 i2) ∧ w'.cell? ⟨b8,0,none⟩ = some (.int .i64 d2) ∧ w'.cell? ⟨b8,1,none⟩ = some (.int .i64 d4) ∧ w'.cell? ⟨d1,0,none⟩ = some (.int .i64 i0) ∧ w'.cell? ⟨d1,1,none⟩ = some (.int .i64 i3) ∧ w'.cell? i1 = some (.int .i64 ((rd_T23 h5 0).f0)) ∧ w'.cell? ⟨i1.block,i1.off + 1,none⟩ = some (.int .i64 ((rd_T23 h5 0).f1)) ∧ w'.cell? ⟨i1.block,i1.off + 2,none⟩ = some (.int .i64 ((rd_T23 h5 1).f0)) ∧ w'.cell? ⟨i1.block,i1.off + 2 + 1,none⟩ = some (.int .i64 ((rd_T23 h5 1).f1))) (ds:=[]) (ba 44 0) (by kernel_rfl) rfl rfl ⟨cz b2 0,cz b2 1,cz c0 0,cz c0 1,cz b3 0,cz b3 1,cz b9 0,cz b9 1,h7,h8,i8,i9⟩ (fun hHeld=>?_);refine with_tabW numnahlaw07_SharesTwo.tab5 numnahlaw07_SharesTwo.bits5 (fun HT_ HW_=>?_)
  generalize t1.drew = R6 at b6 b0 h0 b2 b3 b9 c0 HB h7 h8 i8 i9 hHeld ⊢
  refine pq 0 54 1 HT_ ?_
  refine pq 1 55 3 HT_ ?_
  refine pq 2 56 7 HT_ ?_
  refine pq 3 57 15 HT_ ?_
  refine pq 4 58 31 HT_ ?_
  refine pq 5 59 63 HT_ ?_
  refine pq 6 60 127 HT_ ?_
  refine pq 7 61 255 HT_ ?_
  refine pq 8 62 511 HT_ ?_
  refine pq 9 63 1023 HT_ ?_
  refine pq 10 64 2047 HT_ ?_
  refine tq 11 65 4095 HT_ HW_ hHeld ?_
  refine tq 12 66 8191 HT_ HW_ hHeld ?_
  refine pq 13 67 16383 HT_ ?_
  refine pq 14 68 32767 HT_ ?_
  refine pq 15 69 65535 HT_ ?_
  refine tq 16 70 131071 HT_ HW_ hHeld ?_
  refine tq 17 71 262143 HT_ HW_ hHeld ?_
  refine pq 18 72 524287 HT_ ?_
  refine pq 19 73 1048575 HT_ ?_
  refine pq 20 74 2097151 HT_ ?_
  refine pq 21 75 4194303 HT_ ?_
  refine pq 22 76 8388607 HT_ ?_
  refine pq 23 77 16777215 HT_ ?_
  refine pq 24 78 33554431 HT_ ?_
  refine pq 25 79 67108863 HT_ ?_
  refine pq 26 80 134217727 HT_ ?_
  refine pq 27 81 268435455 HT_ ?_
  refine tq 28 82 536870911 HT_ HW_ hHeld ?_
  refine tq 29 83 1073741823 HT_ HW_ hHeld ?_
  refine pq 30 84 2147483647 HT_ ?_
  refine pq 31 85 4294967295 HT_ ?_
  refine pq 32 86 8589934591 HT_ ?_
  refine pq 33 87 17179869183 HT_ ?_
  refine pq 34 88 34359738367 HT_ ?_
  refine tq 35 89 68719476735 HT_ HW_ hHeld ?_
  refine tq 36 90 137438953471 HT_ HW_ hHeld ?_
  refine pq 37 91 274877906943 HT_ ?_
  refine pq 38 92 549755813887 HT_ ?_
  refine pq 39 93 1099511627775 HT_ ?_
  refine pq 40 94 2199023255551 HT_ ?_
  refine oq 41 95 4398046511103 HT_ (fun K hK=>?_)
  refine gq Try.func27 #[.slice (some i1) h5.length J4] ?_
  with_reducible refine (numnahlaw07_fit.calls k _ _ h5 m8 _ ?side1 ?side2 P4.out).mono ?_
  (case side1=>repeat (first | exact (Kd.R_reads' h0.out).2.2 | (with_reducible refine Kd.C_alloc ?_ _) | (with_reducible refine Kd.C_drewN ?_ _) | (with_reducible refine Kd.C_drew ?_)))
  (case side2=>exact (Kd.R_reads' h0.out).2.1)
  rintro e R7 ⟨rfl,hb⟩
  have P6:=(hb.cell (World.block_lt_of_cell? _ _ (hHeld.2.2.2.2.2.2.2.2.1))).trans (hHeld.2.2.2.2.2.2.2.2.1)
  have P7:=(hb.cell (World.block_lt_of_cell? _ _ (hHeld.2.2.2.2.2.2.2.2.2.1))).trans (hHeld.2.2.2.2.2.2.2.2.2.1)
  have L7:=(hb.cell (World.block_lt_of_cell? _ _ (hHeld.2.2.2.2.2.2.2.2.2.2.1))).trans (hHeld.2.2.2.2.2.2.2.2.2.2.1)
  have L8:=(hb.cell (World.block_lt_of_cell? _ _ (hHeld.2.2.2.2.2.2.2.2.2.2.2))).trans (hHeld.2.2.2.2.2.2.2.2.2.2.2)
  refine ⟨_,rfl,?_⟩
  replace b6:=rB b6 hb
  replace b0:=rB b0 hb
  replace h0:=rB h0 hb
  replace b2:=kB b2 hb
  replace b3:=kB b3 hb
  replace b9:=kB b9 hb
  replace c0:=kB c0 hb
  replace HB:=bB HB hb
  (try clear hb)
  refine hz hK (fun hHeld=>?_)
  clear hK K
  refine nq 95 ?_
  refine pq 42 96 8796093022207 HT_ ?_
  refine pq 43 97 17592186044415 HT_ ?_
  refine done_ (done_of HT_.out (by kernel_rfl)) ?_
  try go_wp2
  go_meet
  case rel=>exact ⟨_,(!m8),(by first | rfl | (simp;done) | (simp [*];done)),H',⟨by first | omega | exact Nat.le_refl _⟩,⟨by (with_reducible repeat (first | apply Kd.R_alloc | apply Kd.R_drewN | apply Kd.R_drew));exact Kd.R_mono b0.out (fun _ hk=>trivial)⟩,⟨by (with_reducible repeat (first | refine blk_drewN ?_ _ | refine blk_drew ?_ | refine blk_alloc ?_ _));exact b2.out⟩,⟨by (with_reducible repeat (first | refine blk_drewN ?_ _ | refine blk_drew ?_ | refine blk_alloc ?_ _));exact b3.out⟩,⟨by (with_reducible repeat (first | refine blk_drewN ?_ _ | refine blk_drew ?_ | refine blk_alloc ?_ _));exact b9.out⟩,⟨by (with_reducible repeat (first | refine blk_drewN ?_ _ | refine blk_drew ?_ | refine blk_alloc ?_ _));exact c0.out⟩,⟨bl HB⟩⟩
 case rest =>
  clear x1
  obtain ⟨kq,r2,rfl,HA,R8,m5,b2,b3,b9,c0,HB⟩:=hcut
  cases kq with
  | zero=>exact absurd HA.out (by simp [numnahlaw07_SharesTwo.j0])
  | succ t9 =>
   have H:=HA.out
   clear HA
   simp only [numnahlaw07_SharesTwo.j0] at H
   by_cases H8:r2 = true
   ·subst H8
    rw [if_pos rfl] at H
    exact absurd ((Option.some.inj H).trans HRT.out) (by decide)
   replace H8:=Bool.eq_false_iff.mpr H8
   subst H8
   rw [if_neg (show ¬ (false = true) by decide)] at H
   replace H:=Option.bind_eq_some_iff.mp H
   obtain ⟨⟨p2,p3⟩,A620,H⟩:=H
   replace H:((numnahref07_Whole.f e2).bind fun p9=>(if (p2 == p9.1 && (p3 == p9.2)) = true then (if 0 < (b4.length:Int) then ((numnahref07_Whole.f (rd b4 0)).bind fun n6=>((numnahref07_Less.f n6.1 n6.2 d3 d5).bind fun p4=>(if p4 = true then (some false) else (if 1 < (b4.length:Int) then ((numnahref07_Whole.f (rd b4 1)).bind fun m1=>((numnahref07_Less.f m1.1 m1.2 d2 d4).bind fun n3=>(if n3 = true then (some false) else ((numnahlaw07_awake.f t9).bind fun n1=>(some n1))))) else (none))))) else (none)) else (some false))) = some r:=H
   have P8:=A_ A620
   clear A620
   replace H:=Option.bind_eq_some_iff.mp H
   obtain ⟨⟨p5,p6⟩,A630,H⟩:=H
   replace H:(if (p2 == p5 && (p3 == p6)) = true then (if 0 < (b4.length:Int) then ((numnahref07_Whole.f (rd b4 0)).bind fun n6=>((numnahref07_Less.f n6.1 n6.2 d3 d5).bind fun p4=>(if p4 = true then (some false) else (if 1 < (b4.length:Int) then ((numnahref07_Whole.f (rd b4 1)).bind fun m1=>((numnahref07_Less.f m1.1 m1.2 d2 d4).bind fun n3=>(if n3 = true then (some false) else ((numnahlaw07_awake.f t9).bind fun n1=>(some n1))))) else (none))))) else (none)) else (some false)) = some r:=H
   have P9:=A_ A630
   clear A630
   by_cases s7:(p2 == p5 && (p3 == p6)) = true
   case neg =>
    rw [if_neg s7] at H
    have D7:(p2 == p5 && (p3 == p6)) = false:=by simpa using s7
    (try (have D8:decide (p2 = p5 && (p3 == p6)) = false:=by simpa using s7))
    (try (have D9:(p2 == p5 && (p3 == p6)) = false:=by simpa using s7))
    (try (have L9:¬ (p2 = p5 && (p3 == p6)):=by simpa using s7))
    clear s7
    exact absurd ((Option.some.inj H).trans HRT.out) (by decide)
   rw [if_pos s7] at H
   have D7:(p2 == p5 && (p3 == p6)) = true:=s7
   (try (have D8:decide (p2 = p5 && (p3 == p6)) = true:=by simpa using s7))
   (try (have D9:(p2 == p5 && (p3 == p6)) = true:=by simpa using s7))
   clear s7
   replace H:=gd H
   obtain ⟨M0,H⟩:=H
   have M1:=decide_eq_true M0
   have M2:decide (0 < b4.length) = true:=decide_eq_true (by omega)
   clear M0
   replace H:=Option.bind_eq_some_iff.mp H
   obtain ⟨⟨t2,t3⟩,A660,H⟩:=H
   replace H:((numnahref07_Less.f t2 t3 d3 d5).bind fun p4=>(if p4 = true then (some false) else (if 1 < (b4.length:Int) then ((numnahref07_Whole.f (rd b4 1)).bind fun m1=>((numnahref07_Less.f m1.1 m1.2 d2 d4).bind fun n3=>(if n3 = true then (some false) else ((numnahlaw07_awake.f t9).bind fun n1=>(some n1))))) else (none)))) = some r:=H
   have Q0:=A_ A660
   clear A660
   replace H:=Option.bind_eq_some_iff.mp H
   obtain ⟨p4,E0,H⟩:=H
   replace H:(if p4 = true then (some false) else (if 1 < (b4.length:Int) then ((numnahref07_Whole.f (rd b4 1)).bind fun m1=>((numnahref07_Less.f m1.1 m1.2 d2 d4).bind fun n3=>(if n3 = true then (some false) else ((numnahlaw07_awake.f t9).bind fun n1=>(some n1))))) else (none))) = some r:=H
   have Q1:=A_ E0
   clear E0
   by_cases H9:p4 = true
   ·subst H9
    rw [if_pos rfl] at H
    exact absurd ((Option.some.inj H).trans HRT.out) (by decide)
   replace H9:=Bool.eq_false_iff.mpr H9
   subst H9
   rw [if_neg (show ¬ (false = true) by decide)] at H
   replace H:=gd H
   obtain ⟨M3,H⟩:=H
   have M4:=decide_eq_true M3
   have M5:decide (1 < b4.length) = true:=decide_eq_true (by omega)
   clear M3
   replace H:=Option.bind_eq_some_iff.mp H
   obtain ⟨⟨t4,t5⟩,A750,H⟩:=H
   replace H:((numnahref07_Less.f t4 t5 d2 d4).bind fun n3=>(if n3 = true then (some false) else ((numnahlaw07_awake.f t9).bind fun n1=>(some n1)))) = some r:=H
   have Q2:=A_ A750
   clear A750
   replace H:=Option.bind_eq_some_iff.mp H
   obtain ⟨n3,E1,H⟩:=H
   replace H:(if n3 = true then (some false) else ((numnahlaw07_awake.f t9).bind fun n1=>(some n1))) = some r:=H
   have Q3:=A_ E1
   clear E1
   by_cases I0:n3 = true
   ·subst I0
    rw [if_pos rfl] at H
    exact absurd ((Option.some.inj H).trans HRT.out) (by decide)
   replace I0:=Bool.eq_false_iff.mpr I0
   subst I0
   rw [if_neg (show ¬ (false = true) by decide)] at H
   replace H:=Option.bind_eq_some_iff.mp H
   obtain ⟨n1,E2,H⟩:=H
   replace H:(some n1) = some r:=H
   have Q4:=A_ E2
   clear E2
   obtain rfl:=Option.some.inj H
   try go_wp2
   replace m5:=rD m5
   replace b2:=kD b2
   replace b3:=kD b3
   replace b9:=kD b9
   replace c0:=kD c0
   replace HB:=bD HB
   have z5:0 ≤ (0:Int):=(by omega)
   have z6:0 < (b4.length:Int):=of_decide_eq_true (by first | (with_reducible assumption) | assumption)
   obtain ⟨E3,J5,o2⟩:=Kd.at_int (Kd.R_reads' m5.out).2.2 0 z5 z6
   obtain rfl:b5 = E3:=(by injection J5)
   have M6:(0 < b4.length) = True:=eq_true (by omega)
   (try rw [show ((0:Int)).toNat = 0 from rfl] at o2)
   (try rw [Addr.add_zero'] at o2)
   replace z5:=eq_true z5
   replace z6:=eq_true z6
   have z7:0 ≤ (1:Int):=(by omega)
   have z8:1 < (b4.length:Int):=of_decide_eq_true (by first | (with_reducible assumption) | assumption)
   obtain ⟨E4,J6,o3⟩:=Kd.at_int (Kd.R_reads' m5.out).2.2 1 z7 z8
   obtain rfl:b5 = E4:=(by injection J6)
   (try simp only [show (1:Int).toNat = 1 from rfl,Nat.reduceMul,Nat.reduceEqDiff,Go.Addr.add,↓reduceIte] at o3)
   have M7:(1 < b4.length) = True:=eq_true (by omega)
   (try rw [show ((1:Int)).toNat = 1 from rfl] at o3)
   replace z7:=eq_true z7
   replace z8:=eq_true z8
   refine start_ (n:=28) (S:=fun w'=>w'.cell? ⟨b7,0,none⟩ = some (.int .i64 d3) ∧ w'.cell? ⟨b7,1,none⟩ = some (.int .i64 d5) ∧ w'.cell? ⟨b8,0,none⟩ = some (.int .i64 d2) ∧ w'.cell? ⟨b8,1,none⟩ = some (.int .i64 d4) ∧ w'.cell? b5 = some (.int .i64 (rd b4 0)) ∧ w'.cell? ⟨b5.block,b5.off + 1,none⟩ = some (.int .i64 (rd b4 1))) (ds:=[]) (ba 28 0) (by kernel_rfl) rfl rfl ⟨cz b2 0,cz b2 1,cz b3 0,cz b3 1,o2,o3⟩ (fun hHeld=>?_);refine with_tabW numnahlaw07_SharesTwo.tab7 numnahlaw07_SharesTwo.bits7 (fun HT_ HW_=>?_)
   generalize wc.drew = R9 at m5 b2 b3 b9 c0 HB o2 o3 hHeld ⊢
   refine pq 3 101 8 HT_ ?_
   refine tq 0 98 9 HT_ HW_ hHeld ?_
   refine tq 1 99 11 HT_ HW_ hHeld ?_
   refine oq 2 100 15 HT_ (fun K hK=>?_)
   refine gq Try.func28 #[.agg #[.int .i64 d3,.int .i64 d5],.agg #[.int .i64 d2,.int .i64 d4]] ?_
   with_reducible refine (numnahref07_Add.calls t9 d3 d5 d2 d4 p2 p3 _ P8.out).mono ?_
   rintro e S0 ⟨rfl,hb⟩
   have r3:=(hb.cell (World.block_lt_of_cell? _ _ (hHeld.2.2.2.2.1))).trans (hHeld.2.2.2.2.1)
   have r4:=(hb.cell (World.block_lt_of_cell? _ _ (hHeld.2.2.2.2.2))).trans (hHeld.2.2.2.2.2)
   refine ⟨_,rfl,?_⟩
   replace m5:=rB m5 hb
   replace b2:=kB b2 hb
   replace b3:=kB b3 hb
   replace b9:=kB b9 hb
   replace c0:=kB c0 hb
   replace HB:=bB HB hb
   (try clear hb)
   refine hz hK (fun hHeld=>?_)
   clear hK K
   refine nq 100 ?_
   refine oq 4 102 31 HT_ (fun K hK=>?_)
   refine gq Try.func23 #[.int .i64 e2] ?_
   with_reducible refine (numnahref07_Whole.calls e2 p5 p6 _ P9.out).mono ?_
   rintro e S1 ⟨rfl,hb⟩
   have r3:=(hb.cell (World.block_lt_of_cell? _ _ (hHeld.2.2.2.2.1))).trans (hHeld.2.2.2.2.1)
   have r4:=(hb.cell (World.block_lt_of_cell? _ _ (hHeld.2.2.2.2.2))).trans (hHeld.2.2.2.2.2)
   refine ⟨_,rfl,?_⟩
   replace m5:=rB m5 hb
   replace b2:=kB b2 hb
   replace b3:=kB b3 hb
   replace b9:=kB b9 hb
   replace c0:=kB c0 hb
   replace HB:=bB HB hb
   (try clear hb)
   refine hz hK (fun hHeld=>?_)
   clear hK K
   refine nq 102 ?_
   refine pq 5 103 63 HT_ ?_
   refine pq 6 104 127 HT_ ?_
   refine pq 7 105 255 HT_ ?_
   refine pq 8 106 511 HT_ ?_
   refine tq 9 107 1023 HT_ HW_ hHeld ?_
   refine tq 11 109 3071 HT_ HW_ hHeld ?_
   refine oq 10 108 4095 HT_ (fun K hK=>?_)
   refine gq Try.func23 #[.int .i64 (rd b4 0)] ?_
   with_reducible refine (numnahref07_Whole.calls (rd b4 0) t2 t3 _ Q0.out).mono ?_
   rintro e S2 ⟨rfl,hb⟩
   have r3:=(hb.cell (World.block_lt_of_cell? _ _ (hHeld.2.2.2.2.1))).trans (hHeld.2.2.2.2.1)
   have r4:=(hb.cell (World.block_lt_of_cell? _ _ (hHeld.2.2.2.2.2))).trans (hHeld.2.2.2.2.2)
   refine ⟨_,rfl,?_⟩
   replace m5:=rB m5 hb
   replace b2:=kB b2 hb
   replace b3:=kB b3 hb
   replace b9:=kB b9 hb
   replace c0:=kB c0 hb
   replace HB:=bB HB hb
   (try clear hb)
   refine hz hK (fun hHeld=>?_)
   clear hK K
   refine nq 108 ?_
   refine oq 12 110 8191 HT_ (fun K hK=>?_)
   refine gq Try.func30 #[.agg #[.int .i64 t2,.int .i64 t3],.agg #[.int .i64 d3,.int .i64 d5]] ?_
   with_reducible refine (numnahref07_Less.calls t2 t3 d3 d5 false _ Q1.out).mono ?_
   rintro e S3 ⟨rfl,hb⟩
   have r3:=(hb.cell (World.block_lt_of_cell? _ _ (hHeld.2.2.2.2.1))).trans (hHeld.2.2.2.2.1)
   have r4:=(hb.cell (World.block_lt_of_cell? _ _ (hHeld.2.2.2.2.2))).trans (hHeld.2.2.2.2.2)
   refine ⟨_,rfl,?_⟩
   replace m5:=rB m5 hb
   replace b2:=kB b2 hb
   replace b3:=kB b3 hb
   replace b9:=kB b9 hb
   replace c0:=kB c0 hb
   replace HB:=bB HB hb
   (try clear hb)
   refine hz hK (fun hHeld=>?_)
   clear hK K
   refine nq 110 ?_
   refine pq 13 111 16383 HT_ ?_
   refine pq 14 112 32767 HT_ ?_
   refine pq 15 113 65535 HT_ ?_
   refine pq 16 114 131071 HT_ ?_
   refine pq 17 115 262143 HT_ ?_
   refine tq 18 116 524287 HT_ HW_ hHeld ?_
   refine tq 20 118 1572863 HT_ HW_ hHeld ?_
   refine oq 19 117 2097151 HT_ (fun K hK=>?_)
   refine gq Try.func23 #[.int .i64 (rd b4 1)] ?_
   with_reducible refine (numnahref07_Whole.calls (rd b4 1) t4 t5 _ Q2.out).mono ?_
   rintro e S4 ⟨rfl,hb⟩
   have r3:=(hb.cell (World.block_lt_of_cell? _ _ (hHeld.2.2.2.2.1))).trans (hHeld.2.2.2.2.1)
   have r4:=(hb.cell (World.block_lt_of_cell? _ _ (hHeld.2.2.2.2.2))).trans (hHeld.2.2.2.2.2)
   refine ⟨_,rfl,?_⟩
   replace m5:=rB m5 hb
   replace b2:=kB b2 hb
   replace b3:=kB b3 hb
   replace b9:=kB b9 hb
   replace c0:=kB c0 hb
   replace HB:=bB HB hb
   (try clear hb)
   refine hz hK (fun hHeld=>?_)
   clear hK K
   refine nq 117 ?_
   refine oq 21 119 4194303 HT_ (fun K hK=>?_)
   refine gq Try.func30 #[.agg #[.int .i64 t4,.int .i64 t5],.agg #[.int .i64 d2,.int .i64 d4]] ?_
   with_reducible refine (numnahref07_Less.calls t4 t5 d2 d4 false _ Q3.out).mono ?_
   rintro e S5 ⟨rfl,hb⟩
   have r3:=(hb.cell (World.block_lt_of_cell? _ _ (hHeld.2.2.2.2.1))).trans (hHeld.2.2.2.2.1)
   have r4:=(hb.cell (World.block_lt_of_cell? _ _ (hHeld.2.2.2.2.2))).trans (hHeld.2.2.2.2.2)
   refine ⟨_,rfl,?_⟩
   replace m5:=rB m5 hb
   replace b2:=kB b2 hb
   replace b3:=kB b3 hb
   replace b9:=kB b9 hb
   replace c0:=kB c0 hb
   replace HB:=bB HB hb
   (try clear hb)
   refine hz hK (fun hHeld=>?_)
   clear hK K
   refine nq 119 ?_
   refine pq 22 120 8388607 HT_ ?_
   refine pq 23 121 16777215 HT_ ?_
   refine pq 24 122 33554431 HT_ ?_
   refine oq 25 123 67108863 HT_ (fun K hK=>?_)
   refine gq Try.func22 #[] ?_
   with_reducible refine (numnahlaw07_awake.calls t9  n1 _ Q4.out).mono ?_
   rintro e S6 ⟨rfl,hb⟩
   have r3:=(hb.cell (World.block_lt_of_cell? _ _ (hHeld.2.2.2.2.1))).trans (hHeld.2.2.2.2.1)
   have r4:=(hb.cell (World.block_lt_of_cell? _ _ (hHeld.2.2.2.2.2))).trans (hHeld.2.2.2.2.2)
   refine ⟨_,rfl,?_⟩
   replace m5:=rB m5 hb
   replace b2:=kB b2 hb
   replace b3:=kB b3 hb
   replace b9:=kB b9 hb
   replace c0:=kB c0 hb
   replace HB:=bB HB hb
   (try clear hb)
   refine hz hK (fun hHeld=>?_)
   clear hK K
   refine nq 123 ?_
   refine pq 26 124 134217727 HT_ ?_
   refine pq 27 6 268435455 HT_ ?_
   refine done_ (done_of HT_.out (by kernel_rfl)) ?_
   try go_wp2
   go_ret
   exact ⟨by first | rfl | (simp [errW_none,errW_some] <;> rfl) | (simp [*,errW_none,errW_some] <;> rfl),bl HB⟩
def numnahlaw07_SharesTwo.Pure:Prop:=∀ (a0:Int) (a1:Int) (a2:Int),(Lit.int .i64 a0).wf = true → (Lit.int .i64 a1).wf = true → (Lit.int .i64 a2).wf = true → ∃ k,numnahlaw07_SharesTwo.f k a0 a1 a2 = some true
theorem numnahlaw07_SharesTwo.walk (P:numnahlaw07_SharesTwo.Pure) (a0:Int) (a1:Int) (a2:Int) (w:World) (w0:(Lit.int .i64 a0).wf = true) (w1:(Lit.int .i64 a1).wf = true) (w2:(Lit.int .i64 a2).wf = true) :
  Calls Try.prog 7 #[.int .i64 a0,.int .i64 a1,.int .i64 a2] w fun e w'=>e = .returned (.bool true) ∧ Below w.heap.size w w':=by
 obtain ⟨k,h⟩:=P a0 a1 a2 w0 w1 w2
 refine (numnahlaw07_SharesTwo.calls k a0 a1 a2 true w h rfl).mono ?_
 rintro e w' ⟨rfl,hd⟩
 exact ⟨rfl,hd⟩
end Go.Proofs.Ytjohcjfmlhihbaa.G
set_option linter.unusedSectionVars false
namespace Go.Proofs.Ytjohcjfmlhihbaa.P
open Go Go.RowKit Go.Proofs.Ytjohcjfmlhihbaa.G
open Go.Proofs.YtjohcjfmlhihbaaW.PrintWords Go.Proofs.YtjohcjfmlhihbaaW.PrintMore
theorem two_Pure:numnahlaw07_SharesTwo.Pure:=by
 intro a0 a1 a2 _ _ _
 refine Ev.rounds ?_
 unfold numnahlaw07_SharesTwo.f
 obtain ⟨l,E,h,h0,h1,hlen,ht⟩:=ev_tame [a1,a2] a0
 have hl2:l.length = 2:=by have:=hlen (by simp);simpa using this
 obtain ⟨p,q,rfl⟩:∃ p q,l = [p,q]:=by
  match l,hl2 with
  | [p,q],_=>exact ⟨p,q,rfl⟩
 have hc:clB [p,q] E = true:=decide_eq_true ⟨h,h0,h1⟩
 have hs2:sI [q,p] = sI [p,q]:=by simp [sI];omega
 have hc':clB [q,p] E = true:=decide_eq_true ⟨⟨by simp,by simp,fun x hx=>h.mem x (by simpa [or_comm] using hx)⟩,h0,by rw [hs2];exact h1⟩
 have g1:=ev_Garment hc
 have g2:=ev_Garment hc'
 obtain ⟨x,hx,ex,_⟩:=award_one h h0 h1 (r:=3) (by omega)
 have hfx:=award_fit h h0 h1 hx
 obtain ⟨φ,hf,rfl,tx,wx⟩:=award_within h h0 h1 hx
 have cp:((p:Int):Rat) ∈ cl [p,q]:=by simp [cl]
 have cq:((q:Int):Rat) ∈ cl [p,q]:=by simp [cl]
 have hsum:φ (p:Rat) + φ (q:Rat) = (E:Rat):=by
  have:tot ((cl [p,q]).map φ) = φ (p:Rat) + (φ (q:Rat) + 0):=rfl
  rw [this] at tx
  grind
 have t1:garR (E:Rat) (p:Rat) (q:Rat) = φ (p:Rat):=by rw [← hsum];exact tal_pair hf _ _
 have t2:garR (E:Rat) (q:Rat) (p:Rat) = φ (q:Rat):=by rw [← hsum,Rat.add_comm];exact tal_pair hf _ _
 rw [t1,t2] at g1 g2
 have sx:=award_sm h h0 h1 hx
 have sp:=(sx _ (List.mem_map.2 ⟨_,cp,rfl⟩)).2
 have sq:=(sx _ (List.mem_map.2 ⟨_,cq,rfl⟩)).2
 have hp:=h.mem p (by simp)
 have hq:=h.mem q (by simp)
 have ea:=ev_radd (sp.fits sq (by decide) (by decide))
 rw [hsum,whole_num,whole_den] at ea
 have l1:=rless ((Sm.int (n:=p) (A:=1000) (by omega)).fits sp (by decide) (by decide))
 have l2:=rless ((Sm.int (n:=q) (A:=1000) (by omega)).fits sq (by decide) (by decide))
 rw [whole_num,whole_den,decide_eq_false (by have:=(wx _ cp).2;grind)] at l1
 rw [whole_num,whole_den,decide_eq_false (by have:=(wx _ cq).2;grind)] at l2
 have l1':numnahref07_Less.f p 1 _ _ = _:=l1
 have l2':numnahref07_Less.f q 1 _ _ = _:=l2
 have hj:Ev (fun k=>numnahlaw07_SharesTwo.j0 k E [p,q] false (φ (p:Rat)).num ((φ (p:Rat)).den:Int) (φ (q:Rat)).num ((φ (q:Rat)).den:Int)) true:=by
  obtain ⟨K1,e1⟩:=ea
  obtain ⟨K2,e2⟩:=ev_awake
  refine ⟨K1 + K2 + 1,fun k hk=>?_⟩
  obtain ⟨m,rfl⟩:∃ m,k = m + 1:=⟨k - 1,by omega⟩
  have f1:numnahref07_Add.f m _ _ _ _ = some (E,1):=e1 m (by omega)
  have f2:numnahlaw07_awake.f m = some true:=e2 m (by omega)
  have r0:rd [p,q] 0 = p:=rfl
  have r1:rd [p,q] 1 = q:=rfl
  have n0:(0:Int) < (([p,q]:List Int).length:Int):=by simp
  have n1:(1:Int) < (([p,q]:List Int).length:Int):=by simp
  show numnahlaw07_SharesTwo.j0 (m + 1) _ _ _ _ _ _ _ = _
  rw [numnahlaw07_SharesTwo.j0,if_neg (by decide)]
  simp only [f1,f2,Option.bind_some,numnahref07_Whole.f,beq_self_eq_true,Bool.and_self,if_true,n0,n1,r0,r1,l1',l2',Bool.false_eq_true,if_false]
 have hxE:encL ((cl [p,q]).map φ) = [encQ (φ (p:Rat)),encQ (φ (q:Rat))]:=rfl
 rw [hxE] at ex hfx
 obtain ⟨K1,e1⟩:=ht
 obtain ⟨K2,e2⟩:=g1
 obtain ⟨K3,e3⟩:=g2
 obtain ⟨K4,e4⟩:=ex
 obtain ⟨K5,e5⟩:=hfx
 obtain ⟨K6,e6⟩:=hj
 refine ⟨K1 + K2 + K3 + K4 + K5 + K6,fun m hk=>?_⟩
 have f1:numnahlaw07_tame.f m [a1,a2] a0 = _:=e1 m (by omega)
 have f2:=e2 m (by omega)
 have f3:=e3 m (by omega)
 have f4:shares_Award.f m 3 _ _ = _:=e4 m (by omega)
 have f5:=e5 m (by omega)
 have f6:=e6 m (by omega)
 have r0:rd [p,q] 0 = p:=rfl
 have r1:rd [p,q] 1 = q:=rfl
 have n0:(0:Int) < (([p,q]:List Int).length:Int):=by simp
 have n1:(1:Int) < (([p,q]:List Int).length:Int):=by simp
 have s0:∀ u v:S23,rd_T23 [u,v] 0 = u:=fun _ _=>rfl
 have s1:∀ u v:S23,rd_T23 [u,v] 1 = v:=fun _ _=>rfl
 have m0:∀ u v:S23,(0:Int) < (([u,v]:List S23).length:Int):=fun _ _=>by simp
 have m1:∀ u v:S23,(1:Int) < (([u,v]:List S23).length:Int):=fun _ _=>by simp
 have m2:∀ u v:S23,(([u,v]:List S23).length:Int) = 2:=fun _ _=>by simp
 simp only [f1,Option.bind_some,n0,n1,if_true,r0,r1,f2,f3,f4,beq_self_eq_true,Bool.not_true,Bool.or_self,Bool.false_eq_true,if_false,m0,m1,m2,s0,s1,f5]
 simp only [encQ,beq_self_eq_true,Bool.not_true,Bool.or_self,Bool.false_eq_true,if_false]
 exact f6
end Go.Proofs.Ytjohcjfmlhihbaa.P

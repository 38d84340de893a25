/- Several texts, joined. -/
import Derived.Test.YthpahlkhiknofaaQRealizes1
set_option linter.unusedVariables false
set_option linter.unusedSimpArgs false
namespace Go.Proofs.Ythpahlkhiknofaa.G
open Go.RowKit Go.Proofs.YthpahlkhiknofaaW.PrintWords Go.Proofs.YthpahlkhiknofaaW.PrintLast Go.Proofs.YthpahlkhiknofaaW.PrintMore
set_option maxHeartbeats 8000000
set_option maxRecDepth 100000
attribute [local go_sem] max2_int min2_int max_two min_two max_three min_three max_four min_four   -- for this text's walks alone
mutual
def numnahref01_Balance.j0:Nat → ByteArray → List (List Int) → Bool → Option (Bool)
 | 0,_,_,_=>none
 | k + 1,x0,x1,x39=>if x39 = true then (some false) else ((numnahref01_Vars.f k x0).bind fun t185=>(if 0 ≤ t185 then (if (t185:Int).toNat ≤ 35184372088832 then (numnahref01_Balance.l0 k x0 x1 t185 (List.replicate (t185:Int).toNat 0) 0) else (none)) else (none)))
def numnahref01_Balance.l0:Nat → ByteArray → List (List Int) → Int → List Int → Int → Option (Bool)
 | 0,_,_,_,_,_=>none
 | k + 1,x0,x1,x5,x6,x7=>if 0 < (x1.length:Int) then (if x7 < ((rd_L3 x1 0).length:Int) then (if 0 ≤ x7 then (if 1 < (x1.length:Int) then (if x7 < ((rd_L3 x1 1).length:Int) then (if (rd (rd_L3 x1 0) x7) < 0 then (numnahref01_Balance.j2 k x0 x1 x5 x6 x7 (rd (rd_L3 x1 0) x7) (rd (rd_L3 x1 1) x7) true) else (if (rd (rd_L3 x1 0) x7) ≥ (x0.size:Int) then (numnahref01_Balance.j2 k x0 x1 x5 x6 x7 (rd (rd_L3 x1 0) x7) (rd (rd_L3 x1 1) x7) true) else (if (rd (rd_L3 x1 1) x7) < 0 then (numnahref01_Balance.j2 k x0 x1 x5 x6 x7 (rd (rd_L3 x1 0) x7) (rd (rd_L3 x1 1) x7) true) else (if (rd (rd_L3 x1 1) x7) ≥ (x0.size:Int) then (numnahref01_Balance.j2 k x0 x1 x5 x6 x7 (rd (rd_L3 x1 0) x7) (rd (rd_L3 x1 1) x7) true) else (if 0 ≤ (rd (rd_L3 x1 0) x7) then (if (rd (rd_L3 x1 0) x7) < (x0.size:Int) then (if (bt x0 (rd (rd_L3 x1 0) x7)) = 49 then (if 0 ≤ (rd (rd_L3 x1 1) x7) then (if (rd (rd_L3 x1 1) x7) < (x0.size:Int) then (numnahref01_Balance.j2 k x0 x1 x5 x6 x7 (rd (rd_L3 x1 0) x7) (rd (rd_L3 x1 1) x7) ((bt x0 (rd (rd_L3 x1 1) x7)) != 48)) else (none)) else (none)) else (numnahref01_Balance.j2 k x0 x1 x5 x6 x7 (rd (rd_L3 x1 0) x7) (rd (rd_L3 x1 1) x7) true)) else (none)) else (none)))))) else (none)) else (none)) else (none)) else (numnahref01_Balance.l2 k x5 x6 0)) else (none)
def numnahref01_Balance.j2:Nat → ByteArray → List (List Int) → Int → List Int → Int → Int → Int → Bool → Option (Bool)
 | 0,_,_,_,_,_,_,_,_=>none
 | k + 1,x0,x1,x5,x6,x7,x8,x9,x93=>if x93 = true then (some false) else (numnahref01_Balance.l1 k x0 x1 x5 x6 x7 x8 x9 0)
def numnahref01_Balance.l1:Nat → ByteArray → List (List Int) → Int → List Int → Int → Int → Int → Int → Option (Bool)
 | 0,_,_,_,_,_,_,_,_=>none
 | k + 1,x0,x1,x5,x6,x7,x8,x9,x10=>if x10 < x5 then (if 0 ≤ x10 then (if x10 < (x6.length:Int) then (numnahref01_Balance.l1 k x0 x1 x5 (x6.set (x10:Int).toNat (wrap64 ((wrap64 ((rd x6 x10) + (Int.tmod (shr .i64 x8 x10) 2))) - (Int.tmod (shr .i64 x9 x10) 2)))) x7 x8 x9 (wrap64 (x10 + 1))) else (none)) else (none)) else (numnahref01_Balance.l0 k x0 x1 x5 x6 (wrap64 (x7 + 1)))
def numnahref01_Balance.l2:Nat → Int → List Int → Int → Option (Bool)
 | 0,_,_,_=>none
 | k + 1,x5,x6,x11=>if x11 < x5 then (if 0 ≤ x11 then (if x11 < (x6.length:Int) then (if (rd x6 x11) = 0 then (numnahref01_Balance.l2 k x5 x6 (wrap64 (x11 + 1))) else (some false)) else (none)) else (none)) else (some true)
end
def numnahref01_Balance.f (k:Nat) (a0:ByteArray) (l1:List (List Int)):Option (Bool):=if (l1.length:Int) = 2 then (if 0 < (l1.length:Int) then (if 1 < (l1.length:Int) then (if ((rd_L3 l1 0).length:Int) = ((rd_L3 l1 1).length:Int) then (if ((rd_L3 l1 0).length:Int) < 1 then (numnahref01_Balance.j0 k a0 l1 true) else (numnahref01_Balance.j0 k a0 l1 (decide (((rd_L3 l1 0).length:Int) > 1000)))) else (numnahref01_Balance.j0 k a0 l1 true)) else (none)) else (none)) else (numnahref01_Balance.j0 k a0 l1 true)
theorem numnahref01_Balance.mono_l:∀ k,(∀ y0 y1 y2,LeO (numnahref01_Balance.j0 k y0 y1 y2) (numnahref01_Balance.j0 (k + 1) y0 y1 y2)) ∧ (∀ y0 y1 y2 y3 y4,LeO (numnahref01_Balance.l0 k y0 y1 y2 y3 y4) (numnahref01_Balance.l0 (k + 1) y0 y1 y2 y3 y4)) ∧ (∀ y0 y1 y2 y3 y4 y5 y6 y7,LeO (numnahref01_Balance.j2 k y0 y1 y2 y3 y4 y5 y6 y7) (numnahref01_Balance.j2 (k + 1) y0 y1 y2 y3 y4 y5 y6 y7)) ∧ (∀ y0 y1 y2 y3 y4 y5 y6 y7,LeO (numnahref01_Balance.l1 k y0 y1 y2 y3 y4 y5 y6 y7) (numnahref01_Balance.l1 (k + 1) y0 y1 y2 y3 y4 y5 y6 y7)) ∧ (∀ y0 y1 y2,LeO (numnahref01_Balance.l2 k y0 y1 y2) (numnahref01_Balance.l2 (k + 1) y0 y1 y2))
 | 0=>⟨fun _ _ _ r h=>by simp [numnahref01_Balance.j0] at h,fun _ _ _ _ _ r h=>by simp [numnahref01_Balance.l0] at h,fun _ _ _ _ _ _ _ _ r h=>by simp [numnahref01_Balance.j2] at h,fun _ _ _ _ _ _ _ _ r h=>by simp [numnahref01_Balance.l1] at h,fun _ _ _ r h=>by simp [numnahref01_Balance.l2] at h⟩
 | k + 1=>by
  obtain ⟨ih0,ih1,ih2,ih3,ih4⟩:=numnahref01_Balance.mono_l k
  refine ⟨?_,?_,?_,?_,?_⟩
  ·intro y0 y1 y2
   unfold numnahref01_Balance.j0
   repeat' first
   | (with_reducible exact ih0 _ _ _)
   | (with_reducible exact ih1 _ _ _ _ _)
   | (with_reducible exact ih2 _ _ _ _ _ _ _ _)
   | (with_reducible exact ih3 _ _ _ _ _ _ _ _)
   | (with_reducible exact ih4 _ _ _)
   | (with_reducible exact numnahref01_Vars.mono _ _)
   | (with_reducible exact LeO.refl _)
   | (with_reducible exact LeO.none _)
   | (with_reducible refine LeO.ite ?_ ?_)
   | (with_reducible refine LeO.bind ?_ (fun _=>?_))
   | exact ih0 _ _ _
   | exact ih1 _ _ _ _ _
   | exact ih2 _ _ _ _ _ _ _ _
   | exact ih3 _ _ _ _ _ _ _ _
   | exact ih4 _ _ _
   | exact numnahref01_Vars.mono _ _
   | exact LeO.none _
   | refine LeO.ite ?_ ?_
   | refine LeO.bind ?_ (fun _=>?_)
  ·intro y0 y1 y2 y3 y4
   unfold numnahref01_Balance.l0
   repeat' first
   | (with_reducible exact ih0 _ _ _)
   | (with_reducible exact ih1 _ _ _ _ _)
   | (with_reducible exact ih2 _ _ _ _ _ _ _ _)
   | (with_reducible exact ih3 _ _ _ _ _ _ _ _)
   | (with_reducible exact ih4 _ _ _)
   | (with_reducible exact numnahref01_Vars.mono _ _)
   | (with_reducible exact LeO.refl _)
   | (with_reducible exact LeO.none _)
   | (with_reducible refine LeO.ite ?_ ?_)
   | (with_reducible refine LeO.bind ?_ (fun _=>?_))
   | exact ih0 _ _ _
   | exact ih1 _ _ _ _ _
   | exact ih2 _ _ _ _ _ _ _ _
   | exact ih3 _ _ _ _ _ _ _ _
   | exact ih4 _ _ _
   | exact numnahref01_Vars.mono _ _
   | exact LeO.none _
   | refine LeO.ite ?_ ?_
   | refine LeO.bind ?_ (fun _=>?_)
  ·intro y0 y1 y2 y3 y4 y5 y6 y7
   unfold numnahref01_Balance.j2
   repeat' first
   | (with_reducible exact ih0 _ _ _)
   | (with_reducible exact ih1 _ _ _ _ _)
   | (with_reducible exact ih2 _ _ _ _ _ _ _ _)
   | (with_reducible exact ih3 _ _ _ _ _ _ _ _)
   | (with_reducible exact ih4 _ _ _)
   | (with_reducible exact numnahref01_Vars.mono _ _)
   | (with_reducible exact LeO.refl _)
   | (with_reducible exact LeO.none _)
   | (with_reducible refine LeO.ite ?_ ?_)
   | (with_reducible refine LeO.bind ?_ (fun _=>?_))
   | exact ih0 _ _ _
   | exact ih1 _ _ _ _ _
   | exact ih2 _ _ _ _ _ _ _ _
   | exact ih3 _ _ _ _ _ _ _ _
   | exact ih4 _ _ _
   | exact numnahref01_Vars.mono _ _
   | exact LeO.none _
   | refine LeO.ite ?_ ?_
   | refine LeO.bind ?_ (fun _=>?_)
  ·intro y0 y1 y2 y3 y4 y5 y6 y7
   unfold numnahref01_Balance.l1
   repeat' first
   | (with_reducible exact ih0 _ _ _)
   | (with_reducible exact ih1 _ _ _ _ _)
   | (with_reducible exact ih2 _ _ _ _ _ _ _ _)
   | (with_reducible exact ih3 _ _ _ _ _ _ _ _)
   | (with_reducible exact ih4 _ _ _)
   | (with_reducible exact numnahref01_Vars.mono _ _)
   | (with_reducible exact LeO.refl _)
   | (with_reducible exact LeO.none _)
   | (with_reducible refine LeO.ite ?_ ?_)
   | (with_reducible refine LeO.bind ?_ (fun _=>?_))
   | exact ih0 _ _ _
   | exact ih1 _ _ _ _ _
   | exact ih2 _ _ _ _ _ _ _ _
   | exact ih3 _ _ _ _ _ _ _ _
   | exact ih4 _ _ _
   | exact numnahref01_Vars.mono _ _
   | exact LeO.none _
   | refine LeO.ite ?_ ?_
   | refine LeO.bind ?_ (fun _=>?_)
  intro y0 y1 y2
  unfold numnahref01_Balance.l2
  repeat' first
  | (with_reducible exact ih0 _ _ _)
  | (with_reducible exact ih1 _ _ _ _ _)
  | (with_reducible exact ih2 _ _ _ _ _ _ _ _)
  | (with_reducible exact ih3 _ _ _ _ _ _ _ _)
  | (with_reducible exact ih4 _ _ _)
  | (with_reducible exact numnahref01_Vars.mono _ _)
  | (with_reducible exact LeO.refl _)
  | (with_reducible exact LeO.none _)
  | (with_reducible refine LeO.ite ?_ ?_)
  | (with_reducible refine LeO.bind ?_ (fun _=>?_))
  | exact ih0 _ _ _
  | exact ih1 _ _ _ _ _
  | exact ih2 _ _ _ _ _ _ _ _
  | exact ih3 _ _ _ _ _ _ _ _
  | exact ih4 _ _ _
  | exact numnahref01_Vars.mono _ _
  | exact LeO.none _
  | refine LeO.ite ?_ ?_
  | refine LeO.bind ?_ (fun _=>?_)
theorem numnahref01_Balance.mono:∀ a0 a1 k,LeO (numnahref01_Balance.f k a0 a1) (numnahref01_Balance.f (k + 1) a0 a1):=by
 intro a0 a1 k
 obtain ⟨ih0,ih1,ih2,ih3,ih4⟩:=numnahref01_Balance.mono_l k
 unfold numnahref01_Balance.f
 repeat' first
   | (with_reducible exact ih0 _ _ _)
   | (with_reducible exact ih1 _ _ _ _ _)
   | (with_reducible exact ih2 _ _ _ _ _ _ _ _)
   | (with_reducible exact ih3 _ _ _ _ _ _ _ _)
   | (with_reducible exact ih4 _ _ _)
   | (with_reducible exact numnahref01_Vars.mono _ _)
   | (with_reducible exact LeO.refl _)
   | (with_reducible exact LeO.none _)
   | (with_reducible refine LeO.ite ?_ ?_)
   | (with_reducible refine LeO.bind ?_ (fun _=>?_))
   | exact ih0 _ _ _
   | exact ih1 _ _ _ _ _
   | exact ih2 _ _ _ _ _ _ _ _
   | exact ih3 _ _ _ _ _ _ _ _
   | exact ih4 _ _ _
   | exact numnahref01_Vars.mono _ _
   | exact LeO.none _
   | refine LeO.ite ?_ ?_
   | refine LeO.bind ?_ (fun _=>?_)
def numnahref01_Balance.T1:Bool × List (List Nat × List Nat):=(true,[([],[]),([0],[0]),([1],[1]),([2],[2]),([3],[3]),([4,3],[3,4]),([5,3],[3,5]),([6,3],[3,6]),([3],[3]),([8,3],[3,8]),([9,3],[3,9]),([10,3],[3,10]),([7,11,3],[3,7,11]),([3,12],[3,12]),([13,3],[13]),([14],[14]),([15,14],[14,15]),([16,14],[14,16]),([17,14],[14,17]),([18,14],[14,18]),([14,19],[14,19]),([20,14],[20]),([21],[21]),([22,21],[21,22]),([23,21],[21,23]),([24,21],[21,24]),([25,21],[21,25]),([21,26],[21,26])])
def numnahref01_Balance.B1:List Nat:=[0,1,3,7,15,31,63,127,15,271,783,1807,4095,8191,16383,32767,65535,131071,262143,524287,1048575,2097151,4194303,8388607,16777215,33554431,67108863,134217727]
theorem numnahref01_Balance.tab1:rtab .any (opsOf Try.f26 1) = numnahref01_Balance.T1:=by kernel_rfl
theorem numnahref01_Balance.bits1:waitsOk numnahref01_Balance.T1.2 numnahref01_Balance.B1 = true:=by kernel_rfl
def numnahref01_Balance.T8:Bool × List (List Nat × List Nat):=(true,[([],[]),([0],[0]),([1],[1]),([],[]),([2,3],[2,3]),([4],[4]),([],[]),([6],[6]),([7],[7]),([],[]),([8,9],[8,9]),([10],[10]),([5,0,1,2,3,4,5],[5]),([11,12,0,1,2,3,4,5,6,7,8,9,10,11,12],[11])])
def numnahref01_Balance.B8:List Nat:=[0,1,3,0,15,31,0,64,192,0,960,1984,63,8191]
theorem numnahref01_Balance.tab8:rtab .any (opsOf Try.f26 8) = numnahref01_Balance.T8:=by kernel_rfl
theorem numnahref01_Balance.bits8:waitsOk numnahref01_Balance.T8.2 numnahref01_Balance.B8 = true:=by kernel_rfl
def numnahref01_Balance.T14:Bool × List (List Nat × List Nat):=(true,[([],[]),([],[]),([],[]),([],[]),([2,3],[2,3]),([4],[4]),([],[]),([],[]),([6,7],[6,7]),([8],[8]),([5,9],[5,9]),([],[]),([],[]),([11,12],[11,12]),([13],[13]),([10,14],[10,14]),([0,1,0,1,2,3,4,5,6,7,8,9,10,11,12,13,14,15],[0,1]),([16,15,0,1,2,3,4,5,6,7,8,9,10,11,12,13,14,15],[15,16])])
def numnahref01_Balance.B14:List Nat:=[0,0,0,0,12,28,0,0,192,448,1020,0,0,6144,14336,32764,65535,131071]
theorem numnahref01_Balance.tab14:rtab .any (opsOf Try.f26 14) = numnahref01_Balance.T14:=by kernel_rfl
theorem numnahref01_Balance.bits14:waitsOk numnahref01_Balance.T14.2 numnahref01_Balance.B14 = true:=by kernel_rfl
theorem numnahref01_Balance.calls (k:Nat) (a0:ByteArray) (A1:Option Addr) (c1:Nat) (l1:List (List Int)) (r:Bool) (w:World) (hr1:Kd.C (Kd.slice 3 (Kd.int .i64)) w A1 l1.length l1) (hc1:l1.length ≤ c1) (h:numnahref01_Balance.f k a0 l1 = some r) :
  Calls Try.prog 26 #[.string a0,.slice A1 l1.length c1] w fun e w'=>e = .returned (.bool r) ∧ Below w.heap.size w w':=by
 have HR1:=Aside0.mk hr1
 have HC1:=Aside0.mk hc1
 clear hr1 hc1
 have HB:=Aside0.mk (Below.refl w.heap.size w)
 have H:(if (l1.length:Int) = 2 then (if 0 < (l1.length:Int) then (if 1 < (l1.length:Int) then (if ((rd_L3 l1 0).length:Int) = ((rd_L3 l1 1).length:Int) then (if ((rd_L3 l1 0).length:Int) < 1 then (numnahref01_Balance.j0 k a0 l1 true) else (numnahref01_Balance.j0 k a0 l1 (decide (((rd_L3 l1 0).length:Int) > 1000)))) else (numnahref01_Balance.j0 k a0 l1 true)) else (none)) else (none)) else (numnahref01_Balance.j0 k a0 l1 true)) = some r:=h
 clear h
 have HC3:=Aside0.mk H
 clear H
 go_enter Try.func26,Try.ntmps26
 go_upto_region 1 with (fail)
 go_cut [39] (fun v39 wc=>∃ (kq:Nat) (x39_2:Bool),v39 = .bool x39_2 ∧ Aside0 (numnahref01_Balance.j0 kq a0 l1 x39_2 = some r) ∧ Aside0 (kq ≤ k) ∧ Aside0 (Below w.heap.size w wc))
 case first =>
  have H:=HC3.out
  clear HC3
  by_cases c4:(l1.length:Int) = 2
  case neg =>
   rw [if_neg c4] at H
   have c4b0:((l1.length:Int) == 2) = false:=beq_eq_false_iff_ne.mpr c4
   have c4b1:((l1.length:Int) != 2) = true:=bne_iff_ne.mpr c4
   (first | rw [c4b0] | (simp only [i64_w,i32_w];rw [c4b0]) | skip)
   have H':=Aside0.mk H
   clear H
   try go_wp2
   have n0_:=Aside0.mk (below_drew1 HB.out)
   clear HB
   have HB:=n0_
   clear n0_
   refine start_ (n:=28) (S:=fun w'=>True) (ds:=[]) #[false,false,false,false,false,false,false,false,false,false,false,false,false,false,false,false,false,false,false,false,false,false,false,false,false,false,false,false] (by kernel_rfl) rfl rfl trivial (fun hHeld=>?_);refine with_tabW numnahref01_Balance.tab1 numnahref01_Balance.bits1 (fun HT_ HW_=>?_)
   generalize w.drew = w12 at HB hHeld ⊢
   refine pure_ (i:=0) (N:=some 12) (v:=?_) (a':=?_) #[true,false,false,false,false,false,false,false,false,false,false,false,false,false,false,false,false,false,false,false,false,false,false,false,false,false,false,false] rfl rfl (any_of HT_.out (by kernel_rfl)) (fun _ _ _ h=>h) (Or.inl ⟨by rfl,?_⟩) ?_ ?_
   rotate_left
   ·intro w'
    go_simp
    with_reducible rfl
   rotate_left
   ·simp only [Act.put,List.setIfInBounds_toArray,List.set_cons_zero,List.set_cons_succ,i64_w,i32_w]
    rfl
   refine pure_ (i:=1) (N:=some 13) (v:=?_) (a':=?_) #[true,true,false,false,false,false,false,false,false,false,false,false,false,false,false,false,false,false,false,false,false,false,false,false,false,false,false,false] rfl rfl (any_of HT_.out (by kernel_rfl)) (fun _ _ _ h=>h) (Or.inl ⟨by rfl,?_⟩) ?_ ?_
   rotate_left
   ·intro w'
    go_simp
    with_reducible rfl
   rotate_left
   ·simp only [Act.put,List.setIfInBounds_toArray,List.set_cons_zero,List.set_cons_succ,i64_w,i32_w]
    rfl
   refine pure_ (i:=2) (N:=some 14) (v:=?_) (a':=?_) #[true,true,true,false,false,false,false,false,false,false,false,false,false,false,false,false,false,false,false,false,false,false,false,false,false,false,false,false] rfl rfl (any_of HT_.out (by kernel_rfl)) (fun _ _ _ h=>h) (Or.inl ⟨by rfl,?_⟩) ?_ ?_
   rotate_left
   ·intro w'
    go_simp
    with_reducible rfl
   rotate_left
   ·simp only [Act.put,List.setIfInBounds_toArray,List.set_cons_zero,List.set_cons_succ,i64_w,i32_w]
    rfl
   refine pure_ (i:=3) (N:=some 15) (v:=?_) (a':=?_) #[true,true,true,true,false,false,false,false,false,false,false,false,false,false,false,false,false,false,false,false,false,false,false,false,false,false,false,false] rfl rfl (any_of HT_.out (by kernel_rfl)) (fun _ _ _ h=>h) (Or.inl ⟨by rfl,?_⟩) ?_ ?_
   rotate_left
   ·intro w'
    go_simp
    with_reducible rfl
   rotate_left
   ·simp only [Act.put,List.setIfInBounds_toArray,List.set_cons_zero,List.set_cons_succ,i64_w,i32_w]
    rfl
   refine pure_ (i:=4) (N:=some 16) (v:=undef) (a':=?_) #[true,true,true,true,true,false,false,false,false,false,false,false,false,false,false,false,false,false,false,false,false,false,false,false,false,false,false,false] rfl rfl (any_of HT_.out (by kernel_rfl)) (fun _ _ _ h=>h) (Or.inr ⟨by rfl,rfl⟩) ?_ ?_
   rotate_left
   ·simp only [Act.put,List.setIfInBounds_toArray,List.set_cons_zero,List.set_cons_succ,i64_w,i32_w]
    rfl
   refine pure_ (i:=5) (N:=some 17) (v:=undef) (a':=?_) #[true,true,true,true,true,true,false,false,false,false,false,false,false,false,false,false,false,false,false,false,false,false,false,false,false,false,false,false] rfl rfl (any_of HT_.out (by kernel_rfl)) (fun _ _ _ h=>h) (Or.inr ⟨by rfl,rfl⟩) ?_ ?_
   rotate_left
   ·simp only [Act.put,List.setIfInBounds_toArray,List.set_cons_zero,List.set_cons_succ,i64_w,i32_w]
    rfl
   refine pure_ (i:=6) (N:=some 18) (v:=undef) (a':=?_) #[true,true,true,true,true,true,true,false,false,false,false,false,false,false,false,false,false,false,false,false,false,false,false,false,false,false,false,false] rfl rfl (any_of HT_.out (by kernel_rfl)) (fun _ _ _ h=>h) (Or.inr ⟨by rfl,rfl⟩) ?_ ?_
   rotate_left
   ·simp only [Act.put,List.setIfInBounds_toArray,List.set_cons_zero,List.set_cons_succ,i64_w,i32_w]
    rfl
   refine pure_ (i:=7) (N:=some 19) (v:=undef) (a':=?_) #[true,true,true,true,true,true,true,true,false,false,false,false,false,false,false,false,false,false,false,false,false,false,false,false,false,false,false,false] rfl rfl (any_of HT_.out (by kernel_rfl)) (fun _ _ _ h=>h) (Or.inr ⟨by rfl,rfl⟩) ?_ ?_
   rotate_left
   ·simp only [Act.put,List.setIfInBounds_toArray,List.set_cons_zero,List.set_cons_succ,i64_w,i32_w]
    rfl
   refine pure_ (i:=8) (N:=some 20) (v:=undef) (a':=?_) #[true,true,true,true,true,true,true,true,true,false,false,false,false,false,false,false,false,false,false,false,false,false,false,false,false,false,false,false] rfl rfl (any_of HT_.out (by kernel_rfl)) (fun _ _ _ h=>h) (Or.inr ⟨by rfl,rfl⟩) ?_ ?_
   rotate_left
   ·simp only [Act.put,List.setIfInBounds_toArray,List.set_cons_zero,List.set_cons_succ,i64_w,i32_w]
    rfl
   refine pure_ (i:=9) (N:=some 21) (v:=undef) (a':=?_) #[true,true,true,true,true,true,true,true,true,true,false,false,false,false,false,false,false,false,false,false,false,false,false,false,false,false,false,false] rfl rfl (any_of HT_.out (by kernel_rfl)) (fun _ _ _ h=>h) (Or.inr ⟨by rfl,rfl⟩) ?_ ?_
   rotate_left
   ·simp only [Act.put,List.setIfInBounds_toArray,List.set_cons_zero,List.set_cons_succ,i64_w,i32_w]
    rfl
   refine pure_ (i:=10) (N:=some 22) (v:=undef) (a':=?_) #[true,true,true,true,true,true,true,true,true,true,true,false,false,false,false,false,false,false,false,false,false,false,false,false,false,false,false,false] rfl rfl (any_of HT_.out (by kernel_rfl)) (fun _ _ _ h=>h) (Or.inr ⟨by rfl,rfl⟩) ?_ ?_
   rotate_left
   ·simp only [Act.put,List.setIfInBounds_toArray,List.set_cons_zero,List.set_cons_succ,i64_w,i32_w]
    rfl
   refine pure_ (i:=11) (N:=some 23) (v:=undef) (a':=?_) #[true,true,true,true,true,true,true,true,true,true,true,true,false,false,false,false,false,false,false,false,false,false,false,false,false,false,false,false] rfl rfl (any_of HT_.out (by kernel_rfl)) (fun _ _ _ h=>h) (Or.inr ⟨by rfl,rfl⟩) ?_ ?_
   rotate_left
   ·simp only [Act.put,List.setIfInBounds_toArray,List.set_cons_zero,List.set_cons_succ,i64_w,i32_w]
    rfl
   refine pure_ (i:=12) (N:=some 24) (v:=undef) (a':=?_) #[true,true,true,true,true,true,true,true,true,true,true,true,true,false,false,false,false,false,false,false,false,false,false,false,false,false,false,false] rfl rfl (any_of HT_.out (by kernel_rfl)) (fun _ _ _ h=>h) (Or.inr ⟨by rfl,rfl⟩) ?_ ?_
   rotate_left
   ·simp only [Act.put,List.setIfInBounds_toArray,List.set_cons_zero,List.set_cons_succ,i64_w,i32_w]
    rfl
   refine pure_ (i:=13) (N:=some 25) (v:=?_) (a':=?_) #[true,true,true,true,true,true,true,true,true,true,true,true,true,true,false,false,false,false,false,false,false,false,false,false,false,false,false,false] rfl rfl (any_of HT_.out (by kernel_rfl)) (fun _ _ _ h=>h) (Or.inl ⟨by rfl,?_⟩) ?_ ?_
   rotate_left
   ·intro w'
    go_simp
    with_reducible rfl
   rotate_left
   ·simp only [Act.put,List.setIfInBounds_toArray,List.set_cons_zero,List.set_cons_succ,i64_w,i32_w]
    rfl
   refine pure_ (i:=14) (N:=some 26) (v:=?_) (a':=?_) #[true,true,true,true,true,true,true,true,true,true,true,true,true,true,true,false,false,false,false,false,false,false,false,false,false,false,false,false] rfl rfl (any_of HT_.out (by kernel_rfl)) (fun _ _ _ h=>h) (Or.inl ⟨by rfl,?_⟩) ?_ ?_
   rotate_left
   ·intro w'
    go_simp
    with_reducible rfl
   rotate_left
   ·simp only [Act.put,List.setIfInBounds_toArray,List.set_cons_zero,List.set_cons_succ,i64_w,i32_w]
    rfl
   refine pure_ (i:=15) (N:=some 27) (v:=undef) (a':=?_) #[true,true,true,true,true,true,true,true,true,true,true,true,true,true,true,true,false,false,false,false,false,false,false,false,false,false,false,false] rfl rfl (any_of HT_.out (by kernel_rfl)) (fun _ _ _ h=>h) (Or.inr ⟨by rfl,rfl⟩) ?_ ?_
   rotate_left
   ·simp only [Act.put,List.setIfInBounds_toArray,List.set_cons_zero,List.set_cons_succ,i64_w,i32_w]
    rfl
   refine pure_ (i:=16) (N:=some 28) (v:=undef) (a':=?_) #[true,true,true,true,true,true,true,true,true,true,true,true,true,true,true,true,true,false,false,false,false,false,false,false,false,false,false,false] rfl rfl (any_of HT_.out (by kernel_rfl)) (fun _ _ _ h=>h) (Or.inr ⟨by rfl,rfl⟩) ?_ ?_
   rotate_left
   ·simp only [Act.put,List.setIfInBounds_toArray,List.set_cons_zero,List.set_cons_succ,i64_w,i32_w]
    rfl
   refine pure_ (i:=17) (N:=some 29) (v:=undef) (a':=?_) #[true,true,true,true,true,true,true,true,true,true,true,true,true,true,true,true,true,true,false,false,false,false,false,false,false,false,false,false] rfl rfl (any_of HT_.out (by kernel_rfl)) (fun _ _ _ h=>h) (Or.inr ⟨by rfl,rfl⟩) ?_ ?_
   rotate_left
   ·simp only [Act.put,List.setIfInBounds_toArray,List.set_cons_zero,List.set_cons_succ,i64_w,i32_w]
    rfl
   refine pure_ (i:=18) (N:=some 30) (v:=undef) (a':=?_) #[true,true,true,true,true,true,true,true,true,true,true,true,true,true,true,true,true,true,true,false,false,false,false,false,false,false,false,false] rfl rfl (any_of HT_.out (by kernel_rfl)) (fun _ _ _ h=>h) (Or.inr ⟨by rfl,rfl⟩) ?_ ?_
   rotate_left
   ·simp only [Act.put,List.setIfInBounds_toArray,List.set_cons_zero,List.set_cons_succ,i64_w,i32_w]
    rfl
   refine pure_ (i:=19) (N:=some 31) (v:=undef) (a':=?_) #[true,true,true,true,true,true,true,true,true,true,true,true,true,true,true,true,true,true,true,true,false,false,false,false,false,false,false,false] rfl rfl (any_of HT_.out (by kernel_rfl)) (fun _ _ _ h=>h) (Or.inr ⟨by rfl,rfl⟩) ?_ ?_
   rotate_left
   ·simp only [Act.put,List.setIfInBounds_toArray,List.set_cons_zero,List.set_cons_succ,i64_w,i32_w]
    rfl
   refine pure_ (i:=20) (N:=some 32) (v:=?_) (a':=?_) #[true,true,true,true,true,true,true,true,true,true,true,true,true,true,true,true,true,true,true,true,true,false,false,false,false,false,false,false] rfl rfl (any_of HT_.out (by kernel_rfl)) (fun _ _ _ h=>h) (Or.inl ⟨by rfl,?_⟩) ?_ ?_
   rotate_left
   ·intro w'
    go_simp
    with_reducible rfl
   rotate_left
   ·simp only [Act.put,List.setIfInBounds_toArray,List.set_cons_zero,List.set_cons_succ,i64_w,i32_w]
    rfl
   refine pure_ (i:=21) (N:=some 33) (v:=?_) (a':=?_) #[true,true,true,true,true,true,true,true,true,true,true,true,true,true,true,true,true,true,true,true,true,true,false,false,false,false,false,false] rfl rfl (any_of HT_.out (by kernel_rfl)) (fun _ _ _ h=>h) (Or.inl ⟨by rfl,?_⟩) ?_ ?_
   rotate_left
   ·intro w'
    go_simp
    with_reducible rfl
   rotate_left
   ·simp only [Act.put,List.setIfInBounds_toArray,List.set_cons_zero,List.set_cons_succ,i64_w,i32_w]
    rfl
   refine pure_ (i:=22) (N:=some 34) (v:=undef) (a':=?_) #[true,true,true,true,true,true,true,true,true,true,true,true,true,true,true,true,true,true,true,true,true,true,true,false,false,false,false,false] rfl rfl (any_of HT_.out (by kernel_rfl)) (fun _ _ _ h=>h) (Or.inr ⟨by rfl,rfl⟩) ?_ ?_
   rotate_left
   ·simp only [Act.put,List.setIfInBounds_toArray,List.set_cons_zero,List.set_cons_succ,i64_w,i32_w]
    rfl
   refine pure_ (i:=23) (N:=some 35) (v:=undef) (a':=?_) #[true,true,true,true,true,true,true,true,true,true,true,true,true,true,true,true,true,true,true,true,true,true,true,true,false,false,false,false] rfl rfl (any_of HT_.out (by kernel_rfl)) (fun _ _ _ h=>h) (Or.inr ⟨by rfl,rfl⟩) ?_ ?_
   rotate_left
   ·simp only [Act.put,List.setIfInBounds_toArray,List.set_cons_zero,List.set_cons_succ,i64_w,i32_w]
    rfl
   refine pure_ (i:=24) (N:=some 36) (v:=undef) (a':=?_) #[true,true,true,true,true,true,true,true,true,true,true,true,true,true,true,true,true,true,true,true,true,true,true,true,true,false,false,false] rfl rfl (any_of HT_.out (by kernel_rfl)) (fun _ _ _ h=>h) (Or.inr ⟨by rfl,rfl⟩) ?_ ?_
   rotate_left
   ·simp only [Act.put,List.setIfInBounds_toArray,List.set_cons_zero,List.set_cons_succ,i64_w,i32_w]
    rfl
   refine pure_ (i:=25) (N:=some 37) (v:=undef) (a':=?_) #[true,true,true,true,true,true,true,true,true,true,true,true,true,true,true,true,true,true,true,true,true,true,true,true,true,true,false,false] rfl rfl (any_of HT_.out (by kernel_rfl)) (fun _ _ _ h=>h) (Or.inr ⟨by rfl,rfl⟩) ?_ ?_
   rotate_left
   ·simp only [Act.put,List.setIfInBounds_toArray,List.set_cons_zero,List.set_cons_succ,i64_w,i32_w]
    rfl
   refine pure_ (i:=26) (N:=some 38) (v:=undef) (a':=?_) #[true,true,true,true,true,true,true,true,true,true,true,true,true,true,true,true,true,true,true,true,true,true,true,true,true,true,true,false] rfl rfl (any_of HT_.out (by kernel_rfl)) (fun _ _ _ h=>h) (Or.inr ⟨by rfl,rfl⟩) ?_ ?_
   rotate_left
   ·simp only [Act.put,List.setIfInBounds_toArray,List.set_cons_zero,List.set_cons_succ,i64_w,i32_w]
    rfl
   refine pure_ (i:=27) (N:=some 39) (v:=?_) (a':=?_) #[true,true,true,true,true,true,true,true,true,true,true,true,true,true,true,true,true,true,true,true,true,true,true,true,true,true,true,true] rfl rfl (any_of HT_.out (by kernel_rfl)) (fun _ _ _ h=>h) (Or.inl ⟨by rfl,?_⟩) ?_ ?_
   rotate_left
   ·intro w'
    go_simp
    with_reducible rfl
   rotate_left
   ·simp only [Act.put,List.setIfInBounds_toArray,List.set_cons_zero,List.set_cons_succ,i64_w,i32_w]
    rfl
   refine done_ (done_of HT_.out (by kernel_rfl)) ?_
   try go_wp2
   go_meet
   case rel=>exact ⟨_,(true),(by first | rfl | (simp;done) | (simp [*];done)),H',⟨by first | omega | exact Nat.le_refl _⟩,⟨by repeat (first | (with_reducible first | exact HB.out | apply below_alloc | apply pw_below_drewN | apply below_drew1) | exact HB.out)⟩⟩
  rw [if_pos c4] at H
  have c4b0:((l1.length:Int) == 2) = true:=beq_iff_eq.mpr c4
  have c4b1:((l1.length:Int) != 2) = false:=bne_eq_false_iff_eq.mpr c4
  clear c4
  (first | rw [c4b0] | (simp only [i64_w,i32_w];rw [c4b0]) | skip)
  by_cases c5:0 < (l1.length:Int)
  case neg =>
   rw [if_neg c5] at H
   exact absurd H (by simp)
  rw [if_pos c5] at H
  have c5b0:decide (0 < (l1.length:Int)) = true:=decide_eq_true c5
  have c5b1:decide (0 < l1.length) = true:=decide_eq_true (by omega)
  clear c5
  by_cases c6:1 < (l1.length:Int)
  case neg =>
   rw [if_neg c6] at H
   exact absurd H (by simp)
  rw [if_pos c6] at H
  have c6b0:decide (1 < (l1.length:Int)) = true:=decide_eq_true c6
  have c6b1:decide (1 < l1.length) = true:=decide_eq_true (by omega)
  clear c6
  by_cases c7:((rd_L3 l1 0).length:Int) = ((rd_L3 l1 1).length:Int)
  case neg =>
   rw [if_neg c7] at H
   have c7b0:(((rd_L3 l1 0).length:Int) == ((rd_L3 l1 1).length:Int)) = false:=beq_eq_false_iff_ne.mpr c7
   have c7b1:(((rd_L3 l1 0).length:Int) != ((rd_L3 l1 1).length:Int)) = true:=bne_iff_ne.mpr c7
   have c7b2:((rd_L3 l1 0).length == (rd_L3 l1 1).length) = false:=by first | simpa using c7 | (simp at c7 ⊢;omega)
   have H':=Aside0.mk H
   clear H
   try go_wp2
   have n0_:=Aside0.mk (below_drew1 HB.out)
   clear HB
   have HB:=n0_
   clear n0_
   have p181:0 ≤ (0:Int):=(by omega)
   have q181:0 < (l1.length:Int):=of_decide_eq_true (by first | (with_reducible assumption) | assumption)
   obtain ⟨ad181,A181_0,c181_0,e181,hx181_0,hl181_0,hi181_0⟩:=at_L3 HR1.out 0 p181 q181
   have hw181_0:=hx181_0
   (try rw [show ((0:Int)).toNat = 0 from rfl] at hw181_0)
   (try rw [show 0 * 1 = 0 from rfl] at hw181_0)
   (try rw [Addr.add_zero'] at hw181_0)
   cases e181
   have qi181:(0 < l1.length) = True:=eq_true (by omega)
   (try rw [show ((0:Int)).toNat = 0 from rfl] at hx181_0)
   (try rw [Addr.add_zero'] at hx181_0)
   replace hx181_0:=(HB.out.cell (World.block_lt_of_cell? w _ hx181_0)).trans hx181_0
   have HR181_0:=Aside0.mk hi181_0
   have HC181_0:=Aside0.mk hl181_0
   clear hi181_0 hl181_0
   replace p181:=eq_true p181
   replace q181:=eq_true q181
   have p182:0 ≤ (1:Int):=(by omega)
   have q182:1 < (l1.length:Int):=of_decide_eq_true (by first | (with_reducible assumption) | assumption)
   obtain ⟨ad182,A182_0,c182_0,e182,hx182_0,hl182_0,hi182_0⟩:=at_L3 HR1.out 1 p182 q182
   have hw182_0:=hx182_0
   (try rw [show ((1:Int)).toNat = 1 from rfl] at hw182_0)
   (try rw [show 1 * 1 = 1 from rfl] at hw182_0)
   (try simp only [Nat.reduceMul,Nat.reduceEqDiff,Go.Addr.add,↓reduceIte] at hw182_0)
   obtain rfl:ad181 = ad182:=(by injection e182)
   (try simp only [show (1:Int).toNat = 1 from rfl,Nat.reduceMul,Nat.reduceEqDiff,Go.Addr.add,↓reduceIte] at hx182_0)
   have qi182:(1 < l1.length) = True:=eq_true (by omega)
   (try rw [show ((1:Int)).toNat = 1 from rfl] at hx182_0)
   replace hx182_0:=(HB.out.cell (World.block_lt_of_cell? w _ hx182_0)).trans hx182_0
   have HR182_0:=Aside0.mk hi182_0
   have HC182_0:=Aside0.mk hl182_0
   clear hi182_0 hl182_0
   replace p182:=eq_true p182
   replace q182:=eq_true q182
   refine start_ (n:=28) (S:=fun w'=>w'.cell? ad181 = some (.slice A181_0 (rd_L3 l1 0).length c181_0) ∧ w'.cell? ⟨ad181.block,ad181.off + 1,none⟩ = some (.slice A182_0 (rd_L3 l1 1).length c182_0)) (ds:=[]) #[false,false,false,false,false,false,false,false,false,false,false,false,false,false,false,false,false,false,false,false,false,false,false,false,false,false,false,false] (by kernel_rfl) rfl rfl ⟨((HB.out.cell (World.block_lt_of_cell? w _ hw181_0)).trans hw181_0),((HB.out.cell (World.block_lt_of_cell? w _ hw182_0)).trans hw182_0)⟩ (fun hHeld=>?_);refine with_tabW numnahref01_Balance.tab1 numnahref01_Balance.bits1 (fun HT_ HW_=>?_)
   generalize w.drew = w11 at HB HR181_0 HR182_0 hx181_0 hx182_0 hHeld ⊢
   refine pure_ (i:=0) (N:=some 12) (v:=?_) (a':=?_) #[true,false,false,false,false,false,false,false,false,false,false,false,false,false,false,false,false,false,false,false,false,false,false,false,false,false,false,false] rfl rfl (any_of HT_.out (by kernel_rfl)) (fun _ _ _ h=>h) (Or.inl ⟨by rfl,?_⟩) ?_ ?_
   rotate_left
   ·intro w'
    go_simp
    with_reducible rfl
   rotate_left
   ·simp only [Act.put,List.setIfInBounds_toArray,List.set_cons_zero,List.set_cons_succ,i64_w,i32_w]
    rfl
   refine pure_ (i:=1) (N:=some 13) (v:=?_) (a':=?_) #[true,true,false,false,false,false,false,false,false,false,false,false,false,false,false,false,false,false,false,false,false,false,false,false,false,false,false,false] rfl rfl (any_of HT_.out (by kernel_rfl)) (fun _ _ _ h=>h) (Or.inl ⟨by rfl,?_⟩) ?_ ?_
   rotate_left
   ·intro w'
    go_simp
    with_reducible rfl
   rotate_left
   ·simp only [Act.put,List.setIfInBounds_toArray,List.set_cons_zero,List.set_cons_succ,i64_w,i32_w]
    rfl
   refine pure_ (i:=2) (N:=some 14) (v:=?_) (a':=?_) #[true,true,true,false,false,false,false,false,false,false,false,false,false,false,false,false,false,false,false,false,false,false,false,false,false,false,false,false] rfl rfl (any_of HT_.out (by kernel_rfl)) (fun _ _ _ h=>h) (Or.inl ⟨by rfl,?_⟩) ?_ ?_
   rotate_left
   ·intro w'
    go_simp
    with_reducible rfl
   rotate_left
   ·simp only [Act.put,List.setIfInBounds_toArray,List.set_cons_zero,List.set_cons_succ,i64_w,i32_w]
    rfl
   refine pure_ (i:=3) (N:=some 15) (v:=?_) (a':=?_) #[true,true,true,true,false,false,false,false,false,false,false,false,false,false,false,false,false,false,false,false,false,false,false,false,false,false,false,false] rfl rfl (any_of HT_.out (by kernel_rfl)) (fun _ _ _ h=>h) (Or.inl ⟨by rfl,?_⟩) ?_ ?_
   rotate_left
   ·intro w'
    go_simp
    with_reducible rfl
   rotate_left
   ·simp only [Act.put,List.setIfInBounds_toArray,List.set_cons_zero,List.set_cons_succ,i64_w,i32_w]
    rfl
   refine pure_ (i:=4) (N:=some 16) (v:=?_) (a':=?_) #[true,true,true,true,true,false,false,false,false,false,false,false,false,false,false,false,false,false,false,false,false,false,false,false,false,false,false,false] rfl rfl (any_of HT_.out (by kernel_rfl)) (fun _ _ _ h=>h) (Or.inl ⟨by rfl,?_⟩) ?_ ?_
   rotate_left
   ·intro w'
    go_simp
    with_reducible rfl
   rotate_left
   ·simp only [Act.put,List.setIfInBounds_toArray,List.set_cons_zero,List.set_cons_succ,i64_w,i32_w]
    rfl
   refine pure_ (i:=5) (N:=some 17) (v:=?_) (a':=?_) #[true,true,true,true,true,true,false,false,false,false,false,false,false,false,false,false,false,false,false,false,false,false,false,false,false,false,false,false] rfl rfl (any_of HT_.out (by kernel_rfl)) (fun _ _ _ h=>h) (Or.inl ⟨by rfl,?_⟩) ?_ ?_
   rotate_left
   ·intro w'
    go_simp
    with_reducible rfl
   rotate_left
   ·simp only [Act.put,List.setIfInBounds_toArray,List.set_cons_zero,List.set_cons_succ,i64_w,i32_w]
    rfl
   refine pure_ (i:=8) (N:=some 20) (v:=?_) (a':=?_) #[true,true,true,true,true,true,false,false,true,false,false,false,false,false,false,false,false,false,false,false,false,false,false,false,false,false,false,false] rfl rfl (any_of HT_.out (by kernel_rfl)) (fun _ _ _ h=>h) (Or.inl ⟨by rfl,?_⟩) ?_ ?_
   rotate_left
   ·intro w'
    go_simp
    with_reducible rfl
   rotate_left
   ·simp only [Act.put,List.setIfInBounds_toArray,List.set_cons_zero,List.set_cons_succ,i64_w,i32_w]
    rfl
   refine pure_ (i:=9) (N:=some 21) (v:=?_) (a':=?_) #[true,true,true,true,true,true,false,false,true,true,false,false,false,false,false,false,false,false,false,false,false,false,false,false,false,false,false,false] rfl rfl (any_of HT_.out (by kernel_rfl)) (fun _ _ _ h=>h) (Or.inl ⟨by rfl,?_⟩) ?_ ?_
   rotate_left
   ·intro w'
    go_simp
    with_reducible rfl
   rotate_left
   ·simp only [Act.put,List.setIfInBounds_toArray,List.set_cons_zero,List.set_cons_succ,i64_w,i32_w]
    rfl
   refine take_ (i:=6) (N:=some 18) (v:=?_) (a':=?_) #[true,true,true,true,true,true,true,false,true,true,false,false,false,false,false,false,false,false,false,false,false,false,false,false,false,false,false,false] rfl rfl (take_ofW HT_.out HW_.out (by kernel_rfl)) (fun _ _ _ h=>h) (Or.inl ⟨by rfl,?_⟩) hHeld ?_ ?_
   rotate_left
   ·rintro w' ⟨s0,s1⟩
    go_simp
    with_reducible rfl
   rotate_left
   ·simp only [Act.put,List.setIfInBounds_toArray,List.set_cons_zero,List.set_cons_succ,i64_w,i32_w]
    rfl
   refine pure_ (i:=7) (N:=some 19) (v:=?_) (a':=?_) #[true,true,true,true,true,true,true,true,true,true,false,false,false,false,false,false,false,false,false,false,false,false,false,false,false,false,false,false] rfl rfl (any_of HT_.out (by kernel_rfl)) (fun _ _ _ h=>h) (Or.inl ⟨by rfl,?_⟩) ?_ ?_
   rotate_left
   ·intro w'
    go_simp
    with_reducible rfl
   rotate_left
   ·simp only [Act.put,List.setIfInBounds_toArray,List.set_cons_zero,List.set_cons_succ,i64_w,i32_w]
    rfl
   refine take_ (i:=10) (N:=some 22) (v:=?_) (a':=?_) #[true,true,true,true,true,true,true,true,true,true,true,false,false,false,false,false,false,false,false,false,false,false,false,false,false,false,false,false] rfl rfl (take_ofW HT_.out HW_.out (by kernel_rfl)) (fun _ _ _ h=>h) (Or.inl ⟨by rfl,?_⟩) hHeld ?_ ?_
   rotate_left
   ·rintro w' ⟨s0,s1⟩
    go_simp
    with_reducible rfl
   rotate_left
   ·simp only [Act.put,List.setIfInBounds_toArray,List.set_cons_zero,List.set_cons_succ,i64_w,i32_w]
    rfl
   refine pure_ (i:=11) (N:=some 23) (v:=?_) (a':=?_) #[true,true,true,true,true,true,true,true,true,true,true,true,false,false,false,false,false,false,false,false,false,false,false,false,false,false,false,false] rfl rfl (any_of HT_.out (by kernel_rfl)) (fun _ _ _ h=>h) (Or.inl ⟨by rfl,?_⟩) ?_ ?_
   rotate_left
   ·intro w'
    go_simp
    with_reducible rfl
   rotate_left
   ·simp only [Act.put,List.setIfInBounds_toArray,List.set_cons_zero,List.set_cons_succ,i64_w,i32_w]
    rfl
   refine pure_ (i:=12) (N:=some 24) (v:=?_) (a':=?_) #[true,true,true,true,true,true,true,true,true,true,true,true,true,false,false,false,false,false,false,false,false,false,false,false,false,false,false,false] rfl rfl (any_of HT_.out (by kernel_rfl)) (fun _ _ _ h=>h) (Or.inl ⟨by rfl,?_⟩) ?_ ?_
   rotate_left
   ·intro w'
    go_simp
    with_reducible rfl
   rotate_left
   ·simp only [Act.put,List.setIfInBounds_toArray,List.set_cons_zero,List.set_cons_succ,i64_w,i32_w]
    rfl
   refine pure_ (i:=13) (N:=some 25) (v:=?_) (a':=?_) #[true,true,true,true,true,true,true,true,true,true,true,true,true,true,false,false,false,false,false,false,false,false,false,false,false,false,false,false] rfl rfl (any_of HT_.out (by kernel_rfl)) (fun _ _ _ h=>h) (Or.inl ⟨by rfl,?_⟩) ?_ ?_
   rotate_left
   ·intro w'
    go_simp
    with_reducible rfl
   rotate_left
   ·simp only [Act.put,List.setIfInBounds_toArray,List.set_cons_zero,List.set_cons_succ,i64_w,i32_w]
    rfl
   refine pure_ (i:=14) (N:=some 26) (v:=?_) (a':=?_) #[true,true,true,true,true,true,true,true,true,true,true,true,true,true,true,false,false,false,false,false,false,false,false,false,false,false,false,false] rfl rfl (any_of HT_.out (by kernel_rfl)) (fun _ _ _ h=>h) (Or.inl ⟨by rfl,?_⟩) ?_ ?_
   rotate_left
   ·intro w'
    go_simp
    with_reducible rfl
   rotate_left
   ·simp only [Act.put,List.setIfInBounds_toArray,List.set_cons_zero,List.set_cons_succ,i64_w,i32_w]
    rfl
   refine pure_ (i:=15) (N:=some 27) (v:=undef) (a':=?_) #[true,true,true,true,true,true,true,true,true,true,true,true,true,true,true,true,false,false,false,false,false,false,false,false,false,false,false,false] rfl rfl (any_of HT_.out (by kernel_rfl)) (fun _ _ _ h=>h) (Or.inr ⟨by rfl,rfl⟩) ?_ ?_
   rotate_left
   ·simp only [Act.put,List.setIfInBounds_toArray,List.set_cons_zero,List.set_cons_succ,i64_w,i32_w]
    rfl
   refine pure_ (i:=16) (N:=some 28) (v:=undef) (a':=?_) #[true,true,true,true,true,true,true,true,true,true,true,true,true,true,true,true,true,false,false,false,false,false,false,false,false,false,false,false] rfl rfl (any_of HT_.out (by kernel_rfl)) (fun _ _ _ h=>h) (Or.inr ⟨by rfl,rfl⟩) ?_ ?_
   rotate_left
   ·simp only [Act.put,List.setIfInBounds_toArray,List.set_cons_zero,List.set_cons_succ,i64_w,i32_w]
    rfl
   refine pure_ (i:=17) (N:=some 29) (v:=undef) (a':=?_) #[true,true,true,true,true,true,true,true,true,true,true,true,true,true,true,true,true,true,false,false,false,false,false,false,false,false,false,false] rfl rfl (any_of HT_.out (by kernel_rfl)) (fun _ _ _ h=>h) (Or.inr ⟨by rfl,rfl⟩) ?_ ?_
   rotate_left
   ·simp only [Act.put,List.setIfInBounds_toArray,List.set_cons_zero,List.set_cons_succ,i64_w,i32_w]
    rfl
   refine pure_ (i:=18) (N:=some 30) (v:=undef) (a':=?_) #[true,true,true,true,true,true,true,true,true,true,true,true,true,true,true,true,true,true,true,false,false,false,false,false,false,false,false,false] rfl rfl (any_of HT_.out (by kernel_rfl)) (fun _ _ _ h=>h) (Or.inr ⟨by rfl,rfl⟩) ?_ ?_
   rotate_left
   ·simp only [Act.put,List.setIfInBounds_toArray,List.set_cons_zero,List.set_cons_succ,i64_w,i32_w]
    rfl
   refine pure_ (i:=19) (N:=some 31) (v:=undef) (a':=?_) #[true,true,true,true,true,true,true,true,true,true,true,true,true,true,true,true,true,true,true,true,false,false,false,false,false,false,false,false] rfl rfl (any_of HT_.out (by kernel_rfl)) (fun _ _ _ h=>h) (Or.inr ⟨by rfl,rfl⟩) ?_ ?_
   rotate_left
   ·simp only [Act.put,List.setIfInBounds_toArray,List.set_cons_zero,List.set_cons_succ,i64_w,i32_w]
    rfl
   refine pure_ (i:=20) (N:=some 32) (v:=?_) (a':=?_) #[true,true,true,true,true,true,true,true,true,true,true,true,true,true,true,true,true,true,true,true,true,false,false,false,false,false,false,false] rfl rfl (any_of HT_.out (by kernel_rfl)) (fun _ _ _ h=>h) (Or.inl ⟨by rfl,?_⟩) ?_ ?_
   rotate_left
   ·intro w'
    go_simp
    with_reducible rfl
   rotate_left
   ·simp only [Act.put,List.setIfInBounds_toArray,List.set_cons_zero,List.set_cons_succ,i64_w,i32_w]
    rfl
   refine pure_ (i:=21) (N:=some 33) (v:=?_) (a':=?_) #[true,true,true,true,true,true,true,true,true,true,true,true,true,true,true,true,true,true,true,true,true,true,false,false,false,false,false,false] rfl rfl (any_of HT_.out (by kernel_rfl)) (fun _ _ _ h=>h) (Or.inl ⟨by rfl,?_⟩) ?_ ?_
   rotate_left
   ·intro w'
    go_simp
    with_reducible rfl
   rotate_left
   ·simp only [Act.put,List.setIfInBounds_toArray,List.set_cons_zero,List.set_cons_succ,i64_w,i32_w]
    rfl
   refine pure_ (i:=22) (N:=some 34) (v:=undef) (a':=?_) #[true,true,true,true,true,true,true,true,true,true,true,true,true,true,true,true,true,true,true,true,true,true,true,false,false,false,false,false] rfl rfl (any_of HT_.out (by kernel_rfl)) (fun _ _ _ h=>h) (Or.inr ⟨by rfl,rfl⟩) ?_ ?_
   rotate_left
   ·simp only [Act.put,List.setIfInBounds_toArray,List.set_cons_zero,List.set_cons_succ,i64_w,i32_w]
    rfl
   refine pure_ (i:=23) (N:=some 35) (v:=undef) (a':=?_) #[true,true,true,true,true,true,true,true,true,true,true,true,true,true,true,true,true,true,true,true,true,true,true,true,false,false,false,false] rfl rfl (any_of HT_.out (by kernel_rfl)) (fun _ _ _ h=>h) (Or.inr ⟨by rfl,rfl⟩) ?_ ?_
   rotate_left
   ·simp only [Act.put,List.setIfInBounds_toArray,List.set_cons_zero,List.set_cons_succ,i64_w,i32_w]
    rfl
   refine pure_ (i:=24) (N:=some 36) (v:=undef) (a':=?_) #[true,true,true,true,true,true,true,true,true,true,true,true,true,true,true,true,true,true,true,true,true,true,true,true,true,false,false,false] rfl rfl (any_of HT_.out (by kernel_rfl)) (fun _ _ _ h=>h) (Or.inr ⟨by rfl,rfl⟩) ?_ ?_
   rotate_left
   ·simp only [Act.put,List.setIfInBounds_toArray,List.set_cons_zero,List.set_cons_succ,i64_w,i32_w]
    rfl
   refine pure_ (i:=25) (N:=some 37) (v:=undef) (a':=?_) #[true,true,true,true,true,true,true,true,true,true,true,true,true,true,true,true,true,true,true,true,true,true,true,true,true,true,false,false] rfl rfl (any_of HT_.out (by kernel_rfl)) (fun _ _ _ h=>h) (Or.inr ⟨by rfl,rfl⟩) ?_ ?_
   rotate_left
   ·simp only [Act.put,List.setIfInBounds_toArray,List.set_cons_zero,List.set_cons_succ,i64_w,i32_w]
    rfl
   refine pure_ (i:=26) (N:=some 38) (v:=undef) (a':=?_) #[true,true,true,true,true,true,true,true,true,true,true,true,true,true,true,true,true,true,true,true,true,true,true,true,true,true,true,false] rfl rfl (any_of HT_.out (by kernel_rfl)) (fun _ _ _ h=>h) (Or.inr ⟨by rfl,rfl⟩) ?_ ?_
   rotate_left
   ·simp only [Act.put,List.setIfInBounds_toArray,List.set_cons_zero,List.set_cons_succ,i64_w,i32_w]
    rfl
   refine pure_ (i:=27) (N:=some 39) (v:=?_) (a':=?_) #[true,true,true,true,true,true,true,true,true,true,true,true,true,true,true,true,true,true,true,true,true,true,true,true,true,true,true,true] rfl rfl (any_of HT_.out (by kernel_rfl)) (fun _ _ _ h=>h) (Or.inl ⟨by rfl,?_⟩) ?_ ?_
   rotate_left
   ·intro w'
    go_simp
    with_reducible rfl
   rotate_left
   ·simp only [Act.put,List.setIfInBounds_toArray,List.set_cons_zero,List.set_cons_succ,i64_w,i32_w]
    rfl
   refine done_ (done_of HT_.out (by kernel_rfl)) ?_
   try go_wp2
   go_meet
   case rel=>exact ⟨_,(true),(by first | rfl | (simp;done) | (simp [*];done)),H',⟨by first | omega | exact Nat.le_refl _⟩,⟨by repeat (first | (with_reducible first | exact HB.out | apply below_alloc | apply pw_below_drewN | apply below_drew1) | exact HB.out)⟩⟩
  rw [if_pos c7] at H
  have c7b0:(((rd_L3 l1 0).length:Int) == ((rd_L3 l1 1).length:Int)) = true:=beq_iff_eq.mpr c7
  have c7b1:(((rd_L3 l1 0).length:Int) != ((rd_L3 l1 1).length:Int)) = false:=bne_eq_false_iff_eq.mpr c7
  have c7b2:((rd_L3 l1 0).length == (rd_L3 l1 1).length) = true:=by first | simpa using c7 | (simp at c7 ⊢;omega)
  clear c7
  by_cases c8:((rd_L3 l1 0).length:Int) < 1
  ·rw [if_pos c8] at H
   have c8b0:decide (((rd_L3 l1 0).length:Int) < 1) = true:=decide_eq_true c8
   have c8b1:decide ((rd_L3 l1 0).length < 1) = true:=decide_eq_true (by omega)
   clear c8
   have H':=Aside0.mk H
   clear H
   try go_wp2
   have n0_:=Aside0.mk (below_drew1 HB.out)
   clear HB
   have HB:=n0_
   clear n0_
   have p181:0 ≤ (0:Int):=(by omega)
   have q181:0 < (l1.length:Int):=of_decide_eq_true (by first | (with_reducible assumption) | assumption)
   obtain ⟨ad181,A181_0,c181_0,e181,hx181_0,hl181_0,hi181_0⟩:=at_L3 HR1.out 0 p181 q181
   have hw181_0:=hx181_0
   (try rw [show ((0:Int)).toNat = 0 from rfl] at hw181_0)
   (try rw [show 0 * 1 = 0 from rfl] at hw181_0)
   (try rw [Addr.add_zero'] at hw181_0)
   cases e181
   have qi181:(0 < l1.length) = True:=eq_true (by omega)
   (try rw [show ((0:Int)).toNat = 0 from rfl] at hx181_0)
   (try rw [Addr.add_zero'] at hx181_0)
   replace hx181_0:=(HB.out.cell (World.block_lt_of_cell? w _ hx181_0)).trans hx181_0
   have HR181_0:=Aside0.mk hi181_0
   have HC181_0:=Aside0.mk hl181_0
   clear hi181_0 hl181_0
   replace p181:=eq_true p181
   replace q181:=eq_true q181
   have p182:0 ≤ (1:Int):=(by omega)
   have q182:1 < (l1.length:Int):=of_decide_eq_true (by first | (with_reducible assumption) | assumption)
   obtain ⟨ad182,A182_0,c182_0,e182,hx182_0,hl182_0,hi182_0⟩:=at_L3 HR1.out 1 p182 q182
   have hw182_0:=hx182_0
   (try rw [show ((1:Int)).toNat = 1 from rfl] at hw182_0)
   (try rw [show 1 * 1 = 1 from rfl] at hw182_0)
   (try simp only [Nat.reduceMul,Nat.reduceEqDiff,Go.Addr.add,↓reduceIte] at hw182_0)
   obtain rfl:ad181 = ad182:=(by injection e182)
   (try simp only [show (1:Int).toNat = 1 from rfl,Nat.reduceMul,Nat.reduceEqDiff,Go.Addr.add,↓reduceIte] at hx182_0)
   have qi182:(1 < l1.length) = True:=eq_true (by omega)
   (try rw [show ((1:Int)).toNat = 1 from rfl] at hx182_0)
   replace hx182_0:=(HB.out.cell (World.block_lt_of_cell? w _ hx182_0)).trans hx182_0
   have HR182_0:=Aside0.mk hi182_0
   have HC182_0:=Aside0.mk hl182_0
   clear hi182_0 hl182_0
   replace p182:=eq_true p182
   replace q182:=eq_true q182
   have p183:0 ≤ (0:Int):=(by omega)
   have q183:0 < (l1.length:Int):=of_decide_eq_true (by first | (with_reducible assumption) | assumption)
   obtain ⟨ad183,A183_0,c183_0,e183,hx183_0,hl183_0,hi183_0⟩:=at_L3 HR1.out 0 p183 q183
   have hw183_0:=hx183_0
   (try rw [show ((0:Int)).toNat = 0 from rfl] at hw183_0)
   (try rw [show 0 * 1 = 0 from rfl] at hw183_0)
   (try rw [Addr.add_zero'] at hw183_0)
   obtain rfl:ad181 = ad183:=(by injection e183)
   have qi183:(0 < l1.length) = True:=eq_true (by omega)
   (try rw [show ((0:Int)).toNat = 0 from rfl] at hx183_0)
   (try rw [Addr.add_zero'] at hx183_0)
   replace hx183_0:=(HB.out.cell (World.block_lt_of_cell? w _ hx183_0)).trans hx183_0
   have HR183_0:=Aside0.mk hi183_0
   have HC183_0:=Aside0.mk hl183_0
   clear hi183_0 hl183_0
   replace p183:=eq_true p183
   replace q183:=eq_true q183
   have ea_:=Option.some.inj (hx181_0.symm.trans hx183_0)
   injection ea_ with ea_ en_ ec_
   subst ea_
   subst ec_
   clear en_
   refine start_ (n:=28) (S:=fun w'=>w'.cell? ad181 = some (.slice A181_0 (rd_L3 l1 0).length c181_0) ∧ w'.cell? ⟨ad181.block,ad181.off + 1,none⟩ = some (.slice A182_0 (rd_L3 l1 1).length c182_0) ∧ w'.cell? ad181 = some (.slice A181_0 (rd_L3 l1 0).length c181_0)) (ds:=[]) #[false,false,false,false,false,false,false,false,false,false,false,false,false,false,false,false,false,false,false,false,false,false,false,false,false,false,false,false] (by kernel_rfl) rfl rfl ⟨((HB.out.cell (World.block_lt_of_cell? w _ hw181_0)).trans hw181_0),((HB.out.cell (World.block_lt_of_cell? w _ hw182_0)).trans hw182_0),((HB.out.cell (World.block_lt_of_cell? w _ hw183_0)).trans hw183_0)⟩ (fun hHeld=>?_);refine with_tabW numnahref01_Balance.tab1 numnahref01_Balance.bits1 (fun HT_ HW_=>?_)
   generalize w.drew = w9 at HB HR181_0 HR182_0 HR183_0 hx181_0 hx182_0 hx183_0 hHeld ⊢
   refine pure_ (i:=0) (N:=some 12) (v:=?_) (a':=?_) #[true,false,false,false,false,false,false,false,false,false,false,false,false,false,false,false,false,false,false,false,false,false,false,false,false,false,false,false] rfl rfl (any_of HT_.out (by kernel_rfl)) (fun _ _ _ h=>h) (Or.inl ⟨by rfl,?_⟩) ?_ ?_
   rotate_left
   ·intro w'
    go_simp
    with_reducible rfl
   rotate_left
   ·simp only [Act.put,List.setIfInBounds_toArray,List.set_cons_zero,List.set_cons_succ,i64_w,i32_w]
    rfl
   refine pure_ (i:=1) (N:=some 13) (v:=?_) (a':=?_) #[true,true,false,false,false,false,false,false,false,false,false,false,false,false,false,false,false,false,false,false,false,false,false,false,false,false,false,false] rfl rfl (any_of HT_.out (by kernel_rfl)) (fun _ _ _ h=>h) (Or.inl ⟨by rfl,?_⟩) ?_ ?_
   rotate_left
   ·intro w'
    go_simp
    with_reducible rfl
   rotate_left
   ·simp only [Act.put,List.setIfInBounds_toArray,List.set_cons_zero,List.set_cons_succ,i64_w,i32_w]
    rfl
   refine pure_ (i:=2) (N:=some 14) (v:=?_) (a':=?_) #[true,true,true,false,false,false,false,false,false,false,false,false,false,false,false,false,false,false,false,false,false,false,false,false,false,false,false,false] rfl rfl (any_of HT_.out (by kernel_rfl)) (fun _ _ _ h=>h) (Or.inl ⟨by rfl,?_⟩) ?_ ?_
   rotate_left
   ·intro w'
    go_simp
    with_reducible rfl
   rotate_left
   ·simp only [Act.put,List.setIfInBounds_toArray,List.set_cons_zero,List.set_cons_succ,i64_w,i32_w]
    rfl
   refine pure_ (i:=3) (N:=some 15) (v:=?_) (a':=?_) #[true,true,true,true,false,false,false,false,false,false,false,false,false,false,false,false,false,false,false,false,false,false,false,false,false,false,false,false] rfl rfl (any_of HT_.out (by kernel_rfl)) (fun _ _ _ h=>h) (Or.inl ⟨by rfl,?_⟩) ?_ ?_
   rotate_left
   ·intro w'
    go_simp
    with_reducible rfl
   rotate_left
   ·simp only [Act.put,List.setIfInBounds_toArray,List.set_cons_zero,List.set_cons_succ,i64_w,i32_w]
    rfl
   refine pure_ (i:=4) (N:=some 16) (v:=?_) (a':=?_) #[true,true,true,true,true,false,false,false,false,false,false,false,false,false,false,false,false,false,false,false,false,false,false,false,false,false,false,false] rfl rfl (any_of HT_.out (by kernel_rfl)) (fun _ _ _ h=>h) (Or.inl ⟨by rfl,?_⟩) ?_ ?_
   rotate_left
   ·intro w'
    go_simp
    with_reducible rfl
   rotate_left
   ·simp only [Act.put,List.setIfInBounds_toArray,List.set_cons_zero,List.set_cons_succ,i64_w,i32_w]
    rfl
   refine pure_ (i:=5) (N:=some 17) (v:=?_) (a':=?_) #[true,true,true,true,true,true,false,false,false,false,false,false,false,false,false,false,false,false,false,false,false,false,false,false,false,false,false,false] rfl rfl (any_of HT_.out (by kernel_rfl)) (fun _ _ _ h=>h) (Or.inl ⟨by rfl,?_⟩) ?_ ?_
   rotate_left
   ·intro w'
    go_simp
    with_reducible rfl
   rotate_left
   ·simp only [Act.put,List.setIfInBounds_toArray,List.set_cons_zero,List.set_cons_succ,i64_w,i32_w]
    rfl
   refine pure_ (i:=8) (N:=some 20) (v:=?_) (a':=?_) #[true,true,true,true,true,true,false,false,true,false,false,false,false,false,false,false,false,false,false,false,false,false,false,false,false,false,false,false] rfl rfl (any_of HT_.out (by kernel_rfl)) (fun _ _ _ h=>h) (Or.inl ⟨by rfl,?_⟩) ?_ ?_
   rotate_left
   ·intro w'
    go_simp
    with_reducible rfl
   rotate_left
   ·simp only [Act.put,List.setIfInBounds_toArray,List.set_cons_zero,List.set_cons_succ,i64_w,i32_w]
    rfl
   refine pure_ (i:=9) (N:=some 21) (v:=?_) (a':=?_) #[true,true,true,true,true,true,false,false,true,true,false,false,false,false,false,false,false,false,false,false,false,false,false,false,false,false,false,false] rfl rfl (any_of HT_.out (by kernel_rfl)) (fun _ _ _ h=>h) (Or.inl ⟨by rfl,?_⟩) ?_ ?_
   rotate_left
   ·intro w'
    go_simp
    with_reducible rfl
   rotate_left
   ·simp only [Act.put,List.setIfInBounds_toArray,List.set_cons_zero,List.set_cons_succ,i64_w,i32_w]
    rfl
   refine take_ (i:=6) (N:=some 18) (v:=?_) (a':=?_) #[true,true,true,true,true,true,true,false,true,true,false,false,false,false,false,false,false,false,false,false,false,false,false,false,false,false,false,false] rfl rfl (take_ofW HT_.out HW_.out (by kernel_rfl)) (fun _ _ _ h=>h) (Or.inl ⟨by rfl,?_⟩) hHeld ?_ ?_
   rotate_left
   ·rintro w' ⟨s0,s1,s2⟩
    go_simp
    with_reducible rfl
   rotate_left
   ·simp only [Act.put,List.setIfInBounds_toArray,List.set_cons_zero,List.set_cons_succ,i64_w,i32_w]
    rfl
   refine pure_ (i:=7) (N:=some 19) (v:=?_) (a':=?_) #[true,true,true,true,true,true,true,true,true,true,false,false,false,false,false,false,false,false,false,false,false,false,false,false,false,false,false,false] rfl rfl (any_of HT_.out (by kernel_rfl)) (fun _ _ _ h=>h) (Or.inl ⟨by rfl,?_⟩) ?_ ?_
   rotate_left
   ·intro w'
    go_simp
    with_reducible rfl
   rotate_left
   ·simp only [Act.put,List.setIfInBounds_toArray,List.set_cons_zero,List.set_cons_succ,i64_w,i32_w]
    rfl
   refine take_ (i:=10) (N:=some 22) (v:=?_) (a':=?_) #[true,true,true,true,true,true,true,true,true,true,true,false,false,false,false,false,false,false,false,false,false,false,false,false,false,false,false,false] rfl rfl (take_ofW HT_.out HW_.out (by kernel_rfl)) (fun _ _ _ h=>h) (Or.inl ⟨by rfl,?_⟩) hHeld ?_ ?_
   rotate_left
   ·rintro w' ⟨s0,s1,s2⟩
    go_simp
    with_reducible rfl
   rotate_left
   ·simp only [Act.put,List.setIfInBounds_toArray,List.set_cons_zero,List.set_cons_succ,i64_w,i32_w]
    rfl
   refine pure_ (i:=11) (N:=some 23) (v:=?_) (a':=?_) #[true,true,true,true,true,true,true,true,true,true,true,true,false,false,false,false,false,false,false,false,false,false,false,false,false,false,false,false] rfl rfl (any_of HT_.out (by kernel_rfl)) (fun _ _ _ h=>h) (Or.inl ⟨by rfl,?_⟩) ?_ ?_
   rotate_left
   ·intro w'
    go_simp
    with_reducible rfl
   rotate_left
   ·simp only [Act.put,List.setIfInBounds_toArray,List.set_cons_zero,List.set_cons_succ,i64_w,i32_w]
    rfl
   refine pure_ (i:=12) (N:=some 24) (v:=?_) (a':=?_) #[true,true,true,true,true,true,true,true,true,true,true,true,true,false,false,false,false,false,false,false,false,false,false,false,false,false,false,false] rfl rfl (any_of HT_.out (by kernel_rfl)) (fun _ _ _ h=>h) (Or.inl ⟨by rfl,?_⟩) ?_ ?_
   rotate_left
   ·intro w'
    go_simp
    with_reducible rfl
   rotate_left
   ·simp only [Act.put,List.setIfInBounds_toArray,List.set_cons_zero,List.set_cons_succ,i64_w,i32_w]
    rfl
   refine pure_ (i:=13) (N:=some 25) (v:=?_) (a':=?_) #[true,true,true,true,true,true,true,true,true,true,true,true,true,true,false,false,false,false,false,false,false,false,false,false,false,false,false,false] rfl rfl (any_of HT_.out (by kernel_rfl)) (fun _ _ _ h=>h) (Or.inl ⟨by rfl,?_⟩) ?_ ?_
   rotate_left
   ·intro w'
    go_simp
    with_reducible rfl
   rotate_left
   ·simp only [Act.put,List.setIfInBounds_toArray,List.set_cons_zero,List.set_cons_succ,i64_w,i32_w]
    rfl
   refine pure_ (i:=14) (N:=some 26) (v:=?_) (a':=?_) #[true,true,true,true,true,true,true,true,true,true,true,true,true,true,true,false,false,false,false,false,false,false,false,false,false,false,false,false] rfl rfl (any_of HT_.out (by kernel_rfl)) (fun _ _ _ h=>h) (Or.inl ⟨by rfl,?_⟩) ?_ ?_
   rotate_left
   ·intro w'
    go_simp
    with_reducible rfl
   rotate_left
   ·simp only [Act.put,List.setIfInBounds_toArray,List.set_cons_zero,List.set_cons_succ,i64_w,i32_w]
    rfl
   refine pure_ (i:=15) (N:=some 27) (v:=?_) (a':=?_) #[true,true,true,true,true,true,true,true,true,true,true,true,true,true,true,true,false,false,false,false,false,false,false,false,false,false,false,false] rfl rfl (any_of HT_.out (by kernel_rfl)) (fun _ _ _ h=>h) (Or.inl ⟨by rfl,?_⟩) ?_ ?_
   rotate_left
   ·intro w'
    go_simp
    with_reducible rfl
   rotate_left
   ·simp only [Act.put,List.setIfInBounds_toArray,List.set_cons_zero,List.set_cons_succ,i64_w,i32_w]
    rfl
   refine pure_ (i:=16) (N:=some 28) (v:=?_) (a':=?_) #[true,true,true,true,true,true,true,true,true,true,true,true,true,true,true,true,true,false,false,false,false,false,false,false,false,false,false,false] rfl rfl (any_of HT_.out (by kernel_rfl)) (fun _ _ _ h=>h) (Or.inl ⟨by rfl,?_⟩) ?_ ?_
   rotate_left
   ·intro w'
    go_simp
    with_reducible rfl
   rotate_left
   ·simp only [Act.put,List.setIfInBounds_toArray,List.set_cons_zero,List.set_cons_succ,i64_w,i32_w]
    rfl
   refine take_ (i:=17) (N:=some 29) (v:=?_) (a':=?_) #[true,true,true,true,true,true,true,true,true,true,true,true,true,true,true,true,true,true,false,false,false,false,false,false,false,false,false,false] rfl rfl (take_ofW HT_.out HW_.out (by kernel_rfl)) (fun _ _ _ h=>h) (Or.inl ⟨by rfl,?_⟩) hHeld ?_ ?_
   rotate_left
   ·rintro w' ⟨s0,s1,s2⟩
    go_simp
    with_reducible rfl
   rotate_left
   ·simp only [Act.put,List.setIfInBounds_toArray,List.set_cons_zero,List.set_cons_succ,i64_w,i32_w]
    rfl
   refine pure_ (i:=18) (N:=some 30) (v:=?_) (a':=?_) #[true,true,true,true,true,true,true,true,true,true,true,true,true,true,true,true,true,true,true,false,false,false,false,false,false,false,false,false] rfl rfl (any_of HT_.out (by kernel_rfl)) (fun _ _ _ h=>h) (Or.inl ⟨by rfl,?_⟩) ?_ ?_
   rotate_left
   ·intro w'
    go_simp
    with_reducible rfl
   rotate_left
   ·simp only [Act.put,List.setIfInBounds_toArray,List.set_cons_zero,List.set_cons_succ,i64_w,i32_w]
    rfl
   refine pure_ (i:=19) (N:=some 31) (v:=?_) (a':=?_) #[true,true,true,true,true,true,true,true,true,true,true,true,true,true,true,true,true,true,true,true,false,false,false,false,false,false,false,false] rfl rfl (any_of HT_.out (by kernel_rfl)) (fun _ _ _ h=>h) (Or.inl ⟨by rfl,?_⟩) ?_ ?_
   rotate_left
   ·intro w'
    go_simp
    with_reducible rfl
   rotate_left
   ·simp only [Act.put,List.setIfInBounds_toArray,List.set_cons_zero,List.set_cons_succ,i64_w,i32_w]
    rfl
   refine pure_ (i:=20) (N:=some 32) (v:=?_) (a':=?_) #[true,true,true,true,true,true,true,true,true,true,true,true,true,true,true,true,true,true,true,true,true,false,false,false,false,false,false,false] rfl rfl (any_of HT_.out (by kernel_rfl)) (fun _ _ _ h=>h) (Or.inl ⟨by rfl,?_⟩) ?_ ?_
   rotate_left
   ·intro w'
    go_simp
    with_reducible rfl
   rotate_left
   ·simp only [Act.put,List.setIfInBounds_toArray,List.set_cons_zero,List.set_cons_succ,i64_w,i32_w]
    rfl
   refine pure_ (i:=21) (N:=some 33) (v:=?_) (a':=?_) #[true,true,true,true,true,true,true,true,true,true,true,true,true,true,true,true,true,true,true,true,true,true,false,false,false,false,false,false] rfl rfl (any_of HT_.out (by kernel_rfl)) (fun _ _ _ h=>h) (Or.inl ⟨by rfl,?_⟩) ?_ ?_
   rotate_left
   ·intro w'
    go_simp
    with_reducible rfl
   rotate_left
   ·simp only [Act.put,List.setIfInBounds_toArray,List.set_cons_zero,List.set_cons_succ,i64_w,i32_w]
    rfl
   refine pure_ (i:=22) (N:=some 34) (v:=undef) (a':=?_) #[true,true,true,true,true,true,true,true,true,true,true,true,true,true,true,true,true,true,true,true,true,true,true,false,false,false,false,false] rfl rfl (any_of HT_.out (by kernel_rfl)) (fun _ _ _ h=>h) (Or.inr ⟨by rfl,rfl⟩) ?_ ?_
   rotate_left
   ·simp only [Act.put,List.setIfInBounds_toArray,List.set_cons_zero,List.set_cons_succ,i64_w,i32_w]
    rfl
   refine pure_ (i:=23) (N:=some 35) (v:=undef) (a':=?_) #[true,true,true,true,true,true,true,true,true,true,true,true,true,true,true,true,true,true,true,true,true,true,true,true,false,false,false,false] rfl rfl (any_of HT_.out (by kernel_rfl)) (fun _ _ _ h=>h) (Or.inr ⟨by rfl,rfl⟩) ?_ ?_
   rotate_left
   ·simp only [Act.put,List.setIfInBounds_toArray,List.set_cons_zero,List.set_cons_succ,i64_w,i32_w]
    rfl
   refine pure_ (i:=24) (N:=some 36) (v:=undef) (a':=?_) #[true,true,true,true,true,true,true,true,true,true,true,true,true,true,true,true,true,true,true,true,true,true,true,true,true,false,false,false] rfl rfl (any_of HT_.out (by kernel_rfl)) (fun _ _ _ h=>h) (Or.inr ⟨by rfl,rfl⟩) ?_ ?_
   rotate_left
   ·simp only [Act.put,List.setIfInBounds_toArray,List.set_cons_zero,List.set_cons_succ,i64_w,i32_w]
    rfl
   refine pure_ (i:=25) (N:=some 37) (v:=undef) (a':=?_) #[true,true,true,true,true,true,true,true,true,true,true,true,true,true,true,true,true,true,true,true,true,true,true,true,true,true,false,false] rfl rfl (any_of HT_.out (by kernel_rfl)) (fun _ _ _ h=>h) (Or.inr ⟨by rfl,rfl⟩) ?_ ?_
   rotate_left
   ·simp only [Act.put,List.setIfInBounds_toArray,List.set_cons_zero,List.set_cons_succ,i64_w,i32_w]
    rfl
   refine pure_ (i:=26) (N:=some 38) (v:=undef) (a':=?_) #[true,true,true,true,true,true,true,true,true,true,true,true,true,true,true,true,true,true,true,true,true,true,true,true,true,true,true,false] rfl rfl (any_of HT_.out (by kernel_rfl)) (fun _ _ _ h=>h) (Or.inr ⟨by rfl,rfl⟩) ?_ ?_
   rotate_left
   ·simp only [Act.put,List.setIfInBounds_toArray,List.set_cons_zero,List.set_cons_succ,i64_w,i32_w]
    rfl
   refine pure_ (i:=27) (N:=some 39) (v:=?_) (a':=?_) #[true,true,true,true,true,true,true,true,true,true,true,true,true,true,true,true,true,true,true,true,true,true,true,true,true,true,true,true] rfl rfl (any_of HT_.out (by kernel_rfl)) (fun _ _ _ h=>h) (Or.inl ⟨by rfl,?_⟩) ?_ ?_
   rotate_left
   ·intro w'
    go_simp
    with_reducible rfl
   rotate_left
   ·simp only [Act.put,List.setIfInBounds_toArray,List.set_cons_zero,List.set_cons_succ,i64_w,i32_w]
    rfl
   refine done_ (done_of HT_.out (by kernel_rfl)) ?_
   try go_wp2
   go_meet
   case rel=>exact ⟨_,(true),(by first | rfl | (simp;done) | (simp [*];done)),H',⟨by first | omega | exact Nat.le_refl _⟩,⟨by repeat (first | (with_reducible first | exact HB.out | apply below_alloc | apply pw_below_drewN | apply below_drew1) | exact HB.out)⟩⟩
  rw [if_neg c8] at H
  have c8b0:decide (((rd_L3 l1 0).length:Int) < 1) = false:=decide_eq_false c8
  have c8b1:decide ((rd_L3 l1 0).length < 1) = false:=decide_eq_false (by omega)
  clear c8
  have H':=Aside0.mk H
  clear H
  try go_wp2
  have n0_:=Aside0.mk (below_drew1 HB.out)
  clear HB
  have HB:=n0_
  clear n0_
  have p181:0 ≤ (0:Int):=(by omega)
  have q181:0 < (l1.length:Int):=of_decide_eq_true (by first | (with_reducible assumption) | assumption)
  obtain ⟨ad181,A181_0,c181_0,e181,hx181_0,hl181_0,hi181_0⟩:=at_L3 HR1.out 0 p181 q181
  have hw181_0:=hx181_0
  (try rw [show ((0:Int)).toNat = 0 from rfl] at hw181_0)
  (try rw [show 0 * 1 = 0 from rfl] at hw181_0)
  (try rw [Addr.add_zero'] at hw181_0)
  cases e181
  have qi181:(0 < l1.length) = True:=eq_true (by omega)
  (try rw [show ((0:Int)).toNat = 0 from rfl] at hx181_0)
  (try rw [Addr.add_zero'] at hx181_0)
  replace hx181_0:=(HB.out.cell (World.block_lt_of_cell? w _ hx181_0)).trans hx181_0
  have HR181_0:=Aside0.mk hi181_0
  have HC181_0:=Aside0.mk hl181_0
  clear hi181_0 hl181_0
  replace p181:=eq_true p181
  replace q181:=eq_true q181
  have p182:0 ≤ (1:Int):=(by omega)
  have q182:1 < (l1.length:Int):=of_decide_eq_true (by first | (with_reducible assumption) | assumption)
  obtain ⟨ad182,A182_0,c182_0,e182,hx182_0,hl182_0,hi182_0⟩:=at_L3 HR1.out 1 p182 q182
  have hw182_0:=hx182_0
  (try rw [show ((1:Int)).toNat = 1 from rfl] at hw182_0)
  (try rw [show 1 * 1 = 1 from rfl] at hw182_0)
  (try simp only [Nat.reduceMul,Nat.reduceEqDiff,Go.Addr.add,↓reduceIte] at hw182_0)
  obtain rfl:ad181 = ad182:=(by injection e182)
  (try simp only [show (1:Int).toNat = 1 from rfl,Nat.reduceMul,Nat.reduceEqDiff,Go.Addr.add,↓reduceIte] at hx182_0)
  have qi182:(1 < l1.length) = True:=eq_true (by omega)
  (try rw [show ((1:Int)).toNat = 1 from rfl] at hx182_0)
  replace hx182_0:=(HB.out.cell (World.block_lt_of_cell? w _ hx182_0)).trans hx182_0
  have HR182_0:=Aside0.mk hi182_0
  have HC182_0:=Aside0.mk hl182_0
  clear hi182_0 hl182_0
  replace p182:=eq_true p182
  replace q182:=eq_true q182
  have p183:0 ≤ (0:Int):=(by omega)
  have q183:0 < (l1.length:Int):=of_decide_eq_true (by first | (with_reducible assumption) | assumption)
  obtain ⟨ad183,A183_0,c183_0,e183,hx183_0,hl183_0,hi183_0⟩:=at_L3 HR1.out 0 p183 q183
  have hw183_0:=hx183_0
  (try rw [show ((0:Int)).toNat = 0 from rfl] at hw183_0)
  (try rw [show 0 * 1 = 0 from rfl] at hw183_0)
  (try rw [Addr.add_zero'] at hw183_0)
  obtain rfl:ad181 = ad183:=(by injection e183)
  have qi183:(0 < l1.length) = True:=eq_true (by omega)
  (try rw [show ((0:Int)).toNat = 0 from rfl] at hx183_0)
  (try rw [Addr.add_zero'] at hx183_0)
  replace hx183_0:=(HB.out.cell (World.block_lt_of_cell? w _ hx183_0)).trans hx183_0
  have HR183_0:=Aside0.mk hi183_0
  have HC183_0:=Aside0.mk hl183_0
  clear hi183_0 hl183_0
  replace p183:=eq_true p183
  replace q183:=eq_true q183
  have ea_:=Option.some.inj (hx181_0.symm.trans hx183_0)
  injection ea_ with ea_ en_ ec_
  subst ea_
  subst ec_
  clear en_
  have p184:0 ≤ (0:Int):=(by omega)
  have q184:0 < (l1.length:Int):=of_decide_eq_true (by first | (with_reducible assumption) | assumption)
  obtain ⟨ad184,A184_0,c184_0,e184,hx184_0,hl184_0,hi184_0⟩:=at_L3 HR1.out 0 p184 q184
  have hw184_0:=hx184_0
  (try rw [show ((0:Int)).toNat = 0 from rfl] at hw184_0)
  (try rw [show 0 * 1 = 0 from rfl] at hw184_0)
  (try rw [Addr.add_zero'] at hw184_0)
  obtain rfl:ad181 = ad184:=(by injection e184)
  have qi184:(0 < l1.length) = True:=eq_true (by omega)
  (try rw [show ((0:Int)).toNat = 0 from rfl] at hx184_0)
  (try rw [Addr.add_zero'] at hx184_0)
  replace hx184_0:=(HB.out.cell (World.block_lt_of_cell? w _ hx184_0)).trans hx184_0
  have HR184_0:=Aside0.mk hi184_0
  have HC184_0:=Aside0.mk hl184_0
  clear hi184_0 hl184_0
  replace p184:=eq_true p184
  replace q184:=eq_true q184
  have ea_:=Option.some.inj (hx181_0.symm.trans hx184_0)
  injection ea_ with ea_ en_ ec_
  subst ea_
  subst ec_
  clear en_
  refine start_ (n:=28) (S:=fun w'=>w'.cell? ad181 = some (.slice A181_0 (rd_L3 l1 0).length c181_0) ∧ w'.cell? ⟨ad181.block,ad181.off + 1,none⟩ = some (.slice A182_0 (rd_L3 l1 1).length c182_0) ∧ w'.cell? ad181 = some (.slice A181_0 (rd_L3 l1 0).length c181_0) ∧ w'.cell? ad181 = some (.slice A181_0 (rd_L3 l1 0).length c181_0)) (ds:=[]) #[false,false,false,false,false,false,false,false,false,false,false,false,false,false,false,false,false,false,false,false,false,false,false,false,false,false,false,false] (by kernel_rfl) rfl rfl ⟨((HB.out.cell (World.block_lt_of_cell? w _ hw181_0)).trans hw181_0),((HB.out.cell (World.block_lt_of_cell? w _ hw182_0)).trans hw182_0),((HB.out.cell (World.block_lt_of_cell? w _ hw183_0)).trans hw183_0),((HB.out.cell (World.block_lt_of_cell? w _ hw184_0)).trans hw184_0)⟩ (fun hHeld=>?_);refine with_tabW numnahref01_Balance.tab1 numnahref01_Balance.bits1 (fun HT_ HW_=>?_)
  generalize w.drew = w10 at HB HR181_0 HR182_0 HR183_0 HR184_0 hx181_0 hx182_0 hx183_0 hx184_0 hHeld ⊢
  refine pure_ (i:=0) (N:=some 12) (v:=?_) (a':=?_) #[true,false,false,false,false,false,false,false,false,false,false,false,false,false,false,false,false,false,false,false,false,false,false,false,false,false,false,false] rfl rfl (any_of HT_.out (by kernel_rfl)) (fun _ _ _ h=>h) (Or.inl ⟨by rfl,?_⟩) ?_ ?_
  rotate_left
  ·intro w'
   go_simp
   with_reducible rfl
  rotate_left
  ·simp only [Act.put,List.setIfInBounds_toArray,List.set_cons_zero,List.set_cons_succ,i64_w,i32_w]
   rfl
  refine pure_ (i:=1) (N:=some 13) (v:=?_) (a':=?_) #[true,true,false,false,false,false,false,false,false,false,false,false,false,false,false,false,false,false,false,false,false,false,false,false,false,false,false,false] rfl rfl (any_of HT_.out (by kernel_rfl)) (fun _ _ _ h=>h) (Or.inl ⟨by rfl,?_⟩) ?_ ?_
  rotate_left
  ·intro w'
   go_simp
   with_reducible rfl
  rotate_left
  ·simp only [Act.put,List.setIfInBounds_toArray,List.set_cons_zero,List.set_cons_succ,i64_w,i32_w]
   rfl
  refine pure_ (i:=2) (N:=some 14) (v:=?_) (a':=?_) #[true,true,true,false,false,false,false,false,false,false,false,false,false,false,false,false,false,false,false,false,false,false,false,false,false,false,false,false] rfl rfl (any_of HT_.out (by kernel_rfl)) (fun _ _ _ h=>h) (Or.inl ⟨by rfl,?_⟩) ?_ ?_
  rotate_left
  ·intro w'
   go_simp
   with_reducible rfl
  rotate_left
  ·simp only [Act.put,List.setIfInBounds_toArray,List.set_cons_zero,List.set_cons_succ,i64_w,i32_w]
   rfl
  refine pure_ (i:=3) (N:=some 15) (v:=?_) (a':=?_) #[true,true,true,true,false,false,false,false,false,false,false,false,false,false,false,false,false,false,false,false,false,false,false,false,false,false,false,false] rfl rfl (any_of HT_.out (by kernel_rfl)) (fun _ _ _ h=>h) (Or.inl ⟨by rfl,?_⟩) ?_ ?_
  rotate_left
  ·intro w'
   go_simp
   with_reducible rfl
  rotate_left
  ·simp only [Act.put,List.setIfInBounds_toArray,List.set_cons_zero,List.set_cons_succ,i64_w,i32_w]
   rfl
  refine pure_ (i:=4) (N:=some 16) (v:=?_) (a':=?_) #[true,true,true,true,true,false,false,false,false,false,false,false,false,false,false,false,false,false,false,false,false,false,false,false,false,false,false,false] rfl rfl (any_of HT_.out (by kernel_rfl)) (fun _ _ _ h=>h) (Or.inl ⟨by rfl,?_⟩) ?_ ?_
  rotate_left
  ·intro w'
   go_simp
   with_reducible rfl
  rotate_left
  ·simp only [Act.put,List.setIfInBounds_toArray,List.set_cons_zero,List.set_cons_succ,i64_w,i32_w]
   rfl
  refine pure_ (i:=5) (N:=some 17) (v:=?_) (a':=?_) #[true,true,true,true,true,true,false,false,false,false,false,false,false,false,false,false,false,false,false,false,false,false,false,false,false,false,false,false] rfl rfl (any_of HT_.out (by kernel_rfl)) (fun _ _ _ h=>h) (Or.inl ⟨by rfl,?_⟩) ?_ ?_
  rotate_left
  ·intro w'
   go_simp
   with_reducible rfl
  rotate_left
  ·simp only [Act.put,List.setIfInBounds_toArray,List.set_cons_zero,List.set_cons_succ,i64_w,i32_w]
   rfl
  refine pure_ (i:=8) (N:=some 20) (v:=?_) (a':=?_) #[true,true,true,true,true,true,false,false,true,false,false,false,false,false,false,false,false,false,false,false,false,false,false,false,false,false,false,false] rfl rfl (any_of HT_.out (by kernel_rfl)) (fun _ _ _ h=>h) (Or.inl ⟨by rfl,?_⟩) ?_ ?_
  rotate_left
  ·intro w'
   go_simp
   with_reducible rfl
  rotate_left
  ·simp only [Act.put,List.setIfInBounds_toArray,List.set_cons_zero,List.set_cons_succ,i64_w,i32_w]
   rfl
  refine pure_ (i:=9) (N:=some 21) (v:=?_) (a':=?_) #[true,true,true,true,true,true,false,false,true,true,false,false,false,false,false,false,false,false,false,false,false,false,false,false,false,false,false,false] rfl rfl (any_of HT_.out (by kernel_rfl)) (fun _ _ _ h=>h) (Or.inl ⟨by rfl,?_⟩) ?_ ?_
  rotate_left
  ·intro w'
   go_simp
   with_reducible rfl
  rotate_left
  ·simp only [Act.put,List.setIfInBounds_toArray,List.set_cons_zero,List.set_cons_succ,i64_w,i32_w]
   rfl
  refine take_ (i:=6) (N:=some 18) (v:=?_) (a':=?_) #[true,true,true,true,true,true,true,false,true,true,false,false,false,false,false,false,false,false,false,false,false,false,false,false,false,false,false,false] rfl rfl (take_ofW HT_.out HW_.out (by kernel_rfl)) (fun _ _ _ h=>h) (Or.inl ⟨by rfl,?_⟩) hHeld ?_ ?_
  rotate_left
  ·rintro w' ⟨s0,s1,s2,s3⟩
   go_simp
   with_reducible rfl
  rotate_left
  ·simp only [Act.put,List.setIfInBounds_toArray,List.set_cons_zero,List.set_cons_succ,i64_w,i32_w]
   rfl
  refine pure_ (i:=7) (N:=some 19) (v:=?_) (a':=?_) #[true,true,true,true,true,true,true,true,true,true,false,false,false,false,false,false,false,false,false,false,false,false,false,false,false,false,false,false] rfl rfl (any_of HT_.out (by kernel_rfl)) (fun _ _ _ h=>h) (Or.inl ⟨by rfl,?_⟩) ?_ ?_
  rotate_left
  ·intro w'
   go_simp
   with_reducible rfl
  rotate_left
  ·simp only [Act.put,List.setIfInBounds_toArray,List.set_cons_zero,List.set_cons_succ,i64_w,i32_w]
   rfl
  refine take_ (i:=10) (N:=some 22) (v:=?_) (a':=?_) #[true,true,true,true,true,true,true,true,true,true,true,false,false,false,false,false,false,false,false,false,false,false,false,false,false,false,false,false] rfl rfl (take_ofW HT_.out HW_.out (by kernel_rfl)) (fun _ _ _ h=>h) (Or.inl ⟨by rfl,?_⟩) hHeld ?_ ?_
  rotate_left
  ·rintro w' ⟨s0,s1,s2,s3⟩
   go_simp
   with_reducible rfl
  rotate_left
  ·simp only [Act.put,List.setIfInBounds_toArray,List.set_cons_zero,List.set_cons_succ,i64_w,i32_w]
   rfl
  refine pure_ (i:=11) (N:=some 23) (v:=?_) (a':=?_) #[true,true,true,true,true,true,true,true,true,true,true,true,false,false,false,false,false,false,false,false,false,false,false,false,false,false,false,false] rfl rfl (any_of HT_.out (by kernel_rfl)) (fun _ _ _ h=>h) (Or.inl ⟨by rfl,?_⟩) ?_ ?_
  rotate_left
  ·intro w'
   go_simp
   with_reducible rfl
  rotate_left
  ·simp only [Act.put,List.setIfInBounds_toArray,List.set_cons_zero,List.set_cons_succ,i64_w,i32_w]
   rfl
  refine pure_ (i:=12) (N:=some 24) (v:=?_) (a':=?_) #[true,true,true,true,true,true,true,true,true,true,true,true,true,false,false,false,false,false,false,false,false,false,false,false,false,false,false,false] rfl rfl (any_of HT_.out (by kernel_rfl)) (fun _ _ _ h=>h) (Or.inl ⟨by rfl,?_⟩) ?_ ?_
  rotate_left
  ·intro w'
   go_simp
   with_reducible rfl
  rotate_left
  ·simp only [Act.put,List.setIfInBounds_toArray,List.set_cons_zero,List.set_cons_succ,i64_w,i32_w]
   rfl
  refine pure_ (i:=13) (N:=some 25) (v:=?_) (a':=?_) #[true,true,true,true,true,true,true,true,true,true,true,true,true,true,false,false,false,false,false,false,false,false,false,false,false,false,false,false] rfl rfl (any_of HT_.out (by kernel_rfl)) (fun _ _ _ h=>h) (Or.inl ⟨by rfl,?_⟩) ?_ ?_
  rotate_left
  ·intro w'
   go_simp
   with_reducible rfl
  rotate_left
  ·simp only [Act.put,List.setIfInBounds_toArray,List.set_cons_zero,List.set_cons_succ,i64_w,i32_w]
   rfl
  refine pure_ (i:=14) (N:=some 26) (v:=?_) (a':=?_) #[true,true,true,true,true,true,true,true,true,true,true,true,true,true,true,false,false,false,false,false,false,false,false,false,false,false,false,false] rfl rfl (any_of HT_.out (by kernel_rfl)) (fun _ _ _ h=>h) (Or.inl ⟨by rfl,?_⟩) ?_ ?_
  rotate_left
  ·intro w'
   go_simp
   with_reducible rfl
  rotate_left
  ·simp only [Act.put,List.setIfInBounds_toArray,List.set_cons_zero,List.set_cons_succ,i64_w,i32_w]
   rfl
  refine pure_ (i:=15) (N:=some 27) (v:=?_) (a':=?_) #[true,true,true,true,true,true,true,true,true,true,true,true,true,true,true,true,false,false,false,false,false,false,false,false,false,false,false,false] rfl rfl (any_of HT_.out (by kernel_rfl)) (fun _ _ _ h=>h) (Or.inl ⟨by rfl,?_⟩) ?_ ?_
  rotate_left
  ·intro w'
   go_simp
   with_reducible rfl
  rotate_left
  ·simp only [Act.put,List.setIfInBounds_toArray,List.set_cons_zero,List.set_cons_succ,i64_w,i32_w]
   rfl
  refine pure_ (i:=16) (N:=some 28) (v:=?_) (a':=?_) #[true,true,true,true,true,true,true,true,true,true,true,true,true,true,true,true,true,false,false,false,false,false,false,false,false,false,false,false] rfl rfl (any_of HT_.out (by kernel_rfl)) (fun _ _ _ h=>h) (Or.inl ⟨by rfl,?_⟩) ?_ ?_
  rotate_left
  ·intro w'
   go_simp
   with_reducible rfl
  rotate_left
  ·simp only [Act.put,List.setIfInBounds_toArray,List.set_cons_zero,List.set_cons_succ,i64_w,i32_w]
   rfl
  refine take_ (i:=17) (N:=some 29) (v:=?_) (a':=?_) #[true,true,true,true,true,true,true,true,true,true,true,true,true,true,true,true,true,true,false,false,false,false,false,false,false,false,false,false] rfl rfl (take_ofW HT_.out HW_.out (by kernel_rfl)) (fun _ _ _ h=>h) (Or.inl ⟨by rfl,?_⟩) hHeld ?_ ?_
  rotate_left
  ·rintro w' ⟨s0,s1,s2,s3⟩
   go_simp
   with_reducible rfl
  rotate_left
  ·simp only [Act.put,List.setIfInBounds_toArray,List.set_cons_zero,List.set_cons_succ,i64_w,i32_w]
   rfl
  refine pure_ (i:=18) (N:=some 30) (v:=?_) (a':=?_) #[true,true,true,true,true,true,true,true,true,true,true,true,true,true,true,true,true,true,true,false,false,false,false,false,false,false,false,false] rfl rfl (any_of HT_.out (by kernel_rfl)) (fun _ _ _ h=>h) (Or.inl ⟨by rfl,?_⟩) ?_ ?_
  rotate_left
  ·intro w'
   go_simp
   with_reducible rfl
  rotate_left
  ·simp only [Act.put,List.setIfInBounds_toArray,List.set_cons_zero,List.set_cons_succ,i64_w,i32_w]
   rfl
  refine pure_ (i:=19) (N:=some 31) (v:=?_) (a':=?_) #[true,true,true,true,true,true,true,true,true,true,true,true,true,true,true,true,true,true,true,true,false,false,false,false,false,false,false,false] rfl rfl (any_of HT_.out (by kernel_rfl)) (fun _ _ _ h=>h) (Or.inl ⟨by rfl,?_⟩) ?_ ?_
  rotate_left
  ·intro w'
   go_simp
   with_reducible rfl
  rotate_left
  ·simp only [Act.put,List.setIfInBounds_toArray,List.set_cons_zero,List.set_cons_succ,i64_w,i32_w]
   rfl
  refine pure_ (i:=20) (N:=some 32) (v:=?_) (a':=?_) #[true,true,true,true,true,true,true,true,true,true,true,true,true,true,true,true,true,true,true,true,true,false,false,false,false,false,false,false] rfl rfl (any_of HT_.out (by kernel_rfl)) (fun _ _ _ h=>h) (Or.inl ⟨by rfl,?_⟩) ?_ ?_
  rotate_left
  ·intro w'
   go_simp
   with_reducible rfl
  rotate_left
  ·simp only [Act.put,List.setIfInBounds_toArray,List.set_cons_zero,List.set_cons_succ,i64_w,i32_w]
   rfl
  refine pure_ (i:=21) (N:=some 33) (v:=?_) (a':=?_) #[true,true,true,true,true,true,true,true,true,true,true,true,true,true,true,true,true,true,true,true,true,true,false,false,false,false,false,false] rfl rfl (any_of HT_.out (by kernel_rfl)) (fun _ _ _ h=>h) (Or.inl ⟨by rfl,?_⟩) ?_ ?_
  rotate_left
  ·intro w'
   go_simp
   with_reducible rfl
  rotate_left
  ·simp only [Act.put,List.setIfInBounds_toArray,List.set_cons_zero,List.set_cons_succ,i64_w,i32_w]
   rfl
  refine pure_ (i:=22) (N:=some 34) (v:=?_) (a':=?_) #[true,true,true,true,true,true,true,true,true,true,true,true,true,true,true,true,true,true,true,true,true,true,true,false,false,false,false,false] rfl rfl (any_of HT_.out (by kernel_rfl)) (fun _ _ _ h=>h) (Or.inl ⟨by rfl,?_⟩) ?_ ?_
  rotate_left
  ·intro w'
   go_simp
   with_reducible rfl
  rotate_left
  ·simp only [Act.put,List.setIfInBounds_toArray,List.set_cons_zero,List.set_cons_succ,i64_w,i32_w]
   rfl
  refine pure_ (i:=23) (N:=some 35) (v:=?_) (a':=?_) #[true,true,true,true,true,true,true,true,true,true,true,true,true,true,true,true,true,true,true,true,true,true,true,true,false,false,false,false] rfl rfl (any_of HT_.out (by kernel_rfl)) (fun _ _ _ h=>h) (Or.inl ⟨by rfl,?_⟩) ?_ ?_
  rotate_left
  ·intro w'
   go_simp
   with_reducible rfl
  rotate_left
  ·simp only [Act.put,List.setIfInBounds_toArray,List.set_cons_zero,List.set_cons_succ,i64_w,i32_w]
   rfl
  refine take_ (i:=24) (N:=some 36) (v:=?_) (a':=?_) #[true,true,true,true,true,true,true,true,true,true,true,true,true,true,true,true,true,true,true,true,true,true,true,true,true,false,false,false] rfl rfl (take_ofW HT_.out HW_.out (by kernel_rfl)) (fun _ _ _ h=>h) (Or.inl ⟨by rfl,?_⟩) hHeld ?_ ?_
  rotate_left
  ·rintro w' ⟨s0,s1,s2,s3⟩
   go_simp
   with_reducible rfl
  rotate_left
  ·simp only [Act.put,List.setIfInBounds_toArray,List.set_cons_zero,List.set_cons_succ,i64_w,i32_w]
   rfl
  refine pure_ (i:=25) (N:=some 37) (v:=?_) (a':=?_) #[true,true,true,true,true,true,true,true,true,true,true,true,true,true,true,true,true,true,true,true,true,true,true,true,true,true,false,false] rfl rfl (any_of HT_.out (by kernel_rfl)) (fun _ _ _ h=>h) (Or.inl ⟨by rfl,?_⟩) ?_ ?_
  rotate_left
  ·intro w'
   go_simp
   with_reducible rfl
  rotate_left
  ·simp only [Act.put,List.setIfInBounds_toArray,List.set_cons_zero,List.set_cons_succ,i64_w,i32_w]
   rfl
  refine pure_ (i:=26) (N:=some 38) (v:=?_) (a':=?_) #[true,true,true,true,true,true,true,true,true,true,true,true,true,true,true,true,true,true,true,true,true,true,true,true,true,true,true,false] rfl rfl (any_of HT_.out (by kernel_rfl)) (fun _ _ _ h=>h) (Or.inl ⟨by rfl,?_⟩) ?_ ?_
  rotate_left
  ·intro w'
   go_simp
   with_reducible rfl
  rotate_left
  ·simp only [Act.put,List.setIfInBounds_toArray,List.set_cons_zero,List.set_cons_succ,i64_w,i32_w]
   rfl
  refine pure_ (i:=27) (N:=some 39) (v:=?_) (a':=?_) #[true,true,true,true,true,true,true,true,true,true,true,true,true,true,true,true,true,true,true,true,true,true,true,true,true,true,true,true] rfl rfl (any_of HT_.out (by kernel_rfl)) (fun _ _ _ h=>h) (Or.inl ⟨by rfl,?_⟩) ?_ ?_
  rotate_left
  ·intro w'
   go_simp
   with_reducible rfl
  rotate_left
  ·simp only [Act.put,List.setIfInBounds_toArray,List.set_cons_zero,List.set_cons_succ,i64_w,i32_w]
   rfl
  refine done_ (done_of HT_.out (by kernel_rfl)) ?_
  try go_wp2
  go_meet
  case rel=>exact ⟨_,(decide (((rd_L3 l1 0).length:Int) > 1000)),(by first | rfl | (simp;done) | (simp [*];done)),H',⟨by first | omega | exact Nat.le_refl _⟩,⟨by repeat (first | (with_reducible first | exact HB.out | apply below_alloc | apply pw_below_drewN | apply below_drew1) | exact HB.out)⟩⟩
 case rest =>
  clear HC3
  try clear c1
  try clear p1
  try clear q1
  try clear hx1
  try clear qi1
  try clear p2
  try clear c4
  try clear c4b0
  try clear c4b1
  try clear c5
  try clear c6
  try clear c7
  try clear c7b0
  try clear c7b1
  try clear c7b2
  try clear hx181_0
  try clear hx182_0
  try clear p181
  try clear p182
  try clear q181
  try clear q182
  obtain ⟨kq,x39_2,rfl,HA,HJ2,HB⟩:=hcut
  cases kq with
  | zero=>exact absurd HA.out (by simp [numnahref01_Balance.j0])
  | succ kj2 =>
   have H:=HA.out
   clear HA
   simp only [numnahref01_Balance.j0] at H
   by_cases c13:x39_2 = true
   ·subst c13
    have H1:(some false) = some r:=by rw [if_pos rfl] at H;exact H
    clear H
    have H:=H1
    clear H1
    obtain rfl:=Option.some.inj H
    go_wp2
    go_ret
    exact ⟨by first | rfl | (simp [errW_none,errW_some] <;> rfl) | (simp [*,errW_none,errW_some] <;> rfl),by repeat (first | (with_reducible first | exact HB.out | apply below_alloc | apply pw_below_drewN | apply below_drew1) | exact HB.out)⟩
   replace c13:=Bool.eq_false_iff.mpr c13
   subst c13
   have H1:((numnahref01_Vars.f kj2 a0).bind fun t185=>(if 0 ≤ t185 then (if (t185:Int).toNat ≤ 35184372088832 then (numnahref01_Balance.l0 kj2 a0 l1 t185 (List.replicate (t185:Int).toNat 0) 0) else (none)) else (none))) = some r:=by rw [if_neg (show ¬ (false = true) by decide)] at H;exact H
   clear H
   have H:=H1
   clear H1
   replace H:=Option.bind_eq_some_iff.mp H
   obtain ⟨t185,A140,H⟩:=H
   replace H:(if 0 ≤ t185 then (if (t185:Int).toNat ≤ 35184372088832 then (numnahref01_Balance.l0 kj2 a0 l1 t185 (List.replicate (t185:Int).toNat 0) 0) else (none)) else (none)) = some r:=H
   have A14:=Aside0.mk A140
   clear A140
   by_cases c15:0 ≤ t185
   case neg =>
    rw [if_neg c15] at H
    exact absurd H (by simp)
   rw [if_pos c15] at H
   have c15b0:=eq_true c15
   have c15b1:decide (0 ≤ t185) = true:=decide_eq_true c15
   clear c15
   by_cases c16:(t185:Int).toNat ≤ 35184372088832
   case neg =>
    rw [if_neg c16] at H
    exact absurd H (by simp)
   rw [if_pos c16] at H
   have c16b0:=eq_true c16
   have c16b1:decide ((t185:Int).toNat ≤ 35184372088832) = true:=decide_eq_true c16
   clear c16
   obtain ⟨y186,hy186⟩:∃ y_:List Int,y_ = (List.replicate (t185:Int).toNat 0):=⟨_,rfl⟩
   replace H:(numnahref01_Balance.l0 kj2 a0 l1 t185 y186 0) = some r:=by first | (rw [hy186];with_reducible exact H) | (have H2_:=(Option.bind_some _ _).symm.trans H;rw [hy186];with_reducible exact H2_) | (have H2_:=(Option.bind_some _ _).symm.trans H;with_reducible exact H2_) | with_reducible exact H | (rw [hy186];exact H) | exact H
   have Ny186:=Aside0.mk hy186
   clear hy186
   have H':=Aside0.mk H
   clear H
   go_wp2_with (first | ((with_reducible refine gate_callee (f:=24) rfl ?_);refine goesL_ (some 41) rfl rfl Try.func24 (by kernel_rfl) rfl #[.string a0] rfl (by (try simp only [List.map_toArray,List.map_cons,List.map_nil]);first | done | rfl | (simp only [List.length_drop,List.length_take];rfl)) ?_;(with_reducible refine (numnahref01_Vars.calls kj2 a0 t185 _ A14.out).mono ?_);rintro e w' ⟨rfl,⟨nd,rfl⟩⟩;refine ⟨_,rfl,?_⟩) | ((with_reducible refine gate_dst (N:=43) rfl ?_);(try (refine gate_guard (by rfl) ?_;dsimp only));refine Kd.R_make (Kd.int .i64) _ 3 rfl (N:=43) rfl 22 _ _ rfl t185 rfl rfl Try.underlying22 (.int .i64 0) 8 info3 rfl (by decide) (by omega) 0 (ok:=fun _=>True) (okp:=fun _=>True) rfl (fun _ hk=>hk) trivial (of_decide_eq_true (by first | (with_reducible assumption) | assumption)) (Nat.le_trans (Nat.mul_le_mul_right _ (of_decide_eq_true (by first | (with_reducible assumption) | assumption):t185.toNat ≤ 35184372088832)) (by omega)) (Below.refl _ _) (Nat.le_refl _) ?_;intro v187 w17 ho18 hb hg_ hnew_;clear hg_ hnew_;(first | rw [← Ny186.out] at ho18 | (simp only [Int.reduceToNat] at ho18;rw [← Ny186.out] at ho18));have n0_:=Aside0.mk (Kd.R_lower ho18 (below_size (by repeat (first | (with_reducible first | exact HB.out | apply below_alloc | apply pw_below_drewN | apply below_drew1) | exact HB.out))));have n1_:=Aside0.mk (below_step (by repeat (first | (with_reducible first | exact HB.out | apply below_alloc | apply pw_below_drewN | apply below_drew1) | exact HB.out)) hb);clear HB;have HO188:=n0_;have HB:=n1_;clear n0_ n1_;clear hb ho18))
   go_loopg [7] kj2 (fun kq v7 w'=>∃ (x6_2:List Int) (x7_2:Int),v7 = .int .i64 x7_2 ∧ Aside0 (numnahref01_Balance.l0 kq a0 l1 t185 x6_2 x7_2 = some r) ∧ Aside0 (kq ≤ kj2) ∧ Aside0 (Kd.R (Kd.int .i64) 3 w' w.heap.size (fun _=>True) v187 x6_2) ∧ Aside0 (Below w.heap.size w w'))
   case atStart=>exact ⟨(y186),(0),(by first | rfl | (simp;done) | (simp [*];done)),H',⟨Nat.le_refl _⟩,⟨by (with_reducible repeat (first | apply Kd.R_alloc | apply Kd.R_drewN | apply Kd.R_drew));exact HO188.out⟩,⟨by repeat (first | (with_reducible first | exact HB.out | apply below_alloc | apply pw_below_drewN | apply below_drew1) | exact HB.out)⟩⟩
   case round =>
    clear H'
    try clear c1
    try clear p1
    try clear q1
    try clear hx1
    try clear qi1
    try clear c2
    try clear p2
    try clear c4
    try clear c4b0
    try clear c4b1
    try clear c5
    try clear c6
    try clear c7
    try clear c7b0
    try clear c7b1
    try clear c7b2
    try clear c13
    try clear c15
    try clear c15b0
    try clear c15b1
    try clear c16
    try clear c16b0
    try clear c16b1
    try clear c18
    try clear p18
    try clear q18
    try clear hx18
    try clear qi18
    try clear hx181_0
    try clear hx182_0
    try clear p1
    try clear p181
    try clear p182
    try clear p2
    try clear q1
    try clear q181
    try clear q182
    obtain ⟨x6_2,x7_2,rfl,HA,HK2,HO_6,HB⟩:=hrel
    cases gk with
    | zero=>exact absurd HA.out (by simp [numnahref01_Balance.l0])
    | succ k2 =>
     have H:=HA.out
     clear HA
     simp only [numnahref01_Balance.l0] at H
     by_cases c19:0 < (l1.length:Int)
     case neg =>
      rw [if_neg c19] at H
      exact absurd H (by simp)
     rw [if_pos c19] at H
     have c19b0:decide (0 < (l1.length:Int)) = true:=decide_eq_true c19
     have c19b1:decide (0 < l1.length) = true:=decide_eq_true (by omega)
     clear c19
     by_cases c20:x7_2 < ((rd_L3 l1 0).length:Int)
     case neg =>
      rw [if_neg c20] at H
      have c20b0:decide (x7_2 < ((rd_L3 l1 0).length:Int)) = false:=decide_eq_false c20
      clear c20
      have H':=Aside0.mk H
      clear H
      have p189:0 ≤ (0:Int):=(by omega)
      have q189:0 < (l1.length:Int):=of_decide_eq_true (by first | (with_reducible assumption) | assumption)
      obtain ⟨ad189,A189_0,c189_0,e189,hx189_0,hl189_0,hi189_0⟩:=at_L3 HR1.out 0 p189 q189
      cases e189
      have qi189:(0 < l1.length) = True:=eq_true (by omega)
      (try rw [show ((0:Int)).toNat = 0 from rfl] at hx189_0)
      (try rw [Addr.add_zero'] at hx189_0)
      replace hx189_0:=(HB.out.cell (World.block_lt_of_cell? w _ hx189_0)).trans hx189_0
      have HR189_0:=Aside0.mk hi189_0
      have HC189_0:=Aside0.mk hl189_0
      clear hi189_0 hl189_0
      replace p189:=eq_true p189
      replace q189:=eq_true q189
      go_wp2
      go_loopg [11] k2 (fun kq v11 w'=>∃ (x11_3:Int),v11 = .int .i64 x11_3 ∧ Aside0 (numnahref01_Balance.l2 kq t185 x6_2 x11_3 = some r) ∧ Aside0 (kq ≤ k2) ∧ Aside0 (Kd.R (Kd.int .i64) 3 w' w.heap.size (fun _=>True) v187 x6_2) ∧ Aside0 (Below w.heap.size w w'))
      case atStart=>exact ⟨(0),(by first | rfl | (simp;done) | (simp [*];done)),H',⟨Nat.le_refl _⟩,⟨by (with_reducible repeat (first | apply Kd.R_alloc | apply Kd.R_drewN | apply Kd.R_drew));exact HO_6.out⟩,⟨by repeat (first | (with_reducible first | exact HB.out | apply below_alloc | apply pw_below_drewN | apply below_drew1) | exact HB.out)⟩⟩
      case round =>
       clear H'
       try clear c1
       try clear p1
       try clear q1
       try clear hx1
       try clear qi1
       try clear c2
       try clear p2
       try clear c3
       try clear p3
       try clear q3
       try clear hx3
       try clear c4
       try clear c4b0
       try clear c4b1
       try clear p4
       try clear q4
       try clear hx4
       try clear hf4
       try clear c5
       try clear c6
       try clear p6
       try clear c7
       try clear c7b0
       try clear c7b1
       try clear c7b2
       try clear c13
       try clear c15
       try clear c15b0
       try clear c15b1
       try clear c16
       try clear c16b0
       try clear c16b1
       try clear c18
       try clear p18
       try clear q18
       try clear hx18
       try clear qi18
       try clear c19
       try clear c19b0
       try clear c19b1
       try clear p19
       try clear q19
       try clear hx19
       try clear qi19
       try clear c20
       try clear c20b0
       try clear c21
       try clear c21b0
       try clear c22
       try clear c22b0
       try clear c22b1
       try clear c23
       try clear c23b0
       try clear c24
       try clear c26
       try clear c26b0
       try clear c27
       try clear c27b0
       try clear c28
       try clear c28b0
       try clear c29
       try clear c29b0
       try clear c30
       try clear c30b0
       try clear c31
       try clear c31b0
       try clear p32
       try clear q32
       try clear hx32
       try clear c33
       try clear c33b0
       try clear c33b1
       try clear c34
       try clear c34b0
       try clear c35
       try clear c35b0
       try clear p36
       try clear q36
       try clear hx36
       try clear c37
       try clear c38
       try clear c38b0
       try clear c39
       try clear c39b0
       try clear c40
       try clear c40b0
       try clear c41
       try clear c41b0
       try clear c43
       try clear c43b0
       try clear p45
       try clear q45
       try clear hx45
       try clear hf45
       try clear hx181_0
       try clear hx182_0
       try clear hx189_0
       try clear hx190_0
       try clear hx191_0
       try clear hx192_0
       try clear hx193_0
       try clear hx194_0
       try clear hx45_0
       try clear p1
       try clear p18
       try clear p181
       try clear p182
       try clear p189
       try clear p19
       try clear p190
       try clear p191
       try clear p192
       try clear p193
       try clear p194
       try clear p2
       try clear p3
       try clear p32
       try clear p36
       try clear p45
       try clear q1
       try clear q18
       try clear q181
       try clear q182
       try clear q189
       try clear q19
       try clear q190
       try clear q191
       try clear q192
       try clear q193
       try clear q194
       try clear q3
       try clear q32
       try clear q36
       try clear q45
       obtain ⟨x11_3,rfl,HA,HK3,HO_6,HB⟩:=hrel
       cases gk with
       | zero=>exact absurd HA.out (by simp [numnahref01_Balance.l2])
       | succ k3 =>
        have H:=HA.out
        clear HA
        simp only [numnahref01_Balance.l2] at H
        by_cases c49:x11_3 < t185
        case neg =>
         rw [if_neg c49] at H
         have c49b0:decide (x11_3 < t185) = false:=decide_eq_false c49
         clear c49
         obtain rfl:=Option.some.inj H
         go_wp2
         go_ret
         exact ⟨by first | rfl | (simp [errW_none,errW_some] <;> rfl) | (simp [*,errW_none,errW_some] <;> rfl),by repeat (first | (with_reducible first | exact HB.out | apply below_alloc | apply pw_below_drewN | apply below_drew1) | exact HB.out)⟩
        rw [if_pos c49] at H
        have c49b0:decide (x11_3 < t185) = true:=decide_eq_true c49
        clear c49
        by_cases c50:0 ≤ x11_3
        case neg =>
         rw [if_neg c50] at H
         exact absurd H (by simp)
        rw [if_pos c50] at H
        have c50b0:decide (0 ≤ x11_3) = true:=decide_eq_true c50
        clear c50
        by_cases c51:x11_3 < (x6_2.length:Int)
        case neg =>
         rw [if_neg c51] at H
         exact absurd H (by simp)
        rw [if_pos c51] at H
        have c51b0:decide (x11_3 < (x6_2.length:Int)) = true:=decide_eq_true c51
        clear c51
        by_cases c52:(rd x6_2 x11_3) = 0
        case neg =>
         rw [if_neg c52] at H
         have c52b0:((rd x6_2 x11_3) == 0) = false:=beq_eq_false_iff_ne.mpr c52
         have c52b1:((rd x6_2 x11_3) != 0) = true:=bne_iff_ne.mpr c52
         obtain rfl:=Option.some.inj H
         obtain ⟨Ao54,co54,eo54⟩:=Kd.R_slice HO_6.out
         subst eo54
         have p196:0 ≤ (x11_3:Int):=of_decide_eq_true (by first | (with_reducible assumption) | assumption)
         have q196:x11_3 < (x6_2.length:Int):=of_decide_eq_true (by first | (with_reducible assumption) | assumption)
         obtain ⟨ad196,e196,hx196_0⟩:=Kd.at_int (Kd.R_reads' HO_6.out).2.2 x11_3 p196 q196
         cases e196
         replace p196:=eq_true p196
         replace q196:=eq_true q196
         go_wp2
         go_ret
         exact ⟨by first | rfl | (simp [errW_none,errW_some] <;> rfl) | (simp [*,errW_none,errW_some] <;> rfl),by repeat (first | (with_reducible first | exact HB.out | apply below_alloc | apply pw_below_drewN | apply below_drew1) | exact HB.out)⟩
        rw [if_pos c52] at H
        have c52b0:((rd x6_2 x11_3) == 0) = true:=beq_iff_eq.mpr c52
        have c52b1:((rd x6_2 x11_3) != 0) = false:=bne_eq_false_iff_eq.mpr c52
        clear c52
        have H':=Aside0.mk H
        clear H
        obtain ⟨Ao53,co53,eo53⟩:=Kd.R_slice HO_6.out
        subst eo53
        have p196:0 ≤ (x11_3:Int):=of_decide_eq_true (by first | (with_reducible assumption) | assumption)
        have q196:x11_3 < (x6_2.length:Int):=of_decide_eq_true (by first | (with_reducible assumption) | assumption)
        obtain ⟨ad196,e196,hx196_0⟩:=Kd.at_int (Kd.R_reads' HO_6.out).2.2 x11_3 p196 q196
        cases e196
        replace p196:=eq_true p196
        replace q196:=eq_true q196
        go_wp2
        go_roundg k3
        case measure=>have:=HJ2.out;have:=HK2.out;have:=HK3.out;omega
        case rel=>exact ⟨(wrap64 (x11_3 + 1)),(by first | rfl | (simp;done) | (simp [*];done)),H',⟨by have:=HJ2.out;have:=HK2.out;have:=HK3.out;omega⟩,⟨by (with_reducible repeat (first | apply Kd.R_alloc | apply Kd.R_drewN | apply Kd.R_drew));exact HO_6.out⟩,⟨by repeat (first | (with_reducible first | exact HB.out | apply below_alloc | apply pw_below_drewN | apply below_drew1) | exact HB.out)⟩⟩
     rw [if_pos c20] at H
     have c20b0:decide (x7_2 < ((rd_L3 l1 0).length:Int)) = true:=decide_eq_true c20
     clear c20
     by_cases c21:0 ≤ x7_2
     case neg =>
      rw [if_neg c21] at H
      exact absurd H (by simp)
     rw [if_pos c21] at H
     have c21b0:decide (0 ≤ x7_2) = true:=decide_eq_true c21
     clear c21
     by_cases c22:1 < (l1.length:Int)
     case neg =>
      rw [if_neg c22] at H
      exact absurd H (by simp)
     rw [if_pos c22] at H
     have c22b0:decide (1 < (l1.length:Int)) = true:=decide_eq_true c22
     have c22b1:decide (1 < l1.length) = true:=decide_eq_true (by omega)
     clear c22
     by_cases c23:x7_2 < ((rd_L3 l1 1).length:Int)
     case neg =>
      rw [if_neg c23] at H
      exact absurd H (by simp)
     rw [if_pos c23] at H
     have c23b0:decide (x7_2 < ((rd_L3 l1 1).length:Int)) = true:=decide_eq_true c23
     clear c23
     have HC24:=Aside0.mk H
     clear H
     have p189:0 ≤ (0:Int):=(by omega)
     have q189:0 < (l1.length:Int):=of_decide_eq_true (by first | (with_reducible assumption) | assumption)
     obtain ⟨ad189,A189_0,c189_0,e189,hx189_0,hl189_0,hi189_0⟩:=at_L3 HR1.out 0 p189 q189
     cases e189
     have qi189:(0 < l1.length) = True:=eq_true (by omega)
     (try rw [show ((0:Int)).toNat = 0 from rfl] at hx189_0)
     (try rw [Addr.add_zero'] at hx189_0)
     replace hx189_0:=(HB.out.cell (World.block_lt_of_cell? w _ hx189_0)).trans hx189_0
     have HR189_0:=Aside0.mk hi189_0
     have HC189_0:=Aside0.mk hl189_0
     clear hi189_0 hl189_0
     replace p189:=eq_true p189
     replace q189:=eq_true q189
     try go_wp2
     have n0_:=Aside0.mk (Kd.R_drew HO_6.out)
     have n1_:=Aside0.mk (below_drew1 HB.out)
     clear HO_6
     clear HB
     have HO_6:=n0_
     have HB:=n1_
     clear n0_ n1_
     have p190:0 ≤ (0:Int):=(by omega)
     have q190:0 < (l1.length:Int):=of_decide_eq_true (by first | (with_reducible assumption) | assumption)
     obtain ⟨ad190,A190_0,c190_0,e190,hx190_0,hl190_0,hi190_0⟩:=at_L3 HR1.out 0 p190 q190
     have hw190_0:=hx190_0
     (try rw [show ((0:Int)).toNat = 0 from rfl] at hw190_0)
     (try rw [show 0 * 1 = 0 from rfl] at hw190_0)
     (try rw [Addr.add_zero'] at hw190_0)
     obtain rfl:ad189 = ad190:=(by injection e190)
     have qi190:(0 < l1.length) = True:=eq_true (by omega)
     (try rw [show ((0:Int)).toNat = 0 from rfl] at hx190_0)
     (try rw [Addr.add_zero'] at hx190_0)
     replace hx190_0:=(HB.out.cell (World.block_lt_of_cell? w _ hx190_0)).trans hx190_0
     have HR190_0:=Aside0.mk hi190_0
     have HC190_0:=Aside0.mk hl190_0
     clear hi190_0 hl190_0
     replace p190:=eq_true p190
     replace q190:=eq_true q190
     have p191:0 ≤ (x7_2:Int):=of_decide_eq_true (by first | (with_reducible assumption) | assumption)
     have q191:x7_2 < ((rd_L3 l1 0).length:Int):=of_decide_eq_true (by first | (with_reducible assumption) | assumption)
     obtain ⟨ad191,e191,hx191_0⟩:=Kd.at_int HR190_0.out x7_2 p191 q191
     have hw191_0:=hx191_0
     cases e191
     replace hx191_0:=(HB.out.cell (World.block_lt_of_cell? w _ hx191_0)).trans hx191_0
     replace p191:=eq_true p191
     replace q191:=eq_true q191
     have p192:0 ≤ (1:Int):=(by omega)
     have q192:1 < (l1.length:Int):=of_decide_eq_true (by first | (with_reducible assumption) | assumption)
     obtain ⟨ad192,A192_0,c192_0,e192,hx192_0,hl192_0,hi192_0⟩:=at_L3 HR1.out 1 p192 q192
     have hw192_0:=hx192_0
     (try rw [show ((1:Int)).toNat = 1 from rfl] at hw192_0)
     (try rw [show 1 * 1 = 1 from rfl] at hw192_0)
     (try simp only [Nat.reduceMul,Nat.reduceEqDiff,Go.Addr.add,↓reduceIte] at hw192_0)
     obtain rfl:ad189 = ad192:=(by injection e192)
     (try simp only [show (1:Int).toNat = 1 from rfl,Nat.reduceMul,Nat.reduceEqDiff,Go.Addr.add,↓reduceIte] at hx192_0)
     have qi192:(1 < l1.length) = True:=eq_true (by omega)
     (try rw [show ((1:Int)).toNat = 1 from rfl] at hx192_0)
     replace hx192_0:=(HB.out.cell (World.block_lt_of_cell? w _ hx192_0)).trans hx192_0
     have HR192_0:=Aside0.mk hi192_0
     have HC192_0:=Aside0.mk hl192_0
     clear hi192_0 hl192_0
     replace p192:=eq_true p192
     replace q192:=eq_true q192
     have p193:0 ≤ (x7_2:Int):=of_decide_eq_true (by first | (with_reducible assumption) | assumption)
     have q193:x7_2 < ((rd_L3 l1 1).length:Int):=of_decide_eq_true (by first | (with_reducible assumption) | assumption)
     obtain ⟨ad193,e193,hx193_0⟩:=Kd.at_int HR192_0.out x7_2 p193 q193
     have hw193_0:=hx193_0
     cases e193
     replace hx193_0:=(HB.out.cell (World.block_lt_of_cell? w _ hx193_0)).trans hx193_0
     replace p193:=eq_true p193
     replace q193:=eq_true q193
     refine start_ (n:=14) (S:=fun w'=>w'.cell? ad189 = some (.slice (some ad191) (rd_L3 l1 0).length c190_0) ∧ w'.cell? (ad191.add (x7_2).toNat) = some (.int .i64 (rd (rd_L3 l1 0) x7_2)) ∧ w'.cell? ⟨ad189.block,ad189.off + 1,none⟩ = some (.slice (some ad193) (rd_L3 l1 1).length c192_0) ∧ w'.cell? (ad193.add (x7_2).toNat) = some (.int .i64 (rd (rd_L3 l1 1) x7_2))) (ds:=[]) #[false,false,false,false,false,false,false,false,false,false,false,false,false,false] (by kernel_rfl) rfl rfl ⟨((HB.out.cell (World.block_lt_of_cell? w _ hw190_0)).trans hw190_0),((HB.out.cell (World.block_lt_of_cell? w _ hw191_0)).trans hw191_0),((HB.out.cell (World.block_lt_of_cell? w _ hw192_0)).trans hw192_0),((HB.out.cell (World.block_lt_of_cell? w _ hw193_0)).trans hw193_0)⟩ (fun hHeld=>?_);refine with_tabW numnahref01_Balance.tab8 numnahref01_Balance.bits8 (fun HT_ HW_=>?_)
     generalize wr.drew = w25 at HO_6 HB HR190_0 HR192_0 hx190_0 hx191_0 hx192_0 hx193_0 hHeld ⊢
     refine pure_ (i:=0) (N:=some 52) (v:=?_) (a':=?_) #[true,false,false,false,false,false,false,false,false,false,false,false,false,false] rfl rfl (any_of HT_.out (by kernel_rfl)) (fun _ _ _ h=>h) (Or.inl ⟨by rfl,?_⟩) ?_ ?_
     rotate_left
     ·intro w'
      go_simp
      with_reducible rfl
     rotate_left
     ·simp only [Act.put,List.setIfInBounds_toArray,List.set_cons_zero,List.set_cons_succ,i64_w,i32_w]
      rfl
     refine pure_ (i:=1) (N:=some 53) (v:=?_) (a':=?_) #[true,true,false,false,false,false,false,false,false,false,false,false,false,false] rfl rfl (any_of HT_.out (by kernel_rfl)) (fun _ _ _ h=>h) (Or.inl ⟨by rfl,?_⟩) ?_ ?_
     rotate_left
     ·intro w'
      go_simp
      with_reducible rfl
     rotate_left
     ·simp only [Act.put,List.setIfInBounds_toArray,List.set_cons_zero,List.set_cons_succ,i64_w,i32_w]
      rfl
     refine pure_ (i:=3) (N:=some 55) (v:=?_) (a':=?_) #[true,true,false,true,false,false,false,false,false,false,false,false,false,false] rfl rfl (any_of HT_.out (by kernel_rfl)) (fun _ _ _ h=>h) (Or.inl ⟨by rfl,?_⟩) ?_ ?_
     rotate_left
     ·intro w'
      go_simp
      with_reducible rfl
     rotate_left
     ·simp only [Act.put,List.setIfInBounds_toArray,List.set_cons_zero,List.set_cons_succ,i64_w,i32_w]
      rfl
     refine pure_ (i:=6) (N:=some 58) (v:=?_) (a':=?_) #[true,true,false,true,false,false,true,false,false,false,false,false,false,false] rfl rfl (any_of HT_.out (by kernel_rfl)) (fun _ _ _ h=>h) (Or.inl ⟨by rfl,?_⟩) ?_ ?_
     rotate_left
     ·intro w'
      go_simp
      with_reducible rfl
     rotate_left
     ·simp only [Act.put,List.setIfInBounds_toArray,List.set_cons_zero,List.set_cons_succ,i64_w,i32_w]
      rfl
     refine pure_ (i:=7) (N:=some 59) (v:=?_) (a':=?_) #[true,true,false,true,false,false,true,true,false,false,false,false,false,false] rfl rfl (any_of HT_.out (by kernel_rfl)) (fun _ _ _ h=>h) (Or.inl ⟨by rfl,?_⟩) ?_ ?_
     rotate_left
     ·intro w'
      go_simp
      with_reducible rfl
     rotate_left
     ·simp only [Act.put,List.setIfInBounds_toArray,List.set_cons_zero,List.set_cons_succ,i64_w,i32_w]
      rfl
     refine pure_ (i:=9) (N:=some 61) (v:=?_) (a':=?_) #[true,true,false,true,false,false,true,true,false,true,false,false,false,false] rfl rfl (any_of HT_.out (by kernel_rfl)) (fun _ _ _ h=>h) (Or.inl ⟨by rfl,?_⟩) ?_ ?_
     rotate_left
     ·intro w'
      go_simp
      with_reducible rfl
     rotate_left
     ·simp only [Act.put,List.setIfInBounds_toArray,List.set_cons_zero,List.set_cons_succ,i64_w,i32_w]
      rfl
     refine take_ (i:=2) (N:=some 54) (v:=?_) (a':=?_) #[true,true,true,true,false,false,true,true,false,true,false,false,false,false] rfl rfl (take_ofW HT_.out HW_.out (by kernel_rfl)) (fun _ _ _ h=>h) (Or.inl ⟨by rfl,?_⟩) hHeld ?_ ?_
     rotate_left
     ·rintro w' ⟨s0,s1,s2,s3⟩
      go_simp
      with_reducible rfl
     rotate_left
     ·simp only [Act.put,List.setIfInBounds_toArray,List.set_cons_zero,List.set_cons_succ,i64_w,i32_w]
      rfl
     refine pure_ (i:=4) (N:=some 56) (v:=?_) (a':=?_) #[true,true,true,true,true,false,true,true,false,true,false,false,false,false] rfl rfl (any_of HT_.out (by kernel_rfl)) (fun _ _ _ h=>h) (Or.inl ⟨by rfl,?_⟩) ?_ ?_
     rotate_left
     ·intro w'
      go_simp
      with_reducible rfl
     rotate_left
     ·simp only [Act.put,List.setIfInBounds_toArray,List.set_cons_zero,List.set_cons_succ,i64_w,i32_w]
      rfl
     refine take_ (i:=5) (N:=some 57) (v:=?_) (a':=?_) #[true,true,true,true,true,true,true,true,false,true,false,false,false,false] rfl rfl (take_ofW HT_.out HW_.out (by kernel_rfl)) (fun _ _ _ h=>h) (Or.inl ⟨by rfl,?_⟩) hHeld ?_ ?_
     rotate_left
     ·rintro w' ⟨s0,s1,s2,s3⟩
      go_simp
      with_reducible rfl
     rotate_left
     ·simp only [Act.put,List.setIfInBounds_toArray,List.set_cons_zero,List.set_cons_succ,i64_w,i32_w]
      rfl
     refine pure_ (i:=12) (N:=some 8) (v:=?_) (a':=?_) #[true,true,true,true,true,true,true,true,false,true,false,false,true,false] rfl rfl (any_of HT_.out (by kernel_rfl)) (fun _ _ _ h=>h) (Or.inl ⟨by rfl,?_⟩) ?_ ?_
     rotate_left
     ·intro w'
      go_simp
      with_reducible rfl
     rotate_left
     ·simp only [Act.put,List.setIfInBounds_toArray,List.set_cons_zero,List.set_cons_succ,i64_w,i32_w]
      rfl
     refine take_ (i:=8) (N:=some 60) (v:=?_) (a':=?_) #[true,true,true,true,true,true,true,true,true,true,false,false,true,false] rfl rfl (take_ofW HT_.out HW_.out (by kernel_rfl)) (fun _ _ _ h=>h) (Or.inl ⟨by rfl,?_⟩) hHeld ?_ ?_
     rotate_left
     ·rintro w' ⟨s0,s1,s2,s3⟩
      go_simp
      with_reducible rfl
     rotate_left
     ·simp only [Act.put,List.setIfInBounds_toArray,List.set_cons_zero,List.set_cons_succ,i64_w,i32_w]
      rfl
     refine pure_ (i:=10) (N:=some 62) (v:=?_) (a':=?_) #[true,true,true,true,true,true,true,true,true,true,true,false,true,false] rfl rfl (any_of HT_.out (by kernel_rfl)) (fun _ _ _ h=>h) (Or.inl ⟨by rfl,?_⟩) ?_ ?_
     rotate_left
     ·intro w'
      go_simp
      with_reducible rfl
     rotate_left
     ·simp only [Act.put,List.setIfInBounds_toArray,List.set_cons_zero,List.set_cons_succ,i64_w,i32_w]
      rfl
     refine take_ (i:=11) (N:=some 63) (v:=?_) (a':=?_) #[true,true,true,true,true,true,true,true,true,true,true,true,true,false] rfl rfl (take_ofW HT_.out HW_.out (by kernel_rfl)) (fun _ _ _ h=>h) (Or.inl ⟨by rfl,?_⟩) hHeld ?_ ?_
     rotate_left
     ·rintro w' ⟨s0,s1,s2,s3⟩
      go_simp
      with_reducible rfl
     rotate_left
     ·simp only [Act.put,List.setIfInBounds_toArray,List.set_cons_zero,List.set_cons_succ,i64_w,i32_w]
      rfl
     refine pure_ (i:=13) (N:=some 9) (v:=?_) (a':=?_) #[true,true,true,true,true,true,true,true,true,true,true,true,true,true] rfl rfl (any_of HT_.out (by kernel_rfl)) (fun _ _ _ h=>h) (Or.inl ⟨by rfl,?_⟩) ?_ ?_
     rotate_left
     ·intro w'
      go_simp
      with_reducible rfl
     rotate_left
     ·simp only [Act.put,List.setIfInBounds_toArray,List.set_cons_zero,List.set_cons_succ,i64_w,i32_w]
      rfl
     refine done_ (done_of HT_.out (by kernel_rfl)) ?_
     go_upto_region 9 with (fail)
     go_cut [93] (fun v93 wc=>∃ (kq:Nat) (x93_23:Bool),v93 = .bool x93_23 ∧ Aside0 (numnahref01_Balance.j2 kq a0 l1 t185 x6_2 x7_2 (rd (rd_L3 l1 0) x7_2) (rd (rd_L3 l1 1) x7_2) x93_23 = some r) ∧ Aside0 (kq ≤ k2) ∧ Aside0 (Kd.R (Kd.int .i64) 3 wc w.heap.size (fun _=>True) v187 x6_2) ∧ Aside0 (Below w.heap.size w wc))
     case first =>
      have H:=HC24.out
      clear HC24
      by_cases c26:(rd (rd_L3 l1 0) x7_2) < 0
      ·rw [if_pos c26] at H
       have c26b0:decide ((rd (rd_L3 l1 0) x7_2) < 0) = true:=decide_eq_true c26
       clear c26
       (first | rw [c26b0] | (simp only [i64_w,i32_w];rw [c26b0]) | skip)
       have H':=Aside0.mk H
       clear H
       go_wp2
       go_meet
       case rel=>exact ⟨_,(true),(by first | rfl | (simp;done) | (simp [*];done)),H',⟨by have:=HJ2.out;have:=HK2.out;first | omega | exact Nat.le_refl _⟩,⟨by (with_reducible repeat (first | apply Kd.R_alloc | apply Kd.R_drewN | apply Kd.R_drew));exact HO_6.out⟩,⟨by repeat (first | (with_reducible first | exact HB.out | apply below_alloc | apply pw_below_drewN | apply below_drew1) | exact HB.out)⟩⟩
      rw [if_neg c26] at H
      have c26b0:decide ((rd (rd_L3 l1 0) x7_2) < 0) = false:=decide_eq_false c26
      clear c26
      (first | rw [c26b0] | (simp only [i64_w,i32_w];rw [c26b0]) | skip)
      by_cases c27:(rd (rd_L3 l1 0) x7_2) ≥ (a0.size:Int)
      ·rw [if_pos c27] at H
       have c27b0:decide ((a0.size:Int) ≤ (rd (rd_L3 l1 0) x7_2)) = true:=decide_eq_true c27
       clear c27
       have H':=Aside0.mk H
       clear H
       go_wp2
       go_meet
       case rel=>exact ⟨_,(true),(by first | rfl | (simp;done) | (simp [*];done)),H',⟨by have:=HJ2.out;have:=HK2.out;first | omega | exact Nat.le_refl _⟩,⟨by (with_reducible repeat (first | apply Kd.R_alloc | apply Kd.R_drewN | apply Kd.R_drew));exact HO_6.out⟩,⟨by repeat (first | (with_reducible first | exact HB.out | apply below_alloc | apply pw_below_drewN | apply below_drew1) | exact HB.out)⟩⟩
      rw [if_neg c27] at H
      have c27b0:decide ((a0.size:Int) ≤ (rd (rd_L3 l1 0) x7_2)) = false:=decide_eq_false c27
      clear c27
      by_cases c28:(rd (rd_L3 l1 1) x7_2) < 0
      ·rw [if_pos c28] at H
       have c28b0:decide ((rd (rd_L3 l1 1) x7_2) < 0) = true:=decide_eq_true c28
       clear c28
       have H':=Aside0.mk H
       clear H
       go_wp2
       go_meet
       case rel=>exact ⟨_,(true),(by first | rfl | (simp;done) | (simp [*];done)),H',⟨by have:=HJ2.out;have:=HK2.out;first | omega | exact Nat.le_refl _⟩,⟨by (with_reducible repeat (first | apply Kd.R_alloc | apply Kd.R_drewN | apply Kd.R_drew));exact HO_6.out⟩,⟨by repeat (first | (with_reducible first | exact HB.out | apply below_alloc | apply pw_below_drewN | apply below_drew1) | exact HB.out)⟩⟩
      rw [if_neg c28] at H
      have c28b0:decide ((rd (rd_L3 l1 1) x7_2) < 0) = false:=decide_eq_false c28
      clear c28
      by_cases c29:(rd (rd_L3 l1 1) x7_2) ≥ (a0.size:Int)
      ·rw [if_pos c29] at H
       have c29b0:decide ((a0.size:Int) ≤ (rd (rd_L3 l1 1) x7_2)) = true:=decide_eq_true c29
       clear c29
       have H':=Aside0.mk H
       clear H
       go_wp2
       go_meet
       case rel=>exact ⟨_,(true),(by first | rfl | (simp;done) | (simp [*];done)),H',⟨by have:=HJ2.out;have:=HK2.out;first | omega | exact Nat.le_refl _⟩,⟨by (with_reducible repeat (first | apply Kd.R_alloc | apply Kd.R_drewN | apply Kd.R_drew));exact HO_6.out⟩,⟨by repeat (first | (with_reducible first | exact HB.out | apply below_alloc | apply pw_below_drewN | apply below_drew1) | exact HB.out)⟩⟩
      rw [if_neg c29] at H
      have c29b0:decide ((a0.size:Int) ≤ (rd (rd_L3 l1 1) x7_2)) = false:=decide_eq_false c29
      clear c29
      by_cases c30:0 ≤ (rd (rd_L3 l1 0) x7_2)
      case neg =>
       rw [if_neg c30] at H
       exact absurd H (by simp)
      rw [if_pos c30] at H
      have c30b0:decide (0 ≤ (rd (rd_L3 l1 0) x7_2)) = true:=decide_eq_true c30
      clear c30
      by_cases c31:(rd (rd_L3 l1 0) x7_2) < (a0.size:Int)
      case neg =>
       rw [if_neg c31] at H
       exact absurd H (by simp)
      rw [if_pos c31] at H
      have c31b0:decide ((rd (rd_L3 l1 0) x7_2) < (a0.size:Int)) = true:=decide_eq_true c31
      clear c31
      by_cases c33:(bt a0 (rd (rd_L3 l1 0) x7_2)) = 49
      case neg =>
       rw [if_neg c33] at H
       have c33b0:((bt a0 (rd (rd_L3 l1 0) x7_2)) == 49) = false:=beq_eq_false_iff_ne.mpr c33
       have c33b1:((bt a0 (rd (rd_L3 l1 0) x7_2)) != 49) = true:=bne_iff_ne.mpr c33
       have H':=Aside0.mk H
       clear H
       have p32:0 ≤ ((rd (rd_L3 l1 0) x7_2):Int):=of_decide_eq_true (by first | (with_reducible assumption) | assumption)
       have q32:(rd (rd_L3 l1 0) x7_2) < (a0.size:Int):=of_decide_eq_true (by first | (with_reducible assumption) | assumption)
       have hx32:=bt_at a0 (rd (rd_L3 l1 0) x7_2)
       replace p32:=eq_true p32
       replace q32:=eq_true q32
       go_wp2
       go_meet
       case rel=>exact ⟨_,(true),(by first | rfl | (simp;done) | (simp [*];done)),H',⟨by have:=HJ2.out;have:=HK2.out;first | omega | exact Nat.le_refl _⟩,⟨by (with_reducible repeat (first | apply Kd.R_alloc | apply Kd.R_drewN | apply Kd.R_drew));exact HO_6.out⟩,⟨by repeat (first | (with_reducible first | exact HB.out | apply below_alloc | apply pw_below_drewN | apply below_drew1) | exact HB.out)⟩⟩
      rw [if_pos c33] at H
      have c33b0:((bt a0 (rd (rd_L3 l1 0) x7_2)) == 49) = true:=beq_iff_eq.mpr c33
      have c33b1:((bt a0 (rd (rd_L3 l1 0) x7_2)) != 49) = false:=bne_eq_false_iff_eq.mpr c33
      clear c33
      by_cases c34:0 ≤ (rd (rd_L3 l1 1) x7_2)
      case neg =>
       rw [if_neg c34] at H
       exact absurd H (by simp)
      rw [if_pos c34] at H
      have c34b0:decide (0 ≤ (rd (rd_L3 l1 1) x7_2)) = true:=decide_eq_true c34
      clear c34
      by_cases c35:(rd (rd_L3 l1 1) x7_2) < (a0.size:Int)
      case neg =>
       rw [if_neg c35] at H
       exact absurd H (by simp)
      rw [if_pos c35] at H
      have c35b0:decide ((rd (rd_L3 l1 1) x7_2) < (a0.size:Int)) = true:=decide_eq_true c35
      clear c35
      have H':=Aside0.mk H
      clear H
      have p32:0 ≤ ((rd (rd_L3 l1 0) x7_2):Int):=of_decide_eq_true (by first | (with_reducible assumption) | assumption)
      have q32:(rd (rd_L3 l1 0) x7_2) < (a0.size:Int):=of_decide_eq_true (by first | (with_reducible assumption) | assumption)
      have hx32:=bt_at a0 (rd (rd_L3 l1 0) x7_2)
      replace p32:=eq_true p32
      replace q32:=eq_true q32
      have p36:0 ≤ ((rd (rd_L3 l1 1) x7_2):Int):=of_decide_eq_true (by first | (with_reducible assumption) | assumption)
      have q36:(rd (rd_L3 l1 1) x7_2) < (a0.size:Int):=of_decide_eq_true (by first | (with_reducible assumption) | assumption)
      have hx36:=bt_at a0 (rd (rd_L3 l1 1) x7_2)
      replace p36:=eq_true p36
      replace q36:=eq_true q36
      go_wp2
      go_meet
      case rel=>exact ⟨_,(((bt a0 (rd (rd_L3 l1 1) x7_2)) != 48)),(by first | rfl | (simp;done) | (simp [*];done)),H',⟨by have:=HJ2.out;have:=HK2.out;first | omega | exact Nat.le_refl _⟩,⟨by (with_reducible repeat (first | apply Kd.R_alloc | apply Kd.R_drewN | apply Kd.R_drew));exact HO_6.out⟩,⟨by repeat (first | (with_reducible first | exact HB.out | apply below_alloc | apply pw_below_drewN | apply below_drew1) | exact HB.out)⟩⟩
     case rest =>
      clear HC24
      try clear c1
      try clear p1
      try clear q1
      try clear hx1
      try clear qi1
      try clear c2
      try clear p2
      try clear c3
      try clear p3
      try clear q3
      try clear hx3
      try clear c4
      try clear c4b0
      try clear c4b1
      try clear c5
      try clear c6
      try clear c7
      try clear c7b0
      try clear c7b1
      try clear c7b2
      try clear c13
      try clear c15
      try clear c15b0
      try clear c15b1
      try clear c16
      try clear c16b0
      try clear c16b1
      try clear c18
      try clear p18
      try clear q18
      try clear hx18
      try clear qi18
      try clear c19
      try clear c19b0
      try clear c19b1
      try clear p19
      try clear q19
      try clear hx19
      try clear qi19
      try clear c20
      try clear c20b0
      try clear c21
      try clear c21b0
      try clear c22
      try clear c22b0
      try clear c22b1
      try clear c23
      try clear c23b0
      try clear c24
      try clear c26
      try clear c26b0
      try clear c27
      try clear c27b0
      try clear c28
      try clear c28b0
      try clear c29
      try clear c29b0
      try clear c30
      try clear c30b0
      try clear c31
      try clear c31b0
      try clear p32
      try clear q32
      try clear hx32
      try clear c33
      try clear c33b0
      try clear c33b1
      try clear c34
      try clear c34b0
      try clear c35
      try clear c35b0
      try clear p36
      try clear q36
      try clear hx36
      try clear hx181_0
      try clear hx182_0
      try clear hx189_0
      try clear hx190_0
      try clear hx191_0
      try clear hx192_0
      try clear hx193_0
      try clear p1
      try clear p18
      try clear p181
      try clear p182
      try clear p189
      try clear p190
      try clear p191
      try clear p192
      try clear p193
      try clear p2
      try clear p32
      try clear p36
      try clear q1
      try clear q18
      try clear q181
      try clear q182
      try clear q189
      try clear q190
      try clear q191
      try clear q192
      try clear q193
      try clear q32
      try clear q36
      obtain ⟨kq,x93_23,rfl,HA,HJ23,HO_6,HB⟩:=hcut
      cases kq with
      | zero=>exact absurd HA.out (by simp [numnahref01_Balance.j2])
      | succ kj23 =>
       have H:=HA.out
       clear HA
       simp only [numnahref01_Balance.j2] at H
       by_cases c37:x93_23 = true
       ·subst c37
        have H1:(some false) = some r:=by rw [if_pos rfl] at H;exact H
        clear H
        have H:=H1
        clear H1
        obtain rfl:=Option.some.inj H
        go_wp2
        go_ret
        exact ⟨by first | rfl | (simp [errW_none,errW_some] <;> rfl) | (simp [*,errW_none,errW_some] <;> rfl),by repeat (first | (with_reducible first | exact HB.out | apply below_alloc | apply pw_below_drewN | apply below_drew1) | exact HB.out)⟩
       replace c37:=Bool.eq_false_iff.mpr c37
       subst c37
       have H1:(numnahref01_Balance.l1 kj23 a0 l1 t185 x6_2 x7_2 (rd (rd_L3 l1 0) x7_2) (rd (rd_L3 l1 1) x7_2) 0) = some r:=by rw [if_neg (show ¬ (false = true) by decide)] at H;exact H
       clear H
       have H:=H1
       clear H1
       have H':=Aside0.mk H
       clear H
       go_wp2
       go_loopg [10] kj23 (fun kq v10 w'=>∃ (x6_4:List Int) (x10_4:Int),v10 = .int .i64 x10_4 ∧ Aside0 (numnahref01_Balance.l1 kq a0 l1 t185 x6_4 x7_2 (rd (rd_L3 l1 0) x7_2) (rd (rd_L3 l1 1) x7_2) x10_4 = some r) ∧ Aside0 (kq ≤ kj23) ∧ Aside0 (Kd.R (Kd.int .i64) 3 w' w.heap.size (fun _=>True) v187 x6_4) ∧ Aside0 (Below w.heap.size w w'))
       case atStart=>exact ⟨(x6_2),(0),(by first | rfl | (simp;done) | (simp [*];done)),H',⟨Nat.le_refl _⟩,⟨by (with_reducible repeat (first | apply Kd.R_alloc | apply Kd.R_drewN | apply Kd.R_drew));exact HO_6.out⟩,⟨by repeat (first | (with_reducible first | exact HB.out | apply below_alloc | apply pw_below_drewN | apply below_drew1) | exact HB.out)⟩⟩
       case round =>
        clear H'
        try clear c1
        try clear p1
        try clear q1
        try clear hx1
        try clear qi1
        try clear c2
        try clear p2
        try clear c3
        try clear p3
        try clear q3
        try clear hx3
        try clear c4
        try clear c4b0
        try clear c4b1
        try clear c5
        try clear c6
        try clear c7
        try clear c7b0
        try clear c7b1
        try clear c7b2
        try clear c13
        try clear c15
        try clear c15b0
        try clear c15b1
        try clear c16
        try clear c16b0
        try clear c16b1
        try clear c18
        try clear p18
        try clear q18
        try clear hx18
        try clear qi18
        try clear c19
        try clear c19b0
        try clear c19b1
        try clear p19
        try clear q19
        try clear hx19
        try clear qi19
        try clear c20
        try clear c20b0
        try clear c21
        try clear c21b0
        try clear c22
        try clear c22b0
        try clear c22b1
        try clear c23
        try clear c23b0
        try clear c24
        try clear c26
        try clear c26b0
        try clear c27
        try clear c27b0
        try clear c28
        try clear c28b0
        try clear c29
        try clear c29b0
        try clear c30
        try clear c30b0
        try clear c31
        try clear c31b0
        try clear p32
        try clear q32
        try clear hx32
        try clear c33
        try clear c33b0
        try clear c33b1
        try clear c34
        try clear c34b0
        try clear c35
        try clear c35b0
        try clear p36
        try clear q36
        try clear hx36
        try clear c37
        try clear hx181_0
        try clear hx182_0
        try clear hx189_0
        try clear hx190_0
        try clear hx191_0
        try clear hx192_0
        try clear hx193_0
        try clear p1
        try clear p18
        try clear p181
        try clear p182
        try clear p189
        try clear p19
        try clear p190
        try clear p191
        try clear p192
        try clear p193
        try clear p2
        try clear p3
        try clear p32
        try clear p36
        try clear q1
        try clear q18
        try clear q181
        try clear q182
        try clear q189
        try clear q19
        try clear q190
        try clear q191
        try clear q192
        try clear q193
        try clear q3
        try clear q32
        try clear q36
        obtain ⟨x6_4,x10_4,rfl,HA,HK4,HO_6,HB⟩:=hrel
        cases gk with
        | zero=>exact absurd HA.out (by simp [numnahref01_Balance.l1])
        | succ k4 =>
         have H:=HA.out
         clear HA
         simp only [numnahref01_Balance.l1] at H
         by_cases c38:x10_4 < t185
         case neg =>
          rw [if_neg c38] at H
          have c38b0:decide (x10_4 < t185) = false:=decide_eq_false c38
          clear c38
          have H':=Aside0.mk H
          clear H
          go_wp2
          go_roundg k4
          case measure=>have:=HJ2.out;have:=HK2.out;have:=HJ23.out;have:=HK4.out;omega
          case rel=>exact ⟨(x6_4),(wrap64 (x7_2 + 1)),(by first | rfl | (simp;done) | (simp [*];done)),H',⟨by have:=HJ2.out;have:=HK2.out;have:=HJ23.out;have:=HK4.out;omega⟩,⟨by (with_reducible repeat (first | apply Kd.R_alloc | apply Kd.R_drewN | apply Kd.R_drew));exact HO_6.out⟩,⟨by repeat (first | (with_reducible first | exact HB.out | apply below_alloc | apply pw_below_drewN | apply below_drew1) | exact HB.out)⟩⟩
         rw [if_pos c38] at H
         have c38b0:decide (x10_4 < t185) = true:=decide_eq_true c38
         clear c38
         by_cases c39:0 ≤ x10_4
         case neg =>
          rw [if_neg c39] at H
          exact absurd H (by simp)
         rw [if_pos c39] at H
         have c39b0:decide (0 ≤ x10_4) = true:=decide_eq_true c39
         clear c39
         by_cases c40:x10_4 < (x6_4.length:Int)
         case neg =>
          rw [if_neg c40] at H
          exact absurd H (by simp)
         rw [if_pos c40] at H
         have c40b0:decide (x10_4 < (x6_4.length:Int)) = true:=decide_eq_true c40
         clear c40
         have c41b0:=eq_true (of_decide_eq_true (by first | (with_reducible assumption) | assumption):0 ≤ x10_4)
         obtain ⟨ji42,hji42⟩:∃ j_:Int,(shr .i64 (rd (rd_L3 l1 0) x7_2) x10_4) = j_:=⟨_,rfl⟩
         replace H:(numnahref01_Balance.l1 k4 a0 l1 t185 (x6_4.set (x10_4:Int).toNat (wrap64 ((wrap64 ((rd x6_4 x10_4) + (Int.tmod (ji42) 2))) - (Int.tmod (shr .i64 (rd (rd_L3 l1 1) x7_2) x10_4) 2)))) x7_2 (rd (rd_L3 l1 0) x7_2) (rd (rd_L3 l1 1) x7_2) (wrap64 (x10_4 + 1))) = some r:=by first | (rw [hji42] at H;exact H) | (simp only [hji42] at H ⊢;exact H)
         have hji42_:((rd (rd_L3 l1 0) x7_2) / 2 ^ min x10_4.toNat 64) = ji42:=hji42
         have hji42z:x10_4 ≤ 64 → ((rd (rd_L3 l1 0) x7_2) / 2 ^ x10_4.toNat) = ji42:=shr_small hji42
         have c43b0:=eq_true (of_decide_eq_true (by first | (with_reducible assumption) | assumption):0 ≤ x10_4)
         obtain ⟨ji44,hji44⟩:∃ j_:Int,(shr .i64 (rd (rd_L3 l1 1) x7_2) x10_4) = j_:=⟨_,rfl⟩
         replace H:(numnahref01_Balance.l1 k4 a0 l1 t185 (x6_4.set (x10_4:Int).toNat (wrap64 ((wrap64 ((rd x6_4 x10_4) + (Int.tmod (ji42) 2))) - (Int.tmod (ji44) 2)))) x7_2 (rd (rd_L3 l1 0) x7_2) (rd (rd_L3 l1 1) x7_2) (wrap64 (x10_4 + 1))) = some r:=by first | (rw [hji44] at H;exact H) | (simp only [hji44] at H ⊢;exact H)
         have hji44_:((rd (rd_L3 l1 1) x7_2) / 2 ^ min x10_4.toNat 64) = ji44:=hji44
         have hji44z:x10_4 ≤ 64 → ((rd (rd_L3 l1 1) x7_2) / 2 ^ x10_4.toNat) = ji44:=shr_small hji44
         obtain ⟨y195,hy195⟩:∃ y_:List Int,y_ = (x6_4.set (x10_4:Int).toNat (wrap64 ((wrap64 ((rd x6_4 x10_4) + (Int.tmod (ji42) 2))) - (Int.tmod (ji44) 2)))):=⟨_,rfl⟩
         replace H:(numnahref01_Balance.l1 k4 a0 l1 t185 y195 x7_2 (rd (rd_L3 l1 0) x7_2) (rd (rd_L3 l1 1) x7_2) (wrap64 (x10_4 + 1))) = some r:=by first | (rw [hy195];with_reducible exact H) | (have H2_:=(Option.bind_some _ _).symm.trans H;rw [hy195];with_reducible exact H2_) | (have H2_:=(Option.bind_some _ _).symm.trans H;with_reducible exact H2_) | with_reducible exact H | (rw [hy195];exact H) | exact H
         have Ny195:=Aside0.mk hy195
         clear hy195
         have H':=Aside0.mk H
         clear H
         try go_wp2
         have n0_:=Aside0.mk (Kd.R_drew HO_6.out)
         have n1_:=Aside0.mk (below_drew1 HB.out)
         clear HO_6
         clear HB
         have HO_6:=n0_
         have HB:=n1_
         clear n0_ n1_
         obtain ⟨Ao47,co47,eo47⟩:=Kd.R_slice HO_6.out
         (first | subst eo47 | (injection eo47 with f1_ f2_ f3_;have f4_:=f1_.symm;have f5_:=f3_.symm;clear f1_ f2_ f3_;subst f4_;subst f5_))
         have p194:0 ≤ (x10_4:Int):=of_decide_eq_true (by first | (with_reducible assumption) | assumption)
         have q194:x10_4 < (x6_4.length:Int):=of_decide_eq_true (by first | (with_reducible assumption) | assumption)
         obtain ⟨ad194,e194,hx194_0⟩:=Kd.at_int (Kd.R_reads' HO_6.out).2.2 x10_4 p194 q194
         cases e194
         replace p194:=eq_true p194
         replace q194:=eq_true q194
         have p45:0 ≤ (x10_4:Int):=of_decide_eq_true (by first | (with_reducible assumption) | assumption)
         have q45:(x10_4:Int) < ((x6_4.length:Int):Int):=of_decide_eq_true (by first | (with_reducible assumption) | assumption)
         obtain ⟨go45,co45,eo45,gb45,gl45,cl45,HG45⟩:=Kd.R_form HO_6.out (by omega)
         (first | cases eo45 | (injection eo45 with ea_ en_ ec_;(first | subst ea_ | (injection ea_ with ea_;subst ea_));subst ec_;clear en_))
         have GB45:=Aside0.mk gb45
         have GG45:=Aside0.mk HG45
         clear gb45 gl45 HG45
         (first | simp only [add_plain] at hx194_0 | skip)
         obtain ⟨hx45_0,hf45_0⟩:=Kd.R_celln 0 HO_6.out (x10_4:Int) p45 q45
         replace p45:=eq_true p45
         replace q45:=eq_true q45
         have HP48:=Kd.R_putn HO_6.out (x10_4:Int) (wrap64 ((wrap64 ((rd x6_4 x10_4) + (Int.tmod (ji42) 2))) - (Int.tmod (ji44) 2)))
         rw [← Ny195.out] at HP48
         have HQ48:=Aside0.mk HP48
         clear HP48
         refine start_ (n:=18) (S:=fun w'=>w'.cell? ⟨go45,(x10_4).toNat,none⟩ = some (.int .i64 (rd x6_4 x10_4))) (ds:=[17]) #[false,false,false,false,false,false,false,false,false,false,false,false,false,false,false,false,false,false] (by kernel_rfl) rfl rfl (hx194_0) (fun hHeld=>?_);refine with_tabW numnahref01_Balance.tab14 numnahref01_Balance.bits14 (fun HT_ HW_=>?_)
         generalize wr.drew = w46 at HO_6 HB GG45 HQ48 hf45_0 hx194_0 hx45_0 hHeld ⊢
         refine pure_ (i:=0) (N:=some 99) (v:=?_) (a':=?_) #[true,false,false,false,false,false,false,false,false,false,false,false,false,false,false,false,false,false] rfl rfl (any_of HT_.out (by kernel_rfl)) (fun _ _ _ h=>h) (Or.inl ⟨by rfl,?_⟩) ?_ ?_
         rotate_left
         ·intro w'
          go_simp
          with_reducible rfl
         rotate_left
         ·simp only [Act.put,List.setIfInBounds_toArray,List.set_cons_zero,List.set_cons_succ,i64_w,i32_w]
          rfl
         refine pure_ (i:=1) (N:=some 100) (v:=?_) (a':=?_) #[true,true,false,false,false,false,false,false,false,false,false,false,false,false,false,false,false,false] rfl rfl (any_of HT_.out (by kernel_rfl)) (fun _ _ _ h=>h) (Or.inl ⟨by rfl,?_⟩) ?_ ?_
         rotate_left
         ·intro w'
          go_simp
          with_reducible rfl
         rotate_left
         ·simp only [Act.put,List.setIfInBounds_toArray,List.set_cons_zero,List.set_cons_succ,i64_w,i32_w]
          rfl
         refine pure_ (i:=2) (N:=some 101) (v:=?_) (a':=?_) #[true,true,true,false,false,false,false,false,false,false,false,false,false,false,false,false,false,false] rfl rfl (any_of HT_.out (by kernel_rfl)) (fun _ _ _ h=>h) (Or.inl ⟨by rfl,?_⟩) ?_ ?_
         rotate_left
         ·intro w'
          go_simp
          with_reducible rfl
         rotate_left
         ·simp only [Act.put,List.setIfInBounds_toArray,List.set_cons_zero,List.set_cons_succ,i64_w,i32_w]
          rfl
         refine pure_ (i:=3) (N:=some 102) (v:=?_) (a':=?_) #[true,true,true,true,false,false,false,false,false,false,false,false,false,false,false,false,false,false] rfl rfl (any_of HT_.out (by kernel_rfl)) (fun _ _ _ h=>h) (Or.inl ⟨by rfl,?_⟩) ?_ ?_
         rotate_left
         ·intro w'
          go_simp
          with_reducible rfl
         rotate_left
         ·simp only [Act.put,List.setIfInBounds_toArray,List.set_cons_zero,List.set_cons_succ,i64_w,i32_w]
          rfl
         refine pure_ (i:=4) (N:=some 103) (v:=?_) (a':=?_) #[true,true,true,true,true,false,false,false,false,false,false,false,false,false,false,false,false,false] rfl rfl (any_of HT_.out (by kernel_rfl)) (fun _ _ _ h=>h) (Or.inl ⟨by rfl,?_⟩) ?_ ?_
         rotate_left
         ·intro w'
          go_simp
          with_reducible rfl
         rotate_left
         ·simp only [Act.put,List.setIfInBounds_toArray,List.set_cons_zero,List.set_cons_succ,i64_w,i32_w]
          rfl
         refine pure_ (i:=6) (N:=some 105) (v:=?_) (a':=?_) #[true,true,true,true,true,false,true,false,false,false,false,false,false,false,false,false,false,false] rfl rfl (any_of HT_.out (by kernel_rfl)) (fun _ _ _ h=>h) (Or.inl ⟨by rfl,?_⟩) ?_ ?_
         rotate_left
         ·intro w'
          go_simp
          with_reducible rfl
         rotate_left
         ·simp only [Act.put,List.setIfInBounds_toArray,List.set_cons_zero,List.set_cons_succ,i64_w,i32_w]
          rfl
         refine pure_ (i:=7) (N:=some 106) (v:=?_) (a':=?_) #[true,true,true,true,true,false,true,true,false,false,false,false,false,false,false,false,false,false] rfl rfl (any_of HT_.out (by kernel_rfl)) (fun _ _ _ h=>h) (Or.inl ⟨by rfl,?_⟩) ?_ ?_
         rotate_left
         ·intro w'
          go_simp
          with_reducible rfl
         rotate_left
         ·simp only [Act.put,List.setIfInBounds_toArray,List.set_cons_zero,List.set_cons_succ,i64_w,i32_w]
          rfl
         refine pure_ (i:=8) (N:=some 107) (v:=?_) (a':=?_) #[true,true,true,true,true,false,true,true,true,false,false,false,false,false,false,false,false,false] rfl rfl (any_of HT_.out (by kernel_rfl)) (fun _ _ _ h=>h) (Or.inl ⟨by rfl,?_⟩) ?_ ?_
         rotate_left
         ·intro w'
          go_simp
          with_reducible rfl
         rotate_left
         ·simp only [Act.put,List.setIfInBounds_toArray,List.set_cons_zero,List.set_cons_succ,i64_w,i32_w]
          rfl
         refine pure_ (i:=9) (N:=some 108) (v:=?_) (a':=?_) #[true,true,true,true,true,false,true,true,true,true,false,false,false,false,false,false,false,false] rfl rfl (any_of HT_.out (by kernel_rfl)) (fun _ _ _ h=>h) (Or.inl ⟨by rfl,?_⟩) ?_ ?_
         rotate_left
         ·intro w'
          go_simp
          with_reducible rfl
         rotate_left
         ·simp only [Act.put,List.setIfInBounds_toArray,List.set_cons_zero,List.set_cons_succ,i64_w,i32_w]
          rfl
         refine pure_ (i:=11) (N:=some 110) (v:=?_) (a':=?_) #[true,true,true,true,true,false,true,true,true,true,false,true,false,false,false,false,false,false] rfl rfl (any_of HT_.out (by kernel_rfl)) (fun _ _ _ h=>h) (Or.inl ⟨by rfl,?_⟩) ?_ ?_
         rotate_left
         ·intro w'
          go_simp
          with_reducible rfl
         rotate_left
         ·simp only [Act.put,List.setIfInBounds_toArray,List.set_cons_zero,List.set_cons_succ,i64_w,i32_w]
          rfl
         refine pure_ (i:=12) (N:=some 111) (v:=?_) (a':=?_) #[true,true,true,true,true,false,true,true,true,true,false,true,true,false,false,false,false,false] rfl rfl (any_of HT_.out (by kernel_rfl)) (fun _ _ _ h=>h) (Or.inl ⟨by rfl,?_⟩) ?_ ?_
         rotate_left
         ·intro w'
          go_simp
          with_reducible rfl
         rotate_left
         ·simp only [Act.put,List.setIfInBounds_toArray,List.set_cons_zero,List.set_cons_succ,i64_w,i32_w]
          rfl
         refine pure_ (i:=13) (N:=some 112) (v:=?_) (a':=?_) #[true,true,true,true,true,false,true,true,true,true,false,true,true,true,false,false,false,false] rfl rfl (any_of HT_.out (by kernel_rfl)) (fun _ _ _ h=>h) (Or.inl ⟨by rfl,?_⟩) ?_ ?_
         rotate_left
         ·intro w'
          go_simp
          with_reducible rfl
         rotate_left
         ·simp only [Act.put,List.setIfInBounds_toArray,List.set_cons_zero,List.set_cons_succ,i64_w,i32_w]
          rfl
         refine pure_ (i:=14) (N:=some 113) (v:=?_) (a':=?_) #[true,true,true,true,true,false,true,true,true,true,false,true,true,true,true,false,false,false] rfl rfl (any_of HT_.out (by kernel_rfl)) (fun _ _ _ h=>h) (Or.inl ⟨by rfl,?_⟩) ?_ ?_
         rotate_left
         ·intro w'
          go_simp
          with_reducible rfl
         rotate_left
         ·simp only [Act.put,List.setIfInBounds_toArray,List.set_cons_zero,List.set_cons_succ,i64_w,i32_w]
          rfl
         refine take_ (i:=5) (N:=some 104) (v:=?_) (a':=?_) #[true,true,true,true,true,true,true,true,true,true,false,true,true,true,true,false,false,false] rfl rfl (take_ofW HT_.out HW_.out (by kernel_rfl)) (fun _ _ _ h=>h) (Or.inl ⟨by rfl,?_⟩) hHeld ?_ ?_
         rotate_left
         ·intro w' s0
          go_simp
          with_reducible rfl
         rotate_left
         ·simp only [Act.put,List.setIfInBounds_toArray,List.set_cons_zero,List.set_cons_succ,i64_w,i32_w]
          rfl
         refine pure_ (i:=10) (N:=some 109) (v:=?_) (a':=?_) #[true,true,true,true,true,true,true,true,true,true,true,true,true,true,true,false,false,false] rfl rfl (any_of HT_.out (by kernel_rfl)) (fun _ _ _ h=>h) (Or.inl ⟨by rfl,?_⟩) ?_ ?_
         rotate_left
         ·intro w'
          go_simp
          with_reducible rfl
         rotate_left
         ·simp only [Act.put,List.setIfInBounds_toArray,List.set_cons_zero,List.set_cons_succ,i64_w,i32_w]
          rfl
         refine pure_ (i:=15) (N:=some 114) (v:=?_) (a':=?_) #[true,true,true,true,true,true,true,true,true,true,true,true,true,true,true,true,false,false] rfl rfl (any_of HT_.out (by kernel_rfl)) (fun _ _ _ h=>h) (Or.inl ⟨by rfl,?_⟩) ?_ ?_
         rotate_left
         ·intro w'
          go_simp
          with_reducible rfl
         rotate_left
         ·simp only [Act.put,List.setIfInBounds_toArray,List.set_cons_zero,List.set_cons_succ,i64_w,i32_w]
          rfl
         refine pure_ (i:=16) (N:=some 115) (v:=?_) (a':=?_) #[true,true,true,true,true,true,true,true,true,true,true,true,true,true,true,true,true,false] rfl rfl (any_of HT_.out (by kernel_rfl)) (fun _ _ _ h=>h) (Or.inl ⟨by rfl,?_⟩) ?_ ?_
         rotate_left
         ·intro w'
          go_simp
          with_reducible rfl
         rotate_left
         ·simp only [Act.put,List.setIfInBounds_toArray,List.set_cons_zero,List.set_cons_succ,i64_w,i32_w]
          rfl
         refine last_ (i:=17) (N:=none) #[true,true,true,true,true,true,true,true,true,true,true,true,true,true,true,true,true,true] rfl rfl (one_of HT_.out (by kernel_rfl)) (by decide) (fun K hK=>?_)
         refine skip_ (w1:=?_) (by rfl) rfl ?_ ?_
         rotate_left
         ·go_simp
          rfl
         refine hK.out _ _ ?_
         clear hK K
         refine done_ (done_of HT_.out (by kernel_rfl)) ?_
         try go_wp2
         go_roundg k4
         case measure=>have:=HJ2.out;have:=HK2.out;have:=HJ23.out;have:=HK4.out;omega
         case rel=>exact ⟨(y195),(wrap64 (x10_4 + 1)),(by first | rfl | (simp;done) | (simp [*];done)),H',⟨by have:=HJ2.out;have:=HK2.out;have:=HJ23.out;have:=HK4.out;omega⟩,⟨by (with_reducible repeat (first | apply Kd.R_alloc | apply Kd.R_drewN | apply Kd.R_drew));exact HQ48.out⟩,⟨by repeat (first | (with_reducible first | exact HB.out | apply below_alloc | apply pw_below_drewN | apply below_drew1 | refine below_set ?_ GB45.out) | exact HB.out)⟩⟩
def numnahref01_Weights.l0:Nat → List Int → Int → Int → Option (Bool)
 | 0,_,_,_=>none
 | k + 1,x0,x1,x5=>if x5 < (x0.length:Int) then (if 0 ≤ x5 then (if (rd x0 x5) < (-1000000) then (some false) else (if (rd x0 x5) > 1000000 then (some false) else (numnahref01_Weights.l0 k x0 x1 (wrap64 (x5 + 1))))) else (none)) else (some ((x0.length:Int) == (wrap64 (x1 + 1))))
def numnahref01_Weights.f (k:Nat) (l0:List Int) (a1:Int):Option (Bool):=numnahref01_Weights.l0 k l0 a1 0
theorem numnahref01_Weights.mono_l:∀ k,(∀ y0 y1 y2,LeO (numnahref01_Weights.l0 k y0 y1 y2) (numnahref01_Weights.l0 (k + 1) y0 y1 y2))
 | 0=>fun _ _ _ r h=>by simp [numnahref01_Weights.l0] at h
 | k + 1=>by
  have ih0:=numnahref01_Weights.mono_l k
  intro y0 y1 y2
  unfold numnahref01_Weights.l0
  repeat' first
  | (with_reducible exact ih0 _ _ _)
  | (with_reducible exact LeO.refl _)
  | (with_reducible exact LeO.none _)
  | (with_reducible refine LeO.ite ?_ ?_)
  | (with_reducible refine LeO.bind ?_ (fun _=>?_))
  | exact ih0 _ _ _
  | exact LeO.none _
  | refine LeO.ite ?_ ?_
  | refine LeO.bind ?_ (fun _=>?_)
theorem numnahref01_Weights.mono:∀ a0 a1 k,LeO (numnahref01_Weights.f k a0 a1) (numnahref01_Weights.f (k + 1) a0 a1):=by
 intro a0 a1 k
 have ih0:=numnahref01_Weights.mono_l k
 unfold numnahref01_Weights.f
 repeat' first
   | (with_reducible exact ih0 _ _ _)
   | (with_reducible exact LeO.refl _)
   | (with_reducible exact LeO.none _)
   | (with_reducible refine LeO.ite ?_ ?_)
   | (with_reducible refine LeO.bind ?_ (fun _=>?_))
   | exact ih0 _ _ _
   | exact LeO.none _
   | refine LeO.ite ?_ ?_
   | refine LeO.bind ?_ (fun _=>?_)
theorem numnahref01_Weights.calls (k:Nat) (A0:Option Addr) (c0:Nat) (l0:List Int) (a1:Int) (r:Bool) (w:World) (hr0:Kd.C (Kd.int .i64) w A0 l0.length l0) (hc0:l0.length ≤ c0) (h:numnahref01_Weights.f k l0 a1 = some r) :
  Calls Try.prog 23 #[.slice A0 l0.length c0,.int .i64 a1] w fun e w'=>e = .returned (.bool r) ∧ Drawn0 w w':=by
 have HR0:=Aside0.mk hr0
 have HC0:=Aside0.mk hc0
 clear hr0 hc0
 have H:(numnahref01_Weights.l0 k l0 a1 0) = some r:=h
 clear h
 have H':=Aside0.mk H
 clear H
 go_enter Try.func23,Try.ntmps23
 go_wp2
 go_loopg [5] k (fun kq v5 w'=>∃ (x5_1:Int),v5 = .int .i64 x5_1 ∧ Aside0 (numnahref01_Weights.l0 kq l0 a1 x5_1 = some r) ∧ Aside0 (kq ≤ k) ∧ Drawn0 w w')
 case atStart=>exact ⟨(0),(by first | rfl | (simp;done) | (simp [*];done)),H',⟨Nat.le_refl _⟩,by repeat (first | exact Drawn0.refl _ | apply Drawn0.step)⟩
 case round =>
  clear H'
  try clear c2
  try clear p2
  obtain ⟨x5_1,rfl,HA,HK1,⟨m1,rfl⟩⟩:=hrel
  cases gk with
  | zero=>exact absurd HA.out (by simp [numnahref01_Weights.l0])
  | succ k1 =>
   have H:=HA.out
   clear HA
   simp only [numnahref01_Weights.l0] at H
   by_cases c3:x5_1 < (l0.length:Int)
   case neg =>
    rw [if_neg c3] at H
    have c3b0:decide (x5_1 < (l0.length:Int)) = false:=decide_eq_false c3
    clear c3
    obtain rfl:=Option.some.inj H
    go_wp2
    go_ret
    exact ⟨by first | rfl | (simp;done) | (simp [*];done),by repeat (first | exact Drawn0.refl _ | apply Drawn0.step)⟩
   rw [if_pos c3] at H
   have c3b0:decide (x5_1 < (l0.length:Int)) = true:=decide_eq_true c3
   clear c3
   by_cases c4:0 ≤ x5_1
   case neg =>
    rw [if_neg c4] at H
    exact absurd H (by simp)
   rw [if_pos c4] at H
   have c4b0:decide (0 ≤ x5_1) = true:=decide_eq_true c4
   clear c4
   by_cases c5:(rd l0 x5_1) < (-1000000)
   ·rw [if_pos c5] at H
    have c5b0:decide ((rd l0 x5_1) < (-1000000)) = true:=decide_eq_true c5
    clear c5
    obtain rfl:=Option.some.inj H
    have p176:0 ≤ (x5_1:Int):=of_decide_eq_true (by first | (with_reducible assumption) | assumption)
    have q176:x5_1 < (l0.length:Int):=of_decide_eq_true (by first | (with_reducible assumption) | assumption)
    obtain ⟨ad176,e176,hx176_0⟩:=Kd.at_int HR0.out x5_1 p176 q176
    cases e176
    replace p176:=eq_true p176
    replace q176:=eq_true q176
    go_wp2
    go_ret
    exact ⟨by first | rfl | (simp;done) | (simp [*];done),by repeat (first | exact Drawn0.refl _ | apply Drawn0.step)⟩
   rw [if_neg c5] at H
   have c5b0:decide ((rd l0 x5_1) < (-1000000)) = false:=decide_eq_false c5
   clear c5
   by_cases c6:(rd l0 x5_1) > 1000000
   ·rw [if_pos c6] at H
    have c6b0:decide (1000000 < (rd l0 x5_1)) = true:=decide_eq_true c6
    clear c6
    obtain rfl:=Option.some.inj H
    have p176:0 ≤ (x5_1:Int):=of_decide_eq_true (by first | (with_reducible assumption) | assumption)
    have q176:x5_1 < (l0.length:Int):=of_decide_eq_true (by first | (with_reducible assumption) | assumption)
    obtain ⟨ad176,e176,hx176_0⟩:=Kd.at_int HR0.out x5_1 p176 q176
    cases e176
    replace p176:=eq_true p176
    replace q176:=eq_true q176
    have p177:0 ≤ (x5_1:Int):=of_decide_eq_true (by first | (with_reducible assumption) | assumption)
    have q177:x5_1 < (l0.length:Int):=of_decide_eq_true (by first | (with_reducible assumption) | assumption)
    obtain ⟨ad177,e177,hx177_0⟩:=Kd.at_int HR0.out x5_1 p177 q177
    obtain rfl:ad176 = ad177:=(by injection e177)
    replace p177:=eq_true p177
    replace q177:=eq_true q177
    go_wp2
    go_ret
    exact ⟨by first | rfl | (simp;done) | (simp [*];done),by repeat (first | exact Drawn0.refl _ | apply Drawn0.step)⟩
   rw [if_neg c6] at H
   have c6b0:decide (1000000 < (rd l0 x5_1)) = false:=decide_eq_false c6
   clear c6
   have H':=Aside0.mk H
   clear H
   have p176:0 ≤ (x5_1:Int):=of_decide_eq_true (by first | (with_reducible assumption) | assumption)
   have q176:x5_1 < (l0.length:Int):=of_decide_eq_true (by first | (with_reducible assumption) | assumption)
   obtain ⟨ad176,e176,hx176_0⟩:=Kd.at_int HR0.out x5_1 p176 q176
   cases e176
   replace p176:=eq_true p176
   replace q176:=eq_true q176
   have p177:0 ≤ (x5_1:Int):=of_decide_eq_true (by first | (with_reducible assumption) | assumption)
   have q177:x5_1 < (l0.length:Int):=of_decide_eq_true (by first | (with_reducible assumption) | assumption)
   obtain ⟨ad177,e177,hx177_0⟩:=Kd.at_int HR0.out x5_1 p177 q177
   obtain rfl:ad176 = ad177:=(by injection e177)
   replace p177:=eq_true p177
   replace q177:=eq_true q177
   go_wp2
   go_roundg k1
   case measure=>have:=HK1.out;omega
   case rel=>exact ⟨(wrap64 (x5_1 + 1)),(by first | rfl | (simp;done) | (simp [*];done)),H',⟨by have:=HK1.out;omega⟩,by repeat (first | exact Drawn0.refl _ | apply Drawn0.step)⟩
end Go.Proofs.Ythpahlkhiknofaa.G
set_option linter.unusedSectionVars false
namespace Go.Proofs.Ythpahlkhiknofaa.P
open Go Go.RowKit Go.Proofs.Ythpahlkhiknofaa.M Go.Proofs.Ythpahlkhiknofaa.G Go.Proofs.Ythpahlkhiknofaa.H
open Go.Proofs.YthpahlkhiknofaaW.PrintWords Go.Proofs.YthpahlkhiknofaaW.PrintMore
def bI (p i:Nat):Int:=if p.testBit i = true then 1 else 0
theorem bI_cases (p i:Nat):bI p i = 0 ∨ bI p i = 1:=by unfold bI;split <;> simp
theorem and_oneN (p:Nat) (h:p < 2 ^ 60):Go.bits .and .i64 (p:Int) 1 = ((p % 2:Nat):Int):=by
  have:=ni_and p 1 (by omega) (by decide)
  rw [Nat.and_one_is_mod] at this
  exact this
theorem bit_div {p i:Nat} (hp:p < 2 ^ 60):Go.bits .and .i64 ((p:Int) / 2 ^ i) 1 = bI p i:=by
  have hw:p / 2 ^ i < 2 ^ 60:=Nat.lt_of_le_of_lt (Nat.div_le_self _ _) hp
  rw [div_two_pow,and_oneN _ hw]
  unfold bI
  rw [Nat.testBit_eq_decide_div_mod_eq]
  rcases Nat.mod_two_eq_zero_or_one (p / 2 ^ i) with h | h <;> simp [h]
theorem digitI {p i:Nat} (h:i ≤ 64):Int.tmod (shr .i64 (p:Int) (i:Int)) 2 = bI p i:=digit h
/-- The sum of the weights of a point. -/
def wsum (xs:List Int) (p:Nat):Nat → Int
  | 0=>0
  | i + 1=>wsum xs p i + rd xs (i:Int) * bI p i
def Sm (B:Int) (xs:List Int):Prop:=∀ i:Nat,i < 6 → -B ≤ rd xs (i:Int) ∧ rd xs (i:Int) ≤ B
theorem wsum_bd {xs:List Int} {B:Int} (hB:0 ≤ B) (h:Sm B xs) (p:Nat):∀ n,n ≤ 5 → -(n * B) ≤ wsum xs p n ∧ wsum xs p n ≤ n * B
  | 0,_=>by simp [wsum]
  | n + 1,hn=>by
    have ih:=wsum_bd hB h p n (by omega)
    have hx:=h n (by omega)
    rw [wsum]
    have e:((n + 1:Nat):Int) * B = n * B + B:=by rw [Int.natCast_add,Int.add_mul];simp
    rw [e]
    rcases bI_cases p n with hb | hb <;> rw [hb] <;> constructor <;> omega
theorem val_eq {xs:List Int} {B:Int} (hB:0 ≤ B) (hB2:B ≤ 1000000000000) (h:Sm B xs) {p:Nat} (hp:p < 2 ^ 60) {a:Int} (ha:-B ≤ a ∧ a ≤ B):∀ n,n ≤ 5 → valS xs (p:Int) n a = a + wsum xs p n
  | 0,_=>by simp [valS,wsum]
  | n + 1,hn=>by
    have ih:=val_eq hB hB2 h hp ha n (by omega)
    have hb:=wsum_bd hB h p n (by omega)
    have hx:=h n (by omega)
    have hm:(n:Int) * B ≤ 5 * B:=Int.mul_le_mul_of_nonneg_right (by omega) hB
    rw [valS,wsum,bit_div hp,ih]
    by_cases hbit:p.testBit n = true
    · have e1:bI p n = 1:=by unfold bI;rw [if_pos hbit]
      rw [e1,if_pos (by decide),Int.mul_one,wrap_id (by omega) (by omega)]
      omega
    · have e1:bI p n = 0:=by unfold bI;rw [if_neg hbit]
      rw [e1,if_neg (by decide),Int.mul_zero,Int.add_zero]
/-- Whether weights put a point on its side. -/
def okR (c:ByteArray) (l:List Int) (n p:Nat):Bool:=decide (wsum l p n ≥ rd l (n:Int)) == (bt c (p:Int) == 49)
theorem rzL_eq {c:ByteArray} {l:List Int} {n:Nat} (hn:n ≤ 5) (hc:c.size ≤ 40) {B:Int} (hB:0 ≤ B) (hB2:B ≤ 1000000000) (h:Sm B l):∀ d p,p + d ≤ 40 → rzL l n c d p = if allF (okR c l n) d p = true then 0 else 10
  | 0,_,_=>rfl
  | d + 1,p,hp=>by
    have ih:=rzL_eq hn hc hB hB2 h d (p + 1) (by omega)
    have hx:=h n (by omega)
    have h60:p < 2 ^ 60:=Nat.lt_of_lt_of_le (show p < 64 by omega) (by decide)
    have hv:=val_eq hB (by omega) h h60 (a:=wrap64 (-rd l (n:Int))) (by rw [wrap_id (by omega) (by omega)];omega) n hn
    rw [wrap_id (by omega) (by omega)] at hv
    rw [rzL,wrap_id (by omega) (by omega),hv,allF,ih]
    unfold okR
    have e:decide (-rd l (n:Int) + wsum l p n ≥ 0) = decide (wsum l p n ≥ rd l (n:Int)):=by congr 1;exact propext ⟨fun h=>by omega,fun h=>by omega⟩
    rw [e]
    cases decide (wsum l p n ≥ rd l (n:Int)) <;> cases (bt c (p:Int) == 49) <;> simp
theorem rreal_l1 {c:ByteArray} {l:List Int} {n:Nat} (hn:n ≤ 5) (hl:l.length = n + 1) (hc:c.size ≤ 40) (h:Sm 1000000 l) {p:Nat} (hp:p < c.size) {v:Bool} (hv:Ev (fun k=>numnahref01_Realize.l0 k c l (n:Int) ((p + 1:Nat):Int)) v):∀ d i,i + d = n → Ev (fun k=>numnahref01_Realize.l1 k c l (n:Int) (p:Int) (wsum l p i) (i:Int)) (okR c l n p && v):=by
  intro d
  induction d with
  | zero =>
    intro i hi
    obtain rfl:i = n:=by omega
    refine Ev.step (fun k=>by rw [numnahref01_Realize.l1,if_neg (by omega),if_pos (by omega),if_pos (by omega),if_pos (by omega),if_pos (by omega),wrap_succ (by omega)]) ?_
    unfold okR
    cases h1:decide (wsum l p i ≥ rd l (i:Int)) <;> cases h2:(bt c (p:Int) == 49) <;> first | exact Ev.congr (fun k=>if_neg (by decide)) hv | exact Ev.congr (fun k=>if_pos (by decide)) (Ev.now _)
  | succ d ih =>
    intro i hi
    have hx:=h i (by omega)
    have hb:=wsum_bd (by decide) h p i (by omega)
    have hm:(i:Int) * 1000000 ≤ 5 * 1000000:=Int.mul_le_mul_of_nonneg_right (by omega) (by decide)
    have hbi:=bI_cases p i
    refine Ev.step (fun k=>?_) (ih (i + 1) (by omega))
    have e1:wrap64 (rd l (i:Int) * bI p i) = rd l (i:Int) * bI p i:=wrap_id (by rcases hbi with e | e <;> rw [e] <;> omega) (by rcases hbi with e | e <;> rw [e] <;> omega)
    rw [numnahref01_Realize.l1,if_pos (by omega),if_pos (by omega),if_pos (by omega),digitI (by omega),e1,wrap_succ (by omega),wsum,wrap_id (by rcases hbi with e | e <;> rw [e] <;> omega) (by rcases hbi with e | e <;> rw [e] <;> omega)]
theorem rreal_l0 {c:ByteArray} {l:List Int} {n:Nat} (hn:n ≤ 5) (hl:l.length = n + 1) (hc:c.size ≤ 40) (h:Sm 1000000 l):∀ d p,p + d = c.size → Ev (fun k=>numnahref01_Realize.l0 k c l (n:Int) (p:Int)) (allF (okR c l n) d p):=by
  intro d
  induction d with
  | zero =>
    intro p hp
    refine Ev.step (f:=fun _=>some true) (fun k=>?_) (Ev.now _)
    rw [numnahref01_Realize.l0,if_neg (by omega)]
  | succ d ih =>
    intro p hp
    refine Ev.step (fun k=>?_) (rreal_l1 hn hl hc h (by omega) (ih (p + 1) (by omega)) n 0 (by omega))
    rw [numnahref01_Realize.l0,if_pos (by omega)];rfl
theorem rweights_l0 {l:List Int} (hl:l.length ≤ 1001) {n:Nat} (hn:n ≤ 5):∀ d i,i + d = l.length → Ev (fun k=>numnahref01_Weights.l0 k l (n:Int) (i:Int)) (!(l.drop i).any (fun x=>!decide (-1000000 ≤ x ∧ x ≤ 1000000)) && decide (l.length = n + 1)):=by
  intro d
  induction d with
  | zero =>
    intro i hi
    refine Ev.step (f:=fun _=>some ((l.length:Int) == wrap64 ((n:Int) + 1))) (fun k=>?_) (Ev.congr (fun k=>?_) (Ev.now _))
    · rw [numnahref01_Weights.l0,if_neg (by omega)]
    · rw [List.drop_eq_nil_of_le (by omega),wrap_id (by omega) (by omega)]
      simp only [List.any_nil,Bool.not_false,Bool.true_and]
      congr 1
      by_cases e:l.length = n + 1
      · rw [decide_eq_true e,beq_iff_eq];omega
      · rw [decide_eq_false e,beq_eq_false_iff_ne];omega
  | succ d ih =>
    intro i hi
    have hil:i < l.length:=by omega
    refine Ev.step (fun k=>by rw [numnahref01_Weights.l0,if_pos (by omega),if_pos (by omega),rd_get hil,wrap_succ (by omega)]) ?_
    rw [List.drop_eq_getElem_cons hil,List.any_cons]
    by_cases h1:l[i] < -1000000
    · rw [decide_eq_false (by omega)]
      exact Ev.congr (fun k=>if_pos h1) (Ev.now _)
    · by_cases h2:l[i] > 1000000
      · rw [decide_eq_false (by omega)]
        exact Ev.congr (fun k=>if_neg h1) (Ev.congr (fun k=>if_pos h2) (Ev.now _))
      · rw [decide_eq_true (by omega)]
        exact Ev.congr (fun k=>if_neg h1) (Ev.congr (fun k=>if_neg h2) (ih (i + 1) (by omega)))
theorem bad_sm {l:List Int} (h:bad60 l = false):Sm 1000000 l:=by
  intro i _
  by_cases hil:i < l.length
  · rw [rd_get hil]
    have:=List.any_eq_false.1 h l[i] (List.getElem_mem hil)
    simp only [Bool.not_eq_true',Bool.not_eq_true,decide_eq_false_iff_not,Decidable.not_not,Bool.not_eq_false',decide_eq_true_eq] at this
    omega
  · have:rd l (i:Int) = 0:=by unfold rd;simp [show ¬ i < l.length from hil]
    rw [this];omega
theorem pad_rd {l:List Int} (hl:l.length ≤ 6) (i:Nat):rd (padL l) (i:Int) = rd l (i:Int):=by
  by_cases h:i < 6
  · rcases (by omega:i = 0 ∨ i = 1 ∨ i = 2 ∨ i = 3 ∨ i = 4 ∨ i = 5) with rfl | rfl | rfl | rfl | rfl | rfl <;> rfl
  · unfold rd padL
    rw [List.getD_eq_getElem?_getD,List.getD_eq_getElem?_getD,List.getElem?_eq_none (by simp;omega),List.getElem?_eq_none (by rw [Int.toNat_natCast];omega)]
theorem wsum_congr {a b:List Int} (h:∀ i:Nat,rd a (i:Int) = rd b (i:Int)) (p:Nat):∀ n,wsum a p n = wsum b p n
  | 0=>rfl
  | n + 1=>by rw [wsum,wsum,wsum_congr h p n,h n]
def sgn (s:Int):Prop:=s = 1 ∨ s = -1
theorem sg_b {sg:Int} (hs:sgn sg) (p v:Nat):-1 ≤ sg * bI p v ∧ sg * bI p v ≤ 1:=by
  rcases hs with rfl | rfl <;> rcases bI_cases p v with e | e <;> rw [e] <;> decide
theorem chL_tab {f:Nat → Int} (hB:∀ v,-1000000000 ≤ f v ∧ f v ≤ 1000000000) {sg:Int} (hs:sgn sg) {p:Nat} (hp:p < 2 ^ 60):∀ i,i ≤ 6 → chL (tabI 6 f) (p:Int) sg i = tabI 6 (fun v=>if v < i then f v + sg * bI p v else f v)
  | 0,_=>by rw [chL];exact tabI_congr fun v _=>by simp
  | i + 1,hi=>by
    have hb:=hB i
    have hg:=sg_b hs p i
    rw [chL,chL_tab hB hs hp i (by omega),bit_div hp,tabI_rd (by omega),if_neg (Nat.lt_irrefl i),wrap_id (x:=sg * bI p i) (by omega) (by omega),wrap_id (by omega) (by omega),tabI_set]
    exact tabI_congr fun v _=>by
      by_cases e:v = i
      · subst e;rw [if_pos rfl,if_pos (by omega)]
      · rw [if_neg e]
        by_cases h:v < i
        · rw [if_pos h,if_pos (by omega)]
        · rw [if_neg h,if_neg (by omega)]
def updF (n p:Nat) (sg:Int) (f:Nat → Int):Nat → Int:=fun v=>if v = n then f v - sg else if v < n then f v + sg * bI p v else f v
theorem chV_tab {f:Nat → Int} (hB:∀ v,-1000000000 ≤ f v ∧ f v ≤ 1000000000) {sg:Int} (hs:sgn sg) {p:Nat} (hp:p < 2 ^ 60) {n:Nat} (hn:n ≤ 5):chV (tabI 6 f) (p:Int) sg n = tabI 6 (updF n p sg f):=by
  have hb:=hB n
  have h1:-1 ≤ sg ∧ sg ≤ 1:=by rcases hs with rfl | rfl <;> decide
  rw [chV,chL_tab hB hs hp n (by omega),tabI_rd (by omega),if_neg (Nat.lt_irrefl n),wrap_id (by omega) (by omega),tabI_set]
  exact tabI_congr fun v _=>by
    unfold updF
    by_cases e:v = n
    · subst e;rw [if_pos rfl]
    · rw [if_neg e,if_neg e]
def cnt (v:Nat):List Int → Int
  | []=>0
  | p :: r=>bI p.toNat v + cnt v r
theorem cnt_bd (v:Nat):∀ l:List Int,0 ≤ cnt v l ∧ cnt v l ≤ l.length
  | []=>by simp [cnt]
  | p :: r=>by
    have:=cnt_bd v r
    rw [cnt,List.length_cons]
    rcases bI_cases p.toNat v with e | e <;> rw [e] <;> omega
theorem cnt_append (v:Nat):∀ a b:List Int,cnt v (a ++ b) = cnt v a + cnt v b
  | [],b=>by simp [cnt]
  | p :: r,b=>by rw [List.cons_append,cnt,cnt,cnt_append v r b];omega
def okPt (c:ByteArray) (k:Nat) (p:Int):Bool:=decide ((0 ≤ p ∧ p ≤ (c.size:Int) - 1) ∧ bt c p = bt (⟨#[49,48]⟩:ByteArray) (k:Int))
theorem sgn_k {k:Nat} (hk:k < 2):sgn (1 - 2 * (k:Int)):=by
  rcases (by omega:k = 0 ∨ k = 1) with rfl | rfl
  · exact .inl rfl
  · exact .inr rfl
def afterF (n:Nat) (sg:Int) (l:List Int) (f:Nat → Int):Nat → Int:=fun v=>if v = n then f v - sg * (l.length:Int) else if v < n then f v + sg * cnt v l else f v
theorem balI_tab {c:ByteArray} (hc:c.size ≤ 40) {n:Nat} (hn:n ≤ 5) {k:Nat} (hk:k < 2):∀ (l:List Int) (f:Nat → Int) (B:Int),0 ≤ B → B + l.length ≤ 1000000000 → (∀ v,-B ≤ f v ∧ f v ≤ B) → balI c n k l (tabI 6 f) = if l.all (okPt c k) = true then some (tabI 6 (afterF n (1 - 2 * (k:Int)) l f)) else none
  | [],f,B,_,_,_=>by
    rw [balI,List.all_nil,if_pos rfl]
    congr 1
    exact tabI_congr fun v _=>by unfold afterF;simp [cnt]
  | p :: r,f,B,h0,h1,hf=>by
    have hs:sgn (1 - 2 * (k:Int)):=sgn_k hk
    rw [List.length_cons] at h1
    rw [balI,List.all_cons]
    by_cases h:(0 ≤ p ∧ p ≤ (c.size:Int) - 1) ∧ bt c p = bt (⟨#[49,48]⟩:ByteArray) (k:Int)
    · have ho:okPt c k p = true:=decide_eq_true h
      obtain ⟨q,rfl⟩:∃ q:Nat,p = (q:Int):=⟨p.toNat,by omega⟩
      have hq:q < 2 ^ 60:=Nat.lt_of_lt_of_le (show q < 64 by omega) (by decide)
      have hu:∀ v,-(B + 1) ≤ updF n q (1 - 2 * (k:Int)) f v ∧ updF n q (1 - 2 * (k:Int)) f v ≤ B + 1:=fun v=>by
        have:=hf v
        have:=sg_b hs q v
        have:-1 ≤ (1 - 2 * (k:Int)) ∧ (1 - 2 * (k:Int)) ≤ 1:=by omega
        unfold updF
        split
        · omega
        · split <;> omega
      rw [if_pos h,ho,Bool.true_and,chV_tab (fun v=>by have:=hf v;omega) hs hq hn,balI_tab hc hn hk r _ (B + 1) (by omega) (by omega) hu]
      by_cases ha:r.all (okPt c k) = true
      · rw [if_pos ha,if_pos ha]
        congr 1
        exact tabI_congr fun v _=>by
          unfold afterF updF
          rw [List.length_cons,cnt,Int.toNat_natCast]
          by_cases e:v = n
          · rw [if_pos e,if_pos e,if_pos e,Int.natCast_add,Int.mul_add];omega
          · rw [if_neg e,if_neg e,if_neg e]
            by_cases e2:v < n
            · rw [if_pos e2,if_pos e2,if_pos e2,Int.mul_add];omega
            · rw [if_neg e2,if_neg e2,if_neg e2]
      · rw [if_neg ha,if_neg ha]
    · have ho:okPt c k p = false:=decide_eq_false h
      rw [if_neg h,ho,Bool.false_and,if_neg (by decide)]
/-- Two lists are a balance. -/
def sameB (n:Nat) (a b:List Int):Bool:=allF (fun v=>decide (cnt v a - cnt v b = 0)) n 0
def lensB (ls:List (List Int)):Prop:=ls.length = 2 ∧ (rd_L3 ls 0).length = (rd_L3 ls 1).length ∧ 1 ≤ (rd_L3 ls 0).length ∧ (rd_L3 ls 0).length ≤ 1000
instance (ls:List (List Int)):Decidable (lensB ls):=by unfold lensB;exact inferInstance
def isBal (c:ByteArray) (n:Nat) (ls:List (List Int)):Bool:=decide (lensB ls) && ((rd_L3 ls 0).all (okPt c 0) && ((rd_L3 ls 1).all (okPt c 1) && sameB n (rd_L3 ls 0) (rd_L3 ls 1)))
def zf:Nat → Int:=fun _=>0
theorem balK_two (c:ByteArray) (n:Nat) (ls:List (List Int)):balK c n ls 2 0 zer6 = match balI c n 0 (rd_L3 ls 0) (tabI 6 zf) with
    | none=>10
    | some y=>match balI c n 1 (rd_L3 ls 1) y with
      | none=>10
      | some z=>if z = tabI 6 zf then 0 else 10:=rfl
theorem bal0 {c:ByteArray} (hc:c.size ≤ 40) {n:Nat} (hn:n ≤ 5) (l:List Int) (hl:l.length ≤ 1000):balI c n 0 l (tabI 6 zf) = if l.all (okPt c 0) = true then some (tabI 6 (afterF n 1 l zf)) else none :=
  balI_tab hc hn (by decide) l zf 0 (by decide) (by omega) (fun v=>by rw [show zf v = 0 from rfl];omega)
theorem zf_v (v:Nat):zf v = 0:=rfl
theorem bal1 {c:ByteArray} (hc:c.size ≤ 40) {n:Nat} (hn:n ≤ 5) (l m:List Int) (hl:l.length ≤ 1000) (hm:m.length ≤ 1000):balI c n 1 m (tabI 6 (afterF n 1 l zf)) = if m.all (okPt c 1) = true then some (tabI 6 (afterF n (-1) m (afterF n 1 l zf))) else none :=
  balI_tab hc hn (by decide) m _ 1000 (by decide) (by omega) (fun v=>by
    have:=cnt_bd v l
    unfold afterF
    rw [zf_v]
    split
    · omega
    · split <;> omega)
theorem balV_eq {c:ByteArray} (hc:c.size ≤ 40) {n:Nat} (hn:n ≤ 5) (ls:List (List Int)):balV c ls n true = if isBal c n ls = true then 0 else 10:=by
  unfold balV isBal
  rw [if_pos rfl]
  by_cases hl:lensB ls
  · have hl':=hl
    unfold lensB at hl'
    rw [if_pos hl',decide_eq_true hl,Bool.true_and]
    obtain ⟨_,h1,h2,h3⟩:=hl'
    rw [balK_two,bal0 hc hn _ h3]
    by_cases a0:(rd_L3 ls 0).all (okPt c 0) = true
    · rw [if_pos a0,a0,Bool.true_and]
      simp only
      rw [bal1 hc hn _ _ h3 (by omega)]
      by_cases a1:(rd_L3 ls 1).all (okPt c 1) = true
      · rw [if_pos a1,a1,Bool.true_and]
        simp only
        have key:(tabI 6 (afterF n (-1) (rd_L3 ls 1) (afterF n 1 (rd_L3 ls 0) zf)) = tabI 6 zf) ↔ sameB n (rd_L3 ls 0) (rd_L3 ls 1) = true:=by
          unfold sameB
          rw [allF_iff]
          constructor
          · intro e v _ hv
            have e2:=congrArg (fun l=>rd l (v:Int)) e
            simp only [tabI_rd (show v < 6 by omega)] at e2
            unfold afterF at e2
            rw [if_neg (by omega),if_pos (by omega),if_neg (by omega),if_pos (by omega),zf_v] at e2
            exact decide_eq_true (by omega)
          · intro h
            exact tabI_congr fun v _=>by
              unfold afterF
              rw [zf_v]
              by_cases e:v = n
              · rw [if_pos e,if_pos e];omega
              · rw [if_neg e,if_neg e]
                by_cases e2:v < n
                · have:=of_decide_eq_true (h v (by omega) (by omega))
                  rw [if_pos e2,if_pos e2];omega
                · rw [if_neg e2,if_neg e2]
        by_cases hs:sameB n (rd_L3 ls 0) (rd_L3 ls 1) = true
        · rw [if_pos (key.2 hs),if_pos hs]
        · rw [if_neg (fun h=>hs (key.1 h)),if_neg hs]
      · rw [if_neg a1]
        have:(rd_L3 ls 1).all (okPt c 1) = false:=by simpa using a1
        rw [this,Bool.false_and,if_neg (by decide)]
    · have:(rd_L3 ls 0).all (okPt c 0) = false:=by simpa using a0
      rw [if_neg a0,this,Bool.false_and,if_neg (by decide)]
  · have hl':=hl
    unfold lensB at hl'
    rw [if_neg hl',decide_eq_false hl,Bool.false_and,if_neg (by decide)]
section
variable {c:ByteArray} (hc:c.size ≤ 40) {n:Nat} (hn:n ≤ 5) {ls:List (List Int)} (h2:ls.length = 2) (hl:(rd_L3 ls 0).length = (rd_L3 ls 1).length) (hm:(rd_L3 ls 0).length ≤ 1000)
include hc hn h2 hl hm
theorem rbal_l2 {F:Nat → Int}:∀ d i,i + d = n → Ev (fun k=>numnahref01_Balance.l2 k (n:Int) (tabI n F) (i:Int)) (allF (fun v=>decide (F v = 0)) d i):=by
  intro d
  induction d with
  | zero =>
    intro i hi
    refine Ev.step (f:=fun _=>some true) (fun k=>?_) (Ev.now _)
    rw [numnahref01_Balance.l2,if_neg (by omega)]
  | succ d ih =>
    intro i hi
    have hlen:=tabI_len n F
    rw [allF]
    refine Ev.step (fun k=>by rw [numnahref01_Balance.l2,if_pos (by omega),if_pos (by omega),if_pos (by omega),tabI_rd (by omega),wrap_succ (by omega)]) ?_
    by_cases h:F i = 0
    · rw [decide_eq_true h,Bool.true_and]
      exact Ev.congr (fun k=>if_pos h) (ih (i + 1) (by omega))
    · rw [decide_eq_false h,Bool.false_and]
      exact Ev.congr (fun k=>if_neg h) (Ev.now _)
theorem rbal_l1 {p q:Nat} {F:Nat → Int} (hF:∀ v,-1000 ≤ F v ∧ F v ≤ 1000) {j:Nat} (hj:j < 1000) {r:Bool} (hv:Ev (fun k=>numnahref01_Balance.l0 k c ls (n:Int) (tabI n fun v=>F v + bI p v - bI q v) ((j + 1:Nat):Int)) r):∀ d i,i + d = n → Ev (fun k=>numnahref01_Balance.l1 k c ls (n:Int) (tabI n fun v=>if v < i then F v + bI p v - bI q v else F v) (j:Int) (p:Int) (q:Int) (i:Int)) r:=by
  intro d
  induction d with
  | zero =>
    intro i hi
    obtain rfl:i = n:=by omega
    refine Ev.step (fun k=>?_) hv
    rw [numnahref01_Balance.l1,if_neg (by omega),wrap_succ (by omega)]
    congr 1
    exact tabI_congr fun v h=>by rw [if_pos h]
  | succ d ih =>
    intro i hi
    refine Ev.step (fun k=>?_) (ih (i + 1) (by omega))
    have hb:=hF i
    have b1:=bI_cases p i
    have b2:=bI_cases q i
    rw [numnahref01_Balance.l1,if_pos (by omega),if_pos (by omega),if_pos (by rw [tabI_len];omega),tabI_rd (by omega),if_neg (Nat.lt_irrefl i),digitI (by omega),digitI (by omega),wrap_id (x:=F i + bI p i) (by omega) (by omega),wrap_id (by omega) (by omega),wrap_succ (by omega),Int.toNat_natCast,tabI_set]
    congr 1
    exact tabI_congr fun v _=>by
      by_cases e:v = i
      · subst e;rw [if_pos rfl,if_pos (by omega)]
      · rw [if_neg e]
        by_cases h:v < i
        · rw [if_pos h,if_pos (by omega)]
        · rw [if_neg h,if_neg (by omega)]
theorem rbal_l0:∀ d j,j + d = (rd_L3 ls 0).length → Ev (fun k=>numnahref01_Balance.l0 k c ls (n:Int) (tabI n fun v=>cnt v ((rd_L3 ls 0).take j) - cnt v ((rd_L3 ls 1).take j)) (j:Int)) (((rd_L3 ls 0).drop j).all (okPt c 0) && (((rd_L3 ls 1).drop j).all (okPt c 1) && sameB n (rd_L3 ls 0) (rd_L3 ls 1))):=by
  intro d
  induction d with
  | zero =>
    intro j hj
    have e:=rbal_l2 hc hn h2 hl hm (F:=fun v=>cnt v ((rd_L3 ls 0).take j) - cnt v ((rd_L3 ls 1).take j)) n 0 (by omega)
    rw [List.take_of_length_le (by omega),List.take_of_length_le (by omega)] at e ⊢
    rw [List.drop_eq_nil_of_le (by omega),List.drop_eq_nil_of_le (by omega)]
    simp only [List.all_nil,Bool.true_and]
    refine Ev.step (fun k=>?_) e
    rw [numnahref01_Balance.l0,if_pos (by omega),if_neg (by omega)];rfl
  | succ d ih =>
    intro j hj
    have ha:j < (rd_L3 ls 0).length:=by omega
    have hb:j < (rd_L3 ls 1).length:=by omega
    rw [List.drop_eq_getElem_cons ha,List.drop_eq_getElem_cons hb,List.all_cons,List.all_cons]
    obtain ⟨x,hx⟩:∃ x,(rd_L3 ls 0)[j] = x:=⟨_,rfl⟩
    obtain ⟨y,hy⟩:∃ y,(rd_L3 ls 1)[j] = y:=⟨_,rfl⟩
    obtain ⟨F,hFe⟩:∃ F:Nat → Int,(fun v=>cnt v ((rd_L3 ls 0).take j) - cnt v ((rd_L3 ls 1).take j)) = F:=⟨_,rfl⟩
    have hF:∀ v,-1000 ≤ F v ∧ F v ≤ 1000:=fun v=>by
      have c1:=cnt_bd v ((rd_L3 ls 0).take j)
      have c2:=cnt_bd v ((rd_L3 ls 1).take j)
      rw [List.length_take] at c1 c2
      rw [← hFe]
      show -1000 ≤ cnt v _ - cnt v _ ∧ cnt v _ - cnt v _ ≤ 1000
      omega
    have ih':=ih (j + 1) (by omega)
    have fail:Ev (fun k=>numnahref01_Balance.j2 k c ls (n:Int) (tabI n F) (j:Int) x y true) false:=by
      refine Ev.step (f:=fun _=>some false) (fun k=>?_) (Ev.now _)
      rw [numnahref01_Balance.j2,if_pos rfl]
    rw [hx,hy,hFe]
    refine Ev.step (fun k=>by rw [numnahref01_Balance.l0,if_pos (by omega),if_pos (by omega),if_pos (by omega),if_pos (by omega),if_pos (by omega),rd_get ha,rd_get hb,hx,hy]) ?_
    have bt0:bt (⟨#[49,48]⟩:ByteArray) ((0:Nat):Int) = 49:=by decide +kernel
    have bt1:bt (⟨#[49,48]⟩:ByteArray) ((1:Nat):Int) = 48:=by decide +kernel
    by_cases x0:x < 0
    · rw [show okPt c 0 x = false from decide_eq_false (fun h=>by omega),Bool.false_and,Bool.false_and]
      exact Ev.congr (fun k=>if_pos x0) fail
    refine Ev.congr (fun k=>if_neg x0) ?_
    by_cases x1:x ≥ (c.size:Int)
    · rw [show okPt c 0 x = false from decide_eq_false (fun h=>by omega),Bool.false_and,Bool.false_and]
      exact Ev.congr (fun k=>if_pos x1) fail
    refine Ev.congr (fun k=>if_neg x1) ?_
    by_cases y0:y < 0
    · rw [show okPt c 1 y = false from decide_eq_false (fun h=>by omega),Bool.false_and,Bool.false_and,Bool.and_false]
      exact Ev.congr (fun k=>if_pos y0) fail
    refine Ev.congr (fun k=>if_neg y0) ?_
    by_cases y1:y ≥ (c.size:Int)
    · rw [show okPt c 1 y = false from decide_eq_false (fun h=>by omega),Bool.false_and,Bool.false_and,Bool.and_false]
      exact Ev.congr (fun k=>if_pos y1) fail
    refine Ev.congr (fun k=>if_neg y1) (Ev.congr (fun k=>if_pos (by omega)) (Ev.congr (fun k=>if_pos (by omega)) ?_))
    by_cases xv:bt c x = 49
    · have ox:okPt c 0 x = true:=decide_eq_true ⟨⟨by omega,by omega⟩,by rw [bt0];exact xv⟩
      rw [ox,Bool.true_and]
      refine Ev.congr (fun k=>if_pos xv) (Ev.congr (fun k=>if_pos (by omega)) (Ev.congr (fun k=>if_pos (by omega)) ?_))
      by_cases yv:bt c y = 48
      · have oy:okPt c 1 y = true:=decide_eq_true ⟨⟨by omega,by omega⟩,by rw [bt1];exact yv⟩
        rw [oy,Bool.true_and,show (bt c y != 48) = false from bne_eq_false_iff_eq.2 yv]
        obtain ⟨p,rfl⟩:∃ p:Nat,x = (p:Int):=⟨x.toNat,by omega⟩
        obtain ⟨q,rfl⟩:∃ q:Nat,y = (q:Int):=⟨y.toNat,by omega⟩
        have e1:=rbal_l1 hc hn h2 hl hm (p:=p) (q:=q) (F:=F) hF (j:=j) (by omega) (r:=((rd_L3 ls 0).drop (j + 1)).all (okPt c 0) && (((rd_L3 ls 1).drop (j + 1)).all (okPt c 1) && sameB n (rd_L3 ls 0) (rd_L3 ls 1))) (by
          refine Ev.congr (fun k=>?_) ih'
          congr 1
          exact tabI_congr fun v _=>by
            rw [List.take_succ_eq_append_getElem ha,List.take_succ_eq_append_getElem hb,cnt_append,cnt_append,hx,hy]
            simp only [cnt,Int.toNat_natCast]
            rw [← hFe]
            show cnt v _ - cnt v _ + bI p v - bI q v = _
            omega) n 0 (by omega)
        refine Ev.step (fun k=>by rw [numnahref01_Balance.j2,if_neg (by decide)]) ?_
        refine Ev.congr (fun k=>?_) e1
        congr 1
      · have oy:okPt c 1 y = false:=decide_eq_false (fun h=>yv (by rw [bt1] at h;exact h.2))
        rw [oy,Bool.false_and,Bool.false_and,Bool.and_false,show (bt c y != 48) = true from bne_iff_ne.2 yv]
        exact fail
    · have ox:okPt c 0 x = false:=decide_eq_false (fun h=>xv (by rw [bt0] at h;exact h.2))
      rw [ox,Bool.false_and,Bool.false_and]
      exact Ev.congr (fun k=>if_neg xv) fail
end
theorem ev_rbal {c:ByteArray} (hc:c.size ≤ 40) {n:Nat} (hn:n ≤ 5) (hfn:fnN c = n) (ls:List (List Int)):Ev (fun k=>numnahref01_Balance.f k c ls) (isBal c n ls):=by
  have fail:Ev (fun k=>numnahref01_Balance.j0 k c ls true) false:=by
    refine Ev.step (f:=fun _=>some false) (fun k=>?_) (Ev.now _)
    rw [numnahref01_Balance.j0,if_pos rfl]
  unfold numnahref01_Balance.f isBal
  by_cases h2:ls.length = 2
  · refine Ev.congr (fun k=>if_pos (by omega)) (Ev.congr (fun k=>if_pos (by omega)) (Ev.congr (fun k=>if_pos (by omega)) ?_))
    by_cases hl:(rd_L3 ls 0).length = (rd_L3 ls 1).length
    · refine Ev.congr (fun k=>if_pos (by omega)) ?_
      by_cases h1:(rd_L3 ls 0).length < 1
      · rw [show decide (lensB ls) = false from decide_eq_false (fun h=>by have:=h.2.2.1;omega),Bool.false_and]
        exact Ev.congr (fun k=>if_pos (by omega)) fail
      refine Ev.congr (fun k=>if_neg (by omega)) ?_
      by_cases h3:(rd_L3 ls 0).length > 1000
      · rw [show decide (lensB ls) = false from decide_eq_false (fun h=>by have:=h.2.2.2;omega),Bool.false_and,show decide (((rd_L3 ls 0).length:Int) > 1000) = true from decide_eq_true (by omega)]
        exact fail
      · rw [show decide (lensB ls) = true from decide_eq_true ⟨h2,hl,by omega,by omega⟩,Bool.true_and,show decide (((rd_L3 ls 0).length:Int) > 1000) = false from decide_eq_false (by omega)]
        have e:=rbal_l0 hc hn h2 hl (by omega) (rd_L3 ls 0).length 0 (by omega)
        rw [List.drop_zero,List.drop_zero] at e
        refine Ev.step (fun k=>by rw [numnahref01_Balance.j0,if_neg (by decide)]) (Ev.bind (ev_vars hc) ?_)
        rw [hfn]
        refine Ev.congr (fun k=>if_pos (by omega)) (Ev.congr (fun k=>if_pos (by omega)) ?_)
        refine Ev.congr (fun k=>?_) e
        congr 1
        rw [Int.toNat_natCast]
        apply List.ext_getElem
        · rw [tabI_len,List.length_replicate]
        · intro i h1 h2
          simp [tabI,cnt]
    · rw [show decide (lensB ls) = false from decide_eq_false (fun h=>hl h.2.1),Bool.false_and]
      exact Ev.congr (fun k=>if_neg (by omega)) fail
  · rw [show decide (lensB ls) = false from decide_eq_false (fun h=>h2 h.1),Bool.false_and]
    exact Ev.congr (fun k=>if_neg (by omega)) fail
end Go.Proofs.Ythpahlkhiknofaa.P
namespace Go.Proofs.Ythpahlkhiknofaa.G
open Go.RowKit Go.Proofs.YthpahlkhiknofaaW.PrintWords Go.Proofs.YthpahlkhiknofaaW.PrintLast Go.Proofs.YthpahlkhiknofaaW.PrintMore
set_option maxHeartbeats 8000000
set_option maxRecDepth 100000
attribute [local go_sem] max2_int min2_int max_two min_two max_three min_three max_four min_four   -- for this text's walks alone
def numnahlaw01_lists.l0:Nat → List (List Int) → List (List Int) → Int → Option ((List (List Int)))
 | 0,_,_,_=>none
 | k + 1,x0,x3,x4=>if x4 < (x0.length:Int) then (if x4 < 3 then (if 0 ≤ x4 then ((numnahlaw01_list.f (rd_L3 x0 x4)).bind fun t103=>(if x3.length < 5864062014805 then (numnahlaw01_lists.l0 k x0 (x3 ++ [t103]) (wrap64 (x4 + 1))) else (none))) else (none)) else (some x3)) else (some x3)
def numnahlaw01_lists.f (k:Nat) (l0:List (List Int)):Option ((List (List Int))):=numnahlaw01_lists.l0 k l0 ([]:List (List Int)) 0
theorem numnahlaw01_lists.mono_l:∀ k,(∀ y0 y1 y2,LeO (numnahlaw01_lists.l0 k y0 y1 y2) (numnahlaw01_lists.l0 (k + 1) y0 y1 y2))
 | 0=>fun _ _ _ r h=>by simp [numnahlaw01_lists.l0] at h
 | k + 1=>by
  have ih0:=numnahlaw01_lists.mono_l k
  intro y0 y1 y2
  unfold numnahlaw01_lists.l0
  repeat' first
  | (with_reducible exact ih0 _ _ _)
  | (with_reducible exact LeO.refl _)
  | (with_reducible exact LeO.none _)
  | (with_reducible refine LeO.ite ?_ ?_)
  | (with_reducible refine LeO.bind ?_ (fun _=>?_))
  | exact ih0 _ _ _
  | exact LeO.none _
  | refine LeO.ite ?_ ?_
  | refine LeO.bind ?_ (fun _=>?_)
theorem numnahlaw01_lists.mono:∀ a0 k,LeO (numnahlaw01_lists.f k a0) (numnahlaw01_lists.f (k + 1) a0):=by
 intro a0 k
 have ih0:=numnahlaw01_lists.mono_l k
 unfold numnahlaw01_lists.f
 repeat' first
   | (with_reducible exact ih0 _ _ _)
   | (with_reducible exact LeO.refl _)
   | (with_reducible exact LeO.none _)
   | (with_reducible refine LeO.ite ?_ ?_)
   | (with_reducible refine LeO.bind ?_ (fun _=>?_))
   | exact ih0 _ _ _
   | exact LeO.none _
   | refine LeO.ite ?_ ?_
   | refine LeO.bind ?_ (fun _=>?_)
theorem numnahlaw01_lists.calls (k:Nat) (A0:Option Addr) (c0:Nat) (l0:List (List Int)) (r:List (List Int)) (w:World) (hr0:Kd.C (Kd.slice 3 (Kd.int .i64)) w A0 l0.length l0) (hc0:l0.length ≤ c0) (h:numnahlaw01_lists.f k l0 = some r) :
  Calls Try.prog 18 #[.slice A0 l0.length c0] w fun e w'=>∃ v0_:Value,e = .returned (v0_) ∧ Kd.S (Kd.slice 3 (Kd.int .i64)) 22 w' w.heap.size (fun _=>True) v0_ r ∧ Below w.heap.size w w':=by
 have HR0:=Aside0.mk hr0
 have HC0:=Aside0.mk hc0
 clear hr0 hc0
 have HB:=Aside0.mk (Below.refl w.heap.size w)
 have H:(numnahlaw01_lists.l0 k l0 ([]:List (List Int)) 0) = some r:=h
 clear h
 have H':=Aside0.mk H
 clear H
 go_enter Try.func18,Try.ntmps18
 go_wp2
 go_loopg [3,4] k (fun kq v3 v4 w'=>∃ (x3_1:List (List Int)) (x4_1:Int),v4 = .int .i64 x4_1 ∧ Aside0 (numnahlaw01_lists.l0 kq l0 x3_1 x4_1 = some r) ∧ Aside0 (kq ≤ k) ∧ Aside0 (Kd.S (Kd.slice 3 (Kd.int .i64)) 22 w' w.heap.size (fun _=>True) v3 x3_1) ∧ Aside0 (Below w.heap.size w w'))
 case atStart=>exact ⟨(([]:List (List Int))),(0),(by first | rfl | (simp;done) | (simp [*];done)),H',⟨Nat.le_refl _⟩,⟨by first | exact Kd.S_nil _ _ _ _ _ | exact Kd.N_nil _ _ _ _ _ | exact Kd.V_nil _ _ _ _ _ | exact Kd.Q_nil _ _ _ _ _ | exact Kd.R_nil _ _ _ _ _⟩,⟨by repeat (first | (with_reducible first | exact HB.out | apply below_alloc | apply pw_below_drewN | apply below_drew1) | exact HB.out)⟩⟩
 case round =>
  clear H'
  try clear c1
  obtain ⟨x3_1,x4_1,rfl,HA,HK1,HO_3,HB⟩:=hrel
  cases gk with
  | zero=>exact absurd HA.out (by simp [numnahlaw01_lists.l0])
  | succ k1 =>
   have H:=HA.out
   clear HA
   simp only [numnahlaw01_lists.l0] at H
   by_cases c2:x4_1 < (l0.length:Int)
   case neg =>
    rw [if_neg c2] at H
    have c2b0:decide (x4_1 < (l0.length:Int)) = false:=decide_eq_false c2
    clear c2
    obtain rfl:=Option.some.inj H
    go_wp2
    go_ret
    exact ⟨_,by first | rfl | (simp [errW_none,errW_some] <;> rfl) | (simp [*,errW_none,errW_some] <;> rfl),by (with_reducible repeat (first | apply Kd.S_alloc | apply Kd.S_drewN | apply Kd.S_drew));exact HO_3.out,by repeat (first | (with_reducible first | exact HB.out | apply below_alloc | apply pw_below_drewN | apply below_drew1) | exact HB.out)⟩
   rw [if_pos c2] at H
   have c2b0:decide (x4_1 < (l0.length:Int)) = true:=decide_eq_true c2
   clear c2
   by_cases c3:x4_1 < 3
   case neg =>
    rw [if_neg c3] at H
    have c3b0:decide (x4_1 < 3) = false:=decide_eq_false c3
    clear c3
    obtain rfl:=Option.some.inj H
    go_wp2
    go_ret
    exact ⟨_,by first | rfl | (simp [errW_none,errW_some] <;> rfl) | (simp [*,errW_none,errW_some] <;> rfl),by (with_reducible repeat (first | apply Kd.S_alloc | apply Kd.S_drewN | apply Kd.S_drew));exact HO_3.out,by repeat (first | (with_reducible first | exact HB.out | apply below_alloc | apply pw_below_drewN | apply below_drew1) | exact HB.out)⟩
   rw [if_pos c3] at H
   have c3b0:decide (x4_1 < 3) = true:=decide_eq_true c3
   clear c3
   by_cases c4:0 ≤ x4_1
   case neg =>
    rw [if_neg c4] at H
    exact absurd H (by simp)
   rw [if_pos c4] at H
   have c4b0:decide (0 ≤ x4_1) = true:=decide_eq_true c4
   clear c4
   replace H:=Option.bind_eq_some_iff.mp H
   obtain ⟨t103,A50,H⟩:=H
   replace H:(if x3_1.length < 5864062014805 then (numnahlaw01_lists.l0 k1 l0 (x3_1 ++ [t103]) (wrap64 (x4_1 + 1))) else (none)) = some r:=H
   have A5:=Aside0.mk A50
   clear A50
   by_cases c6:x3_1.length < 5864062014805
   case neg =>
    rw [if_neg c6] at H
    exact absurd H (by simp)
   rw [if_pos c6] at H
   have LMc6:=Aside0.mk c6
   clear c6
   obtain ⟨y106,hy106⟩:∃ y_:List (List Int),y_ = (x3_1 ++ [t103]):=⟨_,rfl⟩
   replace H:(numnahlaw01_lists.l0 k1 l0 y106 (wrap64 (x4_1 + 1))) = some r:=by first | (rw [hy106];with_reducible exact H) | (have H2_:=(Option.bind_some _ _).symm.trans H;rw [hy106];with_reducible exact H2_) | (have H2_:=(Option.bind_some _ _).symm.trans H;with_reducible exact H2_) | with_reducible exact H | (rw [hy106];exact H) | exact H
   have Ny106:=Aside0.mk hy106
   clear hy106
   have H':=Aside0.mk H
   clear H
   have p102:0 ≤ (x4_1:Int):=of_decide_eq_true (by first | (with_reducible assumption) | assumption)
   have q102:x4_1 < (l0.length:Int):=of_decide_eq_true (by first | (with_reducible assumption) | assumption)
   obtain ⟨ad102,A102_0,c102_0,e102,hx102_0,hl102_0,hi102_0⟩:=at_L3 HR0.out x4_1 p102 q102
   cases e102
   replace hx102_0:=(HB.out.cell (World.block_lt_of_cell? w _ hx102_0)).trans hx102_0
   have HR102_0:=Aside0.mk hi102_0
   have HC102_0:=Aside0.mk hl102_0
   clear hi102_0 hl102_0
   replace p102:=eq_true p102
   replace q102:=eq_true q102
   go_wp2_with (first | ((with_reducible refine gate_callee (f:=17) rfl ?_);refine goesL_ (some 20) rfl rfl Try.func17 (by kernel_rfl) rfl #[.slice A102_0 (rd_L3 l0 x4_1).length c102_0] rfl (by (try simp only [List.map_toArray,List.map_cons,List.map_nil]);first | done | rfl | (simp only [List.length_drop,List.length_take];rfl)) ?_;(with_reducible refine (numnahlaw01_list.calls _ _ (rd_L3 l0 x4_1) t103 _ ?side1 ?side2 A5.out).mono ?_);(case side1=>repeat (first | exact (Kd.C_below HR102_0.out HB.out) | (with_reducible refine Kd.C_alloc ?_ _) | (with_reducible refine Kd.C_drewN ?_ _) | (with_reducible refine Kd.C_drew ?_)));(case side2=>exact HC102_0.out);rintro e w7 ⟨v104,rfl,ho0,hb⟩;refine ⟨_,rfl,?_⟩;have n0_:=Aside0.mk (Kd.S_elder' (by (with_reducible repeat (first | apply Kd.S_alloc | apply Kd.S_drewN | apply Kd.S_drew));exact HO_3.out) (Kd.R_base ho0) hb);have n1_:=Aside0.mk (Kd.R_lower ho0 (below_size (by repeat (first | (with_reducible first | exact HB.out | apply below_alloc | apply pw_below_drewN | apply below_drew1) | exact HB.out))));have n2_:=Aside0.mk (below_step (by repeat (first | (with_reducible first | exact HB.out | apply below_alloc | apply pw_below_drewN | apply below_drew1) | exact HB.out)) hb);clear HO_3;clear HB;have HO_3:=n0_;have HO105:=n1_;have HB:=n2_;clear n0_ n1_ n2_;(try clear hb);(try clear ho0);obtain ⟨Ao9,co9,eo9⟩:=Kd.R_slice HO105.out;subst eo9) | ((with_reducible refine gate_builtin (b:=.append) (xs:=#[.tmp 15,.tmp 21]) rfl ?_);at_builtin;refine Kd.S_append (Kd.slice 3 (Kd.int .i64)) (w0:=w) w.heap.size rfl (.tmp 15) (.tmp 21) 23 22 (.slice none 0 0) 24 rfl Try.underlying23 info22 rfl (by decide) (by omega) u3 x3_1 t103 [.slice Ao9 t103.length co9] (fun _=>True) (fun k_=>some k_ = (.slice Ao9 t103.length co9:Value).ownBlock) rfl rfl ?aP (fun k_ hk_=>((Kd.R_mono (ok':=fun k_=>((fun _=>True)) k_ ∧ some k_ ≠ (u3:Value).ownBlock) (Kd.R_apart' (HO105.out) (Kd.S_typed HO_3.out) (by decide)) (fun k_ hk=>⟨trivial,hk.2⟩))).1 k_ hk_.symm) ?aF ?aO ?aB ?aS ?aL ?_;(case aP=>exact Kd.M_row (Kd.R_mono (Kd.R_tight rfl (Kd.R_mono (ok':=fun k_=>((fun _=>True)) k_ ∧ some k_ ≠ (u3:Value).ownBlock) (Kd.R_apart' (HO105.out) (Kd.S_typed HO_3.out) (by decide)) (fun k_ hk=>⟨trivial,hk.2⟩))) (fun _ h_=>h_)));(case aB=>exact (by repeat (first | (with_reducible first | exact HB.out | apply below_alloc | apply pw_below_drewN | apply below_drew1) | exact HB.out)));(case aF=>exact (fun _ _=>trivial));(case aO=>exact (by (with_reducible repeat (first | apply Kd.S_alloc | apply Kd.S_drewN | apply Kd.S_drew));exact Kd.S_mono HO_3.out (fun k_ hk=>⟨trivial,fun e_=>hk.2 e_⟩)));(case aS=>exact (below_size (by repeat (first | (with_reducible first | exact HB.out | apply below_alloc | apply pw_below_drewN | apply below_drew1) | exact HB.out))));(case aL=>have:=LMc6.out;omega);intro v107 w8 ho hb hg hat;rw [← Ny106.out] at ho;have n0_:=Aside0.mk (hb);have n1_:=Aside0.mk (ho);clear HB;clear HO_3;clear HO105;have HB:=n0_;have HO108:=n1_;clear n0_ n1_;clear ho hb hg hat))
   go_roundg k1
   case measure=>have:=HK1.out;omega
   case rel=>exact ⟨(y106),(wrap64 (x4_1 + 1)),(by first | rfl | (simp;done) | (simp [*];done)),H',⟨by have:=HK1.out;omega⟩,⟨by (with_reducible repeat (first | apply Kd.S_alloc | apply Kd.S_drewN | apply Kd.S_drew));exact HO108.out⟩,⟨by repeat (first | (with_reducible first | exact HB.out | apply below_alloc | apply pw_below_drewN | apply below_drew1) | exact HB.out)⟩⟩
def numnahlaw01_CardRealizes.j0:Nat → ByteArray → List (List Int) → Int → Int → Int → Int → Option (Bool)
 | 0,_,_,_,_,_,_=>none
 | k + 1,x7,x9,x10,x11,x12,x13=>(numnahref01_Balance.f k x7 x9).bind fun t211=>(if t211 = true then (if x10 = x12 then (if x11 = x13 then ((numnahlaw01_awake.f).bind fun t212=>(some t212)) else (some false)) else (some false)) else (if x10 = x12 then (if x11 = 10 then ((numnahlaw01_awake.f).bind fun t213=>(some t213)) else (some false)) else (some false)))
def numnahlaw01_CardRealizes.f (k:Nat) (a0:ByteArray) (l1:List Int) (l2:List (List Int)):Option (Bool):=(numnahlaw01_short.f a0).bind fun t197=>((numnahlaw01_list.f l1).bind fun t198=>((numnahlaw01_lists.f k l2).bind fun t201=>((card_Realize.f t197 t198).bind fun t204=>((card_Balance.f t197 t201).bind fun t205=>((numnahref01_Total.f k t197).bind fun t206=>(if t206 = true then ((numnahref01_Vars.f k t197).bind fun t208=>((numnahref01_Weights.f k t198 t208).bind fun t209=>(if t209 = true then ((numnahref01_Realize.f k t197 t198).bind fun t210=>(if t210 = true then (numnahlaw01_CardRealizes.j0 k t197 t201 t204 t205 0 0) else (numnahlaw01_CardRealizes.j0 k t197 t201 t204 t205 10 0))) else (numnahlaw01_CardRealizes.j0 k t197 t201 t204 t205 2 0)))) else (if t204 = 2 then (if t205 = 2 then ((numnahlaw01_awake.f).bind fun t207=>(some t207)) else (some false)) else (some false))))))))
theorem numnahlaw01_CardRealizes.mono_l:∀ k,(∀ y0 y1 y2 y3 y4 y5,LeO (numnahlaw01_CardRealizes.j0 k y0 y1 y2 y3 y4 y5) (numnahlaw01_CardRealizes.j0 (k + 1) y0 y1 y2 y3 y4 y5))
 | 0=>fun _ _ _ _ _ _ r h=>by simp [numnahlaw01_CardRealizes.j0] at h
 | k + 1=>by
  have ih0:=numnahlaw01_CardRealizes.mono_l k
  intro y0 y1 y2 y3 y4 y5
  unfold numnahlaw01_CardRealizes.j0
  repeat' first
  | (with_reducible exact ih0 _ _ _ _ _ _)
  | (with_reducible exact numnahlaw01_lists.mono _ _)
  | (with_reducible exact numnahref01_Balance.mono _ _ _)
  | (with_reducible exact numnahref01_Realize.mono _ _ _)
  | (with_reducible exact numnahref01_Total.mono _ _)
  | (with_reducible exact numnahref01_Vars.mono _ _)
  | (with_reducible exact numnahref01_Weights.mono _ _ _)
  | (with_reducible exact LeO.refl _)
  | (with_reducible exact LeO.none _)
  | (with_reducible refine LeO.ite ?_ ?_)
  | (with_reducible refine LeO.bind ?_ (fun _=>?_))
  | exact ih0 _ _ _ _ _ _
  | exact numnahlaw01_lists.mono _ _
  | exact numnahref01_Balance.mono _ _ _
  | exact numnahref01_Realize.mono _ _ _
  | exact numnahref01_Total.mono _ _
  | exact numnahref01_Vars.mono _ _
  | exact numnahref01_Weights.mono _ _ _
  | exact LeO.none _
  | refine LeO.ite ?_ ?_
  | refine LeO.bind ?_ (fun _=>?_)
theorem numnahlaw01_CardRealizes.mono:∀ a0 a1 a2 k,LeO (numnahlaw01_CardRealizes.f k a0 a1 a2) (numnahlaw01_CardRealizes.f (k + 1) a0 a1 a2):=by
 intro a0 a1 a2 k
 have ih0:=numnahlaw01_CardRealizes.mono_l k
 unfold numnahlaw01_CardRealizes.f
 repeat' first
   | (with_reducible exact ih0 _ _ _ _ _ _)
   | (with_reducible exact numnahlaw01_lists.mono _ _)
   | (with_reducible exact numnahref01_Balance.mono _ _ _)
   | (with_reducible exact numnahref01_Realize.mono _ _ _)
   | (with_reducible exact numnahref01_Total.mono _ _)
   | (with_reducible exact numnahref01_Vars.mono _ _)
   | (with_reducible exact numnahref01_Weights.mono _ _ _)
   | (with_reducible exact LeO.refl _)
   | (with_reducible exact LeO.none _)
   | (with_reducible refine LeO.ite ?_ ?_)
   | (with_reducible refine LeO.bind ?_ (fun _=>?_))
   | exact ih0 _ _ _ _ _ _
   | exact numnahlaw01_lists.mono _ _
   | exact numnahref01_Balance.mono _ _ _
   | exact numnahref01_Realize.mono _ _ _
   | exact numnahref01_Total.mono _ _
   | exact numnahref01_Vars.mono _ _
   | exact numnahref01_Weights.mono _ _ _
   | exact LeO.none _
   | refine LeO.ite ?_ ?_
   | refine LeO.bind ?_ (fun _=>?_)
theorem numnahlaw01_CardRealizes.calls (k:Nat) (a0:ByteArray) (A1:Option Addr) (c1:Nat) (l1:List Int) (A2:Option Addr) (c2:Nat) (l2:List (List Int)) (r:Bool) (w:World) (hr1:Kd.C (Kd.int .i64) w A1 l1.length l1) (hc1:l1.length ≤ c1) (hr2:Kd.C (Kd.slice 3 (Kd.int .i64)) w A2 l2.length l2) (hc2:l2.length ≤ c2) (h:numnahlaw01_CardRealizes.f k a0 l1 l2 = some r) :
  Calls Try.prog 3 #[.string a0,.slice A1 l1.length c1,.slice A2 l2.length c2] w fun e w'=>e = .returned (.bool r) ∧ Below w.heap.size w w':=by
 have HR1:=Aside0.mk hr1
 have HC1:=Aside0.mk hc1
 clear hr1 hc1
 have HR2:=Aside0.mk hr2
 have HC2:=Aside0.mk hc2
 clear hr2 hc2
 have HB:=Aside0.mk (Below.refl w.heap.size w)
 have H:((numnahlaw01_short.f a0).bind fun t197=>((numnahlaw01_list.f l1).bind fun t198=>((numnahlaw01_lists.f k l2).bind fun t201=>((card_Realize.f t197 t198).bind fun t204=>((card_Balance.f t197 t201).bind fun t205=>((numnahref01_Total.f k t197).bind fun t206=>(if t206 = true then ((numnahref01_Vars.f k t197).bind fun t208=>((numnahref01_Weights.f k t198 t208).bind fun t209=>(if t209 = true then ((numnahref01_Realize.f k t197 t198).bind fun t210=>(if t210 = true then (numnahlaw01_CardRealizes.j0 k t197 t201 t204 t205 0 0) else (numnahlaw01_CardRealizes.j0 k t197 t201 t204 t205 10 0))) else (numnahlaw01_CardRealizes.j0 k t197 t201 t204 t205 2 0)))) else (if t204 = 2 then (if t205 = 2 then ((numnahlaw01_awake.f).bind fun t207=>(some t207)) else (some false)) else (some false))))))))) = some r:=h
 clear h
 replace H:=Option.bind_eq_some_iff.mp H
 obtain ⟨t197,A40,H⟩:=H
 replace H:((numnahlaw01_list.f l1).bind fun t198=>((numnahlaw01_lists.f k l2).bind fun t201=>((card_Realize.f t197 t198).bind fun t204=>((card_Balance.f t197 t201).bind fun t205=>((numnahref01_Total.f k t197).bind fun t206=>(if t206 = true then ((numnahref01_Vars.f k t197).bind fun t208=>((numnahref01_Weights.f k t198 t208).bind fun t209=>(if t209 = true then ((numnahref01_Realize.f k t197 t198).bind fun t210=>(if t210 = true then (numnahlaw01_CardRealizes.j0 k t197 t201 t204 t205 0 0) else (numnahlaw01_CardRealizes.j0 k t197 t201 t204 t205 10 0))) else (numnahlaw01_CardRealizes.j0 k t197 t201 t204 t205 2 0)))) else (if t204 = 2 then (if t205 = 2 then ((numnahlaw01_awake.f).bind fun t207=>(some t207)) else (some false)) else (some false)))))))) = some r:=H
 have A4:=Aside0.mk A40
 clear A40
 replace H:=Option.bind_eq_some_iff.mp H
 obtain ⟨t198,A50,H⟩:=H
 replace H:((numnahlaw01_lists.f k l2).bind fun t201=>((card_Realize.f t197 t198).bind fun t204=>((card_Balance.f t197 t201).bind fun t205=>((numnahref01_Total.f k t197).bind fun t206=>(if t206 = true then ((numnahref01_Vars.f k t197).bind fun t208=>((numnahref01_Weights.f k t198 t208).bind fun t209=>(if t209 = true then ((numnahref01_Realize.f k t197 t198).bind fun t210=>(if t210 = true then (numnahlaw01_CardRealizes.j0 k t197 t201 t204 t205 0 0) else (numnahlaw01_CardRealizes.j0 k t197 t201 t204 t205 10 0))) else (numnahlaw01_CardRealizes.j0 k t197 t201 t204 t205 2 0)))) else (if t204 = 2 then (if t205 = 2 then ((numnahlaw01_awake.f).bind fun t207=>(some t207)) else (some false)) else (some false))))))) = some r:=H
 have A5:=Aside0.mk A50
 clear A50
 replace H:=Option.bind_eq_some_iff.mp H
 obtain ⟨t201,A60,H⟩:=H
 replace H:((card_Realize.f t197 t198).bind fun t204=>((card_Balance.f t197 t201).bind fun t205=>((numnahref01_Total.f k t197).bind fun t206=>(if t206 = true then ((numnahref01_Vars.f k t197).bind fun t208=>((numnahref01_Weights.f k t198 t208).bind fun t209=>(if t209 = true then ((numnahref01_Realize.f k t197 t198).bind fun t210=>(if t210 = true then (numnahlaw01_CardRealizes.j0 k t197 t201 t204 t205 0 0) else (numnahlaw01_CardRealizes.j0 k t197 t201 t204 t205 10 0))) else (numnahlaw01_CardRealizes.j0 k t197 t201 t204 t205 2 0)))) else (if t204 = 2 then (if t205 = 2 then ((numnahlaw01_awake.f).bind fun t207=>(some t207)) else (some false)) else (some false)))))) = some r:=H
 have A6:=Aside0.mk A60
 clear A60
 replace H:=Option.bind_eq_some_iff.mp H
 obtain ⟨t204,A70,H⟩:=H
 replace H:((card_Balance.f t197 t201).bind fun t205=>((numnahref01_Total.f k t197).bind fun t206=>(if t206 = true then ((numnahref01_Vars.f k t197).bind fun t208=>((numnahref01_Weights.f k t198 t208).bind fun t209=>(if t209 = true then ((numnahref01_Realize.f k t197 t198).bind fun t210=>(if t210 = true then (numnahlaw01_CardRealizes.j0 k t197 t201 t204 t205 0 0) else (numnahlaw01_CardRealizes.j0 k t197 t201 t204 t205 10 0))) else (numnahlaw01_CardRealizes.j0 k t197 t201 t204 t205 2 0)))) else (if t204 = 2 then (if t205 = 2 then ((numnahlaw01_awake.f).bind fun t207=>(some t207)) else (some false)) else (some false))))) = some r:=H
 have A7:=Aside0.mk A70
 clear A70
 replace H:=Option.bind_eq_some_iff.mp H
 obtain ⟨t205,A80,H⟩:=H
 replace H:((numnahref01_Total.f k t197).bind fun t206=>(if t206 = true then ((numnahref01_Vars.f k t197).bind fun t208=>((numnahref01_Weights.f k t198 t208).bind fun t209=>(if t209 = true then ((numnahref01_Realize.f k t197 t198).bind fun t210=>(if t210 = true then (numnahlaw01_CardRealizes.j0 k t197 t201 t204 t205 0 0) else (numnahlaw01_CardRealizes.j0 k t197 t201 t204 t205 10 0))) else (numnahlaw01_CardRealizes.j0 k t197 t201 t204 t205 2 0)))) else (if t204 = 2 then (if t205 = 2 then ((numnahlaw01_awake.f).bind fun t207=>(some t207)) else (some false)) else (some false)))) = some r:=H
 have A8:=Aside0.mk A80
 clear A80
 replace H:=Option.bind_eq_some_iff.mp H
 obtain ⟨t206,A90,H⟩:=H
 replace H:(if t206 = true then ((numnahref01_Vars.f k t197).bind fun t208=>((numnahref01_Weights.f k t198 t208).bind fun t209=>(if t209 = true then ((numnahref01_Realize.f k t197 t198).bind fun t210=>(if t210 = true then (numnahlaw01_CardRealizes.j0 k t197 t201 t204 t205 0 0) else (numnahlaw01_CardRealizes.j0 k t197 t201 t204 t205 10 0))) else (numnahlaw01_CardRealizes.j0 k t197 t201 t204 t205 2 0)))) else (if t204 = 2 then (if t205 = 2 then ((numnahlaw01_awake.f).bind fun t207=>(some t207)) else (some false)) else (some false))) = some r:=H
 have A9:=Aside0.mk A90
 clear A90
 by_cases c10:t206 = true
 case neg =>
  replace c10:=Bool.eq_false_iff.mpr c10
  subst c10
  have H1:(if t204 = 2 then (if t205 = 2 then ((numnahlaw01_awake.f).bind fun t207=>(some t207)) else (some false)) else (some false)) = some r:=by rw [if_neg (show ¬ (false = true) by decide)] at H;exact H
  clear H
  have H:=H1
  clear H1
  by_cases c40:t204 = 2
  case neg =>
   rw [if_neg c40] at H
   have c40b0:(t204 == 2) = false:=beq_eq_false_iff_ne.mpr c40
   have c40b1:(t204 != 2) = true:=bne_iff_ne.mpr c40
   obtain rfl:=Option.some.inj H
   go_enter Try.func3,Try.ntmps3
   go_wp2_with (first | ((with_reducible refine gate_callee (f:=16) rfl ?_);refine goesL_ (some 15) rfl rfl Try.func16 (by kernel_rfl) rfl #[.string a0] rfl (by (try simp only [List.map_toArray,List.map_cons,List.map_nil]);first | done | rfl | (simp only [List.length_drop,List.length_take];rfl)) ?_;(with_reducible refine (numnahlaw01_short.calls a0 t197 _ A4.out).mono ?_);rintro e w58 ⟨rfl,hb⟩;refine ⟨_,rfl,?_⟩;have n0_:=Aside0.mk (below_step (by repeat (first | (with_reducible first | exact HB.out | apply below_alloc | apply pw_below_drewN | apply below_drew1) | exact HB.out)) hb);clear HB;have HB:=n0_;clear n0_;(try clear hb)) | ((with_reducible refine gate_callee (f:=17) rfl ?_);refine goesL_ (some 17) rfl rfl Try.func17 (by kernel_rfl) rfl #[.slice A1 l1.length c1] rfl (by (try simp only [List.map_toArray,List.map_cons,List.map_nil]);first | done | rfl | (simp only [List.length_drop,List.length_take];rfl)) ?_;(with_reducible refine (numnahlaw01_list.calls _ _ l1 t198 _ ?side1 ?side2 A5.out).mono ?_);(case side1=>repeat (first | exact (Kd.C_below HR1.out HB.out) | (with_reducible refine Kd.C_alloc ?_ _) | (with_reducible refine Kd.C_drewN ?_ _) | (with_reducible refine Kd.C_drew ?_)));(case side2=>exact HC1.out);rintro e w59 ⟨v199,rfl,ho0,hb⟩;refine ⟨_,rfl,?_⟩;have n0_:=Aside0.mk (Kd.R_lower ho0 (below_size (by repeat (first | (with_reducible first | exact HB.out | apply below_alloc | apply pw_below_drewN | apply below_drew1) | exact HB.out))));have n1_:=Aside0.mk (below_step (by repeat (first | (with_reducible first | exact HB.out | apply below_alloc | apply pw_below_drewN | apply below_drew1) | exact HB.out)) hb);clear HB;have HO200:=n0_;have HB:=n1_;clear n0_ n1_;(try clear hb);(try clear ho0)) | ((with_reducible refine gate_callee (f:=18) rfl ?_);refine goesL_ (some 19) rfl rfl Try.func18 (by kernel_rfl) rfl #[.slice A2 l2.length c2] rfl (by (try simp only [List.map_toArray,List.map_cons,List.map_nil]);first | done | rfl | (simp only [List.length_drop,List.length_take];rfl)) ?_;(with_reducible refine (numnahlaw01_lists.calls k _ _ l2 t201 _ ?side1 ?side2 A6.out).mono ?_);(case side1=>repeat (first | exact (Kd.C_below HR2.out HB.out) | (with_reducible refine Kd.C_alloc ?_ _) | (with_reducible refine Kd.C_drewN ?_ _) | (with_reducible refine Kd.C_drew ?_)));(case side2=>exact HC2.out);rintro e w60 ⟨v202,rfl,ho0,hb⟩;refine ⟨_,rfl,?_⟩;have n0_:=Aside0.mk (Kd.R_below (by (with_reducible repeat (first | apply Kd.R_alloc | apply Kd.R_drewN | apply Kd.R_drew));exact HO200.out) hb);have n1_:=Aside0.mk (Kd.S_lower (Kd.S_new' ho0 (Kd.R_lt (by (with_reducible repeat (first | apply Kd.R_alloc | apply Kd.R_drewN | apply Kd.R_drew));exact HO200.out))) (below_size (by repeat (first | (with_reducible first | exact HB.out | apply below_alloc | apply pw_below_drewN | apply below_drew1) | exact HB.out))));have n2_:=Aside0.mk (below_step (by repeat (first | (with_reducible first | exact HB.out | apply below_alloc | apply pw_below_drewN | apply below_drew1) | exact HB.out)) hb);clear HO200;clear HB;have HO200:=n0_;have HO203:=n1_;have HB:=n2_;clear n0_ n1_ n2_;(try clear hb);(try clear ho0);obtain ⟨Ao61,co61,eo61⟩:=Kd.R_slice HO200.out;subst eo61) | ((with_reducible refine gate_callee (f:=19) rfl ?_);refine goesL_ (some 22) rfl rfl Try.func19 (by kernel_rfl) rfl #[.string t197,.slice Ao61 t198.length co61] rfl (by (try simp only [List.map_toArray,List.map_cons,List.map_nil]);first | done | rfl | (simp only [List.length_drop,List.length_take];rfl)) ?_;(with_reducible refine (card_Realize.calls t197 _ _ t198 t204 _ ?side1 ?side2 A7.out).mono ?_);(case side1=>repeat (first | exact (Kd.R_reads' HO200.out).2.2 | (with_reducible refine Kd.C_alloc ?_ _) | (with_reducible refine Kd.C_drewN ?_ _) | (with_reducible refine Kd.C_drew ?_)));(case side2=>exact (Kd.R_reads' HO200.out).2.1);rintro e w62 ⟨rfl,hb⟩;refine ⟨_,rfl,?_⟩;have n0_:=Aside0.mk (Kd.R_below (by (with_reducible repeat (first | apply Kd.R_alloc | apply Kd.R_drewN | apply Kd.R_drew));exact HO200.out) hb);have n1_:=Aside0.mk (Kd.S_below (by (with_reducible repeat (first | apply Kd.S_alloc | apply Kd.S_drewN | apply Kd.S_drew));exact HO203.out) hb);have n2_:=Aside0.mk (below_step (by repeat (first | (with_reducible first | exact HB.out | apply below_alloc | apply pw_below_drewN | apply below_drew1) | exact HB.out)) hb);clear HO200;clear HO203;clear HB;have HO200:=n0_;have HO203:=n1_;have HB:=n2_;clear n0_ n1_ n2_;(try clear hb);obtain ⟨Ao63,co63,eo63⟩:=Kd.S_slice HO203.out;subst eo63) | ((with_reducible refine gate_callee (f:=20) rfl ?_);refine goesL_ (some 25) rfl rfl Try.func20 (by kernel_rfl) rfl #[.string t197,.slice Ao63 t201.length co63] rfl (by (try simp only [List.map_toArray,List.map_cons,List.map_nil]);first | done | rfl | (simp only [List.length_drop,List.length_take];rfl)) ?_;(with_reducible refine (card_Balance.calls t197 _ _ t201 t205 _ ?side1 ?side2 A8.out).mono ?_);(case side1=>repeat (first | exact (Kd.S_reads' HO203.out).2.2 | (with_reducible refine Kd.C_alloc ?_ _) | (with_reducible refine Kd.C_drewN ?_ _) | (with_reducible refine Kd.C_drew ?_)));(case side2=>exact (Kd.S_reads' HO203.out).2.1);rintro e w64 ⟨rfl,hb⟩;refine ⟨_,rfl,?_⟩;have n0_:=Aside0.mk (Kd.R_below (by (with_reducible repeat (first | apply Kd.R_alloc | apply Kd.R_drewN | apply Kd.R_drew));exact HO200.out) hb);have n1_:=Aside0.mk (Kd.S_below (by (with_reducible repeat (first | apply Kd.S_alloc | apply Kd.S_drewN | apply Kd.S_drew));exact HO203.out) hb);have n2_:=Aside0.mk (below_step (by repeat (first | (with_reducible first | exact HB.out | apply below_alloc | apply pw_below_drewN | apply below_drew1) | exact HB.out)) hb);clear HO200;clear HO203;clear HB;have HO200:=n0_;have HO203:=n1_;have HB:=n2_;clear n0_ n1_ n2_;(try clear hb)) | ((with_reducible refine gate_callee (f:=21) rfl ?_);refine goesL_ (some 27) rfl rfl Try.func21 (by kernel_rfl) rfl #[.string t197] rfl (by (try simp only [List.map_toArray,List.map_cons,List.map_nil]);first | done | rfl | (simp only [List.length_drop,List.length_take];rfl)) ?_;(with_reducible refine (numnahref01_Total.calls k t197 false _ A9.out).mono ?_);rintro e w' ⟨rfl,⟨nd,rfl⟩⟩;refine ⟨_,rfl,?_⟩))
   go_ret
   exact ⟨by first | rfl | (simp [errW_none,errW_some] <;> rfl) | (simp [*,errW_none,errW_some] <;> rfl),by repeat (first | (with_reducible first | exact HB.out | apply below_alloc | apply pw_below_drewN | apply below_drew1) | exact HB.out)⟩
  rw [if_pos c40] at H
  have c40b0:(t204 == 2) = true:=beq_iff_eq.mpr c40
  have c40b1:(t204 != 2) = false:=bne_eq_false_iff_eq.mpr c40
  clear c40
  by_cases c41:t205 = 2
  case neg =>
   rw [if_neg c41] at H
   have c41b0:(t205 == 2) = false:=beq_eq_false_iff_ne.mpr c41
   have c41b1:(t205 != 2) = true:=bne_iff_ne.mpr c41
   obtain rfl:=Option.some.inj H
   go_enter Try.func3,Try.ntmps3
   go_wp2_with (first | ((with_reducible refine gate_callee (f:=16) rfl ?_);refine goesL_ (some 15) rfl rfl Try.func16 (by kernel_rfl) rfl #[.string a0] rfl (by (try simp only [List.map_toArray,List.map_cons,List.map_nil]);first | done | rfl | (simp only [List.length_drop,List.length_take];rfl)) ?_;(with_reducible refine (numnahlaw01_short.calls a0 t197 _ A4.out).mono ?_);rintro e w51 ⟨rfl,hb⟩;refine ⟨_,rfl,?_⟩;have n0_:=Aside0.mk (below_step (by repeat (first | (with_reducible first | exact HB.out | apply below_alloc | apply pw_below_drewN | apply below_drew1) | exact HB.out)) hb);clear HB;have HB:=n0_;clear n0_;(try clear hb)) | ((with_reducible refine gate_callee (f:=17) rfl ?_);refine goesL_ (some 17) rfl rfl Try.func17 (by kernel_rfl) rfl #[.slice A1 l1.length c1] rfl (by (try simp only [List.map_toArray,List.map_cons,List.map_nil]);first | done | rfl | (simp only [List.length_drop,List.length_take];rfl)) ?_;(with_reducible refine (numnahlaw01_list.calls _ _ l1 t198 _ ?side1 ?side2 A5.out).mono ?_);(case side1=>repeat (first | exact (Kd.C_below HR1.out HB.out) | (with_reducible refine Kd.C_alloc ?_ _) | (with_reducible refine Kd.C_drewN ?_ _) | (with_reducible refine Kd.C_drew ?_)));(case side2=>exact HC1.out);rintro e w52 ⟨v199,rfl,ho0,hb⟩;refine ⟨_,rfl,?_⟩;have n0_:=Aside0.mk (Kd.R_lower ho0 (below_size (by repeat (first | (with_reducible first | exact HB.out | apply below_alloc | apply pw_below_drewN | apply below_drew1) | exact HB.out))));have n1_:=Aside0.mk (below_step (by repeat (first | (with_reducible first | exact HB.out | apply below_alloc | apply pw_below_drewN | apply below_drew1) | exact HB.out)) hb);clear HB;have HO200:=n0_;have HB:=n1_;clear n0_ n1_;(try clear hb);(try clear ho0)) | ((with_reducible refine gate_callee (f:=18) rfl ?_);refine goesL_ (some 19) rfl rfl Try.func18 (by kernel_rfl) rfl #[.slice A2 l2.length c2] rfl (by (try simp only [List.map_toArray,List.map_cons,List.map_nil]);first | done | rfl | (simp only [List.length_drop,List.length_take];rfl)) ?_;(with_reducible refine (numnahlaw01_lists.calls k _ _ l2 t201 _ ?side1 ?side2 A6.out).mono ?_);(case side1=>repeat (first | exact (Kd.C_below HR2.out HB.out) | (with_reducible refine Kd.C_alloc ?_ _) | (with_reducible refine Kd.C_drewN ?_ _) | (with_reducible refine Kd.C_drew ?_)));(case side2=>exact HC2.out);rintro e w53 ⟨v202,rfl,ho0,hb⟩;refine ⟨_,rfl,?_⟩;have n0_:=Aside0.mk (Kd.R_below (by (with_reducible repeat (first | apply Kd.R_alloc | apply Kd.R_drewN | apply Kd.R_drew));exact HO200.out) hb);have n1_:=Aside0.mk (Kd.S_lower (Kd.S_new' ho0 (Kd.R_lt (by (with_reducible repeat (first | apply Kd.R_alloc | apply Kd.R_drewN | apply Kd.R_drew));exact HO200.out))) (below_size (by repeat (first | (with_reducible first | exact HB.out | apply below_alloc | apply pw_below_drewN | apply below_drew1) | exact HB.out))));have n2_:=Aside0.mk (below_step (by repeat (first | (with_reducible first | exact HB.out | apply below_alloc | apply pw_below_drewN | apply below_drew1) | exact HB.out)) hb);clear HO200;clear HB;have HO200:=n0_;have HO203:=n1_;have HB:=n2_;clear n0_ n1_ n2_;(try clear hb);(try clear ho0);obtain ⟨Ao54,co54,eo54⟩:=Kd.R_slice HO200.out;subst eo54) | ((with_reducible refine gate_callee (f:=19) rfl ?_);refine goesL_ (some 22) rfl rfl Try.func19 (by kernel_rfl) rfl #[.string t197,.slice Ao54 t198.length co54] rfl (by (try simp only [List.map_toArray,List.map_cons,List.map_nil]);first | done | rfl | (simp only [List.length_drop,List.length_take];rfl)) ?_;(with_reducible refine (card_Realize.calls t197 _ _ t198 t204 _ ?side1 ?side2 A7.out).mono ?_);(case side1=>repeat (first | exact (Kd.R_reads' HO200.out).2.2 | (with_reducible refine Kd.C_alloc ?_ _) | (with_reducible refine Kd.C_drewN ?_ _) | (with_reducible refine Kd.C_drew ?_)));(case side2=>exact (Kd.R_reads' HO200.out).2.1);rintro e w55 ⟨rfl,hb⟩;refine ⟨_,rfl,?_⟩;have n0_:=Aside0.mk (Kd.R_below (by (with_reducible repeat (first | apply Kd.R_alloc | apply Kd.R_drewN | apply Kd.R_drew));exact HO200.out) hb);have n1_:=Aside0.mk (Kd.S_below (by (with_reducible repeat (first | apply Kd.S_alloc | apply Kd.S_drewN | apply Kd.S_drew));exact HO203.out) hb);have n2_:=Aside0.mk (below_step (by repeat (first | (with_reducible first | exact HB.out | apply below_alloc | apply pw_below_drewN | apply below_drew1) | exact HB.out)) hb);clear HO200;clear HO203;clear HB;have HO200:=n0_;have HO203:=n1_;have HB:=n2_;clear n0_ n1_ n2_;(try clear hb);obtain ⟨Ao56,co56,eo56⟩:=Kd.S_slice HO203.out;subst eo56) | ((with_reducible refine gate_callee (f:=20) rfl ?_);refine goesL_ (some 25) rfl rfl Try.func20 (by kernel_rfl) rfl #[.string t197,.slice Ao56 t201.length co56] rfl (by (try simp only [List.map_toArray,List.map_cons,List.map_nil]);first | done | rfl | (simp only [List.length_drop,List.length_take];rfl)) ?_;(with_reducible refine (card_Balance.calls t197 _ _ t201 t205 _ ?side1 ?side2 A8.out).mono ?_);(case side1=>repeat (first | exact (Kd.S_reads' HO203.out).2.2 | (with_reducible refine Kd.C_alloc ?_ _) | (with_reducible refine Kd.C_drewN ?_ _) | (with_reducible refine Kd.C_drew ?_)));(case side2=>exact (Kd.S_reads' HO203.out).2.1);rintro e w57 ⟨rfl,hb⟩;refine ⟨_,rfl,?_⟩;have n0_:=Aside0.mk (Kd.R_below (by (with_reducible repeat (first | apply Kd.R_alloc | apply Kd.R_drewN | apply Kd.R_drew));exact HO200.out) hb);have n1_:=Aside0.mk (Kd.S_below (by (with_reducible repeat (first | apply Kd.S_alloc | apply Kd.S_drewN | apply Kd.S_drew));exact HO203.out) hb);have n2_:=Aside0.mk (below_step (by repeat (first | (with_reducible first | exact HB.out | apply below_alloc | apply pw_below_drewN | apply below_drew1) | exact HB.out)) hb);clear HO200;clear HO203;clear HB;have HO200:=n0_;have HO203:=n1_;have HB:=n2_;clear n0_ n1_ n2_;(try clear hb)) | ((with_reducible refine gate_callee (f:=21) rfl ?_);refine goesL_ (some 27) rfl rfl Try.func21 (by kernel_rfl) rfl #[.string t197] rfl (by (try simp only [List.map_toArray,List.map_cons,List.map_nil]);first | done | rfl | (simp only [List.length_drop,List.length_take];rfl)) ?_;(with_reducible refine (numnahref01_Total.calls k t197 false _ A9.out).mono ?_);rintro e w' ⟨rfl,⟨nd,rfl⟩⟩;refine ⟨_,rfl,?_⟩))
   go_ret
   exact ⟨by first | rfl | (simp [errW_none,errW_some] <;> rfl) | (simp [*,errW_none,errW_some] <;> rfl),by repeat (first | (with_reducible first | exact HB.out | apply below_alloc | apply pw_below_drewN | apply below_drew1) | exact HB.out)⟩
  rw [if_pos c41] at H
  have c41b0:(t205 == 2) = true:=beq_iff_eq.mpr c41
  have c41b1:(t205 != 2) = false:=bne_eq_false_iff_eq.mpr c41
  clear c41
  replace H:=Option.bind_eq_some_iff.mp H
  obtain ⟨t207,A420,H⟩:=H
  replace H:(some t207) = some r:=H
  have A42:=Aside0.mk A420
  clear A420
  obtain rfl:=Option.some.inj H
  go_enter Try.func3,Try.ntmps3
  go_wp2_with (first | ((with_reducible refine gate_callee (f:=16) rfl ?_);refine goesL_ (some 15) rfl rfl Try.func16 (by kernel_rfl) rfl #[.string a0] rfl (by (try simp only [List.map_toArray,List.map_cons,List.map_nil]);first | done | rfl | (simp only [List.length_drop,List.length_take];rfl)) ?_;(with_reducible refine (numnahlaw01_short.calls a0 t197 _ A4.out).mono ?_);rintro e w43 ⟨rfl,hb⟩;refine ⟨_,rfl,?_⟩;have n0_:=Aside0.mk (below_step (by repeat (first | (with_reducible first | exact HB.out | apply below_alloc | apply pw_below_drewN | apply below_drew1) | exact HB.out)) hb);clear HB;have HB:=n0_;clear n0_;(try clear hb)) | ((with_reducible refine gate_callee (f:=17) rfl ?_);refine goesL_ (some 17) rfl rfl Try.func17 (by kernel_rfl) rfl #[.slice A1 l1.length c1] rfl (by (try simp only [List.map_toArray,List.map_cons,List.map_nil]);first | done | rfl | (simp only [List.length_drop,List.length_take];rfl)) ?_;(with_reducible refine (numnahlaw01_list.calls _ _ l1 t198 _ ?side1 ?side2 A5.out).mono ?_);(case side1=>repeat (first | exact (Kd.C_below HR1.out HB.out) | (with_reducible refine Kd.C_alloc ?_ _) | (with_reducible refine Kd.C_drewN ?_ _) | (with_reducible refine Kd.C_drew ?_)));(case side2=>exact HC1.out);rintro e w44 ⟨v199,rfl,ho0,hb⟩;refine ⟨_,rfl,?_⟩;have n0_:=Aside0.mk (Kd.R_lower ho0 (below_size (by repeat (first | (with_reducible first | exact HB.out | apply below_alloc | apply pw_below_drewN | apply below_drew1) | exact HB.out))));have n1_:=Aside0.mk (below_step (by repeat (first | (with_reducible first | exact HB.out | apply below_alloc | apply pw_below_drewN | apply below_drew1) | exact HB.out)) hb);clear HB;have HO200:=n0_;have HB:=n1_;clear n0_ n1_;(try clear hb);(try clear ho0)) | ((with_reducible refine gate_callee (f:=18) rfl ?_);refine goesL_ (some 19) rfl rfl Try.func18 (by kernel_rfl) rfl #[.slice A2 l2.length c2] rfl (by (try simp only [List.map_toArray,List.map_cons,List.map_nil]);first | done | rfl | (simp only [List.length_drop,List.length_take];rfl)) ?_;(with_reducible refine (numnahlaw01_lists.calls k _ _ l2 t201 _ ?side1 ?side2 A6.out).mono ?_);(case side1=>repeat (first | exact (Kd.C_below HR2.out HB.out) | (with_reducible refine Kd.C_alloc ?_ _) | (with_reducible refine Kd.C_drewN ?_ _) | (with_reducible refine Kd.C_drew ?_)));(case side2=>exact HC2.out);rintro e w45 ⟨v202,rfl,ho0,hb⟩;refine ⟨_,rfl,?_⟩;have n0_:=Aside0.mk (Kd.R_below (by (with_reducible repeat (first | apply Kd.R_alloc | apply Kd.R_drewN | apply Kd.R_drew));exact HO200.out) hb);have n1_:=Aside0.mk (Kd.S_lower (Kd.S_new' ho0 (Kd.R_lt (by (with_reducible repeat (first | apply Kd.R_alloc | apply Kd.R_drewN | apply Kd.R_drew));exact HO200.out))) (below_size (by repeat (first | (with_reducible first | exact HB.out | apply below_alloc | apply pw_below_drewN | apply below_drew1) | exact HB.out))));have n2_:=Aside0.mk (below_step (by repeat (first | (with_reducible first | exact HB.out | apply below_alloc | apply pw_below_drewN | apply below_drew1) | exact HB.out)) hb);clear HO200;clear HB;have HO200:=n0_;have HO203:=n1_;have HB:=n2_;clear n0_ n1_ n2_;(try clear hb);(try clear ho0);obtain ⟨Ao46,co46,eo46⟩:=Kd.R_slice HO200.out;subst eo46) | ((with_reducible refine gate_callee (f:=19) rfl ?_);refine goesL_ (some 22) rfl rfl Try.func19 (by kernel_rfl) rfl #[.string t197,.slice Ao46 t198.length co46] rfl (by (try simp only [List.map_toArray,List.map_cons,List.map_nil]);first | done | rfl | (simp only [List.length_drop,List.length_take];rfl)) ?_;(with_reducible refine (card_Realize.calls t197 _ _ t198 t204 _ ?side1 ?side2 A7.out).mono ?_);(case side1=>repeat (first | exact (Kd.R_reads' HO200.out).2.2 | (with_reducible refine Kd.C_alloc ?_ _) | (with_reducible refine Kd.C_drewN ?_ _) | (with_reducible refine Kd.C_drew ?_)));(case side2=>exact (Kd.R_reads' HO200.out).2.1);rintro e w47 ⟨rfl,hb⟩;refine ⟨_,rfl,?_⟩;have n0_:=Aside0.mk (Kd.R_below (by (with_reducible repeat (first | apply Kd.R_alloc | apply Kd.R_drewN | apply Kd.R_drew));exact HO200.out) hb);have n1_:=Aside0.mk (Kd.S_below (by (with_reducible repeat (first | apply Kd.S_alloc | apply Kd.S_drewN | apply Kd.S_drew));exact HO203.out) hb);have n2_:=Aside0.mk (below_step (by repeat (first | (with_reducible first | exact HB.out | apply below_alloc | apply pw_below_drewN | apply below_drew1) | exact HB.out)) hb);clear HO200;clear HO203;clear HB;have HO200:=n0_;have HO203:=n1_;have HB:=n2_;clear n0_ n1_ n2_;(try clear hb);obtain ⟨Ao48,co48,eo48⟩:=Kd.S_slice HO203.out;subst eo48) | ((with_reducible refine gate_callee (f:=20) rfl ?_);refine goesL_ (some 25) rfl rfl Try.func20 (by kernel_rfl) rfl #[.string t197,.slice Ao48 t201.length co48] rfl (by (try simp only [List.map_toArray,List.map_cons,List.map_nil]);first | done | rfl | (simp only [List.length_drop,List.length_take];rfl)) ?_;(with_reducible refine (card_Balance.calls t197 _ _ t201 t205 _ ?side1 ?side2 A8.out).mono ?_);(case side1=>repeat (first | exact (Kd.S_reads' HO203.out).2.2 | (with_reducible refine Kd.C_alloc ?_ _) | (with_reducible refine Kd.C_drewN ?_ _) | (with_reducible refine Kd.C_drew ?_)));(case side2=>exact (Kd.S_reads' HO203.out).2.1);rintro e w49 ⟨rfl,hb⟩;refine ⟨_,rfl,?_⟩;have n0_:=Aside0.mk (Kd.R_below (by (with_reducible repeat (first | apply Kd.R_alloc | apply Kd.R_drewN | apply Kd.R_drew));exact HO200.out) hb);have n1_:=Aside0.mk (Kd.S_below (by (with_reducible repeat (first | apply Kd.S_alloc | apply Kd.S_drewN | apply Kd.S_drew));exact HO203.out) hb);have n2_:=Aside0.mk (below_step (by repeat (first | (with_reducible first | exact HB.out | apply below_alloc | apply pw_below_drewN | apply below_drew1) | exact HB.out)) hb);clear HO200;clear HO203;clear HB;have HO200:=n0_;have HO203:=n1_;have HB:=n2_;clear n0_ n1_ n2_;(try clear hb)) | ((with_reducible refine gate_callee (f:=21) rfl ?_);refine goesL_ (some 27) rfl rfl Try.func21 (by kernel_rfl) rfl #[.string t197] rfl (by (try simp only [List.map_toArray,List.map_cons,List.map_nil]);first | done | rfl | (simp only [List.length_drop,List.length_take];rfl)) ?_;(with_reducible refine (numnahref01_Total.calls k t197 false _ A9.out).mono ?_);rintro e w' ⟨rfl,⟨nd,rfl⟩⟩;refine ⟨_,rfl,?_⟩) | (go_at_call 22;(with_reducible refine (numnahlaw01_awake.calls  t207 _ A42.out).mono ?_);rintro e w50 ⟨rfl,hb⟩;have n0_:=Aside0.mk (Kd.R_below (by (with_reducible repeat (first | apply Kd.R_alloc | apply Kd.R_drewN | apply Kd.R_drew));exact HO200.out) hb);have n1_:=Aside0.mk (Kd.S_below (by (with_reducible repeat (first | apply Kd.S_alloc | apply Kd.S_drewN | apply Kd.S_drew));exact HO203.out) hb);have n2_:=Aside0.mk (below_step (by repeat (first | (with_reducible first | exact HB.out | apply below_alloc | apply pw_below_drewN | apply below_drew1) | exact HB.out)) hb);clear HO200;clear HO203;clear HB;have HO200:=n0_;have HO203:=n1_;have HB:=n2_;clear n0_ n1_ n2_;(try clear hb)))
  go_ret
  exact ⟨by first | rfl | (simp [errW_none,errW_some] <;> rfl) | (simp [*,errW_none,errW_some] <;> rfl),by repeat (first | (with_reducible first | exact HB.out | apply below_alloc | apply pw_below_drewN | apply below_drew1) | exact HB.out)⟩
 subst c10
 have H1:((numnahref01_Vars.f k t197).bind fun t208=>((numnahref01_Weights.f k t198 t208).bind fun t209=>(if t209 = true then ((numnahref01_Realize.f k t197 t198).bind fun t210=>(if t210 = true then (numnahlaw01_CardRealizes.j0 k t197 t201 t204 t205 0 0) else (numnahlaw01_CardRealizes.j0 k t197 t201 t204 t205 10 0))) else (numnahlaw01_CardRealizes.j0 k t197 t201 t204 t205 2 0)))) = some r:=by rw [if_pos rfl] at H;exact H
 clear H
 have H:=H1
 clear H1
 replace H:=Option.bind_eq_some_iff.mp H
 obtain ⟨t208,A110,H⟩:=H
 replace H:((numnahref01_Weights.f k t198 t208).bind fun t209=>(if t209 = true then ((numnahref01_Realize.f k t197 t198).bind fun t210=>(if t210 = true then (numnahlaw01_CardRealizes.j0 k t197 t201 t204 t205 0 0) else (numnahlaw01_CardRealizes.j0 k t197 t201 t204 t205 10 0))) else (numnahlaw01_CardRealizes.j0 k t197 t201 t204 t205 2 0))) = some r:=H
 have A11:=Aside0.mk A110
 clear A110
 replace H:=Option.bind_eq_some_iff.mp H
 obtain ⟨t209,A120,H⟩:=H
 replace H:(if t209 = true then ((numnahref01_Realize.f k t197 t198).bind fun t210=>(if t210 = true then (numnahlaw01_CardRealizes.j0 k t197 t201 t204 t205 0 0) else (numnahlaw01_CardRealizes.j0 k t197 t201 t204 t205 10 0))) else (numnahlaw01_CardRealizes.j0 k t197 t201 t204 t205 2 0)) = some r:=H
 have A12:=Aside0.mk A120
 clear A120
 have HC13:=Aside0.mk H
 clear H
 go_enter Try.func3,Try.ntmps3
 go_upto_if 42 with (first | ((with_reducible refine gate_callee (f:=16) rfl ?_);refine goesL_ (some 15) rfl rfl Try.func16 (by kernel_rfl) rfl #[.string a0] rfl (by (try simp only [List.map_toArray,List.map_cons,List.map_nil]);first | done | rfl | (simp only [List.length_drop,List.length_take];rfl)) ?_;(with_reducible refine (numnahlaw01_short.calls a0 t197 _ A4.out).mono ?_);rintro e w14 ⟨rfl,hb⟩;refine ⟨_,rfl,?_⟩;have n0_:=Aside0.mk (below_step (by repeat (first | (with_reducible first | exact HB.out | apply below_alloc | apply pw_below_drewN | apply below_drew1) | exact HB.out)) hb);clear HB;have HB:=n0_;clear n0_;(try clear hb)) | ((with_reducible refine gate_callee (f:=17) rfl ?_);refine goesL_ (some 17) rfl rfl Try.func17 (by kernel_rfl) rfl #[.slice A1 l1.length c1] rfl (by (try simp only [List.map_toArray,List.map_cons,List.map_nil]);first | done | rfl | (simp only [List.length_drop,List.length_take];rfl)) ?_;(with_reducible refine (numnahlaw01_list.calls _ _ l1 t198 _ ?side1 ?side2 A5.out).mono ?_);(case side1=>repeat (first | exact (Kd.C_below HR1.out HB.out) | (with_reducible refine Kd.C_alloc ?_ _) | (with_reducible refine Kd.C_drewN ?_ _) | (with_reducible refine Kd.C_drew ?_)));(case side2=>exact HC1.out);rintro e w15 ⟨v199,rfl,ho0,hb⟩;refine ⟨_,rfl,?_⟩;have n0_:=Aside0.mk (Kd.R_lower ho0 (below_size (by repeat (first | (with_reducible first | exact HB.out | apply below_alloc | apply pw_below_drewN | apply below_drew1) | exact HB.out))));have n1_:=Aside0.mk (below_step (by repeat (first | (with_reducible first | exact HB.out | apply below_alloc | apply pw_below_drewN | apply below_drew1) | exact HB.out)) hb);clear HB;have HO200:=n0_;have HB:=n1_;clear n0_ n1_;(try clear hb);(try clear ho0)) | ((with_reducible refine gate_callee (f:=18) rfl ?_);refine goesL_ (some 19) rfl rfl Try.func18 (by kernel_rfl) rfl #[.slice A2 l2.length c2] rfl (by (try simp only [List.map_toArray,List.map_cons,List.map_nil]);first | done | rfl | (simp only [List.length_drop,List.length_take];rfl)) ?_;(with_reducible refine (numnahlaw01_lists.calls k _ _ l2 t201 _ ?side1 ?side2 A6.out).mono ?_);(case side1=>repeat (first | exact (Kd.C_below HR2.out HB.out) | (with_reducible refine Kd.C_alloc ?_ _) | (with_reducible refine Kd.C_drewN ?_ _) | (with_reducible refine Kd.C_drew ?_)));(case side2=>exact HC2.out);rintro e w16 ⟨v202,rfl,ho0,hb⟩;refine ⟨_,rfl,?_⟩;have n0_:=Aside0.mk (Kd.R_below (by (with_reducible repeat (first | apply Kd.R_alloc | apply Kd.R_drewN | apply Kd.R_drew));exact HO200.out) hb);have n1_:=Aside0.mk (Kd.S_lower (Kd.S_new' ho0 (Kd.R_lt (by (with_reducible repeat (first | apply Kd.R_alloc | apply Kd.R_drewN | apply Kd.R_drew));exact HO200.out))) (below_size (by repeat (first | (with_reducible first | exact HB.out | apply below_alloc | apply pw_below_drewN | apply below_drew1) | exact HB.out))));have n2_:=Aside0.mk (below_step (by repeat (first | (with_reducible first | exact HB.out | apply below_alloc | apply pw_below_drewN | apply below_drew1) | exact HB.out)) hb);clear HO200;clear HB;have HO200:=n0_;have HO203:=n1_;have HB:=n2_;clear n0_ n1_ n2_;(try clear hb);(try clear ho0);obtain ⟨Ao17,co17,eo17⟩:=Kd.R_slice HO200.out;subst eo17) | ((with_reducible refine gate_callee (f:=19) rfl ?_);refine goesL_ (some 22) rfl rfl Try.func19 (by kernel_rfl) rfl #[.string t197,.slice Ao17 t198.length co17] rfl (by (try simp only [List.map_toArray,List.map_cons,List.map_nil]);first | done | rfl | (simp only [List.length_drop,List.length_take];rfl)) ?_;(with_reducible refine (card_Realize.calls t197 _ _ t198 t204 _ ?side1 ?side2 A7.out).mono ?_);(case side1=>repeat (first | exact (Kd.R_reads' HO200.out).2.2 | (with_reducible refine Kd.C_alloc ?_ _) | (with_reducible refine Kd.C_drewN ?_ _) | (with_reducible refine Kd.C_drew ?_)));(case side2=>exact (Kd.R_reads' HO200.out).2.1);rintro e w18 ⟨rfl,hb⟩;refine ⟨_,rfl,?_⟩;have n0_:=Aside0.mk (Kd.R_below (by (with_reducible repeat (first | apply Kd.R_alloc | apply Kd.R_drewN | apply Kd.R_drew));exact HO200.out) hb);have n1_:=Aside0.mk (Kd.S_below (by (with_reducible repeat (first | apply Kd.S_alloc | apply Kd.S_drewN | apply Kd.S_drew));exact HO203.out) hb);have n2_:=Aside0.mk (below_step (by repeat (first | (with_reducible first | exact HB.out | apply below_alloc | apply pw_below_drewN | apply below_drew1) | exact HB.out)) hb);clear HO200;clear HO203;clear HB;have HO200:=n0_;have HO203:=n1_;have HB:=n2_;clear n0_ n1_ n2_;(try clear hb);obtain ⟨Ao19,co19,eo19⟩:=Kd.S_slice HO203.out;subst eo19) | ((with_reducible refine gate_callee (f:=20) rfl ?_);refine goesL_ (some 25) rfl rfl Try.func20 (by kernel_rfl) rfl #[.string t197,.slice Ao19 t201.length co19] rfl (by (try simp only [List.map_toArray,List.map_cons,List.map_nil]);first | done | rfl | (simp only [List.length_drop,List.length_take];rfl)) ?_;(with_reducible refine (card_Balance.calls t197 _ _ t201 t205 _ ?side1 ?side2 A8.out).mono ?_);(case side1=>repeat (first | exact (Kd.S_reads' HO203.out).2.2 | (with_reducible refine Kd.C_alloc ?_ _) | (with_reducible refine Kd.C_drewN ?_ _) | (with_reducible refine Kd.C_drew ?_)));(case side2=>exact (Kd.S_reads' HO203.out).2.1);rintro e w20 ⟨rfl,hb⟩;refine ⟨_,rfl,?_⟩;have n0_:=Aside0.mk (Kd.R_below (by (with_reducible repeat (first | apply Kd.R_alloc | apply Kd.R_drewN | apply Kd.R_drew));exact HO200.out) hb);have n1_:=Aside0.mk (Kd.S_below (by (with_reducible repeat (first | apply Kd.S_alloc | apply Kd.S_drewN | apply Kd.S_drew));exact HO203.out) hb);have n2_:=Aside0.mk (below_step (by repeat (first | (with_reducible first | exact HB.out | apply below_alloc | apply pw_below_drewN | apply below_drew1) | exact HB.out)) hb);clear HO200;clear HO203;clear HB;have HO200:=n0_;have HO203:=n1_;have HB:=n2_;clear n0_ n1_ n2_;(try clear hb)) | ((with_reducible refine gate_callee (f:=21) rfl ?_);refine goesL_ (some 27) rfl rfl Try.func21 (by kernel_rfl) rfl #[.string t197] rfl (by (try simp only [List.map_toArray,List.map_cons,List.map_nil]);first | done | rfl | (simp only [List.length_drop,List.length_take];rfl)) ?_;(with_reducible refine (numnahref01_Total.calls k t197 true _ A9.out).mono ?_);rintro e w' ⟨rfl,⟨nd,rfl⟩⟩;refine ⟨_,rfl,?_⟩) | ((with_reducible refine gate_callee (f:=24) rfl ?_);refine goesL_ (some 40) rfl rfl Try.func24 (by kernel_rfl) rfl #[.string t197] rfl (by (try simp only [List.map_toArray,List.map_cons,List.map_nil]);first | done | rfl | (simp only [List.length_drop,List.length_take];rfl)) ?_;(with_reducible refine (numnahref01_Vars.calls k t197 t208 _ A11.out).mono ?_);rintro e w' ⟨rfl,⟨nd,rfl⟩⟩;refine ⟨_,rfl,?_⟩) | ((with_reducible refine gate_callee (f:=23) rfl ?_);refine goesL_ (some 41) rfl rfl Try.func23 (by kernel_rfl) rfl #[.slice Ao17 t198.length co17,.int .i64 t208] rfl (by (try simp only [List.map_toArray,List.map_cons,List.map_nil]);first | done | rfl | (simp only [List.length_drop,List.length_take];rfl)) ?_;(with_reducible refine (numnahref01_Weights.calls k _ _ t198 t208 t209 _ ?side1 ?side2 A12.out).mono ?_);(case side1=>repeat (first | exact (Kd.R_reads' HO200.out).2.2 | (with_reducible refine Kd.C_alloc ?_ _) | (with_reducible refine Kd.C_drewN ?_ _) | (with_reducible refine Kd.C_drew ?_)));(case side2=>exact (Kd.R_reads' HO200.out).2.1);rintro e w' ⟨rfl,⟨nd,rfl⟩⟩;refine ⟨_,rfl,?_⟩))
 (try simp only [Act.put,List.setIfInBounds_toArray,List.set_cons_zero,List.set_cons_succ])
 go_cut [12] (fun v12 wc=>∃ (kq:Nat) (x12_12:Int),v12 = .int .i64 x12_12 ∧ Aside0 (numnahlaw01_CardRealizes.j0 kq t197 t201 t204 t205 x12_12 0 = some r) ∧ Aside0 (kq ≤ k) ∧ Aside0 (Kd.S (Kd.slice 3 (Kd.int .i64)) 22 wc w.heap.size (fun _=>True) (.slice Ao19 t201.length co19) t201) ∧ Aside0 (Below w.heap.size w wc))
 case first =>
  have H:=HC13.out
  clear HC13
  by_cases c21:t209 = true
  case neg =>
   replace c21:=Bool.eq_false_iff.mpr c21
   subst c21
   have H1:(numnahlaw01_CardRealizes.j0 k t197 t201 t204 t205 2 0) = some r:=by rw [if_neg (show ¬ (false = true) by decide)] at H;exact H
   clear H
   have H:=H1
   clear H1
   have H':=Aside0.mk H
   clear H
   go_wp2
   go_meet
   case rel=>exact ⟨_,(2),(by first | rfl | (simp;done) | (simp [*];done)),H',⟨by first | omega | exact Nat.le_refl _⟩,⟨by (with_reducible repeat (first | apply Kd.S_alloc | apply Kd.S_drewN | apply Kd.S_drew));exact Kd.S_mono HO203.out (fun _ hk=>trivial)⟩,⟨by repeat (first | (with_reducible first | exact HB.out | apply below_alloc | apply pw_below_drewN | apply below_drew1) | exact HB.out)⟩⟩
  subst c21
  have H1:((numnahref01_Realize.f k t197 t198).bind fun t210=>(if t210 = true then (numnahlaw01_CardRealizes.j0 k t197 t201 t204 t205 0 0) else (numnahlaw01_CardRealizes.j0 k t197 t201 t204 t205 10 0))) = some r:=by rw [if_pos rfl] at H;exact H
  clear H
  have H:=H1
  clear H1
  replace H:=Option.bind_eq_some_iff.mp H
  obtain ⟨t210,A220,H⟩:=H
  replace H:(if t210 = true then (numnahlaw01_CardRealizes.j0 k t197 t201 t204 t205 0 0) else (numnahlaw01_CardRealizes.j0 k t197 t201 t204 t205 10 0)) = some r:=H
  have A22:=Aside0.mk A220
  clear A220
  by_cases c23:t210 = true
  ·subst c23
   have H1:(numnahlaw01_CardRealizes.j0 k t197 t201 t204 t205 0 0) = some r:=by rw [if_pos rfl] at H;exact H
   clear H
   have H:=H1
   clear H1
   have H':=Aside0.mk H
   clear H
   go_wp2_with (first | ((with_reducible refine gate_callee (f:=25) rfl ?_);refine goesL_ (some 45) rfl rfl Try.func25 (by kernel_rfl) rfl #[.string t197,.slice Ao17 t198.length co17] rfl (by (try simp only [List.map_toArray,List.map_cons,List.map_nil]);first | done | rfl | (simp only [List.length_drop,List.length_take];rfl)) ?_;(with_reducible refine (numnahref01_Realize.calls k t197 _ _ t198 true _ ?side1 ?side2 A22.out).mono ?_);(case side1=>repeat (first | exact (Kd.R_reads' HO200.out).2.2 | (with_reducible refine Kd.C_alloc ?_ _) | (with_reducible refine Kd.C_drewN ?_ _) | (with_reducible refine Kd.C_drew ?_)));(case side2=>exact (Kd.R_reads' HO200.out).2.1);rintro e w' ⟨rfl,⟨nd,rfl⟩⟩;refine ⟨_,rfl,?_⟩))
   go_meet
   case rel=>exact ⟨_,(0),(by first | rfl | (simp;done) | (simp [*];done)),H',⟨by first | omega | exact Nat.le_refl _⟩,⟨by (with_reducible repeat (first | apply Kd.S_alloc | apply Kd.S_drewN | apply Kd.S_drew));exact Kd.S_mono HO203.out (fun _ hk=>trivial)⟩,⟨by repeat (first | (with_reducible first | exact HB.out | apply below_alloc | apply pw_below_drewN | apply below_drew1) | exact HB.out)⟩⟩
  replace c23:=Bool.eq_false_iff.mpr c23
  subst c23
  have H1:(numnahlaw01_CardRealizes.j0 k t197 t201 t204 t205 10 0) = some r:=by rw [if_neg (show ¬ (false = true) by decide)] at H;exact H
  clear H
  have H:=H1
  clear H1
  have H':=Aside0.mk H
  clear H
  go_wp2_with (first | ((with_reducible refine gate_callee (f:=25) rfl ?_);refine goesL_ (some 45) rfl rfl Try.func25 (by kernel_rfl) rfl #[.string t197,.slice Ao17 t198.length co17] rfl (by (try simp only [List.map_toArray,List.map_cons,List.map_nil]);first | done | rfl | (simp only [List.length_drop,List.length_take];rfl)) ?_;(with_reducible refine (numnahref01_Realize.calls k t197 _ _ t198 false _ ?side1 ?side2 A22.out).mono ?_);(case side1=>repeat (first | exact (Kd.R_reads' HO200.out).2.2 | (with_reducible refine Kd.C_alloc ?_ _) | (with_reducible refine Kd.C_drewN ?_ _) | (with_reducible refine Kd.C_drew ?_)));(case side2=>exact (Kd.R_reads' HO200.out).2.1);rintro e w' ⟨rfl,⟨nd,rfl⟩⟩;refine ⟨_,rfl,?_⟩))
  go_meet
  case rel=>exact ⟨_,(10),(by first | rfl | (simp;done) | (simp [*];done)),H',⟨by first | omega | exact Nat.le_refl _⟩,⟨by (with_reducible repeat (first | apply Kd.S_alloc | apply Kd.S_drewN | apply Kd.S_drew));exact Kd.S_mono HO203.out (fun _ hk=>trivial)⟩,⟨by repeat (first | (with_reducible first | exact HB.out | apply below_alloc | apply pw_below_drewN | apply below_drew1) | exact HB.out)⟩⟩
 case rest =>
  clear HC13
  try clear c1
  try clear c2
  try clear p2
  try clear c3
  try clear c10
  try clear c16
  try clear c17
  try clear c18
  try clear c19
  try clear c20
  try clear c21
  try clear c23
  obtain ⟨kq,x12_12,rfl,HA,HJ12,HO_9,HB⟩:=hcut
  cases kq with
  | zero=>exact absurd HA.out (by simp [numnahlaw01_CardRealizes.j0])
  | succ kj12 =>
   have H:=HA.out
   clear HA
   simp only [numnahlaw01_CardRealizes.j0] at H
   replace H:=Option.bind_eq_some_iff.mp H
   obtain ⟨t211,A240,H⟩:=H
   replace H:(if t211 = true then (if t204 = x12_12 then (if t205 = 0 then ((numnahlaw01_awake.f).bind fun t212=>(some t212)) else (some false)) else (some false)) else (if t204 = x12_12 then (if t205 = 10 then ((numnahlaw01_awake.f).bind fun t213=>(some t213)) else (some false)) else (some false))) = some r:=H
   have A24:=Aside0.mk A240
   clear A240
   by_cases c25:t211 = true
   ·subst c25
    have H1:(if t204 = x12_12 then (if t205 = 0 then ((numnahlaw01_awake.f).bind fun t212=>(some t212)) else (some false)) else (some false)) = some r:=by rw [if_pos rfl] at H;exact H
    clear H
    have H:=H1
    clear H1
    by_cases c26:t204 = x12_12
    case neg =>
     rw [if_neg c26] at H
     have c26b0:(t204 == x12_12) = false:=beq_eq_false_iff_ne.mpr c26
     have c26b1:(t204 != x12_12) = true:=bne_iff_ne.mpr c26
     obtain rfl:=Option.some.inj H
     go_wp2_with (first | ((with_reducible refine gate_callee (f:=26) rfl ?_);refine goesL_ (some 49) rfl rfl Try.func26 (by kernel_rfl) rfl #[.string t197,.slice Ao19 t201.length co19] rfl (by (try simp only [List.map_toArray,List.map_cons,List.map_nil]);first | done | rfl | (simp only [List.length_drop,List.length_take];rfl)) ?_;(with_reducible refine (numnahref01_Balance.calls kj12 t197 _ _ t201 true _ ?side1 ?side2 A24.out).mono ?_);(case side1=>repeat (first | exact (Kd.S_reads' HO_9.out).2.2 | (with_reducible refine Kd.C_alloc ?_ _) | (with_reducible refine Kd.C_drewN ?_ _) | (with_reducible refine Kd.C_drew ?_)));(case side2=>exact (Kd.S_reads' HO_9.out).2.1);rintro e w32 ⟨rfl,hb⟩;refine ⟨_,rfl,?_⟩;have n0_:=Aside0.mk (Kd.S_below (by (with_reducible repeat (first | apply Kd.S_alloc | apply Kd.S_drewN | apply Kd.S_drew));exact HO_9.out) hb);have n1_:=Aside0.mk (below_step (by repeat (first | (with_reducible first | exact HB.out | apply below_alloc | apply pw_below_drewN | apply below_drew1) | exact HB.out)) hb);clear HO_9;clear HB;have HO_9:=n0_;have HB:=n1_;clear n0_ n1_;(try clear hb)))
     go_ret
     exact ⟨by first | rfl | (simp [errW_none,errW_some] <;> rfl) | (simp [*,errW_none,errW_some] <;> rfl),by repeat (first | (with_reducible first | exact HB.out | apply below_alloc | apply pw_below_drewN | apply below_drew1) | exact HB.out)⟩
    rw [if_pos c26] at H
    have c26b0:(t204 == x12_12) = true:=beq_iff_eq.mpr c26
    have c26b1:(t204 != x12_12) = false:=bne_eq_false_iff_eq.mpr c26
    clear c26
    by_cases c27:t205 = 0
    case neg =>
     rw [if_neg c27] at H
     have c27b0:(t205 == 0) = false:=beq_eq_false_iff_ne.mpr c27
     have c27b1:(t205 != 0) = true:=bne_iff_ne.mpr c27
     obtain rfl:=Option.some.inj H
     go_wp2_with (first | ((with_reducible refine gate_callee (f:=26) rfl ?_);refine goesL_ (some 49) rfl rfl Try.func26 (by kernel_rfl) rfl #[.string t197,.slice Ao19 t201.length co19] rfl (by (try simp only [List.map_toArray,List.map_cons,List.map_nil]);first | done | rfl | (simp only [List.length_drop,List.length_take];rfl)) ?_;(with_reducible refine (numnahref01_Balance.calls kj12 t197 _ _ t201 true _ ?side1 ?side2 A24.out).mono ?_);(case side1=>repeat (first | exact (Kd.S_reads' HO_9.out).2.2 | (with_reducible refine Kd.C_alloc ?_ _) | (with_reducible refine Kd.C_drewN ?_ _) | (with_reducible refine Kd.C_drew ?_)));(case side2=>exact (Kd.S_reads' HO_9.out).2.1);rintro e w31 ⟨rfl,hb⟩;refine ⟨_,rfl,?_⟩;have n0_:=Aside0.mk (Kd.S_below (by (with_reducible repeat (first | apply Kd.S_alloc | apply Kd.S_drewN | apply Kd.S_drew));exact HO_9.out) hb);have n1_:=Aside0.mk (below_step (by repeat (first | (with_reducible first | exact HB.out | apply below_alloc | apply pw_below_drewN | apply below_drew1) | exact HB.out)) hb);clear HO_9;clear HB;have HO_9:=n0_;have HB:=n1_;clear n0_ n1_;(try clear hb)))
     go_ret
     exact ⟨by first | rfl | (simp [errW_none,errW_some] <;> rfl) | (simp [*,errW_none,errW_some] <;> rfl),by repeat (first | (with_reducible first | exact HB.out | apply below_alloc | apply pw_below_drewN | apply below_drew1) | exact HB.out)⟩
    rw [if_pos c27] at H
    have c27b0:(t205 == 0) = true:=beq_iff_eq.mpr c27
    have c27b1:(t205 != 0) = false:=bne_eq_false_iff_eq.mpr c27
    clear c27
    replace H:=Option.bind_eq_some_iff.mp H
    obtain ⟨t212,A280,H⟩:=H
    replace H:(some t212) = some r:=H
    have A28:=Aside0.mk A280
    clear A280
    obtain rfl:=Option.some.inj H
    go_wp2_with (first | ((with_reducible refine gate_callee (f:=26) rfl ?_);refine goesL_ (some 49) rfl rfl Try.func26 (by kernel_rfl) rfl #[.string t197,.slice Ao19 t201.length co19] rfl (by (try simp only [List.map_toArray,List.map_cons,List.map_nil]);first | done | rfl | (simp only [List.length_drop,List.length_take];rfl)) ?_;(with_reducible refine (numnahref01_Balance.calls kj12 t197 _ _ t201 true _ ?side1 ?side2 A24.out).mono ?_);(case side1=>repeat (first | exact (Kd.S_reads' HO_9.out).2.2 | (with_reducible refine Kd.C_alloc ?_ _) | (with_reducible refine Kd.C_drewN ?_ _) | (with_reducible refine Kd.C_drew ?_)));(case side2=>exact (Kd.S_reads' HO_9.out).2.1);rintro e w29 ⟨rfl,hb⟩;refine ⟨_,rfl,?_⟩;have n0_:=Aside0.mk (Kd.S_below (by (with_reducible repeat (first | apply Kd.S_alloc | apply Kd.S_drewN | apply Kd.S_drew));exact HO_9.out) hb);have n1_:=Aside0.mk (below_step (by repeat (first | (with_reducible first | exact HB.out | apply below_alloc | apply pw_below_drewN | apply below_drew1) | exact HB.out)) hb);clear HO_9;clear HB;have HO_9:=n0_;have HB:=n1_;clear n0_ n1_;(try clear hb)) | (go_at_call 22;(with_reducible refine (numnahlaw01_awake.calls  t212 _ A28.out).mono ?_);rintro e w30 ⟨rfl,hb⟩;have n0_:=Aside0.mk (Kd.S_below (by (with_reducible repeat (first | apply Kd.S_alloc | apply Kd.S_drewN | apply Kd.S_drew));exact HO_9.out) hb);have n1_:=Aside0.mk (below_step (by repeat (first | (with_reducible first | exact HB.out | apply below_alloc | apply pw_below_drewN | apply below_drew1) | exact HB.out)) hb);clear HO_9;clear HB;have HO_9:=n0_;have HB:=n1_;clear n0_ n1_;(try clear hb)))
    go_ret
    exact ⟨by first | rfl | (simp [errW_none,errW_some] <;> rfl) | (simp [*,errW_none,errW_some] <;> rfl),by repeat (first | (with_reducible first | exact HB.out | apply below_alloc | apply pw_below_drewN | apply below_drew1) | exact HB.out)⟩
   replace c25:=Bool.eq_false_iff.mpr c25
   subst c25
   have H1:(if t204 = x12_12 then (if t205 = 10 then ((numnahlaw01_awake.f).bind fun t213=>(some t213)) else (some false)) else (some false)) = some r:=by rw [if_neg (show ¬ (false = true) by decide)] at H;exact H
   clear H
   have H:=H1
   clear H1
   by_cases c33:t204 = x12_12
   case neg =>
    rw [if_neg c33] at H
    have c33b0:(t204 == x12_12) = false:=beq_eq_false_iff_ne.mpr c33
    have c33b1:(t204 != x12_12) = true:=bne_iff_ne.mpr c33
    obtain rfl:=Option.some.inj H
    go_wp2_with (first | ((with_reducible refine gate_callee (f:=26) rfl ?_);refine goesL_ (some 49) rfl rfl Try.func26 (by kernel_rfl) rfl #[.string t197,.slice Ao19 t201.length co19] rfl (by (try simp only [List.map_toArray,List.map_cons,List.map_nil]);first | done | rfl | (simp only [List.length_drop,List.length_take];rfl)) ?_;(with_reducible refine (numnahref01_Balance.calls kj12 t197 _ _ t201 false _ ?side1 ?side2 A24.out).mono ?_);(case side1=>repeat (first | exact (Kd.S_reads' HO_9.out).2.2 | (with_reducible refine Kd.C_alloc ?_ _) | (with_reducible refine Kd.C_drewN ?_ _) | (with_reducible refine Kd.C_drew ?_)));(case side2=>exact (Kd.S_reads' HO_9.out).2.1);rintro e w39 ⟨rfl,hb⟩;refine ⟨_,rfl,?_⟩;have n0_:=Aside0.mk (Kd.S_below (by (with_reducible repeat (first | apply Kd.S_alloc | apply Kd.S_drewN | apply Kd.S_drew));exact HO_9.out) hb);have n1_:=Aside0.mk (below_step (by repeat (first | (with_reducible first | exact HB.out | apply below_alloc | apply pw_below_drewN | apply below_drew1) | exact HB.out)) hb);clear HO_9;clear HB;have HO_9:=n0_;have HB:=n1_;clear n0_ n1_;(try clear hb)))
    go_ret
    exact ⟨by first | rfl | (simp [errW_none,errW_some] <;> rfl) | (simp [*,errW_none,errW_some] <;> rfl),by repeat (first | (with_reducible first | exact HB.out | apply below_alloc | apply pw_below_drewN | apply below_drew1) | exact HB.out)⟩
   rw [if_pos c33] at H
   have c33b0:(t204 == x12_12) = true:=beq_iff_eq.mpr c33
   have c33b1:(t204 != x12_12) = false:=bne_eq_false_iff_eq.mpr c33
   clear c33
   by_cases c34:t205 = 10
   case neg =>
    rw [if_neg c34] at H
    have c34b0:(t205 == 10) = false:=beq_eq_false_iff_ne.mpr c34
    have c34b1:(t205 != 10) = true:=bne_iff_ne.mpr c34
    obtain rfl:=Option.some.inj H
    go_wp2_with (first | ((with_reducible refine gate_callee (f:=26) rfl ?_);refine goesL_ (some 49) rfl rfl Try.func26 (by kernel_rfl) rfl #[.string t197,.slice Ao19 t201.length co19] rfl (by (try simp only [List.map_toArray,List.map_cons,List.map_nil]);first | done | rfl | (simp only [List.length_drop,List.length_take];rfl)) ?_;(with_reducible refine (numnahref01_Balance.calls kj12 t197 _ _ t201 false _ ?side1 ?side2 A24.out).mono ?_);(case side1=>repeat (first | exact (Kd.S_reads' HO_9.out).2.2 | (with_reducible refine Kd.C_alloc ?_ _) | (with_reducible refine Kd.C_drewN ?_ _) | (with_reducible refine Kd.C_drew ?_)));(case side2=>exact (Kd.S_reads' HO_9.out).2.1);rintro e w38 ⟨rfl,hb⟩;refine ⟨_,rfl,?_⟩;have n0_:=Aside0.mk (Kd.S_below (by (with_reducible repeat (first | apply Kd.S_alloc | apply Kd.S_drewN | apply Kd.S_drew));exact HO_9.out) hb);have n1_:=Aside0.mk (below_step (by repeat (first | (with_reducible first | exact HB.out | apply below_alloc | apply pw_below_drewN | apply below_drew1) | exact HB.out)) hb);clear HO_9;clear HB;have HO_9:=n0_;have HB:=n1_;clear n0_ n1_;(try clear hb)))
    go_ret
    exact ⟨by first | rfl | (simp [errW_none,errW_some] <;> rfl) | (simp [*,errW_none,errW_some] <;> rfl),by repeat (first | (with_reducible first | exact HB.out | apply below_alloc | apply pw_below_drewN | apply below_drew1) | exact HB.out)⟩
   rw [if_pos c34] at H
   have c34b0:(t205 == 10) = true:=beq_iff_eq.mpr c34
   have c34b1:(t205 != 10) = false:=bne_eq_false_iff_eq.mpr c34
   clear c34
   replace H:=Option.bind_eq_some_iff.mp H
   obtain ⟨t213,A350,H⟩:=H
   replace H:(some t213) = some r:=H
   have A35:=Aside0.mk A350
   clear A350
   obtain rfl:=Option.some.inj H
   go_wp2_with (first | ((with_reducible refine gate_callee (f:=26) rfl ?_);refine goesL_ (some 49) rfl rfl Try.func26 (by kernel_rfl) rfl #[.string t197,.slice Ao19 t201.length co19] rfl (by (try simp only [List.map_toArray,List.map_cons,List.map_nil]);first | done | rfl | (simp only [List.length_drop,List.length_take];rfl)) ?_;(with_reducible refine (numnahref01_Balance.calls kj12 t197 _ _ t201 false _ ?side1 ?side2 A24.out).mono ?_);(case side1=>repeat (first | exact (Kd.S_reads' HO_9.out).2.2 | (with_reducible refine Kd.C_alloc ?_ _) | (with_reducible refine Kd.C_drewN ?_ _) | (with_reducible refine Kd.C_drew ?_)));(case side2=>exact (Kd.S_reads' HO_9.out).2.1);rintro e w36 ⟨rfl,hb⟩;refine ⟨_,rfl,?_⟩;have n0_:=Aside0.mk (Kd.S_below (by (with_reducible repeat (first | apply Kd.S_alloc | apply Kd.S_drewN | apply Kd.S_drew));exact HO_9.out) hb);have n1_:=Aside0.mk (below_step (by repeat (first | (with_reducible first | exact HB.out | apply below_alloc | apply pw_below_drewN | apply below_drew1) | exact HB.out)) hb);clear HO_9;clear HB;have HO_9:=n0_;have HB:=n1_;clear n0_ n1_;(try clear hb)) | (go_at_call 22;(with_reducible refine (numnahlaw01_awake.calls  t213 _ A35.out).mono ?_);rintro e w37 ⟨rfl,hb⟩;have n0_:=Aside0.mk (Kd.S_below (by (with_reducible repeat (first | apply Kd.S_alloc | apply Kd.S_drewN | apply Kd.S_drew));exact HO_9.out) hb);have n1_:=Aside0.mk (below_step (by repeat (first | (with_reducible first | exact HB.out | apply below_alloc | apply pw_below_drewN | apply below_drew1) | exact HB.out)) hb);clear HO_9;clear HB;have HO_9:=n0_;have HB:=n1_;clear n0_ n1_;(try clear hb)))
   go_ret
   exact ⟨by first | rfl | (simp [errW_none,errW_some] <;> rfl) | (simp [*,errW_none,errW_some] <;> rfl),by repeat (first | (with_reducible first | exact HB.out | apply below_alloc | apply pw_below_drewN | apply below_drew1) | exact HB.out)⟩
end Go.Proofs.Ythpahlkhiknofaa.G
set_option linter.unusedSectionVars false
namespace Go.Proofs.Ythpahlkhiknofaa.P
open Go Go.RowKit Go.Proofs.Ythpahlkhiknofaa.M Go.Proofs.Ythpahlkhiknofaa.G Go.Proofs.Ythpahlkhiknofaa.H
open Go.Proofs.YthpahlkhiknofaaW.PrintWords Go.Proofs.YthpahlkhiknofaaW.PrintMore
theorem lists_l0 (l:List (List Int)):∀ d i (x:List (List Int)),i + d = 3 → x.length = i → ∃ z:List (List Int),z.length ≤ 3 ∧ Ev (fun k=>numnahlaw01_lists.l0 k l x (i:Int)) z:=by
 intro d
 induction d with
 | zero =>
  intro i x hi hx
  refine ⟨x,by omega,Ev.step (f:=fun _=>some x) (fun k=>?_) (Ev.now _)⟩
  rw [numnahlaw01_lists.l0]
  by_cases h:(i:Int) < (l.length:Int)
  ·rw [if_pos h,if_neg (by omega)]
  ·rw [if_neg h]
 | succ d ih =>
  intro i x hi hx
  by_cases h:(i:Int) < (l.length:Int)
  ·obtain ⟨z,hz,e⟩:=ih (i + 1) (x ++ [(rd_L3 l (i:Int)).take 1001]) (by omega) (by simp [hx])
   refine ⟨z,hz,Ev.step (fun k=>?_) e⟩
   rw [numnahlaw01_lists.l0,if_pos h,if_pos (by omega),if_pos (by omega),list_f,Option.bind_some,if_pos (by omega),wrap_succ (by omega)]
  ·refine ⟨x,by omega,Ev.step (f:=fun _=>some x) (fun k=>?_) (Ev.now _)⟩
   rw [numnahlaw01_lists.l0,if_neg h]
theorem lists_ev (l:List (List Int)):∃ z:List (List Int),z.length ≤ 3 ∧ Ev (fun k=>numnahlaw01_lists.f k l) z:=lists_l0 l 3 0 [] (by omega) rfl
theorem fitL_of {α:Type} {l:List α} (h:l.length ≤ 100000):fitL l:=by unfold fitL;omega
theorem realize_f {c:ByteArray} (hc:c.size ≤ 40) {l:List Int} (hl:l.length ≤ 1001):card_Realize.f c l = some (if totB c = true then (if l.length = fnN c + 1 ∧ bad60 l = false then (if allF (okR c l (fnN c)) c.size 0 = true then 0 else 10) else 2) else 2):=by
 obtain ⟨m,hm,e⟩:=newT hc
 unfold card_Realize.f
 rw [e,Option.bind_some]
 by_cases h:totB c = true
 ·have hT:=tot_of hc h
  have:=hm h
  subst this
  have h5:=hT.n5
  rw [if_pos ⟨⟨rfl,by show c.size ≤ 1000;omega,fun _=>⟨by show (0:Int) ≤ (fnN c:Int);omega,by show (fnN c:Int) ≤ 5;omega⟩⟩,fitL_of (by omega)⟩,if_pos h]
  congr 1
  show rzV c l ((fnN c:Int)).toNat (totB c) = _
  rw [Int.toNat_natCast,h]
  unfold rzV
  by_cases hg:l.length = fnN c + 1 ∧ bad60 l = false
  ·have hs:=bad_sm hg.2
   have hp:=pad_rd (l:=l) (by omega)
   rw [if_pos ⟨rfl,hg⟩,if_pos hg,rzL_eq h5 hc (B:=1000000) (by decide) (by decide) (fun i hi=>by rw [hp i];exact hs i hi) c.size 0 (by omega)]
   have:allF (okR c (padL l) (fnN c)) c.size 0 = allF (okR c l (fnN c)) c.size 0:=allF_congr fun p _ _=>by
    unfold okR
    rw [wsum_congr hp,hp]
   rw [this]
  ·rw [if_neg (fun h=>hg h.2),if_neg hg]
 ·have h':totB c = false:=by simpa using h
  rw [if_pos ⟨⟨rfl,by show c.size ≤ 1000;omega,fun h2=>absurd h2 h⟩,fitL_of (by omega)⟩,if_neg h]
  congr 1
  show rzV c l m.toNat (totB c) = 2
  rw [h']
  unfold rzV
  rw [if_neg (fun h=>by cases h.1)]
theorem balance_f {c:ByteArray} (hc:c.size ≤ 40) {ls:List (List Int)} (hl:ls.length ≤ 3):card_Balance.f c ls = some (if totB c = true then (if isBal c (fnN c) ls = true then 0 else 10) else 2):=by
 obtain ⟨m,hm,e⟩:=newT hc
 unfold card_Balance.f
 rw [e,Option.bind_some]
 by_cases h:totB c = true
 ·have hT:=tot_of hc h
  have:=hm h
  subst this
  have h5:=hT.n5
  rw [if_pos ⟨⟨rfl,by show c.size ≤ 1000;omega,fun _=>⟨by show (0:Int) ≤ (fnN c:Int);omega,by show (fnN c:Int) ≤ 5;omega⟩⟩,fitL_of (by omega)⟩,if_pos h]
  congr 1
  show balV c ls ((fnN c:Int)).toNat (totB c) = _
  rw [Int.toNat_natCast,h,balV_eq hc h5]
 ·have h':totB c = false:=by simpa using h
  rw [if_pos ⟨⟨rfl,by show c.size ≤ 1000;omega,fun h2=>absurd h2 h⟩,fitL_of (by omega)⟩,if_neg h]
  congr 1
  show balV c ls m.toNat (totB c) = 2
  rw [h'];rfl
theorem realizes_pure (a0:ByteArray) (l1:List Int) (l2:List (List Int)):∃ k,numnahlaw01_CardRealizes.f k a0 l1 l2 = some true:=by
 refine Ev.rounds ?_
 unfold numnahlaw01_CardRealizes.f
 obtain ⟨c,hc,e0⟩:=short_f a0
 obtain ⟨ls,hls,els⟩:=lists_ev l2
 have hl:(l1.take 1001).length ≤ 1001:=by rw [List.length_take];omega
 obtain ⟨l,hle⟩:∃ l,l1.take 1001 = l:=⟨_,rfl⟩
 rw [hle] at hl
 rw [e0,list_f,hle]
 simp only [Option.bind_some]
 have eR:=realize_f hc hl
 have eB:=balance_f hc hls
 have et:=ev_rtotal hc
 refine Ev.bind els (Ev.congr (fun k=>by rw [eR,Option.bind_some,eB,Option.bind_some]) (Ev.bind et ?_))
 by_cases h:totB c = true
 ·have hT:=tot_of hc h
  rw [h,if_pos rfl,if_pos rfl]
  have h5:=hT.n5
  have tail:∀ w:Int,Ev (fun k=>numnahlaw01_CardRealizes.j0 k c ls w (if isBal c (fnN c) ls = true then 0 else 10) w 0) true:=by
   intro w
   refine Ev.step (fun k=>by rw [numnahlaw01_CardRealizes.j0]) (Ev.bind (ev_rbal hc h5 rfl ls) ?_)
   by_cases hb:isBal c (fnN c) ls = true
   ·rw [hb]
    exact Ev.congr (fun k=>if_pos rfl) (Ev.congr (fun k=>if_pos rfl) (Ev.congr (fun k=>if_pos (by rfl)) ev_aw))
   ·have hb':isBal c (fnN c) ls = false:=by simpa using hb
    rw [hb']
    exact Ev.congr (fun k=>if_neg (by decide)) (Ev.congr (fun k=>if_pos rfl) (Ev.congr (fun k=>if_pos (by rfl)) ev_aw))
  refine Ev.congr (fun k=>if_pos rfl) (Ev.bind (ev_vars hc) ?_)
  have ew:Ev (fun k=>numnahref01_Weights.f k l (fnN c:Int)) (!l.any (fun x=>!decide (-1000000 ≤ x ∧ x ≤ 1000000)) && decide (l.length = fnN c + 1)):=by
   have:=rweights_l0 hl h5 l.length 0 (by omega)
   rw [List.drop_zero] at this
   exact this
  refine Ev.bind ew ?_
  by_cases hg:l.length = fnN c + 1 ∧ bad60 l = false
  ·have hgb:l.any (fun x=>!decide (-1000000 ≤ x ∧ x ≤ 1000000)) = false:=hg.2
   rw [if_pos hg,hgb,decide_eq_true hg.1]
   refine Ev.congr (fun k=>if_pos rfl) ?_
   have er:Ev (fun k=>numnahref01_Realize.f k c l) (allF (okR c l (fnN c)) c.size 0):=by
    unfold numnahref01_Realize.f
    exact Ev.bind (ev_vars hc) (rreal_l0 h5 hg.1 hc (bad_sm hg.2) c.size 0 (by omega))
   refine Ev.bind er ?_
   by_cases ho:allF (okR c l (fnN c)) c.size 0 = true
   ·rw [ho,if_pos rfl]
    exact Ev.congr (fun k=>if_pos rfl) (tail 0)
   ·have ho':allF (okR c l (fnN c)) c.size 0 = false:=by simpa using ho
    rw [ho',if_neg (by decide)]
    exact Ev.congr (fun k=>if_neg (by decide)) (tail 10)
  ·have hgb:(!l.any (fun x=>!decide (-1000000 ≤ x ∧ x ≤ 1000000)) && decide (l.length = fnN c + 1)) = false:=by
    cases hq:l.any (fun x=>!decide (-1000000 ≤ x ∧ x ≤ 1000000)) with
    | true=>rfl
    | false=>rw [decide_eq_false (fun e=>hg ⟨e,hq⟩)];rfl
   rw [if_neg hg,hgb]
   exact Ev.congr (fun k=>if_neg (by decide)) (tail 2)
 ·have h':totB c = false:=by simpa using h
  rw [h',if_neg (by decide),if_neg (by decide)]
  exact Ev.congr (fun k=>if_neg (by decide)) (Ev.congr (fun k=>if_pos rfl) (Ev.congr (fun k=>if_pos rfl) ev_aw))
end Go.Proofs.Ythpahlkhiknofaa.P

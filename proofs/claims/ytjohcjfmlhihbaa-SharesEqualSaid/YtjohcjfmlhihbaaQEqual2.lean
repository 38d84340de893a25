/- Several texts, joined. -/
import Derived.Test.YtjohcjfmlhihbaaQEqual1
set_option linter.unusedVariables false
set_option linter.unusedSimpArgs false
namespace Go.Proofs.Ytjohcjfmlhihbaa.G
open Go.RowKit Go.Proofs.YtjohcjfmlhihbaaW.PrintWords Go.Proofs.YtjohcjfmlhihbaaW.PrintLast Go.Proofs.YtjohcjfmlhihbaaW.PrintMore
set_option maxHeartbeats 8000000
set_option maxRecDepth 100000
attribute [local go_sem] cond_true cond_false fld23_0 fld23_1 fld45_0 fld45_1 fld109_0 fld109_1 fld94_0 fld94_1 max2_int min2_int max_two min_two max_three min_three max_four min_four
mutual
def numnahref07_Fair.l0:Nat → List Int → List (S45) → List (S23) → List Bool → Int → Option ((List (S23)))
 | 0,_,_,_,_,_=>none
 | k + 1,x0,x1,x5,x6,x7=>if x7 < (x1.length:Int) then ((numnahref07_Whole.f 0).bind fun D9=>(if 0 ≤ x7 then (if x7 < (x5.length:Int) then (numnahref07_Fair.l0 k x0 x1 (x5.set (x7:Int).toNat (⟨D9.1,D9.2⟩:S23)) x6 (wrap64 (x7 + 1))) else (none)) else (none))) else (numnahref07_Fair.l1 k x0 x1 x5 x6 (x1.length:Int))
def numnahref07_Fair.l1:Nat → List Int → List (S45) → List (S23) → List Bool → Int → Option ((List (S23)))
 | 0,_,_,_,_,_=>none
 | k + 1,x0,x1,x5,x6,x8=>if x8 > 0 then (numnahref07_Fair.l2 k x0 x1 x5 x6 x8 (-1) 0 0 0) else (some x5)
def numnahref07_Fair.l2:Nat → List Int → List (S45) → List (S23) → List Bool → Int → Int → Int → Int → Int → Option ((List (S23)))
 | 0,_,_,_,_,_,_,_,_,_=>none
 | k + 1,x0,x1,x5,x6,x8,q3,o4,e0,e1=>if o4 < (x0.length:Int) then (if 0 ≤ o4 then ((numnahref07_Whole.f (rd x0 o4)).bind fun E0=>(numnahref07_Fair.l3 k x0 x1 x5 x6 x8 q3 o4 0 0 e0 e1 E0.1 E0.2)) else (none)) else (numnahref07_Fair.l4 k x0 x1 x5 x6 x8 q3 0 e0 e1)
def numnahref07_Fair.l3:Nat → List Int → List (S45) → List (S23) → List Bool → Int → Int → Int → Int → Int → Int → Int → Int → Int → Option ((List (S23)))
 | 0,_,_,_,_,_,_,_,_,_,_,_,_,_=>none
 | k + 1,x0,x1,x5,x6,x8,q3,o4,z2,m1,e0,e1,i2,i3=>if m1 < (x1.length:Int) then (if 0 ≤ m1 then ((numnahref07_Has.f k ((rd_T45 x1 m1).f0) ((rd_T45 x1 m1).f1) o4).bind fun C8=>(if C8 = true then (if m1 < (x6.length:Int) then (numnahref07_Fair.j4 k x0 x1 x5 x6 x8 q3 o4 z2 m1 (rdOf false x6 m1) e0 e1 i2 i3) else (none)) else (numnahref07_Fair.j4 k x0 x1 x5 x6 x8 q3 o4 z2 m1 false e0 e1 i2 i3))) else (none)) else (if z2 = 0 then (numnahref07_Fair.l2 k x0 x1 x5 x6 x8 q3 (wrap64 (o4 + 1)) e0 e1) else ((numnahref07_Reduced.f k i2 (wrap64 (i3 * z2))).bind fun q4=>(if q3 < 0 then (numnahref07_Fair.l2 k x0 x1 x5 x6 x8 o4 (wrap64 (o4 + 1)) q4.1 q4.2) else ((numnahref07_Less.f q4.1 q4.2 e0 e1).bind fun C9=>(if C9 = true then (numnahref07_Fair.l2 k x0 x1 x5 x6 x8 o4 (wrap64 (o4 + 1)) q4.1 q4.2) else (numnahref07_Fair.l2 k x0 x1 x5 x6 x8 q3 (wrap64 (o4 + 1)) e0 e1))))))
def numnahref07_Fair.j4:Nat → List Int → List (S45) → List (S23) → List Bool → Int → Int → Int → Int → Int → Bool → Int → Int → Int → Int → Option ((List (S23)))
 | 0,_,_,_,_,_,_,_,_,_,_,_,_,_,_=>none
 | k + 1,x0,x1,x5,x6,x8,q3,o4,z2,m1,x66,e0,e1,i2,i3=>if x66 = true then (if 0 ≤ m1 then (if m1 < (x5.length:Int) then ((numnahref07_Sub.f k i2 i3 ((rd_T23 x5 m1).f0) ((rd_T23 x5 m1).f1)).bind fun q5=>(if m1 < (x1.length:Int) then ((numnahref07_Has.f k ((rd_T45 x1 m1).f0) ((rd_T45 x1 m1).f1) o4).bind fun D0=>(if D0 = true then (if m1 < (x6.length:Int) then (if rdOf false x6 m1 = true then (numnahref07_Fair.l3 k x0 x1 x5 x6 x8 q3 o4 z2 (wrap64 (m1 + 1)) e0 e1 q5.1 q5.2) else (numnahref07_Fair.l3 k x0 x1 x5 x6 x8 q3 o4 (wrap64 (z2 + ((rd_T45 x1 m1).f0))) (wrap64 (m1 + 1)) e0 e1 q5.1 q5.2)) else (none)) else (numnahref07_Fair.l3 k x0 x1 x5 x6 x8 q3 o4 z2 (wrap64 (m1 + 1)) e0 e1 q5.1 q5.2))) else (none))) else (none)) else (none)) else (if 0 ≤ m1 then (if m1 < (x1.length:Int) then ((numnahref07_Has.f k ((rd_T45 x1 m1).f0) ((rd_T45 x1 m1).f1) o4).bind fun D1=>(if D1 = true then (if m1 < (x6.length:Int) then (if rdOf false x6 m1 = true then (numnahref07_Fair.l3 k x0 x1 x5 x6 x8 q3 o4 z2 (wrap64 (m1 + 1)) e0 e1 i2 i3) else (numnahref07_Fair.l3 k x0 x1 x5 x6 x8 q3 o4 (wrap64 (z2 + ((rd_T45 x1 m1).f0))) (wrap64 (m1 + 1)) e0 e1 i2 i3)) else (none)) else (numnahref07_Fair.l3 k x0 x1 x5 x6 x8 q3 o4 z2 (wrap64 (m1 + 1)) e0 e1 i2 i3))) else (none)) else (none))
def numnahref07_Fair.l4:Nat → List Int → List (S45) → List (S23) → List Bool → Int → Int → Int → Int → Int → Option ((List (S23)))
 | 0,_,_,_,_,_,_,_,_,_=>none
 | k + 1,x0,x1,x5,x6,x8,q3,x2,e0,e1=>if x2 < (x1.length:Int) then (if 0 ≤ x2 then ((numnahref07_Has.f k ((rd_T45 x1 x2).f0) ((rd_T45 x1 x2).f1) q3).bind fun D2=>(if D2 = true then (if x2 < (x6.length:Int) then (if rdOf false x6 x2 = true then (numnahref07_Fair.l4 k x0 x1 x5 x6 x8 q3 (wrap64 (x2 + 1)) e0 e1) else ((numnahref07_Reduced.f k (wrap64 (e0 * ((rd_T45 x1 x2).f0))) e1).bind fun n8=>(if x2 < (x5.length:Int) then (numnahref07_Fair.l4 k x0 x1 (x5.set (x2:Int).toNat (⟨n8.1,n8.2⟩:S23)) (x6.set (x2:Int).toNat true) (wrap64 (x8 - 1)) q3 (wrap64 (x2 + 1)) e0 e1) else (none)))) else (none)) else (numnahref07_Fair.l4 k x0 x1 x5 x6 x8 q3 (wrap64 (x2 + 1)) e0 e1))) else (none)) else (numnahref07_Fair.l1 k x0 x1 x5 x6 x8)
end
def numnahref07_Fair.f (k:Nat) (l0:List Int) (l1:List (S45)):Option ((List (S23))):=if 0 ≤ (l1.length:Int) then (if ((l1.length:Int):Int).toNat ≤ 17592186044416 then (if ((l1.length:Int):Int).toNat ≤ 281474976710656 then (numnahref07_Fair.l0 k l0 l1 (List.replicate ((l1.length:Int):Int).toNat z23) (List.replicate ((l1.length:Int):Int).toNat false) 0) else (none)) else (none)) else (none)
theorem numnahref07_Fair.mono_l:∀ k,(∀ y0 y1 y2 y3 y4,LeO (numnahref07_Fair.l0 k y0 y1 y2 y3 y4) (numnahref07_Fair.l0 (k + 1) y0 y1 y2 y3 y4)) ∧ (∀ y0 y1 y2 y3 y4,LeO (numnahref07_Fair.l1 k y0 y1 y2 y3 y4) (numnahref07_Fair.l1 (k + 1) y0 y1 y2 y3 y4)) ∧ (∀ y0 y1 y2 y3 y4 y5 y6 y7 y8,LeO (numnahref07_Fair.l2 k y0 y1 y2 y3 y4 y5 y6 y7 y8) (numnahref07_Fair.l2 (k + 1) y0 y1 y2 y3 y4 y5 y6 y7 y8)) ∧ (∀ y0 y1 y2 y3 y4 y5 y6 y7 y8 y9 G7 G8 G9,LeO (numnahref07_Fair.l3 k y0 y1 y2 y3 y4 y5 y6 y7 y8 y9 G7 G8 G9) (numnahref07_Fair.l3 (k + 1) y0 y1 y2 y3 y4 y5 y6 y7 y8 y9 G7 G8 G9)) ∧ (∀ y0 y1 y2 y3 y4 y5 y6 y7 y8 y9 G7 G8 G9 y13,LeO (numnahref07_Fair.j4 k y0 y1 y2 y3 y4 y5 y6 y7 y8 y9 G7 G8 G9 y13) (numnahref07_Fair.j4 (k + 1) y0 y1 y2 y3 y4 y5 y6 y7 y8 y9 G7 G8 G9 y13)) ∧ (∀ y0 y1 y2 y3 y4 y5 y6 y7 y8,LeO (numnahref07_Fair.l4 k y0 y1 y2 y3 y4 y5 y6 y7 y8) (numnahref07_Fair.l4 (k + 1) y0 y1 y2 y3 y4 y5 y6 y7 y8))
 | 0=>⟨fun _ _ _ _ _ r h=>by simp [numnahref07_Fair.l0] at h,fun _ _ _ _ _ r h=>by simp [numnahref07_Fair.l1] at h,fun _ _ _ _ _ _ _ _ _ r h=>by simp [numnahref07_Fair.l2] at h,fun _ _ _ _ _ _ _ _ _ _ _ _ _ r h=>by simp [numnahref07_Fair.l3] at h,fun _ _ _ _ _ _ _ _ _ _ _ _ _ _ r h=>by simp [numnahref07_Fair.j4] at h,fun _ _ _ _ _ _ _ _ _ r h=>by simp [numnahref07_Fair.l4] at h⟩
 | k + 1=>by
  obtain ⟨E1,E2,E3,E4,E5,E6⟩:=numnahref07_Fair.mono_l k
  refine ⟨?_,?_,?_,?_,?_,?_⟩
  ·intro y0 y1 y2 y3 y4
   unfold numnahref07_Fair.l0
   repeat' first
   | (with_reducible first | exact E1 _ _ _ _ _ | exact E2 _ _ _ _ _ | exact E3 _ _ _ _ _ _ _ _ _ | exact E4 _ _ _ _ _ _ _ _ _ _ _ _ _ | exact E5 _ _ _ _ _ _ _ _ _ _ _ _ _ _ | exact E6 _ _ _ _ _ _ _ _ _ | exact numnahref07_Has.mono _ _ _ _ | exact numnahref07_Reduced.mono _ _ _ | exact numnahref07_Sub.mono _ _ _ _ _ | exact LeO.refl _ | exact LeO.none _ | refine LeO.ite ?_ ?_ | refine LeO.bind ?_ (fun _=>?_))
   | exact LeO.none _ | refine LeO.ite ?_ ?_ | refine LeO.bind ?_ (fun _=>?_)
  ·intro y0 y1 y2 y3 y4
   unfold numnahref07_Fair.l1
   repeat' first
   | (with_reducible first | exact E1 _ _ _ _ _ | exact E2 _ _ _ _ _ | exact E3 _ _ _ _ _ _ _ _ _ | exact E4 _ _ _ _ _ _ _ _ _ _ _ _ _ | exact E5 _ _ _ _ _ _ _ _ _ _ _ _ _ _ | exact E6 _ _ _ _ _ _ _ _ _ | exact numnahref07_Has.mono _ _ _ _ | exact numnahref07_Reduced.mono _ _ _ | exact numnahref07_Sub.mono _ _ _ _ _ | exact LeO.refl _ | exact LeO.none _ | refine LeO.ite ?_ ?_ | refine LeO.bind ?_ (fun _=>?_))
   | exact LeO.none _ | refine LeO.ite ?_ ?_ | refine LeO.bind ?_ (fun _=>?_)
  ·intro y0 y1 y2 y3 y4 y5 y6 y7 y8
   unfold numnahref07_Fair.l2
   repeat' first
   | (with_reducible first | exact E1 _ _ _ _ _ | exact E2 _ _ _ _ _ | exact E3 _ _ _ _ _ _ _ _ _ | exact E4 _ _ _ _ _ _ _ _ _ _ _ _ _ | exact E5 _ _ _ _ _ _ _ _ _ _ _ _ _ _ | exact E6 _ _ _ _ _ _ _ _ _ | exact numnahref07_Has.mono _ _ _ _ | exact numnahref07_Reduced.mono _ _ _ | exact numnahref07_Sub.mono _ _ _ _ _ | exact LeO.refl _ | exact LeO.none _ | refine LeO.ite ?_ ?_ | refine LeO.bind ?_ (fun _=>?_))
   | exact LeO.none _ | refine LeO.ite ?_ ?_ | refine LeO.bind ?_ (fun _=>?_)
  ·intro y0 y1 y2 y3 y4 y5 y6 y7 y8 y9 G7 G8 G9
   unfold numnahref07_Fair.l3
   repeat' first
   | (with_reducible first | exact E1 _ _ _ _ _ | exact E2 _ _ _ _ _ | exact E3 _ _ _ _ _ _ _ _ _ | exact E4 _ _ _ _ _ _ _ _ _ _ _ _ _ | exact E5 _ _ _ _ _ _ _ _ _ _ _ _ _ _ | exact E6 _ _ _ _ _ _ _ _ _ | exact numnahref07_Has.mono _ _ _ _ | exact numnahref07_Reduced.mono _ _ _ | exact numnahref07_Sub.mono _ _ _ _ _ | exact LeO.refl _ | exact LeO.none _ | refine LeO.ite ?_ ?_ | refine LeO.bind ?_ (fun _=>?_))
   | exact LeO.none _ | refine LeO.ite ?_ ?_ | refine LeO.bind ?_ (fun _=>?_)
  ·intro y0 y1 y2 y3 y4 y5 y6 y7 y8 y9 G7 G8 G9 y13
   unfold numnahref07_Fair.j4
   repeat' first
   | (with_reducible first | exact E1 _ _ _ _ _ | exact E2 _ _ _ _ _ | exact E3 _ _ _ _ _ _ _ _ _ | exact E4 _ _ _ _ _ _ _ _ _ _ _ _ _ | exact E5 _ _ _ _ _ _ _ _ _ _ _ _ _ _ | exact E6 _ _ _ _ _ _ _ _ _ | exact numnahref07_Has.mono _ _ _ _ | exact numnahref07_Reduced.mono _ _ _ | exact numnahref07_Sub.mono _ _ _ _ _ | exact LeO.refl _ | exact LeO.none _ | refine LeO.ite ?_ ?_ | refine LeO.bind ?_ (fun _=>?_))
   | exact LeO.none _ | refine LeO.ite ?_ ?_ | refine LeO.bind ?_ (fun _=>?_)
  intro y0 y1 y2 y3 y4 y5 y6 y7 y8
  unfold numnahref07_Fair.l4
  repeat' first
  | (with_reducible first | exact E1 _ _ _ _ _ | exact E2 _ _ _ _ _ | exact E3 _ _ _ _ _ _ _ _ _ | exact E4 _ _ _ _ _ _ _ _ _ _ _ _ _ | exact E5 _ _ _ _ _ _ _ _ _ _ _ _ _ _ | exact E6 _ _ _ _ _ _ _ _ _ | exact numnahref07_Has.mono _ _ _ _ | exact numnahref07_Reduced.mono _ _ _ | exact numnahref07_Sub.mono _ _ _ _ _ | exact LeO.refl _ | exact LeO.none _ | refine LeO.ite ?_ ?_ | refine LeO.bind ?_ (fun _=>?_))
  | exact LeO.none _ | refine LeO.ite ?_ ?_ | refine LeO.bind ?_ (fun _=>?_)
theorem numnahref07_Fair.mono:∀ a0 a1 k,LeO (numnahref07_Fair.f k a0 a1) (numnahref07_Fair.f (k + 1) a0 a1):=by
 intro a0 a1 k
 obtain ⟨E1,E2,E3,E4,E5,E6⟩:=numnahref07_Fair.mono_l k
 unfold numnahref07_Fair.f
 repeat' first
   | (with_reducible first | exact E1 _ _ _ _ _ | exact E2 _ _ _ _ _ | exact E3 _ _ _ _ _ _ _ _ _ | exact E4 _ _ _ _ _ _ _ _ _ _ _ _ _ | exact E5 _ _ _ _ _ _ _ _ _ _ _ _ _ _ | exact E6 _ _ _ _ _ _ _ _ _ | exact numnahref07_Has.mono _ _ _ _ | exact numnahref07_Reduced.mono _ _ _ | exact numnahref07_Sub.mono _ _ _ _ _ | exact LeO.refl _ | exact LeO.none _ | refine LeO.ite ?_ ?_ | refine LeO.bind ?_ (fun _=>?_))
   | exact LeO.none _ | refine LeO.ite ?_ ?_ | refine LeO.bind ?_ (fun _=>?_)
def numnahref07_Fair.T30:Bool × List (List Nat × List Nat):=(true,[([],[]),([],[]),([],[]),([2],[2]),([],[]),([],[]),([4,5],[4,5]),([6],[6]),([7],[7]),([3,8],[3,8]),([],[]),([10],[10]),([9,11],[9,11]),([0,1,0,1,2,3,4,5,6,7,8,9,10,11,12],[0,1]),([13,12,12,0,1,2,3,4,5,6,7,8,9,10,11,12],[12,13])])
def numnahref07_Fair.B30:List Nat:=[0,0,0,4,0,0,48,112,240,508,0,1024,4092,8191,16383]
theorem numnahref07_Fair.tab30:rtab .any (opsOf Try.f42 30) = numnahref07_Fair.T30:=by kernel_rfl
theorem numnahref07_Fair.bits30:waitsOk numnahref07_Fair.T30.2 numnahref07_Fair.B30 = true:=by kernel_rfl
theorem numnahref07_Fair.calls (k:Nat) (A0:Option Addr) (c0:Nat) (l0:List Int) (A1:Option Addr) (c1:Nat) (l1:List (S45)) (r:List (S23)) (w:World) (hr0:Kd.C (Kd.int .i64) w A0 l0.length l0) (hc0:l0.length ≤ c0) (hr1:Kd.C k45 w A1 l1.length l1) (hc1:l1.length ≤ c1) (h:numnahref07_Fair.f k l0 l1 = some r) :
  Calls Try.prog 42 #[.slice A0 l0.length c0,.slice A1 l1.length c1] w fun e w'=>∃ v0_:Value,e = .returned (v0_) ∧ Kd.R k23 23 w' w.heap.size (fun _=>True) v0_ r ∧ Below w.heap.size w w':=by
 have hu23:=Try.underlying23
 have hu45:=Try.underlying45
 have HR0:=A_ hr0
 have HC0:=A_ hc0
 clear hr0 hc0
 have t1:=A_ hr1
 have HC1:=A_ hc1
 clear hr1 hc1
 have HB:=A_ (Below.refl w.heap.size w)
 have H:(if 0 ≤ (l1.length:Int) then (if ((l1.length:Int):Int).toNat ≤ 17592186044416 then (if ((l1.length:Int):Int).toNat ≤ 281474976710656 then (numnahref07_Fair.l0 k l0 l1 (List.replicate ((l1.length:Int):Int).toNat z23) (List.replicate ((l1.length:Int):Int).toNat false) 0) else (none)) else (none)) else (none)) = some r:=h
 clear h
 replace H:=gd H
 obtain ⟨c3,H⟩:=H
 have c3b0:=eq_true c3
 have c3b1:=decide_eq_true c3
 clear c3
 replace H:=gd H
 obtain ⟨c4,H⟩:=H
 have c4b0:=eq_true c4
 have c4b1:=decide_eq_true c4
 clear c4
 obtain ⟨y833,z3⟩:∃ y_:List (S23),y_ = (List.replicate ((l1.length:Int):Int).toNat z23):=⟨_,rfl⟩
 rw [← z3] at H
 have E7:=A_ z3
 clear z3
 replace H:=gd H
 obtain ⟨c5,H⟩:=H
 have c5b0:=eq_true c5
 have c5b1:=decide_eq_true c5
 clear c5
 obtain ⟨H0,z4⟩:∃ y_:List Bool,y_ = (List.replicate ((l1.length:Int):Int).toNat false):=⟨_,rfl⟩
 rw [← z4] at H
 have E8:=A_ z4
 clear z4
 have H':=A_ H
 clear H
 go_enter Try.func42,Try.ntmps42
 go_wp2_with (first | ((with_reducible refine gate_dst (N:=19) rfl ?_);refine Kd.R_make k23 _ 23 rfl (N:=19) rfl 35 _ _ rfl (l1.length:Int) rfl rfl Try.underlying35 (.agg #[(.int .i64 0),(.int .i64 0)]) 16 info23 rfl (by decide) (by omega) z23 (ok:=fun _=>True) (okp:=fun _=>True) (k23_mkM _ _ _ z23 ) (fun _ hk=>hk) trivial (of_decide_eq_true (by first | (with_reducible assumption) | assumption)) (Nat.le_trans (Nat.mul_le_mul_right _ (of_decide_eq_true (by first | (with_reducible assumption) | assumption):(l1.length:Int).toNat ≤ 17592186044416)) (by omega)) (Below.refl _ _) (Nat.le_refl _) ?_;intro x3 w6 K9 hb hg_ hnew_;clear hg_ hnew_;(first | rw [← E7.out] at K9 | (simp only [Int.reduceToNat] at K9;rw [← E7.out] at K9));have z5:=A_ (Kd.R_lower K9 (below_size (bl HB)));replace HB:=bB HB hb;clear hb K9) | ((with_reducible refine gate_dst (N:=22) rfl ?_);refine Kd.R_make Kd.bool _ 4 rfl (N:=22) rfl 115 _ _ rfl (l1.length:Int) rfl rfl Try.underlying115 (.bool false) 1 info4 rfl (by decide) (by omega) false (ok:=fun _=>True) (okp:=fun _=>True) rfl (fun _ hk=>hk) trivial (of_decide_eq_true (by first | (with_reducible assumption) | assumption)) (Nat.le_trans (Nat.mul_le_mul_right _ (of_decide_eq_true (by first | (with_reducible assumption) | assumption):(l1.length:Int).toNat ≤ 281474976710656)) (by omega)) (Below.refl _ _) (Nat.le_refl _) ?_;intro x4 w8 L0 hb hg_ hnew_;clear hg_ hnew_;(first | rw [← E8.out] at L0 | (simp only [Int.reduceToNat] at L0;rw [← E8.out] at L0));have L1:=A_ (Kd.R_lower L0 (below_size (bl HB)));replace z5:=rB z5 hb;replace HB:=bB HB hb;clear hb L0))
 go_loopg [7] k (fun kq v7 w'=>∃ (m6:List (S23)) (j8:Int),v7 = .int .i64 j8 ∧ Aside0 (numnahref07_Fair.l0 kq l0 l1 m6 H0 j8 = some r) ∧ Aside0 (kq ≤ k) ∧ Aside0 (Kd.R k23 23 w' w.heap.size (fun _=>True) x3 m6) ∧ Aside0 (Kd.R Kd.bool 4 w' w.heap.size (fun _=>True) x4 H0) ∧ Aside0 (Below w.heap.size w w'))
 case atStart=>exact ⟨(y833),(0),(by first | rfl | (simp;done) | (simp [*];done)),H',⟨Nat.le_refl _⟩,⟨by (with_reducible repeat (first | apply Kd.R_alloc | apply Kd.R_drewN | apply Kd.R_drew));exact z5.out⟩,⟨by (with_reducible repeat (first | apply Kd.R_alloc | apply Kd.R_drewN | apply Kd.R_drew));exact L1.out⟩,⟨bl HB⟩⟩
 case round =>
  clear H'
  obtain ⟨m6,j8,rfl,HA,m2,b8,b9,HB⟩:=hrel
  cases gk with
  | zero=>exact absurd HA.out (by simp [numnahref07_Fair.l0])
  | succ k1 =>
   have H:=HA.out
   clear HA
   simp only [numnahref07_Fair.l0] at H
   by_cases c10:j8 < (l1.length:Int)
   ·rw [if_pos c10] at H
    have L2:=decide_eq_true c10
    clear c10
    replace H:=Option.bind_eq_some_iff.mp H
    obtain ⟨⟨x9,z0⟩,A110,H⟩:=H
    dsimp only at H
    have A11:=A_ A110
    clear A110
    replace H:=gd H
    obtain ⟨c12,H⟩:=H
    have c12b0:=decide_eq_true c12
    clear c12
    replace H:=gd H
    obtain ⟨c13,H⟩:=H
    have c13b0:=decide_eq_true c13
    clear c13
    obtain ⟨L3,z6⟩:∃ y_:List (S23),y_ = (m6.set (j8:Int).toNat (⟨x9,z0⟩:S23)):=⟨_,rfl⟩
    rw [← z6] at H
    have L4:=A_ z6
    clear z6
    have H':=A_ H
    clear H
    go_wp2_with (first | ((with_reducible refine gate_callee (f:=23) rfl ?_);refine gL (some 31) Try.func23 #[.int .i64 0] ?_;(with_reducible refine (numnahref07_Whole.calls 0 x9 z0 _ A11.out).mono ?_);rintro e H1 ⟨rfl,hb⟩;refine ⟨_,rfl,?_⟩;replace b8:=rB b8 hb;replace b9:=rB b9 hb;replace HB:=bB HB hb;(try clear hb);have p14:0 ≤ (j8:Int):=of_decide_eq_true (by first | (with_reducible assumption) | assumption);have q14:(j8:Int) < ((m6.length:Int):Int):=of_decide_eq_true (by first | (with_reducible assumption) | assumption);obtain ⟨q2,H2,L5,L6,gl14,cl14,L7⟩:=Kd.R_form b8.out (by omega);(first | cases L5 | (injection L5 with ea_ en_ ec_;(first | subst ea_ | (injection ea_ with ea_;subst ea_));subst ec_;clear en_));have L8:=A_ L6;have GG14:=A_ L7;clear L6 gl14 L7;obtain ⟨ce14,L9,M0,z7,z8⟩:=Kd.R_elem b8.out z23 (j8:Int) p14 q14;obtain rfl:=k23_openM M0;have hx14_0:H1.cell? ⟨q2,(j8:Int).toNat * 2,none⟩ = some (.int .i64 ((rd_T23 m6 j8).f0)):=z7 0 _ rfl;have hx14_1:H1.cell? ⟨q2,(j8:Int).toNat * 2 + 1,none⟩ = some (.int .i64 ((rd_T23 m6 j8).f1)):=z7 1 _ rfl;have hf14_0:H1.frozen? ⟨q2,(j8:Int).toNat * 2,none⟩ = false:=z8 0;have hf14_1:H1.frozen? ⟨q2,(j8:Int).toNat * 2 + 1,none⟩ = false:=z8 1;clear L9 z7 z8 M0;replace p14:=eq_true p14;replace q14:=eq_true q14;have M1:=A_ (show Kd.R k23 23 H1 w.heap.size (fun _=>True) (.slice (some ⟨q2,0,none⟩) m6.length H2) m6 from (rs b8));obtain ⟨ce16,E9,M2,t2,z9⟩:=Kd.R_elem M1.out z23 (j8:Int) (of_decide_eq_true (by first | (with_reducible assumption) | assumption)) (by have h_:(j8:Int) < ((m6.length:Int):Int):=of_decide_eq_true (by first | (with_reducible assumption) | assumption);first | exact h_ | (have e_:=(Kd.R_reads' b8.out).1;omega) | simpa using h_);obtain rfl:=k23_openM M2;have H3:=Kd.R_seg M1.out (j8:Int) (of_decide_eq_true (by first | (with_reducible assumption) | assumption)) (by have h_:(j8:Int) < ((m6.length:Int):Int):=of_decide_eq_true (by first | (with_reducible assumption) | assumption);first | exact h_ | (have e_:=(Kd.R_reads' b8.out).1;omega) | simpa using h_) (seg:=[.int .i64 x9,.int .i64 z0]) (j:=0) E9 t2 (show 2 ≤ 2 from by decide) (x':=(⟨x9,z0⟩:S23)) (k23_mkM _ _ _ (⟨x9,z0⟩:S23) ) (fun _ hk=>hk);have H4:=t2 0 _ rfl;(try simp only [show (k23).sz = 2 from rfl,Nat.mul_one,Nat.add_zero] at H4);have H5:=z9 0;(try simp only [show (k23).sz = 2 from rfl,Nat.mul_one,Nat.add_zero] at H5);have H6:=t2 1 _ rfl;(try simp only [show (k23).sz = 2 from rfl,Nat.mul_one,Nat.add_zero] at H6);have H7:=z9 1;(try simp only [show (k23).sz = 2 from rfl,Nat.mul_one,Nat.add_zero] at H7);clear E9 t2 z9 M2) | ((with_reducible refine gate_store (t:=23) (p:=32) rfl ?_);refine store_event (t:=23) (p:=32) (v:=?vo_w17) (w1:=((H1.setCell ⟨q2,(j8:Int).toNat * 2,none⟩ (.int .i64 x9)).setCell ⟨q2,(j8:Int).toNat * 2 + 1,none⟩ (.int .i64 z0))) ?hg ?ho ?hn ?hr ?_;(case ho=>rfl);(case hg=>rfl);(case hn=>rfl);(case hr=>first | (go_simp;done) | (go_simp;rfl));intro w17 hw;have hg:H1.grownBy w17 (some q2):=(by rw [hw];exact H3.2);have hp_:Kd.R k23 23 w17 w.heap.size (fun _=>True) (.slice (some ⟨q2,0,none⟩) m6.length H2) L3:=(by rw [hw,L4.out];exact H3.1);clear H3;replace b9:=A_ (Kd.R_over' (v:=(.slice (some ⟨q2,0,none⟩) m6.length H2)) (rs b9) (Kd.R_typed b8.out) (by decide) hg);replace b8:=A_ hp_;replace HB:=A_ ((by rw [hw];exact below_set (below_set (HB.out) L8.out) L8.out:Below w.heap.size w w17));clear hg hw hp_))
    go_roundg k1
    case measure=>have:=m2.out;omega
    case rel=>exact ⟨(L3),(wrap64 (j8 + 1)),(by first | rfl | (simp;done) | (simp [*];done)),H',⟨by have:=m2.out;omega⟩,⟨by (with_reducible repeat (first | apply Kd.R_alloc | apply Kd.R_drewN | apply Kd.R_drew));exact b8.out⟩,⟨by (with_reducible repeat (first | apply Kd.R_alloc | apply Kd.R_drewN | apply Kd.R_drew));exact b9.out⟩,⟨bl HB⟩⟩
   rw [if_neg c10] at H
   have L2:=decide_eq_false c10
   clear c10
   have H':=A_ H
   clear H
   go_wp2
   go_loopg [8] k1 (fun kq v8 w'=>∃ (e5:List (S23)) (e7:List Bool) (i0:Int),v8 = .int .i64 i0 ∧ Aside0 (numnahref07_Fair.l1 kq l0 l1 e5 e7 i0 = some r) ∧ Aside0 (kq ≤ k1) ∧ Aside0 (Kd.R k23 23 w' w.heap.size (fun _=>True) x3 e5) ∧ Aside0 (Kd.R Kd.bool 4 w' w.heap.size (fun _=>True) x4 e7) ∧ Aside0 (Below w.heap.size w w'))
   case atStart=>exact ⟨(m6),(H0),((l1.length:Int)),(by first | rfl | (simp;done) | (simp [*];done)),H',⟨Nat.le_refl _⟩,⟨by (with_reducible repeat (first | apply Kd.R_alloc | apply Kd.R_drewN | apply Kd.R_drew));exact b8.out⟩,⟨by (with_reducible repeat (first | apply Kd.R_alloc | apply Kd.R_drewN | apply Kd.R_drew));exact b9.out⟩,⟨bl HB⟩⟩
   case round =>
    clear H'
    obtain ⟨e5,e7,i0,rfl,HA,m4,b8,b9,HB⟩:=hrel
    cases gk with
    | zero=>exact absurd HA.out (by simp [numnahref07_Fair.l1])
    | succ k2 =>
     have H:=HA.out
     clear HA
     simp only [numnahref07_Fair.l1] at H
     by_cases K5:i0 > 0
     case neg =>
      rw [if_neg K5] at H
      have M3:=decide_eq_false K5
      clear K5
      obtain rfl:=Option.some.inj H
      go_wp2
      go_ret
      exact ⟨_,by first | rfl | (simp [errW_none,errW_some] <;> rfl) | (simp [*,errW_none,errW_some] <;> rfl),by (with_reducible repeat (first | apply Kd.R_alloc | apply Kd.R_drewN | apply Kd.R_drew));exact b8.out,bl HB⟩
     rw [if_pos K5] at H
     have M3:=decide_eq_true K5
     clear K5
     have H':=A_ H
     clear H
     go_wp2_with (first | ((with_reducible refine gate_dst (N:=9) rfl ?_);refine bx 9 #[.int .i64 0,.int .i64 0] 23 ?_;intro d3 hg w19 hbox hb;have b1:=A_ hbox;have M4:=gw hg HB;have GE842:=M4;replace b8:=A_ (Kd.R_below (Kd.R_elderB (rs b8) d3 (Nat.le_of_eq hg.symm)) hb);replace b9:=rB b9 hb;replace HB:=bB HB hb;clear hb hbox hg;have S6:w19.cell? ⟨d3,0,none⟩ = some (.int .i64 0):=cz b1 0;have S7:w19.cell? ⟨d3,1,none⟩ = some (.int .i64 0):=cz b1 1;have S8:=blk_frozen b1.out 0;have S9:=blk_frozen b1.out 1))
     go_loopg [10,11] k2 (fun kq v10 v11 w'=>∃ (e2:Int) (d2:Int) (b7:Int) (b6:Int),v10 = .int .i64 e2 ∧ v11 = .int .i64 d2 ∧ Aside0 (numnahref07_Fair.l2 kq l0 l1 e5 e7 i0 e2 d2 b7 b6 = some r) ∧ Aside0 (kq ≤ k2) ∧ Aside0 (Kd.R k23 23 w' w.heap.size (fun k_=>k_ ≠ d3) x3 e5) ∧ Aside0 (Kd.R Kd.bool 4 w' w.heap.size (fun _=>True) x4 e7) ∧ Aside0 (w'.heap[d3]? = some (.cells #[.int .i64 b7,.int .i64 b6] 23 (0,0))) ∧ Aside0 (Below w.heap.size w w'))
     case atStart=>exact ⟨((-1)),(0),(0),(0),(by first | rfl | (simp;done) | (simp [*];done)),(by first | rfl | (simp;done) | (simp [*];done)),H',⟨Nat.le_refl _⟩,⟨by (with_reducible repeat (first | apply Kd.R_alloc | apply Kd.R_drewN | apply Kd.R_drew));exact Kd.R_mono (Kd.R_far (p:=⟨d3,1,none⟩) (Kd.R_far (p:=⟨d3,0,none⟩) (Kd.R_mono b8.out (fun k_ hk=>(⟨hk,hk.2⟩:_ ∧ k_ ≠ d3))) (fun _ hk=>hk.2) (.int .i64 0)) (fun _ hk=>hk.2) (.int .i64 0)) (fun _ hk=>hk.1.2)⟩,⟨by (with_reducible repeat (first | apply Kd.R_alloc | apply Kd.R_drewN | apply Kd.R_drew));exact Kd.R_mono (Kd.R_far (p:=⟨d3,1,none⟩) (Kd.R_far (p:=⟨d3,0,none⟩) (Kd.R_types b9.out b1.out (by decide)) (fun _ hk=>hk.2) (.int .i64 0)) (fun _ hk=>hk.2) (.int .i64 0)) (fun _ hk=>trivial)⟩,⟨by (with_reducible repeat (first | refine blk_drewN ?_ _ | refine blk_drew ?_ | refine blk_alloc ?_ _));refine blk_put (cs:=#[.int .i64 0,.int .i64 0]) ?_ 1 _ rfl;(with_reducible repeat (first | refine blk_drewN ?_ _ | refine blk_drew ?_ | refine blk_alloc ?_ _));refine blk_put (cs:=#[.int .i64 0,.int .i64 0]) ?_ 0 _ rfl;(with_reducible repeat (first | refine blk_drewN ?_ _ | refine blk_drew ?_ | refine blk_alloc ?_ _));exact b1.out⟩,⟨bl HB⟩⟩
     case round =>
      clear H'
      obtain ⟨e2,d2,b7,b6,rfl,rfl,HA,m5,b8,b9,b1,HB⟩:=hrel
      cases gk with
      | zero=>exact absurd HA.out (by simp [numnahref07_Fair.l2])
      | succ k3 =>
       have H:=HA.out
       clear HA
       simp only [numnahref07_Fair.l2] at H
       by_cases K6:d2 < (l0.length:Int)
       case neg =>
        rw [if_neg K6] at H
        have M5:=decide_eq_false K6
        clear K6
        have H':=A_ H
        clear H
        go_wp2
        go_loopg [8,16] k3 (fun kq v8 v16 w'=>∃ (l5:List (S23)) (i1:List Bool) (n9:Int) (b5:Int) (d4:Int) (d5:Int),v8 = .int .i64 n9 ∧ v16 = .int .i64 b5 ∧ Aside0 (numnahref07_Fair.l4 kq l0 l1 l5 i1 n9 e2 b5 d4 d5 = some r) ∧ Aside0 (kq ≤ k3) ∧ Aside0 (Kd.R k23 23 w' w.heap.size (fun k_=>k_ ≠ d3) x3 l5) ∧ Aside0 (Kd.R Kd.bool 4 w' w.heap.size (fun _=>True) x4 i1) ∧ Aside0 (w'.heap[d3]? = some (.cells #[.int .i64 d4,.int .i64 d5] 23 (0,0))) ∧ Aside0 (Below w.heap.size w w'))
        case atStart=>exact ⟨(e5),(e7),(i0),(0),(b7),(b6),(by first | rfl | (simp;done) | (simp [*];done)),(by first | rfl | (simp;done) | (simp [*];done)),H',⟨Nat.le_refl _⟩,⟨by (with_reducible repeat (first | apply Kd.R_alloc | apply Kd.R_drewN | apply Kd.R_drew));exact b8.out⟩,⟨by (with_reducible repeat (first | apply Kd.R_alloc | apply Kd.R_drewN | apply Kd.R_drew));exact b9.out⟩,⟨by (with_reducible repeat (first | refine blk_drewN ?_ _ | refine blk_drew ?_ | refine blk_alloc ?_ _));exact b1.out⟩,⟨bl HB⟩⟩
        case round =>
         clear H'
         obtain ⟨l5,i1,n9,b5,d4,d5,rfl,rfl,HA,m3,b8,b9,b1,HB⟩:=hrel
         cases gk with
         | zero=>exact absurd HA.out (by simp [numnahref07_Fair.l4])
         | succ k4 =>
          have H:=HA.out
          clear HA
          simp only [numnahref07_Fair.l4] at H
          by_cases z1:b5 < (l1.length:Int)
          case neg =>
           rw [if_neg z1] at H
           have H8:=decide_eq_false z1
           clear z1
           have H':=A_ H
           clear H
           go_wp2
           go_roundg k4
           case measure=>have:=m2.out;have:=m4.out;have:=m5.out;have:=m3.out;omega
           case rel=>exact ⟨(l5),(i1),(n9),(by first | rfl | (simp;done) | (simp [*];done)),H',⟨by have:=m2.out;have:=m4.out;have:=m5.out;have:=m3.out;omega⟩,⟨by (with_reducible repeat (first | apply Kd.R_alloc | apply Kd.R_drewN | apply Kd.R_drew));exact Kd.R_mono b8.out (fun _ hk=>trivial)⟩,⟨by (with_reducible repeat (first | apply Kd.R_alloc | apply Kd.R_drewN | apply Kd.R_drew));exact b9.out⟩,⟨bl HB⟩⟩
          rw [if_pos z1] at H
          have H8:=decide_eq_true z1
          clear z1
          replace H:=gd H
          obtain ⟨M6,H⟩:=H
          have c113b0:=decide_eq_true M6
          clear M6
          replace H:=Option.bind_eq_some_iff.mp H
          obtain ⟨D2,F0,H⟩:=H
          replace H:(if D2 = true then (if b5 < (i1.length:Int) then (if rdOf false i1 b5 = true then (numnahref07_Fair.l4 k4 l0 l1 l5 i1 n9 e2 (wrap64 (b5 + 1)) d4 d5) else ((numnahref07_Reduced.f k4 (wrap64 (d4 * ((rd_T45 l1 b5).f0))) d5).bind fun n8=>(if b5 < (l5.length:Int) then (numnahref07_Fair.l4 k4 l0 l1 (l5.set (b5:Int).toNat (⟨n8.1,n8.2⟩:S23)) (i1.set (b5:Int).toNat true) (wrap64 (n9 - 1)) e2 (wrap64 (b5 + 1)) d4 d5) else (none)))) else (none)) else (numnahref07_Fair.l4 k4 l0 l1 l5 i1 n9 e2 (wrap64 (b5 + 1)) d4 d5)) = some r:=H
          have H9:=A_ F0
          clear F0
          by_cases D3:D2 = true
          case neg =>
           replace D3:=Bool.eq_false_iff.mpr D3
           subst D3
           rw [if_neg (show ¬ (false = true) by decide)] at H
           have H':=A_ H
           clear H
           have o5:0 ≤ (b5:Int):=of_decide_eq_true (by first | (with_reducible assumption) | assumption)
           have o6:b5 < (l1.length:Int):=of_decide_eq_true (by first | (with_reducible assumption) | assumption)
           obtain ⟨q6,o7,o8,A2,h1,h2,i4,i5⟩:=at_T45 t1.out b5 o5 o6
           cases A2
           replace h1:=(HB.out.cell (World.block_lt_of_cell? w _ h1)).trans h1
           replace h2:=(HB.out.cell (World.block_lt_of_cell? w _ h2)).trans h2
           have m7:=A_ i5
           have m8:=A_ i4
           clear i5 i4
           replace o5:=eq_true o5
           replace o6:=eq_true o6
           go_wp2_with (first | ((with_reducible refine gate_callee (f:=77) rfl ?_);refine gL (some 122) Try.func77 #[.agg #[.int .i64 ((rd_T45 l1 b5).f0),.slice o7 ((rd_T45 l1 b5).f1).length o8],.int .i64 e2] ?_;(with_reducible refine (numnahref07_Has.calls k4 ((rd_T45 l1 b5).f0) _ _ ((rd_T45 l1 b5).f1) e2 false _ ?side1 ?side2 H9.out).mono ?_);(case side1=>exact cB m7 HB);(case side2=>exact m8.out);rintro e w133 ⟨rfl,hb⟩;refine ⟨_,rfl,?_⟩;replace b8:=rB b8 hb;replace b9:=rB b9 hb;replace b1:=kB b1 hb;replace HB:=bB HB hb;(try clear hb)))
           go_roundg k4
           case measure=>have:=m2.out;have:=m4.out;have:=m5.out;have:=m3.out;omega
           case rel=>exact ⟨(l5),(i1),(n9),(wrap64 (b5 + 1)),(d4),(d5),(by first | rfl | (simp;done) | (simp [*];done)),(by first | rfl | (simp;done) | (simp [*];done)),H',⟨by have:=m2.out;have:=m4.out;have:=m5.out;have:=m3.out;omega⟩,⟨by (with_reducible repeat (first | apply Kd.R_alloc | apply Kd.R_drewN | apply Kd.R_drew));exact b8.out⟩,⟨by (with_reducible repeat (first | apply Kd.R_alloc | apply Kd.R_drewN | apply Kd.R_drew));exact b9.out⟩,⟨by (with_reducible repeat (first | refine blk_drewN ?_ _ | refine blk_drew ?_ | refine blk_alloc ?_ _));exact b1.out⟩,⟨bl HB⟩⟩
          subst D3
          rw [if_pos rfl] at H
          replace H:=gd H
          obtain ⟨M7,H⟩:=H
          have c116b0:=decide_eq_true M7
          clear M7
          obtain ⟨F1,r8⟩:∃ b_:Bool,b_ = (rdOf false i1 b5):=⟨_,rfl⟩
          replace H:(if F1 = true then (numnahref07_Fair.l4 k4 l0 l1 l5 i1 n9 e2 (wrap64 (b5 + 1)) d4 d5) else ((numnahref07_Reduced.f k4 (wrap64 (d4 * ((rd_T45 l1 b5).f0))) d5).bind fun n8=>(if b5 < (l5.length:Int) then (numnahref07_Fair.l4 k4 l0 l1 (l5.set (b5:Int).toNat (⟨n8.1,n8.2⟩:S23)) (i1.set (b5:Int).toNat true) (wrap64 (n9 - 1)) e2 (wrap64 (b5 + 1)) d4 d5) else (none)))) = some r:=by rw [← r8] at H;exact H
          have A3:=A_ r8
          clear r8
          by_cases D4:F1 = true
          ·subst D4
           rw [if_pos rfl] at H
           have H':=A_ H
           clear H
           have o5:0 ≤ (b5:Int):=of_decide_eq_true (by first | (with_reducible assumption) | assumption)
           have o6:b5 < (l1.length:Int):=of_decide_eq_true (by first | (with_reducible assumption) | assumption)
           obtain ⟨q6,o7,o8,A2,h1,h2,i4,i5⟩:=at_T45 t1.out b5 o5 o6
           cases A2
           replace h1:=(HB.out.cell (World.block_lt_of_cell? w _ h1)).trans h1
           replace h2:=(HB.out.cell (World.block_lt_of_cell? w _ h2)).trans h2
           have m7:=A_ i5
           have m8:=A_ i4
           clear i5 i4
           replace o5:=eq_true o5
           replace o6:=eq_true o6
           go_wp2_with (first | ((with_reducible refine gate_callee (f:=77) rfl ?_);refine gL (some 122) Try.func77 #[.agg #[.int .i64 ((rd_T45 l1 b5).f0),.slice o7 ((rd_T45 l1 b5).f1).length o8],.int .i64 e2] ?_;(with_reducible refine (numnahref07_Has.calls k4 ((rd_T45 l1 b5).f0) _ _ ((rd_T45 l1 b5).f1) e2 true _ ?side1 ?side2 H9.out).mono ?_);(case side1=>exact cB m7 HB);(case side2=>exact m8.out);rintro e w119 ⟨rfl,hb⟩;refine ⟨_,rfl,?_⟩;replace b8:=rB b8 hb;replace b9:=rB b9 hb;replace b1:=kB b1 hb;replace HB:=bB HB hb;(try clear hb);obtain ⟨Ao120,co120,M8⟩:=Kd.R_slice b9.out;subst M8;have r9:0 ≤ (b5:Int):=of_decide_eq_true (by first | (with_reducible assumption) | assumption);have s0:b5 < (i1.length:Int):=of_decide_eq_true (by first | (with_reducible assumption) | assumption);obtain ⟨F2,I0,o1⟩:=Kd.at_bool (Kd.R_reads' b9.out).2.2 b5 r9 s0;(try rw [← A3.out] at o1);cases I0;replace r9:=eq_true r9;replace s0:=eq_true s0))
           go_roundg k4
           case measure=>have:=m2.out;have:=m4.out;have:=m5.out;have:=m3.out;omega
           case rel=>exact ⟨(l5),(i1),(n9),(wrap64 (b5 + 1)),(d4),(d5),(by first | rfl | (simp;done) | (simp [*];done)),(by first | rfl | (simp;done) | (simp [*];done)),H',⟨by have:=m2.out;have:=m4.out;have:=m5.out;have:=m3.out;omega⟩,⟨by (with_reducible repeat (first | apply Kd.R_alloc | apply Kd.R_drewN | apply Kd.R_drew));exact b8.out⟩,⟨by (with_reducible repeat (first | apply Kd.R_alloc | apply Kd.R_drewN | apply Kd.R_drew));exact b9.out⟩,⟨by (with_reducible repeat (first | refine blk_drewN ?_ _ | refine blk_drew ?_ | refine blk_alloc ?_ _));exact b1.out⟩,⟨bl HB⟩⟩
          replace D4:=Bool.eq_false_iff.mpr D4
          subst D4
          rw [if_neg (show ¬ (false = true) by decide)] at H
          replace H:=Option.bind_eq_some_iff.mp H
          obtain ⟨⟨o9,p0⟩,A1210,H⟩:=H
          dsimp only at H
          have A121:=A_ A1210
          clear A1210
          replace H:=gd H
          obtain ⟨M9,H⟩:=H
          have c122b0:=decide_eq_true M9
          clear M9
          obtain ⟨N0,A4⟩:∃ y_:List (S23),y_ = (l5.set (b5:Int).toNat (⟨o9,p0⟩:S23)):=⟨_,rfl⟩
          rw [← A4] at H
          have N1:=A_ A4
          clear A4
          obtain ⟨N2,A5⟩:∃ y_:List Bool,y_ = (i1.set (b5:Int).toNat true):=⟨_,rfl⟩
          rw [← A5] at H
          have N3:=A_ A5
          clear A5
          have H':=A_ H
          clear H
          have o5:0 ≤ (b5:Int):=of_decide_eq_true (by first | (with_reducible assumption) | assumption)
          have o6:b5 < (l1.length:Int):=of_decide_eq_true (by first | (with_reducible assumption) | assumption)
          obtain ⟨q6,o7,o8,A2,h1,h2,i4,i5⟩:=at_T45 t1.out b5 o5 o6
          cases A2
          replace h1:=(HB.out.cell (World.block_lt_of_cell? w _ h1)).trans h1
          replace h2:=(HB.out.cell (World.block_lt_of_cell? w _ h2)).trans h2
          have m7:=A_ i5
          have m8:=A_ i4
          clear i5 i4
          replace o5:=eq_true o5
          replace o6:=eq_true o6
          try go_wp2_with (first | ((with_reducible refine gate_callee (f:=77) rfl ?_);refine gL (some 122) Try.func77 #[.agg #[.int .i64 ((rd_T45 l1 b5).f0),.slice o7 ((rd_T45 l1 b5).f1).length o8],.int .i64 e2] ?_;(with_reducible refine (numnahref07_Has.calls k4 ((rd_T45 l1 b5).f0) _ _ ((rd_T45 l1 b5).f1) e2 true _ ?side1 ?side2 H9.out).mono ?_);(case side1=>exact cB m7 HB);(case side2=>exact m8.out);rintro e w125 ⟨rfl,hb⟩;refine ⟨_,rfl,?_⟩;replace b8:=rB b8 hb;replace b9:=rB b9 hb;replace b1:=kB b1 hb;replace HB:=bB HB hb;(try clear hb);obtain ⟨Ao126,A6,N4⟩:=Kd.R_slice b9.out;subst N4;have r9:0 ≤ (b5:Int):=of_decide_eq_true (by first | (with_reducible assumption) | assumption);have s0:b5 < (i1.length:Int):=of_decide_eq_true (by first | (with_reducible assumption) | assumption);obtain ⟨F2,I0,o1⟩:=Kd.at_bool (Kd.R_reads' b9.out).2.2 b5 r9 s0;(try rw [← A3.out] at o1);cases I0;replace r9:=eq_true r9;replace s0:=eq_true s0))
          replace b8:=rD b8
          replace b9:=rD b9
          replace b1:=kD b1
          replace HB:=bD HB
          have I1:0 ≤ (b5:Int):=of_decide_eq_true (by first | (with_reducible assumption) | assumption)
          have I2:b5 < (l1.length:Int):=of_decide_eq_true (by first | (with_reducible assumption) | assumption)
          obtain ⟨N5,I3,I4,e868,m9,n0,t3,t4⟩:=at_T45 t1.out b5 I1 I2
          have o2:=n0
          have o3:=m9
          obtain rfl:q6 = N5:=(by injection e868)
          replace m9:=(HB.out.cell (World.block_lt_of_cell? w _ m9)).trans m9
          replace n0:=(HB.out.cell (World.block_lt_of_cell? w _ n0)).trans n0
          have D5:=A_ t4
          have T0:=A_ t3
          clear t4 t3
          replace I1:=eq_true I1
          replace I2:=eq_true I2
          refine start_ (n:=15) (S:=fun w'=>w'.cell? ⟨d3,0,none⟩ = some (.int .i64 d4) ∧ w'.cell? ⟨d3,1,none⟩ = some (.int .i64 d5) ∧ w'.cell? (q6.add ((b5).toNat * 2)) = some (.int .i64 ((rd_T45 l1 b5).f0)) ∧ w'.cell? ⟨(q6.add ((b5).toNat * 2)).block,(q6.add ((b5).toNat * 2)).off + 1,none⟩ = some (.slice I3 ((rd_T45 l1 b5).f1).length I4)) (ds:=[14]) (ba 15 0) (by kernel_rfl) rfl rfl ⟨cz b1 0,cz b1 1,((HB.out.cell (World.block_lt_of_cell? w _ o3)).trans o3),((HB.out.cell (World.block_lt_of_cell? w _ o2)).trans o2)⟩ (fun hHeld=>?_);refine with_tabW numnahref07_Fair.tab30 numnahref07_Fair.bits30 (fun HT_ HW_=>?_)
          generalize w125.drew = w127 at b8 b9 b1 HB D5 m9 n0 hHeld ⊢
          refine pq 0 130 1 HT_ ?_
          refine pq 1 131 3 HT_ ?_
          refine pq 2 132 7 HT_ ?_
          refine pq 4 134 23 HT_ ?_
          refine pq 5 135 55 HT_ ?_
          refine pq 6 136 119 HT_ ?_
          refine pq 7 137 247 HT_ ?_
          refine pq 10 140 1271 HT_ ?_
          refine tq 3 133 1279 HT_ HW_ hHeld ?_
          refine tq 8 138 1535 HT_ HW_ hHeld ?_
          refine pq 9 139 2047 HT_ ?_
          refine tq 11 141 4095 HT_ HW_ hHeld ?_
          refine oq 12 142 8191 HT_ (fun K hK=>?_)
          refine gq Try.func34 #[.int .i64 (wrap64 (d4 * ((rd_T45 l1 b5).f0))),.int .i64 d5] ?_
          with_reducible refine (numnahref07_Reduced.calls k4 (wrap64 (d4 * ((rd_T45 l1 b5).f0))) d5 o9 p0 _ A121.out).mono ?_
          rintro e A7 ⟨rfl,hb⟩
          refine ⟨_,rfl,?_⟩
          replace b8:=rB b8 hb
          replace b9:=rB b9 hb
          replace b1:=kB b1 hb
          replace HB:=bB HB hb
          (try clear hb)
          have I5:0 ≤ (b5:Int):=of_decide_eq_true (by first | (with_reducible assumption) | assumption)
          have I6:(b5:Int) < ((l5.length:Int):Int):=of_decide_eq_true (by first | (with_reducible assumption) | assumption)
          obtain ⟨h6,N6,F3,F4,N7,cl123,F5⟩:=Kd.R_form b8.out (by omega)
          (first | cases F3 | (injection F3 with ea_ en_ ec_;(first | subst ea_ | (injection ea_ with ea_;subst ea_));subst ec_;clear en_))
          have GB123:=A_ F4
          have N8:=A_ F5
          clear F4 N7 F5
          obtain ⟨ce123,I7,F6,s1,s2⟩:=Kd.R_elem b8.out z23 (b5:Int) I5 I6
          obtain rfl:=k23_openM F6
          have U0:World.cell? _ ⟨h6,(b5:Int).toNat * 2,none⟩ = some (.int .i64 ((rd_T23 l5 b5).f0)):=s1 0 _ rfl
          have U1:World.cell? _ ⟨h6,(b5:Int).toNat * 2 + 1,none⟩ = some (.int .i64 ((rd_T23 l5 b5).f1)):=s1 1 _ rfl
          have U2:World.frozen? _ ⟨h6,(b5:Int).toNat * 2,none⟩ = false:=s2 0
          have U3:World.frozen? _ ⟨h6,(b5:Int).toNat * 2 + 1,none⟩ = false:=s2 1
          clear I7 s1 s2 F6
          replace I5:=eq_true I5
          replace I6:=eq_true I6
          obtain ⟨ce129,A8,F7,A9,I8⟩:=Kd.R_elem b8.out z23 (b5:Int) (of_decide_eq_true (by first | (with_reducible assumption) | assumption)) (by have h_:(b5:Int) < ((l5.length:Int):Int):=of_decide_eq_true (by first | (with_reducible assumption) | assumption);first | exact h_ | (have e_:=(Kd.R_reads' b8.out).1;omega) | simpa using h_)
          obtain rfl:=k23_openM F7
          have B0:=(Kd.R_seg b8.out (b5:Int) (of_decide_eq_true (by first | (with_reducible assumption) | assumption)) (by have h_:(b5:Int) < ((l5.length:Int):Int):=of_decide_eq_true (by first | (with_reducible assumption) | assumption);first | exact h_ | (have e_:=(Kd.R_reads' b8.out).1;omega) | simpa using h_) (seg:=[.int .i64 o9,.int .i64 p0]) (j:=0) A8 A9 (show 2 ≤ 2 from by decide) (x':=(⟨o9,p0⟩:S23)) (k23_mkM _ _ _ (⟨o9,p0⟩:S23) ) (fun _ hk=>hk)).1
          rw [← N1.out] at B0
          have N9:=A_ B0
          clear A8 A9 I8 F7 B0
          refine hK.out _ _ ⟨cz b1 0,cz b1 1,((HB.out.cell (World.block_lt_of_cell? w _ o3)).trans o3),((HB.out.cell (World.block_lt_of_cell? w _ o2)).trans o2)⟩ (fun hHeld=>?_)
          clear hK K
          refine nq 142 ?_
          refine pq 13 143 16383 HT_ ?_
          refine last_ (i:=14) (N:=none) (ba 15 32767) rfl rfl (one_of HT_.out (by kernel_rfl)) (by decide) (fun K hK=>?_)
          refine skip_ (w1:=?_) (by rfl) rfl ?_ ?_
          rotate_left
          ·go_simp
           rfl
          refine hK.out _ _ ?_
          clear hK K
          refine done_ (done_of HT_.out (by kernel_rfl)) ?_
          have n0_:Aside0 (Kd.R k23 23 ((A7.setCell ⟨h6,(b5:Int).toNat * 2,none⟩ (.int .i64 o9)).setCell ⟨h6,(b5:Int).toNat * 2 + 1,none⟩ (.int .i64 p0)) w.heap.size (fun k_=>k_ ≠ d3) (.slice (some ⟨h6,0,none⟩) l5.length N6) N0):=⟨by (with_reducible repeat (first | apply Kd.R_alloc | apply Kd.R_drewN | apply Kd.R_drew));exact N9.out⟩
          have n1_:Aside0 (Kd.R Kd.bool 4 ((A7.setCell ⟨h6,(b5:Int).toNat * 2,none⟩ (.int .i64 o9)).setCell ⟨h6,(b5:Int).toNat * 2 + 1,none⟩ (.int .i64 p0)) w.heap.size (fun _=>True) (.slice (some F2) i1.length A6) i1):=⟨by (with_reducible repeat (first | apply Kd.R_alloc | apply Kd.R_drewN | apply Kd.R_drew));exact Kd.R_mono (Kd.R_far (p:=⟨h6,(b5:Int).toNat * 2 + 1,none⟩) (Kd.R_far (p:=⟨h6,(b5:Int).toNat * 2,none⟩) (Kd.R_types b9.out N8.out (by decide)) (fun _ hk=>hk.2) (.int .i64 o9)) (fun _ hk=>hk.2) (.int .i64 p0)) (fun _ hk=>trivial)⟩
          have n2_:Aside0 (((A7.setCell ⟨h6,(b5:Int).toNat * 2,none⟩ (.int .i64 o9)).setCell ⟨h6,(b5:Int).toNat * 2 + 1,none⟩ (.int .i64 p0)).heap[d3]? = some (.cells #[.int .i64 d4,.int .i64 d5] 23 (0,0))):=⟨by (with_reducible repeat (first | refine blk_drewN ?_ _ | refine blk_drew ?_ | refine blk_alloc ?_ _));refine blk_far ?_ (by have h_:=Kd.R_away b8.out (fun _ hk=>hk);intro e_;exact h_ (by rw [e_];rfl)) _;(with_reducible repeat (first | refine blk_drewN ?_ _ | refine blk_drew ?_ | refine blk_alloc ?_ _));refine blk_far ?_ (by have h_:=Kd.R_away b8.out (fun _ hk=>hk);intro e_;exact h_ (by rw [e_];rfl)) _;(with_reducible repeat (first | refine blk_drewN ?_ _ | refine blk_drew ?_ | refine blk_alloc ?_ _));exact b1.out⟩
          have n3_:Aside0 (Below w.heap.size w ((A7.setCell ⟨h6,(b5:Int).toNat * 2,none⟩ (.int .i64 o9)).setCell ⟨h6,(b5:Int).toNat * 2 + 1,none⟩ (.int .i64 p0))):=⟨bl HB⟩
          generalize ((A7.setCell ⟨h6,(b5:Int).toNat * 2,none⟩ (.int .i64 o9)).setCell ⟨h6,(b5:Int).toNat * 2 + 1,none⟩ (.int .i64 p0)) = O0 at n0_ n1_ n2_ n3_ ⊢
          have b8:=n0_
          have b9:=n1_
          have b1:=n2_
          have HB:=n3_
          clear n0_ n1_ n2_ n3_
          have I9:0 ≤ (b5:Int):=of_decide_eq_true (by first | (with_reducible assumption) | assumption)
          have J0:(b5:Int) < ((i1.length:Int):Int):=of_decide_eq_true (by first | (with_reducible assumption) | assumption)
          obtain ⟨t5,co124,F8,F9,O1,cl124,G0⟩:=Kd.R_form b9.out (by omega)
          (first | cases F8 | (injection F8 with ea_ en_ ec_;(first | subst ea_ | (injection ea_ with ea_;subst ea_));subst ec_;clear en_))
          have O2:=A_ F9
          have GG124:=A_ G0
          clear F9 O1 G0
          (first | simp only [add_plain] at o1 | skip)
          obtain ⟨U4,U5⟩:=Kd.R_celln false b9.out (b5:Int) I9 J0
          replace I9:=eq_true I9
          replace J0:=eq_true J0
          obtain ⟨hy131_,hz131_⟩:=Kd.R_celln false b9.out (b5:Int) (of_decide_eq_true (by first | (with_reducible assumption) | assumption)) (of_decide_eq_true (by first | (with_reducible assumption) | assumption))
          have C0:=Kd.R_putg b9.out (b5:Int) true
          try go_wp2_with (first | ((with_reducible refine gate_store (t:=4) (p:=146) rfl ?_);refine store_event (t:=4) (p:=146) (v:=?vo_w132) (w1:=(O0.setCell ⟨t5,(b5:Int).toNat,none⟩ (.bool true))) ?hg ?ho ?hn ?hr ?_;(case ho=>rfl);(case hg=>rfl);(case hn=>rfl);(case hr=>first | (go_simp;done) | (go_simp;rfl));intro J1 hw;have hg:O0.grownBy J1 (some t5):=(by rw [hw];exact C0.2);have hp_:Kd.R Kd.bool 4 J1 w.heap.size (fun _=>True) (.slice (some ⟨t5,0,none⟩) i1.length A6) N2:=(by rw [hw,N3.out];exact C0.1);clear C0;replace b8:=A_ (Kd.R_over' (v:=(.slice (some ⟨t5,0,none⟩) i1.length A6)) (rs b8) (Kd.R_typed b9.out) (by decide) hg);replace b1:=A_ (blk_grown (g:=d3) (o:=.cells #[.int .i64 d4,.int .i64 d5] 23 (0,0)) (kb b1) hg (Kd.R_ne b9.out b1.out (by decide)));replace b9:=A_ hp_;replace HB:=A_ ((by rw [hw];exact below_set (HB.out) O2.out:Below w.heap.size w J1));clear hg hw hp_))
          go_roundg k4
          case measure=>have:=m2.out;have:=m4.out;have:=m5.out;have:=m3.out;omega
          case rel=>exact ⟨(N0),(N2),(wrap64 (n9 - 1)),(wrap64 (b5 + 1)),(d4),(d5),(by first | rfl | (simp;done) | (simp [*];done)),(by first | rfl | (simp;done) | (simp [*];done)),H',⟨by have:=m2.out;have:=m4.out;have:=m5.out;have:=m3.out;omega⟩,⟨by (with_reducible repeat (first | apply Kd.R_alloc | apply Kd.R_drewN | apply Kd.R_drew));exact b8.out⟩,⟨by (with_reducible repeat (first | apply Kd.R_alloc | apply Kd.R_drewN | apply Kd.R_drew));exact b9.out⟩,⟨by (with_reducible repeat (first | refine blk_drewN ?_ _ | refine blk_drew ?_ | refine blk_alloc ?_ _));exact b1.out⟩,⟨bl HB⟩⟩
       rw [if_pos K6] at H
       have M5:=decide_eq_true K6
       clear K6
       replace H:=gd H
       obtain ⟨c22,H⟩:=H
       have c22b0:=decide_eq_true c22
       clear c22
       replace H:=Option.bind_eq_some_iff.mp H
       obtain ⟨⟨C1,D6⟩,A230,H⟩:=H
       dsimp only at H
       have A23:=A_ A230
       clear A230
       have H':=A_ H
       clear H
       have J2:0 ≤ (d2:Int):=of_decide_eq_true (by first | (with_reducible assumption) | assumption)
       have J3:d2 < (l0.length:Int):=of_decide_eq_true (by first | (with_reducible assumption) | assumption)
       obtain ⟨ad843,e843,q7⟩:=Kd.at_int HR0.out d2 J2 J3
       cases e843
       replace q7:=(HB.out.cell (World.block_lt_of_cell? w _ q7)).trans q7
       replace J2:=eq_true J2
       replace J3:=eq_true J3
       go_wp2_with (first | ((with_reducible refine gate_callee (f:=23) rfl ?_);refine gL (some 48) Try.func23 #[.int .i64 (rd l0 d2)] ?_;(with_reducible refine (numnahref07_Whole.calls (rd l0 d2) C1 D6 _ A23.out).mono ?_);rintro e w24 ⟨rfl,hb⟩;refine ⟨_,rfl,?_⟩;replace b8:=rB b8 hb;replace b9:=rB b9 hb;replace b1:=kB b1 hb;replace HB:=bB HB hb;(try clear hb)) | ((with_reducible refine gate_dst (N:=12) rfl ?_);refine bx 12 #[.int .i64 0,.int .i64 0] 23 ?_;intro d0 hg w25 hbox hb;have b3:=A_ hbox;have p1:=gw hg HB;have GE846:=p1;have d6:=nl hg b1;have e9:=ng hg b1;replace b8:=A_ (Kd.R_below (Kd.R_elderB (rs b8) d0 (Nat.le_of_eq hg.symm)) hb);replace b9:=rB b9 hb;replace b1:=kB b1 hb;replace HB:=bB HB hb;clear hb hbox hg;have hnb26:=e9.out;have hnc26:=d6.out;have U6:w25.cell? ⟨d0,0,none⟩ = some (.int .i64 0):=cz b3 0;have U7:w25.cell? ⟨d0,1,none⟩ = some (.int .i64 0):=cz b3 1;have U8:=blk_frozen b3.out 0;have U9:=blk_frozen b3.out 1))
       go_loopg [13,14] k3 (fun kq v13 v14 w'=>∃ (e3:Int) (b0:Int) (b4:Int) (b2:Int),v13 = .int .i64 e3 ∧ v14 = .int .i64 b0 ∧ Aside0 (numnahref07_Fair.l3 kq l0 l1 e5 e7 i0 e2 d2 e3 b0 b7 b6 b4 b2 = some r) ∧ Aside0 (kq ≤ k3) ∧ Aside0 (Kd.R k23 23 w' w.heap.size (fun k_=>k_ ≠ d3 ∧ k_ ≠ d0) x3 e5) ∧ Aside0 (Kd.R Kd.bool 4 w' w.heap.size (fun _=>True) x4 e7) ∧ Aside0 (w'.heap[d3]? = some (.cells #[.int .i64 b7,.int .i64 b6] 23 (0,0))) ∧ Aside0 (w'.heap[d0]? = some (.cells #[.int .i64 b4,.int .i64 b2] 23 (0,0))) ∧ Aside0 (Below w.heap.size w w'))
       case atStart=>exact ⟨(0),(0),(C1),(D6),(by first | rfl | (simp;done) | (simp [*];done)),(by first | rfl | (simp;done) | (simp [*];done)),H',⟨Nat.le_refl _⟩,⟨by (with_reducible repeat (first | apply Kd.R_alloc | apply Kd.R_drewN | apply Kd.R_drew));exact Kd.R_mono (Kd.R_far (p:=⟨d0,1,none⟩) (Kd.R_far (p:=⟨d0,0,none⟩) (Kd.R_mono b8.out (fun k_ hk=>(⟨hk,hk.2⟩:_ ∧ k_ ≠ d0))) (fun _ hk=>hk.2) (.int .i64 C1)) (fun _ hk=>hk.2) (.int .i64 D6)) (fun _ hk=>⟨hk.1.1,hk.1.2⟩)⟩,⟨by (with_reducible repeat (first | apply Kd.R_alloc | apply Kd.R_drewN | apply Kd.R_drew));exact Kd.R_mono (Kd.R_far (p:=⟨d0,1,none⟩) (Kd.R_far (p:=⟨d0,0,none⟩) (Kd.R_types b9.out b3.out (by decide)) (fun _ hk=>hk.2) (.int .i64 C1)) (fun _ hk=>hk.2) (.int .i64 D6)) (fun _ hk=>trivial)⟩,⟨by (with_reducible repeat (first | refine blk_drewN ?_ _ | refine blk_drew ?_ | refine blk_alloc ?_ _));refine blk_far ?_ d6.out _;(with_reducible repeat (first | refine blk_drewN ?_ _ | refine blk_drew ?_ | refine blk_alloc ?_ _));refine blk_far ?_ d6.out _;(with_reducible repeat (first | refine blk_drewN ?_ _ | refine blk_drew ?_ | refine blk_alloc ?_ _));exact b1.out⟩,⟨by (with_reducible repeat (first | refine blk_drewN ?_ _ | refine blk_drew ?_ | refine blk_alloc ?_ _));refine blk_put (cs:=#[.int .i64 C1,.int .i64 0]) ?_ 1 _ rfl;(with_reducible repeat (first | refine blk_drewN ?_ _ | refine blk_drew ?_ | refine blk_alloc ?_ _));refine blk_put (cs:=#[.int .i64 0,.int .i64 0]) ?_ 0 _ rfl;(with_reducible repeat (first | refine blk_drewN ?_ _ | refine blk_drew ?_ | refine blk_alloc ?_ _));exact b3.out⟩,⟨bl HB⟩⟩
       case round =>
        clear H'
        obtain ⟨e3,b0,b4,b2,rfl,rfl,HA,m3,b8,b9,b1,b3,HB⟩:=hrel
        cases gk with
        | zero=>exact absurd HA.out (by simp [numnahref07_Fair.l3])
        | succ k4 =>
         have H:=HA.out
         clear HA
         simp only [numnahref07_Fair.l3] at H
         by_cases K7:b0 < (l1.length:Int)
         case neg =>
          rw [if_neg K7] at H
          have O3:=decide_eq_false K7
          clear K7
          by_cases J4:e3 = 0
          ·rw [if_pos J4] at H
           have O4:(e3 == 0) = true:=beq_iff_eq.mpr J4
           have O5:(e3 != 0) = false:=bne_eq_false_iff_eq.mpr J4
           clear J4
           have H':=A_ H
           clear H
           go_wp2
           go_roundg k4
           case measure=>have:=m2.out;have:=m4.out;have:=m5.out;have:=m3.out;omega
           case rel=>exact ⟨(e2),(wrap64 (d2 + 1)),(b7),(b6),(by first | rfl | (simp;done) | (simp [*];done)),(by first | rfl | (simp;done) | (simp [*];done)),H',⟨by have:=m2.out;have:=m4.out;have:=m5.out;have:=m3.out;omega⟩,⟨by (with_reducible repeat (first | apply Kd.R_alloc | apply Kd.R_drewN | apply Kd.R_drew));exact Kd.R_mono b8.out (fun _ hk=>hk.1)⟩,⟨by (with_reducible repeat (first | apply Kd.R_alloc | apply Kd.R_drewN | apply Kd.R_drew));exact b9.out⟩,⟨by (with_reducible repeat (first | refine blk_drewN ?_ _ | refine blk_drew ?_ | refine blk_alloc ?_ _));exact b1.out⟩,⟨bl HB⟩⟩
          rw [if_neg J4] at H
          have O4:(e3 == 0) = false:=beq_eq_false_iff_ne.mpr J4
          have O5:(e3 != 0) = true:=bne_iff_ne.mpr J4
          replace H:=Option.bind_eq_some_iff.mp H
          obtain ⟨⟨h8,j9⟩,A800,H⟩:=H
          dsimp only at H
          have A80:=A_ A800
          clear A800
          by_cases K8:e2 < 0
          ·rw [if_pos K8] at H
           have O6:=decide_eq_true K8
           clear K8
           have H':=A_ H
           clear H
           have hnb82:=e9.out
           have hnc82:=d6.out
           have V0:wr.cell? ⟨d0,0,none⟩ = some (.int .i64 b4):=cz b3 0
           have V1:wr.cell? ⟨d0,1,none⟩ = some (.int .i64 b2):=cz b3 1
           have V2:=blk_frozen b3.out 0
           have V3:=blk_frozen b3.out 1
           go_wp2_with (first | ((with_reducible refine gate_callee (f:=34) rfl ?_);refine gL (some 101) Try.func34 #[.int .i64 b4,.int .i64 (wrap64 (b2 * e3))] ?_;(with_reducible refine (numnahref07_Reduced.calls k4 b4 (wrap64 (b2 * e3)) h8 j9 _ A80.out).mono ?_);rintro e w84 ⟨rfl,hb⟩;refine ⟨_,rfl,?_⟩;replace b8:=rB b8 hb;replace b9:=rB b9 hb;replace b1:=kB b1 hb;replace b3:=kB b3 hb;replace HB:=bB HB hb;(try clear hb)) | ((with_reducible refine gate_dst (N:=15) rfl ?_);refine bx 15 #[.int .i64 0,.int .i64 0] 23 ?_;intro e4 hg V4 hbox hb;have e8:=A_ hbox;have r7:=gw hg HB;have G1:=r7;have e6:=nl hg b1;have l6:=ng hg b1;have h0:=nl hg b3;have l7:=ng hg b3;replace b8:=A_ (Kd.R_below (Kd.R_elderB (rs b8) e4 (Nat.le_of_eq hg.symm)) hb);replace b9:=rB b9 hb;replace b1:=kB b1 hb;replace b3:=kB b3 hb;replace HB:=bB HB hb;clear hb hbox hg;have hnb86:=l6.out;have hnc86:=e6.out;have hnb87:=l7.out;have hnc87:=h0.out;have V5:V4.cell? ⟨e4,0,none⟩ = some (.int .i64 0):=cz e8 0;have V6:V4.cell? ⟨e4,1,none⟩ = some (.int .i64 0):=cz e8 1;have V7:=blk_frozen e8.out 0;have V8:=blk_frozen e8.out 1;have V9:V4.cell? ⟨d3,0,none⟩ = some (.int .i64 b7):=cz b1 0;have W0:V4.cell? ⟨d3,1,none⟩ = some (.int .i64 b6):=cz b1 1;have W1:=blk_frozen b1.out 0;have W2:=blk_frozen b1.out 1))
           go_roundg k4
           case measure=>have:=m2.out;have:=m4.out;have:=m5.out;have:=m3.out;omega
           case rel=>exact ⟨(d2),(wrap64 (d2 + 1)),(h8),(j9),(by first | rfl | (simp;done) | (simp [*];done)),(by first | rfl | (simp;done) | (simp [*];done)),H',⟨by have:=m2.out;have:=m4.out;have:=m5.out;have:=m3.out;omega⟩,⟨by (with_reducible repeat (first | apply Kd.R_alloc | apply Kd.R_drewN | apply Kd.R_drew));exact Kd.R_mono (Kd.R_far (p:=⟨d3,1,none⟩) (Kd.R_far (p:=⟨d3,0,none⟩) (Kd.R_far (p:=⟨e4,1,none⟩) (Kd.R_far (p:=⟨e4,0,none⟩) (Kd.R_mono (Kd.R_mono b8.out (fun k_ hk=>(⟨hk,hk.2⟩:_ ∧ k_ ≠ e4))) (fun k_ hk=>(⟨hk,hk.1.1.1⟩:_ ∧ k_ ≠ d3))) (fun _ hk=>hk.1.2) (.int .i64 h8)) (fun _ hk=>hk.1.2) (.int .i64 j9)) (fun _ hk=>hk.2) (.int .i64 h8)) (fun _ hk=>hk.2) (.int .i64 j9)) (fun _ hk=>hk.1.1.1.1)⟩,⟨by (with_reducible repeat (first | apply Kd.R_alloc | apply Kd.R_drewN | apply Kd.R_drew));exact Kd.R_mono (Kd.R_far (p:=⟨d3,1,none⟩) (Kd.R_far (p:=⟨d3,0,none⟩) (Kd.R_far (p:=⟨e4,1,none⟩) (Kd.R_far (p:=⟨e4,0,none⟩) (Kd.R_types (Kd.R_types b9.out e8.out (by decide)) b1.out (by decide)) (fun _ hk=>hk.1.2) (.int .i64 h8)) (fun _ hk=>hk.1.2) (.int .i64 j9)) (fun _ hk=>hk.2) (.int .i64 h8)) (fun _ hk=>hk.2) (.int .i64 j9)) (fun _ hk=>trivial)⟩,⟨by (with_reducible repeat (first | refine blk_drewN ?_ _ | refine blk_drew ?_ | refine blk_alloc ?_ _));refine blk_put (cs:=#[.int .i64 h8,.int .i64 b6]) ?_ 1 _ rfl;(with_reducible repeat (first | refine blk_drewN ?_ _ | refine blk_drew ?_ | refine blk_alloc ?_ _));refine blk_put (cs:=#[.int .i64 b7,.int .i64 b6]) ?_ 0 _ rfl;(with_reducible repeat (first | refine blk_drewN ?_ _ | refine blk_drew ?_ | refine blk_alloc ?_ _));refine blk_far ?_ e6.out _;(with_reducible repeat (first | refine blk_drewN ?_ _ | refine blk_drew ?_ | refine blk_alloc ?_ _));refine blk_far ?_ e6.out _;(with_reducible repeat (first | refine blk_drewN ?_ _ | refine blk_drew ?_ | refine blk_alloc ?_ _));exact b1.out⟩,⟨bl HB⟩⟩
          rw [if_neg K8] at H
          have O6:=decide_eq_false K8
          clear K8
          replace H:=Option.bind_eq_some_iff.mp H
          obtain ⟨C9,O7,H⟩:=H
          replace H:(if C9 = true then (numnahref07_Fair.l2 k4 l0 l1 e5 e7 i0 d2 (wrap64 (d2 + 1)) h8 j9) else (numnahref07_Fair.l2 k4 l0 l1 e5 e7 i0 e2 (wrap64 (d2 + 1)) b7 b6)) = some r:=H
          have A90:=A_ O7
          clear O7
          by_cases W3:C9 = true
          case neg =>
           replace W3:=Bool.eq_false_iff.mpr W3
           subst W3
           rw [if_neg (show ¬ (false = true) by decide)] at H
           have H':=A_ H
           clear H
           have hnb103:=e9.out
           have hnc103:=d6.out
           have O8:wr.cell? ⟨d0,0,none⟩ = some (.int .i64 b4):=cz b3 0
           have O9:wr.cell? ⟨d0,1,none⟩ = some (.int .i64 b2):=cz b3 1
           have P0:=blk_frozen b3.out 0
           have P1:=blk_frozen b3.out 1
           go_wp2_with (first | ((with_reducible refine gate_callee (f:=34) rfl ?_);refine gL (some 101) Try.func34 #[.int .i64 b4,.int .i64 (wrap64 (b2 * e3))] ?_;(with_reducible refine (numnahref07_Reduced.calls k4 b4 (wrap64 (b2 * e3)) h8 j9 _ A80.out).mono ?_);rintro e w105 ⟨rfl,hb⟩;refine ⟨_,rfl,?_⟩;replace b8:=rB b8 hb;replace b9:=rB b9 hb;replace b1:=kB b1 hb;replace b3:=kB b3 hb;replace HB:=bB HB hb;(try clear hb)) | ((with_reducible refine gate_dst (N:=15) rfl ?_);refine bx 15 #[.int .i64 0,.int .i64 0] 23 ?_;intro e4 hg D7 hbox hb;have e8:=A_ hbox;have r7:=gw hg HB;have G1:=r7;have e6:=nl hg b1;have l6:=ng hg b1;have h0:=nl hg b3;have l7:=ng hg b3;replace b8:=A_ (Kd.R_below (Kd.R_elderB (rs b8) e4 (Nat.le_of_eq hg.symm)) hb);replace b9:=rB b9 hb;replace b1:=kB b1 hb;replace b3:=kB b3 hb;replace HB:=bB HB hb;clear hb hbox hg;have hnb107:=l6.out;have hnc107:=e6.out;have hnb108:=l7.out;have hnc108:=h0.out;have P2:D7.cell? ⟨e4,0,none⟩ = some (.int .i64 0):=cz e8 0;have P3:D7.cell? ⟨e4,1,none⟩ = some (.int .i64 0):=cz e8 1;have P4:=blk_frozen e8.out 0;have P5:=blk_frozen e8.out 1;have P6:D7.cell? ⟨d3,0,none⟩ = some (.int .i64 b7):=cz b1 0;have P7:D7.cell? ⟨d3,1,none⟩ = some (.int .i64 b6):=cz b1 1;have P8:=blk_frozen b1.out 0;have P9:=blk_frozen b1.out 1) | (go_at_call 30;(with_reducible refine (numnahref07_Less.calls h8 j9 b7 b6 false _ A90.out).mono ?_);rintro e w111 ⟨rfl,hb⟩;replace b8:=A_ (Kd.R_below (by (with_reducible repeat (first | apply Kd.R_alloc | apply Kd.R_drewN | apply Kd.R_drew));exact (Kd.R_mono (Kd.R_far (p:=⟨e4,1,none⟩) (Kd.R_far (p:=⟨e4,0,none⟩) (Kd.R_mono b8.out (fun k_ hk=>(⟨hk,hk.2⟩:_ ∧ k_ ≠ e4))) (fun _ hk=>hk.2) (.int .i64 h8)) (fun _ hk=>hk.2) (.int .i64 j9)) (fun _ h_=>h_.1))) hb);replace b9:=A_ (Kd.R_below (by (with_reducible repeat (first | apply Kd.R_alloc | apply Kd.R_drewN | apply Kd.R_drew));exact (Kd.R_mono (Kd.R_far (p:=⟨e4,1,none⟩) (Kd.R_far (p:=⟨e4,0,none⟩) (Kd.R_types b9.out e8.out (by decide)) (fun _ hk=>hk.2) (.int .i64 h8)) (fun _ hk=>hk.2) (.int .i64 j9)) (fun _ h_=>h_.1))) hb);replace b1:=A_ (blk_below (g:=d3) (o:=.cells #[.int .i64 b7,.int .i64 b6] 23 (0,0)) (by (with_reducible repeat (first | refine blk_drewN ?_ _ | refine blk_drew ?_ | refine blk_alloc ?_ _));refine blk_far ?_ e6.out _;(with_reducible repeat (first | refine blk_drewN ?_ _ | refine blk_drew ?_ | refine blk_alloc ?_ _));refine blk_far ?_ e6.out _;(with_reducible repeat (first | refine blk_drewN ?_ _ | refine blk_drew ?_ | refine blk_alloc ?_ _));exact b1.out) hb);replace b3:=A_ (blk_below (g:=d0) (o:=.cells #[.int .i64 b4,.int .i64 b2] 23 (0,0)) (by (with_reducible repeat (first | refine blk_drewN ?_ _ | refine blk_drew ?_ | refine blk_alloc ?_ _));refine blk_far ?_ h0.out _;(with_reducible repeat (first | refine blk_drewN ?_ _ | refine blk_drew ?_ | refine blk_alloc ?_ _));refine blk_far ?_ h0.out _;(with_reducible repeat (first | refine blk_drewN ?_ _ | refine blk_drew ?_ | refine blk_alloc ?_ _));exact b3.out) hb);replace e8:=A_ (blk_below (g:=e4) (o:=.cells #[.int .i64 h8,.int .i64 j9] 23 (0,0)) (by (with_reducible repeat (first | refine blk_drewN ?_ _ | refine blk_drew ?_ | refine blk_alloc ?_ _));refine blk_put (cs:=#[.int .i64 h8,.int .i64 0]) ?_ 1 _ rfl;(with_reducible repeat (first | refine blk_drewN ?_ _ | refine blk_drew ?_ | refine blk_alloc ?_ _));refine blk_put (cs:=#[.int .i64 0,.int .i64 0]) ?_ 0 _ rfl;(with_reducible repeat (first | refine blk_drewN ?_ _ | refine blk_drew ?_ | refine blk_alloc ?_ _));exact e8.out) hb);replace HB:=bB HB hb;(try clear hb)))
           go_roundg k4
           case measure=>have:=m2.out;have:=m4.out;have:=m5.out;have:=m3.out;omega
           case rel=>exact ⟨(e2),(wrap64 (d2 + 1)),(b7),(b6),(by first | rfl | (simp;done) | (simp [*];done)),(by first | rfl | (simp;done) | (simp [*];done)),H',⟨by have:=m2.out;have:=m4.out;have:=m5.out;have:=m3.out;omega⟩,⟨by (with_reducible repeat (first | apply Kd.R_alloc | apply Kd.R_drewN | apply Kd.R_drew));exact Kd.R_mono b8.out (fun _ hk=>hk.1.1)⟩,⟨by (with_reducible repeat (first | apply Kd.R_alloc | apply Kd.R_drewN | apply Kd.R_drew));exact b9.out⟩,⟨by (with_reducible repeat (first | refine blk_drewN ?_ _ | refine blk_drew ?_ | refine blk_alloc ?_ _));exact b1.out⟩,⟨bl HB⟩⟩
          subst W3
          rw [if_pos rfl] at H
          have H':=A_ H
          clear H
          have hnb92:=e9.out
          have hnc92:=d6.out
          have W4:wr.cell? ⟨d0,0,none⟩ = some (.int .i64 b4):=cz b3 0
          have W5:wr.cell? ⟨d0,1,none⟩ = some (.int .i64 b2):=cz b3 1
          have W6:=blk_frozen b3.out 0
          have W7:=blk_frozen b3.out 1
          go_wp2_with (first | ((with_reducible refine gate_callee (f:=34) rfl ?_);refine gL (some 101) Try.func34 #[.int .i64 b4,.int .i64 (wrap64 (b2 * e3))] ?_;(with_reducible refine (numnahref07_Reduced.calls k4 b4 (wrap64 (b2 * e3)) h8 j9 _ A80.out).mono ?_);rintro e w94 ⟨rfl,hb⟩;refine ⟨_,rfl,?_⟩;replace b8:=rB b8 hb;replace b9:=rB b9 hb;replace b1:=kB b1 hb;replace b3:=kB b3 hb;replace HB:=bB HB hb;(try clear hb)) | ((with_reducible refine gate_dst (N:=15) rfl ?_);refine bx 15 #[.int .i64 0,.int .i64 0] 23 ?_;intro e4 hg W8 hbox hb;have e8:=A_ hbox;have r7:=gw hg HB;have G1:=r7;have e6:=nl hg b1;have l6:=ng hg b1;have h0:=nl hg b3;have l7:=ng hg b3;replace b8:=A_ (Kd.R_below (Kd.R_elderB (rs b8) e4 (Nat.le_of_eq hg.symm)) hb);replace b9:=rB b9 hb;replace b1:=kB b1 hb;replace b3:=kB b3 hb;replace HB:=bB HB hb;clear hb hbox hg;have hnb96:=l6.out;have hnc96:=e6.out;have hnb97:=l7.out;have hnc97:=h0.out;have W9:W8.cell? ⟨e4,0,none⟩ = some (.int .i64 0):=cz e8 0;have X0:W8.cell? ⟨e4,1,none⟩ = some (.int .i64 0):=cz e8 1;have X1:=blk_frozen e8.out 0;have X2:=blk_frozen e8.out 1;have X3:W8.cell? ⟨d3,0,none⟩ = some (.int .i64 b7):=cz b1 0;have X4:W8.cell? ⟨d3,1,none⟩ = some (.int .i64 b6):=cz b1 1;have X5:=blk_frozen b1.out 0;have X6:=blk_frozen b1.out 1) | (go_at_call 30;(with_reducible refine (numnahref07_Less.calls h8 j9 b7 b6 true _ A90.out).mono ?_);rintro e D8 ⟨rfl,hb⟩;replace b8:=A_ (Kd.R_below (by (with_reducible repeat (first | apply Kd.R_alloc | apply Kd.R_drewN | apply Kd.R_drew));exact (Kd.R_mono (Kd.R_far (p:=⟨e4,1,none⟩) (Kd.R_far (p:=⟨e4,0,none⟩) (Kd.R_mono b8.out (fun k_ hk=>(⟨hk,hk.2⟩:_ ∧ k_ ≠ e4))) (fun _ hk=>hk.2) (.int .i64 h8)) (fun _ hk=>hk.2) (.int .i64 j9)) (fun _ h_=>h_.1))) hb);replace b9:=A_ (Kd.R_below (by (with_reducible repeat (first | apply Kd.R_alloc | apply Kd.R_drewN | apply Kd.R_drew));exact (Kd.R_mono (Kd.R_far (p:=⟨e4,1,none⟩) (Kd.R_far (p:=⟨e4,0,none⟩) (Kd.R_types b9.out e8.out (by decide)) (fun _ hk=>hk.2) (.int .i64 h8)) (fun _ hk=>hk.2) (.int .i64 j9)) (fun _ h_=>h_.1))) hb);replace b1:=A_ (blk_below (g:=d3) (o:=.cells #[.int .i64 b7,.int .i64 b6] 23 (0,0)) (by (with_reducible repeat (first | refine blk_drewN ?_ _ | refine blk_drew ?_ | refine blk_alloc ?_ _));refine blk_far ?_ e6.out _;(with_reducible repeat (first | refine blk_drewN ?_ _ | refine blk_drew ?_ | refine blk_alloc ?_ _));refine blk_far ?_ e6.out _;(with_reducible repeat (first | refine blk_drewN ?_ _ | refine blk_drew ?_ | refine blk_alloc ?_ _));exact b1.out) hb);replace b3:=A_ (blk_below (g:=d0) (o:=.cells #[.int .i64 b4,.int .i64 b2] 23 (0,0)) (by (with_reducible repeat (first | refine blk_drewN ?_ _ | refine blk_drew ?_ | refine blk_alloc ?_ _));refine blk_far ?_ h0.out _;(with_reducible repeat (first | refine blk_drewN ?_ _ | refine blk_drew ?_ | refine blk_alloc ?_ _));refine blk_far ?_ h0.out _;(with_reducible repeat (first | refine blk_drewN ?_ _ | refine blk_drew ?_ | refine blk_alloc ?_ _));exact b3.out) hb);replace e8:=A_ (blk_below (g:=e4) (o:=.cells #[.int .i64 h8,.int .i64 j9] 23 (0,0)) (by (with_reducible repeat (first | refine blk_drewN ?_ _ | refine blk_drew ?_ | refine blk_alloc ?_ _));refine blk_put (cs:=#[.int .i64 h8,.int .i64 0]) ?_ 1 _ rfl;(with_reducible repeat (first | refine blk_drewN ?_ _ | refine blk_drew ?_ | refine blk_alloc ?_ _));refine blk_put (cs:=#[.int .i64 0,.int .i64 0]) ?_ 0 _ rfl;(with_reducible repeat (first | refine blk_drewN ?_ _ | refine blk_drew ?_ | refine blk_alloc ?_ _));exact e8.out) hb);replace HB:=bB HB hb;(try clear hb);have Q0:D8.cell? ⟨e4,0,none⟩ = some (.int .i64 h8):=cz e8 0;have Q1:D8.cell? ⟨e4,1,none⟩ = some (.int .i64 j9):=cz e8 1;have Q2:=blk_frozen e8.out 0;have Q3:=blk_frozen e8.out 1;have Q4:D8.cell? ⟨d3,0,none⟩ = some (.int .i64 b7):=cz b1 0;have Q5:D8.cell? ⟨d3,1,none⟩ = some (.int .i64 b6):=cz b1 1;have Q6:=blk_frozen b1.out 0;have Q7:=blk_frozen b1.out 1))
          go_roundg k4
          case measure=>have:=m2.out;have:=m4.out;have:=m5.out;have:=m3.out;omega
          case rel=>exact ⟨(d2),(wrap64 (d2 + 1)),(h8),(j9),(by first | rfl | (simp;done) | (simp [*];done)),(by first | rfl | (simp;done) | (simp [*];done)),H',⟨by have:=m2.out;have:=m4.out;have:=m5.out;have:=m3.out;omega⟩,⟨by (with_reducible repeat (first | apply Kd.R_alloc | apply Kd.R_drewN | apply Kd.R_drew));exact Kd.R_mono (Kd.R_far (p:=⟨d3,1,none⟩) (Kd.R_far (p:=⟨d3,0,none⟩) (Kd.R_mono b8.out (fun k_ hk=>(⟨hk,hk.1.1⟩:_ ∧ k_ ≠ d3))) (fun _ hk=>hk.2) (.int .i64 h8)) (fun _ hk=>hk.2) (.int .i64 j9)) (fun _ hk=>hk.1.1.1)⟩,⟨by (with_reducible repeat (first | apply Kd.R_alloc | apply Kd.R_drewN | apply Kd.R_drew));exact Kd.R_mono (Kd.R_far (p:=⟨d3,1,none⟩) (Kd.R_far (p:=⟨d3,0,none⟩) (Kd.R_types b9.out b1.out (by decide)) (fun _ hk=>hk.2) (.int .i64 h8)) (fun _ hk=>hk.2) (.int .i64 j9)) (fun _ hk=>trivial)⟩,⟨by (with_reducible repeat (first | refine blk_drewN ?_ _ | refine blk_drew ?_ | refine blk_alloc ?_ _));refine blk_put (cs:=#[.int .i64 h8,.int .i64 b6]) ?_ 1 _ rfl;(with_reducible repeat (first | refine blk_drewN ?_ _ | refine blk_drew ?_ | refine blk_alloc ?_ _));refine blk_put (cs:=#[.int .i64 b7,.int .i64 b6]) ?_ 0 _ rfl;(with_reducible repeat (first | refine blk_drewN ?_ _ | refine blk_drew ?_ | refine blk_alloc ?_ _));exact b1.out⟩,⟨bl HB⟩⟩
         rw [if_pos K7] at H
         have O3:=decide_eq_true K7
         clear K7
         have J5:=A_ H
         clear H
         go_upto_region 17 with (fail)
         go_cut [66] (fun v66 wc=>∃ (kq:Nat) (q8:Bool),v66 = .bool q8 ∧ Aside0 (numnahref07_Fair.j4 kq l0 l1 e5 e7 i0 e2 d2 e3 b0 q8 b7 b6 b4 b2 = some r) ∧ Aside0 (kq ≤ k4) ∧ Aside0 (Kd.R k23 23 wc w.heap.size (fun k_=>k_ ≠ d3 ∧ k_ ≠ d0) x3 e5) ∧ Aside0 (Kd.R Kd.bool 4 wc w.heap.size (fun _=>True) x4 e7) ∧ Aside0 (wc.heap[d3]? = some (.cells #[.int .i64 b7,.int .i64 b6] 23 (0,0))) ∧ Aside0 (wc.heap[d0]? = some (.cells #[.int .i64 b4,.int .i64 b2] 23 (0,0))) ∧ Aside0 (Below w.heap.size w wc))
         case first =>
          have H:=J5.out
          clear J5
          replace H:=gd H
          obtain ⟨c30,H⟩:=H
          have G2:=decide_eq_true c30
          clear c30
          (first | rw [G2] | (simp only [i64_w,i32_w];rw [G2]) | skip)
          replace H:=Option.bind_eq_some_iff.mp H
          obtain ⟨C8,Q8,H⟩:=H
          replace H:(if C8 = true then (if b0 < (e7.length:Int) then (numnahref07_Fair.j4 k4 l0 l1 e5 e7 i0 e2 d2 e3 b0 (rdOf false e7 b0) b7 b6 b4 b2) else (none)) else (numnahref07_Fair.j4 k4 l0 l1 e5 e7 i0 e2 d2 e3 b0 false b7 b6 b4 b2)) = some r:=H
          have A31:=A_ Q8
          clear Q8
          by_cases X7:C8 = true
          case neg =>
           replace X7:=Bool.eq_false_iff.mpr X7
           subst X7
           rw [if_neg (show ¬ (false = true) by decide)] at H
           have H':=A_ H
           clear H
           have s3:0 ≤ (b0:Int):=of_decide_eq_true (by first | (with_reducible assumption) | assumption)
           have s4:b0 < (l1.length:Int):=of_decide_eq_true (by first | (with_reducible assumption) | assumption)
           obtain ⟨Q9,s5,s6,J6,l8,l9,n1,n2⟩:=at_T45 t1.out b0 s3 s4
           cases J6
           replace l8:=(HB.out.cell (World.block_lt_of_cell? w _ l8)).trans l8
           replace l9:=(HB.out.cell (World.block_lt_of_cell? w _ l9)).trans l9
           have q9:=A_ n2
           have r0:=A_ n1
           clear n2 n1
           replace s3:=eq_true s3
           replace s4:=eq_true s4
           go_wp2_with (first | ((with_reducible refine gate_callee (f:=77) rfl ?_);refine gL (some 60) Try.func77 #[.agg #[.int .i64 ((rd_T45 l1 b0).f0),.slice s5 ((rd_T45 l1 b0).f1).length s6],.int .i64 d2] ?_;(with_reducible refine (numnahref07_Has.calls k4 ((rd_T45 l1 b0).f0) _ _ ((rd_T45 l1 b0).f1) d2 false _ ?side1 ?side2 A31.out).mono ?_);(case side1=>exact cB q9 HB);(case side2=>exact r0.out);rintro e w36 ⟨rfl,hb⟩;refine ⟨_,rfl,?_⟩;replace b8:=rB b8 hb;replace b9:=rB b9 hb;replace b1:=kB b1 hb;replace b3:=kB b3 hb;replace HB:=bB HB hb;(try clear hb)))
           go_meet
           case rel=>exact ⟨_,(false),(by first | rfl | (simp;done) | (simp [*];done)),H',⟨by have:=m2.out;have:=m4.out;have:=m5.out;have:=m3.out;first | omega | exact Nat.le_refl _⟩,⟨by (with_reducible repeat (first | apply Kd.R_alloc | apply Kd.R_drewN | apply Kd.R_drew));exact b8.out⟩,⟨by (with_reducible repeat (first | apply Kd.R_alloc | apply Kd.R_drewN | apply Kd.R_drew));exact b9.out⟩,⟨by (with_reducible repeat (first | refine blk_drewN ?_ _ | refine blk_drew ?_ | refine blk_alloc ?_ _));exact b1.out⟩,⟨by (with_reducible repeat (first | refine blk_drewN ?_ _ | refine blk_drew ?_ | refine blk_alloc ?_ _));exact b3.out⟩,⟨bl HB⟩⟩
          subst X7
          rw [if_pos rfl] at H
          replace H:=gd H
          obtain ⟨c33,H⟩:=H
          have c33b0:=decide_eq_true c33
          clear c33
          have H':=A_ H
          clear H
          have s3:0 ≤ (b0:Int):=of_decide_eq_true (by first | (with_reducible assumption) | assumption)
          have s4:b0 < (l1.length:Int):=of_decide_eq_true (by first | (with_reducible assumption) | assumption)
          obtain ⟨Q9,s5,s6,J6,l8,l9,n1,n2⟩:=at_T45 t1.out b0 s3 s4
          cases J6
          replace l8:=(HB.out.cell (World.block_lt_of_cell? w _ l8)).trans l8
          replace l9:=(HB.out.cell (World.block_lt_of_cell? w _ l9)).trans l9
          have q9:=A_ n2
          have r0:=A_ n1
          clear n2 n1
          replace s3:=eq_true s3
          replace s4:=eq_true s4
          go_wp2_with (first | ((with_reducible refine gate_callee (f:=77) rfl ?_);refine gL (some 60) Try.func77 #[.agg #[.int .i64 ((rd_T45 l1 b0).f0),.slice s5 ((rd_T45 l1 b0).f1).length s6],.int .i64 d2] ?_;(with_reducible refine (numnahref07_Has.calls k4 ((rd_T45 l1 b0).f0) _ _ ((rd_T45 l1 b0).f1) d2 true _ ?side1 ?side2 A31.out).mono ?_);(case side1=>exact cB q9 HB);(case side2=>exact r0.out);rintro e w34 ⟨rfl,hb⟩;refine ⟨_,rfl,?_⟩;replace b8:=rB b8 hb;replace b9:=rB b9 hb;replace b1:=kB b1 hb;replace b3:=kB b3 hb;replace HB:=bB HB hb;(try clear hb);obtain ⟨Ao35,co35,eo35⟩:=Kd.R_slice b9.out;subst eo35;have J7:0 ≤ (b0:Int):=of_decide_eq_true (by first | (with_reducible assumption) | assumption);have J8:b0 < (e7.length:Int):=of_decide_eq_true (by first | (with_reducible assumption) | assumption);obtain ⟨ad849,e849,X8⟩:=Kd.at_bool (Kd.R_reads' b9.out).2.2 b0 J7 J8;cases e849;replace J7:=eq_true J7;replace J8:=eq_true J8))
          go_meet
          case rel=>exact ⟨_,(rdOf false e7 b0),(by first | rfl | (simp;done) | (simp [*];done)),H',⟨by have:=m2.out;have:=m4.out;have:=m5.out;have:=m3.out;first | omega | exact Nat.le_refl _⟩,⟨by (with_reducible repeat (first | apply Kd.R_alloc | apply Kd.R_drewN | apply Kd.R_drew));exact b8.out⟩,⟨by (with_reducible repeat (first | apply Kd.R_alloc | apply Kd.R_drewN | apply Kd.R_drew));exact b9.out⟩,⟨by (with_reducible repeat (first | refine blk_drewN ?_ _ | refine blk_drew ?_ | refine blk_alloc ?_ _));exact b1.out⟩,⟨by (with_reducible repeat (first | refine blk_drewN ?_ _ | refine blk_drew ?_ | refine blk_alloc ?_ _));exact b3.out⟩,⟨bl HB⟩⟩
         case rest =>
          clear J5
          obtain ⟨kq,q8,rfl,HA,o0,b8,b9,b1,b3,HB⟩:=hcut
          cases kq with
          | zero=>exact absurd HA.out (by simp [numnahref07_Fair.j4])
          | succ h9 =>
           have H:=HA.out
           clear HA
           simp only [numnahref07_Fair.j4] at H
           by_cases X9:q8 = true
           case neg =>
            replace X9:=Bool.eq_false_iff.mpr X9
            subst X9
            rw [if_neg (show ¬ (false = true) by decide)] at H
            replace H:=gd H
            obtain ⟨c67,H⟩:=H
            have c67b0:=decide_eq_true c67
            clear c67
            replace H:=gd H
            obtain ⟨c68,H⟩:=H
            have c68b0:=decide_eq_true c68
            clear c68
            replace H:=Option.bind_eq_some_iff.mp H
            obtain ⟨D1,R0,H⟩:=H
            replace H:(if D1 = true then (if b0 < (e7.length:Int) then (if rdOf false e7 b0 = true then (numnahref07_Fair.l3 h9 l0 l1 e5 e7 i0 e2 d2 e3 (wrap64 (b0 + 1)) b7 b6 b4 b2) else (numnahref07_Fair.l3 h9 l0 l1 e5 e7 i0 e2 d2 (wrap64 (e3 + ((rd_T45 l1 b0).f0))) (wrap64 (b0 + 1)) b7 b6 b4 b2)) else (none)) else (numnahref07_Fair.l3 h9 l0 l1 e5 e7 i0 e2 d2 e3 (wrap64 (b0 + 1)) b7 b6 b4 b2)) = some r:=H
            have A69:=A_ R0
            clear R0
            by_cases Y0:D1 = true
            case neg =>
             replace Y0:=Bool.eq_false_iff.mpr Y0
             subst Y0
             rw [if_neg (show ¬ (false = true) by decide)] at H
             have H':=A_ H
             clear H
             have p2:0 ≤ (b0:Int):=of_decide_eq_true (by first | (with_reducible assumption) | assumption)
             have p3:b0 < (l1.length:Int):=of_decide_eq_true (by first | (with_reducible assumption) | assumption)
             obtain ⟨C2,p4,p5,C3,h3,h4,i6,i7⟩:=at_T45 t1.out b0 p2 p3
             cases C3
             replace h3:=(HB.out.cell (World.block_lt_of_cell? w _ h3)).trans h3
             replace h4:=(HB.out.cell (World.block_lt_of_cell? w _ h4)).trans h4
             have n3:=A_ i7
             have n4:=A_ i6
             clear i7 i6
             replace p2:=eq_true p2
             replace p3:=eq_true p3
             go_wp2_with (first | ((with_reducible refine gate_callee (f:=77) rfl ?_);refine gL (some 78) Try.func77 #[.agg #[.int .i64 ((rd_T45 l1 b0).f0),.slice p4 ((rd_T45 l1 b0).f1).length p5],.int .i64 d2] ?_;(with_reducible refine (numnahref07_Has.calls h9 ((rd_T45 l1 b0).f0) _ _ ((rd_T45 l1 b0).f1) d2 false _ ?side1 ?side2 A69.out).mono ?_);(case side1=>exact cB n3 HB);(case side2=>exact n4.out);rintro e w78 ⟨rfl,hb⟩;refine ⟨_,rfl,?_⟩;replace b8:=rB b8 hb;replace b9:=rB b9 hb;replace b1:=kB b1 hb;replace b3:=kB b3 hb;replace HB:=bB HB hb;(try clear hb)))
             go_roundg h9
             case measure=>have:=m2.out;have:=m4.out;have:=m5.out;have:=m3.out;have:=o0.out;omega
             case rel=>exact ⟨(e3),(wrap64 (b0 + 1)),(b4),(b2),(by first | rfl | (simp;done) | (simp [*];done)),(by first | rfl | (simp;done) | (simp [*];done)),H',⟨by have:=m2.out;have:=m4.out;have:=m5.out;have:=m3.out;have:=o0.out;omega⟩,⟨by (with_reducible repeat (first | apply Kd.R_alloc | apply Kd.R_drewN | apply Kd.R_drew));exact b8.out⟩,⟨by (with_reducible repeat (first | apply Kd.R_alloc | apply Kd.R_drewN | apply Kd.R_drew));exact b9.out⟩,⟨by (with_reducible repeat (first | refine blk_drewN ?_ _ | refine blk_drew ?_ | refine blk_alloc ?_ _));exact b1.out⟩,⟨by (with_reducible repeat (first | refine blk_drewN ?_ _ | refine blk_drew ?_ | refine blk_alloc ?_ _));exact b3.out⟩,⟨bl HB⟩⟩
            subst Y0
            rw [if_pos rfl] at H
            replace H:=gd H
            obtain ⟨c71,H⟩:=H
            have c71b0:=decide_eq_true c71
            clear c71
            obtain ⟨R1,C4⟩:∃ b_:Bool,b_ = (rdOf false e7 b0):=⟨_,rfl⟩
            replace H:(if R1 = true then (numnahref07_Fair.l3 h9 l0 l1 e5 e7 i0 e2 d2 e3 (wrap64 (b0 + 1)) b7 b6 b4 b2) else (numnahref07_Fair.l3 h9 l0 l1 e5 e7 i0 e2 d2 (wrap64 (e3 + ((rd_T45 l1 b0).f0))) (wrap64 (b0 + 1)) b7 b6 b4 b2)) = some r:=by rw [← C4] at H;exact H
            have G3:=A_ C4
            clear C4
            by_cases Y1:R1 = true
            ·subst Y1
             rw [if_pos rfl] at H
             have H':=A_ H
             clear H
             have p2:0 ≤ (b0:Int):=of_decide_eq_true (by first | (with_reducible assumption) | assumption)
             have p3:b0 < (l1.length:Int):=of_decide_eq_true (by first | (with_reducible assumption) | assumption)
             obtain ⟨C2,p4,p5,C3,h3,h4,i6,i7⟩:=at_T45 t1.out b0 p2 p3
             cases C3
             replace h3:=(HB.out.cell (World.block_lt_of_cell? w _ h3)).trans h3
             replace h4:=(HB.out.cell (World.block_lt_of_cell? w _ h4)).trans h4
             have n3:=A_ i7
             have n4:=A_ i6
             clear i7 i6
             replace p2:=eq_true p2
             replace p3:=eq_true p3
             go_wp2_with (first | ((with_reducible refine gate_callee (f:=77) rfl ?_);refine gL (some 78) Try.func77 #[.agg #[.int .i64 ((rd_T45 l1 b0).f0),.slice p4 ((rd_T45 l1 b0).f1).length p5],.int .i64 d2] ?_;(with_reducible refine (numnahref07_Has.calls h9 ((rd_T45 l1 b0).f0) _ _ ((rd_T45 l1 b0).f1) d2 true _ ?side1 ?side2 A69.out).mono ?_);(case side1=>exact cB n3 HB);(case side2=>exact n4.out);rintro e w74 ⟨rfl,hb⟩;refine ⟨_,rfl,?_⟩;replace b8:=rB b8 hb;replace b9:=rB b9 hb;replace b1:=kB b1 hb;replace b3:=kB b3 hb;replace HB:=bB HB hb;(try clear hb);obtain ⟨Ao75,co75,eo75⟩:=Kd.R_slice b9.out;subst eo75;have s7:0 ≤ (b0:Int):=of_decide_eq_true (by first | (with_reducible assumption) | assumption);have s8:b0 < (e7.length:Int):=of_decide_eq_true (by first | (with_reducible assumption) | assumption);obtain ⟨R2,J9,r1⟩:=Kd.at_bool (Kd.R_reads' b9.out).2.2 b0 s7 s8;(try rw [← G3.out] at r1);cases J9;replace s7:=eq_true s7;replace s8:=eq_true s8))
             go_roundg h9
             case measure=>have:=m2.out;have:=m4.out;have:=m5.out;have:=m3.out;have:=o0.out;omega
             case rel=>exact ⟨(e3),(wrap64 (b0 + 1)),(b4),(b2),(by first | rfl | (simp;done) | (simp [*];done)),(by first | rfl | (simp;done) | (simp [*];done)),H',⟨by have:=m2.out;have:=m4.out;have:=m5.out;have:=m3.out;have:=o0.out;omega⟩,⟨by (with_reducible repeat (first | apply Kd.R_alloc | apply Kd.R_drewN | apply Kd.R_drew));exact b8.out⟩,⟨by (with_reducible repeat (first | apply Kd.R_alloc | apply Kd.R_drewN | apply Kd.R_drew));exact b9.out⟩,⟨by (with_reducible repeat (first | refine blk_drewN ?_ _ | refine blk_drew ?_ | refine blk_alloc ?_ _));exact b1.out⟩,⟨by (with_reducible repeat (first | refine blk_drewN ?_ _ | refine blk_drew ?_ | refine blk_alloc ?_ _));exact b3.out⟩,⟨bl HB⟩⟩
            replace Y1:=Bool.eq_false_iff.mpr Y1
            subst Y1
            rw [if_neg (show ¬ (false = true) by decide)] at H
            have H':=A_ H
            clear H
            have p2:0 ≤ (b0:Int):=of_decide_eq_true (by first | (with_reducible assumption) | assumption)
            have p3:b0 < (l1.length:Int):=of_decide_eq_true (by first | (with_reducible assumption) | assumption)
            obtain ⟨C2,p4,p5,C3,h3,h4,i6,i7⟩:=at_T45 t1.out b0 p2 p3
            cases C3
            replace h3:=(HB.out.cell (World.block_lt_of_cell? w _ h3)).trans h3
            replace h4:=(HB.out.cell (World.block_lt_of_cell? w _ h4)).trans h4
            have n3:=A_ i7
            have n4:=A_ i6
            clear i7 i6
            replace p2:=eq_true p2
            replace p3:=eq_true p3
            go_wp2_with (first | ((with_reducible refine gate_callee (f:=77) rfl ?_);refine gL (some 78) Try.func77 #[.agg #[.int .i64 ((rd_T45 l1 b0).f0),.slice p4 ((rd_T45 l1 b0).f1).length p5],.int .i64 d2] ?_;(with_reducible refine (numnahref07_Has.calls h9 ((rd_T45 l1 b0).f0) _ _ ((rd_T45 l1 b0).f1) d2 true _ ?side1 ?side2 A69.out).mono ?_);(case side1=>exact cB n3 HB);(case side2=>exact n4.out);rintro e w76 ⟨rfl,hb⟩;refine ⟨_,rfl,?_⟩;replace b8:=rB b8 hb;replace b9:=rB b9 hb;replace b1:=kB b1 hb;replace b3:=kB b3 hb;replace HB:=bB HB hb;(try clear hb);obtain ⟨Ao77,co77,eo77⟩:=Kd.R_slice b9.out;subst eo77;have s7:0 ≤ (b0:Int):=of_decide_eq_true (by first | (with_reducible assumption) | assumption);have s8:b0 < (e7.length:Int):=of_decide_eq_true (by first | (with_reducible assumption) | assumption);obtain ⟨R2,J9,r1⟩:=Kd.at_bool (Kd.R_reads' b9.out).2.2 b0 s7 s8;(try rw [← G3.out] at r1);cases J9;replace s7:=eq_true s7;replace s8:=eq_true s8;have K0:0 ≤ (b0:Int):=of_decide_eq_true (by first | (with_reducible assumption) | assumption);have K1:b0 < (l1.length:Int):=of_decide_eq_true (by first | (with_reducible assumption) | assumption);obtain ⟨R3,A860_1,c860_1,e860,r2,r3,t6,t7⟩:=at_T45 t1.out b0 K0 K1;obtain rfl:C2 = R3:=(by injection e860);replace r2:=(HB.out.cell (World.block_lt_of_cell? w _ r2)).trans r2;replace r3:=(HB.out.cell (World.block_lt_of_cell? w _ r3)).trans r3;have Y2:=A_ t7;have Y3:=A_ t6;clear t7 t6;replace K0:=eq_true K0;replace K1:=eq_true K1))
            go_roundg h9
            case measure=>have:=m2.out;have:=m4.out;have:=m5.out;have:=m3.out;have:=o0.out;omega
            case rel=>exact ⟨(wrap64 (e3 + ((rd_T45 l1 b0).f0))),(wrap64 (b0 + 1)),(b4),(b2),(by first | rfl | (simp;done) | (simp [*];done)),(by first | rfl | (simp;done) | (simp [*];done)),H',⟨by have:=m2.out;have:=m4.out;have:=m5.out;have:=m3.out;have:=o0.out;omega⟩,⟨by (with_reducible repeat (first | apply Kd.R_alloc | apply Kd.R_drewN | apply Kd.R_drew));exact b8.out⟩,⟨by (with_reducible repeat (first | apply Kd.R_alloc | apply Kd.R_drewN | apply Kd.R_drew));exact b9.out⟩,⟨by (with_reducible repeat (first | refine blk_drewN ?_ _ | refine blk_drew ?_ | refine blk_alloc ?_ _));exact b1.out⟩,⟨by (with_reducible repeat (first | refine blk_drewN ?_ _ | refine blk_drew ?_ | refine blk_alloc ?_ _));exact b3.out⟩,⟨bl HB⟩⟩
           subst X9
           rw [if_pos rfl] at H
           replace H:=gd H
           obtain ⟨c38,H⟩:=H
           have c38b0:=decide_eq_true c38
           clear c38
           replace H:=gd H
           obtain ⟨c39,H⟩:=H
           have c39b0:=decide_eq_true c39
           clear c39
           replace H:=Option.bind_eq_some_iff.mp H
           obtain ⟨⟨h5,h7⟩,A400,H⟩:=H
           dsimp only at H
           have A40:=A_ A400
           clear A400
           replace H:=gd H
           obtain ⟨c41,H⟩:=H
           have c41b0:=decide_eq_true c41
           clear c41
           replace H:=Option.bind_eq_some_iff.mp H
           obtain ⟨D0,R4,H⟩:=H
           replace H:(if D0 = true then (if b0 < (e7.length:Int) then (if rdOf false e7 b0 = true then (numnahref07_Fair.l3 h9 l0 l1 e5 e7 i0 e2 d2 e3 (wrap64 (b0 + 1)) b7 b6 h5 h7) else (numnahref07_Fair.l3 h9 l0 l1 e5 e7 i0 e2 d2 (wrap64 (e3 + ((rd_T45 l1 b0).f0))) (wrap64 (b0 + 1)) b7 b6 h5 h7)) else (none)) else (numnahref07_Fair.l3 h9 l0 l1 e5 e7 i0 e2 d2 e3 (wrap64 (b0 + 1)) b7 b6 h5 h7)) = some r:=H
           have A42:=A_ R4
           clear R4
           by_cases Y4:D0 = true
           case neg =>
            replace Y4:=Bool.eq_false_iff.mpr Y4
            subst Y4
            rw [if_neg (show ¬ (false = true) by decide)] at H
            have H':=A_ H
            clear H
            try go_wp2
            replace b8:=rD b8
            replace b9:=rD b9
            replace b1:=kD b1
            replace b3:=kD b3
            replace HB:=bD HB
            obtain ⟨Ao62,co62,R5⟩:=Kd.R_slice b8.out
            (first | subst R5 | (injection R5 with G4 R6 G5;have R7:=G4.symm;have R8:=G5.symm;clear G4 R6 G5;subst R7;subst R8))
            have p6:0 ≤ (b0:Int):=of_decide_eq_true (by first | (with_reducible assumption) | assumption)
            have p7:b0 < (e5.length:Int):=of_decide_eq_true (by first | (with_reducible assumption) | assumption)
            obtain ⟨m0,C5,i8,i9⟩:=at_T23 (Kd.R_reads' b8.out).2.2 b0 p6 p7
            cases C5
            replace p6:=eq_true p6
            replace p7:=eq_true p7
            refine start_ (n:=7) (S:=fun w'=>w'.cell? ⟨d0,0,none⟩ = some (.int .i64 b4) ∧ w'.cell? ⟨d0,1,none⟩ = some (.int .i64 b2) ∧ w'.cell? (m0.add ((b0).toNat * 2)) = some (.int .i64 ((rd_T23 e5 b0).f0)) ∧ w'.cell? ⟨(m0.add ((b0).toNat * 2)).block,(m0.add ((b0).toNat * 2)).off + 1,none⟩ = some (.int .i64 ((rd_T23 e5 b0).f1))) (ds:=[6]) (ba 7 0) (by kernel_rfl) rfl rfl ⟨cz b3 0,cz b3 1,i8,i9⟩ (fun hHeld=>?_)
            generalize wc.drew = w61 at b8 b9 b1 b3 HB i8 i9 hHeld ⊢
            refine pr 1 68 2 ?_
            refine pr 2 69 6 ?_
            refine pr 3 70 14 ?_
            refine tr 0 67 15 hHeld ?_
            refine tr 4 71 31 hHeld ?_
            refine os 5 72 63 (fun K hK=>?_)
            refine gq Try.func31 #[.agg #[.int .i64 b4,.int .i64 b2],.agg #[.int .i64 ((rd_T23 e5 b0).f0),.int .i64 ((rd_T23 e5 b0).f1)]] ?_
            with_reducible refine (numnahref07_Sub.calls h9 b4 b2 ((rd_T23 e5 b0).f0) ((rd_T23 e5 b0).f1) h5 h7 _ A40.out).mono ?_
            rintro e w63 ⟨rfl,hb⟩
            have R9:=(hb.cell (World.block_lt_of_cell? _ _ (hHeld.2.2.1))).trans (hHeld.2.2.1)
            have S0:=(hb.cell (World.block_lt_of_cell? _ _ (hHeld.2.2.2))).trans (hHeld.2.2.2)
            refine ⟨_,rfl,?_⟩
            replace b8:=rB b8 hb
            replace b9:=rB b9 hb
            replace b1:=kB b1 hb
            replace b3:=kB b3 hb
            replace HB:=bB HB hb
            (try clear hb)
            refine hz hK (fun hHeld=>?_)
            clear hK K
            refine nq 72 ?_
            refine last_ (i:=6) (N:=none) (ba 7 127) rfl rfl (by kernel_rfl) (by decide) (fun K hK=>?_)
            have hs64:w63.cell? ⟨d0,0,none⟩ = some (.int .i64 b4):=cz b3 0
            have hfs64:=blk_frozen b3.out 0
            have Y5:=d6.out
            have Y6:=e9.out
            have hs65:w63.cell? ⟨d0,1,none⟩ = some (.int .i64 b2):=cz b3 1
            have hfs65:=blk_frozen b3.out 1
            have Y7:=d6.out
            have Y8:=e9.out
            refine skip_ (w1:=?_) (by rfl) rfl ?_ ?_
            rotate_left
            ·go_simp
             rfl
            refine hK.out _ _ ?_
            clear hK K
            refine done_ (by kernel_rfl) ?_
            have p8:0 ≤ (b0:Int):=of_decide_eq_true (by first | (with_reducible assumption) | assumption)
            have p9:b0 < (l1.length:Int):=of_decide_eq_true (by first | (with_reducible assumption) | assumption)
            obtain ⟨n5,q0,q1,C6,d1,d7,j5,j7⟩:=at_T45 t1.out b0 p8 p9
            cases C6
            have d8:n5.block ≠ d0:=Nat.ne_of_lt (Nat.lt_of_lt_of_le (by have:=World.block_lt_of_cell? _ _ d1;first | rwa [add_block] at this | exact this) p1.out)
            have d9:n5.block ≠ d0:=Nat.ne_of_lt (Nat.lt_of_lt_of_le (by have:=World.block_lt_of_cell? _ _ d1;first | rwa [add_block] at this | exact this) p1.out)
            replace d1:=(HB.out.cell (World.block_lt_of_cell? w _ d1)).trans d1
            replace d7:=(HB.out.cell (World.block_lt_of_cell? w _ d7)).trans d7
            have n6:=A_ j7
            have n7:=A_ j5
            clear j7 j5
            replace d1:=(cell_far (p:=⟨d0,0,none⟩) (by first | (rw [add_block];exact d8) | (show (Addr.add _ _).block ≠ _;rw [add_block];exact d8) | exact d8) (.int .i64 h5)).trans d1
            replace d7:=(cell_far (p:=⟨d0,0,none⟩) (by first | (rw [add_block];exact d8) | (show (Addr.add _ _).block ≠ _;rw [add_block];exact d8) | exact d8) (.int .i64 h5)).trans d7
            replace d1:=(cell_far (p:=⟨d0,1,none⟩) (by first | (rw [add_block];exact d9) | (show (Addr.add _ _).block ≠ _;rw [add_block];exact d9) | exact d9) (.int .i64 h7)).trans d1
            replace d7:=(cell_far (p:=⟨d0,1,none⟩) (by first | (rw [add_block];exact d9) | (show (Addr.add _ _).block ≠ _;rw [add_block];exact d9) | exact d9) (.int .i64 h7)).trans d7
            clear d8 d9
            replace p8:=eq_true p8
            replace p9:=eq_true p9
            try go_wp2_with (first | ((with_reducible refine gate_callee (f:=77) rfl ?_);refine gL (some 78) Try.func77 #[.agg #[.int .i64 ((rd_T45 l1 b0).f0),.slice q0 ((rd_T45 l1 b0).f1).length q1],.int .i64 d2] ?_;(with_reducible refine (numnahref07_Has.calls h9 ((rd_T45 l1 b0).f0) _ _ ((rd_T45 l1 b0).f1) d2 false _ ?side1 ?side2 A42.out).mono ?_);(case side1=>exact Kd.C_below n6.out (bl HB));(case side2=>exact n7.out);rintro e w66 ⟨rfl,hb⟩;refine ⟨_,rfl,?_⟩;replace b8:=A_ (Kd.R_below (by (with_reducible repeat (first | apply Kd.R_alloc | apply Kd.R_drewN | apply Kd.R_drew));exact (Kd.R_mono (Kd.R_far (p:=⟨d0,1,none⟩) (Kd.R_far (p:=⟨d0,0,none⟩) (Kd.R_mono b8.out (fun k_ hk=>(⟨hk,hk.2⟩:_ ∧ k_ ≠ d0))) (fun _ hk=>hk.2) (.int .i64 h5)) (fun _ hk=>hk.2) (.int .i64 h7)) (fun _ h_=>h_.1))) hb);replace b9:=A_ (Kd.R_below (by (with_reducible repeat (first | apply Kd.R_alloc | apply Kd.R_drewN | apply Kd.R_drew));exact (Kd.R_mono (Kd.R_far (p:=⟨d0,1,none⟩) (Kd.R_far (p:=⟨d0,0,none⟩) (Kd.R_types b9.out b3.out (by decide)) (fun _ hk=>hk.2) (.int .i64 h5)) (fun _ hk=>hk.2) (.int .i64 h7)) (fun _ h_=>h_.1))) hb);replace b1:=A_ (blk_below (g:=d3) (o:=.cells #[.int .i64 b7,.int .i64 b6] 23 (0,0)) (by (with_reducible repeat (first | refine blk_drewN ?_ _ | refine blk_drew ?_ | refine blk_alloc ?_ _));refine blk_far ?_ d6.out _;(with_reducible repeat (first | refine blk_drewN ?_ _ | refine blk_drew ?_ | refine blk_alloc ?_ _));refine blk_far ?_ d6.out _;(with_reducible repeat (first | refine blk_drewN ?_ _ | refine blk_drew ?_ | refine blk_alloc ?_ _));exact b1.out) hb);replace b3:=A_ (blk_below (g:=d0) (o:=.cells #[.int .i64 h5,.int .i64 h7] 23 (0,0)) (by (with_reducible repeat (first | refine blk_drewN ?_ _ | refine blk_drew ?_ | refine blk_alloc ?_ _));refine blk_put (cs:=#[.int .i64 h5,.int .i64 b2]) ?_ 1 _ rfl;(with_reducible repeat (first | refine blk_drewN ?_ _ | refine blk_drew ?_ | refine blk_alloc ?_ _));refine blk_put (cs:=#[.int .i64 b4,.int .i64 b2]) ?_ 0 _ rfl;(with_reducible repeat (first | refine blk_drewN ?_ _ | refine blk_drew ?_ | refine blk_alloc ?_ _));exact b3.out) hb);replace HB:=bB HB hb;(try clear hb)))
            go_roundg h9
            case measure=>have:=m2.out;have:=m4.out;have:=m5.out;have:=m3.out;have:=o0.out;omega
            case rel=>exact ⟨(e3),(wrap64 (b0 + 1)),(h5),(h7),(by first | rfl | (simp;done) | (simp [*];done)),(by first | rfl | (simp;done) | (simp [*];done)),H',⟨by have:=m2.out;have:=m4.out;have:=m5.out;have:=m3.out;have:=o0.out;omega⟩,⟨by (with_reducible repeat (first | apply Kd.R_alloc | apply Kd.R_drewN | apply Kd.R_drew));exact b8.out⟩,⟨by (with_reducible repeat (first | apply Kd.R_alloc | apply Kd.R_drewN | apply Kd.R_drew));exact b9.out⟩,⟨by (with_reducible repeat (first | refine blk_drewN ?_ _ | refine blk_drew ?_ | refine blk_alloc ?_ _));exact b1.out⟩,⟨by (with_reducible repeat (first | refine blk_drewN ?_ _ | refine blk_drew ?_ | refine blk_alloc ?_ _));exact b3.out⟩,⟨bl HB⟩⟩
           subst Y4
           rw [if_pos rfl] at H
           replace H:=gd H
           obtain ⟨c44,H⟩:=H
           have c44b0:=decide_eq_true c44
           clear c44
           obtain ⟨S1,C7⟩:∃ b_:Bool,b_ = (rdOf false e7 b0):=⟨_,rfl⟩
           replace H:(if S1 = true then (numnahref07_Fair.l3 h9 l0 l1 e5 e7 i0 e2 d2 e3 (wrap64 (b0 + 1)) b7 b6 h5 h7) else (numnahref07_Fair.l3 h9 l0 l1 e5 e7 i0 e2 d2 (wrap64 (e3 + ((rd_T45 l1 b0).f0))) (wrap64 (b0 + 1)) b7 b6 h5 h7)) = some r:=by rw [← C7] at H;exact H
           have G6:=A_ C7
           clear C7
           by_cases Y9:S1 = true
           ·subst Y9
            rw [if_pos rfl] at H
            have H':=A_ H
            clear H
            try go_wp2
            replace b8:=rD b8
            replace b9:=rD b9
            replace b1:=kD b1
            replace b3:=kD b3
            replace HB:=bD HB
            obtain ⟨Ao48,co48,S2⟩:=Kd.R_slice b8.out
            (first | subst S2 | (injection S2 with G4 R6 G5;have R7:=G4.symm;have R8:=G5.symm;clear G4 R6 G5;subst R7;subst R8))
            have p6:0 ≤ (b0:Int):=of_decide_eq_true (by first | (with_reducible assumption) | assumption)
            have p7:b0 < (e5.length:Int):=of_decide_eq_true (by first | (with_reducible assumption) | assumption)
            obtain ⟨m0,C5,i8,i9⟩:=at_T23 (Kd.R_reads' b8.out).2.2 b0 p6 p7
            cases C5
            replace p6:=eq_true p6
            replace p7:=eq_true p7
            refine start_ (n:=7) (S:=fun w'=>w'.cell? ⟨d0,0,none⟩ = some (.int .i64 b4) ∧ w'.cell? ⟨d0,1,none⟩ = some (.int .i64 b2) ∧ w'.cell? (m0.add ((b0).toNat * 2)) = some (.int .i64 ((rd_T23 e5 b0).f0)) ∧ w'.cell? ⟨(m0.add ((b0).toNat * 2)).block,(m0.add ((b0).toNat * 2)).off + 1,none⟩ = some (.int .i64 ((rd_T23 e5 b0).f1))) (ds:=[6]) (ba 7 0) (by kernel_rfl) rfl rfl ⟨cz b3 0,cz b3 1,i8,i9⟩ (fun hHeld=>?_)
            generalize wc.drew = w47 at b8 b9 b1 b3 HB i8 i9 hHeld ⊢
            refine pr 1 68 2 ?_
            refine pr 2 69 6 ?_
            refine pr 3 70 14 ?_
            refine tr 0 67 15 hHeld ?_
            refine tr 4 71 31 hHeld ?_
            refine os 5 72 63 (fun K hK=>?_)
            refine gq Try.func31 #[.agg #[.int .i64 b4,.int .i64 b2],.agg #[.int .i64 ((rd_T23 e5 b0).f0),.int .i64 ((rd_T23 e5 b0).f1)]] ?_
            with_reducible refine (numnahref07_Sub.calls h9 b4 b2 ((rd_T23 e5 b0).f0) ((rd_T23 e5 b0).f1) h5 h7 _ A40.out).mono ?_
            rintro e w49 ⟨rfl,hb⟩
            have R9:=(hb.cell (World.block_lt_of_cell? _ _ (hHeld.2.2.1))).trans (hHeld.2.2.1)
            have S0:=(hb.cell (World.block_lt_of_cell? _ _ (hHeld.2.2.2))).trans (hHeld.2.2.2)
            refine ⟨_,rfl,?_⟩
            replace b8:=rB b8 hb
            replace b9:=rB b9 hb
            replace b1:=kB b1 hb
            replace b3:=kB b3 hb
            replace HB:=bB HB hb
            (try clear hb)
            refine hz hK (fun hHeld=>?_)
            clear hK K
            refine nq 72 ?_
            refine last_ (i:=6) (N:=none) (ba 7 127) rfl rfl (by kernel_rfl) (by decide) (fun K hK=>?_)
            have hs50:w49.cell? ⟨d0,0,none⟩ = some (.int .i64 b4):=cz b3 0
            have hfs50:=blk_frozen b3.out 0
            have Z0:=d6.out
            have Z1:=e9.out
            have hs51:w49.cell? ⟨d0,1,none⟩ = some (.int .i64 b2):=cz b3 1
            have hfs51:=blk_frozen b3.out 1
            have Z2:=d6.out
            have Z3:=e9.out
            refine skip_ (w1:=?_) (by rfl) rfl ?_ ?_
            rotate_left
            ·go_simp
             rfl
            refine hK.out _ _ ?_
            clear hK K
            refine done_ (by kernel_rfl) ?_
            have p8:0 ≤ (b0:Int):=of_decide_eq_true (by first | (with_reducible assumption) | assumption)
            have p9:b0 < (l1.length:Int):=of_decide_eq_true (by first | (with_reducible assumption) | assumption)
            obtain ⟨n5,q0,q1,C6,d1,d7,j5,j7⟩:=at_T45 t1.out b0 p8 p9
            cases C6
            have d8:n5.block ≠ d0:=Nat.ne_of_lt (Nat.lt_of_lt_of_le (by have:=World.block_lt_of_cell? _ _ d1;first | rwa [add_block] at this | exact this) p1.out)
            have d9:n5.block ≠ d0:=Nat.ne_of_lt (Nat.lt_of_lt_of_le (by have:=World.block_lt_of_cell? _ _ d1;first | rwa [add_block] at this | exact this) p1.out)
            replace d1:=(HB.out.cell (World.block_lt_of_cell? w _ d1)).trans d1
            replace d7:=(HB.out.cell (World.block_lt_of_cell? w _ d7)).trans d7
            have n6:=A_ j7
            have n7:=A_ j5
            clear j7 j5
            replace d1:=(cell_far (p:=⟨d0,0,none⟩) (by first | (rw [add_block];exact d8) | (show (Addr.add _ _).block ≠ _;rw [add_block];exact d8) | exact d8) (.int .i64 h5)).trans d1
            replace d7:=(cell_far (p:=⟨d0,0,none⟩) (by first | (rw [add_block];exact d8) | (show (Addr.add _ _).block ≠ _;rw [add_block];exact d8) | exact d8) (.int .i64 h5)).trans d7
            replace d1:=(cell_far (p:=⟨d0,1,none⟩) (by first | (rw [add_block];exact d9) | (show (Addr.add _ _).block ≠ _;rw [add_block];exact d9) | exact d9) (.int .i64 h7)).trans d1
            replace d7:=(cell_far (p:=⟨d0,1,none⟩) (by first | (rw [add_block];exact d9) | (show (Addr.add _ _).block ≠ _;rw [add_block];exact d9) | exact d9) (.int .i64 h7)).trans d7
            clear d8 d9
            replace p8:=eq_true p8
            replace p9:=eq_true p9
            try go_wp2_with (first | ((with_reducible refine gate_callee (f:=77) rfl ?_);refine gL (some 78) Try.func77 #[.agg #[.int .i64 ((rd_T45 l1 b0).f0),.slice q0 ((rd_T45 l1 b0).f1).length q1],.int .i64 d2] ?_;(with_reducible refine (numnahref07_Has.calls h9 ((rd_T45 l1 b0).f0) _ _ ((rd_T45 l1 b0).f1) d2 true _ ?side1 ?side2 A42.out).mono ?_);(case side1=>exact Kd.C_below n6.out (bl HB));(case side2=>exact n7.out);rintro e w52 ⟨rfl,hb⟩;refine ⟨_,rfl,?_⟩;replace b8:=A_ (Kd.R_below (by (with_reducible repeat (first | apply Kd.R_alloc | apply Kd.R_drewN | apply Kd.R_drew));exact (Kd.R_mono (Kd.R_far (p:=⟨d0,1,none⟩) (Kd.R_far (p:=⟨d0,0,none⟩) (Kd.R_mono b8.out (fun k_ hk=>(⟨hk,hk.2⟩:_ ∧ k_ ≠ d0))) (fun _ hk=>hk.2) (.int .i64 h5)) (fun _ hk=>hk.2) (.int .i64 h7)) (fun _ h_=>h_.1))) hb);replace b9:=A_ (Kd.R_below (by (with_reducible repeat (first | apply Kd.R_alloc | apply Kd.R_drewN | apply Kd.R_drew));exact (Kd.R_mono (Kd.R_far (p:=⟨d0,1,none⟩) (Kd.R_far (p:=⟨d0,0,none⟩) (Kd.R_types b9.out b3.out (by decide)) (fun _ hk=>hk.2) (.int .i64 h5)) (fun _ hk=>hk.2) (.int .i64 h7)) (fun _ h_=>h_.1))) hb);replace b1:=A_ (blk_below (g:=d3) (o:=.cells #[.int .i64 b7,.int .i64 b6] 23 (0,0)) (by (with_reducible repeat (first | refine blk_drewN ?_ _ | refine blk_drew ?_ | refine blk_alloc ?_ _));refine blk_far ?_ d6.out _;(with_reducible repeat (first | refine blk_drewN ?_ _ | refine blk_drew ?_ | refine blk_alloc ?_ _));refine blk_far ?_ d6.out _;(with_reducible repeat (first | refine blk_drewN ?_ _ | refine blk_drew ?_ | refine blk_alloc ?_ _));exact b1.out) hb);replace b3:=A_ (blk_below (g:=d0) (o:=.cells #[.int .i64 h5,.int .i64 h7] 23 (0,0)) (by (with_reducible repeat (first | refine blk_drewN ?_ _ | refine blk_drew ?_ | refine blk_alloc ?_ _));refine blk_put (cs:=#[.int .i64 h5,.int .i64 b2]) ?_ 1 _ rfl;(with_reducible repeat (first | refine blk_drewN ?_ _ | refine blk_drew ?_ | refine blk_alloc ?_ _));refine blk_put (cs:=#[.int .i64 b4,.int .i64 b2]) ?_ 0 _ rfl;(with_reducible repeat (first | refine blk_drewN ?_ _ | refine blk_drew ?_ | refine blk_alloc ?_ _));exact b3.out) hb);replace HB:=bB HB hb;(try clear hb);obtain ⟨Ao53,co53,eo53⟩:=Kd.R_slice b9.out;subst eo53;have s9:0 ≤ (b0:Int):=of_decide_eq_true (by first | (with_reducible assumption) | assumption);have t0:b0 < (e7.length:Int):=of_decide_eq_true (by first | (with_reducible assumption) | assumption);obtain ⟨S3,K2,r4⟩:=Kd.at_bool (Kd.R_reads' b9.out).2.2 b0 s9 t0;(try rw [← G6.out] at r4);cases K2;replace s9:=eq_true s9;replace t0:=eq_true t0))
            go_roundg h9
            case measure=>have:=m2.out;have:=m4.out;have:=m5.out;have:=m3.out;have:=o0.out;omega
            case rel=>exact ⟨(e3),(wrap64 (b0 + 1)),(h5),(h7),(by first | rfl | (simp;done) | (simp [*];done)),(by first | rfl | (simp;done) | (simp [*];done)),H',⟨by have:=m2.out;have:=m4.out;have:=m5.out;have:=m3.out;have:=o0.out;omega⟩,⟨by (with_reducible repeat (first | apply Kd.R_alloc | apply Kd.R_drewN | apply Kd.R_drew));exact b8.out⟩,⟨by (with_reducible repeat (first | apply Kd.R_alloc | apply Kd.R_drewN | apply Kd.R_drew));exact b9.out⟩,⟨by (with_reducible repeat (first | refine blk_drewN ?_ _ | refine blk_drew ?_ | refine blk_alloc ?_ _));exact b1.out⟩,⟨by (with_reducible repeat (first | refine blk_drewN ?_ _ | refine blk_drew ?_ | refine blk_alloc ?_ _));exact b3.out⟩,⟨bl HB⟩⟩
           replace Y9:=Bool.eq_false_iff.mpr Y9
           subst Y9
           rw [if_neg (show ¬ (false = true) by decide)] at H
           have H':=A_ H
           clear H
           try go_wp2
           replace b8:=rD b8
           replace b9:=rD b9
           replace b1:=kD b1
           replace b3:=kD b3
           replace HB:=bD HB
           obtain ⟨Ao55,co55,S4⟩:=Kd.R_slice b8.out
           (first | subst S4 | (injection S4 with G4 R6 G5;have R7:=G4.symm;have R8:=G5.symm;clear G4 R6 G5;subst R7;subst R8))
           have p6:0 ≤ (b0:Int):=of_decide_eq_true (by first | (with_reducible assumption) | assumption)
           have p7:b0 < (e5.length:Int):=of_decide_eq_true (by first | (with_reducible assumption) | assumption)
           obtain ⟨m0,C5,i8,i9⟩:=at_T23 (Kd.R_reads' b8.out).2.2 b0 p6 p7
           cases C5
           replace p6:=eq_true p6
           replace p7:=eq_true p7
           refine start_ (n:=7) (S:=fun w'=>w'.cell? ⟨d0,0,none⟩ = some (.int .i64 b4) ∧ w'.cell? ⟨d0,1,none⟩ = some (.int .i64 b2) ∧ w'.cell? (m0.add ((b0).toNat * 2)) = some (.int .i64 ((rd_T23 e5 b0).f0)) ∧ w'.cell? ⟨(m0.add ((b0).toNat * 2)).block,(m0.add ((b0).toNat * 2)).off + 1,none⟩ = some (.int .i64 ((rd_T23 e5 b0).f1))) (ds:=[6]) (ba 7 0) (by kernel_rfl) rfl rfl ⟨cz b3 0,cz b3 1,i8,i9⟩ (fun hHeld=>?_)
           generalize wc.drew = w54 at b8 b9 b1 b3 HB i8 i9 hHeld ⊢
           refine pr 1 68 2 ?_
           refine pr 2 69 6 ?_
           refine pr 3 70 14 ?_
           refine tr 0 67 15 hHeld ?_
           refine tr 4 71 31 hHeld ?_
           refine os 5 72 63 (fun K hK=>?_)
           refine gq Try.func31 #[.agg #[.int .i64 b4,.int .i64 b2],.agg #[.int .i64 ((rd_T23 e5 b0).f0),.int .i64 ((rd_T23 e5 b0).f1)]] ?_
           with_reducible refine (numnahref07_Sub.calls h9 b4 b2 ((rd_T23 e5 b0).f0) ((rd_T23 e5 b0).f1) h5 h7 _ A40.out).mono ?_
           rintro e w56 ⟨rfl,hb⟩
           have R9:=(hb.cell (World.block_lt_of_cell? _ _ (hHeld.2.2.1))).trans (hHeld.2.2.1)
           have S0:=(hb.cell (World.block_lt_of_cell? _ _ (hHeld.2.2.2))).trans (hHeld.2.2.2)
           refine ⟨_,rfl,?_⟩
           replace b8:=rB b8 hb
           replace b9:=rB b9 hb
           replace b1:=kB b1 hb
           replace b3:=kB b3 hb
           replace HB:=bB HB hb
           (try clear hb)
           refine hz hK (fun hHeld=>?_)
           clear hK K
           refine nq 72 ?_
           refine last_ (i:=6) (N:=none) (ba 7 127) rfl rfl (by kernel_rfl) (by decide) (fun K hK=>?_)
           have hs57:w56.cell? ⟨d0,0,none⟩ = some (.int .i64 b4):=cz b3 0
           have hfs57:=blk_frozen b3.out 0
           have Z4:=d6.out
           have Z5:=e9.out
           have hs58:w56.cell? ⟨d0,1,none⟩ = some (.int .i64 b2):=cz b3 1
           have hfs58:=blk_frozen b3.out 1
           have Z6:=d6.out
           have Z7:=e9.out
           refine skip_ (w1:=?_) (by rfl) rfl ?_ ?_
           rotate_left
           ·go_simp
            rfl
           refine hK.out _ _ ?_
           clear hK K
           refine done_ (by kernel_rfl) ?_
           have p8:0 ≤ (b0:Int):=of_decide_eq_true (by first | (with_reducible assumption) | assumption)
           have p9:b0 < (l1.length:Int):=of_decide_eq_true (by first | (with_reducible assumption) | assumption)
           obtain ⟨n5,q0,q1,C6,d1,d7,j5,j7⟩:=at_T45 t1.out b0 p8 p9
           cases C6
           have d8:n5.block ≠ d0:=Nat.ne_of_lt (Nat.lt_of_lt_of_le (by have:=World.block_lt_of_cell? _ _ d1;first | rwa [add_block] at this | exact this) p1.out)
           have d9:n5.block ≠ d0:=Nat.ne_of_lt (Nat.lt_of_lt_of_le (by have:=World.block_lt_of_cell? _ _ d1;first | rwa [add_block] at this | exact this) p1.out)
           replace d1:=(HB.out.cell (World.block_lt_of_cell? w _ d1)).trans d1
           replace d7:=(HB.out.cell (World.block_lt_of_cell? w _ d7)).trans d7
           have n6:=A_ j7
           have n7:=A_ j5
           clear j7 j5
           replace d1:=(cell_far (p:=⟨d0,0,none⟩) (by first | (rw [add_block];exact d8) | (show (Addr.add _ _).block ≠ _;rw [add_block];exact d8) | exact d8) (.int .i64 h5)).trans d1
           replace d7:=(cell_far (p:=⟨d0,0,none⟩) (by first | (rw [add_block];exact d8) | (show (Addr.add _ _).block ≠ _;rw [add_block];exact d8) | exact d8) (.int .i64 h5)).trans d7
           replace d1:=(cell_far (p:=⟨d0,1,none⟩) (by first | (rw [add_block];exact d9) | (show (Addr.add _ _).block ≠ _;rw [add_block];exact d9) | exact d9) (.int .i64 h7)).trans d1
           replace d7:=(cell_far (p:=⟨d0,1,none⟩) (by first | (rw [add_block];exact d9) | (show (Addr.add _ _).block ≠ _;rw [add_block];exact d9) | exact d9) (.int .i64 h7)).trans d7
           clear d8 d9
           replace p8:=eq_true p8
           replace p9:=eq_true p9
           try go_wp2_with (first | ((with_reducible refine gate_callee (f:=77) rfl ?_);refine gL (some 78) Try.func77 #[.agg #[.int .i64 ((rd_T45 l1 b0).f0),.slice q0 ((rd_T45 l1 b0).f1).length q1],.int .i64 d2] ?_;(with_reducible refine (numnahref07_Has.calls h9 ((rd_T45 l1 b0).f0) _ _ ((rd_T45 l1 b0).f1) d2 true _ ?side1 ?side2 A42.out).mono ?_);(case side1=>exact Kd.C_below n6.out (bl HB));(case side2=>exact n7.out);rintro e w59 ⟨rfl,hb⟩;refine ⟨_,rfl,?_⟩;replace b8:=A_ (Kd.R_below (by (with_reducible repeat (first | apply Kd.R_alloc | apply Kd.R_drewN | apply Kd.R_drew));exact (Kd.R_mono (Kd.R_far (p:=⟨d0,1,none⟩) (Kd.R_far (p:=⟨d0,0,none⟩) (Kd.R_mono b8.out (fun k_ hk=>(⟨hk,hk.2⟩:_ ∧ k_ ≠ d0))) (fun _ hk=>hk.2) (.int .i64 h5)) (fun _ hk=>hk.2) (.int .i64 h7)) (fun _ h_=>h_.1))) hb);replace b9:=A_ (Kd.R_below (by (with_reducible repeat (first | apply Kd.R_alloc | apply Kd.R_drewN | apply Kd.R_drew));exact (Kd.R_mono (Kd.R_far (p:=⟨d0,1,none⟩) (Kd.R_far (p:=⟨d0,0,none⟩) (Kd.R_types b9.out b3.out (by decide)) (fun _ hk=>hk.2) (.int .i64 h5)) (fun _ hk=>hk.2) (.int .i64 h7)) (fun _ h_=>h_.1))) hb);replace b1:=A_ (blk_below (g:=d3) (o:=.cells #[.int .i64 b7,.int .i64 b6] 23 (0,0)) (by (with_reducible repeat (first | refine blk_drewN ?_ _ | refine blk_drew ?_ | refine blk_alloc ?_ _));refine blk_far ?_ d6.out _;(with_reducible repeat (first | refine blk_drewN ?_ _ | refine blk_drew ?_ | refine blk_alloc ?_ _));refine blk_far ?_ d6.out _;(with_reducible repeat (first | refine blk_drewN ?_ _ | refine blk_drew ?_ | refine blk_alloc ?_ _));exact b1.out) hb);replace b3:=A_ (blk_below (g:=d0) (o:=.cells #[.int .i64 h5,.int .i64 h7] 23 (0,0)) (by (with_reducible repeat (first | refine blk_drewN ?_ _ | refine blk_drew ?_ | refine blk_alloc ?_ _));refine blk_put (cs:=#[.int .i64 h5,.int .i64 b2]) ?_ 1 _ rfl;(with_reducible repeat (first | refine blk_drewN ?_ _ | refine blk_drew ?_ | refine blk_alloc ?_ _));refine blk_put (cs:=#[.int .i64 b4,.int .i64 b2]) ?_ 0 _ rfl;(with_reducible repeat (first | refine blk_drewN ?_ _ | refine blk_drew ?_ | refine blk_alloc ?_ _));exact b3.out) hb);replace HB:=bB HB hb;(try clear hb);obtain ⟨Ao60,co60,eo60⟩:=Kd.R_slice b9.out;subst eo60;have s9:0 ≤ (b0:Int):=of_decide_eq_true (by first | (with_reducible assumption) | assumption);have t0:b0 < (e7.length:Int):=of_decide_eq_true (by first | (with_reducible assumption) | assumption);obtain ⟨S3,K2,r4⟩:=Kd.at_bool (Kd.R_reads' b9.out).2.2 b0 s9 t0;(try rw [← G6.out] at r4);cases K2;replace s9:=eq_true s9;replace t0:=eq_true t0;have K3:0 ≤ (b0:Int):=of_decide_eq_true (by first | (with_reducible assumption) | assumption);have K4:b0 < (l1.length:Int):=of_decide_eq_true (by first | (with_reducible assumption) | assumption);obtain ⟨S5,A856_1,c856_1,e856,r5,r6,t8,t9⟩:=at_T45 t1.out b0 K3 K4;obtain rfl:n5 = S5:=(by injection e856);replace r5:=(HB.out.cell (World.block_lt_of_cell? w _ r5)).trans r5;replace r6:=(HB.out.cell (World.block_lt_of_cell? w _ r6)).trans r6;have Z8:=A_ t9;have Z9:=A_ t8;clear t9 t8;replace K3:=eq_true K3;replace K4:=eq_true K4))
           go_roundg h9
           case measure=>have:=m2.out;have:=m4.out;have:=m5.out;have:=m3.out;have:=o0.out;omega
           case rel=>exact ⟨(wrap64 (e3 + ((rd_T45 l1 b0).f0))),(wrap64 (b0 + 1)),(h5),(h7),(by first | rfl | (simp;done) | (simp [*];done)),(by first | rfl | (simp;done) | (simp [*];done)),H',⟨by have:=m2.out;have:=m4.out;have:=m5.out;have:=m3.out;have:=o0.out;omega⟩,⟨by (with_reducible repeat (first | apply Kd.R_alloc | apply Kd.R_drewN | apply Kd.R_drew));exact b8.out⟩,⟨by (with_reducible repeat (first | apply Kd.R_alloc | apply Kd.R_drewN | apply Kd.R_drew));exact b9.out⟩,⟨by (with_reducible repeat (first | refine blk_drewN ?_ _ | refine blk_drew ?_ | refine blk_alloc ?_ _));exact b1.out⟩,⟨by (with_reducible repeat (first | refine blk_drewN ?_ _ | refine blk_drew ?_ | refine blk_alloc ?_ _));exact b3.out⟩,⟨bl HB⟩⟩
end Go.Proofs.Ytjohcjfmlhihbaa.G
set_option linter.unusedSectionVars false
namespace Go.Proofs.Ytjohcjfmlhihbaa.P
open Go Go.RowKit Go.Proofs.Ytjohcjfmlhihbaa.G
open Go.Proofs.YtjohcjfmlhihbaaW.PrintWords Go.Proofs.YtjohcjfmlhihbaaW.PrintMore
theorem cnt_congr:∀ (m:Nat) (f g:Nat → Bool),(∀ v,v < m → g v = f v) → cnt m g = cnt m f
 | 0,_,_,_=>rfl
 | m + 1,f,g,h=>by rw [cnt_succ,cnt_succ,cnt_congr m f g fun v hv=>h v (by omega),h m (by omega)]
theorem cnt_upd:∀ (m:Nat) (f g:Nat → Bool) (i:Nat),i < m → f i = false → g i = true → (∀ v,v ≠ i → g v = f v) → cnt m g + 1 = cnt m f
 | 0,_,_,_,h,_,_,_=>by omega
 | m + 1,f,g,i,h,h1,h2,h3=>by
  rw [cnt_succ,cnt_succ]
  by_cases e:i = m
  ·subst e
   rw [h1,h2,cnt_congr i f g fun v hv=>h3 v (by omega)];rfl
  ·have:=cnt_upd m f g i (by omega) h1 h2 h3
   rw [h3 m (fun h=>e h.symm)]
   omega
section
variable {p:List Int} {u:List S45} (hN:IsN p u) {fix:Nat → Bool} {r:Nat → Rat} {lam:Rat} {D:Nat} (hF:FS p u fix r lam D)
include hN hF
theorem rfair_l3 {z:S23} {c b0 b1 b2:Int} {v:List S23} {q:Nat} (hq:q < p.length) (hb:Ev (fun k=>(if wN (netOf p u) u fix q u.length = 0 then numnahref07_Fair.l2 k p u (rts u.length z fix r) (tab u.length fix) c b0 ((q + 1:Nat):Int) b1 b2 else if b0 < 0 then numnahref07_Fair.l2 k p u (rts u.length z fix r) (tab u.length fix) c (q:Int) ((q + 1:Nat):Int) (muq p u fix r q).num ((muq p u fix r q).den:Int) else (numnahref07_Less.f (muq p u fix r q).num ((muq p u fix r q).den:Int) b1 b2).bind fun t=>if t = true then numnahref07_Fair.l2 k p u (rts u.length z fix r) (tab u.length fix) c (q:Int) ((q + 1:Nat):Int) (muq p u fix r q).num ((muq p u fix r q).den:Int) else numnahref07_Fair.l2 k p u (rts u.length z fix r) (tab u.length fix) c b0 ((q + 1:Nat):Int) b1 b2)) v) :
  ∀ d i,i + d = u.length → Ev (fun k=>numnahref07_Fair.l3 k p u (rts u.length z fix r) (tab u.length fix) c b0 (q:Int) (wN (netOf p u) u fix q i:Int) (i:Int) b1 b2 (lf (netOf p u) fix r q i).num ((lf (netOf p u) fix r q i).den:Int)) v:=by
 intro d
 have h6:=hN.u6
 have h5:=hN.p5
 induction d with
 | zero =>
  intro i hi
  obtain rfl:i = u.length:=by omega
  by_cases hw:wN (netOf p u) u fix q u.length = 0
  ·refine Ev.step (fun k=>by rw [numnahref07_Fair.l3,if_neg (by omega),if_pos (by omega),wrap_succ (by omega)]) ?_
   exact Ev.congr (fun k=>(if_pos hw).symm) hb
  ·have hln:=lf_num hN hF hq (i:=u.length) (Nat.le_refl _)
   have hwl:=wN_cnt hN fix q u.length (Nat.le_refl _)
   have hcm:=cnt_m u.length fix
   have hm:(lf (netOf p u) fix r q u.length).den * wN (netOf p u) u fix q u.length ≤ 2949120 * 24:=Nat.mul_le_mul hln.2 (by omega)
   have ho:=ev_frac (lf (netOf p u) fix r q u.length).num ((lf (netOf p u) fix r q u.length).den * wN (netOf p u) u fix q u.length) (Nat.mul_pos (den_pos _) (by omega)) (by omega) (by omega)
   rw [mk_over _ (by omega)] at ho
   have e:wrap64 (((lf (netOf p u) fix r q u.length).den:Int) * (wN (netOf p u) u fix q u.length:Int)) = (((lf (netOf p u) fix r q u.length).den * wN (netOf p u) u fix q u.length:Nat):Int):=by
    rw [show ((lf (netOf p u) fix r q u.length).den:Int) * (wN (netOf p u) u fix q u.length:Int) = (((lf (netOf p u) fix r q u.length).den * wN (netOf p u) u fix q u.length:Nat):Int) by push_cast;rfl]
    exact wrap_nat (by omega)
   refine Ev.step (fun k=>by rw [numnahref07_Fair.l3,if_neg (by omega),if_neg (by omega),e,ref_reduced,wrap_succ (by omega)]) (Ev.bind ho ?_)
   exact Ev.congr (fun k=>(if_neg hw).symm) hb
 | succ d ih =>
  intro i hi
  have hil:i < u.length:=by omega
  have hn:=ih (i + 1) (by omega)
  rw [lf_succ,wN] at hn
  have hrl:(rts u.length z fix r).length = u.length:=tab_length _ _
  have hr1:fix i = true → rd_T23 (rts u.length z fix r) (i:Int) = encQ (r i):=fun hf=>by unfold rts;rw [tab_T hil,if_pos hf]
  refine Ev.step (fun k=>by rw [numnahref07_Fair.l3,if_pos (by omega),if_pos (by omega),tab_length,tab_b hil]) (Ev.bind (ev_rhasN hN hil q) ?_)
  by_cases hh:(netOf p u).has i q = true
  ·refine Ev.congr (fun k=>if_pos hh) (Ev.congr (fun k=>if_pos (by omega)) ?_)
   by_cases hf:fix i = true
   ·rw [hh,hf,if_pos (show (true && true) = true from rfl),if_neg (show ¬ (true && !true) = true by decide)] at hn
    refine Ev.step (fun k=>by rw [numnahref07_Fair.j4,if_pos hf,if_pos (by omega),hrl,if_pos (by omega),hr1 hf,tab_length,tab_b hil,wrap_succ (by omega)];rfl) (Ev.bind (ev_rsub (lf_fits hN hF hq hil hf)) ?_)
    refine Ev.congr (fun k=>if_pos (by omega)) (Ev.bind (ev_rhasN hN hil q) ?_)
    exact Ev.congr (fun k=>if_pos hh) (Ev.congr (fun k=>if_pos (by omega)) (Ev.congr (fun k=>if_pos hf) hn))
   ·have hf':fix i = false:=by simpa using hf
    rw [hh,hf',if_neg (show ¬ (true && false) = true by decide),if_pos (show (true && !false) = true from rfl)] at hn
    obtain ⟨_,e2,_,e4⟩:=w_nat hN hil
    have hwl:=wN_cnt hN fix q i (by omega)
    have hcm:=cnt_m i fix
    have ew:wrap64 ((wN (netOf p u) u fix q i:Int) + (rd_T45 u (i:Int)).f0) = ((wN (netOf p u) u fix q i + (rd_T45 u (i:Int)).f0.toNat:Nat):Int):=by
     rw [wrap_id (by omega) (by omega)]
     omega
    refine Ev.step (fun k=>by rw [numnahref07_Fair.j4,if_neg hf,if_pos (by omega),if_pos (by omega),tab_length,tab_b hil,wrap_succ (by omega),ew]) (Ev.bind (ev_rhasN hN hil q) ?_)
    exact Ev.congr (fun k=>if_pos hh) (Ev.congr (fun k=>if_pos (by omega)) (Ev.congr (fun k=>if_neg hf) hn))
  ·have hh':(netOf p u).has i q = false:=by simpa using hh
   rw [hh',if_neg (show ¬ (false && !fix i) = true by simp),if_neg (show ¬ (false && fix i) = true by simp)] at hn
   refine Ev.congr (fun k=>if_neg hh) ?_
   refine Ev.step (fun k=>by rw [numnahref07_Fair.j4,if_neg (by decide),if_pos (by omega),if_pos (by omega),wrap_succ (by omega)]) (Ev.bind (ev_rhasN hN hil q) ?_)
   exact Ev.congr (fun k=>if_neg hh) hn
theorem rfair_l2 {z:S23} {c:Int} {v:List S23}:∀ d i b,i + d = p.length → Best p u fix r i b → Ev (fun k=>numnahref07_Fair.l4 k p u (rts u.length z fix r) (tab u.length fix) c (bP (srch p u fix r d i b)).1 0 (bP (srch p u fix r d i b)).2.1 (bP (srch p u fix r d i b)).2.2) v →
  Ev (fun k=>numnahref07_Fair.l2 k p u (rts u.length z fix r) (tab u.length fix) c (bP b).1 (i:Int) (bP b).2.1 (bP b).2.2) v:=by
 intro d
 have h5:=hN.p5
 induction d with
 | zero =>
  intro i b hi hB hv
  refine Ev.step (fun k=>?_) hv
  rw [numnahref07_Fair.l2,if_neg (by omega)];rfl
 | succ d ih =>
  intro i b hi hB hv
  have hil:i < p.length:=by omega
  have hn:=ih (i + 1) (better p u fix r i b) (by omega) (hB.next hil) hv
  have e:lf (netOf p u) fix r i 0 = ((rd p (i:Int):Int):Rat):=by
   unfold lf;rw [S_nil]
   show ((rd p (i:Int):Int):Rat) - 0 = _
   grind
  have h3:=fun hb=>rfair_l3 hN hF (z:=z) (c:=c) (b0:=(bP b).1) (b1:=(bP b).2.1) (b2:=(bP b).2.2) (v:=v) hil hb u.length 0 (by omega)
  rw [e,whole_num,whole_den] at h3
  refine Ev.step (fun k=>by rw [numnahref07_Fair.l2,if_pos (by omega),if_pos (by omega)]) ?_
  unfold numnahref07_Whole.f
  simp only [Option.bind_some]
  refine h3 ?_
  unfold better at hn
  by_cases hw:wN (netOf p u) u fix i u.length = 0
  ·rw [if_pos hw] at hn
   exact Ev.congr (fun k=>if_pos hw) hn
  ·rw [if_neg hw] at hn
   refine Ev.congr (fun k=>if_neg hw) ?_
   cases b with
   | none=>exact Ev.congr (fun k=>if_pos (by decide)) hn
   | some am =>
    obtain ⟨h1,h2,h3',_⟩:=hB
    have hc:=rless (mu_fits hN hF hil hw h1 h2)
    rw [← h3'] at hc
    refine Ev.congr (fun k=>if_neg (show ¬ ((am.1:Int) < 0) by omega)) ?_
    refine Ev.congr (fun k=>congrArg (fun z=>Option.bind z _) hc) ?_
    have hn':Ev (fun k=>numnahref07_Fair.l2 k p u (rts u.length z fix r) (tab u.length fix) c (bP (if muq p u fix r i < am.2 then some (i,muq p u fix r i) else some am)).1 ((i + 1:Nat):Int) (bP (if muq p u fix r i < am.2 then some (i,muq p u fix r i) else some am)).2.1 (bP (if muq p u fix r i < am.2 then some (i,muq p u fix r i) else some am)).2.2) v:=hn
    by_cases hlt:muq p u fix r i < am.2
    ·rw [if_pos hlt] at hn'
     exact Ev.congr (fun k=>if_pos (decide_eq_true hlt)) hn'
    ·rw [if_neg hlt] at hn'
     exact Ev.congr (fun k=>if_neg (by rw [decide_eq_false hlt];decide)) hn'
theorem rfair_l4 {z:S23} {v:List S23} {am:Nat × Rat} (hB:Best p u fix r p.length (some am)) (hv:Ev (fun k=>numnahref07_Fair.l1 k p u (rts u.length z (fixN p u fix am.1) (rN p u fix r am.1 am.2)) (tab u.length (fixN p u fix am.1)) (cnt u.length (fixN p u fix am.1):Int)) v):∀ d i,i + d = u.length →
  Ev (fun k=>numnahref07_Fair.l4 k p u (rts u.length z (fixI p u fix am.1 i) (rI p u fix r am.1 am.2 i)) (tab u.length (fixI p u fix am.1 i)) (cnt u.length (fixI p u fix am.1 i):Int) (am.1:Int) (i:Int) am.2.num (am.2.den:Int)) v:=by
 intro d
 have h6:=hN.u6
 induction d with
 | zero =>
  intro i hi
  obtain rfl:i = u.length:=by omega
  have e:cnt u.length (fixI p u fix am.1 u.length) = cnt u.length (fixN p u fix am.1):=cnt_congr _ _ _ fun v hv=>by unfold fixI;rw [if_pos hv]
  rw [last_lists.1,(last_lists (r:=r) (z:=z) (m:=am.2)).2,e]
  refine Ev.step (fun k=>?_) hv
  rw [numnahref07_Fair.l4,if_neg (by omega)]
 | succ d ih =>
  intro i hi
  have hil:i < u.length:=by omega
  have hn:=ih (i + 1) (by omega)
  have hlr:(rts u.length z (fixI p u fix am.1 i) (rI p u fix r am.1 am.2 i)).length = u.length:=tab_length _ _
  have hfi:fixI p u fix am.1 i i = fix i:=by unfold fixI;rw [if_neg (by omega)]
  refine Ev.step (fun k=>by rw [numnahref07_Fair.l4,if_pos (by omega),if_pos (by omega),tab_length,tab_b hil,hfi,hlr,wrap_succ (by omega)]) (Ev.bind (ev_rhasN hN hil am.1) ?_)
  have same:¬ (fix i = false ∧ (netOf p u).has i am.1 = true) → cnt u.length (fixI p u fix am.1 (i + 1)) = cnt u.length (fixI p u fix am.1 i):=fun h=>by
   have:=(next_same (r:=r) (z:=z) (m:=am.2) h).2
   refine cnt_congr _ _ _ fun v hv=>?_
   rw [← tab_b (f:=fixI p u fix am.1 (i + 1)) hv,this,tab_b hv]
  by_cases hh:(netOf p u).has i am.1 = true
  ·refine Ev.congr (fun k=>if_pos hh) (Ev.congr (fun k=>if_pos (by omega)) ?_)
   by_cases hf:fix i = true
   ·have hno:¬ (fix i = false ∧ (netOf p u).has i am.1 = true):=fun h=>by rw [hf] at h;cases h.1
    rw [(next_same hno).1,(next_same (r:=r) (z:=z) (m:=am.2) hno).2,same hno] at hn
    exact Ev.congr (fun k=>if_pos hf) hn
   ·have hf':fix i = false:=by simpa using hf
    have hc:cnt u.length (fixI p u fix am.1 (i + 1)) + 1 = cnt u.length (fixI p u fix am.1 i):=by
     refine cnt_upd _ _ _ i hil (by rw [hfi];exact hf') ?_ ?_
     ·unfold fixI fixN
      rw [if_pos (by omega),hh,Bool.or_true]
     ·intro v e
      unfold fixI
      by_cases e2:v < i
      ·rw [if_pos (by omega),if_pos e2]
      ·rw [if_neg (by omega),if_neg e2]
    have hcm:=cnt_m u.length (fixI p u fix am.1 i)
    have ec:wrap64 ((cnt u.length (fixI p u fix am.1 i):Int) - 1) = (cnt u.length (fixI p u fix am.1 (i + 1)):Int):=by
     rw [wrap_id (by omega) (by omega)];omega
    rw [(next_set ⟨hf',hh⟩).1,(next_set (r:=r) (z:=z) (m:=am.2) ⟨hf',hh⟩).2,← ec] at hn
    obtain ⟨h1,h2,h3,_⟩:=hB
    have hmu:=mu_num hN hF h1 h2
    rw [← h3] at hmu
    obtain ⟨_,e2,_,e4⟩:=w_nat hN hil
    have hsm:(am.2.num * (rd_T45 u (i:Int)).f0).natAbs < 9223372036854775808:=by
     rw [Int.natAbs_mul]
     exact Nat.lt_of_le_of_lt (Nat.mul_le_mul hmu.1 (show (rd_T45 u (i:Int)).f0.natAbs ≤ 4 by omega)) (by decide)
    have ht:=ev_frac (am.2.num * (rd_T45 u (i:Int)).f0) am.2.den (den_pos _) hsm (by omega)
    rw [mk_times] at ht
    have ht2:Ev (fun k=>numnahref07_Reduced.f k (wrap64 (am.2.num * (rd_T45 u (i:Int)).f0)) (am.2.den:Int)) ((am.2 * ((rd_T45 u (i:Int)).f0:Rat)).num,((am.2 * ((rd_T45 u (i:Int)).f0:Rat)).den:Int)):=by
     rw [wrap_abs hsm]
     exact Ev.congr (fun k=>ref_reduced k _ _) ht
    exact Ev.congr (fun k=>if_neg hf) (Ev.bind ht2 (Ev.congr (fun k=>if_pos (by omega)) hn))
  ·have hno:¬ (fix i = false ∧ (netOf p u).has i am.1 = true):=fun h=>hh h.2
   rw [(next_same hno).1,(next_same (r:=r) (z:=z) (m:=am.2) hno).2,same hno] at hn
   exact Ev.congr (fun k=>if_neg hh) hn
end
section
variable {p:List Int} {u:List S45} (hN:IsN p u)
include hN
theorem rfair_l1 (z:S23):∀ c (fix:Nat → Bool) (r:Nat → Rat) (lam:Rat) (D:Nat),FS p u fix r lam D → cnt u.length fix ≤ c → ∃ x,FairR p u x ∧ Ev (fun k=>numnahref07_Fair.l1 k p u (rts u.length z fix r) (tab u.length fix) (cnt u.length fix:Int)) (encL x):=by
 intro c
 have h6:=hN.u6
 induction c with
 | zero =>
  intro fix r lam D hF hc
  obtain ⟨h1,h2⟩:=hF.done hN (by omega) z
  refine ⟨_,h1,?_⟩
  rw [h2]
  refine Ev.step (f:=fun _=>some (encL (tab u.length r))) (fun k=>?_) (Ev.now _)
  rw [numnahref07_Fair.l1,if_neg (by omega)]
 | succ c ih =>
  intro fix r lam D hF hc
  by_cases h0:0 < cnt u.length fix
  ·obtain ⟨am,hs,hB⟩:=some_best hN hF h0
   obtain ⟨hF2,hlt⟩:=hF.next hN hB
   obtain ⟨x,hx,hv⟩:=ih _ _ _ _ hF2 (by omega)
   refine ⟨x,hx,Ev.step (fun k=>by rw [numnahref07_Fair.l1,if_pos (by omega)]) ?_⟩
   refine rfair_l2 hN hF p.length 0 none (by omega) (fun q hq=>by omega) ?_
   rw [hs]
   have h:=rfair_l4 hN hF hB hv u.length 0 (by omega)
   have e:cnt u.length (fixI p u fix am.1 0) = cnt u.length fix:=cnt_congr _ _ _ fun v hv=>by unfold fixI;rw [if_neg (by omega)]
   rw [first_lists.1,(first_lists (r:=r) (z:=z) (m:=am.2)).2,e] at h
   exact h
  ·exact ih fix r lam D hF (by omega)
theorem rfair_l0:∀ d i,i + d = u.length → ∃ x,FairR p u x ∧ Ev (fun k=>numnahref07_Fair.l0 k p u (tab u.length (fun v=>if v < i then (⟨0,1⟩:S23) else z23)) (tab u.length (fun _=>false)) (i:Int)) (encL x):=by
 intro d
 have h6:=hN.u6
 induction d with
 | zero =>
  intro i hi
  obtain rfl:i = u.length:=by omega
  obtain ⟨x,hx,hv⟩:=rfair_l1 hN ⟨0,1⟩ (cnt u.length (fun _=>false)) (fun _=>false) (fun _=>0) 0 1 (FS.start hN _) (Nat.le_refl _)
  refine ⟨x,hx,Ev.step (fun k=>?_) hv⟩
  have e:cnt u.length (fun _=>false) = u.length:=by
   unfold cnt
   exact (List.countP_eq_length.2 (fun _ _=>rfl)).trans List.length_range
  rw [numnahref07_Fair.l0,if_neg (by omega),e]
  congr 1
  exact tab_congr fun v hv=>by rw [if_pos hv];rfl
 | succ d ih =>
  intro i hi
  obtain ⟨x,hx,hv⟩:=ih (i + 1) (by omega)
  refine ⟨x,hx,Ev.step (fun k=>?_) hv⟩
  rw [numnahref07_Fair.l0,if_pos (by omega),numnahref07_Whole.f]
  simp only [Option.bind_some]
  rw [if_pos (by omega),tab_length,if_pos (by omega),wrap_succ (by omega),Int.toNat_natCast,tab_set]
  congr 1
  refine tab_congr fun v hv=>?_
  by_cases e:v = i
  ·subst e;rw [if_pos rfl,if_pos (by omega)]
  ·by_cases e2:v < i
   ·rw [if_neg e,if_pos e2,if_pos (by omega)]
   ·rw [if_neg e,if_neg e2,if_neg (by omega)]
theorem ev_rfair0:∃ x,FairR p u x ∧ Ev (fun k=>numnahref07_Fair.f k p u) (encL x):=by
 have h6:=hN.u6
 obtain ⟨x,hx,hv⟩:=rfair_l0 hN u.length 0 (by omega)
 refine ⟨x,hx,?_⟩
 unfold numnahref07_Fair.f
 refine Ev.congr (fun k=>if_pos (by omega)) (Ev.congr (fun k=>if_pos (by omega)) (Ev.congr (fun k=>if_pos (by omega)) ?_))
 rw [Int.toNat_natCast,tab_rep,tab_rep]
 have e:tab u.length (fun v=>if v < 0 then (⟨0,1⟩:S23) else z23) = tab u.length (fun _=>z23):=tab_congr fun v _=>by rw [if_neg (by omega)]
 rw [e] at hv
 exact hv
theorem FairR.eq {x y:List Rat} (hx:FairR p u x) (hy:FairR p u y):x = y:=by
 have h:=Net.unique (wpos hN) hx.fair hy.fair
 apply List.ext_getElem
 ·rw [hx.len,hy.len]
 ·intro i h1 h2
  have:=h i (by have:=hx.len;show i < u.length;omega)
  rwa [rt_get h1,rt_get h2] at this
theorem fair_both:∃ x,FairR p u x ∧ Ev (fun k=>shares_net_fair.f k p u) (encL x) ∧ Ev (fun k=>numnahref07_Fair.f k p u) (encL x):=by
 obtain ⟨x,hx,e1⟩:=ev_fair hN
 obtain ⟨y,hy,e2⟩:=ev_rfair0 hN
 rw [← hx.eq hN hy] at e2
 exact ⟨x,hx,e1,e2⟩
theorem fair_part {x:List Rat} {D:Nat} (d0:0 < D) (hb:∀ v,v < u.length → 0 ≤ rt x v ∧ rt x v ≤ ((200:Nat):Rat) ∧ (rt x v).den ∣ D) (q:Nat):∀ i,i ≤ u.length → (part (netOf p u) (rt x) q i).den ∣ D ∧ 0 ≤ part (netOf p u) (rt x) q i ∧ part (netOf p u) (rt x) q i ≤ ((200 * i:Nat):Rat)
 | 0,_=>⟨by rw [show part (netOf p u) (rt x) q 0 = 0 from rfl];exact Nat.one_dvd _,Rat.le_refl,by rw [show part (netOf p u) (rt x) q 0 = 0 from rfl];exact Rat.natCast_nonneg⟩
 | i + 1,h=>by
  obtain ⟨h1,h2,h3⟩:=fair_part d0 hb q i (by omega)
  obtain ⟨a,b,c⟩:=hb i (by omega)
  have e:((200 * (i + 1):Nat):Rat) = ((200 * i:Nat):Rat) + ((200:Nat):Rat):=by push_cast;grind
  have z:(0:Rat) ≤ ((200:Nat):Rat):=Rat.natCast_nonneg
  rw [part_succ,e]
  split
  ·exact ⟨add_den_dvd' h1 c d0,by grind,by grind⟩
  ·exact ⟨h1,h2,by grind⟩
theorem FairR.ok {x:List Rat} (hx:FairR p u x):OkR p u x:=by
 obtain ⟨D,d0,dD,hb⟩:=hx.bd
 have h6:=hN.u6
 have z:∀ n:Nat,(0:Rat) ≤ (n:Rat):=fun n=>Rat.natCast_nonneg
 have sm:∀ {q:Rat} {B:Nat},0 ≤ q → q ≤ (B:Rat) → q.den ≤ 2949120 → q.num.natAbs ≤ B * 2949120:=fun {q B} h0 h1 hd=>by
  have h5:=num_bound (B:=B) (by have:=z B;grind) h1
  exact Nat.le_trans h5 (Nat.mul_le_mul_left _ hd)
 have hr:∀ i,i < u.length → (rt x i).num.natAbs ≤ 589824000 ∧ (rt x i).den ≤ 2949120:=fun i hi=>by
  obtain ⟨a,b,c⟩:=hb i hi
  have hd:(rt x i).den ≤ 2949120:=Nat.le_trans (Nat.le_of_dvd d0 c) dD
  have:=sm a b hd
  exact ⟨by omega,hd⟩
 have hl:∀ i,i < u.length → (rt x i / (netOf p u).w i).num.natAbs ≤ 2359296000 ∧ (rt x i / (netOf p u).w i).den ≤ 11796480:=fun i hi=>by
  obtain ⟨e1,_,e3,e4⟩:=w_nat hN hi
  obtain ⟨a,b,c⟩:=hb i hi
  rw [e1]
  have n0:0 < (rd_T45 u (i:Int)).f0.toNat:=by omega
  have h1:=Nat.le_of_dvd (Nat.mul_pos (den_pos _) n0) (over_den (rt x i) n0)
  have h2:(rt x i).den * (rd_T45 u (i:Int)).f0.toNat ≤ 2949120 * 4:=Nat.mul_le_mul (hr i hi).2 e4
  have h3:=over_le n0 a
  have h5:=num_bound (B:=200) (by have:=z 200;grind) (Rat.le_trans h3.2 b)
  have h7:200 * (rt x i / (((rd_T45 u (i:Int)).f0.toNat:Nat):Rat)).den ≤ 200 * 11796480:=Nat.mul_le_mul_left _ (by omega)
  exact ⟨by omega,by omega⟩
 have fits:∀ {a b:Rat} {A B D E:Nat},a.num.natAbs ≤ A → a.den ≤ D → b.num.natAbs ≤ B → b.den ≤ E → A * E + B * D < 9223372036854775808 → D * E < 9223372036854775808 → Fits a b:=fun a1 a2 b1 b2 h h2 =>
  ⟨Nat.lt_of_le_of_lt (Nat.add_le_add (Nat.mul_le_mul a1 b2) (Nat.mul_le_mul b1 a2)) h,Nat.lt_of_le_of_lt (Nat.mul_le_mul a2 b2) h2⟩
 refine ⟨hx.len,fun q i hi=>?_,fun i j hi hj=>?_,fun i hi=>?_,fun i hi=>?_⟩
 ·obtain ⟨h1,h2,h3⟩:=fair_part hN d0 hb q i (by omega)
  have hd:(part (netOf p u) (rt x) q i).den ≤ 2949120:=Nat.le_trans (Nat.le_of_dvd d0 h1) dD
  have h4:=sm h2 (Rat.le_trans h3 (Rat.natCast_le_natCast.2 (by omega:200 * i ≤ 1200))) hd
  exact fits (A:=3538944000) (by omega) hd (hr i hi).1 (hr i hi).2 (by decide) (by decide)
 ·exact fits (hl i hi).1 (hl i hi).2 (hl j hj).1 (hl j hj).2 (by decide) (by decide)
 ·exact Nat.lt_of_le_of_lt (hr i hi).1 (by decide)
 ·have:=(hr i hi).2;omega
end
end Go.Proofs.Ytjohcjfmlhihbaa.P
namespace Go.Proofs.Ytjohcjfmlhihbaa.G
open Go.RowKit Go.Proofs.YtjohcjfmlhihbaaW.PrintWords Go.Proofs.YtjohcjfmlhihbaaW.PrintLast Go.Proofs.YtjohcjfmlhihbaaW.PrintMore
set_option maxHeartbeats 8000000
set_option maxRecDepth 100000
attribute [local go_sem] cond_true cond_false fld23_0 fld23_1 fld45_0 fld45_1 fld109_0 fld109_1 fld94_0 fld94_1 max2_int min2_int max_two min_two max_three min_three max_four min_four
attribute [local go_sem high] eqA23
def shares_Fair.l0:Nat → List (S23) → List Int → Int → Int → List Int → List (S45) → Option ((List (S23)) × List Int × Int)
 | 0,_,_,_,_,_,_=>none
 | k + 1,x9,h4,x23,h5,b8,b9=>if h5 < x23 then ((shares_net_held.f k b8 b9 x9 h5).bind fun b7=>(if h4.length < 17592186044416 then (shares_Fair.l0 k x9 (h4 ++ [b7]) x23 (wrap64 (h5 + 1)) b8 b9) else (none))) else (some (x9,h4,0))
def shares_Fair.f (k:Nat) (l0:List Int) (l1:List (S45)):Option ((List (S23)) × List Int × Int):=(shares_newNet.f k l0 l1).bind fun d1=>(if d1 = true then ((shares_net_fair.f k l0 l1).bind fun b1=>(shares_Fair.l0 k b1 ([]:List Int) (l1.length:Int) 0 l0 l1)) else (some (([]:List (S23)),([]:List Int),2)))
theorem shares_Fair.mono_l:∀ k,(∀ y0 y1 y2 y3 y4 y5,LeO (shares_Fair.l0 k y0 y1 y2 y3 y4 y5) (shares_Fair.l0 (k + 1) y0 y1 y2 y3 y4 y5))
 | 0=>fun _ _ _ _ _ _ r h=>by simp [shares_Fair.l0] at h
 | k + 1=>by
  have h6:=shares_Fair.mono_l k
  intro y0 y1 y2 y3 y4 y5
  unfold shares_Fair.l0
  repeat' first
  | (with_reducible first | exact h6 _ _ _ _ _ _ | exact shares_net_fair.mono _ _ _ | exact shares_net_held.mono _ _ _ _ _ | exact shares_newNet.mono _ _ _ | exact LeO.refl _ | exact LeO.none _ | refine LeO.ite ?_ ?_ | refine LeO.bind ?_ (fun _=>?_))
  | exact LeO.none _ | refine LeO.ite ?_ ?_ | refine LeO.bind ?_ (fun _=>?_)
theorem shares_Fair.mono:∀ a0 a1 k,LeO (shares_Fair.f k a0 a1) (shares_Fair.f (k + 1) a0 a1):=by
 intro a0 a1 k
 have h6:=shares_Fair.mono_l k
 unfold shares_Fair.f
 repeat' first
   | (with_reducible first | exact h6 _ _ _ _ _ _ | exact shares_net_fair.mono _ _ _ | exact shares_net_held.mono _ _ _ _ _ | exact shares_newNet.mono _ _ _ | exact LeO.refl _ | exact LeO.none _ | refine LeO.ite ?_ ?_ | refine LeO.bind ?_ (fun _=>?_))
   | exact LeO.none _ | refine LeO.ite ?_ ?_ | refine LeO.bind ?_ (fun _=>?_)
theorem shares_Fair.calls (k:Nat) (A0:Option Addr) (c0:Nat) (l0:List Int) (A1:Option Addr) (c1:Nat) (l1:List (S45)) (r1:List (S23)) (r2:List Int) (r3:Int) (w:World) (i6:Kd.C (Kd.int .i64) w A0 l0.length l0) (i7:l0.length ≤ c0) (i8:Kd.C k45 w A1 l1.length l1) (i9:l1.length ≤ c1) (h:shares_Fair.f k l0 l1 = some (r1,r2,r3)) :
  Calls Try.prog 32 #[.slice A0 l0.length c0,.slice A1 l1.length c1] w fun e w'=>∃ j5 j7:Value,e = .returned (.tuple #[j5,j7,.int .i64 r3]) ∧ Kd.R k23 23 w' w.heap.size (fun _=>True) j5 r1 ∧ Kd.R (Kd.int .i64) 3 w' w.heap.size (fun _=>True) j7 r2 ∧ Below w.heap.size w w':=by
 have j8:=Try.underlying109
 have e2:=A_ i6
 have e3:=A_ i7
 clear i6 i7
 have e4:=A_ i8
 have e5:=A_ i9
 clear i8 i9
 have HB:=A_ (Below.refl w.heap.size w)
 have H:((shares_newNet.f k l0 l1).bind fun d1=>(if d1 = true then ((shares_net_fair.f k l0 l1).bind fun b1=>(shares_Fair.l0 k b1 ([]:List Int) (l1.length:Int) 0 l0 l1)) else (some (([]:List (S23)),([]:List Int),2)))) = some (r1,r2,r3):=h
 clear h
 replace H:=Option.bind_eq_some_iff.mp H
 obtain ⟨d1,j9,H⟩:=H
 replace H:(if d1 = true then ((shares_net_fair.f k l0 l1).bind fun b1=>(shares_Fair.l0 k b1 ([]:List Int) (l1.length:Int) 0 l0 l1)) else (some (([]:List (S23)),([]:List Int),2))) = some (r1,r2,r3):=H
 have A3:=A_ j9
 clear j9
 by_cases c4:d1 = true
 case neg =>
  replace c4:=Bool.eq_false_iff.mpr c4
  subst c4
  rw [if_neg (show ¬ (false = true) by decide)] at H
  simp only [Option.some.injEq,Prod.mk.injEq] at H
  obtain ⟨rfl,rfl,rfl⟩:=H
  go_enter Try.func32,Try.ntmps32
  go_wp2_with (first | ((with_reducible refine gate_callee (f:=70) rfl ?_);refine gL (some 15) Try.func70 #[.slice A0 l0.length c0,.slice A1 l1.length c1] ?_;(with_reducible refine (shares_newNet.calls k _ _ l0 _ _ l1 false _ ?side1 ?side2 ?side3 ?side4 A3.out).mono ?_);(case side1=>repeat (first | exact e2.out | (with_reducible refine Kd.C_alloc ?_ _) | (with_reducible refine Kd.C_drewN ?_ _) | (with_reducible refine Kd.C_drew ?_)));(case side2=>exact e3.out);(case side3=>repeat (first | exact e4.out | (with_reducible refine Kd.C_alloc ?_ _) | (with_reducible refine Kd.C_drewN ?_ _) | (with_reducible refine Kd.C_drew ?_)));(case side4=>exact e5.out);rintro e m6 ⟨rfl,hb⟩;refine ⟨_,rfl,?_⟩;replace HB:=bB HB hb;(try clear hb)) | ((with_reducible refine gate_dst (N:=7) rfl ?_);refine bx 7 #[.slice none 0 0,.slice none 0 0] 109 ?_;intro d3 hg l5 hbox hb;have d0:=A_ hbox;have d4:=gw hg HB;have l6:=d4;replace HB:=bB HB hb;clear hb hbox hg;have e6:l5.cell? ⟨d3,0,none⟩ = some (.slice none 0 0):=cz d0 0;have e7:l5.cell? ⟨d3,1,none⟩ = some (.slice none 0 0):=cz d0 1;have e8:=blk_frozen d0.out 0;have e9:=blk_frozen d0.out 1))
  go_ret3
  exact ⟨_,_,rfl,by first | exact Kd.R_nil _ _ _ _ _ | exact Kd.N_nil _ _ _ _ _ | exact Kd.V_nil _ _ _ _ _ | exact Kd.Q_nil _ _ _ _ _ | exact Kd.S_nil _ _ _ _ _,by first | exact Kd.R_nil _ _ _ _ _ | exact Kd.N_nil _ _ _ _ _ | exact Kd.V_nil _ _ _ _ _ | exact Kd.Q_nil _ _ _ _ _ | exact Kd.S_nil _ _ _ _ _,bl HB⟩
 subst c4
 rw [if_pos rfl] at H
 replace H:=Option.bind_eq_some_iff.mp H
 obtain ⟨b1,l7,H⟩:=H
 replace H:(shares_Fair.l0 k b1 ([]:List Int) (l1.length:Int) 0 l0 l1) = some (r1,r2,r3):=H
 have A5:=A_ l7
 clear l7
 have H':=A_ H
 clear H
 go_enter Try.func32,Try.ntmps32
 go_wp2_with (first | ((with_reducible refine gate_callee (f:=70) rfl ?_);refine gL (some 15) Try.func70 #[.slice A0 l0.length c0,.slice A1 l1.length c1] ?_;(with_reducible refine (shares_newNet.calls k _ _ l0 _ _ l1 true _ ?side1 ?side2 ?side3 ?side4 A3.out).mono ?_);(case side1=>repeat (first | exact e2.out | (with_reducible refine Kd.C_alloc ?_ _) | (with_reducible refine Kd.C_drewN ?_ _) | (with_reducible refine Kd.C_drew ?_)));(case side2=>exact e3.out);(case side3=>repeat (first | exact e4.out | (with_reducible refine Kd.C_alloc ?_ _) | (with_reducible refine Kd.C_drewN ?_ _) | (with_reducible refine Kd.C_drew ?_)));(case side4=>exact e5.out);rintro e w6 ⟨rfl,hb⟩;refine ⟨_,rfl,?_⟩;replace HB:=bB HB hb;(try clear hb)) | ((with_reducible refine gate_dst (N:=7) rfl ?_);refine bx 7 #[.slice none 0 0,.slice none 0 0] 109 ?_;intro b3 hg w7 hbox hb;have b0:=A_ hbox;have d5:=gw hg HB;have l8:=d5;replace HB:=bB HB hb;clear hb hbox hg;have h7:w7.cell? ⟨b3,0,none⟩ = some (.slice none 0 0):=cz b0 0;have h8:w7.cell? ⟨b3,1,none⟩ = some (.slice none 0 0):=cz b0 1;have h9:=blk_frozen b0.out 0;have i0:=blk_frozen b0.out 1) | ((with_reducible refine gate_callee (f:=71) rfl ?_);refine gL (some 21) Try.func71 #[.agg #[.slice A0 l0.length c0,.slice A1 l1.length c1]] ?_;(with_reducible refine (shares_net_fair.calls k _ _ l0 _ _ l1 b1 _ ?side1 ?side2 ?side3 ?side4 A5.out).mono ?_);(case side1=>exact Kd.C_below e2.out (bl HB));(case side2=>exact e3.out);(case side3=>exact Kd.C_below e4.out (bl HB));(case side4=>exact e5.out);rintro e w9 ⟨i1,rfl,m1,hb⟩;refine ⟨_,rfl,?_⟩;have d6:=A_ (Kd.R_lower m1 (below_size (bl HB)));replace b0:=A_ (blk_below (g:=b3) (o:=.cells #[.slice A0 l0.length c0,.slice A1 l1.length c1] 109 (0,0)) (by (with_reducible repeat (first | refine blk_drewN ?_ _ | refine blk_drew ?_ | refine blk_alloc ?_ _));refine blk_put (cs:=#[.slice A0 l0.length c0,.slice none 0 0]) ?_ 1 _ rfl;(with_reducible repeat (first | refine blk_drewN ?_ _ | refine blk_drew ?_ | refine blk_alloc ?_ _));refine blk_put (cs:=#[.slice none 0 0,.slice none 0 0]) ?_ 0 _ rfl;(with_reducible repeat (first | refine blk_drewN ?_ _ | refine blk_drew ?_ | refine blk_alloc ?_ _));exact b0.out) hb);replace HB:=bB HB hb;(try clear hb)))
 go_loopg [10,24] k (fun kq m2 m3 w'=>∃ (b4:List Int) (b2:Int),m3 = .int .i64 b2 ∧ Aside0 (shares_Fair.l0 kq b1 b4 (l1.length:Int) b2 l0 l1 = some (r1,r2,r3)) ∧ Aside0 (kq ≤ k) ∧ Aside0 (Kd.R k23 23 w' w.heap.size (fun _=>True) i1 b1) ∧ Aside0 (Kd.R (Kd.int .i64) 3 w' w.heap.size (fun _=>True) m2 b4) ∧ Aside0 (w'.heap[b3]? = some (.cells #[(.slice A0 l0.length c0),(.slice A1 l1.length c1)] 109 (0,0))) ∧ Aside0 (Below w.heap.size w w'))
 case atStart=>exact ⟨(([]:List Int)),(0),rfl,H',⟨Nat.le_refl _⟩,⟨by (with_reducible repeat (first | apply Kd.R_alloc | apply Kd.R_drewN | apply Kd.R_drew));exact d6.out⟩,⟨by first | exact Kd.R_nil _ _ _ _ _ | exact Kd.N_nil _ _ _ _ _ | exact Kd.V_nil _ _ _ _ _ | exact Kd.Q_nil _ _ _ _ _ | exact Kd.S_nil _ _ _ _ _⟩,⟨by (with_reducible repeat (first | refine blk_drewN ?_ _ | refine blk_drew ?_ | refine blk_alloc ?_ _));exact b0.out⟩,⟨bl HB⟩⟩
 case round =>
  clear H'
  obtain ⟨b4,b2,rfl,HA,l9,b6,b5,b0,HB⟩:=hrel
  cases gk with
  | zero=>exact absurd HA.out (by simp [shares_Fair.l0])
  | succ k1 =>
   have H:=HA.out
   clear HA
   simp only [shares_Fair.l0] at H
   by_cases c10:b2 < (l1.length:Int)
   case neg =>
    rw [if_neg c10] at H
    have d7:=decide_eq_false c10
    clear c10
    simp only [Option.some.injEq,Prod.mk.injEq] at H
    obtain ⟨rfl,rfl,rfl⟩:=H
    go_wp2
    go_ret3
    exact ⟨_,_,rfl,by (with_reducible repeat (first | apply Kd.R_alloc | apply Kd.R_drewN | apply Kd.R_drew));exact b6.out,by (with_reducible repeat (first | apply Kd.R_alloc | apply Kd.R_drewN | apply Kd.R_drew));exact b5.out,bl HB⟩
   rw [if_pos c10] at H
   have d7:=decide_eq_true c10
   clear c10
   replace H:=Option.bind_eq_some_iff.mp H
   obtain ⟨b7,d8,H⟩:=H
   replace H:(if b4.length < 17592186044416 then (shares_Fair.l0 k1 b1 (b4 ++ [b7]) (l1.length:Int) (wrap64 (b2 + 1)) l0 l1) else (none)) = some (r1,r2,r3):=H
   have m4:=A_ d8
   clear d8
   replace H:=gd H
   obtain ⟨m0,H⟩:=H
   have d9:=A_ m0
   clear m0
   obtain ⟨i2,d2⟩:∃ y_:List Int,y_ = (b4 ++ [b7]):=⟨_,rfl⟩
   rw [← d2] at H
   have e0:=A_ d2
   clear d2
   have H':=A_ H
   clear H
   have h0:wr.cell? ⟨b3,0,none⟩ = some (.slice A0 l0.length c0):=cz b0 0
   have h1:wr.cell? ⟨b3,1,none⟩ = some (.slice A1 l1.length c1):=cz b0 1
   have h2:=blk_frozen b0.out 0
   have h3:=blk_frozen b0.out 1
   obtain ⟨i3,i4,i5⟩:=Kd.R_slice b6.out
   subst i5
   go_wp2_with (first | ((with_reducible refine gate_callee (f:=72) rfl ?_);refine gL (some 31) Try.func72 #[.agg #[.slice A0 l0.length c0,.slice A1 l1.length c1],.slice i3 b1.length i4,.int .i64 b2] ?_;(with_reducible refine (shares_net_held.calls k1 _ _ l0 _ _ l1 _ _ b1 b2 b7 _ ?side1 ?side2 ?side3 ?side4 ?side5 ?side6 m4.out).mono ?_);(case side1=>exact cB e2 HB);(case side2=>exact e3.out);(case side3=>exact cB e4 HB);(case side4=>exact e5.out);(case side5=>repeat (first | exact (Kd.R_reads' b6.out).2.2 | (with_reducible refine Kd.C_alloc ?_ _) | (with_reducible refine Kd.C_drewN ?_ _) | (with_reducible refine Kd.C_drew ?_)));(case side6=>exact (Kd.R_reads' b6.out).2.1);rintro e m7 ⟨rfl,hb⟩;refine ⟨_,rfl,?_⟩;replace b6:=rB b6 hb;replace b5:=rB b5 hb;replace b0:=kB b0 hb;replace HB:=bB HB hb;(try clear hb)) | ((with_reducible refine gate_builtin (b:=.append) (xs:=#[.tmp 27,.tmp 32]) rfl ?_);at_builtin;refine Kd.R_append (Kd.int .i64) (w0:=w) w.heap.size rfl (.tmp 27) (.tmp 32) 28 3 (.int .i64 0) 8 rfl Try.underlying28 info3 rfl (by decide) (by omega) u10 b4 b7 [.int .i64 b7] (fun _=>True) (fun _=>False) rfl rfl ?aP (fun _ hk=>hk.elim) ?aF ?aO ?aB ?aS ?aL ?_;(case aP=>exact rfl);(case aB=>exact HB.out);(case aF=>exact (fun _ _=>trivial));(case aO=>exact b5.out);(case aS=>exact (below_size HB.out));(case aL=>have:=d9.out;omega);intro m5 m8 ho hb hg hat;rw [← e0.out] at ho;have e1:=A_ ho;replace b6:=A_ (Kd.R_over' b6.out (Kd.R_typed b5.out) (by decide) hg);replace b0:=A_ (blk_grown (g:=b3) (o:=.cells #[.slice A0 l0.length c0,.slice A1 l1.length c1] 109 (0,0)) b0.out hg (Kd.R_ne b5.out b0.out (by decide)));replace HB:=A_ hb;clear b5;clear ho hb hg hat))
   go_roundg k1
   case measure=>have:=l9.out;omega
   case rel=>exact ⟨(i2),(wrap64 (b2 + 1)),rfl,H',⟨by have:=l9.out;omega⟩,⟨by (with_reducible repeat (first | apply Kd.R_alloc | apply Kd.R_drewN | apply Kd.R_drew));exact b6.out⟩,⟨by (with_reducible repeat (first | apply Kd.R_alloc | apply Kd.R_drewN | apply Kd.R_drew));exact e1.out⟩,⟨by (with_reducible repeat (first | refine blk_drewN ?_ _ | refine blk_drew ?_ | refine blk_alloc ?_ _));exact b0.out⟩,⟨bl HB⟩⟩
end Go.Proofs.Ytjohcjfmlhihbaa.G
set_option linter.unusedSectionVars false
namespace Go.Proofs.Ytjohcjfmlhihbaa.P
open Go Go.RowKit Go.Proofs.Ytjohcjfmlhihbaa.G
open Go.Proofs.YtjohcjfmlhihbaaW.PrintWords Go.Proofs.YtjohcjfmlhihbaaW.PrintMore
def heldI (p:List Int) (u:List S45) (x:List Rat) (i:Nat):Int:=firstI (fun q=>holdsB (netOf p u) (rt x) q i) p.length 0
theorem tab_I {m:Nat} {f:Nat → Int} {i:Nat} (h:i < m):rd (tab m f) (i:Int) = f i:=by
 rw [rd_get (by rw [tab_length];exact h),tab_get]
theorem tab_succ {α:Type} (m:Nat) (f:Nat → α):tab m f ++ [f m] = tab (m + 1) f:=by
 unfold tab
 rw [List.range_succ,List.map_append];rfl
theorem Holds_congr {N:Net} {r s:Nat → Rat} (h:∀ v,v < N.m → r v = s v) {q i:Nat} (hi:i < N.m):N.Holds r q i ↔ N.Holds s q i:=by
 unfold Net.Holds
 rw [load_congr h,h i hi]
 refine and_congr Iff.rfl (and_congr Iff.rfl (and_congr Iff.rfl ⟨fun k v hv hh=>?_,fun k v hv hh=>?_⟩))
 ·rw [← h v hv];exact k v hv hh
 ·rw [h v hv];exact k v hv hh
section
variable {p:List Int} {u:List S45} (hN:IsN p u) {x:List Rat} (hx:OkR p u x)
include hN hx
theorem Fair_l0:∀ d i,i + d = u.length → Ev (fun k=>shares_Fair.l0 k (encL x) (tab i (heldI p u x)) (u.length:Int) (i:Int) p u) (encL x,tab u.length (heldI p u x),0):=by
 intro d
 have h6:=hN.u6
 induction d with
 | zero =>
  intro i hi
  obtain rfl:i = u.length:=by omega
  refine Ev.step (f:=fun _=>some (encL x,tab u.length (heldI p u x),0)) (fun k=>?_) (Ev.now _)
  rw [shares_Fair.l0,if_neg (by omega)]
 | succ d ih =>
  intro i hi
  have hil:i < u.length:=by omega
  have hn:=ih (i + 1) (by omega)
  rw [← tab_succ] at hn
  refine Ev.step (fun k=>by rw [shares_Fair.l0,if_pos (by omega),wrap_succ (by omega)]) (Ev.bind (ev_held hN hx hil) ?_)
  exact Ev.congr (fun k=>if_pos (by rw [tab_length];omega)) hn
end
theorem ev_Fair {p:List Int} {u:List S45} (hok:okNet p u = true) (hp:p.length ≤ 1000000) (hu:u.length ≤ 1000000) (hf:H.fitL p) (hul:∀ a ∈ u,a.f1.length ≤ 1000000):∃ x,FairR p u x ∧ Ev (fun k=>shares_Fair.f k p u) (encL x,tab u.length (heldI p u x),0) ∧ Ev (fun k=>numnahref07_Fair.f k p u) (encL x):=by
 have hN:=isN hok
 have e0:=ev_newNet (p:=p) (u:=u) hp hu hf hul
 rw [hok] at e0
 obtain ⟨x,hx,e1,e2⟩:=fair_both hN
 refine ⟨x,hx,?_,e2⟩
 unfold shares_Fair.f
 exact Ev.bind e0 (Ev.bind e1 (Fair_l0 hN (hx.ok hN) u.length 0 (by omega)))
end Go.Proofs.Ytjohcjfmlhihbaa.P

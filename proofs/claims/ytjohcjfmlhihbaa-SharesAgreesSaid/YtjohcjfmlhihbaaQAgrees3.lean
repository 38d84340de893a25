/- Several texts, joined. -/
import Derived.Test.YtjohcjfmlhihbaaQAgrees2
set_option linter.unusedVariables false
set_option linter.unusedSimpArgs false
namespace Go.Proofs.Ytjohcjfmlhihbaa.G
open Go.RowKit Go.Proofs.YtjohcjfmlhihbaaW.PrintWords Go.Proofs.YtjohcjfmlhihbaaW.PrintLast Go.Proofs.YtjohcjfmlhihbaaW.PrintMore
set_option maxHeartbeats 8000000
set_option maxRecDepth 100000
attribute [local go_sem] cond_true cond_false fld23_0 fld23_1 fld45_0 fld45_1 fld109_0 fld109_1 fld94_0 fld94_1 max2_int min2_int max_two min_two max_three min_three max_four min_four
attribute [local go_sem high] eqA23
mutual
def numnahref07_Agrees.l0:Nat → List Int → List (S23) → Int → Option (Int × Int × Bool)
 | 0,_,_,_=>none
 | k + 1,x0,x1,x6=>if x6 < (x0.length:Int) then (numnahref07_Agrees.l1 k x0 x1 x6 (wrap64 (x6 + 1))) else (some (0,0,true))
def numnahref07_Agrees.l1:Nat → List Int → List (S23) → Int → Int → Option (Int × Int × Bool)
 | 0,_,_,_,_=>none
 | k + 1,x0,x1,x6,x7=>if x7 < (x0.length:Int) then (if 0 ≤ x6 then (if x6 < (x1.length:Int) then (if 0 ≤ x7 then (if x7 < (x1.length:Int) then ((numnahref07_Add.f k ((rd_T23 x1 x6).f0) ((rd_T23 x1 x6).f1) ((rd_T23 x1 x7).f0) ((rd_T23 x1 x7).f1)).bind fun i3=>(if x6 < (x0.length:Int) then ((numnahref07_Garment.f k i3.1 i3.2 (rd x0 x6) (rd x0 x7)).bind fun i4=>(if (!(i4.1 == ((rd_T23 x1 x6).f0)) || (!(i4.2 == ((rd_T23 x1 x6).f1)))) = true then (some (x6,x7,false)) else (numnahref07_Agrees.l1 k x0 x1 x6 (wrap64 (x7 + 1))))) else (none))) else (none)) else (none)) else (none)) else (none)) else (numnahref07_Agrees.l0 k x0 x1 (wrap64 (x6 + 1)))
end
def numnahref07_Agrees.f (k:Nat) (l0:List Int) (l1:List (S23)):Option (Int × Int × Bool):=numnahref07_Agrees.l0 k l0 l1 0
theorem numnahref07_Agrees.mono_l:∀ k,(∀ y0 y1 y2,LeO (numnahref07_Agrees.l0 k y0 y1 y2) (numnahref07_Agrees.l0 (k + 1) y0 y1 y2)) ∧ (∀ y0 y1 y2 y3,LeO (numnahref07_Agrees.l1 k y0 y1 y2 y3) (numnahref07_Agrees.l1 (k + 1) y0 y1 y2 y3))
 | 0=>⟨fun _ _ _ r h=>by simp [numnahref07_Agrees.l0] at h,fun _ _ _ _ r h=>by simp [numnahref07_Agrees.l1] at h⟩
 | k + 1=>by
  obtain ⟨l5,l6⟩:=numnahref07_Agrees.mono_l k
  refine ⟨?_,?_⟩
  ·intro y0 y1 y2
   unfold numnahref07_Agrees.l0
   repeat' first
   | (with_reducible first | exact l5 _ _ _ | exact l6 _ _ _ _ | exact numnahref07_Add.mono _ _ _ _ _ | exact numnahref07_Garment.mono _ _ _ _ _ | exact LeO.refl _ | exact LeO.none _ | refine LeO.ite ?_ ?_ | refine LeO.bind ?_ (fun _=>?_))
   | exact LeO.none _ | refine LeO.ite ?_ ?_ | refine LeO.bind ?_ (fun _=>?_)
  intro y0 y1 y2 y3
  unfold numnahref07_Agrees.l1
  repeat' first
  | (with_reducible first | exact l5 _ _ _ | exact l6 _ _ _ _ | exact numnahref07_Add.mono _ _ _ _ _ | exact numnahref07_Garment.mono _ _ _ _ _ | exact LeO.refl _ | exact LeO.none _ | refine LeO.ite ?_ ?_ | refine LeO.bind ?_ (fun _=>?_))
  | exact LeO.none _ | refine LeO.ite ?_ ?_ | refine LeO.bind ?_ (fun _=>?_)
theorem numnahref07_Agrees.mono:∀ a0 a1 k,LeO (numnahref07_Agrees.f k a0 a1) (numnahref07_Agrees.f (k + 1) a0 a1):=by
 intro a0 a1 k
 obtain ⟨l5,l6⟩:=numnahref07_Agrees.mono_l k
 unfold numnahref07_Agrees.f
 repeat' first
   | (with_reducible first | exact l5 _ _ _ | exact l6 _ _ _ _ | exact numnahref07_Add.mono _ _ _ _ _ | exact numnahref07_Garment.mono _ _ _ _ _ | exact LeO.refl _ | exact LeO.none _ | refine LeO.ite ?_ ?_ | refine LeO.bind ?_ (fun _=>?_))
   | exact LeO.none _ | refine LeO.ite ?_ ?_ | refine LeO.bind ?_ (fun _=>?_)
def numnahref07_Agrees.T7:Bool × List (List Nat × List Nat):=(true,[([],[]),([],[]),([0,1],[0,1]),([2],[2]),([],[]),([],[]),([4,5],[4,5]),([6],[6]),([3,7],[3,7]),([],[]),([],[]),([9,10],[9,10]),([11],[11]),([],[]),([],[]),([13,14],[13,14]),([15],[15]),([8,12,16,8],[8,12,16]),([],[]),([],[]),([18,19],[18,19]),([20],[20]),([17,21],[17,21])])
def numnahref07_Agrees.B7:List Nat:=[0,0,3,7,0,0,48,112,255,0,0,1536,3584,0,0,24576,57344,131071,0,0,786432,1835008,4194303]
theorem numnahref07_Agrees.tab7:rtab .any (opsOf Try.f56 7) = numnahref07_Agrees.T7:=by kernel_rfl
theorem numnahref07_Agrees.bits7:waitsOk numnahref07_Agrees.T7.2 numnahref07_Agrees.B7 = true:=by kernel_rfl
theorem numnahref07_Agrees.calls (k:Nat) (A0:Option Addr) (c0:Nat) (l0:List Int) (A1:Option Addr) (c1:Nat) (l1:List (S23)) (r1:Int) (r2:Int) (r3:Bool) (w:World) (n1:Kd.C (Kd.int .i64) w A0 l0.length l0) (n2:l0.length ≤ c0) (n3:Kd.C k23 w A1 l1.length l1) (n4:l1.length ≤ c1) (h:numnahref07_Agrees.f k l0 l1 = some (r1,r2,r3)) :
  Calls Try.prog 56 #[.slice A0 l0.length c0,.slice A1 l1.length c1] w fun e w'=>e = .returned (.tuple #[.agg #[.int .i64 r1,.int .i64 r2],.bool r3]) ∧ Below w.heap.size w w':=by
 have o0:=Try.underlying51
 have o1:=Try.underlying23
 have l7:=A_ n1
 have o6:=A_ n2
 clear n1 n2
 have j7:=A_ n3
 have o7:=A_ n4
 clear n3 n4
 have HB:=A_ (Below.refl w.heap.size w)
 have H:(numnahref07_Agrees.l0 k l0 l1 0) = some (r1,r2,r3):=h
 clear h
 have H':=A_ H
 clear H
 go_enter Try.func56,Try.ntmps56
 go_wp2_with (first | ((with_reducible refine gate_dst (N:=4) rfl ?_);refine bx 4 #[.int .i64 0,.int .i64 0] 51 ?_;intro e4 hg w3 hbox hb;have b1:=A_ hbox;have j5:=gw hg HB;have m8:=j5;replace HB:=bB HB hb;clear hb hbox hg))
 go_loopg [6] k (fun kq v6 w'=>∃ (b0:Int) (e3:Int) (e1:Int),v6 = .int .i64 b0 ∧ Aside0 (numnahref07_Agrees.l0 kq l0 l1 b0 = some (r1,r2,r3)) ∧ Aside0 (kq ≤ k) ∧ Aside0 (w'.heap[e4]? = some (.cells #[.int .i64 e3,.int .i64 e1] 51 (0,0))) ∧ Aside0 (Below w.heap.size w w'))
 case atStart=>exact ⟨(0),(0),(0),(by first | rfl | (simp;done) | (simp [*];done)),H',⟨Nat.le_refl _⟩,⟨by (with_reducible repeat (first | refine blk_drewN ?_ _ | refine blk_drew ?_ | refine blk_alloc ?_ _));exact b1.out⟩,⟨bl HB⟩⟩
 case round =>
  clear H'
  obtain ⟨b0,e3,e1,rfl,HA,l8,b1,HB⟩:=hrel
  cases gk with
  | zero=>exact absurd HA.out (by simp [numnahref07_Agrees.l0])
  | succ k1 =>
   have H:=HA.out
   clear HA
   simp only [numnahref07_Agrees.l0] at H
   by_cases c4:b0 < (l0.length:Int)
   case neg =>
    rw [if_neg c4] at H
    have m9:=decide_eq_false c4
    clear c4
    simp only [Option.some.injEq,Prod.mk.injEq] at H
    obtain ⟨rfl,rfl,rfl⟩:=H
    have l9:wr.cell? ⟨e4,0,none⟩ = some (.int .i64 e3):=cz b1 0
    have m0:wr.cell? ⟨e4,1,none⟩ = some (.int .i64 e1):=cz b1 1
    have m1:=blk_frozen b1.out 0
    have m2:=blk_frozen b1.out 1
    go_wp2
    refine bodyPost_ret (results_ct rfl _ _ e4 51 #[.int .i64 0,.int .i64 0] (0,0) _ rfl (by (with_reducible repeat (first | refine blk_drewN ?_ _ | refine blk_drew ?_ | refine blk_alloc ?_ _));refine blk_put (cs:=#[.int .i64 0,.int .i64 e1]) ?_ 1 _ rfl;(with_reducible repeat (first | refine blk_drewN ?_ _ | refine blk_drew ?_ | refine blk_alloc ?_ _));refine blk_put (cs:=#[.int .i64 e3,.int .i64 e1]) ?_ 0 _ rfl;(with_reducible repeat (first | refine blk_drewN ?_ _ | refine blk_drew ?_ | refine blk_alloc ?_ _));exact b1.out) Try.underlying51 rfl (by kernel_rfl)) rfl ?_
    exact ⟨by first | rfl | (simp [errW_none,errW_some] <;> rfl) | (simp [*,errW_none,errW_some] <;> rfl),bl HB⟩
   rw [if_pos c4] at H
   have m9:=decide_eq_true c4
   clear c4
   have H':=A_ H
   clear H
   go_wp2
   go_loopg [7] k1 (fun kq v7 w'=>∃ (b3:Int) (e2:Int) (e0:Int),v7 = .int .i64 b3 ∧ Aside0 (numnahref07_Agrees.l1 kq l0 l1 b0 b3 = some (r1,r2,r3)) ∧ Aside0 (kq ≤ k1) ∧ Aside0 (w'.heap[e4]? = some (.cells #[.int .i64 e2,.int .i64 e0] 51 (0,0))) ∧ Aside0 (Below w.heap.size w w'))
   case atStart=>exact ⟨(wrap64 (b0 + 1)),(e3),(e1),(by first | rfl | (simp;done) | (simp [*];done)),H',⟨Nat.le_refl _⟩,⟨by (with_reducible repeat (first | refine blk_drewN ?_ _ | refine blk_drew ?_ | refine blk_alloc ?_ _));exact b1.out⟩,⟨bl HB⟩⟩
   case round =>
    clear H'
    obtain ⟨b3,e2,e0,rfl,HA,m3,b1,HB⟩:=hrel
    cases gk with
    | zero=>exact absurd HA.out (by simp [numnahref07_Agrees.l1])
    | succ k2 =>
     have H:=HA.out
     clear HA
     simp only [numnahref07_Agrees.l1] at H
     by_cases c5:b3 < (l0.length:Int)
     case neg =>
      rw [if_neg c5] at H
      have n0:=decide_eq_false c5
      clear c5
      have H':=A_ H
      clear H
      go_wp2
      go_roundg k2
      case measure=>have:=l8.out;have:=m3.out;omega
      case rel=>exact ⟨(wrap64 (b0 + 1)),(e2),(e0),(by first | rfl | (simp;done) | (simp [*];done)),H',⟨by have:=l8.out;have:=m3.out;omega⟩,⟨by (with_reducible repeat (first | refine blk_drewN ?_ _ | refine blk_drew ?_ | refine blk_alloc ?_ _));exact b1.out⟩,⟨bl HB⟩⟩
     rw [if_pos c5] at H
     have n0:=decide_eq_true c5
     clear c5
     replace H:=gd H
     obtain ⟨c6,H⟩:=H
     have o2:=decide_eq_true c6
     clear c6
     replace H:=gd H
     obtain ⟨c7,H⟩:=H
     have o3:=decide_eq_true c7
     clear c7
     replace H:=gd H
     obtain ⟨c8,H⟩:=H
     have o4:=decide_eq_true c8
     clear c8
     replace H:=gd H
     obtain ⟨c9,H⟩:=H
     have o5:=decide_eq_true c9
     clear c9
     replace H:=Option.bind_eq_some_iff.mp H
     obtain ⟨⟨h6,h7⟩,A100,H⟩:=H
     dsimp only at H
     have n5:=A_ A100
     clear A100
     replace H:=gd H
     obtain ⟨n6,H⟩:=H
     have n7:=decide_eq_true n6
     clear n6
     replace H:=Option.bind_eq_some_iff.mp H
     obtain ⟨⟨h8,h9⟩,A120,H⟩:=H
     dsimp only at H
     have n8:=A_ A120
     clear A120
     by_cases j8:(!(h8 == ((rd_T23 l1 b0).f0)) || (!(h9 == ((rd_T23 l1 b0).f1)))) = true
     case neg =>
      rw [if_neg j8] at H
      have j9:(!(h8 == ((rd_T23 l1 b0).f0)) || (!(h9 == ((rd_T23 l1 b0).f1)))) = false:=by simpa using j8
      clear j8
      have H':=A_ H
      clear H
      try go_wp2
      replace b1:=kD b1
      replace HB:=bD HB
      have e6:0 ≤ (b0:Int):=of_decide_eq_true (by first | (with_reducible assumption) | assumption)
      have e7:b0 < (l1.length:Int):=of_decide_eq_true (by first | (with_reducible assumption) | assumption)
      obtain ⟨b2,i5,d2,d3⟩:=at_T23 j7.out b0 e6 e7
      have b4:=d3
      have b5:=d2
      cases i5
      replace d2:=(HB.out.cell (World.block_lt_of_cell? w _ d2)).trans d2
      replace d3:=(HB.out.cell (World.block_lt_of_cell? w _ d3)).trans d3
      replace e6:=eq_true e6
      replace e7:=eq_true e7
      have e8:0 ≤ (b3:Int):=of_decide_eq_true (by first | (with_reducible assumption) | assumption)
      have e9:b3 < (l1.length:Int):=of_decide_eq_true (by first | (with_reducible assumption) | assumption)
      obtain ⟨i0,i6,d4,d5⟩:=at_T23 j7.out b3 e8 e9
      have b6:=d5
      have b7:=d4
      obtain rfl:b2 = i0:=(by injection i6)
      replace d4:=(HB.out.cell (World.block_lt_of_cell? w _ d4)).trans d4
      replace d5:=(HB.out.cell (World.block_lt_of_cell? w _ d5)).trans d5
      replace e8:=eq_true e8
      replace e9:=eq_true e9
      have h0:0 ≤ (b0:Int):=of_decide_eq_true (by first | (with_reducible assumption) | assumption)
      have h1:b0 < (l0.length:Int):=of_decide_eq_true (by first | (with_reducible assumption) | assumption)
      obtain ⟨e5,i7,d6⟩:=Kd.at_int l7.out b0 h0 h1
      have b8:=d6
      cases i7
      replace d6:=(HB.out.cell (World.block_lt_of_cell? w _ d6)).trans d6
      replace h0:=eq_true h0
      replace h1:=eq_true h1
      have h2:0 ≤ (b3:Int):=of_decide_eq_true (by first | (with_reducible assumption) | assumption)
      have h3:b3 < (l0.length:Int):=of_decide_eq_true (by first | (with_reducible assumption) | assumption)
      obtain ⟨i1,i8,d7⟩:=Kd.at_int l7.out b3 h2 h3
      have b9:=d7
      obtain rfl:e5 = i1:=(by injection i8)
      replace d7:=(HB.out.cell (World.block_lt_of_cell? w _ d7)).trans d7
      replace h2:=eq_true h2
      replace h3:=eq_true h3
      have h4:0 ≤ (b0:Int):=of_decide_eq_true (by first | (with_reducible assumption) | assumption)
      have h5:b0 < (l1.length:Int):=of_decide_eq_true (by first | (with_reducible assumption) | assumption)
      obtain ⟨i2,i9,d8,d9⟩:=at_T23 j7.out b0 h4 h5
      have d0:=d9
      have d1:=d8
      obtain rfl:b2 = i2:=(by injection i9)
      replace d8:=(HB.out.cell (World.block_lt_of_cell? w _ d8)).trans d8
      replace d9:=(HB.out.cell (World.block_lt_of_cell? w _ d9)).trans d9
      replace h4:=eq_true h4
      replace h5:=eq_true h5
      refine start_ (n:=23) (S:=fun w'=>w'.cell? (b2.add ((b0).toNat * 2)) = some (.int .i64 ((rd_T23 l1 b0).f0)) ∧ w'.cell? ⟨(b2.add ((b0).toNat * 2)).block,(b2.add ((b0).toNat * 2)).off + 1,none⟩ = some (.int .i64 ((rd_T23 l1 b0).f1)) ∧ w'.cell? (b2.add ((b3).toNat * 2)) = some (.int .i64 ((rd_T23 l1 b3).f0)) ∧ w'.cell? ⟨(b2.add ((b3).toNat * 2)).block,(b2.add ((b3).toNat * 2)).off + 1,none⟩ = some (.int .i64 ((rd_T23 l1 b3).f1)) ∧ w'.cell? (e5.add (b0).toNat) = some (.int .i64 (rd l0 b0)) ∧ w'.cell? (e5.add (b3).toNat) = some (.int .i64 (rd l0 b3)) ∧ w'.cell? (b2.add ((b0).toNat * 2)) = some (.int .i64 ((rd_T23 l1 b0).f0)) ∧ w'.cell? ⟨(b2.add ((b0).toNat * 2)).block,(b2.add ((b0).toNat * 2)).off + 1,none⟩ = some (.int .i64 ((rd_T23 l1 b0).f1))) (ds:=[]) (ba 23 0) (by kernel_rfl) rfl rfl ⟨((HB.out.cell (World.block_lt_of_cell? w _ b5)).trans b5),((HB.out.cell (World.block_lt_of_cell? w _ b4)).trans b4),((HB.out.cell (World.block_lt_of_cell? w _ b7)).trans b7),((HB.out.cell (World.block_lt_of_cell? w _ b6)).trans b6),((HB.out.cell (World.block_lt_of_cell? w _ b8)).trans b8),((HB.out.cell (World.block_lt_of_cell? w _ b9)).trans b9),((HB.out.cell (World.block_lt_of_cell? w _ d1)).trans d1),((HB.out.cell (World.block_lt_of_cell? w _ d0)).trans d0)⟩ (fun hHeld=>?_);refine with_tabW numnahref07_Agrees.tab7 numnahref07_Agrees.bits7 (fun HT_ HW_=>?_)
      generalize wr.drew = o8 at b1 HB d2 d3 d4 d5 d6 d7 d8 d9 hHeld ⊢
      refine pq 0 22 1 HT_ ?_
      refine pq 1 23 3 HT_ ?_
      refine pq 2 24 7 HT_ ?_
      refine pq 4 26 23 HT_ ?_
      refine pq 5 27 55 HT_ ?_
      refine pq 6 28 119 HT_ ?_
      refine pq 9 31 631 HT_ ?_
      refine pq 10 32 1655 HT_ ?_
      refine pq 11 33 3703 HT_ ?_
      refine pq 13 35 11895 HT_ ?_
      refine pq 14 36 28279 HT_ ?_
      refine pq 15 37 61047 HT_ ?_
      refine pq 18 40 323191 HT_ ?_
      refine pq 19 41 847479 HT_ ?_
      refine pq 20 42 1896055 HT_ ?_
      refine tq 3 25 1896063 HT_ HW_ hHeld ?_
      refine tq 7 29 1896191 HT_ HW_ hHeld ?_
      refine tq 12 34 1900287 HT_ HW_ hHeld ?_
      refine tq 16 38 1965823 HT_ HW_ hHeld ?_
      refine tq 21 43 4062975 HT_ HW_ hHeld ?_
      refine oq 8 30 4063231 HT_ (fun K hK=>?_)
      refine gq Try.func28 #[.agg #[.int .i64 ((rd_T23 l1 b0).f0),.int .i64 ((rd_T23 l1 b0).f1)],.agg #[.int .i64 ((rd_T23 l1 b3).f0),.int .i64 ((rd_T23 l1 b3).f1)]] ?_
      with_reducible refine (numnahref07_Add.calls k2 ((rd_T23 l1 b0).f0) ((rd_T23 l1 b0).f1) ((rd_T23 l1 b3).f0) ((rd_T23 l1 b3).f1) h6 h7 _ n5.out).mono ?_
      rintro e o9 ⟨rfl,hb⟩
      refine ⟨_,rfl,?_⟩
      replace b1:=kB b1 hb
      replace HB:=bB HB hb
      (try clear hb)
      refine hK.out _ _ ⟨((HB.out.cell (World.block_lt_of_cell? w _ b5)).trans b5),((HB.out.cell (World.block_lt_of_cell? w _ b4)).trans b4),((HB.out.cell (World.block_lt_of_cell? w _ b7)).trans b7),((HB.out.cell (World.block_lt_of_cell? w _ b6)).trans b6),((HB.out.cell (World.block_lt_of_cell? w _ b8)).trans b8),((HB.out.cell (World.block_lt_of_cell? w _ b9)).trans b9),((HB.out.cell (World.block_lt_of_cell? w _ d1)).trans d1),((HB.out.cell (World.block_lt_of_cell? w _ d0)).trans d0)⟩ (fun hHeld=>?_)
      clear hK K
      refine nq 30 ?_
      refine oq 17 39 4194303 HT_ (fun K hK=>?_)
      refine gq Try.func24 #[.agg #[.int .i64 h6,.int .i64 h7],.int .i64 (rd l0 b0),.int .i64 (rd l0 b3)] ?_
      with_reducible refine (numnahref07_Garment.calls k2 h6 h7 (rd l0 b0) (rd l0 b3) h8 h9 _ n8.out).mono ?_
      rintro e p0 ⟨rfl,hb⟩
      refine ⟨_,rfl,?_⟩
      replace b1:=kB b1 hb
      replace HB:=bB HB hb
      (try clear hb)
      refine hK.out _ _ ⟨((HB.out.cell (World.block_lt_of_cell? w _ b5)).trans b5),((HB.out.cell (World.block_lt_of_cell? w _ b4)).trans b4),((HB.out.cell (World.block_lt_of_cell? w _ b7)).trans b7),((HB.out.cell (World.block_lt_of_cell? w _ b6)).trans b6),((HB.out.cell (World.block_lt_of_cell? w _ b8)).trans b8),((HB.out.cell (World.block_lt_of_cell? w _ b9)).trans b9),((HB.out.cell (World.block_lt_of_cell? w _ d1)).trans d1),((HB.out.cell (World.block_lt_of_cell? w _ d0)).trans d0)⟩ (fun hHeld=>?_)
      clear hK K
      refine nq 39 ?_
      refine pq 22 44 8388607 HT_ ?_
      refine done_ (done_of HT_.out (by kernel_rfl)) ?_
      try go_wp2
      go_roundg k2
      case measure=>have:=l8.out;have:=m3.out;omega
      case rel=>exact ⟨(wrap64 (b3 + 1)),(e2),(e0),(by first | rfl | (simp;done) | (simp [*];done)),H',⟨by have:=l8.out;have:=m3.out;omega⟩,⟨by (with_reducible repeat (first | refine blk_drewN ?_ _ | refine blk_drew ?_ | refine blk_alloc ?_ _));exact b1.out⟩,⟨bl HB⟩⟩
     rw [if_pos j8] at H
     have j9:(!(h8 == ((rd_T23 l1 b0).f0)) || (!(h9 == ((rd_T23 l1 b0).f1)))) = true:=j8
     clear j8
     simp only [Option.some.injEq,Prod.mk.injEq] at H
     obtain ⟨rfl,rfl,rfl⟩:=H
     try go_wp2
     replace b1:=kD b1
     replace HB:=bD HB
     have e6:0 ≤ (b0:Int):=of_decide_eq_true (by first | (with_reducible assumption) | assumption)
     have e7:b0 < (l1.length:Int):=of_decide_eq_true (by first | (with_reducible assumption) | assumption)
     obtain ⟨b2,i5,d2,d3⟩:=at_T23 j7.out b0 e6 e7
     have b4:=d3
     have b5:=d2
     cases i5
     replace d2:=(HB.out.cell (World.block_lt_of_cell? w _ d2)).trans d2
     replace d3:=(HB.out.cell (World.block_lt_of_cell? w _ d3)).trans d3
     replace e6:=eq_true e6
     replace e7:=eq_true e7
     have e8:0 ≤ (b3:Int):=of_decide_eq_true (by first | (with_reducible assumption) | assumption)
     have e9:b3 < (l1.length:Int):=of_decide_eq_true (by first | (with_reducible assumption) | assumption)
     obtain ⟨i0,i6,d4,d5⟩:=at_T23 j7.out b3 e8 e9
     have b6:=d5
     have b7:=d4
     obtain rfl:b2 = i0:=(by injection i6)
     replace d4:=(HB.out.cell (World.block_lt_of_cell? w _ d4)).trans d4
     replace d5:=(HB.out.cell (World.block_lt_of_cell? w _ d5)).trans d5
     replace e8:=eq_true e8
     replace e9:=eq_true e9
     have h0:0 ≤ (b0:Int):=of_decide_eq_true (by first | (with_reducible assumption) | assumption)
     have h1:b0 < (l0.length:Int):=of_decide_eq_true (by first | (with_reducible assumption) | assumption)
     obtain ⟨e5,i7,d6⟩:=Kd.at_int l7.out b0 h0 h1
     have b8:=d6
     cases i7
     replace d6:=(HB.out.cell (World.block_lt_of_cell? w _ d6)).trans d6
     replace h0:=eq_true h0
     replace h1:=eq_true h1
     have h2:0 ≤ (b3:Int):=of_decide_eq_true (by first | (with_reducible assumption) | assumption)
     have h3:b3 < (l0.length:Int):=of_decide_eq_true (by first | (with_reducible assumption) | assumption)
     obtain ⟨i1,i8,d7⟩:=Kd.at_int l7.out b3 h2 h3
     have b9:=d7
     obtain rfl:e5 = i1:=(by injection i8)
     replace d7:=(HB.out.cell (World.block_lt_of_cell? w _ d7)).trans d7
     replace h2:=eq_true h2
     replace h3:=eq_true h3
     have h4:0 ≤ (b0:Int):=of_decide_eq_true (by first | (with_reducible assumption) | assumption)
     have h5:b0 < (l1.length:Int):=of_decide_eq_true (by first | (with_reducible assumption) | assumption)
     obtain ⟨i2,i9,d8,d9⟩:=at_T23 j7.out b0 h4 h5
     have d0:=d9
     have d1:=d8
     obtain rfl:b2 = i2:=(by injection i9)
     replace d8:=(HB.out.cell (World.block_lt_of_cell? w _ d8)).trans d8
     replace d9:=(HB.out.cell (World.block_lt_of_cell? w _ d9)).trans d9
     replace h4:=eq_true h4
     replace h5:=eq_true h5
     refine start_ (n:=23) (S:=fun w'=>w'.cell? (b2.add ((b0).toNat * 2)) = some (.int .i64 ((rd_T23 l1 b0).f0)) ∧ w'.cell? ⟨(b2.add ((b0).toNat * 2)).block,(b2.add ((b0).toNat * 2)).off + 1,none⟩ = some (.int .i64 ((rd_T23 l1 b0).f1)) ∧ w'.cell? (b2.add ((b3).toNat * 2)) = some (.int .i64 ((rd_T23 l1 b3).f0)) ∧ w'.cell? ⟨(b2.add ((b3).toNat * 2)).block,(b2.add ((b3).toNat * 2)).off + 1,none⟩ = some (.int .i64 ((rd_T23 l1 b3).f1)) ∧ w'.cell? (e5.add (b0).toNat) = some (.int .i64 (rd l0 b0)) ∧ w'.cell? (e5.add (b3).toNat) = some (.int .i64 (rd l0 b3)) ∧ w'.cell? (b2.add ((b0).toNat * 2)) = some (.int .i64 ((rd_T23 l1 b0).f0)) ∧ w'.cell? ⟨(b2.add ((b0).toNat * 2)).block,(b2.add ((b0).toNat * 2)).off + 1,none⟩ = some (.int .i64 ((rd_T23 l1 b0).f1))) (ds:=[]) (ba 23 0) (by kernel_rfl) rfl rfl ⟨((HB.out.cell (World.block_lt_of_cell? w _ b5)).trans b5),((HB.out.cell (World.block_lt_of_cell? w _ b4)).trans b4),((HB.out.cell (World.block_lt_of_cell? w _ b7)).trans b7),((HB.out.cell (World.block_lt_of_cell? w _ b6)).trans b6),((HB.out.cell (World.block_lt_of_cell? w _ b8)).trans b8),((HB.out.cell (World.block_lt_of_cell? w _ b9)).trans b9),((HB.out.cell (World.block_lt_of_cell? w _ d1)).trans d1),((HB.out.cell (World.block_lt_of_cell? w _ d0)).trans d0)⟩ (fun hHeld=>?_);refine with_tabW numnahref07_Agrees.tab7 numnahref07_Agrees.bits7 (fun HT_ HW_=>?_)
     generalize wr.drew = p1 at b1 HB d2 d3 d4 d5 d6 d7 d8 d9 hHeld ⊢
     refine pq 0 22 1 HT_ ?_
     refine pq 1 23 3 HT_ ?_
     refine pq 2 24 7 HT_ ?_
     refine pq 4 26 23 HT_ ?_
     refine pq 5 27 55 HT_ ?_
     refine pq 6 28 119 HT_ ?_
     refine pq 9 31 631 HT_ ?_
     refine pq 10 32 1655 HT_ ?_
     refine pq 11 33 3703 HT_ ?_
     refine pq 13 35 11895 HT_ ?_
     refine pq 14 36 28279 HT_ ?_
     refine pq 15 37 61047 HT_ ?_
     refine pq 18 40 323191 HT_ ?_
     refine pq 19 41 847479 HT_ ?_
     refine pq 20 42 1896055 HT_ ?_
     refine tq 3 25 1896063 HT_ HW_ hHeld ?_
     refine tq 7 29 1896191 HT_ HW_ hHeld ?_
     refine tq 12 34 1900287 HT_ HW_ hHeld ?_
     refine tq 16 38 1965823 HT_ HW_ hHeld ?_
     refine tq 21 43 4062975 HT_ HW_ hHeld ?_
     refine oq 8 30 4063231 HT_ (fun K hK=>?_)
     refine gq Try.func28 #[.agg #[.int .i64 ((rd_T23 l1 b0).f0),.int .i64 ((rd_T23 l1 b0).f1)],.agg #[.int .i64 ((rd_T23 l1 b3).f0),.int .i64 ((rd_T23 l1 b3).f1)]] ?_
     with_reducible refine (numnahref07_Add.calls k2 ((rd_T23 l1 b0).f0) ((rd_T23 l1 b0).f1) ((rd_T23 l1 b3).f0) ((rd_T23 l1 b3).f1) h6 h7 _ n5.out).mono ?_
     rintro e p2 ⟨rfl,hb⟩
     refine ⟨_,rfl,?_⟩
     replace b1:=kB b1 hb
     replace HB:=bB HB hb
     (try clear hb)
     refine hK.out _ _ ⟨((HB.out.cell (World.block_lt_of_cell? w _ b5)).trans b5),((HB.out.cell (World.block_lt_of_cell? w _ b4)).trans b4),((HB.out.cell (World.block_lt_of_cell? w _ b7)).trans b7),((HB.out.cell (World.block_lt_of_cell? w _ b6)).trans b6),((HB.out.cell (World.block_lt_of_cell? w _ b8)).trans b8),((HB.out.cell (World.block_lt_of_cell? w _ b9)).trans b9),((HB.out.cell (World.block_lt_of_cell? w _ d1)).trans d1),((HB.out.cell (World.block_lt_of_cell? w _ d0)).trans d0)⟩ (fun hHeld=>?_)
     clear hK K
     refine nq 30 ?_
     refine oq 17 39 4194303 HT_ (fun K hK=>?_)
     refine gq Try.func24 #[.agg #[.int .i64 h6,.int .i64 h7],.int .i64 (rd l0 b0),.int .i64 (rd l0 b3)] ?_
     with_reducible refine (numnahref07_Garment.calls k2 h6 h7 (rd l0 b0) (rd l0 b3) h8 h9 _ n8.out).mono ?_
     rintro e n9 ⟨rfl,hb⟩
     refine ⟨_,rfl,?_⟩
     replace b1:=kB b1 hb
     replace HB:=bB HB hb
     (try clear hb)
     refine hK.out _ _ ⟨((HB.out.cell (World.block_lt_of_cell? w _ b5)).trans b5),((HB.out.cell (World.block_lt_of_cell? w _ b4)).trans b4),((HB.out.cell (World.block_lt_of_cell? w _ b7)).trans b7),((HB.out.cell (World.block_lt_of_cell? w _ b6)).trans b6),((HB.out.cell (World.block_lt_of_cell? w _ b8)).trans b8),((HB.out.cell (World.block_lt_of_cell? w _ b9)).trans b9),((HB.out.cell (World.block_lt_of_cell? w _ d1)).trans d1),((HB.out.cell (World.block_lt_of_cell? w _ d0)).trans d0)⟩ (fun hHeld=>?_)
     clear hK K
     refine nq 39 ?_
     refine pq 22 44 8388607 HT_ ?_
     refine done_ (done_of HT_.out (by kernel_rfl)) ?_
     have m4:n9.cell? ⟨e4,0,none⟩ = some (.int .i64 e2):=cz b1 0
     have m5:n9.cell? ⟨e4,1,none⟩ = some (.int .i64 e0):=cz b1 1
     have m6:=blk_frozen b1.out 0
     have m7:=blk_frozen b1.out 1
     try go_wp2
     refine bodyPost_ret (results_ct rfl _ _ e4 51 #[.int .i64 b0,.int .i64 b3] (0,0) _ rfl (by (with_reducible repeat (first | refine blk_drewN ?_ _ | refine blk_drew ?_ | refine blk_alloc ?_ _));refine blk_put (cs:=#[.int .i64 b0,.int .i64 e0]) ?_ 1 _ rfl;(with_reducible repeat (first | refine blk_drewN ?_ _ | refine blk_drew ?_ | refine blk_alloc ?_ _));refine blk_put (cs:=#[.int .i64 e2,.int .i64 e0]) ?_ 0 _ rfl;(with_reducible repeat (first | refine blk_drewN ?_ _ | refine blk_drew ?_ | refine blk_alloc ?_ _));exact b1.out) Try.underlying51 rfl (by kernel_rfl)) rfl ?_
     exact ⟨by first | rfl | (simp [errW_none,errW_some] <;> rfl) | (simp [*,errW_none,errW_some] <;> rfl),bl HB⟩
end Go.Proofs.Ytjohcjfmlhihbaa.G
set_option linter.unusedSectionVars false
namespace Go.Proofs.Ytjohcjfmlhihbaa.P
open Go Go.RowKit Go.Proofs.Ytjohcjfmlhihbaa.G
open Go.Proofs.YtjohcjfmlhihbaaW.PrintWords Go.Proofs.YtjohcjfmlhihbaaW.PrintMore
def Told (l:List Int) (x:List Rat) (i j:Nat) (r:Int × Int × Bool):Prop :=
 (r.2.2 = false → r.1 < r.2.1 ∧ ∃ (a b:Nat) (ha:a < l.length) (hb:b < l.length) (hxa:a < x.length) (hxb:b < x.length),a ≠ b ∧ garR (x[a] + x[b]) (l[a]:Rat) (l[b]:Rat) ≠ x[a]) ∧ (r.2.2 = true → r.1 = 0 ∧ r.2.1 = 0 ∧ ∀ (a b:Nat) (ha:a < l.length) (hb:b < l.length) (hxa:a < x.length) (hxb:b < x.length),a < b → (i < a ∨ (i = a ∧ j ≤ b)) → garR (x[a] + x[b]) (l[a]:Rat) (l[b]:Rat) = x[a])
section
variable {l:List Int} (h:IsCl l) {x:List Rat} (hx:x.length = l.length) (hs:∀ q ∈ x,0 ≤ q ∧ q ≤ ((1000:Nat):Rat) ∧ q.den ≤ 20)
include h hx hs
theorem pair_sm {i j:Nat} (hi:i < x.length) (hj:j < x.length):Sm 2000000 400 (x[i] + x[j]) :=
 ((q_sm (hs _ (List.getElem_mem hi))).add (q_sm (hs _ (List.getElem_mem hj)))).mono (by decide) (by decide)
theorem agrees_l1 {i:Nat} (hi:i < l.length) (next:∃ r,Told l x (i + 1) (i + 2) r ∧ Ev (fun k=>shares_Agrees.l0 k l (encL x) (l.length:Int) ((i + 1:Nat):Int)) (r.1,r.2.1,r.2.2,0) ∧ Ev (fun k=>numnahref07_Agrees.l0 k l (encL x) ((i + 1:Nat):Int)) r) :
  ∀ (d j:Nat),j + d = l.length → i < j → ∃ r,Told l x i j r ∧ Ev (fun k=>shares_Agrees.l1 k l (encL x) (i:Int) (j:Int) (l.length:Int) (i:Int)) (r.1,r.2.1,r.2.2,0) ∧ Ev (fun k=>numnahref07_Agrees.l1 k l (encL x) (i:Int) (j:Int)) r:=by
 have hl:=h.ten
 intro d
 induction d with
 | zero =>
  intro j hj hij
  obtain ⟨r,ht,e1,e2⟩:=next
  refine ⟨r,⟨ht.1,fun hr=>⟨(ht.2 hr).1,(ht.2 hr).2.1,fun a b ha hb hxa hxb hab hc=>(ht.2 hr).2.2 a b ha hb hxa hxb hab (by omega)⟩⟩,Ev.step (fun k=>?_) e1,Ev.step (fun k=>?_) e2⟩
  ·rw [shares_Agrees.l1,if_neg (by omega),wrap_succ (by omega)]
  ·rw [numnahref07_Agrees.l1,if_neg (by omega),wrap_succ (by omega)]
 | succ d ih =>
  intro j hj hij
  have hjl:j < l.length:=by omega
  have hxi:i < x.length:=by omega
  have hxj:j < x.length:=by omega
  have hmi:=h.mem _ (List.getElem_mem hi)
  have hmj:=h.mem _ (List.getElem_mem hjl)
  have si:=q_sm (hs _ (List.getElem_mem hxi))
  have sj:=q_sm (hs _ (List.getElem_mem hxj))
  have se:=pair_sm h hx hs hxi hxj
  have a1:=ev_add (si.fits sj (by decide) (by decide))
  have a2:=ev_radd (si.fits sj (by decide) (by decide))
  have g1:=ev_garment se hmi hmj
  have g2:=ev_rgarment se hmi hmj
  have gs:=gar_sum (x[i] + x[j]) (l[i]:Rat) (l[j]:Rat)
  have pstart:∀ k,shares_Agrees.l1 (k + 1) l (encL x) (i:Int) (j:Int) (l.length:Int) (i:Int) = ((shares_add.f k x[i].num (x[i].den:Int) x[j].num (x[j].den:Int)).bind fun bt=>((shares_garment.f k bt.1 bt.2 l[i] l[j]).bind fun bt2=>(if (!(bt2.1 == x[i].num) || (!(bt2.2.1 == (x[i].den:Int)))) = true then (some ((i:Int),(j:Int),false,0)) else (if (!(bt2.2.2.1 == x[j].num) || (!(bt2.2.2.2 == (x[j].den:Int)))) = true then (some ((i:Int),(j:Int),false,0)) else (shares_Agrees.l1 k l (encL x) (i:Int) ((j + 1:Nat):Int) (l.length:Int) (i:Int)))))):=by
   intro k
   have c1:(i:Int) < (l.length:Int):=by omega
   rw [shares_Agrees.l1,encL_length,if_pos (by omega),if_pos (by omega),if_pos (by omega),if_pos (by omega),if_pos (by omega),rdE hxi,rdE hxj]
   simp only [encQ,c1,if_true,rd_get hi,rd_get hjl,wrap_succ (show j < 9223372036854775807 by omega)]
  have rstart:∀ k,numnahref07_Agrees.l1 (k + 1) l (encL x) (i:Int) (j:Int) = ((numnahref07_Add.f k x[i].num (x[i].den:Int) x[j].num (x[j].den:Int)).bind fun bt=>((numnahref07_Garment.f k bt.1 bt.2 l[i] l[j]).bind fun bt2=>(if (!(bt2.1 == x[i].num) || (!(bt2.2 == (x[i].den:Int)))) = true then (some ((i:Int),(j:Int),false)) else (numnahref07_Agrees.l1 k l (encL x) (i:Int) ((j + 1:Nat):Int))))):=by
   intro k
   have c1:(i:Int) < (l.length:Int):=by omega
   rw [numnahref07_Agrees.l1,encL_length,if_pos (by omega),if_pos (by omega),if_pos (by omega),if_pos (by omega),if_pos (by omega),rdE hxi,rdE hxj]
   simp only [encQ,c1,if_true,rd_get hi,rd_get hjl,wrap_succ (show j < 9223372036854775807 by omega)]
  have ne_of:∀ {p q:Rat},p ≠ q → (!(p.num == q.num) || (!((p.den:Int) == (q.den:Int)))) = true:=fun {p q} hpq=>by
   apply Classical.byContradiction
   intro hno
   apply hpq
   simp only [Bool.or_eq_true,Bool.not_eq_true',beq_eq_false_iff_ne,not_or,Decidable.not_not,ne_eq] at hno
   exact Rat.ext hno.1 (by omega)
  by_cases hg:garR (x[i] + x[j]) (l[i]:Rat) (l[j]:Rat) = x[i]
  ·have hg2:garR (x[i] + x[j]) (l[j]:Rat) (l[i]:Rat) = x[j]:=by grind
   rw [hg,hg2] at g1
   rw [hg] at g2
   obtain ⟨r,ht,e1,e2⟩:=ih (j + 1) (by omega) (by omega)
   refine ⟨r,⟨ht.1,fun hr=>⟨(ht.2 hr).1,(ht.2 hr).2.1,fun a b ha hb hxa hxb hab hc=>?_⟩⟩,Ev.step pstart (Ev.bind a1 (Ev.bind g1 ?_)),Ev.step rstart (Ev.bind a2 (Ev.bind g2 ?_))⟩
   ·by_cases e:i = a ∧ j = b
    ·obtain ⟨rfl,rfl⟩:=e
     exact hg
    ·exact (ht.2 hr).2.2 a b ha hb hxa hxb hab (by omega)
   ·simp only [beq_self_eq_true,Bool.not_true,Bool.or_self,Bool.false_eq_true,if_false]
    exact e1
   ·simp only [beq_self_eq_true,Bool.not_true,Bool.or_self,Bool.false_eq_true,if_false]
    exact e2
  ·refine ⟨((i:Int),(j:Int),false),⟨fun _=>⟨show (i:Int) < (j:Int) by omega,i,j,hi,hjl,hxi,hxj,by omega,hg⟩,fun e=>Bool.noConfusion e⟩,Ev.step pstart (Ev.bind a1 (Ev.bind g1 ?_)),Ev.step rstart (Ev.bind a2 (Ev.bind g2 ?_))⟩
   ·exact Ev.congr (fun k=>if_pos (ne_of hg)) (Ev.now _)
   ·exact Ev.congr (fun k=>if_pos (ne_of hg)) (Ev.now _)
theorem agrees_l0:∀ (d i:Nat),i + d = l.length → ∃ r,Told l x i (i + 1) r ∧ Ev (fun k=>shares_Agrees.l0 k l (encL x) (l.length:Int) (i:Int)) (r.1,r.2.1,r.2.2,0) ∧ Ev (fun k=>numnahref07_Agrees.l0 k l (encL x) (i:Int)) r:=by
 have hl:=h.ten
 intro d
 induction d with
 | zero =>
  intro i hi
  refine ⟨(0,0,true),⟨fun e=>Bool.noConfusion e,fun _=>⟨rfl,rfl,fun a b ha hb _ _ hab hc=>by omega⟩⟩,Ev.step (f:=fun _=>some (0,0,true,0)) (fun k=>?_) (Ev.now _),Ev.step (f:=fun _=>some (0,0,true)) (fun k=>?_) (Ev.now _)⟩
  ·rw [shares_Agrees.l0,if_neg (by omega)]
  ·rw [numnahref07_Agrees.l0,if_neg (by omega)]
 | succ d ih =>
  intro i hi
  obtain ⟨r,ht,e1,e2⟩:=agrees_l1 h hx hs (i:=i) (by omega) (ih (i + 1) (by omega)) (l.length - (i + 1)) (i + 1) (by omega) (by omega)
  refine ⟨r,ht,Ev.step (fun k=>?_) e1,Ev.step (fun k=>?_) e2⟩
  ·rw [shares_Agrees.l0,if_pos (by omega),wrap_succ (by omega)]
  ·rw [numnahref07_Agrees.l0,if_pos (by omega),wrap_succ (by omega)]
end
theorem ev_Agrees {l:List Int} (h:IsCl l) {E:Int} (h0:0 ≤ E) (h1:E ≤ sI l) {x:List Rat} (hd:IsDiv l E x):∃ r,Told l x 0 1 r ∧ Ev (fun k=>shares_Agrees.f k l E (encL x)) (r.1,r.2.1,r.2.2,0) ∧ Ev (fun k=>numnahref07_Agrees.f k l (encL x)) r:=by
 obtain ⟨r,ht,e1,e2⟩:=agrees_l0 h hd.len (x_small h hd.len hd.ok) l.length 0 (by omega)
 refine ⟨r,ht,?_,e2⟩
 have hf:H.fitL l:=by unfold H.fitL;have:=h.ten;omega
 have hc:clB l E = true:=decide_eq_true ⟨h,h0,h1⟩
 have hn:=ev_newClaims hf E
 rw [hc] at hn
 have hin:∀ a ∈ encL x,inS a:=fun a ha=>by
  obtain ⟨q,hq,rfl⟩:=List.mem_map.1 ha
  have s:=q_sm (x_small h hd.len hd.ok q hq)
  have s1:=s.num
  have s2:=s.den
  exact ⟨⟨by show _ ≤ q.num;omega,by show q.num ≤ _;omega⟩,⟨by show _ ≤ (q.den:Int);omega,by show (q.den:Int) ≤ _;omega⟩⟩
 obtain ⟨b,hb,hev⟩:=ev_isAward h hin E
 have hbt:b = true:=hb.2 ⟨x,rfl,hd⟩
 rw [hbt] at hev
 unfold shares_Agrees.f
 exact Ev.bind hn (Ev.bind hev e1)
theorem ev_Agrees_bad {l:List Int} (h:IsCl l) {E:Int} (h0:0 ≤ E) (h1:E ≤ sI l) {w:List S23} (hin:∀ a ∈ w,inS a) (hno:¬ ∃ x,w = encL x ∧ IsDiv l E x):Ev (fun k=>shares_Agrees.f k l E w) (0,0,false,10):=by
 have hf:H.fitL l:=by unfold H.fitL;have:=h.ten;omega
 have hc:clB l E = true:=decide_eq_true ⟨h,h0,h1⟩
 have hn:=ev_newClaims hf E
 rw [hc] at hn
 obtain ⟨b,hb,hev⟩:=ev_isAward h hin E
 have hbf:b = false:=by
  cases b with
  | false=>rfl
  | true=>exact absurd (hb.1 rfl) hno
 rw [hbf] at hev
 unfold shares_Agrees.f
 exact Ev.bind hn (Ev.bind hev (Ev.now _))
theorem ev_Agrees_no {l:List Int} (hf:H.fitL l) {E:Int} (hc:clB l E = false) (w:List S23):Ev (fun k=>shares_Agrees.f k l E w) (0,0,false,2):=by
 have hn:=ev_newClaims hf E
 rw [hc] at hn
 unfold shares_Agrees.f
 exact Ev.bind hn (Ev.now _)
end Go.Proofs.Ytjohcjfmlhihbaa.P
namespace Go.Proofs.Ytjohcjfmlhihbaa.G
open Go.RowKit Go.Proofs.YtjohcjfmlhihbaaW.PrintWords Go.Proofs.YtjohcjfmlhihbaaW.PrintLast Go.Proofs.YtjohcjfmlhihbaaW.PrintMore
attribute [local go_sem] max2_int min2_int max_two min_two max_three min_three max_four min_four   -- for this text's walks alone
set_option linter.unusedVariables false
set_option linter.unusedSimpArgs false
def numnahlaw07_list.f (l0:List Int):Option ((List Int)):=if 0 ≤ (mn (l0.length:Int) 11) then (if (mn (l0.length:Int) 11) ≤ (l0.length:Int) then ((some (l0.take ((mn (l0.length:Int) 11):Int).toNat:List Int)).bind fun y101=>(if ([]:List Int).length + y101.length < 8796093022208 then (some (([]:List Int) ++ y101)) else (none))) else (none)) else (none)
set_option maxHeartbeats 8000000 in
set_option maxRecDepth 100000 in
theorem numnahlaw07_list.calls (A0:Option Addr) (c0:Nat) (l0:List Int) (r:List Int) (w:World) (hr0:Kd.C (Kd.int .i64) w A0 l0.length l0) (hc0:l0.length ≤ c0) (h:numnahlaw07_list.f l0 = some r) :
  Calls Try.prog 35 #[.slice A0 l0.length c0] w fun e w'=>∃ v0_:Value,e = .returned (v0_) ∧ Kd.R (Kd.int .i64) 3 w' w.heap.size (fun _=>True) v0_ r ∧ Below w.heap.size w w':=by
 have HR0:=Aside0.mk hr0
 have HC0:=Aside0.mk hc0
 clear hr0 hc0
 have HB:=Aside0.mk (Below.refl w.heap.size w)
 have H:(if 0 ≤ (mn (l0.length:Int) 11) then (if (mn (l0.length:Int) 11) ≤ (l0.length:Int) then ((some (l0.take ((mn (l0.length:Int) 11):Int).toNat:List Int)).bind fun y101=>(if ([]:List Int).length + y101.length < 8796093022208 then (some (([]:List Int) ++ y101)) else (none))) else (none)) else (none)) = some r:=h
 clear h
 obtain ⟨ji2,hji2⟩:∃ j_:Int,(mn (l0.length:Int) 11) = j_:=⟨_,rfl⟩
 replace H:(if 0 ≤ (ji2) then (if (ji2) ≤ (l0.length:Int) then ((some (l0.take ((ji2):Int).toNat:List Int)).bind fun y101=>(if ([]:List Int).length + y101.length < 8796093022208 then (some (([]:List Int) ++ y101)) else (none))) else (none)) else (none)) = some r:=by first | (rw [hji2] at H;exact H) | (simp only [hji2] at H ⊢;exact H)
 (try (have hji2h:ji2 ≤ 11:=by (rw [← hji2];unfold mn;(repeat' split) <;> omega)))
 (try (have hji2g:ji2 ≤ 64:=by omega))
 (try (have hji2l:0 ≤ ji2:=by (rw [← hji2];unfold mn;(repeat' split) <;> omega)))
 (try (have hji2m:0 ≤ ji2:=by omega))
 have hji2_:(if 11 < (l0.length:Int) then 11 else (l0.length:Int)) = ji2:=hji2
 by_cases c3:0 ≤ (ji2)
 ·rw [if_pos c3] at H
  have c3b0:=eq_true c3
  have c3b1:decide (0 ≤ (ji2)) = true:=decide_eq_true c3
  clear c3
  by_cases c4:(ji2) ≤ (l0.length:Int)
  ·rw [if_pos c4] at H
   have c4b0:=eq_true c4
   have c4b1:decide ((ji2) ≤ (l0.length:Int)) = true:=decide_eq_true c4
   clear c4
   obtain ⟨y101,hy101⟩:∃ y_:List Int,y_ = (l0.take ((ji2):Int).toNat):=⟨_,rfl⟩
   replace H:(if ([]:List Int).length + y101.length < 8796093022208 then (some (([]:List Int) ++ y101)) else (none)) = some r:=by first | (rw [hy101];with_reducible exact H) | (have H2_:=(Option.bind_some _ _).symm.trans H;rw [hy101];with_reducible exact H2_) | (have H2_:=(Option.bind_some _ _).symm.trans H;with_reducible exact H2_) | with_reducible exact H | (rw [hy101];exact H) | exact H
   have Ny101:=Aside0.mk hy101
   clear hy101
   by_cases c5:([]:List Int).length + y101.length < 8796093022208
   ·rw [if_pos c5] at H
    have LMc5:=Aside0.mk c5
    clear c5
    obtain ⟨y105,hy105⟩:∃ y_:List Int,y_ = (([]:List Int) ++ y101):=⟨_,rfl⟩
    replace H:(some y105) = some r:=by first | (rw [hy105];with_reducible exact H) | (have H2_:=(Option.bind_some _ _).symm.trans H;rw [hy105];with_reducible exact H2_) | (have H2_:=(Option.bind_some _ _).symm.trans H;with_reducible exact H2_) | with_reducible exact H | (rw [hy105];exact H) | exact H
    have Ny105:=Aside0.mk hy105
    clear hy105
    obtain rfl:=Option.some.inj H
    have q6:((ji2):Int) ≤ ((l0.length:Int):Int):=of_decide_eq_true (by first | (with_reducible assumption) | assumption)
    obtain ⟨i06,hi06,_,hsz6,_⟩:=info_parts info3
    have hroom6:l0.length ≤ c0:=HC0.out
    have hC6:Kd.C (Kd.int .i64) _ A0 l0.length l0:=HR0.out
    have hcut6:=cut_to (P:=Try.prog) 28 3 .i64 Try.underlying28 hi06 A0 l0.length c0 (ji2) (of_decide_eq_true (by first | (with_reducible assumption) | assumption)) q6 hroom6
    have hr6:=Kd.C_take (m:=((ji2):Int).toNat) hC6 (by omega)
    have hy6:y101.length = ((ji2):Int).toNat:=(by rw [Ny101.out,List.length_take];omega)
    rw [← Ny101.out] at hr6
    rw [← hy6] at hcut6
    have HR104:=Aside0.mk hr6
    have HC104:=Aside0.mk (show y101.length ≤ c0 from by omega)
    clear hr6 hC6 hroom6 hi06 hsz6
    have KY6:=Aside0.mk hy6
    clear hy6
    replace q6:=eq_true q6
    go_enter Try.func35,Try.ntmps35
    go_wp2_with (first | ((with_reducible refine gate_builtin (b:=.append) (xs:=#[.tmp 4,.tmp 9]) rfl ?_);at_builtin;refine Kd.R_append_rows (Kd.int .i64) (w0:=w) w.heap.size rfl (.tmp 4) (.tmp 9) 28 3 (.int .i64 0) 8 rfl Try.underlying28 info3 rfl (by decide) (by omega) (.slice none 0 0) ([]:List Int) y101 _ _ _ (fun _=>True) (fun _=>False) rfl rfl ?aO ?aR (fun _ _ h=>h) (fun _ h=>h.elim) ?aF ?aB ?aS ?aL ?_;(case aR=>repeat (first | exact HR104.out | (with_reducible refine Kd.C_alloc ?_ _) | (with_reducible refine Kd.C_drewN ?_ _) | (with_reducible refine Kd.C_drew ?_)));(case aB=>exact (by repeat (first | (with_reducible first | exact HB.out | apply below_alloc | apply pw_below_drewN | apply below_drew1) | exact HB.out)));(case aF=>exact (fun _ _=>trivial));(case aO=>exact ((Kd.R_nil _ _ _ _ (fun _=>True))));(case aS=>exact (below_size (by repeat (first | (with_reducible first | exact HB.out | apply below_alloc | apply pw_below_drewN | apply below_drew1) | exact HB.out))));(case aL=>have:=LMc5.out;omega);intro v106 w7 ho hb hg hat;rw [← Ny105.out] at ho;have n0_:=Aside0.mk (hb);have n1_:=Aside0.mk (ho);clear HB;have HB:=n0_;have HO107:=n1_;clear n0_ n1_;clear ho hb hg hat))
    go_ret
    exact ⟨_,by first | rfl | (simp [errW_none,errW_some] <;> rfl) | (simp only [← hji2];first | rfl | (simp [errW_none,errW_some] <;> rfl)) | (simp [*,errW_none,errW_some] <;> rfl),by (with_reducible repeat (first | apply Kd.R_alloc | apply Kd.R_drewN | apply Kd.R_drew));exact HO107.out,by repeat (first | (with_reducible first | exact HB.out | apply below_alloc | apply pw_below_drewN | apply below_drew1) | exact HB.out)⟩
   ·rw [if_neg c5] at H
    exact absurd H (by simp)
  ·rw [if_neg c4] at H
   exact absurd H (by simp)
 ·rw [if_neg c3] at H
  exact absurd H (by simp)
end Go.Proofs.Ytjohcjfmlhihbaa.G
set_option linter.unusedSectionVars false
namespace Go.Proofs.Ytjohcjfmlhihbaa.P
open Go Go.RowKit Go.Proofs.Ytjohcjfmlhihbaa.G
open Go.Proofs.YtjohcjfmlhihbaaW.PrintWords Go.Proofs.YtjohcjfmlhihbaaW.PrintMore
theorem list_f (l:List Int):numnahlaw07_list.f l = some (l.take 11):=by
 unfold numnahlaw07_list.f
 rw [mn11,if_pos (by omega),if_pos (by omega),Int.toNat_natCast]
 simp only [Option.bind_some,List.nil_append,List.length_nil]
 rw [if_pos (by rw [List.length_take];omega)]
 congr 1
 by_cases h:l.length ≤ 11
 ·rw [List.take_of_length_le (by omega),List.take_of_length_le h]
 ·rw [show min l.length 11 = 11 by omega]
end Go.Proofs.Ytjohcjfmlhihbaa.P
namespace Go.Proofs.Ytjohcjfmlhihbaa.G
open Go.RowKit Go.Proofs.YtjohcjfmlhihbaaW.PrintWords Go.Proofs.YtjohcjfmlhihbaaW.PrintLast Go.Proofs.YtjohcjfmlhihbaaW.PrintMore
attribute [local go_sem] fld23_0 fld23_1 fld45_0 fld45_1 fld109_0 fld109_1 fld94_0 fld94_1 max2_int min2_int max_two min_two max_three min_three max_four min_four   -- for this text's walks alone
set_option linter.unusedVariables false
set_option linter.unusedSimpArgs false
theorem eqA51 (d:Nat) (w:World) (x0 y0:Int) (x1 y1:Int) :
  (Op.equalIn (d + 2) 51 (.agg #[.int .i64 x0,.int .i64 x1]) (.agg #[.int .i64 y0,.int .i64 y1])).run Try.prog w = .ok (x0 == y0 && (x1 == y1)) w :=
 ArrEq.eqArr2 w d Try.underlying51 Try.underlying3 (by kernel_rfl) (by kernel_rfl) x0 y0 x1 y1
end Go.Proofs.Ytjohcjfmlhihbaa.G
namespace Go.Proofs.Ytjohcjfmlhihbaa.G
open Go.RowKit Go.Proofs.YtjohcjfmlhihbaaW.PrintWords Go.Proofs.YtjohcjfmlhihbaaW.PrintLast Go.Proofs.YtjohcjfmlhihbaaW.PrintMore
set_option maxHeartbeats 8000000
set_option maxRecDepth 100000
attribute [local go_sem] cond_true cond_false fld23_0 fld23_1 fld45_0 fld45_1 fld109_0 fld109_1 fld94_0 fld94_1 max2_int min2_int max_two min_two max_three min_three max_four min_four   -- for this text's walks alone
attribute [local go_sem high] eqA51
def numnahlaw07_SharesAgrees.f (k:Nat) (a0:Int) (l1:List Int) (l2:List (S23)):Option (Bool):=(numnahlaw07_list.f l1).bind fun b7=>((numnahlaw07_fracs.f l2).bind fun b9=>((shares_Agrees.f k b7 a0 b9).bind fun b1=>((numnahref07_Claims.f k b7 a0).bind fun d7=>(if d7 = true then ((numnahref07_Divides.f k b7 a0 b9).bind fun d4=>(if d4 = true then ((numnahref07_Agrees.f k b7 b9).bind fun b8=>(if (b1.1 == b8.1 && (b1.2.1 == b8.2.1)) = true then (if (b1.2.2.1 == b8.2.2) = true then (if b1.2.2.2 = 0 then ((numnahlaw07_awake.f k).bind fun d1=>(some d1)) else (some false)) else (some false)) else (some false))) else (if (b1.1 == 0 && (b1.2.1 == 0)) = true then (if b1.2.2.1 = true then (some false) else (if b1.2.2.2 = 10 then ((numnahlaw07_awake.f k).bind fun d2=>(some d2)) else (some false))) else (some false)))) else (if (b1.1 == 0 && (b1.2.1 == 0)) = true then (if b1.2.2.1 = true then (some false) else (if b1.2.2.2 = 2 then ((numnahlaw07_awake.f k).bind fun d3=>(some d3)) else (some false))) else (some false))))))
theorem numnahlaw07_SharesAgrees.mono:∀ a0 a1 a2 k,LeO (numnahlaw07_SharesAgrees.f k a0 a1 a2) (numnahlaw07_SharesAgrees.f (k + 1) a0 a1 a2):=by
 intro a0 a1 a2 k
 unfold numnahlaw07_SharesAgrees.f
 repeat' first
   | (with_reducible exact numnahlaw07_awake.mono _)
   | (with_reducible exact numnahref07_Agrees.mono _ _ _)
   | (with_reducible exact numnahref07_Claims.mono _ _ _)
   | (with_reducible exact numnahref07_Divides.mono _ _ _ _)
   | (with_reducible exact shares_Agrees.mono _ _ _ _)
   | (with_reducible exact LeO.refl _)
   | (with_reducible exact LeO.none _)
   | (with_reducible refine LeO.ite ?_ ?_)
   | (with_reducible refine LeO.bind ?_ (fun _=>?_))
   | exact numnahlaw07_awake.mono _
   | exact numnahref07_Agrees.mono _ _ _
   | exact numnahref07_Claims.mono _ _ _
   | exact numnahref07_Divides.mono _ _ _ _
   | exact shares_Agrees.mono _ _ _ _
   | exact LeO.none _
   | refine LeO.ite ?_ ?_
   | refine LeO.bind ?_ (fun _=>?_)
theorem numnahlaw07_SharesAgrees.calls (k:Nat) (a0:Int) (A1:Option Addr) (c1:Nat) (l1:List Int) (A2:Option Addr) (c2:Nat) (l2:List (S23)) (r:Bool) (w:World) (r1:Kd.C (Kd.int .i64) w A1 l1.length l1) (r2:l1.length ≤ c1) (r3:Kd.C k23 w A2 l2.length l2) (r4:l2.length ≤ c2) (h:numnahlaw07_SharesAgrees.f k a0 l1 l2 = some r) (hrt_:r = true) :
  Calls Try.prog 15 #[.int .i64 a0,.slice A1 l1.length c1,.slice A2 l2.length c2] w fun e w'=>e = .returned (.bool r) ∧ Below w.heap.size w w':=by
 have HRT:=Aside0.mk hrt_
 clear hrt_
 have s7:=Try.underlying51
 have q1:=A_ r1
 have q2:=A_ r2
 clear r1 r2
 have q3:=A_ r3
 have q4:=A_ r4
 clear r3 r4
 have HB:=A_ (Below.refl w.heap.size w)
 have H:((numnahlaw07_list.f l1).bind fun b7=>((numnahlaw07_fracs.f l2).bind fun b9=>((shares_Agrees.f k b7 a0 b9).bind fun b1=>((numnahref07_Claims.f k b7 a0).bind fun d7=>(if d7 = true then ((numnahref07_Divides.f k b7 a0 b9).bind fun d4=>(if d4 = true then ((numnahref07_Agrees.f k b7 b9).bind fun b8=>(if (b1.1 == b8.1 && (b1.2.1 == b8.2.1)) = true then (if (b1.2.2.1 == b8.2.2) = true then (if b1.2.2.2 = 0 then ((numnahlaw07_awake.f k).bind fun d1=>(some d1)) else (some false)) else (some false)) else (some false))) else (if (b1.1 == 0 && (b1.2.1 == 0)) = true then (if b1.2.2.1 = true then (some false) else (if b1.2.2.2 = 10 then ((numnahlaw07_awake.f k).bind fun d2=>(some d2)) else (some false))) else (some false)))) else (if (b1.1 == 0 && (b1.2.1 == 0)) = true then (if b1.2.2.1 = true then (some false) else (if b1.2.2.2 = 2 then ((numnahlaw07_awake.f k).bind fun d3=>(some d3)) else (some false))) else (some false))))))) = some r:=h
 clear h
 replace H:=Option.bind_eq_some_iff.mp H
 obtain ⟨b7,r5,H⟩:=H
 replace H:((numnahlaw07_fracs.f l2).bind fun b9=>((shares_Agrees.f k b7 a0 b9).bind fun b1=>((numnahref07_Claims.f k b7 a0).bind fun d7=>(if d7 = true then ((numnahref07_Divides.f k b7 a0 b9).bind fun d4=>(if d4 = true then ((numnahref07_Agrees.f k b7 b9).bind fun b8=>(if (b1.1 == b8.1 && (b1.2.1 == b8.2.1)) = true then (if (b1.2.2.1 == b8.2.2) = true then (if b1.2.2.2 = 0 then ((numnahlaw07_awake.f k).bind fun d1=>(some d1)) else (some false)) else (some false)) else (some false))) else (if (b1.1 == 0 && (b1.2.1 == 0)) = true then (if b1.2.2.1 = true then (some false) else (if b1.2.2.2 = 10 then ((numnahlaw07_awake.f k).bind fun d2=>(some d2)) else (some false))) else (some false)))) else (if (b1.1 == 0 && (b1.2.1 == 0)) = true then (if b1.2.2.1 = true then (some false) else (if b1.2.2.2 = 2 then ((numnahlaw07_awake.f k).bind fun d3=>(some d3)) else (some false))) else (some false)))))) = some r:=H
 have A4:=A_ r5
 clear r5
 replace H:=Option.bind_eq_some_iff.mp H
 obtain ⟨b9,r6,H⟩:=H
 replace H:((shares_Agrees.f k b7 a0 b9).bind fun b1=>((numnahref07_Claims.f k b7 a0).bind fun d7=>(if d7 = true then ((numnahref07_Divides.f k b7 a0 b9).bind fun d4=>(if d4 = true then ((numnahref07_Agrees.f k b7 b9).bind fun b8=>(if (b1.1 == b8.1 && (b1.2.1 == b8.2.1)) = true then (if (b1.2.2.1 == b8.2.2) = true then (if b1.2.2.2 = 0 then ((numnahlaw07_awake.f k).bind fun d1=>(some d1)) else (some false)) else (some false)) else (some false))) else (if (b1.1 == 0 && (b1.2.1 == 0)) = true then (if b1.2.2.1 = true then (some false) else (if b1.2.2.2 = 10 then ((numnahlaw07_awake.f k).bind fun d2=>(some d2)) else (some false))) else (some false)))) else (if (b1.1 == 0 && (b1.2.1 == 0)) = true then (if b1.2.2.1 = true then (some false) else (if b1.2.2.2 = 2 then ((numnahlaw07_awake.f k).bind fun d3=>(some d3)) else (some false))) else (some false))))) = some r:=H
 have A5:=A_ r6
 clear r6
 replace H:=Option.bind_eq_some_iff.mp H
 obtain ⟨⟨b3,b4,d0,c0⟩,A60,H⟩:=H
 replace H:((numnahref07_Claims.f k b7 a0).bind fun d7=>(if d7 = true then ((numnahref07_Divides.f k b7 a0 b9).bind fun d4=>(if d4 = true then ((numnahref07_Agrees.f k b7 b9).bind fun b8=>(if (b3 == b8.1 && (b4 == b8.2.1)) = true then (if (d0 == b8.2.2) = true then (if c0 = 0 then ((numnahlaw07_awake.f k).bind fun d1=>(some d1)) else (some false)) else (some false)) else (some false))) else (if (b3 == 0 && (b4 == 0)) = true then (if d0 = true then (some false) else (if c0 = 10 then ((numnahlaw07_awake.f k).bind fun d2=>(some d2)) else (some false))) else (some false)))) else (if (b3 == 0 && (b4 == 0)) = true then (if d0 = true then (some false) else (if c0 = 2 then ((numnahlaw07_awake.f k).bind fun d3=>(some d3)) else (some false))) else (some false)))) = some r:=H
 have A6:=A_ A60
 clear A60
 replace H:=Option.bind_eq_some_iff.mp H
 obtain ⟨d7,r7,H⟩:=H
 replace H:(if d7 = true then ((numnahref07_Divides.f k b7 a0 b9).bind fun d4=>(if d4 = true then ((numnahref07_Agrees.f k b7 b9).bind fun b8=>(if (b3 == b8.1 && (b4 == b8.2.1)) = true then (if (d0 == b8.2.2) = true then (if c0 = 0 then ((numnahlaw07_awake.f k).bind fun d1=>(some d1)) else (some false)) else (some false)) else (some false))) else (if (b3 == 0 && (b4 == 0)) = true then (if d0 = true then (some false) else (if c0 = 10 then ((numnahlaw07_awake.f k).bind fun d2=>(some d2)) else (some false))) else (some false)))) else (if (b3 == 0 && (b4 == 0)) = true then (if d0 = true then (some false) else (if c0 = 2 then ((numnahlaw07_awake.f k).bind fun d3=>(some d3)) else (some false))) else (some false))) = some r:=H
 have A7:=A_ r7
 clear r7
 by_cases c8:d7 = true
 case neg =>
  replace c8:=Bool.eq_false_iff.mpr c8
  subst c8
  have H1:(if (b3 == 0 && (b4 == 0)) = true then (if d0 = true then (some false) else (if c0 = 2 then ((numnahlaw07_awake.f k).bind fun d3=>(some d3)) else (some false))) else (some false)) = some r:=by rw [if_neg (show ¬ (false = true) by decide)] at H;exact H
  clear H
  have H:=H1
  clear H1
  by_cases e2:(b3 == 0 && (b4 == 0)) = true
  case neg =>
   rw [if_neg e2] at H
   have i1:(b3 == 0 && (b4 == 0)) = false:=by simpa using e2
   (try (have i2:decide (b3 = 0 && (b4 == 0)) = false:=by simpa using e2))
   (try (have i3:(b3 == 0 && (b4 == 0)) = false:=by simpa using e2))
   (try (have q5:¬ (b3 = 0 && (b4 == 0)):=by simpa using e2))
   clear e2
   exact absurd ((Option.some.inj H).trans HRT.out) (by decide)
  rw [if_pos e2] at H
  have i1:(b3 == 0 && (b4 == 0)) = true:=e2
  (try (have i2:decide (b3 = 0 && (b4 == 0)) = true:=by simpa using e2))
  (try (have i3:(b3 == 0 && (b4 == 0)) = true:=by simpa using e2))
  clear e2
  by_cases h4:d0 = true
  ·subst h4
   have H1:(some false) = some r:=by rw [if_pos rfl] at H;exact H
   clear H
   have H:=H1
   clear H1
   exact absurd ((Option.some.inj H).trans HRT.out) (by decide)
  replace h4:=Bool.eq_false_iff.mpr h4
  subst h4
  have H1:(if c0 = 2 then ((numnahlaw07_awake.f k).bind fun d3=>(some d3)) else (some false)) = some r:=by rw [if_neg (show ¬ (false = true) by decide)] at H;exact H
  clear H
  have H:=H1
  clear H1
  by_cases e7:c0 = 2
  case neg =>
   rw [if_neg e7] at H
   have i4:(c0 == 2) = false:=beq_eq_false_iff_ne.mpr e7
   have i5:(c0 != 2) = true:=bne_iff_ne.mpr e7
   exact absurd ((Option.some.inj H).trans HRT.out) (by decide)
  rw [if_pos e7] at H
  have i4:(c0 == 2) = true:=beq_iff_eq.mpr e7
  have i5:(c0 != 2) = false:=bne_eq_false_iff_eq.mpr e7
  clear e7
  replace H:=Option.bind_eq_some_iff.mp H
  obtain ⟨d3,h7,H⟩:=H
  replace H:(some d3) = some r:=H
  have q6:=A_ h7
  clear h7
  obtain rfl:=Option.some.inj H
  go_enter Try.func15,Try.ntmps15
  go_wp2_with (first | ((with_reducible refine gate_callee (f:=35) rfl ?_);refine goesL_ (some 15) rfl rfl Try.func35 (by kernel_rfl) rfl #[.slice A1 l1.length c1] rfl (by (try simp only [List.map_toArray,List.map_cons,List.map_nil]);first | done | rfl | (simp only [List.length_drop,List.length_take];rfl)) ?_;(with_reducible refine (numnahlaw07_list.calls _ _ l1 b7 _ ?side1 ?side2 A4.out).mono ?_);(case side1=>repeat (first | exact q1.out | (with_reducible refine Kd.C_alloc ?_ _) | (with_reducible refine Kd.C_drewN ?_ _) | (with_reducible refine Kd.C_drew ?_)));(case side2=>exact q2.out);rintro e s8 ⟨h8,rfl,e5,hb⟩;refine ⟨_,rfl,?_⟩;have b0:=A_ (Kd.R_lower e5 (below_size (bl HB)));replace HB:=bB HB hb;(try clear hb);(try clear e5)) | ((with_reducible refine gate_callee (f:=36) rfl ?_);refine goesL_ (some 17) rfl rfl Try.func36 (by kernel_rfl) rfl #[.slice A2 l2.length c2] rfl (by (try simp only [List.map_toArray,List.map_cons,List.map_nil]);first | done | rfl | (simp only [List.length_drop,List.length_take];rfl)) ?_;(with_reducible refine (numnahlaw07_fracs.calls _ _ l2 b9 _ ?side1 ?side2 A5.out).mono ?_);(case side1=>exact cB q3 HB);(case side2=>exact q4.out);rintro e s9 ⟨h9,rfl,e5,hb⟩;refine ⟨_,rfl,?_⟩;have b5:=A_ (Kd.R_lower e5 (below_size (bl HB)));replace b0:=rB b0 hb;replace HB:=bB HB hb;(try clear hb);(try clear e5);obtain ⟨i0,e9,j9⟩:=Kd.R_slice b0.out;subst j9;obtain ⟨l5,l6,l7⟩:=Kd.R_slice b5.out;subst l7) | ((with_reducible refine gate_callee (f:=54) rfl ?_);refine goesL_ (some 22) rfl rfl Try.func54 (by kernel_rfl) rfl #[.slice i0 b7.length e9,.int .i64 a0,.slice l5 b9.length l6] rfl (by (try simp only [List.map_toArray,List.map_cons,List.map_nil]);first | done | rfl | (simp only [List.length_drop,List.length_take];rfl)) ?_;(with_reducible refine (shares_Agrees.calls k _ _ b7 a0 _ _ b9 b3 b4 false c0 _ ?side1 ?side2 ?side3 ?side4 A6.out).mono ?_);(case side1=>repeat (first | exact (Kd.R_reads' b0.out).2.2 | (with_reducible refine Kd.C_alloc ?_ _) | (with_reducible refine Kd.C_drewN ?_ _) | (with_reducible refine Kd.C_drew ?_)));(case side2=>exact (Kd.R_reads' b0.out).2.1);(case side3=>repeat (first | exact (Kd.R_reads' b5.out).2.2 | (with_reducible refine Kd.C_alloc ?_ _) | (with_reducible refine Kd.C_drewN ?_ _) | (with_reducible refine Kd.C_drew ?_)));(case side4=>exact (Kd.R_reads' b5.out).2.1);rintro e t0 ⟨rfl,hb⟩;refine ⟨_,rfl,?_⟩;replace b0:=rB b0 hb;replace b5:=rB b5 hb;replace HB:=bB HB hb;(try clear hb)) | ((with_reducible refine gate_dst (N:=9) rfl ?_);refine box_event ?hg (N:=9) ?hd (cs:=#[.int .i64 0,.int .i64 0]) (t:=51) ?hr ?_;(case hd=>rfl);(case hg=>rfl);(case hr=>first | (go_simp;done) | (go_simp;rfl));intro b6 hg l8 hbox hb;have b2:=A_ hbox;have e3:=gw hg HB;have e4:=e3;replace b0:=rB b0 hb;replace b5:=rB b5 hb;replace HB:=bB HB hb;clear hb hbox hg;have l9:l8.cell? ⟨b6,0,none⟩ = some (.int .i64 0):=cz b2 0;have m0:l8.cell? ⟨b6,1,none⟩ = some (.int .i64 0):=cz b2 1;have m1:=blk_frozen b2.out 0;have m2:=blk_frozen b2.out 1) | ((with_reducible refine gate_callee (f:=21) rfl ?_);refine goesL_ (some 28) rfl rfl Try.func21 (by kernel_rfl) rfl #[.slice i0 b7.length e9,.int .i64 a0] rfl (by (try simp only [List.map_toArray,List.map_cons,List.map_nil]);first | done | rfl | (simp only [List.length_drop,List.length_take];rfl)) ?_;(with_reducible refine (numnahref07_Claims.calls k _ _ b7 a0 false _ ?side1 ?side2 A7.out).mono ?_);(case side1=>refine (Kd.R_reads' (e:=3) (base:=w.heap.size) (ok:=fun k_=>True) (n:=b7.length) (c:=e9) ?_).2.2;exact (by (with_reducible repeat (first | apply Kd.R_alloc | apply Kd.R_drewN | apply Kd.R_drew));exact (Kd.R_mono (Kd.R_far (p:=⟨b6,1,none⟩) (Kd.R_far (p:=⟨b6,0,none⟩) (Kd.R_types b0.out b2.out (by decide)) (fun _ hk=>hk.2) (.int .i64 b3)) (fun _ hk=>hk.2) (.int .i64 b4)) (fun _ h_=>h_.1))));(case side2=>exact (Kd.R_reads' b0.out).2.1);rintro e w' ⟨rfl,⟨nd,rfl⟩⟩;refine ⟨_,rfl,?_⟩) | (go_at_call 22;(with_reducible refine (numnahlaw07_awake.calls k  d3 _ q6.out).mono ?_);rintro e t1 ⟨rfl,hb⟩;replace b0:=A_ (Kd.R_below (by (with_reducible repeat (first | apply Kd.R_alloc | apply Kd.R_drewN | apply Kd.R_drew));exact (Kd.R_mono (Kd.R_far (p:=⟨b6,1,none⟩) (Kd.R_far (p:=⟨b6,0,none⟩) (Kd.R_types b0.out b2.out (by decide)) (fun _ hk=>hk.2) (.int .i64 b3)) (fun _ hk=>hk.2) (.int .i64 b4)) (fun _ h_=>h_.1))) hb);replace b5:=A_ (Kd.R_below (by (with_reducible repeat (first | apply Kd.R_alloc | apply Kd.R_drewN | apply Kd.R_drew));exact (Kd.R_mono (Kd.R_far (p:=⟨b6,1,none⟩) (Kd.R_far (p:=⟨b6,0,none⟩) (Kd.R_types b5.out b2.out (by decide)) (fun _ hk=>hk.2) (.int .i64 b3)) (fun _ hk=>hk.2) (.int .i64 b4)) (fun _ h_=>h_.1))) hb);replace b2:=A_ (blk_below (g:=b6) (o:=.cells #[.int .i64 b3,.int .i64 b4] 51 (0,0)) (by (with_reducible repeat (first | refine blk_drewN ?_ _ | refine blk_drew ?_ | refine blk_alloc ?_ _));refine blk_put (cs:=#[.int .i64 b3,.int .i64 0]) ?_ 1 _ rfl;(with_reducible repeat (first | refine blk_drewN ?_ _ | refine blk_drew ?_ | refine blk_alloc ?_ _));refine blk_put (cs:=#[.int .i64 0,.int .i64 0]) ?_ 0 _ rfl;(with_reducible repeat (first | refine blk_drewN ?_ _ | refine blk_drew ?_ | refine blk_alloc ?_ _));exact b2.out) hb);replace HB:=bB HB hb;(try clear hb)))
  go_ret
  exact ⟨by first | rfl | (simp [errW_none,errW_some] <;> rfl) | (simp [*,errW_none,errW_some] <;> rfl),by repeat (first | (with_reducible first | exact HB.out | apply below_alloc | apply pw_below_drewN | apply below_drew1 | refine below_set ?_ e4.out) | exact HB.out)⟩
 subst c8
 have H1:((numnahref07_Divides.f k b7 a0 b9).bind fun d4=>(if d4 = true then ((numnahref07_Agrees.f k b7 b9).bind fun b8=>(if (b3 == b8.1 && (b4 == b8.2.1)) = true then (if (d0 == b8.2.2) = true then (if c0 = 0 then ((numnahlaw07_awake.f k).bind fun d1=>(some d1)) else (some false)) else (some false)) else (some false))) else (if (b3 == 0 && (b4 == 0)) = true then (if d0 = true then (some false) else (if c0 = 10 then ((numnahlaw07_awake.f k).bind fun d2=>(some d2)) else (some false))) else (some false)))) = some r:=by rw [if_pos rfl] at H;exact H
 clear H
 have H:=H1
 clear H1
 replace H:=Option.bind_eq_some_iff.mp H
 obtain ⟨d4,r8,H⟩:=H
 replace H:(if d4 = true then ((numnahref07_Agrees.f k b7 b9).bind fun b8=>(if (b3 == b8.1 && (b4 == b8.2.1)) = true then (if (d0 == b8.2.2) = true then (if c0 = 0 then ((numnahlaw07_awake.f k).bind fun d1=>(some d1)) else (some false)) else (some false)) else (some false))) else (if (b3 == 0 && (b4 == 0)) = true then (if d0 = true then (some false) else (if c0 = 10 then ((numnahlaw07_awake.f k).bind fun d2=>(some d2)) else (some false))) else (some false))) = some r:=H
 have A9:=A_ r8
 clear r8
 by_cases c10:d4 = true
 case neg =>
  replace c10:=Bool.eq_false_iff.mpr c10
  subst c10
  have H1:(if (b3 == 0 && (b4 == 0)) = true then (if d0 = true then (some false) else (if c0 = 10 then ((numnahlaw07_awake.f k).bind fun d2=>(some d2)) else (some false))) else (some false)) = some r:=by rw [if_neg (show ¬ (false = true) by decide)] at H;exact H
  clear H
  have H:=H1
  clear H1
  by_cases h0:(b3 == 0 && (b4 == 0)) = true
  case neg =>
   rw [if_neg h0] at H
   have m3:(b3 == 0 && (b4 == 0)) = false:=by simpa using h0
   (try (have m4:decide (b3 = 0 && (b4 == 0)) = false:=by simpa using h0))
   (try (have m5:(b3 == 0 && (b4 == 0)) = false:=by simpa using h0))
   (try (have r9:¬ (b3 = 0 && (b4 == 0)):=by simpa using h0))
   clear h0
   exact absurd ((Option.some.inj H).trans HRT.out) (by decide)
  rw [if_pos h0] at H
  have m3:(b3 == 0 && (b4 == 0)) = true:=h0
  (try (have m4:decide (b3 = 0 && (b4 == 0)) = true:=by simpa using h0))
  (try (have m5:(b3 == 0 && (b4 == 0)) = true:=by simpa using h0))
  clear h0
  by_cases n9:d0 = true
  ·subst n9
   have H1:(some false) = some r:=by rw [if_pos rfl] at H;exact H
   clear H
   have H:=H1
   clear H1
   exact absurd ((Option.some.inj H).trans HRT.out) (by decide)
  replace n9:=Bool.eq_false_iff.mpr n9
  subst n9
  have H1:(if c0 = 10 then ((numnahlaw07_awake.f k).bind fun d2=>(some d2)) else (some false)) = some r:=by rw [if_neg (show ¬ (false = true) by decide)] at H;exact H
  clear H
  have H:=H1
  clear H1
  by_cases i6:c0 = 10
  case neg =>
   rw [if_neg i6] at H
   have m6:(c0 == 10) = false:=beq_eq_false_iff_ne.mpr i6
   have m7:(c0 != 10) = true:=bne_iff_ne.mpr i6
   exact absurd ((Option.some.inj H).trans HRT.out) (by decide)
  rw [if_pos i6] at H
  have m6:(c0 == 10) = true:=beq_iff_eq.mpr i6
  have m7:(c0 != 10) = false:=bne_eq_false_iff_eq.mpr i6
  clear i6
  replace H:=Option.bind_eq_some_iff.mp H
  obtain ⟨d2,m8,H⟩:=H
  replace H:(some d2) = some r:=H
  have t2:=A_ m8
  clear m8
  obtain rfl:=Option.some.inj H
  go_enter Try.func15,Try.ntmps15
  go_wp2_with (first | ((with_reducible refine gate_callee (f:=35) rfl ?_);refine goesL_ (some 15) rfl rfl Try.func35 (by kernel_rfl) rfl #[.slice A1 l1.length c1] rfl (by (try simp only [List.map_toArray,List.map_cons,List.map_nil]);first | done | rfl | (simp only [List.length_drop,List.length_take];rfl)) ?_;(with_reducible refine (numnahlaw07_list.calls _ _ l1 b7 _ ?side1 ?side2 A4.out).mono ?_);(case side1=>repeat (first | exact q1.out | (with_reducible refine Kd.C_alloc ?_ _) | (with_reducible refine Kd.C_drewN ?_ _) | (with_reducible refine Kd.C_drew ?_)));(case side2=>exact q2.out);rintro e t5 ⟨h8,rfl,e5,hb⟩;refine ⟨_,rfl,?_⟩;have b0:=A_ (Kd.R_lower e5 (below_size (bl HB)));replace HB:=bB HB hb;(try clear hb);(try clear e5)) | ((with_reducible refine gate_callee (f:=36) rfl ?_);refine goesL_ (some 17) rfl rfl Try.func36 (by kernel_rfl) rfl #[.slice A2 l2.length c2] rfl (by (try simp only [List.map_toArray,List.map_cons,List.map_nil]);first | done | rfl | (simp only [List.length_drop,List.length_take];rfl)) ?_;(with_reducible refine (numnahlaw07_fracs.calls _ _ l2 b9 _ ?side1 ?side2 A5.out).mono ?_);(case side1=>exact cB q3 HB);(case side2=>exact q4.out);rintro e t6 ⟨h9,rfl,e5,hb⟩;refine ⟨_,rfl,?_⟩;have b5:=A_ (Kd.R_lower e5 (below_size (bl HB)));replace b0:=rB b0 hb;replace HB:=bB HB hb;(try clear hb);(try clear e5);obtain ⟨i7,h1,q7⟩:=Kd.R_slice b0.out;subst q7;obtain ⟨m9,i8,q8⟩:=Kd.R_slice b5.out;subst q8) | ((with_reducible refine gate_callee (f:=54) rfl ?_);refine goesL_ (some 22) rfl rfl Try.func54 (by kernel_rfl) rfl #[.slice i7 b7.length h1,.int .i64 a0,.slice m9 b9.length i8] rfl (by (try simp only [List.map_toArray,List.map_cons,List.map_nil]);first | done | rfl | (simp only [List.length_drop,List.length_take];rfl)) ?_;(with_reducible refine (shares_Agrees.calls k _ _ b7 a0 _ _ b9 b3 b4 false c0 _ ?side1 ?side2 ?side3 ?side4 A6.out).mono ?_);(case side1=>repeat (first | exact (Kd.R_reads' b0.out).2.2 | (with_reducible refine Kd.C_alloc ?_ _) | (with_reducible refine Kd.C_drewN ?_ _) | (with_reducible refine Kd.C_drew ?_)));(case side2=>exact (Kd.R_reads' b0.out).2.1);(case side3=>repeat (first | exact (Kd.R_reads' b5.out).2.2 | (with_reducible refine Kd.C_alloc ?_ _) | (with_reducible refine Kd.C_drewN ?_ _) | (with_reducible refine Kd.C_drew ?_)));(case side4=>exact (Kd.R_reads' b5.out).2.1);rintro e t7 ⟨rfl,hb⟩;refine ⟨_,rfl,?_⟩;replace b0:=rB b0 hb;replace b5:=rB b5 hb;replace HB:=bB HB hb;(try clear hb)) | ((with_reducible refine gate_dst (N:=9) rfl ?_);refine box_event ?hg (N:=9) ?hd (cs:=#[.int .i64 0,.int .i64 0]) (t:=51) ?hr ?_;(case hd=>rfl);(case hg=>rfl);(case hr=>first | (go_simp;done) | (go_simp;rfl));intro b6 hg s0 hbox hb;have b2:=A_ hbox;have e3:=gw hg HB;have e4:=e3;replace b0:=rB b0 hb;replace b5:=rB b5 hb;replace HB:=bB HB hb;clear hb hbox hg;have o0:s0.cell? ⟨b6,0,none⟩ = some (.int .i64 0):=cz b2 0;have o1:s0.cell? ⟨b6,1,none⟩ = some (.int .i64 0):=cz b2 1;have o2:=blk_frozen b2.out 0;have o3:=blk_frozen b2.out 1) | ((with_reducible refine gate_callee (f:=21) rfl ?_);refine goesL_ (some 28) rfl rfl Try.func21 (by kernel_rfl) rfl #[.slice i7 b7.length h1,.int .i64 a0] rfl (by (try simp only [List.map_toArray,List.map_cons,List.map_nil]);first | done | rfl | (simp only [List.length_drop,List.length_take];rfl)) ?_;(with_reducible refine (numnahref07_Claims.calls k _ _ b7 a0 true _ ?side1 ?side2 A7.out).mono ?_);(case side1=>refine (Kd.R_reads' (e:=3) (base:=w.heap.size) (ok:=fun k_=>True) (n:=b7.length) (c:=h1) ?_).2.2;exact (by (with_reducible repeat (first | apply Kd.R_alloc | apply Kd.R_drewN | apply Kd.R_drew));exact (Kd.R_mono (Kd.R_far (p:=⟨b6,1,none⟩) (Kd.R_far (p:=⟨b6,0,none⟩) (Kd.R_types b0.out b2.out (by decide)) (fun _ hk=>hk.2) (.int .i64 b3)) (fun _ hk=>hk.2) (.int .i64 b4)) (fun _ h_=>h_.1))));(case side2=>exact (Kd.R_reads' b0.out).2.1);rintro e w' ⟨rfl,⟨nd,rfl⟩⟩;refine ⟨_,rfl,?_⟩) | ((with_reducible refine gate_callee (f:=55) rfl ?_);refine goesL_ (some 47) rfl rfl Try.func55 (by kernel_rfl) rfl #[.slice i7 b7.length h1,.int .i64 a0,.slice m9 b9.length i8] rfl (by (try simp only [List.map_toArray,List.map_cons,List.map_nil]);first | done | rfl | (simp only [List.length_drop,List.length_take];rfl)) ?_;(with_reducible refine (numnahref07_Divides.calls k _ _ b7 a0 _ _ b9 false _ ?side1 ?side2 ?side3 ?side4 A9.out).mono ?_);(case side1=>refine (Kd.R_reads' (e:=3) (base:=w.heap.size) (ok:=fun k_=>True) (n:=b7.length) (c:=h1) ?_).2.2;exact (by (with_reducible repeat (first | apply Kd.R_alloc | apply Kd.R_drewN | apply Kd.R_drew));exact (Kd.R_mono (Kd.R_far (p:=⟨b6,1,none⟩) (Kd.R_far (p:=⟨b6,0,none⟩) (Kd.R_types b0.out b2.out (by decide)) (fun _ hk=>hk.2) (.int .i64 b3)) (fun _ hk=>hk.2) (.int .i64 b4)) (fun _ h_=>h_.1))));(case side2=>exact (Kd.R_reads' b0.out).2.1);(case side3=>refine (Kd.R_reads' (e:=23) (base:=w.heap.size) (ok:=fun k_=>True) (n:=b9.length) (c:=i8) ?_).2.2;exact (by (with_reducible repeat (first | apply Kd.R_alloc | apply Kd.R_drewN | apply Kd.R_drew));exact (Kd.R_mono (Kd.R_far (p:=⟨b6,1,none⟩) (Kd.R_far (p:=⟨b6,0,none⟩) (Kd.R_types b5.out b2.out (by decide)) (fun _ hk=>hk.2) (.int .i64 b3)) (fun _ hk=>hk.2) (.int .i64 b4)) (fun _ h_=>h_.1))));(case side4=>exact (Kd.R_reads' b5.out).2.1);rintro e s1 ⟨rfl,hb⟩;refine ⟨_,rfl,?_⟩;replace b0:=A_ (Kd.R_below (by (with_reducible repeat (first | apply Kd.R_alloc | apply Kd.R_drewN | apply Kd.R_drew));exact (Kd.R_mono (Kd.R_far (p:=⟨b6,1,none⟩) (Kd.R_far (p:=⟨b6,0,none⟩) (Kd.R_types b0.out b2.out (by decide)) (fun _ hk=>hk.2) (.int .i64 b3)) (fun _ hk=>hk.2) (.int .i64 b4)) (fun _ h_=>h_.1))) hb);replace b5:=A_ (Kd.R_below (by (with_reducible repeat (first | apply Kd.R_alloc | apply Kd.R_drewN | apply Kd.R_drew));exact (Kd.R_mono (Kd.R_far (p:=⟨b6,1,none⟩) (Kd.R_far (p:=⟨b6,0,none⟩) (Kd.R_types b5.out b2.out (by decide)) (fun _ hk=>hk.2) (.int .i64 b3)) (fun _ hk=>hk.2) (.int .i64 b4)) (fun _ h_=>h_.1))) hb);replace b2:=A_ (blk_below (g:=b6) (o:=.cells #[.int .i64 b3,.int .i64 b4] 51 (0,0)) (by (with_reducible repeat (first | refine blk_drewN ?_ _ | refine blk_drew ?_ | refine blk_alloc ?_ _));refine blk_put (cs:=#[.int .i64 b3,.int .i64 0]) ?_ 1 _ rfl;(with_reducible repeat (first | refine blk_drewN ?_ _ | refine blk_drew ?_ | refine blk_alloc ?_ _));refine blk_put (cs:=#[.int .i64 0,.int .i64 0]) ?_ 0 _ rfl;(with_reducible repeat (first | refine blk_drewN ?_ _ | refine blk_drew ?_ | refine blk_alloc ?_ _));exact b2.out) hb);replace HB:=bB HB hb;(try clear hb);have o4:s1.cell? ⟨b6,0,none⟩ = some (.int .i64 b3):=cz b2 0;have o5:s1.cell? ⟨b6,1,none⟩ = some (.int .i64 b4):=cz b2 1;have o6:=blk_frozen b2.out 0;have o7:=blk_frozen b2.out 1) | (go_at_call 22;(with_reducible refine (numnahlaw07_awake.calls k  d2 _ t2.out).mono ?_);rintro e t8 ⟨rfl,hb⟩;replace b0:=rB b0 hb;replace b5:=rB b5 hb;replace b2:=kB b2 hb;replace HB:=bB HB hb;(try clear hb)))
  go_ret
  exact ⟨by first | rfl | (simp [errW_none,errW_some] <;> rfl) | (simp [*,errW_none,errW_some] <;> rfl),by repeat (first | (with_reducible first | exact HB.out | apply below_alloc | apply pw_below_drewN | apply below_drew1 | refine below_set ?_ e4.out) | exact HB.out)⟩
 subst c10
 have H1:((numnahref07_Agrees.f k b7 b9).bind fun b8=>(if (b3 == b8.1 && (b4 == b8.2.1)) = true then (if (d0 == b8.2.2) = true then (if c0 = 0 then ((numnahlaw07_awake.f k).bind fun d1=>(some d1)) else (some false)) else (some false)) else (some false))) = some r:=by rw [if_pos rfl] at H;exact H
 clear H
 have H:=H1
 clear H1
 replace H:=Option.bind_eq_some_iff.mp H
 obtain ⟨⟨d5,d6,e0⟩,A110,H⟩:=H
 replace H:(if (b3 == d5 && (b4 == d6)) = true then (if (d0 == e0) = true then (if c0 = 0 then ((numnahlaw07_awake.f k).bind fun d1=>(some d1)) else (some false)) else (some false)) else (some false)) = some r:=H
 have t3:=A_ A110
 clear A110
 by_cases h2:(b3 == d5 && (b4 == d6)) = true
 case neg =>
  rw [if_neg h2] at H
  have n0:(b3 == d5 && (b4 == d6)) = false:=by simpa using h2
  (try (have n1:decide (b3 = d5 && (b4 == d6)) = false:=by simpa using h2))
  (try (have n2:(b3 == d5 && (b4 == d6)) = false:=by simpa using h2))
  (try (have s2:¬ (b3 = d5 && (b4 == d6)):=by simpa using h2))
  clear h2
  exact absurd ((Option.some.inj H).trans HRT.out) (by decide)
 rw [if_pos h2] at H
 have n0:(b3 == d5 && (b4 == d6)) = true:=h2
 (try (have n1:decide (b3 = d5 && (b4 == d6)) = true:=by simpa using h2))
 (try (have n2:(b3 == d5 && (b4 == d6)) = true:=by simpa using h2))
 clear h2
 by_cases h3:(d0 == e0) = true
 case neg =>
  rw [if_neg h3] at H
  have n3:(d0 == e0) = false:=by simpa using h3
  (try (have n4:decide (d0 = e0) = false:=by simpa using h3))
  (try (have n5:(d0 == e0) = false:=by simpa using h3))
  (try (have s3:¬ (d0 = e0):=by simpa using h3))
  clear h3
  exact absurd ((Option.some.inj H).trans HRT.out) (by decide)
 rw [if_pos h3] at H
 have n3:(d0 == e0) = true:=h3
 (try (have n4:decide (d0 = e0) = true:=by simpa using h3))
 (try (have n5:(d0 == e0) = true:=by simpa using h3))
 clear h3
 by_cases i9:c0 = 0
 case neg =>
  rw [if_neg i9] at H
  have n6:(c0 == 0) = false:=beq_eq_false_iff_ne.mpr i9
  have n7:(c0 != 0) = true:=bne_iff_ne.mpr i9
  exact absurd ((Option.some.inj H).trans HRT.out) (by decide)
 rw [if_pos i9] at H
 have n6:(c0 == 0) = true:=beq_iff_eq.mpr i9
 have n7:(c0 != 0) = false:=bne_eq_false_iff_eq.mpr i9
 clear i9
 replace H:=Option.bind_eq_some_iff.mp H
 obtain ⟨d1,n8,H⟩:=H
 replace H:(some d1) = some r:=H
 have t4:=A_ n8
 clear n8
 obtain rfl:=Option.some.inj H
 go_enter Try.func15,Try.ntmps15
 go_wp2_with (first | ((with_reducible refine gate_callee (f:=35) rfl ?_);refine goesL_ (some 15) rfl rfl Try.func35 (by kernel_rfl) rfl #[.slice A1 l1.length c1] rfl (by (try simp only [List.map_toArray,List.map_cons,List.map_nil]);first | done | rfl | (simp only [List.length_drop,List.length_take];rfl)) ?_;(with_reducible refine (numnahlaw07_list.calls _ _ l1 b7 _ ?side1 ?side2 A4.out).mono ?_);(case side1=>repeat (first | exact q1.out | (with_reducible refine Kd.C_alloc ?_ _) | (with_reducible refine Kd.C_drewN ?_ _) | (with_reducible refine Kd.C_drew ?_)));(case side2=>exact q2.out);rintro e t9 ⟨h8,rfl,e5,hb⟩;refine ⟨_,rfl,?_⟩;have b0:=A_ (Kd.R_lower e5 (below_size (bl HB)));replace HB:=bB HB hb;(try clear hb);(try clear e5)) | ((with_reducible refine gate_callee (f:=36) rfl ?_);refine goesL_ (some 17) rfl rfl Try.func36 (by kernel_rfl) rfl #[.slice A2 l2.length c2] rfl (by (try simp only [List.map_toArray,List.map_cons,List.map_nil]);first | done | rfl | (simp only [List.length_drop,List.length_take];rfl)) ?_;(with_reducible refine (numnahlaw07_fracs.calls _ _ l2 b9 _ ?side1 ?side2 A5.out).mono ?_);(case side1=>exact cB q3 HB);(case side2=>exact q4.out);rintro e x0 ⟨h9,rfl,e5,hb⟩;refine ⟨_,rfl,?_⟩;have b5:=A_ (Kd.R_lower e5 (below_size (bl HB)));replace b0:=rB b0 hb;replace HB:=bB HB hb;(try clear hb);(try clear e5);obtain ⟨h5,e8,q9⟩:=Kd.R_slice b0.out;subst q9;obtain ⟨j5,h6,r0⟩:=Kd.R_slice b5.out;subst r0) | ((with_reducible refine gate_callee (f:=54) rfl ?_);refine goesL_ (some 22) rfl rfl Try.func54 (by kernel_rfl) rfl #[.slice h5 b7.length e8,.int .i64 a0,.slice j5 b9.length h6] rfl (by (try simp only [List.map_toArray,List.map_cons,List.map_nil]);first | done | rfl | (simp only [List.length_drop,List.length_take];rfl)) ?_;(with_reducible refine (shares_Agrees.calls k _ _ b7 a0 _ _ b9 b3 b4 d0 c0 _ ?side1 ?side2 ?side3 ?side4 A6.out).mono ?_);(case side1=>repeat (first | exact (Kd.R_reads' b0.out).2.2 | (with_reducible refine Kd.C_alloc ?_ _) | (with_reducible refine Kd.C_drewN ?_ _) | (with_reducible refine Kd.C_drew ?_)));(case side2=>exact (Kd.R_reads' b0.out).2.1);(case side3=>repeat (first | exact (Kd.R_reads' b5.out).2.2 | (with_reducible refine Kd.C_alloc ?_ _) | (with_reducible refine Kd.C_drewN ?_ _) | (with_reducible refine Kd.C_drew ?_)));(case side4=>exact (Kd.R_reads' b5.out).2.1);rintro e x1 ⟨rfl,hb⟩;refine ⟨_,rfl,?_⟩;replace b0:=rB b0 hb;replace b5:=rB b5 hb;replace HB:=bB HB hb;(try clear hb)) | ((with_reducible refine gate_dst (N:=9) rfl ?_);refine box_event ?hg (N:=9) ?hd (cs:=#[.int .i64 0,.int .i64 0]) (t:=51) ?hr ?_;(case hd=>rfl);(case hg=>rfl);(case hr=>first | (go_simp;done) | (go_simp;rfl));intro b6 hg s4 hbox hb;have b2:=A_ hbox;have e3:=gw hg HB;have e4:=e3;replace b0:=rB b0 hb;replace b5:=rB b5 hb;replace HB:=bB HB hb;clear hb hbox hg;have o8:s4.cell? ⟨b6,0,none⟩ = some (.int .i64 0):=cz b2 0;have o9:s4.cell? ⟨b6,1,none⟩ = some (.int .i64 0):=cz b2 1;have p0:=blk_frozen b2.out 0;have p1:=blk_frozen b2.out 1) | ((with_reducible refine gate_callee (f:=21) rfl ?_);refine goesL_ (some 28) rfl rfl Try.func21 (by kernel_rfl) rfl #[.slice h5 b7.length e8,.int .i64 a0] rfl (by (try simp only [List.map_toArray,List.map_cons,List.map_nil]);first | done | rfl | (simp only [List.length_drop,List.length_take];rfl)) ?_;(with_reducible refine (numnahref07_Claims.calls k _ _ b7 a0 true _ ?side1 ?side2 A7.out).mono ?_);(case side1=>refine (Kd.R_reads' (e:=3) (base:=w.heap.size) (ok:=fun k_=>True) (n:=b7.length) (c:=e8) ?_).2.2;exact (by (with_reducible repeat (first | apply Kd.R_alloc | apply Kd.R_drewN | apply Kd.R_drew));exact (Kd.R_mono (Kd.R_far (p:=⟨b6,1,none⟩) (Kd.R_far (p:=⟨b6,0,none⟩) (Kd.R_types b0.out b2.out (by decide)) (fun _ hk=>hk.2) (.int .i64 b3)) (fun _ hk=>hk.2) (.int .i64 b4)) (fun _ h_=>h_.1))));(case side2=>exact (Kd.R_reads' b0.out).2.1);rintro e w' ⟨rfl,⟨nd,rfl⟩⟩;refine ⟨_,rfl,?_⟩) | ((with_reducible refine gate_callee (f:=55) rfl ?_);refine goesL_ (some 47) rfl rfl Try.func55 (by kernel_rfl) rfl #[.slice h5 b7.length e8,.int .i64 a0,.slice j5 b9.length h6] rfl (by (try simp only [List.map_toArray,List.map_cons,List.map_nil]);first | done | rfl | (simp only [List.length_drop,List.length_take];rfl)) ?_;(with_reducible refine (numnahref07_Divides.calls k _ _ b7 a0 _ _ b9 true _ ?side1 ?side2 ?side3 ?side4 A9.out).mono ?_);(case side1=>refine (Kd.R_reads' (e:=3) (base:=w.heap.size) (ok:=fun k_=>True) (n:=b7.length) (c:=e8) ?_).2.2;exact (by (with_reducible repeat (first | apply Kd.R_alloc | apply Kd.R_drewN | apply Kd.R_drew));exact (Kd.R_mono (Kd.R_far (p:=⟨b6,1,none⟩) (Kd.R_far (p:=⟨b6,0,none⟩) (Kd.R_types b0.out b2.out (by decide)) (fun _ hk=>hk.2) (.int .i64 b3)) (fun _ hk=>hk.2) (.int .i64 b4)) (fun _ h_=>h_.1))));(case side2=>exact (Kd.R_reads' b0.out).2.1);(case side3=>refine (Kd.R_reads' (e:=23) (base:=w.heap.size) (ok:=fun k_=>True) (n:=b9.length) (c:=h6) ?_).2.2;exact (by (with_reducible repeat (first | apply Kd.R_alloc | apply Kd.R_drewN | apply Kd.R_drew));exact (Kd.R_mono (Kd.R_far (p:=⟨b6,1,none⟩) (Kd.R_far (p:=⟨b6,0,none⟩) (Kd.R_types b5.out b2.out (by decide)) (fun _ hk=>hk.2) (.int .i64 b3)) (fun _ hk=>hk.2) (.int .i64 b4)) (fun _ h_=>h_.1))));(case side4=>exact (Kd.R_reads' b5.out).2.1);rintro e x2 ⟨rfl,hb⟩;refine ⟨_,rfl,?_⟩;replace b0:=A_ (Kd.R_below (by (with_reducible repeat (first | apply Kd.R_alloc | apply Kd.R_drewN | apply Kd.R_drew));exact (Kd.R_mono (Kd.R_far (p:=⟨b6,1,none⟩) (Kd.R_far (p:=⟨b6,0,none⟩) (Kd.R_types b0.out b2.out (by decide)) (fun _ hk=>hk.2) (.int .i64 b3)) (fun _ hk=>hk.2) (.int .i64 b4)) (fun _ h_=>h_.1))) hb);replace b5:=A_ (Kd.R_below (by (with_reducible repeat (first | apply Kd.R_alloc | apply Kd.R_drewN | apply Kd.R_drew));exact (Kd.R_mono (Kd.R_far (p:=⟨b6,1,none⟩) (Kd.R_far (p:=⟨b6,0,none⟩) (Kd.R_types b5.out b2.out (by decide)) (fun _ hk=>hk.2) (.int .i64 b3)) (fun _ hk=>hk.2) (.int .i64 b4)) (fun _ h_=>h_.1))) hb);replace b2:=A_ (blk_below (g:=b6) (o:=.cells #[.int .i64 b3,.int .i64 b4] 51 (0,0)) (by (with_reducible repeat (first | refine blk_drewN ?_ _ | refine blk_drew ?_ | refine blk_alloc ?_ _));refine blk_put (cs:=#[.int .i64 b3,.int .i64 0]) ?_ 1 _ rfl;(with_reducible repeat (first | refine blk_drewN ?_ _ | refine blk_drew ?_ | refine blk_alloc ?_ _));refine blk_put (cs:=#[.int .i64 0,.int .i64 0]) ?_ 0 _ rfl;(with_reducible repeat (first | refine blk_drewN ?_ _ | refine blk_drew ?_ | refine blk_alloc ?_ _));exact b2.out) hb);replace HB:=bB HB hb;(try clear hb)) | ((with_reducible refine gate_callee (f:=56) rfl ?_);refine goesL_ (some 66) rfl rfl Try.func56 (by kernel_rfl) rfl #[.slice h5 b7.length e8,.slice j5 b9.length h6] rfl (by (try simp only [List.map_toArray,List.map_cons,List.map_nil]);first | done | rfl | (simp only [List.length_drop,List.length_take];rfl)) ?_;(with_reducible refine (numnahref07_Agrees.calls k _ _ b7 _ _ b9 d5 d6 e0 _ ?side1 ?side2 ?side3 ?side4 t3.out).mono ?_);(case side1=>repeat (first | exact (Kd.R_reads' b0.out).2.2 | (with_reducible refine Kd.C_alloc ?_ _) | (with_reducible refine Kd.C_drewN ?_ _) | (with_reducible refine Kd.C_drew ?_)));(case side2=>exact (Kd.R_reads' b0.out).2.1);(case side3=>repeat (first | exact (Kd.R_reads' b5.out).2.2 | (with_reducible refine Kd.C_alloc ?_ _) | (with_reducible refine Kd.C_drewN ?_ _) | (with_reducible refine Kd.C_drew ?_)));(case side4=>exact (Kd.R_reads' b5.out).2.1);rintro e x3 ⟨rfl,hb⟩;refine ⟨_,rfl,?_⟩;replace b0:=rB b0 hb;replace b5:=rB b5 hb;replace b2:=kB b2 hb;replace HB:=bB HB hb;(try clear hb)) | ((with_reducible refine gate_dst (N:=12) rfl ?_);refine box_event ?hg (N:=12) ?hd (cs:=#[.int .i64 0,.int .i64 0]) (t:=51) ?hr ?_;(case hd=>rfl);(case hg=>rfl);(case hr=>first | (go_simp;done) | (go_simp;rfl));intro e1 hg p2 hbox hb;have d8:=A_ hbox;have j7:=gw hg HB;have j8:=j7;have d9:=nl hg b2;have e6:=ng hg b2;replace b0:=rB b0 hb;replace b5:=rB b5 hb;replace b2:=kB b2 hb;replace HB:=bB HB hb;clear hb hbox hg;have s5:=e6.out;have s6:=d9.out;have p3:p2.cell? ⟨e1,0,none⟩ = some (.int .i64 0):=cz d8 0;have p4:p2.cell? ⟨e1,1,none⟩ = some (.int .i64 0):=cz d8 1;have p5:=blk_frozen d8.out 0;have p6:=blk_frozen d8.out 1;have p7:p2.cell? ⟨b6,0,none⟩ = some (.int .i64 b3):=cz b2 0;have p8:p2.cell? ⟨b6,1,none⟩ = some (.int .i64 b4):=cz b2 1;have p9:=blk_frozen b2.out 0;have q0:=blk_frozen b2.out 1) | (go_at_call 22;(with_reducible refine (numnahlaw07_awake.calls k  d1 _ t4.out).mono ?_);rintro e x4 ⟨rfl,hb⟩;replace b0:=A_ (Kd.R_below (by (with_reducible repeat (first | apply Kd.R_alloc | apply Kd.R_drewN | apply Kd.R_drew));exact (Kd.R_mono (Kd.R_far (p:=⟨e1,1,none⟩) (Kd.R_far (p:=⟨e1,0,none⟩) (Kd.R_types b0.out d8.out (by decide)) (fun _ hk=>hk.2) (.int .i64 d5)) (fun _ hk=>hk.2) (.int .i64 d6)) (fun _ h_=>h_.1))) hb);replace b5:=A_ (Kd.R_below (by (with_reducible repeat (first | apply Kd.R_alloc | apply Kd.R_drewN | apply Kd.R_drew));exact (Kd.R_mono (Kd.R_far (p:=⟨e1,1,none⟩) (Kd.R_far (p:=⟨e1,0,none⟩) (Kd.R_types b5.out d8.out (by decide)) (fun _ hk=>hk.2) (.int .i64 d5)) (fun _ hk=>hk.2) (.int .i64 d6)) (fun _ h_=>h_.1))) hb);replace b2:=A_ (blk_below (g:=b6) (o:=.cells #[.int .i64 b3,.int .i64 b4] 51 (0,0)) (by (with_reducible repeat (first | refine blk_drewN ?_ _ | refine blk_drew ?_ | refine blk_alloc ?_ _));refine blk_far ?_ d9.out _;(with_reducible repeat (first | refine blk_drewN ?_ _ | refine blk_drew ?_ | refine blk_alloc ?_ _));refine blk_far ?_ d9.out _;(with_reducible repeat (first | refine blk_drewN ?_ _ | refine blk_drew ?_ | refine blk_alloc ?_ _));exact b2.out) hb);replace d8:=A_ (blk_below (g:=e1) (o:=.cells #[.int .i64 d5,.int .i64 d6] 51 (0,0)) (by (with_reducible repeat (first | refine blk_drewN ?_ _ | refine blk_drew ?_ | refine blk_alloc ?_ _));refine blk_put (cs:=#[.int .i64 d5,.int .i64 0]) ?_ 1 _ rfl;(with_reducible repeat (first | refine blk_drewN ?_ _ | refine blk_drew ?_ | refine blk_alloc ?_ _));refine blk_put (cs:=#[.int .i64 0,.int .i64 0]) ?_ 0 _ rfl;(with_reducible repeat (first | refine blk_drewN ?_ _ | refine blk_drew ?_ | refine blk_alloc ?_ _));exact d8.out) hb);replace HB:=bB HB hb;(try clear hb)))
 go_ret
 exact ⟨by first | rfl | (simp [errW_none,errW_some] <;> rfl) | (simp [*,errW_none,errW_some] <;> rfl),by repeat (first | (with_reducible first | exact HB.out | apply below_alloc | apply pw_below_drewN | apply below_drew1 | refine below_set ?_ e4.out | refine below_set ?_ j8.out) | exact HB.out)⟩
end Go.Proofs.Ytjohcjfmlhihbaa.G
set_option linter.unusedSectionVars false
namespace Go.Proofs.Ytjohcjfmlhihbaa.P
open Go Go.RowKit Go.Proofs.Ytjohcjfmlhihbaa.G
open Go.Proofs.YtjohcjfmlhihbaaW.PrintWords Go.Proofs.YtjohcjfmlhihbaaW.PrintMore
theorem agrees_pure (E:Int) (l0:List Int) (w0:List S23) (hin0:∀ a ∈ w0,inS a):∃ k,numnahlaw07_SharesAgrees.f k E l0 w0 = some true:=by
 refine Ev.rounds ?_
 unfold numnahlaw07_SharesAgrees.f
 simp only [list_f,fracs_f,Option.bind_some]
 obtain ⟨l,hl⟩:∃ l,l0.take 11 = l:=⟨_,rfl⟩
 obtain ⟨w,hw⟩:∃ w,w0.take 11 = w:=⟨_,rfl⟩
 have hll:l.length ≤ 11:=by rw [← hl,List.length_take];omega
 have hin:∀ a ∈ w,inS a:=fun a ha=>hin0 a (by rw [← hw] at ha;exact List.mem_of_mem_take ha)
 rw [hl,hw]
 have hf:H.fitL l:=by unfold H.fitL;omega
 have hrc:=ev_rclaims l E
 cases hc:clB l E with
 | false =>
  rw [hc] at hrc
  refine Ev.bind (ev_Agrees_no hf hc w) (Ev.bind hrc ?_)
  simp only [Bool.false_eq_true,if_false,beq_self_eq_true,Bool.and_self,if_true]
  exact Ev.bind ev_awake (Ev.now _)
 | true =>
  rw [hc] at hrc
  have hcl:=of_decide_eq_true hc
  obtain ⟨b,hb,hdv⟩:=ev_divides hcl.1 hin E
  cases b with
  | false =>
   refine Ev.bind (ev_Agrees_bad hcl.1 hcl.2.1 hcl.2.2 hin (fun hx=>by have:=hb.2 hx;cases this)) (Ev.bind hrc ?_)
   simp only [if_true]
   refine Ev.bind hdv ?_
   simp only [Bool.false_eq_true,if_false,beq_self_eq_true,Bool.and_self,if_true]
   exact Ev.bind ev_awake (Ev.now _)
  | true =>
   obtain ⟨x,rfl,hd⟩:=hb.1 rfl
   obtain ⟨r,_,e1,e2⟩:=ev_Agrees hcl.1 hcl.2.1 hcl.2.2 hd
   refine Ev.bind e1 (Ev.bind hrc ?_)
   simp only [if_true]
   refine Ev.bind hdv ?_
   simp only [if_true]
   refine Ev.bind e2 ?_
   simp only [beq_self_eq_true,Bool.and_self,if_true]
   exact Ev.bind ev_awake (Ev.now _)
end Go.Proofs.Ytjohcjfmlhihbaa.P
